/- The texts LoP, one behind the other. -/
import Derived.Test.YtepoiefadjoabaaGreatDoorH37
import Derived.Test.YtepoiefadjoabaaGreatDoorH36
import Derived.Test.YtepoiefadjoabaaGreatDoorH35
namespace Go.Proofs.YtepoiefadjoabaaGreatDoor
open Go Go.RowKit Go.Shelf
attribute [local go_sem] quietE quietE2
theorem head4 (n : Nat) (h : n < 4294967296) : ∃ b0 b1 b2 b3 : Nat, leB 4 n = [UInt8.ofNat b0, UInt8.ofNat b1, UInt8.ofNat b2, UInt8.ofNat b3] ∧ b0 < 256 ∧ b1 < 256 ∧ b2 < 256 ∧ b3 < 256 ∧ n = b0 + b1 * 256 + b2 * 65536 + b3 * 16777216 := by
 refine ⟨n % 256,n / 256 % 256,n / 65536 % 256,n / 16777216 % 256, ?_,by omega,by omega,by omega,by omega,by omega⟩
 unfold leB
 simp [List.range,List.range.loop,ofNat_mod]
def restP (Ps : List (List UInt8)) (k : Nat) : List UInt8 := (Ps.drop k).flatMap part11
theorem restP_at {Ps : List (List UInt8)} {k : Nat} {b : List UInt8} (h : Ps[k]? = some b) : restP Ps k = leB 4 b.length ++ (b ++ restP Ps (k + 1)) := by
 unfold restP
 have hk:=(List.getElem?_eq_some_iff.1 h).1
 rw [List.drop_eq_getElem_cons hk,(List.getElem?_eq_some_iff.1 h).2,List.flatMap_cons,part11,List.append_assoc]
theorem parts_le : ∀ (l : List (List UInt8)), (∀ b ∈ l, b.length ≤ 1000000000) → (l.flatMap part11).length ≤ l.length * 1000000004
 | [],_ => by simp
 | b :: l,h => by
  have h1:=parts_le l fun x hx => h x (List.mem_cons_of_mem _ hx)
  have h2:=h b List.mem_cons_self
  rw [List.flatMap_cons,List.length_append,part11,List.length_append,leB_len,List.length_cons]
  omega
theorem EB.set1 {B : Nat} {w : World} {p : Addr} (h : B ≤ p.block) (v : Value) : EB B w (w.setCell p v) := ⟨Below.setCell (Below.refl _ _) h v, by simp⟩
structure SlAt (w : World) (v : Value) (b : List UInt8) : Prop where
 out : ∃ a c,v = .slice a b.length c∧b.length ≤ c∧(a = none → c = 0)∧AtCells w a 1 (b.map byteC)
theorem SlAt.grows {w w' : World} {v : Value} {b : List UInt8} (h : SlAt w v b) (hg : Grows w w') : SlAt w' v b := by
 obtain ⟨a,c,h1,h2,h3,h4⟩:=h.out
 exact ⟨a,c,h1,h2,h3,h4.grows hg⟩
set_option maxHeartbeats 1000000 in
set_option maxRecDepth 100000 in
theorem lparts_any (P0 P1 P2 P3 : List UInt8) (a : Option Addr) (c : Nat) (w : World) (h0 : P0.length ≤ 1000000000) (h1 : P1.length ≤ 1000000000) (h2 : P2.length ≤ 1000000000) (h3 : P3.length ≤ 1000000000)
  (hc : (restP [P0,P1,P2,P3] 0).length ≤ c) (hat : AtCells w a 1 ((restP [P0,P1,P2,P3] 0).map byteC)) :
  Calls Tryz.prog 112 #[.slice a (restP [P0,P1,P2,P3] 0).length c] w fun e w' => ∃ v0 v1 v2 v3,e = .returned (.tuple #[.agg #[v0,v1,v2,v3],.bool true])∧SlAt w' v0 P0∧SlAt w' v1 P1∧SlAt w' v2 P2∧SlAt w' v3 P3∧Grows w w':=by
 have hlen : ∀ (k : Nat) (b : List UInt8),[P0,P1,P2,P3][k]? = some b → b.length ≤ 1000000000:=fun k b hb => by
  match k,hb with
  | 0,hb =>
   obtain rfl : P0 = b:=by simpa using hb
   exact h0
  | 1,hb =>
   obtain rfl : P1 = b:=by simpa using hb
   exact h1
  | 2,hb =>
   obtain rfl : P2 = b:=by simpa using hb
   exact h2
  | 3,hb =>
   obtain rfl : P3 = b:=by simpa using hb
   exact h3
  | k + 4,hb => simp at hb
 have hne : restP [P0,P1,P2,P3] 0 ≠ []:=by
  rw [restP_at (k:=0) rfl]
  intro e
  have:=congrArg List.length e
  rw [List.length_append,leB_len] at this
  simp at this
 obtain ⟨ba,bo,rfl,_⟩:=at1 (f:=fun x : UInt8 => Value.int .u8 x.toNat) hat hne
 have START : Hid (SlAt w (.slice (some ⟨ba,bo,none⟩) (restP [P0,P1,P2,P3] 0).length c) (restP [P0,P1,P2,P3] 0)):=⟨_,c,rfl,hc,(fun h => by cases h),hat⟩
 have HLEN:=Lib.hid hlen
 obtain ⟨Ps,hPs⟩ : ∃ Ps,Ps = [P0,P1,P2,P3]:=⟨_,rfl⟩
 rw [← hPs] at START HLEN hc ⊢
 have HPS:=Lib.hid hPs
 have HL4 : Hid (Ps.length = 4):=by show _ = _;rw [hPs];rfl
 obtain ⟨pb,hpb⟩ : ∃ q,q = w.heap.size:=⟨_,rfl⟩
 obtain ⟨W1,hW1⟩ : ∃ W,W = w.alloc (.cells #[.slice none 0 0,.slice none 0 0,.slice none 0 0,.slice none 0 0] 176):=⟨_,rfl⟩
 have hg1 : Grows w W1:=by rw [hW1];exact Grows.alloc _ _
 have hrow : Hid (∃ f,RowF W1 pb 4 f):=by
  have h:=box_rowF (m:=4) (Grows.refl (w.alloc (.cells #[.slice none 0 0,.slice none 0 0,.slice none 0 0,.slice none 0 0] 176))) rfl
  rw [← hW1,← hpb] at h
  exact ⟨_,h⟩
 have HPB:=Lib.hid hpb
 clear hat hlen h0 h1 h2 h3 hPs hne hc
 go_enter Tryz.func112,Tryz.ntmps112
 go_wp2_with fail
 rw [← hW1,← hpb]
 clear hW1 hpb
 go_loopw [0,6] (fun vb vi wr => ∃ k : Nat,k ≤ 4∧vi = .int .i64 k∧Hid (SlAt w vb (restP Ps k))∧Hid (∃ f,RowF wr pb 4 f∧∀ j b,j < k → Ps[j]? = some b → SlAt w (f j) b)∧Hid (Grows w wr)) (fun _ vi _ => 4 - (intOf vi).toNat)
 case atStart => exact ⟨0,by omega,rfl,START.out,by obtain ⟨f,hf⟩:=hrow.out;exact ⟨f,hf,fun j b h => by omega⟩,hg1⟩
 case round =>
  clear START hrow hg1
  obtain ⟨k,hk,rfl,hS,hR,hG⟩:=hrel
  by_cases hlt : k < 4
  ·have hki : (k : Int) < 4:=by omega
   obtain ⟨b,hb⟩ : ∃ b,Ps[k]? = some b:=⟨_,List.getElem?_eq_getElem (by rw [HL4.out];exact hlt)⟩
   have HB:=Lib.hid hb
   have hbl:=HLEN.out k b hb
   have HRS:=Lib.hid (restP_at hb)
   obtain ⟨a,c',rfl,hc1,hc2,hat⟩:=hS.out
   obtain ⟨R,hRe⟩ : ∃ R,R = restP Ps k:=⟨_,rfl⟩
   obtain ⟨R2,hR2⟩ : ∃ R,R = restP Ps (k + 1):=⟨_,rfl⟩
   obtain ⟨n,hn⟩ : ∃ n,n = b.length:=⟨_,rfl⟩
   rw [← hRe] at hc1 hat HRS ⊢
   rw [← hR2,← hn] at HRS
   rw [← hn] at hbl
   have HR2:=Lib.hid hR2
   have HN:=Lib.hid hn
   obtain ⟨RL,hRL⟩ : ∃ r,r = R.length:=⟨_,rfl⟩
   have hlenR : RL = 4 + (n + R2.length):=by rw [hRL,HRS.out,List.length_append,List.length_append,leB_len,hn]
   have hRLb : RL ≤ 4000000016:=by
    have h:=parts_le (Ps.drop k) fun x hx => by
     obtain ⟨j,hj⟩:=List.mem_iff_getElem?.1 (List.mem_of_mem_drop hx)
     exact HLEN.out j x hj
    rw [List.length_drop,HL4.out] at h
    have h2 : RL = ((Ps.drop k).flatMap part11).length:=by rw [hRL,hRe];rfl
    omega
   have wRL : IntKind.i64.wrap ((RL : Int) - 4) = (RL : Int) - 4:=by have:=wrapB (x:=RL - 4) (by omega);rw [Int.natCast_sub (by omega)] at this;exact this
   obtain ⟨b0,b1,b2,b3,hhead,h0,h1,h2,h3,hnum⟩:=head4 n (by omega)
   obtain ⟨bb,bo',rfl,hcell⟩:=at1 (f:=fun x : UInt8 => Value.int .u8 x.toNat) (hat.grows hG.out) (List.ne_nil_of_length_pos (by omega))
   have tN : ∀ x : Nat,x < 256 → ((UInt8.ofNat x).toNat : Int) = x:=fun x hx => by simp;omega
   have hRh : R = [UInt8.ofNat b0,UInt8.ofNat b1,UInt8.ofNat b2,UInt8.ofNat b3] ++ (b ++ R2):=by rw [HRS.out,hhead]
   have q0 : wr.cell? ⟨bb,bo',none⟩ = some (.int .u8 b0):=by have:=hcell 0 (UInt8.ofNat b0) (by rw [hRh];rfl);rw [tN _ h0] at this;exact this
   have q1 : wr.cell? ⟨bb,bo' + 1,none⟩ = some (.int .u8 b1):=by have:=hcell 1 (UInt8.ofNat b1) (by rw [hRh];rfl);rw [tN _ h1] at this;exact this
   have q2 : wr.cell? ⟨bb,bo' + 2,none⟩ = some (.int .u8 b2):=by have:=hcell 2 (UInt8.ofNat b2) (by rw [hRh];rfl);rw [tN _ h2] at this;exact this
   have q3 : wr.cell? ⟨bb,bo' + 3,none⟩ = some (.int .u8 b3):=by have:=hcell 3 (UInt8.ofNat b3) (by rw [hRh];rfl);rw [tN _ h3] at this;exact this
   have z0 : ∀ x : Ext Grows wr.drew,x.u.cell? ⟨bb,bo',none⟩ = some (.int .u8 b0):=ext_cell ((Grows.drew wr).cell q0)
   have z1 : ∀ x : Ext Grows wr.drew,x.u.cell? ⟨bb,bo' + 1,none⟩ = some (.int .u8 b1):=ext_cell ((Grows.drew wr).cell q1)
   have z2 : ∀ x : Ext Grows wr.drew,x.u.cell? ⟨bb,bo' + 2,none⟩ = some (.int .u8 b2):=ext_cell ((Grows.drew wr).cell q2)
   have z3 : ∀ x : Ext Grows wr.drew,x.u.cell? ⟨bb,bo' + 3,none⟩ = some (.int .u8 b3):=ext_cell ((Grows.drew wr).cell q3)
   have i0 : 0 < RL:=by omega
   have i1 : (1 : Int) < RL:=by omega
   have i2 : (2 : Int) < RL:=by omega
   have i3 : (3 : Int) < RL:=by omega
   have wi : ∀ x : Nat,x < 256 → IntKind.i64.wrap (x : Int) = x:=fun x hx => by simp [IntKind.wrap,IntKind.bits,IntKind.signed];omega
   have w0:=wi b0 h0
   have w1:=wi b1 h1
   have w2:=wi b2 h2
   have w3:=wi b3 h3
   obtain ⟨c1,c2,c3,s1,s2,m1,m2,m3,o1,o2,o3⟩:=four_ex h0 h1 h2 h3 hnum
   have hRL4 : ¬ (RL : Int) < 4:=by omega
   have hge : ¬ (RL : Int) - 4 < n:=by omega
   have HGW:=Lib.hid hG.out
   have HRE:=Lib.hid hRe
   have HRL:=Lib.hid hRL
   have HLR:=Lib.hid hlenR
   have HAT:=Lib.hid hat
   rw [← hRL] at hc1 ⊢
   clear hnum hcell tN hhead hRh q0 q1 q2 q3 wi hb hRe hR2 hn hRL hlenR hat
   go_wp2_with fail
   refine t_region (Grows) [(0,false),(1,false),(2,false),(3,false),(4,false),(5,false),(6,false),(7,false),(8,false),(9,false),(10,false),(11,false),(12,false),(13,false),(14,false),(15,false),(16,false),(17,false),(18,false),(19,false),(20,false),(21,false),(22,false)] Grows.refl Grows.trans (by kernel_rfl) (by kernel_rfl) (fun d _ _ _ _ h => by cases d <;> exact h) ?_
   iterate 23 (refine t_quiet rfl (fun K hK => ?_);go_simp;refine hK _ ?_;clear hK K)
   refine t_end ?_
   clear z0 z1 z2 z3 i0 i1 i2 i3 w0 w1 w2 w3 m1 m2 m3 o1 o2 o3 h0 h1 h2 h3
   obtain ⟨T,hT⟩ : ∃ T,T = 4 + n:=⟨_,rfl⟩
   have hTR : T ≤ RL:=by have:=HLR.out;omega
   have hT4 : 4 ≤ T:=by omega
   have wT : IntKind.i64.wrap (4 + (n : Int)) = T:=by have:=wrapB (x:=T) (by omega);rw [← this];congr 1;omega
   have hTc : (T : Int) ≤ c':=by omega
   have hTRi : (T : Int) ≤ RL:=by omega
   have h4T : (4 : Int) ≤ T:=by omega
   have hRc : (RL : Int) ≤ c':=by omega
   have hTn : T - 4 = n:=by omega
   have hRT : RL - T = R2.length:=by have:=HLR.out;omega
   obtain ⟨a1,hv1,ha1,hn1⟩:=cut_val (l:=4) (h:=T) HAT.out hc2 hT4 (by rw [← HRL.out];exact hTR) (by rw [← HRL.out];exact hc1)
   obtain ⟨a2,hv2,ha2,hn2⟩:=cut_val (l:=T) (h:=RL) HAT.out hc2 hTR (by rw [HRL.out];exact Nat.le_refl _) (by rw [← HRL.out];exact hc1)
   rw [Option.map_some,add_zero_off] at hv1 hv2
   have e1 : (R.take T).drop 4 = b:=by
    rw [HRS.out,List.take_append,leB_len,List.take_of_length_le (by rw [leB_len];omega),show T - 4 = b.length by rw [← HN.out];exact hTn,List.take_left,List.drop_left' (leB_len 4 n)]
   have e2 : (R.take RL).drop T = R2:=by
    rw [HRL.out,List.take_length,HRS.out,← List.append_assoc,List.drop_left' (by rw [List.length_append,leB_len,← HN.out,hT])]
   rw [e1] at ha1
   rw [e2] at ha2
   have HA1:=Lib.hid ha1
   have HA2:=Lib.hid ha2
   obtain ⟨f,hrow,hset⟩:=hR.out
   have hck:=hrow.cell k hlt
   have hfk:=hrow.froz k
   have HROW:=Lib.hid hrow
   have HSET:=Lib.hid hset
   clear e1 e2 ha1 ha2 hT hrow hset
   go_wp2_with fail
   refine t_region (EB w.heap.size) [(0,false),(1,false),(2,false),(3,false),(4,false),(5,false),(6,false),(7,false),(8,false),(9,false),(10,true),(11,false)] (EB.refl w.heap.size) (EB.trans w.heap.size) (by kernel_rfl) (by kernel_rfl) (fun d _ _ _ _ h => by cases d <;> exact h) ?_
   iterate 10 (refine t_quiet rfl (fun K hK => ?_);go_simp;refine hK _ ?_;clear hK K)
   have hfk2 : wr.drew.frozen? ⟨pb,k,none⟩ = false:=hfk
   have hck2 : wr.drew.cell? ⟨pb,k,none⟩ = some (f k):=(Grows.drew wr).cell hck
   refine t_late rfl rfl (fun K hK => ?_)
   go_simp
   refine ⟨EB.set1 (show w.heap.size ≤ pb by have:=HPB.out;omega) _,hK _ _ ?_⟩
   clear hK K
   iterate 1 (refine t_quiet rfl (fun K hK => ?_);go_simp;refine hK _ ?_;clear hK K)
   refine t_end ?_
   go_wp2_with fail
   go_roundw
   case rel =>
    refine ⟨k + 1,hlt,by go_num,⟨a2,c' - T,by rw [← HR2.out],by rw [← HR2.out];omega,hn2,by rw [← HR2.out];exact HA2.out⟩,⟨fun j => if j = k then .slice a1 n (c' - 4) else f j,((HROW.out.set hlt _).grows (Grows.drew _)).grows (Grows.drew _),fun j b' hj hb' => ?_⟩,((hG.out.set (show w.heap.size ≤ pb by have:=HPB.out;omega) _).dr).dr⟩
    by_cases hjk : j = k
    ·subst hjk
     obtain rfl : b = b':=by have:=HB.out;rw [hb'] at this;exact (Option.some.inj this).symm
     simp only [if_true]
     exact ⟨a1,c' - 4,by rw [← HN.out],by rw [← HN.out];omega,hn1,HA1.out⟩
    ·simp only [if_neg hjk]
     exact HSET.out j b' (by omega) hb'
   case measure => simp [intOf];omega
  ·obtain rfl : k = 4:=by omega
   obtain ⟨f,hrow,hset⟩:=hR.out
   have hP:=HPS.out
   have s0:=hset 0 P0 (by omega) (by rw [hP];rfl)
   have s1:=hset 1 P1 (by omega) (by rw [hP];rfl)
   have s2:=hset 2 P2 (by omega) (by rw [hP];rfl)
   have s3:=hset 3 P3 (by omega) (by rw [hP];rfl)
   have c0:=hrow.cell 0 (by omega)
   have c1:=hrow.cell 1 (by omega)
   have c2:=hrow.cell 2 (by omega)
   have c3:=hrow.cell 3 (by omega)
   have f0:=hrow.froz 0
   have f1:=hrow.froz 1
   have f2:=hrow.froz 2
   have f3:=hrow.froz 3
   obtain ⟨a0,d0,e0,x0,y0,t0⟩:=s0.out
   obtain ⟨a1,d1,e1,x1,y1,t1⟩:=s1.out
   obtain ⟨a2,d2,e2,x2,y2,t2⟩:=s2.out
   obtain ⟨a3,d3,e3,x3,y3,t3⟩:=s3.out
   rw [e0] at c0
   rw [e1] at c1
   rw [e2] at c2
   rw [e3] at c3
   have hr4 : restP Ps 4 = []:=by rw [hP];rfl
   have hS4:=hS.out
   rw [hr4] at hS4
   obtain ⟨a,c',rfl,_,_,_⟩:=hS4.out
   have H0 : Hid (SlAt w (.slice a0 P0.length d0) P0):=⟨a0,d0,rfl,x0,y0,t0⟩
   have H1 : Hid (SlAt w (.slice a1 P1.length d1) P1):=⟨a1,d1,rfl,x1,y1,t1⟩
   have H2 : Hid (SlAt w (.slice a2 P2.length d2) P2):=⟨a2,d2,rfl,x2,y2,t2⟩
   have H3 : Hid (SlAt w (.slice a3 P3.length d3) P3):=⟨a3,d3,rfl,x3,y3,t3⟩
   clear hR hrow hset hP s0 s1 s2 s3 e0 e1 e2 e3 x0 x1 x2 x3 y0 y1 y2 y3 t0 t1 t2 t3 hr4 hS hS4
   have hgs : ∀ {u : World} (j : Nat) (v : Value),Grows w u → Grows w (u.setCell ⟨pb,j,none⟩ v):=fun j v h => h.set (show w.heap.size ≤ pb by have:=HPB.out;omega) v
   have hgf:=hgs 3 (.slice a3 P3.length d3) (hgs 2 (.slice a2 P2.length d2) (hgs 1 (.slice a1 P1.length d1) (hgs 0 (.slice a0 P0.length d0) hG.out)))
   have ne : ∀ i j : Nat,i ≠ j → (⟨pb,i,none⟩ : Addr) ≠ ⟨pb,j,none⟩:=fun i j h e => h (congrArg Addr.off e)
   obtain ⟨W4,hW4⟩ : ∃ W,W = (((wr.setCell ⟨pb,0,none⟩ (.slice a0 P0.length d0)).setCell ⟨pb,1,none⟩ (.slice a1 P1.length d1)).setCell ⟨pb,2,none⟩ (.slice a2 P2.length d2)).setCell ⟨pb,3,none⟩ (.slice a3 P3.length d3):=⟨_,rfl⟩
   have HK : Hid (W4.cell? ⟨pb,0,none⟩ = some (.slice a0 P0.length d0)∧W4.cell? ⟨pb,1,none⟩ = some (.slice a1 P1.length d1)∧W4.cell? ⟨pb,2,none⟩ = some (.slice a2 P2.length d2)∧W4.cell? ⟨pb,3,none⟩ = some (.slice a3 P3.length d3)):=by
    have ot : ∀ {u : World} {i j : Nat} {v x : Value},i ≠ j → u.cell? ⟨pb,i,none⟩ = some x → (u.setCell ⟨pb,j,none⟩ v).cell? ⟨pb,i,none⟩ = some x:=fun {u i j v x} h hc => (World.cell?_setCell_other u _ _ _ (fun e => ne i j h (by first | exact e | exact e.symm))).trans hc
    have sm : ∀ {u : World} {i : Nat} {v x : Value},u.cell? ⟨pb,i,none⟩ = some x → (u.setCell ⟨pb,i,none⟩ v).cell? ⟨pb,i,none⟩ = some v:=fun {u i v x} hc => World.cell?_setCell_same u _ _ hc
    rw [hW4]
    exact ⟨ot (by decide) (ot (by decide) (ot (by decide) (sm c0))),ot (by decide) (ot (by decide) (sm (ot (by decide) c1))),ot (by decide) (sm (ot (by decide) (ot (by decide) c2))),sm (ot (by decide) (ot (by decide) (ot (by decide) c3)))⟩
   rw [← hW4] at hgf
   go_wp2_with fail
   rw [← hW4]
   obtain ⟨k0,k1,k2,k3⟩:=HK.out
   exact bodyPost_ret (v:=.tuple #[.agg #[.slice a0 P0.length d0,.slice a1 P1.length d1,.slice a2 P2.length d2,.slice a3 P3.length d3],.bool true]) (by simp [results,Tryz.results112,go_sem,k0,k1,k2,k3]) rfl ⟨_,_,_,_,rfl,H0.out.grows hgf,H1.out.grows hgf,H2.out.grows hgf,H3.out.grows hgf,hgf⟩
end Go.Proofs.YtepoiefadjoabaaGreatDoor
