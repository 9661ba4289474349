/- The texts Lb5 LoD HolF, one behind the other. -/
import Derived.Test.YtepoiefadjoabaaGreatDoorH46
import Derived.Test.YtepoiefadjoabaaGreatDoorH43
import Derived.Test.YtepoiefadjoabaaGreatDoorH44
import Derived.Test.YtepoiefadjoabaaGreatDoorH41
import Derived.Test.YtepoiefadjoabaaGreatDoorH39
import Derived.Test.YtepoiefadjoabaaGreatDoorH42
namespace Go.Proofs.YtepoiefadjoabaaGreatDoor
open Go Go.RowKit Go.Shelf
set_option maxHeartbeats 1000000 in
set_option maxRecDepth 100000 in
theorem lbuild_bad (B : List ByteArray) (a : Option Addr) (c : Nat) (w : World) (hB : B.length ≤ 1099511627776) (hsz : ∀ s ∈ B, s.size ≤ 1099511627776) (hch : chkA (bls B) ≠ 0) (hat : AtCells w a 1 (B.map stC)) :
  Calls Tryz.prog 31 #[.slice a B.length c] w fun e w' => e = .returned (.tuple #[.pointer none,.int .i64 (chkA (bls B))])∧Grows w w':=by
 obtain ⟨K,hK⟩ : ∃ K,K = chkA (bls B):=⟨_,rfl⟩
 have CK : Hid (∀ u,Grows w u → Calls Tryz.prog 84 #[.slice a B.length c] u fun e w' => e = .returned (.int .i64 K)∧u = w'):=fun u hg => by
  rw [hK];exact chkA_any B a c u hB hsz (hat.grows hg)
 rw [← hK] at hch ⊢
 have hKi : ¬ (K : Int) = 0:=by omega
 clear hat hsz hK
 go_enter Tryz.func31,Tryz.ntmps31
 go_wp2_with (go_at_call 84;refine (CK.out _ (Grows.alloc _ _)).mono ?_;rintro e w2 ⟨rfl,rfl⟩)
 exact bodyPost_ret (v:=.tuple #[.pointer none,.int .i64 K]) (by simp [results,Tryz.results31,go_sem]) rfl ⟨rfl,Grows.alloc _ _⟩
theorem lbuild_any (B : List ByteArray) (a : Option Addr) (c : Nat) (w : World) (hB : B.length ≤ 1099511627776) (hsz : ∀ s ∈ B, s.size ≤ 1099511627776) (ha : ∀ q, a = some q → q.block < w.heap.size) (hat : AtCells w a 1 (B.map stC)) :
  Calls Tryz.prog 31 #[.slice a B.length c] w fun e w' => Grows w w' ∧
   ((chk11 (bls B) = 0∧∃ tb,e = .returned (.tuple #[.pointer (some ⟨tb,0,none⟩),.int .i64 0])∧TrieAt w' tb (bls B)) ∨ (chk11 (bls B) ≠ 0∧e = .returned (.tuple #[.pointer none,.int .i64 (chk11 (bls B))]))):=by
 by_cases hch : chkA (bls B) = 0
 ·have h1 : ¬ 20000 < (bls B).length:=fun h => by unfold chkA at hch;rw [if_pos h] at hch;cases hch
  have h2 : anyBad (bls B) = false:=by
   unfold chkA at hch
   rw [if_neg h1] at hch
   cases h : anyBad (bls B) with
   | false => rfl
   | true => rw [h] at hch;cases hch
  have hok:=okL_of h2
  have hl : B.length ≤ 20000:=by rw [bls_len] at h1;omega
  have hs2 : ∀ s ∈ B,s.size ≤ 256:=fun s hs => by
   have:=hok.len (bl s) (by unfold bls;exact List.mem_map.2 ⟨s,hs,rfl⟩)
   rwa [bl_len] at this
  have hc : chk11 (bls B) = if 524287 < countL (bls B) then 2 else 0:=by
   unfold chk11
   rw [if_neg h1,h2];rfl
  refine (lbuild_ok B a c w hch ha hl hs2 hok hat).mono ?_
  rintro e w' ⟨k1,k2⟩
  rcases Nat.lt_or_ge 524287 (countL (bls B)) with h | h
  ·obtain ⟨rfl,hg⟩:=k1 h
   rw [if_pos h] at hc
   exact ⟨hg,Or.inr ⟨by rw [hc];decide,by rw [hc];rfl⟩⟩
  ·obtain ⟨rfl,ht,hg⟩:=k2 h
   rw [if_neg (by omega)] at hc
   exact ⟨hg,Or.inl ⟨hc,_,rfl,ht⟩⟩
 ·have hc : chk11 (bls B) = chkA (bls B):=by
   unfold chk11 chkA at *
   by_cases h1 : 20000 < (bls B).length
   ·rw [if_pos h1,if_pos h1]
   ·rw [if_neg h1] at hch
    rw [if_neg h1,if_neg h1]
    by_cases h2 : anyBad (bls B) = true
    ·rw [if_pos h2,if_pos h2]
    ·rw [if_neg h2] at hch
     exact absurd rfl hch
  refine (lbuild_bad B a c w hB hsz hch hat).mono ?_
  rintro e w' ⟨rfl,hg⟩
  exact ⟨hg,Or.inr ⟨by rw [hc];exact hch,by rw [hc]⟩⟩
end Go.Proofs.YtepoiefadjoabaaGreatDoor
namespace Go.Proofs.YtepoiefadjoabaaGreatDoor
open Go Go.RowKit Go.Shelf
attribute [local go_sem] quietE quietE2
theorem conv_at {w : World} {a : Option Addr} {c : Nat} {l : List UInt8} (hn : l ≠ []) (hat : AtCells w a 1 (l.map byteC)) : (convert 28 9 (.slice a l.length c)).run Tryz.prog w = .ok (.string (mkB l)) w := by
 obtain ⟨b,o,rfl,hc⟩:=at1 (f:=fun x : UInt8 => Value.int .u8 x.toNat) hat hn
 have hz : (mkB l).size = l.length:=by rw [Lib.size_eq,mkB_data]
 have hBy : Lib.Bytes w b o (mkB l):=fun j hj => by
  rw [hz] at hj
  have h:=hc j _ (List.getElem?_eq_getElem hj)
  rw [h]
  rfl
 have:=Lib.run_convert_whole (P:=Tryz.prog) w 28 5 9 Tryz.underlying28 Tryz.underlying5 Tryz.underlying9 b o (mkB l) hBy c
 rw [hz] at this
 exact this
theorem loudE_parts (L : List (List UInt8)) : loudE L = restP [vecE (shapeL L (nodesA L)), labelsL L (nodesA L), vecE (isL L (nodesA L)), packE (idsL L (nodesA L))] 0 := by
 unfold loudE restP
 simp only [List.drop_zero,List.flatMap_cons,List.flatMap_nil,List.append_nil,List.append_assoc]
set_option maxHeartbeats 1000000 in
set_option maxRecDepth 100000 in
theorem ldec_any (L : List (List UInt8)) (ba : Option Addr) (bc : Nat) (w : World) (hch : chk11 L = 0) (hbc : (loudE L).length ≤ bc) (hat : AtCells w ba 1 ((loudE L).map byteC)) :
  Calls Tryz.prog 63 #[.slice ba (loudE L).length bc] w fun e w' => ∃ tb,e = .returned (.tuple #[.pointer (some ⟨tb,0,none⟩),.int .i64 0])∧TrieAt w' tb L∧Grows w w':=by
 obtain ⟨hok,hl,hc⟩:=chk11_ok hch
 obtain ⟨z1,z2,z3,z4,z5⟩:=hok.sizes hl hc
 have hD64 : ∀ n ∈ idsL L (nodesA L),n < 18446744073709551616:=fun n hn => by have:=z5 n hn;omega
 have e1:=vecE_len (shapeL L (nodesA L))
 have e2:=vecE_len (isL L (nodesA L))
 have e3:=packE_len (idsL L (nodesA L))
 have hwd : widL (idsL L (nodesA L)) ≤ 64:=widL_le.2 hD64
 have hpb : (idsL L (nodesA L)).length * widL (idsL L (nodesA L)) ≤ 524287 * 64:=Nat.mul_le_mul z4 hwd
 have hp:=loudE_parts L
 have hne : loudE L ≠ []:=by
  rw [hp,restP_at (k:=0) rfl]
  intro e
  have:=congrArg List.length e
  rw [List.length_append,leB_len] at this
  simp at this
 have HAT:=Lib.hid hat
 have HNE:=Lib.hid hne
 have CPA:=lparts_any (vecE (shapeL L (nodesA L))) (labelsL L (nodesA L)) (vecE (isL L (nodesA L))) (packE (idsL L (nodesA L))) ba bc w (by omega) (by omega) (by omega) (by omega) (by rw [← hp];exact hbc) (by rw [← hp];exact hat)
 rw [← hp] at CPA
 have HCPA:=Lib.hid CPA
 have CS:=fun (a : Option Addr) (c : Nat) (u : World) h1 h2 => Lib.hid (vdec_any (shapeL L (nodesA L)) a c u z1 h1 h2)
 have CI:=fun (a : Option Addr) (c : Nat) (u : World) h1 h2 => Lib.hid (vdec_any (isL L (nodesA L)) a c u (by omega) h1 h2)
 have CD:=fun (a : Option Addr) (c : Nat) (u : World) h1 h2 h3 => Lib.hid (pdec_any (idsL L (nodesA L)) a c u (by omega) hD64 h1 h2 h3)
 have CG:=fun (sb ib pb : Nat) (la : Option Addr) (lc : Nat) (u : World) h1 h2 h3 h4 => Lib.hid (grow_any L sb ib pb la lc u hok hl hc h1 h2 h3 h4)
 have CB : ∀ (a : Option Addr) (c : Nat) (u : World),(∀ q,a = some q → q.block < u.heap.size) → AtCells u a 1 ((L.map mkB).map stC) → Hid (Calls Tryz.prog 31 #[.slice a L.length c] u fun e w' => ∃ tb,e = .returned (.tuple #[.pointer (some ⟨tb,0,none⟩),.int .i64 0])∧TrieAt w' tb L∧Grows u w'):=fun a c u h1 h2 => by
  have h:=lbuild_any (L.map mkB) a c u (by rw [List.length_map];omega) (fun s hs => by
   obtain ⟨x,hx,rfl⟩:=List.mem_map.1 hs
   have:=hok.len x hx
   rw [Lib.size_eq,mkB_data];omega) h1 h2
  rw [bls_mkB,List.length_map] at h
  refine h.mono ?_
  rintro e w' ⟨hg,h3 | h3⟩
  ·obtain ⟨_,tb,h4,h5⟩:=h3
   exact ⟨tb,h4,h5,hg⟩
  ·exact absurd hch h3.1
 have CE:=fun (tb : Nat) (u : World) h => Lib.hid (tenc_any L tb u hok hl hc h)
 obtain ⟨b,hb⟩ : ∃ b,b = loudE L:=⟨_,rfl⟩
 rw [← hb] at HAT HNE HCPA CE ⊢
 clear hch hbc hat hok hl hc z1 z2 z3 z4 z5 hD64 e1 e2 e3 hwd hpb hp hne CPA hb
 go_enter Tryz.func63,Tryz.ntmps63
 go_wp2_with fail
 refine HCPA.out.mono ?_
 rintro e w1 ⟨v0,v1,v2,v3,rfl,h0,h1,h2,h3,hg1⟩
 obtain ⟨a0,c0,rfl,x0,y0,t0⟩:=h0.out
 obtain ⟨a1,c1,rfl,x1,y1,t1⟩:=h1.out
 obtain ⟨a2,c2,rfl,x2,y2,t2⟩:=h2.out
 obtain ⟨a3,c3,rfl,x3,y3,t3⟩:=h3.out
 clear HCPA h0 h1 h2 h3
 obtain ⟨W2,hW2⟩ : ∃ W,W = w1.alloc (.cells #[.slice a0 (vecE (shapeL L (nodesA L))).length c0,.slice a1 (labelsL L (nodesA L)).length c1,.slice a2 (vecE (isL L (nodesA L))).length c2,.slice a3 (packE (idsL L (nodesA L))).length c3] 176):=⟨_,rfl⟩
 obtain ⟨xb,hxb⟩ : ∃ q,q = w1.heap.size:=⟨_,rfl⟩
 have hbx:=fun j u h => cell_box w1 #[.slice a0 (vecE (shapeL L (nodesA L))).length c0,.slice a1 (labelsL L (nodesA L)).length c1,.slice a2 (vecE (isL L (nodesA L))).length c2,.slice a3 (packE (idsL L (nodesA L))).length c3] 176 (0,0) j u h
 rw [← hW2,← hxb] at hbx
 have b0:=hbx 0 _ rfl
 have b1:=hbx 1 _ rfl
 have b2:=hbx 2 _ rfl
 have b3:=hbx 3 _ rfl
 have hg2 : Grows w1 W2:=by rw [hW2];exact Grows.alloc _ _
 have HT1:=Lib.hid (t1.grows hg2)
 have CS1:=CS a0 c0 W2 x0 (t0.grows hg2)
 have CI1:=fun u (hu : Grows W2 u) => CI a2 c2 u x2 ((t2.grows hg2).grows hu)
 have CD1:=fun u (hu : Grows W2 u) => CD a3 c3 u x3 y3 ((t3.grows hg2).grows hu)
 have hgw2:=hg1.tr hg2
 clear hbx CS CI CD t0 t1 t2 t3 x0 x1 x2 x3 y0 y1 y2 y3
 go_wp2_with fail
 rw [← hW2,← hxb]
 clear hW2 hxb hg1 hg2
 refine CS1.out.mono ?_
 rintro e w3 ⟨sb,rfl,hsb,hg3⟩
 replace b1:=hg3.cell b1
 replace b2:=hg3.cell b2
 replace b3:=hg3.cell b3
 clear CS1 b0
 go_wp2_with fail
 refine (CI1 w3 hg3).out.mono ?_
 rintro e w4 ⟨ib,rfl,hib,hg4⟩
 replace b1:=hg4.cell b1
 replace b3:=hg4.cell b3
 have hsb4:=hsb.grows hg4
 have hg24:=hg3.tr hg4
 clear CI1 b2 hsb
 go_wp2_with fail
 refine (CD1 w4 hg24).out.mono ?_
 rintro e w5 ⟨pb,rfl,hpb,hg5⟩
 replace b1:=hg5.cell b1
 have hg25:=hg24.tr hg5
 have hgw5:=hgw2.tr hg25
 have CG1:=CG sb ib pb a1 c1 w5 (hsb4.grows hg5) (hib.grows hg5) hpb (HT1.out.grows hg25)
 clear CD1 CG b3 hsb4 hib hpb hg3 hg4 hg24
 go_wp2_with fail
 refine CG1.out.mono ?_
 rintro e w6 ⟨v6,rfl,hv6,hg6⟩
 have hlt6:=own_lt hv6
 obtain ⟨a6,c6,rfl,_,_,hat6⟩:=hv6.at_ (enc:=stC) (fun _ => rfl)
 rw [List.length_map] at hlt6 ⊢
 have CB1:=CB a6 c6 w6 (fun q hq => hlt6 q.block (by rw [hq];rfl)) hat6
 have hgw6:=hgw5.tr hg6
 clear CG1 CB hv6 hlt6 hat6 hg6 hg5 hgw5
 go_wp2_with fail
 refine CB1.out.mono ?_
 rintro e w7 ⟨tb,rfl,htb,hg7⟩
 have HTB:=Lib.hid htb
 have CE1:=CE tb w7.drew (htb.grows (Grows.drew w7))
 have hgw7:=hgw6.tr hg7
 have hcb : ∀ x : Ext Grows w7.drew,(convert 28 9 (.slice ba b.length bc)).run Tryz.prog x.u = .ok (.string (mkB b)) x.u:=fun x => conv_at (c:=bc) HNE.out (HAT.out.grows (hgw7.dr.tr x.h))
 clear CB1 CE htb hg7 hgw6
 go_wp2_with fail
 refine t_region (Grows) [(0,false),(1,false),(2,false),(3,false),(6,false),(7,false),(4,true),(5,false),(8,false),(9,false)] Grows.refl Grows.trans (by kernel_rfl) (by kernel_rfl) (fun d _ _ _ _ h => by cases d <;> exact h) ?_
 iterate 6 (refine t_quiet rfl (fun K hK => ?_);go_simp;refine hK _ ?_;clear hK K)
 refine t_late rfl rfl (fun K hK => ?_)
 go_simp
 refine (CE1.out).mono ?_
 rintro e w8 ⟨v8,rfl,hv8,hg8⟩
 refine ⟨hg8,hK _ _ ?_⟩
 clear hK K
 have hcv : ∀ x : Ext Grows w8,(convert 28 9 v8).run Tryz.prog x.u = .ok (.string (mkB b)) x.u:=fun x => conv_owns (hv8.grows x.h)
 have hgw8:=hgw7.dr.tr hg8
 have HTB8:=Lib.hid (HTB.out.grows ((Grows.drew w7).tr hg8))
 have hseq : ((mkB b).toList == (mkB b).toList) = true:=by simp
 clear CE1 HTB hv8 hg8 hgw7 hcb
 iterate 3 (refine t_quiet rfl (fun K hK => ?_);go_simp;refine hK _ ?_;clear hK K)
 refine t_end ?_
 go_wp2
 go_ret2
 exact ⟨tb,rfl,HTB8.out,hgw8⟩
end Go.Proofs.YtepoiefadjoabaaGreatDoor
namespace Go.Proofs.YtepoiefadjoabaaGreatDoor
open Go Go.RowKit Go.Shelf
attribute [local go_sem] quietE quietE2
set_option maxHeartbeats 2000000 in
set_option maxRecDepth 100000 in
theorem lstrings_any (Q : List PartV) (k : Nat) (q : PartV) (L : List (List UInt8)) (a : Option Addr) (c : Nat) (w : World) (hQl : Q.length ≤ 1000000) (hat : AtCells w a 2 (Q.map partC)) (hpa : PartsAt w Q) (hq : Q[k]? = some q) (hne : ∀ j p, j < k → Q[j]? = some p → p.name ≠ q.name)
  (hd : q.data = loudE L) (hch : chk11 L = 0) :
  Calls Tryz.prog 19 #[.slice a Q.length c,.string q.name] w fun e w' => ∃ v,e = .returned v∧Owns w' w.heap.size 9 1 stC v (L.map mkB)∧Grows w w':=by
 have CF:=Lib.hid (find_any14 Q k q a c w hQl hat hpa hq hne)
 rw [hd] at CF
 obtain ⟨hok,hl,hc⟩:=chk11_ok hch
 have HCH:=Lib.hid hch
 have HOK:=Lib.hid (And.intro hok (And.intro hl hc))
 obtain ⟨QL,hQL⟩ : ∃ n,n = Q.length:=⟨_,rfl⟩
 rw [← hQL] at CF ⊢
 clear hat hpa hq hne hd hQL hch hok hc
 go_enter Tryz.func19,Tryz.ntmps19
 go_wp2_with fail
 refine CF.out.mono ?_
 rintro e w1 ⟨v1,rfl,hv1,hg1⟩
 obtain ⟨a1,c1,rfl,h1c,_,hat1⟩:=hv1.at_ byteLay.len
 have CD:=Lib.hid (ldec_any L a1 c1 w1 HCH.out h1c hat1)
 obtain ⟨PL,hPL⟩ : ∃ n,n = (loudE L).length:=⟨_,rfl⟩
 rw [← hPL] at CD ⊢
 clear hv1 hat1 CF h1c hPL
 go_wp2_with fail
 refine CD.out.mono ?_
 rintro e w2 ⟨tb,rfl,htb,hg2⟩
 have hgw2:=Grows.trans _ _ _ hg1 hg2
 clear CD hg1 hg2
 have hll : ¬ (100000 : Int) < L.length:=by omega
 go_wp2_with fail
 refine (tlen_any L tb w2 htb).mono ?_
 rintro e w3 ⟨rfl,rfl⟩
 go_wp2_with fail
 go_loopw [9,10] (fun v i wr => ∃ j : Nat,j ≤ L.length∧i = .int .i64 j∧Hid (Owns wr w2.heap.size 9 1 stC v ((L.take j).map mkB))∧Hid (TrieAt wr tb L)∧Hid (Grows w2 wr)) (fun _ i _ => L.length - (intOf i).toNat)
 case atStart => exact ⟨0,Nat.zero_le _,rfl,Owns.nil _ _ _ _ _,htb,Grows.refl _⟩
 case round =>
  have HTB:=Lib.hid htb
  clear htb
  obtain ⟨j,hj,rfl,hown,htb,hg⟩:=hrel
  go_wp2_with fail
  refine (tlen_any L tb wr htb.out).mono ?_
  rintro e w4 ⟨rfl,rfl⟩
  by_cases hlt : j < L.length
  ·have CT:=Lib.hid (text_any L tb j wr HOK.out.1 hl HOK.out.2.2 hlt htb.out)
   have HT : Hid ((L.take j).map mkB ++ [mkB (nth L j)] = (L.take (j + 1)).map mkB):=by
    show _ = _
    rw [takeSnoc (nth_some hlt),List.map_append];rfl
   have htl : ((L.take j).map mkB).length = j:=by rw [List.length_map,List.length_take];omega
   have hji : (j : Int) < L.length:=by omega
   go_wp2_with fail
   refine CT.out.mono ?_
   rintro e w5 ⟨rfl,hg5⟩
   have hown5:=hown.out.grows hg5
   have hgw5:=Grows.trans _ _ _ hg.out hg5
   generalize (L.take j).map mkB = acc at hown5 HT htl
   generalize mkB (nth L j) = s at HT
   clear CT htb hg5 hown hg
   go_wp2_with (at_builtin;refine app_one5 stLay rfl _ _ rfl w2.heap.size _ acc s rfl hown5 (Grows.refl _) _ 1 rfl #[.string s] rfl rfl (by omega) hgw5.size ?_;intro v6 w6 hown6 hk6 _ hgg6)
   have hg6:=hgg6 w2 hgw5 (Nat.le_refl _)
   have htb6 : TrieAt w6 tb L:=HTB.out.grows hg6
   rw [HT.out] at hown6
   go_wp2_with fail
   go_roundw
   case rel => exact ⟨j + 1,hlt,by go_num,hown6,htb6,hg6⟩
   case measure => simp [intOf];omega
  ·obtain rfl : j = L.length:=by omega
   have ho:=hown.out
   rw [List.take_length] at ho
   have hG:=hg.out
   clear hown hg htb
   go_wp2_with fail
   go_ret
   exact ⟨_,rfl,ho.base hgw2.size,Grows.trans _ _ _ hgw2 hG⟩
set_option maxHeartbeats 1000000 in
theorem lat_in (l : List Nat) (a : Option Addr) (c i x : Nat) (w : World) (hx : l[i]? = some x) (hat : AtCells w a 1 (l.map natC)) :
  Calls Tryz.prog 21 #[.slice a l.length c,.int .i64 i] w fun e w' => e = .returned (.int .i64 x)∧w = w':=by
 have hi:=(List.getElem?_eq_some_iff.1 hx).1
 obtain ⟨b,o,rfl,hc⟩:=at1 (f:=fun n : Nat => Value.int .i64 n) hat (ne_nil_of_lt hi)
 have hcx:=hc i x hx
 have h0 : ¬ (i : Int) < 0:=by omega
 have hil : ¬ (l.length : Int) ≤ i:=by omega
 have hii : (i : Int) < l.length:=by omega
 clear hat hc hx
 go_enter Tryz.func21,Tryz.ntmps21
 go_wp2_with fail
 go_ret
 exact ⟨rfl,rfl⟩
set_option maxHeartbeats 1000000 in
theorem lat_out (l : List Nat) (a : Option Addr) (c i : Nat) (w : World) (hi : l.length ≤ i) :
  Calls Tryz.prog 21 #[.slice a l.length c,.int .i64 i] w fun e w' => e = .returned (.int .i64 (-1))∧w = w':=by
 have h0 : ¬ (i : Int) < 0:=by omega
 have hil : (l.length : Int) ≤ i:=by omega
 go_enter Tryz.func21,Tryz.ntmps21
 go_wp2_with fail
 go_ret
 exact ⟨rfl,rfl⟩
set_option maxHeartbeats 1000000 in
theorem ltext_in (l : List ByteArray) (a : Option Addr) (c i : Nat) (x : ByteArray) (w : World) (hx : l[i]? = some x) (hat : AtCells w a 1 (l.map stC)) :
  Calls Tryz.prog 22 #[.slice a l.length c,.int .i64 i] w fun e w' => e = .returned (.string x)∧w = w':=by
 have hi:=(List.getElem?_eq_some_iff.1 hx).1
 obtain ⟨b,o,rfl,hc⟩:=at1 (f:=fun s : ByteArray => Value.string s) hat (ne_nil_of_lt hi)
 have hcx:=hc i x hx
 have h0 : ¬ (i : Int) < 0:=by omega
 have hil : ¬ (l.length : Int) ≤ i:=by omega
 have hii : (i : Int) < l.length:=by omega
 clear hat hc hx
 go_enter Tryz.func22,Tryz.ntmps22
 go_wp2_with fail
 go_ret
 exact ⟨rfl,rfl⟩
theorem grp_asc (k : Nat → Nat) (n s : Nat) : (grp k n s).Pairwise (· < ·) := List.Pairwise.filter _ List.pairwise_lt_range
theorem grp_win {k : Nat → Nat} {n S s t : Nat} (hs : s < S) (ht : t < (grp k n s).length) : (grpsL k n S)[(grpsL k n s).length + t]? = (grp k n s)[t]? := by
 obtain ⟨r,hr⟩:=grpsL_pre (k:=k) (n:=n) (show s + 1 ≤ S by omega)
 rw [hr,grpsL_succ,List.append_assoc,List.getElem?_append_right (by omega),Nat.add_sub_cancel_left,List.getElem?_append_left ht]
set_option maxHeartbeats 2000000 in
set_option maxRecDepth 100000 in
theorem inOrder_any (k : Nat → Nat) (n S i : Nat) (a b : Option Addr) (c d : Nat) (w : World) (hk : ∀ j, j < n → k j < S) (hi : i < n) (hn : n ≤ 1048576) (hS : S ≤ 1048576) (h1 : AtCells w a 1 ((grpsL k n S).map natC)) (h2 : AtCells w b 1 ((atsL k n S).map natC)) :
  Calls Tryz.prog 23 #[.slice a (grpsL k n S).length c,.slice b (atsL k n S).length d,.int .i64 (k i : Nat),.int .i64 i] w fun e w' => e = .returned (.bool true)∧Grows w w':=by
 have hs:=hk i hi
 obtain ⟨s,hse⟩ : ∃ s,s = k i:=⟨_,rfl⟩
 rw [← hse] at hs ⊢
 have hig : i ∈ grp k n s:=grp_mem.2 ⟨hi,hse.symm⟩
 have hGl:=grpsL_len hk
 obtain ⟨g,hg⟩ : ∃ g,g = grp k n s:=⟨_,rfl⟩
 have hwin:=fun t => grp_win (k:=k) (n:=n) (S:=S) (s:=s) (t:=t) hs
 have hasc:=grp_asc k n s
 rw [← hg] at hwin hig hasc
 obtain ⟨lo,hlo⟩ : ∃ q,q = (grpsL k n s).length:=⟨_,rfl⟩
 rw [← hlo] at hwin
 have hhi : (grpsL k n (s + 1)).length = lo + g.length:=by rw [grpsL_succ,List.length_append,hlo,hg]
 have hle : lo + g.length ≤ n:=by
  obtain ⟨r,hr⟩:=grpsL_pre (k:=k) (n:=n) (show s + 1 ≤ S by omega)
  have:=congrArg List.length hr
  rw [List.length_append,hhi,hGl] at this
  omega
 have hfs : (atsL k n S)[s]? = some lo:=by rw [atsL_get hs,hlo]
 have hal:=atsL_len k n S
 have CA:=Lib.hid (lat_in (atsL k n S) b d s lo w hfs h2)
 obtain ⟨bb,bo,rfl,hcB⟩:=at1 (f:=fun n : Nat => Value.int .i64 n) h2 (ne_nil_of_lt (k:=s) (by rw [hal];exact hs))
 obtain ⟨ab,ao,rfl,hcA⟩:=at1 (f:=fun n : Nat => Value.int .i64 n) h1 (ne_nil_of_lt (k:=0) (by rw [hGl];omega))
 have cs:=hcB s lo hfs
 have HCA:=Lib.hid hcA
 have HWIN:=Lib.hid hwin
 have HASC:=Lib.hid hasc
 obtain ⟨ti,hti⟩:=List.mem_iff_getElem?.1 hig
 have HTI:=Lib.hid hti
 rw [hGl,hal]
 rw [hal] at CA
 obtain ⟨E,hE⟩ : ∃ E,E = lo + g.length:=⟨_,rfl⟩
 rw [← hE] at hhi hle
 have HE:=Lib.hid hE
 have hsi : (0 : Int) ≤ s:=by omega
 have hsS : (s : Int) < S:=by omega
 by_cases hs1 : s + 1 < S
 ·have cs1:=hcB (s + 1) E (by rw [atsL_get hs1,hhi])
  have hs1i : (s : Int) < (S : Int) - 1:=by omega
  have ws1 : IntKind.i64.wrap ((s : Int) + 1) = ((s + 1 : Nat) : Int):=by simp [IntKind.wrap,IntKind.bits,IntKind.signed];omega
  have wS1 : IntKind.i64.wrap ((S : Int) - 1) = (S : Int) - 1:=by simp [IntKind.wrap,IntKind.bits,IntKind.signed];omega
  have hsS1 : ((s + 1 : Nat) : Int) < S:=by omega
  clear hcA hcB hwin hasc hig hti hfs hal hGl hhi hE h1 h2 hg hlo hse
  go_enter Tryz.func23,Tryz.ntmps23
  go_wp2_with fail
  refine CA.out.mono ?_
  rintro e w1 ⟨rfl,rfl⟩
  clear CA
  go_wp2_with fail
  go_loopw [10,11] (fun vf vk wr => ∃ j : Nat,j ≤ g.length∧vk = .int .i64 (lo + j : Nat)∧vf = .bool (decide (ti < j))∧Hid (Grows w wr)) (fun _ vk _ => n + 1 - (intOf vk).toNat)
  case atStart => exact ⟨0,Nat.zero_le _,rfl,rfl,Grows.refl _⟩
  case round =>
   obtain ⟨j,hj,rfl,rfl,hg⟩:=hrel
   obtain ⟨K,hK⟩ : ∃ K,K = lo + j:=⟨_,rfl⟩
   rw [← hK]
   have HK:=Lib.hid hK
   have hK0 : (0 : Int) ≤ K:=by omega
   have csr:=hg.out.cell cs
   by_cases hlt : j < g.length
   ·obtain ⟨x,hx⟩ : ∃ x,g[j]? = some x:=⟨_,List.getElem?_eq_getElem hlt⟩
    have hcx : wr.cell? ⟨ab,ao + K,none⟩ = some (.int .i64 x):=hg.out.cell (HCA.out K x (by rw [hK,HWIN.out j hlt];exact hx))
    have hKE : (K : Int) < E:=by have:=HE.out;omega
    have hKn : (K : Int) < n:=by omega
    have z0 : ∀ q : Ext Grows wr.drew,q.u.cell? ⟨bb,bo + s,none⟩ = some (.int .i64 lo):=ext_cell ((Grows.drew wr).cell csr)
    have z1 : ∀ q : Ext Grows wr.drew,q.u.cell? ⟨ab,ao + K,none⟩ = some (.int .i64 x):=ext_cell ((Grows.drew wr).cell hcx)
    have HF : Hid ((decide (ti < j) || decide (x = i)) = decide (ti < j + 1)):=by
     show _ = _
     have h1 : x = i ↔ j = ti:=by
      constructor
      ·intro e
       obtain ⟨p1,p2⟩:=List.getElem?_eq_some_iff.1 hx
       obtain ⟨p3,p4⟩:=List.getElem?_eq_some_iff.1 HTI.out
       rcases Nat.lt_trichotomy j ti with c | c | c
       ·have:=List.pairwise_iff_getElem.1 HASC.out j ti p1 p3 c;omega
       ·exact c
       ·have:=List.pairwise_iff_getElem.1 HASC.out ti j p3 p1 c;omega
      ·rintro rfl
       rw [HTI.out] at hx
       exact (Option.some.inj hx).symm
     rw [Bool.eq_iff_iff]
     simp only [Bool.or_eq_true,decide_eq_true_eq,h1]
     omega
    by_cases hj0 : j = 0
    ·have hKl : ¬ (lo : Int) < K:=by omega
     have hKlN : ¬ lo < K:=by omega
     by_cases hf : ti < j
     ·have hfd : decide (ti < j) = true:=decide_eq_true hf
      have HF2 : Hid (decide (ti < j + 1) = true):=by show _ = _;rw [← HF.out,hfd];rfl
      rw [hfd]
      clear HF hx hK hfd hf
      go_wp2_with fail
      refine t_region (Grows) [(0,false),(1,false),(2,false),(3,false),(4,false),(5,false),(6,false),(7,false),(8,false),(9,false),(10,false),(11,false),(12,false),(13,false),(14,false),(15,false),(16,false),(17,false)] Grows.refl Grows.trans (by kernel_rfl) (by kernel_rfl) (fun d _ _ _ _ h => by cases d <;> exact h) ?_
      iterate 18 (refine t_quiet rfl (fun K hK => ?_);go_simp;refine hK _ ?_;clear hK K)
      refine t_end ?_
      clear z0 z1
      go_wp2_with fail
      go_roundw
      case rel => exact ⟨j + 1,by omega,by rw [HK.out];go_num,by rw [HF2.out],hg.out.dr⟩
      case measure => have:=HK.out;have:=HE.out;simp [intOf];omega
     ·have hfd : decide (ti < j) = false:=decide_eq_false hf
      rw [hfd] at HF ⊢
      by_cases hxi : x = i
      ·have HF2 : Hid (decide (ti < j + 1) = true):=by show _ = _;rw [← HF.out,decide_eq_true hxi];rfl
       have hxe : ((x : Int) == i) = true:=by rw [hxi];simp
       clear HF hx hK hfd hf hxi
       go_wp2_with fail
       refine t_region (Grows) [(0,false),(1,false),(2,false),(3,false),(4,false),(5,false),(6,false),(7,false),(8,false),(9,false),(10,false),(11,false),(12,false),(13,false),(14,false),(15,false),(16,false),(17,false)] Grows.refl Grows.trans (by kernel_rfl) (by kernel_rfl) (fun d _ _ _ _ h => by cases d <;> exact h) ?_
       iterate 18 (refine t_quiet rfl (fun K hK => ?_);go_simp;refine hK _ ?_;clear hK K)
       refine t_end ?_
       clear z0 z1
       go_wp2_with fail
       go_roundw
       case rel => exact ⟨j + 1,by omega,by rw [HK.out];go_num,by rw [HF2.out],hg.out.dr⟩
       case measure => have:=HK.out;have:=HE.out;simp [intOf];omega
      ·have HF2 : Hid (decide (ti < j + 1) = false):=by show _ = _;rw [← HF.out,decide_eq_false hxi];rfl
       have hxe : ((x : Int) == i) = false:=by simp;omega
       clear HF hx hK hfd hf hxi
       go_wp2_with fail
       refine t_region (Grows) [(0,false),(1,false),(2,false),(3,false),(4,false),(5,false),(6,false),(7,false),(8,false),(9,false),(10,false),(11,false),(12,false),(13,false),(14,false),(15,false),(16,false),(17,false)] Grows.refl Grows.trans (by kernel_rfl) (by kernel_rfl) (fun d _ _ _ _ h => by cases d <;> exact h) ?_
       iterate 18 (refine t_quiet rfl (fun K hK => ?_);go_simp;refine hK _ ?_;clear hK K)
       refine t_end ?_
       clear z0 z1
       go_wp2_with fail
       go_roundw
       case rel => exact ⟨j + 1,by omega,by rw [HK.out];go_num,by rw [HF2.out],hg.out.dr⟩
       case measure => have:=HK.out;have:=HE.out;simp [intOf];omega
    ·obtain ⟨y,hy⟩ : ∃ y,g[j - 1]? = some y:=⟨_,List.getElem?_eq_getElem (by omega)⟩
     obtain ⟨K1,hK1⟩ : ∃ q,q = K - 1:=⟨_,rfl⟩
     have hcy : wr.cell? ⟨ab,ao + K1,none⟩ = some (.int .i64 y):=hg.out.cell (HCA.out K1 y (by rw [show K1 = lo + (j - 1) by omega,HWIN.out (j - 1) (by omega)];exact hy))
     have hyx : ¬ (x : Int) ≤ y:=by
      obtain ⟨p1,p2⟩:=List.getElem?_eq_some_iff.1 hx
      obtain ⟨p3,p4⟩:=List.getElem?_eq_some_iff.1 hy
      have:=List.pairwise_iff_getElem.1 HASC.out (j - 1) j p3 p1 (by omega)
      omega
     have wK1 : IntKind.i64.wrap ((K : Int) - 1) = K1:=by simp [IntKind.wrap,IntKind.bits,IntKind.signed];omega
     have hK1n : (K1 : Int) < n:=by omega
     have hKl : (lo : Int) < K:=by omega
     have hKlN : lo < K:=by omega
     have z2 : ∀ q : Ext Grows wr.drew,q.u.cell? ⟨ab,ao + K1,none⟩ = some (.int .i64 y):=ext_cell ((Grows.drew wr).cell hcy)
     clear hy hcy hK1
     by_cases hf : ti < j
     ·have hfd : decide (ti < j) = true:=decide_eq_true hf
      have HF2 : Hid (decide (ti < j + 1) = true):=by show _ = _;rw [← HF.out,hfd];rfl
      rw [hfd]
      clear HF hx hK hfd hf
      go_wp2_with fail
      refine t_region (Grows) [(0,false),(1,false),(2,false),(3,false),(4,false),(5,false),(6,false),(7,false),(8,false),(9,false),(10,false),(11,false),(12,false),(13,false),(14,false),(15,false),(16,false),(17,false)] Grows.refl Grows.trans (by kernel_rfl) (by kernel_rfl) (fun d _ _ _ _ h => by cases d <;> exact h) ?_
      iterate 18 (refine t_quiet rfl (fun K hK => ?_);go_simp;refine hK _ ?_;clear hK K)
      refine t_end ?_
      clear z0 z1 z2
      go_wp2_with fail
      go_roundw
      case rel => exact ⟨j + 1,by omega,by rw [HK.out];go_num,by rw [HF2.out],hg.out.dr⟩
      case measure => have:=HK.out;have:=HE.out;simp [intOf];omega
     ·have hfd : decide (ti < j) = false:=decide_eq_false hf
      rw [hfd] at HF ⊢
      by_cases hxi : x = i
      ·have HF2 : Hid (decide (ti < j + 1) = true):=by show _ = _;rw [← HF.out,decide_eq_true hxi];rfl
       have hxe : ((x : Int) == i) = true:=by rw [hxi];simp
       clear HF hx hK hfd hf hxi
       go_wp2_with fail
       refine t_region (Grows) [(0,false),(1,false),(2,false),(3,false),(4,false),(5,false),(6,false),(7,false),(8,false),(9,false),(10,false),(11,false),(12,false),(13,false),(14,false),(15,false),(16,false),(17,false)] Grows.refl Grows.trans (by kernel_rfl) (by kernel_rfl) (fun d _ _ _ _ h => by cases d <;> exact h) ?_
       iterate 18 (refine t_quiet rfl (fun K hK => ?_);go_simp;refine hK _ ?_;clear hK K)
       refine t_end ?_
       clear z0 z1 z2
       go_wp2_with fail
       go_roundw
       case rel => exact ⟨j + 1,by omega,by rw [HK.out];go_num,by rw [HF2.out],hg.out.dr⟩
       case measure => have:=HK.out;have:=HE.out;simp [intOf];omega
      ·have HF2 : Hid (decide (ti < j + 1) = false):=by show _ = _;rw [← HF.out,decide_eq_false hxi];rfl
       have hxe : ((x : Int) == i) = false:=by simp;omega
       clear HF hx hK hfd hf hxi
       go_wp2_with fail
       refine t_region (Grows) [(0,false),(1,false),(2,false),(3,false),(4,false),(5,false),(6,false),(7,false),(8,false),(9,false),(10,false),(11,false),(12,false),(13,false),(14,false),(15,false),(16,false),(17,false)] Grows.refl Grows.trans (by kernel_rfl) (by kernel_rfl) (fun d _ _ _ _ h => by cases d <;> exact h) ?_
       iterate 18 (refine t_quiet rfl (fun K hK => ?_);go_simp;refine hK _ ?_;clear hK K)
       refine t_end ?_
       clear z0 z1 z2
       go_wp2_with fail
       go_roundw
       case rel => exact ⟨j + 1,by omega,by rw [HK.out];go_num,by rw [HF2.out],hg.out.dr⟩
       case measure => have:=HK.out;have:=HE.out;simp [intOf];omega
   ·obtain rfl : j = g.length:=by omega
    have hKE : ¬ (K : Int) < E:=by have:=HE.out;omega
    have hti : ti < g.length:=(List.getElem?_eq_some_iff.1 HTI.out).1
    rw [decide_eq_true hti]
    clear hK hti
    go_wp2_with fail
    go_ret
    exact ⟨rfl,hg.out⟩
 ·have hEn : E = n:=by rw [← hhi,show s + 1 = S by omega,hGl]
  subst hEn
  have hs1i : ¬ (s : Int) < (S : Int) - 1:=by omega
  have wS1 : IntKind.i64.wrap ((S : Int) - 1) = (S : Int) - 1:=by simp [IntKind.wrap,IntKind.bits,IntKind.signed];omega
  clear hcA hcB hwin hasc hig hti hfs hal hGl hhi hE h1 h2 hg hlo hse
  go_enter Tryz.func23,Tryz.ntmps23
  go_wp2_with fail
  refine CA.out.mono ?_
  rintro e w1 ⟨rfl,rfl⟩
  clear CA
  go_wp2_with fail
  go_loopw [10,11] (fun vf vk wr => ∃ j : Nat,j ≤ g.length∧vk = .int .i64 (lo + j : Nat)∧vf = .bool (decide (ti < j))∧Hid (Grows w wr)) (fun _ vk _ => E + 1 - (intOf vk).toNat)
  case atStart => exact ⟨0,Nat.zero_le _,rfl,rfl,Grows.refl _⟩
  case round =>
   obtain ⟨j,hj,rfl,rfl,hg⟩:=hrel
   obtain ⟨K,hK⟩ : ∃ K,K = lo + j:=⟨_,rfl⟩
   rw [← hK]
   have HK:=Lib.hid hK
   have hK0 : (0 : Int) ≤ K:=by omega
   have csr:=hg.out.cell cs
   by_cases hlt : j < g.length
   ·obtain ⟨x,hx⟩ : ∃ x,g[j]? = some x:=⟨_,List.getElem?_eq_getElem hlt⟩
    have hcx : wr.cell? ⟨ab,ao + K,none⟩ = some (.int .i64 x):=hg.out.cell (HCA.out K x (by rw [hK,HWIN.out j hlt];exact hx))
    have hKE : (K : Int) < E:=by have:=HE.out;omega
    have hKn : (K : Int) < E:=by have:=HE.out;omega
    have z0 : ∀ q : Ext Grows wr.drew,q.u.cell? ⟨bb,bo + s,none⟩ = some (.int .i64 lo):=ext_cell ((Grows.drew wr).cell csr)
    have z1 : ∀ q : Ext Grows wr.drew,q.u.cell? ⟨ab,ao + K,none⟩ = some (.int .i64 x):=ext_cell ((Grows.drew wr).cell hcx)
    have HF : Hid ((decide (ti < j) || decide (x = i)) = decide (ti < j + 1)):=by
     show _ = _
     have h1 : x = i ↔ j = ti:=by
      constructor
      ·intro e
       obtain ⟨p1,p2⟩:=List.getElem?_eq_some_iff.1 hx
       obtain ⟨p3,p4⟩:=List.getElem?_eq_some_iff.1 HTI.out
       rcases Nat.lt_trichotomy j ti with c | c | c
       ·have:=List.pairwise_iff_getElem.1 HASC.out j ti p1 p3 c;omega
       ·exact c
       ·have:=List.pairwise_iff_getElem.1 HASC.out ti j p3 p1 c;omega
      ·rintro rfl
       rw [HTI.out] at hx
       exact (Option.some.inj hx).symm
     rw [Bool.eq_iff_iff]
     simp only [Bool.or_eq_true,decide_eq_true_eq,h1]
     omega
    by_cases hj0 : j = 0
    ·have hKl : ¬ (lo : Int) < K:=by omega
     have hKlN : ¬ lo < K:=by omega
     by_cases hf : ti < j
     ·have hfd : decide (ti < j) = true:=decide_eq_true hf
      have HF2 : Hid (decide (ti < j + 1) = true):=by show _ = _;rw [← HF.out,hfd];rfl
      rw [hfd]
      clear HF hx hK hfd hf
      go_wp2_with fail
      refine t_region (Grows) [(0,false),(1,false),(2,false),(3,false),(4,false),(5,false),(6,false),(7,false),(8,false),(9,false),(10,false),(11,false),(12,false),(13,false),(14,false),(15,false),(16,false),(17,false)] Grows.refl Grows.trans (by kernel_rfl) (by kernel_rfl) (fun d _ _ _ _ h => by cases d <;> exact h) ?_
      iterate 18 (refine t_quiet rfl (fun K hK => ?_);go_simp;refine hK _ ?_;clear hK K)
      refine t_end ?_
      clear z0 z1
      go_wp2_with fail
      go_roundw
      case rel => exact ⟨j + 1,by omega,by rw [HK.out];go_num,by rw [HF2.out],hg.out.dr⟩
      case measure => have:=HK.out;have:=HE.out;simp [intOf];omega
     ·have hfd : decide (ti < j) = false:=decide_eq_false hf
      rw [hfd] at HF ⊢
      by_cases hxi : x = i
      ·have HF2 : Hid (decide (ti < j + 1) = true):=by show _ = _;rw [← HF.out,decide_eq_true hxi];rfl
       have hxe : ((x : Int) == i) = true:=by rw [hxi];simp
       clear HF hx hK hfd hf hxi
       go_wp2_with fail
       refine t_region (Grows) [(0,false),(1,false),(2,false),(3,false),(4,false),(5,false),(6,false),(7,false),(8,false),(9,false),(10,false),(11,false),(12,false),(13,false),(14,false),(15,false),(16,false),(17,false)] Grows.refl Grows.trans (by kernel_rfl) (by kernel_rfl) (fun d _ _ _ _ h => by cases d <;> exact h) ?_
       iterate 18 (refine t_quiet rfl (fun K hK => ?_);go_simp;refine hK _ ?_;clear hK K)
       refine t_end ?_
       clear z0 z1
       go_wp2_with fail
       go_roundw
       case rel => exact ⟨j + 1,by omega,by rw [HK.out];go_num,by rw [HF2.out],hg.out.dr⟩
       case measure => have:=HK.out;have:=HE.out;simp [intOf];omega
      ·have HF2 : Hid (decide (ti < j + 1) = false):=by show _ = _;rw [← HF.out,decide_eq_false hxi];rfl
       have hxe : ((x : Int) == i) = false:=by simp;omega
       clear HF hx hK hfd hf hxi
       go_wp2_with fail
       refine t_region (Grows) [(0,false),(1,false),(2,false),(3,false),(4,false),(5,false),(6,false),(7,false),(8,false),(9,false),(10,false),(11,false),(12,false),(13,false),(14,false),(15,false),(16,false),(17,false)] Grows.refl Grows.trans (by kernel_rfl) (by kernel_rfl) (fun d _ _ _ _ h => by cases d <;> exact h) ?_
       iterate 18 (refine t_quiet rfl (fun K hK => ?_);go_simp;refine hK _ ?_;clear hK K)
       refine t_end ?_
       clear z0 z1
       go_wp2_with fail
       go_roundw
       case rel => exact ⟨j + 1,by omega,by rw [HK.out];go_num,by rw [HF2.out],hg.out.dr⟩
       case measure => have:=HK.out;have:=HE.out;simp [intOf];omega
    ·obtain ⟨y,hy⟩ : ∃ y,g[j - 1]? = some y:=⟨_,List.getElem?_eq_getElem (by omega)⟩
     obtain ⟨K1,hK1⟩ : ∃ q,q = K - 1:=⟨_,rfl⟩
     have hcy : wr.cell? ⟨ab,ao + K1,none⟩ = some (.int .i64 y):=hg.out.cell (HCA.out K1 y (by rw [show K1 = lo + (j - 1) by omega,HWIN.out (j - 1) (by omega)];exact hy))
     have hyx : ¬ (x : Int) ≤ y:=by
      obtain ⟨p1,p2⟩:=List.getElem?_eq_some_iff.1 hx
      obtain ⟨p3,p4⟩:=List.getElem?_eq_some_iff.1 hy
      have:=List.pairwise_iff_getElem.1 HASC.out (j - 1) j p3 p1 (by omega)
      omega
     have wK1 : IntKind.i64.wrap ((K : Int) - 1) = K1:=by simp [IntKind.wrap,IntKind.bits,IntKind.signed];omega
     have hK1n : (K1 : Int) < E:=by have:=HE.out;omega
     have hKl : (lo : Int) < K:=by omega
     have hKlN : lo < K:=by omega
     have z2 : ∀ q : Ext Grows wr.drew,q.u.cell? ⟨ab,ao + K1,none⟩ = some (.int .i64 y):=ext_cell ((Grows.drew wr).cell hcy)
     clear hy hcy hK1
     by_cases hf : ti < j
     ·have hfd : decide (ti < j) = true:=decide_eq_true hf
      have HF2 : Hid (decide (ti < j + 1) = true):=by show _ = _;rw [← HF.out,hfd];rfl
      rw [hfd]
      clear HF hx hK hfd hf
      go_wp2_with fail
      refine t_region (Grows) [(0,false),(1,false),(2,false),(3,false),(4,false),(5,false),(6,false),(7,false),(8,false),(9,false),(10,false),(11,false),(12,false),(13,false),(14,false),(15,false),(16,false),(17,false)] Grows.refl Grows.trans (by kernel_rfl) (by kernel_rfl) (fun d _ _ _ _ h => by cases d <;> exact h) ?_
      iterate 18 (refine t_quiet rfl (fun K hK => ?_);go_simp;refine hK _ ?_;clear hK K)
      refine t_end ?_
      clear z0 z1 z2
      go_wp2_with fail
      go_roundw
      case rel => exact ⟨j + 1,by omega,by rw [HK.out];go_num,by rw [HF2.out],hg.out.dr⟩
      case measure => have:=HK.out;have:=HE.out;simp [intOf];omega
     ·have hfd : decide (ti < j) = false:=decide_eq_false hf
      rw [hfd] at HF ⊢
      by_cases hxi : x = i
      ·have HF2 : Hid (decide (ti < j + 1) = true):=by show _ = _;rw [← HF.out,decide_eq_true hxi];rfl
       have hxe : ((x : Int) == i) = true:=by rw [hxi];simp
       clear HF hx hK hfd hf hxi
       go_wp2_with fail
       refine t_region (Grows) [(0,false),(1,false),(2,false),(3,false),(4,false),(5,false),(6,false),(7,false),(8,false),(9,false),(10,false),(11,false),(12,false),(13,false),(14,false),(15,false),(16,false),(17,false)] Grows.refl Grows.trans (by kernel_rfl) (by kernel_rfl) (fun d _ _ _ _ h => by cases d <;> exact h) ?_
       iterate 18 (refine t_quiet rfl (fun K hK => ?_);go_simp;refine hK _ ?_;clear hK K)
       refine t_end ?_
       clear z0 z1 z2
       go_wp2_with fail
       go_roundw
       case rel => exact ⟨j + 1,by omega,by rw [HK.out];go_num,by rw [HF2.out],hg.out.dr⟩
       case measure => have:=HK.out;have:=HE.out;simp [intOf];omega
      ·have HF2 : Hid (decide (ti < j + 1) = false):=by show _ = _;rw [← HF.out,decide_eq_false hxi];rfl
       have hxe : ((x : Int) == i) = false:=by simp;omega
       clear HF hx hK hfd hf hxi
       go_wp2_with fail
       refine t_region (Grows) [(0,false),(1,false),(2,false),(3,false),(4,false),(5,false),(6,false),(7,false),(8,false),(9,false),(10,false),(11,false),(12,false),(13,false),(14,false),(15,false),(16,false),(17,false)] Grows.refl Grows.trans (by kernel_rfl) (by kernel_rfl) (fun d _ _ _ _ h => by cases d <;> exact h) ?_
       iterate 18 (refine t_quiet rfl (fun K hK => ?_);go_simp;refine hK _ ?_;clear hK K)
       refine t_end ?_
       clear z0 z1 z2
       go_wp2_with fail
       go_roundw
       case rel => exact ⟨j + 1,by omega,by rw [HK.out];go_num,by rw [HF2.out],hg.out.dr⟩
       case measure => have:=HK.out;have:=HE.out;simp [intOf];omega
   ·obtain rfl : j = g.length:=by omega
    have hKE : ¬ (K : Int) < E:=by have:=HE.out;omega
    have hti : ti < g.length:=(List.getElem?_eq_some_iff.1 HTI.out).1
    rw [decide_eq_true hti]
    clear hK hti
    go_wp2_with fail
    go_ret
    exact ⟨rfl,hg.out⟩
end Go.Proofs.YtepoiefadjoabaaGreatDoor
