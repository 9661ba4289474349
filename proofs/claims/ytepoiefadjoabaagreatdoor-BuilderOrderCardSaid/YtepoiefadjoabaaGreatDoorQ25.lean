/- The texts RdS, one behind the other. -/
import Derived.Test.YtepoiefadjoabaaGreatDoorQ23
import Derived.Test.YtepoiefadjoabaaGreatDoorQ12
namespace Go.Proofs.YtepoiefadjoabaaGreatDoor
open Go Go.RowKit
attribute [local go_sem] quietE quietE2
theorem conv_at2 {w : World} {a : Option Addr} {c : Nat} {l : List UInt8} (h : AtCells w a 1 (l.map byteC)) : (convert 28 9 (.slice a l.length c)).run Tryz.prog w = .ok (.string (mkB l)) w := by
 cases l with
 | nil =>
  rw [run_convert_bytes_string w 28 9 5 a ([] : List UInt8).length c Tryz.underlying28 Tryz.underlying5 Tryz.underlying9]
  cases a <;> (simp [Conv.bytesToString];rfl)
 | cons x r =>
  obtain ⟨b,o,rfl,hc⟩:=h.get (by simp)
  generalize hL : x :: r = L at *
  have hz : (mkB L).size = L.length:=by rw [Lib.size_eq,mkB_data]
  have hB : Lib.Bytes w b o (mkB L):=fun i hi => by
   rw [hz] at hi
   have h1:=hc i L[i] (List.getElem?_eq_getElem hi) 0 _ rfl
   have hg : (mkB L)[i]'(by rw [hz];exact hi) = L[i]:=rfl
   rw [hg]
   simpa using h1
  have:=Lib.run_convert_whole (P:=Tryz.prog) w 28 5 9 Tryz.underlying28 Tryz.underlying5 Tryz.underlying9 b o (mkB L) hB c
  rw [hz] at this
  exact this
def rdT (l : List UInt8) : Option (ByteArray × Nat) := match rdU l with
 | none => none
 | some (n,j) => if n ≤ (l.drop j).length then some (mkB ((l.drop j).take n),j + n) else none
def textR (k : Nat) : Option (ByteArray × Nat) → Value
 | some (v,n) => .tuple #[.string v,.int .i64 ((k + n : Nat) : Int),.bool true]
 | none => .tuple #[.string ⟨#[]⟩,.int .i64 0,.bool false]
def RdTPost (R : Option (ByteArray × Nat)) (rb k : Nat) (w : World) (e : Ending) (w' : World) : Prop :=
 ((∃ v n,R = some (v,n)∧e = .returned (.string v)∧w'.cell? ⟨rb,1,none⟩ = some (.int .i64 ((k + n : Nat) : Int))) ∨ (R = none∧e = .panicked [{ v:=failV,recovered:=false }]))∧EB rb w w'
set_option maxRecDepth 100000 in
set_option maxHeartbeats 2000000 in
theorem rdcs_panic (p0 p1 p2 : Nat) (w : World) (older : List PanicEntry) (v0 v1 v2 : Value) (c0 : w.cell? ⟨p0, 0, none⟩ = some v0) (c1 : w.cell? ⟨p1, 0, none⟩ = some v1) (c2 : w.cell? ⟨p2, 0, none⟩ = some v2)
  (f0 : w.frozen? ⟨p0,0,none⟩ = false) (f1 : w.frozen? ⟨p1,0,none⟩ = false) (f2 : w.frozen? ⟨p2,0,none⟩ = false) (n01 : p0 ≠ p1) (n02 : p0 ≠ p2) (n12 : p1 ≠ p2) (B : Nat) (hB0 : B ≤ p0) (hB1 : B ≤ p1) (hB2 : B ≤ p2) :
  CallsD Tryz.prog 204 #[.pointer (some ⟨p0,0,none⟩),.pointer (some ⟨p1,0,none⟩),.pointer (some ⟨p2,0,none⟩)] (.panicking ({ v:=failV,recovered:=false } :: older)) w fun e u' w' =>
   e = .returned (.tuple #[])∧u' = .panicking ({ v:=failV,recovered:=true } :: older)∧w'.cell? ⟨p0,0,none⟩ = some (.string ⟨#[]⟩)∧w'.cell? ⟨p1,0,none⟩ = some (.int .i64 0)∧w'.cell? ⟨p2,0,none⟩ = some (.bool false)∧EB B w w':=by
 have hta : ∀ W : World,(Instr.typeAssert (.iface 250 (.agg #[])) 20 250 true).run Tryz.prog W = .ok (.tuple #[.agg #[],.bool true]) W:=fun W => by kernel_rfl
 have hga:=Grows.alloc w (.cells #[] 250)
 have b0:=World.block_lt_of_cell? w _ c0
 have b1:=World.block_lt_of_cell? w _ c1
 have b2:=World.block_lt_of_cell? w _ c2
 have d0:=hga.cell c0
 have d1:=hga.cell c1
 have d2:=hga.cell c2
 have g0:=(hga.froz (p:=⟨p0,0,none⟩) b0).trans f0
 have g1:=(hga.froz (p:=⟨p1,0,none⟩) b1).trans f1
 have g2:=(hga.froz (p:=⟨p2,0,none⟩) b2).trans f2
 have e1 : (w.alloc (.cells #[] 250) |>.setCell ⟨p0,0,none⟩ (.string ⟨#[]⟩)).cell? ⟨p1,0,none⟩ = some v1:=(World.cell?_setCell_other _ _ _ _ (fun e => n01 (congrArg Addr.block e))).trans d1
 have e2 : ((w.alloc (.cells #[] 250) |>.setCell ⟨p0,0,none⟩ (.string ⟨#[]⟩)).setCell ⟨p1,0,none⟩ (.int .i64 0)).cell? ⟨p2,0,none⟩ = some v2:=(World.cell?_setCell_other _ _ _ _ (fun e => n12 (congrArg Addr.block e))).trans ((World.cell?_setCell_other _ _ _ _ (fun e => n02 (congrArg Addr.block e))).trans d2)
 refine callsD_of_wpS Tryz.func204 rfl fun c₀ cs hu => ?_
 apply wpS_seq
 apply wpS_region
 simp [wpOpsS,go_sem,recoverD,hu,Tryz.ntmps204,Exit.thenS,failV]
 refine wpS_of_wp ?_
 rw [show (#[Value.pointer (some ⟨p0,0,none⟩),.pointer (some ⟨p1,0,none⟩),.pointer (some ⟨p2,0,none⟩)] ++ (Array.replicate 11 undef).setIfInBounds 4 (.iface 250 (.agg #[]))) = #[.pointer (some ⟨p0,0,none⟩),.pointer (some ⟨p1,0,none⟩),.pointer (some ⟨p2,0,none⟩),undef,undef,undef,undef,.iface 250 (.agg #[]),undef,undef,undef,undef,undef,undef] from rfl]
 go_wp2
 have hs0 : (((w.setCell ⟨p0,0,none⟩ (.string ⟨#[]⟩)).setCell ⟨p1,0,none⟩ (.int .i64 0)).setCell ⟨p2,0,none⟩ (.bool false)).cell? ⟨p0,0,none⟩ = some (.string ⟨#[]⟩):=by
  rw [World.cell?_setCell_other _ _ _ _ (fun e => n02 (congrArg Addr.block e).symm),World.cell?_setCell_other _ _ _ _ (fun e => n01 (congrArg Addr.block e).symm)]
  exact World.cell?_setCell_same _ _ _ c0
 have hs1 : (((w.setCell ⟨p0,0,none⟩ (.string ⟨#[]⟩)).setCell ⟨p1,0,none⟩ (.int .i64 0)).setCell ⟨p2,0,none⟩ (.bool false)).cell? ⟨p1,0,none⟩ = some (.int .i64 0):=by
  rw [World.cell?_setCell_other _ _ _ _ (fun e => n12 (congrArg Addr.block e).symm)]
  exact World.cell?_setCell_same _ _ _ ((World.cell?_setCell_other _ _ _ _ (fun e => n01 (congrArg Addr.block e))).trans c1)
 have hs2 : (((w.setCell ⟨p0,0,none⟩ (.string ⟨#[]⟩)).setCell ⟨p1,0,none⟩ (.int .i64 0)).setCell ⟨p2,0,none⟩ (.bool false)).cell? ⟨p2,0,none⟩ = some (.bool false) :=
  World.cell?_setCell_same _ _ _ ((World.cell?_setCell_other _ _ _ _ (fun e => n12 (congrArg Addr.block e))).trans ((World.cell?_setCell_other _ _ _ _ (fun e => n02 (congrArg Addr.block e))).trans c2))
 have hbl : Below B w ((((w.setCell ⟨p0,0,none⟩ (.string ⟨#[]⟩)).setCell ⟨p1,0,none⟩ (.int .i64 0)).setCell ⟨p2,0,none⟩ (.bool false)).alloc (.cells #[] 250)):=((((Below.refl B w).setCell (p:=⟨p0,0,none⟩) hB0 _).setCell (p:=⟨p1,0,none⟩) hB1 _).setCell (p:=⟨p2,0,none⟩) hB2 _).alloc (by simp;omega) _
 have hal:=Grows.alloc (((w.setCell ⟨p0,0,none⟩ (.string ⟨#[]⟩)).setCell ⟨p1,0,none⟩ (.int .i64 0)).setCell ⟨p2,0,none⟩ (.bool false)) (.cells #[] 250)
 have k0:=hal.cell hs0
 have k1:=hal.cell hs1
 have k2:=hal.cell hs2
 have heb : EB B w ((((w.setCell ⟨p0,0,none⟩ (.string ⟨#[]⟩)).setCell ⟨p1,0,none⟩ (.int .i64 0)).setCell ⟨p2,0,none⟩ (.bool false)).alloc (.cells #[] 250)):=⟨hbl,hbl.size⟩
 exact ⟨rfl,_,rfl,_,results_none rfl _ _ _,rfl,rfl,k0,k1,k2,heb⟩
set_option maxRecDepth 100000 in
set_option maxHeartbeats 2000000 in
theorem rdcs_ret (p0 p1 p2 : Nat) (w : World) :
  CallsD Tryz.prog 204 #[.pointer (some ⟨p0,0,none⟩),.pointer (some ⟨p1,0,none⟩),.pointer (some ⟨p2,0,none⟩)] .returning w fun e u' w' => e = .returned (.tuple #[])∧u' = .returning∧w' = w:=by
 refine callsD_of_wpS Tryz.func204 rfl fun c₀ cs hu => ?_
 apply wpS_seq
 apply wpS_region
 simp [wpOpsS,go_sem,recoverD,hu,Tryz.ntmps204,Exit.thenS]
 refine wpS_of_wp ?_
 rw [show (#[Value.pointer (some ⟨p0,0,none⟩),.pointer (some ⟨p1,0,none⟩),.pointer (some ⟨p2,0,none⟩)] ++ (Array.replicate 11 undef).setIfInBounds 4 .nilIface) = #[.pointer (some ⟨p0,0,none⟩),.pointer (some ⟨p1,0,none⟩),.pointer (some ⟨p2,0,none⟩),undef,undef,undef,undef,.nilIface,undef,undef,undef,undef,undef,undef] from rfl]
 go_wp2
 cases c₀
 simp only at hu
 subst hu
 exact ⟨rfl,_,rfl,_,results_none rfl _ _ _,rfl,rfl,rfl⟩
set_option maxHeartbeats 4000000 in
set_option maxRecDepth 100000 in
theorem rdt_any (b : List UInt8) (rb k : Nat) (ba : Option Addr) (bc : Nat) (w : World) (hk : k ≤ b.length) (hb : b.length ≤ 1099511627776) (hbc : b.length ≤ bc) (hnc : ba = none → bc = 0) (hat : AtCells w ba 1 (b.map byteC)) (hba : ∀ q : Addr, ba = some q → b ≠ [] → q.block < rb)
  (c0 : w.cell? ⟨rb,0,none⟩ = some (.slice ba b.length bc)) (c1 : w.cell? ⟨rb,1,none⟩ = some (.int .i64 k)) (f1 : w.frozen? ⟨rb,1,none⟩ = false) :
  Calls Tryz.prog 159 #[.pointer (some ⟨rb,0,none⟩)] w (RdTPost (rdT (b.drop k)) rb k w):=by
 have hRT : ∀ n j,rdU (b.drop k) = some (n,j) → rdT (b.drop k) = if n ≤ (b.drop (k + j)).length then some (mkB ((b.drop (k + j)).take n),j + n) else none:=fun n j h => by
  unfold rdT
  rw [h]
  simp only
  rw [List.drop_drop]
 have hR0 : rdU (b.drop k) = none → rdT (b.drop k) = none:=fun h => by unfold rdT;rw [h]
 have CN:=Lib.hid (rdn_any b rb k ba bc w hk hb hat hba c0 c1 f1)
 have HAT:=Lib.hid hat
 have HNC:=Lib.hid hnc
 have HBA:=Lib.hid hba
 have hrb:=World.block_lt_of_cell? w _ c0
 simp only at hrb
 cases hU : rdU (b.drop k) with
 | none =>
  rw [hU] at CN
  have HR:=Lib.hid (hR0 hU)
  clear hRT hR0 hU hat hba
  go_enter Tryz.func159,Tryz.ntmps159
  go_wp2_with fail
  refine CN.out.mono ?_
  rintro e w1 ⟨hres,heb⟩
  rcases hres with ⟨v,n,hR,_⟩ | ⟨_,rfl⟩
  ·cases hR
  ·exact ⟨rfl,Or.inr ⟨HR.out,rfl⟩,heb⟩
 | some x =>
  obtain ⟨n,j⟩:=x
  rw [hU] at CN
  have HR:=Lib.hid (hRT n j hU)
  obtain ⟨r,hn64,hlr,hjj⟩:=rdU_iff.1 hU
  have hj : j ≤ b.length - k:=by
   have:=congrArg List.length hlr
   rw [List.length_drop,List.length_append] at this
   omega
  clear hlr hjj r
  clear hRT hR0 hat hba hU
  obtain ⟨K,hK⟩ : ∃ K,K = k + j:=⟨_,rfl⟩
  have hKb : K ≤ b.length:=by omega
  rw [← hK] at HR
  have HK:=Lib.hid hK
  go_enter Tryz.func159,Tryz.ntmps159
  go_wp2_with fail
  refine CN.out.mono ?_
  rintro e w1 ⟨hres,heb⟩
  rcases hres with ⟨v,n',hR,rfl,hc1,hc0,hf1⟩ | ⟨hR,_⟩
  case inr => cases hR
  obtain ⟨rfl,rfl⟩ : n = v∧j = n':=by simpa using hR
  rw [← hK] at hc1
  have z0 : ∀ x : Ext Grows w1.drew,x.u.cell? ⟨rb,0,none⟩ = some (.slice ba b.length bc):=ext_cell ((Grows.drew w1).cell hc0)
  have z1 : ∀ x : Ext Grows w1.drew,x.u.cell? ⟨rb,1,none⟩ = some (.int .i64 (K : Int)):=ext_cell ((Grows.drew w1).cell hc1)
  have wsub : IntKind.i64.wrap ((b.length : Int) - (K : Int)) = ((b.length - K : Nat) : Int):=by simp [IntKind.wrap,IntKind.bits,IntKind.signed];omega
  have wcv : IntKind.u64.wrap ((b.length - K : Nat) : Int) = ((b.length - K : Nat) : Int):=by simp [IntKind.wrap,IntKind.bits,IntKind.signed];omega
  clear hR hK
  by_cases hbig : b.length - K < n
  ·have hbi : ((b.length - K : Nat) : Int) < n:=by omega
   have HRN : Hid (rdT (b.drop k) = none):=by show _ = _;rw [HR.out,if_neg (by rw [List.length_drop];omega)]
   clear HR
   go_wp2_with fail
   refine t_region (Grows) [(0,false),(1,false),(2,false),(3,false),(4,false),(5,false),(6,false),(7,false),(8,false),(9,false),(10,false),(11,false),(12,false)] Grows.refl Grows.trans (by kernel_rfl) (by kernel_rfl) (fun d _ _ _ _ h => by cases d <;> exact h) ?_
   iterate 13 (refine t_quiet rfl (fun K hK => ?_);go_simp;refine hK _ ?_;clear hK K)
   refine t_end ?_
   clear z0 z1
   go_wp2_with fail
   exact ⟨rfl,Or.inr ⟨HRN.out,rfl⟩,EB.trans _ _ _ _ heb (EB.of (Grows.drew w1) (Nat.le_trans (Nat.le_of_lt hrb) heb.2))⟩
  ·have hbi : ¬ ((b.length - K : Nat) : Int) < n:=by omega
   have HRS : Hid (rdT (b.drop k) = some (mkB ((b.drop K).take n),j + n)):=by show _ = _;rw [HR.out,if_pos (by rw [List.length_drop];omega)]
   clear HR
   go_wp2_with fail
   refine t_region (Grows) [(0,false),(1,false),(2,false),(3,false),(4,false),(5,false),(6,false),(7,false),(8,false),(9,false),(10,false),(11,false),(12,false)] Grows.refl Grows.trans (by kernel_rfl) (by kernel_rfl) (fun d _ _ _ _ h => by cases d <;> exact h) ?_
   iterate 13 (refine t_quiet rfl (fun K hK => ?_);go_simp;refine hK _ ?_;clear hK K)
   refine t_end ?_
   clear z0 z1
   have y0 : ∀ x : Ext Grows w1.drew.drew,x.u.cell? ⟨rb,0,none⟩ = some (.slice ba b.length bc):=ext_cell ((Grows.drew _).cell ((Grows.drew w1).cell hc0))
   have y1 : ∀ x : Ext Grows w1.drew.drew,x.u.cell? ⟨rb,1,none⟩ = some (.int .i64 (K : Int)):=ext_cell ((Grows.drew _).cell ((Grows.drew w1).cell hc1))
   have wn : IntKind.i64.wrap (n : Int) = n:=by simp [IntKind.wrap,IntKind.bits,IntKind.signed];omega
   have wa : IntKind.i64.wrap ((K : Int) + n) = ((K + n : Nat) : Int):=by simp [IntKind.wrap,IntKind.bits,IntKind.signed];omega
   go_wp2_with fail
   refine t_region (Grows) [(0,false),(1,false),(2,false),(3,false),(4,false),(5,false),(6,false),(7,false),(8,false),(9,false),(10,false),(11,false),(12,false),(13,false),(14,false),(15,false),(16,false),(17,false)] Grows.refl Grows.trans (by kernel_rfl) (by kernel_rfl) (fun d _ _ _ _ h => by cases d <;> exact h) ?_
   have h01 : (0 : Int) ≤ (K : Int) + n:=by omega
   have h02 : (K : Int) + n ≤ bc:=by omega
   have tn : ((K : Int) + n).toNat = K + n:=by omega
   have tk : K ≤ K + n:=by omega
   have tm : K + n - K = n:=by omega
   have HAT1 : AtCells w1 ba 1 (b.map byteC):=fun hne => by
    obtain ⟨bb,bo,e,hc⟩:=HAT.out hne
    have hlt:=HBA.out _ e (fun h0 => hne (by rw [h0];rfl))
    exact ⟨bb,bo,e,fun i row hi j v hj => (Below.cell heb.1 (by simpa using hlt)).trans (hc i row hi j v hj)⟩
   obtain ⟨a',hsl,hat',_⟩:=sliced_at (c:=bc) (l:=K) (h:=K + n) (k:=1) HAT1 HNC.out (by omega) (by omega) (by omega)
   rw [show K + n - K = n by omega] at hsl
   have hsl2 : (if bc = K then ba else Option.map (fun x => x.add K) ba) = a':=by
    unfold sliced at hsl
    by_cases hbk : bc = K
    ·rw [if_pos hbk] at hsl ⊢;exact (Value.slice.inj hsl).1
    ·rw [if_neg hbk] at hsl ⊢
     have:=(Value.slice.inj hsl).1
     rw [← this]
     congr 1
     funext x
     rw [Nat.mul_one]
   have hll : ((b.take (K + n)).drop K) = (b.drop K).take n:=by rw [List.take_drop]
   have hln : ((b.drop K).take n).length = n:=by rw [List.length_take,List.length_drop];omega
   rw [hll] at hat'
   have hcv : ∀ x : Ext Grows w1.drew.drew,(convert 28 9 (.slice a' n (bc - K))).run Tryz.prog x.u = .ok (.string (mkB ((b.drop K).take n))) x.u:=fun x => by
    have:=conv_at2 (c:=bc - K) (hat'.grows (Grows.trans _ _ _ (Grows.trans _ _ _ (Grows.drew w1) (Grows.drew _)) x.h))
    rw [hln] at this
    exact this
   generalize (b.drop K).take n = S at *
   iterate 18 (refine t_quiet rfl (fun K hK => ?_);go_simp;refine hK _ ?_;clear hK K)
   refine t_end ?_
   go_wp2_with fail
   go_ret
   refine ⟨Or.inl ⟨_,_,HRS.out,rfl, ?_⟩,EB.trans _ _ _ _ (EB.trans _ _ _ _ heb (⟨(Below.refl rb w1).setCell (p:=⟨rb,1,none⟩) (Nat.le_refl rb) _,by simp⟩ : EB rb w1 (w1.setCell ⟨rb,1,none⟩ (.int .i64 ((K : Int) + n))))) (EB.of ((Grows.drew _).dr) (by simp;exact Nat.le_trans (Nat.le_of_lt hrb) heb.2))⟩
   rw [show ((k + (j + n) : Nat) : Int) = (K : Int) + n by rw [HK.out];push_cast;omega]
   exact World.cell?_setCell_same _ _ _ hc1
structure RdBs (w : World) (s : Value) (k : Int) (W : World) : Prop where
 g : Grows w W
 sz : w.heap.size + 1 + 1 + 1 < W.heap.size
 c0 : W.cell? ⟨w.heap.size,0,none⟩ = some (.string ⟨#[]⟩)
 f0 : W.frozen? ⟨w.heap.size,0,none⟩ = false
 c1 : W.cell? ⟨w.heap.size + 1,0,none⟩ = some (.int .i64 0)
 f1 : W.frozen? ⟨w.heap.size + 1,0,none⟩ = false
 c2 : W.cell? ⟨w.heap.size + 1 + 1,0,none⟩ = some (.bool false)
 f2 : W.frozen? ⟨w.heap.size + 1 + 1,0,none⟩ = false
 r0 : W.cell? ⟨w.heap.size + 1 + 1 + 1,0,none⟩ = some s
 r1 : W.cell? ⟨w.heap.size + 1 + 1 + 1,1,none⟩ = some (.int .i64 k)
 rf : W.frozen? ⟨w.heap.size + 1 + 1 + 1,1,none⟩ = false
theorem rdBs (w : World) (s : Value) (k : Int) : RdBs w s k ((((w.alloc (.cells #[.string ⟨#[]⟩] 9)).alloc (.cells #[.int .i64 0] 3)).alloc (.cells #[.bool false] 4)).alloc (.cells #[s, .int .i64 k] 252)) := by
 have e1 : (w.alloc (.cells #[.string ⟨#[]⟩] 9)).heap.size = w.heap.size + 1:=by simp
 have e2 : ((w.alloc (.cells #[.string ⟨#[]⟩] 9)).alloc (.cells #[.int .i64 0] 3)).heap.size = w.heap.size + 1 + 1:=by simp
 have e3 : (((w.alloc (.cells #[.string ⟨#[]⟩] 9)).alloc (.cells #[.int .i64 0] 3)).alloc (.cells #[.bool false] 4)).heap.size = w.heap.size + 1 + 1 + 1:=by simp
 have b0:=box_cells2 (w:=w) (cs:=#[.string ⟨#[]⟩]) (t:=9) (w':=((((w.alloc (.cells #[.string ⟨#[]⟩] 9)).alloc (.cells #[.int .i64 0] 3)).alloc (.cells #[.bool false] 4)).alloc (.cells #[s,.int .i64 k] 252))) (((Grows.alloc _ _).al _).al _)
 have b1:=box_cells2 (w:=w.alloc (.cells #[.string ⟨#[]⟩] 9)) (cs:=#[.int .i64 0]) (t:=3) (w':=((((w.alloc (.cells #[.string ⟨#[]⟩] 9)).alloc (.cells #[.int .i64 0] 3)).alloc (.cells #[.bool false] 4)).alloc (.cells #[s,.int .i64 k] 252))) ((Grows.alloc _ _).al _)
 have b2:=box_cells2 (w:=(w.alloc (.cells #[.string ⟨#[]⟩] 9)).alloc (.cells #[.int .i64 0] 3)) (cs:=#[.bool false]) (t:=4) (w':=((((w.alloc (.cells #[.string ⟨#[]⟩] 9)).alloc (.cells #[.int .i64 0] 3)).alloc (.cells #[.bool false] 4)).alloc (.cells #[s,.int .i64 k] 252))) (Grows.alloc _ _)
 have b3:=box_cells2 (w:=((w.alloc (.cells #[.string ⟨#[]⟩] 9)).alloc (.cells #[.int .i64 0] 3)).alloc (.cells #[.bool false] 4)) (cs:=#[s,.int .i64 k]) (t:=252) (w':=((((w.alloc (.cells #[.string ⟨#[]⟩] 9)).alloc (.cells #[.int .i64 0] 3)).alloc (.cells #[.bool false] 4)).alloc (.cells #[s,.int .i64 k] 252))) (Grows.refl _)
 rw [e1] at b1
 rw [e2] at b2
 rw [e3] at b3
 exact ⟨(((Grows.alloc _ _).al _).al _).al _,by simp,b0.1 0 _ rfl,b0.2 0,b1.1 0 _ rfl,b1.2 0,b2.1 0 _ rfl,b2.2 0,b3.1 0 _ rfl,b3.1 1 _ rfl,b3.2 1⟩
set_option maxHeartbeats 4000000 in
set_option maxRecDepth 100000 in
theorem reads_any (b : List UInt8) (k : Nat) (ba : Option Addr) (bc : Nat) (w : World) (hk : k ≤ b.length) (hb : b.length ≤ 1099511627776) (hbc : b.length ≤ bc) (hnc : ba = none → bc = 0) (hat : AtCells w ba 1 (b.map byteC)) :
  Calls Tryz.prog 158 #[.slice ba b.length bc,.int .i64 k,.func (.func 159) #[] #[]] w fun e w' => e = .returned (textR k (rdT (b.drop k)))∧Grows w w':=by
 have hmf : ∀ (fn : Fn) (first cap : Array Value) (w : World),(Instr.makeFunc fn first cap).run Tryz.prog w = .ok (.func fn first cap) w:=fun _ _ _ _ => rfl
 have hk0 : ¬ (k : Int) < 0:=by omega
 have HAT:=Lib.hid hat
 have HBA : Hid (∀ q : Addr,ba = some q → b ≠ [] → q.block < w.heap.size):=fun q hq hne => by
  obtain ⟨x,hx⟩ : ∃ x,b[0]? = some x:=⟨_,List.getElem?_eq_getElem (List.length_pos_iff.2 hne)⟩
  obtain ⟨bb,bo,e,hbc⟩:=hat.get hne
  rw [e] at hq
  cases hq
  exact World.block_lt_of_cell? _ _ (hbc 0 x hx 0 _ rfl)
 obtain ⟨R,hR⟩ : ∃ R,R = rdT (b.drop k):=⟨_,rfl⟩
 have HR:=Lib.hid hR
 rw [← hR]
 clear hR hat
 go_enter_defers Tryz.func158,Tryz.ntmps158
 go_wp2_with fail
 have hB:=rdBs w (.slice ba b.length bc) k
 generalize ((((w.alloc (.cells #[Value.string ⟨#[]⟩] 9)).alloc (.cells #[.int .i64 0] 3)).alloc (.cells #[.bool false] 4)).alloc (.cells #[Value.slice ba b.length bc,.int .i64 k] 252)) = W4 at *
 refine (rdt_any b _ k ba bc W4 hk hb hbc hnc (HAT.out.grows hB.g) (fun q hq hne => Nat.lt_trans (HBA.out q hq hne) (by omega)) hB.r0 hB.r1 hB.rf).mono ?_
 rintro e w5 ⟨hres,heb⟩
 rw [← HR.out] at hres
 have hs5:=heb.2
 have hsz:=hB.sz
 have c0 : w5.cell? ⟨w.heap.size,0,none⟩ = _:=(Below.cell heb.1 (by simp only;omega)).trans hB.c0
 have c1 : w5.cell? ⟨w.heap.size + 1,0,none⟩ = _:=(Below.cell heb.1 (by simp only;omega)).trans hB.c1
 have c2 : w5.cell? ⟨w.heap.size + 1 + 1,0,none⟩ = _:=(Below.cell heb.1 (by simp only;omega)).trans hB.c2
 have f0 : w5.frozen? ⟨w.heap.size,0,none⟩ = _:=(Below.frozen heb.1 (by simp only;omega)).trans hB.f0
 have f1 : w5.frozen? ⟨w.heap.size + 1,0,none⟩ = _:=(Below.frozen heb.1 (by simp only;omega)).trans hB.f1
 have f2 : w5.frozen? ⟨w.heap.size + 1 + 1,0,none⟩ = _:=(Below.frozen heb.1 (by simp only;omega)).trans hB.f2
 have hg5 : Grows w w5:=eb_grows2 hB.g heb (by omega)
 rcases hres with ⟨v,n,rfl,rfl,hc⟩ | ⟨rfl,rfl⟩
 ·have g0 : (w5.setCell ⟨w.heap.size,0,none⟩ (.string v)).cell? ⟨w.heap.size,0,none⟩ = some (.string v):=World.cell?_setCell_same _ _ _ c0
  have g1 : (w5.setCell ⟨w.heap.size,0,none⟩ (.string v)).cell? ⟨w.heap.size + 1,0,none⟩ = some (.int .i64 0):=(World.cell?_setCell_other _ _ _ _ (fun e => by have:=congrArg Addr.block e;simp only at this;omega)).trans c1
  have g2 : (w5.setCell ⟨w.heap.size,0,none⟩ (.string v)).cell? ⟨w.heap.size + 1 + 1,0,none⟩ = some (.bool false):=(World.cell?_setCell_other _ _ _ _ (fun e => by have:=congrArg Addr.block e;simp only at this;omega)).trans c2
  have g3 : (w5.setCell ⟨w.heap.size,0,none⟩ (.string v)).cell? ⟨w.heap.size + 1 + 1 + 1,1,none⟩ = some (.int .i64 ((k + n : Nat) : Int)):=(World.cell?_setCell_other _ _ _ _ (fun e => by have:=congrArg Addr.block e;simp only at this;omega)).trans hc
  have gg : ∀ j,j = w.heap.size ∨ j = w.heap.size + 1 ∨ j = w.heap.size + 1 + 1 → (w5.setCell ⟨w.heap.size,0,none⟩ (.string v)).frozen? ⟨j,0,none⟩ = false:=fun j hj => by
   rw [World.frozen?_setCell]
   rcases hj with rfl | rfl | rfl
   ·exact f0
   ·exact f1
   ·exact f2
  obtain ⟨K,hK2⟩ : ∃ K,K = k + n:=⟨_,rfl⟩
  rw [← hK2] at g3 hc
  have HK2:=Lib.hid hK2
  clear hK2
  have hgp : Grows w (w5.setCell ⟨w.heap.size,0,none⟩ (.string v)):=hg5.set (by simp only;omega) _
  have hsp : w.heap.size + 1 + 1 + 1 < (w5.setCell ⟨w.heap.size,0,none⟩ (.string v)).heap.size:=by simp;omega
  clear HR hB heb c1 c2 f1 f2 hc hg5
  go_wp2_with fail
  clear c0 f0
  generalize (w5.setCell ⟨w.heap.size,0,none⟩ (.string v)) = w6 at *
  have z0 : ∀ x : Ext (ES w.heap.size (.string v)) w6.drew,x.u.cell? ⟨w.heap.size,0,none⟩ = some (.string v):=fun x => x.h.2.2.2.1 ((Grows.drew _).cell g0)
  have z3 : ∀ x : Ext (ES w.heap.size (.string v)) w6.drew,x.u.cell? ⟨w.heap.size + 1 + 1 + 1,1,none⟩ = some (.int .i64 (K : Int)):=fun x => x.h.2.1 _ _ (by simp only;omega) ((Grows.drew _).cell g3)
  have x0 : w6.drew.cell? ⟨w.heap.size,0,none⟩ = some (.string v):=g0
  have xf : w6.drew.frozen? ⟨w.heap.size,0,none⟩ = false:=gg _ (Or.inl rfl)
  refine wp_onlyN ?_
  refine t_tail (ES w.heap.size (.string v)) 6 [(0,false),(1,false),(2,false),(3,false),(4,false),(5,true)] (ES.refl _ _) (ES.trans _ _) (by kernel_rfl) (by kernel_rfl) (fun _ _ _ _ _ h => h) ?_
  iterate 5 (refine t_quiet rfl (fun K hK => ?_);go_simp;refine hK _ ?_;clear hK K)
  refine t_late rfl rfl (fun K hK => ?_)
  go_simp
  refine ⟨ES.put x0,hK _ _ ?_⟩
  clear hK K
  refine t_end ?_
  simp only [List.drop_succ_cons,List.drop_zero]
  clear z0 z3
  have n0:=g0
  have y0 : (w6.setCell ⟨w.heap.size,0,none⟩ (.string v)).cell? ⟨w.heap.size,0,none⟩ = some (.string v):=World.cell?_setCell_same _ _ _ g0
  have y1 : (w6.setCell ⟨w.heap.size,0,none⟩ (.string v)).cell? ⟨w.heap.size + 1,0,none⟩ = some (.int .i64 0):=(World.cell?_setCell_other _ _ _ _ (fun e => by have:=congrArg Addr.block e;simp only at this;omega)).trans g1
  have y2 : (w6.setCell ⟨w.heap.size,0,none⟩ (.string v)).cell? ⟨w.heap.size + 1 + 1,0,none⟩ = some (.bool false):=(World.cell?_setCell_other _ _ _ _ (fun e => by have:=congrArg Addr.block e;simp only at this;omega)).trans g2
  have yg : Grows w (w6.setCell ⟨w.heap.size,0,none⟩ (.string v)):=hgp.set (by simp only;omega) _
  have yf1 : (w6.setCell ⟨w.heap.size,0,none⟩ (.string v)).frozen? ⟨w.heap.size + 1,0,none⟩ = false:=(World.frozen?_setCell _ _ _ _).trans (gg _ (Or.inr (Or.inl rfl)))
  have yf2 : (w6.setCell ⟨w.heap.size,0,none⟩ (.string v)).frozen? ⟨w.heap.size + 1 + 1,0,none⟩ = false:=(World.frozen?_setCell _ _ _ _).trans (gg _ (Or.inr (Or.inr rfl)))
  clear x0 xf g0 g1 g2 g3 gg n0
  generalize w6.setCell ⟨w.heap.size,0,none⟩ (.string v) = w7 at *
  have k1 : ((w7.setCell ⟨w.heap.size + 1,0,none⟩ (.int .i64 K)).setCell ⟨w.heap.size + 1 + 1,0,none⟩ (.bool true)).drew.cell? ⟨w.heap.size + 1,0,none⟩ = some (.int .i64 K):=by
   refine (World.cell?_setCell_other _ _ _ _ (fun e => by have:=congrArg Addr.block e;simp only at this;omega)).trans ?_
   exact World.cell?_setCell_same _ _ _ y1
  have y2' : (w7.setCell ⟨w.heap.size + 1,0,none⟩ (.int .i64 K)).cell? ⟨w.heap.size + 1 + 1,0,none⟩ = some (.bool false):=by
   rw [World.cell?_setCell_other _ _ _ _ (fun e => by have:=congrArg Addr.block e;simp only at this;omega)]
   exact y2
  have k2 : ((w7.setCell ⟨w.heap.size + 1,0,none⟩ (.int .i64 K)).setCell ⟨w.heap.size + 1 + 1,0,none⟩ (.bool true)).drew.cell? ⟨w.heap.size + 1 + 1,0,none⟩ = some (.bool true):=World.cell?_setCell_same _ _ _ y2'
  have k0 : ((w7.setCell ⟨w.heap.size + 1,0,none⟩ (.int .i64 K)).setCell ⟨w.heap.size + 1 + 1,0,none⟩ (.bool true)).drew.cell? ⟨w.heap.size,0,none⟩ = some (.string v):=by
   refine (World.cell?_setCell_other _ _ _ _ (fun e => by have:=congrArg Addr.block e;simp only at this;omega)).trans ?_
   refine (World.cell?_setCell_other _ _ _ _ (fun e => by have:=congrArg Addr.block e;simp only at this;omega)).trans ?_
   exact y0
  have kg : Grows w ((w7.setCell ⟨w.heap.size + 1,0,none⟩ (.int .i64 K)).setCell ⟨w.heap.size + 1 + 1,0,none⟩ (.bool true)).drew:=((yg.set (by simp only;omega) _).set (by simp only;omega) _).dr
  go_wp2_with fail
  simp only [onlyN_normal]
  go_wp2_with fail
  refine leaves_cons (f:=204) (args:=#[.pointer (some ⟨w.heap.size,0,none⟩),.pointer (some ⟨w.heap.size + 1,0,none⟩),.pointer (some ⟨w.heap.size + 1 + 1,0,none⟩)]) (by simp) (by simp [go_sem]) ?_
  refine (rdcs_ret _ _ _ _).mono ?_
  rintro e u' w'' ⟨rfl,rfl,rfl⟩
  show Leaves _ _ _ _ _ _ _
  simp only [settle]
  refine ⟨.tuple #[.string v,.int .i64 K,.bool true], ?_,by rw [HK2.out];rfl,kg⟩
  simp [results,Tryz.results158,go_sem,k0,k1,k2]
 ·clear HR hB heb
  go_wp2_with fail
  refine leaves_cons (f:=204) (args:=#[.pointer (some ⟨w.heap.size,0,none⟩),.pointer (some ⟨w.heap.size + 1,0,none⟩),.pointer (some ⟨w.heap.size + 1 + 1,0,none⟩)]) (by simp) (by simp [go_sem]) ?_
  refine (rdcs_panic w.heap.size (w.heap.size + 1) (w.heap.size + 1 + 1) w5 [] _ _ _ c0 c1 c2 f0 f1 f2 (by omega) (by omega) (by omega) w.heap.size (by omega) (by omega) (by omega)).mono ?_
  rintro e u' w'' ⟨rfl,rfl,k0,k1,k2,heb6⟩
  have kg : Grows w w'':=EB.grows hg5 heb6
  show Leaves _ _ _ _ _ _ _
  simp only [settle]
  refine ⟨.tuple #[.string ⟨#[]⟩,.int .i64 0,.bool false], ?_,rfl,kg⟩
  simp [results,Tryz.results158,go_sem,k0,k1,k2]
set_option maxHeartbeats 2000000 in
set_option maxRecDepth 100000 in
theorem text_any12 (b : List UInt8) (k : Nat) (ba : Option Addr) (bc : Nat) (w : World) (hk : k ≤ b.length) (hb : b.length ≤ 1099511627776) (hbc : b.length ≤ bc) (hnc : ba = none → bc = 0) (hat : AtCells w ba 1 (b.map byteC)) :
  Calls Tryz.prog 105 #[.slice ba b.length bc,.int .i64 k] w fun e w' => e = .returned (textR k (rdT (b.drop k)))∧Grows w w':=by
 have CR:=Lib.hid (reads_any b k ba bc w hk hb hbc hnc hat)
 cases hR : rdT (b.drop k) with
 | none =>
  rw [hR] at CR
  unfold textR at CR ⊢
  clear hR hat
  go_enter Tryz.func105,Tryz.ntmps105
  go_wp2_with fail
  refine CR.out.mono ?_
  rintro e w1 ⟨rfl,hg⟩
  go_wp2_with fail
  go_ret3
  exact ⟨rfl,hg⟩
 | some x =>
  obtain ⟨v,n⟩:=x
  rw [hR] at CR
  unfold textR at CR ⊢
  obtain ⟨K,hK⟩ : ∃ K,K = k + n:=⟨_,rfl⟩
  simp only [← hK] at CR ⊢
  clear hR hat hK
  go_enter Tryz.func105,Tryz.ntmps105
  go_wp2_with fail
  refine CR.out.mono ?_
  rintro e w1 ⟨rfl,hg⟩
  go_wp2_with fail
  go_ret3
  exact ⟨rfl,hg⟩
end Go.Proofs.YtepoiefadjoabaaGreatDoor
