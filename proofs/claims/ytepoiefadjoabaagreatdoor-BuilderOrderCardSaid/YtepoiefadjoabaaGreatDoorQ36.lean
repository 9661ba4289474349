/- The texts SelW, one behind the other. -/
import Derived.Test.YtepoiefadjoabaaGreatDoorQ35
import Derived.Test.YtepoiefadjoabaaGreatDoorQ6
import Derived.Test.YtepoiefadjoabaaGreatDoorQ21
import Derived.Test.YtepoiefadjoabaaGreatDoorShelf2
namespace Go.Proofs.YtepoiefadjoabaaGreatDoor
open Go Go.RowKit Go.Shelf Go.Sort
attribute [local go_sem] quietE quietE2
theorem grows_grow (w : World) (m : Nat) (os : Array Obj) : Grows w (grow (w.drewN m) os) := by
 refine Below.grown (row:=none) (Below.refl _ _) ⟨rfl,rfl,rfl,by simp [grow],fun k hk _ => ?_⟩ (Nat.le_refl _) (fun k h => by cases h)
 exact heap_grow_old _ _ (by simpa using hk)
set_option maxHeartbeats 8000000 in
set_option maxRecDepth 100000 in
theorem select_any (l : List Bool) (vb : Nat) (b : Bool) (j k : Nat) (w : World) (hl : l.length ≤ 1048576) (hj : j < l.length) (hb : bitOf l j = b) (hk : rankB l b j = k) (hat : VecAt w vb l) :
  Calls Tryz.prog 91 #[.pointer (some ⟨vb,0,none⟩),.bool b,.int .i64 k] w fun e w' => e = .returned (.int .i64 j)∧Grows w w':=by
 obtain ⟨W1,hW1⟩ : ∃ W1,W1 = w.alloc (.cells #[.pointer (some ⟨vb,0,none⟩)] 135):=⟨_,rfl⟩
 obtain ⟨W2,hW2⟩ : ∃ W2,W2 = W1.alloc (.cells #[.bool b] 4):=⟨_,rfl⟩
 obtain ⟨W3,hW3⟩ : ∃ W3,W3 = W2.alloc (.cells #[.int .i64 k] 3):=⟨_,rfl⟩
 have hs1 : W1.heap.size = w.heap.size + 1:=by rw [hW1];simp
 have hs2 : W2.heap.size = w.heap.size + 1 + 1:=by rw [hW2,World.size_alloc,hs1]
 have hs3 : W3.heap.size = w.heap.size + 1 + 1 + 1:=by rw [hW3,World.size_alloc,hs2]
 have g1 : Grows w W1:=by rw [hW1];exact Grows.alloc _ _
 have g2 : Grows W1 W2:=by rw [hW2];exact Grows.alloc _ _
 have g3 : Grows W2 W3:=by rw [hW3];exact Grows.alloc _ _
 have gW : Grows w W3:=(g1.tr g2).tr g3
 have c1 : W3.cell? ⟨w.heap.size,0,none⟩ = some (.pointer (some ⟨vb,0,none⟩)):=box_in (cs:=#[.pointer (some ⟨vb,0,none⟩)]) (t:=135) (by rw [← hW1];exact g2.tr g3) rfl 0 _ rfl
 have c2 : W3.cell? ⟨w.heap.size + 1,0,none⟩ = some (.bool b):=by
  have:=box_in (w:=W1) (w':=W3) (cs:=#[.bool b]) (t:=4) (by rw [← hW2];exact g3) rfl 0 _ rfl
  rwa [hs1] at this
 have c3 : W3.cell? ⟨w.heap.size + 1 + 1,0,none⟩ = some (.int .i64 k):=by
  have:=box_in (w:=W2) (w':=W3) (cs:=#[.int .i64 k]) (t:=3) (by rw [← hW3];exact Grows.refl _) rfl 0 _ rfl
  rwa [hs2] at this
 obtain ⟨R,hR⟩ : ∃ R,R = rankB l b l.length:=⟨_,rfl⟩
 have hkR : k < R:=by
  have hs : rankB l b (j + 1) = k + 1:=by rw [rankB_succ,hk,hb];simp
  have:=rankB_mono l b (show j + 1 ≤ l.length by omega)
  omega
 have CL:=Lib.hid (vlen_any l vb W3 (hat.grows gW))
 have CR : Hid (∀ u,Grows w u → Calls Tryz.prog 90 #[.pointer (some ⟨vb,0,none⟩),.bool b,.int .i64 (l.length : Nat)] u fun e w' => e = .returned (.int .i64 R)∧u = w'):=by
  intro u hg
  have h:=rank_any l vb b l.length u hl hl (hat.grows hg)
  rw [Nat.min_self,← hR] at h
  exact h
 have hmono : ∀ a c,a ≤ c → c < l.length → decide (k < rankB l b (a + 1)) = true → decide (k < rankB l b (c + 1)) = true:=fun a c hac _ h => by
  have:=rankB_mono l b (show a + 1 ≤ c + 1 by omega)
  simp only [decide_eq_true_eq] at *
  omega
 have SR : Hid (Calls Tryz.prog 144 #[.int .i64 (l.length : Nat),.func (.func 145) #[] #[.pointer (some ⟨w.heap.size,0,none⟩),.pointer (some ⟨w.heap.size + 1,0,none⟩),.pointer (some ⟨w.heap.size + 1 + 1,0,none⟩)]] W3.drew fun e w' => e = .returned (.int .i64 j)∧∃ q os,w' = grow (W3.drew.drewN q) os):=by
  have h:=Any.sort_Search Tryz.searchI 145 #[.pointer (some ⟨w.heap.size,0,none⟩),.pointer (some ⟨w.heap.size + 1,0,none⟩),.pointer (some ⟨w.heap.size + 1 + 1,0,none⟩)] l.length (fun i => decide (k < rankB l b (i + 1))) W3.drew
   (enters_of Tryz.func145 (by kernel_rfl) rfl) (by omega)
   (fun m os i hi => by
    have hg : Grows W3 (grow (W3.drew.drewN m) os):=(Grows.drew _).tr (grows_grow _ _ _)
    exact (selc_any l vb _ _ _ b k i _ hl hi (hat.grows (gW.tr hg)) (hg.cell c1) (hg.cell c2) (hg.cell c3)).mono fun e w' ⟨he,hw⟩ => ⟨he,1,#[],by rw [grow_empty,hw];rfl⟩) hmono
  rw [sel_at l b hj hb hk] at h
  exact h
 have z1 : ∀ x : Ext Grows W3.drew,x.u.cell? ⟨w.heap.size,0,none⟩ = some (.pointer (some ⟨vb,0,none⟩)):=ext_cell ((Grows.drew W3).cell c1)
 have z2 : ∀ x : Ext Grows W3.drew,x.u.cell? ⟨w.heap.size + 1,0,none⟩ = some (.bool b):=ext_cell ((Grows.drew W3).cell c2)
 have z3 : ∀ x : Ext Grows W3.drew,x.u.cell? ⟨w.heap.size + 1 + 1,0,none⟩ = some (.int .i64 k):=ext_cell ((Grows.drew W3).cell c3)
 have hmf : ∀ (fn : Fn) (first cap : Array Value) (w : World),(Instr.makeFunc fn first cap).run Tryz.prog w = .ok (.func fn first cap) w:=fun _ _ _ _ => rfl
 have hk0 : ¬ (k : Int) < 0:=by omega
 have hkRi : (k : Int) < R:=by omega
 have hkRn : ¬ (R : Int) ≤ k:=by omega
 clear hat hR hb hk hmono hkR hs1 hs2 hs3 g1 g2 g3
 go_enter Tryz.func91,Tryz.ntmps91
 go_wp2_with fail
 rw [← hW1,← hW2,← hW3]
 clear hW1 hW2 hW3
 refine CL.out.mono ?_
 rintro e w2 ⟨rfl,rfl⟩
 go_wp2_with fail
 refine t_region (Grows) [(0,false),(1,false),(2,false),(3,false),(4,false),(5,false),(6,false),(7,false),(8,false),(9,false)] Grows.refl Grows.trans (by kernel_rfl) (by kernel_rfl) (fun d _ _ _ _ h => by cases d <;> exact h) ?_
 iterate 7 (refine t_quiet rfl (fun K hK => ?_);go_simp;refine hK _ ?_;clear hK K)
 refine t_quiet rfl (fun K hK => ?_)
 go_simp
 apply Exists.intro
 refine ⟨fun x => ?_,hK _ ?_⟩
 ·go_at_call 90;exact calls_same (CR.out _ (gW.tr ((Grows.drew W3).tr x.h)))
 clear hK K
 iterate 2 (refine t_quiet rfl (fun K hK => ?_);go_simp;refine hK _ ?_;clear hK K)
 refine t_end ?_
 go_wp2_with fail
 refine SR.out.mono ?_
 rintro e w5 ⟨rfl,q,os,rfl⟩
 go_wp2_with fail
 go_ret
 exact ⟨rfl,gW.tr (grows_grow W3 (1 + q) os)⟩
end Go.Proofs.YtepoiefadjoabaaGreatDoor
