import Derived.Test.YtndhhgpmpnmljaaDoorMat5
import Derived.Test.YtndhhgpmpnmljaaDoorMat4
namespace Go.Proofs.YtndhhgpmpnmljaaDoor
open Go Go.RowKit Go.Shelf
attribute [local go_sem] quietE

def threeL : List PosV := [⟨⟨#[66, 79, 83]⟩, 0⟩, ⟨⟨#[110, 111, 117, 110]⟩, 0⟩, ⟨⟨#[112, 97, 114, 116, 105, 99, 108, 101]⟩, 1⟩]
def m16 : Mx := (newM 3 500).setIf (1, 2) 10
theorem ev16_set : (newM 3 500).setB (1, 2) 10 = true := by kernel_rfl
theorem ev16_print : matPrint threeL m16 = ([100, 101, 102, 97, 117, 108, 116, 9, 53, 48, 48, 10, 110, 111, 117, 110, 9, 112, 97, 114, 116, 105, 99, 108, 101, 9, 49, 48, 10], 0) := by kernel_rfl
theorem ev16_enc : m16.enc = [3, 244, 3, 1, 6, 10] := by kernel_rfl
theorem ev16_c1 : m16.cost (1, 2) = 10 := by kernel_rfl
theorem ev16_c2 : m16.cost (2, 1) = 500 := by kernel_rfl
theorem ev16_c3 : m16.cost (3, 0) = 30000 := by kernel_rfl

set_option maxHeartbeats 1000000 in
theorem three_any (w : World) : Calls Tryd.prog 30 #[] w fun e w' => e = .returned (.slice (some ⟨w.heap.size, 0, none⟩) 3 3) ∧ AtCells w' (some ⟨w.heap.size, 0, none⟩) 2 (threeL.map posCells) ∧ Grows w w' := by
  go_enter Tryd.func30, Tryd.ntmps30
  go_wp2
  refine bodyPost_ret (v := .slice (some ⟨w.heap.size, 0, none⟩) 3 3) (by simp [results, Tryd.results30, go_sem]) rfl ⟨rfl, ?_, Grows.alloc _ _⟩
  refine fun _ => ⟨w.heap.size, 0, rfl, fun i row hi j u hj => ?_⟩
  match i, hi with
  | 0, hi =>
    obtain rfl := Option.some.inj hi
    match j, hj with
    | 0, hj => exact cell_box _ _ _ _ _ _ hj
    | 1, hj => exact cell_box _ _ _ _ _ _ hj
  | 1, hi =>
    obtain rfl := Option.some.inj hi
    match j, hj with
    | 0, hj => exact cell_box _ _ _ _ _ _ hj
    | 1, hj => exact cell_box _ _ _ _ _ _ hj
  | 2, hi =>
    obtain rfl := Option.some.inj hi
    match j, hj with
    | 0, hj => exact cell_box _ _ _ _ _ _ hj
    | 1, hj => exact cell_box _ _ _ _ _ _ hj
theorem set16 (w : World) (mb bm : Nat) (h : MatAt w mb bm (newM 3 500)) : Calls Tryd.prog 11 #[.pointer (some ⟨mb, 0, none⟩), .int .i64 1, .int .i64 2, .int .i64 10] w fun e w' => e = .returned (.int .i64 0) ∧ MatAt w' mb bm m16 ∧ w.grownBy w' (some bm) := by
  have h := set_any w mb bm _ h 1 2 10 (show (Lit.int .i64 10).wf = true by kernel_rfl)
  unfold SetPost at h
  rw [ev16_set] at h
  exact h
theorem print16 (w : World) (mb bm : Nat) (h : MatAt w mb bm m16) (pa : Option Addr) (he : Env w) (hp : AtCells w pa 2 (threeL.map posCells)) : Calls Tryd.prog 9 #[.pointer (some ⟨mb, 0, none⟩), .slice pa 3 3] w fun e w' => e = .returned (.tuple #[.string ⟨#[100, 101, 102, 97, 117, 108, 116, 9, 53, 48, 48, 10, 110, 111, 117, 110, 9, 112, 97, 114, 116, 105, 99, 108, 101, 9, 49, 48, 10]⟩, .int .i64 0]) ∧ Grows w w' := by
  have h := matPrint_any w mb bm _ h threeL pa 3 (by decide) he hp
  rw [ev16_print] at h
  exact h
theorem encode16 (w : World) (mb bm : Nat) (h : MatAt w mb bm m16) : Calls Tryd.prog 31 #[.pointer (some ⟨mb, 0, none⟩)] w fun e w' => ∃ v, e = .returned v ∧ Owns w' w.heap.size 5 1 byteC v [3, 244, 3, 1, 6, 10] ∧ Grows w w' := by
  have h := encode_any w mb bm _ h
  rw [ev16_enc] at h
  exact h
theorem cost16 (w : World) (mb bm : Nat) (h : MatAt w mb bm m16) (r l c : Int) (hc : m16.cost (r, l) = c) : Calls Tryd.prog 18 #[.pointer (some ⟨mb, 0, none⟩), .int .i64 r, .int .i64 l] w fun e w' => e = .returned (.int .i64 c) ∧ w = w' := by
  subst hc
  exact cost_any w mb bm _ h r l

set_option maxHeartbeats 4000000 in
set_option maxRecDepth 100000 in
theorem works16_any (w : World) (he : Env w) : Calls Tryd.prog 10 #[] w fun e w' => e = .returned (.bool true) ∧ Grows w w' := by
  go_enter Tryd.func10, Tryd.ntmps10
  go_wp2_with fail
  refine (new_any 3 500 w rfl).mono ?_
  rintro e w1 ⟨rfl, hm1, hg1⟩
  go_wp2_with fail
  refine (set16 _ _ _ hm1).mono ?_
  rintro e w2 ⟨rfl, hm2, hgr2⟩
  have hg2 : Grows w w2 := hg1.grown hgr2 (fun k hk => by cases hk; exact Nat.le_refl _)
  clear hm1 hgr2 hg1
  go_wp2_with (first | (go_at_call 30; refine (three_any _).mono ?_; rintro e w3 ⟨rfl, hp3, hg3⟩; have hg23 := hg2.tr hg3; have hm3 := hm2.grows hg3) | (go_at_call 9; refine (print16 _ _ _ hm3 _ (he.grows hg23) hp3).mono ?_; rintro e w4 ⟨rfl, hg4⟩; have hg24 := hg23.tr hg4; have hm4 := hm3.grows hg4))
  refine (cost16 _ _ _ hm4 1 2 10 ev16_c1).mono ?_
  rintro e w5 ⟨rfl, rfl⟩
  go_wp2_with fail
  refine (cost16 _ _ _ hm4 2 1 500 ev16_c2).mono ?_
  rintro e w5 ⟨rfl, rfl⟩
  go_wp2_with fail
  refine (cost16 _ _ _ hm4 3 0 30000 ev16_c3).mono ?_
  rintro e w5 ⟨rfl, rfl⟩
  go_wp2_with fail
  refine (encode16 _ _ _ hm4).mono ?_
  rintro e w6 ⟨v6, rfl, hown6, hg6⟩
  have hc6 : (convert 48 9 v6).run Tryd.prog w6 = .ok (.string ⟨#[3, 244, 3, 1, 6, 10]⟩) w6 := conv_owns hown6
  have hg26 := hg24.tr hg6
  clear hown6
  go_wp2_with fail
  go_ret
  exact ⟨rfl, hg26⟩
end Go.Proofs.YtndhhgpmpnmljaaDoor
