import Derived.Test.YtaogeadljgjpcaaGreatDoorCutW
namespace Go.Proofs.YtaogeadljgjpcaaGreatDoor
open Go Go.RowKit Go.Shelf
attribute [local go_sem] aQ aM

theorem cutC_codes {C : List (List UInt8)} (h : iQ C) (a b : Nat) : iQ (zM0 C a b) := fun c hc => h c (List.mem_of_mem_drop (List.mem_of_mem_take hc))
theorem cutC_bl (C : List (List UInt8)) (a b : Nat) : (zM0 C a b).flatten = bl (ptC C a b) := (wG C a b).symm
theorem cutC_chk {C : List (List UInt8)} (h : iQ C) {a b : Nat} (hab : a < b) (hb : b ≤ C.length) (h64 : C.length ≤ 64) : wchk (ptC C a b) = 0 := by
  have h1 := count_codes (cutC_codes h a b) (cutC_bl C a b)
  rw [gC0 hb] at h1
  unfold wchk
  rw [h1, if_neg (by omega), if_neg (by omega), if_neg (by omega)]
def partL (L : List Nd) (a b : Nat) : List Nd := (L.filter fun x => decide ((a : Int) ≤ x.f ∧ x.t ≤ (b : Int))).map (iN a)
theorem partL_len (L : List Nd) (a b : Nat) : (partL L a b).length ≤ L.length := by
  unfold partL
  rw [List.length_map]
  exact List.length_filter_le _ _
theorem partL_yes {L : List Nd} {a b k : Nat} {x : Nd} (hx : L[k]? = some x) (h : (a : Int) ≤ x.f ∧ x.t ≤ (b : Int)) : partL (L.take (k + 1)) a b = partL (L.take k) a b ++ [iN a x] := by
  unfold partL
  rw [bM hx, List.filter_append, List.map_append]
  simp [h]
theorem partL_no {L : List Nd} {a b k : Nat} {x : Nd} (hx : L[k]? = some x) (h : ¬ ((a : Int) ≤ x.f ∧ x.t ≤ (b : Int))) : partL (L.take (k + 1)) a b = partL (L.take k) a b := by
  unfold partL
  rw [bM hx, List.filter_append, List.map_append]
  simp
  omega
theorem parts_plain {c : xN} {C : List (List UInt8)} (hh : ∀ x ∈ C, xT0 x = false) {a b : Nat} (hb : b ≤ C.length) : fS (zM0 C a b) (sortS c.s.e) c.l (plainP c.s.p : Nat) = partL (gT1 c C) a b := nodes_part (sortS c.s.e) c.l (plainP c.s.p : Nat) hh hb
end Go.Proofs.YtaogeadljgjpcaaGreatDoor
