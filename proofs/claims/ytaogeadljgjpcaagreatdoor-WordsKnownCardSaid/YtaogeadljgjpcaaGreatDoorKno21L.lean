import Derived.Test.YtaogeadljgjpcaaGreatDoorRq46
namespace Go.Proofs.YtaogeadljgjpcaaGreatDoor
open Go Go.RowKit Go.Shelf
attribute [local go_sem] aQ aM

def cA : List UInt8 := [97]
def c1 : List UInt8 := [49]
theorem codes_kn : ∀ c ∈ [ka, cA, c1], dR0 c := by
  intro c hc
  simp only [List.mem_cons, List.not_mem_nil, or_false] at hc
  rcases hc with rfl | rfl | rfl
  · exact lI1 (by decide +kernel)
  · exact lI1 (by decide +kernel)
  · exact lI1 (by decide +kernel)
def repK (n : Nat) : ByteArray := mkB (List.replicate n ka).flatten
theorem repK_succ (n : Nat) : repK n ++ ⟨#[227, 129, 139]⟩ = repK (n + 1) := by
  refine yC0 ?_
  show (repK n ++ ⟨#[227, 129, 139]⟩).data.toList = _
  rw [ByteArray.data_append, Array.toList_append]
  show (List.replicate n ka).flatten ++ ka = (List.replicate (n + 1) ka).flatten
  rw [List.replicate_succ', List.flatten_append]
  simp
theorem repK_size (n : Nat) : (repK n).size = 3 * n := by
  rw [← dJ]
  show (List.replicate n ka).flatten.length = _
  rw [List.length_flatten, List.map_replicate, List.sum_replicate_nat]
  show n * 3 = _
  omega
theorem kn_c1 : wchk (repK 64) = 0 := by decide +kernel
theorem kn_c2 : wchk (repK 64 ++ ⟨#[227, 129, 139]⟩) = 2 := by decide +kernel
theorem kn_c3 : wchk (⟨#[255]⟩ ++ repK 64) = 10 := by decide +kernel
theorem lrn_ok {l : List Lrn} (h : (l.all fun x => decide (x.r.size ≤ 1000) && (decide (x.s.size ≤ 1000) && (decide (-1000000 ≤ x.b) && decide (x.b ≤ 1000000)))) = true) : (∀ x ∈ l, fK0 x) ∧ ∀ x ∈ l, x.r.size ≤ 1048576 ∧ x.s.size ≤ 1048576 := by
  rw [List.all_eq_true] at h
  have h2 : ∀ x ∈ l, x.r.size ≤ 1000 ∧ x.s.size ≤ 1000 ∧ -1000000 ≤ x.b ∧ x.b ≤ 1000000 := fun x hx => by
    have := h x hx
    simp only [Bool.and_eq_true, decide_eq_true_eq] at this
    exact this
  exact ⟨fun x hx => ⟨by have := h2 x hx; unfold maxLen; omega, by have := h2 x hx; unfold maxLen; omega, by have := h2 x hx; exact zB (by omega) (by omega)⟩, fun x hx => by have := h2 x hx; omega⟩
def knL0 : List Lrn := []
def knN0 : List Nd := [pL1 0 2 ⟨#[97, 49]⟩ 9000 3, pL1 0 1 ⟨#[97]⟩ 10000 3, pL1 1 2 ⟨#[49]⟩ 10000 3, pL1 2 3 ⟨#[232, 154, 138]⟩ 100 1, pL1 2 3 ⟨#[227, 129, 139]⟩ 10000 3]
theorem kn_e0 : fS [cA, c1, ka] qV knL0 1 = knN0 := by decide +kernel
theorem kn_l0 : (∀ x ∈ knL0, fK0 x) ∧ ∀ x ∈ knL0, x.r.size ≤ 1048576 ∧ x.s.size ≤ 1048576 := lrn_ok (l := knL0) (by decide +kernel)
def knL1 : List Lrn := [⟨⟨#[227, 129, 139, 227, 129, 139]⟩, ⟨#[232, 154, 138, 232, 154, 138]⟩, 500⟩]
def knN1 : List Nd := [pL1 0 2 ⟨#[232, 154, 138, 232, 154, 138]⟩ 7500 2, pL1 0 1 ⟨#[232, 154, 138]⟩ 100 1, pL1 0 1 ⟨#[227, 129, 139]⟩ 10000 3, pL1 1 2 ⟨#[232, 154, 138]⟩ 100 1, pL1 1 2 ⟨#[227, 129, 139]⟩ 10000 3]
theorem kn_e1 : fS [ka, ka] qV knL1 1 = knN1 := by decide +kernel
theorem kn_l1 : (∀ x ∈ knL1, fK0 x) ∧ ∀ x ∈ knL1, x.r.size ≤ 1048576 ∧ x.s.size ≤ 1048576 := lrn_ok (l := knL1) (by decide +kernel)
def knL2 : List Lrn := [⟨⟨#[227, 129, 139]⟩, ⟨#[227, 129, 139]⟩, 0⟩]
def knN2 : List Nd := [pL1 0 1 ⟨#[232, 154, 138]⟩ 100 1, pL1 0 1 ⟨#[227, 129, 139]⟩ 8000 2]
theorem kn_e2 : fS [ka] qV knL2 1 = knN2 := by decide +kernel
theorem kn_l2 : (∀ x ∈ knL2, fK0 x) ∧ ∀ x ∈ knL2, x.r.size ≤ 1048576 ∧ x.s.size ≤ 1048576 := lrn_ok (l := knL2) (by decide +kernel)
def knL3 : List Lrn := [⟨⟨#[227, 129, 139]⟩, ⟨#[227, 129, 139]⟩, 40000⟩]
def knN3 : List Nd := [pL1 0 1 ⟨#[227, 129, 139]⟩ 0 2, pL1 0 1 ⟨#[232, 154, 138]⟩ 100 1]
theorem kn_e3 : fS [ka] qV knL3 1 = knN3 := by decide +kernel
theorem kn_l3 : (∀ x ∈ knL3, fK0 x) ∧ ∀ x ∈ knL3, x.r.size ≤ 1048576 ∧ x.s.size ≤ 1048576 := lrn_ok (l := knL3) (by decide +kernel)
def knL4 : List Lrn := [⟨⟨#[227, 129, 139]⟩, ⟨#[10]⟩, 0⟩, ⟨⟨#[]⟩, ⟨#[120]⟩, 0⟩, ⟨⟨#[227, 129, 139]⟩, ⟨#[232, 154, 138]⟩, (-5)⟩]
def knN4 : List Nd := [pL1 0 1 ⟨#[232, 154, 138]⟩ 100 1, pL1 0 1 ⟨#[227, 129, 139]⟩ 10000 3]
theorem kn_e4 : fS [ka] qV knL4 1 = knN4 := by decide +kernel
theorem kn_l4 : (∀ x ∈ knL4, fK0 x) ∧ ∀ x ∈ knL4, x.r.size ≤ 1048576 ∧ x.s.size ≤ 1048576 := lrn_ok (l := knL4) (by decide +kernel)
set_option maxHeartbeats 16000000 in
set_option maxRecDepth 100000 in
theorem known21_any (w : World) (he : Env w) : Calls Tryz.prog 8 #[] w fun e w' => e = .returned (.bool true) ∧ aB w w' := by
  have HE := Lib.hid he
  have C0 := fun (wa : Option Addr) (wc : Nat) (u : World) (hu : aB w u) (h : aG u wa 7 (knN0.map dX)) => Lib.hid (jL0 ⟨#[97, 49, 227, 129, 139]⟩ [cA, c1, ka] knL0 none 0 knN0 wa wc u (HE.out.grows hu) (fun c hc => codes_kn c (by simp only [List.mem_cons, List.not_mem_nil, or_false] at hc ⊢; grind)) rfl (by simp) (by decide) (by decide) (by decide) kn_l0.1 kn_l0.2 (aG.nil _ _ _) kn_e0 (by decide) h)
  have C1 := fun (la : Option Addr) (lc : Nat) (wa : Option Addr) (wc : Nat) (u : World) (hu : aB w u) (hl : aG u la 3 (knL1.map iW)) (h : aG u wa 7 (knN1.map dX)) => Lib.hid (jL0 ⟨#[227, 129, 139, 227, 129, 139]⟩ [ka, ka] knL1 la lc knN1 wa wc u (HE.out.grows hu) (fun c hc => codes_kn c (by simp only [List.mem_cons, List.not_mem_nil, or_false] at hc ⊢; grind)) rfl (by simp) (by decide) (by decide) (by decide) kn_l1.1 kn_l1.2 hl kn_e1 (by decide) h)
  have C2 := fun (la : Option Addr) (lc : Nat) (wa : Option Addr) (wc : Nat) (u : World) (hu : aB w u) (hl : aG u la 3 (knL2.map iW)) (h : aG u wa 7 (knN2.map dX)) => Lib.hid (jL0 ⟨#[227, 129, 139]⟩ [ka] knL2 la lc knN2 wa wc u (HE.out.grows hu) (fun c hc => codes_kn c (by simp only [List.mem_cons, List.not_mem_nil, or_false] at hc ⊢; grind)) rfl (by simp) (by decide) (by decide) (by decide) kn_l2.1 kn_l2.2 hl kn_e2 (by decide) h)
  have C3 := fun (la : Option Addr) (lc : Nat) (wa : Option Addr) (wc : Nat) (u : World) (hu : aB w u) (hl : aG u la 3 (knL3.map iW)) (h : aG u wa 7 (knN3.map dX)) => Lib.hid (jL0 ⟨#[227, 129, 139]⟩ [ka] knL3 la lc knN3 wa wc u (HE.out.grows hu) (fun c hc => codes_kn c (by simp only [List.mem_cons, List.not_mem_nil, or_false] at hc ⊢; grind)) rfl (by simp) (by decide) (by decide) (by decide) kn_l3.1 kn_l3.2 hl kn_e3 (by decide) h)
  have C4 := fun (la : Option Addr) (lc : Nat) (wa : Option Addr) (wc : Nat) (u : World) (hu : aB w u) (hl : aG u la 3 (knL4.map iW)) (h : aG u wa 7 (knN4.map dX)) => Lib.hid (jL0 ⟨#[227, 129, 139]⟩ [ka] knL4 la lc knN4 wa wc u (HE.out.grows hu) (fun c hc => codes_kn c (by simp only [List.mem_cons, List.not_mem_nil, or_false] at hc ⊢; grind)) rfl (by simp) (by decide) (by decide) (by decide) kn_l4.1 kn_l4.2 hl kn_e4 (by decide) h)
  have CK := fun (s : ByteArray) (hs : s.size ≤ 1000) (u : World) (hu : aB w u) => Lib.hid (qN s u (by omega) (HE.out.grows hu))
  have CW := fun (u : World) (hu : aB w u) => Lib.hid (works21_any u (HE.out.grows hu))
  clear he
  go_enter Tryz.func8, Tryz.ntmps8
  go_wp2_with fail
  refine (gJ0 _ _ _ _ _ _).mono ?_
  rintro e u1 ⟨rfl, k2⟩
  have G3 : aB w u1 := aB.tr (aB.refl w) k2
  go_wp2_with fail
  refine (gJ0 _ _ _ _ _ _).mono ?_
  rintro e u4 ⟨rfl, k5⟩
  have G6 : aB w u4 := aB.tr G3 k5
  go_wp2_with fail
  refine (gJ0 _ _ _ _ _ _).mono ?_
  rintro e u7 ⟨rfl, k8⟩
  have G9 : aB w u7 := aB.tr G6 k8
  go_wp2_with fail
  refine (gJ0 _ _ _ _ _ _).mono ?_
  rintro e u10 ⟨rfl, k11⟩
  have G12 : aB w u10 := aB.tr G9 k11
  go_wp2_with fail
  refine (gJ0 _ _ _ _ _ _).mono ?_
  rintro e u13 ⟨rfl, k14⟩
  have G15 : aB w u13 := aB.tr G12 k14
  obtain ⟨nb16, hb18⟩ := exq u13.heap.size
  obtain ⟨V17, hW19⟩ := exq (u13.alloc (.cells #[.int .i64 0, .int .i64 2, .string ⟨#[97, 49]⟩, .int .i64 1, .int .i64 1, .int .i64 9000, .int .i64 3, .int .i64 0, .int .i64 1, .string ⟨#[97]⟩, .int .i64 1, .int .i64 1, .int .i64 10000, .int .i64 3, .int .i64 1, .int .i64 2, .string ⟨#[49]⟩, .int .i64 1, .int .i64 1, .int .i64 10000, .int .i64 3, .int .i64 2, .int .i64 3, .string ⟨#[232, 154, 138]⟩, .int .i64 1, .int .i64 1, .int .i64 100, .int .i64 1, .int .i64 2, .int .i64 3, .string ⟨#[227, 129, 139]⟩, .int .i64 1, .int .i64 1, .int .i64 10000, .int .i64 3] 49))
  have gV17 : aB u13 V17 := by rw [hW19]; exact aB.alloc _ _
  have hV17 : aG V17 (some ⟨nb16, 0, none⟩) 7 (knN0.map dX) := by rw [hW19, hb18]; exact vY (enc := dX) (k := 7) (w := u13) (t := 49) (fz := (0, 0)) (cs := (knN0.flatMap dX).toArray) (fun _ => rfl) knN0 rfl
  have D0 := C0 (some ⟨nb16, 0, none⟩) 5 V17 (aB.tr G15 gV17) hV17
  clear C0 hV17
  go_wp2_with fail
  rw [← hW19, ← hb18]
  clear hW19 hb18
  refine D0.out.mono ?_
  rintro e u20 ⟨rfl, k21⟩
  have G22 : aB w u20 := aB.tr (aB.tr G15 gV17) k21
  clear D0
  obtain ⟨lb23, hb25⟩ := exq u20.heap.size
  obtain ⟨V24, hW26⟩ := exq (u20.alloc (.cells #[.string ⟨#[227, 129, 139, 227, 129, 139]⟩, .string ⟨#[232, 154, 138, 232, 154, 138]⟩, .int .i64 500] 51))
  have gV24 : aB u20 V24 := by rw [hW26]; exact aB.alloc _ _
  have hV24 : aG V24 (some ⟨lb23, 0, none⟩) 3 (knL1.map iW) := by rw [hW26, hb25]; exact vY (enc := iW) (k := 3) (w := u20) (t := 51) (fz := (0, 0)) (cs := (knL1.flatMap iW).toArray) (fun _ => rfl) knL1 rfl
  go_wp2_with fail
  rw [← hW26, ← hb25]
  clear hW26 hb25
  have G27 : aB w V24 := aB.tr G22 gV24
  refine (gJ0 _ _ _ _ _ _).mono ?_
  rintro e u28 ⟨rfl, k29⟩
  have G30 : aB w u28 := aB.tr G27 k29
  go_wp2_with fail
  refine (gJ0 _ _ _ _ _ _).mono ?_
  rintro e u31 ⟨rfl, k32⟩
  have G33 : aB w u31 := aB.tr G30 k32
  go_wp2_with fail
  refine (gJ0 _ _ _ _ _ _).mono ?_
  rintro e u34 ⟨rfl, k35⟩
  have G36 : aB w u34 := aB.tr G33 k35
  go_wp2_with fail
  refine (gJ0 _ _ _ _ _ _).mono ?_
  rintro e u37 ⟨rfl, k38⟩
  have G39 : aB w u37 := aB.tr G36 k38
  go_wp2_with fail
  refine (gJ0 _ _ _ _ _ _).mono ?_
  rintro e u40 ⟨rfl, k41⟩
  have G42 : aB w u40 := aB.tr G39 k41
  obtain ⟨nb43, hb45⟩ := exq u40.heap.size
  obtain ⟨V44, hW46⟩ := exq (u40.alloc (.cells #[.int .i64 0, .int .i64 2, .string ⟨#[232, 154, 138, 232, 154, 138]⟩, .int .i64 1, .int .i64 1, .int .i64 7500, .int .i64 2, .int .i64 0, .int .i64 1, .string ⟨#[232, 154, 138]⟩, .int .i64 1, .int .i64 1, .int .i64 100, .int .i64 1, .int .i64 0, .int .i64 1, .string ⟨#[227, 129, 139]⟩, .int .i64 1, .int .i64 1, .int .i64 10000, .int .i64 3, .int .i64 1, .int .i64 2, .string ⟨#[232, 154, 138]⟩, .int .i64 1, .int .i64 1, .int .i64 100, .int .i64 1, .int .i64 1, .int .i64 2, .string ⟨#[227, 129, 139]⟩, .int .i64 1, .int .i64 1, .int .i64 10000, .int .i64 3] 49))
  have gV44 : aB u40 V44 := by rw [hW46]; exact aB.alloc _ _
  have hV44 : aG V44 (some ⟨nb43, 0, none⟩) 7 (knN1.map dX) := by rw [hW46, hb45]; exact vY (enc := dX) (k := 7) (w := u40) (t := 49) (fz := (0, 0)) (cs := (knN1.flatMap dX).toArray) (fun _ => rfl) knN1 rfl
  have D1 := C1 (some ⟨lb23, 0, none⟩) 1 (some ⟨nb43, 0, none⟩) 5 V44 (aB.tr G42 gV44) (hV24.grows (aB.tr (aB.tr (aB.tr (aB.tr (aB.tr (aB.tr (aB.refl V24) k29) k32) k35) k38) k41) gV44)) hV44
  clear C1 hV44 hV24
  go_wp2_with fail
  rw [← hW46, ← hb45]
  clear hW46 hb45
  refine D1.out.mono ?_
  rintro e u47 ⟨rfl, k48⟩
  have G49 : aB w u47 := aB.tr (aB.tr G42 gV44) k48
  clear D1
  obtain ⟨lb50, hb52⟩ := exq u47.heap.size
  obtain ⟨V51, hW53⟩ := exq (u47.alloc (.cells #[.string ⟨#[227, 129, 139]⟩, .string ⟨#[227, 129, 139]⟩, .int .i64 0] 51))
  have gV51 : aB u47 V51 := by rw [hW53]; exact aB.alloc _ _
  have hV51 : aG V51 (some ⟨lb50, 0, none⟩) 3 (knL2.map iW) := by rw [hW53, hb52]; exact vY (enc := iW) (k := 3) (w := u47) (t := 51) (fz := (0, 0)) (cs := (knL2.flatMap iW).toArray) (fun _ => rfl) knL2 rfl
  go_wp2_with fail
  rw [← hW53, ← hb52]
  clear hW53 hb52
  have G54 : aB w V51 := aB.tr G49 gV51
  refine (gJ0 _ _ _ _ _ _).mono ?_
  rintro e u55 ⟨rfl, k56⟩
  have G57 : aB w u55 := aB.tr G54 k56
  go_wp2_with fail
  refine (gJ0 _ _ _ _ _ _).mono ?_
  rintro e u58 ⟨rfl, k59⟩
  have G60 : aB w u58 := aB.tr G57 k59
  obtain ⟨nb61, hb63⟩ := exq u58.heap.size
  obtain ⟨V62, hW64⟩ := exq (u58.alloc (.cells #[.int .i64 0, .int .i64 1, .string ⟨#[232, 154, 138]⟩, .int .i64 1, .int .i64 1, .int .i64 100, .int .i64 1, .int .i64 0, .int .i64 1, .string ⟨#[227, 129, 139]⟩, .int .i64 1, .int .i64 1, .int .i64 8000, .int .i64 2] 49))
  have gV62 : aB u58 V62 := by rw [hW64]; exact aB.alloc _ _
  have hV62 : aG V62 (some ⟨nb61, 0, none⟩) 7 (knN2.map dX) := by rw [hW64, hb63]; exact vY (enc := dX) (k := 7) (w := u58) (t := 49) (fz := (0, 0)) (cs := (knN2.flatMap dX).toArray) (fun _ => rfl) knN2 rfl
  have D2 := C2 (some ⟨lb50, 0, none⟩) 1 (some ⟨nb61, 0, none⟩) 2 V62 (aB.tr G60 gV62) (hV51.grows (aB.tr (aB.tr (aB.tr (aB.refl V51) k56) k59) gV62)) hV62
  clear C2 hV62 hV51
  go_wp2_with fail
  rw [← hW64, ← hb63]
  clear hW64 hb63
  refine D2.out.mono ?_
  rintro e u65 ⟨rfl, k66⟩
  have G67 : aB w u65 := aB.tr (aB.tr G60 gV62) k66
  clear D2
  obtain ⟨lb68, hb70⟩ := exq u65.heap.size
  obtain ⟨V69, hW71⟩ := exq (u65.alloc (.cells #[.string ⟨#[227, 129, 139]⟩, .string ⟨#[227, 129, 139]⟩, .int .i64 40000] 51))
  have gV69 : aB u65 V69 := by rw [hW71]; exact aB.alloc _ _
  have hV69 : aG V69 (some ⟨lb68, 0, none⟩) 3 (knL3.map iW) := by rw [hW71, hb70]; exact vY (enc := iW) (k := 3) (w := u65) (t := 51) (fz := (0, 0)) (cs := (knL3.flatMap iW).toArray) (fun _ => rfl) knL3 rfl
  go_wp2_with fail
  rw [← hW71, ← hb70]
  clear hW71 hb70
  have G72 : aB w V69 := aB.tr G67 gV69
  refine (gJ0 _ _ _ _ _ _).mono ?_
  rintro e u73 ⟨rfl, k74⟩
  have G75 : aB w u73 := aB.tr G72 k74
  go_wp2_with fail
  refine (gJ0 _ _ _ _ _ _).mono ?_
  rintro e u76 ⟨rfl, k77⟩
  have G78 : aB w u76 := aB.tr G75 k77
  obtain ⟨nb79, hb81⟩ := exq u76.heap.size
  obtain ⟨V80, hW82⟩ := exq (u76.alloc (.cells #[.int .i64 0, .int .i64 1, .string ⟨#[227, 129, 139]⟩, .int .i64 1, .int .i64 1, .int .i64 0, .int .i64 2, .int .i64 0, .int .i64 1, .string ⟨#[232, 154, 138]⟩, .int .i64 1, .int .i64 1, .int .i64 100, .int .i64 1] 49))
  have gV80 : aB u76 V80 := by rw [hW82]; exact aB.alloc _ _
  have hV80 : aG V80 (some ⟨nb79, 0, none⟩) 7 (knN3.map dX) := by rw [hW82, hb81]; exact vY (enc := dX) (k := 7) (w := u76) (t := 49) (fz := (0, 0)) (cs := (knN3.flatMap dX).toArray) (fun _ => rfl) knN3 rfl
  have D3 := C3 (some ⟨lb68, 0, none⟩) 1 (some ⟨nb79, 0, none⟩) 2 V80 (aB.tr G78 gV80) (hV69.grows (aB.tr (aB.tr (aB.tr (aB.refl V69) k74) k77) gV80)) hV80
  clear C3 hV80 hV69
  go_wp2_with fail
  rw [← hW82, ← hb81]
  clear hW82 hb81
  refine D3.out.mono ?_
  rintro e u83 ⟨rfl, k84⟩
  have G85 : aB w u83 := aB.tr (aB.tr G78 gV80) k84
  clear D3
  obtain ⟨lb86, hb88⟩ := exq u83.heap.size
  obtain ⟨V87, hW89⟩ := exq (u83.alloc (.cells #[.string ⟨#[227, 129, 139]⟩, .string ⟨#[10]⟩, .int .i64 0, .string ⟨#[]⟩, .string ⟨#[120]⟩, .int .i64 0, .string ⟨#[227, 129, 139]⟩, .string ⟨#[232, 154, 138]⟩, .int .i64 (-5)] 51))
  have gV87 : aB u83 V87 := by rw [hW89]; exact aB.alloc _ _
  have hV87 : aG V87 (some ⟨lb86, 0, none⟩) 3 (knL4.map iW) := by rw [hW89, hb88]; exact vY (enc := iW) (k := 3) (w := u83) (t := 51) (fz := (0, 0)) (cs := (knL4.flatMap iW).toArray) (fun _ => rfl) knL4 rfl
  go_wp2_with fail
  rw [← hW89, ← hb88]
  clear hW89 hb88
  have G90 : aB w V87 := aB.tr G85 gV87
  refine (gJ0 _ _ _ _ _ _).mono ?_
  rintro e u91 ⟨rfl, k92⟩
  have G93 : aB w u91 := aB.tr G90 k92
  go_wp2_with fail
  refine (gJ0 _ _ _ _ _ _).mono ?_
  rintro e u94 ⟨rfl, k95⟩
  have G96 : aB w u94 := aB.tr G93 k95
  obtain ⟨nb97, hb99⟩ := exq u94.heap.size
  obtain ⟨V98, hW100⟩ := exq (u94.alloc (.cells #[.int .i64 0, .int .i64 1, .string ⟨#[232, 154, 138]⟩, .int .i64 1, .int .i64 1, .int .i64 100, .int .i64 1, .int .i64 0, .int .i64 1, .string ⟨#[227, 129, 139]⟩, .int .i64 1, .int .i64 1, .int .i64 10000, .int .i64 3] 49))
  have gV98 : aB u94 V98 := by rw [hW100]; exact aB.alloc _ _
  have hV98 : aG V98 (some ⟨nb97, 0, none⟩) 7 (knN4.map dX) := by rw [hW100, hb99]; exact vY (enc := dX) (k := 7) (w := u94) (t := 49) (fz := (0, 0)) (cs := (knN4.flatMap dX).toArray) (fun _ => rfl) knN4 rfl
  have D4 := C4 (some ⟨lb86, 0, none⟩) 3 (some ⟨nb97, 0, none⟩) 2 V98 (aB.tr G96 gV98) (hV87.grows (aB.tr (aB.tr (aB.tr (aB.refl V87) k92) k95) gV98)) hV98
  clear C4 hV98 hV87
  go_wp2_with fail
  rw [← hW100, ← hb99]
  clear hW100 hb99
  refine D4.out.mono ?_
  rintro e u101 ⟨rfl, k102⟩
  have G103 : aB w u101 := aB.tr (aB.tr G96 gV98) k102
  clear D4
  go_wp2_with fail
  go_loopw [8, 9] (fun s i wr => ∃ n : Nat, n ≤ 64 ∧ i = .int .i64 n ∧ s = .string (repK n) ∧ wr = u101) (fun _ i _ => 64 - (intOf i).toNat)
  case atStart => exact ⟨0, by omega, rfl, rfl, rfl⟩
  case round =>
    obtain ⟨n, hn, rfl, rfl, rfl⟩ := hrel
    by_cases hlt : n < 64
    · have hni : (n : Int) < 64 := by omega
      have hz := repK_size n
      have hadd := fun (W : World) => run_string_add_sum (P := Tryz.prog) W (repK n) ⟨#[227, 129, 139]⟩ (by rw [hz]; show 3 * n + 3 ≤ _; omega)
      rw [repK_succ] at hadd
      clear hz
      go_wp2_with fail
      go_roundw
      case rel => exact ⟨n + 1, hlt, by go_num, rfl, trivial⟩
      case measure => simp [intOf]; omega
    · obtain rfl : n = 64 := by omega
      have E1 := CK (repK 64) (by rw [repK_size]; decide) wr G103
      have E2 := fun u hu => CK (repK 64 ++ ⟨#[227, 129, 139]⟩) (by rw [ByteArray.size_append, repK_size]; decide) u hu
      have E3 := fun u hu => CK (⟨#[255]⟩ ++ repK 64) (by rw [ByteArray.size_append, repK_size]; decide) u hu
      rw [kn_c1] at E1
      rw [kn_c2] at E2
      rw [kn_c3] at E3
      have ha1 := fun (W : World) => run_string_add_sum (P := Tryz.prog) W (repK 64) ⟨#[227, 129, 139]⟩ (by rw [repK_size]; decide)
      have ha2 := fun (W : World) => run_string_add_sum (P := Tryz.prog) W ⟨#[255]⟩ (repK 64) (by rw [repK_size]; decide)
      generalize repK 64 = R at E1 E2 E3 ha1 ha2 ⊢
      go_wp2_with fail
      refine E1.out.mono ?_
      rintro e z1 ⟨rfl, m1⟩
      go_wp2_with fail
      refine (E2 z1 (aB.tr G103 m1)).out.mono ?_
      rintro e z2 ⟨rfl, m2⟩
      go_wp2_with fail
      refine (E3 z2 ((aB.tr G103 m1).tr m2)).out.mono ?_
      rintro e z3 ⟨rfl, m3⟩
      go_wp2_with fail
      refine (CW z3 (((aB.tr G103 m1).tr m2).tr m3)).out.mono ?_
      rintro e z4 ⟨rfl, m4⟩
      go_wp2_with fail
      go_ret
      exact ⟨rfl, (((aB.tr G103 m1).tr m2).tr m3).tr m4⟩
end Go.Proofs.YtaogeadljgjpcaaGreatDoor
