import Derived.Test.YtjhajgffmnkocaaGreatDoorPq45
namespace Go.Proofs.YtjhajgffmnkocaaGreatDoor
open Go Go.RowKit Go.Shelf
attribute [local go_sem] aO aM

set_option maxHeartbeats 4000000 in
set_option maxRecDepth 100000 in
theorem make30_any (k : Int) (a b : ByteArray) (w : World) (ha : a.size ≤ 35184372088832) (hb : b.size ≤ 35184372088832) :
    Calls Tryz.prog 22 #[.int .i64 k, .string a, .string b] w (bN0 k a b w) := by
  have CA := fun (u : World) => Lib.hid (part30_any a u ha)
  have CB := fun (u : World) => Lib.hid (part30_any b u hb)
  have hok : okK k a b = ((decide (k = 1) || decide (k = 2)) && partK a && partK b && decide (a.size + b.size ≤ 398)) := rfl
  generalize partK a = pa at CA hok
  generalize partK b = pb at CB hok
  have hz : (a.size : Int) + b.size < 9223372036854775807 := by omega
  by_cases hk : k = 1 ∨ k = 2
  · by_cases hl : a.size + b.size ≤ 398
    · have hli : decide ((400 : Int) < (a.size : Int) + b.size + 2) = false := decide_eq_false (by omega)
      have hs1 : ¬ 9223372036854775807 < 1 + a.size := by omega
      have hwr : IntKind.i64.wrap ((a.size : Int) + b.size) = (a.size : Int) + b.size := by simp [IntKind.wrap, IntKind.bits, IntKind.signed]; omega
      have hwr2 : IntKind.i64.wrap ((a.size : Int) + b.size + 2) = (a.size : Int) + b.size + 2 := by simp [IntKind.wrap, IntKind.bits, IntKind.signed]; omega
      cases pa
      · have HN := fun (u : World) (hg : aB w u) => Lib.hid (xN (by rw [hok]; simp) hg : bN0 k a b w _ u)
        clear hok hl
        rcases hk with rfl | rfl <;>
        · go_enter Tryz.func22, Tryz.ntmps22
          go_wp2_with fail
          refine (CA _).out.mono ?_
          rintro e w1 ⟨rfl, hg1⟩
          go_wp2_with fail
          go_ret2
          exact (HN _ hg1).out
      · cases pb
        · have HN := fun (u : World) (hg : aB w u) => Lib.hid (xN (by rw [hok]; simp) hg : bN0 k a b w _ u)
          clear hok hl
          rcases hk with rfl | rfl <;>
          · go_enter Tryz.func22, Tryz.ntmps22
            go_wp2_with fail
            refine (CA _).out.mono ?_
            rintro e w1 ⟨rfl, hg1⟩
            go_wp2_with fail
            refine (CB _).out.mono ?_
            rintro e w2 ⟨rfl, hg2⟩
            go_wp2_with fail
            go_ret2
            exact (HN _ (hg1.tr hg2)).out
        · have HK := fun (u : World) (hg : aB w u) => Lib.hid (dW1 (by rw [hok]; simpa [hl] using hk) hg : bN0 k a b w _ u)
          have hs2 : ¬ 9223372036854775807 < 1 + a.size + 1 := by omega
          have hs3 : ¬ 9223372036854775807 < 1 + a.size + 1 + b.size := by omega
          clear hok hl
          rcases hk with rfl | rfl
          · rw [← pW0 49 a b 1 rfl] at HK
            have z49 : (⟨#[49]⟩ : ByteArray).size = 1 := rfl
            have z0 : (⟨#[0]⟩ : ByteArray).size = 1 := rfl
            go_enter Tryz.func22, Tryz.ntmps22
            go_wp2_with fail
            refine (CA _).out.mono ?_
            rintro e w1 ⟨rfl, hg1⟩
            go_wp2_with fail
            refine (CB _).out.mono ?_
            rintro e w2 ⟨rfl, hg2⟩
            clear CA CB
            go_wp2_with fail
            refine f_region (aB) (.quiet 0 (.quiet 1 (.quiet 2 (.quiet 5 (.quiet 9 (.alt (.late 3 (.quiet 4 (.quiet 6 (.late 7 (.quiet 8 (.quiet 10 (.quiet 11 (.quiet 12 .done)))))))) (.late 7 (.late 3 (.quiet 4 (.quiet 6 (.quiet 8 (.quiet 10 (.quiet 11 (.quiet 12 .done)))))))))))))) aB.refl aB.trans (by kernel_rfl) (by kernel_rfl) (fun d _ _ _ _ h => by cases d <;> exact h) ?_
            have gd := aB.drew w2
            generalize w2.drew = Wd at *
            iterate 5 (refine gZ rfl (fun K hK => ?_); go_simp; refine hK _ ?_; clear hK K)
            refine jC0 ?_ ?_
            · refine cH rfl rfl (fun K hK => ?_)
              go_simp
              refine ⟨aB.alloc _ _, hK _ _ ?_⟩
              clear hK K
              obtain ⟨W3, hW3⟩ := exq (Wd.alloc (.cells #[.int .u8 49] 5))
              have g3 : aB w2 W3 := by rw [hW3]; exact gd.al _
              have hA : aG W3 (some ⟨Wd.heap.size, 0, none⟩) 1 (([49] : List UInt8).map aV) := by rw [hW3]; exact oZ (enc := aV) (k := 1) (w := Wd) (t := 5) (fz := (0, 0)) (cs := #[.int .u8 49]) (fun _ => rfl) [49] rfl
              have hcv : ∀ x : Ext aB W3, (convert 67 9 (.slice (some ⟨Wd.heap.size, 0, none⟩) 1 1)).run Tryz.prog x.u = .ok (.string ⟨#[49]⟩) x.u := fun x => rW (l := [49]) (c := 1) (hA.grows x.h)
              rw [show IntKind.u8.wrap (IntKind.i64.wrap 49) = 49 from by decide, ← hW3]
              clear hW3 hA
              iterate 2 (refine gZ rfl (fun K hK => ?_); go_simp; refine hK _ ?_; clear hK K)
              refine cH rfl rfl (fun K hK => ?_)
              go_simp
              refine (zero30_any _).mono ?_
              rintro e w4 ⟨rfl, hg4⟩
              refine ⟨hg4, hK _ _ ?_⟩
              clear hK K hcv
              iterate 4 (refine gZ rfl (fun K hK => ?_); go_simp; refine hK _ ?_; clear hK K)
              refine aR0 ?_
              have HG5 := Lib.hid (hg1.tr (hg2.tr (g3.tr hg4)))
              go_wp2_with fail
              go_ret2
              exact (HK _ HG5.out).out
            · refine cH rfl rfl (fun K hK => ?_)
              go_simp
              refine (zero30_any _).mono ?_
              rintro e w4 ⟨rfl, hg4⟩
              refine ⟨hg4, hK _ _ ?_⟩
              clear hK K
              refine cH rfl rfl (fun K hK => ?_)
              go_simp
              refine ⟨aB.alloc _ _, hK _ _ ?_⟩
              clear hK K
              obtain ⟨W3, hW3⟩ := exq (w4.alloc (.cells #[.int .u8 49] 5))
              have g3 : aB w4 W3 := by rw [hW3]; exact aB.alloc _ _
              have hA : aG W3 (some ⟨w4.heap.size, 0, none⟩) 1 (([49] : List UInt8).map aV) := by rw [hW3]; exact oZ (enc := aV) (k := 1) (w := w4) (t := 5) (fz := (0, 0)) (cs := #[.int .u8 49]) (fun _ => rfl) [49] rfl
              have hcv : ∀ x : Ext aB W3, (convert 67 9 (.slice (some ⟨w4.heap.size, 0, none⟩) 1 1)).run Tryz.prog x.u = .ok (.string ⟨#[49]⟩) x.u := fun x => rW (l := [49]) (c := 1) (hA.grows x.h)
              rw [show IntKind.u8.wrap (IntKind.i64.wrap 49) = 49 from by decide, ← hW3]
              clear hW3 hA
              iterate 2 (refine gZ rfl (fun K hK => ?_); go_simp; refine hK _ ?_; clear hK K)
              clear hcv
              iterate 4 (refine gZ rfl (fun K hK => ?_); go_simp; refine hK _ ?_; clear hK K)
              refine aR0 ?_
              have HG5 := Lib.hid (((hg1.tr hg2).tr gd).tr (hg4.tr g3))
              go_wp2_with fail
              go_ret2
              exact (HK _ HG5.out).out
          · rw [← pW0 50 a b 2 rfl] at HK
            have z49 : (⟨#[50]⟩ : ByteArray).size = 1 := rfl
            have z0 : (⟨#[0]⟩ : ByteArray).size = 1 := rfl
            go_enter Tryz.func22, Tryz.ntmps22
            go_wp2_with fail
            refine (CA _).out.mono ?_
            rintro e w1 ⟨rfl, hg1⟩
            go_wp2_with fail
            refine (CB _).out.mono ?_
            rintro e w2 ⟨rfl, hg2⟩
            clear CA CB
            go_wp2_with fail
            refine f_region (aB) (.quiet 0 (.quiet 1 (.quiet 2 (.quiet 5 (.quiet 9 (.alt (.late 3 (.quiet 4 (.quiet 6 (.late 7 (.quiet 8 (.quiet 10 (.quiet 11 (.quiet 12 .done)))))))) (.late 7 (.late 3 (.quiet 4 (.quiet 6 (.quiet 8 (.quiet 10 (.quiet 11 (.quiet 12 .done)))))))))))))) aB.refl aB.trans (by kernel_rfl) (by kernel_rfl) (fun d _ _ _ _ h => by cases d <;> exact h) ?_
            have gd := aB.drew w2
            generalize w2.drew = Wd at *
            iterate 5 (refine gZ rfl (fun K hK => ?_); go_simp; refine hK _ ?_; clear hK K)
            refine jC0 ?_ ?_
            · refine cH rfl rfl (fun K hK => ?_)
              go_simp
              refine ⟨aB.alloc _ _, hK _ _ ?_⟩
              clear hK K
              obtain ⟨W3, hW3⟩ := exq (Wd.alloc (.cells #[.int .u8 50] 5))
              have g3 : aB w2 W3 := by rw [hW3]; exact gd.al _
              have hA : aG W3 (some ⟨Wd.heap.size, 0, none⟩) 1 (([50] : List UInt8).map aV) := by rw [hW3]; exact oZ (enc := aV) (k := 1) (w := Wd) (t := 5) (fz := (0, 0)) (cs := #[.int .u8 50]) (fun _ => rfl) [50] rfl
              have hcv : ∀ x : Ext aB W3, (convert 67 9 (.slice (some ⟨Wd.heap.size, 0, none⟩) 1 1)).run Tryz.prog x.u = .ok (.string ⟨#[50]⟩) x.u := fun x => rW (l := [50]) (c := 1) (hA.grows x.h)
              rw [show IntKind.u8.wrap (IntKind.i64.wrap 50) = 50 from by decide, ← hW3]
              clear hW3 hA
              iterate 2 (refine gZ rfl (fun K hK => ?_); go_simp; refine hK _ ?_; clear hK K)
              refine cH rfl rfl (fun K hK => ?_)
              go_simp
              refine (zero30_any _).mono ?_
              rintro e w4 ⟨rfl, hg4⟩
              refine ⟨hg4, hK _ _ ?_⟩
              clear hK K hcv
              iterate 4 (refine gZ rfl (fun K hK => ?_); go_simp; refine hK _ ?_; clear hK K)
              refine aR0 ?_
              have HG5 := Lib.hid (hg1.tr (hg2.tr (g3.tr hg4)))
              go_wp2_with fail
              go_ret2
              exact (HK _ HG5.out).out
            · refine cH rfl rfl (fun K hK => ?_)
              go_simp
              refine (zero30_any _).mono ?_
              rintro e w4 ⟨rfl, hg4⟩
              refine ⟨hg4, hK _ _ ?_⟩
              clear hK K
              refine cH rfl rfl (fun K hK => ?_)
              go_simp
              refine ⟨aB.alloc _ _, hK _ _ ?_⟩
              clear hK K
              obtain ⟨W3, hW3⟩ := exq (w4.alloc (.cells #[.int .u8 50] 5))
              have g3 : aB w4 W3 := by rw [hW3]; exact aB.alloc _ _
              have hA : aG W3 (some ⟨w4.heap.size, 0, none⟩) 1 (([50] : List UInt8).map aV) := by rw [hW3]; exact oZ (enc := aV) (k := 1) (w := w4) (t := 5) (fz := (0, 0)) (cs := #[.int .u8 50]) (fun _ => rfl) [50] rfl
              have hcv : ∀ x : Ext aB W3, (convert 67 9 (.slice (some ⟨w4.heap.size, 0, none⟩) 1 1)).run Tryz.prog x.u = .ok (.string ⟨#[50]⟩) x.u := fun x => rW (l := [50]) (c := 1) (hA.grows x.h)
              rw [show IntKind.u8.wrap (IntKind.i64.wrap 50) = 50 from by decide, ← hW3]
              clear hW3 hA
              iterate 2 (refine gZ rfl (fun K hK => ?_); go_simp; refine hK _ ?_; clear hK K)
              clear hcv
              iterate 4 (refine gZ rfl (fun K hK => ?_); go_simp; refine hK _ ?_; clear hK K)
              refine aR0 ?_
              have HG5 := Lib.hid (((hg1.tr hg2).tr gd).tr (hg4.tr g3))
              go_wp2_with fail
              go_ret2
              exact (HK _ HG5.out).out
    · have hli : decide ((400 : Int) < (a.size : Int) + b.size + 2) = true := decide_eq_true (by omega)
      have HN := fun (u : World) (hg : aB w u) => Lib.hid (xN (by rw [hok]; simp [hl]) hg : bN0 k a b w _ u)
      have hwr : IntKind.i64.wrap ((a.size : Int) + b.size) = (a.size : Int) + b.size := by simp [IntKind.wrap, IntKind.bits, IntKind.signed]; omega
      have hwr2 : IntKind.i64.wrap ((a.size : Int) + b.size + 2) = (a.size : Int) + b.size + 2 := by simp [IntKind.wrap, IntKind.bits, IntKind.signed]; omega
      clear hok hl
      cases pa
      · rcases hk with rfl | rfl <;>
        · go_enter Tryz.func22, Tryz.ntmps22
          go_wp2_with fail
          refine (CA _).out.mono ?_
          rintro e w1 ⟨rfl, hg1⟩
          go_wp2_with fail
          go_ret2
          exact (HN _ hg1).out
      · cases pb <;>
        · rcases hk with rfl | rfl <;>
          · go_enter Tryz.func22, Tryz.ntmps22
            go_wp2_with fail
            refine (CA _).out.mono ?_
            rintro e w1 ⟨rfl, hg1⟩
            go_wp2_with fail
            refine (CB _).out.mono ?_
            rintro e w2 ⟨rfl, hg2⟩
            go_wp2_with fail
            go_ret2
            exact (HN _ (hg1.tr hg2)).out
  · have HN := fun (u : World) (hg : aB w u) => Lib.hid (xN (by rw [hok]; simp; omega) hg : bN0 k a b w _ u)
    have h1 : (k == 1) = false := by rw [beq_eq_false_iff_ne]; exact fun e => hk (Or.inl e)
    have h2 : (k == 2) = false := by rw [beq_eq_false_iff_ne]; exact fun e => hk (Or.inr e)
    have h3 : (k != 1) = true := by simpa using h1
    have h4 : (k != 2) = true := by simpa using h2
    clear hok hk
    go_enter Tryz.func22, Tryz.ntmps22
    go_wp2_with fail
    go_ret2
    exact (HN _ (aB.refl _)).out
end Go.Proofs.YtjhajgffmnkocaaGreatDoor
