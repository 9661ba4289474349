/- The texts Same16, one behind the other. -/
import Derived.Test.YtcdjponbhpchbaaGreatDoorParses18
import Derived.Test.YtcdjponbhpchbaaGreatDoorParses17
namespace Go.Proofs.YtcdjponbhpchbaaGreatDoor
open Go Go.RowKit Go.Shelf
attribute [local go_sem] quietE quietE2

set_option maxHeartbeats 8000000 in
set_option maxRecDepth 100000 in
theorem same16_any (w : World) (mb bm rb : Nat) (m : Mx) (hm : MatAt w mb bm m) (hr : RefAt w rb m) : Calls Tryz.prog 9 #[.pointer (some ⟨mb, 0, none⟩), .pointer (some ⟨rb, 0, none⟩)] w fun e w' => e = .returned (.bool true) ∧ Grows w w' := by
  have c0 := hr.c0
  have hn2 := hm.ok.n2
  have HM := Lib.hid hm
  have HR := Lib.hid hr
  have CS := fun W (hW : Grows w W) => Lib.hid (size_any W mb bm m (hm.grows hW))
  have CC := fun W (hW : Grows w W) (i k : Int) => Lib.hid (cost_any W mb bm m (hm.grows hW) i k)
  have CR := fun W (hW : Grows w W) (i k : Int) => Lib.hid (rcost_any W rb m (hr.grows hW) i k)
  clear hm hr
  go_enter Tryz.func9, Tryz.ntmps9
  go_wp2_with fail
  have z0 : ∀ x : Ext Grows w.drew, x.u.cell? ⟨rb, 0, none⟩ = some (.int .i64 m.n) := ext_cell ((Grows.drew w).cell c0)
  refine t_region (Grows) [(0, false), (1, false), (2, false), (3, false), (4, false), (5, false), (6, false)] Grows.refl Grows.trans (by kernel_rfl) (by kernel_rfl) (fun d _ _ _ _ h => by cases d <;> exact h) ?_
  iterate 1 (refine t_quiet rfl (fun K hK => ?_); go_simp; refine hK _ ?_; clear hK K)
  refine t_quiet rfl (fun K hK => ?_)
  go_simp
  apply Exists.intro
  refine ⟨fun x => ?_, hK _ ?_⟩
  · go_at_call 13; exact calls_same (CS _ ((Grows.drew w).tr x.h)).out
  clear hK K
  iterate 5 (refine t_quiet rfl (fun K hK => ?_); go_simp; refine hK _ ?_; clear hK K)
  refine t_end ?_
  clear z0
  have hg0 := Grows.drew w
  generalize w.drew = w1 at *
  go_wp2_with fail
  go_loopw [5] (fun i wx => ∃ a : Nat, a ≤ m.n ∧ i = .int .i64 a ∧ Grows w wx) (fun i _ => m.n - (intOf i).toNat)
  case atStart => exact ⟨0, Nat.zero_le _, rfl, hg0⟩
  case round =>
    obtain ⟨a, ha, rfl, hg⟩ := hrel
    have d0 := hg.cell c0
    by_cases hlt : a < m.n
    · obtain ⟨u0, rfl⟩ : ∃ u0, u0 = wr := ⟨_, rfl⟩
      go_wp2_with fail
      go_loopw [6] (fun i wx => ∃ b : Nat, b ≤ m.n ∧ i = .int .i64 b ∧ Grows w wx) (fun i _ => m.n - (intOf i).toNat)
      case atStart => exact ⟨0, Nat.zero_le _, rfl, hg⟩
      case round =>
        obtain ⟨b, hb, rfl, hg2⟩ := hrel
        have e0 := hg2.cell c0
        by_cases hlt2 : b < m.n
        · have C1 := (CC _ hg2 a b).out
          have C2 := (CR _ hg2 a b).out
          generalize m.cost ((a : Int), (b : Int)) = O at C1 C2
          go_wp2_with fail
          refine C1.mono ?_
          rintro e w5 ⟨rfl, rfl⟩
          go_wp2_with fail
          refine C2.mono ?_
          rintro e w6 ⟨rfl, hg6⟩
          go_wp2_with fail
          go_roundw
          case rel => exact ⟨b + 1, hlt2, by go_num, hg2.tr hg6⟩
          case measure => simp [intOf]; omega
        · obtain rfl : b = m.n := by omega
          go_wp2_with fail
          go_roundw
          case rel => exact ⟨a + 1, hlt, by go_num, hg2⟩
          case measure => simp [intOf]; omega
    · obtain rfl : a = m.n := by omega
      go_wp2_with fail
      refine t_region (Grows) [(0, false), (3, false), (1, true), (2, false), (4, true), (5, false), (6, false), (7, false)] Grows.refl Grows.trans (by kernel_rfl) (by kernel_rfl) (fun d _ _ _ _ h => by cases d <;> exact h) ?_
      iterate 2 (refine t_quiet rfl (fun K hK => ?_); go_simp; refine hK _ ?_; clear hK K)
      refine t_late rfl rfl (fun K hK => ?_)
      go_simp
      refine (encode_any wr.drew mb bm m (HM.out.grows hg.dr)).mono ?_
      rintro e w5 ⟨v5, rfl, hown5, hg5⟩
      refine ⟨hg5, hK _ _ ?_⟩
      clear hK K
      have y5 : ∀ x : Ext Grows w5, (convert 40 9 v5).run Tryz.prog x.u = .ok (.string (mkB m.enc)) x.u := fun x => conv_owns (hown5.grows x.h)
      have hg05 := hg.dr.tr hg5
      iterate 1 (refine t_quiet rfl (fun K hK => ?_); go_simp; refine hK _ ?_; clear hK K)
      clear y5
      refine t_late rfl rfl (fun K hK => ?_)
      go_simp
      refine (renc_any w5 rb m (HR.out.grows hg05)).mono ?_
      rintro e w6 ⟨v6, rfl, hown6, hg6⟩
      refine ⟨hg6, hK _ _ ?_⟩
      clear hK K
      have y6 : ∀ x : Ext Grows w6, (convert 40 9 v6).run Tryz.prog x.u = .ok (.string (mkB m.enc)) x.u := fun x => conv_owns (hown6.grows x.h)
      iterate 3 (refine t_quiet rfl (fun K hK => ?_); go_simp; refine hK _ ?_; clear hK K)
      refine t_end ?_
      go_wp2_with fail
      go_ret
      exact ⟨rfl, hg05.tr hg6⟩
end Go.Proofs.YtcdjponbhpchbaaGreatDoor
