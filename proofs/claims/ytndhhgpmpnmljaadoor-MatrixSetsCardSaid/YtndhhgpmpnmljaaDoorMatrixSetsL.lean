import Derived.Test.YtndhhgpmpnmljaaDoorSame16
namespace Go.Proofs.YtndhhgpmpnmljaaDoor
open Go Go.RowKit Go.Shelf
attribute [local go_sem] quietE quietE2

theorem inP00 {m : Mx} (h : m.OK) : (m.setB (0, 0) 7) = true := by
  have := h.n1
  simp only [Mx.setB, Bool.and_eq_true]
  exact ⟨inP_iff.2 ⟨⟨Int.le_refl _, by simp only; omega⟩, Int.le_refl _, by simp only; omega⟩, rfl⟩
set_option maxHeartbeats 8000000 in
set_option maxRecDepth 100000 in
theorem sets_any (n d : Int) (l : List SetV) (la : Option Addr) (lc : Nat) (r q : Int) (w : World) (he : Env w) (hll : l.length ≤ 140737488355328) (hok : ∀ z ∈ l, WfI z.c) (hat : AtCells w la 3 (l.map setC)) :
    Calls Tryd.prog 4 #[.int .i64 n, .int .i64 d, .slice la l.length lc, .int .i64 r, .int .i64 q] w fun e w' => e = .returned (.bool true) ∧ Grows w w' := by
  have HAT := Lib.hid hat
  have HOK := Lib.hid hok
  have CW := fun W (hW : Grows w W) => Lib.hid (works16_any W (he.grows hW))
  clear hat hok he
  by_cases hl : 200 < l.length
  · have hl2 : (200 : Int) < l.length := by omega
    go_enter Tryd.func4, Tryd.ntmps4
    go_wp2_with fail
    refine (CW _ (Grows.refl _)).out.mono ?_
    rintro e w2 ⟨rfl, hg2⟩
    go_wp2
    go_ret
    exact ⟨rfl, hg2⟩
  · have hl2 : ¬ (200 : Int) < l.length := by omega
    cases hb : newB n d
    · go_enter Tryd.func4, Tryd.ntmps4
      go_wp2_with fail
      refine (new_bad n d w hb).mono ?_
      rintro e w1 ⟨rfl, rfl⟩
      go_wp2_with fail
      refine (rnew_bad n d w hb).mono ?_
      rintro e w2 ⟨rfl, rfl⟩
      go_wp2_with fail
      refine (CW _ (Grows.refl _)).out.mono ?_
      rintro e w3 ⟨rfl, hg3⟩
      go_wp2
      go_ret
      exact ⟨rfl, hg3⟩
    · go_enter Tryd.func4, Tryd.ntmps4
      go_wp2_with fail
      refine (new_any n d w hb).mono ?_
      rintro e w1 ⟨rfl, hm1, hg1⟩
      go_wp2_with fail
      refine (rnew_any n d w1 hb).mono ?_
      rintro e w2 ⟨rfl, hr2, hg2⟩
      have hmb : w.heap.size + 1 < w1.heap.size := hm1.mlt
      have hm2 := hm1.grows hg2
      have hg02 := hg1.tr hg2
      clear hm1 hg1 hg2
      obtain ⟨rb, hrb⟩ : ∃ rb, rb = w1.heap.size := ⟨_, rfl⟩
      rw [← hrb] at hr2 hmb ⊢
      clear hrb
      obtain ⟨M0, hM0⟩ : ∃ M, M = newM n d := ⟨_, rfl⟩
      rw [← hM0] at hm2 hr2
      clear hM0
      go_wp2_with fail
      go_loopw [14] (fun i wx => ∃ k : Nat, k ≤ l.length ∧ i = .int .i64 k ∧ MatAt wx (w.heap.size + 1) w.heap.size (runSets M0 (l.take k)) ∧ RefAt wx rb (runSets M0 (l.take k)) ∧ Grows w wx) (fun i _ => l.length - (intOf i).toNat)
      case atStart => exact ⟨0, Nat.zero_le _, rfl, hm2, hr2, hg02⟩
      case round =>
        obtain ⟨k, hk, rfl, hm, hr, hg⟩ := hrel
        by_cases hlt : k < l.length
        · obtain ⟨⟨sr, sl, sc⟩, hs⟩ : ∃ s, l[k]? = some s := ⟨_, List.getElem?_eq_getElem hlt⟩
          have hsc : WfI sc := HOK.out _ (List.mem_of_getElem? hs)
          have HT := Lib.hid (runSets_take (m := M0) hs)
          obtain ⟨lb, lo, rfl, hcl⟩ := (HAT.out).get (ne_nil_of_lt hlt)
          have y0 := hcl k _ hs 0 _ rfl
          have hlb : lb < w.heap.size := World.block_lt_of_cell? w _ y0
          have y1 := hcl k _ hs 1 _ rfl
          have y2 := hcl k _ hs 2 _ rfl
          clear hcl hs
          have hlm : l.length ≤ 200 := by omega
          generalize runSets M0 (l.take k) = M1 at *
          go_wp2_with fail
          refine (copy_any wr _ _ _ hm).mono ?_
          rintro e w3 ⟨mb', bm', rfl, hb1, hb2, hmc, hg3⟩
          have hgw3 := hg.tr hg3
          have hm3 := hm.grows hg3
          have hr3 := hr.grows hg3
          have hrl := hr.lt
          have hbl := hm.blt
          go_wp2_with fail
          have z0 : ∀ x : Ext Grows w3.drew, x.u.cell? ⟨lb, lo + k * 3, none⟩ = some (.int .i64 sr) := ext_cell (hgw3.dr.cell y0)
          have z1 : ∀ x : Ext Grows w3.drew, x.u.cell? ⟨lb, lo + k * 3 + 1, none⟩ = some (.int .i64 sl) := ext_cell (hgw3.dr.cell y1)
          have z2 : ∀ x : Ext Grows w3.drew, x.u.cell? ⟨lb, lo + k * 3 + 2, none⟩ = some (.int .i64 sc) := ext_cell (hgw3.dr.cell y2)
          have HS0 := Lib.hid (inP00 hm3.ok)
          cases hB : M1.setB (sr, sl) sc
          · refine t_tail (Grows) 16 [(0, false), (1, false), (2, false), (3, false), (4, false), (5, false), (6, false), (7, false), (8, false), (9, false), (10, false), (11, false), (12, false), (13, false), (14, false), (15, false)] Grows.refl Grows.trans (by kernel_rfl) (by kernel_rfl) (fun d _ _ _ _ h => by cases d <;> exact h) ?_
            iterate 16 (refine t_quiet rfl (fun K hK => ?_); go_simp; refine hK _ ?_; clear hK K)
            refine t_end ?_
            simp only [List.drop_succ_cons, List.drop_zero]
            clear z0 z1 z2
            have hSV := set_any w3.drew _ _ _ (hm3.grows (Grows.drew w3)) sr sl sc hsc
            unfold SetPost at hSV
            rw [hB] at hSV
            go_wp2_with fail
            refine hSV.mono ?_
            rintro e w4 ⟨rfl, hm4, hg4⟩
            clear hSV
            have hr4 := (hr3.grows (Grows.drew w3)).kept (hm3.grows (Grows.drew w3)) hg4
            have hmc4 := (hmc.grows (Grows.drew w3)).kept hg4 (by intro e; have := Option.some.inj e; omega) (by intro e; have := Option.some.inj e; omega)
            have hgw4 : Grows w w4 := hgw3.dr.grown hg4 (fun q hq => by cases hq; exact Nat.le_refl _)
            go_wp2_with fail
            refine (set_any w4 _ _ _ hmc4 0 0 7 (show (Lit.int .i64 7).wf = true by kernel_rfl)).mono ?_
            rintro e w5 ⟨rfl, _, hg5⟩
            rw [HS0.out]
            have hm5 := hm4.kept hg5 (by intro e; have := Option.some.inj e; omega) (by intro e; have := Option.some.inj e; omega)
            have hr5 := hr4.kept hmc4 hg5
            have hgw5 : Grows w w5 := hgw4.grown hg5 (fun q hq => by cases hq; have := hg.size; omega)
            clear hr4 hmc4 hm4 hg4 hg5 hgw4 hm3 hr3 hmc
            go_wp2_with fail
            have x0 : ∀ x : Ext (EB w.heap.size) w5.drew, x.u.cell? ⟨lb, lo + k * 3, none⟩ = some (.int .i64 sr) := ext_cellB hlb (hgw5.dr.cell y0)
            have x1 : ∀ x : Ext (EB w.heap.size) w5.drew, x.u.cell? ⟨lb, lo + k * 3 + 1, none⟩ = some (.int .i64 sl) := ext_cellB hlb (hgw5.dr.cell y1)
            have x2 : ∀ x : Ext (EB w.heap.size) w5.drew, x.u.cell? ⟨lb, lo + k * 3 + 2, none⟩ = some (.int .i64 sc) := ext_cellB hlb (hgw5.dr.cell y2)
            refine t_region (EB w.heap.size) [(0, false), (1, false), (2, false), (3, false), (4, false), (5, false), (6, false), (7, false), (8, false), (9, false), (10, false), (11, false), (12, false), (13, false), (14, false), (15, false), (16, false), (17, false), (18, true), (19, false), (20, false), (21, false), (22, false), (23, false), (24, false), (25, false), (26, false), (27, false)] (EB.refl w.heap.size) (EB.trans w.heap.size) (by kernel_rfl) (by kernel_rfl) (fun d _ _ _ _ h => by cases d <;> exact h) ?_
            iterate 18 (refine t_quiet rfl (fun K hK => ?_); go_simp; refine hK _ ?_; clear hK K)
            clear x0 x1 x2
            have hRV := rset_any w5.drew _ _ (hr5.grows (Grows.drew w5)) sr sl sc
            unfold RSetPost at hRV
            rw [hB] at hRV
            refine t_late rfl rfl (fun K hK => ?_)
            go_simp
            refine hRV.mono ?_
            rintro e w6 ⟨rfl, hr6, g, hgl, hg6⟩
            have hm6 := (hm5.grows (Grows.drew w5)).kept hg6 (by intro e; have := Option.some.inj e; omega) (by intro e; have := Option.some.inj e; omega)
            have hgw6 : Grows w w6 := hgw5.dr.grown hg6 (fun q hq => by cases hq; omega)
            refine ⟨⟨Below.grown (Below.refl _ _) hg6 hgw5.size (fun q hq => by cases hq; omega), hg6.size⟩, hK _ _ ?_⟩
            clear hK K hRV
            iterate 9 (refine t_quiet rfl (fun K hK => ?_); go_simp; refine hK _ ?_; clear hK K)
            refine t_end ?_
            go_wp2_with fail
            go_roundw
            case rel => exact ⟨k + 1, hlt, by go_num, by rw [HT.out]; exact hm6, by rw [HT.out]; exact hr6, hgw6⟩
            case measure => simp [intOf]; omega
          · refine t_tail (Grows) 16 [(0, false), (1, false), (2, false), (3, false), (4, false), (5, false), (6, false), (7, false), (8, false), (9, false), (10, false), (11, false), (12, false), (13, false), (14, false), (15, false)] Grows.refl Grows.trans (by kernel_rfl) (by kernel_rfl) (fun d _ _ _ _ h => by cases d <;> exact h) ?_
            iterate 16 (refine t_quiet rfl (fun K hK => ?_); go_simp; refine hK _ ?_; clear hK K)
            refine t_end ?_
            simp only [List.drop_succ_cons, List.drop_zero]
            clear z0 z1 z2
            have hSV := set_any w3.drew _ _ _ (hm3.grows (Grows.drew w3)) sr sl sc hsc
            unfold SetPost at hSV
            rw [hB] at hSV
            go_wp2_with fail
            refine hSV.mono ?_
            rintro e w4 ⟨rfl, hm4, hg4⟩
            clear hSV
            have hr4 := (hr3.grows (Grows.drew w3)).kept (hm3.grows (Grows.drew w3)) hg4
            have hmc4 := (hmc.grows (Grows.drew w3)).kept hg4 (by intro e; have := Option.some.inj e; omega) (by intro e; have := Option.some.inj e; omega)
            have hgw4 : Grows w w4 := hgw3.dr.grown hg4 (fun q hq => by cases hq; exact Nat.le_refl _)
            go_wp2_with fail
            refine (set_any w4 _ _ _ hmc4 0 0 7 (show (Lit.int .i64 7).wf = true by kernel_rfl)).mono ?_
            rintro e w5 ⟨rfl, _, hg5⟩
            rw [HS0.out]
            have hm5 := hm4.kept hg5 (by intro e; have := Option.some.inj e; omega) (by intro e; have := Option.some.inj e; omega)
            have hr5 := hr4.kept hmc4 hg5
            have hgw5 : Grows w w5 := hgw4.grown hg5 (fun q hq => by cases hq; have := hg.size; omega)
            clear hr4 hmc4 hm4 hg4 hg5 hgw4 hm3 hr3 hmc
            go_wp2_with fail
            have x0 : ∀ x : Ext (EB w.heap.size) w5.drew, x.u.cell? ⟨lb, lo + k * 3, none⟩ = some (.int .i64 sr) := ext_cellB hlb (hgw5.dr.cell y0)
            have x1 : ∀ x : Ext (EB w.heap.size) w5.drew, x.u.cell? ⟨lb, lo + k * 3 + 1, none⟩ = some (.int .i64 sl) := ext_cellB hlb (hgw5.dr.cell y1)
            have x2 : ∀ x : Ext (EB w.heap.size) w5.drew, x.u.cell? ⟨lb, lo + k * 3 + 2, none⟩ = some (.int .i64 sc) := ext_cellB hlb (hgw5.dr.cell y2)
            refine t_region (EB w.heap.size) [(0, false), (1, false), (2, false), (3, false), (4, false), (5, false), (6, false), (7, false), (8, false), (9, false), (10, false), (11, false), (12, false), (13, false), (14, false), (15, false), (16, false), (17, false), (18, true), (19, false), (20, false), (21, false), (22, false), (23, false), (24, false), (25, false), (26, false), (27, false)] (EB.refl w.heap.size) (EB.trans w.heap.size) (by kernel_rfl) (by kernel_rfl) (fun d _ _ _ _ h => by cases d <;> exact h) ?_
            iterate 18 (refine t_quiet rfl (fun K hK => ?_); go_simp; refine hK _ ?_; clear hK K)
            clear x0 x1 x2
            have hRV := rset_any w5.drew _ _ (hr5.grows (Grows.drew w5)) sr sl sc
            unfold RSetPost at hRV
            rw [hB] at hRV
            refine t_late rfl rfl (fun K hK => ?_)
            go_simp
            refine hRV.mono ?_
            rintro e w6 ⟨rfl, hr6, g, hgl, hg6⟩
            have hm6 := (hm5.grows (Grows.drew w5)).kept hg6 (by intro e; have := Option.some.inj e; omega) (by intro e; have := Option.some.inj e; omega)
            have hgw6 : Grows w w6 := hgw5.dr.grown hg6 (fun q hq => by cases hq; omega)
            refine ⟨⟨Below.grown (Below.refl _ _) hg6 hgw5.size (fun q hq => by cases hq; omega), hg6.size⟩, hK _ _ ?_⟩
            clear hK K hRV
            iterate 9 (refine t_quiet rfl (fun K hK => ?_); go_simp; refine hK _ ?_; clear hK K)
            refine t_end ?_
            go_wp2_with fail
            go_roundw
            case rel => exact ⟨k + 1, hlt, by go_num, by rw [HT.out]; exact hm6, by rw [HT.out]; exact hr6, hgw6⟩
            case measure => simp [intOf]; omega
        · obtain rfl : k = l.length := by omega
          rw [List.take_length] at hm hr
          generalize runSets M0 l = M1 at *
          go_wp2_with fail
          refine (same16_any wr _ _ _ _ hm hr).mono ?_
          rintro e w3 ⟨rfl, hg3⟩
          have hm3 := hm.grows hg3
          have hr3 := hr.grows hg3
          go_wp2_with fail
          refine (cost_any w3 _ _ _ hm3 r q).mono ?_
          rintro e w4 ⟨rfl, rfl⟩
          go_wp2_with fail
          refine (rcost_any w3 _ _ hr3 r q).mono ?_
          rintro e w5 ⟨rfl, hg5⟩
          have hgw5 := (hg.tr hg3).tr hg5
          go_wp2_with fail
          refine (CW _ hgw5).out.mono ?_
          rintro e w6 ⟨rfl, hg6⟩
          go_wp2
          go_ret
          exact ⟨rfl, hgw5.tr hg6⟩
end Go.Proofs.YtndhhgpmpnmljaaDoor
