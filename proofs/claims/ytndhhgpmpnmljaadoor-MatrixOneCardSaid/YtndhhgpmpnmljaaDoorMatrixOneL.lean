import Derived.Test.YtndhhgpmpnmljaaDoorMatSets
import Derived.Test.YtndhhgpmpnmljaaDoorOrdT
namespace Go.Proofs.YtndhhgpmpnmljaaDoor
open Go Go.RowKit Go.Shelf
attribute [local go_sem] quietE quietE2

set_option maxHeartbeats 8000000 in
set_option maxRecDepth 100000 in
theorem one_any (n d : Int) (l : List SetV) (la : Option Addr) (lc : Nat) (x : SetV) (w : World) (he : Env w) (hll : l.length ≤ 140737488355328) (hok : ∀ z ∈ l, WfI z.c) (hxc : WfI x.c) (hat : AtCells w la 3 (l.map setC)) :
    Calls Tryd.prog 5 #[.int .i64 n, .int .i64 d, .slice la l.length lc, .agg #[.int .i64 x.r, .int .i64 x.l, .int .i64 x.c]] w fun e w' => e = .returned (.bool true) ∧ Grows w w' := by
  obtain ⟨xr, xl, xc⟩ := x
  have HAT := Lib.hid hat
  have HOK := Lib.hid hok
  have CW := fun W (hW : Grows w W) => Lib.hid (works16_any W (he.grows hW))
  clear hat hok he
  go_enter Tryd.func5, Tryd.ntmps5
  go_wp2_with fail
  have hgA := Grows.alloc w (.cells #[.int .i64 xr, .int .i64 xl, .int .i64 xc] 35)
  have xc0 : (w.alloc (.cells #[.int .i64 xr, .int .i64 xl, .int .i64 xc] 35)).cell? ⟨w.heap.size, 0, none⟩ = some (.int .i64 xr) := cell_box w #[.int .i64 xr, .int .i64 xl, .int .i64 xc] 35 (0, 0) 0 _ rfl
  have xc1 : (w.alloc (.cells #[.int .i64 xr, .int .i64 xl, .int .i64 xc] 35)).cell? ⟨w.heap.size, 1, none⟩ = some (.int .i64 xl) := cell_box w #[.int .i64 xr, .int .i64 xl, .int .i64 xc] 35 (0, 0) 1 _ rfl
  have xc2 : (w.alloc (.cells #[.int .i64 xr, .int .i64 xl, .int .i64 xc] 35)).cell? ⟨w.heap.size, 2, none⟩ = some (.int .i64 xc) := cell_box w #[.int .i64 xr, .int .i64 xl, .int .i64 xc] 35 (0, 0) 2 _ rfl
  have hbl : w.heap.size < (w.alloc (.cells #[.int .i64 xr, .int .i64 xl, .int .i64 xc] 35)).heap.size := by simp
  generalize w.alloc (.cells #[.int .i64 xr, .int .i64 xl, .int .i64 xc] 35) = W0 at *
  cases hb : newB n d
  · refine (new_bad n d W0 hb).mono ?_
    rintro e w1 ⟨rfl, rfl⟩
    go_wp2_with fail
    refine (CW _ hgA).out.mono ?_
    rintro e w2 ⟨rfl, hg2⟩
    go_wp2
    go_ret
    exact ⟨rfl, hgA.tr hg2⟩
  · refine (new_any n d W0 hb).mono ?_
    rintro e w1 ⟨rfl, hm1, hg1⟩
    by_cases hl : 200 < l.length
    · have hl2 : (200 : Int) < l.length := by omega
      go_wp2_with fail
      refine (CW _ (hgA.tr hg1)).out.mono ?_
      rintro e w2 ⟨rfl, hg2⟩
      go_wp2
      go_ret
      exact ⟨rfl, (hgA.tr hg1).tr hg2⟩
    · have hl2 : ¬ (200 : Int) < l.length := by omega
      have HL := Lib.hid (show l.length ≤ 200 by omega)
      have hmb : W0.heap.size + 1 < w1.heap.size := hm1.mlt
      have hbm : W0.heap.size < w1.heap.size := hm1.blt
      obtain ⟨N, rfl⟩ : ∃ N : Nat, n = N := ⟨n.toNat, by have := newB_iff.1 hb; omega⟩
      obtain ⟨M0, hM0⟩ : ∃ M, M = newM N d := ⟨_, rfl⟩
      have hN0 : M0.n = N := by rw [hM0]; rfl
      rw [← hM0] at hm1
      have hNB := newB_iff.1 hb
      clear hM0
      go_wp2_with fail
      refine (size_any _ _ _ _ hm1).mono ?_
      rintro e w2 ⟨rfl, rfl⟩
      rw [hN0]
      go_wp2_with fail
      go_loopw [11] (fun i wx => ∃ k : Nat, k ≤ l.length ∧ i = .int .i64 k ∧ MatAt wx (W0.heap.size + 1) W0.heap.size (runSets M0 (l.take k)) ∧ Grows W0 wx) (fun i _ => l.length - (intOf i).toNat)
      case atStart => exact ⟨0, Nat.zero_le _, rfl, hm1, hg1⟩
      case round =>
        obtain ⟨k, hk, rfl, hm, hg⟩ := hrel
        by_cases hlt : k < l.length
        · obtain ⟨⟨sr, sl, sc⟩, hs⟩ : ∃ s, l[k]? = some s := ⟨_, List.getElem?_eq_getElem hlt⟩
          have hsc : WfI sc := HOK.out _ (List.mem_of_getElem? hs)
          have HT := Lib.hid (runSets_take (m := M0) hs)
          obtain ⟨lb, lo, rfl, hcl⟩ := (HAT.out.grows (hgA.tr hg)).get (ne_nil_of_lt hlt)
          have y0 := hcl k _ hs 0 _ rfl
          have y1 := hcl k _ hs 1 _ rfl
          have y2 := hcl k _ hs 2 _ rfl
          clear hcl hs
          have hlm : l.length ≤ 200 := HL.out
          go_wp2_with fail
          have z0 : ∀ x : Ext Grows wr.drew, x.u.cell? ⟨lb, lo + k * 3, none⟩ = some (.int .i64 sr) := ext_cell ((Grows.drew wr).cell y0)
          have z1 : ∀ x : Ext Grows wr.drew, x.u.cell? ⟨lb, lo + k * 3 + 1, none⟩ = some (.int .i64 sl) := ext_cell ((Grows.drew wr).cell y1)
          have z2 : ∀ x : Ext Grows wr.drew, x.u.cell? ⟨lb, lo + k * 3 + 2, none⟩ = some (.int .i64 sc) := ext_cell ((Grows.drew wr).cell y2)
          refine t_tail (Grows) 16 [(0, false), (1, false), (2, false), (3, false), (4, false), (5, false), (6, false), (7, false), (8, false), (9, false), (10, false), (11, false), (12, false), (13, false), (14, false), (15, false)] Grows.refl Grows.trans (by kernel_rfl) (by kernel_rfl) (fun d _ _ _ _ h => by cases d <;> exact h) ?_
          iterate 16 (refine t_quiet rfl (fun K hK => ?_); go_simp; refine hK _ ?_; clear hK K)
          refine t_end ?_
          simp only [List.drop_succ_cons, List.drop_zero]
          clear z0 z1 z2
          go_wp2_with fail
          refine (set_any wr.drew _ _ _ (hm.grows (Grows.drew wr)) sr sl sc hsc).mono ?_
          rintro e w3 ⟨rfl, hm3, hg3⟩
          go_wp2_with fail
          go_roundw
          case rel => exact ⟨k + 1, hlt, by go_num, by rw [HT.out]; exact hm3, hg.dr.grown hg3 (fun q hq => by cases hq; exact Nat.le_refl _)⟩
          case measure => simp [intOf]; omega
        · obtain rfl : k = l.length := by omega
          rw [List.take_length] at hm
          have hN1 : (runSets M0 l).n = N := by rw [runSets_n, hN0]
          generalize runSets M0 l = M1 at *
          go_wp2_with fail
          refine (copy_any wr _ _ _ hm).mono ?_
          rintro e w3 ⟨mb', bm', rfl, hb1, hb2, hmc, hg3⟩
          have hgw3 := hg.tr hg3
          have v0 := hgw3.cell xc0
          have v1 := hgw3.cell xc1
          have v2 := hgw3.cell xc2
          have hwr := hg.size
          go_wp2_with fail
          refine (set_any w3 _ _ _ (hm.grows hg3) xr xl xc hxc).mono ?_
          rintro e w4 ⟨he, hm4, hg4⟩
          obtain ⟨F, hF⟩ : ∃ F : Int, F = (if M1.setB (xr, xl) xc = true then 0 else 6) := ⟨_, rfl⟩
          rw [← hF] at he
          subst he
          have hblt := hm.blt
          have hne : ∀ j, some (⟨w.heap.size, j, none⟩ : Addr).block ≠ some W0.heap.size := fun j e => by have := Option.some.inj e; simp only at this; omega
          replace v0 := grownBy_cell hg4 v0 (hne 0)
          replace v1 := grownBy_cell hg4 v1 (hne 1)
          replace v2 := grownBy_cell hg4 v2 (hne 2)
          replace hmc := hmc.kept hg4 (by intro e; have := Option.some.inj e; omega) (by intro e; have := Option.some.inj e; omega)
          have hgw4 : Grows W0 w4 := hgw3.grown hg4 (fun q hq => by cases hq; exact Nat.le_refl _)
          have HCOST := fun y => Lib.hid (setIf_cost hm.ok (xr, xl) xc y)
          have CC := fun (i k : Int) => Lib.hid (cost_any w4 _ _ _ hm4 i k)
          have CO := fun (i k : Int) => Lib.hid (cost_any w4 _ _ _ hmc i k)
          have hnm : M1.n = N := hN1
          clear hm hm4 hmc hg3 hg4 hne hgw3 hb1 hb2 xc0 xc1 xc2
          generalize M1.setIf (xr, xl) xc = M2 at *
          generalize M1.setB (xr, xl) xc = B at *
          have hNs : (N : Int) ≤ 64 := hNB.2.1
          have HF := Lib.hid hF
          clear hF
          go_wp2_with fail
          go_loopw [14] (fun i wx => ∃ a : Nat, a ≤ N ∧ i = .int .i64 a ∧ w4 = wx) (fun i _ => N - (intOf i).toNat)
          case atStart => exact ⟨0, Nat.zero_le _, rfl, rfl⟩
          case round =>
            obtain ⟨a, ha, rfl, rfl⟩ := hrel
            by_cases hlt : a < N
            · go_wp2_with fail
              go_loopw [15] (fun i wx => ∃ b : Nat, b ≤ N ∧ i = .int .i64 b ∧ w4 = wx) (fun i _ => N - (intOf i).toNat)
              case atStart => exact ⟨0, Nat.zero_le _, rfl, rfl⟩
              case round =>
                obtain ⟨b, hb, rfl, rfl⟩ := hrel
                by_cases hlt2 : b < N
                · have hC := (HCOST ((a : Int), (b : Int))).out
                  have CC1 := (CC a b).out
                  have CO1 := (CO a b).out
                  generalize M1.cost ((a : Int), (b : Int)) = O at *
                  have hF := HF.out
                  by_cases hB : B = true
                  · rw [if_pos hB] at hF
                    subst hF
                    by_cases q1 : (a : Int) = xr
                    · by_cases q2 : (b : Int) = xl
                      · have hx : M2.cost ((a : Int), (b : Int)) = xc := by rw [hC, if_pos ⟨hB, Prod.ext q1 q2⟩]
                        rw [hx] at CC1
                        subst q1
                        subst q2
                        clear hC hx HCOST CC CO HF
                        go_wp2_with fail
                        refine CO1.mono ?_
                        rintro e w5 ⟨rfl, rfl⟩
                        go_wp2_with fail
                        refine CC1.mono ?_
                        rintro e w6 ⟨rfl, rfl⟩
                        go_wp2_with fail
                        go_roundw
                        case rel => exact ⟨b + 1, hlt2, by go_num, trivial⟩
                        case measure => simp [intOf]; omega
                      · have hx : M2.cost ((a : Int), (b : Int)) = O := by rw [hC, if_neg (fun h => q2 (congrArg Prod.snd h.2))]
                        rw [hx] at CC1
                        subst q1
                        clear hC hx HCOST CC CO HF
                        go_wp2_with fail
                        refine CO1.mono ?_
                        rintro e w5 ⟨rfl, rfl⟩
                        go_wp2_with fail
                        refine CC1.mono ?_
                        rintro e w6 ⟨rfl, rfl⟩
                        go_wp2_with fail
                        go_roundw
                        case rel => exact ⟨b + 1, hlt2, by go_num, trivial⟩
                        case measure => simp [intOf]; omega
                    · have hx : M2.cost ((a : Int), (b : Int)) = O := by rw [hC, if_neg (fun h => q1 (congrArg Prod.fst h.2))]
                      rw [hx] at CC1
                      clear hC hx HCOST CC CO HF
                      go_wp2_with fail
                      refine CO1.mono ?_
                      rintro e w5 ⟨rfl, rfl⟩
                      go_wp2_with fail
                      refine CC1.mono ?_
                      rintro e w6 ⟨rfl, rfl⟩
                      go_wp2_with fail
                      go_roundw
                      case rel => exact ⟨b + 1, hlt2, by go_num, trivial⟩
                      case measure => simp [intOf]; omega
                  · have hx : M2.cost ((a : Int), (b : Int)) = O := by rw [hC, if_neg (fun h => hB h.1)]
                    rw [hx] at CC1
                    rw [if_neg hB] at hF
                    subst hF
                    clear hC hx HCOST CC CO HF
                    go_wp2_with fail
                    refine CO1.mono ?_
                    rintro e w5 ⟨rfl, rfl⟩
                    go_wp2_with fail
                    refine CC1.mono ?_
                    rintro e w6 ⟨rfl, rfl⟩
                    go_wp2_with fail
                    go_roundw
                    case rel => exact ⟨b + 1, hlt2, by go_num, trivial⟩
                    case measure => simp [intOf]; omega
                · obtain rfl : b = N := by omega
                  go_wp2_with fail
                  go_roundw
                  case rel => exact ⟨a + 1, hlt, by go_num, trivial⟩
                  case measure => simp [intOf]; omega
            · obtain rfl : a = N := by omega
              go_wp2_with fail
              refine (CW _ (hgA.tr hgw4)).out.mono ?_
              rintro e w5 ⟨rfl, hg5⟩
              go_wp2
              go_ret
              exact ⟨rfl, (hgA.tr hgw4).tr hg5⟩
end Go.Proofs.YtndhhgpmpnmljaaDoor
