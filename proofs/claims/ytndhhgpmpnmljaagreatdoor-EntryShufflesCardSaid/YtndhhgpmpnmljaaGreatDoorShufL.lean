import Derived.Test.YtndhhgpmpnmljaaGreatDoorShufP
import Derived.Test.YtndhhgpmpnmljaaGreatDoorLawB
import Derived.Test.YtndhhgpmpnmljaaGreatDoorApp4
import Derived.Test.YtndhhgpmpnmljaaGreatDoorPutU
import Derived.Test.YtndhhgpmpnmljaaGreatDoorSlc
import Derived.Test.YtndhhgpmpnmljaaGreatDoorOrdS
import Derived.Test.YtndhhgpmpnmljaaGreatDoorMat
import Derived.Test.YtndhhgpmpnmljaaGreatDoorSortW
import Derived.Test.YtndhhgpmpnmljaaGreatDoorWorks
namespace Go.Proofs.YtndhhgpmpnmljaaGreatDoor
open Go Go.RowKit Go.Shelf
attribute [local go_sem] quietE

theorem ne4 {α : Type} {p1 p2 p3 p4 : Prop} [Decidable p1] [Decidable p2] [Decidable p3] [Decidable p4] {x y : α} (h : ¬ (p1 ∧ p2 ∧ p3 ∧ p4)) : (if p1 then if p2 then if p3 then if p4 then x else y else y else y else y) = y := by
  by_cases h1 : p1 <;> by_cases h2 : p2 <;> by_cases h3 : p3 <;> by_cases h4 : p4 <;> simp_all
theorem wrap_nat {n : Nat} (h : n ≤ 1048576) : IntKind.i64.wrap (n : Int) = n := by simp [IntKind.wrap, IntKind.bits, IntKind.signed]; omega
theorem less1_is {x y : En} {b : Bool} (hb : lessS x y = b) (W : World) : Calls Tryz.prog 28 #[x.agg, y.agg] W fun e w' => e = .returned (.bool b) ∧ Grows W w' := hb ▸ less_any x y W
theorem sortS_len (l : List En) : (sortS l).length ≤ l.length := by
  have h := sortS_spec l
  have hn : (sortS l).Nodup := h.1.imp fun {a b} hab e => by rw [e, lessS_irrefl] at hab; cases hab
  exact nodup_sub_len hn fun y hy => ((h.2 y).1 hy).1
set_option maxHeartbeats 8000000 in
set_option maxRecDepth 100000 in
theorem shuffles_any (l : List En) (la : Option Addr) (lc : Nat) (n : Int) (hn0 : 0 ≤ n) (hn1 : n < 256) (w : World) (he : Env w) (hll : l.length ≤ 140737488355328) (hok : ∀ z ∈ l, EnOK z) (hat : AtCells w la 5 (l.map enCells)) (hnil : la = none → lc = 0) (hlc : l.length ≤ lc) :
    Calls Tryz.prog 7 #[.slice la l.length lc, .int .u8 n] w fun e w' => e = .returned (.bool true) ∧ Grows w w' := by
  have HAT := Lib.hid hat
  have HNIL := Lib.hid hnil
  have HOK := Lib.hid hok
  have CF := Lib.hid (few_any l la lc w (by omega) hat)
  clear hat hnil hok
  go_enter Tryz.func7, Tryz.ntmps7
  go_wp2_with fail
  refine CF.out.mono ?_
  rintro e w1 ⟨⟨fb, rfl, hfb⟩, hg1⟩
  cases fb
  · clear hfb
    go_wp2
    go_ret
    exact ⟨rfl, hg1⟩
  · have HF := Lib.hid (fewS_parts2 (hfb rfl))
    clear hfb CF
    have hl1 : l.length ≤ 100 := HF.out.1
    go_wp2_with fail
    refine (esort_any l la lc w1 (by omega) HOK.out (HAT.out.grows hg1)).mono ?_
    rintro e w2 ⟨v2, rfl, hown2, hg2⟩
    obtain ⟨a2, c2, rfl, h21, h22, hat2⟩ := hown2.at_ entLay.len
    have hn2 := owns_none2 hown2
    have hgw := hg1.tr hg2
    clear hown2 hg1 hg2
    go_wp2_with fail
    generalize hkk : n % ((l.length : Int) + 1) = kk
    have hk0 : 0 ≤ kk := by rw [← hkk]; exact Int.emod_nonneg _ (by omega)
    have hk1 : kk < (l.length : Int) + 1 := by rw [← hkk]; exact Int.emod_lt_of_pos _ (by omega)
    clear hkk hn0 hn1
    obtain ⟨k, rfl⟩ := Int.eq_ofNat_of_zero_le hk0
    have hkl : k ≤ l.length := by omega
    obtain ⟨p1, hp1, hq1, hr1⟩ := sliced_at (k := 5) (l := k) (h := l.length) (HAT.out.grows hgw) HNIL.out hkl (Nat.le_refl _) hlc
    have hq2 := at_take (HAT.out.grows hgw) k
    have hkc : k ≤ lc := by omega
    rw [List.take_length] at hq1
    have hL1 : (l.drop k).length = l.length - k := List.length_drop
    have hL2 : (l.take k).length = k := by rw [List.length_take]; omega
    have HQ1 := Lib.hid hq1
    have HQ2 := Lib.hid hq2
    have hsl : (if lc = k then la else la.map (·.add (k * 5))) = p1 := by
      unfold sliced at hp1
      injection hp1
    clear hq1 hq2 hp1
    refine wp_region_tail Grows 8 [(1, false), (2, false), (3, false), (5, false), (6, false), (7, false), (0, true), (4, true)] Grows.refl Grows.trans (by kernel_rfl) (by kernel_rfl) (fun d _ _ _ _ h => by cases d <;> exact h) ?_
    iterate 6 (refine ord_quiet rfl (fun K hK => ?_); go_simp; refine hK _ ?_; clear hK K)
    refine ord_late_w rfl rfl (fun K hK w3 h3 => ?_)
    go_simp
    refine ⟨Grows.alloc _ _, hK _ _ ?_⟩
    clear hK K
    refine ord_late_w rfl rfl (fun K hK w4 h4 => ?_)
    have hgw4 : Grows w2 w4 := (((Grows.drew w2).tr h3).al _).tr h4
    refine app_lit_wp entLay _ _ rfl w3.heap.size ⟨w3.heap.size, 0, none⟩ (l.drop k) rfl ((owns_lit w3.heap.size (Nat.le_refl _)).grows h4) p1 (lc - k) (by rw [hL1]; rfl) (HQ1.out.grows hgw4) hr1 (by omega) (by have := h4.size; simp at this; omega) ?_
    intro v5 w5 hown5 hg5
    refine ⟨hg5, hK _ _ ?_⟩
    clear hK K
    refine ord_end (fun w6 h6 => ?_)
    simp only [List.drop_succ_cons, List.drop_zero]
    have hgw6 : Grows w2 w6 := (hgw4.tr hg5).tr h6
    have hgww := hgw.tr hgw6
    have hw26 := hgw6.size
    go_wp2_with (at_builtin; refine app_many entLay rfl _ _ rfl w2.heap.size v5 (l.drop k) (l.take k) rfl ((hown5.grows h6).base (by have := h3.size; simp at this; omega)) (Grows.refl _) la lc (by rw [hL2]; rfl) (HQ2.out.grows hgw6) HNIL.out (by rw [hL1, hL2]; omega) hw26 ?_; intro v7 w7 hown7 hg7)
    have hgw7 := hg7 w2 hgw6 (Nat.le_refl _)
    have hgr0 := hgw.tr hgw7
    clear hg7 hown5 hg5 h6 hgw6 hgww hw26 h3 h4 hgw4 HQ1 HQ2 hr1 hsl
    obtain ⟨T, hTe⟩ : ∃ T, T = l.drop k ++ l.take k := ⟨_, rfl⟩
    rw [← hTe] at hown7
    have hl3 : T.length ≤ 1048576 := by rw [hTe, List.length_append, hL1, hL2]; omega
    have hok3 : Hid (∀ z ∈ T, EnOK z) := fun z hz => HOK.out z (by
      rw [hTe] at hz
      rcases List.mem_append.1 hz with h | h
      · exact List.mem_of_mem_drop h
      · exact List.mem_of_mem_take h)
    have hst : sortS T = sortS l := by rw [hTe, sortS_turn]
    clear hTe
    obtain ⟨a7, c7, rfl, _, _, hat7⟩ := hown7.at_ entLay.len
    have HT := Lib.hid hat7
    have HO2 := Lib.hid hat2
    have hsl := sortS_len l
    have hok2 : Hid (∀ z ∈ sortS l, EnOK z) := fun z hz => HOK.out z (sortS_mem hz).1
    have CT := fun W (hW : Grows w7 W) => Lib.hid (esort_any T a7 c7 W hl3 hok3.out (HT.out.grows hW))
    unfold ESortPost at CT
    rw [hst] at CT
    have CO := fun W (hW : Grows w2 W) => Lib.hid (esort_any (sortS l) a2 c2 W (by omega) hok2.out (HO2.out.grows hW))
    unfold ESortPost at CO
    rw [sortS_idem] at CO
    clear hat7 hown7 hat2
    refine (CO _ hgw7).out.mono ?_
    rintro e w8 ⟨v8, rfl, hown8, hg8⟩
    obtain ⟨a8, c8, rfl, _, _, hat8⟩ := hown8.at_ entLay.len
    clear hown8
    go_wp2_with fail
    refine (same_self2 (sortS l) a8 a2 c8 c2 _ (by omega) hat8 (HO2.out.grows (hgw7.tr hg8))).mono ?_
    rintro e w9 ⟨rfl, hg9⟩
    clear hat8
    go_wp2_with fail
    refine (CT _ (hg8.tr hg9)).out.mono ?_
    rintro e w10 ⟨v10, rfl, hown10, hg10⟩
    obtain ⟨a10, c10, rfl, _, _, hat10⟩ := hown10.at_ entLay.len
    clear hown10
    have hg710 := (hg8.tr hg9).tr hg10
    go_wp2_with fail
    refine (same_self2 (sortS l) a10 a2 c10 c2 _ (by omega) hat10 (HO2.out.grows (hgw7.tr hg710))).mono ?_
    rintro e w11 ⟨rfl, hg11⟩
    have hgr := hg710.tr hg11
    have HO : Hid (AtCells w7 a2 5 ((sortS l).map enCells)) := HO2.out.grows hgw7
    have HL : Hid (AtCells w7 la 5 (l.map enCells)) := HAT.out.grows hgr0
    clear hat10 hg8 hg9 hg10 hg11 hg710 CT CO HT HO2 hok2 hok3 hl3
    go_wp2_with fail
    go_loopw [8] (fun i wr => ∃ j : Nat, j ≤ (sortS l).length ∧ i = .int .i64 ((j : Int) + 1) ∧ Grows w7 wr) (fun i _ => (sortS l).length + 1 - (intOf i).toNat)
    case atStart => exact ⟨0, Nat.zero_le _, rfl, hgr⟩
    case round =>
      obtain ⟨j, hj, rfl, hgr⟩ := hrel
      by_cases hlt : j + 1 < (sortS l).length
      · have hlti : (j : Int) + 1 < (sortS l).length := by omega
        obtain ⟨⟨xr, xs, xl, xt, xc⟩, hx⟩ : ∃ x, (sortS l)[j]? = some x := ⟨_, List.getElem?_eq_getElem (by omega)⟩
        obtain ⟨⟨yr, ys, yl, yt, yc⟩, hy⟩ : ∃ x, (sortS l)[j + 1]? = some x := ⟨_, List.getElem?_eq_getElem hlt⟩
        have HLS := Lib.hid (sorted_next (sortS_spec l).1 hx hy)
        obtain ⟨ob, oo, rfl, hco⟩ := HO.out.get (ne_nil_of_lt hlt)
        have HCO := Lib.hid hco
        have HX := Lib.hid hx
        have HY := Lib.hid hy
        clear hco hx hy
        have hwj : IntKind.i64.wrap (j : Int) = j := wrap_nat (by omega)
        have hj0 : j < (sortS l).length := by omega
        have hj1 : (0 : Int) ≤ (j : Int) + 1 := by omega
        go_wp2_with fail
        have a0 : ∀ x : Ext Grows wr.drew, x.u.cell? ⟨ob, oo + j * 5, none⟩ = some (.string xr) := ext_cell (hgr.dr.cell (HCO.out j _ HX.out 0 _ rfl)); have a1 : ∀ x : Ext Grows wr.drew, x.u.cell? ⟨ob, oo + j * 5 + 1, none⟩ = some (.string xs) := ext_cell (hgr.dr.cell (HCO.out j _ HX.out 1 _ rfl)); have a2 : ∀ x : Ext Grows wr.drew, x.u.cell? ⟨ob, oo + j * 5 + 2, none⟩ = some (.int .i64 xl) := ext_cell (hgr.dr.cell (HCO.out j _ HX.out 2 _ rfl)); have a3 : ∀ x : Ext Grows wr.drew, x.u.cell? ⟨ob, oo + j * 5 + 3, none⟩ = some (.int .i64 xt) := ext_cell (hgr.dr.cell (HCO.out j _ HX.out 3 _ rfl)); have a4 : ∀ x : Ext Grows wr.drew, x.u.cell? ⟨ob, oo + j * 5 + 4, none⟩ = some (.int .i64 xc) := ext_cell (hgr.dr.cell (HCO.out j _ HX.out 4 _ rfl))
        have b0 : ∀ x : Ext Grows wr.drew, x.u.cell? ⟨ob, oo + (j + 1) * 5, none⟩ = some (.string yr) := ext_cell (hgr.dr.cell (HCO.out (j + 1) _ HY.out 0 _ rfl)); have b1 : ∀ x : Ext Grows wr.drew, x.u.cell? ⟨ob, oo + (j + 1) * 5 + 1, none⟩ = some (.string ys) := ext_cell (hgr.dr.cell (HCO.out (j + 1) _ HY.out 1 _ rfl)); have b2 : ∀ x : Ext Grows wr.drew, x.u.cell? ⟨ob, oo + (j + 1) * 5 + 2, none⟩ = some (.int .i64 yl) := ext_cell (hgr.dr.cell (HCO.out (j + 1) _ HY.out 2 _ rfl)); have b3 : ∀ x : Ext Grows wr.drew, x.u.cell? ⟨ob, oo + (j + 1) * 5 + 3, none⟩ = some (.int .i64 yt) := ext_cell (hgr.dr.cell (HCO.out (j + 1) _ HY.out 3 _ rfl)); have b4 : ∀ x : Ext Grows wr.drew, x.u.cell? ⟨ob, oo + (j + 1) * 5 + 4, none⟩ = some (.int .i64 yc) := ext_cell (hgr.dr.cell (HCO.out (j + 1) _ HY.out 4 _ rfl))
        refine s_region Grows [(0, false), (1, false), (2, false), (3, false), (4, false), (5, false), (6, false), (7, false), (8, false), (9, false), (10, false)] Grows.refl Grows.trans (by kernel_rfl) (by kernel_rfl) (fun d _ _ _ _ h => by cases d <;> exact h) ?_
        iterate 9 (refine s_quiet rfl (fun K hK => ?_); go_simp; refine hK _ ?_; clear hK K)
        refine s_quiet rfl (fun K hK => ?_)
        go_simp
        apply Exists.intro
        refine ⟨fun x => ?_, hK _ ?_⟩
        · go_at_call 28; exact calls_ext (less1_is (x := ⟨xr, xs, xl, xt, xc⟩) (y := ⟨yr, ys, yl, yt, yc⟩) HLS.out _)
        clear hK K
        iterate 1 (refine s_quiet rfl (fun K hK => ?_); go_simp; refine hK _ ?_; clear hK K)
        refine s_end (fun w4 h4 => ?_)
        go_wp2_with fail
        go_roundw
        case rel => exact ⟨j + 1, by omega, by go_num, hgr.dr.tr h4⟩
        case measure => simp [intOf]; omega
      · have hlti : ¬ (j : Int) + 1 < (sortS l).length := by omega
        go_wp2_with fail
        go_loopw [9] (fun i wr => ∃ q : Nat, q ≤ l.length ∧ i = .int .i64 q ∧ Grows w7 wr) (fun i _ => l.length - (intOf i).toNat)
        case atStart => exact ⟨0, Nat.zero_le _, rfl, hgr⟩
        case round =>
          obtain ⟨q, hq, rfl, hgr2⟩ := hrel
          by_cases hql : q < l.length
          · obtain ⟨⟨xr, xs, xl, xt, xc⟩, hx⟩ : ∃ x, l[q]? = some x := ⟨_, List.getElem?_eq_getElem hql⟩
            have HG := Lib.hid (sortS_good (List.mem_of_getElem? hx))
            obtain ⟨ba, oa, rfl, hca⟩ := HL.out.get (ne_nil_of_lt hql)
            have HCA := Lib.hid hca
            have HX := Lib.hid hx
            clear hca hx
            go_wp2_with fail
            go_loopw [10, 11] (fun b i wx => ∃ (m : Nat) (kb : Bool), m ≤ (sortS l).length ∧ i = .int .i64 m ∧ b = .bool kb ∧ Hid ((∃ j y, j < m ∧ (sortS l)[j]? = some y ∧ GoodE ⟨xr, xs, xl, xt, xc⟩ y) → kb = true) ∧ Grows w7 wx) (fun _ i _ => (sortS l).length - (intOf i).toNat)
            case atStart => exact ⟨0, false, Nat.zero_le _, rfl, rfl, fun ⟨j, y, hj, _⟩ => by omega, hgr2⟩
            case round =>
              obtain ⟨m, kb, hm, rfl, rfl, hkb, hg3⟩ := hrel
              by_cases hml : m < (sortS l).length
              · obtain ⟨⟨yr, ys, yl, yt, yc⟩, hy⟩ : ∃ y, (sortS l)[m]? = some y := ⟨_, List.getElem?_eq_getElem hml⟩
                obtain ⟨ob, oo, rfl, hco⟩ := HO.out.get (ne_nil_of_lt hml)
                have HCO := Lib.hid hco
                have HY := Lib.hid hy
                clear hco hy
                have c0 : wr.cell? ⟨ba, oa + q * 5, none⟩ = some (.string xr) := hg3.cell (HCA.out q _ HX.out 0 _ rfl)
                have c1 : wr.cell? ⟨ba, oa + q * 5 + 1, none⟩ = some (.string xs) := hg3.cell (HCA.out q _ HX.out 1 _ rfl)
                have c2 : wr.cell? ⟨ba, oa + q * 5 + 2, none⟩ = some (.int .i64 xl) := hg3.cell (HCA.out q _ HX.out 2 _ rfl)
                have c3 : wr.cell? ⟨ba, oa + q * 5 + 3, none⟩ = some (.int .i64 xt) := hg3.cell (HCA.out q _ HX.out 3 _ rfl)
                have c4 : wr.cell? ⟨ba, oa + q * 5 + 4, none⟩ = some (.int .i64 xc) := hg3.cell (HCA.out q _ HX.out 4 _ rfl)
                have d4 : (wr.alloc (.cells #[.string xr, .string xs, .int .i64 xl, .int .i64 xt, .int .i64 xc] 54)).cell? ⟨ob, oo + m * 5 + 4, none⟩ = some (.int .i64 yc) := (hg3.al _).cell (HCO.out m _ HY.out 4 _ rfl)
                have hgB : Grows w7 (wr.alloc (.cells #[.string xr, .string xs, .int .i64 xl, .int .i64 xt, .int .i64 yc] 54)) := hg3.al _
                have hz := fun j v h => ext_cell (w := (wr.alloc (.cells #[.string xr, .string xs, .int .i64 xl, .int .i64 xt, .int .i64 yc] 54)).drew) (cell_box wr #[.string xr, .string xs, .int .i64 xl, .int .i64 xt, .int .i64 yc] 54 (0, 0) j v h)
                have z0 := hz 0 _ rfl
                have z1 := hz 1 _ rfl
                have z2 := hz 2 _ rfl
                have z3 := hz 3 _ rfl
                have z4 := hz 4 _ rfl
                clear hz
                have y0 : ∀ x : Ext Grows (wr.alloc (.cells #[.string xr, .string xs, .int .i64 xl, .int .i64 xt, .int .i64 yc] 54)).drew, x.u.cell? ⟨ob, oo + m * 5, none⟩ = some (.string yr) := ext_cell (hgB.dr.cell (HCO.out m _ HY.out 0 _ rfl))
                have y1 : ∀ x : Ext Grows (wr.alloc (.cells #[.string xr, .string xs, .int .i64 xl, .int .i64 xt, .int .i64 yc] 54)).drew, x.u.cell? ⟨ob, oo + m * 5 + 1, none⟩ = some (.string ys) := ext_cell (hgB.dr.cell (HCO.out m _ HY.out 1 _ rfl))
                have y2 : ∀ x : Ext Grows (wr.alloc (.cells #[.string xr, .string xs, .int .i64 xl, .int .i64 xt, .int .i64 yc] 54)).drew, x.u.cell? ⟨ob, oo + m * 5 + 2, none⟩ = some (.int .i64 yl) := ext_cell (hgB.dr.cell (HCO.out m _ HY.out 2 _ rfl))
                have y3 : ∀ x : Ext Grows (wr.alloc (.cells #[.string xr, .string xs, .int .i64 xl, .int .i64 xt, .int .i64 yc] 54)).drew, x.u.cell? ⟨ob, oo + m * 5 + 3, none⟩ = some (.int .i64 yt) := ext_cell (hgB.dr.cell (HCO.out m _ HY.out 3 _ rfl))
                have y4 : ∀ x : Ext Grows (wr.alloc (.cells #[.string xr, .string xs, .int .i64 xl, .int .i64 xt, .int .i64 yc] 54)).drew, x.u.cell? ⟨ob, oo + m * 5 + 4, none⟩ = some (.int .i64 yc) := ext_cell (hgB.dr.cell (HCO.out m _ HY.out 4 _ rfl))
                have q4 : ∀ x : Ext Grows (wr.alloc (.cells #[.string xr, .string xs, .int .i64 xl, .int .i64 xt, .int .i64 yc] 54)).drew, x.u.cell? ⟨ba, oa + q * 5 + 4, none⟩ = some (.int .i64 xc) := ext_cell (hgB.dr.cell (HCA.out q _ HX.out 4 _ rfl))
                cases kb
                · by_cases hs : sameKey ⟨yr, ys, yl, yt, yc⟩ ⟨xr, xs, xl, xt, xc⟩
                  · obtain ⟨rfl, rfl, rfl, rfl⟩ : yr = xr ∧ ys = xs ∧ yl = xl ∧ yt = xt := hs
                    by_cases hc : yc ≤ xc
                    · go_wp2_with fail
                      refine s_region Grows [(0, false), (1, false), (2, false), (3, false), (4, false), (5, false), (6, false), (7, false), (8, false), (9, false), (10, false), (11, false), (12, false), (13, false), (14, false), (15, false), (16, false), (17, false), (18, false), (19, false), (20, false), (21, false), (22, false)] Grows.refl Grows.trans (by kernel_rfl) (by kernel_rfl) (fun d _ _ _ _ h => by cases d <;> exact h) ?_
                      iterate 7 (refine s_quiet rfl (fun K hK => ?_); go_simp; refine hK _ ?_; clear hK K)
                      refine s_quiet rfl (fun K hK => ?_)
                      go_simp
                      refine hK _ ?_
                      clear hK K
                      iterate 15 (refine s_quiet rfl (fun K hK => ?_); go_simp; refine hK _ ?_; clear hK K)
                      refine s_end (fun w4 h4 => ?_)
                      go_wp2_with fail
                      go_roundw
                      case measure => simp [intOf]; omega
                      case rel => exact ⟨m + 1, true, hml, by go_num, rfl, fun _ => rfl, hgB.dr.tr h4⟩
                    · have HB : Hid (¬ GoodE ⟨yr, ys, yl, yt, xc⟩ ⟨yr, ys, yl, yt, yc⟩) := fun h => hc h.2
                      go_wp2_with fail
                      refine s_region Grows [(0, false), (1, false), (2, false), (3, false), (4, false), (5, false), (6, false), (7, false), (8, false), (9, false), (10, false), (11, false), (12, false), (13, false), (14, false), (15, false), (16, false), (17, false), (18, false), (19, false), (20, false), (21, false), (22, false)] Grows.refl Grows.trans (by kernel_rfl) (by kernel_rfl) (fun d _ _ _ _ h => by cases d <;> exact h) ?_
                      iterate 7 (refine s_quiet rfl (fun K hK => ?_); go_simp; refine hK _ ?_; clear hK K)
                      refine s_quiet rfl (fun K hK => ?_)
                      go_simp
                      refine hK _ ?_
                      clear hK K
                      iterate 15 (refine s_quiet rfl (fun K hK => ?_); go_simp; refine hK _ ?_; clear hK K)
                      refine s_end (fun w4 h4 => ?_)
                      go_wp2_with fail
                      go_roundw
                      case measure => simp [intOf]; omega
                      case rel => exact ⟨m + 1, false, hml, by go_num, (by first | rfl | (simp; omega)), fun ⟨j, y, hj, hy, hG⟩ => by
                        rcases Nat.lt_succ_iff_lt_or_eq.1 hj with hj | rfl
                        · exact hkb.out ⟨j, y, hj, hy, hG⟩
                        · rw [HY.out] at hy
                          rw [← Option.some.inj hy] at hG
                          exact absurd hG HB.out, hgB.dr.tr h4⟩
                  · have HB : Hid (¬ GoodE ⟨xr, xs, xl, xt, xc⟩ ⟨yr, ys, yl, yt, yc⟩) := fun h => hs h.1
                    have h4 : ¬ (yr.toList = xr.toList ∧ ys.toList = xs.toList ∧ yl = xl ∧ yt = xt) := fun ⟨h1, h2, h3, h4⟩ => hs ⟨toList_inj h1, toList_inj h2, h3, h4⟩
                    go_wp2_with fail
                    refine s_region Grows [(0, false), (1, false), (2, false), (3, false), (4, false), (5, false), (6, false), (7, false), (8, false), (9, false), (10, false), (11, false), (12, false), (13, false), (14, false), (15, false), (16, false), (17, false), (18, false), (19, false), (20, false), (21, false), (22, false)] Grows.refl Grows.trans (by kernel_rfl) (by kernel_rfl) (fun d _ _ _ _ h => by cases d <;> exact h) ?_
                    iterate 7 (refine s_quiet rfl (fun K hK => ?_); go_simp; refine hK _ ?_; clear hK K)
                    refine s_quiet rfl (fun K hK => ?_)
                    go_simp
                    refine ⟨.bool false, fun a => by rw [ne4 h4]; exact ⟨rfl, rfl⟩, hK _ ?_⟩
                    clear hK K
                    iterate 15 (refine s_quiet rfl (fun K hK => ?_); go_simp; refine hK _ ?_; clear hK K)
                    refine s_end (fun w4 h4 => ?_)
                    go_wp2_with fail
                    go_roundw
                    case measure => simp [intOf]; omega
                    case rel => exact ⟨m + 1, false, hml, by go_num, (by first | rfl | (simp; omega)), fun ⟨j, y, hj, hy, hG⟩ => by
                      rcases Nat.lt_succ_iff_lt_or_eq.1 hj with hj | rfl
                      · exact hkb.out ⟨j, y, hj, hy, hG⟩
                      · rw [HY.out] at hy
                        rw [← Option.some.inj hy] at hG
                        exact absurd hG HB.out, hgB.dr.tr h4⟩
                · go_wp2_with fail
                  refine s_region Grows [(0, false), (1, false), (2, false), (3, false), (4, false), (5, false), (6, false), (7, false), (8, false), (9, false), (10, false), (11, false), (12, false), (13, false), (14, false), (15, false), (16, false), (17, false), (18, false), (19, false), (20, false), (21, false), (22, false)] Grows.refl Grows.trans (by kernel_rfl) (by kernel_rfl) (fun d _ _ _ _ h => by cases d <;> exact h) ?_
                  iterate 23 (refine s_quiet rfl (fun K hK => ?_); go_simp; refine hK _ ?_; clear hK K)
                  refine s_end (fun w4 h4 => ?_)
                  go_wp2_with fail
                  go_roundw
                  case measure => simp [intOf]; omega
                  case rel => exact ⟨m + 1, true, hml, by go_num, rfl, fun _ => rfl, hgB.dr.tr h4⟩
              · have hme : m = (sortS l).length := by omega
                obtain ⟨j, y, hj, hy, hG⟩ := HG.out
                have hkt : kb = true := hkb.out ⟨j, y, by omega, hy, hG⟩
                subst hkt
                clear hj hy hG hme
                go_wp2_with fail
                go_roundw
                case rel => exact ⟨q + 1, hql, by go_num, hg3⟩
                case measure => simp [intOf]; omega
          · have hqe : ¬ (q : Int) < l.length := by omega
            go_wp2_with fail
            refine (works_any _ (he.grows (hgr0.tr hgr2))).mono ?_
            rintro e w9 ⟨rfl, hg9⟩
            go_wp2
            go_ret
            exact ⟨rfl, (hgr0.tr hgr2).tr hg9⟩
end Go.Proofs.YtndhhgpmpnmljaaGreatDoor
