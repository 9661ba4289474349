import Derived.Test.YtaogeadljgjpcaaGreatDoorCov21L
namespace Go.Proofs.YtaogeadljgjpcaaGreatDoor
open Go Go.RowKit Go.Shelf
attribute [local go_sem] aQ aM

theorem dic_ents {x : zU} {w : World} {db : Nat} {m : Mx} (h : gA0 x w db m) : ∀ e ∈ sortS x.e, e.s.size ≠ 0 ∧ 0 ≤ e.l ∧ e.l < (x.p.length : Int) ∧ 0 ≤ e.t ∧ e.t < (x.p.length : Int) ∧ 0 ≤ e.c ∧ e.c ≤ 30000 := fun e he => by
  have h1 := h.dk.num e he
  have h2 := (sZ0 ((eU h.dk.chk).2.2.2 e he)).2
  exact ⟨uG0 h2, h1.1, h1.2.1, h1.2.2.1, h1.2.2.2.1, h1.2.2.2.2.1, h1.2.2.2.2.2⟩
theorem dic_plain {x : zU} {w : World} {db : Nat} {m : Mx} (h : gA0 x w db m) : 0 ≤ ((plainP x.p : Nat) : Int) ∧ ((plainP x.p : Nat) : Int) < (x.p.length : Int) := by
  have h1 := (pE0 h.ne).le
  have h2 := List.length_pos_iff.2 h.ne
  omega
theorem case_count {c : xN} {C : List (List UInt8)} (hC : iQ C) (hf : C.flatten = bl c.x) : countS c.x = (C.length : Nat) := by
  have hv : Lib.validD (bl c.x) = true := kY.2 ⟨C, hC, hf⟩
  rw [nR hv, ← hf, (fR hC).2]
  unfold uP
  rw [List.length_map]
set_option maxHeartbeats 16000000 in
set_option maxRecDepth 100000 in
theorem cover21_any (c : xN) (A : nS0) (w : World) (he : Env w) (hok : jJ1 c) (hat : kH0 w A c) :
    Calls Tryz.prog 6 #[A.agg c] w fun e w' => e = .returned (.bool true) ∧ aB w w' := by
  have HE := Lib.hid he
  have CW := fun u (hu : aB w u) => Lib.hid (works21_any u (HE.out.grows hu))
  have hxz := hok.x
  have CN0 := fun (u : World) (hu : aB w u) => Lib.hid (nodes21_any c A u (he.grows hu) hok (hat.grows hu))
  obtain ⟨⟨xp, xd, xs, xe⟩, x, ls⟩ := c
  obtain ⟨⟨pa, pc, sa, sc, ea, ec⟩, la, lc⟩ := A
  simp only at hxz
  obtain ⟨W0, hW0⟩ := exq (w.alloc (.cells #[.slice pa xp.length pc, .int .i64 xd, .slice sa xs.length sc, .slice ea xe.length ec, .string x, .slice la ls.length lc] 33))
  have hg0 : aB w W0 := by rw [hW0]; exact aB.alloc _ _
  obtain ⟨bc, _⟩ := cF (show aB (w.alloc (.cells #[.slice pa xp.length pc, .int .i64 xd, .slice sa xs.length sc, .slice ea xe.length ec, .string x, .slice la ls.length lc] 33)) W0 by rw [hW0]; exact aB.refl _)
  have q0 := bc 0 _ rfl
  have q1 := bc 1 _ rfl
  have q2 := bc 2 _ rfl
  have q3 := bc 3 _ rfl
  have q4 := bc 4 _ rfl
  have q5 := bc 5 _ rfl
  have CN := CN0 W0 hg0
  unfold nS0.agg at CN
  simp only at CN
  show Calls _ _ #[.agg #[.slice pa xp.length pc, .int .i64 xd, .slice sa xs.length sc, .slice ea xe.length ec, .string x, .slice la ls.length lc]] _ _
  clear he hok hat bc CN0
  go_enter Tryz.func6, Tryz.ntmps6
  go_wp2_with fail
  rw [← hW0]
  clear hW0
  refine CN.out.mono ?_
  rintro e w1 ⟨hg1, dv, v, b, rfl, hb⟩
  have g1 := hg0.tr hg1
  clear CN
  by_cases hbt : b = true
  · subst hbt
    obtain ⟨db, m, C, rfl, hN⟩ := hb rfl
    obtain ⟨a1, c1, rfl, _, _, hat1⟩ := hN.own.at_ oE1.len
    have HAT := Lib.hid hat1
    have hfew := hN.few
    have HND : Hid (∀ y ∈ gT1 ⟨⟨xp, xd, xs, xe⟩, x, ls⟩ C, 0 ≤ y.f ∧ y.f < y.t ∧ y.t ≤ C.length ∧ 0 ≤ y.c ∧ y.c ≤ 30000 ∧ y.s.size ≠ 0 ∧ 0 ≤ y.l ∧ y.l < xp.length ∧ 0 ≤ y.r ∧ y.r < xp.length ∧ 1 ≤ y.k ∧ y.k ≤ 3) := fun y hy => nodes_ok hN.co (dic_ents hN.d) ls (dic_plain hN.d) hy
    have HAL : Hid (∀ n, n < C.length → ∃ y ∈ gT1 ⟨⟨xp, xd, xs, xe⟩, x, ls⟩ C, y.f = n ∧ y.t = n + 1) := fun n hn => nodes_alone C _ _ _ hn
    have HSR : Hid ((gT1 ⟨⟨xp, xd, xs, xe⟩, x, ls⟩ C).Pairwise fun x y => gY x y = true) := (fC C _ _ _).srt
    have hcl := hN.le
    have hcx : countS x = (C.length : Nat) := case_count hN.co hN.fl
    have CC := Lib.hid (mK x w1 (by omega) (HE.out.grows g1))
    rw [hcx] at CC
    have CSz := fun (u : World) (hu : aB w1 u) => Lib.hid (wQ0 xp m (sortS xe) db u (hN.d.d.grows hu))
    have hpl : xp.length ≤ 1048576 := by have h1 : xp.length ≤ 64 := (eV (eU hN.d.dk.chk).2.2.1).1; omega
    generalize gT1 ⟨⟨xp, xd, xs, xe⟩, x, ls⟩ C = L at HAT hfew HND HAL HSR ⊢
    have q4 := hg1.cell q4
    clear hN hat1 hb hcx q0 q1 q2 q3 q5
    go_wp2_with fail
    refine CC.out.mono ?_
    rintro e w2 ⟨rfl, hg2⟩
    have HA2 := Lib.hid (HAT.out.grows hg2)
    have g2 := g1.tr hg2
    clear CC HAT q4
    go_wp2_with fail
    go_loopw [7] (fun i wr => ∃ k : Nat, k ≤ L.length ∧ i = .int .i64 k ∧ Hid (aB w2 wr)) (fun i _ => L.length - (intOf i).toNat)
    case atStart => exact ⟨0, Nat.zero_le _, rfl, aB.refl _⟩
    case round =>
      obtain ⟨k, hk, rfl, hg⟩ := hrel
      by_cases hlt : k < L.length
      · have hki : (k : Int) < L.length := by omega
        obtain ⟨⟨xf, xt, xs', xl, xr, xc, xk⟩, hx⟩ : ∃ x, L[k]? = some x := ⟨_, List.getElem?_eq_getElem hlt⟩
        obtain ⟨ba, oa, rfl, hca⟩ := (HA2.out.grows hg.out).get (aK hlt)
        have hnd := HND.out _ (List.mem_of_getElem? hx)
        obtain ⟨d1, d2, d3, d4, d5, d6, d7, d8, d9, d10, d11, d12⟩ := hnd
        simp only at d1 d2 d3 d4 d5 d6 d7 d8 d9 d10 d11 d12
        have c0 : wr.cell? ⟨ba, oa + k * 7, none⟩ = some (.int .i64 xf) := hca k _ hx 0 _ rfl
        have c1 : wr.cell? ⟨ba, oa + k * 7 + 1, none⟩ = some (.int .i64 xt) := hca k _ hx 1 _ rfl
        have c2 : wr.cell? ⟨ba, oa + k * 7 + 2, none⟩ = some (.string xs') := hca k _ hx 2 _ rfl
        have c3 : wr.cell? ⟨ba, oa + k * 7 + 3, none⟩ = some (.int .i64 xl) := hca k _ hx 3 _ rfl
        have c4 : wr.cell? ⟨ba, oa + k * 7 + 4, none⟩ = some (.int .i64 xr) := hca k _ hx 4 _ rfl
        have c5 : wr.cell? ⟨ba, oa + k * 7 + 5, none⟩ = some (.int .i64 xc) := hca k _ hx 5 _ rfl
        have c6 : wr.cell? ⟨ba, oa + k * 7 + 6, none⟩ = some (.int .i64 xk) := hca k _ hx 6 _ rfl
        have n1 : decide (xf < 0) = false := decide_eq_false (by omega)
        have n2 : decide (xt ≤ xf) = false := decide_eq_false (by omega)
        have n3 : decide ((C.length : Int) < xt) = false := decide_eq_false (by omega)
        have n4 : decide (xc < 0) = false := decide_eq_false (by omega)
        have n5 : decide (30000 < xc) = false := decide_eq_false (by omega)
        have n6 : ¬ xs'.toList = [] := fun e => d6 (by rw [Lib.toList_data] at e; rw [Lib.size_eq, e]; rfl)
        have n6b : xs'.toList.isEmpty = false := by simpa using n6
        have n7 : decide (xl < 0) = false := decide_eq_false (by omega)
        have n8 : decide ((xp.length : Int) ≤ xl) = false := decide_eq_false (by omega)
        have n9 : decide (xr < 0) = false := decide_eq_false (by omega)
        have n10 : decide ((xp.length : Int) ≤ xr) = false := decide_eq_false (by omega)
        have n11 : decide (xk < 1) = false := decide_eq_false (by omega)
        have n12 : decide (3 < xk) = false := decide_eq_false (by omega)
        have HX := Lib.hid hx
        clear d1 d2 d3 d4 d5 d6 d7 d8 d9 d10 d11 d12 hx hca
        obtain ⟨xb, hxb⟩ := exq wr.heap.size
        obtain ⟨Wx, hWx⟩ := exq (wr.alloc (.cells #[.int .i64 xf, .int .i64 xt, .string xs', .int .i64 xl, .int .i64 xr, .int .i64 xc, .int .i64 xk] 49))
        have gWx : aB wr Wx := by rw [hWx]; exact aB.alloc _ _
        have hbx := fun j u h => aT wr #[.int .i64 xf, .int .i64 xt, .string xs', .int .i64 xl, .int .i64 xr, .int .i64 xc, .int .i64 xk] 49 (0, 0) j u h
        rw [← hWx, ← hxb] at hbx
        have CS1 := fun (u : World) (hu : aB Wx u) => CSz u (hg2.tr (hg.out.tr (gWx.tr hu)))
        have z0 : ∀ x : Ext aB Wx.drew, x.u.cell? ⟨xb, 0, none⟩ = some (.int .i64 xf) := aF ((aB.drew Wx).cell (hbx 0 _ rfl))
        have z1 : ∀ x : Ext aB Wx.drew, x.u.cell? ⟨xb, 1, none⟩ = some (.int .i64 xt) := aF ((aB.drew Wx).cell (hbx 1 _ rfl))
        have z2 : ∀ x : Ext aB Wx.drew, x.u.cell? ⟨xb, 2, none⟩ = some (.string xs') := aF ((aB.drew Wx).cell (hbx 2 _ rfl))
        have z3 : ∀ x : Ext aB Wx.drew, x.u.cell? ⟨xb, 3, none⟩ = some (.int .i64 xl) := aF ((aB.drew Wx).cell (hbx 3 _ rfl))
        have z4 : ∀ x : Ext aB Wx.drew, x.u.cell? ⟨xb, 4, none⟩ = some (.int .i64 xr) := aF ((aB.drew Wx).cell (hbx 4 _ rfl))
        have z5 : ∀ x : Ext aB Wx.drew, x.u.cell? ⟨xb, 5, none⟩ = some (.int .i64 xc) := aF ((aB.drew Wx).cell (hbx 5 _ rfl))
        have z6 : ∀ x : Ext aB Wx.drew, x.u.cell? ⟨xb, 6, none⟩ = some (.int .i64 xk) := aF ((aB.drew Wx).cell (hbx 6 _ rfl))
        have gx := hg.out.tr gWx
        go_wp2_with fail
        rw [← hWx, ← hxb]
        clear hWx hxb c0 c1 c2 c3 c4 c5 c6
        refine bK [(0, false), (1, false), (2, false), (3, false), (4, false), (5, false), (6, false), (7, false), (8, false), (9, false), (10, false), (11, false), (12, false), (13, false), (14, false), (15, false), (16, false), (17, false), (18, false), (19, false), (20, false), (21, false), (22, false), (23, false), (24, false), (25, false), (26, false), (27, false), (28, false), (29, false), (30, false), (31, false), (32, false), (33, false), (34, false), (35, false), (36, false), (37, false), (38, false), (39, false), (40, false), (41, false), (42, false), (43, false), (44, false), (45, false), (46, false), (47, false), (48, false), (49, false), (50, false), (51, false), (52, false), (53, false), (54, false), (55, false), (56, false), (57, false), (58, false), (59, false), (60, false), (61, false), (62, false), (63, false), (64, false)] (by kernel_rfl) (fun d _ _ _ _ h => by cases d <;> exact h) ?_
        iterate 40 (refine aH rfl (fun K hK => ?_); go_simp; refine hK _ ?_; clear hK K)
        refine aH rfl (fun K hK => ?_)
        go_simp
        apply Exists.intro
        refine ⟨fun x => ?_, hK _ ?_⟩
        · go_at_call 23; exact dR (CS1 _ ((aB.drew Wx).tr x.h)).out
        clear hK K
        iterate 11 (refine aH rfl (fun K hK => ?_); go_simp; refine hK _ ?_; clear hK K)
        refine aH rfl (fun K hK => ?_)
        go_simp
        apply Exists.intro
        refine ⟨fun x => ?_, hK _ ?_⟩
        · go_at_call 23; exact dR (CS1 _ ((aB.drew Wx).tr x.h)).out
        clear hK K
        iterate 12 (refine aH rfl (fun K hK => ?_); go_simp; refine hK _ ?_; clear hK K)
        refine bQ ?_
        clear z0 z1 z2 z3 z4 z5 z6 n1 n2 n3 n4 n5 n6 n6b n7 n8 n9 n10 n11 n12
        by_cases hk0 : k = 0
        · have hki0 : (k : Int) = 0 := by omega
          have hkd : decide (0 < (k : Int)) = false := decide_eq_false (by omega)
          have GX := Lib.hid gx
          clear hki0
          go_wp2_with fail
          refine bK [(0, false), (1, false), (2, false), (3, false), (4, false), (5, false), (6, false), (7, false), (8, false), (9, false), (10, false), (11, false)] (by kernel_rfl) (fun d _ _ _ _ h => by cases d <;> exact h) ?_
          iterate 3 (refine aH rfl (fun K hK => ?_); go_simp; refine hK _ ?_; clear hK K)
          iterate 8 (refine t_skip rfl (by kernel_rfl) ?_)
          iterate 1 (refine aH rfl (fun K hK => ?_); go_simp; refine hK _ ?_; clear hK K)
          refine bQ ?_
          go_wp2_with fail
          go_roundw
          case rel => exact ⟨k + 1, hlt, by go_num, GX.out.dr.dr⟩
          case measure => simp [intOf]; omega
        · obtain ⟨j, rfl⟩ : ∃ j, k = j + 1 := ⟨k - 1, by omega⟩
          have hkd : decide (0 < ((j + 1 : Nat) : Int)) = true := decide_eq_true (by omega)
          have hkd2 : decide (0 < (j : Int) + 1) = true := decide_eq_true (by omega)
          have hjl : j < L.length := by omega
          have hji : (j : Int) < L.length := by omega
          obtain ⟨⟨yf, yt, ys', yl, yr, yc, yk⟩, hy⟩ : ∃ x, L[j]? = some x := ⟨_, List.getElem?_eq_getElem hjl⟩
          have hlss : gY ⟨yf, yt, ys', yl, yr, yc, yk⟩ ⟨xf, xt, xs', xl, xr, xc, xk⟩ = true := by
            have h1 := List.pairwise_iff_getElem.1 HSR.out j (j + 1) hjl hlt (by omega)
            rw [List.getElem?_eq_getElem hjl] at hy
            have hx2 := HX.out
            rw [List.getElem?_eq_getElem hlt] at hx2
            rw [Option.some.inj hy, Option.some.inj hx2] at h1
            exact h1
          have hwj : IntKind.i64.wrap (j : Int) = j := pN0 (by omega)
          have gdd : aB Wx Wx.drew.drew := (aB.drew Wx).tr (aB.drew Wx.drew)
          obtain ⟨bb, ob, eab, hcb⟩ := (HA2.out.grows gx).get (aK hjl)
          cases eab
          have y0 : ∀ x : Ext aB Wx.drew.drew, x.u.cell? ⟨ba, oa + j * 7, none⟩ = some (.int .i64 yf) := aF (gdd.cell (hcb j _ hy 0 _ rfl))
          have y1 : ∀ x : Ext aB Wx.drew.drew, x.u.cell? ⟨ba, oa + j * 7 + 1, none⟩ = some (.int .i64 yt) := aF (gdd.cell (hcb j _ hy 1 _ rfl))
          have y2 : ∀ x : Ext aB Wx.drew.drew, x.u.cell? ⟨ba, oa + j * 7 + 2, none⟩ = some (.string ys') := aF (gdd.cell (hcb j _ hy 2 _ rfl))
          have y3 : ∀ x : Ext aB Wx.drew.drew, x.u.cell? ⟨ba, oa + j * 7 + 3, none⟩ = some (.int .i64 yl) := aF (gdd.cell (hcb j _ hy 3 _ rfl))
          have y4 : ∀ x : Ext aB Wx.drew.drew, x.u.cell? ⟨ba, oa + j * 7 + 4, none⟩ = some (.int .i64 yr) := aF (gdd.cell (hcb j _ hy 4 _ rfl))
          have y5 : ∀ x : Ext aB Wx.drew.drew, x.u.cell? ⟨ba, oa + j * 7 + 5, none⟩ = some (.int .i64 yc) := aF (gdd.cell (hcb j _ hy 5 _ rfl))
          have y6 : ∀ x : Ext aB Wx.drew.drew, x.u.cell? ⟨ba, oa + j * 7 + 6, none⟩ = some (.int .i64 yk) := aF (gdd.cell (hcb j _ hy 6 _ rfl))
          have z0 : ∀ x : Ext aB Wx.drew.drew, x.u.cell? ⟨xb, 0, none⟩ = some (.int .i64 xf) := aF (gdd.cell (hbx 0 _ rfl))
          have z1 : ∀ x : Ext aB Wx.drew.drew, x.u.cell? ⟨xb, 1, none⟩ = some (.int .i64 xt) := aF (gdd.cell (hbx 1 _ rfl))
          have z2 : ∀ x : Ext aB Wx.drew.drew, x.u.cell? ⟨xb, 2, none⟩ = some (.string xs') := aF (gdd.cell (hbx 2 _ rfl))
          have z3 : ∀ x : Ext aB Wx.drew.drew, x.u.cell? ⟨xb, 3, none⟩ = some (.int .i64 xl) := aF (gdd.cell (hbx 3 _ rfl))
          have z4 : ∀ x : Ext aB Wx.drew.drew, x.u.cell? ⟨xb, 4, none⟩ = some (.int .i64 xr) := aF (gdd.cell (hbx 4 _ rfl))
          have z5 : ∀ x : Ext aB Wx.drew.drew, x.u.cell? ⟨xb, 5, none⟩ = some (.int .i64 xc) := aF (gdd.cell (hbx 5 _ rfl))
          have z6 : ∀ x : Ext aB Wx.drew.drew, x.u.cell? ⟨xb, 6, none⟩ = some (.int .i64 xk) := aF (gdd.cell (hbx 6 _ rfl))
          have CB := before_any ⟨yf, yt, ys', yl, yr, yc, yk⟩ ⟨xf, xt, xs', xl, xr, xc, xk⟩ Wx.drew.drew hlss
          unfold Nd.agg at CB
          simp only at CB
          have CB := Lib.hid CB
          have GX := Lib.hid gx
          clear hcb hy hlss hbx hkd
          go_wp2_with fail
          refine bK [(0, false), (1, false), (2, false), (3, false), (4, false), (5, false), (6, false), (7, false), (8, false), (9, true), (10, false), (11, false)] (by kernel_rfl) (fun d _ _ _ _ h => by cases d <;> exact h) ?_
          iterate 9 (refine aH rfl (fun K hK => ?_); go_simp; refine hK _ ?_; clear hK K)
          refine bJ rfl rfl (fun K hK => ?_)
          go_simp
          refine (CB.out).mono ?_
          rintro e w7 ⟨rfl, hg7⟩
          refine ⟨hg7, hK _ _ ?_⟩
          clear hK K
          iterate 2 (refine aH rfl (fun K hK => ?_); go_simp; refine hK _ ?_; clear hK K)
          refine bQ ?_
          clear y0 z0 y1 z1 y2 z2 y3 z3 y4 z4 y5 z5 y6 z6 CB
          go_wp2_with fail
          go_roundw
          case rel => exact ⟨j + 1 + 1, hlt, by go_num, GX.out.tr (gdd.tr hg7)⟩
          case measure => simp [intOf]; omega
      · obtain rfl : k = L.length := by omega
        have hki : ¬ ((L.length : Nat) : Int) < L.length := by omega
        obtain ⟨u3, rfl⟩ := exq wr
        go_wp2_with fail
        go_loopw [9] (fun i wr => ∃ k : Nat, k ≤ C.length ∧ i = .int .i64 k ∧ wr = u3) (fun i _ => C.length - (intOf i).toNat)
        case atStart => exact ⟨0, Nat.zero_le _, rfl, rfl⟩
        case round =>
          obtain ⟨k, hk, rfl, rfl⟩ := hrel
          by_cases hlt : k < C.length
          · have hki : (k : Int) < C.length := by omega
            have CA := Lib.hid (alone_any L a1 c1 k wr (by omega) (by omega) (HA2.out.grows hg.out) (HAL.out k hlt))
            go_wp2_with fail
            refine CA.out.mono ?_
            rintro e w4 ⟨rfl, rfl⟩
            go_wp2_with fail
            go_roundw
            case rel => exact ⟨k + 1, hlt, by go_num, trivial⟩
            case measure => simp [intOf]; omega
          · obtain rfl : k = C.length := by omega
            have hki : ¬ ((C.length : Nat) : Int) < C.length := by omega
            have CW2 := CW wr (g2.tr hg.out)
            go_wp2_with fail
            refine CW2.out.mono ?_
            rintro e w4 ⟨rfl, hg4⟩
            go_wp2_with fail
            go_ret
            exact ⟨rfl, (g2.tr hg.out).tr hg4⟩
  · rw [Bool.not_eq_true] at hbt
    subst hbt
    have CW2 := CW w1 g1
    clear hb q0 q1 q2 q3 q4 q5
    go_wp2_with fail
    refine CW2.out.mono ?_
    rintro e w4 ⟨rfl, hg4⟩
    go_wp2_with fail
    go_ret
    exact ⟨rfl, g1.tr hg4⟩
end Go.Proofs.YtaogeadljgjpcaaGreatDoor
