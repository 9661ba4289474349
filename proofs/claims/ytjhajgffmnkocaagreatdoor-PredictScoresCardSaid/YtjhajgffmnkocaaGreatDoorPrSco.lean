import Derived.Test.YtjhajgffmnkocaaGreatDoorPq45
namespace Go.Proofs.YtjhajgffmnkocaaGreatDoor
open Go Go.RowKit Go.Shelf
attribute [local go_sem] aO aM

def cstT (l : List En) (r s : ByteArray) (n : Nat) : Option Int := sT ((l.take n).filter (isW r s)) none
theorem cstT_succ {l : List En} {r s : ByteArray} {n : Nat} {x : En} (h : l[n]? = some x) : cstT l r s (n + 1) = if x.r = r ∧ x.s = s then some (mA1 (cstT l r s n) x.c) else cstT l r s n := by
  unfold cstT
  rw [bJ h, List.filter_append]
  by_cases hb : x.r = r ∧ x.s = s
  · have : isW r s x = true := decide_eq_true hb
    rw [if_pos hb, List.filter_cons, if_pos this, List.filter_nil, rK0]
  · have : ¬ isW r s x = true := by unfold isW; simpa using hb
    rw [if_neg hb, List.filter_cons, if_neg this, List.filter_nil, List.append_nil]
theorem cstT_all (l : List En) (r s : ByteArray) : (cstT l r s l.length).getD 8000 = uS l r s := by
  unfold cstT uS
  rw [List.take_length]
set_option maxHeartbeats 8000000 in
set_option maxRecDepth 100000 in
theorem sco38_any (x : zZ0) (A : oI0) (w : World) (he : Env w) (hok : mP1 x) (hat : fE0 w A x) :
    Calls Tryz.prog 9 #[A.agg x] w fun e w' => e = .returned (.bool true) ∧ aB w w' := by
  have hmw := hok.m
  have hco := hok.c
  obtain ⟨⟨xp, xd, xs, xe⟩, cs, pf, pv, most⟩ := x
  obtain ⟨⟨pa, pc, sa, sc, ea, ec⟩, ca, cc⟩ := A
  obtain ⟨W1, hW1⟩ := exq (w.alloc (.cells #[.slice pa xp.length pc, .int .i64 xd, .slice sa xs.length sc, .slice ea xe.length ec, .slice ca cs.length cc, .string pf, .string pv, .int .i64 most] 29))
  have hg1 : aB w W1 := by rw [hW1]; exact aB.alloc _ _
  obtain ⟨xb, hxb⟩ := exq w.heap.size
  obtain ⟨bc, _⟩ := cG (show aB (w.alloc (.cells #[.slice pa xp.length pc, .int .i64 xd, .slice sa xs.length sc, .slice ea xe.length ec, .slice ca cs.length cc, .string pf, .string pv, .int .i64 most] 29)) W1 by rw [hW1]; exact aB.refl _)
  have q0 := bc 0 _ rfl
  have q1 := bc 1 _ rfl
  have q2 := bc 2 _ rfl
  have q3 := bc 3 _ rfl
  have q4 := bc 4 _ rfl
  have q5 := bc 5 _ rfl
  have q6 := bc 6 _ rfl
  have q7 := bc 7 _ rfl
  rw [← hxb] at q0 q1 q2 q3 q4 q5 q6 q7
  have CL := Lib.hid (light38_any ⟨⟨xp, xd, xs, xe⟩, cs, pf, pv, most⟩ ⟨⟨pa, pc, sa, sc, ea, ec⟩, ca, cc⟩ W1 hok (hat.grows hg1))
  have CW := fun (u : World) (hu : aB w u) => Lib.hid (works38_any u (he.grows hu))
  have HLB := Lib.hid (lightA_of (x := ⟨⟨xp, xd, xs, xe⟩, cs, pf, pv, most⟩))
  have CO := fun (u : World) (hu : aB w u) (hl : nY ⟨xp, xd, xs, xe⟩ = true) => Lib.hid (yB0 ⟨xp, xd, xs, xe⟩ ⟨pa, pc, sa, sc, ea, ec⟩ ca cs.length cc pf pv most u (he.grows hu) hok.s hl (hat.s.grows hu))
  unfold oI0.agg oI0.cells at CL
  simp only at CL CO
  obtain ⟨LB, hLB⟩ := exq (wX ⟨⟨xp, xd, xs, xe⟩, cs, pf, pv, most⟩)
  rw [← hLB] at CL HLB
  show Calls _ _ #[.agg #[.slice pa xp.length pc, .int .i64 xd, .slice sa xs.length sc, .slice ea xe.length ec, .slice ca cs.length cc, .string pf, .string pv, .int .i64 most]] _ _
  have HE := Lib.hid he
  have HCC := Lib.hid hat.c
  have HEE := Lib.hid hat.s.e
  have HCO := Lib.hid hco
  have HW1 := Lib.hid (And.intro hW1 hxb)
  simp only at hmw
  clear hW1 hxb bc hLB he hok hat hco
  go_enter Tryz.func9, Tryz.ntmps9
  go_wp2_with fail
  rw [← HW1.out.1, ← HW1.out.2]
  clear HW1
  refine CL.out.mono ?_
  rintro e w2 ⟨rfl, hg2⟩
  have g2 := hg1.tr hg2
  cases LB with
  | false =>
    go_wp2_with fail
    go_ret
    exact ⟨rfl, g2⟩
  | true =>
    obtain ⟨hl, hcl, hpf, hpv, hcz⟩ := HLB.out rfl
    have HCZ := Lib.hid hcz
    have hxl := (kE0 hl).2.2.2.2
    simp only at hxl
    have CO2 := CO w2 g2 hl
    have r0 := hg2.cell q0
    have r1 := hg2.cell q1
    have r2 := hg2.cell q2
    have r3 := hg2.cell q3
    have r4 := hg2.cell q4
    have r5 := hg2.cell q5
    have r6 := hg2.cell q6
    have r7 := hg2.cell q7
    clear CL HLB CO hcz q0 q1 q2 q3 q4 q5 q6 q7
    go_wp2_with fail
    refine CO2.out.mono ?_
    rintro e w3 ⟨hg3, hd⟩
    clear CO2
    have g3 := g2.tr hg3
    rcases hd with ⟨hne, rfl⟩ | ⟨db, m, rfl, hd⟩
    · obtain ⟨E, hE⟩ := exq (pI xp (dL0 ⟨xp, xd, xs, xe⟩) xe)
      rw [← hE] at hne ⊢
      have hEb : (E != 0) = true := by simpa using hne
      have CW3 := CW w3 g3
      clear hE hne r0 r1 r2 r3 r4 r5 r6 r7 CW HE HCC HCO HCZ
      go_wp2_with fail
      refine CW3.out.mono ?_
      rintro e w4 ⟨rfl, hg4⟩
      clear CW3
      go_wp2_with fail
      go_ret
      exact ⟨rfl, g3.tr hg4⟩
    · have q0 := hg3.cell r0
      have q1 := hg3.cell r1
      have q2 := hg3.cell r2
      have q3 := hg3.cell r3
      have q4 := hg3.cell r4
      have q5 := hg3.cell r5
      have q6 := hg3.cell r6
      have q7 := hg3.cell r7
      have HG3 := Lib.hid g3
      have HDK := Lib.hid hd.dk
      have HD := Lib.hid hd.d
      simp only at HDK HD
      have CP := fun (cs : List Cnt) (ca : Option Addr) (cc : Nat) (pf pv : ByteArray) (most : Int) (hcl : cs.length ≤ 1048576) (hco : ∀ c ∈ cs, uM0 c) (hcz : ∀ c ∈ cs, c.k.size ≤ 1048576) (hpf : pf.size ≤ 1048576) (hpv : pv.size ≤ 1048576) (u : World) (hu : aB w3 u) (hca : aG u ca 2 (cs.map kC)) => Lib.hid (lI0 xp m (sortS xe) db cs ca cc pf pv most u (HE.out.grows (HG3.out.tr hu)) HDK.out (HD.out.grows hu) hcl hco hcz hca hpf hpv)
      have HXZ : Hid (∀ c ∈ cs, c.k.size ≤ 1048576) := fun c hc => by have := HCZ.out c hc; omega
      have HXE := Lib.hid (cost_sort xe)
      have HXM : Hid (∀ y ∈ sortS xe, y ∈ xe) := fun y hy => eN0 hy
      generalize sortS xe = es at CP HDK HD HXE HXM
      clear hd g3 g2 hg1 hg2 hg3 r0 r1 r2 r3 r4 r5 r6 r7 HCZ hl
      have C1 := CP cs ca cc pf pv most (by omega) HCO.out HXZ.out (by omega) (by omega) w3 (aB.refl _) (HCC.out.grows HG3.out)
      have HSC : Hid (∀ x ∈ sW es cs pf pv most, -(uS es x.r x.s / 10) ≤ x.c ∧ x.c ≤ 6000 - uS es x.r x.s / 10) := fun x hx => by
        unfold sW at hx
        split at hx
        · exact guess_score hx
        · cases hx
      have HLN : Hid ((sW es cs pf pv most).length ≤ (max 0 (min most 60)).toNat) := by
        show _ ≤ _
        unfold sW
        split
        · exact guessL_len es cs pf pv most
        · exact Nat.zero_le _
      obtain ⟨L, hL⟩ := exq (sW es cs pf pv most)
      rw [← hL] at C1 HSC HLN
      clear hL CP
      go_wp2_with fail
      refine C1.out.mono ?_
      rintro e w4 ⟨v4, rfl, hv4, hg4⟩
      obtain ⟨a4, c4, rfl, _, _, hat4⟩ := hv4.at_ eN1.len
      have hl60 : L.length ≤ 60 := by have := HLN.out; omega
      have H4 := Lib.hid hat4
      have HX4 := Lib.hid ((HEE.out.grows HG3.out).grows hg4)
      have q3x := hg4.cell q3
      have CW5 := fun (u : World) (hu : aB w4 u) => CW u ((HG3.out.tr hg4).tr hu)
      have HG5 := Lib.hid (HG3.out.tr hg4)
      have CN := fun (u : World) => Lib.hid (iC0 1099511627776 u (by unfold WfI; exact WalkArith.wf_i64 (by omega)))
      rw [show bonI 1099511627776 = 3000 by decide +kernel] at CN
      clear C1 hv4 hat4 CW q0 q1 q2 q3 q4 q5 q6 q7
      go_wp2_with fail
      go_loopw [6] (fun i wr => ∃ k : Nat, k ≤ L.length ∧ i = .int .i64 k ∧ Hid (aB w4 wr)) (fun i _ => L.length - (intOf i).toNat)
      case atStart => exact ⟨0, Nat.zero_le _, rfl, aB.refl _⟩
      case round =>
        obtain ⟨k, hk, rfl, hg⟩ := hrel
        by_cases hlt : k < L.length
        · have hki : (k : Int) < L.length := by omega
          obtain ⟨wo, rfl⟩ := exq wr
          obtain ⟨⟨xr, xs', xc⟩, hx⟩ : ∃ y, L[k]? = some y := ⟨_, List.getElem?_eq_getElem hlt⟩
          have hsc := HSC.out _ (List.mem_of_getElem? hx)
          simp only at hsc
          have hcr := nG0 HDK.out xr xs'
          have hce : uS xe xr xs' = uS es xr xs' := (aB0 xe xr xs').unique (HXE.out xr xs')
          obtain ⟨C, hC⟩ := exq (uS es xr xs')
          rw [← hC] at hsc hcr hce
          obtain ⟨ba, oa, rfl, hca⟩ := (H4.out.grows hg.out).get (aJ hlt)
          have f0 : wo.cell? ⟨ba, oa + k * 3, none⟩ = some (.string xr) := hca k _ hx 0 _ rfl
          have f1 : wo.cell? ⟨ba, oa + k * 3 + 1, none⟩ = some (.string xs') := hca k _ hx 1 _ rfl
          have f2 : wo.cell? ⟨ba, oa + k * 3 + 2, none⟩ = some (.int .i64 xc) := hca k _ hx 2 _ rfl
          have q3r := hg.out.cell q3x
          have HXR := Lib.hid (HX4.out.grows hg.out)
          have HC := Lib.hid hce
          have hk0 : (0 : Int) ≤ k := by omega
          clear hC hx hca hce
          go_wp2_with fail
          go_loopw [7, 8, 9] (fun v b i wn => ∃ n : Nat, n ≤ xe.length ∧ i = .int .i64 n ∧ v = .int .i64 ((cstT xe xr xs' n).getD 8000) ∧ b = .bool (cstT xe xr xs' n).isSome ∧ Hid (aB wo wn)) (fun _ _ i _ => xe.length - (intOf i).toNat)
          case atStart => exact ⟨0, Nat.zero_le _, rfl, rfl, rfl, aB.refl _⟩
          case round =>
            obtain ⟨n, hn, rfl, rfl, rfl, hgn⟩ := hrel
            have q3n := hgn.out.cell q3r
            by_cases hlt2 : n < xe.length
            · have hni : (n : Int) < xe.length := by omega
              obtain ⟨⟨yr, ys, yl, yt, yc⟩, hy⟩ : ∃ y, xe[n]? = some y := ⟨_, List.getElem?_eq_getElem hlt2⟩
              have hcs := cstT_succ (r := xr) (s := xs') hy
              simp only at hcs
              obtain ⟨be, oe, rfl, hce⟩ := (HXR.out.grows hgn.out).get (aJ hlt2)
              have e0 : wr.cell? ⟨be, oe + n * 5, none⟩ = some (.string yr) := hce n _ hy 0 _ rfl
              have e1 : wr.cell? ⟨be, oe + n * 5 + 1, none⟩ = some (.string ys) := hce n _ hy 1 _ rfl
              have e2 : wr.cell? ⟨be, oe + n * 5 + 2, none⟩ = some (.int .i64 yl) := hce n _ hy 2 _ rfl
              have e3 : wr.cell? ⟨be, oe + n * 5 + 3, none⟩ = some (.int .i64 yt) := hce n _ hy 3 _ rfl
              have e4 : wr.cell? ⟨be, oe + n * 5 + 4, none⟩ = some (.int .i64 yc) := hce n _ hy 4 _ rfl
              obtain ⟨Wb, hWb⟩ := exq (wr.alloc (.cells #[.string yr, .string ys, .int .i64 yl, .int .i64 yt, .int .i64 yc] 62))
              obtain ⟨wb, hwb⟩ := exq wr.heap.size
              have gb : aB wr Wb := by rw [hWb]; exact aB.alloc _ _
              have y0 : Wb.cell? ⟨wb, 0, none⟩ = some (.string yr) := by rw [hWb, hwb]; simp
              have y1 : Wb.cell? ⟨wb, 1, none⟩ = some (.string ys) := by rw [hWb, hwb]; simp
              have y4 : Wb.cell? ⟨wb, 4, none⟩ = some (.int .i64 yc) := by rw [hWb, hwb]; simp
              have z0 : ∀ x : Ext aB Wb.drew, x.u.cell? ⟨wb, 0, none⟩ = some (.string yr) := aF ((aB.drew Wb).cell y0)
              have z1 : ∀ x : Ext aB Wb.drew, x.u.cell? ⟨wb, 1, none⟩ = some (.string ys) := aF ((aB.drew Wb).cell y1)
              have z4 : ∀ x : Ext aB Wb.drew, x.u.cell? ⟨wb, 4, none⟩ = some (.int .i64 yc) := aF ((aB.drew Wb).cell y4)
              have a0 : ∀ x : Ext aB Wb.drew, x.u.cell? ⟨ba, oa + k * 3, none⟩ = some (.string xr) := aF (((hgn.out.tr gb).tr (aB.drew Wb)).cell f0)
              have a1 : ∀ x : Ext aB Wb.drew, x.u.cell? ⟨ba, oa + k * 3 + 1, none⟩ = some (.string xs') := aF (((hgn.out.tr gb).tr (aB.drew Wb)).cell f1)
              have HGB := Lib.hid ((hgn.out.tr gb).tr (aB.drew Wb))
              have y4d := (aB.drew Wb).cell y4
              have HWB := Lib.hid (And.intro hWb hwb)
              have hn0 : (0 : Int) ≤ n := by omega
              clear hWb hwb hce hy gb y0 y1 y4 hgn
              generalize cstT xe xr xs' n = o at hcs ⊢
              by_cases h1 : yr = xr
              · have c1 : (yr.toList == xr.toList) = true := by rw [h1]; simp
                by_cases h2 : ys = xs'
                · have c2 : (ys.toList == xs'.toList) = true := by rw [h2]; simp
                  rw [if_pos ⟨h1, h2⟩] at hcs
                  cases o with
                  | none =>
                    have HT := Lib.hid hcs
                    clear h1 h2 hcs
                    go_wp2_with fail
                    rw [← HWB.out.1, ← HWB.out.2]
                    refine bH [(0, false), (1, false), (2, false), (3, false), (4, false), (5, false), (6, false), (7, false), (8, false), (9, false), (10, false), (11, false), (12, false), (13, false), (14, false), (15, false), (16, false), (17, false), (18, false), (19, false), (20, false), (21, false), (22, false), (23, false), (24, false), (25, false), (26, false), (27, false)] (by kernel_rfl) (fun d _ _ _ _ h => by cases d <;> exact h) ?_
                    iterate 28 (refine aH rfl (fun K hK => ?_); go_simp; refine hK _ ?_; clear hK K)
                    refine bN ?_
                    clear z0 z1 z4 a0 a1 HWB
                    go_wp2_with fail
                    go_roundw
                    case rel => exact ⟨n + 1, hlt2, by go_num, by rw [HT.out]; rfl, by rw [HT.out]; rfl, HGB.out⟩
                    case measure => simp [intOf]; omega
                  | some m =>
                    by_cases hm : yc < m
                    · have hm1 : decide (yc < m) = true := decide_eq_true hm
                      have HT := Lib.hid (hcs.trans (congrArg some (show mA1 (some m) yc = yc by show (if yc < m then yc else m) = yc; rw [if_pos hm])))
                      clear h1 h2 hcs hm
                      go_wp2_with fail
                      rw [← HWB.out.1, ← HWB.out.2]
                      refine bH [(0, false), (1, false), (2, false), (3, false), (4, false), (5, false), (6, false), (7, false), (8, false), (9, false), (10, false), (11, false), (12, false), (13, false), (14, false), (15, false), (16, false), (17, false), (18, false), (19, false), (20, false), (21, false), (22, false), (23, false), (24, false), (25, false), (26, false), (27, false)] (by kernel_rfl) (fun d _ _ _ _ h => by cases d <;> exact h) ?_
                      iterate 28 (refine aH rfl (fun K hK => ?_); go_simp; refine hK _ ?_; clear hK K)
                      refine bN ?_
                      clear z0 z1 z4 a0 a1 HWB
                      go_wp2_with fail
                      go_roundw
                      case rel => exact ⟨n + 1, hlt2, by go_num, by rw [HT.out]; rfl, by rw [HT.out]; rfl, HGB.out⟩
                      case measure => simp [intOf]; omega
                    · have hm1 : decide (yc < m) = false := decide_eq_false hm
                      have HT := Lib.hid (hcs.trans (congrArg some (show mA1 (some m) yc = m by show (if yc < m then yc else m) = m; rw [if_neg hm])))
                      clear h1 h2 hcs hm
                      go_wp2_with fail
                      rw [← HWB.out.1, ← HWB.out.2]
                      refine bH [(0, false), (1, false), (2, false), (3, false), (4, false), (5, false), (6, false), (7, false), (8, false), (9, false), (10, false), (11, false), (12, false), (13, false), (14, false), (15, false), (16, false), (17, false), (18, false), (19, false), (20, false), (21, false), (22, false), (23, false), (24, false), (25, false), (26, false), (27, false)] (by kernel_rfl) (fun d _ _ _ _ h => by cases d <;> exact h) ?_
                      iterate 28 (refine aH rfl (fun K hK => ?_); go_simp; refine hK _ ?_; clear hK K)
                      refine bN ?_
                      clear z0 z1 z4 a0 a1 HWB
                      go_wp2_with fail
                      go_roundw
                      case rel => exact ⟨n + 1, hlt2, by go_num, by rw [HT.out]; rfl, by rw [HT.out]; rfl, HGB.out⟩
                      case measure => simp [intOf]; omega
                · obtain ⟨c2, c3⟩ := jV0 h2
                  rw [if_neg (fun h => h2 h.2)] at hcs
                  have HT := Lib.hid hcs
                  clear h1 h2 hcs
                  go_wp2_with fail
                  rw [← HWB.out.1, ← HWB.out.2]
                  refine bH [(0, false), (1, false), (2, false), (3, false), (4, false), (5, false), (6, false), (7, false), (8, false), (9, false), (10, false), (11, false), (12, false), (13, false), (14, false), (15, false), (16, false), (17, false), (18, false), (19, false), (20, false), (21, false), (22, false), (23, false), (24, false), (25, false), (26, false), (27, false)] (by kernel_rfl) (fun d _ _ _ _ h => by cases d <;> exact h) ?_
                  iterate 28 (refine aH rfl (fun K hK => ?_); go_simp; refine hK _ ?_; clear hK K)
                  refine bN ?_
                  clear z0 z1 z4 a0 a1 HWB
                  go_wp2_with fail
                  go_roundw
                  case rel => exact ⟨n + 1, hlt2, by go_num, by rw [HT.out], by rw [HT.out], HGB.out⟩
                  case measure => simp [intOf]; omega
              · obtain ⟨c1, c3⟩ := jV0 h1
                rw [if_neg (fun h => h1 h.1)] at hcs
                have HT := Lib.hid hcs
                clear h1 hcs
                go_wp2_with fail
                rw [← HWB.out.1, ← HWB.out.2]
                refine bH [(0, false), (1, false), (2, false), (3, false), (4, false), (5, false), (6, false), (7, false), (8, false), (9, false), (10, false), (11, false), (12, false), (13, false), (14, false), (15, false), (16, false), (17, false), (18, false), (19, false), (20, false), (21, false), (22, false), (23, false), (24, false), (25, false), (26, false), (27, false)] (by kernel_rfl) (fun d _ _ _ _ h => by cases d <;> exact h) ?_
                iterate 28 (refine aH rfl (fun K hK => ?_); go_simp; refine hK _ ?_; clear hK K)
                refine bN ?_
                clear z0 z1 z4 a0 a1 HWB
                go_wp2_with fail
                go_roundw
                case rel => exact ⟨n + 1, hlt2, by go_num, by rw [HT.out], by rw [HT.out], HGB.out⟩
                case measure => simp [intOf]; omega
            · obtain rfl : n = xe.length := by omega
              have hni : ¬ ((xe.length : Nat) : Int) < xe.length := by omega
              rw [cstT_all, HC.out]
              generalize (cstT xe xr xs' xe.length).isSome = bb
              obtain ⟨Q, hQ⟩ : ∃ Q : Int, C / 10 = Q := ⟨_, rfl⟩
              rw [hQ] at hsc
              have hQ2 : 0 ≤ Q ∧ Q ≤ 3000 := by omega
              have d1 : C.tdiv 10 = Q := by rw [Int.tdiv_eq_ediv_of_nonneg hcr.1, hQ]
              have d2 : (-C).tdiv 10 = -Q := by rw [Int.neg_tdiv, d1]
              have n1 : IntKind.i64.wrap (-C) = -C := by simp [IntKind.wrap, IntKind.bits, IntKind.signed]; omega
              have n2 : IntKind.i64.wrap (-Q) = -Q := by simp [IntKind.wrap, IntKind.bits, IntKind.signed]; omega
              have n3 : IntKind.i64.wrap Q = Q := by simp [IntKind.wrap, IntKind.bits, IntKind.signed]; omega
              have n4 : IntKind.i64.wrap (6000 - Q) = 6000 - Q := by simp [IntKind.wrap, IntKind.bits, IntKind.signed]; omega
              have n5 : IntKind.i64.wrap 6000 = 6000 := by decide
              have t1 : decide (xc < -Q) = false := decide_eq_false (by omega)
              have t2 : decide (6000 - Q < xc) = false := decide_eq_false (by omega)
              have g4n := hg.out.tr hgn.out.dr
              have x2 : ∀ x : Ext aB wr.drew, x.u.cell? ⟨ba, oa + k * 3 + 2, none⟩ = some (.int .i64 xc) := aF (hgn.out.dr.cell f2)
              clear hQ hcr hQ2 hsc
              go_wp2_with fail
              refine bH [(0, false), (1, false), (2, false), (3, false), (4, false), (5, false), (6, false), (7, false), (8, false), (9, false), (10, false), (11, false), (12, false), (13, false), (14, false), (15, false), (16, false), (17, false), (18, false), (19, false), (20, false), (21, false)] (by kernel_rfl) (fun d _ _ _ _ h => by cases d <;> exact h) ?_
              iterate 15 (refine aH rfl (fun K hK => ?_); go_simp; refine hK _ ?_; clear hK K)
              refine aH rfl (fun K hK => ?_)
              go_simp
              apply Exists.intro
              refine ⟨fun x => ?_, hK _ ?_⟩
              · go_at_call 23; exact (CN _).out
              clear hK K
              iterate 6 (refine aH rfl (fun K hK => ?_); go_simp; refine hK _ ?_; clear hK K)
              refine bN ?_
              have HG9 := Lib.hid g4n
              clear x2 g4n
              go_wp2_with fail
              go_roundw
              case rel => exact ⟨k + 1, hlt, by go_num, HG9⟩
              case measure => simp [intOf]; omega
        · obtain rfl : k = L.length := by omega
          have hki : ¬ ((L.length : Nat) : Int) < L.length := by omega
          have CW6 := CW5 wr hg.out
          have HG6 := Lib.hid (HG5.out.tr hg.out)
          clear CW5 hg q3x
          go_wp2_with fail
          refine CW6.out.mono ?_
          rintro e w6 ⟨rfl, hg6⟩
          have HG7 := Lib.hid (HG6.out.tr hg6)
          clear CW6 hg6
          go_wp2_with fail
          go_ret
          exact ⟨rfl, HG7.out⟩
end Go.Proofs.YtjhajgffmnkocaaGreatDoor
