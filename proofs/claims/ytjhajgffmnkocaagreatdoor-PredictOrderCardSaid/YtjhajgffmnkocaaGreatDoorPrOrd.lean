import Derived.Test.YtjhajgffmnkocaaGreatDoorPq45
namespace Go.Proofs.YtjhajgffmnkocaaGreatDoor
open Go Go.RowKit Go.Shelf
attribute [local go_sem] aO aM

theorem surf_ne38 {s : ByteArray} (h : surfaceS s = true) : s.size ≠ 0 := by
  intro h0
  have e : s = ⟨#[]⟩ := qY (List.eq_nil_of_length_eq_zero (by rw [eE]; exact h0))
  rw [e] at h
  exact absurd h (by decide +kernel)
theorem predW_ne {p : List cY} {m : Mx} {es : List En} (h : bT p m es) {cs : List Cnt} {pf pv r s : ByteArray} (hw : uK es cs pf pv r s) : s ≠ ⟨#[]⟩ := by
  have he : ∀ x ∈ es, x.s = s → s ≠ ⟨#[]⟩ := fun x hx e h0 => by
    have hk := (gU h.chk).2.2.2 x hx
    have hs : surfaceS x.s = true := by
      unfold pH jD0 at hk
      split at hk
      · rename_i hb
        simp only [Bool.and_eq_true] at hb
        exact hb.2
      · cases hk
    have := surf_ne38 hs
    rw [e, h0] at this
    exact this rfl
  rcases hw.why with ⟨_, x, hx, e⟩ | ⟨h1, _⟩ | ⟨⟨x, hx, e⟩, _⟩
  · exact he x (List.mem_filter.1 (List.mem_of_mem_take hx)).1 e.2
  · obtain ⟨c, _, hk⟩ := yA h1
    have := (gA0 (mT hk.1).2.1).1
    exact fun e => this (by rw [e]; rfl)
  · exact he x hx e.2
set_option maxHeartbeats 1000000 in
theorem given38_any (r s : ByteArray) (c : Int) (w : World) : Calls Tryz.prog 20 #[.agg #[.string r, .string s, .int .i64 c]] w fun e w' => e = .returned (.agg #[.string r, .string s, .int .i64 c]) ∧ aB w w' := by
  obtain ⟨W1, hW1⟩ := exq ((w.alloc (.cells #[.string r, .string s, .int .i64 c] 49)).alloc (.cells #[.string r, .string s, .int .i64 c] 51))
  have g : aB w W1 := by rw [hW1]; exact (aB.alloc _ _).al _
  have b0 : W1.cell? ⟨w.heap.size + 1, 0, none⟩ = some (.string r) := by rw [hW1]; simp
  have b1 : W1.cell? ⟨w.heap.size + 1, 1, none⟩ = some (.string s) := by rw [hW1]; simp
  have b2 : W1.cell? ⟨w.heap.size + 1, 2, none⟩ = some (.int .i64 c) := by rw [hW1]; simp
  have HW := Lib.hid hW1
  clear hW1
  go_enter Tryz.func20, Tryz.ntmps20
  go_wp2_with fail
  rw [← HW.out]
  refine bodyPost_ret (v := .agg #[.string r, .string s, .int .i64 c]) (by simp [results, Tryz.results20, go_sem, b0, b1, b2]) rfl ⟨rfl, g⟩
set_option maxHeartbeats 8000000 in
set_option maxRecDepth 100000 in
theorem ord38_any (x : zZ0) (A : oI0) (w : World) (he : Env w) (hok : mP1 x) (hat : fE0 w A x) :
    Calls Tryz.prog 5 #[A.agg x] w fun e w' => e = .returned (.bool true) ∧ aB w w' := by
  have hmw := hok.m
  have hco := hok.c
  obtain ⟨⟨xp, xd, xs, xe⟩, cs, pf, pv, most⟩ := x
  obtain ⟨⟨pa, pc, sa, sc, ea, ec⟩, ca, cc⟩ := A
  obtain ⟨W1, hW1⟩ := exq (w.alloc (.cells #[.slice pa xp.length pc, .int .i64 xd, .slice sa xs.length sc, .slice ea xe.length ec, .slice ca cs.length cc, .string pf, .string pv, .int .i64 most] 29))
  have hg1 : aB w W1 := by rw [hW1]; exact aB.alloc _ _
  obtain ⟨xb, hxb⟩ := exq w.heap.size
  obtain ⟨bc, _⟩ := cG (show aB (w.alloc (.cells #[.slice pa xp.length pc, .int .i64 xd, .slice sa xs.length sc, .slice ea xe.length ec, .slice ca cs.length cc, .string pf, .string pv, .int .i64 most] 29)) W1 by rw [hW1]; exact aB.refl _)
  have q0 := bc 0 _ rfl
  have q1 := bc 1 _ rfl
  have q2 := bc 2 _ rfl
  have q3 := bc 3 _ rfl
  have q4 := bc 4 _ rfl
  have q5 := bc 5 _ rfl
  have q6 := bc 6 _ rfl
  have q7 := bc 7 _ rfl
  rw [← hxb] at q0 q1 q2 q3 q4 q5 q6 q7
  have CL := Lib.hid (light38_any ⟨⟨xp, xd, xs, xe⟩, cs, pf, pv, most⟩ ⟨⟨pa, pc, sa, sc, ea, ec⟩, ca, cc⟩ W1 hok (hat.grows hg1))
  have CW := fun (u : World) (hu : aB w u) => Lib.hid (works38_any u (he.grows hu))
  have HLB := Lib.hid (lightA_of (x := ⟨⟨xp, xd, xs, xe⟩, cs, pf, pv, most⟩))
  have CO := fun (u : World) (hu : aB w u) (hl : nY ⟨xp, xd, xs, xe⟩ = true) => Lib.hid (yB0 ⟨xp, xd, xs, xe⟩ ⟨pa, pc, sa, sc, ea, ec⟩ ca cs.length cc pf pv most u (he.grows hu) hok.s hl (hat.s.grows hu))
  unfold oI0.agg oI0.cells at CL
  simp only at CL CO
  obtain ⟨LB, hLB⟩ := exq (wX ⟨⟨xp, xd, xs, xe⟩, cs, pf, pv, most⟩)
  rw [← hLB] at CL HLB
  show Calls _ _ #[.agg #[.slice pa xp.length pc, .int .i64 xd, .slice sa xs.length sc, .slice ea xe.length ec, .slice ca cs.length cc, .string pf, .string pv, .int .i64 most]] _ _
  have HE := Lib.hid he
  have HCC := Lib.hid hat.c
  have HEE := Lib.hid hat.s.e
  have HCO := Lib.hid hco
  have HW1 := Lib.hid (And.intro hW1 hxb)
  simp only at hmw
  clear hW1 hxb bc hLB he hok hat hco
  go_enter Tryz.func5, Tryz.ntmps5
  go_wp2_with fail
  rw [← HW1.out.1, ← HW1.out.2]
  clear HW1
  refine CL.out.mono ?_
  rintro e w2 ⟨rfl, hg2⟩
  have g2 := hg1.tr hg2
  cases LB with
  | false =>
    go_wp2_with fail
    go_ret
    exact ⟨rfl, g2⟩
  | true =>
    obtain ⟨hl, hcl, hpf, hpv, hcz⟩ := HLB.out rfl
    have HCZ := Lib.hid hcz
    have CO2 := CO w2 g2 hl
    have r0 := hg2.cell q0
    have r1 := hg2.cell q1
    have r2 := hg2.cell q2
    have r3 := hg2.cell q3
    have r4 := hg2.cell q4
    have r5 := hg2.cell q5
    have r6 := hg2.cell q6
    have r7 := hg2.cell q7
    clear CL HLB CO hcz q0 q1 q2 q3 q4 q5 q6 q7
    go_wp2_with fail
    refine CO2.out.mono ?_
    rintro e w3 ⟨hg3, hd⟩
    clear CO2
    have g3 := g2.tr hg3
    rcases hd with ⟨hne, rfl⟩ | ⟨db, m, rfl, hd⟩
    · obtain ⟨E, hE⟩ := exq (pI xp (dL0 ⟨xp, xd, xs, xe⟩) xe)
      rw [← hE] at hne ⊢
      have hEb : (E != 0) = true := by simpa using hne
      have CW3 := CW w3 g3
      clear hE hne r0 r1 r2 r3 r4 r5 r6 r7 CW HE HCC HCO HCZ
      go_wp2_with fail
      refine CW3.out.mono ?_
      rintro e w4 ⟨rfl, hg4⟩
      clear CW3
      go_wp2_with fail
      go_ret
      exact ⟨rfl, g3.tr hg4⟩
    · have q0 := hg3.cell r0
      have q1 := hg3.cell r1
      have q2 := hg3.cell r2
      have q3 := hg3.cell r3
      have q4 := hg3.cell r4
      have q5 := hg3.cell r5
      have q6 := hg3.cell r6
      have q7 := hg3.cell r7
      have HG3 := Lib.hid g3
      have HDK := Lib.hid hd.dk
      have HD := Lib.hid hd.d
      simp only at HDK HD
      have CP := fun (cs : List Cnt) (ca : Option Addr) (cc : Nat) (pf pv : ByteArray) (most : Int) (hcl : cs.length ≤ 1048576) (hco : ∀ c ∈ cs, uM0 c) (hcz : ∀ c ∈ cs, c.k.size ≤ 1048576) (hpf : pf.size ≤ 1048576) (hpv : pv.size ≤ 1048576) (u : World) (hu : aB w3 u) (hca : aG u ca 2 (cs.map kC)) => Lib.hid (lI0 xp m (sortS xe) db cs ca cc pf pv most u (HE.out.grows (HG3.out.tr hu)) HDK.out (HD.out.grows hu) hcl hco hcz hca hpf hpv)
      have HXZ : Hid (∀ c ∈ cs, c.k.size ≤ 1048576) := fun c hc => by have := HCZ.out c hc; omega
      have HXE := Lib.hid (cost_sort xe)
      have HXM : Hid (∀ y ∈ sortS xe, y ∈ xe) := fun y hy => eN0 hy
      generalize sortS xe = es at CP HDK HD HXE HXM
      clear hd g3 g2 hg1 hg2 hg3 r0 r1 r2 r3 r4 r5 r6 r7 HCZ hl
      have C1 := CP cs ca cc pf pv most (by omega) HCO.out HXZ.out (by omega) (by omega) w3 (aB.refl _) (HCC.out.grows HG3.out)
      have HPW : Hid (∀ x ∈ sW es cs pf pv most, qR x.r pf = true ∧ x.s ≠ ⟨#[]⟩) := fun x hx => by
        unfold sW at hx
        split at hx
        · exact ⟨(qE hx).1.beg, predW_ne HDK.out (qE hx).1⟩
        · cases hx
      have HPZ : Hid (∀ x ∈ sW es cs pf pv most, x.r.size ≤ 1048576) := fun x hx => by
        unfold sW at hx
        split at hx
        · exact (tA0 HDK.out (qE hx).1).1
        · cases hx
      have HSR : Hid ((sW es cs pf pv most).Pairwise fun x y => dG x y = true) := by
        show List.Pairwise _ _
        unfold sW
        split
        · exact guessL_srt es cs pf pv most
        · exact List.Pairwise.nil
      have HND : Hid ((sW es cs pf pv most).Pairwise fun x y => ¬ (x.r = y.r ∧ x.s = y.s)) := by
        show List.Pairwise _ _
        unfold sW
        split
        · exact iQ0 es cs pf pv most
        · exact List.Pairwise.nil
      have HLN : Hid ((sW es cs pf pv most).length ≤ (max 0 (min most 60)).toNat) := by
        show _ ≤ _
        unfold sW
        split
        · exact guessL_len es cs pf pv most
        · exact Nat.zero_le _
      obtain ⟨L, hL⟩ := exq (sW es cs pf pv most)
      rw [← hL] at C1 HPW HPZ HSR HND HLN
      clear hL CP
      go_wp2_with fail
      refine C1.out.mono ?_
      rintro e w4 ⟨v4, rfl, hv4, hg4⟩
      obtain ⟨a4, c4, rfl, _, _, hat4⟩ := hv4.at_ eN1.len
      have hl60 : L.length ≤ 60 := by have := HLN.out; omega
      have H4 := Lib.hid hat4
      have q5x := hg4.cell q5
      have q7 := hg4.cell q7
      have CW5 := fun (u : World) (hu : aB w4 u) => CW u ((HG3.out.tr hg4).tr hu)
      have HG5 := Lib.hid (HG3.out.tr hg4)
      clear C1 hv4 hat4 CW q0 q1 q2 q3 q4 q5 q6
      go_wp2_with fail
      go_loopw [6] (fun i wr => ∃ k : Nat, k ≤ L.length ∧ i = .int .i64 k ∧ Hid (aB w4 wr)) (fun i _ => L.length - (intOf i).toNat)
      case atStart => exact ⟨0, Nat.zero_le _, rfl, aB.refl _⟩
      case round =>
        obtain ⟨k, hk, rfl, hg⟩ := hrel
        by_cases hlt : k < L.length
        · have hki : (k : Int) < L.length := by omega
          obtain ⟨⟨xr, xs', xc⟩, hx⟩ : ∃ y, L[k]? = some y := ⟨_, List.getElem?_eq_getElem hlt⟩
          have hpw := HPW.out _ (List.mem_of_getElem? hx)
          have hpz := HPZ.out _ (List.mem_of_getElem? hx)
          simp only at hpw hpz
          have e1 : ¬ xs'.toList = [] := by rw [Lib.toList_data]; exact fun e => hpw.2 (qY e)
          have e2 : xs'.toList.isEmpty = false := by rw [List.isEmpty_eq_false_iff]; exact e1
          have CB := fun (u : World) => Lib.hid (begins30_any xr pf u (by omega) (by omega))
          rw [hpw.1] at CB
          have hpl := yN0 HND.out hx
          have CPL := fun (u : World) (hu : aB w4 u) => Lib.hid (place_any L a4 c4 xr xs' u (by omega) (H4.out.grows hu))
          simp only at hpl
          rw [hpl] at CPL
          obtain ⟨ba, oa, rfl, hca⟩ := (H4.out.grows hg.out).get (aJ hlt)
          have r2 : ∀ x : Ext aB wr.drew, x.u.cell? ⟨xb, 5, none⟩ = some (.string pf) := aF ((aB.drew wr).cell (hg.out.cell q5x))
          have hk0 : (0 : Int) ≤ k := by omega
          have gd := hg.out.dr
          have a0 : ∀ x : Ext aB wr.drew, x.u.cell? ⟨ba, oa + k * 3, none⟩ = some (.string xr) := aF ((aB.drew wr).cell (hca k _ hx 0 _ rfl))
          have a1 : ∀ x : Ext aB wr.drew, x.u.cell? ⟨ba, oa + k * 3 + 1, none⟩ = some (.string xs') := aF ((aB.drew wr).cell (hca k _ hx 1 _ rfl))
          have a2 : ∀ x : Ext aB wr.drew, x.u.cell? ⟨ba, oa + k * 3 + 2, none⟩ = some (.int .i64 xc) := aF ((aB.drew wr).cell (hca k _ hx 2 _ rfl))
          by_cases hz : k = 0
          · have hz1 : decide ((0 : Int) < k) = false := decide_eq_false (by omega)
            have hz2 : decide (0 < k) = false := decide_eq_false (by omega)
            clear hca hz
            go_wp2_with fail
            refine bH [(0, false), (1, false), (2, false), (3, false), (4, false), (5, false), (6, false), (7, false), (8, false), (9, false), (10, false), (11, false), (12, false), (13, false), (14, false), (15, false), (16, false), (17, false), (18, false), (19, false), (20, false), (21, false), (22, false), (23, false), (24, false), (25, false), (27, false), (28, false), (29, false), (30, false), (26, true), (31, true), (32, true), (33, false), (34, false), (35, false), (36, false), (37, false), (38, false), (39, false), (40, false), (41, false), (42, false), (43, false), (44, false), (45, false), (46, false), (47, false), (49, false), (48, true), (50, false), (51, false)] (by kernel_rfl) (fun d _ _ _ _ h => by cases d <;> exact h) ?_
            iterate 7 (refine aH rfl (fun K hK => ?_); go_simp; refine hK _ ?_; clear hK K)
            refine aH rfl (fun K hK => ?_)
            go_simp
            apply Exists.intro
            refine ⟨fun x => ?_, hK _ ?_⟩
            · go_at_call 18; exact (CB _).out
            clear hK K
            iterate 13 (refine aH rfl (fun K hK => ?_); go_simp; refine hK _ ?_; clear hK K)
            iterate 13 (refine t_skip rfl (by kernel_rfl) ?_)
            iterate 15 (refine aH rfl (fun K hK => ?_); go_simp; refine hK _ ?_; clear hK K)
            refine bG rfl (by kernel_rfl) (fun K hK => ?_)
            go_simp
            refine ((CPL _ gd).out).mono ?_
            rintro e w8 ⟨rfl, hg8⟩
            refine ⟨hg8, hK _ _ ?_⟩
            clear hK K
            iterate 2 (refine aH rfl (fun K hK => ?_); go_simp; refine hK _ ?_; clear hK K)
            refine bN ?_
            have HG9 := Lib.hid (gd.tr hg8)
            clear a0 a1 a2 r2 CB CPL gd hg8 hg
            go_wp2_with fail
            go_roundw
            case rel => exact ⟨k + 1, hlt, by go_num, HG9⟩
            case measure => simp [intOf]; omega
          · have hz1 : decide ((0 : Int) < k) = true := decide_eq_true (by omega)
            have hz2 : decide (0 < k) = true := decide_eq_true (by omega)
            obtain ⟨j, hj⟩ : ∃ j, j + 1 = k := ⟨k - 1, by omega⟩
            obtain ⟨⟨yr, ys, yc⟩, hy⟩ : ∃ y, L[j]? = some y := ⟨_, List.getElem?_eq_getElem (by omega)⟩
            have hless : dG ⟨yr, ys, yc⟩ ⟨xr, xs', xc⟩ = true := by
              have h := List.pairwise_iff_getElem.1 HSR.out j k (by omega) hlt (by omega)
              rw [(List.getElem?_eq_some_iff.1 hy).2, (List.getElem?_eq_some_iff.1 hx).2] at h
              exact h
            have b0 : ∀ x : Ext aB wr.drew, x.u.cell? ⟨ba, oa + j * 3, none⟩ = some (.string yr) := aF ((aB.drew wr).cell (hca j _ hy 0 _ rfl))
            have b1 : ∀ x : Ext aB wr.drew, x.u.cell? ⟨ba, oa + j * 3 + 1, none⟩ = some (.string ys) := aF ((aB.drew wr).cell (hca j _ hy 1 _ rfl))
            have b2 : ∀ x : Ext aB wr.drew, x.u.cell? ⟨ba, oa + j * 3 + 2, none⟩ = some (.int .i64 yc) := aF ((aB.drew wr).cell (hca j _ hy 2 _ rfl))
            have hw1 : IntKind.i64.wrap ((k : Int) - 1) = j := by simp [IntKind.wrap, IntKind.bits, IntKind.signed]; omega
            have hji : (j : Int) < L.length := by omega
            have hj0 : (0 : Int) ≤ j := by omega
            have CF := fun (u : World) => Lib.hid (before38_any yr ys xr xs' yc xc u)
            rw [hless] at CF
            clear hca hz hless hj hy
            go_wp2_with fail
            refine bH [(0, false), (1, false), (2, false), (3, false), (4, false), (5, false), (6, false), (7, false), (8, false), (9, false), (10, false), (11, false), (12, false), (13, false), (14, false), (15, false), (16, false), (17, false), (18, false), (19, false), (20, false), (21, false), (22, false), (23, false), (24, false), (25, false), (27, false), (28, false), (29, false), (30, false), (26, true), (31, true), (32, true), (33, false), (34, false), (35, false), (36, false), (37, false), (38, false), (39, false), (40, false), (41, false), (42, false), (43, false), (44, false), (45, false), (46, false), (47, false), (49, false), (48, true), (50, false), (51, false)] (by kernel_rfl) (fun d _ _ _ _ h => by cases d <;> exact h) ?_
            iterate 7 (refine aH rfl (fun K hK => ?_); go_simp; refine hK _ ?_; clear hK K)
            refine aH rfl (fun K hK => ?_)
            go_simp
            apply Exists.intro
            refine ⟨fun x => ?_, hK _ ?_⟩
            · go_at_call 18; exact (CB _).out
            clear hK K
            iterate 13 (refine aH rfl (fun K hK => ?_); go_simp; refine hK _ ?_; clear hK K)
            iterate 9 (refine aH rfl (fun K hK => ?_); go_simp; refine hK _ ?_; clear hK K)
            refine bG rfl (by kernel_rfl) (fun K hK => ?_)
            go_simp
            refine ((given38_any yr ys yc _)).mono ?_
            rintro e w5 ⟨rfl, hg5⟩
            refine ⟨hg5, hK _ _ ?_⟩
            clear hK K
            refine bG rfl (by kernel_rfl) (fun K hK => ?_)
            go_simp
            refine ((given38_any xr xs' xc _)).mono ?_
            rintro e w6 ⟨rfl, hg6⟩
            refine ⟨hg6, hK _ _ ?_⟩
            clear hK K
            refine bG rfl (by kernel_rfl) (fun K hK => ?_)
            go_simp
            refine ((CF _).out).mono ?_
            rintro e w7 ⟨rfl, hg7⟩
            refine ⟨hg7, hK _ _ ?_⟩
            clear hK K
            have g57 := hg5.tr (hg6.tr hg7)
            have e0 := fun x : Ext aB w7 => a0 ⟨x.u, g57.tr x.h⟩
            have e1x := fun x : Ext aB w7 => a1 ⟨x.u, g57.tr x.h⟩
            have e2x := fun x : Ext aB w7 => a2 ⟨x.u, g57.tr x.h⟩
            have e3x := fun x : Ext aB w7 => r2 ⟨x.u, g57.tr x.h⟩
            have e4x := fun x : Ext aB w7 => b0 ⟨x.u, g57.tr x.h⟩
            have e5x := fun x : Ext aB w7 => b1 ⟨x.u, g57.tr x.h⟩
            have e6x := fun x : Ext aB w7 => b2 ⟨x.u, g57.tr x.h⟩
            simp only at e0 e1x e2x e3x e4x e5x e6x
            iterate 16 (refine aH rfl (fun K hK => ?_); go_simp; refine hK _ ?_; clear hK K)
            refine bG rfl (by kernel_rfl) (fun K hK => ?_)
            go_simp
            refine ((CPL _ (gd.tr (hg5.tr (hg6.tr hg7)))).out).mono ?_
            rintro e w8 ⟨rfl, hg8⟩
            refine ⟨hg8, hK _ _ ?_⟩
            clear hK K
            iterate 2 (refine aH rfl (fun K hK => ?_); go_simp; refine hK _ ?_; clear hK K)
            refine bN ?_
            have HG9 := Lib.hid ((gd.tr (hg5.tr (hg6.tr hg7))).tr hg8)
            clear a0 a1 a2 b0 b1 b2 r2 e0 e1x e2x e3x e4x e5x e6x CB CPL CF gd hg5 hg6 hg7 hg8 hg g57
            go_wp2_with fail
            go_roundw
            case rel => exact ⟨k + 1, hlt, by go_num, HG9⟩
            case measure => simp [intOf]; omega
        · obtain rfl : k = L.length := by omega
          have hki : ¬ ((L.length : Nat) : Int) < L.length := by omega
          have CW6 := CW5 wr hg.out
          have HG6 := Lib.hid (HG5.out.tr hg.out)
          have r7 := hg.out.cell q7
          have hle : decide ((L.length : Int) ≤ max 0 (min most 60)) = true := decide_eq_true (by have := HLN.out; omega)
          clear CW5 hg q7 q5x
          go_wp2_with fail
          refine CW6.out.mono ?_
          rintro e w6 ⟨rfl, hg6⟩
          have HG7 := Lib.hid (HG6.out.tr hg6)
          clear CW6 hg6
          go_wp2_with fail
          go_ret
          exact ⟨rfl, HG7.out⟩
end Go.Proofs.YtjhajgffmnkocaaGreatDoor
