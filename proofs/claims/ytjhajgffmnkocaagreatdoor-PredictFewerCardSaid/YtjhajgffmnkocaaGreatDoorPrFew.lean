import Derived.Test.YtjhajgffmnkocaaGreatDoorPq45
namespace Go.Proofs.YtjhajgffmnkocaaGreatDoor
open Go Go.RowKit Go.Shelf
attribute [local go_sem] aO aM

set_option maxHeartbeats 8000000 in
set_option maxRecDepth 100000 in
theorem few38_any (x : zZ0) (A : oI0) (more : Nat) (hmr : more < 256) (w : World) (he : Env w) (hok : mP1 x) (hat : fE0 w A x) :
    Calls Tryz.prog 6 #[A.agg x, .int .u8 more] w fun e w' => e = .returned (.bool true) ∧ aB w w' := by
  have hmw := hok.m
  have hco := hok.c
  obtain ⟨⟨xp, xd, xs, xe⟩, cs, pf, pv, most⟩ := x
  obtain ⟨⟨pa, pc, sa, sc, ea, ec⟩, ca, cc⟩ := A
  obtain ⟨W1, hW1⟩ := exq (w.alloc (.cells #[.slice pa xp.length pc, .int .i64 xd, .slice sa xs.length sc, .slice ea xe.length ec, .slice ca cs.length cc, .string pf, .string pv, .int .i64 most] 29))
  have hg1 : aB w W1 := by rw [hW1]; exact aB.alloc _ _
  obtain ⟨xb, hxb⟩ := exq w.heap.size
  obtain ⟨bc, _⟩ := cG (show aB (w.alloc (.cells #[.slice pa xp.length pc, .int .i64 xd, .slice sa xs.length sc, .slice ea xe.length ec, .slice ca cs.length cc, .string pf, .string pv, .int .i64 most] 29)) W1 by rw [hW1]; exact aB.refl _)
  have q0 := bc 0 _ rfl
  have q1 := bc 1 _ rfl
  have q2 := bc 2 _ rfl
  have q3 := bc 3 _ rfl
  have q4 := bc 4 _ rfl
  have q5 := bc 5 _ rfl
  have q6 := bc 6 _ rfl
  have q7 := bc 7 _ rfl
  rw [← hxb] at q0 q1 q2 q3 q4 q5 q6 q7
  have CL := Lib.hid (light38_any ⟨⟨xp, xd, xs, xe⟩, cs, pf, pv, most⟩ ⟨⟨pa, pc, sa, sc, ea, ec⟩, ca, cc⟩ W1 hok (hat.grows hg1))
  have CW := fun (u : World) (hu : aB w u) => Lib.hid (works38_any u (he.grows hu))
  have HLB := Lib.hid (lightA_of (x := ⟨⟨xp, xd, xs, xe⟩, cs, pf, pv, most⟩))
  have CO := fun (u : World) (hu : aB w u) (hl : nY ⟨xp, xd, xs, xe⟩ = true) => Lib.hid (yB0 ⟨xp, xd, xs, xe⟩ ⟨pa, pc, sa, sc, ea, ec⟩ ca cs.length cc pf pv most u (he.grows hu) hok.s hl (hat.s.grows hu))
  unfold oI0.agg oI0.cells at CL
  simp only at CL CO
  obtain ⟨LB, hLB⟩ := exq (wX ⟨⟨xp, xd, xs, xe⟩, cs, pf, pv, most⟩)
  rw [← hLB] at CL HLB
  show Calls _ _ #[.agg #[.slice pa xp.length pc, .int .i64 xd, .slice sa xs.length sc, .slice ea xe.length ec, .slice ca cs.length cc, .string pf, .string pv, .int .i64 most], .int .u8 more] _ _
  have HE := Lib.hid he
  have HCC := Lib.hid hat.c
  have HEE := Lib.hid hat.s.e
  have HCO := Lib.hid hco
  have HW1 := Lib.hid (And.intro hW1 hxb)
  simp only at hmw
  clear hW1 hxb bc hLB he hok hat hco
  go_enter Tryz.func6, Tryz.ntmps6
  go_wp2_with fail
  rw [← HW1.out.1, ← HW1.out.2]
  clear HW1
  refine CL.out.mono ?_
  rintro e w2 ⟨rfl, hg2⟩
  have g2 := hg1.tr hg2
  cases LB with
  | false =>
    go_wp2_with fail
    go_ret
    exact ⟨rfl, g2⟩
  | true =>
    obtain ⟨hl, hcl, hpf, hpv, hcz⟩ := HLB.out rfl
    have HCZ := Lib.hid hcz
    by_cases hbig : 1000 < most
    · have r7 := hg2.cell q7
      have h1 : decide ((1000 : Int) < most) = true := decide_eq_true hbig
      clear CO CW HLB CL q0 q1 q2 q3 q4 q5 q6 q7 hbig
      go_wp2_with fail
      go_ret
      exact ⟨rfl, g2⟩
    have hb0 : decide ((1000 : Int) < most) = false := decide_eq_false hbig
    have CO2 := CO w2 g2 hl
    have r0 := hg2.cell q0
    have r1 := hg2.cell q1
    have r2 := hg2.cell q2
    have r3 := hg2.cell q3
    have r4 := hg2.cell q4
    have r5 := hg2.cell q5
    have r6 := hg2.cell q6
    have r7 := hg2.cell q7
    clear CL HLB CO hcz q0 q1 q2 q3 q4 q5 q6 q7
    go_wp2_with fail
    refine CO2.out.mono ?_
    rintro e w3 ⟨hg3, hd⟩
    clear CO2
    have g3 := g2.tr hg3
    rcases hd with ⟨hne, rfl⟩ | ⟨db, m, rfl, hd⟩
    · obtain ⟨E, hE⟩ := exq (pI xp (dL0 ⟨xp, xd, xs, xe⟩) xe)
      rw [← hE] at hne ⊢
      have hEb : (E != 0) = true := by simpa using hne
      have CW3 := CW w3 g3
      clear hE hne r0 r1 r2 r3 r4 r5 r6 r7 CW HE HCC HCO HCZ
      go_wp2_with fail
      refine CW3.out.mono ?_
      rintro e w4 ⟨rfl, hg4⟩
      clear CW3
      go_wp2_with fail
      go_ret
      exact ⟨rfl, g3.tr hg4⟩
    · have q0 := hg3.cell r0
      have q1 := hg3.cell r1
      have q2 := hg3.cell r2
      have q3 := hg3.cell r3
      have q4 := hg3.cell r4
      have q5 := hg3.cell r5
      have q6 := hg3.cell r6
      have q7 := hg3.cell r7
      have HG3 := Lib.hid g3
      have HDK := Lib.hid hd.dk
      have HD := Lib.hid hd.d
      simp only at HDK HD
      have CP := fun (cs : List Cnt) (ca : Option Addr) (cc : Nat) (pf pv : ByteArray) (most : Int) (hcl : cs.length ≤ 1048576) (hco : ∀ c ∈ cs, uM0 c) (hcz : ∀ c ∈ cs, c.k.size ≤ 1048576) (hpf : pf.size ≤ 1048576) (hpv : pv.size ≤ 1048576) (u : World) (hu : aB w3 u) (hca : aG u ca 2 (cs.map kC)) => Lib.hid (lI0 xp m (sortS xe) db cs ca cc pf pv most u (HE.out.grows (HG3.out.tr hu)) HDK.out (HD.out.grows hu) hcl hco hcz hca hpf hpv)
      have HXZ : Hid (∀ c ∈ cs, c.k.size ≤ 1048576) := fun c hc => by have := HCZ.out c hc; omega
      have HXE := Lib.hid (cost_sort xe)
      have HXM : Hid (∀ y ∈ sortS xe, y ∈ xe) := fun y hy => eN0 hy
      generalize sortS xe = es at CP HDK HD HXE HXM
      clear hd g3 g2 hg1 hg2 hg3 r0 r1 r2 r3 r4 r5 r6 r7 HCZ hl
      have hw1 : IntKind.i64.wrap (more : Int) = more := by simp [IntKind.wrap, IntKind.bits, IntKind.signed]; omega
      obtain ⟨M2, hM2⟩ := exq (max 0 most + (more : Int))
      have hw2 : IntKind.i64.wrap (max 0 most + (more : Int)) = M2 := by rw [hM2]; simp [IntKind.wrap, IntKind.bits, IntKind.signed]; omega
      have hML : most ≤ M2 := by omega
      have C1 := CP cs ca cc pf pv most (by omega) HCO.out HXZ.out (by omega) (by omega) w3 (aB.refl _) (HCC.out.grows HG3.out)
      have HFW : Hid (sW es cs pf pv most = (sW es cs pf pv M2).take (sW es cs pf pv most).length) := by
        show _ = _
        unfold sW
        split
        · exact guessL_fewer es cs pf pv hML
        · rfl
      have HLN : Hid ((sW es cs pf pv most).length ≤ 60 ∧ (sW es cs pf pv M2).length ≤ 60) := by
        have h := fun q => guessL_len es cs pf pv q
        have h1 := h most
        have h2 := h M2
        show _ ∧ _
        unfold sW
        split
        · omega
        · simp
      have C2 := CP cs ca cc pf pv M2 (by omega) HCO.out HXZ.out (by omega) (by omega)
      obtain ⟨L1, hL1⟩ := exq (sW es cs pf pv most)
      obtain ⟨L2, hL2⟩ := exq (sW es cs pf pv M2)
      rw [← hL1] at C1 HFW HLN
      rw [← hL2] at C2 HFW HLN
      clear hL1 hL2 CP hM2 hML
      go_wp2_with fail
      refine C1.out.mono ?_
      rintro e w4 ⟨v4, rfl, hv4, hg4⟩
      obtain ⟨a4, c4, rfl, _, _, hat4⟩ := hv4.at_ eN1.len
      have C2b := C2 w4 hg4 (HCC.out.grows (HG3.out.tr hg4))
      have q0 := hg4.cell q0
      have q1 := hg4.cell q1
      have q2 := hg4.cell q2
      have q3 := hg4.cell q3
      have q4 := hg4.cell q4
      have q5 := hg4.cell q5
      have q6 := hg4.cell q6
      have q7 := hg4.cell q7
      clear C1 C2 hv4
      go_wp2_with fail
      refine C2b.out.mono ?_
      rintro e w5 ⟨v5, rfl, hv5, hg5⟩
      obtain ⟨a5, c5, rfl, _, _, hat5⟩ := hv5.at_ eN1.len
      have hle : L1.length ≤ L2.length := by
        have h := congrArg List.length HFW.out
        rw [List.length_take] at h
        omega
      have hln := HLN.out
      have hlc : decide (L2.length < L1.length) = false := decide_eq_false (by omega)
      have H4 := Lib.hid (hat4.grows hg5)
      have H5 := Lib.hid hat5
      have CW5 := fun (u : World) (hu : aB w5 u) => CW u ((HG3.out.tr (hg4.tr hg5)).tr hu)
      have HG5 := Lib.hid (HG3.out.tr (hg4.tr hg5))
      clear C2b hv5 hat4 hat5 CW q0 q1 q2 q3 q4 q5 q6 q7
      go_wp2_with fail
      go_loopw [9] (fun i wr => ∃ k : Nat, k ≤ L1.length ∧ i = .int .i64 k ∧ Hid (aB w5 wr)) (fun i _ => L1.length - (intOf i).toNat)
      case atStart => exact ⟨0, Nat.zero_le _, rfl, aB.refl _⟩
      case round =>
        obtain ⟨k, hk, rfl, hg⟩ := hrel
        by_cases hlt : k < L1.length
        · have hki : (k : Int) < L1.length := by omega
          have hki2 : (k : Int) < L2.length := by omega
          obtain ⟨⟨xr, xs', xc⟩, hx⟩ : ∃ y, L1[k]? = some y := ⟨_, List.getElem?_eq_getElem hlt⟩
          have hx2 : L2[k]? = some ⟨xr, xs', xc⟩ := by
            have h := hx
            rw [HFW.out, List.getElem?_take, if_pos hlt] at h
            exact h
          obtain ⟨ba, oa, rfl, hca⟩ := (H4.out.grows hg.out).get (aJ hlt)
          obtain ⟨bb, ob, rfl, hcb⟩ := (H5.out.grows hg.out).get (aJ (show k < L2.length by omega))
          have a0 : ∀ x : Ext aB wr.drew, x.u.cell? ⟨ba, oa + k * 3, none⟩ = some (.string xr) := aF ((aB.drew wr).cell (hca k _ hx 0 _ rfl))
          have a1 : ∀ x : Ext aB wr.drew, x.u.cell? ⟨ba, oa + k * 3 + 1, none⟩ = some (.string xs') := aF ((aB.drew wr).cell (hca k _ hx 1 _ rfl))
          have a2 : ∀ x : Ext aB wr.drew, x.u.cell? ⟨ba, oa + k * 3 + 2, none⟩ = some (.int .i64 xc) := aF ((aB.drew wr).cell (hca k _ hx 2 _ rfl))
          have b0 : ∀ x : Ext aB wr.drew, x.u.cell? ⟨bb, ob + k * 3, none⟩ = some (.string xr) := aF ((aB.drew wr).cell (hcb k _ hx2 0 _ rfl))
          have b1 : ∀ x : Ext aB wr.drew, x.u.cell? ⟨bb, ob + k * 3 + 1, none⟩ = some (.string xs') := aF ((aB.drew wr).cell (hcb k _ hx2 1 _ rfl))
          have b2 : ∀ x : Ext aB wr.drew, x.u.cell? ⟨bb, ob + k * 3 + 2, none⟩ = some (.int .i64 xc) := aF ((aB.drew wr).cell (hcb k _ hx2 2 _ rfl))
          have e1 : (xr.toList == xr.toList) = true := by simp
          have e2 : (xs'.toList == xs'.toList) = true := by simp
          clear hca hcb hx hx2
          go_wp2_with fail
          refine bH [(0, false), (1, false), (2, false), (3, false), (4, false), (5, false), (6, false), (7, false), (8, false)] (by kernel_rfl) (fun d _ _ _ _ h => by cases d <;> exact h) ?_
          iterate 9 (refine aH rfl (fun K hK => ?_); go_simp; refine hK _ ?_; clear hK K)
          refine bN ?_
          clear a0 a1 a2 b0 b1 b2
          go_wp2_with fail
          go_roundw
          case rel => exact ⟨k + 1, hlt, by go_num, hg.out.dr⟩
          case measure => simp [intOf]; omega
        · obtain rfl : k = L1.length := by omega
          have hki : ¬ ((L1.length : Nat) : Int) < L1.length := by omega
          have CW6 := CW5 wr hg.out
          have HG6 := Lib.hid (HG5.out.tr hg.out)
          clear CW5 hg
          go_wp2_with fail
          refine CW6.out.mono ?_
          rintro e w6 ⟨rfl, hg6⟩
          have HG7 := Lib.hid (HG6.out.tr hg6)
          clear CW6 hg6
          go_wp2_with fail
          go_ret
          exact ⟨rfl, HG7.out⟩
end Go.Proofs.YtjhajgffmnkocaaGreatDoor
