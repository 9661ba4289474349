import Derived.Test.YthgklnohcmaopaaGreatDoorCpl2
import Derived.Test.YthgklnohcmaopaaGreatDoorTq34
import Derived.Test.YthgklnohcmaopaaGreatDoorTq33
import Derived.Test.YthgklnohcmaopaaGreatDoorTq24
import Derived.Test.YthgklnohcmaopaaGreatDoorTq42
import Derived.Test.YthgklnohcmaopaaGreatDoorTq46
namespace Go.Proofs.YthgklnohcmaopaaGreatDoor
open Go Go.RowKit Go.Shelf
attribute [local go_sem] aK aP

theorem runSets_okT : ∀ (l : List bF1) {m : Mx}, m.OK → (runSets m l).OK
  | [], _, h => h
  | _ :: r, _, h => runSets_okT r (h.setIf _ _)
theorem srcM_okT {x : jS0} {m : Mx} (h : pA0 x = some m) : m.OK := by
  unfold pA0 at h
  split at h
  · rename_i hn
    cases h
    exact runSets_okT _ (hU0 hn)
  · cases h
theorem mprint_len {m : Mx} {p : List bD} (hm : m.OK) (hv : aQ p = true) : (m.print p).length ≤ 1048576 := by
  have h64 := (lG hv).2.1
  have hi := Mx.idx_len hm
  have hnm : ∀ i : Int, (dH p i).data.toList.length ≤ 16 := fun i => by
    unfold dH
    cases hq : p[i.toNat]? with
    | none => exact Nat.zero_le _
    | some q =>
      have h1 := (oV (kQ hv (List.mem_of_getElem? hq)).1).2.1
      rw [Lib.size_eq] at h1
      exact h1
  have hone : ∀ i ∈ m.idx, (oZ p m i).length ≤ 64 := fun i hi' => by
    obtain ⟨k, hk⟩ := List.getElem?_of_mem hi'
    obtain ⟨_, _, c0, c1, _⟩ := Mx.idx_get hm hk
    have h3 := Lib.itoa_length_le (m.cs.getD i 0) (by omega) (by omega)
    have h4 := hnm ((i / m.n : Nat) : Int)
    have h5 := hnm ((i % m.n : Nat) : Int)
    unfold oZ
    simp only [List.length_append, List.length_cons, List.length_nil]
    omega
  have hsum : ∀ l : List Nat, (∀ i ∈ l, (oZ p m i).length ≤ 64) → (l.flatMap (oZ p m)).length ≤ l.length * 64 := fun l => by
    induction l with
    | nil => intro _; exact Nat.le_refl _
    | cons a r ih =>
      intro h
      have h1 := h a (by simp)
      have h2 := ih (fun i hi => h i (by simp [hi]))
      rw [List.flatMap_cons, List.length_append, List.length_cons]
      omega
  have h6 := hsum m.idx hone
  have h7 := Lib.itoa_length_le m.d (by have := hm.d1; omega) (by have := hm.d2; omega)
  unfold Mx.print
  simp only [List.length_append, List.length_cons, List.length_nil]
  omega
theorem eprint_ok {l : List En} {p : List bD} (hv : aQ p = true) (hc : ∀ x ∈ l, checkE x p.length = 0) (hl : l.length ≤ 300) (hz : ∀ x ∈ l, x.r.size ≤ 400 ∧ x.s.size ≤ 400) : (printS l p).2 = 0 ∧ (printS l p).1.length ≤ 1048576 := by
  have hnm : ∀ i : Int, (dH p i).data.toList.length ≤ 16 := fun i => by
    unfold dH
    cases hq : p[i.toNat]? with
    | none => exact Nat.zero_le _
    | some q =>
      have h1 := (oV (kQ hv (List.mem_of_getElem? hq)).1).2.1
      rw [Lib.size_eq] at h1
      exact h1
  have hone : ∀ x ∈ l, (iN p x).length ≤ 1000 := fun x hx => by
    obtain ⟨_, _, _, _, h5, h6⟩ := wU (hc x hx)
    have h3 := Lib.itoa_length_le x.c (by omega) (by omega)
    have h4 := hnm x.l
    have h7 := hnm x.t
    obtain ⟨h8, h9⟩ := hz x hx
    rw [Lib.size_eq] at h8 h9
    unfold iN
    rw [List.length_append, List.map_cons, List.map_cons, List.map_cons, List.map_cons, List.map_cons, List.map_nil, eM0]
    simp only [List.length_cons, List.length_nil]
    omega
  have hsum : ∀ r : List En, (∀ x ∈ r, (iN p x).length ≤ 1000) → (r.flatMap (iN p)).length ≤ r.length * 1000 := fun r => by
    induction r with
    | nil => intro _; exact Nat.le_refl _
    | cons a r ih =>
      intro h
      have h1 := h a (by simp)
      have h2 := ih (fun i hi => h i (by simp [hi]))
      rw [List.flatMap_cons, List.length_append, List.length_cons]
      omega
  have h6 := hsum l hone
  have hg := zR (p := p) (l := l) (acc := []) hc
  unfold printS
  rw [if_pos hv, if_neg (by omega), hg]
  simp only [List.nil_append]
  rw [if_neg (by decide), if_neg (by omega)]
  exact ⟨rfl, by simp only; omega⟩
set_option maxHeartbeats 16000000 in
set_option maxRecDepth 100000 in
theorem texts18_any (x : jS0) (A : iW0) (w : World) (he : uF0 w) (hok : mH0 x) (hat : yI w A x) :
    Calls Tryz.prog 6 #[A.agg x] w fun e w' => e = .returned (.bool true) ∧ aB w w' := by
  have HE := Lib.hid he
  have CW := fun u (hu : aB w u) => Lib.hid (works18_any u (HE.out.env.grows hu))
  have hok0 := Lib.hid hok
  obtain ⟨pa, pc, sa, sc, ea, ec⟩ := A
  obtain ⟨xp, xd, xs, xe⟩ := x
  obtain ⟨W0, hW0⟩ := exq (w.alloc (.cells #[.slice pa xp.length pc, .int .i64 xd, .slice sa xs.length sc, .slice ea xe.length ec] 26))
  have hg0 : aB w W0 := by rw [hW0]; exact aB.alloc _ _
  have hbx := fun j u h => aM w #[.slice pa xp.length pc, .int .i64 xd, .slice sa xs.length sc, .slice ea xe.length ec] 26 (0, 0) j u h
  rw [← hW0] at hbx
  have q0 := hbx 0 _ rfl
  have q1 := hbx 1 _ rfl
  have q2 := hbx 2 _ rfl
  have q3 := hbx 3 _ rfl
  have HSA := Lib.hid (hat.grows hg0)
  have CL := Lib.hid (light_any ⟨xp, xd, xs, xe⟩ ⟨pa, pc, sa, sc, ea, ec⟩ W0 hok0.out HSA.out)
  unfold iW0.agg iW0.cells at CL
  simp only at CL
  show Calls _ _ #[.agg #[.slice pa xp.length pc, .int .i64 xd, .slice sa xs.length sc, .slice ea xe.length ec]] _ _
  clear hbx hat he hok
  cases hl : aG0 ⟨xp, xd, xs, xe⟩ with
  | false =>
    rw [hl] at CL
    go_enter Tryz.func6, Tryz.ntmps6
    go_wp2_with fail
    rw [← hW0]
    clear hW0
    refine CL.out.mono ?_
    rintro e w1 ⟨rfl, hg1⟩
    go_wp2
    go_ret
    exact ⟨rfl, hg0.tr hg1⟩
  | true =>
    rw [hl] at CL
    obtain ⟨_, h400, h70, _, hx300⟩ := oZ0 hl
    obtain ⟨_, hB2, _⟩ := srcB hl hok0.out
    have HB2 : Hid (∀ y ∈ xe, y.r.size ≤ 1099511627776 ∧ y.s.size ≤ 1099511627776) := hB2
    replace hx300 : xe.length ≤ 300 := hx300
    have H4 : Hid (∀ y ∈ xe, y.r.size ≤ 400 ∧ y.s.size ≤ 400) := h400
    have CI := fun (W : World) (h : aB W0 W) => Lib.hid (sN0 ⟨xp, xd, xs, xe⟩ ⟨pa, pc, sa, sc, ea, ec⟩ W (HE.out.env.grows (hg0.tr h)) hok0.out HB2.out (HSA.out.grows h))
    unfold iW0.agg iW0.cells bV at CI
    simp only at CI
    clear h400 h70 hB2 hl
    by_cases h0 : eB0 xp (pA0 ⟨xp, xd, xs, xe⟩) xe = 0
    · obtain ⟨m, hm⟩ : ∃ m, pA0 ⟨xp, xd, xs, xe⟩ = some m := by
        cases hs : pA0 ⟨xp, xd, xs, xe⟩ with
        | some m => exact ⟨m, rfl⟩
        | none =>
          rw [hs] at h0
          have := (zV h0).1
          unfold cS0 at this
          split at this <;> cases this
      rw [hm] at h0
      have hmo := srcM_okT hm
      have h14 := bJ1 hmo hx300 h0
      have hbu := gN0 h0 h14
      obtain ⟨hmn, _, hpv, hchk⟩ := mJ (zV h0).1
      have hmn' : xp.length = m.n := by omega
      have h64 := (lG hpv).2.1
      obtain ⟨e1, e2⟩ := eprint_ok hpv hchk hx300 H4.out
      have hmp := mprint_len hmo hpv
      have hpl := rB0 (L := xp) (l := xp) (fun q hq => kQ hpv hq)
      have hep := print_parse e1
      have hpp := print_ppos hpv
      have hmm := print_parM hmo hpv hmn' hmp
      have CM := fun (W : World) (h : aB W0 W) => Lib.hid (mD0 ⟨xp, xd, xs, xe⟩ ⟨pa, pc, sa, sc, ea, ec⟩ W hok0.out (HSA.out.grows h))
      unfold iW0.agg iW0.cells at CM
      simp only at CM
      rw [hm] at CM CI
      rw [hbu] at CI
      have CPP := fun (W : World) (h : aB W0 W) => Lib.hid (ppr_any xp pa pc W (HE.out.grows (hg0.tr h)) hpv (HSA.out.p.grows h))
      have CMP := fun (W : World) (mb bm : Nat) (h : aB W0 W) (hm2 : gG W mb bm m) => Lib.hid (matPrint_any W mb bm m hm2 xp pa pc (by omega) (HE.out.grows (hg0.tr h)) (HSA.out.p.grows h))
      rw [show jN xp m = (m.print xp, 0) by unfold jN; rw [if_pos ⟨hpv, hmn'⟩]] at CMP
      have CEP := fun (W : World) (h : aB W0 W) => Lib.hid (print_any xe xp ea pa ec pc W (by omega) (by omega) (HE.out.grows (hg0.tr h)) (fun y hy => by have := H4.out y hy; omega) (HSA.out.e.grows h) (HSA.out.p.grows h))
      rw [e1] at CEP
      have CCO := fun (W : World) (h : aB W0 W) => Lib.hid (compile_ok (mkB (oF0 xp)) (mkB (m.print xp)) (mkB (printS xe xp).1) W (HE.out.grows (hg0.tr h)) (by rw [Lib.size_eq, bQ]; omega) (by rw [Lib.size_eq, bQ]; exact hmp) (by rw [Lib.size_eq, bQ]; exact e2) xp m xe hpp hmm hep h64 (by omega) (fun y hy => ⟨hok0.out.e y hy, HB2.out y hy⟩))
      rw [hbu] at CCO
      clear h14 hbu hmn hpv hchk hmn' h64 e1 e2 hmp hpl hep hpp hmm h0 hm hmo
      generalize oF0 xp = S1 at *
      generalize m.print xp = S2 at *
      generalize (printS xe xp).1 = S3 at *
      generalize gD (imgP xp m (sortS xe)) = D at *
      go_enter Tryz.func6, Tryz.ntmps6
      go_wp2_with fail
      rw [← hW0]
      clear hW0
      refine CL.out.mono ?_
      rintro e w1 ⟨rfl, hg1⟩
      have p0 := hg1.cell q0
      have p1 := hg1.cell q1
      have p2 := hg1.cell q2
      have p3 := hg1.cell q3
      clear CL
      go_wp2_with fail
      refine (CI w1 hg1).out.mono ?_
      rintro e w2 ⟨hg2, v2, rfl, hv2⟩
      try simp only at hv2
      have x2 := hg1.tr hg2
      have p0 := x2.cell q0
      clear CI p1 p2 p3
      go_wp2_with fail
      refine (CPP w2 x2).out.mono ?_
      rintro e w3 ⟨rfl, hg3⟩
      have x3 := x2.tr hg3
      have hv3 := hv2.grows hg3
      clear CPP p0 hv2
      go_wp2_with fail
      have z0 : ∀ x : Ext aB w3.drew, x.u.cell? ⟨w.heap.size, 0, none⟩ = some (.slice pa xp.length pc) := aG ((aB.drew _).cell (x3.cell q0))
      have z1 : ∀ x : Ext aB w3.drew, x.u.cell? ⟨w.heap.size, 1, none⟩ = some (.int .i64 xd) := aG ((aB.drew _).cell (x3.cell q1))
      have z2 : ∀ x : Ext aB w3.drew, x.u.cell? ⟨w.heap.size, 2, none⟩ = some (.slice sa xs.length sc) := aG ((aB.drew _).cell (x3.cell q2))
      have z3 : ∀ x : Ext aB w3.drew, x.u.cell? ⟨w.heap.size, 3, none⟩ = some (.slice ea xe.length ec) := aG ((aB.drew _).cell (x3.cell q3))
      refine bP [(0, false), (2, false), (3, false), (1, true), (4, true), (5, false), (6, false), (7, false), (8, false), (9, false)] (by kernel_rfl) (fun d _ _ _ _ h => by cases d <;> exact h) ?_
      iterate 3 (refine aO rfl (fun K hK => ?_); go_simp; refine hK _ ?_; clear hK K)
      clear z0 z1 z2 z3
      refine cH rfl rfl (fun K hK => ?_)
      go_simp
      refine (CM _ (x3.tr (aB.drew _))).out.mono ?_
      rintro e w4 ⟨mv, rfl, hmv, hg4⟩
      refine ⟨hg4, hK _ _ ?_⟩
      clear hK K CM
      obtain ⟨mb, bm, rfl, hmat⟩ := hmv
      have x4 := (x3.tr (aB.drew _)).tr hg4
      have hv4 := (hv3.grows (aB.drew _)).grows hg4
      refine cH rfl rfl (fun K hK => ?_)
      go_simp
      refine (CMP w4 mb bm x4 hmat).out.mono ?_
      rintro e w5 ⟨rfl, hg5⟩
      refine ⟨hg5, hK _ _ ?_⟩
      clear hK K CMP
      have x5 := x4.tr hg5
      have hv5 := hv4.grows hg5
      clear hmat hv3 hv4
      iterate 5 (refine aO rfl (fun K hK => ?_); go_simp; refine hK _ ?_; clear hK K)
      refine bU ?_
      have p0 := x5.cell q0
      have p3 := x5.cell q3
      go_wp2_with fail
      refine (CEP w5 x5).out.mono ?_
      rintro e w6 ⟨rfl, hg6⟩
      have x6 := x5.tr hg6
      have hv6 := hv5.grows hg6
      clear CEP p0 p3 hv5
      go_wp2_with fail
      refine (CCO w6 x6).out.mono ?_
      rintro e w7 ⟨v7, rfl, hv7, hg7⟩
      try simp only at hv7
      have x7 := x6.tr hg7
      have hv8 := hv6.grows hg7
      clear CCO hv6
      have T9 := TB.alloc w7 #[.int .i64 0, .int .i64 0] 58
      have ga := aB.alloc w7 (.cells #[.int .i64 0, .int .i64 0] 58)
      have cv2 := conv_owns (hv8.grows ga)
      have cv7 := conv_owns (hv7.grows ga)
      have x8 := x7.tr ga
      have hlt := ga.size
      have r0 := T9.cell (o := 0) rfl
      have r1 := T9.cell (o := 1) rfl
      have f0 := T9.froz 0
      have f1 := T9.froz 1
      clear hv8 hv7 T9
      go_wp2_with fail
      refine (CW _ (hg0.tr x8)).out.mono ?_
      rintro e w9 ⟨rfl, hg9⟩
      go_wp2_with fail
      go_ret
      exact ⟨rfl, (hg0.tr x8).tr hg9⟩
    · obtain ⟨SM, hSM⟩ : ∃ SM, pA0 ⟨xp, xd, xs, xe⟩ = SM := ⟨_, rfl⟩
      rw [hSM] at h0 CI
      clear hSM hx300
      rw [buildB_bad h0] at CI
      generalize eB0 xp SM xe = E at *
      have hE : (E == 0) = false := by simpa using h0
      have hE' : (E != 0) = true := by rw [bne, hE]; rfl
      go_enter Tryz.func6, Tryz.ntmps6
      go_wp2_with fail
      rw [← hW0]
      clear hW0
      refine CL.out.mono ?_
      rintro e w1 ⟨rfl, hg1⟩
      have p0 := hg1.cell q0
      have p1 := hg1.cell q1
      have p2 := hg1.cell q2
      have p3 := hg1.cell q3
      clear CL
      go_wp2_with fail
      refine (CI w1 hg1).out.mono ?_
      rintro e w2 ⟨hg2, v2, rfl, _⟩
      have x2 := hg1.tr hg2
      clear CI p0 p1 p2 p3
      go_wp2_with fail
      refine (CW _ (hg0.tr x2)).out.mono ?_
      rintro e w9 ⟨rfl, hg9⟩
      go_wp2_with fail
      go_ret
      exact ⟨rfl, (hg0.tr x2).tr hg9⟩
end Go.Proofs.YthgklnohcmaopaaGreatDoor
