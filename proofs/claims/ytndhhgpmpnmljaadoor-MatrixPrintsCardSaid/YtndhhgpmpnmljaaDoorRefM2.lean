import Derived.Test.YtndhhgpmpnmljaaDoorRefM
import Derived.Test.YtndhhgpmpnmljaaDoorOrdS
import Derived.OneCell
namespace Go.Proofs.YtndhhgpmpnmljaaDoor
open Go Go.RowKit
attribute [local go_sem] quietE

set_option maxHeartbeats 1000000 in
theorem ris_any (c : Int) (w : World) : Calls Tryd.prog 24 #[.int .i64 c] w fun e w' => e = .returned (.bool (isC c)) ∧ w = w' := by
  unfold isC
  by_cases h0 : 0 ≤ c
  · go_enter Tryd.func24, Tryd.ntmps24
    go_wp2
    go_ret
    exact ⟨ret_bool (by simp [h0]), rfl⟩
  · go_enter Tryd.func24, Tryd.ntmps24
    go_wp2
    go_ret
    exact ⟨ret_bool (by simp; omega), rfl⟩
set_option maxHeartbeats 2000000 in
set_option maxRecDepth 100000 in
theorem rnew_bad (n d : Int) (w : World) (h : newB n d = false) : Calls Tryd.prog 8 #[.int .i64 n, .int .i64 d] w fun e w' => e = .returned (.pointer none) ∧ w = w' := by
  by_cases h1 : n < 1
  · go_enter Tryd.func8, Tryd.ntmps8
    go_wp2_with (go_at_call 24; refine (ris_any _ _).mono ?_; rintro e w1 ⟨rfl, rfl⟩)
    go_ret
    exact ⟨rfl, rfl⟩
  · by_cases h2 : (64 : Int) < n
    · go_enter Tryd.func8, Tryd.ntmps8
      go_wp2_with (go_at_call 24; refine (ris_any _ _).mono ?_; rintro e w1 ⟨rfl, rfl⟩)
      go_ret
      exact ⟨rfl, rfl⟩
    · have h3 : isC d = false := by
        cases hd : isC d with
        | false => rfl
        | true =>
          have h3 := newB_iff (n := n) (d := d)
          rw [h] at h3
          have h4 := isC_iff.1 hd
          have := h3.2 ⟨by omega, by omega, h4.1, h4.2⟩
          cases this
      clear h
      go_enter Tryd.func8, Tryd.ntmps8
      go_wp2_with (go_at_call 24; refine (ris_any _ _).mono ?_; rintro e w1 ⟨rfl, rfl⟩)
      go_ret
      exact ⟨rfl, rfl⟩
/-- The document's matrix is made. -/
def RNewPost (m : Mx) (w : World) (e : Ending) (w' : World) : Prop := e = .returned (.pointer (some ⟨w.heap.size, 0, none⟩)) ∧ RefAt w' w.heap.size m ∧ Grows w w'
set_option maxHeartbeats 4000000 in
set_option maxRecDepth 100000 in
theorem rnew_any (n d : Int) (w : World) (h : newB n d = true) : Calls Tryd.prog 8 #[.int .i64 n, .int .i64 d] w (RNewPost (newM n d) w) := by
  have HOK := Lib.hid (newM_ok h)
  obtain ⟨h1, h2, h3, h4⟩ := newB_iff.1 h
  have hC : isC d = true := isC_iff.2 ⟨h3, h4⟩
  obtain ⟨N, rfl⟩ : ∃ N : Nat, n = N := ⟨n.toNat, by omega⟩
  have hnn : N * N ≤ 4096 := Nat.mul_le_mul (by omega : N ≤ 64) (by omega : N ≤ 64)
  obtain ⟨M, hM⟩ : ∃ M, M = N * N := ⟨_, rfl⟩
  have wNN : IntKind.i64.wrap ((N : Int) * N) = M := by
    rw [show ((N : Int) * N) = ((N * N : Nat) : Int) by push_cast; rfl, ← hM]
    simp [IntKind.wrap, IntKind.bits, IntKind.signed]; omega
  have hM2 : M ≤ 4096 := by omega
  have hn1 : ¬ (N : Int) < 1 := by omega
  have hn2 : ¬ (64 : Int) < N := by omega
  have HMM := Lib.hid hM
  clear hM hnn h h1 h2
  go_enter Tryd.func8, Tryd.ntmps8
  go_wp2_with (go_at_call 24; refine (ris_any _ _).mono ?_; rintro e w1 ⟨rfl, rfl⟩)
  go_loopw [6] (fun i wx => ∃ (k : Nat) (v : Value), k ≤ M ∧ i = .int .i64 k ∧ wx.cell? ⟨w.heap.size, 0, none⟩ = some (.int .i64 N) ∧ wx.cell? ⟨w.heap.size, 1, none⟩ = some (.int .i64 d) ∧ wx.cell? ⟨w.heap.size, 2, none⟩ = some v ∧ wx.frozen? ⟨w.heap.size, 2, none⟩ = false ∧ Owns wx (w.heap.size + 1) 3 1 intC v (List.replicate k d) ∧ w.heap.size + 1 ≤ wx.heap.size ∧ Grows w wx) (fun i _ => M - (intOf i).toNat)
  case atStart => exact ⟨0, .slice none 0 0, Nat.zero_le _, rfl, cell_box _ _ _ _ 0 _ rfl, cell_box _ _ _ _ 1 _ rfl, cell_box _ _ _ _ 2 _ rfl, frozen_of_row _ _ _ _ _ (heap_alloc_new w _), Owns.nil _ _ _ _ _, by simp, Grows.alloc _ _⟩
  case round =>
    obtain ⟨k, v, hk, rfl, c0, c1, c2, f2, hown, hsz, hg⟩ := hrel
    by_cases hlt : k < M
    · obtain ⟨av, cv, rfl, hv1, hv2, _⟩ := hown.at_ intLay.len
      have hob : ∀ (j : Nat), some (⟨w.heap.size, j, none⟩ : Addr).block ≠ (Value.slice av (List.replicate k d).length cv).ownBlock := fun j e => by
        have := ownBlock_ge hown _ e.symm
        simp only at this
        omega
      rw [List.length_replicate] at hown hob c2 hv1
      have HB := Lib.hid hob
      clear hob
      go_wp2_with (at_builtin; refine app_one3 intLay rfl _ _ rfl (w.heap.size + 1) _ (List.replicate k d) d rfl hown (Grows.refl _) _ 1 rfl _ rfl rfl (by rw [List.length_replicate]; omega) hsz ?_; intro v5 w5 hown5 hg5 hgr5; obtain ⟨a5, c5, rfl, _, _, _⟩ := hown5.at_ intLay.len; have e0 := grownBy_cell hg5 ((Grows.alloc _ _).cell c0) (HB.out 0); have e1 := grownBy_cell hg5 ((Grows.alloc _ _).cell c1) (HB.out 1); have e2 := grownBy_cell hg5 ((Grows.alloc _ _).cell c2) (HB.out 2); have ef := (grownBy_froz hg5 (p := ⟨w.heap.size, 2, none⟩) (by simp; omega) (HB.out 2)).trans (((Grows.alloc wr (.cells #[.int .i64 d] 3)).froz (p := ⟨w.heap.size, 2, none⟩) (by simp; omega)).trans f2))
      go_roundw
      case rel =>
        have hrep : List.replicate k d ++ [d] = List.replicate (k + 1) d := by rw [List.replicate_succ']
        rw [hrep] at hown5
        rw [List.length_replicate] at hown5
        have hgw5 : Grows w w5 := (hg.al (.cells #[.int .i64 d] 3)).grown hg5 (fun q hq => by have := ownBlock_ge hown q hq; omega)
        have hs5 := hg5.size
        refine ⟨k + 1, _, hlt, by go_num, ?_, ?_, World.cell?_setCell_same _ _ _ e2, ?_, ownsRow_setCell_below hown5 (Nat.lt_succ_self _) _, ?_, ?_⟩
        · rw [World.cell?_setCell_other _ _ _ _ (by simp)]; exact e0
        · rw [World.cell?_setCell_other _ _ _ _ (by simp)]; exact e1
        · rw [World.frozen?_setCell]; exact ef
        · simp at hs5 ⊢; omega
        · exact hgw5.set (Nat.le_refl _) _
      case measure => simp [intOf]; omega
    · obtain rfl : k = M := by omega
      go_wp2_with fail
      go_ret
      exact ⟨rfl, ⟨HOK.out, c0, c1, v, c2, by rw [HMM.out] at hown; exact hown⟩, hg⟩
set_option maxHeartbeats 2000000 in
set_option maxRecDepth 100000 in
theorem rcost_any (w : World) (rb : Nat) (m : Mx) (h : RefAt w rb m) (r l : Int) : Calls Tryd.prog 19 #[.pointer (some ⟨rb, 0, none⟩), .int .i64 r, .int .i64 l] w fun e w' => e = .returned (.int .i64 (m.cost (r, l))) ∧ Grows w w' := by
  have c0 := h.c0
  have hok := h.ok
  have hn1 := hok.n1
  have hn2 := hok.n2
  cases hb : inP m.n (r, l)
  · have hc : m.cost (r, l) = 30000 := by unfold Mx.cost; rw [hb]; rfl
    rw [hc]
    have hq : ¬ ((0 ≤ r ∧ r < m.n) ∧ 0 ≤ l ∧ l < m.n) := fun hh => by have := (inP_iff (n := m.n) (x := (r, l))).2 hh; rw [hb] at this; cases this
    have HQ := Lib.hid hq
    clear hc hb h hok hq
    go_enter Tryd.func19, Tryd.ntmps19
    by_cases q1 : r < 0
    · go_wp2
      go_ret
      exact ⟨rfl, Grows.refl _⟩
    · by_cases q2 : (m.n : Int) ≤ r
      · go_wp2
        go_ret
        exact ⟨rfl, Grows.refl _⟩
      · by_cases q3 : l < 0
        · go_wp2
          go_ret
          exact ⟨rfl, Grows.refl _⟩
        · have q4 : (m.n : Int) ≤ l := Int.not_lt.1 fun q4 => HQ.out ⟨⟨by omega, by omega⟩, by omega, q4⟩
          go_wp2
          go_ret
          exact ⟨rfl, Grows.refl _⟩
  · obtain ⟨g, cap, c2, _, _, hcell, _, _⟩ := h.costs
    obtain ⟨⟨q1, q2⟩, q3, q4⟩ := inP_iff.1 hb
    have hlt := at2_lt hb
    have hc : m.cs[at2 m.n (r, l)]? = some (m.cost (r, l)) := by
      have h9 : at2 m.n (r, l) < m.cs.length := by rw [hok.len]; exact hlt
      unfold Mx.cost
      rw [hb, List.getElem?_eq_getElem h9]
      simp [List.getD, h9]
    have hcc := hcell _ _ hc
    obtain ⟨R, rfl⟩ : ∃ R : Nat, r = R := ⟨r.toNat, by omega⟩
    obtain ⟨L, rfl⟩ : ∃ L : Nat, l = L := ⟨l.toNat, by omega⟩
    have hat : at2 m.n ((R : Int), (L : Int)) = R * m.n + L := rfl
    rw [hat] at hcc hlt
    have hnn : m.n * m.n ≤ 4096 := Nat.mul_le_mul hn2 hn2
    have hlen : m.cs.length = m.n * m.n := hok.len
    obtain ⟨RN, hRN⟩ : ∃ RN, RN = R * m.n := ⟨_, rfl⟩
    rw [← hRN] at hcc hlt
    have wRN : IntKind.i64.wrap ((R : Int) * m.n) = RN := by
      rw [show ((R : Int) * m.n) = ((R * m.n : Nat) : Int) by push_cast; rfl, ← hRN]
      simp [IntKind.wrap, IntKind.bits, IntKind.signed]; omega
    have wI : IntKind.i64.wrap ((RN : Int) + L) = (RN + L : Nat) := by
      rw [show ((RN : Int) + L) = ((RN + L : Nat) : Int) by push_cast; rfl]
      simp only [IntKind.wrap, IntKind.bits, IntKind.signed]; simp; omega
    obtain ⟨I, hI⟩ : ∃ I, I = RN + L := ⟨_, rfl⟩
    rw [← hI] at wI hcc hlt
    rw [← hlen] at hlt
    have hq1 : ¬ (R : Int) < 0 := by omega
    have hq2 : ¬ (m.n : Int) ≤ R := by omega
    have hq3 : ¬ (L : Int) < 0 := by omega
    have hq4 : ¬ (m.n : Int) ≤ L := by omega
    have hlen2 : m.cs.length ≤ 4096 := by omega
    have HC := Lib.hid hc
    generalize m.cost ((R : Int), (L : Int)) = C at *
    generalize m.cs.length = N2 at *
    clear h hb hcell hok q1 q2 q3 q4 hat hRN hI hlen hnn HC hc
    go_enter Tryd.func19, Tryd.ntmps19
    go_wp2_with fail
    have z0 : ∀ x : Ext Grows w.drew, x.u.cell? ⟨rb, 0, none⟩ = some (.int .i64 m.n) := ext_cell ((Grows.drew w).cell c0)
    have z2 : ∀ x : Ext Grows w.drew, x.u.cell? ⟨rb, 2, none⟩ = some (.slice (some ⟨g, 0, none⟩) N2 cap) := ext_cell ((Grows.drew w).cell c2)
    have z3 : ∀ x : Ext Grows w.drew, x.u.cell? ⟨g, I, none⟩ = some (.int .i64 C) := ext_cell ((Grows.drew w).cell hcc)
    refine s_region Grows [(0, false), (1, false), (2, false), (3, false), (4, false), (5, false), (6, false), (7, false), (8, false), (9, false), (10, false), (11, false), (12, false), (13, false), (14, false)] Grows.refl Grows.trans (by kernel_rfl) (by kernel_rfl) (fun d _ _ _ _ h => by cases d <;> exact h) ?_
    iterate 15 (refine s_quiet rfl (fun K hK => ?_); go_simp; refine hK _ ?_; clear hK K)
    refine s_end (fun w4 h4 => ?_)
    go_wp2_with fail
    go_ret
    exact ⟨rfl, (Grows.drew w).tr h4⟩
/-- The document's Set answers, and turns its costs alone. -/
def RSetPost (rb : Nat) (m : Mx) (x : Int × Int) (c : Int) (w : World) (e : Ending) (w' : World) : Prop :=
  e = .returned (.bool (m.setB x c)) ∧ RefAt w' rb (m.setIf x c) ∧ ∃ g, rb < g ∧ w.grownBy w' (some g)
set_option maxHeartbeats 2000000 in
set_option maxRecDepth 100000 in
theorem rset_bad (w : World) (rb : Nat) (m : Mx) (h : RefAt w rb m) (r l c : Int) (hb : m.setB (r, l) c = false) : Calls Tryd.prog 12 #[.pointer (some ⟨rb, 0, none⟩), .int .i64 r, .int .i64 l, .int .i64 c] w fun e w' => e = .returned (.bool false) ∧ w = w' := by
  have c0 := h.c0
  cases hp : inP m.n (r, l)
  · have hq : ¬ ((0 ≤ r ∧ r < m.n) ∧ 0 ≤ l ∧ l < m.n) := fun hh => by have := (inP_iff (n := m.n) (x := (r, l))).2 hh; rw [hp] at this; cases this
    have HQ := Lib.hid hq
    clear hb h hq hp
    go_enter Tryd.func12, Tryd.ntmps12
    by_cases q1 : r < 0
    · go_wp2
      go_ret
      exact ⟨rfl, rfl⟩
    · by_cases q2 : (m.n : Int) ≤ r
      · go_wp2
        go_ret
        exact ⟨rfl, rfl⟩
      · by_cases q3 : l < 0
        · go_wp2
          go_ret
          exact ⟨rfl, rfl⟩
        · have q4 : (m.n : Int) ≤ l := Int.not_lt.1 fun q4 => HQ.out ⟨⟨by omega, by omega⟩, by omega, q4⟩
          go_wp2
          go_ret
          exact ⟨rfl, rfl⟩
  · have hc : isC c = false := by unfold Mx.setB at hb; rw [hp] at hb; exact hb
    obtain ⟨⟨q1, q2⟩, q3, q4⟩ := inP_iff.1 hp
    have hq1 : ¬ r < 0 := by simp only at q1; omega
    have hq2 : ¬ (m.n : Int) ≤ r := by simp only at q2; omega
    have hq3 : ¬ l < 0 := by simp only at q3; omega
    have hq4 : ¬ (m.n : Int) ≤ l := by simp only at q4; omega
    clear h hb hp q1 q2 q3 q4
    go_enter Tryd.func12, Tryd.ntmps12
    go_wp2_with (first | (go_at_call 24; refine (ris_any _ _).mono ?_; rintro e w1 ⟨rfl, rfl⟩))
    go_ret
    exact ⟨rfl, rfl⟩
set_option maxHeartbeats 4000000 in
set_option maxRecDepth 100000 in
theorem rset_good (w : World) (rb : Nat) (m : Mx) (h : RefAt w rb m) (r l c : Int) (hb : m.setB (r, l) c = true) : Calls Tryd.prog 12 #[.pointer (some ⟨rb, 0, none⟩), .int .i64 r, .int .i64 l, .int .i64 c] w fun e w' => e = .returned (.bool true) ∧ RefAt w' rb (m.set (r, l) c) ∧ ∃ g, rb < g ∧ w.grownBy w' (some g) := by
  have hb2 := hb
  simp only [Mx.setB, Bool.and_eq_true] at hb2
  have hC : isC c = true := hb2.2
  have hp := hb2.1
  have hn2 := h.ok.n2
  have c0 := h.c0
  obtain ⟨g, cap, c2, hgr, hgl, hcell, hfr, hset⟩ := h.costs
  have hput := fun W hW => hset W hW (r, l) c hb
  obtain ⟨⟨q1, q2⟩, q3, q4⟩ := inP_iff.1 hp
  have hlt := at2_lt hp
  have hlen : m.cs.length = m.n * m.n := h.ok.len
  obtain ⟨u, hu⟩ : ∃ u, m.cs[at2 m.n (r, l)]? = some u := ⟨_, List.getElem?_eq_getElem (by rw [hlen]; exact hlt)⟩
  have hcc := hcell _ _ hu
  have hff := hfr (at2 m.n (r, l))
  obtain ⟨R, rfl⟩ : ∃ R : Nat, r = R := ⟨r.toNat, by simp only at q1; omega⟩
  obtain ⟨L, rfl⟩ : ∃ L : Nat, l = L := ⟨l.toNat, by simp only at q3; omega⟩
  have hat : at2 m.n ((R : Int), (L : Int)) = R * m.n + L := rfl
  rw [hat] at hcc hlt hff hput
  have hnn : m.n * m.n ≤ 4096 := Nat.mul_le_mul hn2 hn2
  obtain ⟨RN, hRN⟩ : ∃ RN, RN = R * m.n := ⟨_, rfl⟩
  rw [← hRN] at hcc hlt hff hput
  have wRN : IntKind.i64.wrap ((R : Int) * m.n) = RN := by
    rw [show ((R : Int) * m.n) = ((R * m.n : Nat) : Int) by push_cast; rfl, ← hRN]
    simp [IntKind.wrap, IntKind.bits, IntKind.signed]; omega
  have wI : IntKind.i64.wrap ((RN : Int) + L) = (RN + L : Nat) := by
    rw [show ((RN : Int) + L) = ((RN + L : Nat) : Int) by push_cast; rfl]
    simp only [IntKind.wrap, IntKind.bits, IntKind.signed]; simp; omega
  obtain ⟨I, hI⟩ : ∃ I, I = RN + L := ⟨_, rfl⟩
  rw [← hI] at wI hcc hlt hff hput
  rw [← hlen] at hlt
  have hq1 : ¬ (R : Int) < 0 := by omega
  have hq2 : ¬ (m.n : Int) ≤ R := by simp only at q2; omega
  have hq3 : ¬ (L : Int) < 0 := by omega
  have hq4 : ¬ (m.n : Int) ≤ L := by simp only at q4; omega
  have hlen2 : m.cs.length ≤ 4096 := by omega
  have HP := Lib.hid hput
  generalize m.cs.length = N2 at *
  clear hput hset hcell hfr hb hp h hu hat hlen hnn hRN hI q1 q2 q3 q4 hb2
  go_enter Tryd.func12, Tryd.ntmps12
  go_wp2_with (first | (go_at_call 24; refine (ris_any _ _).mono ?_; rintro e w1 ⟨rfl, rfl⟩))
  have z0 : ∀ x : Ext Grows w.drew, x.u.cell? ⟨rb, 0, none⟩ = some (.int .i64 m.n) := ext_cell ((Grows.drew w).cell c0)
  have z2 : ∀ x : Ext Grows w.drew, x.u.cell? ⟨rb, 2, none⟩ = some (.slice (some ⟨g, 0, none⟩) N2 cap) := ext_cell ((Grows.drew w).cell c2)
  refine s_tail Grows 14 [(0, false), (1, false), (2, false), (3, false), (4, false), (5, false), (6, false), (7, false), (8, false), (9, false), (10, false), (11, false), (12, false), (13, false)] Grows.refl Grows.trans (by kernel_rfl) (by kernel_rfl) (fun d _ _ _ _ h => by cases d <;> exact h) ?_
  iterate 14 (refine s_quiet rfl (fun K hK => ?_); go_simp; refine hK _ ?_; clear hK K)
  refine s_end (fun w4 h4 => ?_)
  simp only [List.drop_succ_cons, List.drop_zero]
  have hg4 := (Grows.drew w).tr h4
  have d0 := hg4.cell hcc
  have df := (hg4.froz (p := ⟨g, I, none⟩) hgl).trans hff
  clear z0 z2
  go_wp2_with fail
  go_ret
  exact ⟨rfl, HP.out w4 hg4, g, hgr, hg4.grownBy_set g I _⟩
theorem rset_any (w : World) (rb : Nat) (m : Mx) (h : RefAt w rb m) (r l c : Int) : Calls Tryd.prog 12 #[.pointer (some ⟨rb, 0, none⟩), .int .i64 r, .int .i64 l, .int .i64 c] w (RSetPost rb m (r, l) c w) := by
  cases hb : m.setB (r, l) c
  · refine (rset_bad w rb m h r l c hb).mono fun e w' ⟨he, hw⟩ => ?_
    subst hw
    exact ⟨by rw [hb]; exact he, by rw [setIf_no hb]; exact h, rb + 1, Nat.lt_succ_self _, ⟨rfl, rfl, rfl, Nat.le_refl _, fun _ _ _ => rfl⟩⟩
  · exact (rset_good w rb m h r l c hb).mono fun e w' ⟨he, hm, hg⟩ => ⟨by rw [hb]; exact he, by rw [setIf_yes hb]; exact hm, hg⟩
end Go.Proofs.YtndhhgpmpnmljaaDoor
