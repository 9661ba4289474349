import Derived.Test.YtndhhgpmpnmljaaDoorMat
namespace Go.Proofs.YtndhhgpmpnmljaaDoor
open Go Go.RowKit
attribute [local go_sem] quietE

set_option maxHeartbeats 2000000 in
set_option maxRecDepth 100000 in
theorem new_bad (n d : Int) (w : World) (h : newB n d = false) : Calls Tryd.prog 7 #[.int .i64 n, .int .i64 d] w fun e w' => e = .returned (.tuple #[.pointer none, .int .i64 6]) ∧ w = w' := by
  by_cases h1 : n < 1
  · go_enter Tryd.func7, Tryd.ntmps7
    go_wp2_with (go_at_call 23; refine (isCost_any _ _).mono ?_; rintro e w1 ⟨rfl, rfl⟩)
    go_ret2
    exact ⟨rfl, rfl⟩
  · by_cases h2 : (64 : Int) < n
    · go_enter Tryd.func7, Tryd.ntmps7
      go_wp2_with (go_at_call 23; refine (isCost_any _ _).mono ?_; rintro e w1 ⟨rfl, rfl⟩)
      go_ret2
      exact ⟨rfl, rfl⟩
    · have h3 : isC d = false := by
        cases hd : isC d with
        | false => rfl
        | true =>
          have h3 := newB_iff (n := n) (d := d)
          rw [h] at h3
          have h4 := isC_iff.1 hd
          have := h3.2 ⟨by omega, by omega, h4.1, h4.2⟩
          cases this
      clear h
      go_enter Tryd.func7, Tryd.ntmps7
      go_wp2_with (go_at_call 23; refine (isCost_any _ _).mono ?_; rintro e w1 ⟨rfl, rfl⟩)
      go_ret2
      exact ⟨rfl, rfl⟩
def NewPost (m : Mx) (w : World) (e : Ending) (w' : World) : Prop := e = .returned (.tuple #[.pointer (some ⟨w.heap.size + 1, 0, none⟩), .int .i64 0]) ∧ MatAt w' (w.heap.size + 1) w.heap.size m ∧ Grows w w'
set_option maxHeartbeats 2000000 in
set_option maxRecDepth 100000 in
theorem new_any (n d : Int) (w : World) (h : newB n d = true) : Calls Tryd.prog 7 #[.int .i64 n, .int .i64 d] w (NewPost (newM n d) w) := by
  have hok := newM_ok h
  have hM := mapM_new (H := Unit) n d
  obtain ⟨h1, h2, h3, h4⟩ := newB_iff.1 h
  have hC : isC d = true := isC_iff.2 ⟨h3, h4⟩
  have hn : ((newM n d).n : Int) = n := by show ((n.toNat : Nat) : Int) = n; omega
  have hd : (newM n d).d = d := rfl
  generalize newM n d = m at *
  have HOK := Lib.hid hok
  have HM := Lib.hid hM
  have HN := Lib.hid hn
  have HD := Lib.hid hd
  have hn1 : ¬ n < 1 := by omega
  have hn2 : ¬ (64 : Int) < n := by omega
  clear hok hM hn hd h h1 h2 h3 h4
  have hmm := @run_makeMap Tryd.prog
  go_enter Tryd.func7, Tryd.ntmps7
  go_wp2_with (go_at_call 23; refine (isCost_any _ _).mono ?_; rintro e w1 ⟨rfl, rfl⟩)
  go_ret2
  refine ⟨rfl, ⟨HOK.out, ?_, ?_, ?_, _, ((World.ownsMap_made _ _ _ _).alloc _).mono (Nat.zero_le _), HM.out⟩, (Grows.alloc _ _).al _⟩
  · rw [HN.out]; exact alloc_new_at (w := w.alloc (.map #[] 0)) (by simp) 0 _ rfl
  · rw [HD.out]
    have := alloc_new_at (w := w.alloc (.map #[] 0)) (cs := #[.int .i64 n, .int .i64 d, .map (some w.heap.size)]) (t := 55) (n := w.heap.size + 1) (by simp) 1 _ rfl
    rw [add_off] at this; exact this
  · have := alloc_new_at (w := w.alloc (.map #[] 0)) (cs := #[.int .i64 n, .int .i64 d, .map (some w.heap.size)]) (t := 55) (n := w.heap.size + 1) (by simp) 2 _ rfl
    rw [add_off] at this; exact this

theorem Grows.grownByR {w w' : World} (h : Grows w w') (row : Option Nat) : w.grownBy w' row := ⟨Below.os h, Below.tape h, Below.output h, Below.size h, fun k hk _ => Below.block h k hk⟩
/-- Set answers, and turns the map alone. -/
def SetPost (mb bm : Nat) (m : Mx) (x : Int × Int) (c : Int) (w : World) (e : Ending) (w' : World) : Prop :=
  e = .returned (.int .i64 (if m.setB x c then 0 else 6)) ∧ MatAt w' mb bm (m.setIf x c) ∧ w.grownBy w' (some bm)
theorem setIf_no {m : Mx} {x : Int × Int} {c : Int} (h : m.setB x c = false) : m.setIf x c = m := by unfold Mx.setIf; rw [h]; rfl
theorem setIf_yes {m : Mx} {x : Int × Int} {c : Int} (h : m.setB x c = true) : m.setIf x c = m.set x c := by unfold Mx.setIf; rw [h]; rfl
set_option maxHeartbeats 2000000 in
set_option maxRecDepth 100000 in
theorem set_bad (w : World) (mb bm : Nat) (m : Mx) (h : MatAt w mb bm m) (r l c : Int) (hb : m.setB (r, l) c = false) :
    Calls Tryd.prog 11 #[.pointer (some ⟨mb, 0, none⟩), .int .i64 r, .int .i64 l, .int .i64 c] w fun e w' => e = .returned (.int .i64 6) ∧ w = w' := by
  have CH := has_any w mb bm m h
  unfold Mx.setB inP at hb
  simp only at hb
  cases hr : inR m.n r
  · clear hb
    go_enter Tryd.func11, Tryd.ntmps11
    go_wp2_with (first | (go_at_call 32; refine (CH _).mono ?_; rintro e w1 ⟨rfl, rfl⟩) | (go_at_call 23; refine (isCost_any _ _).mono ?_; rintro e w1 ⟨rfl, rfl⟩))
    go_ret
    exact ⟨rfl, rfl⟩
  · cases hl : inR m.n l
    · clear hb
      go_enter Tryd.func11, Tryd.ntmps11
      go_wp2_with (first | (go_at_call 32; refine (CH _).mono ?_; rintro e w1 ⟨rfl, rfl⟩) | (go_at_call 23; refine (isCost_any _ _).mono ?_; rintro e w1 ⟨rfl, rfl⟩))
      go_ret
      exact ⟨rfl, rfl⟩
    · rw [hr, hl] at hb
      have hc : isC c = false := hb
      clear hb
      go_enter Tryd.func11, Tryd.ntmps11
      go_wp2_with (first | (go_at_call 32; refine (CH _).mono ?_; rintro e w1 ⟨rfl, rfl⟩) | (go_at_call 23; refine (isCost_any _ _).mono ?_; rintro e w1 ⟨rfl, rfl⟩))
      go_ret
      exact ⟨rfl, rfl⟩
set_option maxHeartbeats 2000000 in
set_option maxRecDepth 100000 in
theorem set_good (w : World) (mb bm : Nat) (m : Mx) (h : MatAt w mb bm m) (r l c : Int) (hb : m.setB (r, l) c = true) (hwc : WfI c) :
    Calls Tryd.prog 11 #[.pointer (some ⟨mb, 0, none⟩), .int .i64 r, .int .i64 l, .int .i64 c] w fun e w' => e = .returned (.int .i64 0) ∧ MatAt w' mb bm (m.set (r, l) c) ∧ w.grownBy w' (some bm) := by
  have CH := has_any w mb bm m h
  have hb2 := hb
  unfold Mx.setB inP at hb2
  simp only [Bool.and_eq_true] at hb2
  have hr : inR m.n r = true := hb2.1.1
  have hl : inR m.n l = true := hb2.1.2
  have hc : isC c = true := hb2.2
  clear hb2
  have hin : inP m.n (r, l) = true := by unfold inP; rw [hr, hl]; rfl
  have c0 := h.c0
  have c1 := h.c1
  have c2 := h.c2
  have hne := h.ne
  obtain ⟨D, hown, hM⟩ := h.own
  have hw := wf_of_in h.ok.n2 hin
  have hkey := keyP (x := (r, l)) hw.1 hw.2
  have hP := fun hd => hM.put hown.isMap h.ok hb hd
  have hE := hM.del h.ok hin
  have HS := Lib.hid (h.ok.set hb)
  have HF : Hid (∀ (w' : World) (n : Nat) (D' : DataW Unit), w'.ownsMap Tryd.prog 71 (plainElem Tryd.prog 3) bm n D' → w.grownBy w' (some bm) → MapM (m.set (r, l) c) D' → MatAt w' mb bm (m.set (r, l) c)) := fun w' n D' ho hg hm =>
    ⟨h.ok.set hb, grownBy_cell hg c0 (by simpa using hne), grownBy_cell hg c1 (by simpa using hne), grownBy_cell hg c2 (by simpa using hne), D', (own_tight ho).mono (mapM_size (h.ok.set hb) ho hm), hm⟩
  have x1 := fun (x : Ext Grows (w.alloc (.cells #[.int .i64 r, .int .i64 l] 71)).drew) => (((Grows.alloc w (.cells #[.int .i64 r, .int .i64 l] 71)).dr).tr x.h).cell c2
  have x2 : ∀ x : Ext Grows (w.alloc (.cells #[.int .i64 r, .int .i64 l] 71)).drew, x.u.cell? ⟨w.heap.size, 0, none⟩ = some (.int .i64 r) := ext_cell (cell_box w _ _ (0, 0) 0 _ rfl)
  have x3 : ∀ x : Ext Grows (w.alloc (.cells #[.int .i64 r, .int .i64 l] 71)).drew, x.u.cell? ⟨w.heap.size, 1, none⟩ = some (.int .i64 l) := ext_cell (cell_box w _ _ (0, 0) 1 _ rfl)
  have c1' : (w.alloc (.cells #[.int .i64 r, .int .i64 l] 71)).cell? ⟨mb, 1, none⟩ = some (.int .i64 m.d) := (Grows.alloc _ _).cell c1
  by_cases hd : c = m.d
  · subst hd
    have HE := Lib.hid hE
    clear hM hb hin hw hP hE h c0 hne HS
    go_enter Tryd.func11, Tryd.ntmps11
    go_wp2_with (first | (go_at_call 32; refine (CH _).mono ?_; rintro e w1 ⟨rfl, rfl⟩) | (go_at_call 23; refine (isCost_any _ _).mono ?_; rintro e w1 ⟨rfl, rfl⟩))
    refine wp_region_tail Grows 5 [(0, false), (1, false), (2, false), (3, false), (4, false)] Grows.refl Grows.trans (by kernel_rfl) (by kernel_rfl) (fun d _ _ _ _ h => by cases d <;> exact h) ?_
    repeat (refine ord_quiet rfl (fun K hK => ?_); go_simp; first | (refine hK _ ?_; clear hK K) | (apply Exists.intro; refine ⟨fun x => ?_, hK _ ?_⟩; (fail); clear hK K))
    refine ord_end (fun w4 h4 => ?_)
    simp only [List.drop_succ_cons, List.drop_zero]
    have hg4 := ((Grows.alloc w (.cells #[.int .i64 r, .int .i64 l] 71)).dr).tr h4
    clear x1 x2 x3
    go_wp2_with (at_delete; refine wpList_delete_own _ rfl _ _ 53 71 rfl 3 keyedP Tryd.underlying53 _ bm 4096 D rfl (ownsMap_grows hown hg4) _ (klP (r, l)) rfl hkey ?_; intro w5 hown5 hturn5)
    go_ret
    have hgb := (hg4.grownByR (some bm)).andThen hturn5.grown (fun j hj => Or.inr hj)
    exact ⟨rfl, HF.out _ _ _ hown5 hgb HE.out, hgb⟩
  · have HP := Lib.hid (hP hd)
    have hd2 : (c == m.d) = false := by simpa using hd
    clear hM hb hin hw hP hE h c0 hne HS
    go_enter Tryd.func11, Tryd.ntmps11
    go_wp2_with (first | (go_at_call 32; refine (CH _).mono ?_; rintro e w1 ⟨rfl, rfl⟩) | (go_at_call 23; refine (isCost_any _ _).mono ?_; rintro e w1 ⟨rfl, rfl⟩))
    refine wp_region_tail Grows 6 [(0, false), (1, false), (2, false), (3, false), (4, false), (5, false)] Grows.refl Grows.trans (by kernel_rfl) (by kernel_rfl) (fun d _ _ _ _ h => by cases d <;> exact h) ?_
    repeat (refine ord_quiet rfl (fun K hK => ?_); go_simp; first | (refine hK _ ?_; clear hK K) | (apply Exists.intro; refine ⟨fun x => ?_, hK _ ?_⟩; (fail); clear hK K))
    refine ord_end (fun w4 h4 => ?_)
    simp only [List.drop_succ_cons, List.drop_zero]
    have hg4 := ((Grows.alloc w (.cells #[.int .i64 r, .int .i64 l] 71)).dr).tr h4
    clear x1 x2 x3
    go_wp2_with (at_mapUpdate; refine wpList_mapUpdate_own _ rfl _ _ _ 53 rfl 71 3 keyedP Tryd.underlying53 _ bm 4096 D rfl (ownsMap_grows hown hg4) (by unfold maxLen; omega) _ _ (klP (r, l)) rfl rfl hkey _ [] (plainElem_int Tryd.underlying3 hwc) ?_; intro w5 hown5 hturn5)
    go_ret
    have hgb := (hg4.grownByR (some bm)).andThen hturn5 (fun j hj => Or.inr hj)
    exact ⟨rfl, HF.out _ _ _ hown5 hgb HP.out, hgb⟩
theorem set_any (w : World) (mb bm : Nat) (m : Mx) (h : MatAt w mb bm m) (r l c : Int) (hwc : WfI c) :
    Calls Tryd.prog 11 #[.pointer (some ⟨mb, 0, none⟩), .int .i64 r, .int .i64 l, .int .i64 c] w (SetPost mb bm m (r, l) c w) := by
  cases hb : m.setB (r, l) c
  · refine (set_bad w mb bm m h r l c hb).mono fun e w' ⟨he, hw⟩ => ?_
    subst hw
    refine ⟨by rw [hb]; exact he, by rw [setIf_no hb]; exact h, ⟨rfl, rfl, rfl, Nat.le_refl _, fun _ _ _ => rfl⟩⟩
  · refine (set_good w mb bm m h r l c hb hwc).mono fun e w' ⟨he, hm, hg⟩ => ⟨by rw [hb]; exact he, by rw [setIf_yes hb]; exact hm, hg⟩
end Go.Proofs.YtndhhgpmpnmljaaDoor
