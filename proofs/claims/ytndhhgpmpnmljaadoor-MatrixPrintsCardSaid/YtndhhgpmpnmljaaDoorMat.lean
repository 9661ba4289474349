import Derived.Test.YtndhhgpmpnmljaaDoorMx
import Derived.Test.YtndhhgpmpnmljaaDoorOwn2
import Derived.Sort.KeysCollected
namespace Go.Proofs.YtndhhgpmpnmljaaDoor
open Go Go.RowKit
attribute [local go_sem] quietE

theorem zeroI2 (w : World) : (zeroValue 3).run Tryd.prog w = .ok (.int .i64 0) w := by kernel_rfl
theorem nodup_sub_len {α : Type} [DecidableEq α] : ∀ {l l' : List α}, l.Nodup → (∀ x ∈ l, x ∈ l') → l.length ≤ l'.length
  | [], _, _, _ => Nat.zero_le _
  | x :: r, l', hn, hs => by
    obtain ⟨h1, h2⟩ := List.nodup_cons.1 hn
    have hx := hs x (by simp)
    have hr := nodup_sub_len (l' := l'.erase x) h2 fun y hy => (List.mem_erase_of_ne (fun (e : y = x) => h1 (by rw [← e]; exact hy))).2 (hs y (by simp [hy]))
    rw [List.length_erase_of_mem hx] at hr
    have := List.length_pos_of_mem hx
    simp only [List.length_cons]
    omega
theorem own_tight {H : Type} {P : Program} {k : TypeId} {R : Value → Option (DataW H × List MemPlace)} {w : World} {b n : Nat} {D : DataW H} (h : w.ownsMap P k R b n D) : w.ownsMap P k R b (Maps.size D) D := by
  obtain ⟨es, clock, h1, h2, h3, rfl⟩ := h
  exact ⟨es, clock, h1, h2, by simp [Maps.size, length_sorted], rfl⟩
/-- A matrix's map is no larger than the matrix. -/
theorem mapM_size {w : World} {b n : Nat} {D : DataW Unit} {m : Mx} (hm : m.OK) (h : w.ownsMap Tryd.prog 71 (plainElem Tryd.prog 3) b n D) (hM : MapM m D) : Maps.size D ≤ 4096 := by
  obtain ⟨es, rfl, hks⟩ := h.keysOf
  obtain ⟨es', he, hpw, _⟩ := h.entries keyedP
  obtain rfl : es = es' := by simpa using he
  haveI : DecidableEq Lit := fun a b => Classical.propDecidable (a = b)
  have hnd : (es.map (·.1)).Nodup := List.pairwise_map.2 hpw
  have hsub : ∀ x ∈ es.map (·.1), x ∈ (List.range (m.n * m.n)).map fun i => klP (pairAt m.n i) := fun kl hkl => by
    obtain ⟨p, hp, rfl⟩ := List.mem_map.1 hkl
    obtain ⟨key, hkey⟩ := hks p hp
    obtain ⟨x, h1, h2, _, hx⟩ := keyP_inv hkey
    have hhas : Maps.has (.map es) (klP x) = true := by
      rw [Maps.has_eq, List.any_eq_true]
      exact ⟨p, hp, by rw [hx]; exact klP_same x⟩
    have h3 := (hM x h1 h2).1
    rw [hhas] at h3
    have h4 : inP m.n x = true := by
      have := h3.symm
      simp only [Bool.and_eq_true] at this
      exact this.1
    exact List.mem_map.2 ⟨at2 m.n x, List.mem_range.2 (at2_lt h4), by rw [pairAt_at2 h4, hx]⟩
  have h5 := nodup_sub_len hnd hsub
  rw [List.length_map, List.length_map, List.length_range] at h5
  have := hm.n2
  show es.length ≤ 4096
  exact Nat.le_trans h5 (Nat.mul_le_mul this this)
/-- Block mb is a matrix whose map is block bm. -/
structure MatAt (w : World) (mb bm : Nat) (m : Mx) : Prop where
  ok : m.OK
  c0 : w.cell? ⟨mb, 0, none⟩ = some (.int .i64 m.n)
  c1 : w.cell? ⟨mb, 1, none⟩ = some (.int .i64 m.d)
  c2 : w.cell? ⟨mb, 2, none⟩ = some (.map (some bm))
  own : ∃ D : DataW Unit, w.ownsMap Tryd.prog 71 (plainElem Tryd.prog 3) bm 4096 D ∧ MapM m D
theorem MatAt.grows {w w' : World} {mb bm : Nat} {m : Mx} (h : MatAt w mb bm m) (hg : Grows w w') : MatAt w' mb bm m :=
  ⟨h.ok, hg.cell h.c0, hg.cell h.c1, hg.cell h.c2, let ⟨D, ho, hm⟩ := h.own; ⟨D, ownsMap_grows ho hg, hm⟩⟩
theorem MatAt.mlt {w : World} {mb bm : Nat} {m : Mx} (h : MatAt w mb bm m) : mb < w.heap.size := World.block_lt_of_cell? w _ h.c0
theorem MatAt.blt {w : World} {mb bm : Nat} {m : Mx} (h : MatAt w mb bm m) : bm < w.heap.size := let ⟨_, ho, _⟩ := h.own; ho.lt
theorem MatAt.ne {w : World} {mb bm : Nat} {m : Mx} (h : MatAt w mb bm m) : mb ≠ bm := by
  obtain ⟨D, ⟨es, clock, hb, _⟩, hm⟩ := h.own
  intro e
  have h0 := h.c0
  subst e
  simp [World.cell?, hb] at h0
theorem grownBy_cell {w w' : World} {row : Option Nat} (hg : w.grownBy w' row) {p : Addr} {v : Value} (hc : w.cell? p = some v) (hne : some p.block ≠ row) : w'.cell? p = some v := by
  have hlt := World.block_lt_of_cell? w _ hc
  have hb := hg.block p.block hlt hne
  unfold World.cell? at hc ⊢
  rw [hb]; exact hc
/-- Another matrix is kept where a map turns. -/
theorem MatAt.kept {w w' : World} {mb bm : Nat} {m : Mx} {row : Option Nat} (h : MatAt w mb bm m) (hg : w.grownBy w' row) (h1 : some mb ≠ row) (h2 : some bm ≠ row) : MatAt w' mb bm m :=
  ⟨h.ok, grownBy_cell hg h.c0 h1, grownBy_cell hg h.c1 h1, grownBy_cell hg h.c2 h1, let ⟨D, ho, hm⟩ := h.own; ⟨D, ho.kept hg h2, hm⟩⟩

set_option maxHeartbeats 1000000 in
theorem isCost_any (c : Int) (w : World) : Calls Tryd.prog 23 #[.int .i64 c] w fun e w' => e = .returned (.bool (isC c)) ∧ w = w' := by
  unfold isC
  by_cases h0 : 0 ≤ c
  · go_enter Tryd.func23, Tryd.ntmps23
    go_wp2
    go_ret
    exact ⟨ret_bool (by simp [h0]), rfl⟩
  · go_enter Tryd.func23, Tryd.ntmps23
    go_wp2
    go_ret
    exact ⟨ret_bool (by simp; omega), rfl⟩
set_option maxHeartbeats 1000000 in
theorem size_any (w : World) (mb bm : Nat) (m : Mx) (h : MatAt w mb bm m) : Calls Tryd.prog 20 #[.pointer (some ⟨mb, 0, none⟩)] w fun e w' => e = .returned (.int .i64 m.n) ∧ w = w' := by
  have c0 := h.c0
  go_enter Tryd.func20, Tryd.ntmps20
  go_wp2
  go_ret
  exact ⟨rfl, rfl⟩
set_option maxHeartbeats 1000000 in
theorem size_nil (w : World) : Calls Tryd.prog 20 #[.pointer none] w fun e w' => e = .returned (.int .i64 0) ∧ w = w' := by
  go_enter Tryd.func20, Tryd.ntmps20
  go_wp2
  go_ret
  exact ⟨rfl, rfl⟩
set_option maxHeartbeats 1000000 in
theorem has_any (w : World) (mb bm : Nat) (m : Mx) (h : MatAt w mb bm m) (r : Int) : Calls Tryd.prog 32 #[.pointer (some ⟨mb, 0, none⟩), .int .i64 r] w fun e w' => e = .returned (.bool (inR m.n r)) ∧ w = w' := by
  have CS := fun W (hW : w = W) => size_any W mb bm m (hW ▸ h)
  unfold inR
  by_cases h0 : 0 ≤ r
  · go_enter Tryd.func32, Tryd.ntmps32
    go_wp2_with (go_at_call 20; refine (CS _ rfl).mono ?_; rintro e w1 ⟨rfl, rfl⟩)
    go_ret
    exact ⟨ret_bool (by simp [h0]), rfl⟩
  · go_enter Tryd.func32, Tryd.ntmps32
    go_wp2_with (go_at_call 20; refine (CS _ rfl).mono ?_; rintro e w1 ⟨rfl, rfl⟩)
    go_ret
    exact ⟨ret_bool (by simp; omega), rfl⟩
set_option maxHeartbeats 1000000 in
theorem has_nil (w : World) (r : Int) : Calls Tryd.prog 32 #[.pointer none, .int .i64 r] w fun e w' => e = .returned (.bool false) ∧ w = w' := by
  by_cases h0 : 0 ≤ r
  · go_enter Tryd.func32, Tryd.ntmps32
    go_wp2_with (go_at_call 20; refine (size_nil _).mono ?_; rintro e w1 ⟨rfl, rfl⟩)
    go_ret
    exact ⟨ret_bool (by simp; omega), rfl⟩
  · go_enter Tryd.func32, Tryd.ntmps32
    go_wp2_with (go_at_call 20; refine (size_nil _).mono ?_; rintro e w1 ⟨rfl, rfl⟩)
    go_ret
    exact ⟨rfl, rfl⟩
set_option maxHeartbeats 2000000 in
set_option maxRecDepth 100000 in
theorem cost_any (w : World) (mb bm : Nat) (m : Mx) (h : MatAt w mb bm m) (r l : Int) : Calls Tryd.prog 18 #[.pointer (some ⟨mb, 0, none⟩), .int .i64 r, .int .i64 l] w fun e w' => e = .returned (.int .i64 (m.cost (r, l))) ∧ w = w' := by
  have c1 := h.c1
  have c2 := h.c2
  have CH := has_any w mb bm m h
  cases hr : inR m.n r
  · have hc : m.cost (r, l) = 30000 := by unfold Mx.cost inP; rw [hr]; rfl
    rw [hc]
    clear hc
    go_enter Tryd.func18, Tryd.ntmps18
    go_wp2_with (go_at_call 32; refine (CH _).mono ?_; rintro e w1 ⟨rfl, rfl⟩)
    go_ret
    exact ⟨rfl, rfl⟩
  · cases hl : inR m.n l
    · have hc : m.cost (r, l) = 30000 := by unfold Mx.cost inP; rw [hr, hl]; rfl
      rw [hc]
      clear hc
      go_enter Tryd.func18, Tryd.ntmps18
      go_wp2_with (first | (go_at_call 32; refine (CH _).mono ?_; rintro e w1 ⟨rfl, rfl⟩))
      go_ret
      exact ⟨rfl, rfl⟩
    · have hin : inP m.n (r, l) = true := by unfold inP; rw [hr, hl]; rfl
      obtain ⟨D, hown, hM⟩ := h.own
      have HL := fun c => Lib.hid (hM.look h.ok hin (c := c))
      have hw := wf_of_in h.ok.n2 hin
      have hkey := keyP (x := (r, l)) hw.1 hw.2
      clear hM hw hin
      generalize m.cost (r, l) = C at HL ⊢
      go_enter Tryd.func18, Tryd.ntmps18
      cases hh : Maps.has D (klP (r, l))
      · rw [hh] at HL
        go_wp2_with (first | (go_at_call 32; refine (CH _).mono ?_; rintro e w1 ⟨rfl, rfl⟩) | (at_lookup; refine wpList_lookup_own_ok_int _ rfl _ _ 53 rfl 71 3 .i64 keyedP Tryd.underlying53 Tryd.underlying3 (zeroI2 _) bm 4096 D rfl hown _ (klP (r, l)) rfl hkey ?_; intro c hat hwc; rw [hh]; have hcc := Lib.hid (((HL c).out hat).2 trivial); clear hat))
        go_ret
        exact ⟨ret_int hcc.out.symm, rfl⟩
      · rw [hh] at HL
        go_wp2_with (first | (go_at_call 32; refine (CH _).mono ?_; rintro e w1 ⟨rfl, rfl⟩) | (at_lookup; refine wpList_lookup_own_ok_int _ rfl _ _ 53 rfl 71 3 .i64 keyedP Tryd.underlying53 Tryd.underlying3 (zeroI2 _) bm 4096 D rfl hown _ (klP (r, l)) rfl hkey ?_; intro c hat hwc; rw [hh]; have hcc := Lib.hid (((HL c).out hat).1 trivial); clear hat))
        go_ret
        exact ⟨ret_int hcc.out, rfl⟩
end Go.Proofs.YtndhhgpmpnmljaaDoor
