import Derived.Test.YtndhhgpmpnmljaaGreatDoorSplit
import Derived.Test.YtndhhgpmpnmljaaGreatDoorNum
import Derived.Test.YtndhhgpmpnmljaaGreatDoorChk
namespace Go.Proofs.YtndhhgpmpnmljaaGreatDoor
open Go Go.RowKit Go.Shelf
attribute [local go_sem] quietE

/-- An entry. -/
structure En where
  r : ByteArray
  s : ByteArray
  l : Int
  t : Int
  c : Int
def enCells (x : En) : List Value := [.string x.r, .string x.s, .int .i64 x.l, .int .i64 x.t, .int .i64 x.c]
def enZero : En := ⟨ByteArray.empty, ByteArray.empty, 0, 0, 0⟩
def readS (line : ByteArray) (l : List PosV) : En × Int :=
  match splitS 9 line with
  | [r, s, a, b, c] =>
    if numOK c.data.toList then
      (let no := checkS r s (idxI (posFind l a)) (idxI (posFind l b)) (numV c) l.length
       if no = 0 then (⟨r, s, idxI (posFind l a), idxI (posFind l b), numV c⟩, 0) else (enZero, no))
    else (enZero, 5)
  | _ => (enZero, 5)

set_option maxHeartbeats 2000000 in
set_option maxRecDepth 100000 in
theorem read_short (line : ByteArray) (l : List PosV) (a : Option Addr) (cap : Nat) (w : World) (hs : line.size < 4294967281) (he : Env w) (h5 : (splitS 9 line).length ≠ 5) :
    Calls Tryz.prog 63 #[.string line, .slice a l.length cap] w fun e w' => e = .returned (.tuple #[.agg #[.string ByteArray.empty, .string ByteArray.empty, .int .i64 0, .int .i64 0, .int .i64 0], .int .i64 5]) ∧ Grows w w' := by
  have CS := fun W hW => Lib.hid (split_any 9 line W hs (he.grows hW))
  have h5' : ((splitS 9 line).length : Int) ≠ 5 := by omega
  have hb : (((splitS 9 line).length : Int) != 5) = true := by simpa using h5'
  generalize splitS 9 line = ws at *
  clear h5 h5'
  go_enter Tryz.func63, Tryz.ntmps63
  go_wp2_with (first | (go_at_call 40; refine (CS _ (Grows.alloc _ _)).out.mono ?_; rintro e w1 ⟨rfl, hat, hg⟩; rw [World.size_alloc] at hat; obtain ⟨bc, bf⟩ := box_cells hg; have b0 : w1.cell? ⟨w.heap.size, 0, none⟩ = some (.string ⟨#[]⟩) := bc 0 _ rfl; have b1 : w1.cell? ⟨w.heap.size, 1, none⟩ = some (.string ⟨#[]⟩) := bc 1 _ rfl; have b2 : w1.cell? ⟨w.heap.size, 2, none⟩ = some (.int .i64 0) := bc 2 _ rfl; have b3 : w1.cell? ⟨w.heap.size, 3, none⟩ = some (.int .i64 0) := bc 3 _ rfl; have b4 : w1.cell? ⟨w.heap.size, 4, none⟩ = some (.int .i64 0) := bc 4 _ rfl; clear bc; have hg1 := (Grows.alloc _ _).tr hg))
  refine bodyPost_ret (v := .tuple #[.agg #[.string ByteArray.empty, .string ByteArray.empty, .int .i64 0, .int .i64 0, .int .i64 0], .int .i64 5]) (by simp [results, Tryz.results63, go_sem, b0, b1, b2, b3, b4]; rfl) rfl ⟨rfl, ?_⟩
  exact ((((hg1.set (Nat.le_refl _) _).set (Nat.le_refl _) _).set (Nat.le_refl _) _).set (Nat.le_refl _) _).set (Nat.le_refl _) _

theorem piece {w : World} {b : Nat} {xs : List ByteArray} (h : AtCells w (some ⟨b, 0, none⟩) 1 (xs.map strCell)) (hne : xs ≠ []) (j : Nat) (x : ByteArray) (hj : xs[j]? = some x) : w.cell? ⟨b, j, none⟩ = some (.string x) := by
  obtain ⟨b', off, ha, hc⟩ := h.get hne
  simp only [Option.some.injEq, Addr.mk.injEq, and_true] at ha
  obtain ⟨rfl, rfl⟩ := ha
  have := hc j x hj 0 _ rfl
  simpa using this

/-- What the loop over the two sides keeps. -/
structure RInv (w w6 wr : World) (EB : Nat) (v2 v3 : Int) : Prop where
  g : Grows w wr
  sz : w6.heap.size ≤ wr.heap.size
  lt : EB < w6.heap.size
  ge : w.heap.size ≤ EB
  same : ∀ b j, b < w6.heap.size → b ≠ EB → wr.cell? ⟨b, j, none⟩ = w6.cell? ⟨b, j, none⟩
  e0 : wr.cell? ⟨EB, 0, none⟩ = w6.cell? ⟨EB, 0, none⟩
  e1 : wr.cell? ⟨EB, 1, none⟩ = w6.cell? ⟨EB, 1, none⟩
  e2 : wr.cell? ⟨EB, 2, none⟩ = some (.int .i64 v2)
  e3 : wr.cell? ⟨EB, 3, none⟩ = some (.int .i64 v3)
  e4 : wr.cell? ⟨EB, 4, none⟩ = w6.cell? ⟨EB, 4, none⟩
  fr : ∀ b j, b < w6.heap.size → wr.frozen? ⟨b, j, none⟩ = w6.frozen? ⟨b, j, none⟩
theorem RInv.grow {w w6 wr wr' : World} {EB : Nat} {v2 v3 : Int} (h : RInv w w6 wr EB v2 v3) (hg : Grows wr wr') : RInv w w6 wr' EB v2 v3 where
  g := h.g.tr hg
  sz := Nat.le_trans h.sz hg.size
  lt := h.lt
  ge := h.ge
  same b j hb hne := (hg.cl j (Nat.lt_of_lt_of_le hb h.sz)).trans (h.same b j hb hne)
  e0 := (hg.cl 0 (Nat.lt_of_lt_of_le h.lt h.sz)).trans h.e0
  e1 := (hg.cl 1 (Nat.lt_of_lt_of_le h.lt h.sz)).trans h.e1
  e2 := (hg.cl 2 (Nat.lt_of_lt_of_le h.lt h.sz)).trans h.e2
  e3 := (hg.cl 3 (Nat.lt_of_lt_of_le h.lt h.sz)).trans h.e3
  e4 := (hg.cl 4 (Nat.lt_of_lt_of_le h.lt h.sz)).trans h.e4
  fr b j hb := (hg.fz j (Nat.lt_of_lt_of_le hb h.sz)).trans (h.fr b j hb)
theorem RInv.set2 {w w6 wr : World} {EB : Nat} {v2 v3 : Int} (h : RInv w w6 wr EB v2 v3) (v : Int) : RInv w w6 (wr.setCell ⟨EB, 2, none⟩ (.int .i64 v)) EB v v3 where
  g := h.g.set h.ge _
  sz := by rw [put_size]; exact h.sz
  lt := h.lt
  ge := h.ge
  same b j hb hne := (put_other _ (.inl hne)).trans (h.same b j hb hne)
  e0 := (put_other _ (by simp)).trans h.e0
  e1 := (put_other _ (by simp)).trans h.e1
  e2 := put_cell _ h.e2
  e3 := (put_other _ (by simp)).trans h.e3
  e4 := (put_other _ (by simp)).trans h.e4
  fr b j hb := (put_froz _ _ _ _).trans (h.fr b j hb)
theorem RInv.set3 {w w6 wr : World} {EB : Nat} {v2 v3 : Int} (h : RInv w w6 wr EB v2 v3) (v : Int) : RInv w w6 (wr.setCell ⟨EB, 3, none⟩ (.int .i64 v)) EB v2 v where
  g := h.g.set h.ge _
  sz := by rw [put_size]; exact h.sz
  lt := h.lt
  ge := h.ge
  same b j hb hne := (put_other _ (.inl hne)).trans (h.same b j hb hne)
  e0 := (put_other _ (by simp)).trans h.e0
  e1 := (put_other _ (by simp)).trans h.e1
  e2 := (put_other _ (by simp)).trans h.e2
  e3 := put_cell _ h.e3
  e4 := (put_other _ (by simp)).trans h.e4
  fr b j hb := (put_froz _ _ _ _).trans (h.fr b j hb)

set_option maxHeartbeats 4000000 in
set_option maxRecDepth 100000 in
theorem read_long (line r s a b c : ByteArray) (l : List PosV) (la : Option Addr) (cap : Nat) (w : World) (hs : line.size < 4294967281) (hl : l.length ≤ 4611686018427387904) (he : Env w) (hat0 : AtCells w la 2 (l.map posCells)) (h5 : splitS 9 line = [r, s, a, b, c]) :
    Calls Tryz.prog 63 #[.string line, .slice la l.length cap] w fun e w' => e = .returned (.tuple #[.agg #[.string (readS line l).1.r, .string (readS line l).1.s, .int .i64 (readS line l).1.l, .int .i64 (readS line l).1.t, .int .i64 (readS line l).1.c], .int .i64 (readS line l).2]) ∧ Grows w w' := by
  have CS := fun W hW => Lib.hid (split_any 9 line W hs (he.grows hW))
  rw [h5] at CS
  have hsz : ∀ x, x ∈ [r, s, a, b, c] → x.size < 9223372036854775807 := fun x hx => by have := splitS_size (c := 9) (s := line) (x := x) (by rw [h5]; exact hx); omega
  have CN := fun W => Lib.hid (number_any c W (hsz c (by simp)))
  have hR : readS line l = if numOK c.data.toList then (let no := checkS r s (idxI (posFind l a)) (idxI (posFind l b)) (numV c) l.length
       if no = 0 then (⟨r, s, idxI (posFind l a), idxI (posFind l b), numV c⟩, 0) else (enZero, no)) else (enZero, 5) := by unfold readS; rw [h5]
  generalize readS line l = RR at hR ⊢
  have HR := Lib.hid hR
  clear hR h5 hs
  generalize numOK c.data.toList = ok at *
  generalize numV c = nv at *
  cases ok
  · have hr2 := HR.out
    simp only [Bool.false_eq_true, if_false] at hr2
    subst hr2
    go_enter Tryz.func63, Tryz.ntmps63
    go_wp2_with (first | (go_at_call 40; refine (CS _ (Grows.alloc _ _)).out.mono ?_; rintro e w1 ⟨rfl, hat, hg⟩; rw [World.size_alloc] at hat; obtain ⟨bc, bf⟩ := box_cells hg; have b0 : w1.cell? ⟨w.heap.size, 0, none⟩ = some (.string ⟨#[]⟩) := bc 0 _ rfl; have b1 : w1.cell? ⟨w.heap.size, 1, none⟩ = some (.string ⟨#[]⟩) := bc 1 _ rfl; have b2 : w1.cell? ⟨w.heap.size, 2, none⟩ = some (.int .i64 0) := bc 2 _ rfl; have b3 : w1.cell? ⟨w.heap.size, 3, none⟩ = some (.int .i64 0) := bc 3 _ rfl; have b4 : w1.cell? ⟨w.heap.size, 4, none⟩ = some (.int .i64 0) := bc 4 _ rfl; clear bc; have hg1 := (Grows.alloc _ _).tr hg; have d4 := piece hat (by simp) 4 c rfl; clear hat) | (go_at_call 97; refine (CN _).out.mono ?_; rintro e w2 ⟨rfl, hg2⟩; have hg12 := hg1.tr hg2; have e0 := hg2.cell b0; have e1 := hg2.cell b1; have e2 := hg2.cell b2; have e3 := hg2.cell b3; have e4 := hg2.cell b4; have bf2 : ∀ j, w2.frozen? ⟨w.heap.size, j, none⟩ = false := fun j => (hg2.froz (by exact Nat.lt_of_lt_of_le (by simp) hg.size)).trans (bf j)))
    refine bodyPost_ret (v := .tuple #[.agg #[.string ByteArray.empty, .string ByteArray.empty, .int .i64 0, .int .i64 0, .int .i64 0], .int .i64 5]) (by simp [results, Tryz.results63, go_sem, e0, e1, e2, e3, e4]; rfl) rfl ⟨rfl, ?_⟩
    exact ((((hg12.set (Nat.le_refl _) _).set (Nat.le_refl _) _).set (Nat.le_refl _) _).set (Nat.le_refl _) _).set (Nat.le_refl _) _
  · go_enter Tryz.func63, Tryz.ntmps63
    go_wp2_with (first | (go_at_call 40; refine (CS _ (Grows.alloc _ _)).out.mono ?_; rintro e w1 ⟨rfl, hat, hg⟩; rw [World.size_alloc] at hat; obtain ⟨bc, bf⟩ := box_cells hg; have b0 : w1.cell? ⟨w.heap.size, 0, none⟩ = some (.string ⟨#[]⟩) := bc 0 _ rfl; have b1 : w1.cell? ⟨w.heap.size, 1, none⟩ = some (.string ⟨#[]⟩) := bc 1 _ rfl; have b2 : w1.cell? ⟨w.heap.size, 2, none⟩ = some (.int .i64 0) := bc 2 _ rfl; have b3 : w1.cell? ⟨w.heap.size, 3, none⟩ = some (.int .i64 0) := bc 3 _ rfl; have b4 : w1.cell? ⟨w.heap.size, 4, none⟩ = some (.int .i64 0) := bc 4 _ rfl; clear bc; have hg1 := (Grows.alloc _ _).tr hg; have d0 := piece hat (by simp) 0 r rfl; have d1 := piece hat (by simp) 1 s rfl; have d2 := piece hat (by simp) 2 a rfl; have d3 := piece hat (by simp) 3 b rfl; have d4 := piece hat (by simp) 4 c rfl; clear hat) | (go_at_call 97; refine (CN _).out.mono ?_; rintro e w2 ⟨rfl, hg2⟩; have hg12 := hg1.tr hg2; have e0 := hg2.cell b0; have e1 := hg2.cell b1; have e2 := hg2.cell b2; have e3 := hg2.cell b3; have e4 := hg2.cell b4; have f0 := hg2.cell d0; have f1 := hg2.cell d1; have f2 := hg2.cell d2; have f3 := hg2.cell d3; have bf2 : ∀ j, w2.frozen? ⟨w.heap.size, j, none⟩ = false := fun j => (hg2.froz (by exact Nat.lt_of_lt_of_le (by simp) hg.size)).trans (bf j)))
    clear b0 b1 b2 b3 b4 d0 d1 d2 d3 d4 bf CS CN
    have hsz2 : w.heap.size + 2 ≤ w2.heap.size := by have := World.block_lt_of_cell? w2 _ f0; simp at this; omega
    have x0 := ext_cell (w := w2.drew) f0
    have x1 := ext_cell (w := w2.drew) f1
    refine wp_region_tail Grows 9 [(0, false), (1, false), (2, false), (3, false), (4, false), (5, false), (6, false), (7, false), (8, true)] Grows.refl Grows.trans (by kernel_rfl) (by kernel_rfl) (fun d _ _ _ _ h => by cases d <;> exact h) ?_
    repeat (refine ord_quiet rfl (fun K hK => ?_); go_simp; first | (refine hK _ ?_; clear hK K) | (apply Exists.intro; refine ⟨fun x => ?_, hK _ ?_⟩; (fail); clear hK K))
    clear x0 x1
    refine ord_late_w rfl rfl (fun K hK w3 h3 => ?_)
    go_simp
    refine ⟨Grows.alloc _ _, hK _ _ ?_⟩
    clear hK K
    refine ord_end (fun w4 h4 => ?_)
    simp only [List.drop_succ_cons, List.drop_zero]
    obtain ⟨bc, ef⟩ := box_cells h4
    have g0 : w4.cell? ⟨w3.heap.size, 0, none⟩ = some (.string ⟨#[]⟩) := bc 0 _ rfl; have g1 : w4.cell? ⟨w3.heap.size, 1, none⟩ = some (.string ⟨#[]⟩) := bc 1 _ rfl; have g2 : w4.cell? ⟨w3.heap.size, 2, none⟩ = some (.int .i64 0) := bc 2 _ rfl; have g3 : w4.cell? ⟨w3.heap.size, 3, none⟩ = some (.int .i64 0) := bc 3 _ rfl; have g4 : w4.cell? ⟨w3.heap.size, 4, none⟩ = some (.int .i64 0) := bc 4 _ rfl
    have h24 : Grows w2 w4 := ((Grows.drew w2).tr h3).tr ((Grows.alloc _ _).tr h4)
    have hEB : w3.heap.size < w4.heap.size := Nat.lt_of_lt_of_le (by simp) h4.size
    have hEB2 : w2.heap.size ≤ w3.heap.size := h3.size
    clear bc h3 h4
    generalize w3.heap.size = EB at *
    have hne1 : w.heap.size + 1 ≠ EB := by omega
    have hne0 : w.heap.size ≠ EB := by omega
    have hneE : EB ≠ w4.heap.size := by omega
    have i0 := h24.cell e0; have i1 := h24.cell e1; have i2 := h24.cell e2; have i3 := h24.cell e3; have i4 := h24.cell e4; have j2 := h24.cell f2; have j3 := h24.cell f3
    have bf4 : ∀ j, w4.frozen? ⟨w.heap.size, j, none⟩ = false := fun j => (h24.fz j (by omega)).trans (bf2 j)
    have hg4 := hg12.tr h24
    clear e0 e1 e2 e3 e4 f0 f1 f2 f3 bf2 hg2 hg12 hg1 hg h24
    go_wp2
    generalize hW5 : (((((w4.setCell ⟨EB, 0, none⟩ (.string r)).setCell ⟨EB, 1, none⟩ (.string s)).setCell ⟨EB, 2, none⟩ (.int .i64 0)).setCell ⟨EB, 3, none⟩ (.int .i64 0)).setCell ⟨EB, 4, none⟩ (.int .i64 nv)) = w5
    obtain ⟨⟨q0, q1, q2, q3, q4⟩, qo, qf, qs⟩ := put5_spec _ _ _ _ _ g0 g1 g2 g3 g4 hW5
    have hg5 : Grows w w5 := by rw [← hW5]; exact ((((hg4.set (by exact (by omega : w.heap.size ≤ EB)) _).set (by exact (by omega : w.heap.size ≤ EB)) _).set (by exact (by omega : w.heap.size ≤ EB)) _).set (by exact (by omega : w.heap.size ≤ EB)) _).set (by exact (by omega : w.heap.size ≤ EB)) _
    clear hW5 g0 g1 g2 g3 g4
    have p0 : (w5.alloc (.cells #[.pointer (some ⟨EB, 2, none⟩), .pointer (some ⟨EB, 3, none⟩)] 142)).cell? ⟨w4.heap.size, 0, none⟩ = some (.pointer (some ⟨EB, 2, none⟩)) := by rw [← qs]; exact cell_box _ _ _ _ 0 _ rfl
    have p1 : (w5.alloc (.cells #[.pointer (some ⟨EB, 2, none⟩), .pointer (some ⟨EB, 3, none⟩)] 142)).cell? ⟨w4.heap.size, 1, none⟩ = some (.pointer (some ⟨EB, 3, none⟩)) := by rw [← qs]; exact cell_box _ _ _ _ 1 _ rfl
    generalize hW6 : w5.alloc (.cells #[.pointer (some ⟨EB, 2, none⟩), .pointer (some ⟨EB, 3, none⟩)] 142) = w6 at *
    have hg6 : Grows w w6 := by rw [← hW6]; exact hg5.al _
    have hs6 : w6.heap.size = w4.heap.size + 1 := by rw [← hW6, World.size_alloc, qs]
    have h56 : Grows w5 w6 := by rw [← hW6]; exact Grows.alloc _ _
    have f6 : ∀ j, w6.frozen? ⟨EB, j, none⟩ = false := fun j => by rw [h56.fz j (by omega), qf]; exact ef j
    have f0 : ∀ j, w6.frozen? ⟨w.heap.size, j, none⟩ = false := fun j => by rw [h56.fz j (by omega), qf]; exact bf4 j
    have m2 : w6.cell? ⟨w.heap.size + 1, 2, none⟩ = some (.string a) := h56.cell (by rw [qo _ _ hne1]; exact j2)
    have m3 : w6.cell? ⟨w.heap.size + 1, 3, none⟩ = some (.string b) := h56.cell (by rw [qo _ _ hne1]; exact j3)
    have n0 := h56.cell ((qo _ _ hne0).trans i0)
    have n1 := h56.cell ((qo _ _ hne0).trans i1)
    have n2 := h56.cell ((qo _ _ hne0).trans i2)
    have n3 := h56.cell ((qo _ _ hne0).trans i3)
    have n4 := h56.cell ((qo _ _ hne0).trans i4)
    have r0 := h56.cell q0; have r1 := h56.cell q1; have r2 := h56.cell q2; have r3 := h56.cell q3; have r4 := h56.cell q4
    have hlt0 : w.heap.size < EB := by omega
    have hlt1 : w.heap.size + 1 < EB := by omega
    have hlt2 : EB < w4.heap.size := hEB
    clear q0 q1 q2 q3 q4 qo qf qs hg5 h56 hW6 hg4 bf4 i0 i1 i2 i3 i4 j2 j3 ef hEB hEB2 hsz2 hne0 hne1 hneE
    have INV : Hid (RInv w w6 w6 EB 0 0) := ⟨hg6, Nat.le_refl _, by omega, by omega, fun _ _ _ _ => rfl, rfl, rfl, r2, r3, rfl, fun _ _ _ => rfl⟩
    clear r2 r3
    go_loopw [43] (fun i wr => ∃ k : Nat, k ≤ 2 ∧ i = .int .i64 k ∧ RInv w w6 wr EB (if k = 0 then 0 else idxI (posFind l a)) (if k ≤ 1 then 0 else idxI (posFind l b))) (fun i _ => 2 - (intOf i).toNat)
    case atStart => exact ⟨0, by omega, rfl, INV.out⟩
    case round =>
      obtain ⟨k, hk, rfl, inv⟩ := hrel
      match k, hk with
      | 0, _ =>
        simp only [if_true, Nat.zero_le] at inv
        have c0 : wr.cell? ⟨w4.heap.size, 0, none⟩ = some (.pointer (some ⟨EB, 2, none⟩)) := (inv.same _ _ (by omega) (by omega)).trans p0
        have c1 : wr.cell? ⟨w.heap.size + 1, 2, none⟩ = some (.string a) := (inv.same _ _ (by omega) (by omega)).trans m2
        have c2 : wr.cell? ⟨EB, 2, none⟩ = some (.int .i64 0) := inv.e2
        have c3 : wr.frozen? ⟨EB, 2, none⟩ = false := (inv.fr _ _ inv.lt).trans (f6 _)
        have inv1 := inv.set2 (-1)
        have con := posFind_any l a la cap _ hl (hat0.grows inv1.g)
        have HI := Lib.hid inv1
        have HA : Hid (idxI (posFind l a) = if (posFind l a).isSome then findI (posFind l a) else -1) := by unfold Hid; cases posFind l a <;> rfl
        clear inv inv1
        generalize findI (posFind l a) = fv at con HA
        generalize (posFind l a).isSome = fb at con HA
        have CON := Lib.hid con
        clear con
        cases fb
        · go_wp2_with (first | (go_at_call 39; refine CON.out.mono ?_; rintro e w7 ⟨rfl, hg7⟩))
          go_roundw
          case rel => exact ⟨1, by omega, rfl, by have h := HI.out.grow hg7; rw [HA.out]; exact h⟩
          case measure => simp [intOf]
        · go_wp2_with (first | (go_at_call 39; refine CON.out.mono ?_; rintro e w7 ⟨rfl, hg7⟩; have inv7 := HI.out.grow hg7; have d2 := inv7.e2; have d3 : w7.frozen? ⟨EB, 2, none⟩ = false := (inv7.fr _ _ inv7.lt).trans (f6 _); have HJ := Lib.hid inv7; clear inv7))
          go_roundw
          case rel => exact ⟨1, by omega, rfl, by have h := HJ.out.set2 fv; rw [HA.out]; exact h⟩
          case measure => simp [intOf]
      | 1, _ =>
        simp only [Nat.one_ne_zero, if_false, Nat.le_refl, if_true] at inv
        have c0 : wr.cell? ⟨w4.heap.size, 1, none⟩ = some (.pointer (some ⟨EB, 3, none⟩)) := (inv.same _ _ (by omega) (by omega)).trans p1
        have c1 : wr.cell? ⟨w.heap.size + 1, 3, none⟩ = some (.string b) := (inv.same _ _ (by omega) (by omega)).trans m3
        have c2 : wr.cell? ⟨EB, 3, none⟩ = some (.int .i64 0) := inv.e3
        have c3 : wr.frozen? ⟨EB, 3, none⟩ = false := (inv.fr _ _ inv.lt).trans (f6 _)
        have inv1 := inv.set3 (-1)
        have con := posFind_any l b la cap _ hl (hat0.grows inv1.g)
        have HI := Lib.hid inv1
        have HA : Hid (idxI (posFind l b) = if (posFind l b).isSome then findI (posFind l b) else -1) := by unfold Hid; cases posFind l b <;> rfl
        clear inv inv1
        generalize findI (posFind l b) = fv at con HA
        generalize (posFind l b).isSome = fb at con HA
        have CON := Lib.hid con
        clear con
        cases fb
        · go_wp2_with (first | (go_at_call 39; refine CON.out.mono ?_; rintro e w7 ⟨rfl, hg7⟩))
          go_roundw
          case rel => exact ⟨2, by omega, rfl, by have h := HI.out.grow hg7; rw [HA.out]; exact h⟩
          case measure => simp [intOf]
        · go_wp2_with (first | (go_at_call 39; refine CON.out.mono ?_; rintro e w7 ⟨rfl, hg7⟩; have inv7 := HI.out.grow hg7; have d2 := inv7.e3; have d3 : w7.frozen? ⟨EB, 3, none⟩ = false := (inv7.fr _ _ inv7.lt).trans (f6 _); have HJ := Lib.hid inv7; clear inv7))
          go_roundw
          case rel => exact ⟨2, by omega, rfl, by have h := HJ.out.set3 fv; rw [HA.out]; exact h⟩
          case measure => simp [intOf]
      | 2, _ =>
        simp only [show ¬ (2 : Nat) = 0 by omega, show ¬ (2 : Nat) ≤ 1 by omega, if_false] at inv
        have hc := echeck_any r s (idxI (posFind l a)) (idxI (posFind l b)) nv l.length wr (hsz r (by simp)) (hsz s (by simp)) (he.grows inv.g)
        have hr2 := HR.out
        simp only [if_true] at hr2
        have c2 := inv.e2
        have c3 := inv.e3
        have n0' := (inv.same _ 0 (by omega) (by omega)).trans n0
        have n1' := (inv.same _ 1 (by omega) (by omega)).trans n1
        have n2' := (inv.same _ 2 (by omega) (by omega)).trans n2
        have n3' := (inv.same _ 3 (by omega) (by omega)).trans n3
        have n4' := (inv.same _ 4 (by omega) (by omega)).trans n4
        have hf0 : ∀ j, wr.frozen? ⟨w.heap.size, j, none⟩ = false := fun j => (inv.fr _ j (by omega)).trans (f0 j)
        have hG := inv.g
        have hlt6 : EB < wr.heap.size := Nat.lt_of_lt_of_le inv.lt inv.sz
        generalize idxI (posFind l a) = A at *
        generalize idxI (posFind l b) = B at *
        have c0 := inv.e0.trans r0
        have c1 := inv.e1.trans r1
        have c4 := inv.e4.trans r4
        clear inv INV HR n0 n1 n2 n3 n4 r0 r1 r4 f0 f6 m2 m3 p0 p1
        generalize checkS r s A B nv l.length = no at *
        have HC := Lib.hid hc
        clear hc
        have hneB : w.heap.size ≠ EB := by omega
        by_cases hno : no = 0
        · subst hno
          simp only [if_true] at hr2
          subst hr2
          go_wp2_with (first | (go_at_call 31; refine HC.out.mono ?_; rintro e w8 ⟨rfl, hg8⟩; have k0 := hg8.cell c0; have k1 := hg8.cell c1; have k2 := hg8.cell c2; have k3 := hg8.cell c3; have k4 := hg8.cell c4; have z0 := hg8.cell n0'; have z1 := hg8.cell n1'; have z2 := hg8.cell n2'; have z3 := hg8.cell n3'; have z4 := hg8.cell n4'; have hf8 : ∀ j, w8.frozen? ⟨w.heap.size, j, none⟩ = false := fun j => (hg8.fz j (by omega)).trans (hf0 j)))
          have hG8 := hG.tr hg8
          refine bodyPost_ret (v := .tuple #[.agg #[.string r, .string s, .int .i64 A, .int .i64 B, .int .i64 nv], .int .i64 0]) (by simp [results, Tryz.results63, go_sem, z0, z1, z2, z3, z4]) rfl ⟨rfl, ?_⟩
          exact ((((hG8.set (Nat.le_refl _) _).set (Nat.le_refl _) _).set (Nat.le_refl _) _).set (Nat.le_refl _) _).set (Nat.le_refl _) _
        · have hb : (no != 0) = true := by simpa using hno
          simp only [if_neg hno] at hr2
          subst hr2
          go_wp2_with (first | (go_at_call 31; refine HC.out.mono ?_; rintro e w8 ⟨rfl, hg8⟩; have z0 := hg8.cell n0'; have z1 := hg8.cell n1'; have z2 := hg8.cell n2'; have z3 := hg8.cell n3'; have z4 := hg8.cell n4'; have hf8 : ∀ j, w8.frozen? ⟨w.heap.size, j, none⟩ = false := fun j => (hg8.fz j (by omega)).trans (hf0 j)))
          have hG8 := hG.tr hg8
          refine bodyPost_ret (v := .tuple #[.agg #[.string ByteArray.empty, .string ByteArray.empty, .int .i64 0, .int .i64 0, .int .i64 0], .int .i64 no]) (by simp [results, Tryz.results63, go_sem, z0, z1, z2, z3, z4]; rfl) rfl ⟨rfl, ?_⟩
          exact ((((hG8.set (Nat.le_refl _) _).set (Nat.le_refl _) _).set (Nat.le_refl _) _).set (Nat.le_refl _) _).set (Nat.le_refl _) _

theorem read_any (line : ByteArray) (l : List PosV) (la : Option Addr) (cap : Nat) (w : World) (hs : line.size < 4294967281) (hl : l.length ≤ 4611686018427387904) (he : Env w) (hat : AtCells w la 2 (l.map posCells)) :
    Calls Tryz.prog 63 #[.string line, .slice la l.length cap] w fun e w' => e = .returned (.tuple #[.agg #[.string (readS line l).1.r, .string (readS line l).1.s, .int .i64 (readS line l).1.l, .int .i64 (readS line l).1.t, .int .i64 (readS line l).1.c], .int .i64 (readS line l).2]) ∧ Grows w w' := by
  by_cases h5 : ∃ r s a b c, splitS 9 line = [r, s, a, b, c]
  · obtain ⟨r, s, a, b, c, h5⟩ := h5
    exact read_long line r s a b c l la cap w hs hl he hat h5
  · have hr : readS line l = (enZero, 5) := by
      unfold readS
      split
      · rename_i r s a b c h; exact absurd ⟨r, s, a, b, c, h⟩ h5
      · rfl
    rw [hr]
    refine read_short line l la cap w hs he ?_
    intro h
    match hh : splitS 9 line, h with
    | [r, s, a, b, c], _ => exact h5 ⟨r, s, a, b, c, hh⟩
end Go.Proofs.YtndhhgpmpnmljaaGreatDoor
