import Derived.Test.YtndhhgpmpnmljaaDoorMat
import Derived.RangeFuncBox
import Derived.RangeFuncNested
import Derived.RangeFuncLeaves
import Derived.RangeFuncStops
import Derived.Shelf.Abstract
import Derived.WalkKit
import Derived.OwnWalkIn
import Derived.TacticsInMore
import Derived.RegionIn
import Derived.LoopNIn
import Derived.LoopIn
import Derived.Maps.AppendAt
import Derived.Sort.MapsRangeIn
import Derived.Sort.KeysCollected
namespace Go.Proofs.YtndhhgpmpnmljaaDoor
open Go Go.RowKit Go.Shelf Go.Maps Go.Sort
attribute [local go_sem] Oper.semAt_some

/-- A pair whose numbers are of the kind's size. -/
abbrev PW := { x : Int × Int // WfI x.1 ∧ WfI x.2 }
def encPW (x : PW) : Value := .agg #[.int .i64 x.1.1, .int .i64 x.1.2]
def cellsPW (x : PW) : List Value := [.int .i64 x.1.1, .int .i64 x.1.2]
/-- The keys that have come. -/
def CollP (D0 : DataW Unit) (left : Lit → Bool) (ss : List PW) : Prop := ss.Nodup ∧ ∀ x : PW, x ∈ ss ↔ (has D0 (klP x.1) = true ∧ left (klP x.1) = false)
theorem collP_start (D0 : DataW Unit) : CollP D0 (has D0) [] := ⟨List.nodup_nil, fun x => by cases has D0 (klP x.1) <;> simp⟩
theorem CollP.step {D0 : DataW Unit} {left : Lit → Bool} {ss : List PW} (h : CollP D0 left ss) {x : PW} {y : DataW Unit} (hl : left (klP x.1) = true) (hat : ∀ zd, D0.atKey (klP x.1) zd = y) : CollP D0 (fun z => left z && !z.sameKey (klP x.1)) (ss ++ [x]) := by
  have hhas := has_true_of_atKey hat
  refine ⟨List.nodup_append.2 ⟨h.1, by simp, fun a ha b hb e => ?_⟩, fun z => ?_⟩
  · obtain rfl : b = x := by simpa using hb
    subst e
    have := ((h.2 a).1 ha).2
    rw [hl] at this; cases this
  · constructor
    · intro hz
      rcases List.mem_append.1 hz with hz | hz
      · obtain ⟨k1, k2⟩ := (h.2 z).1 hz
        exact ⟨k1, by simp [k2]⟩
      · obtain rfl : z = x := by simpa using hz
        exact ⟨hhas, by simp [klP_same]⟩
    · rintro ⟨k1, k2⟩
      by_cases e : z = x
      · rw [e]; simp
      · have hne : klP z.1 ≠ klP x.1 := fun h => e (Subtype.ext (klP_inj z.2.1 z.2.2 x.2.1 x.2.2 h))
        have k3 : (left (klP z.1) && !(klP z.1).sameKey (klP x.1)) = false := k2
        rw [sameKey_ne hne] at k3
        exact List.mem_append_left _ ((h.2 z).2 ⟨k1, by simpa using k3⟩)

set_option maxRecDepth 100000 in
set_option maxHeartbeats 1000000 in
theorem keysP1_in (F : Fence) (n : Nat) (h10 : F.fn 64) (hro : F.round = none) (hn : 1 ≤ n) (l Bm b nn : Nat) (D0 : DataW Unit) (J Jx : List PW → World → Prop)
    (hY : ∀ pre x W, J pre W → pre.length < Maps.size D0 → YieldAt F (n - 1) Tryd.prog l #[.agg #[.int .i64 x.1.1, .int .i64 x.1.2]] W fun e W' =>
      (e = .returned (.bool true) ∧ J (pre ++ [x]) W' ∧ KeepsWalks W W') ∨ (e = .returned (.bool false) ∧ Jx (pre ++ [x]) W'))
    (W : World) (hJ : AbidesFrom W.heap.size J) (hm : W.cell? ⟨Bm, 0, none⟩ = some (.map (some b))) (hown : W.ownsMap Tryd.prog 71 (plainElem Tryd.prog 3) b nn D0) (h0 : J [] W) :
    CallsIn F n Tryd.prog 64 #[.func (.yield l) #[] #[], .pointer (some ⟨Bm, 0, none⟩)] W fun e W' => (∃ v, e = .returned v) ∧
      ((∃ ss : List PW, (ss.Nodup ∧ ∀ x : PW, x ∈ ss ↔ has D0 (klP x.1) = true) ∧ J ss W') ∨ (∃ pre : List PW, True ∧ Jx pre W')) := by
  refine callsIn_of_wp Tryd.func64 rfl h10 ?_ hro
  simp only [Tryd.ntmps64, List.size_toArray, List.length_cons, List.length_nil, Nat.reduceAdd, Nat.reduceSub, Array.replicate_succ, Array.replicate_zero, List.push_toArray, List.append_toArray, List.nil_append, List.cons_append]
  gi_wp2_with (first
    | (gi_at_range; refine wpListIn_range_own _ rfl _ 53 rfl 71 3 keyedP Tryd.underlying53 _ b nn _ rfl hown ?_; intro w0 hrg0 hg0 hs0)
    | gi_in)
  go_frame
  gi_loopw [3] (fun _ wr => ∃ (left : Lit → Bool) (cnt : Nat) (ss : List PW), wr.ranges Tryd.prog 71 (plainElem Tryd.prog 3) b W.heap.size nn D0 left cnt ∧ ss.length + cnt ≤ Maps.size D0 ∧ CollP D0 left ss ∧ J ss wr)
    (fun _ wr => wr.rangeLeft b W.heap.size)
  case atStart =>
    exact ⟨_, _, [], hrg0, by simp, collP_start D0, hJ [] W w0 none h0 hg0 (fun r e => by cases e)⟩
  case round =>
    obtain ⟨left, cnt, ss, hrg, hcs, hC, hJs⟩ := hrel
    gi_wp2_with (first
      | (gi_at_next; refine wpListIn_next_ranges _ rfl _ rfl 71 keyedP (plainElem Tryd.prog 3) (fun x : Int × Int => .agg #[.int .i64 x.1, .int .i64 x.2]) id (fun key kl hk => by obtain ⟨x, _, _, hx, _⟩ := keyP_inv hk; exact ⟨x, hx⟩) (fun v _ _ => ⟨v, rfl⟩) b W.heap.size nn _ _ _ rfl hrg ?_ ?_)
      | gi_in)
    · intro hc0 hl0
      gi_wp2
      go_end0
      exact ⟨⟨_, rfl⟩, .inl ⟨ss, ⟨hC.1, fun x => by rw [hC.2 x, hl0]; simp⟩, hJs⟩⟩
    · intro x0 x1 c kl yd yp w2 cnt2 hkey hlk hv hat hrg2 hlt hg2 hs2 hen
      obtain ⟨x', hx1, hx2, ex, rfl⟩ := keyP_inv hkey
      obtain rfl : x' = (x0, x1) := by
        obtain ⟨a', b'⟩ := x'
        simp [pairV] at ex
        rw [ex.1, ex.2]
      have hC2 := CollP.step (x := ⟨(x0, x1), hx1, hx2⟩) hC hlk hat
      have hJ2 : J ss w2 := hJ ss wr w2 (some W.heap.size) hJs hg2 (fun r e => by cases e; exact ⟨Nat.le_refl _, hrg.iter_walk⟩)
      have hJ3 : J ss (w2.alloc (.cells #[.int .i64 x0, .int .i64 x1] 71)) := hJ ss w2 _ none hJ2 (World.grownBy_alloc _ _ _) (fun r e => by cases e)
      have hrg3 := hrg2.alloc (.cells #[.int .i64 x0, .int .i64 x1] 71)
      obtain ⟨fn, tmps, assign, body, hy, hR⟩ := hY ss ⟨(x0, x1), hx1, hx2⟩ _ hJ3 (by omega)
      dsimp only at hen hy hC2
      clear hs2 ex hkey hv hat hlk
      gi_wp2
      refine hR.mono ?_
      rintro e W3 (⟨rfl, hJ3, hk3⟩ | ⟨rfl, hJx3⟩)
      · gi_wp2
        have hrg4 := hrg3.of_walks hk3
        go_roundw
        case rel => exact ⟨_, cnt2, ss ++ [⟨(x0, x1), hx1, hx2⟩], hrg4, by simp; omega, hC2, hJ3⟩
        case measure => rw [hrg4.left_eq, hrg.left_eq]; exact hlt
      · gi_wp2
        refine bodyPost_ret (results_none rfl _ _ _) rfl ?_
        exact ⟨⟨_, rfl⟩, .inr ⟨ss ++ [⟨(x0, x1), hx1, hx2⟩], trivial, hJx3⟩⟩
end Go.Proofs.YtndhhgpmpnmljaaDoor
