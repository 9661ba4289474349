/- The texts EncP RdU DecM RdN, one behind the other. -/
import Derived.Test.YtcdjponbhpchbaaGreatDoorBq2
import Derived.Test.YtcdjponbhpchbaaGreatDoorBq8
import Derived.Laws.BitsAllLaws
namespace Go.Proofs.YtcdjponbhpchbaaGreatDoor
open Go Go.RowKit

/-- The code of a matrix. -/
def encGo (m : Mx) : Int → List Nat → List UInt8
  | _, [] => []
  | last, i :: r => putU ((i : Int) - last).toNat ++ (putU (m.cs.getD i 0).toNat ++ encGo m i r)
def Mx.enc (m : Mx) : List UInt8 := putU m.n ++ (putU m.d.toNat ++ (putU m.idx.length ++ encGo m (-1) m.idx))
theorem Mx.idx_len {m : Mx} (h : m.OK) : m.idx.length ≤ 4096 := by have := Mx.pairs_len h; unfold Mx.pairs at this; rwa [List.length_map] at this
theorem Mx.idx_get {m : Mx} (h : m.OK) {k i : Nat} (hi : m.idx[k]? = some i) : i < m.n * m.n ∧ m.pairs[k]? = some (pairAt m.n i) ∧ 0 ≤ m.cs.getD i 0 ∧ m.cs.getD i 0 ≤ 30000 ∧ m.cost (pairAt m.n i) = m.cs.getD i 0 := by
  have hm := Mx.mem_idx.1 (List.mem_of_getElem? hi)
  obtain ⟨h1, h2⟩ := pairAt_in hm.1
  have h3 : m.cost (pairAt m.n i) = m.cs.getD i 0 := by unfold Mx.cost; rw [if_pos h1, h2]
  have h4 := Mx.cost_ok h (pairAt m.n i)
  rw [h3] at h4
  exact ⟨hm.1, by unfold Mx.pairs; rw [List.getElem?_map, hi]; rfl, h4.1, h4.2, h3⟩
theorem Mx.idx_up {m : Mx} : m.idx.Pairwise (· < ·) := List.Pairwise.filter _ List.pairwise_lt_range
theorem int_u64 {n : Int} (h : 0 ≤ n) (h2 : n ≤ 1048576) : n = ((n.toNat : Nat) : Int) := by omega

/-- The last place of a list. -/
def lastI : Int → List Nat → Int
  | s, [] => s
  | _, i :: r => lastI i r
theorem lastI_snoc : ∀ (l : List Nat) (s : Int) (i : Nat), lastI s (l ++ [i]) = i
  | [], _, _ => rfl
  | a :: l, _, i => by rw [List.cons_append]; exact lastI_snoc l a i
theorem encGo_snoc (m : Mx) : ∀ (l : List Nat) (s : Int) (i : Nat), encGo m s (l ++ [i]) = encGo m s l ++ (putU ((i : Int) - lastI s l).toNat ++ putU (m.cs.getD i 0).toNat)
  | [], s, i => by simp [encGo, lastI]
  | a :: l, s, i => by
    rw [List.cons_append]
    show putU _ ++ (putU _ ++ encGo m a (l ++ [i])) = (putU _ ++ (putU _ ++ encGo m a l)) ++ _
    rw [encGo_snoc m l a i]
    simp [lastI]
/-- The places below k whose cost is not the default cost. -/
def Mx.idxTo (m : Mx) (k : Nat) : List Nat := (List.range k).filter fun i => decide (m.cs.getD i 0 ≠ m.d)
theorem idxTo_hit {m : Mx} {k : Nat} (h : m.cs.getD k 0 ≠ m.d) : m.idxTo (k + 1) = m.idxTo k ++ [k] := by
  unfold Mx.idxTo
  rw [List.range_succ, List.filter_append]
  rw [List.getD_eq_getElem?_getD] at h
  simp [h]
theorem idxTo_miss {m : Mx} {k : Nat} (h : m.cs.getD k 0 = m.d) : m.idxTo (k + 1) = m.idxTo k := by
  unfold Mx.idxTo
  rw [List.range_succ, List.filter_append]
  rw [List.getD_eq_getElem?_getD] at h
  simp [h]
theorem idxTo_full {m : Mx} (h : m.OK) : m.idxTo m.cs.length = m.idx := by unfold Mx.idxTo Mx.idx; rw [h.len]
theorem idxTo_len (m : Mx) (k : Nat) : (m.idxTo k).length ≤ k := by
  unfold Mx.idxTo
  have := List.length_filter_le (fun i => decide (m.cs.getD i 0 ≠ m.d)) (List.range k)
  rwa [List.length_range] at this
/-- What the reference's Encode has gathered below place k. -/
structure EncInv (m : Mx) (k n : Nat) (L : Int) (acc : List UInt8) : Prop where
  num : n = (m.idxTo k).length
  last : L = lastI (-1) (m.idxTo k)
  lo : -1 ≤ L
  hi : L < k
  len : acc.length ≤ 20 * k
  acc : acc = encGo m (-1) (m.idxTo k)
theorem EncInv.start (m : Mx) : EncInv m 0 0 (-1) [] := ⟨rfl, rfl, by omega, by omega, by simp, rfl⟩
theorem EncInv.hit {m : Mx} {k n : Nat} {L : Int} {acc : List UInt8} (h : EncInv m k n L acc) {c : Int} (hc : m.cs[k]? = some c) (hd : c ≠ m.d) :
    EncInv m (k + 1) (n + 1) k ((acc ++ putU ((k : Int) - L).toNat) ++ putU c.toNat) := by
  have hg : m.cs.getD k 0 = c := by simp [List.getD, hc]
  have hx : m.idxTo (k + 1) = m.idxTo k ++ [k] := idxTo_hit (by rw [hg]; exact hd)
  have h1 := h.num
  have h2 := h.len
  have h3 := putU_len ((k : Int) - L).toNat
  have h4 := putU_len c.toNat
  refine ⟨by rw [hx]; simp; omega, by rw [hx, lastI_snoc], by omega, by omega, ?_, ?_⟩
  · simp only [List.length_append]; omega
  · rw [hx, encGo_snoc, ← h.acc, ← h.last, hg]; simp
theorem EncInv.miss {m : Mx} {k n : Nat} {L : Int} {acc : List UInt8} (h : EncInv m k n L acc) {c : Int} (hc : m.cs[k]? = some c) (hd : c = m.d) : EncInv m (k + 1) n L acc := by
  have hg : m.cs.getD k 0 = c := by simp [List.getD, hc]
  have hx : m.idxTo (k + 1) = m.idxTo k := idxTo_miss (by rw [hg]; exact hd)
  have h2 := h.len
  have h3 := h.hi
  exact ⟨by rw [hx]; exact h.num, by rw [hx]; exact h.last, h.lo, by omega, by omega, by rw [hx]; exact h.acc⟩
theorem EncInv.fin {m : Mx} {n : Nat} {L : Int} {acc : List UInt8} (h : EncInv m m.cs.length n L acc) (hok : m.OK) (d : Nat) (hd : m.d = d) : m.enc = ((putU m.n ++ putU d) ++ putU n) ++ acc := by
  have h1 := h.num
  have h2 := h.acc
  rw [idxTo_full hok] at h1 h2
  unfold Mx.enc
  rw [h1, h2, hd]
  simp
theorem EncInv.num_le {m : Mx} {k n : Nat} {L : Int} {acc : List UInt8} (h : EncInv m k n L acc) : n ≤ k := by rw [h.num]; exact idxTo_len m k
end Go.Proofs.YtcdjponbhpchbaaGreatDoor
namespace Go.Proofs.YtcdjponbhpchbaaGreatDoor
open Go Go.RowKit

theorem putU_big2 {n : Nat} (h : 128 ≤ n) (hn : n < 18446744073709551616) : putU n = UInt8.ofNat (n % 128 + 128) :: putU (n / 128) := by
  have h1 : putU n = UInt8.ofNat (n % 128 + 128) :: putUF 9 (n / 128) := by
    show (if n < 128 then [UInt8.ofNat n] else UInt8.ofNat (n % 128 + 128) :: putUF 9 (n / 128)) = _
    rw [if_neg (by omega)]
  have h2 : n / 128 < 128 ^ 9 := by
    have : (128 : Nat) ^ 9 = 9223372036854775808 := by decide
    omega
  rw [h1]
  unfold putU
  rw [putUF_fuel 9 10 (n / 128) h2 (by omega) (by omega)]
theorem putU_ne (n : Nat) : putU n ≠ [] := by
  unfold putU putUF
  split <;> simp
/-- Reading a number: s is the shift, acc what has been read. -/
def rdGo : List UInt8 → Nat → Nat → Option (Nat × Nat)
  | [], _, _ => none
  | c :: r, s, acc =>
    if (s = 63 ∧ 1 < c.toNat) ∨ (0 < s ∧ c.toNat = 0) then none
    else if c.toNat < 128 then some (acc + c.toNat * 2 ^ s, 1)
    else (rdGo r (s + 7) (acc + (c.toNat % 128) * 2 ^ s)).map fun x => (x.1, x.2 + 1)
def rdU (l : List UInt8) : Option (Nat × Nat) := rdGo l 0 0
theorem rdGo_iff : ∀ (l : List UInt8) (j acc v k : Nat), j ≤ 9 → (rdGo l (7 * j) acc = some (v, k) ↔
    ∃ n r, n < 2 ^ (64 - 7 * j) ∧ (0 < j → 0 < n) ∧ v = acc + n * 2 ^ (7 * j) ∧ l = putU n ++ r ∧ k = (putU n).length)
  | [], j, acc, v, k, hj => by
    constructor
    · intro h; cases h
    · rintro ⟨n, r, _, _, _, h, _⟩
      have := congrArg List.length h
      have h2 := putU_ne n
      cases hp : putU n with
      | nil => exact absurd hp h2
      | cons a b => rw [hp] at this; simp at this
  | c :: r, j, acc, v, k, hj => by
    have hc := c.toNat_lt
    have h64 : (2 : Nat) ^ 64 = 18446744073709551616 := by decide
    have head : ∀ n r', n < 2 ^ (64 - 7 * j) → c :: r = putU n ++ r' → (n < 128 → c.toNat = n ∧ r = r') ∧ (128 ≤ n → c.toNat = n % 128 + 128 ∧ r = putU (n / 128) ++ r') := by
      intro n r' hn e
      have hn64 : n < 18446744073709551616 := by
        have : (2 : Nat) ^ (64 - 7 * j) ≤ 2 ^ 64 := Nat.pow_le_pow_right (by decide) (by omega)
        omega
      constructor
      · intro h
        rw [putU_small h] at e
        simp only [List.cons_append, List.nil_append, List.cons.injEq] at e
        refine ⟨?_, e.2⟩
        rw [e.1, UInt8.toNat_ofNat']
        omega
      · intro h
        rw [putU_big2 h hn64] at e
        simp only [List.cons_append, List.cons.injEq] at e
        refine ⟨?_, e.2⟩
        rw [e.1, UInt8.toNat_ofNat']
        omega
    show (if (7 * j = 63 ∧ 1 < c.toNat) ∨ (0 < 7 * j ∧ c.toNat = 0) then none
      else if c.toNat < 128 then some (acc + c.toNat * 2 ^ (7 * j), 1)
      else (rdGo r (7 * j + 7) (acc + (c.toNat % 128) * 2 ^ (7 * j))).map fun x => (x.1, x.2 + 1)) = some (v, k) ↔ _
    by_cases hb : (7 * j = 63 ∧ 1 < c.toNat) ∨ (0 < 7 * j ∧ c.toNat = 0)
    · rw [if_pos hb]
      constructor
      · intro h; cases h
      · rintro ⟨n, r', hn, hpos, _, e, _⟩
        obtain ⟨h1, h2⟩ := head n r' hn e
        exfalso
        rcases hb with ⟨hb1, hb2⟩ | ⟨hb1, hb2⟩
        · obtain rfl : j = 9 := by omega
          have hn2 : n < 2 := by simpa using hn
          have := (h1 (by omega)).1
          omega
        · have hp := hpos (by omega)
          rcases Nat.lt_or_ge n 128 with h | h
          · have := (h1 h).1; omega
          · have := (h2 h).1; omega
    · rw [if_neg hb]
      by_cases hs : c.toNat < 128
      · rw [if_pos hs]
        constructor
        · intro h
          simp only [Option.some.injEq, Prod.mk.injEq] at h
          refine ⟨c.toNat, r, ?_, fun _ => by omega, h.1.symm, ?_, ?_⟩
          · by_cases h9 : j = 9
            · subst h9
              have : ¬ 1 < c.toNat := fun h => hb (Or.inl ⟨rfl, h⟩)
              show c.toNat < 2
              omega
            · have : (2 : Nat) ^ 8 ≤ 2 ^ (64 - 7 * j) := Nat.pow_le_pow_right (by decide) (by omega)
              have h8 : (2 : Nat) ^ 8 = 256 := by decide
              omega
          · rw [putU_small hs]; simp
          · rw [putU_small hs]; simp; omega
        · rintro ⟨n, r', hn, hpos, hv, e, hk⟩
          obtain ⟨h1, h2⟩ := head n r' hn e
          have hn128 : n < 128 := by
            rcases Nat.lt_or_ge n 128 with h | h
            · exact h
            · have := (h2 h).1; omega
          rw [(h1 hn128).1, hv, hk, putU_small hn128]
          rfl
      · rw [if_neg hs]
        have hj8 : j ≤ 8 := by
          rcases Nat.lt_or_ge j 9 with h | h
          · omega
          · exact absurd (Or.inl ⟨by omega, by omega⟩) hb
        have hpow : (2 : Nat) ^ (7 * (j + 1)) = 128 * 2 ^ (7 * j) := by rw [Nat.mul_add, Nat.pow_add, Nat.mul_comm]
        have hlim : (2 : Nat) ^ (64 - 7 * j) = 128 * 2 ^ (64 - 7 * (j + 1)) := by
          rw [show 64 - 7 * j = 7 + (64 - 7 * (j + 1)) by omega, Nat.pow_add]
        have IH := rdGo_iff r (j + 1) (acc + (c.toNat % 128) * 2 ^ (7 * j))
        rw [show 7 * (j + 1) = 7 * j + 7 by omega] at IH
        constructor
        · intro h
          cases hr : rdGo r (7 * j + 7) (acc + (c.toNat % 128) * 2 ^ (7 * j)) with
          | none => rw [hr] at h; cases h
          | some x =>
            obtain ⟨v', k'⟩ := x
            rw [hr] at h
            simp only [Option.map_some, Option.some.injEq, Prod.mk.injEq] at h
            obtain ⟨rfl, rfl⟩ := h
            obtain ⟨n', r', hn', hpos', hv', hl', hk'⟩ := (IH v' k' (by omega)).1 hr
            have hp' := hpos' (by omega)
            rw [show 7 * j + 7 = 7 * (j + 1) by omega] at hv' hn'
            have hbig : 128 ≤ n' * 128 + c.toNat % 128 := by omega
            have hn : n' * 128 + c.toNat % 128 < 2 ^ (64 - 7 * j) := by rw [hlim]; omega
            have hn64 : n' * 128 + c.toNat % 128 < 18446744073709551616 := by
              have : (2 : Nat) ^ (64 - 7 * j) ≤ 2 ^ 64 := Nat.pow_le_pow_right (by decide) (by omega)
              omega
            have hput : putU (n' * 128 + c.toNat % 128) = c :: putU n' := by
              rw [putU_big2 hbig hn64]
              have e1 : (n' * 128 + c.toNat % 128) / 128 = n' := by omega
              have e2 : (n' * 128 + c.toNat % 128) % 128 + 128 = c.toNat := by omega
              rw [e1, e2]; simp
            refine ⟨n' * 128 + c.toNat % 128, r', hn, fun _ => by omega, ?_, ?_, ?_⟩
            · rw [hv', hpow, Nat.add_mul, Nat.mul_assoc]; omega
            · rw [hput, hl']; simp
            · rw [hput, hk']; simp
        · rintro ⟨n, r', hn, hpos, hv, e, hk⟩
          obtain ⟨h1, h2⟩ := head n r' hn e
          have hn128 : 128 ≤ n := by
            rcases Nat.lt_or_ge n 128 with h | h
            · have := (h1 h).1; omega
            · exact h
          obtain ⟨g1, g2⟩ := h2 hn128
          have hn64 : n < 18446744073709551616 := by
            have : (2 : Nat) ^ (64 - 7 * j) ≤ 2 ^ 64 := Nat.pow_le_pow_right (by decide) (by omega)
            omega
          have hr := (IH v (putU (n / 128)).length (by omega)).2 ⟨n / 128, r', by rw [show 7 * j + 7 = 7 * (j + 1) by omega]; rw [hlim] at hn; omega, fun _ => by omega, by
            rw [show 7 * j + 7 = 7 * (j + 1) by omega, hpow, hv, ← Nat.mul_assoc, show c.toNat % 128 = n % 128 by omega]
            have := Nat.div_add_mod n 128
            have h3 : n * 2 ^ (7 * j) = (n / 128 * 128 + n % 128) * 2 ^ (7 * j) := by rw [Nat.mul_comm (n / 128) 128, this]
            rw [h3, Nat.add_mul]; omega, g2, rfl⟩
          rw [hr, hk, putU_big2 hn128 hn64]
          simp
theorem rdU_iff {l : List UInt8} {v k : Nat} : rdU l = some (v, k) ↔ ∃ r, v < 18446744073709551616 ∧ l = putU v ++ r ∧ k = (putU v).length := by
  have h := rdGo_iff l 0 0 v k (by omega)
  unfold rdU
  rw [show (0 : Nat) = 7 * 0 from rfl]
  rw [show (7 * 0 : Nat) = 0 from rfl] at h
  rw [show (7 * 0 : Nat) = 0 from rfl, h]
  constructor
  · rintro ⟨n, r, hn, _, hv, hl, hk⟩
    obtain rfl : v = n := by simpa using hv
    exact ⟨r, by simpa using hn, hl, hk⟩
  · rintro ⟨r, hv, hl, hk⟩
    exact ⟨v, r, by simpa using hv, by omega, by simp, hl, hk⟩
theorem rdU_put {v : Nat} (h : v < 18446744073709551616) (r : List UInt8) : rdU (putU v ++ r) = some (v, (putU v).length) := rdU_iff.2 ⟨r, h, rfl, rfl⟩
theorem putU_inj {a b : Nat} (ha : a < 18446744073709551616) (hb : b < 18446744073709551616) {r r' : List UInt8} (h : putU a ++ r = putU b ++ r') : a = b ∧ r = r' := by
  have h1 := rdU_put ha r
  rw [h, rdU_put hb r'] at h1
  simp only [Option.some.injEq, Prod.mk.injEq] at h1
  obtain rfl := h1.1
  exact ⟨rfl, List.append_cancel_left h⟩
end Go.Proofs.YtcdjponbhpchbaaGreatDoor
namespace Go.Proofs.YtcdjponbhpchbaaGreatDoor
open Go Go.RowKit

def rdNum (b : List UInt8) (k : Nat) : Option (Nat × Nat) :=
  match rdU (b.drop k) with
  | some (v, n) => if v ≤ 1048576 then some (v, k + n) else none
  | none => none
/-- One call of next: the number, and the state behind it (the place, and whether something was bad). -/
def nxt (b : List UInt8) (s : Nat × Bool) : Nat × Nat × Bool :=
  match rdNum b s.1 with
  | some (v, e) => (v, e, s.2)
  | none => (0, s.1, true)
def decLoop (b : List UInt8) : Nat → Mx → Nat → Nat × Bool → Option Mx
  | 0, m, _, s => if s.1 = b.length then some m else none
  | k + 1, m, j, s =>
    if (nxt b (nxt b s).2).2.2 = true ∨ (nxt b s).1 = 0 ∨ ((nxt b (nxt b s).2).1 : Int) = m.d ∨ m.n * m.n ≤ j + (nxt b s).1 - 1 ∨ isC ((nxt b (nxt b s).2).1 : Int) = false then none
    else decLoop b k (m.set (pairAt m.n (j + (nxt b s).1 - 1)) (nxt b (nxt b s).2).1) (j + (nxt b s).1) (nxt b (nxt b s).2).2
def hdN (b : List UInt8) : Nat × Nat × Bool := nxt b (0, false)
def hdD (b : List UInt8) : Nat × Nat × Bool := nxt b (hdN b).2
def hdQ (b : List UInt8) : Nat × Nat × Bool := nxt b (hdD b).2
/-- What bytes are the code of. -/
def decM (b : List UInt8) : Option Mx :=
  if newB (hdN b).1 (hdD b).1 = true ∧ (hdQ b).2.2 = false then decLoop b (hdQ b).1 (newM (hdN b).1 (hdD b).1) 0 (hdQ b).2 else none
theorem nxt_true (b : List UInt8) (k : Nat) : (nxt b (k, true)).2.2 = true := by
  unfold nxt
  split <;> rfl
theorem nxt_false {b : List UInt8} {s : Nat × Bool} (h : (nxt b s).2.2 = false) : s.2 = false := by
  obtain ⟨k, t⟩ := s
  cases t with
  | false => rfl
  | true => rw [nxt_true] at h; cases h
theorem nxt_ok {b : List UInt8} {k : Nat} (h : (nxt b (k, false)).2.2 = false) : (nxt b (k, false)).1 ≤ 1048576 ∧ (nxt b (k, false)).2 = (k + (putU (nxt b (k, false)).1).length, false) ∧ b.drop k = putU (nxt b (k, false)).1 ++ b.drop (nxt b (k, false)).2.1 := by
  unfold nxt at h ⊢
  cases hn : rdNum b k with
  | none => simp only at h; rw [hn] at h; cases h
  | some x =>
    obtain ⟨v, e⟩ := x
    simp only
    unfold rdNum at hn
    cases hr : rdU (b.drop k) with
    | none => rw [hr] at hn; cases hn
    | some y =>
      obtain ⟨v', n⟩ := y
      rw [hr] at hn
      simp only at hn
      by_cases hle : v' ≤ 1048576
      · rw [if_pos hle] at hn
        simp only [Option.some.injEq, Prod.mk.injEq] at hn
        obtain ⟨rfl, rfl⟩ := hn
        obtain ⟨r, h1, h2, h3⟩ := rdU_iff.1 hr
        refine ⟨hle, by rw [h3], ?_⟩
        rw [← List.drop_drop, h2, h3, List.drop_left]
      · rw [if_neg hle] at hn; cases hn
theorem nxt_put {b : List UInt8} {k v : Nat} {r : List UInt8} (h : b.drop k = putU v ++ r) (hv : v ≤ 1048576) : nxt b (k, false) = (v, k + (putU v).length, false) ∧ b.drop (k + (putU v).length) = r := by
  have hn : rdNum b k = some (v, k + (putU v).length) := by
    unfold rdNum
    rw [h, rdU_put (by omega)]
    simp only
    rw [if_pos hv]
  refine ⟨by unfold nxt; simp only [hn], ?_⟩
  rw [← List.drop_drop, h, List.drop_left]
theorem Mx.set_at {m : Mx} {i : Nat} (hi : i < m.n * m.n) (c : Int) : (m.set (pairAt m.n i) c).cs = m.cs.set i c := by
  show m.cs.set (at2 m.n (pairAt m.n i)) c = _
  rw [(pairAt_in hi).2]
theorem set_getD {l : List Int} {i j : Nat} {c : Int} (hi : i < l.length) : (l.set i c).getD j 0 = if j = i then c else l.getD j 0 := by
  rw [List.getD_eq_getElem?_getD, List.getD_eq_getElem?_getD, List.getElem?_set]
  by_cases h : i = j
  · subst h; simp [hi]
  · rw [if_neg h, if_neg (fun e => h e.symm)]
theorem idx_set {m : Mx} (hm : m.OK) {i : Nat} {c : Int} (hi : i < m.n * m.n) (hc : c ≠ m.d) (hlo : ∀ a ∈ m.idx, a < i) : (m.set (pairAt m.n i) c).idx = m.idx ++ [i] := by
  have hl := hm.len
  refine pw_unique (lt := (· < ·)) (fun a => Nat.lt_irrefl a) (fun h1 h2 => Nat.lt_trans h1 h2) Mx.idx_up ?_ fun y => ?_
  · rw [List.pairwise_append]
    exact ⟨Mx.idx_up, List.pairwise_singleton _ _, fun a ha b hb => by rw [List.mem_singleton.1 hb]; exact hlo a ha⟩
  · rw [Mx.mem_idx, Mx.set_at hi, set_getD (by omega), List.mem_append, List.mem_singleton, Mx.mem_idx]
    show y < m.n * m.n ∧ _ ≠ m.d ↔ _
    by_cases h : y = i
    · rw [if_pos h]; subst h; exact ⟨fun _ => Or.inr rfl, fun _ => ⟨hi, hc⟩⟩
    · rw [if_neg h]; exact ⟨fun g => Or.inl g, fun g => g.resolve_right h⟩
theorem setB_at {m : Mx} {i : Nat} {c : Int} (hi : i < m.n * m.n) (hc : isC c = true) : m.setB (pairAt m.n i) c = true := by
  unfold Mx.setB
  rw [(pairAt_in hi).1, hc]; rfl
theorem decLoop_sound (b : List UInt8) : ∀ (k : Nat) (m : Mx) (j q : Nat) (M : Mx), q ≤ b.length → decLoop b k m j (q, false) = some M → m.OK → (∀ i ∈ m.idx, i < j) →
    M.OK ∧ M.n = m.n ∧ M.d = m.d ∧ ∃ L, M.idx = m.idx ++ L ∧ L.length = k ∧ b.drop q = encGo M ((j : Int) - 1) L ∧ ∀ i < j, M.cs.getD i 0 = m.cs.getD i 0
  | 0, m, j, q, M, _, h, hm, _ => by
    simp only [decLoop] at h
    by_cases hq : q = b.length
    · rw [if_pos hq] at h
      obtain rfl := Option.some.inj h
      exact ⟨hm, rfl, rfl, [], by simp, rfl, by rw [hq, List.drop_length]; rfl, fun _ _ => rfl⟩
    · rw [if_neg hq] at h; cases h
  | k + 1, m, j, q, M, hqb, h, hm, hlo => by
    simp only [decLoop] at h
    split at h
    · cases h
    · rename_i hc
      simp only [not_or, Bool.not_eq_true] at hc
      obtain ⟨h1, h2, h3, h4, h5⟩ := hc
      have hb1 : (nxt b (q, false)).2.2 = false := nxt_false h1
      obtain ⟨x1, x2, x3⟩ := nxt_ok hb1
      generalize nxt b (q, false) = X at *
      obtain ⟨x, e, t⟩ := X
      simp only [Prod.mk.injEq] at x1 x2 x3 h1 h2 h3 h4 h5 hb1 h
      obtain ⟨rfl, rfl⟩ := x2
      obtain ⟨y1, y2, y3⟩ := nxt_ok h1
      generalize nxt b (q + (putU x).length, false) = Y at *
      obtain ⟨c, e, t⟩ := Y
      simp only [Prod.mk.injEq] at y1 y2 y3 h1 h2 h3 h4 h5 h
      obtain ⟨rfl, rfl⟩ := y2
      have hI : j + x - 1 < m.n * m.n := by omega
      have hisC : isC (c : Int) = true := by cases hh : isC (c : Int) with
        | true => rfl
        | false => exact absurd hh h5
      have hset := setB_at hI hisC
      have hidx := idx_set hm hI h3 (fun a ha => by have := hlo a ha; omega)
      have hql : q + (putU x).length + (putU c).length ≤ b.length := by
        have e1 := congrArg List.length x3
        have e2 := congrArg List.length y3
        simp only [List.length_append, List.length_drop] at e1 e2
        have := List.length_pos_iff.2 (putU_ne x)
        have := List.length_pos_iff.2 (putU_ne c)
        omega
      obtain ⟨r1, r2, r3, L, r4, r5, r6, r7⟩ := decLoop_sound b k _ _ _ M hql h (hm.set hset) (fun i hi => by
        rw [hidx] at hi
        rcases List.mem_append.1 hi with hi | hi
        · have := hlo i hi; omega
        · rw [List.mem_singleton.1 hi]; omega)
      have hl := hm.len
      refine ⟨r1, r2, r3, (j + x - 1) :: L, by rw [r4, hidx]; simp, by simp [r5], ?_, fun i hi => ?_⟩
      · show _ = putU _ ++ (putU _ ++ encGo M _ L)
        rw [x3, y3, r6]
        have g1 : (((j + x - 1 : Nat) : Int) - ((j : Int) - 1)).toNat = x := by omega
        have g2 : M.cs.getD (j + x - 1) 0 = c := by
          rw [r7 _ (by omega), Mx.set_at hI, set_getD (by omega), if_pos rfl]
        have g3 : ((j + x : Nat) : Int) - 1 = ((j + x - 1 : Nat) : Int) := by omega
        rw [g1, g2, g3]
        rfl
      · rw [r7 i (by omega), Mx.set_at hI, set_getD (by omega), if_neg (by omega)]
/-- A matrix whose costs from place j on are the default cost. -/
def cutM (M : Mx) (j : Nat) : Mx := ⟨M.n, M.d, (List.range (M.n * M.n)).map fun i => if i < j then M.cs.getD i 0 else M.d⟩
theorem cutM_eq {M : Mx} (hM : M.OK) {j : Nat} (h : ∀ i, j ≤ i → i < M.n * M.n → M.cs.getD i 0 = M.d) : cutM M j = M := by
  obtain ⟨n, d, cs⟩ := M
  have hl : cs.length = n * n := hM.len
  show Mx.mk n d _ = _
  congr 1
  apply List.ext_getElem?
  intro i
  rw [List.getElem?_map]
  by_cases hi : i < n * n
  · rw [List.getElem?_range hi, Option.map_some]
    have hg : cs[i]? = some (cs.getD i 0) := by
      rw [List.getD_eq_getElem?_getD, List.getElem?_eq_getElem (by omega)]; rfl
    rw [hg]
    show some (if i < j then cs.getD i 0 else d) = _
    by_cases hj : i < j
    · rw [if_pos hj]
    · rw [if_neg hj]; exact congrArg some (h i (by omega) hi).symm
  · rw [List.getElem?_eq_none (by simp; omega), List.getElem?_eq_none (by omega)]; rfl
theorem cutM_zero {M : Mx} : cutM M 0 = newM M.n M.d := by
  unfold cutM newM
  simp only [Int.toNat_natCast, Nat.not_lt_zero, if_false, Mx.mk.injEq, true_and]
  apply List.ext_getElem?
  intro i
  rw [List.getElem?_map, List.getElem?_replicate]
  by_cases hi : i < M.n * M.n
  · rw [List.getElem?_range hi, if_pos hi]; rfl
  · rw [List.getElem?_eq_none (by simp; omega), if_neg hi]; rfl
theorem cutM_set {M : Mx} {i j : Nat} (hi : i < M.n * M.n) (hj : j ≤ i) (h : ∀ a, j ≤ a → a < i → M.cs.getD a 0 = M.d) : (cutM M j).set (pairAt M.n i) (M.cs.getD i 0) = cutM M (i + 1) := by
  have e : ((cutM M j).set (pairAt M.n i) (M.cs.getD i 0)).cs = (cutM M (i + 1)).cs := by
    have e0 : ((cutM M j).set (pairAt M.n i) (M.cs.getD i 0)).cs = (cutM M j).cs.set i (M.cs.getD i 0) := Mx.set_at (m := cutM M j) hi _
    rw [e0]
    apply List.ext_getElem?
    intro a
    show (List.set (List.map (fun i => if i < j then M.cs.getD i 0 else M.d) (List.range (M.n * M.n))) i _)[a]? = (List.map (fun a => if a < i + 1 then M.cs.getD a 0 else M.d) (List.range (M.n * M.n)))[a]?
    rw [List.getElem?_set, List.getElem?_map, List.getElem?_map, List.length_map, List.length_range]
    by_cases ha : a < M.n * M.n
    · rw [List.getElem?_range ha]
      by_cases e : i = a
      · subst e; rw [if_pos rfl, if_pos hi]; simp
      · rw [if_neg e]
        simp only [Option.map_some, Option.some.injEq]
        by_cases h1 : a < j
        · rw [if_pos h1, if_pos (by omega)]
        · rw [if_neg h1]
          by_cases h2 : a < i + 1
          · rw [if_pos h2]; exact (h a (by omega) (by omega)).symm
          · rw [if_neg h2]
    · rw [if_neg (by omega), List.getElem?_eq_none (l := List.range (M.n * M.n)) (by simp; omega)]; rfl
  show Mx.mk _ _ _ = Mx.mk _ _ _
  exact congrArg _ e
theorem idx_default {M : Mx} {i : Nat} (hi : i < M.n * M.n) (h : i ∉ M.idx) : M.cs.getD i 0 = M.d := by
  rw [Mx.mem_idx] at h
  simp only [not_and, ne_eq, Classical.not_not] at h
  exact h hi
theorem decLoop_complete (b : List UInt8) (M : Mx) (hM : M.OK) : ∀ (L A : List Nat) (j q : Nat), M.idx = A ++ L → (∀ a ∈ A, a < j) → (∀ a ∈ L, j ≤ a) → b.drop q = encGo M ((j : Int) - 1) L → q ≤ b.length →
    decLoop b L.length (cutM M j) j (q, false) = some M
  | [], A, j, q, hidx, hA, _, hd, hq => by
    have h1 : q = b.length := by
      have := congrArg List.length hd
      simp only [encGo, List.length_drop, List.length_nil] at this
      omega
    simp only [List.length_nil, decLoop]
    rw [if_pos h1, cutM_eq hM]
    intro i hij hi
    refine idx_default hi fun hm => ?_
    rw [hidx, List.append_nil] at hm
    have := hA i hm
    omega
  | i :: L, A, j, q, hidx, hA, hL, hd, hq => by
    have hmem : i ∈ M.idx := by rw [hidx]; simp
    obtain ⟨hi, hid⟩ := Mx.mem_idx.1 hmem
    have hji := hL i (List.mem_cons_self ..)
    have hup : (A ++ i :: L).Pairwise (· < ·) := by rw [← hidx]; exact Mx.idx_up
    rw [List.pairwise_append, List.pairwise_cons] at hup
    obtain ⟨_, ⟨hup2, _⟩, _⟩ := hup
    have hcost : 0 ≤ M.cs.getD i 0 ∧ M.cs.getD i 0 ≤ 30000 := by
      have hl := hM.len
      rw [List.getD_eq_getElem?_getD, List.getElem?_eq_getElem (by omega)]
      exact hM.cost _ (List.getElem_mem _)
    have hnn : M.n * M.n ≤ 4096 := Nat.mul_le_mul hM.n2 hM.n2
    have hd2 : b.drop q = putU ((i : Int) - ((j : Int) - 1)).toNat ++ (putU (M.cs.getD i 0).toNat ++ encGo M i L) := hd
    obtain ⟨x, hx⟩ : ∃ x, x = ((i : Int) - ((j : Int) - 1)).toNat := ⟨_, rfl⟩
    obtain ⟨c, hc⟩ : ∃ c, c = (M.cs.getD i 0).toNat := ⟨_, rfl⟩
    have hcc : (c : Int) = M.cs.getD i 0 := by omega
    rw [← hx, ← hc] at hd2
    obtain ⟨x1, x2⟩ := nxt_put hd2 (by omega)
    obtain ⟨y1, y2⟩ := nxt_put x2 (by omega)
    have hI : j + x - 1 = i := by omega
    show decLoop b (L.length + 1) (cutM M j) j (q, false) = some M
    simp only [decLoop]
    rw [x1]
    simp only
    rw [y1]
    simp only
    rw [hI, hcc]
    have hisC : isC (M.cs.getD i 0) = true := isC_iff.2 hcost
    rw [if_neg (by
      rintro (h | h | h | h | h)
      · cases h
      · omega
      · exact hid h
      · have h : M.n * M.n ≤ i := h
        omega
      · rw [hisC] at h; cases h)]
    have hset : (cutM M j).set (pairAt (cutM M j).n i) (M.cs.getD i 0) = cutM M (i + 1) := cutM_set hi hji fun a ha1 ha2 => by
      refine idx_default (by omega) fun hm => ?_
      rw [hidx] at hm
      rcases List.mem_append.1 hm with hm | hm
      · have := hA a hm; omega
      · rcases List.mem_cons.1 hm with rfl | hm
        · omega
        · have := hup2 a hm; omega
    rw [hset, show j + x = i + 1 by omega]
    refine decLoop_complete b M hM L (A ++ [i]) (i + 1) _ (by rw [hidx]; simp) (fun a ha => ?_) (fun a ha => hup2 a ha) (by rw [y2]; congr 1; omega) ?_
    · rcases List.mem_append.1 ha with ha | ha
      · have := hA a ha; omega
      · rw [List.mem_singleton.1 ha]; omega
    · have e1 := congrArg List.length hd2
      simp only [List.length_append, List.length_drop] at e1
      have := List.length_pos_iff.2 (putU_ne x)
      omega
theorem decM_iff {b : List UInt8} {M : Mx} : decM b = some M ↔ M.OK ∧ M.enc = b := by
  constructor
  · intro h
    unfold decM at h
    split at h
    · rename_i hc
      obtain ⟨hb, hq⟩ := hc
      have hd : (hdD b).2.2 = false := nxt_false hq
      have hn : (hdN b).2.2 = false := nxt_false hd
      unfold hdQ at hq h
      unfold hdD at hd hq hb h
      obtain ⟨a1, a2, a3⟩ := nxt_ok (b := b) (k := 0) hn
      rw [show nxt b (0, false) = hdN b from rfl] at a1 a2 a3
      generalize hdN b = X at *
      obtain ⟨x, e, t⟩ := X
      simp only [Prod.mk.injEq] at a1 a2 a3 hd hq hb h
      obtain ⟨rfl, rfl⟩ := a2
      obtain ⟨c1, c2, c3⟩ := nxt_ok hd
      generalize nxt b (0 + (putU x).length, false) = Y at *
      obtain ⟨y, e, t⟩ := Y
      simp only [Prod.mk.injEq] at c1 c2 c3 hq hb h
      obtain ⟨rfl, rfl⟩ := c2
      obtain ⟨d1, d2, d3⟩ := nxt_ok hq
      generalize nxt b (0 + (putU x).length + (putU y).length, false) = Z at *
      obtain ⟨z, e, t⟩ := Z
      simp only [Prod.mk.injEq] at d1 d2 d3 h
      obtain ⟨rfl, rfl⟩ := d2
      have hql : 0 + (putU x).length + (putU y).length + (putU z).length ≤ b.length := by
        have e1 := congrArg List.length a3
        have e2 := congrArg List.length c3
        have e3 := congrArg List.length d3
        simp only [List.length_append, List.length_drop] at e1 e2 e3
        have := List.length_pos_iff.2 (putU_ne x)
        have := List.length_pos_iff.2 (putU_ne y)
        have := List.length_pos_iff.2 (putU_ne z)
        omega
      have hidx0 : (newM (x : Int) (y : Int)).idx = [] := by
        apply List.eq_nil_iff_forall_not_mem.2
        intro i hi
        obtain ⟨h1, h2⟩ := Mx.mem_idx.1 hi
        apply h2
        simp only [newM, Int.toNat_natCast] at h1 ⊢
        rw [List.getD_eq_getElem?_getD, List.getElem?_replicate, if_pos h1]; rfl
      obtain ⟨r1, r2, r3, L, r4, r5, r6, _⟩ := decLoop_sound b z _ 0 _ M hql h (newM_ok hb) (fun i hi => by rw [hidx0] at hi; cases hi)
      rw [hidx0, List.nil_append] at r4
      refine ⟨r1, ?_⟩
      unfold Mx.enc
      rw [r2, r3, r4, r5]
      simp only [newM, Int.toNat_natCast]
      have h0 : b = b.drop 0 := rfl
      rw [h0, a3, c3, d3, r6]
      rfl
    · cases h
  · rintro ⟨hM, he⟩
    have h0 : b.drop 0 = putU M.n ++ (putU M.d.toNat ++ (putU M.idx.length ++ encGo M (-1) M.idx)) := he.symm
    have hn2 := hM.n2
    have hd1 := hM.d1
    have hd2 := hM.d2
    have hil := Mx.idx_len hM
    obtain ⟨a1, a2⟩ := nxt_put h0 (by omega)
    obtain ⟨c1, c2⟩ := nxt_put a2 (by omega)
    obtain ⟨d1, d2⟩ := nxt_put c2 (by omega)
    have e1 : hdN b = (M.n, 0 + (putU M.n).length, false) := a1
    have e2 : hdD b = (M.d.toNat, 0 + (putU M.n).length + (putU M.d.toNat).length, false) := by unfold hdD; rw [e1]; exact c1
    have e3 : hdQ b = (M.idx.length, 0 + (putU M.n).length + (putU M.d.toNat).length + (putU M.idx.length).length, false) := by unfold hdQ; rw [e2]; exact d1
    have hdd : ((M.d.toNat : Nat) : Int) = M.d := by omega
    unfold decM
    rw [e1, e2, e3]
    simp only
    rw [hdd, if_pos ⟨newB_iff.2 ⟨by have := hM.n1; omega, by omega, hd1, hd2⟩, trivial⟩, ← cutM_zero]
    refine decLoop_complete b M hM M.idx [] 0 _ rfl (fun a ha => by cases ha) (fun a _ => Nat.zero_le a) (by rw [d2]; rfl) ?_
    have := congrArg List.length he
    unfold Mx.enc at this
    simp only [List.length_append] at this
    omega
/-- The numbers of a code. -/
def numsGo (m : Mx) : Int → List Nat → List Nat
  | _, [] => []
  | last, i :: r => ((i : Int) - last).toNat :: (m.cs.getD i 0).toNat :: numsGo m i r
def Mx.nums (m : Mx) : List Nat := m.n :: m.d.toNat :: m.idx.length :: numsGo m (-1) m.idx
theorem encGo_nums (m : Mx) : ∀ (L : List Nat) (s : Int), encGo m s L = (numsGo m s L).flatMap putU
  | [], _ => rfl
  | i :: L, s => by
    show putU _ ++ (putU _ ++ encGo m i L) = _
    rw [encGo_nums m L i]
    simp [numsGo]
theorem enc_nums (m : Mx) : m.enc = m.nums.flatMap putU := by
  unfold Mx.enc Mx.nums
  rw [encGo_nums]
  simp
theorem nums_le {M : Mx} (hM : M.OK) : ∀ v ∈ M.nums, v ≤ 1000000 := by
  have hn2 := hM.n2
  have hd1 := hM.d1
  have hd2 := hM.d2
  have hil := Mx.idx_len hM
  have hnn : M.n * M.n ≤ 4096 := Nat.mul_le_mul hM.n2 hM.n2
  have key : ∀ (L : List Nat) (s : Int), -1 ≤ s → (∀ i ∈ L, i ∈ M.idx) → ∀ v ∈ numsGo M s L, v ≤ 1000000 := by
    intro L
    induction L with
    | nil => intro s _ _ v hv; cases hv
    | cons i L ih =>
      intro s hs hL v hv
      obtain ⟨hi, _⟩ := Mx.mem_idx.1 (hL i (List.mem_cons_self ..))
      have hcost : 0 ≤ M.cs.getD i 0 ∧ M.cs.getD i 0 ≤ 30000 := by
        have hl := hM.len
        rw [List.getD_eq_getElem?_getD, List.getElem?_eq_getElem (by omega)]
        exact hM.cost _ (List.getElem_mem _)
      simp only [numsGo, List.mem_cons] at hv
      rcases hv with rfl | rfl | hv
      · omega
      · omega
      · exact ih i (by omega) (fun a ha => hL a (List.mem_cons_of_mem _ ha)) v hv
  intro v hv
  simp only [Mx.nums, List.mem_cons] at hv
  rcases hv with rfl | rfl | rfl | hv
  · omega
  · omega
  · omega
  · exact key _ _ (by omega) (fun i hi => hi) v hv
theorem flat_prefix : ∀ (l l' : List Nat) (rest : List UInt8), (∀ v ∈ l, v ≤ 1000000) → (∀ v ∈ l', v ≤ 1000000) → l.flatMap putU ++ rest = l'.flatMap putU → ∃ t, l' = l ++ t ∧ rest = t.flatMap putU
  | [], l', rest, _, _, h => ⟨l', rfl, h⟩
  | a :: l, [], rest, _, _, h => by
    exfalso
    have h1 := congrArg List.length h
    simp only [List.flatMap_cons, List.flatMap_nil, List.length_append, List.length_nil] at h1
    have := List.length_pos_iff.2 (putU_ne a)
    omega
  | a :: l, a' :: l', rest, h1, h2, h => by
    rw [List.flatMap_cons, List.flatMap_cons, List.append_assoc] at h
    have ha := h1 a (List.mem_cons_self ..)
    have ha' := h2 a' (List.mem_cons_self ..)
    obtain ⟨rfl, hr⟩ := putU_inj (by omega) (by omega) h
    obtain ⟨t, ht, hrest⟩ := flat_prefix l l' rest (fun v hv => h1 v (List.mem_cons_of_mem _ hv)) (fun v hv => h2 v (List.mem_cons_of_mem _ hv)) hr
    exact ⟨t, by rw [ht]; rfl, hrest⟩
/-- The numbers that a code's beginning says are those of its matrix. -/
theorem nums_of {l : List Nat} {rest : List UInt8} (h1 : ∀ v ∈ l, v ≤ 1000000) {M : Mx} (h : decM (l.flatMap putU ++ rest) = some M) : M.OK ∧ ∃ t, M.nums = l ++ t ∧ rest = t.flatMap putU := by
  obtain ⟨hM, he⟩ := decM_iff.1 h
  rw [enc_nums] at he
  exact ⟨hM, flat_prefix l _ _ h1 (nums_le hM) he.symm⟩
theorem dec_stop {l : List Nat} {rest : List UInt8} (h1 : ∀ v ∈ l, v ≤ 1000000) (hne : rest ≠ []) (hbad : ∀ v k, rdU rest = some (v, k) → 1000000 < v) : decM (l.flatMap putU ++ rest) = none := by
  cases h : decM (l.flatMap putU ++ rest) with
  | none => rfl
  | some M =>
    exfalso
    obtain ⟨hM, t, ht, hr⟩ := nums_of h1 h
    cases t with
    | nil => exact hne hr
    | cons v t =>
      have hv : v ≤ 1000000 := nums_le hM v (by rw [ht]; simp)
      have := hbad v (putU v).length (by rw [hr, List.flatMap_cons]; exact rdU_put (by omega) _)
      omega
theorem nums_eq {l : List Nat} (h1 : ∀ v ∈ l, v ≤ 1000000) {M : Mx} (h : decM (l.flatMap putU) = some M) : M.OK ∧ M.nums = l := by
  have h2 : decM (l.flatMap putU ++ []) = some M := by rw [List.append_nil]; exact h
  obtain ⟨hM, t, ht, hr⟩ := nums_of h1 h2
  cases t with
  | nil => exact ⟨hM, by rw [ht, List.append_nil]⟩
  | cons v t =>
    exfalso
    have := congrArg List.length hr
    simp only [List.flatMap_cons, List.length_append, List.length_nil] at this
    have := List.length_pos_iff.2 (putU_ne v)
    omega
theorem dec_short {l : List Nat} (h1 : ∀ v ∈ l, v ≤ 1000000) (hl : l.length < 3) : decM (l.flatMap putU) = none := by
  cases h : decM (l.flatMap putU) with
  | none => rfl
  | some M =>
    exfalso
    obtain ⟨_, hn⟩ := nums_eq h1 h
    rw [← hn] at hl
    simp only [Mx.nums, List.length_cons] at hl
    omega
theorem dec_new {a d q : Nat} {r : List Nat} (h1 : ∀ v ∈ a :: d :: q :: r, v ≤ 1000000) (hb : newB a d = false) : decM ((a :: d :: q :: r).flatMap putU) = none := by
  cases h : decM ((a :: d :: q :: r).flatMap putU) with
  | none => rfl
  | some M =>
    exfalso
    obtain ⟨hM, hn⟩ := nums_eq h1 h
    simp only [Mx.nums, List.cons.injEq] at hn
    obtain ⟨rfl, rfl, _⟩ := hn
    have hd1 := hM.d1
    have hdd : ((M.d.toNat : Nat) : Int) = M.d := by omega
    rw [hdd, newB_iff.2 ⟨by have := hM.n1; omega, by have := hM.n2; omega, hd1, hM.d2⟩] at hb
    cases hb
/-- What the reference's loop has: every matrix with these numbers, cut behind the last place. -/
def RInv (l : List Nat) (k : Nat) (m : Mx) (i : Int) : Prop := ∀ M : Mx, M.OK → M.nums = l → ∃ A L, M.idx = A ++ L ∧ (∀ a ∈ A, (a : Int) ≤ i) ∧ (∀ a ∈ L, i < (a : Int)) ∧ m = cutM M (i + 1).toNat ∧ l.drop k = numsGo M i L
theorem RInv.start (a d q : Nat) (r : List Nat) : RInv (a :: d :: q :: r) 3 (newM a d) (-1) := by
  intro M hM hn
  simp only [Mx.nums, List.cons.injEq] at hn
  obtain ⟨rfl, rfl, rfl, rfl⟩ := hn
  have hd1 := hM.d1
  have hdd : ((M.d.toNat : Nat) : Int) = M.d := by omega
  refine ⟨[], M.idx, rfl, fun a ha => (by cases ha), fun a _ => by omega, ?_, rfl⟩
  rw [hdd]; exact cutM_zero.symm
theorem RInv.next {l : List Nat} {k : Nat} {m : Mx} {i : Int} (h : RInv l k m i) {x c : Nat} (hx : l[k]? = some x) (hc : l[k + 1]? = some c) {M : Mx} (hM : M.OK) (hn : M.nums = l) :
    ∃ q : Nat, i + x = q ∧ 0 < x ∧ q < m.n * m.n ∧ m.n = M.n ∧ isC (c : Int) = true ∧ ∃ A L, M.idx = A ++ L ∧ (∀ a ∈ A, (a : Int) ≤ i + x) ∧ (∀ a ∈ L, i + x < (a : Int)) ∧ m.set (pairAt m.n q) c = cutM M (i + x + 1).toNat ∧ l.drop (k + 2) = numsGo M (i + x) L := by
  obtain ⟨A, L, h1, h2, h3, h4, h5⟩ := h M hM hn
  have hk : k + 1 < l.length := (List.getElem?_eq_some_iff.1 hc).1
  have hd : l.drop k = x :: c :: l.drop (k + 2) := by
    rw [List.drop_eq_getElem_cons (by omega), List.drop_eq_getElem_cons (by omega)]
    obtain ⟨_, e1⟩ := List.getElem?_eq_some_iff.1 hx
    obtain ⟨_, e2⟩ := List.getElem?_eq_some_iff.1 hc
    rw [e1, e2]
  rw [hd] at h5
  cases L with
  | nil => simp [numsGo] at h5
  | cons q L =>
    simp only [numsGo, List.cons.injEq] at h5
    obtain ⟨e1, e2, e3⟩ := h5
    have hq := h3 q (List.mem_cons_self ..)
    have hmem : q ∈ M.idx := by rw [h1]; simp
    obtain ⟨hqn, hqd⟩ := Mx.mem_idx.1 hmem
    have hcost : 0 ≤ M.cs.getD q 0 ∧ M.cs.getD q 0 ≤ 30000 := by
      have hl := hM.len
      rw [List.getD_eq_getElem?_getD, List.getElem?_eq_getElem (by omega)]
      exact hM.cost _ (List.getElem_mem _)
    have hup : (A ++ q :: L).Pairwise (· < ·) := by rw [← h1]; exact Mx.idx_up
    rw [List.pairwise_append, List.pairwise_cons] at hup
    obtain ⟨_, ⟨hup2, _⟩, _⟩ := hup
    have hcc : (c : Int) = M.cs.getD q 0 := by omega
    have hmn : m.n = M.n := by rw [h4]; rfl
    have hix : i + x = q := by omega
    refine ⟨q, hix, by omega, by rw [hmn]; exact hqn, hmn, by rw [hcc]; exact isC_iff.2 hcost, A ++ [q], L, by rw [h1]; simp, fun a ha => ?_, fun a ha => by have := hup2 a ha; omega, ?_, ?_⟩
    · rcases List.mem_append.1 ha with ha | ha
      · have := h2 a ha; omega
      · rw [List.mem_singleton.1 ha]; omega
    · rw [hcc, hmn, h4]
      have e9 : (i + x + 1).toNat = q + 1 := by omega
      rw [e9]
      by_cases hi : 0 ≤ i + 1
      · refine cutM_set hqn (by omega) fun a ha1 ha2 => idx_default (by omega) fun hm => ?_
        rw [h1] at hm
        rcases List.mem_append.1 hm with hm | hm
        · have := h2 a hm; omega
        · rcases List.mem_cons.1 hm with rfl | hm
          · omega
          · have := hup2 a hm; omega
      · refine cutM_set hqn (by omega) fun a ha1 ha2 => idx_default (by omega) fun hm => ?_
        rw [h1] at hm
        rcases List.mem_append.1 hm with hm | hm
        · have := h2 a hm; omega
        · rcases List.mem_cons.1 hm with rfl | hm
          · omega
          · have := hup2 a hm; omega
    · rw [hix]; exact e3
theorem RInv.bad {l : List Nat} {k : Nat} {m : Mx} {i : Int} (h : RInv l k m i) {x c : Nat} (hx : l[k]? = some x) (hc : l[k + 1]? = some c) (h1 : ∀ v ∈ l, v ≤ 1000000)
    (hb : i + x < 0 ∨ (0 ≤ i + x ∧ m.n * m.n ≤ (i + x).toNat) ∨ isC (c : Int) = false) : decM (l.flatMap putU) = none := by
  cases hd : decM (l.flatMap putU) with
  | none => rfl
  | some M =>
    exfalso
    obtain ⟨hM, hn⟩ := nums_eq h1 hd
    obtain ⟨q, e1, _, e2, _, e3, _⟩ := h.next hx hc hM hn
    rcases hb with h | ⟨_, h⟩ | h
    · omega
    · omega
    · rw [e3] at h; cases h
theorem RInv.step {l : List Nat} {k : Nat} {m : Mx} {i : Int} (h : RInv l k m i) {x c q : Nat} (hx : l[k]? = some x) (hc : l[k + 1]? = some c) (hq : i + x = q) : RInv l (k + 2) (m.set (pairAt m.n q) c) (i + x) := by
  intro M hM hn
  obtain ⟨q', e1, _, _, _, _, A, L, g1, g2, g3, g4, g5⟩ := h.next hx hc hM hn
  obtain rfl : q = q' := by omega
  exact ⟨A, L, g1, g2, g3, g4, g5⟩
theorem RInv.fin {l : List Nat} {k : Nat} {m : Mx} {i : Int} (h : RInv l k m i) (hk : ¬ k + 1 < l.length) {M : Mx} (hM : M.OK) (hn : M.nums = l) : m = M := by
  obtain ⟨A, L, h1, h2, h3, h4, h5⟩ := h M hM hn
  cases L with
  | cons q L =>
    have := congrArg List.length h5
    simp only [numsGo, List.length_cons, List.length_drop] at this
    omega
  | nil =>
    rw [h4]
    refine cutM_eq hM fun a ha1 ha2 => idx_default ha2 fun hm => ?_
    rw [h1, List.append_nil] at hm
    have := h2 a hm
    omega
/-- The reference's answer: its matrix, if these bytes are its code. -/
theorem RInv.ans {l : List Nat} {k : Nat} {m : Mx} {i : Int} (h : RInv l k m i) (hk : ¬ k + 1 < l.length) (h1 : ∀ v ∈ l, v ≤ 1000000) (hm : m.OK) : decM (l.flatMap putU) = if m.enc = l.flatMap putU then some m else none := by
  by_cases he : m.enc = l.flatMap putU
  · rw [if_pos he]; exact decM_iff.2 ⟨hm, he⟩
  · rw [if_neg he]
    cases hd : decM (l.flatMap putU) with
    | none => rfl
    | some M =>
      exfalso
      obtain ⟨hM, hn⟩ := nums_eq h1 hd
      obtain rfl := h.fin hk hM hn
      exact he (decM_iff.1 hd).2
end Go.Proofs.YtcdjponbhpchbaaGreatDoor
namespace Go.Proofs.YtcdjponbhpchbaaGreatDoor
open Go Go.RowKit
attribute [local go_sem] quietE quietE2

theorem wrap_u64b {n : Nat} (h : n < 18446744073709551616) : IntKind.u64.wrap (n : Int) = n := by simp [IntKind.wrap, IntKind.bits, IntKind.signed]; omega
theorem upd_bits {acc c s : Nat} (h1 : acc < 2 ^ s) (h2 : s ≤ 63) (h3 : c % 128 * 2 ^ s < 18446744073709551616) (hc : c < 256) :
    bits .or .u64 (acc : Int) (IntKind.u64.wrap (IntKind.u64.wrap (bits .and .u8 (c : Int) 127) * 2 ^ s)) = ((acc + c % 128 * 2 ^ s : Nat) : Int) := by
  have e1 : bits .and .u8 (c : Int) 127 = ((c % 128 : Nat) : Int) := by
    rw [show (127 : Int) = ((127 : Nat) : Int) from rfl, u8_and_nat c 127 hc (by decide)]
    congr 1
    exact Nat.and_two_pow_sub_one_eq_mod c 7
  rw [e1, wrap_u64b (by omega), show ((c % 128 : Nat) : Int) * 2 ^ s = ((c % 128 * 2 ^ s : Nat) : Int) by push_cast; rfl, wrap_u64b h3]
  have h4 : (2 : Nat) ^ s ≤ 2 ^ 63 := Nat.pow_le_pow_right (by decide) h2
  have h5 : (2 : Nat) ^ 63 = 9223372036854775808 := by decide
  rw [u64_or_nat _ _ (by omega) h3]
  congr 1
  rw [Nat.or_comm, Nat.mul_comm, ← Nat.two_pow_add_eq_or_of_lt h1, Nat.add_comm]
/-- What failure{} is. -/
def failV : Value := .iface 132 (.agg #[])
/-- number reads a number behind its place, or panics with failure. -/
def RdNPost (R : Option (Nat × Nat)) (rb k : Nat) (w : World) (e : Ending) (w' : World) : Prop :=
  ((∃ v n, R = some (v, n) ∧ e = .returned (.int .u64 v) ∧ w'.cell? ⟨rb, 1, none⟩ = some (.int .i64 ((k + n : Nat) : Int))) ∨ (R = none ∧ e = .panicked [{ v := failV, recovered := false }])) ∧ EB rb w w'
set_option maxHeartbeats 4000000 in
set_option maxRecDepth 100000 in
theorem rdn_any (b : List UInt8) (rb k : Nat) (ba : Option Addr) (bc : Nat) (w : World) (hk : k ≤ b.length) (hb : b.length ≤ 1099511627776) (hat : AtCells w ba 1 (b.map byteC)) (hba : ∀ q : Addr, ba = some q → b ≠ [] → q.block < rb)
    (c0 : w.cell? ⟨rb, 0, none⟩ = some (.slice ba b.length bc)) (c1 : w.cell? ⟨rb, 1, none⟩ = some (.int .i64 k)) (f1 : w.frozen? ⟨rb, 1, none⟩ = false) :
    Calls Tryz.prog 63 #[.pointer (some ⟨rb, 0, none⟩)] w (RdNPost (rdU (b.drop k)) rb k w) := by
  obtain ⟨R, hR⟩ : ∃ R, R = rdU (b.drop k) := ⟨_, rfl⟩
  rw [← hR]
  have HR : Hid (R = (rdGo (b.drop (k + 0)) 0 0).map fun x => (x.1, x.2 + 0)) := by
    show R = _
    rw [hR]
    unfold rdU
    rw [Nat.add_zero]
    show rdGo (b.drop k) 0 0 = _
    cases rdGo (b.drop k) 0 0 <;> rfl
  have HAT := Lib.hid hat
  have HBA := Lib.hid hba
  clear hR hat hba
  go_enter Tryz.func63, Tryz.ntmps63
  go_wp2_with fail
  go_loopw [3, 4] (fun v s wr => ∃ S q i acc : Nat, Hid (∃ j, j ≤ 9 ∧ S = 7 * j) ∧ S ≤ 63 ∧ k + q = i ∧ i ≤ b.length ∧ v = .int .u64 acc ∧ s = .int .i64 (S : Nat) ∧ acc < 2 ^ S ∧ wr.cell? ⟨rb, 0, none⟩ = some (.slice ba b.length bc) ∧ wr.cell? ⟨rb, 1, none⟩ = some (.int .i64 (i : Int)) ∧ wr.frozen? ⟨rb, 1, none⟩ = false ∧ EB rb w wr ∧ Hid (R = (rdGo (b.drop i) S acc).map fun x => (x.1, x.2 + q))) (fun _ s _ => 64 - (intOf s).toNat)
  case atStart => exact ⟨0, 0, k, 0, ⟨0, by omega, rfl⟩, by omega, rfl, hk, rfl, rfl, by decide, c0, c1, f1, EB.refl _ _, HR.out⟩
  case round =>
    obtain ⟨S, q, i, acc, hSj, hS, hqi, hq, rfl, rfl, hacc, d0, d1, df, heb, hinv⟩ := hrel
    have z0 : ∀ x : Ext Grows wr.drew, x.u.cell? ⟨rb, 0, none⟩ = some (.slice ba b.length bc) := ext_cell ((Grows.drew wr).cell d0)
    have z1 : ∀ x : Ext Grows wr.drew, x.u.cell? ⟨rb, 1, none⟩ = some (.int .i64 (i : Int)) := ext_cell ((Grows.drew wr).cell d1)
    have hrbl : rb ≤ wr.heap.size := Nat.le_of_lt (World.block_lt_of_cell? wr _ d0)
    by_cases hend : i < b.length
    · obtain ⟨c, hc⟩ : ∃ c, b[i]? = some c := ⟨_, List.getElem?_eq_getElem hend⟩
      have hdrop : b.drop i = c :: b.drop (i + 1) := by
        rw [List.drop_eq_getElem_cons hend]
        rw [List.getElem?_eq_getElem hend] at hc
        rw [Option.some.inj hc]
      obtain ⟨bb, bo, rfl, hbc⟩ := HAT.out.get (ne_nil_of_lt hend)
      have hbb := HBA.out _ rfl (ne_nil_of_lt hend)
      simp only at hbb
      have dc : wr.cell? ⟨bb, bo + i, none⟩ = some (.int .u8 c.toNat) := by
        rw [Below.cell heb.1 (by exact hbb)]
        simpa using hbc i c hc 0 _ rfl
      have hkq : (i : Int) < b.length := by omega
      have hc256 := c.toNat_lt
      have y0 : ∀ x : Ext Grows wr.drew.drew, x.u.cell? ⟨rb, 0, none⟩ = some (.slice (some ⟨bb, bo, none⟩) b.length bc) := ext_cell ((Grows.drew wr).dr.cell d0)
      have y1 : ∀ x : Ext Grows wr.drew.drew, x.u.cell? ⟨rb, 1, none⟩ = some (.int .i64 (i : Int)) := ext_cell ((Grows.drew wr).dr.cell d1)
      have yc : ∀ x : Ext Grows wr.drew.drew, x.u.cell? ⟨bb, bo + i, none⟩ = some (.int .u8 c.toNat) := ext_cell ((Grows.drew wr).dr.cell dc)
      have hinv2 := hinv.out
      rw [hdrop] at hinv2
      have HI := Lib.hid hinv2
      clear hinv hinv2 hdrop hc hbc HR
      go_wp2_with fail
      refine t_region (Grows) [(0, false), (1, false), (2, false), (3, false), (4, false), (5, false), (6, false), (7, false), (8, false), (9, false)] Grows.refl Grows.trans (by kernel_rfl) (by kernel_rfl) (fun d _ _ _ _ h => by cases d <;> exact h) ?_
      iterate 10 (refine t_quiet rfl (fun K hK => ?_); go_simp; refine hK _ ?_; clear hK K)
      refine t_end ?_
      clear z0 z1
      go_wp2_with fail
      refine t_region (Grows) [(0, false), (1, false), (2, false), (3, false), (4, false), (5, false), (6, false), (7, false), (8, false), (9, false), (10, false)] Grows.refl Grows.trans (by kernel_rfl) (by kernel_rfl) (fun d _ _ _ _ h => by cases d <;> exact h) ?_
      iterate 11 (refine t_quiet rfl (fun K hK => ?_); go_simp; refine hK _ ?_; clear hK K)
      refine t_end ?_
      clear y0 y1 yc
      have hcell : (wr.setCell ⟨rb, 1, none⟩ (.int .i64 ((i : Int) + 1))).drew.drew.cell? ⟨rb, 1, none⟩ = some (.int .i64 ((i : Int) + 1)) := World.cell?_setCell_same _ _ _ d1
      have heb2 : EB rb w (wr.setCell ⟨rb, 1, none⟩ (.int .i64 ((i : Int) + 1))).drew.drew := EB.trans _ _ _ _ (EB.trans _ _ _ _ heb ⟨(Below.refl rb wr).setCell (p := ⟨rb, 1, none⟩) (Nat.le_refl rb) _, by simp⟩) (EB.of ((Grows.drew _).dr) (by simpa using hrbl))
      have HC2 := Lib.hid hcell
      have HE2 := Lib.hid heb2
      have HD0 : Hid ((wr.setCell ⟨rb, 1, none⟩ (.int .i64 ((i : Int) + 1))).drew.drew.cell? ⟨rb, 0, none⟩ = some (.slice (some ⟨bb, bo, none⟩) b.length bc)) := (World.cell?_setCell_other _ _ _ _ (fun e => by cases e)).trans d0
      have HDF : Hid ((wr.setCell ⟨rb, 1, none⟩ (.int .i64 ((i : Int) + 1))).drew.drew.frozen? ⟨rb, 1, none⟩ = false) := (World.frozen?_setCell _ _ _ _).trans df
      clear hcell heb2
      by_cases hbad : (S = 63 ∧ 1 < c.toNat) ∨ (0 < S ∧ c.toNat = 0)
      · have hnone : R = none := by
          rw [HI.out]
          unfold rdGo
          rw [if_pos hbad]; rfl
        subst hnone
        clear HI
        by_cases h9 : S = 63
        · have h63 : ((S : Int) == 63) = true := by rw [beq_iff_eq]; omega
          have hpos : (0 : Int) < S := by omega
          by_cases h1 : 1 < c.toNat
          · have h1i : (1 : Int) < c.toNat := by omega
            clear hbad h9
            go_wp2_with fail
            exact ⟨rfl, Or.inr ⟨rfl, rfl⟩, EB.trans _ _ _ _ heb (EB.of ((Grows.drew wr).dr) hrbl)⟩
          · have h1i : ¬ (1 : Int) < c.toNat := by omega
            have hz : (c.toNat : Int) = 0 := by omega
            clear hbad h9
            go_wp2_with fail
            exact ⟨rfl, Or.inr ⟨rfl, rfl⟩, EB.trans _ _ _ _ heb (EB.of ((Grows.drew wr).dr) hrbl)⟩
        · have h63 : ((S : Int) == 63) = false := by rw [beq_eq_false_iff_ne]; omega
          have hpos : (0 : Int) < S := by omega
          have hz : (c.toNat : Int) = 0 := by omega
          clear hbad h9
          go_wp2_with fail
          exact ⟨rfl, Or.inr ⟨rfl, rfl⟩, EB.trans _ _ _ _ heb (EB.of ((Grows.drew wr).dr) hrbl)⟩
      · have hfit : c.toNat % 128 * 2 ^ S < 18446744073709551616 := by
          by_cases h9 : S = 63
          · have : c.toNat ≤ 1 := by
              rcases Nat.lt_or_ge 1 c.toNat with h | h
              · exact absurd (Or.inl ⟨h9, h⟩) hbad
              · exact h
            have h2 : (2 : Nat) ^ S = 9223372036854775808 := by rw [h9]
            rw [h2]; omega
          · obtain ⟨j, hj, hSj2⟩ := hSj.out
            have h2 : (2 : Nat) ^ S ≤ 2 ^ 56 := Nat.pow_le_pow_right (by decide) (by omega)
            have h3 : (2 : Nat) ^ 56 = 72057594037927936 := by decide
            have h4 : c.toNat % 128 * 2 ^ S ≤ 127 * 2 ^ 56 := Nat.mul_le_mul (by omega) h2
            omega
        have hup := upd_bits hacc hS hfit hc256
        have HUP := Lib.hid hup
        have hgo := HI.out
        unfold rdGo at hgo
        rw [if_neg hbad] at hgo
        clear HI hfit
        by_cases hl : c.toNat < 128
        · rw [if_pos hl] at hgo
          have hfin : R = some (acc + c.toNat % 128 * 2 ^ S, q + 1) := by
            rw [hgo, Nat.mod_eq_of_lt hl, Nat.add_comm q 1]; rfl
          subst hfin
          clear hgo hup
          have hli : (c.toNat : Int) < 128 := by omega
          by_cases h0 : S = 0
          · have hpos : ¬ (0 : Int) < S := by omega
            have h63 : ((S : Int) == 63) = false := by rw [beq_eq_false_iff_ne]; omega
            clear hbad h0
            go_wp2_with fail
            go_ret
            exact ⟨Or.inl ⟨_, _, rfl, congrArg (fun x => Ending.returned (.int .u64 x)) HUP.out, by rw [HC2.out, ← hqi]; push_cast; rw [Int.add_assoc]⟩, HE2.out⟩
          · have hpos : (0 : Int) < S := by omega
            have hz : ¬ (c.toNat : Int) = 0 := by omega
            by_cases h9 : S = 63
            · have h63 : ((S : Int) == 63) = true := by rw [beq_iff_eq]; omega
              have h1i : ¬ (1 : Int) < c.toNat := by omega
              clear hbad h9 h0
              go_wp2_with fail
              go_ret
              exact ⟨Or.inl ⟨_, _, rfl, congrArg (fun x => Ending.returned (.int .u64 x)) HUP.out, by rw [HC2.out, ← hqi]; push_cast; rw [Int.add_assoc]⟩, HE2.out⟩
            · have h63 : ((S : Int) == 63) = false := by rw [beq_eq_false_iff_ne]; omega
              clear hbad h9 h0
              go_wp2_with fail
              go_ret
              exact ⟨Or.inl ⟨_, _, rfl, congrArg (fun x => Ending.returned (.int .u64 x)) HUP.out, by rw [HC2.out, ← hqi]; push_cast; rw [Int.add_assoc]⟩, HE2.out⟩
        · rw [if_neg hl] at hgo
          have hS9 : S ≠ 63 := fun h => hbad (Or.inl ⟨h, by omega⟩)
          have hSj2 : Hid (∃ j, j ≤ 9 ∧ S + 7 = 7 * j) := by
            obtain ⟨j, hj, e⟩ := hSj.out
            exact ⟨j + 1, by omega, by omega⟩
          have hS2 : S + 7 ≤ 63 := by
            obtain ⟨j, hj, e⟩ := hSj.out
            omega
          have hli : ¬ (c.toNat : Int) < 128 := by omega
          have h63 : ((S : Int) == 63) = false := by rw [beq_eq_false_iff_ne]; omega
          have hinv' : Hid (R = (rdGo (b.drop (i + 1)) (S + 7) (acc + c.toNat % 128 * 2 ^ S)).map fun x => (x.1, x.2 + (q + 1))) := by
            show R = _
            rw [hgo, Option.map_map]
            congr 1
            funext x
            simp only [Function.comp]
            congr 1
            omega
          have hacc' : acc + c.toNat % 128 * 2 ^ S < 2 ^ (S + 7) := by
            have h1 : (2 : Nat) ^ (S + 7) = 128 * 2 ^ S := by rw [Nat.pow_add, Nat.mul_comm]
            have h2 : (c.toNat % 128 + 1) * 2 ^ S ≤ 128 * 2 ^ S := Nat.mul_le_mul_right _ (by omega)
            rw [Nat.add_mul] at h2
            omega
          have HA := Lib.hid hacc'
          clear hacc' hgo hup
          by_cases h0 : S = 0
          · have hpos : ¬ (0 : Int) < S := by omega
            clear hbad h0 hS9
            go_wp2_with fail
            go_roundw
            case rel => exact ⟨S + 7, q + 1, i + 1, _, hSj2, hS2, by omega, hend, congrArg _ HUP.out, by first | rfl | go_num, HA.out, HD0.out, by rw [HC2.out]; rfl, HDF.out, HE2.out, hinv'.out⟩
            case measure => simp [intOf]; omega
          · have hpos : (0 : Int) < S := by omega
            have hz : ¬ (c.toNat : Int) = 0 := by omega
            clear hbad h0 hS9
            go_wp2_with fail
            go_roundw
            case rel => exact ⟨S + 7, q + 1, i + 1, _, hSj2, hS2, by omega, hend, congrArg _ HUP.out, by first | rfl | go_num, HA.out, HD0.out, by rw [HC2.out]; rfl, HDF.out, HE2.out, hinv'.out⟩
            case measure => simp [intOf]; omega
    · have hke : ¬ (i : Int) < b.length := by omega
      have hnone : R = none := by rw [hinv.out, List.drop_eq_nil_of_le (by omega)]; rfl
      subst hnone
      clear hinv HR
      go_wp2_with fail
      refine t_region (Grows) [(0, false), (1, false), (2, false), (3, false), (4, false), (5, false), (6, false), (7, false), (8, false), (9, false)] Grows.refl Grows.trans (by kernel_rfl) (by kernel_rfl) (fun d _ _ _ _ h => by cases d <;> exact h) ?_
      iterate 10 (refine t_quiet rfl (fun K hK => ?_); go_simp; refine hK _ ?_; clear hK K)
      refine t_end ?_
      clear z0 z1
      go_wp2_with fail
      exact ⟨rfl, Or.inr ⟨rfl, rfl⟩, EB.trans _ _ _ _ heb (EB.of (Grows.drew wr) hrbl)⟩
end Go.Proofs.YtcdjponbhpchbaaGreatDoor
