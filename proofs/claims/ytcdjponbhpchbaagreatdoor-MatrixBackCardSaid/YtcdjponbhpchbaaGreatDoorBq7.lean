/- The texts SplitP, one behind the other. -/
import Derived.Lib.SplitLaws
import Derived.Lib.Strings
import Derived.Lib.Join
namespace Go.Proofs.YtcdjponbhpchbaaGreatDoor
open Go

def mkB (l : List UInt8) : ByteArray := ⟨l.toArray⟩
theorem mkB_data (l : List UInt8) : (mkB l).data.toList = l := rfl
theorem mkB_of (s : ByteArray) : mkB s.data.toList = s := Lib.mk_data s
theorem mkB_inj {a b : List UInt8} (h : mkB a = mkB b) : a = b := by rw [← mkB_data a, h, mkB_data]
theorem bytes_ext {a b : ByteArray} (h : a.data.toList = b.data.toList) : a = b := by rw [← mkB_of a, h, mkB_of]

/-- The pieces of a list between the bytes c. -/
def splitL (c : UInt8) : List UInt8 → List (List UInt8)
  | [] => [[]]
  | b :: l => if b = c then [] :: splitL c l else (b :: (splitL c l).headD []) :: (splitL c l).tail
theorem splitL_ne (c : UInt8) (l : List UInt8) : splitL c l ≠ [] := by
  cases l with
  | nil => simp [splitL]
  | cons b l => unfold splitL; split <;> simp
theorem splitL_form (c : UInt8) (l : List UInt8) : ∃ x r, splitL c l = x :: r := by
  cases h : splitL c l with
  | nil => exact absurd h (splitL_ne c l)
  | cons x r => exact ⟨x, r, rfl⟩

theorem splitK_L (c : UInt8) : ∀ l : List UInt8, Lib.splitK [c] 0 (Lib.count l [c]) l = splitL c l
  | [] => by rw [Lib.count_miss (by simp [Lib.index])]; rfl
  | b :: l => by
    have ih := splitK_L c l
    by_cases h : b = c
    · subst h
      have hix : Lib.index (b :: l) [b] = ((0 : Nat) : Int) := by rw [Lib.index]; simp [List.isPrefixOf]
      rw [Lib.count_cons_eq, Nat.add_comm, Lib.splitK, hix]
      have e : (((0 : Nat) : Int) == -1) = false := by decide
      rw [e]
      simp only [Bool.false_eq_true, if_false]
      unfold splitL
      rw [if_pos rfl, ← ih]
      simp
    · have hp : ([c] : List UInt8).isPrefixOf (b :: l) = false := by simp [List.isPrefixOf, Ne.symm h]
      have hix : Lib.index (b :: l) [c] = if Lib.index l [c] == -1 then -1 else Lib.index l [c] + 1 := by rw [Lib.index, hp]; simp
      rw [Lib.count_cons_ne b c l h]
      unfold splitL
      rw [if_neg h, ← ih]
      by_cases hm : Lib.index l [c] = -1
      · rw [Lib.count_miss hm]; rfl
      · have hge := Lib.index_ge l [c]
        obtain ⟨j, hj⟩ : ∃ j : Nat, Lib.index l [c] = j := ⟨(Lib.index l [c]).toNat, by omega⟩
        have hix' : Lib.index (b :: l) [c] = ((j + 1 : Nat) : Int) := by rw [hix, if_neg (fun e => hm (beq_iff_eq.1 e)), hj]; omega
        have n1 : ¬ (((j + 1 : Nat) : Int) == -1) = true := fun e => by have := beq_iff_eq.1 e; omega
        have n2 : ¬ ((j : Int) == -1) = true := fun e => by have := beq_iff_eq.1 e; omega
        rw [Lib.count_hit (by simp) hj, Nat.add_comm, Lib.splitK, Lib.splitK, hix', hj, if_neg n1, if_neg n2]
        simp

theorem splitB_L (c : UInt8) (s : ByteArray) : Lib.splitB ⟨#[c]⟩ 0 (Lib.countB s ⟨#[c]⟩) s = (splitL c s.data.toList).map mkB := by
  have h := Lib.splitB_data ⟨#[c]⟩ 0 (Lib.countB s ⟨#[c]⟩) s
  have h2 : Lib.splitK (⟨#[c]⟩ : ByteArray).data.toList 0 (Lib.countB s ⟨#[c]⟩) s.data.toList = splitL c s.data.toList := splitK_L c s.data.toList
  rw [h2] at h
  rw [← h, List.map_map]
  have : (mkB ∘ fun x : ByteArray => x.data.toList) = id := funext fun x => mkB_of x
  rw [this, List.map_id]

theorem splitL_none {c : UInt8} : ∀ {l : List UInt8}, c ∉ l → splitL c l = [l]
  | [], _ => rfl
  | b :: l, h => by
    have h1 : ¬ b = c := fun e => h (by simp [e])
    unfold splitL
    rw [if_neg h1, splitL_none (l := l) (fun e => h (by simp [e]))]
    rfl
theorem splitL_app {c : UInt8} : ∀ {x : List UInt8} (l : List UInt8), c ∉ x → splitL c (x ++ c :: l) = x :: splitL c l
  | [], l, _ => by show splitL c (c :: l) = _; rw [splitL, if_pos rfl]
  | b :: x, l, h => by
    have h1 : ¬ b = c := fun e => h (by simp [e])
    show splitL c (b :: (x ++ c :: l)) = _
    rw [splitL, if_neg h1, splitL_app l (fun e => h (by simp [e]))]
    rfl
/-- The pieces with the byte between them. -/
def joinL (c : UInt8) : List (List UInt8) → List UInt8
  | [] => []
  | [x] => x
  | x :: y :: r => x ++ c :: joinL c (y :: r)
theorem joinL_cons (c : UInt8) (x : List UInt8) {r : List (List UInt8)} (h : r ≠ []) : joinL c (x :: r) = x ++ c :: joinL c r := by
  cases r with
  | nil => exact absurd rfl h
  | cons y r => rfl
theorem join_splitL (c : UInt8) : ∀ l : List UInt8, joinL c (splitL c l) = l
  | [] => rfl
  | b :: l => by
    have ih := join_splitL c l
    obtain ⟨x, r, hx⟩ := splitL_form c l
    unfold splitL
    rw [hx] at ih ⊢
    split
    · rename_i h
      rw [joinL_cons c [] (by simp), ih, h]; rfl
    · cases r with
      | nil =>
        have ih' : x = l := ih
        rw [← ih']; rfl
      | cons y r =>
        rw [joinL] at ih
        simp only [List.headD_cons, List.tail_cons, joinL]
        rw [List.cons_append, ih]
theorem splitL_mem (c : UInt8) : ∀ (l x : List UInt8), x ∈ splitL c l → c ∉ x
  | [], x, h => by simp [splitL] at h; simp [h]
  | b :: l, x, h => by
    obtain ⟨y, r, hy⟩ := splitL_form c l
    have ih := splitL_mem c l
    rw [hy] at ih
    unfold splitL at h
    rw [hy] at h
    split at h
    · rcases List.mem_cons.1 h with h | h
      · simp [h]
      · exact ih x h
    · rename_i hb
      simp only [List.headD_cons, List.tail_cons, List.mem_cons] at h
      rcases h with h | h
      · rw [h]
        have := ih y (by simp)
        simp only [List.mem_cons, not_or]
        exact ⟨fun e => hb e.symm, this⟩
      · exact ih x (by simp [h])
theorem split_joinL (c : UInt8) : ∀ {xs : List (List UInt8)}, xs ≠ [] → (∀ x, x ∈ xs → c ∉ x) → splitL c (joinL c xs) = xs
  | [], h, _ => absurd rfl h
  | [x], _, h => splitL_none (h x (by simp))
  | x :: y :: r, _, h => by
    rw [joinL, splitL_app _ (h x (by simp)), split_joinL c (by simp) (fun z hz => h z (by simp [hz]))]
theorem lib_join (c : UInt8) : ∀ (x : List UInt8) (r : List (List UInt8)), Lib.join (x :: r) [c] = joinL c (x :: r)
  | x, [] => by rw [Lib.join_one]; rfl
  | x, y :: r => by
    rw [joinL, ← lib_join c y r, Lib.join_cons, Lib.join_cons]
    simp [Lib.joinTail]
theorem joinL_append (c : UInt8) : ∀ {a b : List (List UInt8)}, a ≠ [] → b ≠ [] → joinL c (a ++ b) = joinL c a ++ c :: joinL c b
  | [], _, h, _ => absurd rfl h
  | [x], b, _, h => by
    show joinL c (x :: b) = _
    rw [joinL_cons c x h]; rfl
  | x :: y :: r, b, _, h => by
    show joinL c (x :: ((y :: r) ++ b)) = _
    rw [joinL_cons c x (by simp), joinL_append c (by simp) h, joinL, List.append_assoc, List.cons_append]
theorem joinL_length (c : UInt8) : ∀ {xs : List (List UInt8)}, xs ≠ [] → (joinL c xs).length + 1 = (xs.map fun x => x.length + 1).sum
  | [], h => absurd rfl h
  | [x], _ => by simp [joinL]
  | x :: y :: r, _ => by
    have := joinL_length c (xs := y :: r) (by simp)
    rw [joinL, List.map_cons, List.sum_cons, ← this, List.length_append, List.length_cons]; omega
end Go.Proofs.YtcdjponbhpchbaaGreatDoor
