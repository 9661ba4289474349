import Derived.Test.YtndhhgpmpnmljaaDoorChk
import Derived.Test.YtndhhgpmpnmljaaDoorNamedD
import Derived.Test.YtndhhgpmpnmljaaDoorCutP
namespace Go.Proofs.YtndhhgpmpnmljaaDoor
open Go Go.RowKit
attribute [local go_sem] quietE

/-- In a text with a great byte there is a great character. -/
theorem great_rune : ∀ (n : Nat) (l : List UInt8), l.length ≤ n → (∃ b ∈ l, 128 ≤ b.toNat) → ∃ c ∈ runesD l, 128 ≤ c
  | 0, l, hl, ⟨b, hb, _⟩ => by
    have : l = [] := List.eq_nil_of_length_eq_zero (by omega)
    subst this; cases hb
  | n + 1, l, hl, ⟨b, hb, hge⟩ => by
    cases l with
    | nil => cases hb
    | cons x r =>
      rw [runesD_step _ (by simp)]
      by_cases hx : x.toNat < 128
      · rw [Lib.decodeL_ascii x r hx]
        rcases List.mem_cons.1 hb with rfl | hb
        · omega
        · obtain ⟨c, hc, hcg⟩ := great_rune n r (by simp at hl; omega) ⟨b, hb, hge⟩
          exact ⟨c, List.mem_cons_of_mem _ hc, hcg⟩
      · refine ⟨_, List.mem_cons_self, ?_⟩
        by_cases hbad : (Lib.decodeL (x :: r)).1 = 65533 ∧ (Lib.decodeL (x :: r)).2 = 1
        · rw [hbad.1]; decide
        · have hs := decodeN_small (x :: r).length ((x :: r).getD 0 0).toNat ((x :: r).getD 1 0).toNat ((x :: r).getD 2 0).toNat ((x :: r).getD 3 0).toNat (UInt8.toNat_lt _) (UInt8.toNat_lt _) (UInt8.toNat_lt _) (by rw [← Lib.decodeL_N]; exact hbad)
          rw [← Lib.decodeL_N] at hs
          rcases hs with ⟨h, _⟩ | ⟨_, _, _, _, _, _, h⟩
          · exact absurd h (by simpa using hx)
          · exact h
theorem small_runes : ∀ (n : Nat) (l : List UInt8), l.length ≤ n → (∀ b ∈ l, b.toNat < 128) → runesD l = l.map (·.toNat)
  | 0, l, hl, _ => by
    have : l = [] := List.eq_nil_of_length_eq_zero (by omega)
    subst this; rfl
  | n + 1, l, hl, h => by
    cases l with
    | nil => rfl
    | cons x r =>
      rw [runesD_step _ (by simp), Lib.decodeL_ascii x r (h x (by simp)), List.map_cons]
      simp only [List.drop_succ_cons, List.drop_zero]
      rw [small_runes n r (by simp at hl; omega) (fun b hb => h b (by simp [hb]))]
theorem nameBad_great {c : Nat} (h : 128 ≤ c) : nameBad c = true := by unfold nameBad; simp; omega
theorem name_bytes (l : List UInt8) : (runesD l).any nameBad = l.any fun b => nameBad b.toNat := by
  by_cases h : ∃ b ∈ l, 128 ≤ b.toNat
  · obtain ⟨c, hc, hg⟩ := great_rune _ l (Nat.le_refl _) h
    obtain ⟨b, hb, hbg⟩ := h
    rw [List.any_eq_true.2 ⟨c, hc, nameBad_great hg⟩, List.any_eq_true.2 ⟨b, hb, nameBad_great hbg⟩]
  · rw [small_runes _ l (Nat.le_refl _) (fun b hb => by
      rcases Nat.lt_or_ge b.toNat 128 with h1 | h1
      · exact h1
      · exact absurd ⟨b, hb, h1⟩ h), List.any_map]
    rfl
theorem namedS_bytes (s : ByteArray) : namedS s = (decide (1 ≤ s.size) && decide (s.size ≤ 16) && !(s.data.toList.any fun b => nameBad b.toNat)) := by
  rw [namedS_D, name_bytes]
  congr 2
  rw [Lib.toList_data, Lib.size_eq]
  cases s.data.toList <;> simp
theorem any_byte {p : UInt8 → Bool} {s : ByteArray} {k : Nat} (h : k < s.size) : (s.data.toList.drop k).any p = (p s[k] || (s.data.toList.drop (k + 1)).any p) := by
  rw [drop_step h, List.any_cons]

set_option maxHeartbeats 4000000 in
set_option maxRecDepth 100000 in
theorem name2_any (s : ByteArray) (w : World) (hs : s.size ≤ 9223372036854775807) :
    Calls Tryd.prog 34 #[.string s] w fun e w' => e = .returned (.bool (namedS s)) ∧ w = w' := by
  rw [namedS_bytes]
  obtain ⟨b, hbb⟩ : ∃ b, b = s.data.toList.any fun b => nameBad b.toNat := ⟨_, rfl⟩
  rw [← hbb]
  have HBB := Lib.hid hbb
  clear hbb
  go_enter Tryd.func34, Tryd.ntmps34
  go_wp2_with fail
  go_loop [3] (fun i => ∃ k : Nat, k ≤ s.size ∧ i = .int .i64 k ∧ Hid (b = (s.data.toList.drop k).any fun b => nameBad b.toNat)) (fun i => s.size - (intOf i).toNat)
  case atStart => exact ⟨0, Nat.zero_le _, rfl, HBB.out⟩
  case round =>
    obtain ⟨k, hk, rfl, hinv⟩ := hrel
    by_cases hlt : k < s.size
    · have hi := hinv.out
      rw [any_byte hlt] at hi
      have HI := Lib.hid hi
      clear hinv hi
      cases hh : nameBad s[k].toNat
      · have hi2 : b = (s.data.toList.drop (k + 1)).any fun b => nameBad b.toNat := by rw [HI.out, hh]; rfl
        have HI2 := Lib.hid hi2
        have q : (65 ≤ (s[k].toNat : Int) ∧ (s[k].toNat : Int) ≤ 90) ∨ (¬ (s[k].toNat : Int) ≤ 90 ∧ 97 ≤ (s[k].toNat : Int) ∧ (s[k].toNat : Int) ≤ 122) ∨ (¬ 65 ≤ (s[k].toNat : Int) ∧ 48 ≤ (s[k].toNat : Int) ∧ (s[k].toNat : Int) ≤ 57) ∨ (s[k].toNat : Int) = 95 ∨ (s[k].toNat : Int) = 45 := by
          unfold nameBad at hh; simp at hh; omega
        clear HI hi2 hh
        rcases q with ⟨q1, q2⟩ | ⟨q1, q2, q3⟩ | ⟨q1, q2, q3⟩ | q1 | q1
        · go_wp2
          go_round
          case rel => exact ⟨k + 1, hlt, by go_num, HI2.out⟩
          case measure => simp [intOf]; omega
        · have q4 : 65 ≤ (s[k].toNat : Int) := by omega
          go_wp2
          go_round
          case rel => exact ⟨k + 1, hlt, by go_num, HI2.out⟩
          case measure => simp [intOf]; omega
        · have q4 : ¬ 97 ≤ (s[k].toNat : Int) := by omega
          go_wp2
          go_round
          case rel => exact ⟨k + 1, hlt, by go_num, HI2.out⟩
          case measure => simp [intOf]; omega
        · go_wp2
          go_round
          case rel => exact ⟨k + 1, hlt, by go_num, HI2.out⟩
          case measure => simp [intOf]; omega
        · go_wp2
          go_round
          case rel => exact ⟨k + 1, hlt, by go_num, HI2.out⟩
          case measure => simp [intOf]; omega
      · have hi2 : b = true := by rw [HI.out, hh]; rfl
        have HI2 := Lib.hid hi2
        have q : (¬ 48 ≤ (s[k].toNat : Int) ∧ ¬ 65 ≤ (s[k].toNat : Int) ∧ ¬ 97 ≤ (s[k].toNat : Int) ∧ (s[k].toNat : Int) ≠ 45) ∨ (48 ≤ (s[k].toNat : Int) ∧ ¬ (s[k].toNat : Int) ≤ 57 ∧ ¬ 65 ≤ (s[k].toNat : Int) ∧ ¬ 97 ≤ (s[k].toNat : Int)) ∨ (65 ≤ (s[k].toNat : Int) ∧ ¬ (s[k].toNat : Int) ≤ 90 ∧ ¬ 97 ≤ (s[k].toNat : Int) ∧ ¬ (s[k].toNat : Int) ≤ 57 ∧ (s[k].toNat : Int) ≠ 95) ∨ (65 ≤ (s[k].toNat : Int) ∧ ¬ (s[k].toNat : Int) ≤ 90 ∧ 97 ≤ (s[k].toNat : Int) ∧ ¬ (s[k].toNat : Int) ≤ 122 ∧ ¬ (s[k].toNat : Int) ≤ 57) := by
          unfold nameBad at hh; simp at hh; omega
        clear HI hi2 hh
        rcases q with ⟨q1, q2, q3, q4⟩ | ⟨q1, q2, q3, q4⟩ | ⟨q1, q2, q3, q4, q5⟩ | ⟨q1, q2, q3, q4, q5⟩
        · have q6 : ((s[k].toNat : Int) != 45) = true := by simpa using q4
          have q7 : ((s[k].toNat : Int) != 95) = true := by rw [bne_iff_ne]; omega
          go_wp2
          go_ret
          exact ⟨ret_bool (by rw [HI2.out]; simp), rfl⟩
        · have q6 : ((s[k].toNat : Int) != 45) = true := by rw [bne_iff_ne]; omega
          have q7 : ((s[k].toNat : Int) != 95) = true := by rw [bne_iff_ne]; omega
          go_wp2
          go_ret
          exact ⟨ret_bool (by rw [HI2.out]; simp), rfl⟩
        · have q6 : ((s[k].toNat : Int) != 45) = true := by rw [bne_iff_ne]; omega
          have q7 : ((s[k].toNat : Int) != 95) = true := by simpa using q5
          go_wp2
          go_ret
          exact ⟨ret_bool (by rw [HI2.out]; simp), rfl⟩
        · have q6 : ((s[k].toNat : Int) != 45) = true := by rw [bne_iff_ne]; omega
          have q7 : ((s[k].toNat : Int) != 95) = true := by rw [bne_iff_ne]; omega
          go_wp2
          go_ret
          exact ⟨ret_bool (by rw [HI2.out]; simp), rfl⟩
  -- behind the loop
    · obtain rfl : k = s.size := by omega
      have hfin : b = false := by rw [hinv.out, Lib.size_eq, List.drop_length]; rfl
      subst hfin
      clear hinv HBB
      by_cases h1 : 1 ≤ s.size
      · have g1 : (1 : Int) ≤ s.size := by omega
        go_wp2
        go_ret
        exact ⟨ret_bool (by first | rfl | (simp; omega) | (rw [Bool.eq_iff_iff]; simp; omega)), rfl⟩
      · have g1 : ¬ (1 : Int) ≤ s.size := by omega
        go_wp2
        go_ret
        exact ⟨ret_bool (by first | rfl | (simp; done) | (rw [Bool.eq_iff_iff]; simp; omega)), rfl⟩

set_option maxHeartbeats 1000000 in
set_option maxRecDepth 100000 in
theorem find2_any (l : List PosV) (name : ByteArray) (a : Option Addr) (cap : Nat) (w : World) (hl : l.length ≤ 4611686018427387904) (hs : AtCells w a 2 (l.map posCells)) :
    Calls Tryd.prog 33 #[.slice a l.length cap, .string name] w fun e w' => e = .returned (.tuple #[.int .i64 (findI (posFind l name)), .bool (posFind l name).isSome]) ∧ w = w' := by
  obtain ⟨R, hR⟩ : ∃ R, R = posFind l name := ⟨_, rfl⟩
  rw [← hR]
  have HR := Lib.hid hR
  have HS := Lib.hid hs
  clear hs hR
  go_enter Tryd.func33, Tryd.ntmps33
  go_wp2_with fail
  go_loop [6] (fun i => ∃ k : Nat, k ≤ l.length ∧ i = .int .i64 k ∧ Hid (∀ j q, j < k → l[j]? = some q → seq q.name name = false)) (fun i => l.length - (intOf i).toNat)
  case atStart => exact ⟨0, Nat.zero_le _, rfl, fun j q hj => by omega⟩
  case round =>
    obtain ⟨k, hk, rfl, hinv⟩ := hrel
    by_cases hlt : k < l.length
    · obtain ⟨p, hp⟩ : ∃ p, l[k]? = some p := ⟨_, List.getElem?_eq_getElem hlt⟩
      obtain ⟨ba, oa, rfl, hca⟩ := HS.out.get (ne_nil_of_lt hlt)
      have c0 : w.cell? ⟨ba, oa + k * 2, none⟩ = some (.string p.name) := by simpa using hca k _ hp 0 _ rfl
      have HP := Lib.hid hp
      clear hca hp
      cases hq : seq p.name name
      · have hne : (p.name.toList == name.toList) = false := hq
        have hne2 : ¬ p.name.toList = name.toList := by simpa using hne
        have HQ := Lib.hid hq
        clear hq
        go_wp2
        go_round
        case rel => exact ⟨k + 1, hlt, by go_num, fun j q hj hjq => by
          rcases Nat.lt_succ_iff_lt_or_eq.1 hj with h | rfl
          · exact hinv.out j q h hjq
          · rw [HP.out] at hjq; obtain rfl := Option.some.inj hjq; exact HQ.out⟩
        case measure => simp [intOf]; omega
      · have heq : (p.name.toList == name.toList) = true := hq
        have heq2 : p.name.toList = name.toList := by simpa using heq
        have hfin : R = some k := HR.out.trans (posFind_hit HP.out hinv.out hq)
        subst hfin
        clear hq hinv HR
        go_wp2
        go_ret2
        exact ⟨rfl, rfl⟩
    · obtain rfl : k = l.length := by omega
      have hfin : R = none := HR.out.trans (posFind_none hinv.out)
      subst hfin
      clear hinv HR
      go_wp2
      go_ret2
      exact ⟨rfl, rfl⟩
end Go.Proofs.YtndhhgpmpnmljaaDoor
