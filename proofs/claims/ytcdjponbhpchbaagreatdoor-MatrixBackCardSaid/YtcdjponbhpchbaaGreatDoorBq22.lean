/- The texts RefC16 RefV RefX, one behind the other. -/
import Derived.Test.YtcdjponbhpchbaaGreatDoorBq19
import Derived.Test.YtcdjponbhpchbaaGreatDoorBq18
import Derived.Test.YtcdjponbhpchbaaGreatDoorBq21
import Derived.Test.YtcdjponbhpchbaaGreatDoorBq12
import Derived.Test.YtcdjponbhpchbaaGreatDoorBq5
namespace Go.Proofs.YtcdjponbhpchbaaGreatDoor
open Go Go.RowKit Go.Shelf
attribute [local go_sem] quietE

/-- The document's cost of a string, -1 for none. -/
def rcS (s : ByteArray) : Int := if numMb s then (decVal s.data.toList : Int) else -1
theorem rcS_bad {s : ByteArray} {k : Nat} (h : k < s.size) (hb : isDig s[k] = false) : rcS s = -1 := by
  unfold rcS numMb digOK
  have : s.data.toList.all isDig = false := by
    rw [List.all_eq_false]
    exact ⟨s[k], by
      have h2 : k < s.data.toList.length := by simpa using h
      have := List.getElem_mem h2
      exact this, by rw [hb]; simp⟩
  rw [this]
  simp
theorem dec5 {l : List UInt8} (h : l.all isDig = true) (hl : l.length ≤ 5) : decVal l < 100000 := by
  have h1 := decGo_lt l 0 0 h (by decide)
  rw [Nat.zero_add] at h1
  have h2 : 10 ^ l.length ≤ 10 ^ 5 := Nat.pow_le_pow_right (by decide) hl
  exact Nat.lt_of_lt_of_le h1 h2
set_option maxHeartbeats 4000000 in
set_option maxRecDepth 100000 in
theorem rc16_any (s : ByteArray) (w : World) : Calls Tryz.prog 28 #[.string s] w fun e w' => e = .returned (.int .i64 (rcS s)) ∧ w = w' := by
  by_cases h1 : s.size < 1
  · have hr : rcS s = -1 := by
      have : s.data.toList = [] := List.eq_nil_of_length_eq_zero (by rw [← Lib.size_eq]; omega)
      unfold rcS numMb digOK
      rw [this]
      rfl
    rw [hr]
    have g1 : (s.size : Int) < 1 := by omega
    go_enter Tryz.func28, Tryz.ntmps28
    go_wp2
    go_ret
    exact ⟨rfl, rfl⟩
  · by_cases h5 : 5 < s.size
    · have hr : rcS s = -1 := by
        unfold rcS numMb digOK
        rw [← Lib.size_eq, show decide (s.size ≤ 5) = false by simp; omega]
        simp
      rw [hr]
      have g1 : ¬ (s.size : Int) < 1 := by omega
      have g5 : (5 : Int) < s.size := by omega
      go_enter Tryz.func28, Tryz.ntmps28
      go_wp2
      go_ret
      exact ⟨rfl, rfl⟩
    · have g1 : ¬ (s.size : Int) < 1 := by omega
      have g5 : ¬ (5 : Int) < s.size := by omega
      obtain ⟨R, hR⟩ : ∃ R, R = rcS s := ⟨_, rfl⟩
      rw [← hR]
      have HR := Lib.hid hR
      clear hR
      go_enter Tryz.func28, Tryz.ntmps28
      go_wp2_with fail
      go_loop [3, 4] (fun n i => ∃ k v : Nat, k ≤ s.size ∧ i = .int .i64 k ∧ n = .int .i64 v ∧ v < 1000000 ∧ Hid (v = decVal (s.data.toList.take k) ∧ (s.data.toList.take k).all isDig = true)) (fun _ i => s.size - (intOf i).toNat)
      case atStart => exact ⟨0, 0, Nat.zero_le _, rfl, rfl, by omega, rfl, rfl⟩
      case round =>
        obtain ⟨k, v, hk, rfl, rfl, hv, hinv⟩ := hrel
        by_cases hlt : k < s.size
        · have hs5 : s.size ≤ 5 := by omega
          cases hd : isDig s[k]
          · have hr := rcS_bad hlt hd
            have hR2 : R = -1 := HR.out.trans hr
            subst hR2
            have HD := Lib.hid hd
            have hor : (s[k].toNat : Int) < 48 ∨ (¬ (s[k].toNat : Int) < 48 ∧ (57 : Int) < s[k].toNat) := by
              unfold isDig at hd
              simp at hd
              omega
            clear hd hr hinv HR
            rcases hor with q | ⟨q, q2⟩
            · go_wp2
              go_ret
              exact ⟨rfl, rfl⟩
            · go_wp2
              go_ret
              exact ⟨rfl, rfl⟩
          · have hb : 48 ≤ s[k].toNat ∧ s[k].toNat ≤ 57 := by
              unfold isDig at hd
              simpa using hd
            have q1 : ¬ (s[k].toNat : Int) < 48 := by omega
            have q2 : ¬ (57 : Int) < s[k].toNat := by omega
            have hk2 : k < s.data.toList.length := by rw [← Lib.size_eq]; exact hlt
            have htk : s.data.toList.take (k + 1) = s.data.toList.take k ++ [s[k]] := by
              rw [List.take_succ_eq_append_getElem hk2]; rfl
            have hall : (s.data.toList.take (k + 1)).all isDig = true := by
              rw [htk, List.all_append, hinv.out.2]
              simp [hd]
            have hval : v * 10 + (s[k].toNat - 48) = decVal (s.data.toList.take (k + 1)) := by rw [htk, decVal_snoc, ← hinv.out.1]
            have hbd := dec5 hall (by rw [List.length_take]; omega)
            have HN : Hid (v * 10 + (s[k].toNat - 48) = decVal (s.data.toList.take (k + 1)) ∧ (s.data.toList.take (k + 1)).all isDig = true) := ⟨hval, hall⟩
            have hvb : v * 10 + (s[k].toNat - 48) < 1000000 := by omega
            clear htk hall hval hbd hd hinv
            go_wp2
            go_round
            case rel => exact ⟨k + 1, v * 10 + (s[k].toNat - 48), hlt, by go_num, by first | (congr 1; omega) | go_num, hvb, HN.out⟩
            case measure => simp [intOf]; omega
        · obtain rfl : k = s.size := by omega
          obtain ⟨hv1, hv2⟩ := hinv.out
          rw [Lib.size_eq, List.take_length] at hv1 hv2
          have hdo : digOK s.data.toList = true := by
            unfold digOK
            rw [hv2, ← Lib.size_eq, show decide (s.size ≤ 5) = true by simp; omega]
            have : s.data.toList.isEmpty = false := by
              cases hh : s.data.toList with
              | nil => rw [Lib.size_eq, hh] at h1; simp at h1
              | cons _ _ => rfl
            rw [this]; rfl
          have hr : rcS s = if isC (v : Int) then (v : Int) else -1 := by
            unfold rcS numMb
            rw [hdo, Bool.true_and, isC_nat, hv1]
          have HR2 := Lib.hid (HR.out.trans hr)
          clear hr hdo hv1 hv2 hinv HR
          cases hC : isC (v : Int)
          · have hR2 : R = -1 := by rw [HR2.out, hC]; rfl
            subst hR2
            go_wp2_with (go_at_call 51; refine (ris_any _ _).mono ?_; rintro e w1 ⟨rfl, rfl⟩)
            go_ret
            exact ⟨rfl, rfl⟩
          · have hR2 : R = v := by rw [HR2.out, hC]; rfl
            subst hR2
            go_wp2_with (go_at_call 51; refine (ris_any _ _).mono ?_; rintro e w1 ⟨rfl, rfl⟩)
            go_ret
            exact ⟨rfl, rfl⟩
end Go.Proofs.YtcdjponbhpchbaaGreatDoor
namespace Go.Proofs.YtcdjponbhpchbaaGreatDoor
open Go Go.RowKit
attribute [local go_sem] quietE

/-- In a text with a great byte there is a great character. -/
theorem great_rune : ∀ (n : Nat) (l : List UInt8), l.length ≤ n → (∃ b ∈ l, 128 ≤ b.toNat) → ∃ c ∈ runesD l, 128 ≤ c
  | 0, l, hl, ⟨b, hb, _⟩ => by
    have : l = [] := List.eq_nil_of_length_eq_zero (by omega)
    subst this; cases hb
  | n + 1, l, hl, ⟨b, hb, hge⟩ => by
    cases l with
    | nil => cases hb
    | cons x r =>
      rw [runesD_step _ (by simp)]
      by_cases hx : x.toNat < 128
      · rw [Lib.decodeL_ascii x r hx]
        rcases List.mem_cons.1 hb with rfl | hb
        · omega
        · obtain ⟨c, hc, hcg⟩ := great_rune n r (by simp at hl; omega) ⟨b, hb, hge⟩
          exact ⟨c, List.mem_cons_of_mem _ hc, hcg⟩
      · refine ⟨_, List.mem_cons_self, ?_⟩
        by_cases hbad : (Lib.decodeL (x :: r)).1 = 65533 ∧ (Lib.decodeL (x :: r)).2 = 1
        · rw [hbad.1]; decide
        · have hs := decodeN_small (x :: r).length ((x :: r).getD 0 0).toNat ((x :: r).getD 1 0).toNat ((x :: r).getD 2 0).toNat ((x :: r).getD 3 0).toNat (UInt8.toNat_lt _) (UInt8.toNat_lt _) (UInt8.toNat_lt _) (by rw [← Lib.decodeL_N]; exact hbad)
          rw [← Lib.decodeL_N] at hs
          rcases hs with ⟨h, _⟩ | ⟨_, _, _, _, _, _, h⟩
          · exact absurd h (by simpa using hx)
          · exact h
theorem small_runes : ∀ (n : Nat) (l : List UInt8), l.length ≤ n → (∀ b ∈ l, b.toNat < 128) → runesD l = l.map (·.toNat)
  | 0, l, hl, _ => by
    have : l = [] := List.eq_nil_of_length_eq_zero (by omega)
    subst this; rfl
  | n + 1, l, hl, h => by
    cases l with
    | nil => rfl
    | cons x r =>
      rw [runesD_step _ (by simp), Lib.decodeL_ascii x r (h x (by simp)), List.map_cons]
      simp only [List.drop_succ_cons, List.drop_zero]
      rw [small_runes n r (by simp at hl; omega) (fun b hb => h b (by simp [hb]))]
theorem nameBad_great {c : Nat} (h : 128 ≤ c) : nameBad c = true := by unfold nameBad; simp; omega
theorem name_bytes (l : List UInt8) : (runesD l).any nameBad = l.any fun b => nameBad b.toNat := by
  by_cases h : ∃ b ∈ l, 128 ≤ b.toNat
  · obtain ⟨c, hc, hg⟩ := great_rune _ l (Nat.le_refl _) h
    obtain ⟨b, hb, hbg⟩ := h
    rw [List.any_eq_true.2 ⟨c, hc, nameBad_great hg⟩, List.any_eq_true.2 ⟨b, hb, nameBad_great hbg⟩]
  · rw [small_runes _ l (Nat.le_refl _) (fun b hb => by
      rcases Nat.lt_or_ge b.toNat 128 with h1 | h1
      · exact h1
      · exact absurd ⟨b, hb, h1⟩ h), List.any_map]
    rfl
theorem namedS_bytes (s : ByteArray) : namedS s = (decide (1 ≤ s.size) && decide (s.size ≤ 16) && !(s.data.toList.any fun b => nameBad b.toNat)) := by
  rw [namedS_D, name_bytes]
  congr 2
  rw [Lib.toList_data, Lib.size_eq]
  cases s.data.toList <;> simp
theorem any_byte {p : UInt8 → Bool} {s : ByteArray} {k : Nat} (h : k < s.size) : (s.data.toList.drop k).any p = (p s[k] || (s.data.toList.drop (k + 1)).any p) := by
  rw [drop_step h, List.any_cons]

set_option maxHeartbeats 4000000 in
set_option maxRecDepth 100000 in
theorem name2_any (s : ByteArray) (w : World) (hs : s.size ≤ 9223372036854775807) :
    Calls Tryz.prog 50 #[.string s] w fun e w' => e = .returned (.bool (namedS s)) ∧ w = w' := by
  rw [namedS_bytes]
  obtain ⟨b, hbb⟩ : ∃ b, b = s.data.toList.any fun b => nameBad b.toNat := ⟨_, rfl⟩
  rw [← hbb]
  have HBB := Lib.hid hbb
  clear hbb
  go_enter Tryz.func50, Tryz.ntmps50
  go_wp2_with fail
  go_loop [3] (fun i => ∃ k : Nat, k ≤ s.size ∧ i = .int .i64 k ∧ Hid (b = (s.data.toList.drop k).any fun b => nameBad b.toNat)) (fun i => s.size - (intOf i).toNat)
  case atStart => exact ⟨0, Nat.zero_le _, rfl, HBB.out⟩
  case round =>
    obtain ⟨k, hk, rfl, hinv⟩ := hrel
    by_cases hlt : k < s.size
    · have hi := hinv.out
      rw [any_byte hlt] at hi
      have HI := Lib.hid hi
      clear hinv hi
      cases hh : nameBad s[k].toNat
      · have hi2 : b = (s.data.toList.drop (k + 1)).any fun b => nameBad b.toNat := by rw [HI.out, hh]; rfl
        have HI2 := Lib.hid hi2
        have q : (65 ≤ (s[k].toNat : Int) ∧ (s[k].toNat : Int) ≤ 90) ∨ (¬ (s[k].toNat : Int) ≤ 90 ∧ 97 ≤ (s[k].toNat : Int) ∧ (s[k].toNat : Int) ≤ 122) ∨ (¬ 65 ≤ (s[k].toNat : Int) ∧ 48 ≤ (s[k].toNat : Int) ∧ (s[k].toNat : Int) ≤ 57) ∨ (s[k].toNat : Int) = 95 ∨ (s[k].toNat : Int) = 45 := by
          unfold nameBad at hh; simp at hh; omega
        clear HI hi2 hh
        rcases q with ⟨q1, q2⟩ | ⟨q1, q2, q3⟩ | ⟨q1, q2, q3⟩ | q1 | q1
        · go_wp2
          go_round
          case rel => exact ⟨k + 1, hlt, by go_num, HI2.out⟩
          case measure => simp [intOf]; omega
        · have q4 : 65 ≤ (s[k].toNat : Int) := by omega
          go_wp2
          go_round
          case rel => exact ⟨k + 1, hlt, by go_num, HI2.out⟩
          case measure => simp [intOf]; omega
        · have q4 : ¬ 97 ≤ (s[k].toNat : Int) := by omega
          go_wp2
          go_round
          case rel => exact ⟨k + 1, hlt, by go_num, HI2.out⟩
          case measure => simp [intOf]; omega
        · go_wp2
          go_round
          case rel => exact ⟨k + 1, hlt, by go_num, HI2.out⟩
          case measure => simp [intOf]; omega
        · go_wp2
          go_round
          case rel => exact ⟨k + 1, hlt, by go_num, HI2.out⟩
          case measure => simp [intOf]; omega
      · have hi2 : b = true := by rw [HI.out, hh]; rfl
        have HI2 := Lib.hid hi2
        have q : (¬ 48 ≤ (s[k].toNat : Int) ∧ ¬ 65 ≤ (s[k].toNat : Int) ∧ ¬ 97 ≤ (s[k].toNat : Int) ∧ (s[k].toNat : Int) ≠ 45) ∨ (48 ≤ (s[k].toNat : Int) ∧ ¬ (s[k].toNat : Int) ≤ 57 ∧ ¬ 65 ≤ (s[k].toNat : Int) ∧ ¬ 97 ≤ (s[k].toNat : Int)) ∨ (65 ≤ (s[k].toNat : Int) ∧ ¬ (s[k].toNat : Int) ≤ 90 ∧ ¬ 97 ≤ (s[k].toNat : Int) ∧ ¬ (s[k].toNat : Int) ≤ 57 ∧ (s[k].toNat : Int) ≠ 95) ∨ (65 ≤ (s[k].toNat : Int) ∧ ¬ (s[k].toNat : Int) ≤ 90 ∧ 97 ≤ (s[k].toNat : Int) ∧ ¬ (s[k].toNat : Int) ≤ 122 ∧ ¬ (s[k].toNat : Int) ≤ 57) := by
          unfold nameBad at hh; simp at hh; omega
        clear HI hi2 hh
        rcases q with ⟨q1, q2, q3, q4⟩ | ⟨q1, q2, q3, q4⟩ | ⟨q1, q2, q3, q4, q5⟩ | ⟨q1, q2, q3, q4, q5⟩
        · have q6 : ((s[k].toNat : Int) != 45) = true := by simpa using q4
          have q7 : ((s[k].toNat : Int) != 95) = true := by rw [bne_iff_ne]; omega
          go_wp2
          go_ret
          exact ⟨ret_bool (by rw [HI2.out]; simp), rfl⟩
        · have q6 : ((s[k].toNat : Int) != 45) = true := by rw [bne_iff_ne]; omega
          have q7 : ((s[k].toNat : Int) != 95) = true := by rw [bne_iff_ne]; omega
          go_wp2
          go_ret
          exact ⟨ret_bool (by rw [HI2.out]; simp), rfl⟩
        · have q6 : ((s[k].toNat : Int) != 45) = true := by rw [bne_iff_ne]; omega
          have q7 : ((s[k].toNat : Int) != 95) = true := by simpa using q5
          go_wp2
          go_ret
          exact ⟨ret_bool (by rw [HI2.out]; simp), rfl⟩
        · have q6 : ((s[k].toNat : Int) != 45) = true := by rw [bne_iff_ne]; omega
          have q7 : ((s[k].toNat : Int) != 95) = true := by rw [bne_iff_ne]; omega
          go_wp2
          go_ret
          exact ⟨ret_bool (by rw [HI2.out]; simp), rfl⟩
  -- behind the loop
    · obtain rfl : k = s.size := by omega
      have hfin : b = false := by rw [hinv.out, Lib.size_eq, List.drop_length]; rfl
      subst hfin
      clear hinv HBB
      by_cases h1 : 1 ≤ s.size
      · have g1 : (1 : Int) ≤ s.size := by omega
        go_wp2
        go_ret
        exact ⟨ret_bool (by first | rfl | (simp; omega) | (rw [Bool.eq_iff_iff]; simp; omega)), rfl⟩
      · have g1 : ¬ (1 : Int) ≤ s.size := by omega
        go_wp2
        go_ret
        exact ⟨ret_bool (by first | rfl | (simp; done) | (rw [Bool.eq_iff_iff]; simp; omega)), rfl⟩

set_option maxHeartbeats 1000000 in
set_option maxRecDepth 100000 in
theorem find2_any (l : List PosV) (name : ByteArray) (a : Option Addr) (cap : Nat) (w : World) (hl : l.length ≤ 4611686018427387904) (hs : AtCells w a 2 (l.map posCells)) :
    Calls Tryz.prog 49 #[.slice a l.length cap, .string name] w fun e w' => e = .returned (.tuple #[.int .i64 (findI (posFind l name)), .bool (posFind l name).isSome]) ∧ w = w' := by
  obtain ⟨R, hR⟩ : ∃ R, R = posFind l name := ⟨_, rfl⟩
  rw [← hR]
  have HR := Lib.hid hR
  have HS := Lib.hid hs
  clear hs hR
  go_enter Tryz.func49, Tryz.ntmps49
  go_wp2_with fail
  go_loop [6] (fun i => ∃ k : Nat, k ≤ l.length ∧ i = .int .i64 k ∧ Hid (∀ j q, j < k → l[j]? = some q → seq q.name name = false)) (fun i => l.length - (intOf i).toNat)
  case atStart => exact ⟨0, Nat.zero_le _, rfl, fun j q hj => by omega⟩
  case round =>
    obtain ⟨k, hk, rfl, hinv⟩ := hrel
    by_cases hlt : k < l.length
    · obtain ⟨p, hp⟩ : ∃ p, l[k]? = some p := ⟨_, List.getElem?_eq_getElem hlt⟩
      obtain ⟨ba, oa, rfl, hca⟩ := HS.out.get (ne_nil_of_lt hlt)
      have c0 : w.cell? ⟨ba, oa + k * 2, none⟩ = some (.string p.name) := by simpa using hca k _ hp 0 _ rfl
      have HP := Lib.hid hp
      clear hca hp
      cases hq : seq p.name name
      · have hne : (p.name.toList == name.toList) = false := hq
        have hne2 : ¬ p.name.toList = name.toList := by simpa using hne
        have HQ := Lib.hid hq
        clear hq
        go_wp2
        go_round
        case rel => exact ⟨k + 1, hlt, by go_num, fun j q hj hjq => by
          rcases Nat.lt_succ_iff_lt_or_eq.1 hj with h | rfl
          · exact hinv.out j q h hjq
          · rw [HP.out] at hjq; obtain rfl := Option.some.inj hjq; exact HQ.out⟩
        case measure => simp [intOf]; omega
      · have heq : (p.name.toList == name.toList) = true := hq
        have heq2 : p.name.toList = name.toList := by simpa using heq
        have hfin : R = some k := HR.out.trans (posFind_hit HP.out hinv.out hq)
        subst hfin
        clear hq hinv HR
        go_wp2
        go_ret2
        exact ⟨rfl, rfl⟩
    · obtain rfl : k = l.length := by omega
      have hfin : R = none := HR.out.trans (posFind_none hinv.out)
      subst hfin
      clear hinv HR
      go_wp2
      go_ret2
      exact ⟨rfl, rfl⟩
end Go.Proofs.YtcdjponbhpchbaaGreatDoor
namespace Go.Proofs.YtcdjponbhpchbaaGreatDoor
open Go Go.RowKit
attribute [local go_sem] quietE

set_option maxHeartbeats 2000000 in
set_option maxRecDepth 100000 in
theorem valid2_any (l : List PosV) (a : Option Addr) (cap : Nat) (w : World) (hs : AtCells w a 2 (l.map posCells)) (hl : l.length ≤ 4611686018427387904) (hn : ∀ x ∈ l, x.name.size ≤ 9223372036854775807) :
    Calls Tryz.prog 26 #[.slice a l.length cap] w fun e w' => e = .returned (.bool (posValid l)) ∧ Grows w w' := by
  obtain ⟨V, hV⟩ : ∃ V, V = posValid l := ⟨_, rfl⟩
  rw [← hV]
  have HS := Lib.hid hs
  clear hs
  cases l with
  | nil =>
    have hV2 : V = false := hV
    subst hV2
    clear hV
    go_enter Tryz.func26, Tryz.ntmps26
    go_wp2
    go_ret
    exact ⟨rfl, Grows.refl _⟩
  | cons p0 r =>
    obtain ⟨L, hL⟩ : ∃ L, L = p0 :: r := ⟨_, rfl⟩
    have hne : L ≠ [] := by rw [hL]; simp
    have h0 : L[0]? = some p0 := by rw [hL]; rfl
    have hv : V = (decide (L.length ≤ 64) && isBos p0 && posAll L L 0) := by rw [hV, hL]; rfl
    rw [← hL] at HS hl hn ⊢
    clear hL hV
    obtain ⟨b, off, rfl, hcells⟩ := HS.out.get hne
    have c0 : w.cell? ⟨b, off, none⟩ = some (.string p0.name) := by simpa using hcells 0 p0 h0 0 _ rfl
    have c1 : w.cell? ⟨b, off + 1, none⟩ = some (.int .i64 p0.kind) := by simpa using hcells 0 p0 h0 1 _ rfl
    have HC := Lib.hid hcells
    have hpos : 0 < L.length := by cases L with | nil => exact absurd rfl hne | cons _ _ => simp
    have HV := Lib.hid hv
    clear hcells hne h0 hv
    have g1 : ¬ (L.length : Int) < 1 := by omega
    by_cases h64 : L.length ≤ 64
    · have h64' : ¬ (64 : Int) < L.length := by omega
      by_cases hnm : p0.name.toList = [66, 79, 83]
      · by_cases hk0 : p0.kind = 0
        · have hbos : isBos p0 = true := by simp [isBos, seq, hnm, hk0, bos, Lib.toList_data]
          have hv2 : V = posAll L L 0 := by rw [HV.out, hbos]; simp [h64]
          have HV2 := Lib.hid hv2
          have HC2 : Hid (∀ W, Grows w W → ∀ k p, L[k]? = some p → W.cell? ⟨b, off + k * 2, none⟩ = some (.string p.name) ∧ W.cell? ⟨b, off + k * 2 + 1, none⟩ = some (.int .i64 p.kind)) :=
            fun W hW k p hp => ⟨hW.cell (HC.out k p hp 0 _ rfl), hW.cell (HC.out k p hp 1 _ rfl)⟩
          clear hbos hv2 HV HC
          go_enter Tryz.func26, Tryz.ntmps26
          go_wp2_with fail
          clear c0 c1 hnm hk0
          go_loop [3] (fun i => ∃ k : Nat, k ≤ L.length ∧ i = .int .i64 k ∧ Hid (∀ j q, j < k → L[j]? = some q → posOK L j q = true)) (fun i => L.length - (intOf i).toNat)
          case atStart => exact ⟨0, Nat.zero_le _, rfl, fun j q hj => by omega⟩
          case round =>
            obtain ⟨k, hk, rfl, hz⟩ := hrel
            by_cases hlt : k < L.length
            · obtain ⟨p, hp⟩ : ∃ p, L[k]? = some p := ⟨_, List.getElem?_eq_getElem hlt⟩
              obtain ⟨d0, d1⟩ := HC2.out w (Grows.refl _) k p hp
              have hns := hn p (List.mem_of_getElem? hp)
              have HP := Lib.hid hp
              clear hp
              have hF := find2_any L p.name (some ⟨b, off, none⟩) cap w hl HS.out
              obtain ⟨f, hf⟩ : ∃ f, f = findI (posFind L p.name) := ⟨_, rfl⟩
              obtain ⟨nm, hnm⟩ : ∃ nm, nm = namedS p.name := ⟨_, rfl⟩
              have con := name2_any p.name w hns
              have hok : posOK L k p = (f == (k : Int) && nm && decide (0 ≤ p.kind) && decide (p.kind ≤ 2)) := by rw [hf, hnm]; rfl
              rw [← hf] at hF
              rw [← hnm] at con
              generalize (posFind L p.name).isSome = fs at hF
              have HCON := Lib.hid con
              have HF := Lib.hid hF
              have HOK := Lib.hid hok
              clear hf hnm con hok hF
              cases nm
              · have hfin : V = false := HV2.out.trans (posAll_hit HP.out hz.out (by rw [HOK.out]; simp))
                have HFIN := Lib.hid hfin
                clear hfin
                go_wp2_with (first | (go_at_call 49; refine HF.out.mono ?_; rintro e w1 ⟨rfl, rfl⟩) | (go_at_call 50; refine HCON.out.mono ?_; rintro e w1 ⟨rfl, rfl⟩))
                go_ret
                exact ⟨ret_bool HFIN.out.symm, Grows.refl _⟩
              · by_cases hk0 : p.kind < 0
                · have hfin : V = false := HV2.out.trans (posAll_hit HP.out hz.out (by rw [HOK.out]; simp; omega))
                  have HFIN := Lib.hid hfin
                  clear hfin
                  go_wp2_with (first | (go_at_call 49; refine HF.out.mono ?_; rintro e w1 ⟨rfl, rfl⟩) | (go_at_call 50; refine HCON.out.mono ?_; rintro e w1 ⟨rfl, rfl⟩))
                  go_ret
                  exact ⟨ret_bool HFIN.out.symm, Grows.refl _⟩
                · by_cases hk2 : 2 < p.kind
                  · have hfin : V = false := HV2.out.trans (posAll_hit HP.out hz.out (by rw [HOK.out]; simp; omega))
                    have HFIN := Lib.hid hfin
                    clear hfin
                    go_wp2_with (first | (go_at_call 49; refine HF.out.mono ?_; rintro e w1 ⟨rfl, rfl⟩) | (go_at_call 50; refine HCON.out.mono ?_; rintro e w1 ⟨rfl, rfl⟩))
                    go_ret
                    exact ⟨ret_bool HFIN.out.symm, Grows.refl _⟩
                  · cases hfk : (f == (k : Int))
                    · have h1 : (f != (k : Int)) = true := by rw [bne, hfk]; rfl
                      have hfin : V = false := HV2.out.trans (posAll_hit HP.out hz.out (by rw [HOK.out, hfk]; rfl))
                      have HFIN := Lib.hid hfin
                      clear hfin hfk
                      go_wp2_with (first | (go_at_call 49; refine HF.out.mono ?_; rintro e w1 ⟨rfl, rfl⟩) | (go_at_call 50; refine HCON.out.mono ?_; rintro e w1 ⟨rfl, rfl⟩))
                      go_ret
                      exact ⟨ret_bool HFIN.out.symm, Grows.refl _⟩
                    · have h1 : (f != (k : Int)) = false := by rw [bne, hfk]; rfl
                      have hok : posOK L k p = true := by rw [HOK.out, hfk]; simp; omega
                      have HOK2 := Lib.hid hok
                      clear hfk hok
                      go_wp2_with (first | (go_at_call 49; refine HF.out.mono ?_; rintro e w1 ⟨rfl, rfl⟩) | (go_at_call 50; refine HCON.out.mono ?_; rintro e w1 ⟨rfl, rfl⟩))
                      go_round
                      case rel => exact ⟨k + 1, by omega, by go_num, fun j q hj hq => by
                        rcases Nat.lt_succ_iff_lt_or_eq.1 hj with h | rfl
                        · exact hz.out j q h hq
                        · rw [HP.out] at hq; obtain rfl := Option.some.inj hq; exact HOK2.out⟩
                      case measure => simp [intOf]; omega
            · obtain rfl : k = L.length := by omega
              have hfin : V = true := HV2.out.trans (posAll_end hz.out)
              have HFIN := Lib.hid hfin
              clear hfin
              go_wp2
              go_ret
              exact ⟨ret_bool HFIN.out.symm, Grows.refl _⟩
        · have hfin : V = false := by rw [HV.out]; simp [isBos, hk0]
          have HF := Lib.hid hfin
          have hk0' : (p0.kind != 0) = true := by simpa using hk0
          clear hfin HV
          go_enter Tryz.func26, Tryz.ntmps26
          go_wp2
          go_ret
          exact ⟨ret_bool HF.out.symm, Grows.refl _⟩
      · have hfin : V = false := by rw [HV.out]; simp [isBos, seq, bos, Lib.toList_data]; intro _ h; exact absurd (by rw [Lib.toList_data]; exact h) hnm
        have HF := Lib.hid hfin
        clear hfin HV
        go_enter Tryz.func26, Tryz.ntmps26
        go_wp2
        go_ret
        exact ⟨ret_bool HF.out.symm, Grows.refl _⟩
    · have h64' : (64 : Int) < L.length := by omega
      have hfin : V = false := by rw [HV.out]; simp [h64]
      have HF := Lib.hid hfin
      clear hfin HV
      go_enter Tryz.func26, Tryz.ntmps26
      go_wp2
      go_ret
      exact ⟨ret_bool HF.out.symm, Grows.refl _⟩
end Go.Proofs.YtcdjponbhpchbaaGreatDoor
