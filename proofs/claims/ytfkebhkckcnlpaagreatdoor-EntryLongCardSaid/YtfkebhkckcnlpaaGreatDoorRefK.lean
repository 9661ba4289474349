import Derived.Test.YtfkebhkckcnlpaaGreatDoorRunes
import Derived.Test.YtfkebhkckcnlpaaGreatDoorKanaP
import Derived.Test.YtfkebhkckcnlpaaGreatDoorNum
namespace Go.Proofs.YtfkebhkckcnlpaaGreatDoor
open Go Go.RowKit
attribute [local go_sem] quietE

theorem between_any (c l h : Int) (w : World) :
    Calls Tryz.prog 97 #[.int .i32 c, .int .i32 l, .int .i32 h] w fun e w' => e = .returned (.bool (decide (l ≤ c) && decide (c ≤ h))) ∧ w = w' := by
  go_enter Tryz.func97, Tryz.ntmps97
  go_wp2
  all_goals (go_ret; refine ⟨ret_bool ?_, rfl⟩; rw [Bool.eq_iff_iff]; simp; try omega)
set_option maxHeartbeats 4000000 in
theorem class2_any (c : Int) (w : World) : Calls Tryz.prog 68 #[.int .i32 c] w (ClassPost c w) := by
  cases h : isHira c
  · have hN := Lib.hid (show ∀ r : Int, r ≠ 1 → (r = 1 ↔ isHira c = true) from fun r hr => by simp [h, hr])
    have HB := between_any c 12353 12438 w
    have hb : (decide ((12353 : Int) ≤ c) && decide (c ≤ 12438)) = false := h
    rw [hb] at HB
    have HB2 := Lib.hid HB
    clear hb h HB
    go_enter Tryz.func68, Tryz.ntmps68
    go_wp2_with fail
    refine HB2.out.mono ?_
    rintro e w1 ⟨rfl, rfl⟩
    go_wp2_with (first | (go_at_call 97; refine (between_any _ _ _ _).mono ?_; rintro e w1 ⟨rfl, rfl⟩))
    all_goals (go_ret; exact ⟨_, rfl, hN.out _ (by decide), rfl⟩)
  · have HB := between_any c 12353 12438 w
    have hb : (decide ((12353 : Int) ≤ c) && decide (c ≤ 12438)) = true := h
    rw [hb] at HB
    have HB2 := Lib.hid HB
    have HH := Lib.hid h
    clear hb h HB
    go_enter Tryz.func68, Tryz.ntmps68
    go_wp2_with fail
    refine HB2.out.mono ?_
    rintro e w1 ⟨rfl, rfl⟩
    go_wp2
    go_ret
    exact ⟨1, rfl, by simp [HH.out], rfl⟩

theorem any_drop {p : Nat → Bool} {l : List Nat} {k c : Nat} (h : l[k]? = some c) : (l.drop k).any p = (p c || (l.drop (k + 1)).any p) := by
  have hlt := (List.getElem?_eq_some_iff.1 h).1
  rw [List.drop_eq_getElem_cons hlt, List.any_cons, (List.getElem?_eq_some_iff.1 h).2]

set_option maxHeartbeats 2000000 in
set_option maxRecDepth 100000 in
theorem reading2_any (s : ByteArray) (w : World) (hs : s.size ≤ 35184372088832) :
    Calls Tryz.prog 32 #[.string s] w fun e w' => e = .returned (.bool (readingS s)) ∧ Grows w w' := by
  have HR := Lib.hid (runes_any s w hs)
  have hlen := runesD_len s.data.toList
  rw [← Lib.size_eq] at hlen
  rw [readingS_D]
  unfold RunesPost at HR
  generalize Lib.validD s.data.toList = v at *
  generalize runesD s.data.toList = rs at *
  cases v
  · go_enter Tryz.func32, Tryz.ntmps32
    go_wp2_with (first | (go_at_call 67; refine HR.out.mono ?_; rintro e w1 ⟨a, c, rfl, hat, hg1⟩))
    go_ret
    exact ⟨rfl, hg1⟩
  · simp only [if_true] at HR
    by_cases h1 : 1 ≤ rs.length
    · by_cases h2 : rs.length ≤ 64
      · have g1 : ¬ (rs.length : Int) < 1 := by omega
        have g2 : ¬ (64 : Int) < rs.length := by omega
        have e1 : (decide (1 ≤ rs.length)) = true := by simpa using h1
        have e2 : (decide (rs.length ≤ 64)) = true := by simpa using h2
        rw [e1, e2]
        clear e1 e2 h1 h2
        go_enter Tryz.func32, Tryz.ntmps32
        go_wp2_with (first | (go_at_call 67; refine HR.out.mono ?_; rintro e w1 ⟨a, c, rfl, hat, hg1⟩))
        go_loopw [5] (fun i wr => ∃ k : Nat, k ≤ rs.length ∧ i = .int .i64 k ∧ Hid (rs.any kanaBad = (rs.drop k).any kanaBad) ∧ Grows w1 wr) (fun i _ => rs.length - (intOf i).toNat)
        case atStart => exact ⟨0, Nat.zero_le _, rfl, rfl, Grows.refl _⟩
        case round =>
          obtain ⟨k, hk, rfl, hinv, hg⟩ := hrel
          by_cases hlt : k < rs.length
          · obtain ⟨x, hx⟩ : ∃ x, rs[k]? = some x := ⟨_, List.getElem?_eq_getElem hlt⟩
            obtain ⟨ba, oa, rfl, hca⟩ := (hat.grows hg).get (ne_nil_of_lt hlt)
            have c0 : wr.cell? ⟨ba, oa + k, none⟩ = some (.int .i32 x) := by simpa using hca k _ hx 0 _ rfl
            have hi := hinv.out
            rw [any_drop hx] at hi
            have HI := Lib.hid hi
            clear hinv hi hca hx
            by_cases h12540 : (x : Int) = 12540
            · have hkb : kanaBad x = false := by unfold kanaBad; simp [h12540]
              have hi2 : rs.any kanaBad = (rs.drop (k + 1)).any kanaBad := by rw [HI.out, hkb]; rfl
              have HI2 := Lib.hid hi2
              have hne : ((x : Int) != 12540) = false := by simp [h12540]
              clear HI hkb hi2 h12540
              go_wp2_with (first | (go_at_call 68; refine (class2_any _ _).mono ?_; rintro e w2 ⟨r, rfl, hr, rfl⟩; clear hr))
              all_goals
                go_roundw
                case rel => exact ⟨k + 1, hlt, by go_num, HI2.out, hg⟩
                case measure => simp [intOf]; omega
            · have hne : ((x : Int) != 12540) = true := by simp [h12540]
              have hkb : kanaBad x = !isHira x := by unfold kanaBad; simp [h12540]
              cases hh : isHira x
              · have hi2 : rs.any kanaBad = true := by rw [HI.out, hkb, hh]; rfl
                have HI2 := Lib.hid hi2
                have HH := Lib.hid hh
                clear HI hkb hi2 h12540 hh
                go_wp2_with (first | (go_at_call 68; refine (class2_any _ _).mono ?_; rintro e w2 ⟨r, rfl, hr, rfl⟩; have hr1 : (r != 1) = true := (by rw [HH.out] at hr; simpa using hr); clear hr))
                go_ret
                exact ⟨ret_bool (by rw [HI2.out]; rfl), hg1.tr hg⟩
              · have hi2 : rs.any kanaBad = (rs.drop (k + 1)).any kanaBad := by rw [HI.out, hkb, hh]; rfl
                have HI2 := Lib.hid hi2
                have HH := Lib.hid hh
                clear HI hkb hi2 h12540 hh
                go_wp2_with (first | (go_at_call 68; refine (class2_any _ _).mono ?_; rintro e w2 ⟨r, rfl, hr, rfl⟩; have hr1 : (r != 1) = false := (by rw [HH.out] at hr; simpa using hr); clear hr))
                go_roundw
                case rel => exact ⟨k + 1, hlt, by go_num, HI2.out, hg⟩
                case measure => simp [intOf]; omega
          · obtain rfl : k = rs.length := by omega
            have hi2 : rs.any kanaBad = false := by rw [hinv.out, List.drop_length]; rfl
            have HI2 := Lib.hid hi2
            clear hinv hi2 hat
            go_wp2
            go_ret
            exact ⟨ret_bool (by rw [HI2.out]; rfl), hg1.tr hg⟩
      · have g1 : ¬ (rs.length : Int) < 1 := by omega
        have g2 : (64 : Int) < rs.length := by omega
        have e2 : (decide (rs.length ≤ 64)) = false := by simpa using h2
        rw [e2]
        clear e2 h2 h1
        go_enter Tryz.func32, Tryz.ntmps32
        go_wp2_with (first | (go_at_call 67; refine HR.out.mono ?_; rintro e w1 ⟨a, c, rfl, hat, hg1⟩))
        go_ret
        exact ⟨ret_bool (by simp), hg1⟩
    · have g1 : (rs.length : Int) < 1 := by omega
      have e1 : (decide (1 ≤ rs.length)) = false := by simpa using h1
      rw [e1]
      clear e1 h1
      go_enter Tryz.func32, Tryz.ntmps32
      go_wp2_with (first | (go_at_call 67; refine HR.out.mono ?_; rintro e w1 ⟨a, c, rfl, hat, hg1⟩))
      go_ret
      exact ⟨ret_bool (by simp), hg1⟩

set_option maxHeartbeats 2000000 in
set_option maxRecDepth 100000 in
theorem surface2_any (s : ByteArray) (w : World) (hs : s.size ≤ 35184372088832) :
    Calls Tryz.prog 33 #[.string s] w fun e w' => e = .returned (.bool (surfaceS s)) ∧ Grows w w' := by
  have HR := Lib.hid (runes_any s w hs)
  have hlen := runesD_len s.data.toList
  rw [← Lib.size_eq] at hlen
  rw [surfaceS_D]
  unfold RunesPost at HR
  have hq : ∃ L : List Nat, L.length ≤ s.size ∧ (Lib.validD s.data.toList = true → L = runesD s.data.toList) ∧ Hid (Calls Tryz.prog 67 #[.string s] w fun e w' => ∃ a cap, e = .returned (.tuple #[.slice a L.length cap, .bool (Lib.validD s.data.toList)]) ∧ AtCells w' a 1 (L.map runeC) ∧ Grows w w') ∧ (Lib.validD s.data.toList = false → L = []) := by
    cases hv : Lib.validD s.data.toList
    · exact ⟨[], Nat.zero_le _, (fun h => by cases h), by rw [hv] at HR; exact HR, fun _ => rfl⟩
    · exact ⟨runesD s.data.toList, hlen, fun _ => rfl, by rw [hv] at HR; exact HR, (fun h => by cases h)⟩
  obtain ⟨rs, hl2, hL, HR2, hL2⟩ := hq
  have hres : (Lib.validD s.data.toList && decide (1 ≤ (runesD s.data.toList).length) && decide ((runesD s.data.toList).length ≤ 64) && !(runesD s.data.toList).any surfBad) = (Lib.validD s.data.toList && decide (1 ≤ rs.length) && decide (rs.length ≤ 64) && !rs.any surfBad) := by
    cases hv : Lib.validD s.data.toList
    · rfl
    · rw [hL hv]
  rw [hres]
  clear HR hlen hres
  generalize Lib.validD s.data.toList = v at *
  have HL2 := Lib.hid hL2
  clear hL hL2
  go_enter Tryz.func33, Tryz.ntmps33
  go_wp2_with (first | (go_at_call 67; refine HR2.out.mono ?_; rintro e w1 ⟨a, c, rfl, hat, hg1⟩))
  go_loopw [5] (fun i wr => ∃ k : Nat, k ≤ rs.length ∧ i = .int .i64 k ∧ Hid (rs.any surfBad = (rs.drop k).any surfBad) ∧ Grows w1 wr) (fun i _ => rs.length - (intOf i).toNat)
  case atStart => exact ⟨0, Nat.zero_le _, rfl, rfl, Grows.refl _⟩
  case round =>
    obtain ⟨k, hk, rfl, hinv, hg⟩ := hrel
    by_cases hlt : k < rs.length
    · obtain ⟨x, hx⟩ : ∃ x, rs[k]? = some x := ⟨_, List.getElem?_eq_getElem hlt⟩
      obtain ⟨ba, oa, rfl, hca⟩ := (hat.grows hg).get (ne_nil_of_lt hlt)
      have c0 : wr.cell? ⟨ba, oa + k, none⟩ = some (.int .i32 x) := by simpa using hca k _ hx 0 _ rfl
      have hi := hinv.out
      rw [any_drop hx] at hi
      have HI := Lib.hid hi
      clear hinv hi hca hx
      cases hh : surfBad x
      · have hi2 : rs.any surfBad = (rs.drop (k + 1)).any surfBad := by rw [HI.out, hh]; rfl
        have HI2 := Lib.hid hi2
        have q1 : ¬ (x : Int) < 32 := by unfold surfBad at hh; simp at hh; omega
        have q2 : (x : Int) < 127 ∨ 160 ≤ (x : Int) := by unfold surfBad at hh; simp at hh; omega
        clear HI hi2 hh
        rcases q2 with q2 | q2
        · have q3 : ¬ 127 ≤ (x : Int) := by omega
          go_wp2
          go_roundw
          case rel => exact ⟨k + 1, hlt, by go_num, HI2.out, hg⟩
          case measure => simp [intOf]; omega
        · have q3 : 127 ≤ (x : Int) := by omega
          have q4 : ¬ (x : Int) < 160 := by omega
          go_wp2
          go_roundw
          case rel => exact ⟨k + 1, hlt, by go_num, HI2.out, hg⟩
          case measure => simp [intOf]; omega
      · have hi2 : rs.any surfBad = true := by rw [HI.out, hh]; rfl
        have HI2 := Lib.hid hi2
        have q2 : (x : Int) < 32 ∨ (¬ (x : Int) < 32 ∧ 127 ≤ (x : Int) ∧ (x : Int) < 160) := by unfold surfBad at hh; simp at hh; omega
        clear HI hi2 hh
        rcases q2 with q2 | ⟨q2, q3, q4⟩
        · go_wp2
          go_ret
          exact ⟨ret_bool (by rw [HI2.out]; simp), hg1.tr hg⟩
        · go_wp2
          go_ret
          exact ⟨ret_bool (by rw [HI2.out]; simp), hg1.tr hg⟩
    · obtain rfl : k = rs.length := by omega
      have hi2 : rs.any surfBad = false := by rw [hinv.out, List.drop_length]; rfl
      have HI2 := Lib.hid hi2
      clear hinv hi2 hat
      cases v
      · go_wp2
        go_ret
        exact ⟨rfl, hg1.tr hg⟩
      · by_cases h1 : 1 ≤ rs.length
        · have g1 : (1 : Int) ≤ rs.length := by omega
          go_wp2
          go_ret
          exact ⟨ret_bool (by rw [HI2.out, Bool.eq_iff_iff]; simp; omega), hg1.tr hg⟩
        · have g1 : ¬ (1 : Int) ≤ rs.length := by omega
          go_wp2
          go_ret
          exact ⟨ret_bool (by first | rfl | (simp; omega) | (rw [HI2.out, Bool.eq_iff_iff]; simp; omega)), hg1.tr hg⟩

set_option maxHeartbeats 2000000 in
set_option maxRecDepth 100000 in
theorem rcheck_any (r s : ByteArray) (l t c n : Int) (w : World) (hr : r.size ≤ 35184372088832) (hs : s.size ≤ 35184372088832) :
    Calls Tryz.prog 13 #[.agg #[.string r, .string s, .int .i64 l, .int .i64 t, .int .i64 c], .int .i64 n] w fun e w' => e = .returned (.int .i64 (checkS r s l t c n)) ∧ Grows w w' := by
  have C1 : ∀ W, Hid (Calls Tryz.prog 32 _ W _) := fun W => Lib.hid (reading2_any r W hr)
  have C2 : ∀ W, Hid (Calls Tryz.prog 33 _ W _) := fun W => Lib.hid (surface2_any s W hs)
  unfold checkS
  generalize readingS r = br at C1 ⊢
  generalize surfaceS s = bs at C2 ⊢
  have box : ∀ {W : World}, Grows (w.alloc (.cells #[.string r, .string s, .int .i64 l, .int .i64 t, .int .i64 c] 23)) W → W.cell? ⟨w.heap.size, 1, none⟩ = some (.string s) ∧ W.cell? ⟨w.heap.size, 2, none⟩ = some (.int .i64 l) ∧ W.cell? ⟨w.heap.size, 3, none⟩ = some (.int .i64 t) ∧ W.cell? ⟨w.heap.size, 4, none⟩ = some (.int .i64 c) := fun hg =>
    ⟨(box_in hg rfl) 1 _ rfl, (box_in hg rfl) 2 _ rfl, (box_in hg rfl) 3 _ rfl, (box_in hg rfl) 4 _ rfl⟩
  have BOX : Hid (∀ {W : World}, Grows (w.alloc (.cells #[.string r, .string s, .int .i64 l, .int .i64 t, .int .i64 c] 23)) W → W.cell? ⟨w.heap.size, 1, none⟩ = some (.string s) ∧ W.cell? ⟨w.heap.size, 2, none⟩ = some (.int .i64 l) ∧ W.cell? ⟨w.heap.size, 3, none⟩ = some (.int .i64 t) ∧ W.cell? ⟨w.heap.size, 4, none⟩ = some (.int .i64 c)) := @box
  clear box
  cases br
  · go_enter Tryz.func13, Tryz.ntmps13
    go_wp2_with (first | (go_at_call 32; refine (C1 _).out.mono ?_; rintro e w1 ⟨rfl, hg1⟩))
    go_ret
    exact ⟨rfl, (Grows.alloc _ _).tr hg1⟩
  · cases bs
    · go_enter Tryz.func13, Tryz.ntmps13
      go_wp2_with (first | (go_at_call 32; refine (C1 _).out.mono ?_; rintro e w1 ⟨rfl, hg1⟩; obtain ⟨k1, k2, k3, k4⟩ := BOX.out hg1) | (go_at_call 33; refine (C2 _).out.mono ?_; rintro e w2 ⟨rfl, hg2⟩))
      go_ret
      exact ⟨rfl, ((Grows.alloc _ _).tr hg1).tr hg2⟩
    · go_enter Tryz.func13, Tryz.ntmps13
      go_wp2_with (first | (go_at_call 32; refine (C1 _).out.mono ?_; rintro e w1 ⟨rfl, hg1⟩; obtain ⟨k1, k2, k3, k4⟩ := BOX.out hg1) | (go_at_call 33; refine (C2 _).out.mono ?_; rintro e w2 ⟨rfl, hg2⟩; replace k1 := hg2.cell k1; replace k2 := hg2.cell k2; replace k3 := hg2.cell k3; replace k4 := hg2.cell k4))
      all_goals (go_ret; refine ⟨ret_int ?_, ((Grows.alloc _ _).tr hg1).tr hg2⟩; first | rfl | (simp only [Bool.and_self, if_true]; done) | (simp only [Bool.and_self, if_true]; (repeat' split) <;> first | rfl | (exfalso; omega)))
end Go.Proofs.YtfkebhkckcnlpaaGreatDoor
