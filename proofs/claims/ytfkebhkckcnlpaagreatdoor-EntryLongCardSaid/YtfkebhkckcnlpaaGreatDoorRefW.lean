import Derived.Test.YtfkebhkckcnlpaaGreatDoorLines
import Derived.Test.YtfkebhkckcnlpaaGreatDoorNumP
namespace Go.Proofs.YtfkebhkckcnlpaaGreatDoor
open Go Go.RowKit
attribute [local go_sem] quietE

set_option maxHeartbeats 2000000 in
set_option maxRecDepth 100000 in
theorem words_any (s : ByteArray) (w : World) (hs : s.size ≤ 4294967290) :
    Calls Tryz.prog 74 #[.string s] w (StrsPost ((splitL 9 s.data.toList).map mkB) w) := by
  go_enter Tryz.func74, Tryz.ntmps74
  go_wp2_with fail
  go_loopw [3, 4, 5] (fun v f i wr => ∃ (j k : Nat) (ps : List ByteArray), j ≤ k ∧ k ≤ s.size ∧ f = .int .i64 j ∧ i = .int .i64 k ∧ Owns wr w.heap.size 9 1 strC v ps ∧ Hid (SplitInv 9 s j k ps) ∧ ps.length ≤ j ∧ Grows w wr) (fun _ _ i _ => s.size - (intOf i).toNat)
  case atStart => exact ⟨0, 0, [], Nat.le_refl _, Nat.zero_le _, rfl, rfl, Owns.nil _ _ _ _ _, SplitInv.start _ _, Nat.le_refl _, Grows.refl _⟩
  case round =>
    obtain ⟨j, k, ps, hjk, hk, rfl, rfl, hown, hsi, hpl, hg⟩ := hrel
    obtain ⟨a3, c3, rfl, hc1, hc2, _⟩ := hown.at_ strLay.len
    by_cases hlt : k < s.size
    · by_cases hc : s[k] = 9
      · have hsi2 := Lib.hid (hsi.out.hit hjk hlt hc)
        have hcb : ((s[k].toNat : Int) == 9) = true := by rw [hc]; rfl
        clear hsi hc
        go_wp2_with (at_builtin; refine app_one strLay rfl _ _ rfl w.heap.size _ _ (s.extract j k) rfl hown (Grows.refl _) wr.heap.size 1 rfl #[.string (s.extract j k)] rfl rfl (by omega) hg.size ?_; intro v' w5 hown' hg5)
        have hgw5 := hg5 w hg (Nat.le_refl _)
        go_wp2
        go_roundw
        case rel => exact ⟨k + 1, k + 1, _, Nat.le_refl _, hlt, by go_num, by go_num, hown', hsi2.out, by simp; omega, hgw5⟩
        case measure => simp [intOf]; omega
      · have hsi2 := Lib.hid (hsi.out.miss hjk hlt hc)
        have hcb : ((s[k].toNat : Int) == 9) = false := by
          rw [beq_eq_false_iff_ne]; intro e; apply hc; rw [← UInt8.toNat_inj]; show s[k].toNat = 9; omega
        clear hsi hc
        go_wp2
        go_roundw
        case rel => exact ⟨j, k + 1, ps, by omega, hlt, rfl, by go_num, hown, hsi2.out, hpl, hg⟩
        case measure => simp [intOf]; omega
    · obtain rfl : k = s.size := by omega
      have hfin := Lib.hid (hsi.out.fin hjk)
      clear hsi
      go_wp2_with (at_builtin; refine app_one strLay rfl _ _ rfl w.heap.size _ _ (s.extract j s.size) rfl hown (Grows.refl _) wr.heap.size 1 rfl #[.string (s.extract j s.size)] rfl rfl (by omega) hg.size ?_; intro v' w5 hown' hg5)
      have hgw5 := hg5 w hg (Nat.le_refl _)
      rw [← hfin.out] at hown'
      obtain ⟨a5, c5, rfl, hd1, hd2, hat⟩ := hown'.at_ strLay.len
      go_wp2
      go_ret
      exact ⟨_, _, rfl, hat, hgw5⟩

theorem take_next {s : ByteArray} {k : Nat} (h : k < s.size) : s.data.toList.take (k + 1) = s.data.toList.take k ++ [s[k]] := by
  have h2 : k < s.data.toList.length := by simpa using h
  rw [List.take_succ_eq_append_getElem h2]; rfl
theorem decVal_next (l : List UInt8) (c : UInt8) : decVal (l ++ [c]) = decVal l * 10 + (c.toNat - 48) := by
  have key : ∀ (l : List UInt8) (acc : Nat), decGo acc (l ++ [c]) = decGo acc l * 10 + (c.toNat - 48) := by
    intro l
    induction l with
    | nil => intro acc; rfl
    | cons b l ih => intro acc; exact ih _
  exact key l 0
theorem numOK_of {l : List UInt8} (h1 : l ≠ []) (h2 : l.length ≤ 9) (h3 : (l.head? == some 48 && !(l == [48])) = false) : numOK l = l.all isDig := by
  unfold numOK
  have : l.isEmpty = false := by simpa using h1
  rw [this, h3]; simp [h2]

def valI (b : Bool) (n : Nat) : Int := if b then (n : Int) else 0
set_option maxHeartbeats 2000000 in
set_option maxRecDepth 100000 in
theorem number2_any (s : ByteArray) (w : World) (hs : s.size ≤ 4294967290) :
    Calls Tryz.prog 75 #[.string s] w fun e w' => e = .returned (.tuple #[.int .i64 (valI (numOK s.data.toList) (decVal s.data.toList)), .bool (numOK s.data.toList)]) ∧ w = w' := by
  by_cases h1 : s.size < 1
  · have hn : numOK s.data.toList = false := by
      have : s.data.toList = [] := List.eq_nil_of_length_eq_zero (by rw [← Lib.size_eq]; omega)
      rw [this]; rfl
    have g1 : (s.size : Int) < 1 := by omega
    rw [hn]
    clear hn h1
    go_enter Tryz.func75, Tryz.ntmps75
    go_wp2
    go_ret2
    exact ⟨rfl, rfl⟩
  · have g1 : ¬ (s.size : Int) < 1 := by omega
    by_cases h9 : 9 < s.size
    · have hn : numOK s.data.toList = false := by unfold numOK; rw [← Lib.size_eq]; simp; omega
      have g9 : (9 : Int) < s.size := by omega
      rw [hn]
      clear hn h1 h9
      go_enter Tryz.func75, Tryz.ntmps75
      go_wp2
      go_ret2
      exact ⟨rfl, rfl⟩
    · have g9 : ¬ (9 : Int) < s.size := by omega
      have hpos : 0 < s.size := by omega
      have hcons : s.data.toList = s[0] :: s.data.toList.drop 1 := by
        have := drop_step hpos
        simpa using this
      have hb48 : (s[0] = 48) ↔ (s[0].toNat : Int) = 48 := by
        rw [← UInt8.toNat_inj]
        show s[0].toNat = 48 ↔ _
        omega
      by_cases h0 : (s[0].toNat : Int) = 48 ∧ 1 < s.size
      · have hn : numOK s.data.toList = false := by
          have hl : 1 < s.data.toList.length := by rw [← Lib.size_eq]; exact h0.2
          have e48 := hb48.2 h0.1
          rw [hcons] at hl ⊢
          unfold numOK
          rw [e48]
          cases hd : s.data.toList.drop 1 with
          | nil => rw [hd] at hl; simp at hl
          | cons b r => simp
        obtain ⟨h48, hl⟩ := h0
        have g48 : ((s[0].toNat : Int) == 48) = true := by simp [h48]
        have gl : (1 : Int) < s.size := by omega
        rw [hn]
        clear hn hcons hb48 h48 h1 h9
        go_enter Tryz.func75, Tryz.ntmps75
        go_wp2
        go_ret2
        exact ⟨rfl, rfl⟩
      · have hnum : numOK s.data.toList = s.data.toList.all isDig := by
          refine numOK_of (by rw [hcons]; simp) (by rw [← Lib.size_eq]; omega) ?_
          rw [hcons]
          by_cases e48 : s[0] = 48
          · have hl : ¬ 1 < s.size := fun hl => h0 ⟨hb48.1 e48, hl⟩
            have hd : s.data.toList.drop 1 = [] := by rw [List.drop_eq_nil_iff, ← Lib.size_eq]; omega
            rw [hd, e48]; rfl
          · simp [e48]
        have g : ((s[0].toNat : Int) == 48) = false ∨ (((s[0].toNat : Int) == 48) = true ∧ ¬ (1 : Int) < s.size) := by
          by_cases h48 : (s[0].toNat : Int) = 48
          · exact Or.inr ⟨by simp [h48], fun hl => h0 ⟨h48, by omega⟩⟩
          · exact Or.inl (by simp [h48])
        rw [hnum]
        have h9' : s.size ≤ 9 := by omega
        obtain ⟨b, hbb⟩ : ∃ b, b = s.data.toList.all isDig := ⟨_, rfl⟩
        rw [← hbb]
        have HBB := Lib.hid hbb
        clear hbb hnum hcons hb48 h0 h1 h9
        rcases g with g48 | ⟨g48, gl⟩
        all_goals
          go_enter Tryz.func75, Tryz.ntmps75
          go_wp2_with fail
          go_loop [4, 5] (fun n i => ∃ k : Nat, k ≤ s.size ∧ i = .int .i64 k ∧ n = .int .i64 (decVal (s.data.toList.take k) : Nat) ∧ Hid ((s.data.toList.take k).all isDig = true)) (fun _ i => s.size - (intOf i).toNat)
          case atStart => exact ⟨0, Nat.zero_le _, rfl, rfl, rfl⟩
          case round =>
            obtain ⟨k, hk, rfl, rfl, hd⟩ := hrel
            by_cases hlt : k < s.size
            · have htk := take_next hlt
              have hlen : (s.data.toList.take k).length ≤ 9 := by rw [List.length_take]; omega
              have hb := dec_bound _ hd.out hlen
              by_cases hdig : isDig s[k] = true
              · have hdr : 48 ≤ s[k].toNat ∧ s[k].toNat ≤ 57 := by simpa [isDig] using hdig
                obtain ⟨d1, d2⟩ := hdr
                have e1 : ¬ (s[k].toNat : Int) < 48 := by omega
                have e2 : ¬ (57 : Int) < s[k].toNat := by omega
                have e3 : (48 : Int) ≤ s[k].toNat := by omega
                have e4 : (s[k].toNat : Int) ≤ 57 := by omega
                have hd2 : (s.data.toList.take (k + 1)).all isDig = true := by rw [htk, List.all_append, hd.out]; simp [hdig]
                have hv : decVal (s.data.toList.take (k + 1)) = decVal (s.data.toList.take k) * 10 + (s[k].toNat - 48) := by rw [htk, decVal_next]
                have HD2 := Lib.hid hd2
                have HV := Lib.hid hv
                generalize decVal (s.data.toList.take k) = v at *
                have hb' : (v : Int) < 1000000000 := by omega
                clear htk hd hd2 hv hdig hlen hb
                go_wp2
                refine ⟨⟨k + 1, hlt, by go_num, ?_, HD2.out⟩, by simp [intOf]; omega⟩
                rw [HV.out]
                congr 1
                omega
              · have hdf : isDig s[k] = false := by simpa using hdig
                have hfin : b = false := by
                  rw [HBB.out, ← List.take_append_drop (k + 1) s.data.toList, htk]
                  simp [hdf]
                have HF := Lib.hid hfin
                have hdr : (s[k].toNat : Int) < 48 ∨ (¬ (s[k].toNat : Int) < 48 ∧ (57 : Int) < s[k].toNat) := by
                  unfold isDig at hdf
                  simp at hdf
                  omega
                clear htk hd hdf hdig hfin hlen hb
                rcases hdr with d | ⟨d, d'⟩
                · go_wp2
                  go_ret2
                  rw [HF.out]
                  exact ⟨rfl, rfl⟩
                · go_wp2
                  go_ret2
                  rw [HF.out]
                  exact ⟨rfl, rfl⟩
            · obtain rfl : k = s.size := by omega
              have hfin : b = true := HBB.out.trans (by have := hd.out; rwa [show s.data.toList.take s.size = s.data.toList by rw [Lib.size_eq, List.take_length]] at this)
              have htk : s.data.toList.take s.size = s.data.toList := by rw [Lib.size_eq, List.take_length]
              rw [htk]
              have HF := Lib.hid hfin
              clear hd hfin htk
              go_wp2
              go_ret2
              rw [HF.out]
              exact ⟨rfl, rfl⟩
end Go.Proofs.YtfkebhkckcnlpaaGreatDoor
