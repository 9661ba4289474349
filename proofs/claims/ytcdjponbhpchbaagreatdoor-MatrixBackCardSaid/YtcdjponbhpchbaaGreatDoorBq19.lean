/- The texts NumA NumM, one behind the other. -/
import Derived.Test.YtcdjponbhpchbaaGreatDoorBq17
import Derived.Test.YtcdjponbhpchbaaGreatDoorBq3
import Derived.Test.YtcdjponbhpchbaaGreatDoorBq5
import Derived.Lib.AtoiErrMem
import Derived.Test.YtcdjponbhpchbaaGreatDoorBq12
namespace Go.Proofs.YtcdjponbhpchbaaGreatDoor
open Go Go.RowKit Go.Shelf
attribute [local go_sem] quietE

set_option maxRecDepth 100000 in
theorem info140 : (Tryz.prog.info? 119).map (fun i => (i.zero, i.size)) = some (some (.agg (Array.replicate 256 (.bool false))), 256) := by kernel_rfl
set_option maxRecDepth 100000 in
theorem trim_any (s : ByteArray) (w : World) (hs : s.size ≤ 9223372036854775807) :
    Calls Tryz.prog 44 #[.string s, .string digs] w fun e w' => e = .returned (.string ⟨(Lib.trimS s.data.toList digs.data.toList).toArray⟩) ∧ Grows w w' :=
  Any.strings_Trim_laid Tryz.laysTrim info140 s digs w hs (by decide) digs_ascii

def numV (s : ByteArray) : Int := if numOK s.data.toList then (decVal s.data.toList : Int) else 0
theorem isEmpty_toList (s : ByteArray) : s.toList.isEmpty = s.data.toList.isEmpty := by rw [Lib.toList_data]
theorem mk_nil {l : List UInt8} : ((⟨l.toArray⟩ : ByteArray).toList == []) = l.isEmpty := by
  rw [Lib.toList_data]; cases l <;> simp

theorem atoi_any (s : ByteArray) (w : World) (hok : numOK s.data.toList = true) :
    Calls Tryz.prog 45 #[.string s] w fun e w' => e = .returned (.tuple #[.int .i64 (decVal s.data.toList), .nilIface]) ∧ Grows w w' := by
  simp only [numOK, Bool.and_eq_true, Bool.not_eq_true', decide_eq_true_eq] at hok
  obtain ⟨⟨⟨h1, h2⟩, _⟩, h4⟩ := hok
  have hne : s.data.toList ≠ [] := by intro h; rw [h] at h1; simp at h1
  refine (Tryz.strconv_Atoi_ok s (by rw [Lib.size_eq]; omega) _ (atoi_dec _ hne h4 h2) w).mono ?_
  rintro e w' ⟨rfl, rfl | ⟨t, rfl⟩⟩
  · exact ⟨rfl, Grows.refl _⟩
  · exact ⟨rfl, Lib.bytesWorld_below _ _ _⟩
end Go.Proofs.YtcdjponbhpchbaaGreatDoor
namespace Go.Proofs.YtcdjponbhpchbaaGreatDoor
open Go Go.RowKit Go.Shelf
attribute [local go_sem] quietE

/-- One to five digits. -/
def digOK (l : List UInt8) : Bool := !l.isEmpty && decide (l.length ≤ 5) && l.all isDig
def numMv (s : ByteArray) : Int := if digOK s.data.toList then (decVal s.data.toList : Int) else 0
def numMb (s : ByteArray) : Bool := digOK s.data.toList && decide (decVal s.data.toList ≤ 30000)
theorem atoi16_any (s : ByteArray) (w : World) (hok : digOK s.data.toList = true) :
    Calls Tryz.prog 45 #[.string s] w fun e w' => e = .returned (.tuple #[.int .i64 (decVal s.data.toList), .nilIface]) ∧ Grows w w' := by
  simp only [digOK, Bool.and_eq_true, Bool.not_eq_true', decide_eq_true_eq] at hok
  obtain ⟨⟨h1, h2⟩, h4⟩ := hok
  have hne : s.data.toList ≠ [] := by intro h; rw [h] at h1; simp at h1
  refine (Tryz.strconv_Atoi_ok s (by rw [Lib.size_eq]; omega) _ (atoi_dec _ hne h4 (by omega)) w).mono ?_
  rintro e w' ⟨rfl, rfl | ⟨t, rfl⟩⟩
  · exact ⟨rfl, Grows.refl _⟩
  · exact ⟨rfl, Lib.bytesWorld_below _ _ _⟩
theorem isC_nat (n : Nat) : isC (n : Int) = decide (n ≤ 30000) := by
  unfold isC
  rw [Bool.eq_iff_iff]
  simp
  omega
set_option maxHeartbeats 2000000 in
theorem number16_any (s : ByteArray) (w : World) (hs : s.size < 9223372036854775807) :
    Calls Tryz.prog 23 #[.string s] w fun e w' => e = .returned (.tuple #[.int .i64 (numMv s), .bool (numMb s)]) ∧ Grows w w' := by
  have T : ∀ W, ∃ tr : ByteArray, tr.toList.isEmpty = s.data.toList.all isDig ∧ Calls Tryz.prog 44 #[.string s, .string ⟨#[48, 49, 50, 51, 52, 53, 54, 55, 56, 57]⟩] W fun e w' => e = .returned (.string tr) ∧ Grows W w' := fun W => by
    refine ⟨_, ?_, trim_any s W (by omega)⟩
    rw [Lib.toList_data, Bool.eq_iff_iff, ← trimS_nil]
    simp
  cases he : s.toList.isEmpty
  · have hne : s.data.toList.isEmpty = false := by rw [← isEmpty_toList]; exact he
    by_cases h5 : s.size ≤ 5
    · have hD : digOK s.data.toList = s.data.toList.all isDig := by
        unfold digOK; rw [hne, ← Lib.size_eq]; simp [h5]
      have h5' : (s.size : Int) ≤ 5 := by omega
      obtain ⟨tr, htr, hT⟩ := T w
      have HT := Lib.hid hT
      rw [← hD] at htr
      unfold numMv numMb
      clear T hT hne hD
      cases hok : digOK s.data.toList
      · rw [hok] at htr
        have h1 : (!tr.toList.isEmpty) = true := by rw [htr]; rfl
        clear hok
        go_enter Tryz.func23, Tryz.ntmps23
        go_wp2_with (first | (go_at_call 44; refine HT.out.mono ?_; rintro e w1 ⟨rfl, hg⟩))
        go_ret2
        exact ⟨rfl, hg⟩
      · rw [hok] at htr
        have A := fun W => Lib.hid (atoi16_any s W hok)
        rw [if_pos (by rfl), Bool.true_and, ← isC_nat]
        generalize (decVal s.data.toList : Int) = v at A ⊢
        clear hok
        go_enter Tryz.func23, Tryz.ntmps23
        go_wp2_with (first | (go_at_call 44; refine HT.out.mono ?_; rintro e w1 ⟨rfl, hg⟩) | (go_at_call 45; refine (A _).out.mono ?_; rintro e w2 ⟨rfl, hg2⟩) | (go_at_call 34; refine (isCost_any _ _).mono ?_; rintro e w3 ⟨rfl, rfl⟩))
        go_ret2
        exact ⟨rfl, hg.tr hg2⟩
    · have hn : digOK s.data.toList = false := by unfold digOK; rw [← Lib.size_eq]; simp [h5]
      have h5' : ¬ (s.size : Int) ≤ 5 := by omega
      unfold numMv numMb
      rw [hn]
      clear hn hne T
      go_enter Tryz.func23, Tryz.ntmps23
      go_wp2_with fail
      go_ret2
      exact ⟨rfl, Grows.refl _⟩
  · have hn : digOK s.data.toList = false := by unfold digOK; rw [← isEmpty_toList, he]; rfl
    unfold numMv numMb
    rw [hn]
    clear hn T
    go_enter Tryz.func23, Tryz.ntmps23
    go_wp2_with fail
    go_ret2
    exact ⟨rfl, Grows.refl _⟩
end Go.Proofs.YtcdjponbhpchbaaGreatDoor
