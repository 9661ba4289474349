import Derived.Test.YtndhhgpmpnmljaaGreatDoorNumP
import Derived.Test.YtndhhgpmpnmljaaGreatDoorKana
import Derived.Lib.AtoiErrMem
namespace Go.Proofs.YtndhhgpmpnmljaaGreatDoor
open Go Go.RowKit Go.Shelf
attribute [local go_sem] quietE

set_option maxRecDepth 100000 in
theorem info140 : (Tryz.prog.info? 146).map (fun i => (i.zero, i.size)) = some (some (.agg (Array.replicate 256 (.bool false))), 256) := by kernel_rfl
set_option maxRecDepth 100000 in
theorem trim_any (s : ByteArray) (w : World) (hs : s.size ≤ 9223372036854775807) :
    Calls Tryz.prog 67 #[.string s, .string digs] w fun e w' => e = .returned (.string ⟨(Lib.trimS s.data.toList digs.data.toList).toArray⟩) ∧ Grows w w' :=
  Any.strings_Trim_laid Tryz.laysTrim info140 s digs w hs (by decide) digs_ascii

def checkS (r s : ByteArray) (l t c n : Int) : Int :=
  if readingS r && surfaceS s then (if l < 0 ∨ n ≤ l ∨ t < 0 ∨ n ≤ t then 150 else if c < 0 ∨ 30000 < c then 6 else 0) else 5

set_option maxHeartbeats 2000000 in
theorem echeck_any (r s : ByteArray) (l t c n : Int) (w : World) (hr : r.size < 9223372036854775807) (hs : s.size < 9223372036854775807) (he : Env w) :
    Calls Tryz.prog 31 #[.agg #[.string r, .string s, .int .i64 l, .int .i64 t, .int .i64 c], .int .i64 n] w fun e w' => e = .returned (.int .i64 (checkS r s l t c n)) ∧ Grows w w' := by
  have C1 : ∀ W, Grows w W → Hid (Calls Tryz.prog 61 _ W _) := fun W hW => Lib.hid (reading_any r W hr (he.grows hW))
  have C2 : ∀ W, Grows w W → Hid (Calls Tryz.prog 62 _ W _) := fun W hW => Lib.hid (isSurface_any s W hs (he.grows hW))
  unfold checkS
  clear hr hs he
  generalize readingS r = br at C1 ⊢
  generalize surfaceS s = bs at C2 ⊢
  cases br
  · go_enter Tryz.func31, Tryz.ntmps31
    go_wp2_with (first | (go_at_call 61; refine (C1 _ (Grows.alloc _ _)).out.mono ?_; rintro e w1 ⟨rfl, hg⟩))
    go_ret
    exact ⟨rfl, (Grows.alloc _ _).tr hg⟩
  · cases bs
    · go_enter Tryz.func31, Tryz.ntmps31
      go_wp2_with (first | (go_at_call 61; refine (C1 _ (Grows.alloc _ _)).out.mono ?_; rintro e w1 ⟨rfl, hg⟩; have hg1 := (Grows.alloc _ _).tr hg; have b1 : w1.cell? ⟨w.heap.size, 1, none⟩ = some (.string s) := hg.cell (cell_box _ _ _ _ 1 _ rfl)) | (go_at_call 62; refine (C2 _ hg1).out.mono ?_; rintro e w2 ⟨rfl, hg2⟩))
      go_ret
      exact ⟨rfl, hg1.tr hg2⟩
    · rw [if_pos (by rfl)]
      go_enter Tryz.func31, Tryz.ntmps31
      go_wp2_with (first | (go_at_call 61; refine (C1 _ (Grows.alloc _ _)).out.mono ?_; rintro e w1 ⟨rfl, hg⟩; have hg1 := (Grows.alloc _ _).tr hg; have b1 : w1.cell? ⟨w.heap.size, 1, none⟩ = some (.string s) := hg.cell (cell_box _ _ _ _ 1 _ rfl); have b2 : w1.cell? ⟨w.heap.size, 2, none⟩ = some (.int .i64 l) := hg.cell (cell_box _ _ _ _ 2 _ rfl); have b3 : w1.cell? ⟨w.heap.size, 3, none⟩ = some (.int .i64 t) := hg.cell (cell_box _ _ _ _ 3 _ rfl); have b4 : w1.cell? ⟨w.heap.size, 4, none⟩ = some (.int .i64 c) := hg.cell (cell_box _ _ _ _ 4 _ rfl)) | (go_at_call 62; refine (C2 _ hg1).out.mono ?_; rintro e w2 ⟨rfl, hg2⟩; have d2 := hg2.cell b2; have d3 := hg2.cell b3; have d4 := hg2.cell b4))
      all_goals (go_ret; exact ⟨rfl, hg1.tr hg2⟩)

def numV (s : ByteArray) : Int := if numOK s.data.toList then (decVal s.data.toList : Int) else 0
theorem isEmpty_toList (s : ByteArray) : s.toList.isEmpty = s.data.toList.isEmpty := by rw [Lib.toList_data]
theorem mk_nil {l : List UInt8} : ((⟨l.toArray⟩ : ByteArray).toList == []) = l.isEmpty := by
  rw [Lib.toList_data]; cases l <;> simp

theorem atoi_any (s : ByteArray) (w : World) (hok : numOK s.data.toList = true) :
    Calls Tryz.prog 68 #[.string s] w fun e w' => e = .returned (.tuple #[.int .i64 (decVal s.data.toList), .nilIface]) ∧ Grows w w' := by
  simp only [numOK, Bool.and_eq_true, Bool.not_eq_true', decide_eq_true_eq] at hok
  obtain ⟨⟨⟨h1, h2⟩, _⟩, h4⟩ := hok
  have hne : s.data.toList ≠ [] := by intro h; rw [h] at h1; simp at h1
  refine (Tryz.strconv_Atoi_ok s (by rw [Lib.size_eq]; omega) _ (atoi_dec _ hne h4 h2) w).mono ?_
  rintro e w' ⟨rfl, rfl | ⟨t, rfl⟩⟩
  · exact ⟨rfl, Grows.refl _⟩
  · exact ⟨rfl, Lib.bytesWorld_below _ _ _⟩

set_option maxHeartbeats 2000000 in
theorem number_any (s : ByteArray) (w : World) (hs : s.size < 9223372036854775807) :
    Calls Tryz.prog 97 #[.string s] w fun e w' => e = .returned (.tuple #[.int .i64 (numV s), .bool (numOK s.data.toList)]) ∧ Grows w w' := by
  have T : ∀ W, ∃ tr : ByteArray, tr.toList.isEmpty = s.data.toList.all isDig ∧ Calls Tryz.prog 67 #[.string s, .string ⟨#[48, 49, 50, 51, 52, 53, 54, 55, 56, 57]⟩] W fun e w' => e = .returned (.string tr) ∧ Grows W w' := fun W => by
    refine ⟨_, ?_, trim_any s W (by omega)⟩
    rw [Lib.toList_data, Bool.eq_iff_iff, ← trimS_nil]
    simp
  cases he : s.toList.isEmpty
  · by_cases h9 : s.size ≤ 9
    · have hne : s.data.toList.isEmpty = false := by rw [← isEmpty_toList]; exact he
      have hpos : 0 < s.size := by
        rw [Lib.size_eq]; cases hh : s.data.toList with
        | nil => rw [hh] at hne; simp at hne
        | cons _ _ => simp
      have h9' : (s.size : Int) ≤ 9 := by omega
      have hhd : s.data.toList.head? = some s[0] := by
        rw [List.head?_eq_getElem?, Array.getElem?_toList]
        exact Array.getElem?_eq_getElem (by exact hpos)
      have hN : numOK s.data.toList = (!(s[0] == 48 && !(s.data.toList == [48])) && s.data.toList.all isDig) := by
        unfold numOK; rw [hne, hhd, ← Lib.size_eq]; simp [h9]
      by_cases hz : (s[0].toNat : Int) = 48 ∧ ¬ s.toList = [48]
      · obtain ⟨hz1, hz2⟩ := hz
        have hn : numOK s.data.toList = false := by
          have : s[0] = 48 := by rw [← UInt8.toNat_inj]; simp; omega
          rw [hN, this]; rw [Lib.toList_data] at hz2; simp [hz2]
        unfold numV
        rw [hn]
        clear hn hN hhd hne T h9
        go_enter Tryz.func97, Tryz.ntmps97
        go_wp2_with fail
        go_ret2
        exact ⟨rfl, Grows.refl _⟩
      · have hb : (s[0] == 48 && !(s.data.toList == [48])) = false := by
          rw [Lib.toList_data] at hz
          cases h : (s[0] == 48 && !(s.data.toList == [48]))
          · rfl
          · exfalso; apply hz
            simp at h
            exact ⟨by rw [h.1]; rfl, h.2⟩
        rw [hb] at hN
        simp only [Bool.not_false, Bool.true_and] at hN
        rw [← hN] at T
        obtain ⟨tr, htr, hT⟩ := T w
        have HT := Lib.hid hT
        have HZ := Lib.hid hz
        clear T hT hb hz hhd hne hN h9
        cases hok : numOK s.data.toList
        · rw [hok] at htr
          have h1 : (!tr.toList.isEmpty) = true := by rw [htr]; rfl
          unfold numV
          rw [hok]
          have HO := Lib.hid hok
          clear hok
          by_cases hc : (s[0].toNat : Int) = 48
          · have hl : s.toList = [48] := Decidable.byContradiction fun h => HZ.out ⟨hc, h⟩
            go_enter Tryz.func97, Tryz.ntmps97
            go_wp2_with (first | (go_at_call 67; refine HT.out.mono ?_; rintro e w1 ⟨rfl, hg⟩))
            go_ret2
            exact ⟨rfl, hg⟩
          · go_enter Tryz.func97, Tryz.ntmps97
            go_wp2_with (first | (go_at_call 67; refine HT.out.mono ?_; rintro e w1 ⟨rfl, hg⟩))
            go_ret2
            exact ⟨rfl, hg⟩
        · rw [hok] at htr
          have A := fun W => Lib.hid (atoi_any s W hok)
          have hv : numV s = decVal s.data.toList := by unfold numV; rw [hok]; rfl
          rw [hv]
          generalize (decVal s.data.toList : Int) = v at A ⊢
          clear hok hv
          by_cases hc : (s[0].toNat : Int) = 48
          · have hl : s.toList = [48] := Decidable.byContradiction fun h => HZ.out ⟨hc, h⟩
            go_enter Tryz.func97, Tryz.ntmps97
            go_wp2_with (first | (go_at_call 67; refine HT.out.mono ?_; rintro e w1 ⟨rfl, hg⟩) | (go_at_call 68; refine (A _).out.mono ?_; rintro e w2 ⟨rfl, hg2⟩))
            refine wp_region_ord Grows [(0, false), (1, false), (2, false), (3, false), (4, false)] Grows.refl Grows.trans (by kernel_rfl) (by kernel_rfl) (fun d _ _ _ _ h => by cases d <;> exact h) ?_
            repeat (refine ord_quiet rfl (fun K hK => ?_); go_simp; first | (refine hK _ ?_; clear hK K) | (apply Exists.intro; refine ⟨fun x => ?_, hK _ ?_⟩; (fail); clear hK K))
            refine ord_end (fun w3 h3 => ?_)
            go_wp2
            go_ret2
            exact ⟨rfl, (hg.tr hg2).tr ((Grows.drew _).tr h3)⟩
          · go_enter Tryz.func97, Tryz.ntmps97
            go_wp2_with (first | (go_at_call 67; refine HT.out.mono ?_; rintro e w1 ⟨rfl, hg⟩) | (go_at_call 68; refine (A _).out.mono ?_; rintro e w2 ⟨rfl, hg2⟩))
            refine wp_region_ord Grows [(0, false), (1, false), (2, false), (3, false), (4, false)] Grows.refl Grows.trans (by kernel_rfl) (by kernel_rfl) (fun d _ _ _ _ h => by cases d <;> exact h) ?_
            repeat (refine ord_quiet rfl (fun K hK => ?_); go_simp; first | (refine hK _ ?_; clear hK K) | (apply Exists.intro; refine ⟨fun x => ?_, hK _ ?_⟩; (fail); clear hK K))
            refine ord_end (fun w3 h3 => ?_)
            go_wp2
            go_ret2
            exact ⟨rfl, (hg.tr hg2).tr ((Grows.drew _).tr h3)⟩
    · have hz : (9 : Int) < s.size := by omega
      have hn : numOK s.data.toList = false := by unfold numOK; rw [← Lib.size_eq]; simp [h9]
      unfold numV
      rw [hn]
      clear hn T h9
      go_enter Tryz.func97, Tryz.ntmps97
      go_wp2
      go_ret2
      exact ⟨rfl, Grows.refl _⟩
  · have hn : numOK s.data.toList = false := by unfold numOK; rw [isEmpty_toList] at he; simp [he]
    unfold numV
    rw [hn]
    clear hn T
    go_enter Tryz.func97, Tryz.ntmps97
    go_wp2
    go_ret2
    exact ⟨rfl, Grows.refl _⟩
end Go.Proofs.YtndhhgpmpnmljaaGreatDoor
