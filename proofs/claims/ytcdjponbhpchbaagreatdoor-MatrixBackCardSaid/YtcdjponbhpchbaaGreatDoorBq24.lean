/- The texts ParL ParL3 RefL16 RefLw RefPar, one behind the other. -/
import Derived.Test.YtcdjponbhpchbaaGreatDoorBq20
import Derived.Test.YtcdjponbhpchbaaGreatDoorBq2
import Derived.Test.YtcdjponbhpchbaaGreatDoorBq23
import Derived.Test.YtcdjponbhpchbaaGreatDoorBq12
import Derived.Test.YtcdjponbhpchbaaGreatDoorBq22
import Derived.Test.YtcdjponbhpchbaaGreatDoorBq8
import Derived.OneCell
namespace Go.Proofs.YtcdjponbhpchbaaGreatDoor
open Go Go.RowKit Go.Shelf
attribute [local go_sem] quietE quietE2

section
variable {w : World} {B b3 b7 b8 bs N : Nat} {p : List PosV} {pa : Option Addr} {pc : Nat}
set_option maxHeartbeats 4000000 in
set_option maxRecDepth 100000 in
/-- A line of another number of fields. -/
theorem pline_len (st : ParSt) (hst : PSt w B b7 b8 bs N st) (hB : B ≤ w.heap.size) (f : List ByteArray) (fa : Option Addr) (fc : Nat) (hf : AtCells w fa 1 (f.map strC)) (hfl : f.length ≤ 1048577) (hf1 : 1 ≤ f.length) (hfs : ∀ x ∈ f, x.size ≤ 1048577)
    (hn : (st = none ∧ f.length ≠ 2) ∨ (st ≠ none ∧ f.length ≠ 3)) :
    Calls Tryz.prog 22 #[.slice fa f.length fc, .pointer (some ⟨b7, 0, none⟩), .pointer (some ⟨b3, 0, none⟩), .pointer (some ⟨b8, 0, none⟩)] w (PLinePost p st f B b7 b8 bs N w) := by
  have hl : (lineM p st f).2 = 5 := by
    rcases hn with ⟨rfl, h⟩ | ⟨h, h3⟩
    · rw [lineM_bad (fun h2 => h h2.1)]
    · cases st with
      | none => exact absurd rfl h
      | some ms => obtain ⟨m, seen⟩ := ms; rw [lineM_not3 (fun h2 => h3 h2.1)]
  obtain ⟨n, hnl⟩ : ∃ n, f.length = n + 1 := ⟨f.length - 1, by omega⟩
  obtain ⟨z, hz⟩ : ∃ z, f[n]? = some z := ⟨_, List.getElem?_eq_getElem (by omega)⟩
  have hzs := hfs z (List.mem_of_getElem? hz)
  obtain ⟨fb, fo, rfl, hfc⟩ := hf.get (ne_nil_of_lt hf1)
  have z0 : w.cell? ⟨fb, fo + n, none⟩ = some (.string z) := by simpa using hfc n z hz 0 _ rfl
  have CN := fun W => Lib.hid (number16_any z W (by omega))
  have HL := Lib.hid hl
  have wn : IntKind.i64.wrap ((f.length : Int) - 1) = n := by
    rw [hnl]
    rw [show ((n + 1 : Nat) : Int) - 1 = ((n : Nat) : Int) by omega]
    exact wrap_i64n (by omega)
  have hni : (n : Int) < f.length := by omega
  have HST := Lib.hid hst
  generalize numMv z = Z at CN
  generalize numMb z = zb at CN
  obtain ⟨v7, hv7⟩ := hst.c7
  rcases hn with ⟨rfl, h⟩ | ⟨h, h3⟩
  · have c7 := hst.no rfl
    have h2 : ¬ (f.length : Int) = 2 := by omega
    clear hst hfc hz hf hfs hl hnl
    go_enter Tryz.func22, Tryz.ntmps22
    go_wp2_with fail
    refine (CN _).out.mono ?_
    rintro e w1 ⟨rfl, hg1⟩
    have d7 := hg1.cell c7
    go_wp2_with fail
    go_ret
    exact PLinePost.err HL.out (by decide) (EB.of hg1 hB) (CB.of hg1)
  · cases st with
    | none => exact absurd rfl h
    | some ms =>
      obtain ⟨m, seen⟩ := ms
      obtain ⟨mb, bm, c7, _⟩ := hst.so m seen rfl
      have h2 : ¬ (f.length : Int) = 3 := by omega
      clear hst hfc hz hf hfs hl hnl h h3
      go_enter Tryz.func22, Tryz.ntmps22
      go_wp2_with fail
      refine (CN _).out.mono ?_
      rintro e w1 ⟨rfl, hg1⟩
      have d7 := hg1.cell c7
      go_wp2_with fail
      go_ret
      exact PLinePost.err HL.out (by decide) (EB.of hg1 hB) (CB.of hg1)
set_option maxHeartbeats 4000000 in
set_option maxRecDepth 100000 in
/-- The default line. -/
theorem pline_def (hst : PSt w B b7 b8 bs N none) (hB : B ≤ w.heap.size) (hpl : 1 ≤ p.length ∧ p.length ≤ 64) (c3 : w.cell? ⟨b3, 0, none⟩ = some (.slice pa p.length pc)) (a b : ByteArray) (fa : Option Addr) (fc : Nat) (hf : AtCells w fa 1 ([a, b].map strC)) (hbs : b.size ≤ 1048577) :
    Calls Tryz.prog 22 #[.slice fa 2 fc, .pointer (some ⟨b7, 0, none⟩), .pointer (some ⟨b3, 0, none⟩), .pointer (some ⟨b8, 0, none⟩)] w (PLinePost p none [a, b] B b7 b8 bs N w) := by
  obtain ⟨fb, fo, rfl, hfc⟩ := hf.get (by simp)
  have f0 : w.cell? ⟨fb, fo, none⟩ = some (.string a) := hfc 0 a rfl 0 _ rfl
  have f1 : w.cell? ⟨fb, fo + 1, none⟩ = some (.string b) := hfc 1 b rfl 0 _ rfl
  have CN := fun W => Lib.hid (number16_any b W (by omega))
  have c7 := hst.no rfl
  have HST := Lib.hid hst
  by_cases ha : a = defS
  · have ha2 : a.toList = [100, 101, 102, 97, 117, 108, 116] := by rw [ha, Lib.toList_data]; rfl
    cases hb : numMb b
    · have hl : (lineM p none [a, b]).2 = 5 := by rw [lineM_bad (fun h => by have h3 := h.2.2; rw [show fieldAt [a, b] 1 = b from rfl, hb] at h3; cases h3)]
      have HL := Lib.hid hl
      rw [hb] at CN
      generalize numMv b = Z at CN
      clear hst hfc hf hl ha hb
      go_enter Tryz.func22, Tryz.ntmps22
      go_wp2_with fail
      refine (CN _).out.mono ?_
      rintro e w1 ⟨rfl, hg1⟩
      have d7 := hg1.cell c7
      have d0 := hg1.cell f0
      go_wp2_with fail
      go_ret
      exact PLinePost.err HL.out (by decide) (EB.of hg1 hB) (CB.of hg1)
    · have hl : lineM p none [a, b] = _ := lineM_def ha hb
      have hrng := numMb_iff hb
      have HL := Lib.hid hl
      rw [hb] at CN
      have hnb : newB (p.length : Int) (numMv b) = true := newB_iff.2 ⟨by omega, by omega, hrng.1, hrng.2⟩
      have HNB := Lib.hid hnb
      generalize numMv b = Z at *
      have f7 := hst.f7
      have hne := hst.n78
      have h7 := hst.lt7
      clear hst hfc hf hl ha hb hnb
      go_enter Tryz.func22, Tryz.ntmps22
      go_wp2_with fail
      refine (CN _).out.mono ?_
      rintro e w1 ⟨rfl, hg1⟩
      have d7 := hg1.cell c7
      have d0 := hg1.cell f0
      have d3 := hg1.cell c3
      go_wp2_with fail
      refine (new_any _ _ _ HNB.out).mono ?_
      rintro e w2 ⟨rfl, hm2, hg2⟩
      have e7 := hg2.cell d7
      have hg02 := hg1.tr hg2
      have ef7 := (hg02.froz (p := ⟨b7, 0, none⟩) h7).trans f7
      have HM2 := Lib.hid hm2
      have hs1 := hg1.size
      clear hm2
      go_wp2_with fail
      go_ret
      have hst2 := HST.out.grows hg02
      obtain ⟨D, hown, hD⟩ := hst2.mp
      have hm3 := HM2.out
      have hmb : w1.heap.size + 1 ≠ b7 := by omega
      have hmm : w1.heap.size ≠ b7 := by omega
      have cs : ∀ {q : Addr} {v : Value}, q.block ≠ b7 → w2.cell? q = some v → (w2.setCell ⟨b7, 0, none⟩ (.pointer (some ⟨w1.heap.size + 1, 0, none⟩))).cell? q = some v := fun hq hc => (CB.set b7 0 _).cell _ _ hq hc
      have own7 : ∀ {bb n : Nat} {D' : DataW Unit}, w2.ownsMap Tryz.prog 59 (plainElem Tryz.prog 3) bb n D' → (w2.setCell ⟨b7, 0, none⟩ (.pointer (some ⟨w1.heap.size + 1, 0, none⟩))).ownsMap Tryz.prog 59 (plainElem Tryz.prog 3) bb n D' := fun {bb n D'} ho => by
        have hne7 := cell_no_map ho e7
        refine ho.kept (row := some b7) ⟨rfl, rfl, rfl, by simp, fun k hk hk2 => heap_setCell_other _ _ _ _ (fun e => hk2 (by rw [e]))⟩ (fun e => hne7 (by have := Option.some.inj e; simp only; omega))
      refine ⟨by rw [HL.out]; rfl, fun _ => ?_, ?_, ((CB.of hg02).trans (CB.set b7 0 _))⟩
      · rw [HL.out]
        refine ⟨hst2.g7, hst2.gs, hne, cs hne hst2.c8, ⟨_, World.cell?_setCell_same _ _ _ e7⟩, by rw [World.frozen?_setCell]; exact ef7, ⟨D, (own7 hown).mono (Nat.le_succ _), hD⟩, fun h => (by cases h), fun m seen h => ?_⟩
        cases h
        obtain ⟨D2, hown2, hD2⟩ := hm3.own
        refine ⟨_, _, World.cell?_setCell_same _ _ _ e7, ⟨hm3.ok, cs hmb hm3.c0, cs hmb hm3.c1, cs hmb hm3.c2, D2, own7 hown2, hD2⟩, by omega, by omega, fun e => ?_, hmb⟩
        have := (HST.out.mp)
        obtain ⟨D0, hown0, _⟩ := this
        have := hown0.lt
        omega
      · exact EB.trans _ _ _ _ (EB.of hg02 hB) ⟨(Below.refl _ _).setCell HST.out.g7 _, by simp⟩
  · have ha2 : ¬ a.toList = [100, 101, 102, 97, 117, 108, 116] := fun h => ha (by
      have h3 : a.toList = defS.toList := by rw [h, Lib.toList_data]; rfl
      exact seq_iff.1 (by unfold seq; rw [h3]; simp))
    have hl : (lineM p none [a, b]).2 = 5 := by rw [lineM_bad (f := [a, b]) (fun h => ha h.2.1)]
    have HL := Lib.hid hl
    generalize numMv b = Z at CN
    generalize numMb b = zb at CN
    clear hst hfc hf hl ha
    go_enter Tryz.func22, Tryz.ntmps22
    go_wp2_with fail
    refine (CN _).out.mono ?_
    rintro e w1 ⟨rfl, hg1⟩
    have d7 := hg1.cell c7
    have d0 := hg1.cell f0
    go_wp2_with fail
    go_ret
    exact PLinePost.err HL.out (by decide) (EB.of hg1 hB) (CB.of hg1)
end
end Go.Proofs.YtcdjponbhpchbaaGreatDoor
namespace Go.Proofs.YtcdjponbhpchbaaGreatDoor
open Go Go.RowKit Go.Shelf
attribute [local go_sem] quietE quietE2

theorem keyLawP : Go.WideMaps.KeyLaw Tryz.prog 59 := deep_law_laid laidOutP (m := 3) (by decide) (of_decide_eq_true (by kernel_rfl)) (by kernel_rfl) (by kernel_rfl)
section
variable {w : World} {B b3 b7 b8 bs N : Nat} {p : List PosV} {pa : Option Addr} {pc : Nat}
set_option maxHeartbeats 8000000 in
set_option maxRecDepth 100000 in
/-- A line of three fields. -/
theorem pline_three (m : Mx) (seen : List (Nat × Nat)) (hst : PSt w B b7 b8 bs N (some (m, seen))) (hB : B ≤ w.heap.size) (hN : N ≤ 2097152) (hpl : 1 ≤ p.length ∧ p.length ≤ 64) (hmn : m.n = p.length) (c3 : w.cell? ⟨b3, 0, none⟩ = some (.slice pa p.length pc)) (hp : AtCells w pa 2 (p.map posCells)) (x y z : ByteArray) (fa : Option Addr) (fc : Nat) (hf : AtCells w fa 1 ([x, y, z].map strC)) (hzs : z.size ≤ 1048577) :
    Calls Tryz.prog 22 #[.slice fa 3 fc, .pointer (some ⟨b7, 0, none⟩), .pointer (some ⟨b3, 0, none⟩), .pointer (some ⟨b8, 0, none⟩)] w (PLinePost p (some (m, seen)) [x, y, z] B b7 b8 bs N w) := by
  obtain ⟨fb, fo, rfl, hfc⟩ := hf.get (by simp)
  have f0 : w.cell? ⟨fb, fo, none⟩ = some (.string x) := hfc 0 x rfl 0 _ rfl
  have f1 : w.cell? ⟨fb, fo + 1, none⟩ = some (.string y) := hfc 1 y rfl 0 _ rfl
  have f2 : w.cell? ⟨fb, fo + 2, none⟩ = some (.string z) := hfc 2 z rfl 0 _ rfl
  have CN := fun W => Lib.hid (number16_any z W (by omega))
  have CX := fun W (hW : Grows w W) => Lib.hid (posFind_any p x pa pc W (by omega) (hp.grows hW))
  have CY := fun W (hW : Grows w W) => Lib.hid (posFind_any p y pa pc W (by omega) (hp.grows hW))
  obtain ⟨mb, bm, c7, hmat, hBmb, hBbm, hbb, hm7⟩ := hst.so m seen rfl
  have c8 := hst.c8
  have HST := Lib.hid hst
  have HMAT := Lib.hid hmat
  have HC7 := Lib.hid c7
  have HC8 := Lib.hid c8
  cases hz : numMb z
  · have hl : (lineM p (some (m, seen)) [x, y, z]).2 = 5 := by rw [lineM_not3 (fun h => by have h3 := h.2; rw [show fieldAt [x, y, z] 2 = z from rfl, hz] at h3; cases h3)]
    have HL := Lib.hid hl
    rw [hz] at CN
    generalize numMv z = Z at CN
    clear hst hfc hf hl hz hmat CX CY hp
    go_enter Tryz.func22, Tryz.ntmps22
    go_wp2_with fail
    refine (CN _).out.mono ?_
    rintro e w1 ⟨rfl, hg1⟩
    have d7 := hg1.cell c7
    go_wp2_with fail
    go_ret
    exact PLinePost.err HL.out (by decide) (EB.of hg1 hB) (CB.of hg1)
  · have hl := lineM_three (p := p) (m := m) (seen := seen) (x := x) (y := y) hz
    have hrng := numMb_iff hz
    have HL := Lib.hid hl
    rw [hz] at CN
    generalize numMv z = Z at *
    have hox : ∀ i : Nat, posFind p x = some i → i < p.length := fun i => find_lt
    have hoy : ∀ i : Nat, posFind p y = some i → i < p.length := fun i => find_lt
    generalize posFind p x = ox at *
    generalize posFind p y = oy at *
    clear hst hfc hf hl hz hmat hp
    go_enter Tryz.func22, Tryz.ntmps22
    go_wp2_with fail
    refine (CN _).out.mono ?_
    rintro e w1 ⟨rfl, hg1⟩
    have d7 := hg1.cell c7
    have z0 : ∀ q : Ext Grows w1.drew, q.u.cell? ⟨fb, fo, none⟩ = some (.string x) := ext_cell (hg1.dr.cell f0)
    have z3 : ∀ q : Ext Grows w1.drew, q.u.cell? ⟨b3, 0, none⟩ = some (.slice pa p.length pc) := ext_cell (hg1.dr.cell c3)
    go_wp2_with fail
    refine t_region (Grows) [(0, false), (1, false), (2, false), (3, false), (4, true), (5, false), (6, false), (7, false), (8, false), (9, false)] Grows.refl Grows.trans (by kernel_rfl) (by kernel_rfl) (fun d _ _ _ _ h => by cases d <;> exact h) ?_
    iterate 4 (refine t_quiet rfl (fun K hK => ?_); go_simp; refine hK _ ?_; clear hK K)
    refine t_late rfl rfl (fun K hK => ?_)
    go_simp
    refine (CX _ hg1.dr).out.mono ?_
    rintro e w2 ⟨rfl, hg2⟩
    refine ⟨hg2, hK _ _ ?_⟩
    clear hK K
    iterate 5 (refine t_quiet rfl (fun K hK => ?_); go_simp; refine hK _ ?_; clear hK K)
    refine t_end ?_
    clear z0 z3
    have hg02 := hg1.dr.tr hg2
    have z0 : ∀ q : Ext Grows w2.drew, q.u.cell? ⟨fb, fo + 1, none⟩ = some (.string y) := ext_cell (hg02.dr.cell f1)
    have z3 : ∀ q : Ext Grows w2.drew, q.u.cell? ⟨b3, 0, none⟩ = some (.slice pa p.length pc) := ext_cell (hg02.dr.cell c3)
    go_wp2_with fail
    refine t_region (Grows) [(0, false), (1, false), (2, false), (3, false), (4, true), (5, false), (6, false), (7, false), (8, false), (9, false)] Grows.refl Grows.trans (by kernel_rfl) (by kernel_rfl) (fun d _ _ _ _ h => by cases d <;> exact h) ?_
    iterate 4 (refine t_quiet rfl (fun K hK => ?_); go_simp; refine hK _ ?_; clear hK K)
    refine t_late rfl rfl (fun K hK => ?_)
    go_simp
    refine (CY _ hg02.dr).out.mono ?_
    rintro e w3 ⟨rfl, hg3⟩
    refine ⟨hg3, hK _ _ ?_⟩
    clear hK K
    iterate 5 (refine t_quiet rfl (fun K hK => ?_); go_simp; refine hK _ ?_; clear hK K)
    refine t_end ?_
    clear z0 z3 CX CY CN
    have hg03 := hg02.dr.tr hg3
    have hs3 := hg03.size
    clear hg1 hg2 hg02 hg3 d7 c7 c8 f0 f1 f2
    cases ox with
    | none =>
      cases oy with
      | none =>
        go_wp2_with fail
        go_ret
        exact PLinePost.err (by rw [HL.out]) (by decide) (EB.of hg03 hB) (CB.of hg03)
      | some b =>
        go_wp2_with fail
        go_ret
        exact PLinePost.err (by rw [HL.out]) (by decide) (EB.of hg03 hB) (CB.of hg03)
    | some a =>
      cases oy with
      | none =>
        go_wp2_with fail
        go_ret
        exact PLinePost.err (by rw [HL.out]) (by decide) (EB.of hg03 hB) (CB.of hg03)
      | some b =>
        have ha := hox a rfl
        have hb := hoy b rfl
        simp only [findI, Option.isSome_some]
        have HL2 : Hid (lineM p (some (m, seen)) [x, y, z] = if (a, b) ∈ seen then (some (m, seen), 4) else (some (m.setIf ((a : Int), (b : Int)) Z, (a, b) :: seen), 0)) := HL.out
        clear HL hox hoy
        go_wp2_with fail
        have hgA : Grows w (World.drew (w3.alloc (.cells #[.int .i64 a, .int .i64 b] 59))) := (hg03.al _).dr
        have qA0 : (World.drew (w3.alloc (.cells #[.int .i64 a, .int .i64 b] 59))).cell? ⟨w3.heap.size, 0, none⟩ = some (.int .i64 a) := cell_box w3 #[.int .i64 a, .int .i64 b] 59 (0, 0) 0 _ rfl
        have qA1 : (World.drew (w3.alloc (.cells #[.int .i64 a, .int .i64 b] 59))).cell? ⟨w3.heap.size, 1, none⟩ = some (.int .i64 b) := cell_box w3 #[.int .i64 a, .int .i64 b] 59 (0, 0) 1 _ rfl
        have hkey : Go.keyOf Tryz.prog 59 (.agg #[.int .i64 a, .int .i64 b]) = some (klP ((a : Int), (b : Int))) := keyP (x := ((a : Int), (b : Int))) (wfI_nat (by omega)) (wfI_nat (by omega))
        have hin : inP m.n ((a : Int), (b : Int)) = true := inP_iff.2 ⟨⟨by simp only; omega, by simp only; omega⟩, by simp only; omega, by simp only; omega⟩
        have hsetB : m.setB ((a : Int), (b : Int)) Z = true := by
          unfold Mx.setB
          rw [hin, isC_iff.2 hrng]; rfl
        have HSB := Lib.hid hsetB
        have hstA := HST.out.grows hgA
        have hmtA := HMAT.out.grows hgA
        have hc7A := hgA.cell HC7.out
        obtain ⟨D, hown, hD⟩ := hstA.mp
        obtain ⟨c, st, W2, hent, hat, hgb2, hl1, hl2, hsto⟩ := entry_int hown keyLawP keyedP Tryz.underlying53 Tryz.underlying3 zeroI2 (by unfold maxLen; omega) hkey
        rw [show D.atKey (klP ((a : Int), (b : Int))) (.lit (.int .i64 0)) = _ from hD a b (by omega) (by omega)] at hat
        have hc : c = if (a, b) ∈ seenOf (some (m, seen)) then 1 else 0 := by simpa using hat.symm
        obtain ⟨G, hG⟩ : ∃ G, G = goInt (st : Int) := ⟨_, rfl⟩
        rw [← hG] at hent hsto
        have hc8A := hstA.c8
        have HSA := Lib.hid hstA
        have HMA := Lib.hid hmtA
        have HOWN := Lib.hid hown
        have HD := Lib.hid hD
        have n8 := cell_no_map hown hc8A
        have nb := cell_no_map hown qA0
        have n7 := cell_no_map hown hc7A
        have nm := cell_no_map hown hmtA.c0
        simp only at n8 nb n7 nm
        have HG1 := Lib.hid hgA
        have hs3b : w3.heap.size < (World.drew (w3.alloc (.cells #[.int .i64 a, .int .i64 b] 59))).heap.size := World.block_lt_of_cell? _ _ qA0
        clear hat hG hown hD hin hsetB hstA hmtA hgA hkey
        obtain ⟨WA, hWA⟩ : ∃ WA, World.drew (w3.alloc (.cells #[.int .i64 a, .int .i64 b] 59)) = WA := ⟨_, rfl⟩
        rw [hWA] at qA0 qA1 hent hgb2 hl1 hc8A hc7A HSA HMA HOWN HG1 hs3b
        simp only [hWA] at hsto
        have qa : ∀ x : Ext (EM Tryz.prog 53 bs (.agg #[.int .i64 a, .int .i64 b])) WA, x.u.cell? ⟨b8, 0, none⟩ = some (.map (some bs)) := fun x => grownBy_cell x.h.1 hc8A (fun e => n8 (Option.some.inj e))
        have qb0 : ∀ x : Ext (EM Tryz.prog 53 bs (.agg #[.int .i64 a, .int .i64 b])) WA, x.u.cell? ⟨w3.heap.size, 0, none⟩ = some (.int .i64 a) := fun x => grownBy_cell x.h.1 qA0 (fun e => nb (Option.some.inj e))
        have qb1 : ∀ x : Ext (EM Tryz.prog 53 bs (.agg #[.int .i64 a, .int .i64 b])) WA, x.u.cell? ⟨w3.heap.size, 1, none⟩ = some (.int .i64 b) := fun x => grownBy_cell x.h.1 qA1 (fun e => nb (Option.some.inj e))
        have ql : ∀ x : Ext (EM Tryz.prog 53 bs (.agg #[.int .i64 a, .int .i64 b])) WA, (Instr.lookup 53 (.map (some bs)) (.agg #[.int .i64 a, .int .i64 b]) false).run Tryz.prog x.u = .ok (.int .i64 c) x.u := fun x => x.h.2 _ hl1
        have hkey2 := keyP (x := ((a : Int), (b : Int))) (wfI_nat (by omega)) (wfI_nat (by omega))
        have HISM := Lib.hid (HOWN.out.isMap)
        by_cases hs : (a, b) ∈ seen
        · have hc1 : c = 1 := by rw [hc]; exact if_pos hs
          subst hc1
          obtain ⟨w5, hes, hown5, hgb5⟩ := hsto 2 (by decide)
          obtain ⟨c5, hl5, hat5, _⟩ := hown5.lookup_int keyedP Tryz.underlying53 Tryz.underlying3 (zeroI2 _) hkey2
          rw [Go.Maps.atKey_put_same HISM.out (klP_key _)] at hat5
          have hc5 : c5 = 2 := by simpa using hat5.symm
          subst hc5
          have e8 := grownBy_cell hgb5 hc8A (fun e => n8 (Option.some.inj e))
          have e0 := grownBy_cell hgb5 qA0 (fun e => nb (Option.some.inj e))
          have e1 := grownBy_cell hgb5 qA1 (fun e => nb (Option.some.inj e))
          have HL3 : Hid ((lineM p (some (m, seen)) [x, y, z]).2 = 4) := by
            have := HL2.out
            rw [if_pos hs] at this
            rw [this]; rfl
          have hl5' : (Instr.lookup 53 (.map (some bs)) (.agg #[.int .i64 a, .int .i64 b]) false).run Tryz.prog w5 = .ok (.int .i64 2) w5 := hl5
          clear hsto hat5 hown5 hl5 hc HL2 hkey2
          refine t_tail (EM Tryz.prog 53 bs (.agg #[.int .i64 a, .int .i64 b])) 6 [(0, false), (1, false), (2, false), (3, false), (4, true), (5, false)] (EM.refl _ _ _ _) (EM.trans _ _ _ _) (by kernel_rfl) (by kernel_rfl) (fun d _ _ _ _ h => by cases d <;> exact h) ?_
          rw [show World.drew (w3.alloc (.cells #[.int .i64 a, .int .i64 b] 59)) = WA from hWA]
          iterate 4 (refine t_quiet rfl (fun K hK => ?_); go_simp; refine hK _ ?_; clear hK K)
          refine t_late rfl rfl (fun K hK => ?_)
          go_simp
          refine ⟨⟨hgb2, fun v h => by rw [hl1] at h; cases h; exact hl2⟩, hK _ _ ?_⟩
          clear hK K
          iterate 1 (refine t_quiet rfl (fun K hK => ?_); go_simp; refine hK _ ?_; clear hK K)
          refine t_end ?_
          clear qa qb0 qb1 ql
          simp only [List.drop_succ_cons, List.drop_zero]
          go_wp2_with fail
          rw [hes]
          go_wp2_with fail
          go_ret
          exact PLinePost.err HL3.out (by decide) (EB.trans _ _ _ _ (EB.of HG1.out hB) ⟨Below.grown (Below.refl _ _) hgb5 (Nat.le_trans hB HG1.out.size) (fun q hq => by cases hq; exact HSA.out.gs), hgb5.size⟩) ((CB.of HG1.out).trans (CB.of_map HOWN.out hgb5))
        · have hc1 : c = 0 := by rw [hc]; exact if_neg hs
          subst hc1
          obtain ⟨w5, hes, hown5, hgb5⟩ := hsto 1 (by decide)
          obtain ⟨c5, hl5, hat5, _⟩ := hown5.lookup_int keyedP Tryz.underlying53 Tryz.underlying3 (zeroI2 _) hkey2
          rw [Go.Maps.atKey_put_same HISM.out (klP_key _)] at hat5
          have hc5 : c5 = 1 := by simpa using hat5.symm
          subst hc5
          have e8 := grownBy_cell hgb5 hc8A (fun e => n8 (Option.some.inj e))
          have e7 := grownBy_cell hgb5 hc7A (fun e => n7 (Option.some.inj e))
          have e0 := grownBy_cell hgb5 qA0 (fun e => nb (Option.some.inj e))
          have e1 := grownBy_cell hgb5 qA1 (fun e => nb (Option.some.inj e))
          have HL3 : Hid (lineM p (some (m, seen)) [x, y, z] = (some (m.setIf ((a : Int), (b : Int)) Z, (a, b) :: seen), 0)) := by
            have := HL2.out
            rw [if_neg hs] at this
            exact this
          have hl5' : (Instr.lookup 53 (.map (some bs)) (.agg #[.int .i64 a, .int .i64 b]) false).run Tryz.prog w5 = .ok (.int .i64 1) w5 := hl5
          have hm5 : MatAt w5 mb bm m := HMA.out.kept hgb5 (fun e => nm (Option.some.inj e)) (fun e => hbb (Option.some.inj e))
          have HM5 := Lib.hid hm5
          have HO5 := Lib.hid hown5
          have HF7 : Hid (w5.frozen? ⟨b7, 0, none⟩ = false) := (grownBy_froz hgb5 (p := ⟨b7, 0, none⟩) HSA.out.lt7 (fun e => n7 (Option.some.inj e))).trans HSA.out.f7
          clear hsto hat5 hown5 hl5 hc HL2 hkey2 hm5
          refine t_tail (EM Tryz.prog 53 bs (.agg #[.int .i64 a, .int .i64 b])) 6 [(0, false), (1, false), (2, false), (3, false), (4, true), (5, false)] (EM.refl _ _ _ _) (EM.trans _ _ _ _) (by kernel_rfl) (by kernel_rfl) (fun d _ _ _ _ h => by cases d <;> exact h) ?_
          rw [show World.drew (w3.alloc (.cells #[.int .i64 a, .int .i64 b] 59)) = WA from hWA]
          iterate 4 (refine t_quiet rfl (fun K hK => ?_); go_simp; refine hK _ ?_; clear hK K)
          refine t_late rfl rfl (fun K hK => ?_)
          go_simp
          refine ⟨⟨hgb2, fun v h => by rw [hl1] at h; cases h; exact hl2⟩, hK _ _ ?_⟩
          clear hK K
          iterate 1 (refine t_quiet rfl (fun K hK => ?_); go_simp; refine hK _ ?_; clear hK K)
          refine t_end ?_
          clear qa qb0 qb1 ql
          simp only [List.drop_succ_cons, List.drop_zero]
          go_wp2_with fail
          rw [hes]
          go_wp2_with fail
          refine (set_any w5 mb bm m HM5.out a b Z (by unfold WfI; exact WalkArith.wf_i64 (by omega))).mono ?_
          rintro e w6 ⟨rfl, hm6, hgb6⟩
          rw [HSB.out]
          go_wp2_with fail
          go_ret
          obtain ⟨Dm, hom, _⟩ := HM5.out.own
          have k8 := cell_no_map hom e8
          have k7 := cell_no_map hom e7
          simp only at k8 k7
          refine ⟨by rw [HL3.out]; rfl, fun _ => ?_, ?_, ((CB.of HG1.out).trans (CB.of_map HOWN.out hgb5)).trans (CB.of_map hom hgb6)⟩
          · rw [HL3.out]
            have c7' := grownBy_cell hgb6 e7 (fun e => k7 (Option.some.inj e))
            refine ⟨HSA.out.g7, HSA.out.gs, HSA.out.n78, grownBy_cell hgb6 e8 (fun e => k8 (Option.some.inj e)), ⟨_, c7'⟩, (grownBy_froz hgb6 (p := ⟨b7, 0, none⟩) (World.block_lt_of_cell? _ _ e7) (fun e => k7 (Option.some.inj e))).trans HF7.out, ⟨_, HO5.out.kept hgb6 (fun e => hbb (Option.some.inj e).symm), HD.out.put HISM.out (by omega) (by omega)⟩, fun h => (by cases h), fun m' seen' h => ?_⟩
            cases h
            exact ⟨mb, bm, c7', hm6, hBmb, hBbm, hbb, hm7⟩
          · exact EB.trans _ _ _ _ (EB.trans _ _ _ _ (EB.of HG1.out hB) ⟨Below.grown (Below.refl _ _) hgb5 (Nat.le_trans hB HG1.out.size) (fun q hq => by cases hq; exact HSA.out.gs), hgb5.size⟩) ⟨Below.grown (Below.refl _ _) hgb6 (Nat.le_trans hB (Nat.le_trans HG1.out.size hgb5.size)) (fun q hq => by cases hq; exact hBbm), hgb6.size⟩
end
end Go.Proofs.YtcdjponbhpchbaaGreatDoor
namespace Go.Proofs.YtcdjponbhpchbaaGreatDoor
open Go Go.RowKit Go.Shelf
attribute [local go_sem] quietE quietE2

/-- Block sb says which pairs have come. -/
structure SeenAt (w : World) (sb n : Nat) (seen : List (Nat × Nat)) : Prop where
  lt : sb < w.heap.size
  c : ∀ a b : Nat, a < n → b < n → w.cell? ⟨sb, a * n + b, none⟩ = some (.bool (decide ((a, b) ∈ seen)))
  f : ∀ j, w.frozen? ⟨sb, j, none⟩ = false
theorem SeenAt.grows {w w' : World} {sb n : Nat} {seen : List (Nat × Nat)} (h : SeenAt w sb n seen) (hg : Grows w w') : SeenAt w' sb n seen :=
  ⟨hg.lt h.lt, fun a b ha hb => hg.cell (h.c a b ha hb), fun j => (hg.froz (p := ⟨sb, j, none⟩) h.lt).trans (h.f j)⟩
theorem mul_add_inj {n a b a' b' : Nat} (hb : b < n) (hb' : b' < n) (h : a * n + b = a' * n + b') : a = a' ∧ b = b' := by
  have h1 : (a * n + b) / n = a := by rw [Nat.mul_comm, Nat.mul_add_div (by omega), Nat.div_eq_of_lt hb, Nat.add_zero]
  have h2 : (a' * n + b') / n = a' := by rw [Nat.mul_comm, Nat.mul_add_div (by omega), Nat.div_eq_of_lt hb', Nat.add_zero]
  have h3 : a = a' := by rw [← h1, ← h2, h]
  subst h3
  exact ⟨rfl, by omega⟩
theorem SeenAt.put {w : World} {sb n : Nat} {seen : List (Nat × Nat)} (h : SeenAt w sb n seen) {a b : Nat} (ha : a < n) (hb : b < n) : SeenAt (w.setCell ⟨sb, a * n + b, none⟩ (.bool true)) sb n ((a, b) :: seen) := by
  refine ⟨by simpa using h.lt, fun a' b' ha' hb' => ?_, fun j => by rw [World.frozen?_setCell]; exact h.f j⟩
  by_cases e : a' * n + b' = a * n + b
  · obtain ⟨rfl, rfl⟩ := mul_add_inj hb' hb e
    rw [World.cell?_setCell_same _ _ _ (h.c a' b' ha' hb')]
    simp
  · rw [World.cell?_setCell_other _ _ _ _ (fun e2 => e (congrArg Addr.off e2).symm), h.c a' b' ha' hb']
    have hne : (a', b') ≠ (a, b) := fun h => e (by rw [(Prod.mk.inj h).1, (Prod.mk.inj h).2])
    simp [hne]
theorem SeenAt.kept {w w' : World} {sb n : Nat} {seen : List (Nat × Nat)} {row : Option Nat} (h : SeenAt w sb n seen) (hg : w.grownBy w' row) (hne : some sb ≠ row) : SeenAt w' sb n seen :=
  ⟨Nat.lt_of_lt_of_le h.lt hg.size, fun a b ha hb => grownBy_cell hg (h.c a b ha hb) hne, fun j => (grownBy_froz hg (p := ⟨sb, j, none⟩) h.lt hne).trans (h.f j)⟩
theorem rcS_neg {s : ByteArray} : (rcS s < 0) ↔ numMb s = false := by
  unfold rcS
  cases numMb s
  · simp
  · simp
theorem rcS_val {s : ByteArray} (h : numMb s = true) : rcS s = numMv s := by
  unfold rcS numMv
  rw [h]
  unfold numMb at h
  simp only [Bool.and_eq_true] at h
  rw [h.1]; simp
theorem SeenAt.zero {w : World} {sb n : Nat} {seen : List (Nat × Nat)} (h : SeenAt w sb n seen) (hn : 1 ≤ n) : ∃ t, w.cell? ⟨sb, 0, none⟩ = some (.bool t) := by
  have := h.c 0 0 (by omega) (by omega)
  rw [Nat.zero_mul] at this
  exact ⟨_, this⟩
/-- The document's matrix is kept where a pair is marked. -/
theorem RefAt.mark {w : World} {rb sb n : Nat} {m : Mx} {seen : List (Nat × Nat)} (h : RefAt w rb m) (hs : SeenAt w sb n seen) (hn : 1 ≤ n) (hne : rb ≠ sb) (j : Nat) (v : Value) : RefAt (w.setCell ⟨sb, j, none⟩ v) rb m := by
  obtain ⟨g, cap, c2, _, _, hcell, _, _⟩ := h.costs
  obtain ⟨t, ht⟩ := hs.zero hn
  have hgs : g ≠ sb := by
    rintro rfl
    have hn1 := h.ok.n1
    have hl := h.ok.len
    have h0 : 0 < m.cs.length := by rw [hl]; exact Nat.mul_pos (by omega) (by omega)
    rw [hcell 0 _ (List.getElem?_eq_getElem h0)] at ht
    simp at ht
  have hd : ∀ i, (⟨sb, j, none⟩ : Addr) ≠ ⟨rb, i, none⟩ := fun i e => hne (congrArg Addr.block e).symm
  obtain ⟨v0, hv0, ho⟩ := h.own
  refine ⟨h.ok, by rw [World.cell?_setCell_other _ _ _ _ (hd 0)]; exact h.c0, by rw [World.cell?_setCell_other _ _ _ _ (hd 1)]; exact h.c1, v0, by rw [World.cell?_setCell_other _ _ _ _ (hd 2)]; exact hv0, ?_⟩
  refine ownsRow_setCell_other ho (fun e => ?_) v
  rw [c2] at hv0
  obtain rfl := Option.some.inj hv0
  exact hgs (Option.some.inj e)
/-- A line's pair is marked and its cost laid. -/
def RSetPost2 (rb sb : Nat) (m : Mx) (x : Int × Int) (c : Int) (seen : List (Nat × Nat)) (w : World) (e : Ending) (w' : World) : Prop :=
  e = .returned (.bool true) ∧ RefAt w' rb (m.setIf x c) ∧ SeenAt w' sb m.n seen ∧ EB (rb + 1) w w'
theorem rset_line (w : World) (rb sb : Nat) (m : Mx) (h : RefAt w rb m) (seen : List (Nat × Nat)) (hs : SeenAt w sb m.n seen) (r l c : Int) (hb : m.setB (r, l) c = true) : Calls Tryz.prog 52 #[.pointer (some ⟨rb, 0, none⟩), .int .i64 r, .int .i64 l, .int .i64 c] w (RSetPost2 rb sb m (r, l) c seen w) := by
  refine (rset_good2 w rb m h r l c hb).mono fun e w' hp => ?_
  obtain ⟨he, hr, g, hg, hgb, c0, hc0⟩ := hp
  obtain ⟨t, ht⟩ := hs.zero h.ok.n1
  have hne : some sb ≠ some g := by
    intro e2
    obtain rfl := Option.some.inj e2
    rw [hc0] at ht
    simp at ht
  refine ⟨he, by rw [setIf_yes hb]; exact hr, hs.kept hgb hne, ?_, hgb.size⟩
  exact Below.grown (Below.refl _ _) hgb (by have := h.lt; omega) (fun q hq => by cases hq; omega)
end Go.Proofs.YtcdjponbhpchbaaGreatDoor
namespace Go.Proofs.YtcdjponbhpchbaaGreatDoor
open Go Go.RowKit Go.Shelf
attribute [local go_sem] quietE quietE2

/-- What a line leaves. -/
def RLinePost (p : List PosV) (m : Mx) (seen : List (Nat × Nat)) (f : List ByteArray) (rb sb : Nat) (w : World) (e : Ending) (w' : World) : Prop :=
  e = .returned (.int .i64 (lineM p (some (m, seen)) f).2) ∧ (∀ m' seen', (lineM p (some (m, seen)) f).1 = some (m', seen') → RefAt w' rb m' ∧ SeenAt w' sb m.n seen') ∧ EB (rb + 1) w w'
set_option maxHeartbeats 4000000 in
set_option maxRecDepth 100000 in
theorem rline_any (w : World) (rb : Nat) (m : Mx) (hr : RefAt w rb m) (p : List PosV) (pa : Option Addr) (pc : Nat) (hp : AtCells w pa 2 (p.map posCells)) (hpl : p.length ≤ 64) (hn : m.n = p.length)
    (f : List ByteArray) (fa : Option Addr) (fc : Nat) (hf : AtCells w fa 1 (f.map strC)) (hfl : f.length ≤ 4294967290) (sb : Nat) (seen : List (Nat × Nat)) (hs : SeenAt w sb m.n seen) (hsb : rb < sb) :
    Calls Tryz.prog 30 #[.pointer (some ⟨rb, 0, none⟩), .slice fa f.length fc, .slice pa p.length pc, .slice (some ⟨sb, 0, none⟩) (m.n * m.n) (m.n * m.n)] w (RLinePost p m seen f rb sb w) := by
  have HR := Lib.hid hr
  have HS := Lib.hid hs
  by_cases h3 : f.length = 3
  · match f, h3 with
    | [x, y, z], _ =>
      obtain ⟨fb, fo, rfl, hfc⟩ := hf.get (by simp)
      have f0 : w.cell? ⟨fb, fo, none⟩ = some (.string x) := hfc 0 x rfl 0 _ rfl
      have f1 : w.cell? ⟨fb, fo + 1, none⟩ = some (.string y) := hfc 1 y rfl 0 _ rfl
      have f2 : w.cell? ⟨fb, fo + 2, none⟩ = some (.string z) := hfc 2 z rfl 0 _ rfl
      have CX := fun W (hW : w = W) => Lib.hid (find2_any p x pa pc W (by omega) (hW ▸ hp))
      have CY := fun W (hW : w = W) => Lib.hid (find2_any p y pa pc W (by omega) (hW ▸ hp))
      have CZ := fun W => Lib.hid (rc16_any z W)
      cases hz : numMb z
      · have hl : lineM p (some (m, seen)) [x, y, z] = (some (m, seen), 5) := by
          unfold lineM
          simp only
          rw [if_neg (fun h => by have h2 := h.2; rw [show fieldAt [x, y, z] 2 = z from rfl, hz] at h2; cases h2)]
        have hneg := rcS_neg.2 hz
        unfold RLinePost
        rw [hl]
        generalize rcS z = Z at CZ hneg
        clear hl hf hr hs hfc CX CY
        go_enter Tryz.func30, Tryz.ntmps30
        go_wp2_with fail
        refine (CZ _).out.mono ?_
        rintro e w1 ⟨rfl, rfl⟩
        go_wp2_with fail
        go_ret
        refine ⟨rfl, fun m' seen' e => ?_, EB.refl _ _⟩
        simp only [Option.some.injEq, Prod.mk.injEq] at e
        obtain ⟨rfl, rfl⟩ := e
        exact ⟨HR.out, HS.out⟩
      · have hl : lineM p (some (m, seen)) [x, y, z] = (match posFind p x, posFind p y with
            | some a, some b => if (a, b) ∈ seen then (some (m, seen), 4) else (some (m.setIf ((a : Int), (b : Int)) (numMv z), (a, b) :: seen), 0)
            | _, _ => (some (m, seen), 150)) := by
          unfold lineM
          simp only
          rw [if_pos ⟨rfl, hz⟩]
          rfl
        have hval := rcS_val hz
        have hrng := numMb_iff hz
        rw [hval] at CZ
        generalize numMv z = Z at CZ hrng hl
        have hz0 : ¬ Z < 0 := by omega
        unfold RLinePost
        rw [hl]
        clear hl hf hr hs hfc hval hz
        cases hx : posFind p x with
        | none =>
          rw [hx] at CX
          generalize posFind p y = oy at CY
          cases oy with
          | none =>
            go_enter Tryz.func30, Tryz.ntmps30
            go_wp2_with fail
            refine (CZ _).out.mono ?_
            rintro e w1 ⟨rfl, rfl⟩
            go_wp2_with fail
            refine (CX _ rfl).out.mono ?_
            rintro e w2 ⟨rfl, rfl⟩
            go_wp2_with fail
            refine (CY _ rfl).out.mono ?_
            rintro e w3 ⟨rfl, rfl⟩
            go_wp2_with fail
            go_ret
            refine ⟨rfl, fun m' seen' e => ?_, EB.refl _ _⟩
            simp only [Option.some.injEq, Prod.mk.injEq] at e
            obtain ⟨rfl, rfl⟩ := e
            exact ⟨HR.out, HS.out⟩
          | some b =>
            go_enter Tryz.func30, Tryz.ntmps30
            go_wp2_with fail
            refine (CZ _).out.mono ?_
            rintro e w1 ⟨rfl, rfl⟩
            go_wp2_with fail
            refine (CX _ rfl).out.mono ?_
            rintro e w2 ⟨rfl, rfl⟩
            go_wp2_with fail
            refine (CY _ rfl).out.mono ?_
            rintro e w3 ⟨rfl, rfl⟩
            go_wp2_with fail
            go_ret
            refine ⟨rfl, fun m' seen' e => ?_, EB.refl _ _⟩
            simp only [Option.some.injEq, Prod.mk.injEq] at e
            obtain ⟨rfl, rfl⟩ := e
            exact ⟨HR.out, HS.out⟩
        | some a =>
          have hax := find_lt hx
          rw [hx, show findI (some a) = (a : Int) from rfl] at CX
          cases hy : posFind p y with
          | none =>
            rw [hy] at CY
            clear hx hy hax
            go_enter Tryz.func30, Tryz.ntmps30
            go_wp2_with fail
            refine (CZ _).out.mono ?_
            rintro e w1 ⟨rfl, rfl⟩
            go_wp2_with fail
            refine (CX _ rfl).out.mono ?_
            rintro e w2 ⟨rfl, rfl⟩
            go_wp2_with fail
            refine (CY _ rfl).out.mono ?_
            rintro e w3 ⟨rfl, rfl⟩
            go_wp2_with fail
            go_ret
            refine ⟨rfl, fun m' seen' e => ?_, EB.refl _ _⟩
            simp only [Option.some.injEq, Prod.mk.injEq] at e
            obtain ⟨rfl, rfl⟩ := e
            exact ⟨HR.out, HS.out⟩
          | some b =>
            have hby := find_lt hy
            rw [hy, show findI (some b) = (b : Int) from rfl] at CY
            have c0 := HR.out.c0
            have hn1 := HR.out.ok.n1
            have ham : a < m.n := by omega
            have hbm : b < m.n := by omega
            have hm64 : m.n ≤ 64 := by omega
            have hcs := HS.out.c a b ham hbm
            have hfs := HS.out.f (a * m.n + b)
            have hin : inP m.n ((a : Int), (b : Int)) = true := inP_iff.2 ⟨⟨by omega, by simp only; omega⟩, by omega, by simp only; omega⟩
            have hI : a * m.n + b < m.n * m.n := at2_lt hin
            have hsetB : m.setB ((a : Int), (b : Int)) Z = true := by
              unfold Mx.setB
              rw [hin, isC_iff.2 hrng]; rfl
            have hput := HS.out.put ham hbm
            have hmark := HR.out.mark HS.out hn1 (Nat.ne_of_lt hsb) (a * m.n + b) (.bool true)
            obtain ⟨AN, hAN⟩ : ∃ AN, AN = a * m.n := ⟨_, rfl⟩
            rw [← hAN] at hcs hfs hI hput hmark
            obtain ⟨N2, hN2⟩ : ∃ N2, N2 = m.n * m.n := ⟨_, rfl⟩
            have hnn : m.n * m.n ≤ 4096 := Nat.mul_le_mul hm64 hm64
            rw [← hN2] at hI ⊢
            have hN2b : N2 ≤ 4096 := by omega
            have wAN : IntKind.i64.wrap ((a : Int) * m.n) = AN := by
              rw [show ((a : Int) * m.n) = ((a * m.n : Nat) : Int) by push_cast; rfl, ← hAN]
              simp [IntKind.wrap, IntKind.bits, IntKind.signed]; omega
            have wI : IntKind.i64.wrap ((AN : Int) + b) = (AN + b : Nat) := by
              rw [show ((AN : Int) + b) = ((AN + b : Nat) : Int) by push_cast; rfl]
              simp only [IntKind.wrap, IntKind.bits, IntKind.signed]; simp; omega
            obtain ⟨I, hIe⟩ : ∃ I, I = AN + b := ⟨_, rfl⟩
            rw [← hIe] at wI hcs hfs hI hput hmark
            have HSB := Lib.hid hsetB
            have HPUT := Lib.hid hput
            have HMARK := Lib.hid hmark
            clear hAN hN2 hnn hIe hin hsetB hput hmark hx hy hax hby ham hbm hn
            by_cases hmem : (a, b) ∈ seen
            · rw [show decide ((a, b) ∈ seen) = true by simpa using hmem] at hcs
              simp only [if_pos hmem]
              go_enter Tryz.func30, Tryz.ntmps30
              go_wp2_with fail
              refine (CZ _).out.mono ?_
              rintro e w1 ⟨rfl, rfl⟩
              go_wp2_with fail
              refine (CX _ rfl).out.mono ?_
              rintro e w2 ⟨rfl, rfl⟩
              go_wp2_with fail
              refine (CY _ rfl).out.mono ?_
              rintro e w3 ⟨rfl, rfl⟩
              go_wp2_with fail
              go_ret
              refine ⟨rfl, fun m' seen' e => ?_, EB.refl _ _⟩
              simp only [Option.some.injEq, Prod.mk.injEq] at e
              obtain ⟨rfl, rfl⟩ := e
              exact ⟨HR.out, HS.out⟩
            · rw [show decide ((a, b) ∈ seen) = false by simpa using hmem] at hcs
              simp only [if_neg hmem]
              have hd2 : (⟨sb, I, none⟩ : Addr) ≠ ⟨fb, fo + 2, none⟩ := fun e => by rw [e, f2] at hcs; simp at hcs
              have f2' : (w.setCell ⟨sb, I, none⟩ (.bool true)).cell? ⟨fb, fo + 2, none⟩ = some (.string z) := by rw [World.cell?_setCell_other _ _ _ _ hd2]; exact f2
              clear hmem
              go_enter Tryz.func30, Tryz.ntmps30
              go_wp2_with fail
              refine (CZ _).out.mono ?_
              rintro e w1 ⟨rfl, rfl⟩
              go_wp2_with fail
              refine (CX _ rfl).out.mono ?_
              rintro e w2 ⟨rfl, rfl⟩
              go_wp2_with fail
              refine (CY _ rfl).out.mono ?_
              rintro e w3 ⟨rfl, rfl⟩
              go_wp2_with fail
              refine (CZ _).out.mono ?_
              rintro e w4 ⟨rfl, rfl⟩
              go_wp2_with fail
              refine (rset_line _ rb sb m HMARK.out _ HPUT.out a b Z HSB.out).mono ?_
              rintro e w5 ⟨rfl, hr5, hs5, he5⟩
              go_wp2
              go_ret
              refine ⟨rfl, fun m' seen' e => ?_, EB.trans _ _ _ _ ⟨(Below.refl _ _).setCell (by simp only; omega) _, by simp⟩ he5⟩
              simp only [Option.some.injEq, Prod.mk.injEq] at e
              obtain ⟨rfl, rfl⟩ := e
              exact ⟨hr5, hs5⟩
  · have hl : lineM p (some (m, seen)) f = (some (m, seen), 5) := by
      unfold lineM
      simp only
      rw [if_neg (fun h => h3 h.1)]
    have g3 : ¬ (f.length : Int) = 3 := by omega
    unfold RLinePost
    rw [hl]
    clear hl hf hr hs
    go_enter Tryz.func30, Tryz.ntmps30
    go_wp2
    go_ret
    refine ⟨rfl, fun m' seen' e => ?_, EB.refl _ _⟩
    simp only [Option.some.injEq, Prod.mk.injEq] at e
    obtain ⟨rfl, rfl⟩ := e
    exact ⟨HR.out, HS.out⟩
end Go.Proofs.YtcdjponbhpchbaaGreatDoor
namespace Go.Proofs.YtcdjponbhpchbaaGreatDoor
open Go Go.RowKit Go.Shelf
attribute [local go_sem] quietE quietE2

theorem splitS_16 (c : UInt8) (s : ByteArray) : splitS c s = (splitL c s.data.toList).map mkB := splitB_L c s
theorem eb_grows {a b c : World} {B : Nat} (h : Grows a b) (k : EB B b c) (hB : a.heap.size ≤ B) : Grows a c := Below.trans h (Below.mono k.1 hB)
/-- A fresh slice of marks: no pair has come. -/
theorem seen_made {w : World} {base n g : Nat} (h : w.ownsRow base 4 1 (.slice (some ⟨g, 0, none⟩) (n * n) (n * n)) (n * n) (madeCells #[.bool false] (n * n * 1)).toList) (hn : 1 ≤ n) : SeenAt w g n [] := by
  have hpos : 0 < n * n := Nat.mul_pos (by omega) (by omega)
  rcases h.2 with ⟨h1, _⟩ | ⟨g', cap, cur, hv, hb, hh, hn2, hc, hs, ht⟩
  · cases h1
  · have e1 := (Value.slice.inj hv).1
    simp only [Option.some.injEq, Addr.mk.injEq, and_true] at e1
    subst e1
    have hglt : g < w.heap.size := by
      rcases Nat.lt_or_ge g w.heap.size with h | h
      · exact h
      · rw [Array.getElem?_eq_none h] at hh; cases hh
    refine ⟨hglt, fun a b ha hb2 => ?_, fun j => by simp [World.frozen?, hh]⟩
    have hi : a * n + b < n * n := by
      have h1 : (a + 1) * n ≤ n * n := Nat.mul_le_mul_right n ha
      rw [Nat.add_mul] at h1
      omega
    have h1 : (madeCells #[Value.bool false] (n * n * 1)).toList[a * n + b]? = some (.bool false) := by
      rw [toList_madeCells_one, Nat.mul_one, List.getElem?_replicate, if_pos hi]
    rw [← ht, List.getElem?_take] at h1
    split at h1
    · simp [World.cell?, hh]; simpa using h1
    · cases h1
theorem split_len (c : UInt8) (s : ByteArray) : (splitS c s).length ≤ s.size + 1 := by
  rw [splitS_16, List.length_map, Lib.size_eq]
  have key : ∀ l : List UInt8, (splitL c l).length ≤ l.length + 1 := by
    intro l
    induction l with
    | nil => simp [splitL]
    | cons b l ih =>
      obtain ⟨x, r, hx⟩ := splitL_form c l
      unfold splitL
      rw [hx] at ih ⊢
      split <;> simp at ih ⊢ <;> omega
  exact key _
theorem boolInfo : ∃ i, Tryz.prog.info? 4 = some i ∧ i.zero = some (.bool false) ∧ i.size = 1 ∧ i.bytes = 1 := by
  have h : (Tryz.prog.info? 4).map (fun i => (i.zero, i.size, i.bytes)) = some (some (.bool false), 1, 1) := by kernel_rfl
  cases hi : Tryz.prog.info? 4 with
  | none => rw [hi] at h; cases h
  | some i =>
    rw [hi] at h
    simp only [Option.map_some, Option.some.injEq, Prod.mk.injEq] at h
    exact ⟨i, rfl, h.1, h.2.1, h.2.2⟩
/-- The document's Parse hands back what the text says. -/
def RParP (r : Option Mx × Int × Int) (w : World) (e : Ending) (w' : World) : Prop :=
  ∃ v, e = .returned (.tuple #[v, .int .i64 r.2.1, .int .i64 r.2.2]) ∧ (r.1 = none → v = .pointer none) ∧ (∀ m, r.1 = some m → ∃ rb, v = .pointer (some ⟨rb, 0, none⟩) ∧ w.heap.size ≤ rb ∧ RefAt w' rb m) ∧ Grows w w'
/-- The slots of the loop stand for a state. -/
def RSt (B : Nat) (st : ParSt) (mv sv : Value) (wx : World) : Prop :=
  (st = none → mv = .pointer none ∧ sv = .slice none 0 0) ∧
  ∀ m seen, st = some (m, seen) → ∃ rb sb, mv = .pointer (some ⟨rb, 0, none⟩) ∧ sv = .slice (some ⟨sb, 0, none⟩) (m.n * m.n) (m.n * m.n) ∧ RefAt wx rb m ∧ SeenAt wx sb m.n seen ∧ rb < sb ∧ B ≤ rb
set_option maxHeartbeats 8000000 in
set_option maxRecDepth 100000 in
theorem rparse_any (text : ByteArray) (p : List PosV) (pa : Option Addr) (pc : Nat) (w : World) (hpl : p.length ≤ 4611686018427387904) (hpn : ∀ x ∈ p, x.name.size ≤ 9223372036854775807) (hp : AtCells w pa 2 (p.map posCells)) :
    Calls Tryz.prog 7 #[.string text, .slice pa p.length pc] w (RParP (parM text p) w) := by
  have CV := Lib.hid (valid2_any p pa pc w hp hpl hpn)
  have HP := Lib.hid hp
  clear hp hpn
  by_cases hbig : 1048576 < text.size
  · have hr : parM text p = (none, 0, 2) := by unfold parM; rw [if_pos hbig]
    have g : (1048576 : Int) < text.size := by omega
    rw [hr]
    clear hr CV
    go_enter Tryz.func7, Tryz.ntmps7
    go_wp2
    go_ret3
    exact ⟨_, rfl, fun _ => rfl, fun m h => (by cases h), Grows.refl _⟩
  · have g : ¬ (1048576 : Int) < text.size := by omega
    cases hv : posValid p
    · have hr : parM text p = (none, 0, 5) := by unfold parM; rw [if_neg hbig, hv]; rfl
      rw [hr]
      rw [hv] at CV
      clear hr hv
      go_enter Tryz.func7, Tryz.ntmps7
      go_wp2_with fail
      refine CV.out.mono ?_
      rintro e w1 ⟨rfl, hg1⟩
      go_wp2
      go_ret3
      exact ⟨_, rfl, fun _ => rfl, fun m h => (by cases h), hg1⟩
    · have hr : parM text p = parMGo p (splitS 10 text) 0 none := by unfold parM; rw [if_neg hbig, hv]; rfl
      have hlen := posValid_len hv
      have hpl2 : (p.length : Int) ≤ 64 := by omega
      have CS := fun W => Lib.hid (split16_any 10 text W (by omega))
      unfold StrsPost at CS
      rw [← splitS_16] at CS
      have hsz : ∀ x ∈ splitS 10 text, x.size ≤ 1048576 := fun x hx => by have := splitS_size hx; omega
      have hll : (splitS 10 text).length ≤ 1048577 := by have := split_len 10 text; omega
      rw [hr]
      rw [hv] at CV
      have HSZ := Lib.hid hsz
      have HV := Lib.hid hv
      clear hr hsz hbig hv
      generalize splitS 10 text = ls at *
      obtain ⟨PR, hPR⟩ : ∃ r, r = parMGo p ls 0 none := ⟨_, rfl⟩
      rw [← hPR]
      have HPR := Lib.hid hPR
      clear hPR
      go_enter Tryz.func7, Tryz.ntmps7
      go_wp2_with fail
      refine CV.out.mono ?_
      rintro e w1 ⟨rfl, hg1⟩
      go_wp2_with fail
      refine (CS w1).out.mono ?_
      rintro e w2 ⟨la, lc, rfl, hls, hg2⟩
      have HLS := Lib.hid hls
      have hg02 := hg1.tr hg2
      clear hls CV CS
      go_wp2_with fail
      go_loopw [7, 8, 10] (fun mv sv i wx => ∃ (k : Nat) (st : ParSt), k ≤ ls.length ∧ i = .int .i64 k ∧ Hid (RSt w2.heap.size st mv sv wx) ∧ Hid (PR = parMGo p (ls.drop k) k st) ∧ Hid (StOK p st) ∧ Grows w2 wx) (fun _ _ i _ => ls.length - (intOf i).toNat)
      case atStart => exact ⟨0, none, Nat.zero_le _, rfl, ⟨fun _ => ⟨rfl, rfl⟩, fun m seen h => (by cases h)⟩, HPR.out, fun m seen h => (by cases h), Grows.refl _⟩
      case round =>
        obtain ⟨k, st, hk, rfl, hst, hpar, hok, hg⟩ := hrel
        by_cases hlt : k < ls.length
        · obtain ⟨x, hx⟩ : ∃ x, ls[k]? = some x := ⟨_, List.getElem?_eq_getElem hlt⟩
          have hxz := HSZ.out x (List.mem_of_getElem? hx)
          have hdrop : ls.drop k = x :: ls.drop (k + 1) := by
            rw [List.drop_eq_getElem_cons hlt]
            rw [List.getElem?_eq_getElem hlt] at hx
            rw [Option.some.inj hx]
          have hp2 := hpar.out
          rw [hdrop, parMGo_cons] at hp2
          obtain ⟨lb, lo, rfl, hlc⟩ := (HLS.out.grows hg).get (ne_nil_of_lt hlt)
          have l0 : wr.cell? ⟨lb, lo + k, none⟩ = some (.string x) := by simpa using hlc k x hx 0 _ rfl
          clear hdrop hx hlc hpar
          by_cases hem : x.toList = []
          · rw [if_pos (skip_empty hem)] at hp2
            have HP2 := Lib.hid hp2
            have hem2 : (x.toList == []) = true := by simpa using hem
            clear hp2
            go_wp2_with fail
            go_roundw
            case rel => exact ⟨k + 1, st, hlt, by go_num, hst, HP2.out, hok, hg⟩
            case measure => simp [intOf]; omega
          · have h0 := nonempty_size hem
            have h0i : (0 : Int) < x.size := by omega
            by_cases h35 : (x[0].toNat : Int) = 35
            · rw [if_pos (skip_hash h0 h35)] at hp2
              have HP2 := Lib.hid hp2
              clear hp2
              go_wp2_with fail
              go_roundw
              case rel => exact ⟨k + 1, st, hlt, by go_num, hst, HP2.out, hok, hg⟩
              case measure => simp [intOf]; omega
            · have h35b : ((x[0].toNat : Int) == 35) = false := by rw [beq_eq_false_iff_ne]; exact h35
              have hemb : (x.toList == []) = false := by rw [beq_eq_false_iff_ne]; exact hem
              rw [skip_not h0 h35] at hp2
              simp only [Bool.false_eq_true, if_false] at hp2
              have HP2 := Lib.hid hp2
              have CS9 := fun W => Lib.hid (split16_any 9 x W (by omega))
              unfold StrsPost at CS9
              rw [← splitS_16] at CS9
              have hfl := split_len 9 x
              have HOK2 := Lib.hid (lineM_ok HV.out hok.out (splitS 9 x))
              have HMN : Hid (∀ m seen, st = some (m, seen) → m.n = p.length) := fun m seen h => (hok.out m seen h).2.1
              obtain ⟨F, hF⟩ : ∃ F, F = splitS 9 x := ⟨_, rfl⟩
              rw [← hF] at HP2 CS9 HOK2 hfl
              clear hp2 hF hok
              go_wp2_with fail
              refine (CS9 wr).out.mono ?_
              rintro e w4 ⟨fa, fc, rfl, hf, hg4⟩
              clear CS9
              cases st with
              | none =>
                obtain ⟨rfl, rfl⟩ := hst.out.1 rfl
                clear hst
                by_cases h2 : F.length = 2
                · match F, h2 with
                  | [a, b], _ =>
                  obtain ⟨fb, fo, rfl, hfc⟩ := hf.get (by simp)
                  have f0 : w4.cell? ⟨fb, fo, none⟩ = some (.string a) := hfc 0 a rfl 0 _ rfl
                  have f1 : w4.cell? ⟨fb, fo + 1, none⟩ = some (.string b) := hfc 1 b rfl 0 _ rfl
                  have CZ := fun W => Lib.hid (rc16_any b W)
                  clear hf hfc
                  by_cases ha : a = defS
                  · have ha2 : a.toList = [100, 101, 102, 97, 117, 108, 116] := by rw [ha, Lib.toList_data]; rfl
                    cases hb : numMb b
                    · have hneg := rcS_neg.2 hb
                      have hfin : PR = (none, (k : Int) + 1, 5) := by
                        have h1 := HP2.out
                        rw [lineM_bad (fun h => by have h3 := h.2.2; rw [show fieldAt [a, b] 1 = b from rfl, hb] at h3; cases h3)] at h1
                        exact h1
                      subst hfin
                      generalize rcS b = Z at CZ hneg
                      clear HP2 HPR hb ha
                      go_wp2_with fail
                      refine (CZ _).out.mono ?_
                      rintro e w5 ⟨rfl, rfl⟩
                      go_wp2_with fail
                      go_ret3
                      exact ⟨_, rfl, fun _ => rfl, fun m h => (by cases h), hg02.tr (hg.tr hg4)⟩
                    · have hval := rcS_val hb
                      have hrng := numMb_iff hb
                      have hL : lineM p none [a, b] = _ := lineM_def ha hb
                      rw [hL] at HP2 HOK2
                      rw [hval] at CZ
                      generalize numMv b = Z at *
                      have hnb : newB (p.length : Int) Z = true := newB_iff.2 ⟨by omega, by omega, hrng.1, hrng.2⟩
                      have HNB := Lib.hid hnb
                      obtain ⟨N, hN⟩ : ∃ N, N = p.length * p.length := ⟨_, rfl⟩
                      have hnn : p.length * p.length ≤ 4096 := Nat.mul_le_mul hlen.2 hlen.2
                      have wNN : IntKind.i64.wrap ((p.length : Int) * p.length) = N := by
                        rw [show ((p.length : Int) * p.length) = ((p.length * p.length : Nat) : Int) by push_cast; rfl, ← hN]
                        simp [IntKind.wrap, IntKind.bits, IntKind.signed]; omega
                      have hNb : N ≤ 4096 := by omega
                      have HN := Lib.hid hN
                      have hz0 : ¬ Z < 0 := by omega
                      obtain ⟨iu, hiu, hzu, hsu, hbu⟩ := boolInfo
                      have HBU := Lib.hid hbu
                      clear hN hnn hL hval hb ha hnb hbu
                      go_wp2_with fail
                      refine (CZ _).out.mono ?_
                      rintro e w5 ⟨rfl, rfl⟩
                      go_wp2_with fail
                      refine (CZ _).out.mono ?_
                      rintro e w6 ⟨rfl, rfl⟩
                      go_wp2_with fail
                      refine (rnew_any _ _ _ HNB.out).mono ?_
                      rintro e w7 ⟨rfl, hr7, hg7⟩
                      go_wp2_with (at_make; refine wpList_make_full _ rfl _ _ 63 rfl w7.heap.size 4 iu (.bool false) 1 Tryz.underlying63 hiu hzu hsu .i64 .i64 _ _ N rfl rfl (by first | rfl | exact wNN) (by first | rfl | exact wNN) (by rw [HBU.out]; omega) (by unfold maxLen; omega) (Nat.le_refl _) ?_; intro w8 hown8 hgr8)
                      have hg8 : Grows w7 w8 := (Grows.refl w7).grown hgr8 (fun q hq => by cases hq)
                      obtain rfl := HN.out
                      have hlt7 := hr7.lt
                      have hB := (hg.tr hg4).size
                      have hfin : Hid (RSt w2.heap.size (some (newM p.length Z, [])) (.pointer (some ⟨w4.heap.size, 0, none⟩)) (.slice (some ⟨w7.heap.size, 0, none⟩) (p.length * p.length) (p.length * p.length)) w8) :=
                        ⟨fun h => (by cases h), fun m seen h => by
                          cases h
                          exact ⟨_, _, rfl, rfl, hr7.grows hg8, seen_made hown8 hlen.1, hlt7, hB⟩⟩
                      clear hown8 hgr8
                      go_roundw
                      case rel => exact ⟨k + 1, _, hlt, by go_num, hfin, HP2.out, HOK2.out, ((hg.tr hg4).tr hg7).tr hg8⟩
                      case measure => simp [intOf]; omega
                  · have ha2 : ¬ a.toList = [100, 101, 102, 97, 117, 108, 116] := fun h => ha (by
                      have h3 : a.toList = defS.toList := by rw [h, Lib.toList_data]; rfl
                      exact seq_iff.1 (by unfold seq; rw [h3]; simp))
                    have hfin : PR = (none, (k : Int) + 1, 5) := by
                      have h1 := HP2.out
                      rw [lineM_bad (f := [a, b]) (fun h => ha h.2.1)] at h1
                      exact h1
                    subst hfin
                    clear HP2 HPR ha
                    go_wp2_with fail
                    go_ret3
                    exact ⟨_, rfl, fun _ => rfl, fun m h => (by cases h), hg02.tr (hg.tr hg4)⟩
                · have h2i : ¬ (F.length : Int) = 2 := by omega
                  have hfin : PR = (none, (k : Int) + 1, 5) := by
                    have h1 := HP2.out
                    rw [lineM_bad (fun h => h2 h.1)] at h1
                    exact h1
                  subst hfin
                  clear HP2 HPR hf
                  go_wp2_with fail
                  go_ret3
                  exact ⟨_, rfl, fun _ => rfl, fun m h => (by cases h), hg02.tr (hg.tr hg4)⟩
              | some ms =>
                obtain ⟨m, seen⟩ := ms
                obtain ⟨rb, sb, rfl, rfl, hrA, hsA, hrs, hB⟩ := hst.out.2 m seen rfl
                have hmn := HMN.out m seen rfl
                have CL := Lib.hid (rline_any w4 rb m (hrA.grows hg4) p pa pc (HP.out.grows (hg02.tr (hg.tr hg4))) hlen.2 hmn F fa fc hf (by omega) sb seen (hsA.grows hg4) hrs)
                unfold RLinePost at CL
                obtain ⟨m', seen', hst', hn'⟩ := lineM_some p m seen F
                rw [hst'] at CL HP2 HOK2
                generalize (lineM p (some (m, seen)) F).2 = E at *
                have HN' := Lib.hid hn'
                clear hst hrA hsA hf hst' hn' hmn
                go_wp2_with fail
                refine CL.out.mono ?_
                rintro e w5 ⟨rfl, hst5, heb5⟩
                obtain ⟨hr5, hs5⟩ := hst5 m' seen' rfl
                have hg5 : Grows w2 w5 := eb_grows (hg.tr hg4) heb5 (by omega)
                clear hst5 heb5 CL
                by_cases hE : E = 0
                · subst hE
                  have hp3 := HP2.out
                  rw [if_pos rfl] at hp3
                  have HP3 := Lib.hid hp3
                  have hfin : Hid (RSt w2.heap.size (some (m', seen')) (.pointer (some ⟨rb, 0, none⟩)) (.slice (some ⟨sb, 0, none⟩) (m.n * m.n) (m.n * m.n)) w5) :=
                    ⟨fun h => (by cases h), fun m2 seen2 h => by
                      cases h
                      rw [HN'.out]
                      exact ⟨_, _, rfl, rfl, hr5, hs5, hrs, hB⟩⟩
                  clear hp3 HP2
                  go_wp2_with fail
                  go_roundw
                  case rel => exact ⟨k + 1, _, hlt, by go_num, hfin, HP3.out, HOK2.out, hg5⟩
                  case measure => simp [intOf]; omega
                · have hp3 := HP2.out
                  rw [if_neg hE] at hp3
                  subst hp3
                  clear HP2 HPR
                  go_wp2_with fail
                  go_ret3
                  exact ⟨_, rfl, fun _ => rfl, fun m h => (by cases h), hg02.tr hg5⟩
        · obtain rfl : k = ls.length := by omega
          have hp2 := hpar.out
          rw [List.drop_length] at hp2
          cases st with
          | none =>
            obtain ⟨rfl, rfl⟩ := hst.out.1 rfl
            have hfin : PR = (none, 0, 5) := hp2
            subst hfin
            clear hp2 hst hpar HPR
            go_wp2_with fail
            go_ret3
            exact ⟨_, rfl, fun _ => rfl, fun m h => (by cases h), hg02.tr hg⟩
          | some ms =>
            obtain ⟨m, seen⟩ := ms
            obtain ⟨rb, sb, rfl, rfl, hrA, _, _, hB⟩ := hst.out.2 m seen rfl
            have hfin : PR = (some m, 0, 0) := hp2
            subst hfin
            have hw2 := hg02.size
            clear hp2 hst hpar HPR
            go_wp2_with fail
            go_ret3
            exact ⟨_, rfl, fun h => (by cases h), fun m' h => (by cases h; exact ⟨rb, rfl, by omega, hrA⟩), hg02.tr hg⟩
end Go.Proofs.YtcdjponbhpchbaaGreatDoor
