/- The texts ParM ParS ParB, one behind the other. -/
import Derived.Test.YtcdjponbhpchbaaGreatDoorBq1
import Derived.Test.YtcdjponbhpchbaaGreatDoorBq3
import Derived.Test.YtcdjponbhpchbaaGreatDoorBq5
import Derived.Test.YtcdjponbhpchbaaGreatDoorBq19
import Derived.Test.YtcdjponbhpchbaaGreatDoorBq16
import Derived.Test.YtcdjponbhpchbaaGreatDoorBq12
import Derived.Test.YtcdjponbhpchbaaGreatDoorBq8
import Derived.Test.YtcdjponbhpchbaaGreatDoorBq9
import Derived.Test.YtcdjponbhpchbaaGreatDoorBq18
import Derived.Test.YtcdjponbhpchbaaGreatDoorBq7
namespace Go.Proofs.YtcdjponbhpchbaaGreatDoor
open Go Go.RowKit

/-- "default". -/
def defS : ByteArray := ⟨#[100, 101, 102, 97, 117, 108, 116]⟩
/-- What a text has laid so far: the matrix, and the pairs whose lines have come. -/
abbrev ParSt := Option (Mx × List (Nat × Nat))
def fieldAt (f : List ByteArray) (i : Nat) : ByteArray := f.getD i ⟨#[]⟩
/-- One line: the state behind it, and its error. -/
def lineM (p : List PosV) (st : ParSt) (f : List ByteArray) : ParSt × Int :=
  match st with
  | none => if f.length = 2 ∧ fieldAt f 0 = defS ∧ numMb (fieldAt f 1) = true then (some (newM p.length (numMv (fieldAt f 1)), []), 0) else (none, 5)
  | some (m, seen) =>
    if f.length = 3 ∧ numMb (fieldAt f 2) = true then
      match posFind p (fieldAt f 0), posFind p (fieldAt f 1) with
      | some a, some b => if (a, b) ∈ seen then (some (m, seen), 4) else (some (m.setIf ((a : Int), (b : Int)) (numMv (fieldAt f 2)), (a, b) :: seen), 0)
      | _, _ => (some (m, seen), 150)
    else (some (m, seen), 5)
def parMGo (p : List PosV) : List ByteArray → Nat → ParSt → Option Mx × Int × Int
  | [], _, none => (none, 0, 5)
  | [], _, some (m, _) => (some m, 0, 0)
  | s :: r, i, st => if skipLine s then parMGo p r (i + 1) st
    else if (lineM p st (splitS 9 s)).2 = 0 then parMGo p r (i + 1) (lineM p st (splitS 9 s)).1 else (none, (i : Int) + 1, (lineM p st (splitS 9 s)).2)
/-- A text's matrix, or the line and the error. -/
def parM (text : ByteArray) (p : List PosV) : Option Mx × Int × Int :=
  if 1048576 < text.size then (none, 0, 2) else if posValid p = true then parMGo p (splitS 10 text) 0 none else (none, 0, 5)
/-- The state fits the parts of speech. -/
def StOK (p : List PosV) (st : ParSt) : Prop := ∀ m seen, st = some (m, seen) → m.OK ∧ m.n = p.length ∧ ∀ x ∈ seen, x.1 < p.length ∧ x.2 < p.length
theorem numMb_iff {s : ByteArray} (h : numMb s = true) : 0 ≤ numMv s ∧ numMv s ≤ 30000 := by
  unfold numMb at h
  simp only [Bool.and_eq_true, decide_eq_true_eq] at h
  unfold numMv
  rw [h.1]
  simp
  omega
theorem posValid_len {p : List PosV} (h : posValid p = true) : 1 ≤ p.length ∧ p.length ≤ 64 := by
  cases p with
  | nil => cases h
  | cons p0 r =>
    have h : (decide ((p0 :: r).length ≤ 64) && isBos p0 && posAll (p0 :: r) (p0 :: r) 0) = true := h
    simp only [Bool.and_eq_true, decide_eq_true_eq] at h
    exact ⟨by simp, h.1.1⟩
theorem find_lt {p : List PosV} {name : ByteArray} {k : Nat} (h : posFind p name = some k) : k < p.length := by
  have := posFind_lt h
  omega
theorem lineM_ok {p : List PosV} (hv : posValid p = true) {st : ParSt} (h : StOK p st) (f : List ByteArray) : StOK p (lineM p st f).1 := by
  have hl := posValid_len hv
  unfold lineM
  cases st with
  | none =>
    simp only
    split
    · rename_i hc
      intro m seen e
      simp only [Option.some.injEq, Prod.mk.injEq] at e
      obtain ⟨rfl, rfl⟩ := e
      have hn := numMb_iff hc.2.2
      exact ⟨newM_ok (newB_iff.2 ⟨by omega, by omega, hn.1, hn.2⟩), by simp [newM], fun x hx => by cases hx⟩
    · exact h
  | some ms =>
    obtain ⟨m, seen⟩ := ms
    simp only
    split
    · split
      · rename_i a b ha hb
        split
        · exact h
        · intro m' seen' e
          simp only [Option.some.injEq, Prod.mk.injEq] at e
          obtain ⟨rfl, rfl⟩ := e
          obtain ⟨h1, h2, h3⟩ := h m seen rfl
          refine ⟨h1.setIf _ _, by rw [setIf_n]; exact h2, fun x hx => ?_⟩
          rcases List.mem_cons.1 hx with rfl | hx
          · exact ⟨find_lt ha, find_lt hb⟩
          · exact h3 x hx
      · exact h
    · exact h
theorem parMGo_cons (p : List PosV) (s : ByteArray) (r : List ByteArray) (i : Nat) (st : ParSt) : parMGo p (s :: r) i st = if skipLine s then parMGo p r (i + 1) st
    else if (lineM p st (splitS 9 s)).2 = 0 then parMGo p r (i + 1) (lineM p st (splitS 9 s)).1 else (none, (i : Int) + 1, (lineM p st (splitS 9 s)).2) := by
  cases st <;> rfl
end Go.Proofs.YtcdjponbhpchbaaGreatDoor
namespace Go.Proofs.YtcdjponbhpchbaaGreatDoor
open Go Go.RowKit

/-- Cells of blocks other than b are kept (maps may turn). -/
structure CB (b : Nat) (w w' : World) : Prop where
  size : w.heap.size ≤ w'.heap.size
  cell : ∀ (p : Addr) (v : Value), p.block ≠ b → w.cell? p = some v → w'.cell? p = some v
theorem CB.of {b : Nat} {w w' : World} (h : Grows w w') : CB b w w' := ⟨h.size, fun _ _ _ hc => h.cell hc⟩
theorem CB.trans {b : Nat} {w w' w'' : World} (h : CB b w w') (k : CB b w' w'') : CB b w w'' := ⟨Nat.le_trans h.size k.size, fun p v hp hc => k.cell p v hp (h.cell p v hp hc)⟩
theorem CB.tr {b : Nat} {w w' w'' : World} (h : CB b w w') (k : Grows w' w'') : CB b w w'' := h.trans (CB.of k)
theorem cell_no_map {H : Type} {P : Program} {k : TypeId} {R : Value → Option (DataW H × List MemPlace)} {w : World} {bs N : Nat} {D : DataW H} (h : w.ownsMap P k R bs N D) {p : Addr} {v : Value} (hc : w.cell? p = some v) : p.block ≠ bs := by
  obtain ⟨es, clock, hb, _⟩ := h
  intro e
  rw [← e] at hb
  simp [World.cell?, hb] at hc
theorem CB.of_map {H : Type} {P : Program} {k : TypeId} {R : Value → Option (DataW H × List MemPlace)} {b : Nat} {w w' : World} {bs N : Nat} {D : DataW H} (h : w.ownsMap P k R bs N D) (hg : w.grownBy w' (some bs)) : CB b w w' :=
  ⟨hg.size, fun _ _ _ hc => grownBy_cell hg hc (fun e => cell_no_map h hc (Option.some.inj e))⟩
theorem CB.set {w : World} (b i : Nat) (v : Value) : CB b w (w.setCell ⟨b, i, none⟩ v) :=
  ⟨by simp, fun p u hp hc => by rw [World.cell?_setCell_other _ _ _ _ (fun e => hp (by rw [← e]))]; exact hc⟩
theorem CB.cells {b : Nat} {w w' : World} {a : Option Addr} {k : Nat} {rows : List (List Value)} (h : CB b w w') (hat : AtCells w a k rows) (hb : ∀ q : Addr, a = some q → q.block ≠ b) : AtCells w' a k rows := fun hn => by
  obtain ⟨b', off, rfl, hc⟩ := hat hn
  exact ⟨b', off, rfl, fun i row hi j v hj => h.cell _ _ (show b' ≠ b from hb ⟨b', off, none⟩ rfl) (hc i row hi j v hj)⟩

/-- The pairs that have come. -/
def seenOf : ParSt → List (Nat × Nat)
  | none => []
  | some ms => ms.2
/-- What the map of the pairs that have come holds. -/
def SeenM (seen : List (Nat × Nat)) (D : DataW Unit) : Prop := ∀ a b : Nat, a ≤ 64 → b ≤ 64 → D.atKey (klP ((a : Int), (b : Int))) (.lit (.int .i64 0)) = .lit (.int .i64 (if (a, b) ∈ seen then 1 else 0))
theorem wfI_nat {a : Nat} (h : a ≤ 64) : WfI (a : Int) := by
  unfold WfI
  exact WalkArith.wf_i64 (by omega)
theorem SeenM.nil : SeenM [] (.map []) := fun _ _ _ _ => rfl
theorem SeenM.put {seen : List (Nat × Nat)} {D : DataW Unit} (h : SeenM seen D) (hm : Go.Maps.IsMap D) {a b : Nat} (ha : a ≤ 64) (hb : b ≤ 64) : SeenM ((a, b) :: seen) (D.put (klP ((a : Int), (b : Int))) (.lit (.int .i64 1))) := fun a' b' ha' hb' => by
  by_cases e : (a', b') = (a, b)
  · obtain ⟨rfl, rfl⟩ := Prod.mk.inj e
    rw [Go.Maps.atKey_put_same hm (klP_key _)]
    simp
  · rw [Go.Maps.atKey_put_other (fun e2 => e ?_), h a' b' ha' hb']
    · simp [e]
    · have := klP_inj (wfI_nat ha') (wfI_nat hb') (wfI_nat ha) (wfI_nat hb) e2
      simp only [Prod.mk.injEq, Int.natCast_inj] at this
      rw [this.1, this.2]
/-- The boxes of Parse: b7 the matrix, b8 the map of the pairs that have come, bs that map. -/
structure PSt (w : World) (B b7 b8 bs N : Nat) (st : ParSt) : Prop where
  g7 : B ≤ b7
  gs : B ≤ bs
  n78 : b8 ≠ b7
  c8 : w.cell? ⟨b8, 0, none⟩ = some (.map (some bs))
  c7 : ∃ v, w.cell? ⟨b7, 0, none⟩ = some v
  f7 : w.frozen? ⟨b7, 0, none⟩ = false
  mp : ∃ D, w.ownsMap Tryz.prog 59 (plainElem Tryz.prog 3) bs N D ∧ SeenM (seenOf st) D
  no : st = none → w.cell? ⟨b7, 0, none⟩ = some (.pointer none)
  so : ∀ m seen, st = some (m, seen) → ∃ mb bm, w.cell? ⟨b7, 0, none⟩ = some (.pointer (some ⟨mb, 0, none⟩)) ∧ MatAt w mb bm m ∧ B ≤ mb ∧ B ≤ bm ∧ bm ≠ bs ∧ mb ≠ b7
theorem PSt.lt7 {w : World} {B b7 b8 bs N : Nat} {st : ParSt} (h : PSt w B b7 b8 bs N st) : b7 < w.heap.size := let ⟨_, hv⟩ := h.c7; World.block_lt_of_cell? w _ hv
theorem PSt.grows {w w' : World} {B b7 b8 bs N : Nat} {st : ParSt} (h : PSt w B b7 b8 bs N st) (hg : Grows w w') : PSt w' B b7 b8 bs N st :=
  ⟨h.g7, h.gs, h.n78, hg.cell h.c8, let ⟨v, hv⟩ := h.c7; ⟨v, hg.cell hv⟩, (hg.froz (p := ⟨b7, 0, none⟩) h.lt7).trans h.f7, let ⟨D, ho, hm⟩ := h.mp; ⟨D, ownsMap_grows ho hg, hm⟩,
   fun e => hg.cell (h.no e), fun m seen e => let ⟨mb, bm, h1, h2, h3⟩ := h.so m seen e; ⟨mb, bm, hg.cell h1, h2.grows hg, h3⟩⟩
/-- What a line leaves. -/
def PLinePost (p : List PosV) (st : ParSt) (f : List ByteArray) (B b7 b8 bs N : Nat) (w : World) (e : Ending) (w' : World) : Prop :=
  e = .returned (.int .i64 (lineM p st f).2) ∧ ((lineM p st f).2 = 0 → PSt w' B b7 b8 bs (N + 1) (lineM p st f).1) ∧ EB B w w' ∧ CB b7 w w'
theorem PLinePost.err {p : List PosV} {st : ParSt} {f : List ByteArray} {B b7 b8 bs N : Nat} {w w' : World} {E : Int} (hl : (lineM p st f).2 = E) (hE : E ≠ 0) (h1 : EB B w w') (h2 : CB b7 w w') : PLinePost p st f B b7 b8 bs N w (.returned (.int .i64 E)) w' :=
  ⟨by rw [hl], fun h => absurd (hl.symm.trans h) hE, h1, h2⟩
theorem lineM_bad {p : List PosV} {f : List ByteArray} (h : ¬ (f.length = 2 ∧ fieldAt f 0 = defS ∧ numMb (fieldAt f 1) = true)) : lineM p none f = (none, 5) := by
  unfold lineM
  simp only
  rw [if_neg h]
theorem lineM_def {p : List PosV} {a b : ByteArray} (ha : a = defS) (hb : numMb b = true) : lineM p none [a, b] = (some (newM p.length (numMv b), []), 0) := by
  unfold lineM
  simp only
  rw [if_pos ⟨rfl, ha, hb⟩]
  rfl
theorem lineM_some (p : List PosV) (m : Mx) (seen : List (Nat × Nat)) (f : List ByteArray) : ∃ m' seen', (lineM p (some (m, seen)) f).1 = some (m', seen') ∧ m'.n = m.n := by
  unfold lineM
  simp only
  split
  · split
    · split
      · exact ⟨_, _, rfl, rfl⟩
      · exact ⟨_, _, rfl, setIf_n _ _ _⟩
    · exact ⟨_, _, rfl, rfl⟩
  · exact ⟨_, _, rfl, rfl⟩
theorem lineM_three {p : List PosV} {m : Mx} {seen : List (Nat × Nat)} {x y z : ByteArray} (hz : numMb z = true) : lineM p (some (m, seen)) [x, y, z] = (match posFind p x, posFind p y with
    | some a, some b => if (a, b) ∈ seen then (some (m, seen), 4) else (some (m.setIf ((a : Int), (b : Int)) (numMv z), (a, b) :: seen), 0)
    | _, _ => (some (m, seen), 150)) := by
  unfold lineM
  simp only
  rw [if_pos ⟨rfl, hz⟩]
  rfl
theorem lineM_not3 {p : List PosV} {m : Mx} {seen : List (Nat × Nat)} {f : List ByteArray} (h : ¬ (f.length = 3 ∧ numMb (fieldAt f 2) = true)) : lineM p (some (m, seen)) f = (some (m, seen), 5) := by
  unfold lineM
  simp only
  rw [if_neg h]
/-- A look-up says the same; the map alone turns. -/
def EM (P : Program) (t : TypeId) (bs : Nat) (key : Value) (w u : World) : Prop := w.grownBy u (some bs) ∧ ∀ v, (Instr.lookup t (.map (some bs)) key false).run P w = .ok v w → (Instr.lookup t (.map (some bs)) key false).run P u = .ok v u
theorem EM.refl (P : Program) (t : TypeId) (bs : Nat) (key : Value) (w : World) : EM P t bs key w w := ⟨⟨rfl, rfl, rfl, Nat.le_refl _, fun _ _ _ => rfl⟩, fun _ h => h⟩
instance (P : Program) (t : TypeId) (bs : Nat) (key : Value) (w : World) : Nonempty (Ext (EM P t bs key) w) := ⟨⟨w, EM.refl _ _ _ _ _⟩⟩
theorem EM.trans (P : Program) (t : TypeId) (bs : Nat) (key : Value) (a b c : World) (h : EM P t bs key a b) (k : EM P t bs key b c) : EM P t bs key a c := ⟨h.1.andThen k.1 (fun _ hj => Or.inr hj), fun v hv => k.2 v (h.2 v hv)⟩
end Go.Proofs.YtcdjponbhpchbaaGreatDoor
namespace Go.Proofs.YtcdjponbhpchbaaGreatDoor
open Go Go.RowKit

theorem splitS_B (c : UInt8) (s : ByteArray) : splitS c s = (splitL c s.data.toList).map mkB := splitB_L c s
theorem valid_of_runes6 : ∀ (n : Nat) (l : List UInt8), l.length ≤ n → 65533 ∉ runesD l → Lib.validD l = true
  | 0, l, hl, _ => by
    have : l = [] := List.eq_nil_of_length_eq_zero (by omega)
    subst this; rfl
  | n + 1, l, hl, h => by
    by_cases hne : l = []
    · subst hne; rfl
    · have hlen : 0 < l.length := List.length_pos_iff.2 hne
      have hw := Lib.decodeL_width l
      rw [runesD_step l hne] at h
      rw [Lib.validD_step l hne, if_neg (fun hb => h (by rw [hb.1]; exact List.mem_cons_self))]
      exact valid_of_runes6 n _ (by rw [List.length_drop]; omega) (fun hm => h (List.mem_cons_of_mem _ hm))
theorem named_ge {s : ByteArray} (h : namedS s = true) : s.data.toList ≠ [] ∧ ∀ b ∈ s.data.toList, 45 ≤ b.toNat := by
  rw [namedS_D] at h
  simp only [Bool.and_eq_true, decide_eq_true_eq, Bool.not_eq_true', List.any_eq_false] at h
  obtain ⟨⟨hne, _⟩, hall⟩ := h
  have hv := valid_of_runes6 _ _ (Nat.le_refl _) (fun hm => hall _ hm (by decide))
  refine ⟨fun e => by rw [Lib.toList_data, e] at hne; simp at hne, fun b hb => ?_⟩
  rcases Nat.lt_or_ge b.toNat 45 with hlt | hge
  · exfalso
    apply hall _ (small_mem _ _ (Nat.le_refl _) hv b hb (by omega))
    unfold nameBad
    simp; omega
  · exact hge
theorem findAt_some6 {name : ByteArray} : ∀ {l : List PosV} {i j : Nat} {p : PosV}, l[j]? = some p → p.name = name → (findAt name l i).isSome = true
  | [], _, _, _, h, _ => by simp at h
  | q :: l, i, 0, p, h, hn => by
    obtain rfl : q = p := by simpa using h
    rw [findAt, if_pos (seq_iff.2 hn)]; rfl
  | q :: l, i, j + 1, p, h, hn => by
    rw [findAt]
    split
    · rfl
    · exact findAt_some6 (by simpa using h) hn
theorem posAll_at6 {L : List PosV} : ∀ {l : List PosV} {i j : Nat} {q : PosV}, posAll L l i = true → l[j]? = some q → posOK L (i + j) q = true
  | [], _, _, _, _, h => by simp at h
  | r :: l, i, 0, q, ha, h => by
    rw [posAll, Bool.and_eq_true] at ha
    obtain rfl : r = q := by simpa using h
    exact ha.1
  | r :: l, i, j + 1, q, ha, h => by
    rw [posAll, Bool.and_eq_true] at ha
    have := posAll_at6 ha.2 (by simpa using h : l[j]? = some q)
    rwa [show i + 1 + j = i + (j + 1) by omega] at this
theorem valid_at6 {p : List PosV} (hv : posValid p = true) {k : Nat} (hk : k < p.length) : posFind p (nameAt p (k : Int)) = some k ∧ namedS (nameAt p (k : Int)) = true := by
  have ha : posAll p p 0 = true := by
    cases p with
    | nil => rfl
    | cons p0 r =>
      have h : (decide ((p0 :: r).length ≤ 64) && isBos p0 && posAll (p0 :: r) (p0 :: r) 0) = true := hv
      simp only [Bool.and_eq_true] at h
      exact h.2
  have hq := List.getElem?_eq_getElem hk
  have hok := posAll_at6 ha hq
  rw [Nat.zero_add] at hok
  unfold posOK at hok
  simp only [Bool.and_eq_true, beq_iff_eq] at hok
  have hn : nameAt p (k : Int) = p[k].name := by unfold nameAt; rw [Int.toNat_natCast, hq]; rfl
  rw [hn]
  have hs := findAt_some6 (i := 0) hq rfl
  obtain ⟨j, hj⟩ := Option.isSome_iff_exists.1 hs
  refine ⟨?_, hok.1.1.2⟩
  have h1 := hok.1.1.1
  have hj' : posFind p p[k].name = some j := hj
  rw [hj'] at h1 ⊢
  have : (j : Int) = k := h1
  rw [show j = k by omega]
theorem itoa6 {c : Int} (h0 : 0 ≤ c) (h1 : c ≤ 30000) : digOK (Lib.itoa c) = true ∧ decVal (Lib.itoa c) = c.toNat ∧ ∀ b ∈ Lib.itoa c, 48 ≤ b.toNat := by
  have e : Lib.itoa c = Lib.decDigits c.toNat := by unfold Lib.itoa; rw [if_neg (by omega)]
  have hd := decDigits_dig c.toNat c.toNat (Nat.le_refl _)
  refine ⟨?_, by rw [e]; exact decVal_digits _ _ (Nat.le_refl _), fun b hb => ?_⟩
  · rw [e]
    unfold digOK
    rw [hd]
    have h5 := decDigits_short 5 c.toNat (by omega) (by omega)
    have hne : (Lib.decDigits c.toNat).isEmpty = false := by
      cases h : Lib.decDigits c.toNat with
      | nil => exact absurd h (decDigits_ne _)
      | cons _ _ => rfl
    rw [hne]; simp [h5]
  · rw [e] at hb
    have := List.all_eq_true.1 hd b hb
    unfold isDig at this
    simp at this
    omega
theorem num6 {c : Int} (h0 : 0 ≤ c) (h1 : c ≤ 30000) : numMb (mkB (Lib.itoa c)) = true ∧ numMv (mkB (Lib.itoa c)) = c := by
  obtain ⟨h2, h3, _⟩ := itoa6 h0 h1
  unfold numMb numMv
  rw [mkB_data, h2, h3]
  refine ⟨?_, ?_⟩
  · simp; omega
  · simp; omega
/-- A line without its end. -/
def lineB (p : List PosV) (m : Mx) (i : Nat) : List UInt8 := joinL 9 [(nameAt p (i / m.n : Nat)).data.toList, (nameAt p (i % m.n : Nat)).data.toList, Lib.itoa (m.cs.getD i 0)]
theorem lineP_B (p : List PosV) (m : Mx) (i : Nat) : lineP p m i = lineB p m i ++ [10] := by
  unfold lineP lineB
  simp [joinL]
theorem cost_at {m : Mx} (hm : m.OK) {i : Nat} (hi : i < m.n * m.n) : 0 ≤ m.cs.getD i 0 ∧ m.cs.getD i 0 ≤ 30000 := by
  have hl := hm.len
  rw [List.getD_eq_getElem?_getD, List.getElem?_eq_getElem (by omega)]
  exact hm.cost _ (List.getElem_mem _)
theorem no_byte {l : List UInt8} {k : Nat} (c : UInt8) (h : ∀ b ∈ l, k ≤ b.toNat) (hc : c.toNat < k) : c ∉ l := fun hm => by have := h c hm; omega
theorem line_parts {p : List PosV} {m : Mx} (hm : m.OK) (hv : posValid p = true) (hl : p.length = m.n) {i : Nat} (hi : i < m.n * m.n) :
    (10 : UInt8) ∉ lineB p m i ∧ skipLine (mkB (lineB p m i)) = false ∧ splitS 9 (mkB (lineB p m i)) = [nameAt p (i / m.n : Nat), nameAt p (i % m.n : Nat), mkB (Lib.itoa (m.cs.getD i 0))] := by
  have hn := hm.n1
  have hr : i / m.n < p.length := by rw [hl]; exact Nat.div_lt_of_lt_mul hi
  have hq : i % m.n < p.length := by rw [hl]; exact Nat.mod_lt _ (by omega)
  obtain ⟨_, a2⟩ := valid_at6 hv hr
  obtain ⟨_, b2⟩ := valid_at6 hv hq
  obtain ⟨a3, a4⟩ := named_ge a2
  obtain ⟨b3, b4⟩ := named_ge b2
  obtain ⟨c0, c1⟩ := cost_at hm hi
  obtain ⟨_, _, c4⟩ := itoa6 c0 c1
  generalize hA : nameAt p ((i / m.n : Nat) : Int) = A at *
  generalize hB : nameAt p ((i % m.n : Nat) : Int) = B at *
  generalize hC : Lib.itoa (m.cs.getD i 0) = C at *
  have hbody : lineB p m i = A.data.toList ++ 9 :: (B.data.toList ++ 9 :: C) := by
    unfold lineB
    rw [hA, hB, hC]
    simp [joinL]
  refine ⟨?_, ?_, ?_⟩
  · rw [hbody]
    simp only [List.mem_append, List.mem_cons, not_or]
    exact ⟨no_byte 10 a4 (by decide), by decide, no_byte 10 b4 (by decide), by decide, no_byte 10 c4 (by decide)⟩
  · rw [hbody]
    unfold skipLine
    rw [mkB_data]
    cases hAl : A.data.toList with
    | nil => exact absurd hAl a3
    | cons x r =>
      have hx := a4 x (by rw [hAl]; simp)
      have : ¬ x = 35 := fun e => by rw [e] at hx; exact absurd hx (by decide)
      simp [this]
  · rw [splitS_B, mkB_data]
    unfold lineB
    rw [hA, hB, hC, split_joinL 9 (by simp) (fun y hy => by
      simp only [List.mem_cons, List.not_mem_nil, or_false] at hy
      rcases hy with rfl | rfl | rfl
      · exact no_byte 9 a4 (by decide)
      · exact no_byte 9 b4 (by decide)
      · exact no_byte 9 c4 (by decide))]
    have mk : ∀ s : ByteArray, mkB s.data.toList = s := fun s => rfl
    simp [mk]
theorem split_flat {p : List PosV} {m : Mx} (hm : m.OK) (hv : posValid p = true) (hl : p.length = m.n) : ∀ {L : List Nat}, (∀ i ∈ L, i < m.n * m.n) → splitL 10 (L.flatMap (lineP p m)) = L.map (lineB p m) ++ [[]]
  | [], _ => rfl
  | i :: L, h => by
    rw [List.flatMap_cons, lineP_B, List.append_assoc, List.singleton_append, splitL_app _ (line_parts hm hv hl (h i (by simp))).1, split_flat hm hv hl (fun a ha => h a (by simp [ha]))]
    rfl
theorem parM_lines {p : List PosV} {m : Mx} (hm : m.OK) (hv : posValid p = true) (hl : p.length = m.n) : ∀ (L A : List Nat) (j k : Nat) (seen : List (Nat × Nat)), m.idx = A ++ L → (∀ a ∈ A, a < j) → (∀ a ∈ L, j ≤ a) → (∀ x ∈ seen, x.1 * m.n + x.2 < j) →
    parMGo p (L.map (fun i => mkB (lineB p m i)) ++ [mkB []]) k (some (cutM m j, seen)) = (some m, 0, 0)
  | [], A, j, k, seen, hidx, hA, _, _ => by
    have hs : skipLine (mkB []) = true := rfl
    rw [List.map_nil, List.nil_append, parMGo_cons, if_pos hs]
    show (some (cutM m j), (0 : Int), (0 : Int)) = _
    rw [cutM_eq hm fun i hij hi => idx_default hi fun hmem => ?_]
    rw [hidx, List.append_nil] at hmem
    have := hA i hmem
    omega
  | i :: L, A, j, k, seen, hidx, hA, hL, hsn => by
    have hmem : i ∈ m.idx := by rw [hidx]; simp
    obtain ⟨hi, hid⟩ := Mx.mem_idx.1 hmem
    have hji := hL i (List.mem_cons_self ..)
    have hup : (A ++ i :: L).Pairwise (· < ·) := by rw [← hidx]; exact Mx.idx_up
    rw [List.pairwise_append, List.pairwise_cons] at hup
    obtain ⟨_, ⟨hup2, _⟩, _⟩ := hup
    obtain ⟨c0, c1⟩ := cost_at hm hi
    obtain ⟨_, hsk, hsp⟩ := line_parts hm hv hl hi
    have hn := hm.n1
    have hr : i / m.n < p.length := by rw [hl]; exact Nat.div_lt_of_lt_mul hi
    have hq : i % m.n < p.length := by rw [hl]; exact Nat.mod_lt _ (by omega)
    obtain ⟨f1, _⟩ := valid_at6 hv hr
    obtain ⟨f2, _⟩ := valid_at6 hv hq
    obtain ⟨n1, n2⟩ := num6 c0 c1
    have hdm : i / m.n * m.n + i % m.n = i := by rw [Nat.mul_comm]; exact Nat.div_add_mod i m.n
    have hnot : (i / m.n, i % m.n) ∉ seen := fun h => by
      have := hsn _ h
      simp only at this
      omega
    have hset : (cutM m j).setIf (((i / m.n : Nat) : Int), ((i % m.n : Nat) : Int)) (m.cs.getD i 0) = cutM m (i + 1) := by
      have hB : (cutM m j).setB (pairAt m.n i) (m.cs.getD i 0) = true := setB_at (m := cutM m j) hi (isC_iff.2 ⟨c0, c1⟩)
      show (cutM m j).setIf (pairAt m.n i) _ = _
      rw [setIf_yes hB]
      exact cutM_set hi hji fun a ha1 ha2 => idx_default (by omega) fun hm2 => by
        rw [hidx] at hm2
        rcases List.mem_append.1 hm2 with h | h
        · have := hA a h; omega
        · rcases List.mem_cons.1 h with rfl | h
          · omega
          · have := hup2 a h; omega
    have hline : lineM p (some (cutM m j, seen)) (splitS 9 (mkB (lineB p m i))) = (some (cutM m (i + 1), (i / m.n, i % m.n) :: seen), 0) := by
      rw [hsp, lineM_three n1, f1, f2]
      simp only
      rw [if_neg hnot, n2, hset]
    rw [List.map_cons, List.cons_append, parMGo_cons, hsk, hline]
    simp only [Bool.false_eq_true, if_false, if_true]
    refine parM_lines hm hv hl L (A ++ [i]) (i + 1) _ _ (by rw [hidx]; simp) (fun a ha => ?_) (fun a ha => hup2 a ha) (fun x hx => ?_)
    · rcases List.mem_append.1 ha with ha | ha
      · have := hA a ha; omega
      · rw [List.mem_singleton.1 ha]; omega
    · rcases List.mem_cons.1 hx with rfl | hx
      · simp only; omega
      · have := hsn x hx; omega
/-- What is printed is read again. -/
theorem print_parM {p : List PosV} {m : Mx} (hm : m.OK) (hv : posValid p = true) (hl : p.length = m.n) (hs : (m.print p).length ≤ 1048576) : parM (mkB (m.print p)) p = (some m, 0, 0) := by
  obtain ⟨hd0, hd1⟩ := And.intro hm.d1 hm.d2
  obtain ⟨n1, n2⟩ := num6 hd0 hd1
  obtain ⟨_, _, c4⟩ := itoa6 hd0 hd1
  have hdef : m.print p = ([100, 101, 102, 97, 117, 108, 116] ++ 9 :: Lib.itoa m.d) ++ 10 :: m.idx.flatMap (lineP p m) := by
    unfold Mx.print
    simp
  have h10 : (10 : UInt8) ∉ ([100, 101, 102, 97, 117, 108, 116] ++ 9 :: Lib.itoa m.d : List UInt8) := by
    simp only [List.mem_append, List.mem_cons, not_or]
    exact ⟨by decide, by decide, no_byte 10 c4 (by decide)⟩
  unfold parM
  rw [if_neg (by rw [Lib.size_eq, mkB_data]; omega), if_pos hv, splitS_B, mkB_data, hdef, splitL_app _ h10, split_flat hm hv hl (fun i hi => (Mx.mem_idx.1 hi).1)]
  rw [List.map_cons, List.map_append, List.map_map, parMGo_cons]
  have hsk : skipLine (mkB ([100, 101, 102, 97, 117, 108, 116] ++ 9 :: Lib.itoa m.d)) = false := by
    unfold skipLine
    rw [mkB_data]
    simp
  have hsp : splitS 9 (mkB ([100, 101, 102, 97, 117, 108, 116] ++ 9 :: Lib.itoa m.d)) = [defS, mkB (Lib.itoa m.d)] := by
    rw [splitS_B, mkB_data, splitL_app _ (by decide), splitL_none (no_byte 9 c4 (by decide))]
    rfl
  rw [hsk, hsp, lineM_def rfl n1, n2, hl, ← cutM_zero]
  simp only [Bool.false_eq_true, if_false, if_true]
  exact parM_lines hm hv hl m.idx [] 0 _ [] rfl (fun a ha => by cases ha) (fun a _ => Nat.zero_le a) (fun x hx => by cases hx)
end Go.Proofs.YtcdjponbhpchbaaGreatDoor
