import Derived.Test.YtfkebhkckcnlpaaGreatDoorPrint
import Derived.Test.YtfkebhkckcnlpaaGreatDoorDecP
import Derived.Test.YtfkebhkckcnlpaaGreatDoorKanaP
import Derived.Test.YtfkebhkckcnlpaaGreatDoorSplitP
namespace Go.Proofs.YtfkebhkckcnlpaaGreatDoor
open Go

theorem splitS_L (c : UInt8) (s : ByteArray) : splitS c s = (splitL c s.data.toList).map mkB := splitB_L c s
theorem valid_of_runes : ∀ (n : Nat) (l : List UInt8), l.length ≤ n → 65533 ∉ runesD l → Lib.validD l = true
  | 0, l, hl, _ => by
    have : l = [] := List.eq_nil_of_length_eq_zero (by omega)
    subst this; rfl
  | n + 1, l, hl, h => by
    by_cases hne : l = []
    · subst hne; rfl
    · have hlen : 0 < l.length := List.length_pos_iff.2 hne
      have hw := Lib.decodeL_width l
      rw [runesD_step l hne] at h
      rw [Lib.validD_step l hne, if_neg (fun hb => h (by rw [hb.1]; exact List.mem_cons_self))]
      exact valid_of_runes n _ (by rw [List.length_drop]; omega) (fun hm => h (List.mem_cons_of_mem _ hm))
theorem reading_clean {s : ByteArray} (h : readingS s = true) : s.data.toList ≠ [] ∧ ∀ b ∈ s.data.toList, 128 ≤ b.toNat := by
  rw [readingS_D] at h
  simp only [Bool.and_eq_true, decide_eq_true_eq, Bool.not_eq_true', List.any_eq_false] at h
  obtain ⟨⟨⟨hv, h1⟩, _⟩, hall⟩ := h
  refine ⟨fun e => by rw [e, runesD_nil] at h1; simp at h1, fun b hb => ?_⟩
  rcases Nat.lt_or_ge b.toNat 128 with hlt | hge
  · exfalso
    apply hall _ (small_mem _ _ (Nat.le_refl _) hv b hb hlt)
    unfold kanaBad isHira
    simp; omega
  · exact hge
theorem surface_clean {s : ByteArray} (h : surfaceS s = true) : ∀ b ∈ s.data.toList, 32 ≤ b.toNat := by
  rw [surfaceS_D] at h
  simp only [Bool.and_eq_true, decide_eq_true_eq, Bool.not_eq_true', List.any_eq_false] at h
  obtain ⟨⟨⟨hv, h1⟩, _⟩, hall⟩ := h
  intro b hb
  rcases Nat.lt_or_ge b.toNat 32 with hlt | hge
  · exfalso
    apply hall _ (small_mem _ _ (Nat.le_refl _) hv b hb (by omega))
    unfold surfBad
    simp; omega
  · exact hge
theorem named_clean {s : ByteArray} (h : namedS s = true) : ∀ b ∈ s.data.toList, 32 ≤ b.toNat := by
  rw [namedS_D] at h
  simp only [Bool.and_eq_true, decide_eq_true_eq, Bool.not_eq_true', List.any_eq_false] at h
  obtain ⟨_, hall⟩ := h
  have hv := valid_of_runes _ _ (Nat.le_refl _) (fun hm => hall _ hm (by decide))
  intro b hb
  rcases Nat.lt_or_ge b.toNat 32 with hlt | hge
  · exfalso
    apply hall _ (small_mem _ _ (Nat.le_refl _) hv b hb (by omega))
    unfold nameBad
    simp; omega
  · exact hge
theorem not_mem_of {l : List UInt8} {k : Nat} (c : UInt8) (h : ∀ b ∈ l, k ≤ b.toNat) (hc : c.toNat < k) : c ∉ l := fun hm => by have := h c hm; omega

theorem findAt_some {name : ByteArray} : ∀ {l : List PosV} {i j : Nat} {p : PosV}, l[j]? = some p → p.name = name → (findAt name l i).isSome = true
  | [], _, _, _, h, _ => by simp at h
  | q :: l, i, 0, p, h, hn => by
    obtain rfl : q = p := by simpa using h
    rw [findAt, if_pos (seq_iff.2 hn)]; rfl
  | q :: l, i, j + 1, p, h, hn => by
    rw [findAt]
    split
    · rfl
    · exact findAt_some (by simpa using h) hn
theorem findAt_name {name : ByteArray} : ∀ {l : List PosV} {i k : Nat}, findAt name l i = some k → ∃ p, l[k - i]? = some p ∧ p.name = name ∧ i ≤ k
  | [], i, k, h => by simp [findAt] at h
  | q :: l, i, k, h => by
    rw [findAt] at h
    split at h
    · rename_i hs
      obtain rfl := Option.some.inj h
      exact ⟨q, by simp, seq_iff.1 hs, Nat.le_refl _⟩
    · obtain ⟨p, h1, h2, h3⟩ := findAt_name h
      refine ⟨p, ?_, h2, by omega⟩
      rw [show k - i = (k - (i + 1)) + 1 by omega]; simpa using h1
theorem posFind_name {name : ByteArray} {l : List PosV} {k : Nat} (h : posFind l name = some k) : nameAt l (k : Int) = name := by
  obtain ⟨p, h1, h2, _⟩ := findAt_name h
  unfold nameAt
  rw [Nat.sub_zero] at h1
  rw [Int.toNat_natCast, h1]; exact h2
theorem valid_all {p : List PosV} (hv : posValid p = true) : posAll p p 0 = true := by
  cases p with
  | nil => rfl
  | cons p0 r =>
    have h : (decide ((p0 :: r).length ≤ 64) && isBos p0 && posAll (p0 :: r) (p0 :: r) 0) = true := hv
    simp only [Bool.and_eq_true] at h
    exact h.2
theorem valid_at {p : List PosV} (hv : posValid p = true) {i : Int} (h0 : 0 ≤ i) (hi : i < p.length) : posFind p (nameAt p i) = some i.toNat ∧ namedS (nameAt p i) = true := by
  obtain ⟨k, rfl⟩ := Int.eq_ofNat_of_zero_le h0
  have hk : k < p.length := by omega
  have hq := List.getElem?_eq_getElem hk
  have hok := posAll_get (valid_all hv) hq
  rw [Nat.zero_add] at hok
  unfold posOK at hok
  simp only [Bool.and_eq_true, beq_iff_eq] at hok
  have hn : nameAt p (k : Int) = p[k].name := by unfold nameAt; rw [Int.toNat_natCast, hq]; rfl
  rw [hn, Int.toNat_natCast]
  have hs := findAt_some (i := 0) hq rfl
  obtain ⟨j, hj⟩ := Option.isSome_iff_exists.1 hs
  refine ⟨?_, hok.1.1.2⟩
  have h1 := hok.1.1.1
  have hj' : posFind p p[k].name = some j := hj
  rw [hj'] at h1 ⊢
  have : (j : Int) = k := h1
  rw [show j = k by omega]

def bodyOf (p : List PosV) (x : En) : List UInt8 := joinL 9 [x.r.data.toList, x.s.data.toList, (nameAt p x.l).data.toList, (nameAt p x.t).data.toList, Lib.itoa x.c]
theorem lineOf_body (p : List PosV) (x : En) : lineOf p x = bodyOf p x ++ [10] := by
  unfold lineOf bodyOf
  rw [List.map_cons, lib_join]
  rfl
theorem checkE_parts {x : En} {n : Int} (h : checkE x n = 0) : readingS x.r = true ∧ surfaceS x.s = true := by
  unfold checkE checkS at h
  split at h
  · rename_i hc
    simpa using hc
  · omega
theorem itoa_digits {c : Int} (h0 : 0 ≤ c) : Lib.itoa c = Lib.decDigits c.toNat := by
  unfold Lib.itoa; rw [if_neg (by omega)]
structure Clean (p : List PosV) (x : En) : Prop where
  r : ∀ b ∈ x.r.data.toList, 32 ≤ b.toNat
  s : ∀ b ∈ x.s.data.toList, 32 ≤ b.toNat
  l : ∀ b ∈ (nameAt p x.l).data.toList, 32 ≤ b.toNat
  t : ∀ b ∈ (nameAt p x.t).data.toList, 32 ≤ b.toNat
  c : ∀ b ∈ Lib.itoa x.c, 32 ≤ b.toNat
theorem clean_of {p : List PosV} {x : En} (hv : posValid p = true) (h : checkE x p.length = 0) : Clean p x := by
  obtain ⟨h1, h2, h3, h4, h5, h6⟩ := checkE_ok h
  obtain ⟨hr, hs⟩ := checkE_parts h
  refine ⟨fun b hb => ?_, surface_clean hs, named_clean (valid_at hv h1 h2).2, named_clean (valid_at hv h3 h4).2, fun b hb => ?_⟩
  · have := (reading_clean hr).2 b hb; omega
  · rw [itoa_digits h5] at hb
    have := dig_range (decDigits_dig _ _ (Nat.le_refl _)) hb; omega
theorem pieces9 {p : List PosV} {x : En} (h : Clean p x) : splitL 9 (bodyOf p x) = [x.r.data.toList, x.s.data.toList, (nameAt p x.l).data.toList, (nameAt p x.t).data.toList, Lib.itoa x.c] := by
  refine split_joinL 9 (by simp) fun y hy => ?_
  simp only [List.mem_cons, List.not_mem_nil, or_false] at hy
  rcases hy with rfl | rfl | rfl | rfl | rfl
  · exact not_mem_of 9 h.r (by decide)
  · exact not_mem_of 9 h.s (by decide)
  · exact not_mem_of 9 h.l (by decide)
  · exact not_mem_of 9 h.t (by decide)
  · exact not_mem_of 9 h.c (by decide)
theorem body_no10 {p : List PosV} {x : En} (h : Clean p x) : (10 : UInt8) ∉ bodyOf p x := by
  unfold bodyOf
  simp only [joinL, List.mem_append, List.mem_cons, not_or]
  exact ⟨not_mem_of 10 h.r (by decide), by decide, not_mem_of 10 h.s (by decide), by decide, not_mem_of 10 h.l (by decide), by decide, not_mem_of 10 h.t (by decide), by decide, not_mem_of 10 h.c (by decide)⟩
theorem skip_body {p : List PosV} {x : En} {n : Int} (h : checkE x n = 0) : skipLine (mkB (bodyOf p x)) = false := by
  obtain ⟨hne, hr⟩ := reading_clean (checkE_parts h).1
  unfold skipLine
  rw [mkB_data]
  unfold bodyOf
  cases hl : x.r.data.toList with
  | nil => exact absurd hl hne
  | cons b r =>
    have := hr b (by rw [hl]; simp)
    have h35 : ¬ b = 35 := fun e => by subst e; simp at this
    simp [joinL, h35]
theorem read_body {p : List PosV} {x : En} (hv : posValid p = true) (h : checkE x p.length = 0) : readS (mkB (bodyOf p x)) p = (x, 0) := by
  have hc := clean_of hv h
  obtain ⟨h1, h2, h3, h4, h5, h6⟩ := checkE_ok h
  have hsp : splitS 9 (mkB (bodyOf p x)) = [x.r, x.s, nameAt p x.l, nameAt p x.t, mkB (Lib.itoa x.c)] := by
    rw [splitS_L, mkB_data, pieces9 hc]
    simp only [List.map_cons, List.map_nil, mkB_of]
  have hok : numOK (mkB (Lib.itoa x.c)).data.toList = true := by rw [mkB_data, itoa_digits h5]; exact numOK_digits (by omega)
  have hnum : numV (mkB (Lib.itoa x.c)) = x.c := by
    unfold numV
    rw [if_pos hok, mkB_data, itoa_digits h5, decVal_digits _ _ (Nat.le_refl _)]; omega
  unfold readS
  rw [hsp]
  simp only [hok, if_true, hnum, (valid_at hv h1 h2).1, (valid_at hv h3 h4).1]
  have e1 : idxI (some x.l.toNat) = x.l := by show ((x.l.toNat : Nat) : Int) = x.l; omega
  have e2 : idxI (some x.t.toNat) = x.t := by show ((x.t.toNat : Nat) : Int) = x.t; omega
  rw [e1, e2]
  have hck : checkS x.r x.s x.l x.t x.c p.length = 0 := h
  rw [hck]
  rfl
theorem read_ok {p : List PosV} {s : ByteArray} (h : (readS s p).2 = 0) : bodyOf p (readS s p).1 = s.data.toList ∧ checkE (readS s p).1 p.length = 0 := by
  unfold readS at h ⊢
  split at h
  · rename_i r t a b c hsp
    rw [splitS_L] at hsp
    have hj := join_splitL 9 s.data.toList
    have hm : splitL 9 s.data.toList = [r.data.toList, t.data.toList, a.data.toList, b.data.toList, c.data.toList] := by
      have := congrArg (List.map fun x : ByteArray => x.data.toList) hsp
      rw [List.map_map] at this
      have e : ((fun x : ByteArray => x.data.toList) ∘ mkB) = id := rfl
      rw [e, List.map_id] at this
      exact this
    split at h
    · rename_i hok
      rw [if_pos hok]
      by_cases hno : checkS r t (idxI (posFind p a)) (idxI (posFind p b)) (numV c) p.length = 0
      · simp only [hno, if_true]
        have hck : checkE ⟨r, t, idxI (posFind p a), idxI (posFind p b), numV c⟩ p.length = 0 := hno
        obtain ⟨h1, h2, h3, h4, h5, h6⟩ := checkE_ok hck
        refine ⟨?_, hck⟩
        have na : nameAt p (idxI (posFind p a)) = a := by
          cases hf : posFind p a with
          | none => rw [hf] at h1; simp [idxI] at h1
          | some k => exact posFind_name hf
        have nb : nameAt p (idxI (posFind p b)) = b := by
          cases hf : posFind p b with
          | none => rw [hf] at h3; simp [idxI] at h3
          | some k => exact posFind_name hf
        have nc : Lib.itoa (numV c) = c.data.toList := by
          unfold numV
          rw [if_pos hok, itoa_digits (by omega), Int.toNat_natCast, digits_of_numOK hok]
        unfold bodyOf
        simp only [na, nb, nc]
        rw [← hm, hj]
      · simp only [hno, if_false] at h
    · exfalso; exact absurd h (by decide)
  · exfalso; exact absurd h (by decide)

theorem printGo_ok {p : List PosV} : ∀ {l : List En} {acc : List UInt8}, (∀ x ∈ l, checkE x p.length = 0) → printGo p l acc = (acc ++ l.flatMap (lineOf p), 0)
  | [], acc, _ => by simp [printGo]
  | x :: r, acc, h => by
    rw [printGo_cons, if_neg (by simp [h x (by simp)]), printGo_ok (fun y hy => h y (by simp [hy]))]
    simp
theorem printGo_inv {p : List PosV} : ∀ {l : List En} {acc : List UInt8}, (printGo p l acc).2 = 0 → ∀ x ∈ l, checkE x p.length = 0
  | [], _, _, x, hx => by cases hx
  | y :: r, acc, h, x, hx => by
    rw [printGo_cons] at h
    split at h
    · rename_i hc; exact absurd h hc
    · rename_i hc
      rcases List.mem_cons.1 hx with rfl | hx
      · omega
      · exact printGo_inv h x hx
theorem split_lines {p : List PosV} (hv : posValid p = true) : ∀ {l : List En} (rest : List UInt8), (∀ x ∈ l, checkE x p.length = 0) → splitL 10 (l.flatMap (lineOf p) ++ rest) = l.map (bodyOf p) ++ splitL 10 rest
  | [], rest, _ => by simp
  | x :: r, rest, h => by
    rw [List.flatMap_cons, lineOf_body, List.append_assoc, List.append_assoc, List.singleton_append, splitL_app _ (body_no10 (clean_of hv (h x (by simp)))), split_lines hv rest (fun y hy => h y (by simp [hy]))]
    rfl
theorem parseGo_bodies {p : List PosV} (hv : posValid p = true) (ls : List ByteArray) : ∀ {l : List En} {i : Nat} {out : List En}, (∀ x ∈ l, checkE x p.length = 0) → out.length + l.length ≤ 20000 →
    parseGo p (l.map (fun x => mkB (bodyOf p x)) ++ ls) i out = parseGo p ls (i + l.length) (out ++ l)
  | [], i, out, _, _ => by simp
  | x :: r, i, out, h, hn => by
    simp only [List.length_cons] at hn
    have hx := h x (by simp)
    rw [List.map_cons, List.cons_append, parseGo_cons, skip_body hx]
    have hr := read_body hv hx
    have hl : lineErr p (mkB (bodyOf p x)) out.length = 0 := by
      unfold lineErr
      rw [hr, if_neg (by omega)]
    rw [hl, hr]
    simp only [Bool.false_eq_true, if_false, ne_eq, not_true_eq_false]
    rw [parseGo_bodies hv ls (fun y hy => h y (by simp [hy])) (by simp; omega)]
    rw [List.append_assoc, List.singleton_append, List.length_cons, show i + 1 + r.length = i + (r.length + 1) by omega]
theorem parseGo_nil_line (p : List PosV) (i : Nat) (out : List En) : parseGo p [mkB []] i out = (out, 0, 0) := by
  rw [parseGo_cons]; rfl

/-- What is printed is read again. -/
theorem print_parse {l : List En} {p : List PosV} (h : (printS l p).2 = 0) : parseS (mkB (printS l p).1) p = (l, 0, 0) := by
  unfold printS at h ⊢
  split at h
  · rename_i hv
    split at h
    · exact absurd h (by decide)
    · rename_i hn
      split at h
      · rename_i he; exact absurd h he
      · rename_i he
        split at h
        · exact absurd h (by decide)
        · rename_i hz
          rw [if_pos hv, if_neg hn, if_neg he, if_neg hz]
          have hall := printGo_inv (p := p) (l := l) (acc := []) (by omega)
          have hg := printGo_ok (acc := []) hall
          rw [hg] at hz ⊢
          simp only [List.nil_append] at hz ⊢
          unfold parseS
          rw [if_pos hv, if_neg (by rw [Lib.size_eq, mkB_data]; omega), splitS_L, mkB_data]
          have hs := split_lines hv [] hall
          rw [List.append_nil] at hs
          rw [hs, List.map_append, List.map_map]
          show parseGo p (l.map (fun x => mkB (bodyOf p x)) ++ [mkB []]) 0 [] = _
          rw [parseGo_bodies hv _ hall (by simp; omega), parseGo_nil_line, List.nil_append]
  · exact absurd h (by decide)
theorem print_len {l : List En} {p : List PosV} : (l.flatMap (lineOf p)).length = (l.map fun x => (bodyOf p x).length + 1).sum := by
  induction l with
  | nil => rfl
  | cons x r ih => rw [List.flatMap_cons, List.length_append, ih, lineOf_body]; simp
theorem parseGo_inv {p : List PosV} : ∀ {ls : List ByteArray} {i : Nat} {out : List En}, (parseGo p ls i out).2.2 = 0 → out.length ≤ 20000 →
    ∃ xs, parseGo p ls i out = (out ++ xs, 0, 0) ∧ (∀ x ∈ xs, checkE x p.length = 0) ∧ (xs.map fun x => (bodyOf p x).length + 1).sum ≤ (ls.map fun s => s.size + 1).sum ∧ (out ++ xs).length ≤ 20000
  | [], i, out, _, h2 => ⟨[], by simp [parseGo], by simp, by simp, by simpa using h2⟩
  | s :: r, i, out, h, h2 => by
    rw [parseGo_cons] at h ⊢
    split at h
    · rename_i hs
      rw [if_pos hs]
      obtain ⟨xs, h3, h4, h5, h6⟩ := parseGo_inv h h2
      exact ⟨xs, h3, h4, by rw [List.map_cons, List.sum_cons]; omega, h6⟩
    · rename_i hs
      rw [if_neg hs]
      split at h
      · rename_i he; exact absurd h he
      · rename_i he
        rw [if_neg he]
        have he' : lineErr p s out.length = 0 := by omega
        have hr : (readS s p).2 = 0 ∧ out.length ≠ 20000 := by
          unfold lineErr at he'
          split at he'
          · omega
          · rename_i hc
            exact ⟨he', fun e => hc ⟨he', e⟩⟩
        obtain ⟨hb, hck⟩ := read_ok hr.1
        obtain ⟨xs, h3, h4, h5, h6⟩ := parseGo_inv (out := out ++ [(readS s p).1]) h (by simp; omega)
        refine ⟨(readS s p).1 :: xs, by rw [h3]; simp, ?_, ?_, by simpa using h6⟩
        · intro x hx
          rcases List.mem_cons.1 hx with rfl | hx
          · exact hck
          · exact h4 x hx
        · rw [List.map_cons, List.sum_cons, List.map_cons, List.sum_cons, hb, Lib.size_eq]; omega
theorem parseGo_err {p : List PosV} : ∀ {ls : List ByteArray} {i : Nat} {out : List En}, (parseGo p ls i out).2.2 ≠ 0 → (parseGo p ls i out).1 = []
  | [], i, out, h => absurd rfl h
  | s :: r, i, out, h => by
    rw [parseGo_cons] at h ⊢
    split
    · rename_i hs; rw [if_pos hs] at h; exact parseGo_err h
    · rename_i hs
      rw [if_neg hs] at h
      split
      · rfl
      · rename_i he; rw [if_neg he] at h; exact parseGo_err h
theorem parse_err {text : ByteArray} {p : List PosV} (h : (parseS text p).2.2 ≠ 0) : (parseS text p).1 = [] := by
  unfold parseS at h ⊢
  split
  · rename_i hv
    rw [if_pos hv] at h
    split
    · rfl
    · rename_i hz; rw [if_neg hz] at h; exact parseGo_err h
  · rfl
/-- A text that is read can be written, and has the same entries. -/
theorem parse_print {text : ByteArray} {p : List PosV} (hs : text.size ≤ 1000000) (h : (parseS text p).2.2 = 0) :
    (printS (parseS text p).1 p).2 = 0 ∧ parseS (mkB (printS (parseS text p).1 p).1) p = ((parseS text p).1, 0, 0) := by
  have key : (printS (parseS text p).1 p).2 = 0 := by
    unfold parseS at h ⊢
    split at h
    · rename_i hv
      rw [if_pos hv]
      split at h
      · exact absurd h (by decide)
      · rename_i hz
        rw [if_neg hz]
        obtain ⟨xs, h3, h4, h5, h6⟩ := parseGo_inv h (by simp)
        rw [h3]
        simp only [List.nil_append] at h6 ⊢
        unfold printS
        rw [if_pos hv, if_neg (by omega), printGo_ok h4]
        simp only [List.nil_append]
        rw [if_neg (by simp), if_neg ?_]
        rw [print_len]
        have hj := joinL_length 10 (splitL_ne 10 text.data.toList)
        rw [join_splitL] at hj
        rw [splitS_L, List.map_map] at h5
        have e : ((fun s : ByteArray => s.size + 1) ∘ mkB) = fun x => x.length + 1 := by
          funext x; simp only [Function.comp]; rw [Lib.size_eq, mkB_data]
        rw [e, ← hj, ← Lib.size_eq] at h5
        omega
    · exact absurd h (by decide)
  exact ⟨key, print_parse key⟩

/-- A line more that is passed over. -/
theorem parseGo_shift {p : List PosV} : ∀ {ls : List ByteArray} {i : Nat} {out : List En},
    parseGo p ls (i + 1) out = ((parseGo p ls i out).1, (if (i : Int) < (parseGo p ls i out).2.1 then (parseGo p ls i out).2.1 + 1 else (parseGo p ls i out).2.1), (parseGo p ls i out).2.2) ∧ (¬ (i : Int) < (parseGo p ls i out).2.1 → (parseGo p ls i out).2.1 = 0)
  | [], i, out => by simp [parseGo]
  | s :: r, i, out => by
    rw [parseGo_cons, parseGo_cons]
    split
    · obtain ⟨h1, h2⟩ := parseGo_shift (p := p) (ls := r) (i := i + 1) (out := out)
      rw [h1]
      generalize parseGo p r (i + 1) out = R at *
      by_cases h : ((i + 1 : Nat) : Int) < R.2.1
      · rw [if_pos h, if_pos (by omega)]
        exact ⟨rfl, fun h3 => absurd (by omega) h3⟩
      · have h0 := h2 h
        rw [if_neg h, if_neg (by omega)]
        exact ⟨rfl, fun _ => h0⟩
    · split
      · simp only
        rw [if_pos (by omega)]
        exact ⟨by congr 2, fun h3 => absurd (by omega) h3⟩
      · obtain ⟨h1, h2⟩ := parseGo_shift (p := p) (ls := r) (i := i + 1) (out := out ++ [(readS s p).1])
        rw [h1]
        generalize parseGo p r (i + 1) (out ++ [(readS s p).1]) = R at *
        by_cases h : ((i + 1 : Nat) : Int) < R.2.1
        · rw [if_pos h, if_pos (by omega)]
          exact ⟨rfl, fun h3 => absurd (by omega) h3⟩
        · have h0 := h2 h
          rw [if_neg h, if_neg (by omega)]
          exact ⟨rfl, fun _ => h0⟩
theorem parseGo_more {p : List PosV} {c : ByteArray} (hc : skipLine c = true) (l2 : List ByteArray) : ∀ {l1 : List ByteArray} {i : Nat} {out : List En},
    parseGo p (l1 ++ c :: l2) i out = ((parseGo p (l1 ++ l2) i out).1, (if ((i + l1.length : Nat) : Int) < (parseGo p (l1 ++ l2) i out).2.1 then (parseGo p (l1 ++ l2) i out).2.1 + 1 else (parseGo p (l1 ++ l2) i out).2.1), (parseGo p (l1 ++ l2) i out).2.2)
  | [], i, out => by
    rw [List.nil_append, List.nil_append, parseGo_cons, if_pos hc, List.length_nil, Nat.add_zero]
    exact parseGo_shift.1
  | s :: r, i, out => by
    rw [List.cons_append, List.cons_append, parseGo_cons, parseGo_cons, List.length_cons, show i + (r.length + 1) = i + 1 + r.length by omega]
    split
    · exact parseGo_more hc l2
    · split
      · simp only
        rw [if_neg (by omega)]
      · exact parseGo_more hc l2
end Go.Proofs.YtfkebhkckcnlpaaGreatDoor
