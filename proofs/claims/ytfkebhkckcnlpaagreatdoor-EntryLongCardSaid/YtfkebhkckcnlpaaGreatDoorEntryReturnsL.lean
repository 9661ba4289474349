import Derived.Test.YtfkebhkckcnlpaaGreatDoorEntryP
import Derived.Test.YtfkebhkckcnlpaaGreatDoorGiven
import Derived.Test.YtfkebhkckcnlpaaGreatDoorRefP
import Derived.Test.YtfkebhkckcnlpaaGreatDoorWorks
namespace Go.Proofs.YtfkebhkckcnlpaaGreatDoor
open Go Go.RowKit Go.Shelf
attribute [local go_sem] quietE

theorem fewS_parts {l : List En} (h : fewS l = true) : l.length ≤ 100 ∧ ∀ x ∈ l, x.r.size ≤ 1000 ∧ x.s.size ≤ 1000 := by
  unfold fewS at h
  simp only [Bool.and_eq_true, decide_eq_true_eq, List.all_eq_true] at h
  exact ⟨h.1, fun x hx => by have := h.2 x hx; simpa [fewOne] using this⟩
theorem shortS_parts {l : List PosV} (h : shortS l = true) : l.length ≤ 100 ∧ ∀ x ∈ l, x.name.size ≤ 100 := by
  unfold shortS at h
  simp only [Bool.and_eq_true, decide_eq_true_eq, List.all_eq_true] at h
  exact ⟨h.1, fun x hx => by have := h.2 x hx; simpa [shortOne] using this⟩
theorem parse_sizes {text : ByteArray} {p : List PosV} : ∀ {ls : List ByteArray} {i : Nat} {out : List En}, (∀ s ∈ ls, s.size ≤ text.size) → (∀ x ∈ out, x.r.size ≤ text.size ∧ x.s.size ≤ text.size) → ∀ x ∈ (parseGo p ls i out).1, x.r.size ≤ text.size ∧ x.s.size ≤ text.size
  | [], i, out, _, ho, x, hx => ho x hx
  | s :: r, i, out, hs, ho, x, hx => by
    rw [parseGo_cons] at hx
    split at hx
    · exact parse_sizes (fun y hy => hs y (by simp [hy])) ho x hx
    · split at hx
      · cases hx
      · refine parse_sizes (fun y hy => hs y (by simp [hy])) (fun y hy => ?_) x hx
        rcases List.mem_append.1 hy with hy | hy
        · exact ho y hy
        · obtain rfl : y = (readS s p).1 := by simpa using hy
          have hss := hs s (by simp)
          unfold readS
          split
          · rename_i r' t a b c hsp
            have h1 := splitS_size (c := 9) (s := s) (x := r') (by rw [hsp]; simp)
            have h2 := splitS_size (c := 9) (s := s) (x := t) (by rw [hsp]; simp)
            split
            · simp only
              split
              · exact ⟨by simp only; omega, by simp only; omega⟩
              · simp [enZero]
            · simp [enZero]
          · simp [enZero]
theorem parseS_sizes {text : ByteArray} {p : List PosV} : ∀ x ∈ (parseS text p).1, x.r.size ≤ text.size ∧ x.s.size ≤ text.size := by
  intro x hx
  unfold parseS at hx
  split at hx
  · split at hx
    · cases hx
    · exact parse_sizes (fun s hs => splitS_size hs) (by simp) x hx
  · cases hx
theorem parse_at (text : ByteArray) (L : List PosV) (la : Option Addr) (cap : Nat) (w : World) (hs : text.size < 9223372036854775807) (hl : L.length ≤ 4611686018427387904) (he : Env w) (hat : AtCells w la 2 (L.map posCells)) :
    Calls Tryz.prog 17 #[.string text, .slice la L.length cap] w (EnsAt w (parseS text L)) := (parse_any text L la cap w hs hl he hat).mono fun _ _ h => ens_at h
theorem parse2_at (text : ByteArray) (L : List PosV) (la : Option Addr) (cap : Nat) (w : World) (hs : text.size < 9223372036854775807) (hl : L.length ≤ 4611686018427387904) (hn : ∀ x ∈ L, x.name.size ≤ 4294967290) (hat : AtCells w la 2 (L.map posCells)) :
    Calls Tryz.prog 18 #[.string text, .slice la L.length cap] w (EnsAt w (parseS text L)) := (parse2_any text L la cap w hs hl hn hat).mono fun _ _ h => ens_at h
/-- A parsed text's entries are bounded in number. -/
theorem parseS_len {text : ByteArray} {p : List PosV} : (parseS text p).1.length ≤ 20000 := by
  have key : ∀ (ls : List ByteArray) (i : Nat) (out : List En), out.length ≤ 20000 → (parseGo p ls i out).1.length ≤ 20000 := by
    intro ls
    induction ls with
    | nil => intro i out h; exact h
    | cons s r ih =>
      intro i out h
      rw [parseGo_cons]
      split
      · exact ih _ _ h
      · split
        · simp
        · rename_i he
          refine ih _ _ ?_
          unfold lineErr at he
          by_cases hc : (readS s p).2 = 0 ∧ out.length = 20000
          · rw [if_pos hc] at he; omega
          · rw [if_neg hc] at he
            simp
            have : out.length ≠ 20000 := fun e => hc ⟨by omega, e⟩
            omega
  unfold parseS
  split
  · split
    · simp
    · exact key _ _ _ (by simp)
  · simp

theorem same_self (a : List En) (pa pb : Option Addr) (ca cb : Nat) (w : World) (la : a.length ≤ 4611686018427387904) (ha : AtCells w pa 5 (a.map enCells)) (hb : AtCells w pb 5 (a.map enCells)) :
    Calls Tryz.prog 19 #[.slice pa a.length ca, .slice pb a.length cb] w fun e w' => e = .returned (.bool true) ∧ Grows w w' := by
  have h := same_any a a pa pb ca cb w la ha hb
  rwa [show decide (a = a) = true by simp] at h
theorem parseS_sizes2 {t : List UInt8} {p : List PosV} {b : List En} (h : parseS (mkB t) p = (b, 0, 0)) : (mkB t).size ≤ 1048576 := by
  unfold parseS at h
  split at h
  · split at h
    · cases h
    · omega
  · cases h
set_option maxHeartbeats 8000000 in
set_option maxRecDepth 100000 in
theorem returns_any (l : List En) (p : List PosV) (text : ByteArray) (la pa : Option Addr) (lc pc : Nat) (w : World) (he : Env w) (hll : l.length ≤ 140737488355328) (hpl : p.length ≤ 140737488355328) (hat : AtCells w la 5 (l.map enCells)) (hpt : AtCells w pa 2 (p.map posCells)) :
    Calls Tryz.prog 6 #[.slice la l.length lc, .slice pa p.length pc, .string text] w fun e w' => e = .returned (.bool true) ∧ Grows w w' := by
  have HAT := Lib.hid hat
  have HPT := Lib.hid hpt
  have CF := Lib.hid (few_any l la lc w (by omega) hat)
  have CSH := fun W (hW : Grows w W) => Lib.hid (short_any p pa pc W (by omega) (hpt.grows hW))
  clear hat hpt
  go_enter Tryz.func6, Tryz.ntmps6
  go_wp2_with fail
  refine CF.out.mono ?_
  rintro e w1 ⟨⟨fb, rfl, hfb⟩, hg1⟩
  cases fb
  · clear hfb
    go_wp2
    go_ret
    exact ⟨rfl, hg1⟩
  · have HF := Lib.hid (fewS_parts (hfb rfl))
    clear hfb
    go_wp2_with fail
    refine (CSH _ hg1).out.mono ?_
    rintro e w2 ⟨⟨sb, rfl, hsb⟩, hg2⟩
    have hgw := hg1.tr hg2
    cases sb
    · clear hsb
      go_wp2
      go_ret
      exact ⟨rfl, hgw⟩
    · have HS := Lib.hid (shortS_parts (hsb rfl))
      clear hsb
      by_cases hbig : 5000 < text.size
      · have hb : (5000 : Int) < text.size := by omega
        go_wp2
        go_ret
        exact ⟨rfl, hgw⟩
      · have hb : ¬ (5000 : Int) < text.size := by omega
        have hp1 : p.length ≤ 100 := HS.out.1
        have hl1 : l.length ≤ 100 := HF.out.1
        have CG := fun W (hW : Grows w W) => Lib.hid (given_any p pa pc W (by omega) (HPT.out.grows hW))
        have CPR := fun (q : List En) (qa : Option Addr) (qc : Nat) (ga : Option Addr) (gc : Nat) W (hW : Grows w W) (hq : q.length ≤ 20000) (hqs : ∀ x, x ∈ q → x.r.size ≤ 1048576 ∧ x.s.size ≤ 1048576) (h1 : AtCells W qa 5 (q.map enCells)) (h2 : AtCells W ga 2 (p.map posCells)) => Lib.hid (print_any q p qa ga qc gc W (by omega) (by omega) (he.grows hW) hqs h1 h2)
        have CPA := fun (t : ByteArray) (ga : Option Addr) (gc : Nat) W (hW : Grows w W) (ht : t.size < 9223372036854775807) (h2 : AtCells W ga 2 (p.map posCells)) => Lib.hid (parse_at t p ga gc W ht (by omega) (he.grows hW) h2)
        have CSA := fun (a b : List En) (xa xb : Option Addr) (ca cb : Nat) W (h1 : a.length ≤ 20000) (h2 : AtCells W xa 5 (a.map enCells)) (h3 : AtCells W xb 5 (b.map enCells)) => Lib.hid (same_any a b xa xb ca cb W (by omega) h2 h3)
        have CW := fun W (hW : Grows w W) => Lib.hid (works_any W (he.grows hW))
        clear hll hpl CF CSH hg1 hg2
        -- first: print
        go_wp2_with fail
        refine (CG _ hgw).out.mono ?_
        rintro e w3 ⟨ga, gc, rfl, hga, hg3⟩
        replace hgw := hgw.tr hg3
        clear hg3
        go_wp2_with fail
        refine (CPR l la lc ga gc _ hgw (by omega) (fun x hx => by have := HF.out.2 x hx; omega) (HAT.out.grows hgw) hga).out.mono ?_
        rintro e w4 ⟨rfl, hg4⟩
        replace hgw := hgw.tr hg4
        clear hg4 hga
        have hpp := print_parse (l := l) (p := p)
        have hsz : (printS l p).2 = 0 → (printS l p).1.length ≤ 1048576 := by
          intro h
          unfold printS at h ⊢
          split at h
          · rename_i hv
            rw [if_pos hv]
            split at h
            · exact absurd h (by decide)
            · rename_i h2
              rw [if_neg h2]
              split at h
              · rename_i h3; exact absurd h h3
              · rename_i h3
                rw [if_neg h3]
                split at h
                · exact absurd h (by decide)
                · rename_i h4
                  rw [if_neg h4]
                  simp only
                  omega
          · exact absurd h (by decide)
        generalize printS l p = PR at *
        obtain ⟨tx, er⟩ := PR
        try simp only at hpp hsz
        have HPP := Lib.hid hpp
        have HSZ := Lib.hid hsz
        clear hpp hsz
        have SECOND : Hid (∀ (W : World), Grows w W → (parseS text p).2.2 ≠ 0 → (parseS text p).1 = []) := fun W _ h => parse_err h
        have BACK := Lib.hid (parse_print (text := text) (p := p) (by omega))
        have PSZ : Hid (∀ x ∈ (parseS text p).1, x.r.size ≤ text.size ∧ x.s.size ≤ text.size) := parseS_sizes
        have PLN : Hid ((parseS text p).1.length ≤ 20000) := parseS_len
        by_cases her : er = 0
        · subst her
          have htx := HSZ.out rfl
          have hpar : parseS (mkB tx) p = (l, 0, 0) := HPP.out rfl
          have HPAR := Lib.hid hpar
          clear hpar HPP HSZ
          go_wp2_with fail
          refine (CG _ hgw).out.mono ?_
          rintro e w5 ⟨ga2, gc2, rfl, hga2, hg5⟩
          replace hgw := hgw.tr hg5
          clear hg5
          go_wp2_with fail
          have cp := (CPA (mkB tx) ga2 gc2 _ hgw (by rw [Lib.size_eq, mkB_data]; omega) hga2).out
          rw [HPAR.out] at cp
          refine cp.mono ?_
          rintro e w6 ⟨a6, c6, rfl, hat6, hg6⟩
          simp only at hat6
          replace hgw := hgw.tr hg6
          clear hg6 cp hga2
          go_wp2_with fail
          have cs := (CSA l l a6 la c6 lc _ (by omega) hat6 (HAT.out.grows hgw)).out
          rw [show decide (l = l) = true by simp] at cs
          refine cs.mono ?_
          rintro e w7 ⟨rfl, hg7⟩
          replace hgw := hgw.tr hg7
          clear hg7 cs hat6
          generalize hPT : parseS text p = PT at BACK PSZ PLN SECOND
          have HPT2 := Lib.hid hPT
          clear hPT
          obtain ⟨b, n, g⟩ := PT
          go_wp2_with fail
          refine (CG _ hgw).out.mono ?_
          rintro e w8 ⟨ga3, gc3, rfl, hga3, hg8⟩
          replace hgw := hgw.tr hg8
          clear hg8
          go_wp2_with fail
          have cp3 := (CPA text ga3 gc3 _ hgw (by omega) hga3).out
          rw [HPT2.out] at cp3
          refine cp3.mono ?_
          rintro e w9 ⟨a9, c9, rfl, hat9, hg9⟩
          try simp only at hat9
          replace hgw := hgw.tr hg9
          clear hg9 cp3 hga3
          by_cases hg0 : g = 0
          · subst hg0
            have HB := BACK.out rfl
            try simp only at HB
            have hbl : b.length ≤ 20000 := PLN.out
            go_wp2_with fail
            refine (CG _ hgw).out.mono ?_
            rintro e w10 ⟨ga4, gc4, rfl, hga4, hg10⟩
            have hat10 := hat9.grows hg10
            replace hgw := hgw.tr hg10
            clear hg10 hat9
            go_wp2_with fail
            have cq := (CPR b a9 c9 ga4 gc4 _ hgw hbl (fun x hx => by have := PSZ.out x hx; omega) hat10 hga4).out
            obtain ⟨hb1, hb2⟩ := HB
            generalize printS b p = PR2 at cq hb1 hb2
            obtain ⟨tx2, er2⟩ := PR2
            try simp only at hb1 hb2 cq
            subst hb1
            refine cq.mono ?_
            rintro e w11 ⟨rfl, hg11⟩
            have hat11 := hat10.grows hg11
            replace hgw := hgw.tr hg11
            have HB2 := Lib.hid hb2
            clear hg11 cq hat10 hga4 hb2
            go_wp2_with fail
            refine (CG _ hgw).out.mono ?_
            rintro e w12 ⟨ga5, gc5, rfl, hga5, hg12⟩
            have hat12 := hat11.grows hg12
            replace hgw := hgw.tr hg12
            clear hg12 hat11
            go_wp2_with fail
            have cp4 := (CPA (mkB tx2) ga5 gc5 _ hgw (by have := parseS_sizes2 (HB2.out); omega) hga5).out
            rw [HB2.out] at cp4
            refine cp4.mono ?_
            rintro e w13 ⟨a13, c13, rfl, hat13, hg13⟩
            try simp only at hat13
            have hat14 := hat12.grows hg13
            replace hgw := hgw.tr hg13
            clear hg13 cp4 hga5 hat12
            go_wp2_with fail
            have cs2 := (CSA b b a9 a13 c9 c13 _ hbl hat14 hat13).out
            rw [show decide (b = b) = true by simp] at cs2
            refine cs2.mono ?_
            rintro e w15 ⟨rfl, hg15⟩
            replace hgw := hgw.tr hg15
            clear hg15 cs2 hat13 hat14
            go_wp2_with fail
            refine (CW _ hgw).out.mono ?_
            rintro e w16 ⟨rfl, hg16⟩
            go_wp2
            go_ret
            exact ⟨rfl, hgw.tr hg16⟩
          · have hgb : (g != 0) = true := by simpa using hg0
            have hb0 : b = [] := SECOND.out w (Grows.refl _) hg0
            subst hb0
            go_wp2_with fail
            refine (CW _ hgw).out.mono ?_
            rintro e w16 ⟨rfl, hg16⟩
            go_wp2
            go_ret
            exact ⟨rfl, hgw.tr hg16⟩
        · have herb : (er == 0) = false := by simpa using her
          clear HPP HSZ her
          generalize hPT : parseS text p = PT at BACK PSZ PLN SECOND
          have HPT2 := Lib.hid hPT
          clear hPT
          obtain ⟨b, n, g⟩ := PT
          go_wp2_with fail
          refine (CG _ hgw).out.mono ?_
          rintro e w8 ⟨ga3, gc3, rfl, hga3, hg8⟩
          replace hgw := hgw.tr hg8
          clear hg8
          go_wp2_with fail
          have cp3 := (CPA text ga3 gc3 _ hgw (by omega) hga3).out
          rw [HPT2.out] at cp3
          refine cp3.mono ?_
          rintro e w9 ⟨a9, c9, rfl, hat9, hg9⟩
          try simp only at hat9
          replace hgw := hgw.tr hg9
          clear hg9 cp3 hga3
          by_cases hg0 : g = 0
          · subst hg0
            have HB := BACK.out rfl
            try simp only at HB
            have hbl : b.length ≤ 20000 := PLN.out
            go_wp2_with fail
            refine (CG _ hgw).out.mono ?_
            rintro e w10 ⟨ga4, gc4, rfl, hga4, hg10⟩
            have hat10 := hat9.grows hg10
            replace hgw := hgw.tr hg10
            clear hg10 hat9
            go_wp2_with fail
            have cq := (CPR b a9 c9 ga4 gc4 _ hgw hbl (fun x hx => by have := PSZ.out x hx; omega) hat10 hga4).out
            obtain ⟨hb1, hb2⟩ := HB
            generalize printS b p = PR2 at cq hb1 hb2
            obtain ⟨tx2, er2⟩ := PR2
            try simp only at hb1 hb2 cq
            subst hb1
            refine cq.mono ?_
            rintro e w11 ⟨rfl, hg11⟩
            have hat11 := hat10.grows hg11
            replace hgw := hgw.tr hg11
            have HB2 := Lib.hid hb2
            clear hg11 cq hat10 hga4 hb2
            go_wp2_with fail
            refine (CG _ hgw).out.mono ?_
            rintro e w12 ⟨ga5, gc5, rfl, hga5, hg12⟩
            have hat12 := hat11.grows hg12
            replace hgw := hgw.tr hg12
            clear hg12 hat11
            go_wp2_with fail
            have cp4 := (CPA (mkB tx2) ga5 gc5 _ hgw (by have := parseS_sizes2 (HB2.out); omega) hga5).out
            rw [HB2.out] at cp4
            refine cp4.mono ?_
            rintro e w13 ⟨a13, c13, rfl, hat13, hg13⟩
            try simp only at hat13
            have hat14 := hat12.grows hg13
            replace hgw := hgw.tr hg13
            clear hg13 cp4 hga5 hat12
            go_wp2_with fail
            have cs2 := (CSA b b a9 a13 c9 c13 _ hbl hat14 hat13).out
            rw [show decide (b = b) = true by simp] at cs2
            refine cs2.mono ?_
            rintro e w15 ⟨rfl, hg15⟩
            replace hgw := hgw.tr hg15
            clear hg15 cs2 hat13 hat14
            go_wp2_with fail
            refine (CW _ hgw).out.mono ?_
            rintro e w16 ⟨rfl, hg16⟩
            go_wp2
            go_ret
            exact ⟨rfl, hgw.tr hg16⟩
          · have hgb : (g != 0) = true := by simpa using hg0
            have hb0 : b = [] := SECOND.out w (Grows.refl _) hg0
            subst hb0
            go_wp2_with fail
            refine (CW _ hgw).out.mono ?_
            rintro e w16 ⟨rfl, hg16⟩
            go_wp2
            go_ret
            exact ⟨rfl, hgw.tr hg16⟩
end Go.Proofs.YtfkebhkckcnlpaaGreatDoor
