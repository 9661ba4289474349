import Derived.Test.YtfkebhkckcnlpaaGreatDoorEntryReturnsL
namespace Go.Proofs.YtfkebhkckcnlpaaGreatDoor
open Go Go.RowKit Go.Shelf
attribute [local go_sem] quietE

/-- The text with one line more. -/
def moreP (c : List UInt8) (k n j : Nat) (x : List UInt8) : List UInt8 := (if j = k then c ++ [10] else []) ++ x ++ (if j + 1 < n then [10] else [])
def moreTo (c : List UInt8) (k n : Nat) : List ByteArray → Nat → List UInt8
  | [], _ => []
  | x :: r, j => moreP c k n j x.data.toList ++ moreTo c k n r (j + 1)
theorem moreTo_past {c : List UInt8} {k n : Nat} : ∀ {ls : List ByteArray} {j : Nat}, j + ls.length = n → k < j → moreTo c k n ls j = joinL 10 (ls.map fun x => x.data.toList)
  | [], _, _, _ => rfl
  | [x], j, h, hk => by
    simp only [List.length_cons, List.length_nil] at h
    simp only [moreTo, moreP, if_neg (show ¬ j = k by omega), if_neg (show ¬ j + 1 < n by omega), List.map_cons, List.map_nil, joinL]
    simp
  | x :: y :: r, j, h, hk => by
    simp only [List.length_cons] at h
    rw [moreTo, moreTo_past (ls := y :: r) (by simp only [List.length_cons]; omega) (by omega), moreP, if_neg (by omega), if_pos (by omega)]
    simp [joinL]
theorem moreTo_here {c : List UInt8} {k n : Nat} : ∀ {ls : List ByteArray} {j : Nat}, j + ls.length = n → j ≤ k → k < n → moreTo c k n ls j = joinL 10 ((ls.map fun x => x.data.toList).take (k - j) ++ c :: (ls.map fun x => x.data.toList).drop (k - j))
  | [], j, h, h1, h2 => by simp only [List.length_nil] at h; omega
  | x :: r, j, h, h1, h2 => by
    simp only [List.length_cons] at h
    rw [moreTo]
    by_cases hj : j = k
    · subst hj
      rw [moreTo_past (by omega) (by omega), moreP, if_pos rfl, Nat.sub_self]
      simp only [List.take_zero, List.nil_append, List.drop_zero, List.map_cons]
      cases r with
      | nil => simp only [List.length_nil] at h; rw [if_neg (by omega)]; simp [joinL]
      | cons y r => simp only [List.length_cons] at h; rw [if_pos (by omega)]; simp [joinL]
    · rw [moreTo_here (by omega) (by omega) h2, moreP, if_neg hj, if_pos (by omega), show k - j = (k - (j + 1)) + 1 by omega]
      simp only [List.map_cons, List.take_succ_cons, List.drop_succ_cons, List.cons_append, List.nil_append]
      rw [joinL_cons 10 _ (by simp)]
      simp
theorem skip_line_more {c : List UInt8} {text : ByteArray} {p : List PosV} {k : Nat} (hc : skipLine (mkB c) = true) (h10 : (10 : UInt8) ∉ c) (hl : c.length ≤ 100) (ht : text.size ≤ 5000) (hk : k < (splitL 10 text.data.toList).length) :
    parseS (mkB (moreTo c k ((splitL 10 text.data.toList).map mkB).length ((splitL 10 text.data.toList).map mkB) 0)) p = ((parseS text p).1, (if (k : Int) < (parseS text p).2.1 then (parseS text p).2.1 + 1 else (parseS text p).2.1), (parseS text p).2.2) ∧
      (moreTo c k ((splitL 10 text.data.toList).map mkB).length ((splitL 10 text.data.toList).map mkB) 0).length ≤ 6000 := by
  rw [moreTo_here (by omega) (Nat.zero_le _) (by simpa using hk), Nat.sub_zero, List.map_map]
  have e : ((fun x : ByteArray => x.data.toList) ∘ mkB) = id := rfl
  rw [e, List.map_id]
  have hmem := splitL_mem 10 text.data.toList
  have hj := join_splitL 10 text.data.toList
  have hlen := joinL_length 10 (splitL_ne 10 text.data.toList)
  rw [hj, ← Lib.size_eq] at hlen
  generalize splitL 10 text.data.toList = ls at *
  have hne : ls.take k ++ c :: ls.drop k ≠ [] := by simp
  have hl2 := joinL_length 10 hne
  have hsum : ((ls.take k ++ c :: ls.drop k).map fun x => x.length + 1).sum = (ls.map fun x => x.length + 1).sum + (c.length + 1) := by
    conv => rhs; rw [← List.take_append_drop k ls]
    simp only [List.map_append, List.map_cons, List.sum_append, List.sum_cons]
    omega
  rw [hsum, ← hlen] at hl2
  have hsp : splitL 10 (joinL 10 (ls.take k ++ c :: ls.drop k)) = ls.take k ++ c :: ls.drop k := by
    refine split_joinL 10 hne fun x hx => ?_
    rcases List.mem_append.1 hx with hx | hx
    · exact hmem x (List.mem_of_mem_take hx)
    · rcases List.mem_cons.1 hx with rfl | hx
      · exact h10
      · exact hmem x (List.mem_of_mem_drop hx)
  refine ⟨?_, by omega⟩
  have hts : splitS 10 text = ls.map mkB := by
    rw [splitS_L]
    have := congrArg (splitL 10) hj
    rw [split_joinL 10 (by rintro rfl; simp at hk) hmem] at this
    rw [← this]
  unfold parseS
  rw [splitS_L, mkB_data, hsp, hts]
  cases hv : posValid p
  · simp
  · rw [if_pos rfl, if_pos rfl, if_neg (by rw [Lib.size_eq, mkB_data]; omega), if_neg (by omega)]
    have hm := parseGo_more (p := p) hc ((ls.drop k).map mkB) (l1 := (ls.take k).map mkB) (i := 0) (out := [])
    rw [← List.map_append, List.take_append_drop] at hm
    rw [List.map_append, List.map_cons, hm]
    have hkl : (List.map mkB (List.take k ls)).length = k := by rw [List.length_map, List.length_take]; omega
    rw [hkl, Nat.zero_add]
theorem parseGo_bound {p : List PosV} : ∀ (ls : List ByteArray) (i : Nat) (out : List En), (parseGo p ls i out).2.1 ≤ (i : Int) + ls.length ∧ 0 ≤ (parseGo p ls i out).2.1
  | [], i, out => by simp only [parseGo, List.length_nil]; omega
  | s :: r, i, out => by
    rw [parseGo_cons]
    simp only [List.length_cons]
    split
    · have := parseGo_bound (p := p) r (i + 1) out; omega
    · split
      · simp only; omega
      · have := parseGo_bound (p := p) r (i + 1) (out ++ [(readS s p).1]); omega
theorem parseS_bound {text : ByteArray} {p : List PosV} : (parseS text p).2.1 ≤ text.size + 1 ∧ 0 ≤ (parseS text p).2.1 := by
  have hl := lines_len text
  unfold parseS
  split
  · split
    · simp only; omega
    · have := parseGo_bound (p := p) (splitS 10 text) 0 []
      rw [splitS_L] at *
      omega
  · simp only; omega
def cmtB : List UInt8 := [35, 32, 227, 129, 139, 9, 227, 129, 139]
theorem cmt_skip : skipLine (mkB cmtB) = true := by decide
theorem nil_skip : skipLine (mkB []) = true := by decide
theorem app_data (a b : ByteArray) : (a ++ b).data.toList = a.data.toList ++ b.data.toList := by simp

def CommentInv (c : List UInt8) (k : Nat) (ls : List ByteArray) (i : Nat) (m : ByteArray) : Prop := m.data.toList ++ moreTo c k ls.length (ls.drop i) i = moreTo c k ls.length ls 0
theorem CommentInv.start (c : List UInt8) (k : Nat) (ls : List ByteArray) : CommentInv c k ls 0 ⟨#[]⟩ := rfl
theorem CommentInv.step {c : List UInt8} {k : Nat} {ls : List ByteArray} {i : Nat} {m m' x : ByteArray} (h : CommentInv c k ls i m) (hx : ls[i]? = some x) (hm : m'.data.toList = m.data.toList ++ moreP c k ls.length i x.data.toList) : CommentInv c k ls (i + 1) m' := by
  unfold CommentInv at *
  have hlt := (List.getElem?_eq_some_iff.1 hx).1
  rw [← h, List.drop_eq_getElem_cons hlt, (List.getElem?_eq_some_iff.1 hx).2, moreTo, hm, List.append_assoc]
theorem CommentInv.fin {c : List UInt8} {k : Nat} {ls : List ByteArray} {m : ByteArray} (h : CommentInv c k ls ls.length m) : m = mkB (moreTo c k ls.length ls 0) := by
  unfold CommentInv at h
  rw [List.drop_length] at h
  rw [← h]
  simp [moreTo, mkB_of]

set_option maxHeartbeats 8000000 in
set_option maxRecDepth 100000 in
theorem comments_any (text : ByteArray) (p : List PosV) (n : Int) (pa : Option Addr) (pc : Nat) (w : World) (he : Env w) (hpl : p.length ≤ 140737488355328) (hpt : AtCells w pa 2 (p.map posCells)) (hn : (Lit.int .u16 n).wf = true) :
    Calls Tryz.prog 8 #[.string text, .slice pa p.length pc, .int .u16 n] w fun e w' => e = .returned (.bool true) ∧ Grows w w' := by
  have hn2 : 0 ≤ n ∧ n ≤ 65535 := by
    have h := hn
    simp only [Lit.wf, Bool.and_eq_true, decide_eq_true_eq] at h
    have e1 : IntKind.u16.min = 0 := rfl
    have e2 : IntKind.u16.max = 65535 := rfl
    rw [e1, e2] at h; exact h
  obtain ⟨a, rfl⟩ := Int.eq_ofNat_of_zero_le hn2.1
  obtain ⟨h0, h65⟩ := hn2
  have HPT := Lib.hid hpt
  have CSH := Lib.hid (short_any p pa pc w (by omega) hpt)
  clear hpt hn
  by_cases hbig : 5000 < text.size
  · have hb : (5000 : Int) < text.size := by omega
    go_enter Tryz.func8, Tryz.ntmps8
    go_wp2
    go_ret
    exact ⟨rfl, Grows.refl _⟩
  · have hb : ¬ (5000 : Int) < text.size := by omega
    have hpar : (a : Int) % 2 = 0 ∨ (a : Int) % 2 = 1 := by omega
    rcases hpar with hpar | hpar
    · go_enter Tryz.func8, Tryz.ntmps8
      go_wp2_with fail
      refine CSH.out.mono ?_
      rintro e w2 ⟨⟨sb, rfl, hsb⟩, hgw⟩
      cases sb
      · clear hsb
        go_wp2
        go_ret
        exact ⟨rfl, hgw⟩
      · have HS := Lib.hid (shortS_parts (hsb rfl))
        have hp1 : p.length ≤ 100 := HS.out.1
        have CG := fun W (hW : Grows w W) => Lib.hid (given_any p pa pc W (by omega) (HPT.out.grows hW))
        have CPA := fun (t : ByteArray) (ga : Option Addr) (gc : Nat) W (hW : Grows w W) (ht : t.size < 9223372036854775807) (h2 : AtCells W ga 2 (p.map posCells)) => Lib.hid (parse_at t p ga gc W ht (by omega) (he.grows hW) h2)
        have CSA := fun (a : List En) (xa xb : Option Addr) (ca cb : Nat) W (h1 : a.length ≤ 20000) (h2 : AtCells W xa 5 (a.map enCells)) (h3 : AtCells W xb 5 (a.map enCells)) => Lib.hid (same_self a xa xb ca cb W (by omega) h2 h3)
        have CW := fun W (hW : Grows w W) => Lib.hid (works_any W (he.grows hW))
        have CL := fun W => Lib.hid (lines_any text W (by omega))
        unfold StrsPost at CL
        have PLN : Hid ((parseS text p).1.length ≤ 20000) := parseS_len
        have NNB : Hid ((parseS text p).2.1 ≤ text.size + 1 ∧ 0 ≤ (parseS text p).2.1) := parseS_bound
        have MORE := fun k hk => skip_line_more (c := cmtB) (text := text) (p := p) (k := k) (by first | exact cmt_skip | exact nil_skip) (by decide) (by decide) (by omega) hk
        have hlb := lines_len text
        have hpos : 0 < ((splitL 10 text.data.toList).map mkB).length := by
          rw [List.length_map]; exact List.length_pos_iff.2 (splitL_ne 10 _)
        have hxs : ∀ x ∈ (splitL 10 text.data.toList).map mkB, x.size ≤ 5000 := fun x hx => by
          have := splitS_size (c := 10) (s := text) (x := x) (by rw [splitS_L]; exact hx)
          omega
        have hkl : (splitL 10 text.data.toList).length = ((splitL 10 text.data.toList).map mkB).length := by rw [List.length_map]
        rw [hkl] at MORE
        clear hkl
        generalize (splitL 10 text.data.toList).map mkB = ls at *
        obtain ⟨kk, hkk, hkl⟩ : ∃ kk : Nat, (a : Int) / 2 % (ls.length : Int) = kk ∧ kk < ls.length := ⟨a / 2 % ls.length, by push_cast; rfl, Nat.mod_lt _ hpos⟩
        obtain ⟨M1, M2⟩ := MORE kk hkl
        have HM1 := Lib.hid M1
        have HXS := Lib.hid hxs
        have hlp : (0 : Int) < ls.length := by omega
        have hlz : ((ls.length : Int) == 0) = false := by rw [beq_eq_false_iff_ne]; omega
        clear M1 MORE hxs hsb hpl CSH hbig
        go_wp2_with fail
        refine (CL _).out.mono ?_
        rintro e w3 ⟨sa, sc, rfl, hls, hg3⟩
        replace hgw := hgw.tr hg3
        clear hg3
        go_wp2_with fail
        go_loop [9, 10] (fun m i => ∃ (j : Nat) (mb : ByteArray), j ≤ ls.length ∧ i = .int .i64 j ∧ m = .string mb ∧ Hid (CommentInv cmtB kk ls j mb)) (fun _ i => ls.length - (intOf i).toNat)
        case atStart => exact ⟨0, ⟨#[]⟩, Nat.zero_le _, rfl, rfl, CommentInv.start _ _ _⟩
        case round =>
          obtain ⟨j, mb, hjl, rfl, rfl, inv⟩ := hrel
          have hmb : mb.size ≤ 6000 := by
            have h1 := congrArg List.length (show mb.data.toList ++ moreTo cmtB kk ls.length (ls.drop j) j = moreTo cmtB kk ls.length ls 0 from inv.out)
            rw [List.length_append, ← Lib.size_eq] at h1
            omega
          by_cases hlt : j < ls.length
          · obtain ⟨x, hx⟩ : ∃ x, ls[j]? = some x := ⟨_, List.getElem?_eq_getElem hlt⟩
            have hxz := HXS.out x (List.mem_of_getElem? hx)
            obtain ⟨lb, lo, rfl, hpc⟩ := pieces_at hls (ne_nil_of_lt hlt)
            have c0 := hpc j x hx
            have HX := Lib.hid hx
            clear hpc hx
            by_cases hj : j = kk
            · by_cases hl : j + 1 < ls.length
              · have hj2 : ((j : Int) == (kk : Int)) = true := by rw [beq_iff_eq]; omega
                have HJ := Lib.hid hj
                clear hj
                have hl2 : (j : Int) + 1 < ls.length := by omega
                go_wp2_with fail
                go_round
                case rel => exact ⟨j + 1, _, hlt, by go_num, rfl, Lib.hid (inv.out.step HX.out (by unfold moreP; rw [if_pos HJ.out, if_pos (by omega)]; simp [cmtB]))⟩
                case measure => simp [intOf]; omega
              · have hj2 : ((j : Int) == (kk : Int)) = true := by rw [beq_iff_eq]; omega
                have HJ := Lib.hid hj
                clear hj
                have hl2 : ¬ (j : Int) + 1 < ls.length := by omega
                go_wp2_with fail
                go_round
                case rel => exact ⟨j + 1, _, hlt, by go_num, rfl, Lib.hid (inv.out.step HX.out (by unfold moreP; rw [if_pos HJ.out, if_neg (by omega)]; simp [cmtB]))⟩
                case measure => simp [intOf]; omega
            · by_cases hl : j + 1 < ls.length
              · have hj2 : ((j : Int) == (kk : Int)) = false := by rw [beq_eq_false_iff_ne]; omega
                have HJ := Lib.hid hj
                clear hj
                have hl2 : (j : Int) + 1 < ls.length := by omega
                go_wp2_with fail
                go_round
                case rel => exact ⟨j + 1, _, hlt, by go_num, rfl, Lib.hid (inv.out.step HX.out (by unfold moreP; rw [if_neg HJ.out, if_pos (by omega)]; simp [cmtB]))⟩
                case measure => simp [intOf]; omega
              · have hj2 : ((j : Int) == (kk : Int)) = false := by rw [beq_eq_false_iff_ne]; omega
                have HJ := Lib.hid hj
                clear hj
                have hl2 : ¬ (j : Int) + 1 < ls.length := by omega
                go_wp2_with fail
                go_round
                case rel => exact ⟨j + 1, _, hlt, by go_num, rfl, Lib.hid (inv.out.step HX.out (by unfold moreP; rw [if_neg HJ.out, if_neg (by omega)]; simp [cmtB]))⟩
                case measure => simp [intOf]; omega
          · obtain rfl : j = ls.length := by omega
            obtain rfl := inv.out.fin
            clear inv hmb hls HXS
            have hgz : (mkB (moreTo cmtB kk ls.length ls 0)).size < 9223372036854775807 := by rw [Lib.size_eq, mkB_data]; omega
            have CP1 := fun (ga : Option Addr) (gc : Nat) W (hW : Grows w W) h2 => CPA text ga gc W hW (by omega) h2
            have CP2 := fun (ga : Option Addr) (gc : Nat) W (hW : Grows w W) h2 => CPA (mkB (moreTo cmtB kk ls.length ls 0)) ga gc W hW hgz h2
            rw [HM1.out] at CP2
            generalize moreTo cmtB kk ls.length ls 0 = tot at *
            generalize parseS text p = PT at *
            obtain ⟨b, nn, g⟩ := PT
            try simp only at CP1 CP2
            have hbl : b.length ≤ 20000 := PLN.out
            have hnn : nn ≤ 5001 := by have h1 : nn ≤ text.size + 1 ∧ 0 ≤ nn := NNB.out; omega
            have hnn0 : 0 ≤ nn := (show nn ≤ text.size + 1 ∧ 0 ≤ nn from NNB.out).2
            clear CPA HM1 PLN M2 hgz NNB
            go_wp2_with fail
            refine (CG _ hgw).out.mono ?_
            rintro e w4 ⟨ga, gc, rfl, hga, hg4⟩
            replace hgw := hgw.tr hg4
            clear hg4
            go_wp2_with fail
            refine (CP1 ga gc _ hgw hga).out.mono ?_
            rintro e w5 ⟨a5, c5, rfl, hat5, hg5⟩
            try simp only at hat5
            replace hgw := hgw.tr hg5
            clear hg5 hga CP1
            go_wp2_with fail
            refine (CG _ hgw).out.mono ?_
            rintro e w6 ⟨ga2, gc2, rfl, hga2, hg6⟩
            replace hat5 := hat5.grows hg6
            replace hgw := hgw.tr hg6
            clear hg6
            go_wp2_with fail
            by_cases hk3 : (kk : Int) < nn
            · simp only [if_pos hk3] at CP2
              refine (CP2 ga2 gc2 _ hgw hga2).out.mono ?_
              rintro e w7 ⟨a7, c7, rfl, hat7, hg7⟩
              try simp only at hat7
              replace hat5 := hat5.grows hg7
              replace hgw := hgw.tr hg7
              clear hg7 hga2 CP2
              go_wp2_with fail
              refine (CSA b a5 a7 c5 c7 _ hbl hat5 hat7).out.mono ?_
              rintro e w8 ⟨rfl, hg8⟩
              replace hgw := hgw.tr hg8
              clear hg8 hat5 hat7
              go_wp2_with fail
              refine (CW _ hgw).out.mono ?_
              rintro e w9 ⟨rfl, hg9⟩
              go_wp2
              go_ret
              exact ⟨rfl, hgw.tr hg9⟩
            · simp only [if_neg hk3] at CP2
              refine (CP2 ga2 gc2 _ hgw hga2).out.mono ?_
              rintro e w7 ⟨a7, c7, rfl, hat7, hg7⟩
              try simp only at hat7
              replace hat5 := hat5.grows hg7
              replace hgw := hgw.tr hg7
              clear hg7 hga2 CP2
              go_wp2_with fail
              refine (CSA b a5 a7 c5 c7 _ hbl hat5 hat7).out.mono ?_
              rintro e w8 ⟨rfl, hg8⟩
              replace hgw := hgw.tr hg8
              clear hg8 hat5 hat7
              go_wp2_with fail
              refine (CW _ hgw).out.mono ?_
              rintro e w9 ⟨rfl, hg9⟩
              go_wp2
              go_ret
              exact ⟨rfl, hgw.tr hg9⟩
    · go_enter Tryz.func8, Tryz.ntmps8
      go_wp2_with fail
      refine CSH.out.mono ?_
      rintro e w2 ⟨⟨sb, rfl, hsb⟩, hgw⟩
      cases sb
      · clear hsb
        go_wp2
        go_ret
        exact ⟨rfl, hgw⟩
      · have HS := Lib.hid (shortS_parts (hsb rfl))
        have hp1 : p.length ≤ 100 := HS.out.1
        have CG := fun W (hW : Grows w W) => Lib.hid (given_any p pa pc W (by omega) (HPT.out.grows hW))
        have CPA := fun (t : ByteArray) (ga : Option Addr) (gc : Nat) W (hW : Grows w W) (ht : t.size < 9223372036854775807) (h2 : AtCells W ga 2 (p.map posCells)) => Lib.hid (parse_at t p ga gc W ht (by omega) (he.grows hW) h2)
        have CSA := fun (a : List En) (xa xb : Option Addr) (ca cb : Nat) W (h1 : a.length ≤ 20000) (h2 : AtCells W xa 5 (a.map enCells)) (h3 : AtCells W xb 5 (a.map enCells)) => Lib.hid (same_self a xa xb ca cb W (by omega) h2 h3)
        have CW := fun W (hW : Grows w W) => Lib.hid (works_any W (he.grows hW))
        have CL := fun W => Lib.hid (lines_any text W (by omega))
        unfold StrsPost at CL
        have PLN : Hid ((parseS text p).1.length ≤ 20000) := parseS_len
        have NNB : Hid ((parseS text p).2.1 ≤ text.size + 1 ∧ 0 ≤ (parseS text p).2.1) := parseS_bound
        have MORE := fun k hk => skip_line_more (c := []) (text := text) (p := p) (k := k) (by first | exact cmt_skip | exact nil_skip) (by decide) (by decide) (by omega) hk
        have hlb := lines_len text
        have hpos : 0 < ((splitL 10 text.data.toList).map mkB).length := by
          rw [List.length_map]; exact List.length_pos_iff.2 (splitL_ne 10 _)
        have hxs : ∀ x ∈ (splitL 10 text.data.toList).map mkB, x.size ≤ 5000 := fun x hx => by
          have := splitS_size (c := 10) (s := text) (x := x) (by rw [splitS_L]; exact hx)
          omega
        have hkl : (splitL 10 text.data.toList).length = ((splitL 10 text.data.toList).map mkB).length := by rw [List.length_map]
        rw [hkl] at MORE
        clear hkl
        generalize (splitL 10 text.data.toList).map mkB = ls at *
        obtain ⟨kk, hkk, hkl⟩ : ∃ kk : Nat, (a : Int) / 2 % (ls.length : Int) = kk ∧ kk < ls.length := ⟨a / 2 % ls.length, by push_cast; rfl, Nat.mod_lt _ hpos⟩
        obtain ⟨M1, M2⟩ := MORE kk hkl
        have HM1 := Lib.hid M1
        have HXS := Lib.hid hxs
        have hlp : (0 : Int) < ls.length := by omega
        have hlz : ((ls.length : Int) == 0) = false := by rw [beq_eq_false_iff_ne]; omega
        clear M1 MORE hxs hsb hpl CSH hbig
        go_wp2_with fail
        refine (CL _).out.mono ?_
        rintro e w3 ⟨sa, sc, rfl, hls, hg3⟩
        replace hgw := hgw.tr hg3
        clear hg3
        go_wp2_with fail
        go_loop [9, 10] (fun m i => ∃ (j : Nat) (mb : ByteArray), j ≤ ls.length ∧ i = .int .i64 j ∧ m = .string mb ∧ Hid (CommentInv [] kk ls j mb)) (fun _ i => ls.length - (intOf i).toNat)
        case atStart => exact ⟨0, ⟨#[]⟩, Nat.zero_le _, rfl, rfl, CommentInv.start _ _ _⟩
        case round =>
          obtain ⟨j, mb, hjl, rfl, rfl, inv⟩ := hrel
          have hmb : mb.size ≤ 6000 := by
            have h1 := congrArg List.length (show mb.data.toList ++ moreTo [] kk ls.length (ls.drop j) j = moreTo [] kk ls.length ls 0 from inv.out)
            rw [List.length_append, ← Lib.size_eq] at h1
            omega
          by_cases hlt : j < ls.length
          · obtain ⟨x, hx⟩ : ∃ x, ls[j]? = some x := ⟨_, List.getElem?_eq_getElem hlt⟩
            have hxz := HXS.out x (List.mem_of_getElem? hx)
            obtain ⟨lb, lo, rfl, hpc⟩ := pieces_at hls (ne_nil_of_lt hlt)
            have c0 := hpc j x hx
            have HX := Lib.hid hx
            clear hpc hx
            by_cases hj : j = kk
            · by_cases hl : j + 1 < ls.length
              · have hj2 : ((j : Int) == (kk : Int)) = true := by rw [beq_iff_eq]; omega
                have HJ := Lib.hid hj
                clear hj
                have hl2 : (j : Int) + 1 < ls.length := by omega
                go_wp2_with fail
                go_round
                case rel => exact ⟨j + 1, _, hlt, by go_num, rfl, Lib.hid (inv.out.step HX.out (by unfold moreP; rw [if_pos HJ.out, if_pos (by omega)]; simp [cmtB]))⟩
                case measure => simp [intOf]; omega
              · have hj2 : ((j : Int) == (kk : Int)) = true := by rw [beq_iff_eq]; omega
                have HJ := Lib.hid hj
                clear hj
                have hl2 : ¬ (j : Int) + 1 < ls.length := by omega
                go_wp2_with fail
                go_round
                case rel => exact ⟨j + 1, _, hlt, by go_num, rfl, Lib.hid (inv.out.step HX.out (by unfold moreP; rw [if_pos HJ.out, if_neg (by omega)]; simp [cmtB]))⟩
                case measure => simp [intOf]; omega
            · by_cases hl : j + 1 < ls.length
              · have hj2 : ((j : Int) == (kk : Int)) = false := by rw [beq_eq_false_iff_ne]; omega
                have HJ := Lib.hid hj
                clear hj
                have hl2 : (j : Int) + 1 < ls.length := by omega
                go_wp2_with fail
                go_round
                case rel => exact ⟨j + 1, _, hlt, by go_num, rfl, Lib.hid (inv.out.step HX.out (by unfold moreP; rw [if_neg HJ.out, if_pos (by omega)]; simp [cmtB]))⟩
                case measure => simp [intOf]; omega
              · have hj2 : ((j : Int) == (kk : Int)) = false := by rw [beq_eq_false_iff_ne]; omega
                have HJ := Lib.hid hj
                clear hj
                have hl2 : ¬ (j : Int) + 1 < ls.length := by omega
                go_wp2_with fail
                go_round
                case rel => exact ⟨j + 1, _, hlt, by go_num, rfl, Lib.hid (inv.out.step HX.out (by unfold moreP; rw [if_neg HJ.out, if_neg (by omega)]; simp [cmtB]))⟩
                case measure => simp [intOf]; omega
          · obtain rfl : j = ls.length := by omega
            obtain rfl := inv.out.fin
            clear inv hmb hls HXS
            have hgz : (mkB (moreTo [] kk ls.length ls 0)).size < 9223372036854775807 := by rw [Lib.size_eq, mkB_data]; omega
            have CP1 := fun (ga : Option Addr) (gc : Nat) W (hW : Grows w W) h2 => CPA text ga gc W hW (by omega) h2
            have CP2 := fun (ga : Option Addr) (gc : Nat) W (hW : Grows w W) h2 => CPA (mkB (moreTo [] kk ls.length ls 0)) ga gc W hW hgz h2
            rw [HM1.out] at CP2
            generalize moreTo [] kk ls.length ls 0 = tot at *
            generalize parseS text p = PT at *
            obtain ⟨b, nn, g⟩ := PT
            try simp only at CP1 CP2
            have hbl : b.length ≤ 20000 := PLN.out
            have hnn : nn ≤ 5001 := by have h1 : nn ≤ text.size + 1 ∧ 0 ≤ nn := NNB.out; omega
            have hnn0 : 0 ≤ nn := (show nn ≤ text.size + 1 ∧ 0 ≤ nn from NNB.out).2
            clear CPA HM1 PLN M2 hgz NNB
            go_wp2_with fail
            refine (CG _ hgw).out.mono ?_
            rintro e w4 ⟨ga, gc, rfl, hga, hg4⟩
            replace hgw := hgw.tr hg4
            clear hg4
            go_wp2_with fail
            refine (CP1 ga gc _ hgw hga).out.mono ?_
            rintro e w5 ⟨a5, c5, rfl, hat5, hg5⟩
            try simp only at hat5
            replace hgw := hgw.tr hg5
            clear hg5 hga CP1
            go_wp2_with fail
            refine (CG _ hgw).out.mono ?_
            rintro e w6 ⟨ga2, gc2, rfl, hga2, hg6⟩
            replace hat5 := hat5.grows hg6
            replace hgw := hgw.tr hg6
            clear hg6
            go_wp2_with fail
            by_cases hk3 : (kk : Int) < nn
            · simp only [if_pos hk3] at CP2
              refine (CP2 ga2 gc2 _ hgw hga2).out.mono ?_
              rintro e w7 ⟨a7, c7, rfl, hat7, hg7⟩
              try simp only at hat7
              replace hat5 := hat5.grows hg7
              replace hgw := hgw.tr hg7
              clear hg7 hga2 CP2
              go_wp2_with fail
              refine (CSA b a5 a7 c5 c7 _ hbl hat5 hat7).out.mono ?_
              rintro e w8 ⟨rfl, hg8⟩
              replace hgw := hgw.tr hg8
              clear hg8 hat5 hat7
              go_wp2_with fail
              refine (CW _ hgw).out.mono ?_
              rintro e w9 ⟨rfl, hg9⟩
              go_wp2
              go_ret
              exact ⟨rfl, hgw.tr hg9⟩
            · simp only [if_neg hk3] at CP2
              refine (CP2 ga2 gc2 _ hgw hga2).out.mono ?_
              rintro e w7 ⟨a7, c7, rfl, hat7, hg7⟩
              try simp only at hat7
              replace hat5 := hat5.grows hg7
              replace hgw := hgw.tr hg7
              clear hg7 hga2 CP2
              go_wp2_with fail
              refine (CSA b a5 a7 c5 c7 _ hbl hat5 hat7).out.mono ?_
              rintro e w8 ⟨rfl, hg8⟩
              replace hgw := hgw.tr hg8
              clear hg8 hat5 hat7
              go_wp2_with fail
              refine (CW _ hgw).out.mono ?_
              rintro e w9 ⟨rfl, hg9⟩
              go_wp2
              go_ret
              exact ⟨rfl, hgw.tr hg9⟩
end Go.Proofs.YtfkebhkckcnlpaaGreatDoor
