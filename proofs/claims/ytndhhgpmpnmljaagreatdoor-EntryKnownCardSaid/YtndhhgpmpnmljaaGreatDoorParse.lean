import Derived.Test.YtndhhgpmpnmljaaGreatDoorRead
import Derived.Maps.AppendAt
namespace Go.Proofs.YtndhhgpmpnmljaaGreatDoor
open Go Go.RowKit Go.Shelf
attribute [local go_sem] quietE

/-- A line that is skipped. -/
def skipLine (s : ByteArray) : Bool := s.data.toList.isEmpty || (s.data.toList.head? == some 35)
def lineErr (L : List PosV) (s : ByteArray) (n : Nat) : Int := if (readS s L).2 = 0 ∧ n = 20000 then 2 else (readS s L).2
def parseGo (L : List PosV) : List ByteArray → Nat → List En → List En × Int × Int
  | [], _, out => (out, 0, 0)
  | s :: r, i, out =>
    if skipLine s then parseGo L r (i + 1) out
    else if lineErr L s out.length ≠ 0 then ([], (i : Int) + 1, lineErr L s out.length)
    else parseGo L r (i + 1) (out ++ [(readS s L).1])
theorem parseGo_cons (L : List PosV) (s : ByteArray) (r : List ByteArray) (i : Nat) (out : List En) : parseGo L (s :: r) i out = if skipLine s then parseGo L r (i + 1) out
    else if lineErr L s out.length ≠ 0 then ([], (i : Int) + 1, lineErr L s out.length)
    else parseGo L r (i + 1) (out ++ [(readS s L).1]) := rfl
def parseS (text : ByteArray) (L : List PosV) : List En × Int × Int :=
  if posValid L then (if 1048576 < text.size then ([], 0, 2) else parseGo L (splitS 10 text) 0 []) else ([], 0, 5)

theorem infoEn : (Tryz.prog.info? 54).map (fun i => (i.zero, i.size, i.bytes)) = some (some (.agg #[.string ⟨#[]⟩, .string ⟨#[]⟩, .int .i64 0, .int .i64 0, .int .i64 0]), 5, 56) := by kernel_rfl
theorem enCells_len (x : En) : (enCells x).length = 5 := rfl

theorem news_box {w : World} {cs : Array Value} {t : TypeId} {n : Nat} (hn : n = w.heap.size) : ∀ (j : Nat) (u : Value), cs.toList[j]? = some u → (w.alloc (.cells cs t)).cell? ((⟨n, 0, none⟩ : Addr).add j) = some u := by
  intro j u hj
  subst hn
  have h := cell_box w cs t (0, 0) j u (by simpa using hj)
  unfold Addr.add
  by_cases h0 : j = 0
  · subst h0; simpa using h
  · rw [if_neg h0]; simpa using h
theorem enCells_one (x : En) : ∀ u ∈ enCells x, u.oneCell' = true := by
  intro u hu
  simp [enCells] at hu
  rcases hu with rfl | rfl | rfl | rfl | rfl <;> rfl
theorem nonempty_size {s : ByteArray} (h : ¬ s.toList = []) : 0 < s.size := by
  rw [Lib.toList_data] at h
  rw [Lib.size_eq]
  exact List.length_pos_iff.2 h
theorem head_get {s : ByteArray} (h : 0 < s.size) : s.data.toList.head? = some s[0] := by
  rw [List.head?_eq_getElem?, Array.getElem?_toList]
  exact Array.getElem?_eq_getElem (by exact h)
theorem skip_empty {s : ByteArray} (h : s.toList = []) : skipLine s = true := by
  rw [Lib.toList_data] at h; unfold skipLine; rw [h]; rfl
theorem skip_hash {s : ByteArray} (h : 0 < s.size) (h35 : (s[0].toNat : Int) = 35) : skipLine s = true := by
  unfold skipLine
  rw [head_get h]
  have : s[0] = 35 := by rw [← UInt8.toNat_inj]; simp; omega
  rw [this]; simp
theorem skip_not {s : ByteArray} (h : 0 < s.size) (h35 : ¬ (s[0].toNat : Int) = 35) : skipLine s = false := by
  unfold skipLine
  have hne : s.data.toList.isEmpty = false := by
    rw [Lib.size_eq] at h
    cases hh : s.data.toList with
    | nil => rw [hh] at h; simp at h
    | cons _ _ => rfl
  rw [head_get h, hne]
  have : ¬ s[0] = 35 := by intro e; rw [e] at h35; exact h35 rfl
  simp [this]

/-- Entries and two numbers are handed back. -/
def EnsPost (w : World) (res : List En × Int × Int) (e : Ending) (w' : World) : Prop :=
  ∃ v, e = .returned (.tuple #[v, .int .i64 res.2.1, .int .i64 res.2.2]) ∧ w'.ownsRow w.heap.size 54 5 v res.1.length (res.1.flatMap enCells) ∧ Grows w w'

set_option maxHeartbeats 4000000 in
set_option maxRecDepth 100000 in
theorem parse_any (text : ByteArray) (L : List PosV) (la : Option Addr) (cap : Nat) (w : World) (hs : text.size < 9223372036854775807) (hl : L.length ≤ 4611686018427387904) (he : Env w) (hat : AtCells w la 2 (L.map posCells)) :
    Calls Tryz.prog 33 #[.string text, .slice la L.length cap] w (EnsPost w (parseS text L)) := by
  have CC := Lib.hid (check_any L la cap w hat hl)
  have HAT := Lib.hid hat
  clear hat
  cases hv : posValid L
  · have hp : parseS text L = ([], 0, 5) := by unfold parseS; rw [hv]; rfl
    rw [hp]
    rw [hv] at CC
    clear hp hv
    go_enter Tryz.func33, Tryz.ntmps33
    go_wp2_with (first | (go_at_call 36; refine CC.out.mono ?_; rintro e w1 ⟨rfl, hg1⟩))
    go_ret3
    exact ⟨_, rfl, ownsRow_nil _ _ _ _, hg1⟩
  · by_cases hbig : 1048576 < text.size
    · have hp : parseS text L = ([], 0, 2) := by unfold parseS; rw [hv, if_pos rfl, if_pos hbig]
      have hb : (1048576 : Int) < text.size := by omega
      rw [hp]
      rw [hv] at CC
      clear hp hv
      go_enter Tryz.func33, Tryz.ntmps33
      go_wp2_with (first | (go_at_call 36; refine CC.out.mono ?_; rintro e w1 ⟨rfl, hg1⟩))
      go_ret3
      exact ⟨_, rfl, ownsRow_nil _ _ _ _, hg1⟩
    · have hp : parseS text L = parseGo L (splitS 10 text) 0 [] := by unfold parseS; rw [hv, if_pos rfl, if_neg hbig]
      have hb : (text.size : Int) ≤ 1048576 := by omega
      rw [hp]
      rw [hv] at CC
      have CS := fun W hW => Lib.hid (split_any 10 text W (by omega) (he.grows hW))
      have hsz : ∀ x, x ∈ splitS 10 text → x.size < 4294967281 := fun x hx => by have := splitS_size hx; omega
      have hlen : (splitS 10 text).length ≤ 4294967290 := by
        have h1 : (splitS 10 text).length = Lib.countB text ⟨#[10]⟩ + 1 := Lib.splitB_all ⟨#[10]⟩ (Nat.le_refl 1) 0 _ text rfl
        have h2 := Lib.countB_le ⟨#[10]⟩ (Nat.le_refl 1) text.size text (Nat.le_refl _)
        omega
      clear hp hv hbig
      generalize splitS 10 text = ls at *
      go_enter Tryz.func33, Tryz.ntmps33
      go_wp2_with (first | (go_at_call 36; refine CC.out.mono ?_; rintro e w1 ⟨rfl, hg1⟩) | (go_at_call 40; refine (CS _ hg1).out.mono ?_; rintro e w2 ⟨rfl, hls, hg2⟩))
      have hg12 := hg1.tr hg2
      generalize w1.heap.size = SB at *
      go_loopw [24, 8] (fun i v wr => ∃ (k : Nat) (out : List En), k ≤ ls.length ∧ i = .int .i64 k ∧ wr.ownsRow w2.heap.size 54 5 v out.length (out.flatMap enCells) ∧ Hid (parseGo L ls 0 [] = parseGo L (ls.drop k) k out) ∧ out.length ≤ 20000 ∧ Grows w wr ∧ Grows w2 wr) (fun i _ _ => ls.length - (intOf i).toNat)
      case atStart => exact ⟨0, [], Nat.zero_le _, rfl, ownsRow_nil _ _ _ _, rfl, by simp, hg12, Grows.refl _⟩
      case round =>
        obtain ⟨k, out, hk, rfl, hown, hpar, hol, hgr, hg2r⟩ := hrel
        by_cases hlt : k < ls.length
        · obtain ⟨s, hsk⟩ : ∃ s, ls[k]? = some s := ⟨_, List.getElem?_eq_getElem hlt⟩
          have hmem : s ∈ ls := List.mem_of_getElem? hsk
          have hss := hsz s hmem
          have hdrop : ls.drop k = s :: ls.drop (k + 1) := by
            rw [List.drop_eq_getElem_cons hlt]
            have : ls[k] = s := (List.getElem?_eq_some_iff.1 hsk).2
            rw [this]
          have c0 : wr.cell? ⟨SB, k, none⟩ = some (.string s) := hg2r.cell (piece hls (ne_nil_of_lt hlt) k s hsk)
          have hpar2 := hpar.out
          rw [hdrop, parseGo_cons] at hpar2
          have HP := Lib.hid hpar2
          clear hpar hpar2 hdrop hsk hmem
          obtain ⟨a8, c8, rfl, hc1, hc2, _⟩ := ownsRow_at enCells_len hown
          by_cases hem : s.toList = []
          · have hp2 : parseGo L ls 0 [] = parseGo L (ls.drop (k + 1)) (k + 1) out := by rw [HP.out, skip_empty hem]; rfl
            have HP2 := Lib.hid hp2
            clear HP hp2
            go_wp2
            go_roundw
            case rel => exact ⟨k + 1, out, by omega, by go_num, hown, HP2.out, hol, hgr, hg2r⟩
            case measure => simp [intOf]; omega
          · have hpos := nonempty_size hem
            have hemb : s.toList.isEmpty = false := by simpa using hem
            by_cases h35 : (s[0].toNat : Int) = 35
            · have hp2 : parseGo L ls 0 [] = parseGo L (ls.drop (k + 1)) (k + 1) out := by rw [HP.out, skip_hash hpos h35]; rfl
              have HP2 := Lib.hid hp2
              clear HP hp2
              go_wp2
              go_roundw
              case rel => exact ⟨k + 1, out, by omega, by go_num, hown, HP2.out, hol, hgr, hg2r⟩
              case measure => simp [intOf]; omega
            · have h35b : ((s[0].toNat : Int) == 35) = false := by simpa using h35
              have hp2 := HP.out
              rw [skip_not hpos h35] at hp2
              simp only [Bool.false_eq_true, if_false] at hp2
              have CR := read_any s L la cap wr hss hl (he.grows hgr) (HAT.out.grows hgr)
              unfold lineErr at hp2
              generalize readS s L = xr at hp2 CR
              obtain ⟨x, er⟩ := xr
              simp only [] at hp2 CR
              have HCR := Lib.hid CR
              have HP2 := Lib.hid hp2
              clear HP hp2 CR h35 hem
              by_cases hz : er = 0
              · subst hz
                by_cases hfull : out.length = 20000
                · have hp3 : parseGo L ls 0 [] = ([], (k : Int) + 1, 2) := by rw [HP2.out]; simp [hfull]
                  have HP3 := Lib.hid hp3
                  have hfb : ((out.length : Int) == 20000) = true := by simp [hfull]
                  clear HP2 hp3 hfull
                  go_wp2_with (first | (go_at_call 63; refine HCR.out.mono ?_; rintro e w3 ⟨rfl, hg3⟩))
                  go_ret3
                  rw [HP3.out]
                  exact ⟨_, rfl, ownsRow_nil _ _ _ _, (hgr.tr hg3).al _⟩
                · have hp3 : parseGo L ls 0 [] = parseGo L (ls.drop (k + 1)) (k + 1) (out ++ [x]) := by
                    rw [HP2.out]; simp [hfull]
                  have HP3 := Lib.hid hp3
                  have hfb : ((out.length : Int) == 20000) = false := by simp; omega
                  have hol2 : out.length + 1 ≤ 20000 := by omega
                  clear HP2 hp3 hfull
                  obtain ⟨i0, hi, hz0, hz1, hz2⟩ := info_parts infoEn
                  go_wp2_with (first | (go_at_call 63; refine HCR.out.mono ?_; rintro e w3 ⟨rfl, hg3⟩) | (at_builtin; refine wpList_append_own _ rfl _ _ 52 rfl w2.heap.size 54 i0 (.agg #[.string ⟨#[]⟩, .string ⟨#[]⟩, .int .i64 0, .int .i64 0, .int .i64 0]) 5 56 Tryz.underlying52 hi hz0 hz1 hz2 rfl (by decide) _ _ _ rfl (ownsRow_grows hown (((hg3.al _).al _))) ⟨w3.heap.size + 1, 0, none⟩ 1 1 (enCells x) rfl rfl ?c1 ?c2 ?c3 ?c4 ?c5 ?_))
                  case c1 => exact news_box (cs := #[.string x.r, .string x.s, .int .i64 x.l, .int .i64 x.t, .int .i64 x.c]) (by simp)
                  case c2 => exact enCells_one x
                  case c3 => unfold maxLen; omega
                  case c4 => omega
                  case c5 => have h1 := hg2r.size; have h2 := hg3.size; simp; omega
                  intro v' w4 hown' hgrow _
                  have hg4 : Grows w2 w4 := (((hg2r.tr hg3).al _).al _).grown hgrow (fun q hq => ownBlock_ge hown q hq)
                  have hn1 : (out ++ [x]).length = out.length + 1 := by simp
                  have hn2 : (out ++ [x]).flatMap enCells = out.flatMap enCells ++ enCells x := by simp
                  rw [← hn1, ← hn2] at hown'
                  clear hgrow hn1 hn2 hown
                  go_wp2
                  go_roundw
                  case rel => exact ⟨k + 1, out ++ [x], by omega, by go_num, hown', HP3.out, by simp; omega, hg12.tr hg4, hg4⟩
                  case measure => simp [intOf]; omega
              · have hzb : (er != 0) = true := by simpa using hz
                have hzb2 : (er == 0) = false := by simpa using hz
                have hp3 : parseGo L ls 0 [] = ([], (k : Int) + 1, er) := by rw [HP2.out]; simp [hz]
                have HP3 := Lib.hid hp3
                clear HP2 hp3 hz
                go_wp2_with (first | (go_at_call 63; refine HCR.out.mono ?_; rintro e w3 ⟨rfl, hg3⟩))
                go_ret3
                rw [HP3.out]
                exact ⟨_, rfl, ownsRow_nil _ _ _ _, (hgr.tr hg3).al _⟩
        · obtain rfl : k = ls.length := by omega
          have hfin : parseGo L ls 0 [] = (out, 0, 0) := by rw [hpar.out, List.drop_length]; rfl
          have HF := Lib.hid hfin
          obtain ⟨a, c, rfl, hc1, hc2, hcells⟩ := ownsRow_at enCells_len hown
          clear hfin hpar
          go_wp2
          go_ret3
          rw [HF.out]
          exact ⟨_, rfl, ownsRow_base hown hg12.size, hgr⟩
end Go.Proofs.YtndhhgpmpnmljaaGreatDoor
