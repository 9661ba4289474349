import Derived.Test.YtfkebhkckcnlpaaGreatDoorRefL
import Derived.Test.YtfkebhkckcnlpaaGreatDoorParse
namespace Go.Proofs.YtfkebhkckcnlpaaGreatDoor
open Go Go.RowKit
attribute [local go_sem] quietE

theorem enLay : ElemLay Tryz.prog 25 23 5 56 enCells where
  sl := Tryz.underlying25
  info := elem_info (z := .agg #[.string ⟨#[]⟩, .string ⟨#[]⟩, .int .i64 0, .int .i64 0, .int .i64 0]) (by kernel_rfl) rfl
  pos := by decide
  by1 := by decide
  len _ := rfl
  one := enCells_one
theorem lines_len (s : ByteArray) : ((splitL 10 s.data.toList).map mkB).length ≤ s.size + 1 := by
  rw [List.length_map]
  have key : ∀ l : List UInt8, (splitL 10 l).length ≤ l.length + 1 := by
    intro l
    induction l with
    | nil => simp [splitL]
    | cons b l ih =>
      obtain ⟨x, r, hx⟩ := splitL_form 10 l
      unfold splitL
      rw [hx] at ih ⊢
      split <;> simp at ih ⊢ <;> omega
  have := key s.data.toList
  rw [Lib.size_eq]; exact this
/-- Entries and two numbers are handed back, the entries at an address. -/
def EnsAt (w : World) (res : List En × Int × Int) (e : Ending) (w' : World) : Prop :=
  ∃ a cap, e = .returned (.tuple #[.slice a res.1.length cap, .int .i64 res.2.1, .int .i64 res.2.2]) ∧ AtCells w' a 5 (res.1.map enCells) ∧ Grows w w'
theorem ens_at {w : World} {res : List En × Int × Int} {e : Ending} {w' : World} (h : EnsPost w res e w') : EnsAt w res e w' := by
  obtain ⟨v, rfl, hown, hg⟩ := h
  obtain ⟨a, cap, rfl, _, _, hat⟩ := ownsRow_at enCells_len hown
  exact ⟨a, cap, rfl, hat, hg⟩

set_option maxHeartbeats 4000000 in
set_option maxRecDepth 100000 in
theorem parse2_any (text : ByteArray) (L : List PosV) (la : Option Addr) (cap : Nat) (w : World) (hs : text.size < 9223372036854775807) (hl : L.length ≤ 4611686018427387904) (hn : ∀ x ∈ L, x.name.size ≤ 4294967290) (hat : AtCells w la 2 (L.map posCells)) :
    Calls Tryz.prog 18 #[.string text, .slice la L.length cap] w (EnsPost w (parseS text L)) := by
  have CC := Lib.hid (valid2_any L la cap w hat hl hn)
  have HAT := Lib.hid hat
  clear hat
  cases hv : posValid L
  · have hp : parseS text L = ([], 0, 5) := by unfold parseS; rw [hv]; rfl
    rw [hp]
    rw [hv] at CC
    clear hp hv
    go_enter Tryz.func18, Tryz.ntmps18
    go_wp2_with (first | (go_at_call 37; refine CC.out.mono ?_; rintro e w1 ⟨rfl, hg1⟩))
    go_ret3
    exact ⟨_, rfl, ownsRow_nil _ _ _ _, hg1⟩
  · by_cases hbig : 1048576 < text.size
    · have hp : parseS text L = ([], 0, 2) := by unfold parseS; rw [hv, if_pos rfl, if_pos hbig]
      have hb : (1048576 : Int) < text.size := by omega
      rw [hp]
      rw [hv] at CC
      clear hp hv
      go_enter Tryz.func18, Tryz.ntmps18
      go_wp2_with (first | (go_at_call 37; refine CC.out.mono ?_; rintro e w1 ⟨rfl, hg1⟩))
      go_ret3
      exact ⟨_, rfl, ownsRow_nil _ _ _ _, hg1⟩
    · have hp : parseS text L = parseGo L (splitS 10 text) 0 [] := by unfold parseS; rw [hv, if_pos rfl, if_neg hbig]
      have hb : (text.size : Int) ≤ 1048576 := by omega
      rw [hp]
      rw [hv] at CC
      have CS := fun W => Lib.hid (lines_any text W (by omega))
      unfold StrsPost at CS
      have hsz : ∀ x, x ∈ splitS 10 text → x.size ≤ 4294967280 := fun x hx => by have := splitS_size hx; omega
      have hlen := lines_len text
      rw [splitS_split] at hsz ⊢
      clear hp hv hbig
      generalize (splitL 10 text.data.toList).map mkB = ls at *
      go_enter Tryz.func18, Tryz.ntmps18
      go_wp2_with (first | (go_at_call 37; refine CC.out.mono ?_; rintro e w1 ⟨rfl, hg1⟩) | (go_at_call 23; refine (CS _).out.mono ?_; rintro e w2 ⟨sa, sc, rfl, hls, hg2⟩))
      have hg12 := hg1.tr hg2
      go_loopw [7, 9] (fun v i wr => ∃ (k : Nat) (out : List En), k ≤ ls.length ∧ i = .int .i64 k ∧ Owns wr w2.heap.size 23 5 enCells v out ∧ Hid (parseGo L ls 0 [] = parseGo L (ls.drop k) k out) ∧ out.length ≤ 20000 ∧ Grows w wr ∧ Grows w2 wr) (fun _ i _ => ls.length - (intOf i).toNat)
      case atStart => exact ⟨0, [], Nat.zero_le _, rfl, Owns.nil _ _ _ _ _, rfl, by simp, hg12, Grows.refl _⟩
      case round =>
        obtain ⟨k, out, hk, rfl, hown, hpar, hol, hgr, hg2r⟩ := hrel
        obtain ⟨a8, c8, rfl, hc1, hc2, _⟩ := hown.at_ enCells_len
        by_cases hlt : k < ls.length
        · obtain ⟨s, hsk⟩ : ∃ s, ls[k]? = some s := ⟨_, List.getElem?_eq_getElem hlt⟩
          have hss := hsz s (List.mem_of_getElem? hsk)
          have hdrop : ls.drop k = s :: ls.drop (k + 1) := by
            rw [List.drop_eq_getElem_cons hlt]
            have : ls[k] = s := (List.getElem?_eq_some_iff.1 hsk).2
            rw [this]
          obtain ⟨sb, so, rfl, hpc⟩ := pieces_at (hls.grows hg2r) (ne_nil_of_lt hlt)
          have c0 : wr.cell? ⟨sb, so + k, none⟩ = some (.string s) := hpc k s hsk
          have hpar2 := hpar.out
          rw [hdrop, parseGo_cons] at hpar2
          have HP := Lib.hid hpar2
          clear hpar hpar2 hdrop hsk hpc
          by_cases hem : s.toList = []
          · have hp2 : parseGo L ls 0 [] = parseGo L (ls.drop (k + 1)) (k + 1) out := by rw [HP.out, skip_empty hem]; rfl
            have HP2 := Lib.hid hp2
            clear HP hp2
            go_wp2
            go_roundw
            case rel => exact ⟨k + 1, out, by omega, by go_num, hown, HP2.out, hol, hgr, hg2r⟩
            case measure => simp [intOf]; omega
          · have hpos := nonempty_size hem
            have hemb : (s.toList == []) = false := by simpa using hem
            by_cases h35 : (s[0].toNat : Int) = 35
            · have hp2 : parseGo L ls 0 [] = parseGo L (ls.drop (k + 1)) (k + 1) out := by rw [HP.out, skip_hash hpos h35]; rfl
              have HP2 := Lib.hid hp2
              clear HP hp2
              go_wp2
              go_roundw
              case rel => exact ⟨k + 1, out, by omega, by go_num, hown, HP2.out, hol, hgr, hg2r⟩
              case measure => simp [intOf]; omega
            · have h35b : ((s[0].toNat : Int) == 35) = false := by simpa using h35
              have hp2 := HP.out
              rw [skip_not hpos h35] at hp2
              simp only [Bool.false_eq_true, if_false] at hp2
              have CR := line_any s L la cap wr hss hl (HAT.out.grows hgr)
              unfold lineErr at hp2
              generalize readS s L = xr at hp2 CR
              obtain ⟨x, er⟩ := xr
              simp only [] at hp2 CR
              have HCR := Lib.hid CR
              have HP2 := Lib.hid hp2
              clear HP hp2 CR h35 hem
              by_cases hz : er = 0
              · subst hz
                by_cases hfull : out.length = 20000
                · have hp3 : parseGo L ls 0 [] = ([], (k : Int) + 1, 2) := by rw [HP2.out]; simp [hfull]
                  have HP3 := Lib.hid hp3
                  have hfb : ¬ (out.length : Int) < 20000 := by omega
                  clear HP2 hp3 hfull
                  go_wp2_with (first | (go_at_call 38; refine HCR.out.mono ?_; rintro e w3 ⟨rfl, hg3⟩))
                  go_ret3
                  rw [HP3.out]
                  exact ⟨_, rfl, ownsRow_nil _ _ _ _, (hgr.tr hg3).al _⟩
                · have hp3 : parseGo L ls 0 [] = parseGo L (ls.drop (k + 1)) (k + 1) (out ++ [x]) := by
                    rw [HP2.out]; simp [hfull]
                  have HP3 := Lib.hid hp3
                  have hfb : (out.length : Int) < 20000 := by omega
                  clear HP2 hp3 hfull
                  go_wp2_with (first | (go_at_call 38; refine HCR.out.mono ?_; rintro e w3 ⟨rfl, hg3⟩) | (at_builtin; refine app_one enLay rfl _ _ rfl w2.heap.size _ _ x rfl hown (hg3.al _) (w3.heap.size + 1) 1 (by simp) #[.string x.r, .string x.s, .int .i64 x.l, .int .i64 x.t, .int .i64 x.c] rfl rfl (by omega) hg2r.size ?_; intro v' w4 hown' hg4))
                  have hgw4 := hg4 w hgr (Nat.le_trans hg12.size (Nat.le_refl _))
                  have hg24 := hg4 w2 hg2r (Nat.le_refl _)
                  go_wp2
                  go_roundw
                  case rel => exact ⟨k + 1, out ++ [x], by omega, by go_num, hown', HP3.out, by simp; omega, hgw4, hg24⟩
                  case measure => simp [intOf]; omega
              · have hzb : (er != 0) = true := by simpa using hz
                have hzb2 : (er == 0) = false := by simpa using hz
                have hp3 : parseGo L ls 0 [] = ([], (k : Int) + 1, er) := by rw [HP2.out]; simp [hz]
                have HP3 := Lib.hid hp3
                clear HP2 hp3 hz
                go_wp2_with (first | (go_at_call 38; refine HCR.out.mono ?_; rintro e w3 ⟨rfl, hg3⟩))
                go_ret3
                rw [HP3.out]
                exact ⟨_, rfl, ownsRow_nil _ _ _ _, (hgr.tr hg3).al _⟩
        · obtain rfl : k = ls.length := by omega
          have hfin : parseGo L ls 0 [] = (out, 0, 0) := by rw [hpar.out, List.drop_length]; rfl
          have HF := Lib.hid hfin
          clear hfin hpar
          go_wp2
          go_ret3
          rw [HF.out]
          exact ⟨_, rfl, ownsRow_base hown hg12.size, hgr⟩
end Go.Proofs.YtfkebhkckcnlpaaGreatDoor
