import Derived.Test.YtiopheoljccmpaaGreatDoorCq45
import Derived.Test.YtiopheoljccmpaaGreatDoorCq43
import Derived.Test.YtiopheoljccmpaaGreatDoorCq47
import Derived.Test.YtiopheoljccmpaaGreatDoorCq41
import Derived.Test.YtiopheoljccmpaaGreatDoorCq49
import Derived.Test.YtiopheoljccmpaaGreatDoorCq7
namespace Go.Proofs.YtiopheoljccmpaaGreatDoor
open Go Go.RowKit Go.Shelf
attribute [local go_sem] aM aP

def RPosPost (res : List bT × Int × Int) (w : World) (e : Ending) (w' : World) : Prop :=
  ∃ v, e = .returned (.tuple #[v, .int .i64 res.2.1, .int .i64 res.2.2]) ∧ aO w' w.heap.size 116 2 bI v res.1 ∧ aB w w'
theorem rposLay : eG Tryz.prog 46 116 2 24 bI where
  sl := Tryz.underlying46
  info := eY (z := .agg #[.string ⟨#[]⟩, .int .i64 0]) (by kernel_rfl) rfl
  pos := by decide
  by1 := by decide
  len _ := rfl
  one x u hu := by
    simp only [bI, List.mem_cons, List.not_mem_nil, or_false] at hu
    rcases hu with rfl | rfl <;> rfl
theorem line_bad {s : ByteArray} (out : List bT) (h : (lL0 s).2 = false) : eE out (bO0 s) = 5 := by
  unfold lL0 at h
  unfold eE
  split at h
  · rename_i hk
    rw [if_pos (Or.inl hk)]
  · rw [if_pos (Or.inr (Or.inl h))]
theorem line_good {s : ByteArray} (h : (lL0 s).2 = true) : (lL0 s).1 = bO0 s ∧ ¬ (bO0 s).kind < 0 ∧ iI (bO0 s).name = true := by
  unfold lL0 at h ⊢
  split at h
  · cases h
  · rename_i hk
    rw [if_neg hk]
    exact ⟨rfl, hk, h⟩
set_option maxHeartbeats 8000000 in
set_option maxRecDepth 100000 in
theorem rppos_any (text : ByteArray) (w : World) (hs : text.size ≤ 20000) :
    Calls Tryz.prog 11 #[.string text] w (RPosPost (iZ text) w) := by
  have hp : iZ text = uB (gD (splitS 10 text) 0) [] := by unfold iZ; rw [if_neg (by omega)]
  have hb : (text.size : Int) ≤ 1048576 := by omega
  rw [hp]
  have CS := fun W => Lib.hid (xC0 text W (by omega))
  unfold kU at CS
  have hsz : ∀ x, x ∈ splitS 10 text → x.size ≤ 20000 := fun x hx => by have := dN hx; omega
  have hlen := zM0 text
  rw [lA] at hsz ⊢
  clear hp
  generalize (splitL 10 text.data.toList).map mkB = ls at *
  obtain ⟨R, hR⟩ := exq (uB (gD ls 0) [])
  rw [← hR]
  have HR := Lib.hid hR
  clear hR
  go_enter Tryz.func11, Tryz.ntmps11
  go_wp2_with fail
  refine (CS _).out.mono ?_
  rintro e w2 ⟨sa, sc, rfl, hls, hg2⟩
  clear CS
  go_wp2_with fail
  go_loopw [6, 7] (fun v i wr => ∃ (k : Nat) (out : List bT), k ≤ ls.length ∧ i = .int .i64 k ∧ aO wr w2.heap.size 116 2 bI v out ∧ Hid (R = uB (gD (ls.drop k) k) out) ∧ out.length ≤ 64 ∧ aB w2 wr) (fun _ i _ => ls.length - (intOf i).toNat)
  case atStart => exact ⟨0, [], Nat.zero_le _, rfl, aO.nil _ _ _ _ _, HR.out, by simp, aB.refl _⟩
  case round =>
    obtain ⟨k, out, hk, rfl, hown, hpar, hol, hg⟩ := hrel
    obtain ⟨a8, c8, rfl, hc1, hc2, hat⟩ := hown.at_ rposLay.len
    by_cases hlt : k < ls.length
    · obtain ⟨s, hsk⟩ : ∃ s, ls[k]? = some s := ⟨_, List.getElem?_eq_getElem hlt⟩
      have hss := hsz s (List.mem_of_getElem? hsk)
      have hdrop : ls.drop k = s :: ls.drop (k + 1) := by
        rw [List.drop_eq_getElem_cons hlt]
        have : ls[k] = s := (List.getElem?_eq_some_iff.1 hsk).2
        rw [this]
      obtain ⟨sb, so, rfl, hpc⟩ := jB (hls.grows hg) (aH hlt)
      have c0 : wr.cell? ⟨sb, so + k, none⟩ = some (.string s) := hpc k s hsk
      have hp2 := hpar.out
      rw [hdrop, gD] at hp2
      clear hpar hdrop hsk hpc
      by_cases hem : s.toList = []
      · rw [mQ hem, if_pos rfl] at hp2
        have HP2 := Lib.hid hp2
        have hz0 : s.size = 0 := by
          rw [Lib.toList_data] at hem
          rw [Lib.size_eq, hem]
          rfl
        have hzb : ((s.size : Int) == 0) = true := by rw [hz0]; rfl
        clear hp2
        go_wp2_with fail
        go_roundw
        case rel => exact ⟨k + 1, out, by omega, by go_num, hown, HP2.out, hol, hg⟩
        case measure => simp [intOf]; omega
      · have hpos := gZ hem
        have hzb : ((s.size : Int) == 0) = false := by rw [beq_eq_false_iff_ne]; omega
        by_cases h35 : (s[0].toNat : Int) = 35
        · rw [pR hpos h35, if_pos rfl] at hp2
          have HP2 := Lib.hid hp2
          clear hp2
          go_wp2_with fail
          go_roundw
          case rel => exact ⟨k + 1, out, by omega, by go_num, hown, HP2.out, hol, hg⟩
          case measure => simp [intOf]; omega
        · have h35b : ((s[0].toNat : Int) == 35) = false := by simpa using h35
          rw [sW hpos h35, if_neg (by decide), uB] at hp2
          have hbad := line_bad (s := s) out
          have hgood := line_good (s := s)
          have CL := Lib.hid (line2_any s wr (by omega))
          simp only at hp2
          obtain ⟨q, hq⟩ := exq (bO0 s)
          rw [← hq] at hp2 hbad hgood
          clear hq
          obtain ⟨⟨⟨ln, lk⟩, lo⟩, hV⟩ : ∃ V, V = lL0 s := ⟨_, rfl⟩
          rw [← hV] at CL hbad hgood
          clear hV
          simp only at CL hbad hgood
          cases lo
          · rw [hbad rfl, if_pos (by decide)] at hp2
            have HP2 := Lib.hid hp2
            clear hp2 hbad hgood
            go_wp2_with fail
            refine CL.out.mono ?_
            rintro e w3 ⟨rfl, hg3⟩
            clear CL
            go_wp2_with fail
            go_ret3
            rw [HP2.out]
            exact ⟨_, rfl, aO.nil _ _ _ _ _, (hg2.tr (hg.tr hg3)).al _⟩
          · obtain ⟨hq, hk0, hnm⟩ := hgood rfl
            subst hq
            have hlk : (ln.toList == [66, 79, 83]) = true ∨ True := Or.inr trivial
            by_cases hA : out = [] ∧ lK ⟨ln, lk⟩ = false
            · obtain ⟨rfl, hbs⟩ := hA
              have hp3 : R = ([], (k : Int) + 1, 5) := by
                have h5 : eE [] (⟨ln, lk⟩ : bT) = 5 := by
                  unfold eE
                  exact if_pos (Or.inr (Or.inr ⟨rfl, hbs⟩))
                rw [h5, if_pos (by decide)] at hp2
                exact hp2
              have HP2 := Lib.hid hp3
              have hbs2 : ln.toList = [66, 79, 83] → ¬ lk = 0 := fun h1 h2 => by
                rw [show lK ⟨ln, lk⟩ = true by simp [lK, seq, h1, h2, bos, Lib.toList_data]] at hbs
                cases hbs
              clear hp2 hp3 hbs hbad hgood
              by_cases hn : ln.toList = [66, 79, 83]
              · have hk3 := hbs2 hn
                have hk4 : (lk == 0) = false := by simpa using hk3
                go_wp2_with fail
                refine CL.out.mono ?_
                rintro e w3 ⟨rfl, hg3⟩
                have T3 := TB.alloc w3 #[.string ln, .int .i64 lk] 116
                have c1 := T3.cell (o := 0) rfl
                have c2 := T3.cell (o := 1) rfl
                have g3 := hg3.al (.cells #[.string ln, .int .i64 lk] 116)
                clear CL
                go_wp2_with fail
                go_ret3
                rw [HP2.out]
                exact ⟨_, rfl, aO.nil _ _ _ _ _, hg2.tr (hg.tr g3)⟩
              · have hn4 : (ln.toList == [66, 79, 83]) = false := by simpa using hn
                go_wp2_with fail
                refine CL.out.mono ?_
                rintro e w3 ⟨rfl, hg3⟩
                have T3 := TB.alloc w3 #[.string ln, .int .i64 lk] 116
                have c1 := T3.cell (o := 0) rfl
                have c2 := T3.cell (o := 1) rfl
                have g3 := hg3.al (.cells #[.string ln, .int .i64 lk] 116)
                clear CL
                go_wp2_with fail
                go_ret3
                rw [HP2.out]
                exact ⟨_, rfl, aO.nil _ _ _ _ _, hg2.tr (hg.tr g3)⟩
            · clear hlk
              by_cases ho : out = []
              · subst ho
                obtain ⟨hn, hk3⟩ : ln.toList = [66, 79, 83] ∧ lk = 0 := by
                  have : lK ⟨ln, lk⟩ = true := by
                    cases hb : lK ⟨ln, lk⟩
                    · exact absurd ⟨rfl, hb⟩ hA
                    · rfl
                  simpa [lK, seq, bos, Lib.toList_data] using this
                subst hk3
                have h5 : eE [] (⟨ln, 0⟩ : bT) = 0 := by
                  unfold eE
                  rw [if_neg (by rintro (h | h | h); exact hk0 h; rw [hnm] at h; cases h; exact hA h), if_neg (by rw [show posFind [] (⟨ln, 0⟩ : bT).name = none from rfl]; decide), if_neg (by decide)]
                rw [h5, if_neg (by decide)] at hp2
                have HP2 := Lib.hid hp2
                have hnb : (ln.toList == [66, 79, 83]) = true := by simpa using hn
                have CF := fun W h => Lib.hid (oF [] ln a8 c8 W (Nat.zero_le _) h)
                have hpn : posFind [] ln = none := rfl
                rw [hpn] at CF
                clear hp2 h5 hA hk0 hnm hbad hgood hpn
                go_wp2_with fail
                refine CL.out.mono ?_
                rintro e w3 ⟨rfl, hg3⟩
                have T3 := TB.alloc w3 #[.string ln, .int .i64 0] 116
                have c1 := T3.cell (o := 0) rfl
                have c2 := T3.cell (o := 1) rfl
                have g3 := hg3.al (.cells #[.string ln, .int .i64 0] 116)
                clear CL
                go_wp2_with fail
                refine (CF _ (hat.grows g3)).out.mono ?_
                rintro e w4 ⟨rfl, rfl⟩
                clear CF
                go_wp2_with (at_builtin; refine dQ rposLay rfl _ _ rfl w2.heap.size _ _ ⟨ln, 0⟩ rfl hown g3 (w3.heap.size + 1) 1 (by simp) #[.string ln, .int .i64 0] rfl rfl (by decide) hg.size ?_; intro v' w5 hown' hg4)
                have hg24 := hg4 w2 hg (Nat.le_refl _)
                go_wp2_with fail
                go_roundw
                case rel => exact ⟨k + 1, [(⟨ln, 0⟩ : bT)], by omega, by go_num, hown', HP2.out, by simp, hg24⟩
                case measure => simp [intOf]; omega
              · have hlb : ((out.length : Int) == 0) = false := by
                  rw [beq_eq_false_iff_ne]
                  intro e
                  exact ho (List.length_eq_zero_iff.1 (by omega))
                have hnz : ln.size ≤ 16 := (lU0 hnm).2.1
                have CF := fun W h => Lib.hid (oF out ln a8 c8 W (by omega) h)
                obtain ⟨fi, hfi⟩ := exq (findI (posFind out ln))
                obtain ⟨tw, htw⟩ := exq ((posFind out ln).isSome)
                rw [← hfi, ← htw] at CF
                clear hfi
                have hx5 : ¬ (lk < 0 ∨ iI ln = false ∨ (out = [] ∧ lK ⟨ln, lk⟩ = false)) := by
                  rintro (h | h | h)
                  · exact hk0 h
                  · rw [hnm] at h; cases h
                  · exact hA h
                unfold eE at hp2
                simp only at hp2
                rw [if_neg hx5, ← htw] at hp2
                cases tw
                · simp only [Bool.false_eq_true, if_false] at hp2
                  by_cases h64 : out.length = 64
                  · rw [if_pos h64, if_pos (by decide)] at hp2
                    have HP2 := Lib.hid hp2
                    have h64b : ((out.length : Int) == 64) = true := by rw [h64]; rfl
                    clear hp2 hx5 htw hnm hA ho hk0 hbad hgood hnz h64
                    go_wp2_with fail
                    refine CL.out.mono ?_
                    rintro e w3 ⟨rfl, hg3⟩
                    have T3 := TB.alloc w3 #[.string ln, .int .i64 lk] 116
                    have c1 := T3.cell (o := 0) rfl
                    have c2 := T3.cell (o := 1) rfl
                    have g3 := hg3.al (.cells #[.string ln, .int .i64 lk] 116)
                    clear CL
                    go_wp2_with fail
                    refine (CF _ (hat.grows g3)).out.mono ?_
                    rintro e w4 ⟨rfl, rfl⟩
                    clear CF
                    go_wp2_with fail
                    go_ret3
                    rw [HP2.out]
                    exact ⟨_, rfl, aO.nil _ _ _ _ _, hg2.tr (hg.tr g3)⟩
                  · rw [if_neg h64, if_neg (by decide)] at hp2
                    have HP2 := Lib.hid hp2
                    have h64b : ((out.length : Int) == 64) = false := by rw [beq_eq_false_iff_ne]; omega
                    clear hp2 hx5 htw hnm hA ho hk0 hbad hgood hnz
                    go_wp2_with fail
                    refine CL.out.mono ?_
                    rintro e w3 ⟨rfl, hg3⟩
                    have T3 := TB.alloc w3 #[.string ln, .int .i64 lk] 116
                    have c1 := T3.cell (o := 0) rfl
                    have c2 := T3.cell (o := 1) rfl
                    have g3 := hg3.al (.cells #[.string ln, .int .i64 lk] 116)
                    clear CL
                    go_wp2_with fail
                    refine (CF _ (hat.grows g3)).out.mono ?_
                    rintro e w4 ⟨rfl, rfl⟩
                    clear CF
                    go_wp2_with (at_builtin; refine dQ rposLay rfl _ _ rfl w2.heap.size _ _ ⟨ln, lk⟩ rfl hown g3 (w3.heap.size + 1) 1 (by simp) #[.string ln, .int .i64 lk] rfl rfl (by omega) hg.size ?_; intro v' w5 hown' hg4)
                    have hg24 := hg4 w2 hg (Nat.le_refl _)
                    go_wp2_with fail
                    go_roundw
                    case rel => exact ⟨k + 1, out ++ [(⟨ln, lk⟩ : bT)], by omega, by go_num, hown', HP2.out, by simp; omega, hg24⟩
                    case measure => simp [intOf]; omega
                · rw [if_pos rfl, if_pos (by decide)] at hp2
                  have HP2 := Lib.hid hp2
                  clear hp2 hx5 htw hnm hA ho hk0 hbad hgood hnz
                  go_wp2_with fail
                  refine CL.out.mono ?_
                  rintro e w3 ⟨rfl, hg3⟩
                  have T3 := TB.alloc w3 #[.string ln, .int .i64 lk] 116
                  have c1 := T3.cell (o := 0) rfl
                  have c2 := T3.cell (o := 1) rfl
                  have g3 := hg3.al (.cells #[.string ln, .int .i64 lk] 116)
                  clear CL
                  go_wp2_with fail
                  refine (CF _ (hat.grows g3)).out.mono ?_
                  rintro e w4 ⟨rfl, rfl⟩
                  clear CF
                  go_wp2_with fail
                  go_ret3
                  rw [HP2.out]
                  exact ⟨_, rfl, aO.nil _ _ _ _ _, hg2.tr (hg.tr g3)⟩
    · obtain rfl : k = ls.length := by omega
      have hp2 := hpar.out
      rw [List.drop_length] at hp2
      have hp3 : R = if out = [] then ([], 0, 5) else (out, 0, 0) := hp2
      have hgw := hg2.tr hg
      clear hp2 hpar
      by_cases ho : out = []
      · rw [if_pos ho] at hp3
        have hlb : ((out.length : Int) == 0) = true := by rw [ho]; rfl
        subst hp3
        clear HR ho
        go_wp2_with fail
        go_ret3
        exact ⟨_, rfl, aO.nil _ _ _ _ _, hgw⟩
      · rw [if_neg ho] at hp3
        have hlb : ((out.length : Int) == 0) = false := by
          rw [beq_eq_false_iff_ne]
          intro e
          exact ho (List.length_eq_zero_iff.1 (by omega))
        subst hp3
        clear HR ho
        go_wp2_with fail
        go_ret3
        exact ⟨_, rfl, hown.base hg2.size, hgw⟩
end Go.Proofs.YtiopheoljccmpaaGreatDoor
namespace Go.Proofs.YtiopheoljccmpaaGreatDoor
open Go Go.RowKit Go.Shelf
attribute [local go_sem] aM aP

set_option maxHeartbeats 8000000 in
set_option maxRecDepth 100000 in
theorem rcompile_any (t1 t2 t3 : ByteArray) (w : World) (hs1 : t1.size ≤ 20000) (_hs2 : t2.size ≤ 20000) (hs3 : t3.size ≤ 20000) :
    Calls Tryz.prog 5 #[.string t1, .string t2, .string t3] w (yD (jK1 t1 t2 t3) w) := by
  have T0 := TB.alloc w #[.int .i64 0, .int .i64 0] 30
  have g0 := aB.alloc w (.cells #[.int .i64 0, .int .i64 0] 30)
  have CP := Lib.hid (rppos_any t1 (w.alloc (.cells #[.int .i64 0, .int .i64 0] 30)) (by omega))
  unfold RPosPost at CP
  have hf := qB0 t1
  unfold jK1
  rcases hp : iZ t1 with ⟨L, n, e⟩
  rw [hp] at hf CP
  simp only at hf CP ⊢
  clear hp
  by_cases h0 : e ≠ 0
  · rw [if_pos h0]
    have eb : (e != 0) = true := by simpa using h0
    clear hf h0
    go_enter Tryz.func5, Tryz.ntmps5
    go_wp2_with fail
    refine CP.out.mono ?_
    rintro en w1 ⟨v, rfl, ho, hg⟩
    have T1 := T0.gr (hg)
    have c0 := T1.cell (o := 0) rfl
    have c1 := T1.cell (o := 1) rfl
    have f0 := T1.froz 0
    have f1 := T1.froz 1
    have T2 := (T1.set 0 (.int .i64 1)).set 1 (.int .i64 n)
    have d0 := T2.cell (o := 0) rfl
    have d1 := T2.cell (o := 1) rfl
    have hgf := ((g0.tr (hg)).set (p := ⟨w.heap.size, 0, none⟩) (Nat.le_refl _) (.int .i64 1)).set (p := ⟨w.heap.size, 1, none⟩) (Nat.le_refl _) (.int .i64 n)
    clear T0 T1 T2
    clear CP ho
    go_wp2_with fail
    refine bodyPost_ret (v := .tuple #[.slice none 0 0, .agg #[.int .i64 1, .int .i64 n], .int .i64 e]) (by simp [results, Tryz.results5, go_sem, d0, d1]) rfl ?_
    exact ⟨_, rfl, aO.nil _ _ _ _ _, hgf⟩
  · rw [if_neg h0]
    obtain rfl : e = 0 := Classical.not_not.1 h0
    clear h0
    obtain ⟨hf1, hf2⟩ := hf
    have hpm := zP0 (text := t2) (p := L)
    have C2 := fun (a : Option Addr) (c : Nat) (W : World) (h : aF W a 2 (L.map bI)) => Lib.hid (rparse_any t2 L a c W (by omega) (fun x hx => by have := hf2 x hx; omega) h)
    unfold kC1 at C2
    rcases hm : xN t2 L with ⟨mo, n2, e2⟩
    rw [hm] at hpm C2
    simp only at hpm C2 ⊢
    clear hm
    by_cases h2 : e2 ≠ 0
    · rw [if_pos h2]
      have eb : (e2 != 0) = true := by simpa using h2
      clear hf1 hf2 h2 hpm
      go_enter Tryz.func5, Tryz.ntmps5
      go_wp2_with fail
      refine CP.out.mono ?_
      rintro en w1 ⟨v1, rfl, ho1, hg1⟩
      obtain ⟨a1, c1, rfl, _, _, hat1⟩ := ho1.at_ rposLay.len
      clear CP ho1
      go_wp2_with fail
      refine (C2 a1 c1 w1 hat1).out.mono ?_
      rintro en w2 ⟨v2, rfl, _, _, hg2⟩
      have T1 := T0.gr (hg1.tr hg2)
      have c0 := T1.cell (o := 0) rfl
      have c1 := T1.cell (o := 1) rfl
      have f0 := T1.froz 0
      have f1 := T1.froz 1
      have T2 := (T1.set 0 (.int .i64 2)).set 1 (.int .i64 n2)
      have d0 := T2.cell (o := 0) rfl
      have d1 := T2.cell (o := 1) rfl
      have hgf := ((g0.tr (hg1.tr hg2)).set (p := ⟨w.heap.size, 0, none⟩) (Nat.le_refl _) (.int .i64 2)).set (p := ⟨w.heap.size, 1, none⟩) (Nat.le_refl _) (.int .i64 n2)
      clear T0 T1 T2
      clear C2 hat1
      go_wp2_with fail
      refine bodyPost_ret (v := .tuple #[.slice none 0 0, .agg #[.int .i64 2, .int .i64 n2], .int .i64 e2]) (by simp [results, Tryz.results5, go_sem, d0, d1]) rfl ?_
      exact ⟨_, rfl, aO.nil _ _ _ _ _, hgf⟩
    · rw [if_neg h2]
      obtain rfl : e2 = 0 := Classical.not_not.1 h2
      obtain ⟨m, rfl⟩ := hpm rfl
      clear h2 hpm
      have C3 := fun (a : Option Addr) (c : Nat) (W : World) (h : aF W a 2 (L.map bI)) => Lib.hid (parse2_any t3 L a c W (by omega) (by omega) (fun x hx => by have := hf2 x hx; omega) h)
      unfold fM0 at C3
      have hps := kZ0 (text := t3) (L := L) (by omega) hf1
      have hq1 := parseS_sum t3 L (fun x => x.r.size) fun s => (oD0 s L).1
      have hq2 := parseS_sum t3 L (fun x => x.s.size) fun s => (oD0 s L).2
      rcases hx : eK t3 L with ⟨xs, n3, e3⟩
      rw [hx] at hps C3 hq1 hq2
      simp only at hps C3 hq1 hq2 ⊢
      clear hx
      by_cases h3 : e3 ≠ 0
      · rw [if_pos h3]
        have eb : (e3 != 0) = true := by simpa using h3
        clear hf1 hf2 h3 hps hq1 hq2
        go_enter Tryz.func5, Tryz.ntmps5
        go_wp2_with fail
        refine CP.out.mono ?_
        rintro en w1 ⟨v1, rfl, ho1, hg1⟩
        obtain ⟨a1, c1, rfl, _, _, hat1⟩ := ho1.at_ rposLay.len
        clear CP ho1
        go_wp2_with fail
        refine (C2 a1 c1 w1 hat1).out.mono ?_
        rintro en w2 ⟨v2, rfl, _, _, hg2⟩
        have hat2 := hat1.grows hg2
        clear C2 hat1
        go_wp2_with fail
        refine (C3 a1 c1 w2 hat2).out.mono ?_
        rintro en w3 ⟨v3, rfl, ho3, hg3⟩
        have T1 := T0.gr ((hg1.tr hg2).tr hg3)
        have c0 := T1.cell (o := 0) rfl
        have c1 := T1.cell (o := 1) rfl
        have f0 := T1.froz 0
        have f1 := T1.froz 1
        have T2 := (T1.set 0 (.int .i64 3)).set 1 (.int .i64 n3)
        have d0 := T2.cell (o := 0) rfl
        have d1 := T2.cell (o := 1) rfl
        have hgf := ((g0.tr ((hg1.tr hg2).tr hg3)).set (p := ⟨w.heap.size, 0, none⟩) (Nat.le_refl _) (.int .i64 3)).set (p := ⟨w.heap.size, 1, none⟩) (Nat.le_refl _) (.int .i64 n3)
        clear T0 T1 T2
        clear C3 hat2 ho3
        go_wp2_with fail
        refine bodyPost_ret (v := .tuple #[.slice none 0 0, .agg #[.int .i64 3, .int .i64 n3], .int .i64 e3]) (by simp [results, Tryz.results5, go_sem, d0, d1]) rfl ?_
        exact ⟨_, rfl, aO.nil _ _ _ _ _, hgf⟩
      · rw [if_neg h3]
        obtain rfl : e3 = 0 := Classical.not_not.1 h3
        clear h3
        have CB := fun (mv : Value) (a b : Option Addr) (c d : Nat) (W : World) (hpt : aF W a 2 (L.map bI)) (hm : iS1 W mv (some m)) (hat : aF W b 5 (xs.map bE)) => Lib.hid (rbuild_gen L mv (some m) xs a b c d W (by omega) (fun x hx => by have := hf2 x hx; omega) hps.2 (fun m' e ho hz => smallC (by cases e; exact ho) (by omega) (by omega) (by cases e; exact hz)) (fun x hx => by have := hps.1 x hx; omega) hpt hm hat)
        unfold cF at CB
        obtain ⟨E, hE⟩ : ∃ E, (jS L (some m) xs).1 = E := ⟨_, rfl⟩
        obtain ⟨D, hD⟩ : ∃ D, (jS L (some m) xs).2 = D := ⟨_, rfl⟩
        rw [hE, hD] at CB
        rw [show jS L (some m) xs = (E, D) from Prod.ext hE hD]
        show Calls _ _ _ _ (yD ((0, 0), E, D) w)
        clear hE hD hf1 hf2 hps hq1 hq2
        go_enter Tryz.func5, Tryz.ntmps5
        go_wp2_with fail
        refine CP.out.mono ?_
        rintro en w1 ⟨v1, rfl, ho1, hg1⟩
        obtain ⟨a1, c1, rfl, _, _, hat1⟩ := ho1.at_ rposLay.len
        clear CP ho1
        go_wp2_with fail
        refine (C2 a1 c1 w1 hat1).out.mono ?_
        rintro en w2 ⟨v2, rfl, _, hm, hg2⟩
        have hm := hm m rfl
        have hat2 := hat1.grows hg2
        clear C2 hat1
        go_wp2_with fail
        refine (C3 a1 c1 w2 hat2).out.mono ?_
        rintro en w3 ⟨v3, rfl, ho3, hg3⟩
        obtain ⟨a3, c3, rfl, _, _, hat3⟩ := uD gM ho3
        obtain ⟨rb, rfl, _, hr⟩ := hm
        have hr3 := hr.grows hg3
        have hat4 := hat2.grows hg3
        have hg := (hg1.tr hg2).tr hg3
        clear C3 hat2 ho3 hr
        go_wp2_with fail
        refine (CB (.pointer (some ⟨rb, 0, none⟩)) a1 a3 c1 c3 w3 hat4 ⟨rb, rfl, hr3⟩ hat3).out.mono ?_
        rintro en w4 ⟨hg4, v4, rfl, hv4⟩
        have T1 := T0.gr (hg.tr hg4)
        have c0 := T1.cell (o := 0) rfl
        have c1 := T1.cell (o := 1) rfl
        have f0 := T1.froz 0
        have f1 := T1.froz 1
        have T2 := (T1.set 0 (.int .i64 0)).set 1 (.int .i64 0)
        have d0 := T2.cell (o := 0) rfl
        have d1 := T2.cell (o := 1) rfl
        have hgf := ((g0.tr (hg.tr hg4)).set (p := ⟨w.heap.size, 0, none⟩) (Nat.le_refl _) (.int .i64 0)).set (p := ⟨w.heap.size, 1, none⟩) (Nat.le_refl _) (.int .i64 0)
        have hv5 := aK (aK hv4 (aU w4 w.heap.size 0 (.int .i64 0)) T1.rt (by decide)) (aU _ w.heap.size 1 (.int .i64 0)) (T1.set 0 (.int .i64 0)).rt (by decide)
        have hb := (g0.tr hg).size
        clear CB T0 T1 T2 hat4 hr3 hat3 hv4
        go_wp2_with fail
        refine bodyPost_ret (v := .tuple #[v4, .agg #[.int .i64 0, .int .i64 0], .int .i64 E]) (by simp [results, Tryz.results5, go_sem, d0, d1]) rfl ?_
        exact ⟨_, rfl, hv5.base hb, hgf⟩
end Go.Proofs.YtiopheoljccmpaaGreatDoor
namespace Go.Proofs.YtiopheoljccmpaaGreatDoor
open Go Go.RowKit Go.Shelf
attribute [local go_sem] aM aP

/-- 'string(b)'. -/
theorem conv_owns {w : World} {base : Nat} {v : Value} {l : List UInt8} (h : aO w base 5 1 aQ v l) : (convert 24 9 v).run Tryz.prog w = .ok (.string (mkB l)) w := by
  rcases h.2 with ⟨rfl, h0⟩ | ⟨g, cap, cur, rfl, hb, hh, hn, hc, hs, ht⟩
  · obtain rfl : l = [] := List.eq_nil_of_length_eq_zero h0
    exact Lib.run_convert_nil_bytes w _ _ 5 0 Tryz.underlying24 Tryz.underlying5 Tryz.underlying9
  · have hz : (mkB l).size = l.length := by rw [Lib.size_eq, mU]
    have hB : Lib.Bytes w g 0 (mkB l) := fun i hi => by
      rw [hz] at hi
      have hf := yB (enc := aQ) (k := 1) (fun _ => rfl) l i 0 l[i] (.int .u8 l[i].toNat) (List.getElem?_eq_getElem hi) rfl
      rw [← ht, List.getElem?_take] at hf
      split at hf
      · unfold World.cell?
        simp only [hh, Option.isSome_none, Bool.false_eq_true, if_false]
        rw [Nat.zero_add]
        have hg : (mkB l)[i]'(by rw [hz]; exact hi) = l[i] := rfl
        rw [hg]
        simpa using hf
      · cases hf
    have := Lib.run_convert_whole (P := Tryz.prog) w 24 5 9 Tryz.underlying24 Tryz.underlying5 Tryz.underlying9 g 0 (mkB l) hB cap
    rw [hz] at this
    exact this
set_option maxHeartbeats 16000000 in
set_option maxRecDepth 100000 in
theorem compiles18_any (x : TxV) (w : World) (he : pA0 w) :
    Calls Tryz.prog 3 #[x.agg] w fun e w' => e = .returned (.bool true) ∧ aB w w' := by
  have HE := Lib.hid he
  have CW := fun u (hu : aB w u) => Lib.hid (works18_any u (HE.out.env.grows hu))
  obtain ⟨t1, t2, t3⟩ := x
  show Calls _ _ #[.agg #[.string t1, .string t2, .string t3]] _ _
  obtain ⟨W0, hW0⟩ := exq (w.alloc (.cells #[.string t1, .string t2, .string t3] 23))
  have hg0 : aB w W0 := by rw [hW0]; exact aB.alloc _ _
  have hbx := fun j u h => aX w #[.string t1, .string t2, .string t3] 23 (0, 0) j u h
  rw [← hW0] at hbx
  have q0 := hbx 0 _ rfl
  have q1 := hbx 1 _ rfl
  have q2 := hbx 2 _ rfl
  clear hbx he
  by_cases h1 : 20000 < t1.size
  · have g1 : (20000 : Int) < t1.size := by omega
    go_enter Tryz.func3, Tryz.ntmps3
    go_wp2_with fail
    go_ret
    exact ⟨rfl, aB.alloc _ _⟩
  have g1 : (t1.size : Int) ≤ 20000 := by omega
  by_cases h2 : 20000 < t2.size
  · have g2 : (20000 : Int) < t2.size := by omega
    go_enter Tryz.func3, Tryz.ntmps3
    go_wp2_with fail
    go_ret
    exact ⟨rfl, aB.alloc _ _⟩
  have g2 : (t2.size : Int) ≤ 20000 := by omega
  by_cases h3 : 20000 < t3.size
  · have g3 : (20000 : Int) < t3.size := by omega
    go_enter Tryz.func3, Tryz.ntmps3
    go_wp2_with fail
    go_ret
    exact ⟨rfl, aB.alloc _ _⟩
  have g3 : (t3.size : Int) ≤ 20000 := by omega
  have CP := fun u (hu : aB w u) => Lib.hid (pcompile_any t1 t2 t3 u (HE.out.grows hu) (by omega) (by omega) (by omega))
  have CR := fun u => Lib.hid (rcompile_any t1 t2 t3 u (by omega) (by omega) (by omega))
  unfold yD at CP CR
  generalize jK1 t1 t2 t3 = R at CP CR
  obtain ⟨⟨fi, li⟩, er, D⟩ := R
  simp only at CP CR
  clear h1 h2 h3
  go_enter Tryz.func3, Tryz.ntmps3
  go_wp2_with fail
  rw [← hW0]
  clear hW0
  refine (CP _ hg0).out.mono ?_
  rintro e w1 ⟨v1, rfl, hv1, hg1⟩
  obtain ⟨W2, hW2⟩ := exq (w1.alloc (.cells #[.int .i64 fi, .int .i64 li] 26))
  have T2 : TB W2 w1.heap.size #[.int .i64 fi, .int .i64 li] 26 := by rw [hW2]; exact TB.alloc _ _ _
  have ga : aB w1 W2 := by rw [hW2]; exact aB.alloc _ _
  have x2 := (hg0.tr hg1).tr ga
  have p0 := ga.cell (hg1.cell q0)
  have p1 := ga.cell (hg1.cell q1)
  have p2 := ga.cell (hg1.cell q2)
  have hv2 := hv1.grows ga
  rw [hW2] at p0 p1 p2
  clear CP q0 q1 q2 hv1
  go_wp2_with fail
  rw [← hW2]
  clear p0 p1 p2 hW2
  refine (CR W2).out.mono ?_
  rintro e w3 ⟨v3, rfl, hv3, hg3⟩
  have x3 := x2.tr hg3
  have T3 := T2.gr hg3
  obtain ⟨W4, hW4⟩ := exq (w3.alloc (.cells #[.int .i64 fi, .int .i64 li] 30))
  have T4 : TB W4 w3.heap.size #[.int .i64 fi, .int .i64 li] 30 := by rw [hW4]; exact TB.alloc _ _ _
  have gb : aB w3 W4 := by rw [hW4]; exact aB.alloc _ _
  have x4 := x3.tr gb
  have T5 := T3.gr gb
  have cv1 := conv_owns ((hv2.grows hg3).grows gb)
  have cv3 := conv_owns (hv3.grows gb)
  have a0 := T5.cell (o := 0) rfl
  have a1 := T5.cell (o := 1) rfl
  have b0 := T4.cell (o := 0) rfl
  have b1 := T4.cell (o := 1) rfl
  clear CR hv2 hv3 T2 T3
  rw [hW4] at cv1 cv3 a0 a1 b0 b1
  go_wp2_with fail
  rw [← hW4]
  clear cv1 cv3 a0 a1 b0 b1 hW4
  refine (CW _ x4).out.mono ?_
  rintro e w9 ⟨rfl, hg9⟩
  go_wp2_with fail
  go_ret
  exact ⟨rfl, x4.tr hg9⟩
end Go.Proofs.YtiopheoljccmpaaGreatDoor
