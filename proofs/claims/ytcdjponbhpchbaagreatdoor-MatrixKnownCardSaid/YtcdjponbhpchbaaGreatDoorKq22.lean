/- The texts Par16 MatrixKnownL, one behind the other. -/
import Derived.Test.YtcdjponbhpchbaaGreatDoorKq21
import Derived.Test.YtcdjponbhpchbaaGreatDoorKq5
import Derived.Test.YtcdjponbhpchbaaGreatDoorKq3
namespace Go.Proofs.YtcdjponbhpchbaaGreatDoor
open Go Go.RowKit Go.Shelf
attribute [local go_sem] quietE quietE2

/-- Parse hands back what the text says. -/
def PParP (r : Option Mx × Int × Int) (w : World) (e : Ending) (w' : World) : Prop :=
  ∃ v, e = .returned (.tuple #[v, .int .i64 r.2.1, .int .i64 r.2.2]) ∧ (r.1 = none → v = .pointer none) ∧ (∀ m, r.1 = some m → ∃ mb bm, v = .pointer (some ⟨mb, 0, none⟩) ∧ w.heap.size ≤ mb ∧ w.heap.size ≤ bm ∧ MatAt w' mb bm m) ∧ Grows w w'
theorem PParP.err {w w' : World} {a b : Int} (h : Grows w w') : PParP (none, a, b) w (.returned (.tuple #[.pointer none, .int .i64 a, .int .i64 b])) w' := ⟨_, rfl, fun _ => rfl, fun _ h => (by cases h), h⟩
/-- A line, whatever its state. -/
theorem pline_any {w : World} {B b3 b7 b8 bs N : Nat} {p : List PosV} {pa : Option Addr} {pc : Nat} (st : ParSt) (hst : PSt w B b7 b8 bs N st) (hB : B ≤ w.heap.size) (hN : N ≤ 2097152) (hpl : 1 ≤ p.length ∧ p.length ≤ 64) (hok : StOK p st) (c3 : w.cell? ⟨b3, 0, none⟩ = some (.slice pa p.length pc)) (hp : AtCells w pa 2 (p.map posCells))
    (f : List ByteArray) (fa : Option Addr) (fc : Nat) (hf : AtCells w fa 1 (f.map strC)) (hfl : f.length ≤ 1048577) (hf1 : 1 ≤ f.length) (hfs : ∀ x ∈ f, x.size ≤ 1048577) :
    Calls Tryz.prog 22 #[.slice fa f.length fc, .pointer (some ⟨b7, 0, none⟩), .pointer (some ⟨b3, 0, none⟩), .pointer (some ⟨b8, 0, none⟩)] w (PLinePost p st f B b7 b8 bs N w) := by
  cases st with
  | none =>
    by_cases h : f.length = 2
    · match f, h with
      | [a, b], _ => exact pline_def hst hB hpl c3 a b fa fc hf (hfs b (by simp))
    · exact pline_len none hst hB f fa fc hf hfl hf1 hfs (Or.inl ⟨rfl, h⟩)
  | some ms =>
    obtain ⟨m, seen⟩ := ms
    by_cases h : f.length = 3
    · match f, h with
      | [x, y, z], _ => exact pline_three m seen hst hB hN hpl (hok m seen rfl).2.1 c3 hp x y z fa fc hf (hfs z (by simp))
    · exact pline_len _ hst hB f fa fc hf hfl hf1 hfs (Or.inr ⟨by simp, h⟩)
theorem split_ne (c : UInt8) (s : ByteArray) : 1 ≤ (splitS c s).length := by
  rw [splitS_16, List.length_map]
  obtain ⟨x, r, hx⟩ := splitL_form c s.data.toList
  rw [hx]; simp
/-- The boxes at the start. -/
theorem pst_start (w1 : World) (B : Nat) (hB : B ≤ w1.heap.size) : PSt (((w1.alloc (.cells #[.pointer none] 23)).alloc (.map #[] 0)).alloc (.cells #[.map (some (w1.heap.size + 1))] 53)) B w1.heap.size (w1.heap.size + 1 + 1) (w1.heap.size + 1) 0 none := by
  have hg1 : Grows (w1.alloc (.cells #[.pointer none] 23)) (((w1.alloc (.cells #[.pointer none] 23)).alloc (.map #[] 0)).alloc (.cells #[.map (some (w1.heap.size + 1))] 53)) := (Grows.alloc _ _).al _
  have hb := box_cells hg1
  have c7 := hb.1 0 _ rfl
  have c8 := cell_box ((w1.alloc (.cells #[.pointer none] 23)).alloc (.map #[] 0)) #[.map (some (w1.heap.size + 1))] 53 (0, 0) 0 _ rfl
  have e1 : (w1.alloc (.cells #[.pointer none] 23)).heap.size = w1.heap.size + 1 := by simp
  have e2 : ((w1.alloc (.cells #[.pointer none] 23)).alloc (.map #[] 0)).heap.size = w1.heap.size + 1 + 1 := by simp
  rw [e2] at c8
  have hm := ((World.ownsMap_made (w1.alloc (.cells #[.pointer none] 23)) Tryz.prog 59 (plainElem (H := Unit) Tryz.prog 3)).alloc (.cells #[.map (some (w1.heap.size + 1))] 53))
  rw [e1] at hm
  exact ⟨hB, by omega, by omega, c8, ⟨_, c7⟩, hb.2 0, ⟨_, hm, SeenM.nil⟩, fun _ => c7, fun m seen h => (by cases h)⟩
set_option maxHeartbeats 8000000 in
set_option maxRecDepth 100000 in
theorem parse16_any (text : ByteArray) (p : List PosV) (pa : Option Addr) (pc : Nat) (w : World) (he : Env w) (hts : text.size < 9223372036854775807) (hpl : p.length ≤ 4611686018427387904) (hp : AtCells w pa 2 (p.map posCells)) :
    Calls Tryz.prog 6 #[.string text, .slice pa p.length pc] w (PParP (parM text p) w) := by
  have hmf : ∀ (fn : Fn) (first cap : Array Value) (w : World), (Instr.makeFunc fn first cap).run Tryz.prog w = .ok (.func fn first cap) w := fun _ _ _ _ => rfl
  have hmm := @run_makeMap Tryz.prog
  have CC := fun W (hW : Grows w W) => Lib.hid (check_any p pa pc W (hp.grows hW) hpl)
  have HP := Lib.hid hp
  have HE := Lib.hid he
  clear hp he
  by_cases hbig : 1048576 < text.size
  · have hr : parM text p = (none, 0, 2) := by unfold parM; rw [if_pos hbig]
    have g : (1048576 : Int) < text.size := by omega
    rw [hr]
    clear hr CC
    go_enter Tryz.func6, Tryz.ntmps6
    go_wp2
    go_ret3
    exact PParP.err (Grows.alloc _ _)
  · have g : ¬ (1048576 : Int) < text.size := by omega
    cases hv : posValid p
    · have hr : parM text p = (none, 0, 5) := by unfold parM; rw [if_neg hbig, hv]; rfl
      rw [hr]
      rw [hv] at CC
      clear hr hv
      go_enter Tryz.func6, Tryz.ntmps6
      go_wp2_with fail
      refine (CC _ (Grows.alloc _ _)).out.mono ?_
      rintro e w1 ⟨rfl, hg1⟩
      go_wp2
      go_ret3
      exact PParP.err ((Grows.alloc _ _).tr hg1)
    · have hr : parM text p = parMGo p (splitS 10 text) 0 none := by unfold parM; rw [if_neg hbig, hv]; rfl
      have hlen := posValid_len hv
      have hpl2 : (p.length : Int) ≤ 64 := by omega
      have CS := fun W (hW : Grows w W) => Lib.hid (split_any 10 text W (by omega) (HE.out.grows hW))
      have hsz : ∀ x ∈ splitS 10 text, x.size ≤ 1048576 := fun x hx => by have := splitS_size hx; omega
      have hll : (splitS 10 text).length ≤ 1048577 := by have := split_len 10 text; omega
      have hl1 := split_ne 10 text
      rw [hr]
      rw [hv, show chkI true = 0 from rfl] at CC
      have HSZ := Lib.hid hsz
      have HV := Lib.hid hv
      clear hr hsz hbig hv
      generalize splitS 10 text = ls at *
      obtain ⟨PR, hPR⟩ : ∃ r, r = parMGo p ls 0 none := ⟨_, rfl⟩
      rw [← hPR]
      have HPR := Lib.hid hPR
      clear hPR
      have hgb := Grows.alloc w (.cells #[.slice pa p.length pc] 22)
      have hc3 := cell_box w #[.slice pa p.length pc] 22 (0, 0) 0 _ rfl
      go_enter Tryz.func6, Tryz.ntmps6
      go_wp2_with fail
      refine (CC _ hgb).out.mono ?_
      rintro e w1 ⟨rfl, hg1⟩
      have d3 := hg1.cell hc3
      have hg01 := hgb.tr hg1
      clear hgb hc3 CC
      go_wp2_with fail
      have hs1 := hg1.size
      have hsz0 : w.heap.size < w1.heap.size := World.block_lt_of_cell? _ _ d3
      have hst0 := pst_start w1 w.heap.size (Nat.le_of_lt hsz0)
      have hgW : Grows w1 (((w1.alloc (.cells #[.pointer none] 23)).alloc (.map #[] 0)).alloc (.cells #[.map (some (w1.heap.size + 1))] 53)) := ((Grows.alloc _ _).al _).al _
      have hgW0 := hg01.tr hgW
      refine (CS _ hgW0).out.mono ?_
      rintro e w2 ⟨rfl, hls, hg2⟩
      have hst2 := Lib.hid (hst0.grows hg2)
      have d32 := (hgW.tr hg2).cell d3
      have hg02 := hgW0.tr hg2
      obtain ⟨la, hla⟩ : ∃ la, la = (((w1.alloc (.cells #[.pointer none] 23)).alloc (.map #[] 0)).alloc (.cells #[.map (some (w1.heap.size + 1))] 53)).heap.size := ⟨_, rfl⟩
      rw [← hla] at hls ⊢
      have hlb : w1.heap.size + 1 + 1 < la := by rw [hla]; simp
      have hlw : la < w2.heap.size := by
        have h1 := hl1
        obtain ⟨x, hx⟩ : ∃ x, ls[0]? = some x := ⟨_, List.getElem?_eq_getElem (by omega)⟩
        obtain ⟨lb, lo, e, hlc⟩ := hls.get (ne_nil_of_lt h1)
        cases e
        exact World.block_lt_of_cell? _ _ (hlc 0 x hx 0 _ rfl)
      have HLS := Lib.hid hls
      have HCS9 : Hid (∀ (x : ByteArray) W, x.size ≤ 1048576 → Grows w W → Calls Tryz.prog 25 #[.string x, .string ⟨#[9]⟩] W fun e w' => e = .returned (.slice (some ⟨W.heap.size, 0, none⟩) (splitS 9 x).length (splitS 9 x).length) ∧ AtCells w' (some ⟨W.heap.size, 0, none⟩) 1 ((splitS 9 x).map strC) ∧ Grows W w') := fun x W hx hW => split_any 9 x W (by omega) (HE.out.grows hW)
      obtain ⟨b7, hb7⟩ : ∃ b7, b7 = w1.heap.size := ⟨_, rfl⟩
      rw [← hb7] at hst2 hlb hsz0 ⊢
      clear hls hla hst0 hgW hgW0 hg2 hg01 hg1 d3 hs1 CS hb7
      go_wp2_with fail
      go_loopw [24] (fun i wr => ∃ (k N : Nat) (st : ParSt), k ≤ ls.length ∧ i = .int .i64 k ∧ N ≤ k ∧ Hid (PSt wr w.heap.size b7 (b7 + 1 + 1) (b7 + 1) N st) ∧ Hid (PR = parMGo p (ls.drop k) k st) ∧ Hid (StOK p st) ∧ Hid (CB b7 w2 wr) ∧ Grows w wr) (fun i _ => ls.length - (intOf i).toNat)
      case atStart => exact ⟨0, 0, none, Nat.zero_le _, rfl, Nat.le_refl _, hst2.out, HPR.out, fun m seen h => (by cases h), ⟨Nat.le_refl _, fun _ _ _ h => h⟩, hg02⟩
      case round =>
        obtain ⟨k, N, st, hk, rfl, hNk, hst, hpar, hok, hcb, hg⟩ := hrel
        have hwr := hcb.out.size
        by_cases hlt : k < ls.length
        · obtain ⟨x, hx⟩ : ∃ x, ls[k]? = some x := ⟨_, List.getElem?_eq_getElem hlt⟩
          have hxz := HSZ.out x (List.mem_of_getElem? hx)
          have hdrop : ls.drop k = x :: ls.drop (k + 1) := by
            rw [List.drop_eq_getElem_cons hlt]
            rw [List.getElem?_eq_getElem hlt] at hx
            rw [Option.some.inj hx]
          have hp2 := hpar.out
          rw [hdrop, parMGo_cons] at hp2
          have l0 : wr.cell? ⟨la, k, none⟩ = some (.string x) := by
            obtain ⟨lb, lo, e, hlc⟩ := HLS.out.get (ne_nil_of_lt hlt)
            cases e
            refine hcb.out.cell _ _ (by simp only; omega) ?_
            have := hlc k x hx 0 _ rfl
            simpa using this
          have d3 := hcb.out.cell _ _ (by simp only; omega) d32
          clear hdrop hx hpar
          by_cases hem : x.toList = []
          · rw [if_pos (skip_empty hem)] at hp2
            have HP2 := Lib.hid hp2
            have hem2 : (x.toList == []) = true := by simpa using hem
            clear hp2
            go_wp2_with fail
            go_roundw
            case rel => exact ⟨k + 1, N, st, hlt, by go_num, by omega, hst, HP2.out, hok, hcb, hg⟩
            case measure => simp [intOf]; omega
          · have h0 := nonempty_size hem
            have h0i : (0 : Int) < x.size := by omega
            by_cases h35 : (x[0].toNat : Int) = 35
            · rw [if_pos (skip_hash h0 h35)] at hp2
              have HP2 := Lib.hid hp2
              clear hp2
              go_wp2_with fail
              go_roundw
              case rel => exact ⟨k + 1, N, st, hlt, by go_num, by omega, hst, HP2.out, hok, hcb, hg⟩
              case measure => simp [intOf]; omega
            · have h35b : ((x[0].toNat : Int) == 35) = false := by rw [beq_eq_false_iff_ne]; exact h35
              have hemb : (x.toList == []) = false := by rw [beq_eq_false_iff_ne]; exact hem
              rw [skip_not h0 h35] at hp2
              simp only [Bool.false_eq_true, if_false] at hp2
              have HP2 := Lib.hid hp2
              have CS9 := Lib.hid (HCS9.out x wr hxz hg)
              have hfl := split_len 9 x
              have hf1 := split_ne 9 x
              have HFS : Hid (∀ y ∈ splitS 9 x, y.size ≤ 1048577) := fun y hy => by have := splitS_size hy; omega
              have HOK2 := Lib.hid (lineM_ok HV.out hok.out (splitS 9 x))
              obtain ⟨F, hF⟩ : ∃ F, F = splitS 9 x := ⟨_, rfl⟩
              rw [← hF] at HP2 CS9 HOK2 hfl hf1 HFS
              clear hp2 hF
              go_wp2_with fail
              refine CS9.out.mono ?_
              rintro e w4 ⟨rfl, hf, hg4⟩
              have hgr4 := hg.tr hg4
              have CL := Lib.hid (pline_any st (hst.out.grows hg4) hgr4.size (by omega) hlen hok.out (hg4.cell d3) (HP.out.grows hgr4) F _ F.length hf (by omega) hf1 HFS.out)
              unfold PLinePost at CL
              clear CS9 hf
              obtain ⟨E, hE⟩ : ∃ E, E = (lineM p st F).2 := ⟨_, rfl⟩
              rw [← hE] at CL HP2
              clear hE
              go_wp2_with fail
              refine CL.out.mono ?_
              rintro e w5 ⟨rfl, hst5, heb5, hcb5⟩
              have hg5 : Grows w w5 := EB.grows hgr4 heb5
              have hcb6 := Lib.hid ((hcb.out.tr hg4).trans hcb5)
              clear heb5 hcb5 CL
              by_cases hE : E = 0
              · subst hE
                have hp3 := HP2.out
                rw [if_pos rfl] at hp3
                have HP3 := Lib.hid hp3
                have HST5 := Lib.hid (hst5 rfl)
                clear hp3 HP2 hst5
                go_wp2_with fail
                go_roundw
                case rel => exact ⟨k + 1, N + 1, _, hlt, by go_num, by omega, HST5.out, HP3.out, HOK2.out, hcb6.out, hg5⟩
                case measure => simp [intOf]; omega
              · have hp3 := HP2.out
                rw [if_neg hE] at hp3
                subst hp3
                clear HP2 HPR hst5
                go_wp2_with fail
                go_ret3
                exact PParP.err hg5
        · obtain rfl : k = ls.length := by omega
          have hp2 := hpar.out
          rw [List.drop_length] at hp2
          cases st with
          | none =>
            have c7 := hst.out.no rfl
            have hfin : PR = (none, 0, 5) := hp2
            subst hfin
            clear hp2 hpar HPR
            go_wp2_with fail
            go_ret3
            exact PParP.err hg
          | some ms =>
            obtain ⟨m, seen⟩ := ms
            obtain ⟨mb, bm, c7, hm, hBm, hBb, _, _⟩ := hst.out.so m seen rfl
            have hfin : PR = (some m, 0, 0) := hp2
            subst hfin
            have HM := Lib.hid hm
            clear hp2 hpar HPR hm
            go_wp2_with fail
            go_ret3
            exact ⟨_, rfl, fun h => (by cases h), fun m' h => (by cases h; exact ⟨mb, bm, rfl, hBm, hBb, HM.out⟩), hg⟩
end Go.Proofs.YtcdjponbhpchbaaGreatDoor
namespace Go.Proofs.YtcdjponbhpchbaaGreatDoor
open Go Go.RowKit Go.Shelf
attribute [local go_sem] quietE quietE2

def k3M : Mx := ((newM 3 500).setIf (1, 1) 500).setIf (1, 2) 10
def k1T : ByteArray := ⟨#[100, 101, 102, 97, 117, 108, 116, 9, 53, 48, 48, 10, 110, 111, 117, 110, 9, 118, 101, 114, 98, 9, 49, 10]⟩
def k3T : ByteArray := ⟨#[35, 32, 99, 111, 115, 116, 115, 10, 10, 100, 101, 102, 97, 117, 108, 116, 9, 48, 48, 53, 48, 48, 10, 110, 111, 117, 110, 9, 110, 111, 117, 110, 9, 53, 48, 48, 10, 110, 111, 117, 110, 9, 112, 97, 114, 116, 105, 99, 108, 101, 9, 49, 48]⟩
def k4T : ByteArray := ⟨#[100, 101, 102, 97, 117, 108, 116, 9, 49, 10, 110, 111, 117, 110, 9, 110, 111, 117, 110, 9, 49, 10, 110, 111, 117, 110, 9, 110, 111, 117, 110, 9, 50, 10]⟩
set_option maxRecDepth 100000 in
theorem evk1 : parM k1T threeL = (none, 2, 150) := by kernel_rfl
set_option maxRecDepth 100000 in
theorem evk2 : parM ⟨#[]⟩ threeL = (none, 0, 5) := by kernel_rfl
set_option maxRecDepth 100000 in
theorem evk3 : parM k3T threeL = (some k3M, 0, 0) := by kernel_rfl
set_option maxRecDepth 100000 in
theorem evk4 : parM k4T threeL = (none, 3, 4) := by kernel_rfl
theorem evk3a : k3M.cost (1, 2) = 10 := by kernel_rfl
theorem evk3b : k3M.cost (1, 1) = 500 := by kernel_rfl
/-- A text that is refused. -/
theorem parse_bad {t : ByteArray} {a b : Int} (h : parM t threeL = (none, a, b)) (ht : t.size < 9223372036854775807) (pa : Option Addr) (w : World) (he : Env w) (hp : AtCells w pa 2 (threeL.map posCells)) :
    Calls Tryz.prog 6 #[.string t, .slice pa 3 3] w fun e w' => e = .returned (.tuple #[.pointer none, .int .i64 a, .int .i64 b]) ∧ Grows w w' := by
  have := parse16_any t threeL pa 3 w he ht (by decide) hp
  rw [h] at this
  refine this.mono fun e w' ⟨v, he, h0, _, hg⟩ => ?_
  rw [h0 rfl] at he
  exact ⟨he, hg⟩
theorem parse_good {t : ByteArray} {m : Mx} (h : parM t threeL = (some m, 0, 0)) (ht : t.size < 9223372036854775807) (pa : Option Addr) (w : World) (he : Env w) (hp : AtCells w pa 2 (threeL.map posCells)) :
    Calls Tryz.prog 6 #[.string t, .slice pa 3 3] w fun e w' => (∃ mb bm, e = .returned (.tuple #[.pointer (some ⟨mb, 0, none⟩), .int .i64 0, .int .i64 0]) ∧ MatAt w' mb bm m) ∧ Grows w w' := by
  have := parse16_any t threeL pa 3 w he ht (by decide) hp
  rw [h] at this
  refine this.mono fun e w' ⟨v, he, _, h1, hg⟩ => ?_
  obtain ⟨mb, bm, rfl, _, _, hm⟩ := h1 m rfl
  exact ⟨⟨mb, bm, he, hm⟩, hg⟩
set_option maxHeartbeats 1000000 in
theorem cost_nil (r l : Int) (w : World) : Calls Tryz.prog 12 #[.pointer none, .int .i64 r, .int .i64 l] w fun e w' => e = .returned (.int .i64 30000) ∧ w = w' := by
  go_enter Tryz.func12, Tryz.ntmps12
  go_wp2_with (go_at_call 33; refine (has_nil _ _).mono ?_; rintro e w1 ⟨rfl, rfl⟩)
  go_ret
  exact ⟨rfl, rfl⟩
set_option maxHeartbeats 1000000 in
theorem set_nil (r l c : Int) (w : World) : Calls Tryz.prog 14 #[.pointer none, .int .i64 r, .int .i64 l, .int .i64 c] w fun e w' => e = .returned (.int .i64 9) ∧ w = w' := by
  go_enter Tryz.func14, Tryz.ntmps14
  go_wp2_with fail
  go_ret
  exact ⟨rfl, rfl⟩
set_option maxHeartbeats 1000000 in
theorem copy_nil (w : World) : Calls Tryz.prog 15 #[.pointer none] w fun e w' => e = .returned (.pointer none) ∧ w = w' := by
  go_enter Tryz.func15, Tryz.ntmps15
  go_wp2_with fail
  go_ret
  exact ⟨rfl, rfl⟩
set_option maxHeartbeats 1000000 in
theorem encode_nil (w : World) : Calls Tryz.prog 16 #[.pointer none] w fun e w' => e = .returned (.slice none 0 0) ∧ w = w' := by
  go_enter Tryz.func16, Tryz.ntmps16
  go_wp2_with fail
  go_ret
  exact ⟨rfl, rfl⟩
set_option maxHeartbeats 4000000 in
set_option maxRecDepth 100000 in
theorem known16_any (w : World) (he : Env w) : Calls Tryz.prog 4 #[] w fun e w' => e = .returned (.bool true) ∧ Grows w w' := by
  have CB := fun {t : ByteArray} {a b : Int} (h : parM t threeL = (none, a, b)) (ht : t.size < 9223372036854775807) (pa : Option Addr) W (hW : Grows w W) hp => Lib.hid (parse_bad h ht pa W (he.grows hW) hp)
  have CG := fun {t : ByteArray} {m : Mx} (h : parM t threeL = (some m, 0, 0)) (ht : t.size < 9223372036854775807) (pa : Option Addr) W (hW : Grows w W) hp => Lib.hid (parse_good h ht pa W (he.grows hW) hp)
  have CW := fun W (hW : Grows w W) => Lib.hid (works16_any W (he.grows hW))
  clear he
  go_enter Tryz.func4, Tryz.ntmps4
  go_wp2_with fail
  refine (three_any w).mono ?_
  rintro e w1 ⟨rfl, hp1, hg1⟩
  go_wp2_with fail
  refine (CB evk1 (by decide) _ w1 hg1 hp1).out.mono ?_
  rintro e w2 ⟨rfl, hg2⟩
  replace hg2 := hg1.tr hg2
  clear hp1 hg1
  go_wp2_with fail
  refine (three_any w2).mono ?_
  rintro e w3 ⟨rfl, hp3, hg3⟩
  replace hg3 := hg2.tr hg3
  go_wp2_with fail
  refine (CB evk2 (by decide) _ w3 hg3 hp3).out.mono ?_
  rintro e w4 ⟨rfl, hg4⟩
  replace hg4 := hg3.tr hg4
  clear hp3 hg3 hg2
  go_wp2_with fail
  refine (three_any w4).mono ?_
  rintro e w5 ⟨rfl, hp5, hg5⟩
  replace hg5 := hg4.tr hg5
  go_wp2_with fail
  refine (CG evk3 (by decide) _ w5 hg5 hp5).out.mono ?_
  rintro e w6 ⟨⟨mb, bm, rfl, hm6⟩, hg6⟩
  replace hg6 := hg5.tr hg6
  clear hp5 hg5 hg4
  go_wp2_with fail
  refine (three_any w6).mono ?_
  rintro e w7 ⟨rfl, hp7, hg7⟩
  have hg67 := hg7
  replace hg7 := hg6.tr hg7
  go_wp2_with fail
  refine (CB evk4 (by decide) _ w7 hg7 hp7).out.mono ?_
  rintro e w8 ⟨rfl, hg8⟩
  have HM8 := Lib.hid (hm6.grows (hg67.tr hg8))
  replace hg8 := hg7.tr hg8
  clear hp7 hg7 hg6 hg67 hm6 CB CG
  go_wp2_with fail
  refine (evk3a ▸ cost_any w8 mb bm k3M HM8.out 1 2).mono ?_
  rintro e w9 ⟨rfl, rfl⟩
  go_wp2_with fail
  refine (evk3b ▸ cost_any w8 mb bm k3M HM8.out 1 1).mono ?_
  rintro e w9 ⟨rfl, rfl⟩
  go_wp2_with fail
  refine (size_nil _).mono ?_
  rintro e w9 ⟨rfl, rfl⟩
  go_wp2_with fail
  refine (cost_nil 0 0 _).mono ?_
  rintro e w9 ⟨rfl, rfl⟩
  go_wp2_with fail
  refine (set_nil 0 0 0 _).mono ?_
  rintro e w9 ⟨rfl, rfl⟩
  go_wp2_with fail
  refine (copy_nil _).mono ?_
  rintro e w9 ⟨rfl, rfl⟩
  go_wp2_with fail
  refine (encode_nil _).mono ?_
  rintro e w9 ⟨rfl, rfl⟩
  go_wp2_with fail
  refine (CW _ hg8).out.mono ?_
  rintro e w9 ⟨rfl, hg9⟩
  go_wp2
  go_ret
  exact ⟨rfl, hg8.tr hg9⟩
end Go.Proofs.YtcdjponbhpchbaaGreatDoor
