/- The texts Par16 MatrixBackL, one behind the other. -/
import Derived.Test.YtcdjponbhpchbaaGreatDoorBq24
import Derived.Test.YtcdjponbhpchbaaGreatDoorBq5
import Derived.Test.YtcdjponbhpchbaaGreatDoorBq3
import Derived.Test.YtcdjponbhpchbaaGreatDoorBq20
import Derived.Test.YtcdjponbhpchbaaGreatDoorBq13
import Derived.Test.YtcdjponbhpchbaaGreatDoorBq16
namespace Go.Proofs.YtcdjponbhpchbaaGreatDoor
open Go Go.RowKit Go.Shelf
attribute [local go_sem] quietE quietE2

/-- Parse hands back what the text says. -/
def PParP (r : Option Mx × Int × Int) (w : World) (e : Ending) (w' : World) : Prop :=
  ∃ v, e = .returned (.tuple #[v, .int .i64 r.2.1, .int .i64 r.2.2]) ∧ (r.1 = none → v = .pointer none) ∧ (∀ m, r.1 = some m → ∃ mb bm, v = .pointer (some ⟨mb, 0, none⟩) ∧ w.heap.size ≤ mb ∧ w.heap.size ≤ bm ∧ MatAt w' mb bm m) ∧ Grows w w'
theorem PParP.err {w w' : World} {a b : Int} (h : Grows w w') : PParP (none, a, b) w (.returned (.tuple #[.pointer none, .int .i64 a, .int .i64 b])) w' := ⟨_, rfl, fun _ => rfl, fun _ h => (by cases h), h⟩
/-- A line, whatever its state. -/
theorem pline_any {w : World} {B b3 b7 b8 bs N : Nat} {p : List PosV} {pa : Option Addr} {pc : Nat} (st : ParSt) (hst : PSt w B b7 b8 bs N st) (hB : B ≤ w.heap.size) (hN : N ≤ 2097152) (hpl : 1 ≤ p.length ∧ p.length ≤ 64) (hok : StOK p st) (c3 : w.cell? ⟨b3, 0, none⟩ = some (.slice pa p.length pc)) (hp : AtCells w pa 2 (p.map posCells))
    (f : List ByteArray) (fa : Option Addr) (fc : Nat) (hf : AtCells w fa 1 (f.map strC)) (hfl : f.length ≤ 1048577) (hf1 : 1 ≤ f.length) (hfs : ∀ x ∈ f, x.size ≤ 1048577) :
    Calls Tryz.prog 22 #[.slice fa f.length fc, .pointer (some ⟨b7, 0, none⟩), .pointer (some ⟨b3, 0, none⟩), .pointer (some ⟨b8, 0, none⟩)] w (PLinePost p st f B b7 b8 bs N w) := by
  cases st with
  | none =>
    by_cases h : f.length = 2
    · match f, h with
      | [a, b], _ => exact pline_def hst hB hpl c3 a b fa fc hf (hfs b (by simp))
    · exact pline_len none hst hB f fa fc hf hfl hf1 hfs (Or.inl ⟨rfl, h⟩)
  | some ms =>
    obtain ⟨m, seen⟩ := ms
    by_cases h : f.length = 3
    · match f, h with
      | [x, y, z], _ => exact pline_three m seen hst hB hN hpl (hok m seen rfl).2.1 c3 hp x y z fa fc hf (hfs z (by simp))
    · exact pline_len _ hst hB f fa fc hf hfl hf1 hfs (Or.inr ⟨by simp, h⟩)
theorem split_ne (c : UInt8) (s : ByteArray) : 1 ≤ (splitS c s).length := by
  rw [splitS_16, List.length_map]
  obtain ⟨x, r, hx⟩ := splitL_form c s.data.toList
  rw [hx]; simp
/-- The boxes at the start. -/
theorem pst_start (w1 : World) (B : Nat) (hB : B ≤ w1.heap.size) : PSt (((w1.alloc (.cells #[.pointer none] 23)).alloc (.map #[] 0)).alloc (.cells #[.map (some (w1.heap.size + 1))] 53)) B w1.heap.size (w1.heap.size + 1 + 1) (w1.heap.size + 1) 0 none := by
  have hg1 : Grows (w1.alloc (.cells #[.pointer none] 23)) (((w1.alloc (.cells #[.pointer none] 23)).alloc (.map #[] 0)).alloc (.cells #[.map (some (w1.heap.size + 1))] 53)) := (Grows.alloc _ _).al _
  have hb := box_cells hg1
  have c7 := hb.1 0 _ rfl
  have c8 := cell_box ((w1.alloc (.cells #[.pointer none] 23)).alloc (.map #[] 0)) #[.map (some (w1.heap.size + 1))] 53 (0, 0) 0 _ rfl
  have e1 : (w1.alloc (.cells #[.pointer none] 23)).heap.size = w1.heap.size + 1 := by simp
  have e2 : ((w1.alloc (.cells #[.pointer none] 23)).alloc (.map #[] 0)).heap.size = w1.heap.size + 1 + 1 := by simp
  rw [e2] at c8
  have hm := ((World.ownsMap_made (w1.alloc (.cells #[.pointer none] 23)) Tryz.prog 59 (plainElem (H := Unit) Tryz.prog 3)).alloc (.cells #[.map (some (w1.heap.size + 1))] 53))
  rw [e1] at hm
  exact ⟨hB, by omega, by omega, c8, ⟨_, c7⟩, hb.2 0, ⟨_, hm, SeenM.nil⟩, fun _ => c7, fun m seen h => (by cases h)⟩
set_option maxHeartbeats 8000000 in
set_option maxRecDepth 100000 in
theorem parse16_any (text : ByteArray) (p : List PosV) (pa : Option Addr) (pc : Nat) (w : World) (he : Env w) (hts : text.size < 9223372036854775807) (hpl : p.length ≤ 4611686018427387904) (hp : AtCells w pa 2 (p.map posCells)) :
    Calls Tryz.prog 6 #[.string text, .slice pa p.length pc] w (PParP (parM text p) w) := by
  have hmf : ∀ (fn : Fn) (first cap : Array Value) (w : World), (Instr.makeFunc fn first cap).run Tryz.prog w = .ok (.func fn first cap) w := fun _ _ _ _ => rfl
  have hmm := @run_makeMap Tryz.prog
  have CC := fun W (hW : Grows w W) => Lib.hid (check_any p pa pc W (hp.grows hW) hpl)
  have HP := Lib.hid hp
  have HE := Lib.hid he
  clear hp he
  by_cases hbig : 1048576 < text.size
  · have hr : parM text p = (none, 0, 2) := by unfold parM; rw [if_pos hbig]
    have g : (1048576 : Int) < text.size := by omega
    rw [hr]
    clear hr CC
    go_enter Tryz.func6, Tryz.ntmps6
    go_wp2
    go_ret3
    exact PParP.err (Grows.alloc _ _)
  · have g : ¬ (1048576 : Int) < text.size := by omega
    cases hv : posValid p
    · have hr : parM text p = (none, 0, 5) := by unfold parM; rw [if_neg hbig, hv]; rfl
      rw [hr]
      rw [hv] at CC
      clear hr hv
      go_enter Tryz.func6, Tryz.ntmps6
      go_wp2_with fail
      refine (CC _ (Grows.alloc _ _)).out.mono ?_
      rintro e w1 ⟨rfl, hg1⟩
      go_wp2
      go_ret3
      exact PParP.err ((Grows.alloc _ _).tr hg1)
    · have hr : parM text p = parMGo p (splitS 10 text) 0 none := by unfold parM; rw [if_neg hbig, hv]; rfl
      have hlen := posValid_len hv
      have hpl2 : (p.length : Int) ≤ 64 := by omega
      have CS := fun W (hW : Grows w W) => Lib.hid (split_any 10 text W (by omega) (HE.out.grows hW))
      have hsz : ∀ x ∈ splitS 10 text, x.size ≤ 1048576 := fun x hx => by have := splitS_size hx; omega
      have hll : (splitS 10 text).length ≤ 1048577 := by have := split_len 10 text; omega
      have hl1 := split_ne 10 text
      rw [hr]
      rw [hv, show chkI true = 0 from rfl] at CC
      have HSZ := Lib.hid hsz
      have HV := Lib.hid hv
      clear hr hsz hbig hv
      generalize splitS 10 text = ls at *
      obtain ⟨PR, hPR⟩ : ∃ r, r = parMGo p ls 0 none := ⟨_, rfl⟩
      rw [← hPR]
      have HPR := Lib.hid hPR
      clear hPR
      have hgb := Grows.alloc w (.cells #[.slice pa p.length pc] 22)
      have hc3 := cell_box w #[.slice pa p.length pc] 22 (0, 0) 0 _ rfl
      go_enter Tryz.func6, Tryz.ntmps6
      go_wp2_with fail
      refine (CC _ hgb).out.mono ?_
      rintro e w1 ⟨rfl, hg1⟩
      have d3 := hg1.cell hc3
      have hg01 := hgb.tr hg1
      clear hgb hc3 CC
      go_wp2_with fail
      have hs1 := hg1.size
      have hsz0 : w.heap.size < w1.heap.size := World.block_lt_of_cell? _ _ d3
      have hst0 := pst_start w1 w.heap.size (Nat.le_of_lt hsz0)
      have hgW : Grows w1 (((w1.alloc (.cells #[.pointer none] 23)).alloc (.map #[] 0)).alloc (.cells #[.map (some (w1.heap.size + 1))] 53)) := ((Grows.alloc _ _).al _).al _
      have hgW0 := hg01.tr hgW
      refine (CS _ hgW0).out.mono ?_
      rintro e w2 ⟨rfl, hls, hg2⟩
      have hst2 := Lib.hid (hst0.grows hg2)
      have d32 := (hgW.tr hg2).cell d3
      have hg02 := hgW0.tr hg2
      obtain ⟨la, hla⟩ : ∃ la, la = (((w1.alloc (.cells #[.pointer none] 23)).alloc (.map #[] 0)).alloc (.cells #[.map (some (w1.heap.size + 1))] 53)).heap.size := ⟨_, rfl⟩
      rw [← hla] at hls ⊢
      have hlb : w1.heap.size + 1 + 1 < la := by rw [hla]; simp
      have hlw : la < w2.heap.size := by
        have h1 := hl1
        obtain ⟨x, hx⟩ : ∃ x, ls[0]? = some x := ⟨_, List.getElem?_eq_getElem (by omega)⟩
        obtain ⟨lb, lo, e, hlc⟩ := hls.get (ne_nil_of_lt h1)
        cases e
        exact World.block_lt_of_cell? _ _ (hlc 0 x hx 0 _ rfl)
      have HLS := Lib.hid hls
      have HCS9 : Hid (∀ (x : ByteArray) W, x.size ≤ 1048576 → Grows w W → Calls Tryz.prog 25 #[.string x, .string ⟨#[9]⟩] W fun e w' => e = .returned (.slice (some ⟨W.heap.size, 0, none⟩) (splitS 9 x).length (splitS 9 x).length) ∧ AtCells w' (some ⟨W.heap.size, 0, none⟩) 1 ((splitS 9 x).map strC) ∧ Grows W w') := fun x W hx hW => split_any 9 x W (by omega) (HE.out.grows hW)
      obtain ⟨b7, hb7⟩ : ∃ b7, b7 = w1.heap.size := ⟨_, rfl⟩
      rw [← hb7] at hst2 hlb hsz0 ⊢
      clear hls hla hst0 hgW hgW0 hg2 hg01 hg1 d3 hs1 CS hb7
      go_wp2_with fail
      go_loopw [24] (fun i wr => ∃ (k N : Nat) (st : ParSt), k ≤ ls.length ∧ i = .int .i64 k ∧ N ≤ k ∧ Hid (PSt wr w.heap.size b7 (b7 + 1 + 1) (b7 + 1) N st) ∧ Hid (PR = parMGo p (ls.drop k) k st) ∧ Hid (StOK p st) ∧ Hid (CB b7 w2 wr) ∧ Grows w wr) (fun i _ => ls.length - (intOf i).toNat)
      case atStart => exact ⟨0, 0, none, Nat.zero_le _, rfl, Nat.le_refl _, hst2.out, HPR.out, fun m seen h => (by cases h), ⟨Nat.le_refl _, fun _ _ _ h => h⟩, hg02⟩
      case round =>
        obtain ⟨k, N, st, hk, rfl, hNk, hst, hpar, hok, hcb, hg⟩ := hrel
        have hwr := hcb.out.size
        by_cases hlt : k < ls.length
        · obtain ⟨x, hx⟩ : ∃ x, ls[k]? = some x := ⟨_, List.getElem?_eq_getElem hlt⟩
          have hxz := HSZ.out x (List.mem_of_getElem? hx)
          have hdrop : ls.drop k = x :: ls.drop (k + 1) := by
            rw [List.drop_eq_getElem_cons hlt]
            rw [List.getElem?_eq_getElem hlt] at hx
            rw [Option.some.inj hx]
          have hp2 := hpar.out
          rw [hdrop, parMGo_cons] at hp2
          have l0 : wr.cell? ⟨la, k, none⟩ = some (.string x) := by
            obtain ⟨lb, lo, e, hlc⟩ := HLS.out.get (ne_nil_of_lt hlt)
            cases e
            refine hcb.out.cell _ _ (by simp only; omega) ?_
            have := hlc k x hx 0 _ rfl
            simpa using this
          have d3 := hcb.out.cell _ _ (by simp only; omega) d32
          clear hdrop hx hpar
          by_cases hem : x.toList = []
          · rw [if_pos (skip_empty hem)] at hp2
            have HP2 := Lib.hid hp2
            have hem2 : (x.toList == []) = true := by simpa using hem
            clear hp2
            go_wp2_with fail
            go_roundw
            case rel => exact ⟨k + 1, N, st, hlt, by go_num, by omega, hst, HP2.out, hok, hcb, hg⟩
            case measure => simp [intOf]; omega
          · have h0 := nonempty_size hem
            have h0i : (0 : Int) < x.size := by omega
            by_cases h35 : (x[0].toNat : Int) = 35
            · rw [if_pos (skip_hash h0 h35)] at hp2
              have HP2 := Lib.hid hp2
              clear hp2
              go_wp2_with fail
              go_roundw
              case rel => exact ⟨k + 1, N, st, hlt, by go_num, by omega, hst, HP2.out, hok, hcb, hg⟩
              case measure => simp [intOf]; omega
            · have h35b : ((x[0].toNat : Int) == 35) = false := by rw [beq_eq_false_iff_ne]; exact h35
              have hemb : (x.toList == []) = false := by rw [beq_eq_false_iff_ne]; exact hem
              rw [skip_not h0 h35] at hp2
              simp only [Bool.false_eq_true, if_false] at hp2
              have HP2 := Lib.hid hp2
              have CS9 := Lib.hid (HCS9.out x wr hxz hg)
              have hfl := split_len 9 x
              have hf1 := split_ne 9 x
              have HFS : Hid (∀ y ∈ splitS 9 x, y.size ≤ 1048577) := fun y hy => by have := splitS_size hy; omega
              have HOK2 := Lib.hid (lineM_ok HV.out hok.out (splitS 9 x))
              obtain ⟨F, hF⟩ : ∃ F, F = splitS 9 x := ⟨_, rfl⟩
              rw [← hF] at HP2 CS9 HOK2 hfl hf1 HFS
              clear hp2 hF
              go_wp2_with fail
              refine CS9.out.mono ?_
              rintro e w4 ⟨rfl, hf, hg4⟩
              have hgr4 := hg.tr hg4
              have CL := Lib.hid (pline_any st (hst.out.grows hg4) hgr4.size (by omega) hlen hok.out (hg4.cell d3) (HP.out.grows hgr4) F _ F.length hf (by omega) hf1 HFS.out)
              unfold PLinePost at CL
              clear CS9 hf
              obtain ⟨E, hE⟩ : ∃ E, E = (lineM p st F).2 := ⟨_, rfl⟩
              rw [← hE] at CL HP2
              clear hE
              go_wp2_with fail
              refine CL.out.mono ?_
              rintro e w5 ⟨rfl, hst5, heb5, hcb5⟩
              have hg5 : Grows w w5 := EB.grows hgr4 heb5
              have hcb6 := Lib.hid ((hcb.out.tr hg4).trans hcb5)
              clear heb5 hcb5 CL
              by_cases hE : E = 0
              · subst hE
                have hp3 := HP2.out
                rw [if_pos rfl] at hp3
                have HP3 := Lib.hid hp3
                have HST5 := Lib.hid (hst5 rfl)
                clear hp3 HP2 hst5
                go_wp2_with fail
                go_roundw
                case rel => exact ⟨k + 1, N + 1, _, hlt, by go_num, by omega, HST5.out, HP3.out, HOK2.out, hcb6.out, hg5⟩
                case measure => simp [intOf]; omega
              · have hp3 := HP2.out
                rw [if_neg hE] at hp3
                subst hp3
                clear HP2 HPR hst5
                go_wp2_with fail
                go_ret3
                exact PParP.err hg5
        · obtain rfl : k = ls.length := by omega
          have hp2 := hpar.out
          rw [List.drop_length] at hp2
          cases st with
          | none =>
            have c7 := hst.out.no rfl
            have hfin : PR = (none, 0, 5) := hp2
            subst hfin
            clear hp2 hpar HPR
            go_wp2_with fail
            go_ret3
            exact PParP.err hg
          | some ms =>
            obtain ⟨m, seen⟩ := ms
            obtain ⟨mb, bm, c7, hm, hBm, hBb, _, _⟩ := hst.out.so m seen rfl
            have hfin : PR = (some m, 0, 0) := hp2
            subst hfin
            have HM := Lib.hid hm
            clear hp2 hpar HPR hm
            go_wp2_with fail
            go_ret3
            exact ⟨_, rfl, fun h => (by cases h), fun m' h => (by cases h; exact ⟨mb, bm, rfl, hBm, hBb, HM.out⟩), hg⟩
end Go.Proofs.YtcdjponbhpchbaaGreatDoor
namespace Go.Proofs.YtcdjponbhpchbaaGreatDoor
open Go Go.RowKit Go.Shelf
attribute [local go_sem] quietE quietE2

theorem line_len {p : List PosV} {m : Mx} (hm : m.OK) (hv : posValid p = true) (hl : p.length = m.n) {i : Nat} (hi : i < m.n * m.n) : (lineP p m i).length ≤ 40 := by
  have hn := hm.n1
  have nm : ∀ k : Nat, k < p.length → (nameAt p (k : Int)).data.toList.length ≤ 16 := fun k hk => by
    have hq := List.getElem?_eq_getElem hk
    have h1 := name_size hv hq
    have h2 : nameAt p (k : Int) = p[k].name := by unfold nameAt; rw [Int.toNat_natCast, hq]; rfl
    rw [h2, ← Lib.size_eq]; exact h1
  have h1 := nm (i / m.n) (by rw [hl]; exact Nat.div_lt_of_lt_mul hi)
  have h2 := nm (i % m.n) (by rw [hl]; exact Nat.mod_lt _ (by omega))
  obtain ⟨c0, c1⟩ := cost_at hm hi
  obtain ⟨hd, _⟩ := itoa6 c0 c1
  have h3 : (Lib.itoa (m.cs.getD i 0)).length ≤ 5 := by
    unfold digOK at hd
    simp only [Bool.and_eq_true, decide_eq_true_eq] at hd
    exact hd.1.2
  unfold lineP
  simp only [List.length_append, List.length_cons, List.length_nil]
  omega
theorem print_size {p : List PosV} {m : Mx} (hm : m.OK) (hv : posValid p = true) (hl : p.length = m.n) : (m.print p).length ≤ 200000 := by
  obtain ⟨hd, _⟩ := itoa6 hm.d1 hm.d2
  have h3 : (Lib.itoa m.d).length ≤ 5 := by
    unfold digOK at hd
    simp only [Bool.and_eq_true, decide_eq_true_eq] at hd
    exact hd.1.2
  have h4 := Mx.idx_len hm
  have key : ∀ L : List Nat, (∀ i ∈ L, i < m.n * m.n) → (L.flatMap (lineP p m)).length ≤ 40 * L.length := by
    intro L
    induction L with
    | nil => intro _; simp
    | cons i L ih =>
      intro h
      have h1 := line_len hm hv hl (h i (by simp))
      have h2 := ih (fun a ha => h a (by simp [ha]))
      rw [List.flatMap_cons, List.length_append, List.length_cons]
      omega
  have h5 := key m.idx (fun i hi => (Mx.mem_idx.1 hi).1)
  unfold Mx.print
  simp only [List.length_append, List.length_cons, List.length_nil]
  omega
set_option maxHeartbeats 4000000 in
set_option maxRecDepth 100000 in
theorem equal_any (w : World) (ma ba mb bb : Nat) (m : Mx) (ha : MatAt w ma ba m) (hb : MatAt w mb bb m) : Calls Tryz.prog 19 #[.pointer (some ⟨ma, 0, none⟩), .pointer (some ⟨mb, 0, none⟩)] w fun e w' => e = .returned (.bool true) ∧ Grows w w' := by
  have hn2 := ha.ok.n2
  have SA := fun W (hW : Grows w W) => Lib.hid (size_any W ma ba m (ha.grows hW))
  have SB := fun W (hW : Grows w W) => Lib.hid (size_any W mb bb m (hb.grows hW))
  have CA := fun W (hW : Grows w W) (i k : Int) => Lib.hid (cost_any W ma ba m (ha.grows hW) i k)
  have CB := fun W (hW : Grows w W) (i k : Int) => Lib.hid (cost_any W mb bb m (hb.grows hW) i k)
  clear ha hb
  go_enter Tryz.func19, Tryz.ntmps19
  go_wp2_with fail
  refine (SA _ (Grows.refl _)).out.mono ?_
  rintro e w1 ⟨rfl, rfl⟩
  go_wp2_with fail
  refine (SB _ (Grows.refl _)).out.mono ?_
  rintro e w1 ⟨rfl, rfl⟩
  go_wp2_with fail
  go_loopw [5] (fun i wx => ∃ a : Nat, a ≤ m.n ∧ i = .int .i64 a ∧ w = wx) (fun i _ => m.n - (intOf i).toNat)
  case atStart => exact ⟨0, Nat.zero_le _, rfl, rfl⟩
  case round =>
    obtain ⟨a, ha, rfl, rfl⟩ := hrel
    go_wp2_with fail
    refine (SA _ (Grows.refl _)).out.mono ?_
    rintro e w1 ⟨rfl, rfl⟩
    by_cases hlt : a < m.n
    · have hai : (a : Int) < m.n := by omega
      go_wp2_with fail
      go_loopw [6] (fun i wx => ∃ b : Nat, b ≤ m.n ∧ i = .int .i64 b ∧ w = wx) (fun i _ => m.n - (intOf i).toNat)
      case atStart => exact ⟨0, Nat.zero_le _, rfl, rfl⟩
      case round =>
        obtain ⟨b, hb, rfl, rfl⟩ := hrel
        go_wp2_with fail
        refine (SA _ (Grows.refl _)).out.mono ?_
        rintro e w1 ⟨rfl, rfl⟩
        by_cases hlt2 : b < m.n
        · have hbi : (b : Int) < m.n := by omega
          have C1 := (CA _ (Grows.refl _) a b).out
          have C2 := (CB _ (Grows.refl _) a b).out
          generalize m.cost ((a : Int), (b : Int)) = O at C1 C2
          go_wp2_with fail
          refine C1.mono ?_
          rintro e w1 ⟨rfl, rfl⟩
          go_wp2_with fail
          refine C2.mono ?_
          rintro e w1 ⟨rfl, rfl⟩
          go_wp2_with fail
          go_roundw
          case rel => exact ⟨b + 1, hlt2, by go_num, by first | rfl | trivial⟩
          case measure => simp [intOf]; omega
        · obtain rfl : b = m.n := by omega
          go_wp2_with fail
          go_roundw
          case rel => exact ⟨a + 1, hlt, by go_num, by first | rfl | trivial⟩
          case measure => simp [intOf]; omega
    · obtain rfl : a = m.n := by omega
      go_wp2_with fail
      go_ret
      exact ⟨rfl, Grows.refl _⟩
set_option maxHeartbeats 8000000 in
set_option maxRecDepth 100000 in
theorem back_any (d : Int) (l : List SetV) (la : Option Addr) (lc : Nat) (p : List PosV) (pa : Option Addr) (pc : Nat) (w : World) (he : Env w) (hll : l.length ≤ 140737488355328) (hok : ∀ z ∈ l, WfI z.c) (hat : AtCells w la 3 (l.map setC))
    (hpl : p.length ≤ 140737488355328) (hpt : AtCells w pa 2 (p.map posCells)) :
    Calls Tryz.prog 5 #[.int .i64 d, .slice la l.length lc, .slice pa p.length pc] w fun e w' => e = .returned (.bool true) ∧ Grows w w' := by
  have HAT := Lib.hid hat
  have HOK := Lib.hid hok
  have HPT := Lib.hid hpt
  have HE := Lib.hid he
  have CW := fun W (hW : Grows w W) => Lib.hid (works16_any W (he.grows hW))
  clear hat hok he hpt
  cases hb : newB (p.length : Int) d
  · go_enter Tryz.func5, Tryz.ntmps5
    go_wp2_with fail
    refine (new_bad (p.length : Int) d w hb).mono ?_
    rintro e w1 ⟨rfl, rfl⟩
    go_wp2_with fail
    refine (CW _ (Grows.refl _)).out.mono ?_
    rintro e w2 ⟨rfl, hg2⟩
    go_wp2
    go_ret
    exact ⟨rfl, hg2⟩
  · go_enter Tryz.func5, Tryz.ntmps5
    go_wp2_with fail
    refine (new_any (p.length : Int) d w hb).mono ?_
    rintro e w1 ⟨rfl, hm1, hg1⟩
    by_cases hl : 200 < l.length
    · have hl2 : (200 : Int) < l.length := by omega
      go_wp2_with fail
      refine (CW _ hg1).out.mono ?_
      rintro e w2 ⟨rfl, hg2⟩
      go_wp2
      go_ret
      exact ⟨rfl, hg1.tr hg2⟩
    · have hl2 : ¬ (200 : Int) < l.length := by omega
      have HL := Lib.hid (show l.length ≤ 200 by omega)
      obtain ⟨M0, hM0⟩ : ∃ M, M = newM (p.length : Int) d := ⟨_, rfl⟩
      have hN0 : Hid (M0.n = p.length) := by show M0.n = _; rw [hM0]; rfl
      rw [← hM0] at hm1
      clear hM0 hb
      go_wp2_with fail
      go_loopw [9] (fun i wx => ∃ k : Nat, k ≤ l.length ∧ i = .int .i64 k ∧ Hid (MatAt wx (w.heap.size + 1) w.heap.size (runSets M0 (l.take k))) ∧ Grows w wx) (fun i _ => l.length - (intOf i).toNat)
      case atStart => exact ⟨0, Nat.zero_le _, rfl, hm1, hg1⟩
      case round =>
        obtain ⟨k, hk, rfl, hm, hg⟩ := hrel
        by_cases hlt : k < l.length
        · obtain ⟨⟨sr, sl, sc⟩, hs⟩ : ∃ s, l[k]? = some s := ⟨_, List.getElem?_eq_getElem hlt⟩
          have hsc : WfI sc := HOK.out _ (List.mem_of_getElem? hs)
          have HT := Lib.hid (runSets_take (m := M0) hs)
          obtain ⟨lb, lo, rfl, hcl⟩ := (HAT.out.grows hg).get (ne_nil_of_lt hlt)
          have y0 := hcl k _ hs 0 _ rfl
          have y1 := hcl k _ hs 1 _ rfl
          have y2 := hcl k _ hs 2 _ rfl
          clear hcl hs
          have hlm : l.length ≤ 200 := HL.out
          go_wp2_with fail
          have z0 : ∀ x : Ext Grows wr.drew, x.u.cell? ⟨lb, lo + k * 3, none⟩ = some (.int .i64 sr) := ext_cell ((Grows.drew wr).cell y0)
          have z1 : ∀ x : Ext Grows wr.drew, x.u.cell? ⟨lb, lo + k * 3 + 1, none⟩ = some (.int .i64 sl) := ext_cell ((Grows.drew wr).cell y1)
          have z2 : ∀ x : Ext Grows wr.drew, x.u.cell? ⟨lb, lo + k * 3 + 2, none⟩ = some (.int .i64 sc) := ext_cell ((Grows.drew wr).cell y2)
          refine t_tail (Grows) 16 [(0, false), (1, false), (2, false), (3, false), (4, false), (5, false), (6, false), (7, false), (8, false), (9, false), (10, false), (11, false), (12, false), (13, false), (14, false), (15, false)] Grows.refl Grows.trans (by kernel_rfl) (by kernel_rfl) (fun d _ _ _ _ h => by cases d <;> exact h) ?_
          iterate 16 (refine t_quiet rfl (fun K hK => ?_); go_simp; refine hK _ ?_; clear hK K)
          refine t_end ?_
          simp only [List.drop_succ_cons, List.drop_zero]
          clear z0 z1 z2
          go_wp2_with fail
          refine (set_any wr.drew _ _ _ (hm.out.grows (Grows.drew wr)) sr sl sc hsc).mono ?_
          rintro e w3 ⟨rfl, hm3, hg3⟩
          go_wp2_with fail
          go_roundw
          case rel => exact ⟨k + 1, hlt, by go_num, by show MatAt _ _ _ _; rw [HT.out]; exact hm3, hg.dr.grown hg3 (fun q hq => by cases hq; exact Nat.le_refl _)⟩
          case measure => simp [intOf]; omega
        · obtain rfl : k = l.length := by omega
          have hN1 : Hid ((runSets M0 l).n = p.length) := by show _ = _; rw [runSets_n]; exact hN0.out
          have HM := Lib.hid (show MatAt wr (w.heap.size + 1) w.heap.size (runSets M0 l) by have h := hm.out; rw [List.take_length] at h; exact h)
          clear hm hN0
          generalize runSets M0 l = M1 at *
          go_wp2_with fail
          refine (encode_any wr _ _ _ HM.out).mono ?_
          rintro e w3 ⟨v3, rfl, hown3, hg3⟩
          obtain ⟨ea, ec, rfl, _, _, hea⟩ := hown3.at_ byteLay.len
          have hg03 := hg.tr hg3
          have hel : M1.enc.length ≤ 1099511627776 := by
            rw [enc_nums]
            have key : ∀ L : List Nat, (L.flatMap putU).length ≤ 10 * L.length := by
              intro L
              induction L with
              | nil => simp
              | cons a L ih =>
                have := putU_len a
                rw [List.flatMap_cons, List.length_append, List.length_cons]
                omega
            have h1 := key M1.nums
            have key2 : ∀ (L : List Nat) (s : Int), (numsGo M1 s L).length = 2 * L.length := by
              intro L
              induction L with
              | nil => intro s; rfl
              | cons a L ih =>
                intro s
                simp only [numsGo, List.length_cons]
                rw [ih]
                omega
            have h2 := Mx.idx_len HM.out.ok
            have h3 : M1.nums.length = 2 * M1.idx.length + 3 := by
              simp only [Mx.nums, List.length_cons]
              rw [key2]
            omega
          have CD := decode_any M1.enc ea ec w3 hel hea
          rw [decM_iff.2 ⟨HM.out.ok, rfl⟩] at CD
          have HCD := Lib.hid CD
          clear CD hown3 hea hel
          go_wp2_with fail
          refine HCD.out.mono ?_
          rintro e w4 ⟨_, h4, hg4⟩
          obtain ⟨mb, bm, rfl, hm4, _, _⟩ := h4 M1 rfl
          have hg04 := hg03.tr hg4
          have HM4 := Lib.hid (HM.out.grows (hg3.tr hg4))
          have HD4 := Lib.hid hm4
          clear h4 hm4 HCD HM hg3 hg4 hg03
          go_wp2_with fail
          have CQ := fun W (hW : Grows w4 W) => Lib.hid (equal_any W (w.heap.size + 1) w.heap.size mb bm M1 (HM4.out.grows hW) (HD4.out.grows hW))
          have CE1 := fun W (hW : Grows w4 W) => Lib.hid (encode_any W mb bm M1 (HD4.out.grows hW))
          have CE2 := fun W (hW : Grows w4 W) => Lib.hid (encode_any W (w.heap.size + 1) w.heap.size M1 (HM4.out.grows hW))
          obtain ⟨E, hE⟩ : ∃ E, E = mkB M1.enc := ⟨_, rfl⟩
          have HE1 := Lib.hid hE
          clear hE
          refine wp_onlyN ?_
          refine t_region (Grows) [(0, false), (1, false), (2, false), (3, false), (4, false), (5, true), (6, false), (7, false), (8, false), (9, false), (12, false), (10, true), (11, false), (13, true), (14, false), (15, false), (16, false)] Grows.refl Grows.trans (by kernel_rfl) (by kernel_rfl) (fun _ _ _ _ _ h => h) ?_
          iterate 5 (refine t_quiet rfl (fun K hK => ?_); go_simp; refine hK _ ?_; clear hK K)
          refine t_late rfl (by first | rfl | (go_simp; done) | (simp [go_sem, Region.wanted, yielded]; done)) (fun K hK => ?_)
          go_simp
          refine (CQ _ (Grows.drew _)).out.mono ?_
          rintro e w5 ⟨rfl, hg5⟩
          refine ⟨hg5, hK _ _ ?_⟩
          clear hK K
          have hg45 := (Grows.drew w4).tr hg5
          iterate 5 (refine t_quiet rfl (fun K hK => ?_); go_simp; refine hK _ ?_; clear hK K)
          refine t_late rfl (by first | rfl | (go_simp; done) | (simp [go_sem, Region.wanted, yielded]; done)) (fun K hK => ?_)
          go_simp
          refine (CE1 _ hg45).out.mono ?_
          rintro e w6 ⟨v6, rfl, hown6, hg6⟩
          refine ⟨hg6, hK _ _ ?_⟩
          clear hK K
          have hg46 := hg45.tr hg6
          have y6 : ∀ x : Ext Grows w6, (convert 40 9 v6).run Tryz.prog x.u = .ok (.string E) x.u := fun x => by rw [HE1.out]; exact conv_owns (hown6.grows x.h)
          iterate 1 (refine t_quiet rfl (fun K hK => ?_); go_simp; refine hK _ ?_; clear hK K)
          refine t_late rfl (by first | rfl | (go_simp; done) | (simp [go_sem, Region.wanted, yielded]; done)) (fun K hK => ?_)
          go_simp
          refine (CE2 _ hg46).out.mono ?_
          rintro e w7 ⟨v7, rfl, hown7, hg7⟩
          refine ⟨hg7, hK _ _ ?_⟩
          clear hK K
          have hg47 := hg46.tr hg7
          have y7 : ∀ x : Ext Grows w7, (convert 40 9 v7).run Tryz.prog x.u = .ok (.string E) x.u := fun x => by rw [HE1.out]; exact conv_owns (hown7.grows x.h)
          iterate 3 (refine t_quiet rfl (fun K hK => ?_); go_simp; refine hK _ ?_; clear hK K)
          refine t_end ?_
          clear y6 y7 hown6 hown7 CE1 CE2
          have HM7 := Lib.hid (HM4.out.grows hg47)
          have hg07 := hg04.tr hg47
          clear HM4 HD4 hg47 hg46 hg45 hg5 hg6 hg7 hg04
          simp only [onlyN_normal]
          cases hv : posValid p
          · have hq : matPrint p M1 = ([], 5) := by unfold matPrint; rw [hv]; simp
            have CP := matPrint_any w7 _ _ M1 HM7.out p pa pc (by omega) (HE.out.grows hg07) (HPT.out.grows hg07)
            rw [hq] at CP
            have HCP := Lib.hid CP
            clear CP hq hv
            go_wp2_with fail
            refine HCP.out.mono ?_
            rintro e w8 ⟨rfl, hg8⟩
            go_wp2_with fail
            refine (CW _ (hg07.tr hg8)).out.mono ?_
            rintro e w9 ⟨rfl, hg9⟩
            go_wp2
            go_ret
            exact ⟨rfl, (hg07.tr hg8).tr hg9⟩
          · have hlen : p.length = M1.n := hN1.out.symm
            have hq : matPrint p M1 = (M1.print p, 0) := by unfold matPrint; rw [if_pos ⟨hv, hlen⟩]
            have hps := print_size HM7.out.ok hv hlen
            obtain ⟨T, hT⟩ : ∃ T, T = mkB (M1.print p) := ⟨_, rfl⟩
            have hTs : T.size ≤ 200000 := by rw [hT, Lib.size_eq, mkB_data]; exact hps
            have CP := fun W (hW : Grows w W) (mb bm : Nat) (h : MatAt W mb bm M1) => Lib.hid (show Calls Tryz.prog 20 #[.pointer (some ⟨mb, 0, none⟩), .slice pa p.length pc] W fun e w' => e = .returned (.tuple #[.string T, .int .i64 0]) ∧ Grows W w' by
              have h1 := matPrint_any W mb bm M1 h p pa pc (by omega) (HE.out.grows hW) (HPT.out.grows hW)
              rw [hq] at h1
              rw [hT]
              exact h1)
            have CA := fun W (hW : Grows w W) => Lib.hid (show Calls Tryz.prog 6 #[.string T, .slice pa p.length pc] W (PParP (some M1, 0, 0) W) by
              have h1 := parse16_any T p pa pc W (HE.out.grows hW) (by omega) (by omega) (HPT.out.grows hW)
              rw [hT, print_parM HM7.out.ok hv hlen (by omega)] at h1
              rw [hT]
              exact h1)
            have hTi : ¬ (1048576 : Int) < T.size := by omega
            clear hq hps hT hv hlen
            go_wp2_with fail
            refine (CP w7 hg07 _ _ HM7.out).out.mono ?_
            rintro e w8 ⟨rfl, hg8⟩
            have hg08 := hg07.tr hg8
            go_wp2_with fail
            refine (CA w8 hg08).out.mono ?_
            rintro e w9 ⟨v, rfl, _, h9, hg9⟩
            obtain ⟨mb2, bm2, rfl, _, _, hm9⟩ := h9 M1 rfl
            have hg09 := hg08.tr hg9
            have HD9 := Lib.hid hm9
            have HM9 := Lib.hid (HM7.out.grows (hg8.tr hg9))
            clear h9 hm9
            go_wp2_with fail
            refine (CP w9 hg09 _ _ HD9.out).out.mono ?_
            rintro e w10 ⟨rfl, hg10⟩
            have hg010 := hg09.tr hg10
            go_wp2_with fail
            refine (equal_any w10 _ _ _ _ M1 (HM9.out.grows hg10) (HD9.out.grows hg10)).mono ?_
            rintro e w11 ⟨rfl, hg11⟩
            go_wp2_with fail
            refine (CW _ (hg010.tr hg11)).out.mono ?_
            rintro e w12 ⟨rfl, hg12⟩
            go_wp2
            go_ret
            exact ⟨rfl, (hg010.tr hg11).tr hg12⟩
end Go.Proofs.YtcdjponbhpchbaaGreatDoor
