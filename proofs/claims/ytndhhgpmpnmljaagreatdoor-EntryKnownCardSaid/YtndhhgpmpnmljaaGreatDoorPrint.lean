import Derived.Test.YtndhhgpmpnmljaaGreatDoorParse
import Derived.Test.YtndhhgpmpnmljaaGreatDoorPrintB
import Derived.Lib.ItoaLen
namespace Go.Proofs.YtndhhgpmpnmljaaGreatDoor
open Go Go.RowKit Go.Shelf
attribute [local go_sem] quietE

def checkE (x : En) (n : Int) : Int := checkS x.r x.s x.l x.t x.c n
def lineOf (p : List PosV) (x : En) : List UInt8 :=
  Lib.join ([x.r, x.s, nameAt p x.l, nameAt p x.t, ⟨(Lib.itoa x.c).toArray⟩].map (·.data.toList)) [9] ++ [10]
def printGo (p : List PosV) : List En → List UInt8 → List UInt8 × Int
  | [], acc => (acc, 0)
  | x :: r, acc => if checkE x p.length ≠ 0 then ([], checkE x p.length) else printGo p r (acc ++ lineOf p x)
def printS (l : List En) (p : List PosV) : List UInt8 × Int :=
  if posValid p then (if 20000 < l.length then ([], 2) else
    (if (printGo p l []).2 ≠ 0 then ([], (printGo p l []).2) else if 1048576 < (printGo p l []).1.length then ([], 2) else ((printGo p l []).1, 0))) else ([], 5)
theorem printGo_cons (p : List PosV) (x : En) (r : List En) (acc : List UInt8) : printGo p (x :: r) acc = if checkE x p.length ≠ 0 then ([], checkE x p.length) else printGo p r (acc ++ lineOf p x) := rfl

theorem checkE_ok {x : En} {n : Int} (h : checkE x n = 0) : 0 ≤ x.l ∧ x.l < n ∧ 0 ≤ x.t ∧ x.t < n ∧ 0 ≤ x.c ∧ x.c ≤ 30000 := by
  unfold checkE checkS at h
  split at h
  · split at h
    · omega
    · split at h
      · omega
      · omega
  · omega
theorem join5_len (a b c d e : List UInt8) : (Lib.join [a, b, c, d, e] [9]).length = a.length + b.length + c.length + d.length + e.length + 4 := by
  simp [Lib.join, List.intercalate, List.intersperse]
  omega
theorem strs_box (w : World) (ys : List ByteArray) (t : TypeId) : ∀ (j : Nat) (y : ByteArray), ys[j]? = some y → (w.alloc (.cells (ys.map Value.string).toArray t)).cell? ⟨w.heap.size, 0 + j, none⟩ = some (.string y) := fun j y h => by
  rw [Nat.zero_add]; exact cell_box _ _ _ _ _ _ (by simp [h])
set_option maxHeartbeats 4000000 in
set_option maxRecDepth 100000 in
theorem print_any (l : List En) (p : List PosV) (la pa : Option Addr) (cap pcap : Nat) (w : World) (hl : l.length ≤ 4611686018427387904) (hp : p.length ≤ 4611686018427387904) (he : Env w)
    (hsz : ∀ x, x ∈ l → x.r.size ≤ 1048576 ∧ x.s.size ≤ 1048576) (hat : AtCells w la 5 (l.map enCells)) (hpt : AtCells w pa 2 (p.map posCells)) :
    Calls Tryz.prog 35 #[.slice la l.length cap, .slice pa p.length pcap] w fun e w' => e = .returned (.tuple #[.string ⟨(printS l p).1.toArray⟩, .int .i64 (printS l p).2]) ∧ Grows w w' := by
  have CC := Lib.hid (check_any p pa pcap w hpt hp)
  have HAT := Lib.hid hat
  have HPT := Lib.hid hpt
  clear hat hpt
  cases hv : posValid p
  · have hp : printS l p = ([], 5) := by unfold printS; rw [hv]; rfl
    rw [hp]
    rw [hv] at CC
    clear hp hv
    go_enter Tryz.func35, Tryz.ntmps35
    go_wp2_with (first | (go_at_call 36; refine CC.out.mono ?_; rintro e w1 ⟨rfl, hg1⟩))
    go_ret2
    exact ⟨rfl, hg1⟩
  · by_cases hbig : 20000 < l.length
    · have hp : printS l p = ([], 2) := by unfold printS; rw [hv, if_pos rfl, if_pos hbig]
      have hb : (20000 : Int) < l.length := by omega
      rw [hp]
      rw [hv] at CC
      clear hp hv
      go_enter Tryz.func35, Tryz.ntmps35
      go_wp2_with (first | (go_at_call 36; refine CC.out.mono ?_; rintro e w1 ⟨rfl, hg1⟩))
      go_ret2
      exact ⟨rfl, hg1⟩
    · have hps : printS l p = (if (printGo p l []).2 ≠ 0 then ([], (printGo p l []).2) else if 1048576 < (printGo p l []).1.length then ([], 2) else ((printGo p l []).1, 0)) := by unfold printS; rw [hv, if_pos rfl, if_neg hbig]
      have hb : (l.length : Int) ≤ 20000 := by omega
      rw [hv, show chkI true = 0 from rfl] at CC
      generalize printS l p = PS at hps ⊢
      have HPS := Lib.hid hps
      have HNS : Hid (∀ (i : Nat) (q : PosV), p[i]? = some q → q.name.size ≤ 16) := fun i q hq => name_size hv hq
      clear hv hbig hps
      go_enter Tryz.func35, Tryz.ntmps35
      go_wp2_with (first | (go_at_call 36; refine CC.out.mono ?_; rintro e w1 ⟨rfl, hg1⟩))
      go_loopw [21] (fun i wr => ∃ (k : Nat) (acc : List UInt8), k ≤ l.length ∧ i = .int .i64 k ∧ Lib.IsBuilderF 101 5 w1.heap.size w1.heap.size (Lib.byteCells acc) wr ∧ Hid (printGo p l [] = printGo p (l.drop k) acc) ∧ Hid (acc.length ≤ k * 4194304) ∧ Grows w1 wr) (fun i _ => l.length - (intOf i).toNat)
      case atStart => exact ⟨0, [], Nat.zero_le _, rfl, Lib.IsBuilderF.of (Lib.fresh_isBuilder _ _ w1), rfl, Nat.zero_le _, Grows.alloc _ _⟩
      case round =>
        obtain ⟨k, acc, hk, rfl, hbd, hpr, hal, hgr⟩ := hrel
        have hwr := hg1.tr hgr
        by_cases hlt : k < l.length
        · obtain ⟨⟨xr, xs, xl, xt, xc⟩, hx⟩ : ∃ x, l[k]? = some x := ⟨_, List.getElem?_eq_getElem hlt⟩
          obtain ⟨hss1, hss2⟩ : xr.size ≤ 1048576 ∧ xs.size ≤ 1048576 := hsz _ (List.mem_of_getElem? hx)
          have hdrop : l.drop k = ⟨xr, xs, xl, xt, xc⟩ :: l.drop (k + 1) := by
            rw [List.drop_eq_getElem_cons hlt]
            have : l[k] = ⟨xr, xs, xl, xt, xc⟩ := (List.getElem?_eq_some_iff.1 hx).2
            rw [this]
          obtain ⟨lb, loff, rfl, hcl⟩ := (HAT.out.grows hwr).get (ne_nil_of_lt hlt)
          have c0 : wr.cell? ⟨lb, loff + k * 5, none⟩ = some (.string xr) := hcl k _ hx 0 _ rfl
          have c1 : wr.cell? ⟨lb, loff + k * 5 + 1, none⟩ = some (.string xs) := hcl k _ hx 1 _ rfl
          have c2 : wr.cell? ⟨lb, loff + k * 5 + 2, none⟩ = some (.int .i64 xl) := hcl k _ hx 2 _ rfl
          have c3 : wr.cell? ⟨lb, loff + k * 5 + 3, none⟩ = some (.int .i64 xt) := hcl k _ hx 3 _ rfl
          have c4 : wr.cell? ⟨lb, loff + k * 5 + 4, none⟩ = some (.int .i64 xc) := hcl k _ hx 4 _ rfl
          have hpr2 := hpr.out
          rw [hdrop, printGo_cons] at hpr2
          have HC := fun W hW => Lib.hid (echeck_any xr xs xl xt xc p.length W (by omega) (by omega) (he.grows hW))
          have hce : checkE ⟨xr, xs, xl, xt, xc⟩ p.length = checkS xr xs xl xt xc p.length := rfl
          rw [← hce] at HC
          have hok := fun h : checkE ⟨xr, xs, xl, xt, xc⟩ p.length = 0 => checkE_ok h
          generalize checkE ⟨xr, xs, xl, xt, xc⟩ p.length = no at *
          have HP := Lib.hid hpr2
          have HX := Lib.hid hx
          clear hcl hx hdrop hpr hpr2 hce
          by_cases hno : no = 0
          · have hp2 : printGo p l [] = printGo p (l.drop (k + 1)) (acc ++ lineOf p ⟨xr, xs, xl, xt, xc⟩) := by rw [HP.out]; simp [hno]
            have HP2 := Lib.hid hp2
            obtain ⟨o1, o2, o3, o4, o5, o6⟩ : 0 ≤ xl ∧ xl < p.length ∧ 0 ≤ xt ∧ xt < p.length ∧ 0 ≤ xc ∧ xc ≤ 30000 := hok hno
            subst hno
            clear HP hp2 hok
            go_wp2_with (first | (go_at_call 31; refine (HC _ (hwr.al _)).out.mono ?_; rintro e w3 ⟨rfl, hg3⟩))
            have hg13 := (hwr.al _).tr hg3
            have e0 : w3.cell? ⟨wr.heap.size, 0, none⟩ = some (.string xr) := hg3.cell (cell_box _ _ _ _ 0 _ rfl)
            have e1 : w3.cell? ⟨wr.heap.size, 1, none⟩ = some (.string xs) := hg3.cell (cell_box _ _ _ _ 1 _ rfl)
            have e2 : w3.cell? ⟨wr.heap.size, 2, none⟩ = some (.int .i64 xl) := hg3.cell (cell_box _ _ _ _ 2 _ rfl)
            have e3 : w3.cell? ⟨wr.heap.size, 3, none⟩ = some (.int .i64 xt) := hg3.cell (cell_box _ _ _ _ 3 _ rfl)
            have e4 : w3.cell? ⟨wr.heap.size, 4, none⟩ = some (.int .i64 xc) := hg3.cell (cell_box _ _ _ _ 4 _ rfl)
            obtain ⟨il, rfl⟩ := Int.eq_ofNat_of_zero_le o1
            obtain ⟨it, rfl⟩ := Int.eq_ofNat_of_zero_le o3
            obtain ⟨P1, hP1⟩ : ∃ q, p[il]? = some q := ⟨_, List.getElem?_eq_getElem (by omega)⟩
            obtain ⟨P2, hP2⟩ : ∃ q, p[it]? = some q := ⟨_, List.getElem?_eq_getElem (by omega)⟩
            obtain ⟨pb, poff, rfl, hpc⟩ := (HPT.out.grows hg13).get (ne_nil_of_lt (k := il) (by omega))
            have f1 : w3.cell? ⟨pb, poff + il * 2, none⟩ = some (.string P1.name) := hpc il P1 hP1 0 _ rfl
            have f2 : w3.cell? ⟨pb, poff + it * 2, none⟩ = some (.string P2.name) := hpc it P2 hP2 0 _ rfl
            have hline : lineOf p ⟨xr, xs, il, it, xc⟩ = Lib.join ([xr, xs, P1.name, P2.name, ⟨(Lib.itoa xc).toArray⟩].map (·.data.toList)) (⟨#[9]⟩ : ByteArray).data.toList ++ [10] := by
              unfold lineOf nameAt
              simp [hP1, hP2]
            have HL := Lib.hid hline
            have HN1 := Lib.hid hP1
            have HN2 := Lib.hid hP2
            have x0 := ext_cell (w := w3.drew) e0
            have x1 := ext_cell (w := w3.drew) e1
            have x2 := ext_cell (w := w3.drew) e2
            have x3 := ext_cell (w := w3.drew) e3
            have x4 := ext_cell (w := w3.drew) e4
            have y1 := ext_cell (w := w3.drew) f1
            have y2 := ext_cell (w := w3.drew) f2
            have hE3 : Env w3.drew := (he.grows hg13).grows (Grows.drew _)
            clear hline hP1 hP2 hpc e0 e1 e2 e3 e4 f1 f2 c0 c1 c2 c3 c4 HC
            refine wp_region_tail Grows 19 [(0, false), (1, false), (2, false), (3, false), (4, false), (5, false), (6, false), (7, false), (8, false), (9, false), (10, false), (11, false), (12, false), (13, false), (14, false), (15, false), (16, false), (17, false), (18, false)] Grows.refl Grows.trans (by kernel_rfl) (by kernel_rfl) (fun d _ _ _ _ h => by cases d <;> exact h) ?_
            repeat (refine ord_quiet rfl (fun K hK => ?_); go_simp; first | (refine hK _ ?_; clear hK K) | (apply Exists.intro; refine ⟨fun x => ?_, hK _ ?_⟩; ((first | (go_at_call 56; exact calls_ext (itoa_any _ _ (by assumption) (by assumption) (hE3.grows x.h))))); clear hK K))
            refine ord_end (fun w4 h4 => ?_)
            simp only [List.drop_succ_cons, List.drop_zero]
            clear x0 x1 x2 x3 x4 y1 y2
            have hJ := fun W (hb : w4.heap.size < W.heap.size) (hc : ∀ (j : Nat) (y : ByteArray), [xr, xs, P1.name, P2.name, ⟨(Lib.itoa xc).toArray⟩][j]? = some y → W.cell? ⟨w4.heap.size, 0 + j, none⟩ = some (.string y)) => Lib.hid (Tryz.strings_Join w4.heap.size 0 5 [xr, xs, P1.name, P2.name, ⟨(Lib.itoa xc).toArray⟩] ⟨#[9]⟩ W hc hb (by simp) (Nat.le_refl _) (by
              have h1 := HNS.out _ _ HN1.out
              have h2 := HNS.out _ _ HN2.out
              have h3 := Lib.itoa_length_le xc (by omega) (by omega)
              have q1 := Lib.size_eq xr
              have q2 := Lib.size_eq xs
              have q3 := Lib.size_eq P1.name
              have q4 := Lib.size_eq P2.name
              simp only [List.map_cons, List.map_nil]
              rw [join5_len]
              omega))
            go_wp2_with (first | (go_at_call 64; refine (hJ _ (by simp) ?hc).out.mono ?_))
            case hc =>
              intro j y hj
              have h := congrArg (Option.map Value.string) hj
              rw [← List.getElem?_map] at h
              exact h
            rintro e w5 rfl hb5
            have hgW : Grows wr w5 := (((((Grows.alloc _ _).tr hg3).dr).tr h4).al _).tr (Below.mono hb5 (by simp))
            have hlineLen : (lineOf p ⟨xr, xs, il, it, xc⟩).length ≤ 4194304 := by
              have h1 := HNS.out _ _ HN1.out
              have h2 := HNS.out _ _ HN2.out
              have h3 := Lib.itoa_length_le xc (by omega) (by omega)
              have q1 := Lib.size_eq xr
              have q2 := Lib.size_eq xs
              have q3 := Lib.size_eq P1.name
              have q4 := Lib.size_eq P2.name
              rw [HL.out]
              simp only [List.map_cons, List.map_nil, List.length_append, List.length_cons, List.length_nil]
              have := join5_len xr.data.toList xs.data.toList P1.name.data.toList P2.name.data.toList (Lib.itoa xc)
              rw [this]
              omega
            have hjl : ¬ 9223372036854775807 < (Lib.join [xr.data.toList, xs.data.toList, P1.name.data.toList, P2.name.data.toList, Lib.itoa xc] [9]).length + 1 := by
              have h7 : (lineOf p ⟨xr, xs, il, it, xc⟩).length = (Lib.join [xr.data.toList, xs.data.toList, P1.name.data.toList, P2.name.data.toList, Lib.itoa xc] [9]).length + 1 := by rw [HL.out]; simp
              omega
            have hWS := fun (s : ByteArray) (hs : s.data.toList = lineOf p ⟨xr, xs, il, it, xc⟩) => Lib.hid (Tryz.Builder_WriteString_k w1.heap.size w1.heap.size (Lib.byteCells acc) s w5 (isBuilder_grows hbd hgW) (by
              have := hal.out
              have h9 := Lib.size_eq s
              rw [hs] at h9
              rw [Lib.byteCells_length]
              omega) (Nat.le_trans (builder_ge hbd) hgW.size))
            go_wp2_with (first | (go_at_call 55; refine (hWS _ ?hs).out.mono ?_))
            case hs => rw [HL.out]; simp
            rintro e w6 ⟨rfl, hbd6, hb6, _⟩
            go_wp2_with fail
            have hgW6 : Grows w1 w6 := Below.trans (hgr.tr hgW) hb6
            go_roundw
            case rel =>
              refine ⟨k + 1, acc ++ lineOf p ⟨xr, xs, il, it, xc⟩, hlt, rfl, ?_, HP2.out, ?_, hgW6⟩
              · exact Or.inr (builder_more (L := lineOf p ⟨xr, xs, il, it, xc⟩) hbd6 (by rw [HL.out]; simp))
              · have h7 := hal.out
                show _ ≤ _
                rw [List.length_append]
                omega
            case measure => simp [intOf]; omega
          · have hb2 : (no != 0) = true := by simpa using hno
            have hp2 : printGo p l [] = ([], no) := by rw [HP.out]; simp [hno]
            have HP2 := Lib.hid hp2
            have hno2 : PS = ([], no) := by rw [HPS.out, hp2]; simp [hno]
            have HNO := Lib.hid hno2
            clear HP hp2 hok hno hno2
            go_wp2_with (first | (go_at_call 31; refine (HC _ (hwr.al _)).out.mono ?_; rintro e w3 ⟨rfl, hg3⟩))
            go_ret2
            rw [HNO.out]
            exact ⟨rfl, (hwr.al _).tr hg3⟩
        · obtain rfl : k = l.length := by omega
          have hfin : printGo p l [] = (acc, 0) := by rw [hpr.out, List.drop_length]; rfl
          have hps2 : PS = if 1048576 < acc.length then ([], 2) else (acc, 0) := by rw [HPS.out, hfin]; simp
          have HF := Lib.hid hps2
          have hlen := Lib.byteCells_length acc
          clear hfin hps2 hpr
          by_cases hbig : 1048576 < acc.length
          · have hb2 : (1048576 : Int) < (Lib.byteCells acc).length := by rw [hlen]; omega
            go_wp2_with (first | (go_at_call 65; refine (Tryz.Builder_Len_f _ _ _ _ hbd).mono ?_; rintro e w3 ⟨rfl, rfl⟩))
            go_ret2
            rw [HF.out, if_pos hbig]
            exact ⟨rfl, hwr⟩
          · have hb2 : ¬ (1048576 : Int) < (Lib.byteCells acc).length := by rw [hlen]; omega
            go_wp2_with (first | (go_at_call 65; refine (Tryz.Builder_Len_f _ _ _ _ hbd).mono ?_; rintro e w3 ⟨rfl, rfl⟩) | (go_at_call 57; refine (Tryz.Builder_String_any_k _ _ _ _ hbd (builder_ge hbd)).mono ?_; rintro e w4 ⟨rfl, hbd4, hb4, _⟩))
            go_ret2
            rw [HF.out, if_neg hbig]
            exact ⟨rfl, Below.trans hwr (Below.mono hb4 hg1.size)⟩
end Go.Proofs.YtndhhgpmpnmljaaGreatDoor
