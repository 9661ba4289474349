import Derived.Test.YtndhhgpmpnmljaaDoorMat3
import Derived.Test.YtndhhgpmpnmljaaDoorPrintB
namespace Go.Proofs.YtndhhgpmpnmljaaDoor
open Go Go.RowKit
attribute [local go_sem] quietE

theorem owns_oth {α : Type} {w w' : World} {base b : Nat} {e u : TypeId} {k : Nat} {enc : α → List Value} {v : Value} {xs : List α} (h : Owns w base e k enc v xs) (hk : Lib.OthersKept u (some b) w w') (hb : b < base) (he : e ≠ u) : Owns w' base e k enc v xs := by
  refine ⟨h.1, h.2.imp_right ?_⟩
  rintro ⟨g, cap, cur, hv, hbg, hh, r⟩
  exact ⟨g, cap, cur, hv, hbg, hk g _ hh (by intro h; cases h; omega) (by intro c fz h; cases h; exact he rfl), r⟩

def lineP (p : List PosV) (m : Mx) (i : Nat) : List UInt8 :=
  ((((nameAt p (i / m.n : Nat)).data.toList ++ [9]) ++ (nameAt p (i % m.n : Nat)).data.toList) ++ [9]) ++ Lib.itoa (m.cs.getD i 0) ++ [10]
def Mx.print (p : List PosV) (m : Mx) : List UInt8 := ([100, 101, 102, 97, 117, 108, 116, 9] ++ Lib.itoa m.d ++ [10]) ++ m.idx.flatMap (lineP p m)
def matPrint (p : List PosV) (m : Mx) : List UInt8 × Int := if posValid p = true ∧ p.length = m.n then (m.print p, 0) else ([], 5)

set_option maxHeartbeats 4000000 in
set_option maxRecDepth 100000 in
theorem matPrint_any (w : World) (mb bm : Nat) (m : Mx) (h : MatAt w mb bm m) (p : List PosV) (pa : Option Addr) (pcap : Nat) (hp : p.length ≤ 4611686018427387904) (he : Env w) (hpt : AtCells w pa 2 (p.map posCells)) :
    Calls Tryd.prog 9 #[.pointer (some ⟨mb, 0, none⟩), .slice pa p.length pcap] w fun e w' => e = .returned (.tuple #[.string ⟨(matPrint p m).1.toArray⟩, .int .i64 (matPrint p m).2]) ∧ Grows w w' := by
  have CC := Lib.hid (check_any p pa pcap w hpt hp)
  have c0 := h.c0
  cases hv : posValid p
  · have hq : matPrint p m = ([], 5) := by unfold matPrint; rw [hv]; simp
    rw [hq]
    rw [hv] at CC
    clear hq hv
    go_enter Tryd.func9, Tryd.ntmps9
    go_wp2_with (first | (go_at_call 25; refine CC.out.mono ?_; rintro e w1 ⟨rfl, hg1⟩))
    go_ret2
    exact ⟨rfl, hg1⟩
  · by_cases hlen : p.length = m.n
    · rw [hv] at CC
      have hq : matPrint p m = (m.print p, 0) := by unfold matPrint; rw [if_pos ⟨hv, hlen⟩]
      rw [hq]
      have HNS : Hid (∀ (i : Nat) (q : PosV), p[i]? = some q → q.name.size ≤ 16) := fun i q hq => name_size hv hq
      clear hq hv
      have HLEN := Lib.hid hlen
      have hok := h.ok
      have hn1 := hok.n1
      have hn2 := hok.n2
      have hd1 := hok.d1
      have hd2 := hok.d2
      have HM := Lib.hid h
      have c1 := h.c1
      have hlen2 : (p.length : Int) = m.n := by omega
      clear h hlen
      go_enter Tryd.func9, Tryd.ntmps9
      go_wp2_with (first | (go_at_call 25; refine CC.out.mono ?_; rintro e w1 ⟨rfl, hg1⟩; replace c0 := hg1.cell c0; replace c1 := hg1.cell c1; have c1a := (Grows.alloc w1 (.cells #[.pointer none, .slice none 0 0] 62)).cell c1))
      have hgA := hg1.al (.cells #[.pointer none, .slice none 0 0] 62)
      refine (itoa_any _ _ hd1 hd2 (he.grows hgA)).mono ?_
      rintro e w2 ⟨rfl, hg2⟩
      have hg02 := hgA.tr hg2
      have hI := Lib.itoa_length_le m.d (by omega) (by omega)
      clear c0 c1 c1a
      go_wp2_with fail
      refine (Tryd.Builder_WriteString_k w1.heap.size w1.heap.size (Lib.byteCells []) _ w2 (isBuilder_grows (Lib.IsBuilderF.of (Lib.fresh_isBuilder _ _ w1)) hg2) ?hl ?hs).mono ?_
      case hl => rw [Lib.byteCells_length]; simp [ByteArray.size]; omega
      case hs => have := hg2.size; simp at this; omega
      rintro e w3 ⟨rfl, hbd3, hb3, _⟩
      obtain ⟨B3, hB3⟩ : ∃ B, B = [100, 101, 102, 97, 117, 108, 116, 9] ++ Lib.itoa m.d ++ [10] := ⟨_, rfl⟩
      have hbdB : Lib.IsBuilderF 62 5 w1.heap.size w1.heap.size (Lib.byteCells B3) w3 := Or.inr (builder_more (acc := []) (L := B3) hbd3 (by rw [hB3]; simp))
      have hl3 : B3.length ≤ 64 := by rw [hB3]; simp; omega
      have HB3 : Hid (m.print p = B3 ++ m.idx.flatMap (lineP p m)) := by show m.print p = _; rw [hB3]; rfl
      clear hB3 hbd3
      have hg13 : Grows w1 w3 := Below.trans ((Grows.alloc w1 _).tr hg2) hb3
      have hg03 := hg1.tr hg13
      have hlt13 : w1.heap.size < w3.heap.size := by
        have h1 := hg2.size
        have h2 := Below.size hb3
        simp at h1
        omega
      go_wp2_with fail
      refine (pairs_any w3 mb bm m (HM.out.grows hg03)).mono ?_
      rintro e w4 ⟨v4, rfl, hown4, hg4⟩
      obtain ⟨a4, k4, rfl, h41, h42, _⟩ := hown4.at_ (enc := pairC) (fun _ => rfl)
      have hpl : m.pairs.length = m.idx.length := by unfold Mx.pairs; rw [List.length_map]
      rw [hpl] at h41 hown4 ⊢
      have hil := Mx.idx_len hok
      have hbd4 := isBuilder_grows hbdB hg4
      have hg14 := hg13.tr hg4
      clear hbdB hb3 hI hg02 hgA hg2 CC
      go_wp2_with fail
      go_loopw [34] (fun i wx => ∃ (k : Nat) (acc : List UInt8), k ≤ m.idx.length ∧ i = .int .i64 k ∧ Lib.IsBuilderF 62 5 w1.heap.size w1.heap.size (Lib.byteCells acc) wx ∧ Owns wx w3.heap.size 71 2 pairC (.slice a4 m.idx.length k4) m.pairs ∧ acc.length ≤ 64 + k * 64 ∧ Hid (m.print p = acc ++ (m.idx.drop k).flatMap (lineP p m)) ∧ Grows w1 wx) (fun i _ => m.idx.length - (intOf i).toNat)
      case atStart => exact ⟨0, B3, Nat.zero_le _, rfl, hbd4, hown4, by omega, HB3, hg14⟩
      case round =>
        obtain ⟨k, acc, hk, rfl, hbd, hown, hal, hE, hgx⟩ := hrel
        have hgw := hg1.tr hgx
        by_cases hlt : k < m.idx.length
        · obtain ⟨i, hi⟩ : ∃ i, m.idx[k]? = some i := ⟨_, List.getElem?_eq_getElem hlt⟩
          obtain ⟨hin, hpi, hc0, hc1, hcost⟩ := Mx.idx_get hok hi
          have hdrop : m.idx.drop k = i :: m.idx.drop (k + 1) := by
            rw [List.drop_eq_getElem_cons hlt]
            rw [List.getElem?_eq_getElem hlt] at hi
            rw [Option.some.inj hi]
          obtain ⟨C, hC⟩ : ∃ C, m.cs.getD i 0 = C := ⟨_, rfl⟩
          have hpn := pairAt_in hin
          have hcs : m.cost (pairAt m.n i) = C := by rw [hcost, hC]
          obtain ⟨r, hr⟩ : ∃ r : Nat, r = i / m.n := ⟨_, rfl⟩
          obtain ⟨q, hq⟩ : ∃ q : Nat, q = i % m.n := ⟨_, rfl⟩
          have hpe : pairAt m.n i = ((r : Int), (q : Int)) := by rw [hr, hq]; rfl
          rw [hpe] at hpi hpn hcs
          have hrl : r < p.length := by have := inP_iff.1 hpn.1; simp only at this; omega
          have hql : q < p.length := by have := inP_iff.1 hpn.1; simp only at this; omega
          have hrm : r < m.n := by omega
          have hqm : q < m.n := by omega
          obtain ⟨P1, hP1⟩ : ∃ x, p[r]? = some x := ⟨_, List.getElem?_eq_getElem hrl⟩
          obtain ⟨P2, hP2⟩ : ∃ x, p[q]? = some x := ⟨_, List.getElem?_eq_getElem hql⟩
          have hs1 := HNS.out _ _ hP1
          have hs2 := HNS.out _ _ hP2
          have hline : lineP p m i = ((((P1.name.data.toList ++ [9]) ++ P2.name.data.toList) ++ [9]) ++ Lib.itoa C) ++ [10] := by
            unfold lineP nameAt
            rw [← hr, ← hq, hC]
            simp [hP1, hP2]
          have HL := Lib.hid hline
          have hIC := Lib.itoa_length_le C (by omega) (by omega)
          have t1 : ¬ 9223372036854775807 < P1.name.size + 1 := by omega
          have t2 : ¬ 9223372036854775807 < P1.name.size + 1 + P2.name.size := by omega
          have t3 : ¬ 9223372036854775807 < P1.name.size + 1 + P2.name.size + 1 := by omega
          have t4 : ¬ 9223372036854775807 < P1.name.size + 1 + P2.name.size + 1 + (Lib.itoa C).length := by omega
          have t5 : ¬ 9223372036854775807 < P1.name.size + 1 + P2.name.size + 1 + (Lib.itoa C).length + 1 := by omega
          have hll : (lineP p m i).length ≤ 64 := by
            have q3 := Lib.size_eq P1.name
            have q4 := Lib.size_eq P2.name
            rw [hline]
            simp only [List.length_append, List.length_cons, List.length_nil]
            omega
          have HNX : Hid (m.print p = (acc ++ lineP p m i) ++ (m.idx.drop (k + 1)).flatMap (lineP p m)) := by
            show m.print p = _
            rw [hE.out, hdrop]; simp
          obtain ⟨pb, poff, rfl, hpc⟩ := (hpt.grows hgw).get (ne_nil_of_lt hrl)
          have f1 : wr.cell? ⟨pb, poff + r * 2, none⟩ = some (.string P1.name) := hpc r P1 hP1 0 _ rfl
          have f2 : wr.cell? ⟨pb, poff + q * 2, none⟩ = some (.string P2.name) := hpc q P2 hP2 0 _ rfl
          obtain ⟨a5, k5, he5, _, _, hat5⟩ := hown.at_ (enc := pairC) (fun _ => rfl)
          obtain rfl : a4 = a5 := (Value.slice.inj he5).1
          clear he5
          obtain ⟨lb, lo, rfl, hcp⟩ := hat5.get (ne_nil_of_lt (k := k) (by omega))
          have p0 : wr.cell? ⟨lb, lo + k * 2, none⟩ = some (.int .i64 r) := hcp k _ hpi 0 _ rfl
          have p1 : wr.cell? ⟨lb, lo + k * 2 + 1, none⟩ = some (.int .i64 q) := hcp k _ hpi 1 _ rfl
          have hw := wf_of_in hn2 hpn.1
          have hkey := keyP (x := ((r : Int), (q : Int))) hw.1 hw.2
          obtain ⟨D, hownM, hMM⟩ := HM.out.own
          have HLK : Hid (∀ W, Grows w W → (Instr.lookup 53 (.map (some bm)) (.agg #[.int .i64 r, .int .i64 q]) false).run Tryd.prog W = .ok (.int .i64 C) W) := fun W hW => by
            obtain ⟨c, hrun, hat, _⟩ := (ownsMap_grows hownM hW).lookup_int keyedP Tryd.underlying53 Tryd.underlying3 (zeroI2 W) hkey
            have hne : m.cs.getD i 0 ≠ m.d := (Mx.mem_idx.1 (List.mem_of_getElem? hi)).2
            have hhas := (hMM ((r : Int), (q : Int)) hw.1 hw.2).1
            have h1 : Maps.has D (klP ((r : Int), (q : Int))) = true := by
              rw [hhas, hpn.1, hcs, ← hC]
              simpa using hne
            have h2 := (hMM.look hok hpn.1 hat).1 h1
            rw [hcs] at h2
            rw [h2] at hrun
            exact hrun
          have hC0 : 0 ≤ C := by omega
          have hC1 : C ≤ 30000 := by omega
          have c2 := (HM.out.grows hgw).c2
          have hEw : Env wr := he.grows hgw
          clear hcp hpi hdrop hin hE hc0 hc1 hcost hpn hcs hkey hw hi hpe hr hq hC hline hP1 hP2 hpc hs1 hs2 hownM hMM
          go_wp2_with fail
          have z0 : ∀ x : Ext Grows (wr.alloc (.cells #[.int .i64 r, .int .i64 q] 71)).drew, x.u.cell? ⟨wr.heap.size, 0, none⟩ = some (.int .i64 r) := ext_cell (cell_box wr _ _ (0, 0) 0 _ rfl)
          have z1 : ∀ x : Ext Grows (wr.alloc (.cells #[.int .i64 r, .int .i64 q] 71)).drew, x.u.cell? ⟨wr.heap.size, 1, none⟩ = some (.int .i64 q) := ext_cell (cell_box wr _ _ (0, 0) 1 _ rfl)
          have hgl := (Grows.alloc wr (.cells #[.int .i64 r, .int .i64 q] 71)).dr
          have z2 : ∀ x : Ext Grows (wr.alloc (.cells #[.int .i64 r, .int .i64 q] 71)).drew, x.u.cell? ⟨mb, 2, none⟩ = some (.map (some bm)) := ext_cell (hgl.cell c2)
          have z3 : ∀ x : Ext Grows (wr.alloc (.cells #[.int .i64 r, .int .i64 q] 71)).drew, x.u.cell? ⟨pb, poff + r * 2, none⟩ = some (.string P1.name) := ext_cell (hgl.cell f1)
          have z4 : ∀ x : Ext Grows (wr.alloc (.cells #[.int .i64 r, .int .i64 q] 71)).drew, x.u.cell? ⟨pb, poff + q * 2, none⟩ = some (.string P2.name) := ext_cell (hgl.cell f2)
          have z5 : ∀ x : Ext Grows (wr.alloc (.cells #[.int .i64 r, .int .i64 q] 71)).drew, (Instr.lookup 53 (.map (some bm)) (.agg #[.int .i64 r, .int .i64 q]) false).run Tryd.prog x.u = .ok (.int .i64 C) x.u := fun x => HLK.out _ ((hgw.tr hgl).tr x.h)
          refine s_tail Grows 24 [(0, false), (1, false), (2, false), (3, false), (4, false), (5, false), (6, false), (7, false), (8, false), (9, false), (10, false), (11, false), (12, false), (13, false), (14, false), (15, false), (16, false), (17, false), (18, false), (19, false), (20, false), (21, false), (22, false), (23, false)] Grows.refl Grows.trans (by kernel_rfl) (by kernel_rfl) (fun d _ _ _ _ h => by cases d <;> exact h) ?_
          iterate 21 (refine s_quiet rfl (fun K hK => ?_); go_simp; refine hK _ ?_; clear hK K)
          refine s_quiet rfl (fun K hK => ?_)
          go_simp
          apply Exists.intro
          refine ⟨fun x => ?_, hK _ ?_⟩
          · exact calls_ext (itoa_any _ _ hC0 hC1 ((hEw.grows hgl).grows x.h))
          clear hK K
          iterate 2 (refine s_quiet rfl (fun K hK => ?_); go_simp; refine hK _ ?_; clear hK K)
          refine s_end (fun w6 h6 => ?_)
          simp only [List.drop_succ_cons, List.drop_zero]
          have hg6 : Grows wr w6 := hgl.tr h6
          clear z0 z1 z2 z3 z4 z5 hgl h6 f1 f2 p0 p1 c2 HLK
          go_wp2_with fail
          have hWS := fun (s : ByteArray) (hs : s.data.toList = lineP p m i) => Lib.hid (Tryd.Builder_WriteString_k w1.heap.size w1.heap.size (Lib.byteCells acc) s w6 (isBuilder_grows hbd hg6) (by
            have h9 := Lib.size_eq s
            rw [hs] at h9
            rw [Lib.byteCells_length]
            omega) (Nat.le_trans (builder_ge hbd) hg6.size))
          refine (hWS _ (by rw [HL.out]; simp)).out.mono ?_
          rintro e w7 ⟨rfl, hbd7, hb7, hk7⟩
          go_wp2_with fail
          have hgw7 : Grows w1 w7 := Below.trans (hgx.tr hg6) hb7
          have hown7 := owns_oth (hown.grows hg6) hk7 hlt13 (by decide)
          go_roundw
          case rel => exact ⟨k + 1, acc ++ lineP p m i, hlt, by go_num, Or.inr (builder_more (L := lineP p m i) hbd7 (by rw [HL.out]; simp)), hown7, by rw [List.length_append]; omega, HNX, hgw7⟩
          case measure => simp [intOf]; omega
        · obtain rfl : k = m.idx.length := by omega
          have hfin := hE.out
          rw [List.drop_length] at hfin
          have hfin2 : m.print p = acc := by rw [hfin]; simp
          have HF := Lib.hid hfin2
          clear hfin hfin2 hE
          go_wp2_with (first | (go_at_call 29; refine (Tryd.Builder_String_any_k _ _ _ _ hbd (builder_ge hbd)).mono ?_; rintro e w5 ⟨rfl, hbd5, hb5, _⟩))
          go_ret2
          rw [HF.out]
          exact ⟨rfl, Below.trans hgw (Below.mono hb5 hg1.size)⟩
    · rw [hv] at CC
      have hq : matPrint p m = ([], 5) := by unfold matPrint; rw [if_neg (fun h => hlen h.2)]
      rw [hq]
      have hl2 : ¬ (p.length : Int) = m.n := by omega
      clear hq hv hlen h
      go_enter Tryd.func9, Tryd.ntmps9
      go_wp2_with (first | (go_at_call 25; refine CC.out.mono ?_; rintro e w1 ⟨rfl, hg1⟩; replace c0 := hg1.cell c0))
      go_ret2
      exact ⟨rfl, hg1⟩
end Go.Proofs.YtndhhgpmpnmljaaDoor
