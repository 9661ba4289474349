import Derived.Test.YtndhhgpmpnmljaaDoorRefM2
import Derived.Test.YtndhhgpmpnmljaaDoorEncP
import Derived.Test.YtndhhgpmpnmljaaDoorOrdT
import Derived.Test.YtndhhgpmpnmljaaDoorMat5
import Derived.Test.YtndhhgpmpnmljaaDoorDec16
namespace Go.Proofs.YtndhhgpmpnmljaaDoor
open Go Go.RowKit Go.Shelf
attribute [local go_sem] quietE quietE2

theorem itoa_nat (c : Nat) : Lib.itoa (c : Int) = Lib.decDigits c := by
  unfold Lib.itoa
  rw [if_neg (by omega), Int.toNat_natCast]
set_option maxHeartbeats 8000000 in
set_option maxRecDepth 100000 in
theorem rprint_any (w : World) (rb : Nat) (m : Mx) (h : RefAt w rb m) (p : List PosV) (pa : Option Addr) (pcap : Nat) (hv : posValid p = true) (hlen : p.length = m.n) (hpt : AtCells w pa 2 (p.map posCells)) :
    Calls Tryd.prog 15 #[.pointer (some ⟨rb, 0, none⟩), .slice pa p.length pcap] w fun e w' => e = .returned (.string (mkB (m.print p))) ∧ Grows w w' := by
  have c0 := h.c0
  have c1 := h.c1
  have hok := h.ok
  have hn1 := hok.n1
  have hn2 := hok.n2
  have hd1 := hok.d1
  have hd2 := hok.d2
  have hml := hok.len
  have hcs := hok.cost
  have HNS : Hid (∀ (i : Nat) (q : PosV), p[i]? = some q → q.name.size ≤ 16) := fun i q hq => name_size hv hq
  obtain ⟨g, cap, c2, _, hgl, hcell, _, _⟩ := h.costs
  obtain ⟨d, hd⟩ : ∃ d : Nat, m.d = d := ⟨m.d.toNat, by omega⟩
  rw [hd] at c1
  have hdb : d ≤ 30000 := by omega
  have hnn : m.n * m.n ≤ 4096 := Nat.mul_le_mul hn2 hn2
  obtain ⟨N2, hN2⟩ : ∃ N2, N2 = m.cs.length := ⟨_, rfl⟩
  have hN2b : N2 ≤ 4096 := by omega
  have HFULL : Hid (m.idxTo N2 = m.idx) := by show m.idxTo N2 = m.idx; rw [hN2, idxTo_full hok]
  have hNM := Lib.hid (hN2.trans hml)
  rw [← hN2] at c2
  have HC : Hid (∀ (k : Nat), k < N2 → ∃ c : Nat, m.cs[k]? = some (c : Int) ∧ c ≤ 30000) := fun k hk => by
    have h9 : k < m.cs.length := by omega
    have h8 := hcs _ (List.getElem_mem h9)
    exact ⟨(m.cs[k]).toNat, by rw [List.getElem?_eq_getElem h9]; congr 1; omega, by omega⟩
  have HCELL := Lib.hid hcell
  have HPT := Lib.hid hpt
  have HD := Lib.hid hd
  have hz1 := decDigits_short 5 d (by omega) (by omega)
  have hsz : (mkB (Lib.decDigits d)).size ≤ 5 := by rw [Lib.size_eq, mkB_data]; exact hz1
  have hhead : ([100, 101, 102, 97, 117, 108, 116, 9] ++ Lib.itoa m.d ++ [10] : List UInt8) = [100, 101, 102, 97, 117, 108, 116, 9] ++ (mkB (Lib.decDigits d)).data.toList ++ [10] := by rw [hd, itoa_nat, mkB_data]
  have HH := Lib.hid hhead
  have CD := fun W => Lib.hid (dec16_any d d (Nat.le_refl _) (by omega) W)
  generalize mkB (Lib.decDigits d) = ds at *
  clear h hok hml hcs hcell hN2 hnn hd hd1 hd2 hpt hv hhead hz1
  go_enter Tryd.func15, Tryd.ntmps15
  go_wp2_with fail
  refine (CD _).out.mono ?_
  rintro e w1 ⟨rfl, rfl⟩
  go_wp2_with fail
  go_loopw [5, 6] (fun o i wx => ∃ (k : Nat) (s : ByteArray), k ≤ N2 ∧ i = .int .i64 k ∧ o = .string s ∧ s.size ≤ 64 + k * 64 ∧ Hid (s.data.toList = ([100, 101, 102, 97, 117, 108, 116, 9] ++ Lib.itoa m.d ++ [10]) ++ (m.idxTo k).flatMap (lineP p m)) ∧ Grows w wx) (fun _ i _ => N2 - (intOf i).toNat)
  case atStart =>
    have e : ((⟨#[100, 101, 102, 97, 117, 108, 116, 9]⟩ : ByteArray) ++ ds ++ ⟨#[10]⟩).data.toList = [100, 101, 102, 97, 117, 108, 116, 9] ++ ds.data.toList ++ [10] := by simp
    refine ⟨0, (⟨#[100, 101, 102, 97, 117, 108, 116, 9]⟩ : ByteArray) ++ ds ++ ⟨#[10]⟩, Nat.zero_le _, rfl, rfl, ?_, ?_, Grows.refl _⟩
    · rw [Lib.size_eq, e]
      have := Lib.size_eq ds
      simp only [List.length_append, List.length_cons, List.length_nil]
      omega
    · show _ = _
      rw [e, HH.out]
      show _ = _ ++ []
      simp
  case round =>
    obtain ⟨k, s, hk, rfl, rfl, hss, hinv, hg⟩ := hrel
    replace c0 := hg.cell c0
    replace c1 := hg.cell c1
    replace c2 := hg.cell c2
    by_cases hlt : k < N2
    · obtain ⟨c, hc, hcb⟩ := HC.out k hlt
      have cc := hg.cell (HCELL.out k c hc)
      have z0 : ∀ x : Ext Grows wr.drew, x.u.cell? ⟨rb, 0, none⟩ = some (.int .i64 m.n) := ext_cell ((Grows.drew wr).cell c0)
      have z1 : ∀ x : Ext Grows wr.drew, x.u.cell? ⟨rb, 1, none⟩ = some (.int .i64 d) := ext_cell ((Grows.drew wr).cell c1)
      have z2 : ∀ x : Ext Grows wr.drew, x.u.cell? ⟨rb, 2, none⟩ = some (.slice (some ⟨g, 0, none⟩) N2 cap) := ext_cell ((Grows.drew wr).cell c2)
      have z3 : ∀ x : Ext Grows wr.drew, x.u.cell? ⟨g, k, none⟩ = some (.int .i64 c) := ext_cell ((Grows.drew wr).cell cc)
      have HCk := Lib.hid hc
      clear hc
      by_cases hcd : c = d
      · subst hcd
        have HN : Hid (m.idxTo (k + 1) = m.idxTo k) := idxTo_miss (by rw [HD.out]; simp [List.getD, HCk.out])
        go_wp2_with fail
        refine t_region (Grows) [(0, false), (1, false), (2, false), (3, false), (4, false), (5, false), (6, false), (7, false), (8, false), (9, false), (10, false), (11, false)] Grows.refl Grows.trans (by kernel_rfl) (by kernel_rfl) (fun d _ _ _ _ h => by cases d <;> exact h) ?_
        iterate 12 (refine t_quiet rfl (fun K hK => ?_); go_simp; refine hK _ ?_; clear hK K)
        refine t_end ?_
        clear z0 z1 z2 z3
        go_wp2_with fail
        go_roundw
        case rel => exact ⟨k + 1, s, hlt, by go_num, rfl, by omega, by rw [HN.out]; exact hinv.out, hg.dr⟩
        case measure => simp [intOf]; omega
      · have hcd2 : ((c : Int) == (d : Int)) = false := by rw [beq_eq_false_iff_ne]; omega
        have HN : Hid (m.idxTo (k + 1) = m.idxTo k ++ [k]) := idxTo_hit (by rw [HD.out]; simp [List.getD, HCk.out]; omega)
        obtain ⟨r, hr⟩ : ∃ r : Nat, r = k / m.n := ⟨_, rfl⟩
        obtain ⟨q, hq⟩ : ∃ q : Nat, q = k % m.n := ⟨_, rfl⟩
        have hpn := (pairAt_in (n := m.n) (i := k) (by rw [← hNM.out]; exact hlt)).1
        have hpe : pairAt m.n k = ((r : Int), (q : Int)) := by rw [hr, hq]; rfl
        rw [hpe] at hpn
        have hrl : r < p.length := by have := inP_iff.1 hpn; simp only at this; omega
        have hql : q < p.length := by have := inP_iff.1 hpn; simp only at this; omega
        obtain ⟨P1, hP1⟩ : ∃ x, p[r]? = some x := ⟨_, List.getElem?_eq_getElem hrl⟩
        obtain ⟨P2, hP2⟩ : ∃ x, p[q]? = some x := ⟨_, List.getElem?_eq_getElem hql⟩
        have hs1 := HNS.out _ _ hP1
        have hs2 := HNS.out _ _ hP2
        have hz1 := decDigits_short 5 c (by omega) (by omega)
        have hsz2 : (mkB (Lib.decDigits c)).size ≤ 5 := by rw [Lib.size_eq, mkB_data]; exact hz1
        have hline : lineP p m k = ((((P1.name.data.toList ++ [9]) ++ P2.name.data.toList) ++ [9]) ++ (mkB (Lib.decDigits c)).data.toList) ++ [10] := by
          unfold lineP nameAt
          rw [← hr, ← hq, show m.cs.getD k 0 = (c : Int) by simp [List.getD, HCk.out], itoa_nat, mkB_data]
          simp [hP1, hP2]
        have HL := Lib.hid hline
        have CD2 := fun W => Lib.hid (dec16_any c c (Nat.le_refl _) (by omega) W)
        generalize mkB (Lib.decDigits c) = dc at *
        obtain ⟨pb, poff, rfl, hpc⟩ := (HPT.out.grows hg).get (ne_nil_of_lt hrl)
        have f1 : wr.cell? ⟨pb, poff + r * 2, none⟩ = some (.string P1.name) := hpc r P1 hP1 0 _ rfl
        have f2 : wr.cell? ⟨pb, poff + q * 2, none⟩ = some (.string P2.name) := hpc q P2 hP2 0 _ rfl
        have hdv : (k : Int) / m.n = r := by rw [hr]; simp
        have hmd : (k : Int).tmod m.n = q := by rw [hq, Int.ofNat_tmod]
        have hnz : ¬ m.n = 0 := by omega
        have wR : IntKind.i64.wrap (r : Int) = r := by simp [IntKind.wrap, IntKind.bits, IntKind.signed]; omega
        have wQ : IntKind.i64.wrap (q : Int) = q := by simp [IntKind.wrap, IntKind.bits, IntKind.signed]; omega
        have hrm : r < m.n := by omega
        have hqm : q < m.n := by omega
        have t1 : ¬ 9223372036854775807 < s.size + P1.name.size := by omega
        have t2 : ¬ 9223372036854775807 < s.size + P1.name.size + 1 := by omega
        have t3 : ¬ 9223372036854775807 < s.size + P1.name.size + 1 + P2.name.size := by omega
        have t4 : ¬ 9223372036854775807 < s.size + P1.name.size + 1 + P2.name.size + 1 := by omega
        have t5 : ¬ 9223372036854775807 < s.size + P1.name.size + 1 + P2.name.size + 1 + dc.size := by omega
        have t6 : ¬ 9223372036854775807 < s.size + P1.name.size + 1 + P2.name.size + 1 + dc.size + 1 := by omega
        clear hpn hpe hP1 hP2 hline hpc hz1 hr hq
        go_wp2_with fail
        refine t_region (Grows) [(0, false), (1, false), (2, false), (3, false), (4, false), (5, false), (6, false), (7, false), (8, false), (9, false), (10, false), (11, false)] Grows.refl Grows.trans (by kernel_rfl) (by kernel_rfl) (fun d _ _ _ _ h => by cases d <;> exact h) ?_
        iterate 12 (refine t_quiet rfl (fun K hK => ?_); go_simp; refine hK _ ?_; clear hK K)
        refine t_end ?_
        clear z0 z1 z2 z3
        go_wp2_with fail
        have y0 : ∀ x : Ext Grows wr.drew.drew, x.u.cell? ⟨rb, 0, none⟩ = some (.int .i64 m.n) := ext_cell ((Grows.drew wr).dr.cell c0)
        have y2 : ∀ x : Ext Grows wr.drew.drew, x.u.cell? ⟨rb, 2, none⟩ = some (.slice (some ⟨g, 0, none⟩) N2 cap) := ext_cell ((Grows.drew wr).dr.cell c2)
        have y3 : ∀ x : Ext Grows wr.drew.drew, x.u.cell? ⟨g, k, none⟩ = some (.int .i64 c) := ext_cell ((Grows.drew wr).dr.cell cc)
        have y4 : ∀ x : Ext Grows wr.drew.drew, x.u.cell? ⟨pb, poff + r * 2, none⟩ = some (.string P1.name) := ext_cell ((Grows.drew wr).dr.cell f1)
        have y5 : ∀ x : Ext Grows wr.drew.drew, x.u.cell? ⟨pb, poff + q * 2, none⟩ = some (.string P2.name) := ext_cell ((Grows.drew wr).dr.cell f2)
        refine t_region (Grows) [(0, false), (1, false), (2, false), (3, false), (4, false), (5, false), (6, false), (7, false), (8, false), (9, false), (10, false), (11, false), (12, false), (13, false), (14, false), (15, false), (16, false), (17, false), (18, false), (19, false), (20, false), (21, false), (22, false), (23, false), (24, false), (25, false), (26, false), (27, false), (28, false), (29, false), (30, false), (31, false), (32, false), (33, false), (34, false), (35, false)] Grows.refl Grows.trans (by kernel_rfl) (by kernel_rfl) (fun d _ _ _ _ h => by cases d <;> exact h) ?_
        iterate 32 (refine t_quiet rfl (fun K hK => ?_); go_simp; refine hK _ ?_; clear hK K)
        refine t_quiet rfl (fun K hK => ?_)
        go_simp
        apply Exists.intro
        refine ⟨fun x => ?_, hK _ ?_⟩
        · go_at_call 35; exact calls_same (CD2 _).out
        clear hK K
        iterate 3 (refine t_quiet rfl (fun K hK => ?_); go_simp; refine hK _ ?_; clear hK K)
        refine t_end ?_
        clear y0 y2 y3 y4 y5
        go_wp2_with fail
        go_roundw
        case rel => exact ⟨k + 1, _, hlt, by go_num, rfl, by
          have g9 : (⟨#[9]⟩ : ByteArray).size = 1 := rfl
          have g10 : (⟨#[10]⟩ : ByteArray).size = 1 := rfl
          simp
          omega, by
          show _ = _
          rw [HN.out, List.flatMap_append, ← List.append_assoc, ← hinv.out]
          simp [HL.out], hg.dr.dr⟩
        case measure => simp [intOf]; omega
    · obtain rfl : k = N2 := by omega
      go_wp2_with fail
      go_ret
      have hfin : s = mkB (m.print p) := bytes_ext (by rw [hinv.out, mkB_data, HFULL.out]; rfl)
      rw [hfin]
      exact ⟨rfl, hg⟩
end Go.Proofs.YtndhhgpmpnmljaaDoor
