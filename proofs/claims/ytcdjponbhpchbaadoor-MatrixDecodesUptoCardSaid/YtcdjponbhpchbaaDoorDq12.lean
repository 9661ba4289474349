/- The texts RefE16 RefDec DecN, one behind the other. -/
import Derived.Test.YtcdjponbhpchbaaDoorDq11
import Derived.Test.YtcdjponbhpchbaaDoorDq7
import Derived.Test.YtcdjponbhpchbaaDoorDq8
import Derived.Test.YtcdjponbhpchbaaDoorDq9
namespace Go.Proofs.YtcdjponbhpchbaaDoor
open Go Go.RowKit
attribute [local go_sem] quietE quietE2

set_option maxHeartbeats 8000000 in
set_option maxRecDepth 100000 in
theorem renc_any (w : World) (rb : Nat) (m : Mx) (h : RefAt w rb m) : Calls Tryd.prog 15 #[.pointer (some ⟨rb, 0, none⟩)] w fun e w' => ∃ v, e = .returned v ∧ Owns w' w.heap.size 5 1 byteC v m.enc ∧ Grows w w' := by
  have c0 := h.c0
  have c1 := h.c1
  have hok := h.ok
  have hn1 := hok.n1
  have hn2 := hok.n2
  have hd1 := hok.d1
  have hd2 := hok.d2
  have hlen := hok.len
  have hcs := hok.cost
  obtain ⟨g, cap, c2, _, hgl, hcell, _, _⟩ := h.costs
  have hrbl := h.lt
  obtain ⟨d, hd⟩ : ∃ d : Nat, m.d = d := ⟨m.d.toNat, by omega⟩
  have HFIN := fun (n : Nat) (L : Int) (acc : List UInt8) (hi : EncInv m m.cs.length n L acc) => Lib.hid (hi.fin hok d hd)
  rw [hd] at c1
  have hdb : d ≤ 30000 := by omega
  have hnn : m.n * m.n ≤ 4096 := Nat.mul_le_mul hn2 hn2
  obtain ⟨N2, hN2⟩ : ∃ N2, N2 = m.cs.length := ⟨_, rfl⟩
  have hN2b : N2 ≤ 4096 := by omega
  rw [← hN2] at c2 HFIN
  have HC : Hid (∀ (k : Nat), k < N2 → ∃ c : Nat, m.cs[k]? = some (c : Int) ∧ c ≤ 30000) := fun k hk => by
    have h9 : k < m.cs.length := by omega
    have h8 := hcs _ (List.getElem_mem h9)
    exact ⟨(m.cs[k]).toNat, by rw [List.getElem?_eq_getElem h9]; congr 1; omega, by omega⟩
  have HCELL := Lib.hid hcell
  have HD := Lib.hid hd
  clear h hok hlen hcs hcell hN2 hnn hd hd1 hd2
  go_enter Tryd.func15, Tryd.ntmps15
  go_wp2_with fail
  go_loopw [3, 4, 5, 6] (fun n r l i wx => ∃ (k cnt : Nat) (L : Int) (acc : List UInt8), k ≤ N2 ∧ i = .int .i64 k ∧ n = .int .i64 cnt ∧ l = .int .i64 L ∧ Owns wx w.heap.size 5 1 byteC r acc ∧ Hid (EncInv m k cnt L acc) ∧ Grows w wx) (fun _ _ _ i _ => N2 - (intOf i).toNat)
  case atStart => exact ⟨0, 0, -1, [], Nat.zero_le _, rfl, rfl, rfl, Owns.nil _ _ _ _ _, EncInv.start m, Grows.refl _⟩
  case round =>
    obtain ⟨k, cnt, L, acc, hk, rfl, rfl, rfl, hown, hinv, hg⟩ := hrel
    have hi1 := hinv.out.lo
    have hi2 := hinv.out.hi
    have hi3 := hinv.out.len
    have hi4 := hinv.out.num_le
    replace c0 := hg.cell c0
    replace c1 := hg.cell c1
    replace c2 := hg.cell c2
    by_cases hlt : k < N2
    · obtain ⟨c, hc, hcb⟩ := HC.out k hlt
      have cc := hg.cell (HCELL.out k c hc)
      by_cases hcd : c = d
      · subst hcd
        have HN := Lib.hid (hinv.out.miss hc HD.out.symm)
        go_wp2_with fail
        have z1 : ∀ x : Ext Grows wr.drew, x.u.cell? ⟨rb, 1, none⟩ = some (.int .i64 c) := ext_cell ((Grows.drew wr).cell c1)
        have z2 : ∀ x : Ext Grows wr.drew, x.u.cell? ⟨rb, 2, none⟩ = some (.slice (some ⟨g, 0, none⟩) N2 cap) := ext_cell ((Grows.drew wr).cell c2)
        have z3 : ∀ x : Ext Grows wr.drew, x.u.cell? ⟨g, k, none⟩ = some (.int .i64 c) := ext_cell ((Grows.drew wr).cell cc)
        refine s_region Grows [(0, false), (1, false), (2, false), (3, false), (4, false), (5, false), (6, false), (7, false), (8, false), (9, false), (10, false), (11, false)] Grows.refl Grows.trans (by kernel_rfl) (by kernel_rfl) (fun d _ _ _ _ h => by cases d <;> exact h) ?_
        iterate 12 (refine s_quiet rfl (fun K hK => ?_); go_simp; refine hK _ ?_; clear hK K)
        refine s_end (fun wa h4 => ?_)
        clear z1 z2 z3
        have hg4 := (Grows.drew wr).tr h4
        go_wp2_with fail
        go_roundw
        case rel => exact ⟨k + 1, cnt, L, acc, hlt, by go_num, rfl, rfl, hown.grows hg4, HN.out, hg.tr hg4⟩
        case measure => simp [intOf]; omega
      · have hcd2 : ((c : Int) == (d : Int)) = false := by rw [beq_eq_false_iff_ne]; omega
        go_wp2_with fail
        have z1 : ∀ x : Ext Grows wr.drew, x.u.cell? ⟨rb, 1, none⟩ = some (.int .i64 d) := ext_cell ((Grows.drew wr).cell c1)
        have z2 : ∀ x : Ext Grows wr.drew, x.u.cell? ⟨rb, 2, none⟩ = some (.slice (some ⟨g, 0, none⟩) N2 cap) := ext_cell ((Grows.drew wr).cell c2)
        have z3 : ∀ x : Ext Grows wr.drew, x.u.cell? ⟨g, k, none⟩ = some (.int .i64 c) := ext_cell ((Grows.drew wr).cell cc)
        refine s_region Grows [(0, false), (1, false), (2, false), (3, false), (4, false), (5, false), (6, false), (7, false), (8, false), (9, false), (10, false), (11, false)] Grows.refl Grows.trans (by kernel_rfl) (by kernel_rfl) (fun d _ _ _ _ h => by cases d <;> exact h) ?_
        iterate 12 (refine s_quiet rfl (fun K hK => ?_); go_simp; refine hK _ ?_; clear hK K)
        refine s_end (fun wa h4 => ?_)
        clear z1 z2 z3
        have hg4 := (Grows.drew wr).tr h4
        replace c0 := hg4.cell c0
        replace c1 := hg4.cell c1
        replace c2 := hg4.cell c2
        replace cc := hg4.cell cc
        replace hown := hown.grows hg4
        replace hg := hg.tr hg4
        clear h4 hg4
        go_wp2_with fail
        obtain ⟨Dl, hDl⟩ : ∃ Dl : Nat, (k : Int) - L = Dl := ⟨((k : Int) - L).toNat, by omega⟩
        have hDb : Dl ≤ 4097 := by omega
        have wDL : IntKind.i64.wrap ((k : Int) - L) = Dl := by rw [hDl]; simp [IntKind.wrap, IntKind.bits, IntKind.signed]; omega
        have wDl : IntKind.u64.wrap (Dl : Int) = Dl := by simp [IntKind.wrap, IntKind.bits, IntKind.signed]; omega
        have wC : IntKind.u64.wrap (c : Int) = c := by simp [IntKind.wrap, IntKind.bits, IntKind.signed]; omega
        have HN := Lib.hid (hinv.out.hit hc (by rw [HD.out]; omega))
        rw [hDl, Int.toNat_natCast, Int.toNat_natCast] at HN
        clear hDl
        have z2 : ∀ x : Ext (EB w.heap.size) wa.drew, x.u.cell? ⟨rb, 2, none⟩ = some (.slice (some ⟨g, 0, none⟩) N2 cap) := ext_cellB hrbl c2
        have z3 : ∀ x : Ext (EB w.heap.size) wa.drew, x.u.cell? ⟨g, k, none⟩ = some (.int .i64 c) := ext_cellB hgl cc
        refine t_region (EB w.heap.size) [(0, false), (1, false), (2, false), (3, false), (4, false), (7, false), (8, false), (9, false), (10, false), (11, false), (12, false), (13, false), (14, false), (5, true), (6, true), (15, true), (16, true), (17, true)] (EB.refl w.heap.size) (EB.trans w.heap.size) (by kernel_rfl) (by kernel_rfl) (fun d _ _ _ _ h => by cases d <;> exact h) ?_
        iterate 13 (refine t_quiet rfl (fun K hK => ?_); go_simp; refine hK _ ?_; clear hK K)
        clear z2 z3
        have hown0 := hown.grows (Grows.drew wa)
        refine t_late rfl rfl (fun K hK => ?_)
        go_simp
        refine (ruint_any Dl wa.drew (by omega)).mono ?_
        rintro e w3 ⟨v3, rfl, hown3, hg3⟩
        obtain ⟨a3, c3, rfl, _, _, hat3⟩ := hown3.at_ byteLay.len
        have hn3 := owns_none2 hown3
        have hp3 := putU_len Dl
        have hs0 : w.heap.size ≤ wa.drew.heap.size := hg.size
        have hs3 : w.heap.size ≤ w3.heap.size := Nat.le_trans hs0 hg3.size
        refine ⟨EB.of hg3 hs0, hK _ _ ?_⟩
        clear hK K
        refine t_late rfl rfl (fun K hK => ?_)
        refine app_many_wp byteLay _ _ rfl w.heap.size _ acc (putU Dl) rfl (hown0.grows hg3) (Grows.refl _) a3 c3 rfl hat3 hn3 (by omega) hs3 ?_
        intro v4 w4 hown4 hg4
        refine ⟨hg4, hK _ _ ?_⟩
        clear hK K
        have hs4 : w.heap.size ≤ w4.heap.size := Nat.le_trans hs3 hg4.2
        refine t_late rfl rfl (fun K hK => ?_)
        go_simp
        refine (ruint_any c w4 (by omega)).mono ?_
        rintro e w5 ⟨v5, rfl, hown5, hg5⟩
        obtain ⟨a5, c5, rfl, _, _, hat5⟩ := hown5.at_ byteLay.len
        have hn5 := owns_none2 hown5
        have hp5 := putU_len c
        refine ⟨EB.of hg5 hs4, hK _ _ ?_⟩
        clear hK K
        refine t_late rfl rfl (fun K hK => ?_)
        refine app_many_wp byteLay _ _ rfl w.heap.size _ (acc ++ putU Dl) (putU c) rfl (hown4.grows hg5) (Grows.refl _) a5 c5 rfl hat5 hn5 (by rw [List.length_append]; omega) (Nat.le_trans hs4 hg5.size) ?_
        intro v6 w6 hown6 hg6
        refine ⟨hg6, hK _ _ ?_⟩
        clear hK K
        refine t_late rfl rfl (fun K hK => ?_)
        go_simp
        refine ⟨EB.refl _ _, hK _ _ ?_⟩
        clear hK K
        refine t_end ?_
        have hgw6 : Grows w w6 := EB.grows ((EB.grows (hg.dr.tr hg3) hg4).tr hg5) hg6
        go_wp2_with fail
        go_roundw
        case rel => exact ⟨k + 1, cnt + 1, k, _, hlt, by go_num, by go_num, by go_num, hown6, HN.out, hgw6⟩
        case measure => simp [intOf]; omega
    · obtain rfl : k = N2 := by omega
      have HE := HFIN cnt L acc hinv.out
      have wN : IntKind.u64.wrap (m.n : Int) = m.n := by simp [IntKind.wrap, IntKind.bits, IntKind.signed]; omega
      have wD : IntKind.u64.wrap (d : Int) = d := by simp [IntKind.wrap, IntKind.bits, IntKind.signed]; omega
      have wT : IntKind.u64.wrap (cnt : Int) = cnt := by simp [IntKind.wrap, IntKind.bits, IntKind.signed]; omega
      go_wp2_with fail
      have z0 : ∀ x : Ext (EB wr.heap.size) wr.drew, x.u.cell? ⟨rb, 0, none⟩ = some (.int .i64 m.n) := ext_cellB (Nat.lt_of_lt_of_le hrbl hg.size) c0
      have z1 : ∀ x : Ext (EB wr.heap.size) wr.drew, x.u.cell? ⟨rb, 1, none⟩ = some (.int .i64 d) := ext_cellB (Nat.lt_of_lt_of_le hrbl hg.size) c1
      refine t_region (EB wr.heap.size) [(0, false), (1, false), (2, false), (3, false), (4, false), (6, false), (7, false), (8, false), (9, false), (10, false), (5, true), (11, true), (12, true), (13, true)] (EB.refl wr.heap.size) (EB.trans wr.heap.size) (by kernel_rfl) (by kernel_rfl) (fun d _ _ _ _ h => by cases d <;> exact h) ?_
      iterate 10 (refine t_quiet rfl (fun K hK => ?_); go_simp; refine hK _ ?_; clear hK K)
      clear z0 z1
      have hs0 : w.heap.size ≤ wr.drew.heap.size := hg.size
      have hown0 := hown.grows (Grows.drew wr)
      refine t_late rfl rfl (fun K hK => ?_)
      go_simp
      refine (ruint_any m.n wr.drew (by omega)).mono ?_
      rintro e w3 ⟨v3, rfl, hown3, hg3⟩
      have hs3 := hg3.size
      refine ⟨EB.of hg3 (Nat.le_refl _), hK _ _ ?_⟩
      clear hK K
      refine t_late rfl rfl (fun K hK => ?_)
      go_simp
      refine (ruint_any d w3 (by omega)).mono ?_
      rintro e w5 ⟨v5, rfl, hown5, hg5⟩
      obtain ⟨a5, c5, rfl, _, _, hat5⟩ := hown5.at_ byteLay.len
      have hn5 := owns_none2 hown5
      have hp5 := putU_len d
      have hp3 := putU_len m.n
      refine ⟨EB.of hg5 hs3, hK _ _ ?_⟩
      clear hK K
      refine t_late rfl rfl (fun K hK => ?_)
      refine app_many_wp byteLay _ _ rfl wr.heap.size _ (putU m.n) (putU d) rfl (hown3.grows hg5) (Grows.refl _) a5 c5 rfl hat5 hn5 (by omega) (Nat.le_trans hs3 hg5.size) ?_
      intro v6 w6 hown6 hg6
      refine ⟨hg6, hK _ _ ?_⟩
      clear hK K
      refine t_late rfl rfl (fun K hK => ?_)
      go_simp
      refine ⟨EB.refl _ _, hK _ _ ?_⟩
      clear hK K
      refine t_end ?_
      have hgw6 : Grows wr.drew w6 := EB.grows (hg3.tr hg5) hg6
      have hs6 := hgw6.size
      obtain ⟨B6, hB6⟩ : ∃ B, B = putU m.n ++ putU d := ⟨_, rfl⟩
      rw [← hB6] at hown6 HE
      have hb6 : B6.length ≤ 20 := by rw [hB6, List.length_append]; omega
      clear hB6 hown3 hg3 hown5 hg5 hat5 hn5 hg6
      obtain ⟨ar, cr, hvr, _, _, hatr⟩ := hown0.at_ byteLay.len
      have hnr : ar = none → cr = 0 := by rw [hvr] at hown0; exact owns_none2 hown0
      subst hvr
      go_wp2_with fail
      refine (ruint_any cnt w6 (by omega)).mono ?_
      rintro e w7 ⟨v7, rfl, hown7, hg7⟩
      obtain ⟨a7, c7, rfl, _, _, hat7⟩ := hown7.at_ byteLay.len
      have hn7 := owns_none2 hown7
      have hp7 := putU_len cnt
      replace hown6 := hown6.grows hg7
      have hgr7 := hgw6.tr hg7
      have hs7 := hgr7.size
      have hac := hinv.out.len
      go_wp2_with (first | (at_builtin; refine app_many byteLay rfl _ _ rfl wr.heap.size _ B6 (putU cnt) rfl hown6 (Grows.refl _) a7 c7 rfl hat7 hn7 (by omega) hs7 ?_; intro v8 w8 hown8 hg8; have hgr8 := hg8 wr.drew hgr7 (Nat.le_refl _); have hs8 := hgr8.size; have hatr8 := hatr.grows hgr8) | (at_builtin; refine app_many byteLay rfl _ _ rfl wr.heap.size _ (B6 ++ putU cnt) acc rfl hown8 (Grows.refl _) ar cr rfl hatr8 hnr (by rw [List.length_append]; omega) hs8 ?_; intro v9 w9 hown9 hg9))
      go_ret
      refine ⟨_, rfl, ?_, hg9 w (hg.dr.tr hgr8) hg.size⟩
      rw [HE.out]
      exact hown9.base hg.size
end Go.Proofs.YtcdjponbhpchbaaDoor
namespace Go.Proofs.YtcdjponbhpchbaaDoor
open Go Go.RowKit
attribute [local go_sem] quietE quietE2

/-- 'string(b)' of a slice whose bytes are known. -/
theorem conv_at {w : World} {a : Option Addr} {c : Nat} {l : List UInt8} (h : AtCells w a 1 (l.map byteC)) : (convert 22 9 (.slice a l.length c)).run Tryd.prog w = .ok (.string (mkB l)) w := by
  cases l with
  | nil =>
    rw [run_convert_bytes_string w 22 9 5 a ([] : List UInt8).length c Tryd.underlying22 Tryd.underlying5 Tryd.underlying9]
    cases a <;> (simp [Conv.bytesToString]; rfl)
  | cons x r =>
    obtain ⟨b, o, rfl, hc⟩ := h.get (by simp)
    generalize hL : x :: r = L at *
    have hz : (mkB L).size = L.length := by rw [Lib.size_eq, mkB_data]
    have hB : Lib.Bytes w b o (mkB L) := fun i hi => by
      rw [hz] at hi
      have h1 := hc i L[i] (List.getElem?_eq_getElem hi) 0 _ rfl
      have hg : (mkB L)[i]'(by rw [hz]; exact hi) = L[i] := rfl
      rw [hg]
      simpa using h1
    have := Lib.run_convert_whole (P := Tryd.prog) w 22 5 9 Tryd.underlying22 Tryd.underlying5 Tryd.underlying9 b o (mkB L) hB c
    rw [hz] at this
    exact this
def u64C (x : Nat) : List Value := [.int .u64 x]
theorem u64Lay : ElemLay Tryd.prog 38 32 1 8 u64C where
  sl := Tryd.underlying38
  info := elem_info (z := .int .u64 0) (by kernel_rfl) rfl
  pos := by decide
  by1 := by decide
  len _ := rfl
  one x u hu := by
    simp [u64C] at hu
    subst hu; rfl
/-- What the document's Decode leaves. -/
def RDecPost (R : Option Mx) (w : World) (e : Ending) (w' : World) : Prop :=
  (R = none → e = .returned (.pointer none)) ∧ (∀ m, R = some m → ∃ rb, e = .returned (.pointer (some ⟨rb, 0, none⟩)) ∧ RefAt w' rb m ∧ w.heap.size ≤ rb) ∧ Grows w w'
theorem RDecPost.bad {w w' : World} (h : Grows w w') : RDecPost none w (.returned (.pointer none)) w' := ⟨fun _ => rfl, fun _ h => (by cases h), h⟩
set_option maxHeartbeats 8000000 in
set_option maxRecDepth 100000 in
theorem rdec_any (b : List UInt8) (ba : Option Addr) (bc : Nat) (w : World) (hb : b.length ≤ 1099511627776) (hat : AtCells w ba 1 (b.map byteC)) :
    Calls Tryd.prog 5 #[.slice ba b.length bc] w (RDecPost (decM b) w) := by
  have HAT := Lib.hid hat
  clear hat
  obtain ⟨R, hR⟩ : ∃ R, R = decM b := ⟨_, rfl⟩
  have HR := Lib.hid hR
  rw [← hR]
  clear hR
  go_enter Tryd.func5, Tryd.ntmps5
  go_wp2_with fail
  go_loopw [3, 4] (fun v a wr => ∃ (ns : List Nat) (k : Nat), a = .int .i64 k ∧ k ≤ b.length ∧ ns.length ≤ k ∧ Owns wr w.heap.size 32 1 u64C v ns ∧ Hid (b = ns.flatMap putU ++ b.drop k ∧ ∀ x ∈ ns, x ≤ 1000000) ∧ Grows w wr) (fun _ a _ => b.length - (intOf a).toNat)
  case atStart => exact ⟨[], 0, rfl, Nat.zero_le _, Nat.le_refl _, Owns.nil _ _ _ _ _, ⟨rfl, fun x h => (by cases h)⟩, Grows.refl _⟩
  case round =>
    obtain ⟨ns, k, rfl, hk, hnk, hown, hns, hg⟩ := hrel
    by_cases hlt : k < b.length
    · have CR := Lib.hid (readU_any b k ba bc wr hlt hb (HAT.out.grows hg))
      have hne : b.drop k ≠ [] := by
        intro h
        have := congrArg List.length h
        simp at this
        omega
      have hstop : (∀ v n, rdU (b.drop k) = some (v, n) → 1000000 < v) → R = none := fun h => by
        rw [HR.out, hns.out.1]
        exact dec_stop hns.out.2 hne h
      have HSTOP := Lib.hid hstop
      have HNE := Lib.hid hne
      clear hstop hne
      cases hR : rdU (b.drop k) with
      | none =>
        have hfin : R = none := HSTOP.out (fun v n h => by rw [hR] at h; cases h)
        subst hfin
        rw [hR] at CR
        unfold uintR at CR
        clear hR HSTOP HR hns hown
        go_wp2_with fail
        refine CR.out.mono ?_
        rintro e w1 ⟨rfl, hg1⟩
        go_wp2_with fail
        go_ret
        exact RDecPost.bad (hg.tr hg1)
      | some x =>
        obtain ⟨v, n⟩ := x
        rw [hR] at CR
        unfold uintR at CR
        obtain ⟨K, hK⟩ : ∃ K, K = k + n := ⟨_, rfl⟩
        simp only [← hK] at CR
        by_cases hv : 1000000 < v
        · have hfin : R = none := HSTOP.out (fun v' n' h => by rw [hR] at h; cases h; exact hv)
          subst hfin
          have hvi : (1000000 : Int) < v := by omega
          clear hR HSTOP HR hns hown hK
          go_wp2_with fail
          refine CR.out.mono ?_
          rintro e w1 ⟨rfl, hg1⟩
          go_wp2_with fail
          go_ret
          exact RDecPost.bad (hg.tr hg1)
        · have hvi : ¬ (1000000 : Int) < v := by omega
          obtain ⟨r, hr1, hr2, hr3⟩ := rdU_iff.1 hR
          have hpos := List.length_pos_iff.2 (putU_ne v)
          have hKb : K ≤ b.length := by
            have := congrArg List.length hr2
            simp only [List.length_drop, List.length_append] at this
            omega
          have hns2 : Hid (b = (ns ++ [v]).flatMap putU ++ b.drop K ∧ ∀ x ∈ ns ++ [v], x ≤ 1000000) := by
            refine ⟨?_, fun x hx => ?_⟩
            · have h1 := hns.out.1
              rw [hK, ← List.drop_drop, hr2, hr3, List.drop_left, List.flatMap_append]
              rw [hr2] at h1
              simpa using h1
            · rcases List.mem_append.1 hx with h | h
              · exact hns.out.2 x h
              · rw [List.mem_singleton.1 h]; omega
          have hkK : k < K := by omega
          clear hR HSTOP hns hr2 hr3 hK
          go_wp2_with fail
          refine CR.out.mono ?_
          rintro e w1 ⟨rfl, hg1⟩
          have hgr1 := hg.tr hg1
          have hown1 := hown.grows hg1
          clear hown
          go_wp2_with (at_builtin; refine app_one u64Lay rfl _ _ rfl w.heap.size _ ns v rfl hown1 (Grows.refl _) _ 1 rfl #[.int .u64 v] rfl rfl (by omega) hgr1.size ?_; intro v' w5 hown5 hg5)
          go_roundw
          case rel => exact ⟨ns ++ [v], K, rfl, hKb, by simp; omega, hown5, hns2.out, hg5 w hgr1 (Nat.le_refl _)⟩
          case measure => simp [intOf]; omega
    · obtain rfl : k = b.length := by omega
      have hbn := hns.out.1
      rw [List.drop_length, List.append_nil] at hbn
      have hle := hns.out.2
      obtain ⟨la, lc, rfl, hc1, hc2, hlt2⟩ := hown.at_ u64Lay.len
      have HLT := Lib.hid hlt2
      by_cases h3 : ns.length < 3
      · have hfin : R = none := by rw [HR.out, hbn]; exact dec_short hle h3
        subst hfin
        have h3i : (ns.length : Int) < 3 := by omega
        clear HR hns hown hbn hle hlt2
        go_wp2_with fail
        go_ret
        exact RDecPost.bad hg
      · have h3i : ¬ (ns.length : Int) < 3 := by omega
        obtain ⟨a0, d0, q0, r0, hns3⟩ : ∃ a0 d0 q0 r0, ns = a0 :: d0 :: q0 :: r0 := by
          match ns, h3 with
          | a :: d :: q :: r, _ => exact ⟨a, d, q, r, rfl⟩
          | [], h => exact absurd (show (0 : Nat) < 3 by decide) h
          | [_], h => exact absurd (show (1 : Nat) < 3 by decide) h
          | [_, _], h => exact absurd (show (2 : Nat) < 3 by decide) h
        obtain ⟨lb, lo, rfl, hlc⟩ := hlt2.get (ne_nil_of_lt (show 0 < ns.length by omega))
        have n0 : ns[0]? = some a0 := by rw [hns3]; rfl
        have n1 : ns[1]? = some d0 := by rw [hns3]; rfl
        have c0 : wr.cell? ⟨lb, lo, none⟩ = some (.int .u64 a0) := by simpa using hlc 0 a0 n0 0 _ rfl
        have c1 : wr.cell? ⟨lb, lo + 1, none⟩ = some (.int .u64 d0) := by simpa using hlc 1 d0 n1 0 _ rfl
        have ha0 := hle a0 (List.mem_of_getElem? n0)
        have hd0 := hle d0 (List.mem_of_getElem? n1)
        have wa0 : IntKind.i64.wrap (a0 : Int) = a0 := by simp [IntKind.wrap, IntKind.bits, IntKind.signed]; omega
        have wd0 : IntKind.i64.wrap (d0 : Int) = d0 := by simp [IntKind.wrap, IntKind.bits, IntKind.signed]; omega
        have z0 : ∀ u : Ext Grows wr.drew, u.u.cell? ⟨lb, lo, none⟩ = some (.int .u64 a0) := ext_cell ((Grows.drew _).cell c0)
        have z1 : ∀ u : Ext Grows wr.drew, u.u.cell? ⟨lb, lo + 1, none⟩ = some (.int .u64 d0) := ext_cell ((Grows.drew _).cell c1)
        have HBN := Lib.hid hbn
        have HLE := Lib.hid hle
        have HNS3 := Lib.hid hns3
        have hlb := World.block_lt_of_cell? wr _ c0
        simp only at hlb
        have hl0 : (0 : Int) < ns.length := by omega
        have hl1 : (1 : Int) < ns.length := by omega
        have hl0n : 0 < ns.length := by omega
        have hl1n : 1 < ns.length := by omega
        clear hns hown hbn hle hns3 hlc n0 n1 hlt2
        cases hnb : newB (a0 : Int) (d0 : Int)
        · have hfin : R = none := by
            rw [HR.out, HBN.out, HNS3.out]
            exact dec_new (by rw [← HNS3.out]; exact HLE.out) hnb
          subst hfin
          have CB := Lib.hid (rnew_bad (a0 : Int) (d0 : Int) wr.drew hnb)
          clear HR hnb
          go_wp2_with fail
          refine t_region (Grows) [(0, false), (1, false), (2, false), (3, false), (4, false), (5, false), (6, false), (7, false), (8, true), (9, false)] Grows.refl Grows.trans (by kernel_rfl) (by kernel_rfl) (fun d _ _ _ _ h => by cases d <;> exact h) ?_
          iterate 8 (refine t_quiet rfl (fun K hK => ?_); go_simp; refine hK _ ?_; clear hK K)
          refine t_late rfl rfl (fun K hK => ?_)
          go_simp
          refine CB.out.mono ?_
          rintro e w7 ⟨rfl, rfl⟩
          refine ⟨Grows.refl _, hK _ _ ?_⟩
          clear hK K
          iterate 1 (refine t_quiet rfl (fun K hK => ?_); go_simp; refine hK _ ?_; clear hK K)
          refine t_end ?_
          clear z0 z1
          go_wp2_with fail
          go_ret
          exact RDecPost.bad hg.dr
        · have CA := Lib.hid (rnew_any (a0 : Int) (d0 : Int) wr.drew hnb)
          have HINV : Hid (RInv ns 3 (newM (a0 : Int) (d0 : Int)) (-1)) := by
            show RInv _ _ _ _
            rw [HNS3.out]; exact RInv.start a0 d0 q0 r0
          clear hnb
          go_wp2_with fail
          refine t_region (Grows) [(0, false), (1, false), (2, false), (3, false), (4, false), (5, false), (6, false), (7, false), (8, true), (9, false)] Grows.refl Grows.trans (by kernel_rfl) (by kernel_rfl) (fun d _ _ _ _ h => by cases d <;> exact h) ?_
          iterate 8 (refine t_quiet rfl (fun K hK => ?_); go_simp; refine hK _ ?_; clear hK K)
          refine t_late rfl rfl (fun K hK => ?_)
          go_simp
          refine CA.out.mono ?_
          rintro e w7 ⟨rfl, hr7, hg7⟩
          refine ⟨hg7, hK _ _ ?_⟩
          clear hK K
          iterate 1 (refine t_quiet rfl (fun K hK => ?_); go_simp; refine hK _ ?_; clear hK K)
          refine t_end ?_
          clear z0 z1 CA c0 c1
          obtain ⟨rb, hrb⟩ : ∃ rb, rb = wr.drew.heap.size := ⟨_, rfl⟩
          rw [← hrb] at hr7
          have hrb2 : wr.heap.size = rb := hrb.symm
          rw [show wr.drew.heap.size = wr.heap.size from rfl] at hrb
          have hg07 := hg.dr.tr hg7
          have hwr := hg.size
          have HR7 := Lib.hid hr7
          have HLT7 := Lib.hid (HLT.out.grows ((Grows.drew _).tr hg7))
          try simp only [hrb2]
          rw [hrb2] at hlb hwr
          clear hr7 hrb hrb2 hg7 HLT
          go_wp2_with fail
          go_loopw [9, 10] (fun i c wx => ∃ (k : Nat) (j : Int) (m : Mx), k ≤ ns.length + 1 ∧ c = .int .i64 k ∧ i = .int .i64 j ∧ -1 ≤ j ∧ j < 4096 ∧ Hid (RefAt wx rb m) ∧ Hid (RInv ns k m j) ∧ EB (rb + 1) w7 wx) (fun _ c _ => ns.length + 1 - (intOf c).toNat)
          case atStart => exact ⟨3, -1, _, by omega, rfl, rfl, by omega, by omega, HR7.out, HINV.out, EB.refl _ _⟩
          case round =>
            obtain ⟨k, j, m, hkn, rfl, rfl, hj1, hj2, hrA, hinv, heb⟩ := hrel
            have hgx : Grows w wr := eb_grows2 hg07 heb (by omega)
            by_cases hk : k + 1 < ns.length
            · obtain ⟨K1, hK1⟩ : ∃ K1, K1 = k + 1 := ⟨_, rfl⟩
              have wk1 : IntKind.i64.wrap ((k : Int) + 1) = K1 := by
                rw [show (k : Int) + 1 = ((k + 1 : Nat) : Int) by push_cast; rfl, ← hK1]
                simp [IntKind.wrap, IntKind.bits, IntKind.signed]; omega
              have hk1n : K1 < ns.length := by omega
              have hki : (K1 : Int) < ns.length := by omega
              have hki2 : (k : Int) < ns.length := by omega
              obtain ⟨x, hx⟩ : ∃ x, ns[k]? = some x := ⟨_, List.getElem?_eq_getElem (by omega)⟩
              obtain ⟨c, hc⟩ : ∃ c, ns[k + 1]? = some c := ⟨_, List.getElem?_eq_getElem hk⟩
              have hxb := HLE.out x (List.mem_of_getElem? hx)
              have hcb := HLE.out c (List.mem_of_getElem? hc)
              obtain ⟨lb2, lo2, el, hlc⟩ := HLT7.out.get (ne_nil_of_lt hk)
              have el2 := Option.some.inj el
              simp only [Addr.mk.injEq, and_true] at el2
              obtain ⟨rfl, rfl⟩ := el2
              have lk : wr.cell? ⟨lb, lo + k, none⟩ = some (.int .u64 x) := by
                rw [Below.cell heb.1 (by simp only; omega)]
                simpa using hlc k x hx 0 _ rfl
              have lk1 : wr.cell? ⟨lb, lo + K1, none⟩ = some (.int .u64 c) := by
                rw [Below.cell heb.1 (by simp only; omega)]
                rw [hK1]
                simpa using hlc (k + 1) c hc 0 _ rfl
              have wx : IntKind.i64.wrap (x : Int) = x := by simp [IntKind.wrap, IntKind.bits, IntKind.signed]; omega
              have wc : IntKind.i64.wrap (c : Int) = c := by simp [IntKind.wrap, IntKind.bits, IntKind.signed]; omega
              have hn1 := hrA.out.ok.n1
              have hn2 := hrA.out.ok.n2
              have hrlt := hrA.out.lt
              have cN := hrA.out.c0
              have HX := Lib.hid hx
              have HC := Lib.hid hc
              have HK1 := Lib.hid hK1
              clear hlc el hx hc hK1
              by_cases hJ : j + (x : Int) < 0
              · have hfin : R = none := by
                  rw [HR.out, HBN.out]
                  exact hinv.out.bad HX.out HC.out HLE.out (Or.inl hJ)
                subst hfin
                have wJ : IntKind.i64.wrap (j + (x : Int)) = j + x := by simp only [IntKind.wrap, IntKind.bits, IntKind.signed]; simp; omega
                clear hinv HR hrA cN lk1 wc
                go_wp2_with fail
                refine t_region (Grows) [(0, false), (1, false), (2, false), (3, false), (4, false), (5, false), (6, false), (7, false), (8, false), (9, false), (10, false), (11, false), (12, false), (13, false), (14, false), (15, false), (16, false), (17, false), (18, false), (19, false), (20, false), (21, false), (22, false), (23, false), (24, false)] Grows.refl Grows.trans (by kernel_rfl) (by kernel_rfl) (fun d _ _ _ _ h => by cases d <;> exact h) ?_
                iterate 25 (refine t_quiet rfl (fun K hK => ?_); go_simp; refine hK _ ?_; clear hK K)
                refine t_end ?_
                go_wp2_with fail
                go_ret
                exact RDecPost.bad hgx.dr
              · obtain ⟨q, hq⟩ : ∃ q : Nat, j + (x : Int) = q := ⟨(j + (x : Int)).toNat, by omega⟩
                have wJ : IntKind.i64.wrap (j + (x : Int)) = q := by rw [← hq]; simp only [IntKind.wrap, IntKind.bits, IntKind.signed]; simp; omega
                have hqn : ¬ (q : Int) < 0 := by omega
                obtain ⟨r, hr⟩ : ∃ r : Nat, r = q / m.n := ⟨_, rfl⟩
                obtain ⟨l, hl⟩ : ∃ l : Nat, l = q % m.n := ⟨_, rfl⟩
                have hx0 : ¬ (m.n : Int) = 0 := by omega
                have hx0n : ¬ m.n = 0 := by omega
                have hdv : (q : Int) / m.n = r := by rw [hr]; simp
                have hdt : (q : Int).tdiv m.n = r := by rw [hr]; rfl
                have hme : (q : Int) % m.n = l := by rw [hl]; simp
                have hmt : (q : Int).tmod m.n = l := by rw [hl, Int.ofNat_tmod]
                have hrI : r ≤ q := by rw [hr]; exact Nat.div_le_self _ _
                have hlI : l ≤ q := by rw [hl]; exact Nat.mod_le _ _
                have wr2 : IntKind.i64.wrap (r : Int) = r := by simp only [IntKind.wrap, IntKind.bits, IntKind.signed]; simp; omega
                have wl2 : IntKind.i64.wrap (l : Int) = l := by simp only [IntKind.wrap, IntKind.bits, IntKind.signed]; simp; omega
                have CS := rset_any wr.drew rb m (hrA.out.grows (Grows.drew _)) (r : Int) (l : Int) (c : Int)
                unfold RSetPost at CS
                have hpair : pairAt m.n q = ((r : Int), (l : Int)) := by rw [hr, hl]; rfl
                have zN : ∀ u : Ext (EB (rb + 1)) wr.drew, u.u.cell? ⟨rb, 0, none⟩ = some (.int .i64 m.n) := ext_cellB (by simp only; omega) cN
                have zl : ∀ u : Ext (EB (rb + 1)) wr.drew, u.u.cell? ⟨lb, lo + K1, none⟩ = some (.int .u64 c) := ext_cellB (by simp only; omega) lk1
                cases hsb : m.setB ((r : Int), (l : Int)) c
                · have hfin : R = none := by
                    rw [HR.out, HBN.out]
                    refine hinv.out.bad HX.out HC.out HLE.out (Or.inr ?_)
                    rcases Nat.lt_or_ge q (m.n * m.n) with h | h
                    · right
                      have h1 := (pairAt_in h).1
                      rw [hpair] at h1
                      unfold Mx.setB at hsb
                      rw [h1] at hsb
                      exact hsb
                    · left
                      exact ⟨by omega, by rw [hq]; exact h⟩
                  subst hfin
                  rw [hsb] at CS
                  have HCS := Lib.hid CS
                  clear hinv HR hrA cN lk1 CS hsb hpair hr hl hq
                  go_wp2_with fail
                  refine t_region (EB (rb + 1)) [(0, false), (1, false), (2, false), (3, false), (4, false), (5, false), (6, false), (7, false), (8, false), (9, false), (10, false), (11, false), (12, false), (13, false), (14, false), (15, false), (16, false), (17, false), (18, false), (19, false), (20, false), (21, false), (22, true), (23, false), (24, false)] (EB.refl (rb + 1)) (EB.trans (rb + 1)) (by kernel_rfl) (by kernel_rfl) (fun d _ _ _ _ h => by cases d <;> exact h) ?_
                  iterate 22 (refine t_quiet rfl (fun K hK => ?_); go_simp; refine hK _ ?_; clear hK K)
                  refine t_late rfl (by first | rfl | (go_simp; done) | (simp [go_sem, Region.wanted, yielded]; done)) (fun K hK => ?_)
                  go_simp
                  refine HCS.out.mono ?_
                  rintro e w9 ⟨rfl, hr9, g, hg9, hgb9⟩
                  refine ⟨⟨Below.grown (Below.refl _ _) hgb9 (by show rb + 1 ≤ wr.heap.size; omega) (fun y hy => by cases hy; omega), hgb9.size⟩, hK _ _ ?_⟩
                  clear hK K
                  iterate 2 (refine t_quiet rfl (fun K hK => ?_); go_simp; refine hK _ ?_; clear hK K)
                  refine t_end ?_
                  clear zN zl
                  go_wp2_with fail
                  go_ret
                  exact RDecPost.bad (hgx.dr.grown hgb9 (fun y hy => by cases hy; omega))
                · have hin : q < m.n * m.n := by
                    have h1 := hsb
                    simp only [Mx.setB, Bool.and_eq_true] at h1
                    have h2 := at2_lt h1.1
                    have h3 : at2 m.n ((r : Int), (l : Int)) = q := by
                      show r * m.n + l = q
                      rw [hr, hl, Nat.mul_comm]; exact Nat.div_add_mod q m.n
                    omega
                  have hnn : m.n * m.n ≤ 4096 := Nat.mul_le_mul hn2 hn2
                  have hstep := hinv.out.step HX.out HC.out hq
                  rw [setIf_yes hsb, ← hpair] at CS
                  rw [hpair, hsb] at CS
                  rw [hq, hpair] at hstep
                  have HST := Lib.hid hstep
                  have HCS := Lib.hid CS
                  clear hinv hrA cN lk1 CS hsb hpair hr hl hq hstep
                  go_wp2_with fail
                  refine t_region (EB (rb + 1)) [(0, false), (1, false), (2, false), (3, false), (4, false), (5, false), (6, false), (7, false), (8, false), (9, false), (10, false), (11, false), (12, false), (13, false), (14, false), (15, false), (16, false), (17, false), (18, false), (19, false), (20, false), (21, false), (22, true), (23, false), (24, false)] (EB.refl (rb + 1)) (EB.trans (rb + 1)) (by kernel_rfl) (by kernel_rfl) (fun d _ _ _ _ h => by cases d <;> exact h) ?_
                  iterate 22 (refine t_quiet rfl (fun K hK => ?_); go_simp; refine hK _ ?_; clear hK K)
                  refine t_late rfl (by first | rfl | (go_simp; done) | (simp [go_sem, Region.wanted, yielded]; done)) (fun K hK => ?_)
                  go_simp
                  refine HCS.out.mono ?_
                  rintro e w9 ⟨rfl, hr9, g, hg9, hgb9⟩
                  have heb9 : EB (rb + 1) wr.drew w9 := ⟨Below.grown (Below.refl _ _) hgb9 (by show rb + 1 ≤ wr.heap.size; omega) (fun y hy => by cases hy; omega), hgb9.size⟩
                  refine ⟨heb9, hK _ _ ?_⟩
                  clear hK K
                  iterate 2 (refine t_quiet rfl (fun K hK => ?_); go_simp; refine hK _ ?_; clear hK K)
                  refine t_end ?_
                  clear zN zl
                  have heb10 : EB (rb + 1) w7 w9 := EB.trans _ _ _ _ heb (EB.trans _ _ _ _ (EB.of (Grows.drew wr) (by omega)) heb9)
                  have HR9 := Lib.hid hr9
                  clear hr9 hgb9 heb9 HCS
                  go_wp2_with fail
                  go_roundw
                  case rel => exact ⟨k + 2, q, _, by omega, by go_num, rfl, by omega, by omega, HR9.out, HST.out, heb10⟩
                  case measure => simp [intOf]; omega
            · have hki : ¬ (k : Int) + 1 < ns.length := by omega
              have hans := hinv.out.ans hk HLE.out hrA.out.ok
              rw [← HBN.out, ← HR.out] at hans
              have CE := Lib.hid (renc_any wr.drew rb m (hrA.out.grows (Grows.drew _)))
              have HB := Lib.hid (HAT.out.grows hgx)
              obtain ⟨E1, hE1⟩ : ∃ E1, E1 = mkB m.enc := ⟨_, rfl⟩
              obtain ⟨E2, hE2⟩ : ∃ E2, E2 = mkB b := ⟨_, rfl⟩
              have HE1 := Lib.hid hE1
              have HE2 := Lib.hid hE2
              by_cases he : m.enc = b
              · rw [if_pos he] at hans
                have hEE : E1 = E2 := by rw [hE1, hE2, he]
                subst hans
                clear hinv HR hE1 hE2
                have y2 : ∀ u : Ext Grows wr.drew, (convert 22 9 (.slice ba b.length bc)).run Tryd.prog u.u = .ok (.string E1) u.u := fun u => by rw [hEE, HE2.out]; exact conv_at (HB.out.grows ((Grows.drew _).tr u.h))
                go_wp2_with fail
                refine t_region (Grows) [(0, false), (3, false), (4, false), (1, true), (2, false), (5, false)] Grows.refl Grows.trans (by kernel_rfl) (by kernel_rfl) (fun d _ _ _ _ h => by cases d <;> exact h) ?_
                iterate 3 (refine t_quiet rfl (fun K hK => ?_); go_simp; refine hK _ ?_; clear hK K)
                refine t_late rfl rfl (fun K hK => ?_)
                go_simp
                refine CE.out.mono ?_
                rintro e w9 ⟨v9, rfl, hown9, hg9⟩
                refine ⟨hg9, hK _ _ ?_⟩
                clear hK K
                have y1 : ∀ u : Ext Grows w9, (convert 22 9 v9).run Tryd.prog u.u = .ok (.string E1) u.u := fun u => by rw [HE1.out]; exact conv_owns (hown9.grows u.h)
                iterate 2 (refine t_quiet rfl (fun K hK => ?_); go_simp; refine hK _ ?_; clear hK K)
                refine t_end ?_
                clear y1 y2
                go_wp2_with fail
                go_ret
                exact ⟨fun h => (by cases h), fun m' h => (by cases h; exact ⟨rb, rfl, hrA.out.grows ((Grows.drew _).tr hg9), by omega⟩), hgx.dr.tr hg9⟩
              · rw [if_neg he] at hans
                have hEE : (E1.toList == E2.toList) = false := by
                  rw [beq_eq_false_iff_ne]
                  intro h
                  apply he
                  have h1 : E1 = E2 := seq_iff.1 (by unfold seq; rw [h]; simp)
                  rw [hE1, hE2] at h1
                  have := congrArg (fun s : ByteArray => s.data.toList) h1
                  simpa [mkB_data] using this
                subst hans
                clear hinv HR hE1 hE2
                have y2 : ∀ u : Ext Grows wr.drew, (convert 22 9 (.slice ba b.length bc)).run Tryd.prog u.u = .ok (.string E2) u.u := fun u => by rw [HE2.out]; exact conv_at (HB.out.grows ((Grows.drew _).tr u.h))
                go_wp2_with fail
                refine t_region (Grows) [(0, false), (3, false), (4, false), (1, true), (2, false), (5, false)] Grows.refl Grows.trans (by kernel_rfl) (by kernel_rfl) (fun d _ _ _ _ h => by cases d <;> exact h) ?_
                iterate 3 (refine t_quiet rfl (fun K hK => ?_); go_simp; refine hK _ ?_; clear hK K)
                refine t_late rfl rfl (fun K hK => ?_)
                go_simp
                refine CE.out.mono ?_
                rintro e w9 ⟨v9, rfl, hown9, hg9⟩
                refine ⟨hg9, hK _ _ ?_⟩
                clear hK K
                have y1 : ∀ u : Ext Grows w9, (convert 22 9 v9).run Tryd.prog u.u = .ok (.string E1) u.u := fun u => by rw [HE1.out]; exact conv_owns (hown9.grows u.h)
                iterate 2 (refine t_quiet rfl (fun K hK => ?_); go_simp; refine hK _ ?_; clear hK K)
                refine t_end ?_
                clear y1 y2
                go_wp2_with fail
                go_ret
                exact RDecPost.bad (hgx.dr.tr hg9)
end Go.Proofs.YtcdjponbhpchbaaDoor
namespace Go.Proofs.YtcdjponbhpchbaaDoor
open Go Go.RowKit
attribute [local go_sem] quietE quietE2

set_option maxHeartbeats 2000000 in
set_option maxRecDepth 100000 in
theorem uint_any (b : List UInt8) (k : Nat) (ba : Option Addr) (bc : Nat) (w : World) (hk : k ≤ b.length) (hb : b.length ≤ 1099511627776) (hat : AtCells w ba 1 (b.map byteC)) :
    Calls Tryd.prog 9 #[.slice ba b.length bc, .int .i64 k] w fun e w' => e = .returned (uintR k (rdU (b.drop k))) ∧ Grows w w' := by
  have CR := Lib.hid (read_any b k ba bc w hk hb hat)
  cases hR : rdU (b.drop k) with
  | none =>
    rw [hR] at CR
    unfold uintR at CR ⊢
    clear hR hat
    go_enter Tryd.func9, Tryd.ntmps9
    go_wp2_with fail
    refine CR.out.mono ?_
    rintro e w1 ⟨rfl, hg⟩
    go_wp2_with fail
    go_ret3
    exact ⟨rfl, hg⟩
  | some x =>
    obtain ⟨v, n⟩ := x
    rw [hR] at CR
    unfold uintR at CR ⊢
    obtain ⟨K, hK⟩ : ∃ K, K = k + n := ⟨_, rfl⟩
    simp only [← hK] at CR ⊢
    clear hR hat hK
    go_enter Tryd.func9, Tryd.ntmps9
    go_wp2_with fail
    refine CR.out.mono ?_
    rintro e w1 ⟨rfl, hg⟩
    go_wp2_with fail
    go_ret3
    exact ⟨rfl, hg⟩
/-- Two blocks alone may turn. -/
structure NB (p1 p2 : Nat) (w w' : World) : Prop where
  os : w'.os = w.os
  tape : w'.tape = w.tape
  output : w'.output = w.output
  size : w.heap.size ≤ w'.heap.size
  block : ∀ k, k < w.heap.size → k ≠ p1 → k ≠ p2 → w'.heap[k]? = w.heap[k]?
theorem NB.of {p1 p2 : Nat} {w w' : World} (h : Grows w w') : NB p1 p2 w w' := ⟨Below.os h, Below.tape h, Below.output h, h.size, fun k hk _ _ => Below.block h k hk⟩
theorem NB.trans {p1 p2 : Nat} {a b c : World} (h : NB p1 p2 a b) (k : NB p1 p2 b c) : NB p1 p2 a c :=
  ⟨k.os.trans h.os, k.tape.trans h.tape, k.output.trans h.output, Nat.le_trans h.size k.size, fun i hi h1 h2 => (k.block i (Nat.lt_of_lt_of_le hi h.size) h1 h2).trans (h.block i hi h1 h2)⟩
theorem NB.set {p1 p2 b i : Nat} {w : World} (hb : b = p1 ∨ b = p2) (v : Value) : NB p1 p2 w (w.setCell ⟨b, i, none⟩ v) :=
  ⟨rfl, rfl, rfl, by simp, fun k _ h1 h2 => heap_setCell_other _ _ _ _ (fun e => by simp only at e; rcases hb with rfl | rfl <;> omega)⟩
theorem NB.grows {p1 p2 : Nat} {a w w' : World} (h : Grows a w) (k : NB p1 p2 w w') (h1 : a.heap.size ≤ p1) (h2 : a.heap.size ≤ p2) : Grows a w' :=
  ⟨k.os.trans (Below.os h), k.tape.trans (Below.tape h), k.output.trans (Below.output h), Nat.le_trans h.size k.size, fun i hi => (k.block i (Nat.lt_of_lt_of_le hi h.size) (by omega) (by omega)).trans (Below.block h i hi)⟩
theorem NB.cell {p1 p2 : Nat} {w w' : World} (h : NB p1 p2 w w') {p : Addr} {v : Value} (hc : w.cell? p = some v) (h1 : p.block ≠ p1) (h2 : p.block ≠ p2) : w'.cell? p = some v := by
  have hlt := World.block_lt_of_cell? w _ hc
  have hb := h.block p.block hlt h1 h2
  unfold World.cell? at hc ⊢
  rw [hb]; exact hc
theorem NB.cells {p1 p2 : Nat} {w w' : World} {a : Option Addr} {k : Nat} {rows : List (List Value)} (h : NB p1 p2 w w') (hat : AtCells w a k rows) (hp : ∀ q : Addr, a = some q → rows ≠ [] → q.block ≠ p1 ∧ q.block ≠ p2) : AtCells w' a k rows := fun hn => by
  obtain ⟨b', off, rfl, hc⟩ := hat hn
  obtain ⟨h1, h2⟩ := hp _ rfl hn
  exact ⟨b', off, rfl, fun i row hi j v hj => h.cell (hc i row hi j v hj) h1 h2⟩
theorem MatAt.nb {w w' : World} {mb bm p1 p2 : Nat} {m : Mx} (h : MatAt w mb bm m) (hn : NB p1 p2 w w') (h1 : mb ≠ p1) (h2 : mb ≠ p2) (h3 : bm ≠ p1) (h4 : bm ≠ p2) : MatAt w' mb bm m := by
  obtain ⟨D, ho, hD⟩ := h.own
  have hlt := ho.lt
  obtain ⟨es, clock, hb, F, hs, he⟩ := ho
  exact ⟨h.ok, hn.cell h.c0 h1 h2, hn.cell h.c1 h1 h2, hn.cell h.c2 h1 h2, D, ⟨es, clock, (hn.block bm hlt h3 h4).trans hb, F, hs, he⟩, hD⟩
/-- The boxes of Decode: the bytes, the place, and whether something was bad. -/
structure DAt (w : World) (pb p1 p2 : Nat) (s : Value) (st : Nat × Bool) : Prop where
  cb : w.cell? ⟨pb, 0, none⟩ = some s
  c1 : w.cell? ⟨p1, 0, none⟩ = some (.int .i64 (st.1 : Nat))
  c2 : w.cell? ⟨p2, 0, none⟩ = some (.bool st.2)
  f1 : w.frozen? ⟨p1, 0, none⟩ = false
  f2 : w.frozen? ⟨p2, 0, none⟩ = false
  nb1 : pb ≠ p1
  nb2 : pb ≠ p2
  n12 : p1 ≠ p2
theorem DAt.grows {w w' : World} {pb p1 p2 : Nat} {s : Value} {st : Nat × Bool} (h : DAt w pb p1 p2 s st) (hg : Grows w w') : DAt w' pb p1 p2 s st :=
  ⟨hg.cell h.cb, hg.cell h.c1, hg.cell h.c2, (hg.froz (p := ⟨p1, 0, none⟩) (World.block_lt_of_cell? w _ h.c1)).trans h.f1, (hg.froz (p := ⟨p2, 0, none⟩) (World.block_lt_of_cell? w _ h.c2)).trans h.f2, h.nb1, h.nb2, h.n12⟩
theorem DAt.put1 {w : World} {pb p1 p2 : Nat} {s : Value} {st : Nat × Bool} (h : DAt w pb p1 p2 s st) (k : Nat) : DAt (w.setCell ⟨p1, 0, none⟩ (.int .i64 k)) pb p1 p2 s (k, st.2) := by
  refine ⟨?_, World.cell?_setCell_same _ _ _ h.c1, ?_, by rw [World.frozen?_setCell]; exact h.f1, by rw [World.frozen?_setCell]; exact h.f2, h.nb1, h.nb2, h.n12⟩
  · rw [World.cell?_setCell_other _ _ _ _ (fun e => h.nb1 (congrArg Addr.block e).symm)]; exact h.cb
  · rw [World.cell?_setCell_other _ _ _ _ (fun e => h.n12 (congrArg Addr.block e))]; exact h.c2
theorem DAt.put2 {w : World} {pb p1 p2 : Nat} {s : Value} {st : Nat × Bool} (h : DAt w pb p1 p2 s st) : DAt (w.setCell ⟨p2, 0, none⟩ (.bool true)) pb p1 p2 s (st.1, true) := by
  refine ⟨?_, ?_, World.cell?_setCell_same _ _ _ h.c2, by rw [World.frozen?_setCell]; exact h.f1, by rw [World.frozen?_setCell]; exact h.f2, h.nb1, h.nb2, h.n12⟩
  · rw [World.cell?_setCell_other _ _ _ _ (fun e => h.nb2 (congrArg Addr.block e).symm)]; exact h.cb
  · rw [World.cell?_setCell_other _ _ _ _ (fun e => h.n12 (congrArg Addr.block e).symm)]; exact h.c1
/-- One call of next. -/
def NxtPost (N : Nat × Nat × Bool) (pb p1 p2 : Nat) (s : Value) (w : World) (e : Ending) (w' : World) : Prop :=
  e = .returned (.int .i64 N.1) ∧ DAt w' pb p1 p2 s N.2 ∧ NB p1 p2 w w'
set_option maxHeartbeats 4000000 in
set_option maxRecDepth 100000 in
theorem next_any (b : List UInt8) (ba : Option Addr) (bc : Nat) (st : Nat × Bool) (pb p1 p2 : Nat) (w : World) (hk : st.1 ≤ b.length) (hb : b.length ≤ 1099511627776) (hat : AtCells w ba 1 (b.map byteC)) (hd : DAt w pb p1 p2 (.slice ba b.length bc) st) :
    Calls Tryd.prog 8 #[.pointer (some ⟨pb, 0, none⟩), .pointer (some ⟨p1, 0, none⟩), .pointer (some ⟨p2, 0, none⟩)] w (NxtPost (nxt b st) pb p1 p2 (.slice ba b.length bc) w) := by
  obtain ⟨k, t⟩ := st
  have CU := Lib.hid (uint_any b k ba bc w hk hb hat)
  have HD := Lib.hid hd
  have cb := hd.cb
  have c1 := hd.c1
  have c2 := hd.c2
  have f1 := hd.f1
  have f2 := hd.f2
  simp only at c1 c2
  clear hat hd
  cases hR : rdU (b.drop k) with
  | none =>
    have hn : nxt b (k, t) = (0, k, true) := by
      unfold nxt nextN
      rw [hR]
    rw [hR] at CU
    rw [hn]
    unfold uintR at CU
    clear hR hn
    go_enter Tryd.func8, Tryd.ntmps8
    go_wp2_with fail
    refine CU.out.mono ?_
    rintro e w1 ⟨rfl, hg⟩
    have hd1 := HD.out.grows hg
    have d2 := hd1.c2
    have e2 := hd1.f2
    have HD1 := Lib.hid hd1
    simp only at d2
    clear hd1
    go_wp2_with fail
    go_ret
    exact ⟨rfl, HD1.out.put2, (NB.of hg).trans (NB.set (Or.inr rfl) _)⟩
  | some x =>
    obtain ⟨v, n⟩ := x
    rw [hR] at CU
    unfold uintR at CU
    obtain ⟨K, hK⟩ : ∃ K, K = k + n := ⟨_, rfl⟩
    simp only [← hK] at CU
    by_cases hv : v ≤ 1048576
    · have hn : nxt b (k, t) = (v, K, t) := by
        unfold nxt nextN
        rw [hR, hK]
        simp only
        rw [if_pos hv]
      rw [hn]
      have hvi : ¬ (1048576 : Int) < v := by omega
      have wv : IntKind.i64.wrap (v : Int) = v := by simp [IntKind.wrap, IntKind.bits, IntKind.signed]; omega
      clear hR hn hK
      go_enter Tryd.func8, Tryd.ntmps8
      go_wp2_with fail
      refine CU.out.mono ?_
      rintro e w1 ⟨rfl, hg⟩
      have hd1 := HD.out.grows hg
      have d1 := hd1.c1
      have e1 := hd1.f1
      have HD1 := Lib.hid hd1
      simp only at d1
      clear hd1
      go_wp2_with fail
      go_ret
      exact ⟨rfl, HD1.out.put1 K, (NB.of hg).trans (NB.set (Or.inl rfl) _)⟩
    · have hn : nxt b (k, t) = (0, k, true) := by
        unfold nxt nextN
        rw [hR]
        simp only
        rw [if_neg hv]
      rw [hn]
      have hvi : (1048576 : Int) < v := by omega
      clear hR hn hK
      go_enter Tryd.func8, Tryd.ntmps8
      go_wp2_with fail
      refine CU.out.mono ?_
      rintro e w1 ⟨rfl, hg⟩
      have hd1 := HD.out.grows hg
      have d2 := hd1.c2
      have e2 := hd1.f2
      have HD1 := Lib.hid hd1
      simp only at d2
      clear hd1
      go_wp2_with fail
      go_ret
      exact ⟨rfl, HD1.out.put2, (NB.of hg).trans (NB.set (Or.inr rfl) _)⟩
end Go.Proofs.YtcdjponbhpchbaaDoor
