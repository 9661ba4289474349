/- The texts Pairs Mat3 Mat5 Mat6 MatSets OpenM, one behind the other. -/
import Derived.Test.YtcdjponbhpchbaaGreatDoorBq14
import Derived.Test.YtcdjponbhpchbaaGreatDoorBq15
import Derived.Test.YtcdjponbhpchbaaGreatDoorBq12
import Derived.Test.YtcdjponbhpchbaaGreatDoorBq9
import Derived.Test.YtcdjponbhpchbaaGreatDoorBq1
import Derived.Test.YtcdjponbhpchbaaGreatDoorBq5
import Derived.Test.YtcdjponbhpchbaaGreatDoorBq3
namespace Go.Proofs.YtcdjponbhpchbaaGreatDoor
open Go Go.RowKit Go.Shelf
attribute [local go_sem] quietE

theorem sortedP_eq {m : Mx} (hok : m.OK) {D : DataW Unit} (hM : MapM m D) {ss : List PW} (hA : AllKeys D ss) {l : List (Int × Int)} (hp : l.Perm (ss.map (·.1))) (hs : l.Pairwise fun x y => ltOf cmpP y x = false) : l = m.pairs := by
  have hnd : l.Nodup := hp.nodup_iff.2 (List.pairwise_map.2 (hA.1.imp fun h e => h (Subtype.ext e)))
  have hlt : l.Pairwise ltP := (hs.and hnd).imp fun {x y} ⟨h1, h2⟩ => by
    rcases ltP_total h2 with h | h
    · exact h
    · rw [(ltOf_P y x).2 h] at h1; cases h1
  refine pw_unique (lt := ltP) ltP_irrefl (fun h k => ltP_trans h k) hlt m.pairs_sorted fun y => ?_
  rw [hp.mem_iff, Mx.mem_pairs, List.mem_map]
  constructor
  · rintro ⟨x, hx, rfl⟩
    have h1 := (hA.2 x).1 hx
    have h2 := (hM x.1 x.2.1 x.2.2).1
    rw [h1] at h2
    have h3 := h2.symm
    simpa using h3
  · rintro ⟨h1, h2⟩
    have hw := wf_of_in hok.n2 h1
    refine ⟨⟨y, hw.1, hw.2⟩, (hA.2 _).2 ?_, rfl⟩
    rw [(hM y hw.1 hw.2).1, h1]
    simp [h2]
theorem owns_pw {w : World} {base : Nat} {v : Value} {ss : List PW} (h : w.ownsRow base 59 2 v ss.length (ss.flatMap cellsPW)) : Owns w base 59 2 pairC v (ss.map (·.1)) := by
  unfold Owns
  rw [List.length_map, List.flatMap_map]
  exact h
set_option maxHeartbeats 2000000 in
theorem sortedP_any (w : World) (Bm bm nn : Nat) (D : DataW Unit) (m : Mx) (hok : m.OK) (hM : MapM m D) (hsz : Maps.size D ≤ 4096) (hm : w.cell? ⟨Bm, 0, none⟩ = some (.map (some bm))) (hown : w.ownsMap Tryz.prog 59 (plainElem Tryz.prog 3) bm nn D) :
    Calls Tryz.prog 55 #[.func (.func 82) #[] #[.pointer (some ⟨Bm, 0, none⟩)], .func (.func 57) #[] #[]] w fun e w' => ∃ v, e = .returned v ∧ Owns w' w.heap.size 59 2 pairC v m.pairs ∧ Grows w w' := by
  have CC := Lib.hid (collectP_any w Bm bm nn D hsz hm hown)
  have HE := fun (ss : List PW) (l : List (Int × Int)) h1 h2 h3 => Lib.hid (sortedP_eq hok hM (ss := ss) (l := l) h1 h2 h3)
  have HL : Hid (∀ ss : List PW, AllKeys D ss → ss.length < 4611686018427387904) := fun ss hA => by
    have h0 := nodup_sub_len (l' := m.pairs) (List.pairwise_map.2 (hA.1.imp fun h (e : _ = _) => h (Subtype.ext e)) : (ss.map (·.1)).Nodup) (fun y hy => by
      obtain ⟨x, hx, rfl⟩ := List.mem_map.1 hy
      have h1 := (hA.2 x).1 hx
      have h2 := (hM x.1 x.2.1 x.2.2).1
      rw [h1] at h2
      exact Mx.mem_pairs.2 (by simpa using h2.symm))
    rw [List.length_map] at h0
    have := Mx.pairs_len hok
    omega
  clear hM hok hsz hm hown
  go_enter Tryz.func55, Tryz.ntmps55
  go_wp2_with fail
  refine CC.out.mono ?_
  rintro e w1 ⟨v, ss, rfl, hA, hrow, hb⟩
  have hown1 := owns_pw hrow
  have hl := HL.out ss hA
  go_wp2_with (go_at_call 81; refine (psortf_any w1 w.heap.size v _ hown1 (by rw [List.length_map]; exact hl)).mono ?_; rintro e w2 ⟨rfl, l', hp, hsd, hown2, hg2⟩)
  go_ret
  have he := (HE ss l' hA hp hsd).out
  rw [he] at hown2
  exact ⟨_, rfl, hown2, (show Grows w w1 from hb).grown hg2 (fun q hq => ownBlock_ge hown1 q hq)⟩
set_option maxHeartbeats 2000000 in
theorem pairs_any (w : World) (mb bm : Nat) (m : Mx) (h : MatAt w mb bm m) :
    Calls Tryz.prog 36 #[.pointer (some ⟨mb, 0, none⟩)] w fun e w' => ∃ v, e = .returned v ∧ Owns w' w.heap.size 59 2 pairC v m.pairs ∧ Grows w w' := by
  have c2 := h.c2
  obtain ⟨D, hown, hM⟩ := h.own
  have hok := h.ok
  have CS := Lib.hid (sortedP_any (w.alloc (.cells #[.map (some bm)] 53)) w.heap.size bm 4096 D m hok hM (mapM_size hok hown hM) (cell_box _ _ _ _ 0 _ rfl) (hown.alloc _))
  clear hM hok hown h
  go_enter Tryz.func36, Tryz.ntmps36
  go_wp2_with (first | (go_at_call 56; refine (keysP_any _ _).mono ?_; rintro e w1 ⟨rfl, rfl⟩) | (go_at_call 55; refine CS.out.mono ?_; rintro e w2 ⟨v, rfl, hown2, hg2⟩))
  go_ret
  exact ⟨_, rfl, hown2.base (by simp), (Grows.alloc _ _).tr hg2⟩
end Go.Proofs.YtcdjponbhpchbaaGreatDoor
namespace Go.Proofs.YtcdjponbhpchbaaGreatDoor
open Go Go.RowKit
attribute [local go_sem] quietE

theorem wrap_i64n {n : Nat} (h : n ≤ 1048576) : IntKind.i64.wrap (n : Int) = n := by simp [IntKind.wrap, IntKind.bits, IntKind.signed]; omega
theorem wrap_u64 {n : Nat} (h : n ≤ 1048576) : IntKind.u64.wrap (n : Int) = n := by simp [IntKind.wrap, IntKind.bits, IntKind.signed]; omega
set_option maxHeartbeats 8000000 in
set_option maxRecDepth 100000 in
theorem encode_any (w : World) (mb bm : Nat) (m : Mx) (h : MatAt w mb bm m) :
    Calls Tryz.prog 16 #[.pointer (some ⟨mb, 0, none⟩)] w fun e w' => ∃ v, e = .returned v ∧ Owns w' w.heap.size 5 1 byteC v m.enc ∧ Grows w w' := by
  have CP := Lib.hid (pairs_any w mb bm m h)
  have c0 := h.c0
  have c1 := h.c1
  have c2 := h.c2
  have hok := h.ok
  have hn1 := hok.n1
  have hn2 := hok.n2
  have hd1 := hok.d1
  have hd2 := hok.d2
  have hil := Mx.idx_len hok
  obtain ⟨D, hown, hM⟩ := h.own
  have hpl : m.pairs.length = m.idx.length := by unfold Mx.pairs; rw [List.length_map]
  obtain ⟨d, hd⟩ : ∃ d : Nat, m.d = d := ⟨m.d.toNat, by omega⟩
  have HE : Hid (m.enc = putU m.n ++ (putU d ++ (putU m.idx.length ++ encGo m (-1) m.idx))) := by show m.enc = _; unfold Mx.enc; rw [hd]; rfl
  rw [hd] at c1
  have hdb : d ≤ 30000 := by omega
  have wN : IntKind.u64.wrap (m.n : Int) = m.n := wrap_u64 (by omega)
  have wD : IntKind.u64.wrap (d : Int) = d := wrap_u64 (by omega)
  have wL : IntKind.u64.wrap (m.idx.length : Int) = m.idx.length := wrap_u64 (by omega)
  clear h hd1 hd2
  go_enter Tryz.func16, Tryz.ntmps16
  go_wp2_with fail
  refine CP.out.mono ?_
  rintro e w1 ⟨v1, rfl, hown1, hg1⟩
  obtain ⟨a1, k1, rfl, h11, h12, hat1⟩ := hown1.at_ (enc := pairC) (fun _ => rfl)
  rw [hpl] at h11 ⊢
  clear hown1
  go_wp2_with fail
  have x0 : ∀ x : Ext Grows w1.drew, x.u.cell? ⟨mb, 0, none⟩ = some (.int .i64 m.n) := ext_cell (hg1.dr.cell c0)
  have x1 : ∀ x : Ext Grows w1.drew, x.u.cell? ⟨mb, 1, none⟩ = some (.int .i64 d) := ext_cell (hg1.dr.cell c1)
  refine s_region Grows [(0, false), (1, false), (2, false), (3, false), (4, false), (6, false), (7, false), (8, false), (9, false), (10, false), (12, false), (13, false), (14, false), (5, true), (11, true), (15, true), (16, true)] Grows.refl Grows.trans (by kernel_rfl) (by kernel_rfl) (fun d _ _ _ _ h => by cases d <;> exact h) ?_
  iterate 13 (refine s_quiet rfl (fun K hK => ?_); go_simp; refine hK _ ?_; clear hK K)
  clear x0 x1
  refine s_late_w rfl rfl (fun K hK w2 h2 => ?_)
  go_simp
  refine (putUint_any [] none 0 m.n w2 (by simp) (by omega) (AtCells.nil _ _ _) (fun _ => rfl)).mono ?_
  rintro e w3 ⟨v3, rfl, hown3, hg3⟩
  obtain ⟨B3, hB3⟩ : ∃ B, B = ([] : List UInt8) ++ putU m.n := ⟨_, rfl⟩
  rw [← hB3] at hown3
  have hb3 : B3.length ≤ 10 := by have := putU_len m.n; rw [hB3]; simpa using this
  have HB3 := Lib.hid hB3
  clear hB3
  obtain ⟨a3, k3, rfl, h31, h32, hat3⟩ := hown3.at_ byteLay.len
  have hn3 := owns_none2 hown3
  clear hown3
  refine ⟨hg3, hK _ _ ?_⟩
  clear hK K
  refine s_late_w rfl rfl (fun K hK w4 h4 => ?_)
  go_simp
  refine (putUint_any _ a3 k3 d w4 (by omega) (by omega) (hat3.grows h4) hn3).mono ?_
  rintro e w5 ⟨v5, rfl, hown5, hg5⟩
  obtain ⟨B5, hB5⟩ : ∃ B, B = B3 ++ putU d := ⟨_, rfl⟩
  rw [← hB5] at hown5
  have hb5 : B5.length ≤ 20 := by have := putU_len d; rw [hB5, List.length_append]; omega
  have HB5 := Lib.hid hB5
  clear hB5
  obtain ⟨a5, k5, rfl, h51, h52, hat5⟩ := hown5.at_ byteLay.len
  have hn5 := owns_none2 hown5
  clear hown5 hat3 hn3
  refine ⟨hg5, hK _ _ ?_⟩
  clear hK K
  refine s_late_w rfl rfl (fun K hK w6 h6 => ?_)
  go_simp
  refine (putUint_any _ a5 k5 m.idx.length w6 (by omega) (by omega) (hat5.grows h6) hn5).mono ?_
  rintro e w7 ⟨v7, rfl, hown7, hg7⟩
  clear hat5 hn5
  refine ⟨hg7, hK _ _ ?_⟩
  clear hK K
  refine s_late_w rfl rfl (fun K hK w8 h8 => ?_)
  go_simp
  refine ⟨Grows.refl _, hK _ _ ?_⟩
  clear hK K
  refine s_end (fun w9 h9 => ?_)
  have hg18 : Grows w1 w6 := ((((Grows.drew w1).tr h2).tr hg3).tr h4).tr (hg5.tr h6)
  have hg79 : Grows w7 w9 := h8.tr h9
  have hg9 : Grows w w9 := ((hg1.tr hg18).tr hg7).tr hg79
  replace hat1 := hat1.grows ((hg18.tr hg7).tr hg79)
  have hown9 := (hown7.grows hg79).base (base' := w.heap.size) (hg1.tr hg18).size
  clear hown7 h2 hg3 h4 hg5 h6 hg7 h8 h9 hg18 hg79 hg1 CP
  obtain ⟨B9, hB9⟩ : ∃ B, B = B5 ++ putU m.idx.length := ⟨_, rfl⟩
  rw [← hB9] at hown9
  have hb9 : B9.length ≤ 30 := by have := putU_len m.idx.length; rw [hB9, List.length_append]; omega
  have HE9 : Hid (m.enc = B9 ++ encGo m (-1) m.idx) := by
    show m.enc = _
    rw [HE.out, hB9, HB5.out, HB3.out]; simp
  clear hB9 HE HB5 HB3 hb3 hb5
  go_wp2_with fail
  go_loopw [4, 5, 31] (fun b last i wx => ∃ (k : Nat) (acc : List UInt8) (L : Int), k ≤ m.idx.length ∧ i = .int .i64 k ∧ last = .int .i64 L ∧ -1 ≤ L ∧ L ≤ 4096 ∧ Owns wx w.heap.size 5 1 byteC b acc ∧ acc.length ≤ 30 + k * 20 ∧ Hid (m.enc = acc ++ encGo m L (m.idx.drop k)) ∧ Hid (∀ j ∈ m.idx.drop k, L < (j : Int)) ∧ Grows w9 wx) (fun _ _ i _ => m.idx.length - (intOf i).toNat)
  case atStart => exact ⟨0, B9, -1, Nat.zero_le _, rfl, rfl, by omega, by omega, hown9, by omega, HE9.out, fun j _ => by omega, Grows.refl _⟩
  case round =>
    obtain ⟨k, acc, L, hk, rfl, rfl, hL1, hL2, hownb, hal, hE, hLj, hgx⟩ := hrel
    have hgw := hg9.tr hgx
    obtain ⟨ab, cb, rfl, hb1, hb2, hatb⟩ := hownb.at_ byteLay.len
    have hnb := owns_none2 hownb
    by_cases hlt : k < m.idx.length
    · obtain ⟨i, hi⟩ : ∃ i, m.idx[k]? = some i := ⟨_, List.getElem?_eq_getElem hlt⟩
      obtain ⟨hin, hpi, hc0, hc1, hcost⟩ := Mx.idx_get hok hi
      have hdrop : m.idx.drop k = i :: m.idx.drop (k + 1) := by
        rw [List.drop_eq_getElem_cons hlt]
        rw [List.getElem?_eq_getElem hlt] at hi
        rw [Option.some.inj hi]
      have hLi : L < (i : Int) := hLj.out i (by rw [hdrop]; simp)
      have hup : ∀ j ∈ m.idx.drop (k + 1), i < j := by
        have h1 : (m.idx.drop k).Pairwise (· < ·) := Mx.idx_up.sublist (List.drop_sublist k _)
        rw [hdrop] at h1
        exact (List.pairwise_cons.1 h1).1
      have hi2 : i < 4096 := Nat.lt_of_lt_of_le hin (Nat.mul_le_mul hn2 hn2)
      obtain ⟨Dl, hDl⟩ : ∃ Dl : Nat, (i : Int) - L = Dl := ⟨((i : Int) - L).toNat, by omega⟩
      obtain ⟨C, hC⟩ : ∃ C : Nat, m.cs.getD i 0 = C := ⟨(m.cs.getD i 0).toNat, by omega⟩
      have hnext : m.enc = ((acc ++ putU Dl) ++ putU C) ++ encGo m i (m.idx.drop (k + 1)) := by
        rw [hE.out, hdrop]
        show acc ++ (putU ((i : Int) - L).toNat ++ (putU (m.cs.getD i 0).toNat ++ encGo m i (m.idx.drop (k + 1)))) = _
        rw [hDl, hC]; simp
      have HNX := Lib.hid hnext
      have HUP : Hid (∀ j ∈ m.idx.drop (k + 1), (i : Int) < (j : Int)) := fun j hj => by have := hup j hj; omega
      have hpn := pairAt_in hin
      have hcs : m.cost (pairAt m.n i) = C := by rw [hcost, hC]
      obtain ⟨r, hr⟩ : ∃ r : Nat, r = i / m.n := ⟨_, rfl⟩
      obtain ⟨q, hq⟩ : ∃ q : Nat, q = i % m.n := ⟨_, rfl⟩
      have hpe : pairAt m.n i = ((r : Int), (q : Int)) := by rw [hr, hq]; rfl
      rw [hpe] at hpi hpn hcs
      have hrq : (r : Int) * m.n + q = i := by
        rw [hr, hq]
        have := Nat.div_add_mod i m.n
        rw [Nat.mul_comm] at this
        exact_mod_cast this
      have hr64 : r < 64 := by have := inP_iff.1 hpn.1; simp only at this; omega
      have hrn : r * m.n ≤ 4096 := by
        have := Nat.mul_le_mul (Nat.le_of_lt hr64) hn2; omega
      have hq64 : q < 64 := by have := inP_iff.1 hpn.1; simp only at this; omega
      obtain ⟨lb, lo, rfl, hcp⟩ := (hat1.grows hgx).get (ne_nil_of_lt (k := k) (by omega))
      have p0 : wr.cell? ⟨lb, lo + k * 2, none⟩ = some (.int .i64 r) := hcp k _ hpi 0 _ rfl
      have p1 : wr.cell? ⟨lb, lo + k * 2 + 1, none⟩ = some (.int .i64 q) := hcp k _ hpi 1 _ rfl
      have hw := wf_of_in hn2 hpn.1
      have hkey := keyP (x := ((r : Int), (q : Int))) hw.1 hw.2
      have HLK : Hid (∀ W, Grows w W → (Instr.lookup 53 (.map (some bm)) (.agg #[.int .i64 r, .int .i64 q]) false).run Tryz.prog W = .ok (.int .i64 C) W) := fun W hW => by
        obtain ⟨c, hrun, hat, _⟩ := (ownsMap_grows hown hW).lookup_int keyedP Tryz.underlying53 Tryz.underlying3 (zeroI2 W) hkey
        have hne : m.cs.getD i 0 ≠ m.d := (Mx.mem_idx.1 (List.mem_of_getElem? hi)).2
        have hhas := (hM ((r : Int), (q : Int)) hw.1 hw.2).1
        have h1 : Maps.has D (klP ((r : Int), (q : Int))) = true := by
          rw [hhas, hpn.1, hcs, ← hC]
          simpa using hne
        have h2 := (hM.look hok hpn.1 hat).1 h1
        rw [hcs] at h2
        rw [h2] at hrun
        exact hrun
      have hCb : C ≤ 30000 := by omega
      have hDb : Dl ≤ 4097 := by omega
      have wDl : IntKind.u64.wrap (Dl : Int) = Dl := wrap_u64 (by omega)
      have wC : IntKind.u64.wrap (C : Int) = C := wrap_u64 (by omega)
      obtain ⟨rn, hrn2⟩ : ∃ rn : Nat, (r : Int) * m.n = rn := ⟨r * m.n, by simp⟩
      have hrn3 : rn ≤ 4096 := by
        have : rn = r * m.n := by exact_mod_cast hrn2.symm
        omega
      have wRN : IntKind.i64.wrap ((r : Int) * m.n) = rn := by rw [hrn2]; exact wrap_i64n (by omega)
      have wI : IntKind.i64.wrap ((rn : Int) + q) = i := by rw [← hrn2, hrq]; exact wrap_i64n (by omega)
      have wDL : IntKind.i64.wrap ((i : Int) - L) = Dl := by rw [hDl]; exact wrap_i64n (by omega)
      clear hcp hpi hdrop hup hin hnext hE hLj hc0 hc1 hcost hpn hcs hkey hw hi hpe hr hq hownb hrn2 hrq hDl
      have z0 : ∀ x : Ext Grows (wr.alloc (.cells #[.int .i64 r, .int .i64 q] 59)).drew, x.u.cell? ⟨wr.heap.size, 0, none⟩ = some (.int .i64 r) := ext_cell (cell_box wr _ _ (0, 0) 0 _ rfl)
      have z1 : ∀ x : Ext Grows (wr.alloc (.cells #[.int .i64 r, .int .i64 q] 59)).drew, x.u.cell? ⟨wr.heap.size, 1, none⟩ = some (.int .i64 q) := ext_cell (cell_box wr _ _ (0, 0) 1 _ rfl)
      have z2 : ∀ x : Ext Grows (wr.alloc (.cells #[.int .i64 r, .int .i64 q] 59)).drew, x.u.cell? ⟨mb, 0, none⟩ = some (.int .i64 m.n) := ext_cell ((hgw.al _).dr.cell c0)
      go_wp2_with fail
      refine s_region Grows [(0, false), (1, false), (2, false), (3, false), (4, false), (5, false), (6, false), (7, false), (8, false), (9, false), (10, false)] Grows.refl Grows.trans (by kernel_rfl) (by kernel_rfl) (fun d _ _ _ _ h => by cases d <;> exact h) ?_
      iterate 11 (refine s_quiet rfl (fun K hK => ?_); go_simp; refine hK _ ?_; clear hK K)
      refine s_end (fun wa ha => ?_)
      clear z0 z1 z2
      have hga : Grows (wr.alloc (.cells #[.int .i64 r, .int .i64 q] 59)) wa := (Grows.drew _).tr ha
      go_wp2_with fail
      have n0 : ∀ x : Ext Grows wa.drew, x.u.cell? ⟨mb, 2, none⟩ = some (.map (some bm)) := ext_cell (((hgw.al _).tr hga).dr.cell c2)
      have n1 : ∀ x : Ext Grows wa.drew, x.u.cell? ⟨wr.heap.size, 0, none⟩ = some (.int .i64 r) := ext_cell (hga.dr.cell (cell_box wr _ _ (0, 0) 0 _ rfl))
      have n2 : ∀ x : Ext Grows wa.drew, x.u.cell? ⟨wr.heap.size, 1, none⟩ = some (.int .i64 q) := ext_cell (hga.dr.cell (cell_box wr _ _ (0, 0) 1 _ rfl))
      have n3 : ∀ x : Ext Grows wa.drew, (Instr.lookup 53 (.map (some bm)) (.agg #[.int .i64 r, .int .i64 q]) false).run Tryz.prog x.u = .ok (.int .i64 C) x.u := fun x => HLK.out _ (((hgw.al _).tr hga).dr.tr x.h)
      refine s_region Grows [(0, false), (1, false), (2, false), (3, false), (4, false), (6, false), (7, false), (8, false), (9, false), (10, false), (11, false), (12, false), (5, true), (13, true), (14, true)] Grows.refl Grows.trans (by kernel_rfl) (by kernel_rfl) (fun d _ _ _ _ h => by cases d <;> exact h) ?_
      iterate 10 (refine s_quiet rfl (fun K hK => ?_); go_simp; refine hK _ ?_; clear hK K)
      refine s_quiet rfl (fun K hK => ?_)
      go_simp
      refine hK _ ?_
      clear hK K
      iterate 1 (refine s_quiet rfl (fun K hK => ?_); go_simp; refine hK _ ?_; clear hK K)
      clear n0 n1 n2 n3 HLK
      refine s_late_w rfl rfl (fun K hK w2 h2 => ?_)
      go_simp
      have hgA : Grows wr w2 := ((Grows.alloc wr _).tr hga).dr.tr h2
      refine (putUint_any _ ab cb Dl w2 (by omega) (by omega) (hatb.grows hgA) hnb).mono ?_
      rintro e w3 ⟨v3, rfl, hown3, hg3⟩
      obtain ⟨B3, hB3⟩ : ∃ B, B = acc ++ putU Dl := ⟨_, rfl⟩
      rw [← hB3] at hown3
      have hb3 : B3.length ≤ acc.length + 10 := by have := putU_len Dl; rw [hB3, List.length_append]; omega
      have HB3 := Lib.hid hB3
      clear hB3
      obtain ⟨a3, k3, rfl, h31, h32, hat3⟩ := hown3.at_ byteLay.len
      have hn3 := owns_none2 hown3
      clear hown3
      refine ⟨hg3, hK _ _ ?_⟩
      clear hK K
      refine s_late_w rfl rfl (fun K hK w4 h4 => ?_)
      go_simp
      refine (putUint_any _ a3 k3 C w4 (by omega) (by omega) (hat3.grows h4) hn3).mono ?_
      rintro e w5 ⟨v5, rfl, hown5, hg5⟩
      obtain ⟨B5, hB5⟩ : ∃ B, B = B3 ++ putU C := ⟨_, rfl⟩
      rw [← hB5] at hown5
      have hb5 : B5.length ≤ B3.length + 10 := by have := putU_len C; rw [hB5, List.length_append]; omega
      have HN5 : Hid (m.enc = B5 ++ encGo m i (m.idx.drop (k + 1))) := by
        show m.enc = _
        rw [hB5, HB3.out, HNX.out]
      clear hB5 HNX HB3 hat3 hn3
      refine ⟨hg5, hK _ _ ?_⟩
      clear hK K
      refine s_late_w rfl rfl (fun K hK w6 h6 => ?_)
      go_simp
      refine ⟨Grows.refl _, hK _ _ ?_⟩
      clear hK K
      refine s_end (fun w7 h7 => ?_)
      have hg57 : Grows w5 w7 := h6.tr h7
      have hgB : Grows wr w4 := (hgA.tr hg3).tr h4
      have hown7 := (hown5.grows hg57).base (base' := w.heap.size) (hgw.tr hgB).size
      have hg7 : Grows w9 w7 := ((hgx.tr hgB).tr hg5).tr hg57
      clear hown5 hg57 hgB h2 hg3 h4 hg5 h6 h7 hgA hga
      go_wp2_with fail
      go_roundw
      case rel => exact ⟨k + 1, B5, i, hlt, by go_num, rfl, by omega, by omega, hown7, by omega, HN5, HUP, hg7⟩
      case measure => simp [intOf]; omega
    · obtain rfl : k = m.idx.length := by omega
      have hfin := hE.out
      rw [List.drop_length] at hfin
      have hfin2 : m.enc = acc := by rw [hfin]; show acc ++ [] = acc; simp
      have HF := Lib.hid hfin2
      clear hfin hfin2 hE hLj
      go_wp2_with fail
      go_ret
      exact ⟨_, rfl, by rw [HF.out]; exact hownb, hgw⟩
end Go.Proofs.YtcdjponbhpchbaaGreatDoor
namespace Go.Proofs.YtcdjponbhpchbaaGreatDoor
open Go Go.RowKit
attribute [local go_sem] quietE

theorem owns_oth {α : Type} {w w' : World} {base b : Nat} {e u : TypeId} {k : Nat} {enc : α → List Value} {v : Value} {xs : List α} (h : Owns w base e k enc v xs) (hk : Lib.OthersKept u (some b) w w') (hb : b < base) (he : e ≠ u) : Owns w' base e k enc v xs := by
  refine ⟨h.1, h.2.imp_right ?_⟩
  rintro ⟨g, cap, cur, hv, hbg, hh, r⟩
  exact ⟨g, cap, cur, hv, hbg, hk g _ hh (by intro h; cases h; omega) (by intro c fz h; cases h; exact he rfl), r⟩

def lineP (p : List PosV) (m : Mx) (i : Nat) : List UInt8 :=
  ((((nameAt p (i / m.n : Nat)).data.toList ++ [9]) ++ (nameAt p (i % m.n : Nat)).data.toList) ++ [9]) ++ Lib.itoa (m.cs.getD i 0) ++ [10]
def Mx.print (p : List PosV) (m : Mx) : List UInt8 := ([100, 101, 102, 97, 117, 108, 116, 9] ++ Lib.itoa m.d ++ [10]) ++ m.idx.flatMap (lineP p m)
def matPrint (p : List PosV) (m : Mx) : List UInt8 × Int := if posValid p = true ∧ p.length = m.n then (m.print p, 0) else ([], 5)

set_option maxHeartbeats 4000000 in
set_option maxRecDepth 100000 in
theorem matPrint_any (w : World) (mb bm : Nat) (m : Mx) (h : MatAt w mb bm m) (p : List PosV) (pa : Option Addr) (pcap : Nat) (hp : p.length ≤ 4611686018427387904) (he : Env w) (hpt : AtCells w pa 2 (p.map posCells)) :
    Calls Tryz.prog 20 #[.pointer (some ⟨mb, 0, none⟩), .slice pa p.length pcap] w fun e w' => e = .returned (.tuple #[.string ⟨(matPrint p m).1.toArray⟩, .int .i64 (matPrint p m).2]) ∧ Grows w w' := by
  have CC := Lib.hid (check_any p pa pcap w hpt hp)
  have c0 := h.c0
  cases hv : posValid p
  · have hq : matPrint p m = ([], 5) := by unfold matPrint; rw [hv]; simp
    rw [hq]
    rw [hv] at CC
    clear hq hv
    go_enter Tryz.func20, Tryz.ntmps20
    go_wp2_with (first | (go_at_call 21; refine CC.out.mono ?_; rintro e w1 ⟨rfl, hg1⟩))
    go_ret2
    exact ⟨rfl, hg1⟩
  · by_cases hlen : p.length = m.n
    · rw [hv] at CC
      have hq : matPrint p m = (m.print p, 0) := by unfold matPrint; rw [if_pos ⟨hv, hlen⟩]
      rw [hq]
      have HNS : Hid (∀ (i : Nat) (q : PosV), p[i]? = some q → q.name.size ≤ 16) := fun i q hq => name_size hv hq
      clear hq hv
      have HLEN := Lib.hid hlen
      have hok := h.ok
      have hn1 := hok.n1
      have hn2 := hok.n2
      have hd1 := hok.d1
      have hd2 := hok.d2
      have HM := Lib.hid h
      have c1 := h.c1
      have hlen2 : (p.length : Int) = m.n := by omega
      clear h hlen
      go_enter Tryz.func20, Tryz.ntmps20
      go_wp2_with (first | (go_at_call 21; refine CC.out.mono ?_; rintro e w1 ⟨rfl, hg1⟩; replace c0 := hg1.cell c0; replace c1 := hg1.cell c1; have c1a := (Grows.alloc w1 (.cells #[.pointer none, .slice none 0 0] 87)).cell c1))
      have hgA := hg1.al (.cells #[.pointer none, .slice none 0 0] 87)
      refine (itoa_any _ _ hd1 hd2 (he.grows hgA)).mono ?_
      rintro e w2 ⟨rfl, hg2⟩
      have hg02 := hgA.tr hg2
      have hI := Lib.itoa_length_le m.d (by omega) (by omega)
      clear c0 c1 c1a
      go_wp2_with fail
      refine (Tryz.Builder_WriteString_k w1.heap.size w1.heap.size (Lib.byteCells []) _ w2 (isBuilder_grows (Lib.IsBuilderF.of (Lib.fresh_isBuilder _ _ w1)) hg2) ?hl ?hs).mono ?_
      case hl => rw [Lib.byteCells_length]; simp [ByteArray.size]; omega
      case hs => have := hg2.size; simp at this; omega
      rintro e w3 ⟨rfl, hbd3, hb3, _⟩
      obtain ⟨B3, hB3⟩ : ∃ B, B = [100, 101, 102, 97, 117, 108, 116, 9] ++ Lib.itoa m.d ++ [10] := ⟨_, rfl⟩
      have hbdB : Lib.IsBuilderF 87 5 w1.heap.size w1.heap.size (Lib.byteCells B3) w3 := Or.inr (builder_more (acc := []) (L := B3) hbd3 (by rw [hB3]; simp))
      have hl3 : B3.length ≤ 64 := by rw [hB3]; simp; omega
      have HB3 : Hid (m.print p = B3 ++ m.idx.flatMap (lineP p m)) := by show m.print p = _; rw [hB3]; rfl
      clear hB3 hbd3
      have hg13 : Grows w1 w3 := Below.trans ((Grows.alloc w1 _).tr hg2) hb3
      have hg03 := hg1.tr hg13
      have hlt13 : w1.heap.size < w3.heap.size := by
        have h1 := hg2.size
        have h2 := Below.size hb3
        simp at h1
        omega
      go_wp2_with fail
      refine (pairs_any w3 mb bm m (HM.out.grows hg03)).mono ?_
      rintro e w4 ⟨v4, rfl, hown4, hg4⟩
      obtain ⟨a4, k4, rfl, h41, h42, _⟩ := hown4.at_ (enc := pairC) (fun _ => rfl)
      have hpl : m.pairs.length = m.idx.length := by unfold Mx.pairs; rw [List.length_map]
      rw [hpl] at h41 hown4 ⊢
      have hil := Mx.idx_len hok
      have hbd4 := isBuilder_grows hbdB hg4
      have hg14 := hg13.tr hg4
      clear hbdB hb3 hI hg02 hgA hg2 CC
      go_wp2_with fail
      go_loopw [34] (fun i wx => ∃ (k : Nat) (acc : List UInt8), k ≤ m.idx.length ∧ i = .int .i64 k ∧ Lib.IsBuilderF 87 5 w1.heap.size w1.heap.size (Lib.byteCells acc) wx ∧ Owns wx w3.heap.size 59 2 pairC (.slice a4 m.idx.length k4) m.pairs ∧ acc.length ≤ 64 + k * 64 ∧ Hid (m.print p = acc ++ (m.idx.drop k).flatMap (lineP p m)) ∧ Grows w1 wx) (fun i _ => m.idx.length - (intOf i).toNat)
      case atStart => exact ⟨0, B3, Nat.zero_le _, rfl, hbd4, hown4, by omega, HB3, hg14⟩
      case round =>
        obtain ⟨k, acc, hk, rfl, hbd, hown, hal, hE, hgx⟩ := hrel
        have hgw := hg1.tr hgx
        by_cases hlt : k < m.idx.length
        · obtain ⟨i, hi⟩ : ∃ i, m.idx[k]? = some i := ⟨_, List.getElem?_eq_getElem hlt⟩
          obtain ⟨hin, hpi, hc0, hc1, hcost⟩ := Mx.idx_get hok hi
          have hdrop : m.idx.drop k = i :: m.idx.drop (k + 1) := by
            rw [List.drop_eq_getElem_cons hlt]
            rw [List.getElem?_eq_getElem hlt] at hi
            rw [Option.some.inj hi]
          obtain ⟨C, hC⟩ : ∃ C, m.cs.getD i 0 = C := ⟨_, rfl⟩
          have hpn := pairAt_in hin
          have hcs : m.cost (pairAt m.n i) = C := by rw [hcost, hC]
          obtain ⟨r, hr⟩ : ∃ r : Nat, r = i / m.n := ⟨_, rfl⟩
          obtain ⟨q, hq⟩ : ∃ q : Nat, q = i % m.n := ⟨_, rfl⟩
          have hpe : pairAt m.n i = ((r : Int), (q : Int)) := by rw [hr, hq]; rfl
          rw [hpe] at hpi hpn hcs
          have hrl : r < p.length := by have := inP_iff.1 hpn.1; simp only at this; omega
          have hql : q < p.length := by have := inP_iff.1 hpn.1; simp only at this; omega
          have hrm : r < m.n := by omega
          have hqm : q < m.n := by omega
          obtain ⟨P1, hP1⟩ : ∃ x, p[r]? = some x := ⟨_, List.getElem?_eq_getElem hrl⟩
          obtain ⟨P2, hP2⟩ : ∃ x, p[q]? = some x := ⟨_, List.getElem?_eq_getElem hql⟩
          have hs1 := HNS.out _ _ hP1
          have hs2 := HNS.out _ _ hP2
          have hline : lineP p m i = ((((P1.name.data.toList ++ [9]) ++ P2.name.data.toList) ++ [9]) ++ Lib.itoa C) ++ [10] := by
            unfold lineP nameAt
            rw [← hr, ← hq, hC]
            simp [hP1, hP2]
          have HL := Lib.hid hline
          have hIC := Lib.itoa_length_le C (by omega) (by omega)
          have t1 : ¬ 9223372036854775807 < P1.name.size + 1 := by omega
          have t2 : ¬ 9223372036854775807 < P1.name.size + 1 + P2.name.size := by omega
          have t3 : ¬ 9223372036854775807 < P1.name.size + 1 + P2.name.size + 1 := by omega
          have t4 : ¬ 9223372036854775807 < P1.name.size + 1 + P2.name.size + 1 + (Lib.itoa C).length := by omega
          have t5 : ¬ 9223372036854775807 < P1.name.size + 1 + P2.name.size + 1 + (Lib.itoa C).length + 1 := by omega
          have hll : (lineP p m i).length ≤ 64 := by
            have q3 := Lib.size_eq P1.name
            have q4 := Lib.size_eq P2.name
            rw [hline]
            simp only [List.length_append, List.length_cons, List.length_nil]
            omega
          have HNX : Hid (m.print p = (acc ++ lineP p m i) ++ (m.idx.drop (k + 1)).flatMap (lineP p m)) := by
            show m.print p = _
            rw [hE.out, hdrop]; simp
          obtain ⟨pb, poff, rfl, hpc⟩ := (hpt.grows hgw).get (ne_nil_of_lt hrl)
          have f1 : wr.cell? ⟨pb, poff + r * 2, none⟩ = some (.string P1.name) := hpc r P1 hP1 0 _ rfl
          have f2 : wr.cell? ⟨pb, poff + q * 2, none⟩ = some (.string P2.name) := hpc q P2 hP2 0 _ rfl
          obtain ⟨a5, k5, he5, _, _, hat5⟩ := hown.at_ (enc := pairC) (fun _ => rfl)
          obtain rfl : a4 = a5 := (Value.slice.inj he5).1
          clear he5
          obtain ⟨lb, lo, rfl, hcp⟩ := hat5.get (ne_nil_of_lt (k := k) (by omega))
          have p0 : wr.cell? ⟨lb, lo + k * 2, none⟩ = some (.int .i64 r) := hcp k _ hpi 0 _ rfl
          have p1 : wr.cell? ⟨lb, lo + k * 2 + 1, none⟩ = some (.int .i64 q) := hcp k _ hpi 1 _ rfl
          have hw := wf_of_in hn2 hpn.1
          have hkey := keyP (x := ((r : Int), (q : Int))) hw.1 hw.2
          obtain ⟨D, hownM, hMM⟩ := HM.out.own
          have HLK : Hid (∀ W, Grows w W → (Instr.lookup 53 (.map (some bm)) (.agg #[.int .i64 r, .int .i64 q]) false).run Tryz.prog W = .ok (.int .i64 C) W) := fun W hW => by
            obtain ⟨c, hrun, hat, _⟩ := (ownsMap_grows hownM hW).lookup_int keyedP Tryz.underlying53 Tryz.underlying3 (zeroI2 W) hkey
            have hne : m.cs.getD i 0 ≠ m.d := (Mx.mem_idx.1 (List.mem_of_getElem? hi)).2
            have hhas := (hMM ((r : Int), (q : Int)) hw.1 hw.2).1
            have h1 : Maps.has D (klP ((r : Int), (q : Int))) = true := by
              rw [hhas, hpn.1, hcs, ← hC]
              simpa using hne
            have h2 := (hMM.look hok hpn.1 hat).1 h1
            rw [hcs] at h2
            rw [h2] at hrun
            exact hrun
          have hC0 : 0 ≤ C := by omega
          have hC1 : C ≤ 30000 := by omega
          have c2 := (HM.out.grows hgw).c2
          have hEw : Env wr := he.grows hgw
          clear hcp hpi hdrop hin hE hc0 hc1 hcost hpn hcs hkey hw hi hpe hr hq hC hline hP1 hP2 hpc hs1 hs2 hownM hMM
          go_wp2_with fail
          have z0 : ∀ x : Ext Grows (wr.alloc (.cells #[.int .i64 r, .int .i64 q] 59)).drew, x.u.cell? ⟨wr.heap.size, 0, none⟩ = some (.int .i64 r) := ext_cell (cell_box wr _ _ (0, 0) 0 _ rfl)
          have z1 : ∀ x : Ext Grows (wr.alloc (.cells #[.int .i64 r, .int .i64 q] 59)).drew, x.u.cell? ⟨wr.heap.size, 1, none⟩ = some (.int .i64 q) := ext_cell (cell_box wr _ _ (0, 0) 1 _ rfl)
          have hgl := (Grows.alloc wr (.cells #[.int .i64 r, .int .i64 q] 59)).dr
          have z2 : ∀ x : Ext Grows (wr.alloc (.cells #[.int .i64 r, .int .i64 q] 59)).drew, x.u.cell? ⟨mb, 2, none⟩ = some (.map (some bm)) := ext_cell (hgl.cell c2)
          have z3 : ∀ x : Ext Grows (wr.alloc (.cells #[.int .i64 r, .int .i64 q] 59)).drew, x.u.cell? ⟨pb, poff + r * 2, none⟩ = some (.string P1.name) := ext_cell (hgl.cell f1)
          have z4 : ∀ x : Ext Grows (wr.alloc (.cells #[.int .i64 r, .int .i64 q] 59)).drew, x.u.cell? ⟨pb, poff + q * 2, none⟩ = some (.string P2.name) := ext_cell (hgl.cell f2)
          have z5 : ∀ x : Ext Grows (wr.alloc (.cells #[.int .i64 r, .int .i64 q] 59)).drew, (Instr.lookup 53 (.map (some bm)) (.agg #[.int .i64 r, .int .i64 q]) false).run Tryz.prog x.u = .ok (.int .i64 C) x.u := fun x => HLK.out _ ((hgw.tr hgl).tr x.h)
          refine s_tail Grows 24 [(0, false), (1, false), (2, false), (3, false), (4, false), (5, false), (6, false), (7, false), (8, false), (9, false), (10, false), (11, false), (12, false), (13, false), (14, false), (15, false), (16, false), (17, false), (18, false), (19, false), (20, false), (21, false), (22, false), (23, false)] Grows.refl Grows.trans (by kernel_rfl) (by kernel_rfl) (fun d _ _ _ _ h => by cases d <;> exact h) ?_
          iterate 21 (refine s_quiet rfl (fun K hK => ?_); go_simp; refine hK _ ?_; clear hK K)
          refine s_quiet rfl (fun K hK => ?_)
          go_simp
          apply Exists.intro
          refine ⟨fun x => ?_, hK _ ?_⟩
          · exact calls_ext (itoa_any _ _ hC0 hC1 ((hEw.grows hgl).grows x.h))
          clear hK K
          iterate 2 (refine s_quiet rfl (fun K hK => ?_); go_simp; refine hK _ ?_; clear hK K)
          refine s_end (fun w6 h6 => ?_)
          simp only [List.drop_succ_cons, List.drop_zero]
          have hg6 : Grows wr w6 := hgl.tr h6
          clear z0 z1 z2 z3 z4 z5 hgl h6 f1 f2 p0 p1 c2 HLK
          go_wp2_with fail
          have hWS := fun (s : ByteArray) (hs : s.data.toList = lineP p m i) => Lib.hid (Tryz.Builder_WriteString_k w1.heap.size w1.heap.size (Lib.byteCells acc) s w6 (isBuilder_grows hbd hg6) (by
            have h9 := Lib.size_eq s
            rw [hs] at h9
            rw [Lib.byteCells_length]
            omega) (Nat.le_trans (builder_ge hbd) hg6.size))
          refine (hWS _ (by rw [HL.out]; simp)).out.mono ?_
          rintro e w7 ⟨rfl, hbd7, hb7, hk7⟩
          go_wp2_with fail
          have hgw7 : Grows w1 w7 := Below.trans (hgx.tr hg6) hb7
          have hown7 := owns_oth (hown.grows hg6) hk7 hlt13 (by decide)
          go_roundw
          case rel => exact ⟨k + 1, acc ++ lineP p m i, hlt, by go_num, Or.inr (builder_more (L := lineP p m i) hbd7 (by rw [HL.out]; simp)), hown7, by rw [List.length_append]; omega, HNX, hgw7⟩
          case measure => simp [intOf]; omega
        · obtain rfl : k = m.idx.length := by omega
          have hfin := hE.out
          rw [List.drop_length] at hfin
          have hfin2 : m.print p = acc := by rw [hfin]; simp
          have HF := Lib.hid hfin2
          clear hfin hfin2 hE
          go_wp2_with (first | (go_at_call 42; refine (Tryz.Builder_String_any_k _ _ _ _ hbd (builder_ge hbd)).mono ?_; rintro e w5 ⟨rfl, hbd5, hb5, _⟩))
          go_ret2
          rw [HF.out]
          exact ⟨rfl, Below.trans hgw (Below.mono hb5 hg1.size)⟩
    · rw [hv] at CC
      have hq : matPrint p m = ([], 5) := by unfold matPrint; rw [if_neg (fun h => hlen h.2)]
      rw [hq]
      have hl2 : ¬ (p.length : Int) = m.n := by omega
      clear hq hv hlen h
      go_enter Tryz.func20, Tryz.ntmps20
      go_wp2_with (first | (go_at_call 21; refine CC.out.mono ?_; rintro e w1 ⟨rfl, hg1⟩; replace c0 := hg1.cell c0))
      go_ret2
      exact ⟨rfl, hg1⟩
end Go.Proofs.YtcdjponbhpchbaaGreatDoor
namespace Go.Proofs.YtcdjponbhpchbaaGreatDoor
open Go Go.RowKit Go.Shelf
attribute [local go_sem] quietE

def threeL : List PosV := [⟨⟨#[66, 79, 83]⟩, 0⟩, ⟨⟨#[110, 111, 117, 110]⟩, 0⟩, ⟨⟨#[112, 97, 114, 116, 105, 99, 108, 101]⟩, 1⟩]
def m16 : Mx := (newM 3 500).setIf (1, 2) 10
theorem ev16_set : (newM 3 500).setB (1, 2) 10 = true := by kernel_rfl
theorem ev16_print : matPrint threeL m16 = ([100, 101, 102, 97, 117, 108, 116, 9, 53, 48, 48, 10, 110, 111, 117, 110, 9, 112, 97, 114, 116, 105, 99, 108, 101, 9, 49, 48, 10], 0) := by kernel_rfl
theorem ev16_enc : m16.enc = [3, 244, 3, 1, 6, 10] := by kernel_rfl
theorem ev16_c1 : m16.cost (1, 2) = 10 := by kernel_rfl
theorem ev16_c2 : m16.cost (2, 1) = 500 := by kernel_rfl
theorem ev16_c3 : m16.cost (3, 0) = 30000 := by kernel_rfl

set_option maxHeartbeats 1000000 in
theorem three_any (w : World) : Calls Tryz.prog 11 #[] w fun e w' => e = .returned (.slice (some ⟨w.heap.size, 0, none⟩) 3 3) ∧ AtCells w' (some ⟨w.heap.size, 0, none⟩) 2 (threeL.map posCells) ∧ Grows w w' := by
  go_enter Tryz.func11, Tryz.ntmps11
  go_wp2
  refine bodyPost_ret (v := .slice (some ⟨w.heap.size, 0, none⟩) 3 3) (by simp [results, Tryz.results11, go_sem]) rfl ⟨rfl, ?_, Grows.alloc _ _⟩
  refine fun _ => ⟨w.heap.size, 0, rfl, fun i row hi j u hj => ?_⟩
  match i, hi with
  | 0, hi =>
    obtain rfl := Option.some.inj hi
    match j, hj with
    | 0, hj => exact cell_box _ _ _ _ _ _ hj
    | 1, hj => exact cell_box _ _ _ _ _ _ hj
  | 1, hi =>
    obtain rfl := Option.some.inj hi
    match j, hj with
    | 0, hj => exact cell_box _ _ _ _ _ _ hj
    | 1, hj => exact cell_box _ _ _ _ _ _ hj
  | 2, hi =>
    obtain rfl := Option.some.inj hi
    match j, hj with
    | 0, hj => exact cell_box _ _ _ _ _ _ hj
    | 1, hj => exact cell_box _ _ _ _ _ _ hj
theorem set16 (w : World) (mb bm : Nat) (h : MatAt w mb bm (newM 3 500)) : Calls Tryz.prog 14 #[.pointer (some ⟨mb, 0, none⟩), .int .i64 1, .int .i64 2, .int .i64 10] w fun e w' => e = .returned (.int .i64 0) ∧ MatAt w' mb bm m16 ∧ w.grownBy w' (some bm) := by
  have h := set_any w mb bm _ h 1 2 10 (show (Lit.int .i64 10).wf = true by kernel_rfl)
  unfold SetPost at h
  rw [ev16_set] at h
  exact h
theorem print16 (w : World) (mb bm : Nat) (h : MatAt w mb bm m16) (pa : Option Addr) (he : Env w) (hp : AtCells w pa 2 (threeL.map posCells)) : Calls Tryz.prog 20 #[.pointer (some ⟨mb, 0, none⟩), .slice pa 3 3] w fun e w' => e = .returned (.tuple #[.string ⟨#[100, 101, 102, 97, 117, 108, 116, 9, 53, 48, 48, 10, 110, 111, 117, 110, 9, 112, 97, 114, 116, 105, 99, 108, 101, 9, 49, 48, 10]⟩, .int .i64 0]) ∧ Grows w w' := by
  have h := matPrint_any w mb bm _ h threeL pa 3 (by decide) he hp
  rw [ev16_print] at h
  exact h
theorem encode16 (w : World) (mb bm : Nat) (h : MatAt w mb bm m16) : Calls Tryz.prog 16 #[.pointer (some ⟨mb, 0, none⟩)] w fun e w' => ∃ v, e = .returned v ∧ Owns w' w.heap.size 5 1 byteC v [3, 244, 3, 1, 6, 10] ∧ Grows w w' := by
  have h := encode_any w mb bm _ h
  rw [ev16_enc] at h
  exact h
theorem cost16 (w : World) (mb bm : Nat) (h : MatAt w mb bm m16) (r l c : Int) (hc : m16.cost (r, l) = c) : Calls Tryz.prog 12 #[.pointer (some ⟨mb, 0, none⟩), .int .i64 r, .int .i64 l] w fun e w' => e = .returned (.int .i64 c) ∧ w = w' := by
  subst hc
  exact cost_any w mb bm _ h r l

set_option maxHeartbeats 4000000 in
set_option maxRecDepth 100000 in
theorem works16_any (w : World) (he : Env w) : Calls Tryz.prog 10 #[] w fun e w' => e = .returned (.bool true) ∧ Grows w w' := by
  go_enter Tryz.func10, Tryz.ntmps10
  go_wp2_with fail
  refine (new_any 3 500 w rfl).mono ?_
  rintro e w1 ⟨rfl, hm1, hg1⟩
  go_wp2_with fail
  refine (set16 _ _ _ hm1).mono ?_
  rintro e w2 ⟨rfl, hm2, hgr2⟩
  have hg2 : Grows w w2 := hg1.grown hgr2 (fun k hk => by cases hk; exact Nat.le_refl _)
  clear hm1 hgr2 hg1
  go_wp2_with (first | (go_at_call 11; refine (three_any _).mono ?_; rintro e w3 ⟨rfl, hp3, hg3⟩; have hg23 := hg2.tr hg3; have hm3 := hm2.grows hg3) | (go_at_call 20; refine (print16 _ _ _ hm3 _ (he.grows hg23) hp3).mono ?_; rintro e w4 ⟨rfl, hg4⟩; have hg24 := hg23.tr hg4; have hm4 := hm3.grows hg4))
  refine (cost16 _ _ _ hm4 1 2 10 ev16_c1).mono ?_
  rintro e w5 ⟨rfl, rfl⟩
  go_wp2_with fail
  refine (cost16 _ _ _ hm4 2 1 500 ev16_c2).mono ?_
  rintro e w5 ⟨rfl, rfl⟩
  go_wp2_with fail
  refine (cost16 _ _ _ hm4 3 0 30000 ev16_c3).mono ?_
  rintro e w5 ⟨rfl, rfl⟩
  go_wp2_with fail
  refine (encode16 _ _ _ hm4).mono ?_
  rintro e w6 ⟨v6, rfl, hown6, hg6⟩
  have hc6 : (convert 40 9 v6).run Tryz.prog w6 = .ok (.string ⟨#[3, 244, 3, 1, 6, 10]⟩) w6 := conv_owns hown6
  have hg26 := hg24.tr hg6
  clear hown6
  go_wp2_with fail
  go_ret
  exact ⟨rfl, hg26⟩
end Go.Proofs.YtcdjponbhpchbaaGreatDoor
namespace Go.Proofs.YtcdjponbhpchbaaGreatDoor
open Go Go.RowKit

/-- A call of Set. -/
structure SetV where
  r : Int
  l : Int
  c : Int
def setC (s : SetV) : List Value := [.int .i64 s.r, .int .i64 s.l, .int .i64 s.c]
def runSets (m : Mx) (l : List SetV) : Mx := l.foldl (fun m s => m.setIf (s.r, s.l) s.c) m
theorem runSets_ok : ∀ (l : List SetV) {m : Mx}, m.OK → (runSets m l).OK
  | [], _, h => h
  | _ :: r, _, h => runSets_ok r (h.setIf _ _)
theorem runSets_take {m : Mx} {l : List SetV} {k : Nat} {s : SetV} (hs : l[k]? = some s) : runSets m (l.take (k + 1)) = (runSets m (l.take k)).setIf (s.r, s.l) s.c := by
  obtain ⟨hk, rfl⟩ := List.getElem?_eq_some_iff.1 hs
  unfold runSets
  rw [List.take_succ_eq_append_getElem hk, List.foldl_append]
  rfl
theorem setIf_n (m : Mx) (x : Int × Int) (c : Int) : (m.setIf x c).n = m.n := by unfold Mx.setIf Mx.set; split <;> rfl
theorem runSets_n (m : Mx) (l : List SetV) : (runSets m l).n = m.n := by
  unfold runSets
  induction l generalizing m with
  | nil => rfl
  | cons s r ih => rw [List.foldl_cons, ih, setIf_n]
/-- One cost alone is changed. -/
theorem setIf_cost {m : Mx} (h : m.OK) (x : Int × Int) (c : Int) (y : Int × Int) : (m.setIf x c).cost y = if m.setB x c = true ∧ y = x then c else m.cost y := by
  cases hb : m.setB x c
  · rw [setIf_no hb]; simp
  · rw [setIf_yes hb]
    have hx : inP m.n x = true := by
      unfold Mx.setB at hb
      simp only [Bool.and_eq_true] at hb
      exact hb.1
    rw [Mx.cost_set h hx]
    simp
end Go.Proofs.YtcdjponbhpchbaaGreatDoor
namespace Go.Proofs.YtcdjponbhpchbaaGreatDoor
open Go Go.ChangeShapes Go.WideShapes Go.ChangeAt Go.RowKit Go.Shelf Go.Lib
open Go.ChangeMaps (open_string shut_string)

theorem cells3_1 {cs : Array Value} {a b c : Value} (hs : cs.size = 3) (h0 : (cs.toList.drop 0).take 1 = [a]) (h1 : (cs.toList.drop 1).take 1 = [b]) (h2 : (cs.toList.drop 2).take 1 = [c]) : cs = #[a, b, c] := by
  obtain ⟨l⟩ := cs
  match l, hs with
  | [x0, x1, x2], _ =>
    simp at h0 h1 h2
    subst h0 h1 h2
    rfl
/-- The numbers of a call of Set are of the kind's size. -/
structure SetOK (x : SetV) : Prop where
  r : (Lit.int .i64 x.r).wf = true
  l : (Lit.int .i64 x.l).wf = true
  c : (Lit.int .i64 x.c).wf = true
set_option maxRecDepth 100000 in
theorem open_set {H : Type} {enc : TypeId × Value → H} {W : World} {base b0 : Nat} {sp : Nat → Bool} {hd : Bool} {r : Reach} {v : Value} {d : DataW H} {ps : List MemPlace} (hval : Value.okWide Tryz.prog W r b0 46 v) (h : DataW.Trod enc Tryz.prog W base sp hd 46 v d ps) :
    ∃ x : SetV, v = .agg #[.int .i64 x.r, .int .i64 x.l, .int .i64 x.c] ∧ SetOK x := by
  obtain ⟨cs, rfl, hs⟩ := okWide_struct Tryz.underlying46 hval
  obtain ⟨fuel, hf⟩ := h
  obtain ⟨xs, n, _, hx, hl, hlen, hall⟩ := DataW.trod_struct Tryz.underlying46 hf
  have hs3 : cs.size = 3 := hs
  match xs, hlen with
  | [y0, y1, y2], _ =>
    have g0 := hall 0 _ rfl
    have g1 := hall 1 _ rfl
    have g2 := hall 2 _ rfl
    obtain ⟨n0, k0, _, z0⟩ := DataW.trod_int Tryz.underlying3 g0
    obtain ⟨n1, k1, _, z1⟩ := DataW.trod_int Tryz.underlying3 g1
    obtain ⟨n2, k2, _, z2⟩ := DataW.trod_int Tryz.underlying3 g2
    exact ⟨⟨n0, n1, n2⟩, by rw [cells3_1 hs3 k0 k1 k2], ⟨z0, z1, z2⟩⟩
set_option maxRecDepth 100000 in
theorem dec_set {H : Type} {enc : TypeId × Value → H} {W : World} {base : Nat} {sp : Nat → Bool} {hd : Bool} (n : Nat) (cs : List Value) (x : DataW H × List MemPlace) (hl : cs.length = 3) (h : DataW.trod enc Tryz.prog W base sp hd n 46 cs = some x) :
    ∃ y : SetV, cs = setC y ∧ SetOK y := by
  obtain ⟨xs, n, _, hx, _, hlen, hall⟩ := DataW.trod_struct Tryz.underlying46 h
  match cs, hl with
  | [c0, c1, c2], _ =>
    match xs, hlen with
    | [y0, y1, y2], _ =>
      have g0 := hall 0 _ rfl
      have g1 := hall 1 _ rfl
      have g2 := hall 2 _ rfl
      obtain ⟨n0, k0, _, z0⟩ := DataW.trod_int Tryz.underlying3 g0
      obtain ⟨n1, k1, _, z1⟩ := DataW.trod_int Tryz.underlying3 g1
      obtain ⟨n2, k2, _, z2⟩ := DataW.trod_int Tryz.underlying3 g2
      refine ⟨⟨n0, n1, n2⟩, ?_, ⟨z0, z1, z2⟩⟩
      have e0 : c0 = .int .i64 n0 := by injection k0
      have e1 : c1 = .int .i64 n1 := by injection k1
      have e2 : c2 = .int .i64 n2 := by injection k2
      subst e0 e1 e2; rfl
/-- The number of a part of speech is of the kind's size. -/
structure PPosOK (x : PosV) : Prop where
  n : x.name.size ≤ maxLen
  k : (Lit.int .i64 x.kind).wf = true
set_option maxRecDepth 100000 in
theorem dec_ppos {H : Type} {enc : TypeId × Value → H} {W : World} {base : Nat} {sp : Nat → Bool} {hd : Bool} (n : Nat) (cs : List Value) (x : DataW H × List MemPlace) (hl : cs.length = 2) (h : DataW.trod enc Tryz.prog W base sp hd n 69 cs = some x) :
    ∃ y : PosV, cs = posCells y ∧ PPosOK y := by
  obtain ⟨xs, n, _, hx, _, hlen, hall⟩ := DataW.trod_struct Tryz.underlying69 h
  match cs, hl with
  | [c0, c1], _ =>
    match xs, hlen with
    | [y0, y1], _ =>
      have g0 := hall 0 _ rfl
      have g1 := hall 1 _ rfl
      obtain ⟨s0, k0, _, z0⟩ := DataW.trod_string Tryz.underlying9 g0
      obtain ⟨n1, k1, _, z1⟩ := DataW.trod_int Tryz.underlying3 g1
      refine ⟨⟨s0, n1⟩, ?_, ⟨z0, z1⟩⟩
      have e0 : c0 = .string s0 := by injection k0
      have e1 : c1 = .int .i64 n1 := by injection k1
      subst e0 e1; rfl
section
variable {H : Type} {enc : TypeId × Value → H} {W : World} {base b0 : Nat} {sp : Nat → Bool} {hd : Bool} {r : Reach} {v : Value} {d : DataW H} {ps : List MemPlace}
set_option maxRecDepth 100000 in
theorem open_sets (hval : Value.okWide Tryz.prog W r b0 42 v) (h : DataW.Trod enc Tryz.prog W base sp hd 42 v d ps) :
    ∃ (a : Option Addr) (l : List SetV) (cap : Nat), v = .slice a l.length cap ∧ AtCells W a 3 (l.map setC) ∧ (∀ x ∈ l, SetOK x) ∧ (d = .nil ∧ l = [] ∨ ∃ el sp, d = .slice el sp ∧ el.length = l.length) :=
  open_rows Tryz.underlying42 (by kernel_rfl) (by decide) (fun _ => rfl) dec_set hval h
set_option maxRecDepth 100000 in
theorem open_ppos (hval : Value.okWide Tryz.prog W r b0 22 v) (h : DataW.Trod enc Tryz.prog W base sp hd 22 v d ps) :
    ∃ (a : Option Addr) (l : List PosV) (cap : Nat), v = .slice a l.length cap ∧ AtCells W a 2 (l.map posCells) ∧ (∀ x ∈ l, PPosOK x) ∧ (d = .nil ∧ l = [] ∨ ∃ el sp, d = .slice el sp ∧ el.length = l.length) :=
  open_rows Tryz.underlying22 (by kernel_rfl) (by decide) (fun _ => rfl) dec_ppos hval h
end
end Go.Proofs.YtcdjponbhpchbaaGreatDoor
