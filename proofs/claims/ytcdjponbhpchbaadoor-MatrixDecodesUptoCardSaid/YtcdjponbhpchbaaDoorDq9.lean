/- The texts RefRd2 DecM, one behind the other. -/
import Derived.Test.YtcdjponbhpchbaaDoorDq8
namespace Go.Proofs.YtcdjponbhpchbaaDoor
open Go Go.RowKit
attribute [local go_sem] quietE quietE2

set_option maxHeartbeats 4000000 in
set_option maxRecDepth 100000 in
theorem begins_any (b : List UInt8) (k : Nat) (ba : Option Addr) (bc : Nat) (c : List UInt8) (ca : Option Addr) (cc : Nat) (w : World) (hk : k ≤ b.length) (hb : b.length ≤ 1099511627776) (hat : AtCells w ba 1 (b.map byteC)) (hct : AtCells w ca 1 (c.map byteC)) :
    Calls Tryd.prog 27 #[.slice ba b.length bc, .int .i64 k, .slice ca c.length cc] w fun e w' => e = .returned (.bool (decide ((b.drop k).take c.length = c))) ∧ Grows w w' := by
  obtain ⟨R, hR⟩ : ∃ R, R = decide ((b.drop k).take c.length = c) := ⟨_, rfl⟩
  rw [← hR]
  have HR := Lib.hid hR
  have HAT := Lib.hid hat
  have HCT := Lib.hid hct
  have g1 : ¬ (k : Int) < 0 := by omega
  have g2 : ¬ (b.length : Int) < k := by omega
  have wBK : IntKind.i64.wrap ((b.length : Int) - k) = ((b.length - k : Nat) : Int) := by
    rw [show ((b.length : Int) - k) = ((b.length - k : Nat) : Int) by omega]
    simp [IntKind.wrap, IntKind.bits, IntKind.signed]; omega
  obtain ⟨D, hD⟩ : ∃ D, D = b.length - k := ⟨_, rfl⟩
  rw [← hD] at wBK
  clear hR hat hct
  by_cases hlen : D < c.length
  · have hfin : R = false := by
      rw [HR.out, decide_eq_false_iff_not]
      intro h
      have := congrArg List.length h
      simp only [List.length_take, List.length_drop] at this
      omega
    subst hfin
    have g3 : (D : Int) < c.length := by omega
    clear HR hD
    go_enter Tryd.func27, Tryd.ntmps27
    go_wp2_with fail
    go_ret
    exact ⟨rfl, Grows.refl _⟩
  · have g3 : ¬ (D : Int) < c.length := by omega
    have HD := Lib.hid hD
    have hDb : k + D = b.length := by omega
    clear hD
    go_enter Tryd.func27, Tryd.ntmps27
    go_wp2_with fail
    go_loopw [7] (fun i wr => ∃ q : Nat, q ≤ c.length ∧ i = .int .i64 q ∧ Hid ((b.drop k).take q = c.take q) ∧ Grows w wr) (fun i _ => c.length - (intOf i).toNat)
    case atStart => exact ⟨0, Nat.zero_le _, rfl, rfl, Grows.refl _⟩
    case round =>
      obtain ⟨q, hq, rfl, hinv, hg⟩ := hrel
      by_cases hlt : q < c.length
      · obtain ⟨x, hx⟩ : ∃ x, b[k + q]? = some x := ⟨_, List.getElem?_eq_getElem (by omega)⟩
        obtain ⟨y, hy⟩ : ∃ y, c[q]? = some y := ⟨_, List.getElem?_eq_getElem hlt⟩
        obtain ⟨bb, bo, rfl, hbc⟩ := (HAT.out.grows hg).get (ne_nil_of_lt (show k + q < b.length by omega))
        obtain ⟨cb, co, rfl, hcc⟩ := (HCT.out.grows hg).get (ne_nil_of_lt hlt)
        obtain ⟨K, hK⟩ : ∃ K, K = k + q := ⟨_, rfl⟩
        have wK : IntKind.i64.wrap ((k : Int) + q) = K := by
          rw [show ((k : Int) + q) = ((k + q : Nat) : Int) by push_cast; rfl, ← hK]
          simp [IntKind.wrap, IntKind.bits, IntKind.signed]; omega
        rw [← hK] at hx
        have dx : wr.cell? ⟨bb, bo + K, none⟩ = some (.int .u8 x.toNat) := by simpa using hbc K x hx 0 _ rfl
        have dy : wr.cell? ⟨cb, co + q, none⟩ = some (.int .u8 y.toNat) := by simpa using hcc q y hy 0 _ rfl
        have zx : ∀ u : Ext Grows wr.drew, u.u.cell? ⟨bb, bo + K, none⟩ = some (.int .u8 x.toNat) := ext_cell ((Grows.drew _).cell dx)
        have zy : ∀ u : Ext Grows wr.drew, u.u.cell? ⟨cb, co + q, none⟩ = some (.int .u8 y.toNat) := ext_cell ((Grows.drew _).cell dy)
        have hKb : (K : Int) < b.length := by omega
        have hdx : (b.drop k)[q]? = some x := by rw [List.getElem?_drop, ← hK]; exact hx
        have t1 : (b.drop k).take (q + 1) = (b.drop k).take q ++ [x] := by
          have hql : q < (b.drop k).length := by rw [List.length_drop]; omega
          rw [List.take_succ_eq_append_getElem hql]
          rw [List.getElem?_eq_getElem hql] at hdx
          rw [Option.some.inj hdx]
        have t2 : c.take (q + 1) = c.take q ++ [y] := by
          rw [List.take_succ_eq_append_getElem hlt]
          rw [List.getElem?_eq_getElem hlt] at hy
          rw [Option.some.inj hy]
        by_cases hxy : x = y
        · have hinv2 : Hid ((b.drop k).take (q + 1) = c.take (q + 1)) := by
            show _ = _
            rw [t1, t2, hinv.out, hxy]
          subst hxy
          clear hx hy hbc hcc hdx t1 t2 hinv hK dx dy
          go_wp2_with fail
          refine t_region (Grows) [(0, false), (1, false), (2, false), (3, false), (4, false), (5, false), (6, false), (7, false), (8, false), (9, false), (10, false)] Grows.refl Grows.trans (by kernel_rfl) (by kernel_rfl) (fun d _ _ _ _ h => by cases d <;> exact h) ?_
          iterate 11 (refine t_quiet rfl (fun K hK => ?_); go_simp; refine hK _ ?_; clear hK K)
          refine t_end ?_
          clear zx zy
          go_wp2_with fail
          go_roundw
          case rel => exact ⟨q + 1, hlt, by go_num, hinv2.out, hg.dr⟩
          case measure => simp [intOf]; omega
        · have hne : ((x.toNat : Int) == (y.toNat : Int)) = false := by
            rw [beq_eq_false_iff_ne]; intro e; apply hxy; rw [← UInt8.toNat_inj]; omega
          have hfin : R = false := by
            rw [HR.out, decide_eq_false_iff_not]
            intro h
            have h1 := congrArg (fun l => l[q]?) h
            simp only [List.getElem?_take, if_pos hlt] at h1
            rw [hdx, hy] at h1
            exact hxy (Option.some.inj h1)
          subst hfin
          clear hx hy hbc hcc hdx t1 t2 hinv hK dx dy hxy HR
          go_wp2_with fail
          refine t_region (Grows) [(0, false), (1, false), (2, false), (3, false), (4, false), (5, false), (6, false), (7, false), (8, false), (9, false), (10, false)] Grows.refl Grows.trans (by kernel_rfl) (by kernel_rfl) (fun d _ _ _ _ h => by cases d <;> exact h) ?_
          iterate 11 (refine t_quiet rfl (fun K hK => ?_); go_simp; refine hK _ ?_; clear hK K)
          refine t_end ?_
          clear zx zy
          go_wp2_with fail
          go_ret
          exact ⟨rfl, hg.dr⟩
      · obtain rfl : q = c.length := by omega
        have hfin : R = true := by
          rw [HR.out, decide_eq_true_eq, hinv.out, List.take_length]
        subst hfin
        clear hinv HR
        go_wp2_with fail
        go_ret
        exact ⟨rfl, hg⟩
theorem wrap_u64m (n : Nat) : IntKind.u64.wrap (n : Int) = ((n % 18446744073709551616 : Nat) : Int) := by
  simp [IntKind.wrap, IntKind.bits, IntKind.signed]
theorem step_sum (S P d : Nat) : (S % 18446744073709551616 + (P % 18446744073709551616 * d) % 18446744073709551616) % 18446744073709551616 = (S + d * P) % 18446744073709551616 := by
  rw [Nat.mul_mod (P % 18446744073709551616), Nat.mod_mod, ← Nat.mul_mod, ← Nat.add_mod, Nat.mul_comm]
theorem rdU_never {l : List UInt8} {i : Nat} (hb : ∀ j d, j < i → l[j]? = some d → 128 ≤ d.toNat) (hi : 10 ≤ i ∨ l.length ≤ i) : rdU l = none := by
  cases hr : rdU l with
  | none => rfl
  | some x =>
    exfalso
    obtain ⟨v, n⟩ := x
    obtain ⟨r, hv, hl, hn⟩ := rdU_iff.1 hr
    obtain ⟨h1, h2⟩ := putU_digits (v + 1) v (by omega) hv
    have hpos := List.length_pos_iff.2 (putU_ne v)
    have h10 := putU_len v
    have hll := congrArg List.length hl
    rw [List.length_append] at hll
    obtain ⟨d, hd⟩ : ∃ d, (putU v)[n - 1]? = some d := ⟨_, List.getElem?_eq_getElem (by omega)⟩
    have hld : l[n - 1]? = some d := by rw [hl, List.getElem?_append_left (by omega)]; exact hd
    have h3 := (h2 _ _ hd).2 (by omega)
    have h4 := hb _ _ (by omega) hld
    omega
set_option maxHeartbeats 4000000 in
set_option maxRecDepth 100000 in
theorem readU_any (b : List UInt8) (k : Nat) (ba : Option Addr) (bc : Nat) (w : World) (hk : k < b.length) (hb : b.length ≤ 1099511627776) (hat : AtCells w ba 1 (b.map byteC)) :
    Calls Tryd.prog 12 #[.slice ba b.length bc, .int .i64 k] w fun e w' => e = .returned (uintR k (rdU (b.drop k))) ∧ Grows w w' := by
  obtain ⟨R, hR⟩ : ∃ R, R = rdU (b.drop k) := ⟨_, rfl⟩
  rw [← hR]
  have HR := Lib.hid hR
  have HAT := Lib.hid hat
  have g1 : (0 : Int) ≤ k := by omega
  have g2 : (k : Int) < b.length := by omega
  have wBK : IntKind.i64.wrap ((b.length : Int) - k) = ((b.length - k : Nat) : Int) := by
    rw [show ((b.length : Int) - k) = ((b.length - k : Nat) : Int) by omega]
    simp [IntKind.wrap, IntKind.bits, IntKind.signed]; omega
  obtain ⟨D, hD⟩ : ∃ D, D = b.length - k := ⟨_, rfl⟩
  rw [← hD] at wBK
  have hDb : k + D = b.length := by omega
  obtain ⟨l, hl⟩ : ∃ l, l = b.drop k := ⟨_, rfl⟩
  have hll : l.length = D := by rw [hl, List.length_drop, hD]
  rw [← hl] at HR
  have HL := Lib.hid hl
  have HLL := Lib.hid hll
  clear hR hat hD hl hll
  go_enter Tryd.func12, Tryd.ntmps12
  go_wp2_with fail
  go_loopw [7, 8, 9] (fun v o i wr => ∃ (q A O : Nat), q ≤ 10 ∧ q ≤ D ∧ v = .int .u64 A ∧ o = .int .u64 O ∧ i = .int .i64 q ∧ A < 18446744073709551616 ∧ O < 18446744073709551616 ∧ Hid (A = dsum (l.take q) % 18446744073709551616 ∧ O = 128 ^ q % 18446744073709551616 ∧ ∀ j d, j < q → l[j]? = some d → 128 ≤ d.toNat) ∧ Grows w wr) (fun _ _ i _ => 10 - (intOf i).toNat)
  case atStart => exact ⟨0, 0, 1, by omega, by omega, rfl, rfl, rfl, by decide, by decide, ⟨rfl, rfl, fun j d h => by omega⟩, Grows.refl _⟩
  case round =>
    obtain ⟨q, A, O, hq, hqD, rfl, rfl, rfl, hA, hO, hinv, hg⟩ := hrel
    by_cases h10 : q = 10
    · have hfin : R = none := by rw [HR.out]; exact rdU_never hinv.out.2.2 (Or.inl (by omega))
      subst hfin
      have h10i : ¬ (q : Int) < 10 := by omega
      clear HR hinv h10
      go_wp2_with fail
      go_ret3
      exact ⟨rfl, hg⟩
    · have h10i : (q : Int) < 10 := by omega
      by_cases hqe : q < D
      · have hqi : (q : Int) < D := by omega
        obtain ⟨c, hc⟩ : ∃ c, l[q]? = some c := ⟨_, List.getElem?_eq_getElem (by rw [HLL.out]; exact hqe)⟩
        obtain ⟨K, hK⟩ : ∃ K, K = k + q := ⟨_, rfl⟩
        have wK : IntKind.i64.wrap ((k : Int) + q) = K := by
          rw [show ((k : Int) + q) = ((k + q : Nat) : Int) by push_cast; rfl, ← hK]
          simp [IntKind.wrap, IntKind.bits, IntKind.signed]; omega
        have hbK : b[K]? = some c := by rw [HL.out, List.getElem?_drop, ← hK] at hc; exact hc
        obtain ⟨bb, bo, rfl, hbc⟩ := (HAT.out.grows hg).get (ne_nil_of_lt (show K < b.length by omega))
        have dx : wr.cell? ⟨bb, bo + K, none⟩ = some (.int .u8 c.toNat) := by simpa using hbc K c hbK 0 _ rfl
        have hKb : (K : Int) < b.length := by omega
        have hc256 := c.toNat_lt
        have HC := Lib.hid hc
        have HK := Lib.hid hK
        clear hbc hbK hK hc
        have htk : l.take (q + 1) = l.take q ++ [c] := by
          have hql : q < l.length := by rw [HLL.out]; exact hqe
          have hc := HC.out
          rw [List.take_succ_eq_append_getElem hql]
          rw [List.getElem?_eq_getElem hql] at hc
          rw [Option.some.inj hc]
        have hsum : dsum (l.take (q + 1)) = dsum (l.take q) + c.toNat % 128 * 128 ^ q := by
          rw [htk, dsum_snoc, List.length_take, HLL.out, Nat.min_eq_left (by omega)]
        obtain ⟨A2, hA2⟩ : ∃ A2, A2 = dsum (l.take (q + 1)) % 18446744073709551616 := ⟨_, rfl⟩
        obtain ⟨O2, hO2⟩ : ∃ O2, O2 = 128 ^ (q + 1) % 18446744073709551616 := ⟨_, rfl⟩
        have hA2b : A2 < 18446744073709551616 := by rw [hA2]; exact Nat.mod_lt _ (by decide)
        have hO2b : O2 < 18446744073709551616 := by rw [hO2]; exact Nat.mod_lt _ (by decide)
        have wA : IntKind.u64.wrap ((A : Int) + IntKind.u64.wrap ((O : Int) * ((c.toNat : Int) % 128))) = A2 := by
          rw [show ((O : Int) * ((c.toNat : Int) % 128)) = ((O * (c.toNat % 128) : Nat) : Int) by push_cast; rfl, wrap_u64m, ← Int.natCast_add, wrap_u64m, hA2, hsum, hinv.out.1, hinv.out.2.1, step_sum]
        have wO : IntKind.u64.wrap ((O : Int) * 128) = O2 := by
          rw [show ((O : Int) * 128) = ((O * 128 : Nat) : Int) by push_cast; rfl, wrap_u64m, hO2, hinv.out.2.1, Nat.mul_mod, Nat.mod_mod, ← Nat.mul_mod, Nat.pow_succ]
        have HA2 := Lib.hid hA2
        have HO2 := Lib.hid hO2
        clear htk hsum hA2 hO2
        by_cases hs : c.toNat < 128
        · have hsi : (c.toNat : Int) < 128 := by omega
          have hst := rdU_stop HC.out hs hinv.out.2.2
          rw [← HR.out, ← HA2.out] at hst
          obtain ⟨P, hP⟩ : ∃ P, P = putU A2 := ⟨_, rfl⟩
          rw [← hP] at hst
          have hPl : P.length ≤ 10 := by rw [hP]; exact putU_len A2
          have CU := ruint2_any A2 wr hA2b
          rw [← hP] at CU
          have HST := Lib.hid hst
          have HCU := Lib.hid CU
          clear hst CU hP hinv HA2 HO2
          go_wp2_with fail
          refine HCU.out.mono ?_
          rintro e w3 ⟨v3, rfl, hown3, hg3⟩
          obtain ⟨pa, pc, rfl, _, _, hpt⟩ := hown3.at_ byteLay.len
          have hg03 := hg.tr hg3
          have CB := Lib.hid (begins_any b k (some ⟨bb, bo, none⟩) bc P pa pc w3 (by omega) hb (HAT.out.grows hg03) hpt)
          rw [← HL.out] at CB
          have HPT := Lib.hid hpt
          clear hown3 hpt
          by_cases hlen : P.length = q + 1
          · have hleni : ((P.length : Int) == (q : Int) + 1) = true := by rw [beq_iff_eq]; omega
            have HST2 : Hid (R = if l.take (q + 1) = P then some (A2, q + 1) else none) := by
              have h := HST.out
              simp only [hlen, true_and] at h
              exact h
            have CB3 : Hid (Calls Tryd.prog 27 #[.slice (some ⟨bb, bo, none⟩) b.length bc, .int .i64 k, .slice pa P.length pc] w3 fun e w' => e = .returned (.bool (decide (l.take (q + 1) = P))) ∧ Grows w3 w') := by
              have h := CB.out
              rw [show l.take P.length = l.take (q + 1) by rw [hlen]] at h
              exact h
            obtain ⟨K2, hK2⟩ : ∃ K2, K2 = k + (q + 1) := ⟨_, rfl⟩
            have wK2 : IntKind.i64.wrap ((k : Int) + (P.length : Int)) = K2 := by
              rw [hlen, ← Int.natCast_add, ← hK2]
              simp [IntKind.wrap, IntKind.bits, IntKind.signed]; omega
            have HU : uintR k (some (A2, q + 1)) = .tuple #[.int .u64 A2, .int .i64 K2, .bool true] := by rw [hK2]; rfl
            have HU2 := Lib.hid HU
            clear CB hlen hK2 HST HU
            by_cases hPl2 : l.take (q + 1) = P
            · have hfin : R = some (A2, q + 1) := by rw [HST2.out, if_pos hPl2]
              subst hfin
              rw [show decide (l.take (q + 1) = P) = true by simpa using hPl2] at CB3
              clear HST2 HR hPl2
              go_wp2_with fail
              refine CB3.out.mono ?_
              rintro e w4 ⟨rfl, hg4⟩
              go_wp2_with fail
              go_ret3
              exact ⟨congrArg Ending.returned HU2.out.symm, hg03.tr hg4⟩
            · have hfin : R = none := by rw [HST2.out, if_neg hPl2]
              subst hfin
              rw [show decide (l.take (q + 1) = P) = false by simpa using hPl2] at CB3
              clear HST2 HR hPl2
              go_wp2_with fail
              refine CB3.out.mono ?_
              rintro e w4 ⟨rfl, hg4⟩
              go_wp2_with fail
              go_ret3
              exact ⟨rfl, hg03.tr hg4⟩
          · have hleni : ((P.length : Int) == (q : Int) + 1) = false := by rw [beq_eq_false_iff_ne]; omega
            have hfin : R = none := by
              rw [HST.out, if_neg (fun h => hlen h.1)]
            subst hfin
            clear HST HR CB
            go_wp2_with fail
            go_ret3
            exact ⟨rfl, hg03⟩
        · have hsi : ¬ (c.toNat : Int) < 128 := by omega
          have hin2 : Hid (A2 = dsum (l.take (q + 1)) % 18446744073709551616 ∧ O2 = 128 ^ (q + 1) % 18446744073709551616 ∧ ∀ j d, j < q + 1 → l[j]? = some d → 128 ≤ d.toNat) := ⟨HA2.out, HO2.out, fun j d hj hd => by
            rcases Nat.lt_succ_iff_lt_or_eq.1 hj with h | h
            · exact hinv.out.2.2 j d h hd
            · subst h
              rw [HC.out] at hd
              obtain rfl := Option.some.inj hd
              omega⟩
          clear hinv HA2 HO2
          go_wp2_with fail
          go_roundw
          case rel => exact ⟨q + 1, A2, O2, by omega, by omega, rfl, rfl, by go_num, hA2b, hO2b, hin2.out, hg⟩
          case measure => simp [intOf]; omega
      · have hqi : ¬ (q : Int) < D := by omega
        have hfin : R = none := by rw [HR.out]; exact rdU_never hinv.out.2.2 (Or.inr (by rw [HLL.out]; omega))
        subst hfin
        clear HR hinv
        go_wp2_with fail
        go_ret3
        exact ⟨rfl, hg⟩
end Go.Proofs.YtcdjponbhpchbaaDoor
namespace Go.Proofs.YtcdjponbhpchbaaDoor
open Go Go.RowKit

def nextN (b : List UInt8) (k : Nat) : Option (Nat × Nat) :=
  match rdU (b.drop k) with
  | some (v, n) => if v ≤ 1048576 then some (v, k + n) else none
  | none => none
/-- One call of next: the number, and the state behind it (the place, and whether something was bad). -/
def nxt (b : List UInt8) (s : Nat × Bool) : Nat × Nat × Bool :=
  match nextN b s.1 with
  | some (v, e) => (v, e, s.2)
  | none => (0, s.1, true)
def decLoop (b : List UInt8) : Nat → Mx → Nat → Nat × Bool → Option Mx
  | 0, m, _, s => if s.1 = b.length then some m else none
  | k + 1, m, j, s =>
    if (nxt b (nxt b s).2).2.2 = true ∨ (nxt b s).1 = 0 ∨ ((nxt b (nxt b s).2).1 : Int) = m.d ∨ m.n * m.n ≤ j + (nxt b s).1 - 1 ∨ isC ((nxt b (nxt b s).2).1 : Int) = false then none
    else decLoop b k (m.set (pairAt m.n (j + (nxt b s).1 - 1)) (nxt b (nxt b s).2).1) (j + (nxt b s).1) (nxt b (nxt b s).2).2
def hdN (b : List UInt8) : Nat × Nat × Bool := nxt b (0, false)
def hdD (b : List UInt8) : Nat × Nat × Bool := nxt b (hdN b).2
def hdQ (b : List UInt8) : Nat × Nat × Bool := nxt b (hdD b).2
/-- What bytes are the code of. -/
def decM (b : List UInt8) : Option Mx :=
  if newB (hdN b).1 (hdD b).1 = true ∧ (hdQ b).2.2 = false then decLoop b (hdQ b).1 (newM (hdN b).1 (hdD b).1) 0 (hdQ b).2 else none
theorem nxt_true (b : List UInt8) (k : Nat) : (nxt b (k, true)).2.2 = true := by
  unfold nxt
  split <;> rfl
theorem nxt_false {b : List UInt8} {s : Nat × Bool} (h : (nxt b s).2.2 = false) : s.2 = false := by
  obtain ⟨k, t⟩ := s
  cases t with
  | false => rfl
  | true => rw [nxt_true] at h; cases h
theorem nxt_ok {b : List UInt8} {k : Nat} (h : (nxt b (k, false)).2.2 = false) : (nxt b (k, false)).1 ≤ 1048576 ∧ (nxt b (k, false)).2 = (k + (putU (nxt b (k, false)).1).length, false) ∧ b.drop k = putU (nxt b (k, false)).1 ++ b.drop (nxt b (k, false)).2.1 := by
  unfold nxt at h ⊢
  cases hn : nextN b k with
  | none => simp only at h; rw [hn] at h; cases h
  | some x =>
    obtain ⟨v, e⟩ := x
    simp only
    unfold nextN at hn
    cases hr : rdU (b.drop k) with
    | none => rw [hr] at hn; cases hn
    | some y =>
      obtain ⟨v', n⟩ := y
      rw [hr] at hn
      simp only at hn
      by_cases hle : v' ≤ 1048576
      · rw [if_pos hle] at hn
        simp only [Option.some.injEq, Prod.mk.injEq] at hn
        obtain ⟨rfl, rfl⟩ := hn
        obtain ⟨r, h1, h2, h3⟩ := rdU_iff.1 hr
        refine ⟨hle, by rw [h3], ?_⟩
        rw [← List.drop_drop, h2, h3, List.drop_left]
      · rw [if_neg hle] at hn; cases hn
theorem nxt_put {b : List UInt8} {k v : Nat} {r : List UInt8} (h : b.drop k = putU v ++ r) (hv : v ≤ 1048576) : nxt b (k, false) = (v, k + (putU v).length, false) ∧ b.drop (k + (putU v).length) = r := by
  have hn : nextN b k = some (v, k + (putU v).length) := by
    unfold nextN
    rw [h, rdU_put (by omega)]
    simp only
    rw [if_pos hv]
  refine ⟨by unfold nxt; simp only [hn], ?_⟩
  rw [← List.drop_drop, h, List.drop_left]
theorem Mx.set_at {m : Mx} {i : Nat} (hi : i < m.n * m.n) (c : Int) : (m.set (pairAt m.n i) c).cs = m.cs.set i c := by
  show m.cs.set (at2 m.n (pairAt m.n i)) c = _
  rw [(pairAt_in hi).2]
theorem set_getD {l : List Int} {i j : Nat} {c : Int} (hi : i < l.length) : (l.set i c).getD j 0 = if j = i then c else l.getD j 0 := by
  rw [List.getD_eq_getElem?_getD, List.getD_eq_getElem?_getD, List.getElem?_set]
  by_cases h : i = j
  · subst h; simp [hi]
  · rw [if_neg h, if_neg (fun e => h e.symm)]
theorem idx_set {m : Mx} (hm : m.OK) {i : Nat} {c : Int} (hi : i < m.n * m.n) (hc : c ≠ m.d) (hlo : ∀ a ∈ m.idx, a < i) : (m.set (pairAt m.n i) c).idx = m.idx ++ [i] := by
  have hl := hm.len
  refine pw_unique (lt := (· < ·)) (fun a => Nat.lt_irrefl a) (fun h1 h2 => Nat.lt_trans h1 h2) Mx.idx_up ?_ fun y => ?_
  · rw [List.pairwise_append]
    exact ⟨Mx.idx_up, List.pairwise_singleton _ _, fun a ha b hb => by rw [List.mem_singleton.1 hb]; exact hlo a ha⟩
  · rw [Mx.mem_idx, Mx.set_at hi, set_getD (by omega), List.mem_append, List.mem_singleton, Mx.mem_idx]
    show y < m.n * m.n ∧ _ ≠ m.d ↔ _
    by_cases h : y = i
    · rw [if_pos h]; subst h; exact ⟨fun _ => Or.inr rfl, fun _ => ⟨hi, hc⟩⟩
    · rw [if_neg h]; exact ⟨fun g => Or.inl g, fun g => g.resolve_right h⟩
theorem setB_at {m : Mx} {i : Nat} {c : Int} (hi : i < m.n * m.n) (hc : isC c = true) : m.setB (pairAt m.n i) c = true := by
  unfold Mx.setB
  rw [(pairAt_in hi).1, hc]; rfl
theorem decLoop_sound (b : List UInt8) : ∀ (k : Nat) (m : Mx) (j q : Nat) (M : Mx), q ≤ b.length → decLoop b k m j (q, false) = some M → m.OK → (∀ i ∈ m.idx, i < j) →
    M.OK ∧ M.n = m.n ∧ M.d = m.d ∧ ∃ L, M.idx = m.idx ++ L ∧ L.length = k ∧ b.drop q = encGo M ((j : Int) - 1) L ∧ ∀ i < j, M.cs.getD i 0 = m.cs.getD i 0
  | 0, m, j, q, M, _, h, hm, _ => by
    simp only [decLoop] at h
    by_cases hq : q = b.length
    · rw [if_pos hq] at h
      obtain rfl := Option.some.inj h
      exact ⟨hm, rfl, rfl, [], by simp, rfl, by rw [hq, List.drop_length]; rfl, fun _ _ => rfl⟩
    · rw [if_neg hq] at h; cases h
  | k + 1, m, j, q, M, hqb, h, hm, hlo => by
    simp only [decLoop] at h
    split at h
    · cases h
    · rename_i hc
      simp only [not_or, Bool.not_eq_true] at hc
      obtain ⟨h1, h2, h3, h4, h5⟩ := hc
      have hb1 : (nxt b (q, false)).2.2 = false := nxt_false h1
      obtain ⟨x1, x2, x3⟩ := nxt_ok hb1
      generalize nxt b (q, false) = X at *
      obtain ⟨x, e, t⟩ := X
      simp only [Prod.mk.injEq] at x1 x2 x3 h1 h2 h3 h4 h5 hb1 h
      obtain ⟨rfl, rfl⟩ := x2
      obtain ⟨y1, y2, y3⟩ := nxt_ok h1
      generalize nxt b (q + (putU x).length, false) = Y at *
      obtain ⟨c, e, t⟩ := Y
      simp only [Prod.mk.injEq] at y1 y2 y3 h1 h2 h3 h4 h5 h
      obtain ⟨rfl, rfl⟩ := y2
      have hI : j + x - 1 < m.n * m.n := by omega
      have hisC : isC (c : Int) = true := by cases hh : isC (c : Int) with
        | true => rfl
        | false => exact absurd hh h5
      have hset := setB_at hI hisC
      have hidx := idx_set hm hI h3 (fun a ha => by have := hlo a ha; omega)
      have hql : q + (putU x).length + (putU c).length ≤ b.length := by
        have e1 := congrArg List.length x3
        have e2 := congrArg List.length y3
        simp only [List.length_append, List.length_drop] at e1 e2
        have := List.length_pos_iff.2 (putU_ne x)
        have := List.length_pos_iff.2 (putU_ne c)
        omega
      obtain ⟨r1, r2, r3, L, r4, r5, r6, r7⟩ := decLoop_sound b k _ _ _ M hql h (hm.set hset) (fun i hi => by
        rw [hidx] at hi
        rcases List.mem_append.1 hi with hi | hi
        · have := hlo i hi; omega
        · rw [List.mem_singleton.1 hi]; omega)
      have hl := hm.len
      refine ⟨r1, r2, r3, (j + x - 1) :: L, by rw [r4, hidx]; simp, by simp [r5], ?_, fun i hi => ?_⟩
      · show _ = putU _ ++ (putU _ ++ encGo M _ L)
        rw [x3, y3, r6]
        have g1 : (((j + x - 1 : Nat) : Int) - ((j : Int) - 1)).toNat = x := by omega
        have g2 : M.cs.getD (j + x - 1) 0 = c := by
          rw [r7 _ (by omega), Mx.set_at hI, set_getD (by omega), if_pos rfl]
        have g3 : ((j + x : Nat) : Int) - 1 = ((j + x - 1 : Nat) : Int) := by omega
        rw [g1, g2, g3]
        rfl
      · rw [r7 i (by omega), Mx.set_at hI, set_getD (by omega), if_neg (by omega)]
/-- A matrix whose costs from place j on are the default cost. -/
def cutM (M : Mx) (j : Nat) : Mx := ⟨M.n, M.d, (List.range (M.n * M.n)).map fun i => if i < j then M.cs.getD i 0 else M.d⟩
theorem cutM_eq {M : Mx} (hM : M.OK) {j : Nat} (h : ∀ i, j ≤ i → i < M.n * M.n → M.cs.getD i 0 = M.d) : cutM M j = M := by
  obtain ⟨n, d, cs⟩ := M
  have hl : cs.length = n * n := hM.len
  show Mx.mk n d _ = _
  congr 1
  apply List.ext_getElem?
  intro i
  rw [List.getElem?_map]
  by_cases hi : i < n * n
  · rw [List.getElem?_range hi, Option.map_some]
    have hg : cs[i]? = some (cs.getD i 0) := by
      rw [List.getD_eq_getElem?_getD, List.getElem?_eq_getElem (by omega)]; rfl
    rw [hg]
    show some (if i < j then cs.getD i 0 else d) = _
    by_cases hj : i < j
    · rw [if_pos hj]
    · rw [if_neg hj]; exact congrArg some (h i (by omega) hi).symm
  · rw [List.getElem?_eq_none (by simp; omega), List.getElem?_eq_none (by omega)]; rfl
theorem cutM_zero {M : Mx} : cutM M 0 = newM M.n M.d := by
  unfold cutM newM
  simp only [Int.toNat_natCast, Nat.not_lt_zero, if_false, Mx.mk.injEq, true_and]
  apply List.ext_getElem?
  intro i
  rw [List.getElem?_map, List.getElem?_replicate]
  by_cases hi : i < M.n * M.n
  · rw [List.getElem?_range hi, if_pos hi]; rfl
  · rw [List.getElem?_eq_none (by simp; omega), if_neg hi]; rfl
theorem cutM_set {M : Mx} {i j : Nat} (hi : i < M.n * M.n) (hj : j ≤ i) (h : ∀ a, j ≤ a → a < i → M.cs.getD a 0 = M.d) : (cutM M j).set (pairAt M.n i) (M.cs.getD i 0) = cutM M (i + 1) := by
  have e : ((cutM M j).set (pairAt M.n i) (M.cs.getD i 0)).cs = (cutM M (i + 1)).cs := by
    have e0 : ((cutM M j).set (pairAt M.n i) (M.cs.getD i 0)).cs = (cutM M j).cs.set i (M.cs.getD i 0) := Mx.set_at (m := cutM M j) hi _
    rw [e0]
    apply List.ext_getElem?
    intro a
    show (List.set (List.map (fun i => if i < j then M.cs.getD i 0 else M.d) (List.range (M.n * M.n))) i _)[a]? = (List.map (fun a => if a < i + 1 then M.cs.getD a 0 else M.d) (List.range (M.n * M.n)))[a]?
    rw [List.getElem?_set, List.getElem?_map, List.getElem?_map, List.length_map, List.length_range]
    by_cases ha : a < M.n * M.n
    · rw [List.getElem?_range ha]
      by_cases e : i = a
      · subst e; rw [if_pos rfl, if_pos hi]; simp
      · rw [if_neg e]
        simp only [Option.map_some, Option.some.injEq]
        by_cases h1 : a < j
        · rw [if_pos h1, if_pos (by omega)]
        · rw [if_neg h1]
          by_cases h2 : a < i + 1
          · rw [if_pos h2]; exact (h a (by omega) (by omega)).symm
          · rw [if_neg h2]
    · rw [if_neg (by omega), List.getElem?_eq_none (l := List.range (M.n * M.n)) (by simp; omega)]; rfl
  show Mx.mk _ _ _ = Mx.mk _ _ _
  exact congrArg _ e
theorem idx_default {M : Mx} {i : Nat} (hi : i < M.n * M.n) (h : i ∉ M.idx) : M.cs.getD i 0 = M.d := by
  rw [Mx.mem_idx] at h
  simp only [not_and, ne_eq, Classical.not_not] at h
  exact h hi
theorem decLoop_complete (b : List UInt8) (M : Mx) (hM : M.OK) : ∀ (L A : List Nat) (j q : Nat), M.idx = A ++ L → (∀ a ∈ A, a < j) → (∀ a ∈ L, j ≤ a) → b.drop q = encGo M ((j : Int) - 1) L → q ≤ b.length →
    decLoop b L.length (cutM M j) j (q, false) = some M
  | [], A, j, q, hidx, hA, _, hd, hq => by
    have h1 : q = b.length := by
      have := congrArg List.length hd
      simp only [encGo, List.length_drop, List.length_nil] at this
      omega
    simp only [List.length_nil, decLoop]
    rw [if_pos h1, cutM_eq hM]
    intro i hij hi
    refine idx_default hi fun hm => ?_
    rw [hidx, List.append_nil] at hm
    have := hA i hm
    omega
  | i :: L, A, j, q, hidx, hA, hL, hd, hq => by
    have hmem : i ∈ M.idx := by rw [hidx]; simp
    obtain ⟨hi, hid⟩ := Mx.mem_idx.1 hmem
    have hji := hL i (List.mem_cons_self ..)
    have hup : (A ++ i :: L).Pairwise (· < ·) := by rw [← hidx]; exact Mx.idx_up
    rw [List.pairwise_append, List.pairwise_cons] at hup
    obtain ⟨_, ⟨hup2, _⟩, _⟩ := hup
    have hcost : 0 ≤ M.cs.getD i 0 ∧ M.cs.getD i 0 ≤ 30000 := by
      have hl := hM.len
      rw [List.getD_eq_getElem?_getD, List.getElem?_eq_getElem (by omega)]
      exact hM.cost _ (List.getElem_mem _)
    have hnn : M.n * M.n ≤ 4096 := Nat.mul_le_mul hM.n2 hM.n2
    have hd2 : b.drop q = putU ((i : Int) - ((j : Int) - 1)).toNat ++ (putU (M.cs.getD i 0).toNat ++ encGo M i L) := hd
    obtain ⟨x, hx⟩ : ∃ x, x = ((i : Int) - ((j : Int) - 1)).toNat := ⟨_, rfl⟩
    obtain ⟨c, hc⟩ : ∃ c, c = (M.cs.getD i 0).toNat := ⟨_, rfl⟩
    have hcc : (c : Int) = M.cs.getD i 0 := by omega
    rw [← hx, ← hc] at hd2
    obtain ⟨x1, x2⟩ := nxt_put hd2 (by omega)
    obtain ⟨y1, y2⟩ := nxt_put x2 (by omega)
    have hI : j + x - 1 = i := by omega
    show decLoop b (L.length + 1) (cutM M j) j (q, false) = some M
    simp only [decLoop]
    rw [x1]
    simp only
    rw [y1]
    simp only
    rw [hI, hcc]
    have hisC : isC (M.cs.getD i 0) = true := isC_iff.2 hcost
    rw [if_neg (by
      rintro (h | h | h | h | h)
      · cases h
      · omega
      · exact hid h
      · have h : M.n * M.n ≤ i := h
        omega
      · rw [hisC] at h; cases h)]
    have hset : (cutM M j).set (pairAt (cutM M j).n i) (M.cs.getD i 0) = cutM M (i + 1) := cutM_set hi hji fun a ha1 ha2 => by
      refine idx_default (by omega) fun hm => ?_
      rw [hidx] at hm
      rcases List.mem_append.1 hm with hm | hm
      · have := hA a hm; omega
      · rcases List.mem_cons.1 hm with rfl | hm
        · omega
        · have := hup2 a hm; omega
    rw [hset, show j + x = i + 1 by omega]
    refine decLoop_complete b M hM L (A ++ [i]) (i + 1) _ (by rw [hidx]; simp) (fun a ha => ?_) (fun a ha => hup2 a ha) (by rw [y2]; congr 1; omega) ?_
    · rcases List.mem_append.1 ha with ha | ha
      · have := hA a ha; omega
      · rw [List.mem_singleton.1 ha]; omega
    · have e1 := congrArg List.length hd2
      simp only [List.length_append, List.length_drop] at e1
      have := List.length_pos_iff.2 (putU_ne x)
      omega
theorem decM_iff {b : List UInt8} {M : Mx} : decM b = some M ↔ M.OK ∧ M.enc = b := by
  constructor
  · intro h
    unfold decM at h
    split at h
    · rename_i hc
      obtain ⟨hb, hq⟩ := hc
      have hd : (hdD b).2.2 = false := nxt_false hq
      have hn : (hdN b).2.2 = false := nxt_false hd
      unfold hdQ at hq h
      unfold hdD at hd hq hb h
      obtain ⟨a1, a2, a3⟩ := nxt_ok (b := b) (k := 0) hn
      rw [show nxt b (0, false) = hdN b from rfl] at a1 a2 a3
      generalize hdN b = X at *
      obtain ⟨x, e, t⟩ := X
      simp only [Prod.mk.injEq] at a1 a2 a3 hd hq hb h
      obtain ⟨rfl, rfl⟩ := a2
      obtain ⟨c1, c2, c3⟩ := nxt_ok hd
      generalize nxt b (0 + (putU x).length, false) = Y at *
      obtain ⟨y, e, t⟩ := Y
      simp only [Prod.mk.injEq] at c1 c2 c3 hq hb h
      obtain ⟨rfl, rfl⟩ := c2
      obtain ⟨d1, d2, d3⟩ := nxt_ok hq
      generalize nxt b (0 + (putU x).length + (putU y).length, false) = Z at *
      obtain ⟨z, e, t⟩ := Z
      simp only [Prod.mk.injEq] at d1 d2 d3 h
      obtain ⟨rfl, rfl⟩ := d2
      have hql : 0 + (putU x).length + (putU y).length + (putU z).length ≤ b.length := by
        have e1 := congrArg List.length a3
        have e2 := congrArg List.length c3
        have e3 := congrArg List.length d3
        simp only [List.length_append, List.length_drop] at e1 e2 e3
        have := List.length_pos_iff.2 (putU_ne x)
        have := List.length_pos_iff.2 (putU_ne y)
        have := List.length_pos_iff.2 (putU_ne z)
        omega
      have hidx0 : (newM (x : Int) (y : Int)).idx = [] := by
        apply List.eq_nil_iff_forall_not_mem.2
        intro i hi
        obtain ⟨h1, h2⟩ := Mx.mem_idx.1 hi
        apply h2
        simp only [newM, Int.toNat_natCast] at h1 ⊢
        rw [List.getD_eq_getElem?_getD, List.getElem?_replicate, if_pos h1]; rfl
      obtain ⟨r1, r2, r3, L, r4, r5, r6, _⟩ := decLoop_sound b z _ 0 _ M hql h (newM_ok hb) (fun i hi => by rw [hidx0] at hi; cases hi)
      rw [hidx0, List.nil_append] at r4
      refine ⟨r1, ?_⟩
      unfold Mx.enc
      rw [r2, r3, r4, r5]
      simp only [newM, Int.toNat_natCast]
      have h0 : b = b.drop 0 := rfl
      rw [h0, a3, c3, d3, r6]
      rfl
    · cases h
  · rintro ⟨hM, he⟩
    have h0 : b.drop 0 = putU M.n ++ (putU M.d.toNat ++ (putU M.idx.length ++ encGo M (-1) M.idx)) := he.symm
    have hn2 := hM.n2
    have hd1 := hM.d1
    have hd2 := hM.d2
    have hil := Mx.idx_len hM
    obtain ⟨a1, a2⟩ := nxt_put h0 (by omega)
    obtain ⟨c1, c2⟩ := nxt_put a2 (by omega)
    obtain ⟨d1, d2⟩ := nxt_put c2 (by omega)
    have e1 : hdN b = (M.n, 0 + (putU M.n).length, false) := a1
    have e2 : hdD b = (M.d.toNat, 0 + (putU M.n).length + (putU M.d.toNat).length, false) := by unfold hdD; rw [e1]; exact c1
    have e3 : hdQ b = (M.idx.length, 0 + (putU M.n).length + (putU M.d.toNat).length + (putU M.idx.length).length, false) := by unfold hdQ; rw [e2]; exact d1
    have hdd : ((M.d.toNat : Nat) : Int) = M.d := by omega
    unfold decM
    rw [e1, e2, e3]
    simp only
    rw [hdd, if_pos ⟨newB_iff.2 ⟨by have := hM.n1; omega, by omega, hd1, hd2⟩, trivial⟩, ← cutM_zero]
    refine decLoop_complete b M hM M.idx [] 0 _ rfl (fun a ha => by cases ha) (fun a _ => Nat.zero_le a) (by rw [d2]; rfl) ?_
    have := congrArg List.length he
    unfold Mx.enc at this
    simp only [List.length_append] at this
    omega
/-- The numbers of a code. -/
def numsGo (m : Mx) : Int → List Nat → List Nat
  | _, [] => []
  | last, i :: r => ((i : Int) - last).toNat :: (m.cs.getD i 0).toNat :: numsGo m i r
def Mx.nums (m : Mx) : List Nat := m.n :: m.d.toNat :: m.idx.length :: numsGo m (-1) m.idx
theorem encGo_nums (m : Mx) : ∀ (L : List Nat) (s : Int), encGo m s L = (numsGo m s L).flatMap putU
  | [], _ => rfl
  | i :: L, s => by
    show putU _ ++ (putU _ ++ encGo m i L) = _
    rw [encGo_nums m L i]
    simp [numsGo]
theorem enc_nums (m : Mx) : m.enc = m.nums.flatMap putU := by
  unfold Mx.enc Mx.nums
  rw [encGo_nums]
  simp
theorem nums_le {M : Mx} (hM : M.OK) : ∀ v ∈ M.nums, v ≤ 1000000 := by
  have hn2 := hM.n2
  have hd1 := hM.d1
  have hd2 := hM.d2
  have hil := Mx.idx_len hM
  have hnn : M.n * M.n ≤ 4096 := Nat.mul_le_mul hM.n2 hM.n2
  have key : ∀ (L : List Nat) (s : Int), -1 ≤ s → (∀ i ∈ L, i ∈ M.idx) → ∀ v ∈ numsGo M s L, v ≤ 1000000 := by
    intro L
    induction L with
    | nil => intro s _ _ v hv; cases hv
    | cons i L ih =>
      intro s hs hL v hv
      obtain ⟨hi, _⟩ := Mx.mem_idx.1 (hL i (List.mem_cons_self ..))
      have hcost : 0 ≤ M.cs.getD i 0 ∧ M.cs.getD i 0 ≤ 30000 := by
        have hl := hM.len
        rw [List.getD_eq_getElem?_getD, List.getElem?_eq_getElem (by omega)]
        exact hM.cost _ (List.getElem_mem _)
      simp only [numsGo, List.mem_cons] at hv
      rcases hv with rfl | rfl | hv
      · omega
      · omega
      · exact ih i (by omega) (fun a ha => hL a (List.mem_cons_of_mem _ ha)) v hv
  intro v hv
  simp only [Mx.nums, List.mem_cons] at hv
  rcases hv with rfl | rfl | rfl | hv
  · omega
  · omega
  · omega
  · exact key _ _ (by omega) (fun i hi => hi) v hv
theorem flat_prefix : ∀ (l l' : List Nat) (rest : List UInt8), (∀ v ∈ l, v ≤ 1000000) → (∀ v ∈ l', v ≤ 1000000) → l.flatMap putU ++ rest = l'.flatMap putU → ∃ t, l' = l ++ t ∧ rest = t.flatMap putU
  | [], l', rest, _, _, h => ⟨l', rfl, h⟩
  | a :: l, [], rest, _, _, h => by
    exfalso
    have h1 := congrArg List.length h
    simp only [List.flatMap_cons, List.flatMap_nil, List.length_append, List.length_nil] at h1
    have := List.length_pos_iff.2 (putU_ne a)
    omega
  | a :: l, a' :: l', rest, h1, h2, h => by
    rw [List.flatMap_cons, List.flatMap_cons, List.append_assoc] at h
    have ha := h1 a (List.mem_cons_self ..)
    have ha' := h2 a' (List.mem_cons_self ..)
    obtain ⟨rfl, hr⟩ := putU_inj (by omega) (by omega) h
    obtain ⟨t, ht, hrest⟩ := flat_prefix l l' rest (fun v hv => h1 v (List.mem_cons_of_mem _ hv)) (fun v hv => h2 v (List.mem_cons_of_mem _ hv)) hr
    exact ⟨t, by rw [ht]; rfl, hrest⟩
/-- The numbers that a code's beginning says are those of its matrix. -/
theorem nums_of {l : List Nat} {rest : List UInt8} (h1 : ∀ v ∈ l, v ≤ 1000000) {M : Mx} (h : decM (l.flatMap putU ++ rest) = some M) : M.OK ∧ ∃ t, M.nums = l ++ t ∧ rest = t.flatMap putU := by
  obtain ⟨hM, he⟩ := decM_iff.1 h
  rw [enc_nums] at he
  exact ⟨hM, flat_prefix l _ _ h1 (nums_le hM) he.symm⟩
theorem dec_stop {l : List Nat} {rest : List UInt8} (h1 : ∀ v ∈ l, v ≤ 1000000) (hne : rest ≠ []) (hbad : ∀ v k, rdU rest = some (v, k) → 1000000 < v) : decM (l.flatMap putU ++ rest) = none := by
  cases h : decM (l.flatMap putU ++ rest) with
  | none => rfl
  | some M =>
    exfalso
    obtain ⟨hM, t, ht, hr⟩ := nums_of h1 h
    cases t with
    | nil => exact hne hr
    | cons v t =>
      have hv : v ≤ 1000000 := nums_le hM v (by rw [ht]; simp)
      have := hbad v (putU v).length (by rw [hr, List.flatMap_cons]; exact rdU_put (by omega) _)
      omega
theorem nums_eq {l : List Nat} (h1 : ∀ v ∈ l, v ≤ 1000000) {M : Mx} (h : decM (l.flatMap putU) = some M) : M.OK ∧ M.nums = l := by
  have h2 : decM (l.flatMap putU ++ []) = some M := by rw [List.append_nil]; exact h
  obtain ⟨hM, t, ht, hr⟩ := nums_of h1 h2
  cases t with
  | nil => exact ⟨hM, by rw [ht, List.append_nil]⟩
  | cons v t =>
    exfalso
    have := congrArg List.length hr
    simp only [List.flatMap_cons, List.length_append, List.length_nil] at this
    have := List.length_pos_iff.2 (putU_ne v)
    omega
theorem dec_short {l : List Nat} (h1 : ∀ v ∈ l, v ≤ 1000000) (hl : l.length < 3) : decM (l.flatMap putU) = none := by
  cases h : decM (l.flatMap putU) with
  | none => rfl
  | some M =>
    exfalso
    obtain ⟨_, hn⟩ := nums_eq h1 h
    rw [← hn] at hl
    simp only [Mx.nums, List.length_cons] at hl
    omega
theorem dec_new {a d q : Nat} {r : List Nat} (h1 : ∀ v ∈ a :: d :: q :: r, v ≤ 1000000) (hb : newB a d = false) : decM ((a :: d :: q :: r).flatMap putU) = none := by
  cases h : decM ((a :: d :: q :: r).flatMap putU) with
  | none => rfl
  | some M =>
    exfalso
    obtain ⟨hM, hn⟩ := nums_eq h1 h
    simp only [Mx.nums, List.cons.injEq] at hn
    obtain ⟨rfl, rfl, _⟩ := hn
    have hd1 := hM.d1
    have hdd : ((M.d.toNat : Nat) : Int) = M.d := by omega
    rw [hdd, newB_iff.2 ⟨by have := hM.n1; omega, by have := hM.n2; omega, hd1, hM.d2⟩] at hb
    cases hb
/-- What the reference's loop has: every matrix with these numbers, cut behind the last place. -/
def RInv (l : List Nat) (k : Nat) (m : Mx) (i : Int) : Prop := ∀ M : Mx, M.OK → M.nums = l → ∃ A L, M.idx = A ++ L ∧ (∀ a ∈ A, (a : Int) ≤ i) ∧ (∀ a ∈ L, i < (a : Int)) ∧ m = cutM M (i + 1).toNat ∧ l.drop k = numsGo M i L
theorem RInv.start (a d q : Nat) (r : List Nat) : RInv (a :: d :: q :: r) 3 (newM a d) (-1) := by
  intro M hM hn
  simp only [Mx.nums, List.cons.injEq] at hn
  obtain ⟨rfl, rfl, rfl, rfl⟩ := hn
  have hd1 := hM.d1
  have hdd : ((M.d.toNat : Nat) : Int) = M.d := by omega
  refine ⟨[], M.idx, rfl, fun a ha => (by cases ha), fun a _ => by omega, ?_, rfl⟩
  rw [hdd]; exact cutM_zero.symm
theorem RInv.next {l : List Nat} {k : Nat} {m : Mx} {i : Int} (h : RInv l k m i) {x c : Nat} (hx : l[k]? = some x) (hc : l[k + 1]? = some c) {M : Mx} (hM : M.OK) (hn : M.nums = l) :
    ∃ q : Nat, i + x = q ∧ 0 < x ∧ q < m.n * m.n ∧ m.n = M.n ∧ isC (c : Int) = true ∧ ∃ A L, M.idx = A ++ L ∧ (∀ a ∈ A, (a : Int) ≤ i + x) ∧ (∀ a ∈ L, i + x < (a : Int)) ∧ m.set (pairAt m.n q) c = cutM M (i + x + 1).toNat ∧ l.drop (k + 2) = numsGo M (i + x) L := by
  obtain ⟨A, L, h1, h2, h3, h4, h5⟩ := h M hM hn
  have hk : k + 1 < l.length := (List.getElem?_eq_some_iff.1 hc).1
  have hd : l.drop k = x :: c :: l.drop (k + 2) := by
    rw [List.drop_eq_getElem_cons (by omega), List.drop_eq_getElem_cons (by omega)]
    obtain ⟨_, e1⟩ := List.getElem?_eq_some_iff.1 hx
    obtain ⟨_, e2⟩ := List.getElem?_eq_some_iff.1 hc
    rw [e1, e2]
  rw [hd] at h5
  cases L with
  | nil => simp [numsGo] at h5
  | cons q L =>
    simp only [numsGo, List.cons.injEq] at h5
    obtain ⟨e1, e2, e3⟩ := h5
    have hq := h3 q (List.mem_cons_self ..)
    have hmem : q ∈ M.idx := by rw [h1]; simp
    obtain ⟨hqn, hqd⟩ := Mx.mem_idx.1 hmem
    have hcost : 0 ≤ M.cs.getD q 0 ∧ M.cs.getD q 0 ≤ 30000 := by
      have hl := hM.len
      rw [List.getD_eq_getElem?_getD, List.getElem?_eq_getElem (by omega)]
      exact hM.cost _ (List.getElem_mem _)
    have hup : (A ++ q :: L).Pairwise (· < ·) := by rw [← h1]; exact Mx.idx_up
    rw [List.pairwise_append, List.pairwise_cons] at hup
    obtain ⟨_, ⟨hup2, _⟩, _⟩ := hup
    have hcc : (c : Int) = M.cs.getD q 0 := by omega
    have hmn : m.n = M.n := by rw [h4]; rfl
    have hix : i + x = q := by omega
    refine ⟨q, hix, by omega, by rw [hmn]; exact hqn, hmn, by rw [hcc]; exact isC_iff.2 hcost, A ++ [q], L, by rw [h1]; simp, fun a ha => ?_, fun a ha => by have := hup2 a ha; omega, ?_, ?_⟩
    · rcases List.mem_append.1 ha with ha | ha
      · have := h2 a ha; omega
      · rw [List.mem_singleton.1 ha]; omega
    · rw [hcc, hmn, h4]
      have e9 : (i + x + 1).toNat = q + 1 := by omega
      rw [e9]
      by_cases hi : 0 ≤ i + 1
      · refine cutM_set hqn (by omega) fun a ha1 ha2 => idx_default (by omega) fun hm => ?_
        rw [h1] at hm
        rcases List.mem_append.1 hm with hm | hm
        · have := h2 a hm; omega
        · rcases List.mem_cons.1 hm with rfl | hm
          · omega
          · have := hup2 a hm; omega
      · refine cutM_set hqn (by omega) fun a ha1 ha2 => idx_default (by omega) fun hm => ?_
        rw [h1] at hm
        rcases List.mem_append.1 hm with hm | hm
        · have := h2 a hm; omega
        · rcases List.mem_cons.1 hm with rfl | hm
          · omega
          · have := hup2 a hm; omega
    · rw [hix]; exact e3
theorem RInv.bad {l : List Nat} {k : Nat} {m : Mx} {i : Int} (h : RInv l k m i) {x c : Nat} (hx : l[k]? = some x) (hc : l[k + 1]? = some c) (h1 : ∀ v ∈ l, v ≤ 1000000)
    (hb : i + x < 0 ∨ (0 ≤ i + x ∧ m.n * m.n ≤ (i + x).toNat) ∨ isC (c : Int) = false) : decM (l.flatMap putU) = none := by
  cases hd : decM (l.flatMap putU) with
  | none => rfl
  | some M =>
    exfalso
    obtain ⟨hM, hn⟩ := nums_eq h1 hd
    obtain ⟨q, e1, _, e2, _, e3, _⟩ := h.next hx hc hM hn
    rcases hb with h | ⟨_, h⟩ | h
    · omega
    · omega
    · rw [e3] at h; cases h
theorem RInv.step {l : List Nat} {k : Nat} {m : Mx} {i : Int} (h : RInv l k m i) {x c q : Nat} (hx : l[k]? = some x) (hc : l[k + 1]? = some c) (hq : i + x = q) : RInv l (k + 2) (m.set (pairAt m.n q) c) (i + x) := by
  intro M hM hn
  obtain ⟨q', e1, _, _, _, _, A, L, g1, g2, g3, g4, g5⟩ := h.next hx hc hM hn
  obtain rfl : q = q' := by omega
  exact ⟨A, L, g1, g2, g3, g4, g5⟩
theorem RInv.fin {l : List Nat} {k : Nat} {m : Mx} {i : Int} (h : RInv l k m i) (hk : ¬ k + 1 < l.length) {M : Mx} (hM : M.OK) (hn : M.nums = l) : m = M := by
  obtain ⟨A, L, h1, h2, h3, h4, h5⟩ := h M hM hn
  cases L with
  | cons q L =>
    have := congrArg List.length h5
    simp only [numsGo, List.length_cons, List.length_drop] at this
    omega
  | nil =>
    rw [h4]
    refine cutM_eq hM fun a ha1 ha2 => idx_default ha2 fun hm => ?_
    rw [h1, List.append_nil] at hm
    have := h2 a hm
    omega
/-- The reference's answer: its matrix, if these bytes are its code. -/
theorem RInv.ans {l : List Nat} {k : Nat} {m : Mx} {i : Int} (h : RInv l k m i) (hk : ¬ k + 1 < l.length) (h1 : ∀ v ∈ l, v ≤ 1000000) (hm : m.OK) : decM (l.flatMap putU) = if m.enc = l.flatMap putU then some m else none := by
  by_cases he : m.enc = l.flatMap putU
  · rw [if_pos he]; exact decM_iff.2 ⟨hm, he⟩
  · rw [if_neg he]
    cases hd : decM (l.flatMap putU) with
    | none => rfl
    | some M =>
      exfalso
      obtain ⟨hM, hn⟩ := nums_eq h1 hd
      obtain rfl := h.fin hk hM hn
      exact he (decM_iff.1 hd).2
end Go.Proofs.YtcdjponbhpchbaaDoor
