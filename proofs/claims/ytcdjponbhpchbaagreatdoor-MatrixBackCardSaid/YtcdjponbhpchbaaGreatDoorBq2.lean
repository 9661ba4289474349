/- The texts Cmp KeyP Mx Pos, one behind the other. -/
import Derived.Test.YtcdjponbhpchbaaGreatDoorProg
import Derived.Test.YtcdjponbhpchbaaGreatDoorBq1
import Derived.WalkKit
import Derived.WalkLawsBesides
import Derived.Lib.Hide
import Derived.DeepKeys4
import Derived.Maps.RangeWalk
import Derived.Maps.Views
namespace Go.Proofs.YtcdjponbhpchbaaGreatDoor
open Go Go.RowKit

/-- cmp.Or at int. -/
def orI : List Int → Int
  | [] => 0
  | z :: l => if z = 0 then orI l else z

theorem orI_drop : ∀ (zs : List Int) (k : Nat), (∀ j, j < k → zs[j]?.getD 0 = 0) → orI zs = orI (zs.drop k)
  | [], k, _ => by simp
  | z :: l, 0, _ => by simp
  | z :: l, k + 1, h => by
    have h0 : z = 0 := by simpa using h 0 (by omega)
    simp only [orI, h0, if_true, List.drop_succ_cons]
    exact orI_drop l k fun j hj => by simpa using h (j + 1) (by omega)
theorem orI_hit {zs : List Int} {k : Nat} (hk : k < zs.length) (h : ∀ j, j < k → zs[j]?.getD 0 = 0) (hz : zs[k]?.getD 0 ≠ 0) : orI zs = zs[k]?.getD 0 := by
  rw [orI_drop zs k h, List.drop_eq_getElem_cons hk, orI]
  simp [hk] at hz ⊢
  simp [hz]
theorem orI_none {zs : List Int} (h : ∀ j, j < zs.length → zs[j]?.getD 0 = 0) : orI zs = 0 := by
  rw [orI_drop zs _ h]; simp [orI]

set_option maxHeartbeats 400000 in
theorem or_any (zs : List Int) (b off cap : Nat) (w : World) (hl : zs.length ≤ 4611686018427387904) (hc : ∀ k, k < zs.length → w.cell? ⟨b, off + k, none⟩ = some (.int .i64 (zs[k]?.getD 0))) :
    Calls Tryz.prog 58 #[.slice (some ⟨b, off, none⟩) zs.length cap] w fun e w' => e = .returned (.int .i64 (orI zs)) ∧ w = w' := by
  have HC := Lib.hid hc
  clear hc
  go_enter Tryz.func58, Tryz.ntmps58
  go_wp2
  go_loop [8] (fun i => ∃ k : Nat, k ≤ zs.length ∧ i = .int .i64 k ∧ Hid (∀ j, j < k → zs[j]?.getD 0 = 0)) (fun i => zs.length - (intOf i).toNat)
  case atStart => exact ⟨0, Nat.zero_le _, rfl, fun j hj => by omega⟩
  case round =>
    obtain ⟨k, hk, rfl, hz⟩ := hrel
    by_cases hlt : k < zs.length
    · have hcx := HC.out k hlt
      obtain ⟨z, hze⟩ : ∃ z, z = zs[k]?.getD 0 := ⟨_, rfl⟩
      rw [← hze] at hcx
      have HE := Lib.hid hze
      clear hze
      by_cases h0 : z = 0
      · have h0' : (z != 0) = false := by simp [h0]
        have H0 := Lib.hid h0
        clear h0
        go_wp2
        go_round
        case rel => exact ⟨k + 1, by omega, by go_num, fun j hj => by
          rcases Nat.lt_succ_iff_lt_or_eq.1 hj with h | rfl
          · exact hz.out j h
          · rw [← HE.out]; exact H0.out⟩
        case measure => simp [intOf]; omega
      · have h0' : (z != 0) = true := by simpa using h0
        have hfin := Lib.hid ((orI_hit hlt hz.out (by rw [← HE.out]; exact h0)).trans HE.out.symm)
        clear h0
        go_wp2
        go_ret
        exact ⟨by rw [hfin.out]; rfl, rfl⟩
    · obtain rfl : k = zs.length := by omega
      have hfin := Lib.hid (orI_none hz.out)
      go_wp2
      go_ret
      exact ⟨by rw [hfin.out]; rfl, rfl⟩

def cmpI (x y : Int) : Int := if x < y then -1 else if y < x then 1 else 0
def cmpS (a b : ByteArray) : Int := if Op.bytesLess a.toList b.toList then -1 else if !Op.bytesLess a.toList b.toList && !(a.toList == b.toList) then 1 else 0


set_option maxHeartbeats 400000 in
theorem compareI_any (x y : Int) (w : World) :
    Calls Tryz.prog 59 #[.int .i64 x, .int .i64 y] w fun e w' => e = .returned (.int .i64 (cmpI x y)) ∧ w = w' := by
  go_enter Tryz.func59, Tryz.ntmps59
  go_wp2
  all_goals (go_ret; refine ⟨ret_int ?_, rfl⟩; unfold cmpI; (repeat' split) <;> first | rfl | (exfalso; omega))

end Go.Proofs.YtcdjponbhpchbaaGreatDoor
namespace Go.Proofs.YtcdjponbhpchbaaGreatDoor
open Go Go.RowKit

theorem keyLits_struct {P : Program} {d : Nat} {t : TypeId} {fs : Array Field} {cs : List Value} (h : P.underlying t = some (.struct fs)) :
    P.keyLits (d + 1) t cs = if cs.length = P.cellsOf t ∧ fs.all (·.name != "_") = true then (fs.toList.mapM fun f => P.keyLits d f.type ((cs.drop f.offset).take (P.cellsOf f.type))).map List.flatten else none := by
  conv => lhs; unfold Program.keyLits
  simp only [h]
/-- A pair, as a value. -/
def pairV (x : Int × Int) : Value := .agg #[.int .i64 x.1, .int .i64 x.2]
def WfI (n : Int) : Prop := (Lit.int .i64 n).wf = true
/-- What a pair reads as, as a map's key. -/
def klP (x : Int × Int) : Lit := .string (keyBytes [.int .i64 x.1, .int .i64 x.2])
theorem laidOutP : laidOutB Tryz.prog = true := by kernel_rfl
theorem keyedP : Go.Maps.Keyed Tryz.prog 59 := Go.Maps.Keyed.of_law (deep_law_laid laidOutP (m := 3) (by decide) (of_decide_eq_true (by kernel_rfl)) (by kernel_rfl) (by kernel_rfl))
set_option maxRecDepth 100000 in
theorem keyP {x : Int × Int} (h1 : WfI x.1) (h2 : WfI x.2) : Go.keyOf Tryz.prog 59 (pairV x) = some (klP x) := by
  obtain ⟨m, hm⟩ : ∃ m, Tryz.prog.types.size = m + 1 := ⟨Tryz.prog.types.size - 1, by have : 0 < Tryz.prog.types.size := of_decide_eq_true (by kernel_rfl); omega⟩
  have hI : ∀ (n : Int), WfI n → Tryz.prog.keyLits (m + 1) 3 [.int .i64 n] = some [.int .i64 n] := fun n hn => by
    unfold Program.keyLits
    unfold WfI at hn
    simp only [Tryz.underlying3, hn, and_self, if_true]
  have hk : Tryz.prog.keyType 59 = true := by kernel_rfl
  have hc : Tryz.prog.cellsOf 59 = 2 := by kernel_rfl
  have hci : Tryz.prog.cellsOf 3 = 1 := by kernel_rfl
  obtain ⟨a, b⟩ := x
  have g1 := hI a h1
  have g2 := hI b h2
  unfold Go.keyOf
  simp only [Tryz.underlying59, hk, Bool.true_and]
  unfold Value.formed pairV
  simp only [Tryz.underlying59, hc]
  have hz : ((#[Value.int .i64 a, .int .i64 b] : Array Value).size == 2) = true := rfl
  rw [if_pos hz, hm]
  unfold Program.keyLits
  simp only [Tryz.underlying59, hc, Value.cells]
  simp [hci, g1, g2, klP]
theorem klP_inj {x y : Int × Int} (h1 : WfI x.1) (h2 : WfI x.2) (h3 : WfI y.1) (h4 : WfI y.2) (h : klP x = klP y) : x = y := by
  have k1 := keyP h1 h2
  have k2 := keyP h3 h4
  rw [h] at k1
  have := keyedP.inj k1 k2
  obtain ⟨a, b⟩ := x
  obtain ⟨a', b'⟩ := y
  simpa [pairV] using this
set_option maxRecDepth 100000 in
theorem keyP_inv {key : Value} {kl : Lit} (h : Go.keyOf Tryz.prog 59 key = some kl) : ∃ x : Int × Int, WfI x.1 ∧ WfI x.2 ∧ key = pairV x ∧ kl = klP x := by
  obtain ⟨m, hm⟩ : ∃ m, Tryz.prog.types.size = m + 1 := ⟨Tryz.prog.types.size - 1, by have : 0 < Tryz.prog.types.size := of_decide_eq_true (by kernel_rfl); omega⟩
  have hI : ∀ (v : Value) (ls : List Lit), Tryz.prog.keyLits (m + 1) 3 [v] = some ls → ∃ n : Int, v = .int .i64 n ∧ WfI n ∧ ls = [.int .i64 n] := fun v ls h => by
    unfold Program.keyLits at h
    simp only [Tryz.underlying3] at h
    cases v <;> simp at h
    obtain ⟨⟨rfl, h2⟩, h3⟩ := h
    exact ⟨_, rfl, h2, h3.symm⟩
  have hk : Tryz.prog.keyType 59 = true := by kernel_rfl
  have hc : Tryz.prog.cellsOf 59 = 2 := by kernel_rfl
  have hci : Tryz.prog.cellsOf 3 = 1 := by kernel_rfl
  unfold Go.keyOf at h
  simp only [Tryz.underlying59, hk, Bool.true_and] at h
  split at h
  · rename_i hf
    rw [hm] at h
    obtain ⟨cs, rfl, hsz⟩ : ∃ cs, key = .agg cs ∧ cs.size = 2 := by
      unfold Value.formed at hf
      cases key <;> simp [Tryz.underlying59, hc] at hf
      exact ⟨_, rfl, hf⟩
    obtain ⟨l⟩ := cs
    match l, hsz with
    | [c0, c1], _ =>
      rw [keyLits_struct Tryz.underlying59] at h
      simp only [Value.cells] at h
      simp [hci, hc, Option.bind_eq_some_iff, List.mapM_cons] at h
      obtain ⟨l0, g0, ls, ⟨l1, g1, rfl⟩, rfl⟩ := h
      obtain ⟨n2, rfl, z2, rfl⟩ := hI _ _ g0
      obtain ⟨n3, rfl, z3, rfl⟩ := hI _ _ g1
      exact ⟨⟨n2, n3⟩, z2, z3, rfl, by simp [klP]⟩
  · cases h
end Go.Proofs.YtcdjponbhpchbaaGreatDoor
namespace Go.Proofs.YtcdjponbhpchbaaGreatDoor
open Go Go.RowKit

/-- A matrix: its size, its default cost, its costs row by row. -/
structure Mx where
  n : Nat
  d : Int
  cs : List Int
structure Mx.OK (m : Mx) : Prop where
  n1 : 1 ≤ m.n
  n2 : m.n ≤ 64
  d1 : 0 ≤ m.d
  d2 : m.d ≤ 30000
  len : m.cs.length = m.n * m.n
  cost : ∀ c ∈ m.cs, 0 ≤ c ∧ c ≤ 30000
def isC (c : Int) : Bool := decide (0 ≤ c) && decide (c ≤ 30000)
theorem isC_iff {c : Int} : isC c = true ↔ 0 ≤ c ∧ c ≤ 30000 := by simp [isC]
def newB (n d : Int) : Bool := decide (1 ≤ n) && decide (n ≤ 64) && isC d
theorem newB_iff {n d : Int} : newB n d = true ↔ 1 ≤ n ∧ n ≤ 64 ∧ 0 ≤ d ∧ d ≤ 30000 := by simp [newB, isC, and_assoc]
def newM (n d : Int) : Mx := ⟨n.toNat, d, List.replicate (n.toNat * n.toNat) d⟩
theorem newM_ok {n d : Int} (h : newB n d = true) : (newM n d).OK := by
  obtain ⟨h1, h2, h3, h4⟩ := newB_iff.1 h
  refine ⟨?_, ?_, h3, h4, by simp [newM], fun c hc => ?_⟩
  · show 1 ≤ n.toNat; omega
  · show n.toNat ≤ 64; omega
  · obtain rfl : c = d := (List.mem_replicate.1 hc).2
    exact ⟨h3, h4⟩
def inR (n : Nat) (r : Int) : Bool := decide (0 ≤ r) && decide (r < n)
theorem inR_iff {n : Nat} {r : Int} : inR n r = true ↔ 0 ≤ r ∧ r < n := by simp [inR]
def at2 (n : Nat) (x : Int × Int) : Nat := x.1.toNat * n + x.2.toNat
def inP (n : Nat) (x : Int × Int) : Bool := inR n x.1 && inR n x.2
theorem inP_iff {n : Nat} {x : Int × Int} : inP n x = true ↔ (0 ≤ x.1 ∧ x.1 < n) ∧ 0 ≤ x.2 ∧ x.2 < n := by simp [inP, inR_iff]
theorem at2_lt {n : Nat} {x : Int × Int} (h : inP n x = true) : at2 n x < n * n := by
  obtain ⟨⟨h1, h2⟩, h3, h4⟩ := inP_iff.1 h
  unfold at2
  have k1 : x.1.toNat + 1 ≤ n := by omega
  have k2 : x.2.toNat < n := by omega
  have := Nat.mul_le_mul_right n k1
  rw [Nat.add_mul, Nat.one_mul] at this
  omega
theorem at2_div {n : Nat} {x : Int × Int} (h : inP n x = true) : at2 n x / n = x.1.toNat ∧ at2 n x % n = x.2.toNat := by
  obtain ⟨⟨h1, h2⟩, h3, h4⟩ := inP_iff.1 h
  have k2 : x.2.toNat < n := by omega
  unfold at2
  constructor
  · rw [Nat.mul_comm, Nat.mul_add_div (by omega), Nat.div_eq_of_lt k2, Nat.add_zero]
  · rw [Nat.mul_comm, Nat.mul_add_mod, Nat.mod_eq_of_lt k2]
theorem at2_inj {n : Nat} {x y : Int × Int} (hx : inP n x = true) (hy : inP n y = true) (h : at2 n x = at2 n y) : x = y := by
  have k1 := at2_div hx
  have k2 := at2_div hy
  rw [h] at k1
  obtain ⟨⟨h1, h2⟩, h3, h4⟩ := inP_iff.1 hx
  obtain ⟨⟨g1, g2⟩, g3, g4⟩ := inP_iff.1 hy
  have e1 := k1.1.symm.trans k2.1
  have e2 := k1.2.symm.trans k2.2
  exact Prod.ext (by omega) (by omega)
def Mx.cost (m : Mx) (x : Int × Int) : Int := if inP m.n x then m.cs.getD (at2 m.n x) 0 else 30000
def Mx.setB (m : Mx) (x : Int × Int) (c : Int) : Bool := inP m.n x && isC c
def Mx.set (m : Mx) (x : Int × Int) (c : Int) : Mx := { m with cs := m.cs.set (at2 m.n x) c }
def Mx.setIf (m : Mx) (x : Int × Int) (c : Int) : Mx := if m.setB x c then m.set x c else m
theorem Mx.OK.set {m : Mx} (h : m.OK) {x : Int × Int} {c : Int} (hs : m.setB x c = true) : (m.set x c).OK := by
  simp only [Mx.setB, Bool.and_eq_true] at hs
  refine ⟨h.n1, h.n2, h.d1, h.d2, by simp [Mx.set, h.len], fun z hz => ?_⟩
  rcases List.mem_or_eq_of_mem_set hz with hz | rfl
  · exact h.cost z hz
  · exact isC_iff.1 hs.2
theorem Mx.OK.setIf {m : Mx} (h : m.OK) (x : Int × Int) (c : Int) : (m.setIf x c).OK := by
  unfold Mx.setIf
  split
  · rename_i hs; exact h.set hs
  · exact h
theorem Mx.cost_set {m : Mx} (h : m.OK) {x : Int × Int} {c : Int} (hx : inP m.n x = true) (y : Int × Int) : (m.set x c).cost y = if y = x then c else m.cost y := by
  have hl : at2 m.n x < m.cs.length := by rw [h.len]; exact at2_lt hx
  unfold Mx.cost
  show (if inP m.n y then (m.cs.set (at2 m.n x) c).getD (at2 m.n y) 0 else 30000) = _
  by_cases hy : inP m.n y = true
  · rw [if_pos hy, if_pos hy]
    by_cases e : y = x
    · subst e; rw [if_pos rfl]
      simp [List.getD, hl]
    · rw [if_neg e]
      have : at2 m.n x ≠ at2 m.n y := fun h => e (at2_inj hx hy h).symm
      simp [List.getD, List.getElem?_set_ne this]
  · rw [if_neg hy, if_neg hy, if_neg (fun e => hy (by rw [e]; exact hx))]
theorem Mx.cost_new {n d : Int} (x : Int × Int) : (newM n d).cost x = if inP n.toNat x then d else 30000 := by
  unfold Mx.cost newM
  simp only
  by_cases h : inP n.toNat x = true
  · rw [if_pos h, if_pos h]
    simp [List.getD, at2_lt h]
  · rw [if_neg h, if_neg h]
theorem Mx.cost_ok {m : Mx} (h : m.OK) (x : Int × Int) : 0 ≤ m.cost x ∧ m.cost x ≤ 30000 := by
  unfold Mx.cost
  split
  · rename_i hx
    have hl : at2 m.n x < m.cs.length := by rw [h.len]; exact at2_lt hx
    have : m.cs.getD (at2 m.n x) 0 = m.cs[at2 m.n x] := by simp [List.getD, hl]
    rw [this]
    exact h.cost _ (List.getElem_mem _)
  · omega
theorem wf_of_in {n : Nat} (hn : n ≤ 64) {x : Int × Int} (h : inP n x = true) : WfI x.1 ∧ WfI x.2 := by
  obtain ⟨⟨h1, h2⟩, h3, h4⟩ := inP_iff.1 h
  exact ⟨WalkArith.wf_i64 (by omega), WalkArith.wf_i64 (by omega)⟩

section
variable {H : Type}
/-- What the map of a matrix holds. -/
def MapM (m : Mx) (D : DataW H) : Prop := ∀ x : Int × Int, WfI x.1 → WfI x.2 → (Maps.has D (klP x) = (inP m.n x && decide (m.cost x ≠ m.d))) ∧ (Maps.has D (klP x) = true → ∀ zd, D.atKey (klP x) zd = .lit (.int .i64 (m.cost x)))
theorem klP_key (x : Int × Int) : WideAt.IsKeyLit (klP x) := by simp [klP, WideAt.IsKeyLit]
theorem klP_same (x : Int × Int) : (klP x).sameKey (klP x) = true := by simp [klP, Lit.sameKey]
theorem mapM_new (n d : Int) : MapM (H := H) (newM n d) (.map []) := fun x _ _ => by
  refine ⟨?_, fun h => by cases h⟩
  show false = _
  rw [Mx.cost_new]
  show false = (inP n.toNat x && decide ((if inP n.toNat x then d else 30000) ≠ d))
  cases inP n.toNat x <;> simp
theorem MapM.put {m : Mx} {D : DataW H} (h : MapM m D) (hm : Maps.IsMap D) (hok : m.OK) {x : Int × Int} {c : Int} (hs : m.setB x c = true) (hc : c ≠ m.d) : MapM (m.set x c) (D.put (klP x) (.lit (.int .i64 c))) := fun y h1 h2 => by
  simp only [Mx.setB, Bool.and_eq_true] at hs
  have hw := wf_of_in hok.n2 hs.1
  rw [Mx.cost_set hok hs.1]
  show Maps.has _ _ = (inP m.n y && decide (_ ≠ m.d)) ∧ _
  by_cases e : y = x
  · subst e
    rw [if_pos rfl, Maps.has_put_same hm (klP_key _), hs.1]
    exact ⟨by simp [hc], fun _ zd => Maps.atKey_put_same hm (klP_key _) _ _⟩
  · have hne : klP y ≠ klP x := fun h => e (klP_inj h1 h2 hw.1 hw.2 h)
    rw [if_neg e, Maps.has_put_other hne]
    refine ⟨(h y h1 h2).1, fun hh zd => ?_⟩
    rw [Maps.atKey_put_other hne]
    exact (h y h1 h2).2 hh zd
theorem MapM.del {m : Mx} {D : DataW H} (h : MapM m D) (hok : m.OK) {x : Int × Int} (hx : inP m.n x = true) : MapM (m.set x m.d) (D.del (klP x)) := fun y h1 h2 => by
  have hw := wf_of_in hok.n2 hx
  rw [Mx.cost_set hok hx]
  show Maps.has _ _ = (inP m.n y && decide (_ ≠ m.d)) ∧ _
  by_cases e : y = x
  · subst e
    rw [if_pos rfl, Maps.has_del_same]
    exact ⟨by simp, fun h => by cases h⟩
  · have hne : klP y ≠ klP x := fun h => e (klP_inj h1 h2 hw.1 hw.2 h)
    rw [if_neg e, Maps.has_del_other hne]
    refine ⟨(h y h1 h2).1, fun hh zd => ?_⟩
    rw [Maps.atKey_del_other hne]
    exact (h y h1 h2).2 hh zd
/-- What a look-up gives. -/
theorem MapM.look {m : Mx} {D : DataW H} (h : MapM m D) (hok : m.OK) {x : Int × Int} (hx : inP m.n x = true) {c : Int} (hc : D.atKey (klP x) (.lit (.int .i64 0)) = .lit (.int .i64 c)) : (Maps.has D (klP x) = true → c = m.cost x) ∧ (Maps.has D (klP x) = false → m.cost x = m.d) := by
  have hw := wf_of_in hok.n2 hx
  obtain ⟨h1, h2⟩ := h x hw.1 hw.2
  refine ⟨fun hh => ?_, fun hh => ?_⟩
  · have := h2 hh (.lit (.int .i64 0))
    rw [hc] at this
    simpa using this
  · rw [hh, hx] at h1
    have h3 : decide (m.cost x ≠ m.d) = false := by simpa using h1.symm
    simpa using h3
end

/-- The places whose cost is not the default cost, in order. -/
def Mx.idx (m : Mx) : List Nat := (List.range (m.n * m.n)).filter fun i => decide (m.cs.getD i 0 ≠ m.d)
def pairAt (n i : Nat) : Int × Int := (((i / n : Nat) : Int), ((i % n : Nat) : Int))
def Mx.pairs (m : Mx) : List (Int × Int) := m.idx.map (pairAt m.n)
theorem pairAt_in {n i : Nat} (h : i < n * n) : inP n (pairAt n i) = true ∧ at2 n (pairAt n i) = i := by
  have hn : 0 < n := by
    rcases Nat.eq_zero_or_pos n with h0 | h0
    · subst h0; simp at h
    · exact h0
  have h1 : i / n < n := Nat.div_lt_of_lt_mul h
  have h2 : i % n < n := Nat.mod_lt _ hn
  refine ⟨inP_iff.2 ⟨⟨Int.natCast_nonneg _, Int.ofNat_lt.2 h1⟩, Int.natCast_nonneg _, Int.ofNat_lt.2 h2⟩, ?_⟩
  simp only [at2, pairAt, Int.toNat_natCast]
  rw [Nat.mul_comm]; exact Nat.div_add_mod i n
theorem pairAt_at2 {n : Nat} {x : Int × Int} (h : inP n x = true) : pairAt n (at2 n x) = x := at2_inj (pairAt_in (at2_lt h)).1 h (pairAt_in (at2_lt h)).2
theorem Mx.mem_idx {m : Mx} {i : Nat} : i ∈ m.idx ↔ i < m.n * m.n ∧ m.cs.getD i 0 ≠ m.d := by simp [Mx.idx]
theorem Mx.mem_pairs {m : Mx} {x : Int × Int} : x ∈ m.pairs ↔ inP m.n x = true ∧ m.cost x ≠ m.d := by
  unfold Mx.pairs
  rw [List.mem_map]
  constructor
  · rintro ⟨i, hi, rfl⟩
    obtain ⟨h1, h2⟩ := Mx.mem_idx.1 hi
    obtain ⟨h3, h4⟩ := pairAt_in h1
    refine ⟨h3, ?_⟩
    unfold Mx.cost
    rw [if_pos h3, h4]; exact h2
  · rintro ⟨h1, h2⟩
    refine ⟨at2 m.n x, Mx.mem_idx.2 ⟨at2_lt h1, ?_⟩, pairAt_at2 h1⟩
    unfold Mx.cost at h2
    rwa [if_pos h1] at h2
/-- The order of pairs. -/
def cmpP (a b : Int × Int) : Int := orI [cmpI a.1 b.1, cmpI a.2 b.2]
def ltP (a b : Int × Int) : Prop := a.1 < b.1 ∨ a.1 = b.1 ∧ a.2 < b.2
theorem cmpP_lt (a b : Int × Int) : cmpP a b < 0 ↔ ltP a b := by
  unfold cmpP ltP
  simp only [orI]
  unfold cmpI
  constructor
  · intro h
    split at h <;> (repeat' split at h) <;> omega
  · intro h
    split <;> (repeat' split) <;> omega
theorem ltP_irrefl (a : Int × Int) : ¬ ltP a a := by unfold ltP; omega
theorem ltP_trans {a b c : Int × Int} (h1 : ltP a b) (h2 : ltP b c) : ltP a c := by unfold ltP at *; omega
theorem ltP_total {a b : Int × Int} (h : a ≠ b) : ltP a b ∨ ltP b a := by
  by_cases h1 : a.1 = b.1
  · have h2 : a.2 ≠ b.2 := fun h2 => h (Prod.ext h1 h2)
    unfold ltP; omega
  · unfold ltP; omega
theorem pairAt_lt {n i j : Nat} (h : i < j) : ltP (pairAt n i) (pairAt n j) := by
  have h1 : i / n ≤ j / n := Nat.div_le_div_right (Nat.le_of_lt h)
  unfold ltP pairAt
  simp only
  by_cases e : i / n = j / n
  · right
    refine ⟨by omega, ?_⟩
    have h2 := Nat.div_add_mod i n
    have h3 := Nat.div_add_mod j n
    rw [e] at h2
    omega
  · left; omega
theorem Mx.pairs_sorted (m : Mx) : m.pairs.Pairwise ltP := by
  unfold Mx.pairs Mx.idx
  rw [List.pairwise_map]
  exact (List.Pairwise.filter _ List.pairwise_lt_range).imp fun h => pairAt_lt h
theorem pw_unique {α : Type} {lt : α → α → Prop} (hi : ∀ a, ¬ lt a a) (ht : ∀ {a b c}, lt a b → lt b c → lt a c) : ∀ {o o' : List α}, o.Pairwise lt → o'.Pairwise lt → (∀ y, y ∈ o ↔ y ∈ o') → o = o'
  | [], [], _, _, _ => rfl
  | [], b :: s, _, _, h => by have := (h b).2 (by simp); cases this
  | a :: r, [], _, _, h => by have := (h a).1 (by simp); cases this
  | a :: r, b :: s, h1, h2, h => by
    obtain ⟨ha, hr⟩ := List.pairwise_cons.1 h1
    obtain ⟨hb, hs⟩ := List.pairwise_cons.1 h2
    have hab : a = b := by
      rcases List.mem_cons.1 ((h a).1 (by simp)) with e | e
      · exact e
      · rcases List.mem_cons.1 ((h b).2 (by simp)) with e' | e'
        · exact e'.symm
        · exact absurd (ht (hb a e) (ha b e')) (hi b)
    subst hab
    have hn1 : a ∉ r := fun hm => hi a (ha a hm)
    have hn2 : a ∉ s := fun hm => hi a (hb a hm)
    rw [pw_unique hi ht hr hs fun y => ?_]
    constructor
    · intro hy
      rcases List.mem_cons.1 ((h y).1 (by simp [hy])) with e | e
      · subst e; exact absurd hy hn1
      · exact e
    · intro hy
      rcases List.mem_cons.1 ((h y).2 (by simp [hy])) with e | e
      · subst e; exact absurd hy hn2
      · exact e
theorem Mx.pairs_len {m : Mx} (h : m.OK) : m.pairs.length ≤ 4096 := by
  unfold Mx.pairs
  rw [List.length_map]
  refine Nat.le_trans (List.length_filter_le _ _) ?_
  rw [List.length_range]
  have := h.n2
  exact Nat.mul_le_mul this this
end Go.Proofs.YtcdjponbhpchbaaGreatDoor
namespace Go.Proofs.YtcdjponbhpchbaaGreatDoor
open Go Go.RowKit
attribute [local go_sem] quietE

set_option maxHeartbeats 400000 in
theorem find1_any (p : PosV) (name : ByteArray) (b : Nat) (w : World) (hc : w.cell? ⟨b, 0, none⟩ = some (.string name)) (hb : b < w.heap.size) :
    Calls Tryz.prog 47 #[.agg #[.string p.name, .int .i64 p.kind], .pointer (some ⟨b, 0, none⟩)] w fun e w' => e = .returned (.bool (seq p.name name)) ∧ Grows w w' := by
  have hne : b ≠ w.heap.size := by omega
  go_enter Tryz.func47, Tryz.ntmps47
  go_wp2
  go_ret
  exact ⟨rfl, Grows.alloc _ _⟩

/-- the place, as slices.IndexFunc gives it -/
def idxI (o : Option Nat) : Int := match o with | some k => k | none => -1
set_option maxHeartbeats 1000000 in
theorem indexFunc_any (l : List PosV) (name : ByteArray) (a : Option Addr) (cap b : Nat) (w : World) (hl : l.length ≤ 4611686018427387904) (hs : AtCells w a 2 (l.map posCells)) (hc : w.cell? ⟨b, 0, none⟩ = some (.string name)) :
    Calls Tryz.prog 46 #[.slice a l.length cap, .func (.func 47) #[] #[.pointer (some ⟨b, 0, none⟩)]] w fun e w' => e = .returned (.int .i64 (idxI (posFind l name))) ∧ Grows w w' := by
  have HS := Lib.hid hs
  have HC := Lib.hid hc
  clear hs hc
  go_enter Tryz.func46, Tryz.ntmps46
  go_wp2
  go_loopw [8] (fun i wr => ∃ k : Nat, k ≤ l.length ∧ i = .int .i64 k ∧ Hid (∀ j q, j < k → l[j]? = some q → seq q.name name = false) ∧ Grows w wr) (fun i _ => l.length - (intOf i).toNat)
  case atStart => exact ⟨0, Nat.zero_le _, rfl, fun j q hj => by omega, Grows.refl _⟩
  case round =>
    obtain ⟨k, hk, rfl, hz, hg⟩ := hrel
    by_cases hlt : k < l.length
    · obtain ⟨p, hp⟩ : ∃ p, l[k]? = some p := ⟨_, List.getElem?_eq_getElem hlt⟩
      obtain ⟨bl, off, rfl, hcells⟩ := (HS.out.grows hg).get (ne_nil_of_lt hlt)
      have c0 : wr.cell? ⟨bl, off + k * 2, none⟩ = some (.string p.name) := hcells k p hp 0 _ rfl
      have c1 : wr.cell? ⟨bl, off + k * 2 + 1, none⟩ = some (.int .i64 p.kind) := hcells k p hp 1 _ rfl
      clear hcells
      have HP := Lib.hid hp
      clear hp
      have con := find1_any p name b wr (hg.cell HC.out) (World.block_lt_of_cell? wr _ (hg.cell HC.out))
      have HCON := Lib.hid con
      clear con
      cases hq : seq p.name name
      · rw [hq] at HCON
        have HQ := Lib.hid hq
        clear hq
        go_wp2_with (go_at_call 47; refine HCON.out.mono ?_; rintro e w' ⟨rfl, hg2⟩)
        go_roundw
        case rel => exact ⟨k + 1, by omega, by go_num, fun j q hj hq => by
          rcases Nat.lt_succ_iff_lt_or_eq.1 hj with h | rfl
          · exact hz.out j q h hq
          · rw [HP.out] at hq; obtain rfl := Option.some.inj hq; exact HQ.out, hg.tr hg2⟩
        case measure => simp [intOf]; omega
      · rw [hq] at HCON
        have hfin := Lib.hid (posFind_hit HP.out hz.out hq)
        clear hq
        go_wp2_with (go_at_call 47; refine HCON.out.mono ?_; rintro e w' ⟨rfl, hg2⟩)
        go_ret
        exact ⟨by rw [hfin.out]; rfl, hg.tr hg2⟩
    · obtain rfl : k = l.length := by omega
      have hfin := Lib.hid (posFind_none hz.out)
      go_wp2
      go_ret
      exact ⟨by rw [hfin.out]; rfl, hg⟩

/-- What pos.Find hands back. -/
def findI (o : Option Nat) : Int := match o with | some k => k | none => 0
set_option maxHeartbeats 1000000 in
theorem posFind_any (l : List PosV) (name : ByteArray) (a : Option Addr) (cap : Nat) (w : World) (hl : l.length ≤ 4611686018427387904) (hs : AtCells w a 2 (l.map posCells)) :
    Calls Tryz.prog 24 #[.slice a l.length cap, .string name] w fun e w' => e = .returned (.tuple #[.int .i64 (findI (posFind l name)), .bool (posFind l name).isSome]) ∧ Grows w w' := by
  have con := Lib.hid (indexFunc_any l name a cap w.heap.size (w.alloc (.cells #[.string name] 9)) hl (hs.grows (Grows.alloc _ _)) (cell_box _ _ _ _ _ _ rfl))
  clear hs
  cases hq : posFind l name with
  | none =>
    rw [hq] at con
    clear hq
    go_enter Tryz.func24, Tryz.ntmps24
    go_wp2_with (go_at_call 46; refine con.out.mono ?_; rintro e w' ⟨rfl, hg2⟩)
    go_ret2
    exact ⟨rfl, (Grows.alloc _ _).tr hg2⟩
  | some k =>
    rw [hq] at con
    clear hq
    go_enter Tryz.func24, Tryz.ntmps24
    go_wp2_with (go_at_call 46; refine con.out.mono ?_; rintro e w' ⟨rfl, hg2⟩)
    go_ret2
    exact ⟨rfl, (Grows.alloc _ _).tr hg2⟩
end Go.Proofs.YtcdjponbhpchbaaGreatDoor
