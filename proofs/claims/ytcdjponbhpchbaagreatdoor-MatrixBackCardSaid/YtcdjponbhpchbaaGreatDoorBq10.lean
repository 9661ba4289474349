/- The texts RdC RdU1, one behind the other. -/
import Derived.Test.YtcdjponbhpchbaaGreatDoorBq9
import Derived.Recover
namespace Go.Proofs.YtcdjponbhpchbaaGreatDoor
open Go Go.RowKit
attribute [local go_sem] quietE quietE2

theorem eb_grows2 {a b c : World} {B : Nat} (h : Grows a b) (k : EB B b c) (hB : a.heap.size ≤ B) : Grows a c := Below.trans h (Below.mono k.1 hB)
theorem box_cells2 {w w' : World} {cs : Array Value} {t : TypeId} (hg : Grows (w.alloc (.cells cs t)) w') : (∀ j v, cs[j]? = some v → w'.cell? ⟨w.heap.size, j, none⟩ = some v) ∧ (∀ j, w'.frozen? ⟨w.heap.size, j, none⟩ = false) := by
  refine ⟨fun j v h => hg.cell (cell_box w cs t _ j v h), fun j => ?_⟩
  rw [hg.froz (by simp)]
  have hh : (w.alloc (.cells cs t)).heap[w.heap.size]? = some (.cells cs t (0, 0)) := by
    show (w.heap.push _)[w.heap.size]? = _
    simp
  unfold World.frozen?
  simp only [hh]
  simp
set_option maxRecDepth 100000 in
set_option maxHeartbeats 2000000 in
/-- The closure that read defers, where number has panicked. -/
theorem rdc_panic (p0 p1 p2 : Nat) (w : World) (older : List PanicEntry) (v0 v1 v2 : Value) (c0 : w.cell? ⟨p0, 0, none⟩ = some v0) (c1 : w.cell? ⟨p1, 0, none⟩ = some v1) (c2 : w.cell? ⟨p2, 0, none⟩ = some v2)
    (f0 : w.frozen? ⟨p0, 0, none⟩ = false) (f1 : w.frozen? ⟨p1, 0, none⟩ = false) (f2 : w.frozen? ⟨p2, 0, none⟩ = false) (n01 : p0 ≠ p1) (n02 : p0 ≠ p2) (n12 : p1 ≠ p2) (B : Nat) (hB0 : B ≤ p0) (hB1 : B ≤ p1) (hB2 : B ≤ p2) :
    CallsD Tryz.prog 84 #[.pointer (some ⟨p0, 0, none⟩), .pointer (some ⟨p1, 0, none⟩), .pointer (some ⟨p2, 0, none⟩)] (.panicking ({ v := failV, recovered := false } :: older)) w fun e u' w' =>
      e = .returned (.tuple #[]) ∧ u' = .panicking ({ v := failV, recovered := true } :: older) ∧ w'.cell? ⟨p0, 0, none⟩ = some (.int .u64 0) ∧ w'.cell? ⟨p1, 0, none⟩ = some (.int .i64 0) ∧ w'.cell? ⟨p2, 0, none⟩ = some (.bool false) ∧ EB B w w' := by
  have hta : ∀ W : World, (Instr.typeAssert (.iface 132 (.agg #[])) 20 132 true).run Tryz.prog W = .ok (.tuple #[.agg #[], .bool true]) W := fun W => by kernel_rfl
  have hga := Grows.alloc w (.cells #[] 132)
  have b0 := World.block_lt_of_cell? w _ c0
  have b1 := World.block_lt_of_cell? w _ c1
  have b2 := World.block_lt_of_cell? w _ c2
  have d0 := hga.cell c0
  have d1 := hga.cell c1
  have d2 := hga.cell c2
  have g0 := (hga.froz (p := ⟨p0, 0, none⟩) b0).trans f0
  have g1 := (hga.froz (p := ⟨p1, 0, none⟩) b1).trans f1
  have g2 := (hga.froz (p := ⟨p2, 0, none⟩) b2).trans f2
  have e1 : (w.alloc (.cells #[] 132) |>.setCell ⟨p0, 0, none⟩ (.int .u64 0)).cell? ⟨p1, 0, none⟩ = some v1 := (World.cell?_setCell_other _ _ _ _ (fun e => n01 (congrArg Addr.block e))).trans d1
  have e2 : ((w.alloc (.cells #[] 132) |>.setCell ⟨p0, 0, none⟩ (.int .u64 0)).setCell ⟨p1, 0, none⟩ (.int .i64 0)).cell? ⟨p2, 0, none⟩ = some v2 := (World.cell?_setCell_other _ _ _ _ (fun e => n12 (congrArg Addr.block e))).trans ((World.cell?_setCell_other _ _ _ _ (fun e => n02 (congrArg Addr.block e))).trans d2)
  refine callsD_of_wpS Tryz.func84 rfl fun c₀ cs hu => ?_
  apply wpS_seq
  apply wpS_region
  simp [wpOpsS, go_sem, recoverD, hu, Tryz.ntmps84, Exit.thenS, failV]
  refine wpS_of_wp ?_
  rw [show (#[Value.pointer (some ⟨p0, 0, none⟩), .pointer (some ⟨p1, 0, none⟩), .pointer (some ⟨p2, 0, none⟩)] ++ (Array.replicate 11 undef).setIfInBounds 4 (.iface 132 (.agg #[]))) = #[.pointer (some ⟨p0, 0, none⟩), .pointer (some ⟨p1, 0, none⟩), .pointer (some ⟨p2, 0, none⟩), undef, undef, undef, undef, .iface 132 (.agg #[]), undef, undef, undef, undef, undef, undef] from rfl]
  go_wp2
  have hs0 : (((w.setCell ⟨p0, 0, none⟩ (.int .u64 0)).setCell ⟨p1, 0, none⟩ (.int .i64 0)).setCell ⟨p2, 0, none⟩ (.bool false)).cell? ⟨p0, 0, none⟩ = some (.int .u64 0) := by
    rw [World.cell?_setCell_other _ _ _ _ (fun e => n02 (congrArg Addr.block e).symm), World.cell?_setCell_other _ _ _ _ (fun e => n01 (congrArg Addr.block e).symm)]
    exact World.cell?_setCell_same _ _ _ c0
  have hs1 : (((w.setCell ⟨p0, 0, none⟩ (.int .u64 0)).setCell ⟨p1, 0, none⟩ (.int .i64 0)).setCell ⟨p2, 0, none⟩ (.bool false)).cell? ⟨p1, 0, none⟩ = some (.int .i64 0) := by
    rw [World.cell?_setCell_other _ _ _ _ (fun e => n12 (congrArg Addr.block e).symm)]
    exact World.cell?_setCell_same _ _ _ ((World.cell?_setCell_other _ _ _ _ (fun e => n01 (congrArg Addr.block e))).trans c1)
  have hs2 : (((w.setCell ⟨p0, 0, none⟩ (.int .u64 0)).setCell ⟨p1, 0, none⟩ (.int .i64 0)).setCell ⟨p2, 0, none⟩ (.bool false)).cell? ⟨p2, 0, none⟩ = some (.bool false) :=
    World.cell?_setCell_same _ _ _ ((World.cell?_setCell_other _ _ _ _ (fun e => n12 (congrArg Addr.block e))).trans ((World.cell?_setCell_other _ _ _ _ (fun e => n02 (congrArg Addr.block e))).trans c2))
  have hbl : Below B w ((((w.setCell ⟨p0, 0, none⟩ (.int .u64 0)).setCell ⟨p1, 0, none⟩ (.int .i64 0)).setCell ⟨p2, 0, none⟩ (.bool false)).alloc (.cells #[] 132)) := ((((Below.refl B w).setCell (p := ⟨p0, 0, none⟩) hB0 _).setCell (p := ⟨p1, 0, none⟩) hB1 _).setCell (p := ⟨p2, 0, none⟩) hB2 _).alloc (by simp; omega) _
  have hal := Grows.alloc (((w.setCell ⟨p0, 0, none⟩ (.int .u64 0)).setCell ⟨p1, 0, none⟩ (.int .i64 0)).setCell ⟨p2, 0, none⟩ (.bool false)) (.cells #[] 132)
  have k0 := hal.cell hs0
  have k1 := hal.cell hs1
  have k2 := hal.cell hs2
  have heb : EB B w ((((w.setCell ⟨p0, 0, none⟩ (.int .u64 0)).setCell ⟨p1, 0, none⟩ (.int .i64 0)).setCell ⟨p2, 0, none⟩ (.bool false)).alloc (.cells #[] 132)) := ⟨hbl, hbl.size⟩
  exact ⟨rfl, _, rfl, _, results_none rfl _ _ _, rfl, rfl, k0, k1, k2, heb⟩
set_option maxRecDepth 100000 in
set_option maxHeartbeats 2000000 in
/-- .. where it has not. -/
theorem rdc_ret (p0 p1 p2 : Nat) (w : World) :
    CallsD Tryz.prog 84 #[.pointer (some ⟨p0, 0, none⟩), .pointer (some ⟨p1, 0, none⟩), .pointer (some ⟨p2, 0, none⟩)] .returning w fun e u' w' => e = .returned (.tuple #[]) ∧ u' = .returning ∧ w' = w := by
  refine callsD_of_wpS Tryz.func84 rfl fun c₀ cs hu => ?_
  apply wpS_seq
  apply wpS_region
  simp [wpOpsS, go_sem, recoverD, hu, Tryz.ntmps84, Exit.thenS]
  refine wpS_of_wp ?_
  rw [show (#[Value.pointer (some ⟨p0, 0, none⟩), .pointer (some ⟨p1, 0, none⟩), .pointer (some ⟨p2, 0, none⟩)] ++ (Array.replicate 11 undef).setIfInBounds 4 .nilIface) = #[.pointer (some ⟨p0, 0, none⟩), .pointer (some ⟨p1, 0, none⟩), .pointer (some ⟨p2, 0, none⟩), undef, undef, undef, undef, .nilIface, undef, undef, undef, undef, undef, undef] from rfl]
  go_wp2
  cases c₀
  simp only at hu
  subst hu
  exact ⟨rfl, _, rfl, _, results_none rfl _ _ _, rfl, rfl, rfl⟩
end Go.Proofs.YtcdjponbhpchbaaGreatDoor
namespace Go.Proofs.YtcdjponbhpchbaaGreatDoor
open Go Go.RowKit
attribute [local go_sem] quietE quietE2

/-- Where a region can only go on. -/
def onlyN (K : Act → World → Prop) : Exit → Act → World → Prop
  | .normal, a, w => K a w
  | _, _, _ => False
theorem onlyN_normal (K : Act → World → Prop) (a : Act) (w : World) : onlyN K .normal a w = K a w := rfl
theorem wp_onlyN {P : Program} {c : Code} {K : Act → World → Prop} {Q : Exit → Act → World → Prop} {a : Act} {w : World} (h : c.wp P (onlyN K) a w) : c.wp P (Exit.then K Q) a w := fun b k cs => by
  obtain ⟨e, a', w', q, r⟩ := h b k cs
  refine ⟨e, a', w', ?_, r⟩
  cases e <;> first | exact q | exact q.elim
/-- What coding.Uint answers. -/
def uintR (k : Nat) : Option (Nat × Nat) → Value
  | some (v, n) => .tuple #[.int .u64 v, .int .i64 ((k + n : Nat) : Int), .bool true]
  | none => .tuple #[.int .u64 0, .int .i64 0, .bool false]
/-- Only one cell may be written, and with what it holds. -/
def ES (b : Nat) (v : Value) (w w' : World) : Prop :=
  (Below b w w' ∧ w.heap.size ≤ w'.heap.size) ∧ (∀ (p : Addr) (u : Value), p.block ≠ b → w.cell? p = some u → w'.cell? p = some u) ∧ (∀ p : Addr, p.block ≠ b → p.block < w.heap.size → w'.frozen? p = w.frozen? p) ∧ (w.cell? ⟨b, 0, none⟩ = some v → w'.cell? ⟨b, 0, none⟩ = some v) ∧ (b < w.heap.size → w'.frozen? ⟨b, 0, none⟩ = w.frozen? ⟨b, 0, none⟩)
theorem ES.refl (b : Nat) (v : Value) (w : World) : ES b v w w := ⟨⟨Below.refl _ _, Nat.le_refl _⟩, fun _ _ _ h => h, fun _ _ _ => rfl, fun h => h, fun _ => rfl⟩
theorem ES.trans (b : Nat) (v : Value) (x y z : World) (h : ES b v x y) (k : ES b v y z) : ES b v x z :=
  ⟨⟨Below.trans h.1.1 k.1.1, Nat.le_trans h.1.2 k.1.2⟩, fun p u hp hc => k.2.1 p u hp (h.2.1 p u hp hc), fun p hp hl => (k.2.2.1 p hp (Nat.lt_of_lt_of_le hl h.1.2)).trans (h.2.2.1 p hp hl), fun hc => k.2.2.2.1 (h.2.2.2.1 hc), fun hl => (k.2.2.2.2 (Nat.lt_of_lt_of_le hl h.1.2)).trans (h.2.2.2.2 hl)⟩
instance (b : Nat) (v : Value) (w : World) : Nonempty (Ext (ES b v) w) := ⟨⟨w, ES.refl _ _ _⟩⟩
theorem ES.put {b : Nat} {v : Value} {w : World} (hc : w.cell? ⟨b, 0, none⟩ = some v) : ES b v w (w.setCell ⟨b, 0, none⟩ v) :=
  ⟨⟨(Below.refl b w).setCell (p := ⟨b, 0, none⟩) (Nat.le_refl b) v, by simp⟩, fun p u hp h => by rw [World.cell?_setCell_other _ _ _ _ (fun e => hp (by rw [← e]))]; exact h, fun p _ _ => World.frozen?_setCell _ _ _ _, fun _ => World.cell?_setCell_same _ _ _ hc, fun _ => World.frozen?_setCell _ _ _ _⟩
/-- The four boxes of read. -/
structure RdB (w : World) (s : Value) (k : Int) (W : World) : Prop where
  g : Grows w W
  sz : w.heap.size + 1 + 1 + 1 < W.heap.size
  c0 : W.cell? ⟨w.heap.size, 0, none⟩ = some (.int .u64 0)
  f0 : W.frozen? ⟨w.heap.size, 0, none⟩ = false
  c1 : W.cell? ⟨w.heap.size + 1, 0, none⟩ = some (.int .i64 0)
  f1 : W.frozen? ⟨w.heap.size + 1, 0, none⟩ = false
  c2 : W.cell? ⟨w.heap.size + 1 + 1, 0, none⟩ = some (.bool false)
  f2 : W.frozen? ⟨w.heap.size + 1 + 1, 0, none⟩ = false
  r0 : W.cell? ⟨w.heap.size + 1 + 1 + 1, 0, none⟩ = some s
  r1 : W.cell? ⟨w.heap.size + 1 + 1 + 1, 1, none⟩ = some (.int .i64 k)
  rf : W.frozen? ⟨w.heap.size + 1 + 1 + 1, 1, none⟩ = false
theorem rdB (w : World) (s : Value) (k : Int) : RdB w s k ((((w.alloc (.cells #[.int .u64 0] 82)).alloc (.cells #[.int .i64 0] 3)).alloc (.cells #[.bool false] 4)).alloc (.cells #[s, .int .i64 k] 134)) := by
  have e1 : (w.alloc (.cells #[.int .u64 0] 82)).heap.size = w.heap.size + 1 := by simp
  have e2 : ((w.alloc (.cells #[.int .u64 0] 82)).alloc (.cells #[.int .i64 0] 3)).heap.size = w.heap.size + 1 + 1 := by simp
  have e3 : (((w.alloc (.cells #[.int .u64 0] 82)).alloc (.cells #[.int .i64 0] 3)).alloc (.cells #[.bool false] 4)).heap.size = w.heap.size + 1 + 1 + 1 := by simp
  have b0 := box_cells2 (w := w) (cs := #[.int .u64 0]) (t := 82) (w' := ((((w.alloc (.cells #[.int .u64 0] 82)).alloc (.cells #[.int .i64 0] 3)).alloc (.cells #[.bool false] 4)).alloc (.cells #[s, .int .i64 k] 134))) (((Grows.alloc _ _).al _).al _)
  have b1 := box_cells2 (w := w.alloc (.cells #[.int .u64 0] 82)) (cs := #[.int .i64 0]) (t := 3) (w' := ((((w.alloc (.cells #[.int .u64 0] 82)).alloc (.cells #[.int .i64 0] 3)).alloc (.cells #[.bool false] 4)).alloc (.cells #[s, .int .i64 k] 134))) ((Grows.alloc _ _).al _)
  have b2 := box_cells2 (w := (w.alloc (.cells #[.int .u64 0] 82)).alloc (.cells #[.int .i64 0] 3)) (cs := #[.bool false]) (t := 4) (w' := ((((w.alloc (.cells #[.int .u64 0] 82)).alloc (.cells #[.int .i64 0] 3)).alloc (.cells #[.bool false] 4)).alloc (.cells #[s, .int .i64 k] 134))) (Grows.alloc _ _)
  have b3 := box_cells2 (w := ((w.alloc (.cells #[.int .u64 0] 82)).alloc (.cells #[.int .i64 0] 3)).alloc (.cells #[.bool false] 4)) (cs := #[s, .int .i64 k]) (t := 134) (w' := ((((w.alloc (.cells #[.int .u64 0] 82)).alloc (.cells #[.int .i64 0] 3)).alloc (.cells #[.bool false] 4)).alloc (.cells #[s, .int .i64 k] 134))) (Grows.refl _)
  rw [e1] at b1
  rw [e2] at b2
  rw [e3] at b3
  exact ⟨(((Grows.alloc _ _).al _).al _).al _, by simp, b0.1 0 _ rfl, b0.2 0, b1.1 0 _ rfl, b1.2 0, b2.1 0 _ rfl, b2.2 0, b3.1 0 _ rfl, b3.1 1 _ rfl, b3.2 1⟩
set_option maxHeartbeats 4000000 in
set_option maxRecDepth 100000 in
theorem read_any (b : List UInt8) (k : Nat) (ba : Option Addr) (bc : Nat) (w : World) (hk : k ≤ b.length) (hb : b.length ≤ 1099511627776) (hat : AtCells w ba 1 (b.map byteC)) :
    Calls Tryz.prog 62 #[.slice ba b.length bc, .int .i64 k, .func (.func 63) #[] #[]] w fun e w' => e = .returned (uintR k (rdU (b.drop k))) ∧ Grows w w' := by
  have hmf : ∀ (fn : Fn) (first cap : Array Value) (w : World), (Instr.makeFunc fn first cap).run Tryz.prog w = .ok (.func fn first cap) w := fun _ _ _ _ => rfl
  have hk0 : ¬ (k : Int) < 0 := by omega
  have HAT := Lib.hid hat
  have HBA : Hid (∀ q : Addr, ba = some q → b ≠ [] → q.block < w.heap.size) := fun q hq hne => by
    obtain ⟨x, hx⟩ : ∃ x, b[0]? = some x := ⟨_, List.getElem?_eq_getElem (List.length_pos_iff.2 hne)⟩
    obtain ⟨bb, bo, e, hbc⟩ := hat.get hne
    rw [e] at hq
    cases hq
    exact World.block_lt_of_cell? _ _ (hbc 0 x hx 0 _ rfl)
  obtain ⟨R, hR⟩ : ∃ R, R = rdU (b.drop k) := ⟨_, rfl⟩
  have HR := Lib.hid hR
  rw [← hR]
  clear hR hat
  go_enter_defers Tryz.func62, Tryz.ntmps62
  go_wp2_with fail
  have hB := rdB w (.slice ba b.length bc) k
  generalize ((((w.alloc (.cells #[Value.int .u64 0] 82)).alloc (.cells #[.int .i64 0] 3)).alloc (.cells #[.bool false] 4)).alloc (.cells #[Value.slice ba b.length bc, .int .i64 k] 134)) = W4 at *
  refine (rdn_any b _ k ba bc W4 hk hb (HAT.out.grows hB.g) (fun q hq hne => Nat.lt_trans (HBA.out q hq hne) (by omega)) hB.r0 hB.r1 hB.rf).mono ?_
  rintro e w5 ⟨hres, heb⟩
  rw [← HR.out] at hres
  have hs5 := heb.2
  have hsz := hB.sz
  have c0 : w5.cell? ⟨w.heap.size, 0, none⟩ = _ := (Below.cell heb.1 (by simp only; omega)).trans hB.c0
  have c1 : w5.cell? ⟨w.heap.size + 1, 0, none⟩ = _ := (Below.cell heb.1 (by simp only; omega)).trans hB.c1
  have c2 : w5.cell? ⟨w.heap.size + 1 + 1, 0, none⟩ = _ := (Below.cell heb.1 (by simp only; omega)).trans hB.c2
  have f0 : w5.frozen? ⟨w.heap.size, 0, none⟩ = _ := (Below.frozen heb.1 (by simp only; omega)).trans hB.f0
  have f1 : w5.frozen? ⟨w.heap.size + 1, 0, none⟩ = _ := (Below.frozen heb.1 (by simp only; omega)).trans hB.f1
  have f2 : w5.frozen? ⟨w.heap.size + 1 + 1, 0, none⟩ = _ := (Below.frozen heb.1 (by simp only; omega)).trans hB.f2
  have hg5 : Grows w w5 := eb_grows2 hB.g heb (by omega)
  rcases hres with ⟨v, n, rfl, rfl, hc⟩ | ⟨rfl, rfl⟩
  · have g0 : (w5.setCell ⟨w.heap.size, 0, none⟩ (.int .u64 v)).cell? ⟨w.heap.size, 0, none⟩ = some (.int .u64 v) := World.cell?_setCell_same _ _ _ c0
    have g1 : (w5.setCell ⟨w.heap.size, 0, none⟩ (.int .u64 v)).cell? ⟨w.heap.size + 1, 0, none⟩ = some (.int .i64 0) := (World.cell?_setCell_other _ _ _ _ (fun e => by have := congrArg Addr.block e; simp only at this; omega)).trans c1
    have g2 : (w5.setCell ⟨w.heap.size, 0, none⟩ (.int .u64 v)).cell? ⟨w.heap.size + 1 + 1, 0, none⟩ = some (.bool false) := (World.cell?_setCell_other _ _ _ _ (fun e => by have := congrArg Addr.block e; simp only at this; omega)).trans c2
    have g3 : (w5.setCell ⟨w.heap.size, 0, none⟩ (.int .u64 v)).cell? ⟨w.heap.size + 1 + 1 + 1, 1, none⟩ = some (.int .i64 ((k + n : Nat) : Int)) := (World.cell?_setCell_other _ _ _ _ (fun e => by have := congrArg Addr.block e; simp only at this; omega)).trans hc
    have gg : ∀ j, j = w.heap.size ∨ j = w.heap.size + 1 ∨ j = w.heap.size + 1 + 1 → (w5.setCell ⟨w.heap.size, 0, none⟩ (.int .u64 v)).frozen? ⟨j, 0, none⟩ = false := fun j hj => by
      rw [World.frozen?_setCell]
      rcases hj with rfl | rfl | rfl
      · exact f0
      · exact f1
      · exact f2
    obtain ⟨K, hK2⟩ : ∃ K, K = k + n := ⟨_, rfl⟩
    rw [← hK2] at g3 hc
    have HK2 := Lib.hid hK2
    clear hK2
    have hgp : Grows w (w5.setCell ⟨w.heap.size, 0, none⟩ (.int .u64 v)) := hg5.set (by simp only; omega) _
    have hsp : w.heap.size + 1 + 1 + 1 < (w5.setCell ⟨w.heap.size, 0, none⟩ (.int .u64 v)).heap.size := by simp; omega
    clear HR hB heb c1 c2 f1 f2 hc hg5
    go_wp2_with fail
    clear c0 f0
    generalize (w5.setCell ⟨w.heap.size, 0, none⟩ (.int .u64 v)) = w6 at *
    have z0 : ∀ x : Ext (ES w.heap.size (.int .u64 v)) w6.drew, x.u.cell? ⟨w.heap.size, 0, none⟩ = some (.int .u64 v) := fun x => x.h.2.2.2.1 ((Grows.drew _).cell g0)
    have z3 : ∀ x : Ext (ES w.heap.size (.int .u64 v)) w6.drew, x.u.cell? ⟨w.heap.size + 1 + 1 + 1, 1, none⟩ = some (.int .i64 (K : Int)) := fun x => x.h.2.1 _ _ (by simp only; omega) ((Grows.drew _).cell g3)
    have x0 : w6.drew.cell? ⟨w.heap.size, 0, none⟩ = some (.int .u64 v) := g0
    have xf : w6.drew.frozen? ⟨w.heap.size, 0, none⟩ = false := gg _ (Or.inl rfl)
    refine wp_onlyN ?_
    refine t_tail (ES w.heap.size (.int .u64 v)) 6 [(0, false), (1, false), (2, false), (3, false), (4, false), (5, true)] (ES.refl _ _) (ES.trans _ _) (by kernel_rfl) (by kernel_rfl) (fun _ _ _ _ _ h => h) ?_
    iterate 5 (refine t_quiet rfl (fun K hK => ?_); go_simp; refine hK _ ?_; clear hK K)
    refine t_late rfl rfl (fun K hK => ?_)
    go_simp
    refine ⟨ES.put x0, hK _ _ ?_⟩
    clear hK K
    refine t_end ?_
    simp only [List.drop_succ_cons, List.drop_zero]
    clear z0 z3
    have n0 := g0
    have y0 : (w6.setCell ⟨w.heap.size, 0, none⟩ (.int .u64 v)).cell? ⟨w.heap.size, 0, none⟩ = some (.int .u64 v) := World.cell?_setCell_same _ _ _ g0
    have y1 : (w6.setCell ⟨w.heap.size, 0, none⟩ (.int .u64 v)).cell? ⟨w.heap.size + 1, 0, none⟩ = some (.int .i64 0) := (World.cell?_setCell_other _ _ _ _ (fun e => by have := congrArg Addr.block e; simp only at this; omega)).trans g1
    have y2 : (w6.setCell ⟨w.heap.size, 0, none⟩ (.int .u64 v)).cell? ⟨w.heap.size + 1 + 1, 0, none⟩ = some (.bool false) := (World.cell?_setCell_other _ _ _ _ (fun e => by have := congrArg Addr.block e; simp only at this; omega)).trans g2
    have yg : Grows w (w6.setCell ⟨w.heap.size, 0, none⟩ (.int .u64 v)) := hgp.set (by simp only; omega) _
    have yf1 : (w6.setCell ⟨w.heap.size, 0, none⟩ (.int .u64 v)).frozen? ⟨w.heap.size + 1, 0, none⟩ = false := (World.frozen?_setCell _ _ _ _).trans (gg _ (Or.inr (Or.inl rfl)))
    have yf2 : (w6.setCell ⟨w.heap.size, 0, none⟩ (.int .u64 v)).frozen? ⟨w.heap.size + 1 + 1, 0, none⟩ = false := (World.frozen?_setCell _ _ _ _).trans (gg _ (Or.inr (Or.inr rfl)))
    clear x0 xf g0 g1 g2 g3 gg n0
    generalize w6.setCell ⟨w.heap.size, 0, none⟩ (.int .u64 v) = w7 at *
    have k1 : ((w7.setCell ⟨w.heap.size + 1, 0, none⟩ (.int .i64 K)).setCell ⟨w.heap.size + 1 + 1, 0, none⟩ (.bool true)).drew.cell? ⟨w.heap.size + 1, 0, none⟩ = some (.int .i64 K) := by
      refine (World.cell?_setCell_other _ _ _ _ (fun e => by have := congrArg Addr.block e; simp only at this; omega)).trans ?_
      exact World.cell?_setCell_same _ _ _ y1
    have y2' : (w7.setCell ⟨w.heap.size + 1, 0, none⟩ (.int .i64 K)).cell? ⟨w.heap.size + 1 + 1, 0, none⟩ = some (.bool false) := by
      rw [World.cell?_setCell_other _ _ _ _ (fun e => by have := congrArg Addr.block e; simp only at this; omega)]
      exact y2
    have k2 : ((w7.setCell ⟨w.heap.size + 1, 0, none⟩ (.int .i64 K)).setCell ⟨w.heap.size + 1 + 1, 0, none⟩ (.bool true)).drew.cell? ⟨w.heap.size + 1 + 1, 0, none⟩ = some (.bool true) := World.cell?_setCell_same _ _ _ y2'
    have k0 : ((w7.setCell ⟨w.heap.size + 1, 0, none⟩ (.int .i64 K)).setCell ⟨w.heap.size + 1 + 1, 0, none⟩ (.bool true)).drew.cell? ⟨w.heap.size, 0, none⟩ = some (.int .u64 v) := by
      refine (World.cell?_setCell_other _ _ _ _ (fun e => by have := congrArg Addr.block e; simp only at this; omega)).trans ?_
      refine (World.cell?_setCell_other _ _ _ _ (fun e => by have := congrArg Addr.block e; simp only at this; omega)).trans ?_
      exact y0
    have kg : Grows w ((w7.setCell ⟨w.heap.size + 1, 0, none⟩ (.int .i64 K)).setCell ⟨w.heap.size + 1 + 1, 0, none⟩ (.bool true)).drew := ((yg.set (by simp only; omega) _).set (by simp only; omega) _).dr
    go_wp2_with fail
    simp only [onlyN_normal]
    go_wp2_with fail
    refine leaves_cons (f := 84) (args := #[.pointer (some ⟨w.heap.size, 0, none⟩), .pointer (some ⟨w.heap.size + 1, 0, none⟩), .pointer (some ⟨w.heap.size + 1 + 1, 0, none⟩)]) (by simp) (by simp [go_sem]) ?_
    refine (rdc_ret _ _ _ _).mono ?_
    rintro e u' w'' ⟨rfl, rfl, rfl⟩
    show Leaves _ _ _ _ _ _ _
    simp only [settle]
    refine ⟨.tuple #[.int .u64 v, .int .i64 K, .bool true], ?_, by rw [HK2.out]; rfl, kg⟩
    simp [results, Tryz.results62, go_sem, k0, k1, k2]
  · clear HR hB heb
    go_wp2_with fail
    refine leaves_cons (f := 84) (args := #[.pointer (some ⟨w.heap.size, 0, none⟩), .pointer (some ⟨w.heap.size + 1, 0, none⟩), .pointer (some ⟨w.heap.size + 1 + 1, 0, none⟩)]) (by simp) (by simp [go_sem]) ?_
    refine (rdc_panic w.heap.size (w.heap.size + 1) (w.heap.size + 1 + 1) w5 [] _ _ _ c0 c1 c2 f0 f1 f2 (by omega) (by omega) (by omega) w.heap.size (by omega) (by omega) (by omega)).mono ?_
    rintro e u' w'' ⟨rfl, rfl, k0, k1, k2, heb6⟩
    have kg : Grows w w'' := EB.grows hg5 heb6
    show Leaves _ _ _ _ _ _ _
    simp only [settle]
    refine ⟨.tuple #[.int .u64 0, .int .i64 0, .bool false], ?_, rfl, kg⟩
    simp [results, Tryz.results62, go_sem, k0, k1, k2]
end Go.Proofs.YtcdjponbhpchbaaGreatDoor
