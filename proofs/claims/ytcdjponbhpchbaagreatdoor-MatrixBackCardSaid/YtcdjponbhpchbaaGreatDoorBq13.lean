/- The texts DecN DecW, one behind the other. -/
import Derived.Test.YtcdjponbhpchbaaGreatDoorBq10
import Derived.Test.YtcdjponbhpchbaaGreatDoorBq9
import Derived.Test.YtcdjponbhpchbaaGreatDoorBq12
namespace Go.Proofs.YtcdjponbhpchbaaGreatDoor
open Go Go.RowKit
attribute [local go_sem] quietE quietE2

set_option maxHeartbeats 2000000 in
set_option maxRecDepth 100000 in
theorem uint_any (b : List UInt8) (k : Nat) (ba : Option Addr) (bc : Nat) (w : World) (hk : k ≤ b.length) (hb : b.length ≤ 1099511627776) (hat : AtCells w ba 1 (b.map byteC)) :
    Calls Tryz.prog 39 #[.slice ba b.length bc, .int .i64 k] w fun e w' => e = .returned (uintR k (rdU (b.drop k))) ∧ Grows w w' := by
  have CR := Lib.hid (read_any b k ba bc w hk hb hat)
  cases hR : rdU (b.drop k) with
  | none =>
    rw [hR] at CR
    unfold uintR at CR ⊢
    clear hR hat
    go_enter Tryz.func39, Tryz.ntmps39
    go_wp2_with fail
    refine CR.out.mono ?_
    rintro e w1 ⟨rfl, hg⟩
    go_wp2_with fail
    go_ret3
    exact ⟨rfl, hg⟩
  | some x =>
    obtain ⟨v, n⟩ := x
    rw [hR] at CR
    unfold uintR at CR ⊢
    obtain ⟨K, hK⟩ : ∃ K, K = k + n := ⟨_, rfl⟩
    simp only [← hK] at CR ⊢
    clear hR hat hK
    go_enter Tryz.func39, Tryz.ntmps39
    go_wp2_with fail
    refine CR.out.mono ?_
    rintro e w1 ⟨rfl, hg⟩
    go_wp2_with fail
    go_ret3
    exact ⟨rfl, hg⟩
/-- Two blocks alone may turn. -/
structure NB (p1 p2 : Nat) (w w' : World) : Prop where
  os : w'.os = w.os
  tape : w'.tape = w.tape
  output : w'.output = w.output
  size : w.heap.size ≤ w'.heap.size
  block : ∀ k, k < w.heap.size → k ≠ p1 → k ≠ p2 → w'.heap[k]? = w.heap[k]?
theorem NB.of {p1 p2 : Nat} {w w' : World} (h : Grows w w') : NB p1 p2 w w' := ⟨Below.os h, Below.tape h, Below.output h, h.size, fun k hk _ _ => Below.block h k hk⟩
theorem NB.trans {p1 p2 : Nat} {a b c : World} (h : NB p1 p2 a b) (k : NB p1 p2 b c) : NB p1 p2 a c :=
  ⟨k.os.trans h.os, k.tape.trans h.tape, k.output.trans h.output, Nat.le_trans h.size k.size, fun i hi h1 h2 => (k.block i (Nat.lt_of_lt_of_le hi h.size) h1 h2).trans (h.block i hi h1 h2)⟩
theorem NB.set {p1 p2 b i : Nat} {w : World} (hb : b = p1 ∨ b = p2) (v : Value) : NB p1 p2 w (w.setCell ⟨b, i, none⟩ v) :=
  ⟨rfl, rfl, rfl, by simp, fun k _ h1 h2 => heap_setCell_other _ _ _ _ (fun e => by simp only at e; rcases hb with rfl | rfl <;> omega)⟩
theorem NB.grows {p1 p2 : Nat} {a w w' : World} (h : Grows a w) (k : NB p1 p2 w w') (h1 : a.heap.size ≤ p1) (h2 : a.heap.size ≤ p2) : Grows a w' :=
  ⟨k.os.trans (Below.os h), k.tape.trans (Below.tape h), k.output.trans (Below.output h), Nat.le_trans h.size k.size, fun i hi => (k.block i (Nat.lt_of_lt_of_le hi h.size) (by omega) (by omega)).trans (Below.block h i hi)⟩
theorem NB.cell {p1 p2 : Nat} {w w' : World} (h : NB p1 p2 w w') {p : Addr} {v : Value} (hc : w.cell? p = some v) (h1 : p.block ≠ p1) (h2 : p.block ≠ p2) : w'.cell? p = some v := by
  have hlt := World.block_lt_of_cell? w _ hc
  have hb := h.block p.block hlt h1 h2
  unfold World.cell? at hc ⊢
  rw [hb]; exact hc
theorem NB.cells {p1 p2 : Nat} {w w' : World} {a : Option Addr} {k : Nat} {rows : List (List Value)} (h : NB p1 p2 w w') (hat : AtCells w a k rows) (hp : ∀ q : Addr, a = some q → rows ≠ [] → q.block ≠ p1 ∧ q.block ≠ p2) : AtCells w' a k rows := fun hn => by
  obtain ⟨b', off, rfl, hc⟩ := hat hn
  obtain ⟨h1, h2⟩ := hp _ rfl hn
  exact ⟨b', off, rfl, fun i row hi j v hj => h.cell (hc i row hi j v hj) h1 h2⟩
theorem MatAt.nb {w w' : World} {mb bm p1 p2 : Nat} {m : Mx} (h : MatAt w mb bm m) (hn : NB p1 p2 w w') (h1 : mb ≠ p1) (h2 : mb ≠ p2) (h3 : bm ≠ p1) (h4 : bm ≠ p2) : MatAt w' mb bm m := by
  obtain ⟨D, ho, hD⟩ := h.own
  have hlt := ho.lt
  obtain ⟨es, clock, hb, F, hs, he⟩ := ho
  exact ⟨h.ok, hn.cell h.c0 h1 h2, hn.cell h.c1 h1 h2, hn.cell h.c2 h1 h2, D, ⟨es, clock, (hn.block bm hlt h3 h4).trans hb, F, hs, he⟩, hD⟩
/-- The boxes of Decode: the bytes, the place, and whether something was bad. -/
structure DAt (w : World) (pb p1 p2 : Nat) (s : Value) (st : Nat × Bool) : Prop where
  cb : w.cell? ⟨pb, 0, none⟩ = some s
  c1 : w.cell? ⟨p1, 0, none⟩ = some (.int .i64 (st.1 : Nat))
  c2 : w.cell? ⟨p2, 0, none⟩ = some (.bool st.2)
  f1 : w.frozen? ⟨p1, 0, none⟩ = false
  f2 : w.frozen? ⟨p2, 0, none⟩ = false
  nb1 : pb ≠ p1
  nb2 : pb ≠ p2
  n12 : p1 ≠ p2
theorem DAt.grows {w w' : World} {pb p1 p2 : Nat} {s : Value} {st : Nat × Bool} (h : DAt w pb p1 p2 s st) (hg : Grows w w') : DAt w' pb p1 p2 s st :=
  ⟨hg.cell h.cb, hg.cell h.c1, hg.cell h.c2, (hg.froz (p := ⟨p1, 0, none⟩) (World.block_lt_of_cell? w _ h.c1)).trans h.f1, (hg.froz (p := ⟨p2, 0, none⟩) (World.block_lt_of_cell? w _ h.c2)).trans h.f2, h.nb1, h.nb2, h.n12⟩
theorem DAt.put1 {w : World} {pb p1 p2 : Nat} {s : Value} {st : Nat × Bool} (h : DAt w pb p1 p2 s st) (k : Nat) : DAt (w.setCell ⟨p1, 0, none⟩ (.int .i64 k)) pb p1 p2 s (k, st.2) := by
  refine ⟨?_, World.cell?_setCell_same _ _ _ h.c1, ?_, by rw [World.frozen?_setCell]; exact h.f1, by rw [World.frozen?_setCell]; exact h.f2, h.nb1, h.nb2, h.n12⟩
  · rw [World.cell?_setCell_other _ _ _ _ (fun e => h.nb1 (congrArg Addr.block e).symm)]; exact h.cb
  · rw [World.cell?_setCell_other _ _ _ _ (fun e => h.n12 (congrArg Addr.block e))]; exact h.c2
theorem DAt.put2 {w : World} {pb p1 p2 : Nat} {s : Value} {st : Nat × Bool} (h : DAt w pb p1 p2 s st) : DAt (w.setCell ⟨p2, 0, none⟩ (.bool true)) pb p1 p2 s (st.1, true) := by
  refine ⟨?_, ?_, World.cell?_setCell_same _ _ _ h.c2, by rw [World.frozen?_setCell]; exact h.f1, by rw [World.frozen?_setCell]; exact h.f2, h.nb1, h.nb2, h.n12⟩
  · rw [World.cell?_setCell_other _ _ _ _ (fun e => h.nb2 (congrArg Addr.block e).symm)]; exact h.cb
  · rw [World.cell?_setCell_other _ _ _ _ (fun e => h.n12 (congrArg Addr.block e).symm)]; exact h.c1
/-- One call of next. -/
def NxtPost (N : Nat × Nat × Bool) (pb p1 p2 : Nat) (s : Value) (w : World) (e : Ending) (w' : World) : Prop :=
  e = .returned (.int .i64 N.1) ∧ DAt w' pb p1 p2 s N.2 ∧ NB p1 p2 w w'
set_option maxHeartbeats 4000000 in
set_option maxRecDepth 100000 in
theorem next_any (b : List UInt8) (ba : Option Addr) (bc : Nat) (st : Nat × Bool) (pb p1 p2 : Nat) (w : World) (hk : st.1 ≤ b.length) (hb : b.length ≤ 1099511627776) (hat : AtCells w ba 1 (b.map byteC)) (hd : DAt w pb p1 p2 (.slice ba b.length bc) st) :
    Calls Tryz.prog 38 #[.pointer (some ⟨pb, 0, none⟩), .pointer (some ⟨p1, 0, none⟩), .pointer (some ⟨p2, 0, none⟩)] w (NxtPost (nxt b st) pb p1 p2 (.slice ba b.length bc) w) := by
  obtain ⟨k, t⟩ := st
  have CU := Lib.hid (uint_any b k ba bc w hk hb hat)
  have HD := Lib.hid hd
  have cb := hd.cb
  have c1 := hd.c1
  have c2 := hd.c2
  have f1 := hd.f1
  have f2 := hd.f2
  simp only at c1 c2
  clear hat hd
  cases hR : rdU (b.drop k) with
  | none =>
    have hn : nxt b (k, t) = (0, k, true) := by
      unfold nxt rdNum
      rw [hR]
    rw [hR] at CU
    rw [hn]
    unfold uintR at CU
    clear hR hn
    go_enter Tryz.func38, Tryz.ntmps38
    go_wp2_with fail
    refine CU.out.mono ?_
    rintro e w1 ⟨rfl, hg⟩
    have hd1 := HD.out.grows hg
    have d2 := hd1.c2
    have e2 := hd1.f2
    have HD1 := Lib.hid hd1
    simp only at d2
    clear hd1
    go_wp2_with fail
    go_ret
    exact ⟨rfl, HD1.out.put2, (NB.of hg).trans (NB.set (Or.inr rfl) _)⟩
  | some x =>
    obtain ⟨v, n⟩ := x
    rw [hR] at CU
    unfold uintR at CU
    obtain ⟨K, hK⟩ : ∃ K, K = k + n := ⟨_, rfl⟩
    simp only [← hK] at CU
    by_cases hv : v ≤ 1048576
    · have hn : nxt b (k, t) = (v, K, t) := by
        unfold nxt rdNum
        rw [hR, hK]
        simp only
        rw [if_pos hv]
      rw [hn]
      have hvi : ¬ (1048576 : Int) < v := by omega
      have wv : IntKind.i64.wrap (v : Int) = v := by simp [IntKind.wrap, IntKind.bits, IntKind.signed]; omega
      clear hR hn hK
      go_enter Tryz.func38, Tryz.ntmps38
      go_wp2_with fail
      refine CU.out.mono ?_
      rintro e w1 ⟨rfl, hg⟩
      have hd1 := HD.out.grows hg
      have d1 := hd1.c1
      have e1 := hd1.f1
      have HD1 := Lib.hid hd1
      simp only at d1
      clear hd1
      go_wp2_with fail
      go_ret
      exact ⟨rfl, HD1.out.put1 K, (NB.of hg).trans (NB.set (Or.inl rfl) _)⟩
    · have hn : nxt b (k, t) = (0, k, true) := by
        unfold nxt rdNum
        rw [hR]
        simp only
        rw [if_neg hv]
      rw [hn]
      have hvi : (1048576 : Int) < v := by omega
      clear hR hn hK
      go_enter Tryz.func38, Tryz.ntmps38
      go_wp2_with fail
      refine CU.out.mono ?_
      rintro e w1 ⟨rfl, hg⟩
      have hd1 := HD.out.grows hg
      have d2 := hd1.c2
      have e2 := hd1.f2
      have HD1 := Lib.hid hd1
      simp only at d2
      clear hd1
      go_wp2_with fail
      go_ret
      exact ⟨rfl, HD1.out.put2, (NB.of hg).trans (NB.set (Or.inr rfl) _)⟩
end Go.Proofs.YtcdjponbhpchbaaGreatDoor
namespace Go.Proofs.YtcdjponbhpchbaaGreatDoor
open Go Go.RowKit
attribute [local go_sem] quietE quietE2

/-- What Decode leaves. -/
def DecPost (R : Option Mx) (w : World) (e : Ending) (w' : World) : Prop :=
  (R = none → e = .returned (.tuple #[.pointer none, .int .i64 5])) ∧ (∀ m, R = some m → ∃ mb bm, e = .returned (.tuple #[.pointer (some ⟨mb, 0, none⟩), .int .i64 0]) ∧ MatAt w' mb bm m ∧ w.heap.size ≤ mb ∧ w.heap.size ≤ bm) ∧ Grows w w'
theorem DecPost.bad {w w' : World} (h : Grows w w') : DecPost none w (.returned (.tuple #[.pointer none, .int .i64 5])) w' := ⟨fun _ => rfl, fun _ h => (by cases h), h⟩
/-- The map of block bm alone turns. -/
def EG (bm : Nat) (w w' : World) : Prop := w.grownBy w' (some bm)
theorem EG.refl (bm : Nat) (w : World) : EG bm w w := ⟨rfl, rfl, rfl, Nat.le_refl _, fun _ _ _ => rfl⟩
theorem EG.trans (bm : Nat) (a b c : World) (h : EG bm a b) (k : EG bm b c) : EG bm a c := World.grownBy.andThen h k (fun _ hj => Or.inr hj)
instance (bm : Nat) (w : World) : Nonempty (Ext (EG bm) w) := ⟨⟨w, EG.refl _ _⟩⟩
theorem DAt.by {w w' : World} {pb p1 p2 bm N : Nat} {s : Value} {st : Nat × Bool} {D : DataW Unit} (h : DAt w pb p1 p2 s st) (ho : w.ownsMap Tryz.prog 59 (plainElem Tryz.prog 3) bm N D) (hg : w.grownBy w' (some bm)) : DAt w' pb p1 p2 s st := by
  have nm : ∀ {p : Addr} {v : Value}, w.cell? p = some v → p.block ≠ bm := fun {p v} hc e => by
    obtain ⟨es, clock, hb, _⟩ := ho
    rw [← e] at hb
    simp [World.cell?, hb] at hc
  have fz : ∀ {p : Addr} {v : Value}, w.cell? p = some v → w'.frozen? p = w.frozen? p := fun {p v} hc => by
    have hb := hg.block p.block (World.block_lt_of_cell? w _ hc) (fun e => nm hc (Option.some.inj e))
    unfold World.frozen?
    rw [hb]
  exact ⟨grownBy_cell hg h.cb (fun e => nm h.cb (Option.some.inj e)), grownBy_cell hg h.c1 (fun e => nm h.c1 (Option.some.inj e)), grownBy_cell hg h.c2 (fun e => nm h.c2 (Option.some.inj e)), (fz h.c1).trans h.f1, (fz h.c2).trans h.f2, h.nb1, h.nb2, h.n12⟩
/-- The boxes at the start. -/
theorem dat_start (w : World) (s : Value) : DAt (((w.alloc (.cells #[s] 40)).alloc (.cells #[.int .i64 0] 3)).alloc (.cells #[.bool false] 4)) w.heap.size (w.heap.size + 1) (w.heap.size + 1 + 1) s (0, false) := by
  have e1 : (w.alloc (.cells #[s] 40)).heap.size = w.heap.size + 1 := by simp
  have e2 : ((w.alloc (.cells #[s] 40)).alloc (.cells #[.int .i64 0] 3)).heap.size = w.heap.size + 1 + 1 := by simp
  have b0 := box_cells2 (w := w) (cs := #[s]) (t := 40) (w' := ((w.alloc (.cells #[s] 40)).alloc (.cells #[.int .i64 0] 3)).alloc (.cells #[.bool false] 4)) ((Grows.alloc _ _).al _)
  have b1 := box_cells2 (w := w.alloc (.cells #[s] 40)) (cs := #[.int .i64 0]) (t := 3) (w' := ((w.alloc (.cells #[s] 40)).alloc (.cells #[.int .i64 0] 3)).alloc (.cells #[.bool false] 4)) (Grows.alloc _ _)
  have b2 := box_cells2 (w := (w.alloc (.cells #[s] 40)).alloc (.cells #[.int .i64 0] 3)) (cs := #[.bool false]) (t := 4) (w' := ((w.alloc (.cells #[s] 40)).alloc (.cells #[.int .i64 0] 3)).alloc (.cells #[.bool false] 4)) (Grows.refl _)
  rw [e1] at b1
  rw [e2] at b2
  exact ⟨b0.1 0 _ rfl, b1.1 0 _ rfl, b2.1 0 _ rfl, b1.2 0, b2.2 0, by omega, by omega, by omega⟩
theorem nxt_le {b : List UInt8} {st : Nat × Bool} (h : st.1 ≤ b.length) : (nxt b st).2.1 ≤ b.length ∧ (nxt b st).1 ≤ 1048576 := by
  obtain ⟨k, t⟩ := st
  unfold nxt rdNum
  simp only
  cases hr : rdU (b.drop k) with
  | none => exact ⟨h, Nat.zero_le _⟩
  | some x =>
    obtain ⟨v, n⟩ := x
    simp only
    by_cases hv : v ≤ 1048576
    · rw [if_pos hv]
      obtain ⟨r, _, h2, h3⟩ := rdU_iff.1 hr
      have := congrArg List.length h2
      simp only [List.length_drop, List.length_append] at this
      exact ⟨by show k + n ≤ b.length; simp only at h; omega, hv⟩
    · rw [if_neg hv]
      exact ⟨h, Nat.zero_le _⟩
set_option maxHeartbeats 8000000 in
set_option maxRecDepth 100000 in
theorem decode_any (b : List UInt8) (ba : Option Addr) (bc : Nat) (w : World) (hb : b.length ≤ 1099511627776) (hat : AtCells w ba 1 (b.map byteC)) :
    Calls Tryz.prog 18 #[.slice ba b.length bc] w (DecPost (decM b) w) := by
  have hmf : ∀ (fn : Fn) (first cap : Array Value) (w : World), (Instr.makeFunc fn first cap).run Tryz.prog w = .ok (.func fn first cap) w := fun _ _ _ _ => rfl
  have HAT := Lib.hid hat
  have HBA : Hid (∀ q : Addr, ba = some q → b.map byteC ≠ [] → q.block < w.heap.size) := fun q hq hne => by
    have hne2 : b ≠ [] := fun e => hne (by rw [e]; rfl)
    obtain ⟨x, hx⟩ : ∃ x, b[0]? = some x := ⟨_, List.getElem?_eq_getElem (List.length_pos_iff.2 hne2)⟩
    obtain ⟨bb, bo, e, hbc⟩ := hat.get hne2
    rw [e] at hq
    cases hq
    exact World.block_lt_of_cell? _ _ (hbc 0 x hx 0 _ rfl)
  clear hat
  obtain ⟨R, hR⟩ : ∃ R, R = decM b := ⟨_, rfl⟩
  have HR := Lib.hid hR
  rw [← hR]
  clear hR
  go_enter Tryz.func18, Tryz.ntmps18
  go_wp2_with fail
  have hd0 := dat_start w (.slice ba b.length bc)
  have hgW : Grows w (((w.alloc (.cells #[Value.slice ba b.length bc] 40)).alloc (.cells #[Value.int .i64 0] 3)).alloc (.cells #[Value.bool false] 4)) := ((Grows.alloc _ _).al _).al _
  generalize (((w.alloc (.cells #[Value.slice ba b.length bc] 40)).alloc (.cells #[Value.int .i64 0] 3)).alloc (.cells #[Value.bool false] 4)) = W0 at *
  have HD0 := Lib.hid hd0
  clear hd0
  have CN := fun (st : Nat × Bool) W (hg : Grows w W) (hk : st.1 ≤ b.length) (hd : DAt W w.heap.size (w.heap.size + 1) (w.heap.size + 1 + 1) (.slice ba b.length bc) st) => Lib.hid (next_any b ba bc st _ _ _ W hk hb (HAT.out.grows hg) hd)
  have C1 := fun W (hg : Grows w W) (hd : DAt W w.heap.size (w.heap.size + 1) (w.heap.size + 1 + 1) (.slice ba b.length bc) (0, false)) => Lib.hid (show Calls _ _ _ W (NxtPost (hdN b) _ _ _ _ W) from (CN (0, false) W hg (Nat.zero_le _) hd).out)
  have bX : (hdN b).2.1 ≤ b.length ∧ (hdN b).1 ≤ 1048576 := nxt_le (st := (0, false)) (Nat.zero_le _)
  have C2 := fun W (hg : Grows w W) (hd : DAt W w.heap.size (w.heap.size + 1) (w.heap.size + 1 + 1) (.slice ba b.length bc) (hdN b).2) => Lib.hid (show Calls _ _ _ W (NxtPost (hdD b) _ _ _ _ W) from (CN (hdN b).2 W hg bX.1 hd).out)
  have bY : (hdD b).2.1 ≤ b.length ∧ (hdD b).1 ≤ 1048576 := nxt_le (st := (hdN b).2) bX.1
  have C3 := fun W (hg : Grows w W) (hd : DAt W w.heap.size (w.heap.size + 1) (w.heap.size + 1 + 1) (.slice ba b.length bc) (hdD b).2) => Lib.hid (show Calls _ _ _ W (NxtPost (hdQ b) _ _ _ _ W) from (CN (hdD b).2 W hg bY.1 hd).out)
  have bZ : (hdQ b).2.1 ≤ b.length ∧ (hdQ b).1 ≤ 1048576 := nxt_le (st := (hdD b).2) bY.1
  have HR2 : Hid (R = if newB (hdN b).1 (hdD b).1 = true ∧ (hdQ b).2.2 = false then decLoop b (hdQ b).1 (newM (hdN b).1 (hdD b).1) 0 (hdQ b).2 else none) := HR.out
  clear HR
  generalize hdN b = X at *
  generalize hdD b = Y at *
  generalize hdQ b = Z at *
  obtain ⟨x, sx⟩ := X
  obtain ⟨y, sy⟩ := Y
  obtain ⟨z, kz, tz⟩ := Z
  simp only at HR2 bX bY bZ C1 C2 C3
  unfold NxtPost at C1 C2 C3
  simp only at C1 C2 C3
  have nbg : ∀ {W W' : World}, Grows w W → NB (w.heap.size + 1) (w.heap.size + 1 + 1) W W' → Grows w W' := fun h1 h2 => NB.grows h1 h2 (by omega) (by omega)
  refine (C1 W0 hgW HD0.out).out.mono ?_
  rintro e w1 ⟨rfl, hd1, hn1⟩
  have hg1 := nbg hgW hn1
  have HD1 := Lib.hid hd1
  clear hd1 hn1
  go_wp2_with fail
  refine (C2 w1 hg1 HD1.out).out.mono ?_
  rintro e w2 ⟨rfl, hd2, hn2⟩
  have hg2 := nbg hg1 hn2
  have HD2 := Lib.hid hd2
  clear hd2 hn2
  go_wp2_with fail
  refine (C3 w2 hg2 HD2.out).out.mono ?_
  rintro e w3 ⟨rfl, hd3, hn3⟩
  have hg3 := nbg hg2 hn3
  have HD3 := Lib.hid hd3
  have hp3 := World.block_lt_of_cell? w3 _ hd3.c2
  simp only at hp3
  clear hd3 hn3 C1 C2 C3 HD0 HD1 HD2 hg1 hg2 hgW
  cases hnb : newB (x : Int) (y : Int)
  · have hfin : R = none := by rw [HR2.out, hnb]; rfl
    subst hfin
    have CB := Lib.hid (new_bad (x : Int) (y : Int) w3 hnb)
    clear HR2 CN hnb
    go_wp2_with fail
    refine CB.out.mono ?_
    rintro e w4 ⟨rfl, rfl⟩
    have d2 := HD3.out.c2
    simp only at d2
    cases tz
    · go_wp2_with fail
      go_ret2
      exact DecPost.bad hg3
    · go_wp2_with fail
      go_ret2
      exact DecPost.bad hg3
  · have CA := Lib.hid (new_any (x : Int) (y : Int) w3 hnb)
    obtain ⟨hx1, hx2, hy1, hy2⟩ := newB_iff.1 hnb
    cases tz
    · have HR3 : Hid (R = decLoop b z (newM (x : Int) (y : Int)) 0 (kz, false)) := by
        have h1 := HR2.out
        rw [if_pos ⟨hnb, rfl⟩] at h1
        exact h1
      obtain ⟨NN, hNN⟩ : ∃ NN, NN = x * x := ⟨_, rfl⟩
      have hnn : x * x ≤ 4096 := Nat.mul_le_mul (by omega : x ≤ 64) (by omega : x ≤ 64)
      have wNN : IntKind.i64.wrap ((x : Int) * x) = NN := by
        rw [show ((x : Int) * x) = ((x * x : Nat) : Int) by push_cast; rfl, ← hNN]
        simp [IntKind.wrap, IntKind.bits, IntKind.signed]; omega
      have hNb : NN ≤ 4096 := by omega
      have HNN := Lib.hid hNN
      clear HR2 hnb hNN hnn
      go_wp2_with fail
      refine CA.out.mono ?_
      rintro e w4 ⟨rfl, hm4, hg4⟩
      have hg04 := hg3.tr hg4
      have hd4 := HD3.out.grows hg4
      have d2 := hd4.c2
      simp only at d2
      have HD4 := Lib.hid hd4
      have HM4 := Lib.hid hm4
      clear hd4 hm4 CA HD3
      have hs3 := hg3.size
      obtain ⟨bm, hbm⟩ : ∃ bm, bm = w3.heap.size := ⟨_, rfl⟩
      rw [← hbm] at HM4 hp3 hs3 ⊢
      clear hbm
      go_wp2_with fail
      go_loopw [12, 34] (fun i c wr => ∃ (q j k : Nat) (m : Mx), q ≤ z ∧ c = .int .i64 q ∧ i = .int .i64 ((j : Int) - 1) ∧ j ≤ 4096 ∧ k ≤ b.length ∧ Hid (MatAt wr (bm + 1) bm m ∧ m.n = x ∧ m.d = y) ∧ Hid (DAt wr w.heap.size (w.heap.size + 1) (w.heap.size + 1 + 1) (.slice ba b.length bc) (k, false)) ∧ Hid (R = decLoop b (z - q) m j (k, false)) ∧ Grows w wr) (fun _ c _ => z - (intOf c).toNat)
      case atStart => exact ⟨0, 0, kz, newM (x : Int) (y : Int), Nat.zero_le _, rfl, rfl, by omega, bZ.1, ⟨HM4.out, rfl, rfl⟩, HD4.out, HR3.out, hg04⟩
      case round =>
        obtain ⟨q, j, k, m, hq, rfl, rfl, hj, hk, hM, hD, hRq, hg⟩ := hrel
        by_cases hlt : q < z
        · have hqz : (q : Int) < z := by omega
          have bU := nxt_le (b := b) (st := (k, false)) hk
          have bV := nxt_le (b := b) (st := (nxt b (k, false)).2) bU.1
          have CU := CN (k, false) wr hg hk hD.out
          have CV := fun W (hg : Grows w W) hd => CN (nxt b (k, false)).2 W hg bU.1 hd
          have hR2 := hRq.out
          rw [show z - q = (z - (q + 1)) + 1 by omega] at hR2
          simp only [decLoop] at hR2
          have hset := fun (i : Nat) (hi : i < m.n * m.n) => hM.out.1.ok
          generalize nxt b (k, false) = U at *
          generalize nxt b U.2 = V at *
          obtain ⟨u, su⟩ := U
          obtain ⟨v, kv, tv⟩ := V
          unfold NxtPost at CU CV
          simp only at bU bV CU CV hR2
          have HR2 := Lib.hid hR2
          have wI : IntKind.i64.wrap ((j : Int) - 1 + u) = (j : Int) - 1 + u := by simp only [IntKind.wrap, IntKind.bits, IntKind.signed]; simp; omega
          clear hR2 hRq hset
          go_wp2_with fail
          refine CU.out.mono ?_
          rintro e w6 ⟨rfl, hd6, hn6⟩
          have hg6 := nbg hg hn6
          have HM6 : Hid (MatAt w6 (bm + 1) bm m) := hM.out.1.nb hn6 (by omega) (by omega) (by omega) (by omega)
          have HD6 := Lib.hid hd6
          clear hd6 hn6 CU
          go_wp2_with fail
          refine (CV w6 hg6 HD6.out).out.mono ?_
          rintro e w7 ⟨rfl, hd7, hn7⟩
          have hg7 := nbg hg6 hn7
          have HM7 : Hid (MatAt w7 (bm + 1) bm m) := HM6.out.nb hn7 (by omega) (by omega) (by omega) (by omega)
          have d2 := hd7.c2
          simp only at d2
          have HD7 := Lib.hid hd7
          clear hd7 hn7 CV HD6 HM6 hg6
          cases tv
          · have hR3 : R = if u = 0 ∨ (v : Int) = m.d ∨ m.n * m.n ≤ j + u - 1 ∨ isC (v : Int) = false then none else decLoop b (z - (q + 1)) (m.set (pairAt m.n (j + u - 1)) v) (j + u) (kv, false) := by
              rw [HR2.out]
              simp only [Bool.false_eq_true, false_or]
            have hmn := hM.out.2.1
            have hmd := hM.out.2.2
            rw [hmn, hmd, ← HNN.out] at hR3
            clear HR2 hM hD CN
            by_cases hu : u = 0
            · have hfin : R = none := by rw [hR3, if_pos (Or.inl hu)]
              subst hfin
              have hui : (u : Int) = 0 := by omega
              have z2 : ∀ q : Ext Grows w7.drew, q.u.cell? ⟨w.heap.size + 1 + 1, 0, none⟩ = some (.bool false) := ext_cell ((Grows.drew _).cell d2)
              clear hR3
              go_wp2_with fail
              refine t_region (Grows) [(0, false), (1, false), (2, false), (3, false), (4, false), (5, false), (6, false), (7, false), (8, false), (9, false), (10, false), (11, false), (12, false), (13, false), (14, false), (15, false), (16, false), (17, false), (18, false), (19, false), (20, false), (21, false), (22, false), (23, false), (24, false), (25, false), (26, false), (27, false), (28, false)] Grows.refl Grows.trans (by kernel_rfl) (by kernel_rfl) (fun d _ _ _ _ h => by cases d <;> exact h) ?_
              iterate 29 (refine t_quiet rfl (fun K hK => ?_); go_simp; refine hK _ ?_; clear hK K)
              refine t_end ?_
              clear z2
              go_wp2_with fail
              go_ret2
              exact DecPost.bad hg7.dr
            · have hui : ¬ (u : Int) = 0 := by omega
              obtain ⟨I, hI⟩ : ∃ I : Nat, (j : Int) - 1 + u = I := ⟨j + u - 1, by omega⟩
              have hIj : I = j + u - 1 := by omega
              have wI2 : IntKind.i64.wrap ((j : Int) - 1 + u) = I := by rw [wI, hI]
              have HIJ := Lib.hid hIj
              rw [← hIj] at hR3
              clear wI hI hIj
              by_cases hv : (v : Int) = y
              · have hfin : R = none := by rw [hR3, if_pos (Or.inr (Or.inl hv))]
                subst hfin
                have z2 : ∀ q : Ext Grows w7.drew, q.u.cell? ⟨w.heap.size + 1 + 1, 0, none⟩ = some (.bool false) := ext_cell ((Grows.drew _).cell d2)
                have hvb : ((v : Int) == (y : Int)) = true := by rw [beq_iff_eq]; exact hv
                clear hR3 hv
                go_wp2_with fail
                refine t_region (Grows) [(0, false), (1, false), (2, false), (3, false), (4, false), (5, false), (6, false), (7, false), (8, false), (9, false), (10, false), (11, false), (12, false), (13, false), (14, false), (15, false), (16, false), (17, false), (18, false), (19, false), (20, false), (21, false), (22, false), (23, false), (24, false), (25, false), (26, false), (27, false), (28, false)] Grows.refl Grows.trans (by kernel_rfl) (by kernel_rfl) (fun d _ _ _ _ h => by cases d <;> exact h) ?_
                iterate 29 (refine t_quiet rfl (fun K hK => ?_); go_simp; refine hK _ ?_; clear hK K)
                refine t_end ?_
                clear z2
                go_wp2_with fail
                go_ret2
                exact DecPost.bad hg7.dr
              · have hvb : ((v : Int) == (y : Int)) = false := by rw [beq_eq_false_iff_ne]; exact hv
                by_cases hNI : NN ≤ I
                · have hfin : R = none := by rw [hR3, if_pos (Or.inr (Or.inr (Or.inl hNI)))]
                  subst hfin
                  have z2 : ∀ q : Ext Grows w7.drew, q.u.cell? ⟨w.heap.size + 1 + 1, 0, none⟩ = some (.bool false) := ext_cell ((Grows.drew _).cell d2)
                  have hNi : (NN : Int) ≤ I := by omega
                  clear hR3 hv
                  go_wp2_with fail
                  refine t_region (Grows) [(0, false), (1, false), (2, false), (3, false), (4, false), (5, false), (6, false), (7, false), (8, false), (9, false), (10, false), (11, false), (12, false), (13, false), (14, false), (15, false), (16, false), (17, false), (18, false), (19, false), (20, false), (21, false), (22, false), (23, false), (24, false), (25, false), (26, false), (27, false), (28, false)] Grows.refl Grows.trans (by kernel_rfl) (by kernel_rfl) (fun d _ _ _ _ h => by cases d <;> exact h) ?_
                  iterate 29 (refine t_quiet rfl (fun K hK => ?_); go_simp; refine hK _ ?_; clear hK K)
                  refine t_end ?_
                  clear z2
                  go_wp2_with fail
                  go_ret2
                  exact DecPost.bad hg7.dr
                · have hNi : ¬ (NN : Int) ≤ I := by omega
                  have hIn : I < m.n * m.n := by rw [hmn, ← HNN.out]; omega
                  obtain ⟨r, hr⟩ : ∃ r : Nat, r = I / x := ⟨_, rfl⟩
                  obtain ⟨l, hl⟩ : ∃ l : Nat, l = I % x := ⟨_, rfl⟩
                  have hpair : pairAt m.n I = ((r : Int), (l : Int)) := by rw [hmn, hr, hl]; rfl
                  have hin : inP m.n ((r : Int), (l : Int)) = true := by rw [← hpair]; exact (pairAt_in hIn).1
                  have hx0 : ¬ (x : Int) = 0 := by omega
                  have hx0n : ¬ x = 0 := by omega
                  have hrI : r ≤ I := by rw [hr]; exact Nat.div_le_self _ _
                  have hlI : l ≤ I := by rw [hl]; exact Nat.mod_le _ _
                  have wr2 : IntKind.i64.wrap (r : Int) = r := by simp only [IntKind.wrap, IntKind.bits, IntKind.signed]; simp; omega
                  have wl2 : IntKind.i64.wrap (l : Int) = l := by simp only [IntKind.wrap, IntKind.bits, IntKind.signed]; simp; omega
                  have hdv : (I : Int) / x = r := by rw [hr]; simp
                  have hdt : (I : Int).tdiv x = r := by rw [hr]; rfl
                  have hme : (I : Int) % x = l := by rw [hl]; simp
                  have hmt : (I : Int).tmod x = l := by rw [hl, Int.ofNat_tmod]
                  have CS := set_any w7.drew (bm + 1) bm m (HM7.out.grows (Grows.drew _)) (r : Int) (l : Int) (v : Int) (by unfold WfI; exact WalkArith.wf_i64 (by omega))
                  unfold SetPost at CS
                  have hsb : m.setB ((r : Int), (l : Int)) v = isC (v : Int) := by unfold Mx.setB; rw [hin]; rfl
                  rw [hsb] at CS
                  have z2 : ∀ q : Ext (EG bm) w7.drew, q.u.cell? ⟨w.heap.size + 1 + 1, 0, none⟩ = some (.bool false) := fun q => by
                    obtain ⟨D, ho, _⟩ := (HM7.out.grows (Grows.drew _)).own
                    have hh : w7.drew.cell? ⟨w.heap.size + 1 + 1, 0, none⟩ = some (.bool false) := d2
                    refine grownBy_cell q.h hh (fun e => ?_)
                    have e := Option.some.inj e
                    obtain ⟨es, clock, hb2, _⟩ := ho
                    rw [← e] at hb2
                    simp [World.cell?, hb2] at hh
                  cases hC : isC (v : Int)
                  · have hfin : R = none := by rw [hR3, if_pos (Or.inr (Or.inr (Or.inr hC)))]
                    subst hfin
                    rw [hC] at CS
                    have CS2 := Lib.hid CS
                    clear hR3 hv hr hl hpair hin hsb hC CS hIn
                    go_wp2_with fail
                    refine t_region (EG bm) [(0, false), (1, false), (2, false), (3, false), (4, false), (5, false), (6, false), (7, false), (8, false), (9, false), (10, false), (11, false), (12, false), (13, false), (14, false), (15, false), (16, false), (17, false), (18, false), (19, false), (20, false), (21, false), (22, false), (23, false), (24, false), (25, false), (26, true), (27, false), (28, false)] (EG.refl bm) (EG.trans bm) (by kernel_rfl) (by kernel_rfl) (fun d _ _ _ _ h => by cases d <;> exact h) ?_
                    iterate 26 (refine t_quiet rfl (fun K hK => ?_); go_simp; refine hK _ ?_; clear hK K)
                    refine t_late rfl (by first | rfl | (go_simp; done) | (simp [go_sem, Region.wanted, yielded]; done)) (fun K hK => ?_)
                    go_simp
                    refine CS2.out.mono ?_
                    rintro e w9 ⟨rfl, hm9, hgb9⟩
                    refine ⟨hgb9, hK _ _ ?_⟩
                    clear hK K
                    iterate 2 (refine t_quiet rfl (fun K hK => ?_); go_simp; refine hK _ ?_; clear hK K)
                    refine t_end ?_
                    clear z2
                    go_wp2_with fail
                    go_ret2
                    exact DecPost.bad (hg7.dr.grown hgb9 (fun q hq => by cases hq; omega))
                  · rw [if_neg (fun h => by
                      rcases h with h | h | h | h
                      · exact hu h
                      · exact hv h
                      · exact hNI h
                      · rw [hC] at h; cases h)] at hR3
                    rw [hC] at CS
                    have hset : m.setIf ((r : Int), (l : Int)) v = m.set (pairAt x I) v := by
                      rw [setIf_yes (hsb.trans hC), ← hmn, hpair]
                    rw [hset] at CS
                    have CS2 := Lib.hid CS
                    have HR3 := Lib.hid hR3
                    have hmn2 : Hid ((m.set (pairAt x I) v).n = x ∧ (m.set (pairAt x I) v).d = y) := ⟨hmn, hmd⟩
                    have hIb : I < NN := by omega
                    clear hR3 hv hr hl hpair hin hsb hC CS hIn hset hmn hmd
                    go_wp2_with fail
                    refine t_region (EG bm) [(0, false), (1, false), (2, false), (3, false), (4, false), (5, false), (6, false), (7, false), (8, false), (9, false), (10, false), (11, false), (12, false), (13, false), (14, false), (15, false), (16, false), (17, false), (18, false), (19, false), (20, false), (21, false), (22, false), (23, false), (24, false), (25, false), (26, true), (27, false), (28, false)] (EG.refl bm) (EG.trans bm) (by kernel_rfl) (by kernel_rfl) (fun d _ _ _ _ h => by cases d <;> exact h) ?_
                    iterate 26 (refine t_quiet rfl (fun K hK => ?_); go_simp; refine hK _ ?_; clear hK K)
                    refine t_late rfl (by first | rfl | (go_simp; done) | (simp [go_sem, Region.wanted, yielded]; done)) (fun K hK => ?_)
                    go_simp
                    refine CS2.out.mono ?_
                    rintro e w9 ⟨rfl, hm9, hgb9⟩
                    refine ⟨hgb9, hK _ _ ?_⟩
                    clear hK K
                    iterate 2 (refine t_quiet rfl (fun K hK => ?_); go_simp; refine hK _ ?_; clear hK K)
                    refine t_end ?_
                    clear z2
                    have hg9 := hg7.dr.grown hgb9 (fun q hq => by cases hq; omega)
                    have HD9 : Hid (DAt w9 w.heap.size (w.heap.size + 1) (w.heap.size + 1 + 1) (.slice ba b.length bc) (kv, false)) := by
                      obtain ⟨D, ho, _⟩ := (HM7.out.grows (Grows.drew _)).own
                      exact (HD7.out.grows (Grows.drew _)).by ho hgb9
                    have HM9 := Lib.hid hm9
                    clear hm9 HM7 HD7 hgb9 CS2
                    go_wp2_with fail
                    go_roundw
                    case rel => exact ⟨q + 1, j + u, kv, _, hlt, by go_num, by first | (congr 1; have := HIJ.out; push_cast; omega) | (have := HIJ.out; go_num), by have := HIJ.out; omega, bV.1, ⟨HM9.out, hmn2.out.1, hmn2.out.2⟩, HD9.out, HR3.out, hg9⟩
                    case measure => simp [intOf]; omega
          · have hfin : R = none := by
              have h1 := HR2.out
              rw [if_pos (Or.inl rfl)] at h1
              exact h1
            subst hfin
            have z2 : ∀ q : Ext Grows w7.drew, q.u.cell? ⟨w.heap.size + 1 + 1, 0, none⟩ = some (.bool true) := ext_cell ((Grows.drew _).cell d2)
            clear HR2 hM hD CN
            go_wp2_with fail
            refine t_region (Grows) [(0, false), (1, false), (2, false), (3, false), (4, false), (5, false), (6, false), (7, false), (8, false), (9, false), (10, false), (11, false), (12, false), (13, false), (14, false), (15, false), (16, false), (17, false), (18, false), (19, false), (20, false), (21, false), (22, false), (23, false), (24, false), (25, false), (26, false), (27, false), (28, false)] Grows.refl Grows.trans (by kernel_rfl) (by kernel_rfl) (fun d _ _ _ _ h => by cases d <;> exact h) ?_
            iterate 29 (refine t_quiet rfl (fun K hK => ?_); go_simp; refine hK _ ?_; clear hK K)
            refine t_end ?_
            clear z2
            go_wp2_with fail
            go_ret2
            exact DecPost.bad hg7.dr
        · obtain rfl : q = z := by omega
          have hR2 := hRq.out
          rw [Nat.sub_self] at hR2
          simp only [decLoop] at hR2
          have hd := hD.out
          have d1 := hd.c1
          have db := hd.cb
          simp only at d1
          have HR2 := Lib.hid hR2
          clear hR2 hRq hd CN
          by_cases hkl : k = b.length
          · have hfin : R = some m := by
              have h1 := HR2.out
              rw [if_pos hkl] at h1
              exact h1
            subst hfin
            subst hkl
            clear HR2 hD
            go_wp2_with fail
            go_ret2
            exact ⟨fun h => (by cases h), fun m' h => (by cases h; exact ⟨bm + 1, bm, rfl, hM.out.1, by omega, by omega⟩), hg⟩
          · have hfin : R = none := by
              have h1 := HR2.out
              rw [if_neg hkl] at h1
              exact h1
            subst hfin
            have hki : ((k : Int) == (b.length : Int)) = false := by rw [beq_eq_false_iff_ne]; omega
            clear HR2 hD hM
            go_wp2_with fail
            go_ret2
            exact DecPost.bad hg
    · have hfin : R = none := by rw [HR2.out, if_neg (fun h => by cases h.2)]
      subst hfin
      clear HR2 CN hnb
      go_wp2_with fail
      refine CA.out.mono ?_
      rintro e w4 ⟨rfl, hm4, hg4⟩
      have d2 := (HD3.out.grows hg4).c2
      simp only at d2
      clear hm4 CA
      go_wp2_with fail
      go_ret2
      exact DecPost.bad (hg3.tr hg4)
end Go.Proofs.YtcdjponbhpchbaaGreatDoor
