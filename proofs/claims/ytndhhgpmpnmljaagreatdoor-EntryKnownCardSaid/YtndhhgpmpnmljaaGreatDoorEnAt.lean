import Derived.Test.YtndhhgpmpnmljaaGreatDoorKnown3
import Derived.Test.YtndhhgpmpnmljaaGreatDoorOrdF
import Derived.Test.YtndhhgpmpnmljaaGreatDoorLawB
import Derived.Test.YtndhhgpmpnmljaaGreatDoorPrint
import Derived.OneCell
import Derived.OwnWalk
import Derived.Laws.OwnMore
import Derived.Test.YtndhhgpmpnmljaaGreatDoorBytes
namespace Go.Proofs.YtndhhgpmpnmljaaGreatDoor
open Go Go.RowKit Go.Shelf

/-- An entry lies in a block of its own. -/
structure EnAt (w : World) (b : Nat) (x : En) : Prop where
  c : ∀ j u, (enCells x)[j]? = some u → w.cell? ⟨b, j, none⟩ = some u
  f : ∀ j, w.frozen? ⟨b, j, none⟩ = false
theorem EnAt.lt {w : World} {b : Nat} {x : En} (h : EnAt w b x) : b < w.heap.size := World.block_lt_of_cell? w _ (h.c 0 _ rfl)
theorem EnAt.grows {w w' : World} {b : Nat} {x : En} (h : EnAt w b x) (hg : Grows w w') : EnAt w' b x :=
  ⟨fun j u hu => hg.cell (h.c j u hu), fun j => (hg.froz (p := ⟨b, j, none⟩) h.lt).trans (h.f j)⟩
theorem EnAt.box (w : World) (x : En) (t : TypeId) : EnAt (w.alloc (.cells (enCells x).toArray t)) w.heap.size x :=
  ⟨fun j u hu => cell_box w _ t (0, 0) j u (by simpa using hu), fun j => frozen_of_row _ _ _ _ _ (heap_alloc_new w _)⟩
theorem EnAt.other {w : World} {b b' : Nat} {x : En} (h : EnAt w b x) (hne : b' ≠ b) (j : Nat) (v : Value) : EnAt (w.setCell ⟨b', j, none⟩ v) b x :=
  ⟨fun i u hu => by rw [World.cell?_setCell_other _ _ _ _ (fun e => hne (congrArg Addr.block e))]; exact h.c i u hu, fun i => by rw [World.frozen?_setCell]; exact h.f i⟩
theorem EnAt.put {w : World} {b : Nat} {x y : En} (h : EnAt w b x) (j : Nat) (v : Value) (hj : j < 5) (hy : enCells y = (enCells x).set j v) : EnAt (w.setCell ⟨b, j, none⟩ v) b y := by
  refine ⟨fun i u hu => ?_, fun i => by rw [World.frozen?_setCell]; exact h.f i⟩
  rw [hy, List.getElem?_set] at hu
  by_cases e : j = i
  · subst e
    rw [if_pos rfl, if_pos (by exact hj)] at hu
    obtain rfl := Option.some.inj hu
    obtain ⟨u0, hu0⟩ : ∃ u0, (enCells x)[j]? = some u0 := ⟨_, List.getElem?_eq_getElem (show j < (enCells x).length from hj)⟩
    exact World.cell?_setCell_same _ _ _ (h.c j u0 hu0)
  · rw [if_neg e] at hu
    rw [World.cell?_setCell_other _ _ _ _ (fun e2 => e (congrArg Addr.off e2))]
    exact h.c i u hu
/-- All five cells are laid anew. -/
theorem EnAt.all {w : World} {b : Nat} {x y : En} (h : EnAt w b x) : EnAt (((((w.setCell ⟨b, 0, none⟩ (.string y.r)).setCell ⟨b, 1, none⟩ (.string y.s)).setCell ⟨b, 2, none⟩ (.int .i64 y.l)).setCell ⟨b, 3, none⟩ (.int .i64 y.t)).setCell ⟨b, 4, none⟩ (.int .i64 y.c)) b y := by
  have h1 := h.put (y := ⟨y.r, x.s, x.l, x.t, x.c⟩) 0 (.string y.r) (by decide) rfl
  have h2 := h1.put (y := ⟨y.r, y.s, x.l, x.t, x.c⟩) 1 (.string y.s) (by decide) rfl
  have h3 := h2.put (y := ⟨y.r, y.s, y.l, x.t, x.c⟩) 2 (.int .i64 y.l) (by decide) rfl
  have h4 := h3.put (y := ⟨y.r, y.s, y.l, y.t, x.c⟩) 3 (.int .i64 y.t) (by decide) rfl
  exact h4.put (y := y) 4 (.int .i64 y.c) (by decide) rfl
theorem EB.set5 {B : Nat} {w : World} {b : Nat} (hb : B ≤ b) (v0 v1 v2 v3 v4 : Value) : EB B w (((((w.setCell ⟨b, 0, none⟩ v0).setCell ⟨b, 1, none⟩ v1).setCell ⟨b, 2, none⟩ v2).setCell ⟨b, 3, none⟩ v3).setCell ⟨b, 4, none⟩ v4) := by
  refine ⟨?_, by simp⟩
  exact ((((((Below.refl B w).setCell hb v0).setCell hb v1).setCell hb v2).setCell hb v3).setCell hb v4)
theorem EnAt.other5 {w : World} {b b' : Nat} {x : En} (h : EnAt w b x) (hne : b' ≠ b) (v0 v1 v2 v3 v4 : Value) : EnAt (((((w.setCell ⟨b', 0, none⟩ v0).setCell ⟨b', 1, none⟩ v1).setCell ⟨b', 2, none⟩ v2).setCell ⟨b', 3, none⟩ v3).setCell ⟨b', 4, none⟩ v4) b x :=
  ((((h.other hne 0 v0).other hne 1 v1).other hne 2 v2).other hne 3 v3).other hne 4 v4
def kX : En := ⟨kaB, kaK, 1, 1, 30001⟩
def kY : En := ⟨⟨#[227, 130, 171]⟩, kaK, 1, 1, 30001⟩
def kZ (s : ByteArray) : En := ⟨kaB, s, 1, 1, 0⟩
theorem ck {r s : ByteArray} {l t c n k : Int} (h : checkS r s l t c n = k) (hr : r.size < 9223372036854775807) (hs : s.size < 9223372036854775807) (W : World) (he : Env W) :
    Calls Tryz.prog 31 #[.agg #[.string r, .string s, .int .i64 l, .int .i64 t, .int .i64 c], .int .i64 n] W fun e w' => e = .returned (.int .i64 k) ∧ Grows W w' := h ▸ echeck_any r s l t c n W hr hs he
theorem parse_is {text : ByteArray} {L : List PosV} {n e : Int} (h : parseS text L = ([], n, e)) (hs : text.size < 9223372036854775807) (la : Option Addr) (k cap : Nat) (hk : L.length = k) (hl : k ≤ 64) (W : World) (he : Env W) (hat : AtCells W la 2 (L.map posCells)) :
    Calls Tryz.prog 33 #[.string text, .slice la k cap] W fun e' w' => ∃ a c, e' = .returned (.tuple #[.slice a 0 c, .int .i64 n, .int .i64 e]) ∧ Grows W w' := by
  subst hk
  have h2 := parse_any text L la cap W hs (by omega) he hat
  rw [h] at h2
  refine h2.mono fun e' w' hp => ?_
  obtain ⟨v, he', hown, hg⟩ := hp
  subst he'
  obtain ⟨a, c, rfl, _, _, _⟩ := ownsRow_at (enc := enCells) enCells_len hown
  exact ⟨a, c, rfl, hg⟩
theorem print_zero (W : World) (he : Env W) (n : Nat) (hn : n = W.heap.size) : Calls Tryz.prog 35 #[.slice (some ⟨n, 0, none⟩) 1 1, .slice none 0 0] (W.alloc (.cells #[.string ⟨#[]⟩, .string ⟨#[]⟩, .int .i64 0, .int .i64 0, .int .i64 0] 54)) fun e w' => e = .returned (.tuple #[.string ⟨#[]⟩, .int .i64 5]) ∧ Grows W w' := by
  have h := print_any [enZero] [] (some ⟨n, 0, none⟩) none 1 0 (W.alloc (.cells #[.string ⟨#[]⟩, .string ⟨#[]⟩, .int .i64 0, .int .i64 0, .int .i64 0] 54)) (by decide) (by decide) (he.grows (Grows.alloc _ _)) (fun x hx => by
    obtain rfl := List.mem_singleton.1 hx
    exact ⟨by decide, by decide⟩) (box_rows enCells_len [enZero] W _ _ rfl n hn) (AtCells.nil _ _ _)
  rw [show printS [enZero] [] = ([], 5) from ev_printz] at h
  exact h.mono fun e w' ⟨h1, h2⟩ => ⟨h1, (Grows.alloc _ _).tr h2⟩
theorem same_two (pa pb : Option Addr) (ca cb : Nat) (W : World) (ha : AtCells W pa 5 ([kB2, kC].map enCells)) (hb : AtCells W pb 5 ([kB2, kC].map enCells)) :
    Calls Tryz.prog 26 #[.slice pa 2 ca, .slice pb 2 cb] W fun e w' => e = .returned (.bool true) ∧ Grows W w' := same_self2 [kB2, kC] pa pb ca cb W (by decide) ha hb
theorem sort_at (la : Option Addr) (W : World) (hat : AtCells W la 5 ([kA, kC, kB2].map enCells)) :
    Calls Tryz.prog 25 #[.slice la 3 3] W fun e w' => ∃ a c, e = .returned (.slice a 2 c) ∧ AtCells w' a 5 ([kB2, kC].map enCells) ∧ Grows W w' := by
  refine (sort_three la W hat).mono fun e w' h => ?_
  obtain ⟨v, he, hown, hg⟩ := h
  subst he
  obtain ⟨a, c, rfl, _, _, hat2⟩ := hown.at_ enCells_len
  exact ⟨a, c, rfl, hat2, hg⟩
theorem owns_zeros {w : World} {base n : Nat} {v : Value} (h : w.ownsRow base 5 1 v n (madeCells #[.int .u8 0] (n * 1)).toList) : Owns w base 5 1 byteC v (List.replicate n (0 : UInt8)) := by
  unfold Owns
  rw [List.length_replicate]
  have e : (List.replicate n (0 : UInt8)).flatMap byteC = (madeCells #[.int .u8 0] (n * 1)).toList := by
    rw [toList_madeCells_one, Nat.mul_one, flat_bytes, List.map_replicate]
    rfl
  rw [e]
  exact h
/-- A byte is laid anew. -/
theorem owns_byte {w : World} {base g n c k : Nat} {xs : List UInt8} (h : Owns w base 5 1 byteC (.slice (some ⟨g, 0, none⟩) n c) xs) (hk : k < xs.length) (b : UInt8) :
    (∃ u, w.cell? ⟨g, k, none⟩ = some u) ∧ w.frozen? ⟨g, k, none⟩ = false ∧ base ≤ g ∧ Owns (w.setCell ⟨g, k, none⟩ (.int .u8 b.toNat)) base 5 1 byteC (.slice (some ⟨g, 0, none⟩) n c) (xs.set k b) := by
  rcases h.2 with ⟨h1, _⟩ | ⟨g', cap, cur, hv, hb, hh, hn, hc, hs, ht⟩
  · cases h1
  · have e1 := (Value.slice.inj hv).1
    have e2 := (Value.slice.inj hv).2.1
    have e3 := (Value.slice.inj hv).2.2
    obtain rfl : g = g' := congrArg Addr.block (Option.some.inj e1)
    have hkc : k < cur.size := by omega
    refine ⟨⟨cur[k], by simp [World.cell?, hh, hkc]⟩, by simp [World.frozen?, hh], hb, ?_⟩
    have hl : (xs.set k b).length = xs.length := List.length_set
    have hf : (xs.set k b).flatMap byteC = (xs.flatMap byteC).set k (.int .u8 b.toNat) := by
      rw [flat_bytes, flat_bytes, List.map_set]
    unfold Owns
    rw [hl]
    refine ⟨by rw [hf, List.length_set]; exact h.1, Or.inr ⟨g, cap, cur.setIfInBounds k (.int .u8 b.toNat), hv, hb, heap_setCell_same w g k cur _ _ hh, hn, hc, by simpa using hs, ?_⟩⟩
    rw [hf, ← ht, Array.toList_setIfInBounds, List.take_set]
theorem ev_big2 {xs : List UInt8} (h : 1048576 < xs.length) : parseS (mkB xs) plainL = ([], 0, 2) := ev_big (by rw [Lib.size_eq, mkB_data]; exact h)
end Go.Proofs.YtndhhgpmpnmljaaGreatDoor
