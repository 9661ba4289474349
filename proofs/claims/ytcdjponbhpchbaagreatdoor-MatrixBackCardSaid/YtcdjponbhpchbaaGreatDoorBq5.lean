/- The texts Named Chk PrintB NamedD, one behind the other. -/
import Derived.Test.YtcdjponbhpchbaaGreatDoorBq2
import Derived.Test.YtcdjponbhpchbaaGreatDoorShelf
import Derived.Test.YtcdjponbhpchbaaGreatDoorBq3
import Derived.Lib.ItoaLen
import Derived.Test.YtcdjponbhpchbaaGreatDoorBq4
namespace Go.Proofs.YtcdjponbhpchbaaGreatDoor
open Go Go.RowKit Go.Shelf
attribute [local go_sem] quietE

def nameBad (c : Nat) : Bool := (decide (c < 65) || decide (90 < c)) && (decide (c < 97) || decide (122 < c)) && (decide (c < 48) || decide (57 < c)) && !(c == 95) && !(c == 45)

set_option maxHeartbeats 1000000 in
theorem named1_any (w : World) : PredAt Tryz.prog 67 #[] encR nameBad w := fun W x _ => by
  unfold FnGives
  show Calls Tryz.prog 67 #[.int .i32 (x : Int)] W _
  go_enter Tryz.func67, Tryz.ntmps67
  go_wp2
  all_goals (go_ret; refine ⟨ret_bool ?_, 0, rfl⟩; rw [Bool.eq_iff_iff]; simp [nameBad]; try omega)

/-- What pos.named says. -/
def namedS (s : ByteArray) : Bool := !s.toList.isEmpty && decide (s.size ≤ 16) && !decide (0 ≤ Lib.idxFunc nameBad true s)
set_option maxHeartbeats 1000000 in
theorem named_any (s : ByteArray) (w : World) :
    Calls Tryz.prog 43 #[.string s] w fun e w' => e = .returned (.bool (namedS s)) ∧ Grows w w' := by
  have con := Lib.hid (Tryz.strings_ContainsFunc 67 #[] (enters_of Tryz.func67 (by kernel_rfl) rfl) nameBad s w (named1_any w))
  unfold namedS
  generalize decide (0 ≤ Lib.idxFunc nameBad true s) = r at con ⊢
  cases he : s.toList.isEmpty
  · have h1 : (!s.toList.isEmpty) = true := by rw [he]; rfl
    by_cases hz : s.size ≤ 16
    · have hz' : (s.size : Int) ≤ 16 := by omega
      go_enter Tryz.func43, Tryz.ntmps43
      go_wp2_with (go_at_call 66; refine con.out.mono ?_; rintro e w' ⟨rfl, hg2⟩)
      go_ret
      exact ⟨ret_bool (by simp [hz]), hg2⟩
    · go_enter Tryz.func43, Tryz.ntmps43
      go_wp2
      go_ret
      exact ⟨rfl, Grows.refl _⟩
  · go_enter Tryz.func43, Tryz.ntmps43
    go_wp2
    go_ret
    exact ⟨rfl, Grows.refl _⟩
end Go.Proofs.YtcdjponbhpchbaaGreatDoor
namespace Go.Proofs.YtcdjponbhpchbaaGreatDoor
open Go Go.RowKit Go.Shelf
attribute [local go_sem] quietE

def posOK (L : List PosV) (i : Nat) (p : PosV) : Bool := findI (posFind L p.name) == (i : Int) && namedS p.name && decide (0 ≤ p.kind) && decide (p.kind ≤ 2)
def posAll (L : List PosV) : List PosV → Nat → Bool
  | [], _ => true
  | p :: r, i => posOK L i p && posAll L r (i + 1)
def isBos (p : PosV) : Bool := seq p.name bos && p.kind == 0
/-- Is the list valid? -/
def posValid (l : List PosV) : Bool := match l with
  | [] => false
  | p :: _ => decide (l.length ≤ 64) && isBos p && posAll l l 0
def chkI (b : Bool) : Int := if b then 0 else 5

theorem posAll_drop (L : List PosV) : ∀ (l : List PosV) (i k : Nat), (∀ j p, j < k → l[j]? = some p → posOK L (i + j) p = true) → posAll L l i = posAll L (l.drop k) (i + k)
  | [], i, k, _ => by simp [posAll]
  | p :: l, i, 0, _ => by simp
  | p :: l, i, k + 1, h => by
    have h0 : posOK L i p = true := by simpa using h 0 p (by omega) rfl
    rw [posAll, h0, Bool.true_and, List.drop_succ_cons, posAll_drop L l (i + 1) k fun j q hj hq => by
      have := h (j + 1) q (by omega) (by simpa using hq)
      rwa [show i + (j + 1) = i + 1 + j by omega] at this]
    congr 1; omega
theorem posAll_hit {L : List PosV} {k : Nat} {p : PosV} (hk : L[k]? = some p) (h : ∀ j q, j < k → L[j]? = some q → posOK L j q = true) (hp : posOK L k p = false) : posAll L L 0 = false := by
  have hlt : k < L.length := (List.getElem?_eq_some_iff.1 hk).1
  have hp' : L[k] = p := (List.getElem?_eq_some_iff.1 hk).2
  rw [posAll_drop L L 0 k (fun j q hj hq => by simpa using h j q hj hq), List.drop_eq_getElem_cons hlt, posAll, hp', Nat.zero_add, hp, Bool.false_and]
theorem posAll_end {L : List PosV} (h : ∀ j q, j < L.length → L[j]? = some q → posOK L j q = true) : posAll L L 0 = true := by
  rw [posAll_drop L L 0 L.length (fun j q hj hq => by simpa using h j q hj hq)]; simp [posAll]

set_option maxHeartbeats 2000000 in
theorem check_any (l : List PosV) (a : Option Addr) (cap : Nat) (w : World) (hs : AtCells w a 2 (l.map posCells)) (hl : l.length ≤ 4611686018427387904) :
    Calls Tryz.prog 21 #[.slice a l.length cap] w fun e w' => e = .returned (.int .i64 (chkI (posValid l))) ∧ Grows w w' := by
  have HS := Lib.hid hs
  clear hs
  cases l with
  | nil =>
    go_enter Tryz.func21, Tryz.ntmps21
    go_wp2
    go_ret
    exact ⟨rfl, Grows.refl _⟩
  | cons p0 r =>
    obtain ⟨L, hL⟩ : ∃ L, L = p0 :: r := ⟨_, rfl⟩
    have hne : L ≠ [] := by rw [hL]; simp
    have h0 : L[0]? = some p0 := by rw [hL]; rfl
    have hv : posValid L = (decide (L.length ≤ 64) && isBos p0 && posAll L L 0) := by rw [hL]; rfl
    rw [← hL] at HS hl ⊢
    clear hL
    obtain ⟨b, off, rfl, hcells⟩ := HS.out.get hne
    have c0 : w.cell? ⟨b, off, none⟩ = some (.string p0.name) := by simpa using hcells 0 p0 h0 0 _ rfl
    have c1 : w.cell? ⟨b, off + 1, none⟩ = some (.int .i64 p0.kind) := by simpa using hcells 0 p0 h0 1 _ rfl
    have HC := Lib.hid hcells
    have hpos : 0 < L.length := by cases L with | nil => exact absurd rfl hne | cons _ _ => simp
    have HV := Lib.hid hv
    clear hcells hne h0 hv
    have hz : ((L.length : Int) == 0) = false := by rw [beq_eq_false_iff_ne]; omega
    have hz' : ¬ L = [] := by rintro rfl; simp at hpos
    by_cases h64 : L.length ≤ 64
    · have h64' : (L.length : Int) ≤ 64 := by omega
      by_cases hn : p0.name.toList = [66, 79, 83]
      · by_cases hk0 : p0.kind = 0
        · have hbos : isBos p0 = true := by simp [isBos, seq, hn, hk0, bos, Lib.toList_data]
          have hv2 : posValid L = posAll L L 0 := by rw [HV.out, hbos]; simp [h64]
          have HV2 := Lib.hid hv2
          have HC2 : Hid (∀ W, Grows w W → ∀ k p, L[k]? = some p → W.cell? ⟨b, off + k * 2, none⟩ = some (.string p.name) ∧ W.cell? ⟨b, off + k * 2 + 1, none⟩ = some (.int .i64 p.kind)) :=
            fun W hW k p hp => ⟨hW.cell (HC.out k p hp 0 _ rfl), hW.cell (HC.out k p hp 1 _ rfl)⟩
          rw [hv2]
          clear hbos hv2 HV HC
          go_enter Tryz.func21, Tryz.ntmps21
          go_wp2_with fail
          clear c0 c1 hn hk0
          go_loopw [24] (fun i wr => ∃ k : Nat, k ≤ L.length ∧ i = .int .i64 k ∧ Hid (∀ j q, j < k → L[j]? = some q → posOK L j q = true) ∧ Grows w wr) (fun i _ => L.length - (intOf i).toNat)
          case atStart => exact ⟨0, Nat.zero_le _, rfl, fun j q hj => by omega, Grows.refl _⟩
          case round =>
            obtain ⟨k, hk, rfl, hz, hg⟩ := hrel
            by_cases hlt : k < L.length
            · obtain ⟨p, hp⟩ : ∃ p, L[k]? = some p := ⟨_, List.getElem?_eq_getElem hlt⟩
              obtain ⟨d0, d1⟩ := HC2.out wr hg k p hp
              have HP := Lib.hid hp
              clear hp
              go_wp2_with fail
              refine (posFind_any L p.name (some ⟨b, off, none⟩) cap _ hl (HS.out.grows (hg.al _))).mono ?_
              rintro e w1 ⟨rfl, hg1⟩
              have b0 : w1.cell? ⟨wr.heap.size, 0, none⟩ = some (.string p.name) := hg1.cell (cell_box _ _ _ _ 0 _ rfl)
              have b1 : w1.cell? ⟨wr.heap.size, 1, none⟩ = some (.int .i64 p.kind) := hg1.cell (cell_box _ _ _ _ 1 _ rfl)
              have hgw1 : Grows w w1 := (hg.al _).tr hg1
              obtain ⟨f, hf⟩ : ∃ f, f = findI (posFind L p.name) := ⟨_, rfl⟩
              obtain ⟨nm, hnm⟩ : ∃ nm, nm = namedS p.name := ⟨_, rfl⟩
              have con := named_any p.name w1
              have hok : posOK L k p = (f == (k : Int) && nm && decide (0 ≤ p.kind) && decide (p.kind ≤ 2)) := by rw [hf, hnm]; rfl
              rw [← hf]
              rw [← hnm] at con
              have HCON := Lib.hid con
              have HOK := Lib.hid hok
              clear hf hnm con hok d0 d1
              cases hfk : (f == (k : Int))
              · have h1 : (f != (k : Int)) = true := by rw [bne, hfk]; rfl
                have hfin := Lib.hid (posAll_hit HP.out hz.out (by rw [HOK.out, hfk]; rfl))
                clear hfk
                go_wp2
                go_ret
                exact ⟨by rw [hfin.out]; rfl, hgw1⟩
              · have h1 : (f != (k : Int)) = false := by rw [bne, hfk]; rfl
                cases nm
                · have hfin := Lib.hid (posAll_hit HP.out hz.out (by rw [HOK.out]; simp))
                  clear hfk
                  go_wp2_with (go_at_call 43; refine HCON.out.mono ?_; rintro e w2 ⟨rfl, hg2⟩)
                  go_ret
                  exact ⟨by rw [hfin.out]; rfl, hgw1.tr hg2⟩
                · by_cases hk0 : p.kind < 0
                  · have hfin := Lib.hid (posAll_hit HP.out hz.out (by rw [HOK.out]; simp; omega))
                    clear hfk
                    go_wp2_with (go_at_call 43; refine HCON.out.mono ?_; rintro e w2 ⟨rfl, hg2⟩; have b0' := hg2.cell b0; have b1' := hg2.cell b1)
                    go_ret
                    exact ⟨by rw [hfin.out]; rfl, hgw1.tr hg2⟩
                  · by_cases hk2 : 2 < p.kind
                    · have hfin := Lib.hid (posAll_hit HP.out hz.out (by rw [HOK.out]; simp; omega))
                      clear hfk
                      go_wp2_with (go_at_call 43; refine HCON.out.mono ?_; rintro e w2 ⟨rfl, hg2⟩; have b0' := hg2.cell b0; have b1' := hg2.cell b1)
                      go_ret
                      exact ⟨by rw [hfin.out]; rfl, hgw1.tr hg2⟩
                    · have hok : posOK L k p = true := by rw [HOK.out, hfk]; simp; omega
                      have HOK2 := Lib.hid hok
                      clear hfk hok
                      go_wp2_with (go_at_call 43; refine HCON.out.mono ?_; rintro e w2 ⟨rfl, hg2⟩; have b0' := hg2.cell b0; have b1' := hg2.cell b1)
                      go_roundw
                      case rel => exact ⟨k + 1, by omega, by go_num, fun j q hj hq => by
                        rcases Nat.lt_succ_iff_lt_or_eq.1 hj with h | rfl
                        · exact hz.out j q h hq
                        · rw [HP.out] at hq; obtain rfl := Option.some.inj hq; exact HOK2.out, hgw1.tr hg2⟩
                      case measure => simp [intOf]; omega
            · obtain rfl : k = L.length := by omega
              have hfin := Lib.hid (posAll_end hz.out)
              go_wp2
              go_ret
              exact ⟨by rw [hfin.out]; rfl, hg⟩
        · have hfin : posValid L = false := by rw [HV.out]; simp [isBos, hk0]
          have HF := Lib.hid hfin
          clear hfin HV
          go_enter Tryz.func21, Tryz.ntmps21
          go_wp2
          go_ret
          exact ⟨by rw [HF.out]; rfl, Grows.refl _⟩
      · have hfin : posValid L = false := by rw [HV.out]; simp [isBos, seq, bos, Lib.toList_data]; intro _ h; exact absurd (by rw [Lib.toList_data]; exact h) hn
        have HF := Lib.hid hfin
        clear hfin HV
        go_enter Tryz.func21, Tryz.ntmps21
        go_wp2
        go_ret
        exact ⟨by rw [HF.out]; rfl, Grows.refl _⟩
    · have h64' : (64 : Int) < L.length := by omega
      have hfin : posValid L = false := by rw [HV.out]; simp [h64]
      have HF := Lib.hid hfin
      clear hfin HV
      go_enter Tryz.func21, Tryz.ntmps21
      go_wp2
      go_ret
      exact ⟨by rw [HF.out]; rfl, Grows.refl _⟩
end Go.Proofs.YtcdjponbhpchbaaGreatDoor
namespace Go.Proofs.YtcdjponbhpchbaaGreatDoor
open Go Go.RowKit Go.Shelf
attribute [local go_sem] quietE

def nameAt (p : List PosV) (i : Int) : ByteArray := ((p[i.toNat]?).map (·.name)).getD ByteArray.empty
theorem itoa_any (n : Int) (w : World) (h0 : 0 ≤ n) (h1 : n ≤ 30000) (he : Env w) :
    Calls Tryz.prog 41 #[.int .i64 n] w fun e w' => e = .returned (.string ⟨(Lib.itoa n).toArray⟩) ∧ Grows w w' :=
  Calls.mono (Tryz.strconv_Itoa n (by omega) (by omega) w he.pow) fun _ _ ⟨h, k, os, hw⟩ => ⟨h, by rw [hw]; exact grow_grows _ _ _⟩

theorem posAll_get {L : List PosV} : ∀ {l : List PosV} {i j : Nat} {q : PosV}, posAll L l i = true → l[j]? = some q → posOK L (i + j) q = true
  | [], _, _, _, _, h => by simp at h
  | p :: r, i, 0, q, h, hj => by
    obtain rfl : p = q := by simpa using hj
    simp only [posAll, Bool.and_eq_true] at h
    exact h.1
  | p :: r, i, j + 1, q, h, hj => by
    simp only [posAll, Bool.and_eq_true] at h
    have := posAll_get h.2 (j := j) (by simpa using hj)
    rwa [show i + (j + 1) = i + 1 + j by omega]
theorem name_size {p : List PosV} (hv : posValid p = true) {i : Nat} {q : PosV} (hq : p[i]? = some q) : q.name.size ≤ 16 := by
  cases p with
  | nil => simp at hq
  | cons p0 r =>
    have h : (decide ((p0 :: r).length ≤ 64) && isBos p0 && posAll (p0 :: r) (p0 :: r) 0) = true := hv
    simp only [Bool.and_eq_true] at h
    have := posAll_get h.2 hq
    simp only [posOK, namedS, Bool.and_eq_true, decide_eq_true_eq] at this
    exact this.1.1.2.1.2
theorem isBuilder_grows {T e : TypeId} {B b : Nat} {bs : List Value} {w w' : World} (h : Lib.IsBuilderF T e B b bs w) (hg : Grows w w') : Lib.IsBuilderF T e B b bs w' := by
  have key : ∀ q, Lib.BuilderAtF T e B b q bs w → Lib.BuilderAtF T e B b q bs w' := fun q ⟨hB, v, hb, hown, hne⟩ => by
    refine ⟨hB, v, by rw [hg.block b (Array.getElem?_eq_some_iff.1 hb).1]; exact hb, ⟨hown.1, ?_⟩, hne⟩
    rcases hown.2 with h2 | ⟨g, cap, cur, fz, hv, hb, hh, r⟩
    · exact Or.inl h2
    · exact Or.inr ⟨g, cap, cur, fz, hv, hb, by rw [hg.block g (Array.getElem?_eq_some_iff.1 hh).1]; exact hh, r⟩
  exact h.imp (key _) (key _)
theorem builder_ge {T e : TypeId} {B b : Nat} {bs : List Value} {w : World} (h : Lib.IsBuilderF T e B b bs w) : B ≤ w.heap.size := by
  rcases h with ⟨hB, v, hb, _⟩ | ⟨hB, v, hb, _⟩ <;> have := (Array.getElem?_eq_some_iff.1 hb).1 <;> omega

theorem builder_more {T e : TypeId} {B b : Nat} {v : Value} {acc L : List UInt8} {s : ByteArray} {w : World} (h : Lib.BuilderAtF T e B b v (Lib.byteCells acc ++ Lib.strCells s) w) (hs : s.data.toList = L) : Lib.BuilderAtF T e B b v (Lib.byteCells (acc ++ L)) w := by
  rw [Lib.byteCells_append, ← hs, ← Lib.strCells_eq]; exact h

end Go.Proofs.YtcdjponbhpchbaaGreatDoor
namespace Go.Proofs.YtcdjponbhpchbaaGreatDoor
open Go

theorem namedS_D (s : ByteArray) : namedS s = (!s.toList.isEmpty && decide (s.size ≤ 16) && !(runesD s.data.toList).any nameBad) := by
  unfold namedS; rw [idx_D]
end Go.Proofs.YtcdjponbhpchbaaGreatDoor
