/- The texts UtfP Ref1 Ref1N Runes, one behind the other. -/
import Derived.Lib.ValidLaws
import Derived.Lib.RuneCount
import Derived.Shelf.GgClosure.StringsIndexFunc
import Derived.Test.YtepoiefadjoabaaGreatDoorH2
import Derived.Test.YtepoiefadjoabaaGreatDoorProg
namespace Go.Proofs.YtepoiefadjoabaaGreatDoor
open Go
def runesGo : Nat → List UInt8 → List Nat
 | 0,_ => []
 | n + 1,l => if l = [] then [] else (Lib.decodeL l).1 :: runesGo n (l.drop (Lib.decodeL l).2)
def runesD (l : List UInt8) : List Nat := runesGo l.length l
theorem runesGo_nil : ∀ n, runesGo n [] = []
 | 0 => rfl
 | _ + 1 => by simp [runesGo]
theorem runesGo_fuel : ∀ (n m : Nat) (l : List UInt8), l.length ≤ n → l.length ≤ m → runesGo n l = runesGo m l
 | 0,m,l,hn,_ => by
  have : l = []:=List.eq_nil_of_length_eq_zero (by omega)
  subst this
  rw [runesGo_nil,runesGo_nil]
 | n + 1,0,l,_,hm => by
  have : l = []:=List.eq_nil_of_length_eq_zero (by omega)
  subst this
  rw [runesGo_nil,runesGo_nil]
 | n + 1,m + 1,l,hn,hm => by
  unfold runesGo
  by_cases hne : l = []
  ·simp [hne]
  ·have hw:=Lib.decodeL_width l
   have hl : 0 < l.length:=List.length_pos_iff.2 hne
   rw [if_neg hne,if_neg hne,runesGo_fuel n m (l.drop (Lib.decodeL l).2) (by rw [List.length_drop];omega) (by rw [List.length_drop];omega)]
theorem runesD_step (l : List UInt8) (hne : l ≠ []) : runesD l = (Lib.decodeL l).1 :: runesD (l.drop (Lib.decodeL l).2) := by
 have hl : 0 < l.length:=List.length_pos_iff.2 hne
 have hw:=Lib.decodeL_width l
 obtain ⟨n,hn⟩ : ∃ n,l.length = n + 1:=⟨l.length - 1,by omega⟩
 unfold runesD
 rw [hn]
 show (if l = [] then [] else _) = _
 rw [if_neg hne,runesGo_fuel n (l.drop (Lib.decodeL l).2).length _ (by rw [List.length_drop];omega) (Nat.le_refl _)]
theorem drop_nil_iff {s : ByteArray} {pos : Nat} : s.data.toList.drop pos = [] ↔ ¬ pos < s.size := by
 rw [List.drop_eq_nil_iff,Lib.size_eq];omega
theorem drop_more {s : ByteArray} {pos k : Nat} : (s.data.toList.drop pos).drop k = s.data.toList.drop (pos + k) := by rw [List.drop_drop]
theorem runeCountFrom_D (s : ByteArray) : ∀ (f pos : Nat), s.size ≤ pos + f → Lib.runeCountFrom s f pos = (runesD (s.data.toList.drop pos)).length
 | 0,pos,h => by
  have h0 : s.data.toList.drop pos = []:=drop_nil_iff.2 (by omega)
  rw [h0];rfl
 | f + 1,pos,h => by
  unfold Lib.runeCountFrom
  by_cases hp : pos < s.size
  ·have hw:=Lib.width_pos s pos
   rw [if_pos hp,runeCountFrom_D s f _ (by omega),runesD_step _ (fun e => drop_nil_iff.1 e hp),Lib.decodeL_drop,drop_more,List.length_cons];omega
  ·rw [if_neg hp,drop_nil_iff.2 hp];rfl
theorem runeCount_D (s : ByteArray) : Lib.runeCount s = (runesD s.data.toList).length := by
 unfold Lib.runeCount;rw [runeCountFrom_D s _ _ (by omega)];rfl
theorem idxFrom_D (p : Nat → Bool) (s : ByteArray) : ∀ (f pos : Nat), s.size ≤ pos + f → decide (0 ≤ Lib.idxFuncFrom p true s f pos) = (runesD (s.data.toList.drop pos)).any p
 | 0,pos,h => by
  have h0 : s.data.toList.drop pos = []:=drop_nil_iff.2 (by omega)
  rw [h0];rfl
 | f + 1,pos,h => by
  unfold Lib.idxFuncFrom
  by_cases hp : pos < s.size
  ·have hw:=Lib.width_pos s pos
   rw [if_pos hp,runesD_step _ (fun e => drop_nil_iff.1 e hp),Lib.decodeL_drop,drop_more,List.any_cons,← idxFrom_D p s f _ (by omega)]
   cases h1 : p (Utf8.decode s pos).1
   ·simp
   ·simp
  ·rw [if_neg hp,drop_nil_iff.2 hp];rfl
theorem idx_D (p : Nat → Bool) (s : ByteArray) : decide (0 ≤ Lib.idxFunc p true s) = (runesD s.data.toList).any p := by
 unfold Lib.idxFunc;rw [idxFrom_D p s _ _ (by omega)];rfl
theorem decodeN_small (n b0 b1 b2 b3 : Nat) (h1 : b1 < 256) (h2 : b2 < 256) (h3 : b3 < 256) (hv : ¬ ((Lib.decodeN n b0 b1 b2 b3).1 = 65533 ∧ (Lib.decodeN n b0 b1 b2 b3).2 = 1)) :
  (b0 < 128∧(Lib.decodeN n b0 b1 b2 b3) = (b0,1)) ∨ (128 ≤ b0∧(Lib.decodeN n b0 b1 b2 b3).2 ≤ n∧(2 ≤ (Lib.decodeN n b0 b1 b2 b3).2 → 128 ≤ b1)∧(3 ≤ (Lib.decodeN n b0 b1 b2 b3).2 → 128 ≤ b2)∧(4 ≤ (Lib.decodeN n b0 b1 b2 b3).2 → 128 ≤ b3)∧(Lib.decodeN n b0 b1 b2 b3).2 ≤ 4∧128 ≤ (Lib.decodeN n b0 b1 b2 b3).1):=by
 unfold Lib.decodeN at *
 repeat' split
 all_goals first
  | (left;exact ⟨by assumption,rfl⟩)
  | (right;refine ⟨by omega, ?_, ?_, ?_, ?_, ?_, ?_⟩ <;> simp only <;> omega)
  | (exfalso;apply hv;simp [*];done)
  | (exfalso;apply hv;(repeat' split) <;> first | exact ⟨rfl,rfl⟩ | (exfalso;omega))
end Go.Proofs.YtepoiefadjoabaaGreatDoor
namespace Go.Proofs.YtepoiefadjoabaaGreatDoor
open Go Go.RowKit
attribute [local go_sem] quietE
end Go.Proofs.YtepoiefadjoabaaGreatDoor
namespace Go.Proofs.YtepoiefadjoabaaGreatDoor
open Go Go.RowKit
attribute [local go_sem] quietE
end Go.Proofs.YtepoiefadjoabaaGreatDoor
namespace Go.Proofs.YtepoiefadjoabaaGreatDoor
open Go Go.RowKit
attribute [local go_sem] quietE
end Go.Proofs.YtepoiefadjoabaaGreatDoor
