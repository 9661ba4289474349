/- The texts UtfP Ref1 Ref1N Runes, one behind the other. -/
import Derived.Lib.ValidLaws
import Derived.Lib.RuneCount
import Derived.Shelf.GgClosure.StringsIndexFunc
import Derived.Test.YtepoiefadjoabaaGreatDoorQ1
import Derived.Test.YtepoiefadjoabaaGreatDoorProg
namespace Go.Proofs.YtepoiefadjoabaaGreatDoor
open Go
def runesGo : Nat → List UInt8 → List Nat
 | 0,_ => []
 | n + 1,l => if l = [] then [] else (Lib.decodeL l).1 :: runesGo n (l.drop (Lib.decodeL l).2)
def runesD (l : List UInt8) : List Nat := runesGo l.length l
theorem runesGo_nil : ∀ n, runesGo n [] = []
 | 0 => rfl
 | _ + 1 => by simp [runesGo]
theorem runesGo_fuel : ∀ (n m : Nat) (l : List UInt8), l.length ≤ n → l.length ≤ m → runesGo n l = runesGo m l
 | 0,m,l,hn,_ => by
  have : l = []:=List.eq_nil_of_length_eq_zero (by omega)
  subst this
  rw [runesGo_nil,runesGo_nil]
 | n + 1,0,l,_,hm => by
  have : l = []:=List.eq_nil_of_length_eq_zero (by omega)
  subst this
  rw [runesGo_nil,runesGo_nil]
 | n + 1,m + 1,l,hn,hm => by
  unfold runesGo
  by_cases hne : l = []
  ·simp [hne]
  ·have hw:=Lib.decodeL_width l
   have hl : 0 < l.length:=List.length_pos_iff.2 hne
   rw [if_neg hne,if_neg hne,runesGo_fuel n m (l.drop (Lib.decodeL l).2) (by rw [List.length_drop];omega) (by rw [List.length_drop];omega)]
theorem runesD_nil : runesD [] = [] := rfl
theorem runesD_step (l : List UInt8) (hne : l ≠ []) : runesD l = (Lib.decodeL l).1 :: runesD (l.drop (Lib.decodeL l).2) := by
 have hl : 0 < l.length:=List.length_pos_iff.2 hne
 have hw:=Lib.decodeL_width l
 obtain ⟨n,hn⟩ : ∃ n,l.length = n + 1:=⟨l.length - 1,by omega⟩
 unfold runesD
 rw [hn]
 show (if l = [] then [] else _) = _
 rw [if_neg hne,runesGo_fuel n (l.drop (Lib.decodeL l).2).length _ (by rw [List.length_drop];omega) (Nat.le_refl _)]
theorem runesD_len (l : List UInt8) : (runesD l).length ≤ l.length := by
 have key : ∀ n l,(runesGo n l).length ≤ n:=by
  intro n
  induction n with
  | zero => intro l;simp [runesGo]
  | succ n ih => intro l;unfold runesGo;split;simp;simp;exact ih _
 exact key _ _
theorem drop_nil_iff {s : ByteArray} {pos : Nat} : s.data.toList.drop pos = [] ↔ ¬ pos < s.size := by
 rw [List.drop_eq_nil_iff,Lib.size_eq];omega
theorem drop_more {s : ByteArray} {pos k : Nat} : (s.data.toList.drop pos).drop k = s.data.toList.drop (pos + k) := by rw [List.drop_drop]
theorem runeCountFrom_D (s : ByteArray) : ∀ (f pos : Nat), s.size ≤ pos + f → Lib.runeCountFrom s f pos = (runesD (s.data.toList.drop pos)).length
 | 0,pos,h => by
  have h0 : s.data.toList.drop pos = []:=drop_nil_iff.2 (by omega)
  rw [h0];rfl
 | f + 1,pos,h => by
  unfold Lib.runeCountFrom
  by_cases hp : pos < s.size
  ·have hw:=Lib.width_pos s pos
   rw [if_pos hp,runeCountFrom_D s f _ (by omega),runesD_step _ (fun e => drop_nil_iff.1 e hp),Lib.decodeL_drop,drop_more,List.length_cons];omega
  ·rw [if_neg hp,drop_nil_iff.2 hp];rfl
theorem runeCount_D (s : ByteArray) : Lib.runeCount s = (runesD s.data.toList).length := by
 unfold Lib.runeCount;rw [runeCountFrom_D s _ _ (by omega)];rfl
theorem idxFrom_D (p : Nat → Bool) (s : ByteArray) : ∀ (f pos : Nat), s.size ≤ pos + f → decide (0 ≤ Lib.idxFuncFrom p true s f pos) = (runesD (s.data.toList.drop pos)).any p
 | 0,pos,h => by
  have h0 : s.data.toList.drop pos = []:=drop_nil_iff.2 (by omega)
  rw [h0];rfl
 | f + 1,pos,h => by
  unfold Lib.idxFuncFrom
  by_cases hp : pos < s.size
  ·have hw:=Lib.width_pos s pos
   rw [if_pos hp,runesD_step _ (fun e => drop_nil_iff.1 e hp),Lib.decodeL_drop,drop_more,List.any_cons,← idxFrom_D p s f _ (by omega)]
   cases h1 : p (Utf8.decode s pos).1
   ·simp
   ·simp
  ·rw [if_neg hp,drop_nil_iff.2 hp];rfl
theorem idx_D (p : Nat → Bool) (s : ByteArray) : decide (0 ≤ Lib.idxFunc p true s) = (runesD s.data.toList).any p := by
 unfold Lib.idxFunc;rw [idxFrom_D p s _ _ (by omega)];rfl
def lenS (b : Nat) : Nat × Nat :=
 if b < 128 then (1,b) else if 192 ≤ b∧b < 224 then (2,b - 192) else if 224 ≤ b∧b < 240 then (3,b - 224) else if 240 ≤ b∧b < 248 then (4,b - 240) else (0,0)
def charS (c : Int) : Bool := decide (0 ≤ c) && decide (c ≤ 1114111) && (decide (c < 55296) || decide (57343 < c))
def contS : List UInt8 → Nat → Option Nat
 | [],c => some c
 | b :: r,c => if b.toNat < 128 ∨ 191 < b.toNat then none else contS r (64 * c + b.toNat - 128)
def leastS (n : Nat) : Nat := if n = 2 then 128 else if n = 3 then 2048 else if n = 4 then 65536 else 0
def nextL (l : List UInt8) : Nat × Nat :=
 match l with
 | [] => (0,0)
 | b :: r => if (lenS b.toNat).1 = 0 ∨ r.length + 1 < (lenS b.toNat).1 then (0,0) else
  match contS (r.take ((lenS b.toNat).1 - 1)) (lenS b.toNat).2 with
  | none => (0,0)
  | some c => if c < leastS (lenS b.toNat).1 ∨ charS c = false then (0,0) else (c,(lenS b.toNat).1)
def nextN (n b0 b1 b2 b3 : Nat) : Nat × Nat :=
 if b0 < 128 then (b0,1)
 else if 192 ≤ b0∧b0 < 224 then (if n < 2 ∨ (b1 < 128 ∨ 191 < b1) ∨ 64 * (b0 - 192) + b1 - 128 < 128 then (0,0) else (64 * (b0 - 192) + b1 - 128,2))
 else if 224 ≤ b0∧b0 < 240 then (if n < 3 ∨ (b1 < 128 ∨ 191 < b1) ∨ (b2 < 128 ∨ 191 < b2) ∨ 64 * (64 * (b0 - 224) + b1 - 128) + b2 - 128 < 2048 ∨ charS (64 * (64 * (b0 - 224) + b1 - 128) + b2 - 128 : Nat) = false then (0,0) else (64 * (64 * (b0 - 224) + b1 - 128) + b2 - 128,3))
 else if 240 ≤ b0∧b0 < 248 then (if n < 4 ∨ (b1 < 128 ∨ 191 < b1) ∨ (b2 < 128 ∨ 191 < b2) ∨ (b3 < 128 ∨ 191 < b3) ∨ 64 * (64 * (64 * (b0 - 240) + b1 - 128) + b2 - 128) + b3 - 128 < 65536 ∨ charS (64 * (64 * (64 * (b0 - 240) + b1 - 128) + b2 - 128) + b3 - 128 : Nat) = false then (0,0) else (64 * (64 * (64 * (b0 - 240) + b1 - 128) + b2 - 128) + b3 - 128,4))
 else (0,0)
theorem charS_iff (c : Nat) : charS c = false ↔ ¬ (c ≤ 1114111 ∧ (c < 55296 ∨ 57343 < c)) := by
 unfold charS
 rw [← Bool.not_eq_true]
 simp only [Bool.and_eq_true,Bool.or_eq_true,decide_eq_true_eq]
 omega
theorem ite_or {α : Type} {p q : Prop} [Decidable p] [Decidable q] {a b : α} : (if p ∨ q then a else b) = if p then a else if q then a else b := by
 by_cases h : p <;> by_cases k : q <;> simp [h,k]
theorem nextL_N (b : UInt8) (r : List UInt8) : nextL (b :: r) = nextN (r.length + 1) b.toNat (r.getD 0 0).toNat (r.getD 1 0).toNat (r.getD 2 0).toNat := by
 have hb:=b.toNat_lt
 unfold nextL nextN lenS
 by_cases h1 : b.toNat < 128
 ·have hc : charS (b.toNat : Nat) = true:=by rw [← Bool.not_eq_false,charS_iff];omega
  simp [h1,contS,leastS,hc]
 ·by_cases h2 : 192 ≤ b.toNat∧b.toNat < 224
  ·simp only [h1,h2,if_false,if_true,and_self,leastS]
   match r with
   | [] => simp
   | b1 :: r =>
    have hc : ∀ h : ¬ (b1.toNat < 128 ∨ 191 < b1.toNat),charS (64 * (b.toNat - 192) + b1.toNat - 128 : Nat) = true:=fun h => by rw [← Bool.not_eq_false,charS_iff];have:=b1.toNat_lt;omega
    by_cases hb1 : b1.toNat < 128 ∨ 191 < b1.toNat
    ·simp [contS,hb1]
    ·simp [contS,hb1,hc hb1]
     exact ite_or.symm
  ·by_cases h3 : 224 ≤ b.toNat∧b.toNat < 240
   ·have h2' : ¬ (192 ≤ b.toNat∧b.toNat < 224):=h2
    simp only [h1,h2',h3,if_false,if_true,and_self,leastS]
    match r with
    | [] => simp
    | [b1] => simp
    | b1 :: b2 :: r =>
     by_cases hb1 : b1.toNat < 128 ∨ 191 < b1.toNat
     ·simp [contS,hb1]
     ·by_cases hb2 : b2.toNat < 128 ∨ 191 < b2.toNat
      ·simp [contS,hb1,hb2]
      ·simp [contS,hb1,hb2]
       exact ite_or.symm
   ·by_cases h4 : 240 ≤ b.toNat∧b.toNat < 248
    ·simp only [h1,h2,h3,h4,if_false,if_true,and_self,leastS]
     match r with
     | [] => simp
     | [b1] => simp
     | [b1,b2] => simp
     | b1 :: b2 :: b3 :: r =>
      by_cases hb1 : b1.toNat < 128 ∨ 191 < b1.toNat
      ·simp [contS,hb1]
      ·by_cases hb2 : b2.toNat < 128 ∨ 191 < b2.toNat
       ·simp [contS,hb1,hb2]
       ·by_cases hb3 : b3.toNat < 128 ∨ 191 < b3.toNat
        ·simp [contS,hb1,hb2,hb3]
        ·simp [contS,hb1,hb2,hb3]
         exact ite_or.symm
    ·simp [h1,h2,h3,h4]
set_option maxHeartbeats 4000000 in
theorem nextN_decode (n b0 b1 b2 b3 : Nat) (h0 : b0 < 256) (h1 : b1 < 256) (h2 : b2 < 256) (h3 : b3 < 256) :
  nextN n b0 b1 b2 b3 = if (Lib.decodeN n b0 b1 b2 b3).1 = 65533∧(Lib.decodeN n b0 b1 b2 b3).2 = 1 then (0,0) else Lib.decodeN n b0 b1 b2 b3:=by
 unfold nextN
 simp only [charS_iff]
 by_cases c1 : b0 < 128
 ·have : Lib.decodeN n b0 b1 b2 b3 = (b0,1):=Lib.decodeN_ascii n b0 b1 b2 b3 c1
  rw [this,if_pos c1,if_neg (by simp only;omega)]
 ·rw [if_neg c1]
  by_cases c2 : 192 ≤ b0∧b0 < 224
  ·rw [if_pos c2]
   by_cases g1 : n < 2 ∨ (b1 < 128 ∨ 191 < b1)
   ·have hD : Lib.decodeN n b0 b1 b2 b3 = (65533,1):=by unfold Lib.decodeN;rw [if_neg c1,if_neg (by omega),if_neg (by omega),if_neg (by omega)]
    rw [hD,if_pos (by omega)];rfl
   ·have hv : 64 * (b0 - 192) + b1 - 128 = b0 % 32 * 64 + b1 % 64:=by omega
    rw [hv]
    by_cases g2 : b0 % 32 * 64 + b1 % 64 < 128
    ·have hD : Lib.decodeN n b0 b1 b2 b3 = (65533,1):=by unfold Lib.decodeN;rw [if_neg c1,if_pos (by omega),if_neg (by omega)]
     rw [hD,if_pos (Or.inr (Or.inr g2))];rfl
    ·have hD : Lib.decodeN n b0 b1 b2 b3 = (b0 % 32 * 64 + b1 % 64,2):=by unfold Lib.decodeN;rw [if_neg c1,if_pos (by omega),if_pos (by omega)]
     rw [hD,if_neg (by omega)];simp
  ·rw [if_neg c2]
   by_cases c3 : 224 ≤ b0∧b0 < 240
   ·rw [if_pos c3]
    by_cases g1 : n < 3 ∨ (b1 < 128 ∨ 191 < b1) ∨ (b2 < 128 ∨ 191 < b2)
    ·have hD : Lib.decodeN n b0 b1 b2 b3 = (65533,1):=by unfold Lib.decodeN;rw [if_neg c1,if_neg (by omega),if_neg (by omega),if_neg (by omega)]
     rw [hD,if_pos (by omega)];rfl
    ·have hv : 64 * (64 * (b0 - 224) + b1 - 128) + b2 - 128 = b0 % 16 * 4096 + b1 % 64 * 64 + b2 % 64:=by omega
     have hD0 : Lib.decodeN n b0 b1 b2 b3 = if b0 % 16 * 4096 + b1 % 64 * 64 + b2 % 64 ≥ 2048∧(b0 % 16 * 4096 + b1 % 64 * 64 + b2 % 64 < 55296 ∨ (57344 ≤ b0 % 16 * 4096 + b1 % 64 * 64 + b2 % 64∧b0 % 16 * 4096 + b1 % 64 * 64 + b2 % 64 ≤ 1114111)) then (b0 % 16 * 4096 + b1 % 64 * 64 + b2 % 64,3) else (65533,1):=by
      unfold Lib.decodeN;rw [if_neg c1,if_neg (by omega),if_pos (by omega)]
     rw [hv]
     generalize b0 % 16 * 4096 + b1 % 64 * 64 + b2 % 64 = q at *
     by_cases g2 : q < 2048 ∨ ¬ (q ≤ 1114111∧(q < 55296 ∨ 57343 < q))
     ·rw [if_neg (by omega)] at hD0
      rw [hD0,if_pos (Or.inr (Or.inr (Or.inr g2)))];rfl
     ·rw [if_pos (by omega)] at hD0
      rw [hD0,if_neg (by omega)];simp
   ·rw [if_neg c3]
    by_cases c4 : 240 ≤ b0∧b0 < 248
    ·rw [if_pos c4]
     by_cases g1 : n < 4 ∨ (b1 < 128 ∨ 191 < b1) ∨ (b2 < 128 ∨ 191 < b2) ∨ (b3 < 128 ∨ 191 < b3)
     ·have hD : Lib.decodeN n b0 b1 b2 b3 = (65533,1):=by unfold Lib.decodeN;rw [if_neg c1,if_neg (by omega),if_neg (by omega),if_neg (by omega)]
      rw [hD,if_pos (by omega)];rfl
     ·have hv : 64 * (64 * (64 * (b0 - 240) + b1 - 128) + b2 - 128) + b3 - 128 = b0 % 8 * 262144 + b1 % 64 * 4096 + b2 % 64 * 64 + b3 % 64:=by omega
      have hD0 : Lib.decodeN n b0 b1 b2 b3 = if b0 % 8 * 262144 + b1 % 64 * 4096 + b2 % 64 * 64 + b3 % 64 ≥ 65536∧(b0 % 8 * 262144 + b1 % 64 * 4096 + b2 % 64 * 64 + b3 % 64 < 55296 ∨ (57344 ≤ b0 % 8 * 262144 + b1 % 64 * 4096 + b2 % 64 * 64 + b3 % 64∧b0 % 8 * 262144 + b1 % 64 * 4096 + b2 % 64 * 64 + b3 % 64 ≤ 1114111)) then (b0 % 8 * 262144 + b1 % 64 * 4096 + b2 % 64 * 64 + b3 % 64,4) else (65533,1):=by
       unfold Lib.decodeN;rw [if_neg c1,if_neg (by omega),if_neg (by omega),if_pos (by omega)]
      rw [hv]
      generalize b0 % 8 * 262144 + b1 % 64 * 4096 + b2 % 64 * 64 + b3 % 64 = q at *
      by_cases g2 : q < 65536 ∨ ¬ (q ≤ 1114111∧(q < 55296 ∨ 57343 < q))
      ·rw [if_neg (by omega)] at hD0
       rw [hD0,if_pos (Or.inr (Or.inr (Or.inr (Or.inr g2))))];rfl
      ·rw [if_pos (by omega)] at hD0
       rw [hD0,if_neg (by omega)];simp
    ·have hD : Lib.decodeN n b0 b1 b2 b3 = (65533,1):=by unfold Lib.decodeN;rw [if_neg c1,if_neg (by omega),if_neg (by omega),if_neg (by omega)]
     rw [hD,if_neg c4];rfl
theorem nextL_decode (l : List UInt8) (hne : l ≠ []) : nextL l = if (Lib.decodeL l).1 = 65533 ∧ (Lib.decodeL l).2 = 1 then (0, 0) else Lib.decodeL l := by
 cases l with
 | nil => exact absurd rfl hne
 | cons b r =>
  rw [nextL_N,Lib.decodeL_N,nextN_decode _ _ _ _ _ (UInt8.toNat_lt _) (UInt8.toNat_lt _) (UInt8.toNat_lt _) (UInt8.toNat_lt _)]
  simp
theorem decodeN_small (n b0 b1 b2 b3 : Nat) (h1 : b1 < 256) (h2 : b2 < 256) (h3 : b3 < 256) (hv : ¬ ((Lib.decodeN n b0 b1 b2 b3).1 = 65533 ∧ (Lib.decodeN n b0 b1 b2 b3).2 = 1)) :
  (b0 < 128∧(Lib.decodeN n b0 b1 b2 b3) = (b0,1)) ∨ (128 ≤ b0∧(Lib.decodeN n b0 b1 b2 b3).2 ≤ n∧(2 ≤ (Lib.decodeN n b0 b1 b2 b3).2 → 128 ≤ b1)∧(3 ≤ (Lib.decodeN n b0 b1 b2 b3).2 → 128 ≤ b2)∧(4 ≤ (Lib.decodeN n b0 b1 b2 b3).2 → 128 ≤ b3)∧(Lib.decodeN n b0 b1 b2 b3).2 ≤ 4∧128 ≤ (Lib.decodeN n b0 b1 b2 b3).1):=by
 unfold Lib.decodeN at *
 repeat' split
 all_goals first
  | (left;exact ⟨by assumption,rfl⟩)
  | (right;refine ⟨by omega, ?_, ?_, ?_, ?_, ?_, ?_⟩ <;> simp only <;> omega)
  | (exfalso;apply hv;simp [*];done)
  | (exfalso;apply hv;(repeat' split) <;> first | exact ⟨rfl,rfl⟩ | (exfalso;omega))
end Go.Proofs.YtepoiefadjoabaaGreatDoor
namespace Go.Proofs.YtepoiefadjoabaaGreatDoor
open Go Go.RowKit
attribute [local go_sem] quietE
set_option maxHeartbeats 1000000 in
theorem length_any (b : Nat) (hb : b < 256) (w : World) :
  Calls Tryz.prog 224 #[.int .u8 b] w fun e w' => e = .returned (.tuple #[.int .i64 ((lenS b).1 : Nat),.int .i32 ((lenS b).2 : Nat)])∧w = w':=by
 have h : (b < 128∧lenS b = (1,b)) ∨ (192 ≤ b∧b < 224∧lenS b = (2,b - 192)) ∨ (224 ≤ b∧b < 240∧lenS b = (3,b - 224)) ∨ (240 ≤ b∧b < 248∧lenS b = (4,b - 240)) ∨ (128 ≤ b∧b < 192∧lenS b = (0,0)) ∨ (248 ≤ b∧lenS b = (0,0)):=by
  unfold lenS
  repeat' split
  all_goals simp only [and_true]
  all_goals omega
 rcases h with ⟨h1,h⟩ | ⟨h1,h2,h⟩ | ⟨h1,h2,h⟩ | ⟨h1,h2,h⟩ | ⟨h1,h2,h⟩ | ⟨h1,h⟩ <;> rw [h] <;> clear h
 ·have g1 : (b : Int) < 128:=by omega
  go_enter Tryz.func224,Tryz.ntmps224
  go_wp2
  go_ret2
  exact ⟨rfl,rfl⟩
 ·have g1 : ¬ (b : Int) < 128:=by omega
  have g2 : (192 : Int) ≤ b:=by omega
  have g3 : (b : Int) < 224:=by omega
  have g4 : ((b - 192 : Nat) : Int) = (b : Int) - 192:=by omega
  rw [g4]
  go_enter Tryz.func224,Tryz.ntmps224
  go_wp2
  go_ret2
  exact ⟨rfl,rfl⟩
 ·have g1 : ¬ (b : Int) < 128:=by omega
  have g2 : (192 : Int) ≤ b:=by omega
  have g3 : ¬ (b : Int) < 224:=by omega
  have g5 : (224 : Int) ≤ b:=by omega
  have g6 : (b : Int) < 240:=by omega
  have g4 : ((b - 224 : Nat) : Int) = (b : Int) - 224:=by omega
  rw [g4]
  go_enter Tryz.func224,Tryz.ntmps224
  go_wp2
  go_ret2
  exact ⟨rfl,rfl⟩
 ·have g1 : ¬ (b : Int) < 128:=by omega
  have g2 : (192 : Int) ≤ b:=by omega
  have g3 : ¬ (b : Int) < 224:=by omega
  have g5 : (224 : Int) ≤ b:=by omega
  have g6 : ¬ (b : Int) < 240:=by omega
  have g7 : (240 : Int) ≤ b:=by omega
  have g8 : (b : Int) < 248:=by omega
  have g4 : ((b - 240 : Nat) : Int) = (b : Int) - 240:=by omega
  rw [g4]
  go_enter Tryz.func224,Tryz.ntmps224
  go_wp2
  go_ret2
  exact ⟨rfl,rfl⟩
 ·have g1 : ¬ (b : Int) < 128:=by omega
  have g2 : ¬ (192 : Int) ≤ b:=by omega
  have g5 : ¬ (224 : Int) ≤ b:=by omega
  have g7 : ¬ (240 : Int) ≤ b:=by omega
  go_enter Tryz.func224,Tryz.ntmps224
  go_wp2
  go_ret2
  exact ⟨rfl,rfl⟩
 ·have g1 : ¬ (b : Int) < 128:=by omega
  have g2 : (192 : Int) ≤ b:=by omega
  have g3 : ¬ (b : Int) < 224:=by omega
  have g5 : (224 : Int) ≤ b:=by omega
  have g6 : ¬ (b : Int) < 240:=by omega
  have g7 : (240 : Int) ≤ b:=by omega
  have g8 : ¬ (b : Int) < 248:=by omega
  go_enter Tryz.func224,Tryz.ntmps224
  go_wp2
  go_ret2
  exact ⟨rfl,rfl⟩
set_option maxHeartbeats 1000000 in
theorem character_any (c : Int) (w : World) :
  Calls Tryz.prog 225 #[.int .i32 c] w fun e w' => e = .returned (.bool (charS c))∧w = w':=by
 go_enter Tryz.func225,Tryz.ntmps225
 go_wp2
 all_goals go_ret
 ·exact ⟨by unfold charS;simp [*],rfl⟩
 ·exact ⟨by unfold charS;simp [*],rfl⟩
 ·have h : ¬ c ≤ 1114111:=by omega
  exact ⟨by unfold charS;simp [h],rfl⟩
 ·have h : ¬ 0 ≤ c:=by omega
  exact ⟨by unfold charS;simp [h],rfl⟩
end Go.Proofs.YtepoiefadjoabaaGreatDoor
namespace Go.Proofs.YtepoiefadjoabaaGreatDoor
open Go Go.RowKit
attribute [local go_sem] quietE
def nextS (s : ByteArray) (i : Nat) : Nat × Nat := nextL (s.data.toList.drop i)
theorem lenS_cases (b : Nat) (hb : b < 256) : (lenS b).1 ≤ 4 ∧ (lenS b).2 < 128 ∧ ((lenS b).1 = 2 → (lenS b).2 < 32) ∧ ((lenS b).1 = 3 → (lenS b).2 < 16) ∧ ((lenS b).1 = 4 → (lenS b).2 < 8) := by
 unfold lenS
 repeat' split
 all_goals simp only
 all_goals omega
def restS (s : ByteArray) (i n k : Nat) : List UInt8 := (s.data.toList.drop (i + k)).take (n - k)
theorem restS_cons {s : ByteArray} {i n k : Nat} (hk : k < n) (h : i + k < s.size) : restS s i n k = s[i + k] :: restS s i n (k + 1) := by
 unfold restS
 have h2 : i + k < s.data.toList.length:=by simpa using h
 rw [List.drop_eq_getElem_cons h2,show n - k = (n - (k + 1)) + 1 by omega,List.take_succ_cons,show i + k + 1 = i + (k + 1) by omega]
 rfl
theorem restS_end {s : ByteArray} {i n k : Nat} (hk : n ≤ k) : restS s i n k = [] := by
 unfold restS
 rw [show n - k = 0 by omega];rfl
theorem nextS_eq {s : ByteArray} {i n c : Nat} (hi : i < s.size) (hn : lenS s[i].toNat = (n, c)) : nextS s i = if n = 0 ∨ s.size - i < n then (0, 0) else
  match contS (restS s i n 1) c with
  | none => (0,0)
  | some c => if c < leastS n ∨ charS c = false then (0,0) else (c,n):=by
 unfold nextS nextL restS
 have h2 : i < s.data.toList.length:=by simpa using hi
 have h3 : s.data.toList.drop i = s[i] :: s.data.toList.drop (i + 1):=by rw [List.drop_eq_getElem_cons h2];rfl
 rw [h3]
 simp only [hn]
 have h4 : (s.data.toList.drop (i + 1)).length + 1 = s.size - i:=by
  rw [List.length_drop];have : s.data.toList.length = s.size:=rfl
  omega
 rw [h4] <;> rfl
set_option maxHeartbeats 2000000 in
set_option maxRecDepth 100000 in
theorem next_any (s : ByteArray) (i : Nat) (w : World) (hs : s.size < 4611686018427387904) (hi : i < s.size) :
  Calls Tryz.prog 210 #[.string s,.int .i64 i] w fun e w' => e = .returned (.tuple #[.int .i32 ((nextS s i).1 : Nat),.int .i64 ((nextS s i).2 : Nat)])∧Grows w w':=by
 obtain ⟨n,c,hn⟩ : ∃ n c,lenS s[i].toNat = (n,c):=⟨_,_,rfl⟩
 have hc:=lenS_cases s[i].toNat (by have:=s[i].toNat_lt;omega)
 have HL:=fun W => Lib.hid (length_any s[i].toNat (by have:=s[i].toNat_lt;omega) W)
 have hq:=nextS_eq hi hn
 rw [hn] at HL hc
 simp only at HL hc
 generalize nextS s i = R at hq ⊢
 by_cases h0 : n = 0
 ·have hq2 : R = (0,0):=by rw [hq,if_pos (Or.inl h0)]
  subst hq2 h0
  clear hq hn hc
  go_enter Tryz.func210,Tryz.ntmps210
  go_wp2_with (first | (go_at_call 224;refine (HL _).out.mono ?_;rintro e w1 ⟨rfl,rfl⟩))
  all_goals (go_ret2;exact ⟨rfl,Grows.refl _⟩)
 ·by_cases h1 : s.size - i < n
  ·have hq2 : R = (0,0):=by rw [hq,if_pos (Or.inr h1)]
   subst hq2
   have g0 : ¬ (n : Int) = 0:=by omega
   have g1 : (s.size : Int) - i < n:=by omega
   clear hq hn hc
   go_enter Tryz.func210,Tryz.ntmps210
   go_wp2_with (first | (go_at_call 224;refine (HL _).out.mono ?_;rintro e w1 ⟨rfl,rfl⟩))
   all_goals (go_ret2;exact ⟨rfl,Grows.refl _⟩)
  ·have g0 : ((n : Int) == 0) = false:=by simpa using h0
   have g1 : ¬ (s.size : Int) - i < n:=by omega
   have hn1 : i + n ≤ s.size:=by omega
   rw [if_neg (by omega)] at hq
   have HQ:=Lib.hid hq
   have HC:=Lib.hid hc
   clear hq hn hc h1
   go_enter Tryz.func210,Tryz.ntmps210
   go_wp2_with (first | (go_at_call 224;refine (HL _).out.mono ?_;rintro e w1 ⟨rfl,rfl⟩))
   go_loop [7,8] (fun x y => ∃ k c' : Nat,1 ≤ k∧k ≤ n∧x = .int .i32 c'∧y = .int .i64 k∧Hid (contS (restS s i n 1) c = contS (restS s i n k) c')∧Hid ((c' + 1) * 64 ^ (n - k) ≤ 2097152)) (fun _ y => n - (intOf y).toNat)
   case atStart =>
    refine ⟨1,c,Nat.le_refl _,by omega,rfl,rfl,rfl, ?_⟩
    obtain ⟨q1,q2,q3,q4,q5⟩:=HC.out
    show _ ≤ _
    rcases (by omega : n = 1 ∨ n = 2 ∨ n = 3 ∨ n = 4) with rfl | rfl | rfl | rfl <;> simp <;> omega
   case round =>
    obtain ⟨k,c',k1,k2,rfl,rfl,hco,hbd⟩:=hrel
    by_cases hlt : k < n
    ·have hpow : 64 ^ (n - k) = 64 * 64 ^ (n - (k + 1)):=by rw [show n - k = (n - (k + 1)) + 1 by omega,Nat.pow_succ];omega
     have hpos : 1 ≤ 64 ^ (n - (k + 1)):=Nat.pow_pos (by omega)
     have hb1 : (c' + 1) * 64 * 64 ^ (n - (k + 1)) ≤ 2097152:=by have:=hbd.out;rw [hpow,← Nat.mul_assoc] at this;exact this
     have hb2 : (c' + 1) * 64 ≤ 2097152:=Nat.le_trans (Nat.le_mul_of_pos_right _ hpos) hb1
     have hik : i + k < s.size:=by omega
     have hlt2:=s[i + k].toNat_lt
     have hcons:=hco.out
     rw [restS_cons hlt hik] at hcons
     have HB1:=Lib.hid hb1
     clear hpow hpos hb1 hbd hco
     by_cases hbad : s[i + k].toNat < 128 ∨ 191 < s[i + k].toNat
     ·have hR : R = (0,0):=by
       rw [HQ.out,hcons];unfold contS;rw [if_pos hbad]
      subst hR
      clear hcons HQ
      rcases hbad with h | h
      ·have e1 : (s[i + k].toNat : Int) < 128:=by omega
       go_wp2
       go_ret2
       exact ⟨rfl,Grows.refl _⟩
      ·have e1 : ¬ (s[i + k].toNat : Int) < 128:=by omega
       have e2 : (191 : Int) < s[i + k].toNat:=by omega
       go_wp2
       go_ret2
       exact ⟨rfl,Grows.refl _⟩
     ·have e1 : ¬ (s[i + k].toNat : Int) < 128:=by omega
      have e2 : ¬ (191 : Int) < s[i + k].toNat:=by omega
      go_wp2
      refine ⟨⟨k + 1,64 * c' + s[i + k].toNat - 128,by omega,hlt, ?_, ?_, ?_, ?_⟩, ?_⟩
      ·rw [show ((64 * c' + s[i + k].toNat - 128 : Nat) : Int) = 64 * (c' : Int) + s[i + k].toNat - 128 by omega]
      ·go_num
      ·show _ = _
       rw [hcons]
       exact if_neg hbad
      ·refine Nat.le_trans (Nat.mul_le_mul_right _ ?_) HB1.out
       omega
      ·simp [intOf];omega
    ·obtain rfl : k = n:=by omega
     have hcons:=hco.out
     rw [restS_end (Nat.le_refl _)] at hcons
     have hR : R = if c' < leastS k ∨ charS c' = false then (0,0) else (c',k):=by rw [HQ.out,hcons];rfl
     have HR:=Lib.hid hR
     have hCh:=fun W => Lib.hid (character_any c' W)
     generalize charS c' = ch at hCh HR
     clear hcons hR HQ hbd hco hlt HL
     obtain ⟨q1,_⟩:=HC.out
     clear HC
     rcases (by omega : k = 1 ∨ k = 2 ∨ k = 3 ∨ k = 4) with rfl | rfl | rfl | rfl
     ·have hlo : ¬ (c' : Int) < 0:=by omega
      cases ch
      ·have hR : R = (0,0):=by rw [HR.out];simp
       subst hR
       clear HR
       go_wp2_with (first | (go_at_call 225;refine (hCh _).out.mono ?_;rintro e w1 ⟨rfl,rfl⟩))
       go_ret2
       exact ⟨rfl,Grows.alloc _ _⟩
      ·have hR : R = (c',1):=by rw [HR.out];simp [leastS]
       subst hR
       clear HR
       go_wp2_with (first | (go_at_call 225;refine (hCh _).out.mono ?_;rintro e w1 ⟨rfl,rfl⟩))
       go_ret2
       exact ⟨rfl,Grows.alloc _ _⟩
     ·by_cases hl : c' < 128
      ·have hlo : (c' : Int) < 128:=by omega
       have hR : R = (0,0):=by rw [HR.out];simp [leastS,hl]
       subst hR
       clear HR hl
       go_wp2_with (first | (go_at_call 225;refine (hCh _).out.mono ?_;rintro e w1 ⟨rfl,rfl⟩))
       go_ret2
       exact ⟨rfl,Grows.alloc _ _⟩
      ·have hlo : ¬ (c' : Int) < 128:=by omega
       cases ch
       ·have hR : R = (0,0):=by rw [HR.out];simp
        subst hR
        clear HR hl
        go_wp2_with (first | (go_at_call 225;refine (hCh _).out.mono ?_;rintro e w1 ⟨rfl,rfl⟩))
        go_ret2
        exact ⟨rfl,Grows.alloc _ _⟩
       ·have hR : R = (c',2):=by rw [HR.out];simp [leastS,hl]
        subst hR
        clear HR hl
        go_wp2_with (first | (go_at_call 225;refine (hCh _).out.mono ?_;rintro e w1 ⟨rfl,rfl⟩))
        go_ret2
        exact ⟨rfl,Grows.alloc _ _⟩
     ·by_cases hl : c' < 2048
      ·have hlo : (c' : Int) < 2048:=by omega
       have hR : R = (0,0):=by rw [HR.out];simp [leastS,hl]
       subst hR
       clear HR hl
       go_wp2_with (first | (go_at_call 225;refine (hCh _).out.mono ?_;rintro e w1 ⟨rfl,rfl⟩))
       go_ret2
       exact ⟨rfl,Grows.alloc _ _⟩
      ·have hlo : ¬ (c' : Int) < 2048:=by omega
       cases ch
       ·have hR : R = (0,0):=by rw [HR.out];simp
        subst hR
        clear HR hl
        go_wp2_with (first | (go_at_call 225;refine (hCh _).out.mono ?_;rintro e w1 ⟨rfl,rfl⟩))
        go_ret2
        exact ⟨rfl,Grows.alloc _ _⟩
       ·have hR : R = (c',3):=by rw [HR.out];simp [leastS,hl]
        subst hR
        clear HR hl
        go_wp2_with (first | (go_at_call 225;refine (hCh _).out.mono ?_;rintro e w1 ⟨rfl,rfl⟩))
        go_ret2
        exact ⟨rfl,Grows.alloc _ _⟩
     ·by_cases hl : c' < 65536
      ·have hlo : (c' : Int) < 65536:=by omega
       have hR : R = (0,0):=by rw [HR.out];simp [leastS,hl]
       subst hR
       clear HR hl
       go_wp2_with (first | (go_at_call 225;refine (hCh _).out.mono ?_;rintro e w1 ⟨rfl,rfl⟩))
       go_ret2
       exact ⟨rfl,Grows.alloc _ _⟩
      ·have hlo : ¬ (c' : Int) < 65536:=by omega
       cases ch
       ·have hR : R = (0,0):=by rw [HR.out];simp
        subst hR
        clear HR hl
        go_wp2_with (first | (go_at_call 225;refine (hCh _).out.mono ?_;rintro e w1 ⟨rfl,rfl⟩))
        go_ret2
        exact ⟨rfl,Grows.alloc _ _⟩
       ·have hR : R = (c',4):=by rw [HR.out];simp [leastS,hl]
        subst hR
        clear HR hl
        go_wp2_with (first | (go_at_call 225;refine (hCh _).out.mono ?_;rintro e w1 ⟨rfl,rfl⟩))
        go_ret2
        exact ⟨rfl,Grows.alloc _ _⟩
end Go.Proofs.YtepoiefadjoabaaGreatDoor
namespace Go.Proofs.YtepoiefadjoabaaGreatDoor
open Go Go.RowKit
attribute [local go_sem] quietE
def runeC (c : Nat) : List Value := [.int .i32 c]
theorem runeLay : ElemLay Tryz.prog 227 21 1 4 runeC where
 sl:=Tryz.underlying227
 info:=elem_info (z:=.int .i32 0) (by kernel_rfl) rfl
 pos:=by decide
 by1:=by decide
 len _:=rfl
 one x u hu:=by
  simp [runeC] at hu
  subst hu;rfl
theorem next_cases {s : ByteArray} {k : Nat} (hk : k < s.size) :
  ((nextS s k).2 = 0∧Lib.validD (s.data.toList.drop k) = false) ∨ (1 ≤ (nextS s k).2∧k + (nextS s k).2 ≤ s.size∧Lib.validD (s.data.toList.drop k) = Lib.validD (s.data.toList.drop (k + (nextS s k).2))∧runesD (s.data.toList.drop k) = (nextS s k).1 :: runesD (s.data.toList.drop (k + (nextS s k).2))):=by
 have hne : s.data.toList.drop k ≠ []:=fun e => drop_nil_iff.1 e hk
 have hd:=nextL_decode _ hne
 unfold nextS
 rw [hd,Lib.validD_step _ hne,runesD_step _ hne]
 by_cases hb : (Lib.decodeL (s.data.toList.drop k)).1 = 65533∧(Lib.decodeL (s.data.toList.drop k)).2 = 1
 ·rw [if_pos hb,if_pos hb];exact Or.inl ⟨rfl,rfl⟩
 ·rw [if_neg hb,if_neg hb,drop_more]
  have hs:=decodeN_small (s.data.toList.drop k).length ((s.data.toList.drop k).getD 0 0).toNat ((s.data.toList.drop k).getD 1 0).toNat ((s.data.toList.drop k).getD 2 0).toNat ((s.data.toList.drop k).getD 3 0).toNat (UInt8.toNat_lt _) (UInt8.toNat_lt _) (UInt8.toNat_lt _) (by rw [← Lib.decodeL_N];exact hb)
  rw [← Lib.decodeL_N] at hs
  refine Or.inr ⟨Lib.decodeL_width _, ?_,rfl,rfl⟩
  have hl : (s.data.toList.drop k).length = s.size - k:=by rw [List.length_drop,Lib.size_eq]
  rcases hs with ⟨_,h⟩ | ⟨_,h,_⟩
  ·rw [h];show k + 1 ≤ _;omega
  ·rw [hl] at h;omega
def RunesPost (s : ByteArray) (w : World) (e : Ending) (w' : World) : Prop :=
 ∃ a cap,e = .returned (.tuple #[.slice a (if Lib.validD s.data.toList then runesD s.data.toList else []).length cap,.bool (Lib.validD s.data.toList)])∧AtCells w' a 1 ((if Lib.validD s.data.toList then runesD s.data.toList else []).map runeC)∧Grows w w'
set_option maxHeartbeats 2000000 in
set_option maxRecDepth 100000 in
theorem runes_any (s : ByteArray) (w : World) (hs : s.size ≤ 35184372088832) :
  Calls Tryz.prog 173 #[.string s] w (RunesPost s w):=by
 go_enter Tryz.func173,Tryz.ntmps173
 go_wp2_with fail
 go_loopw [4,5] (fun v i wr => ∃ (k : Nat) (rs : List Nat),k ≤ s.size∧i = .int .i64 k∧Owns wr w.heap.size 21 1 runeC v rs∧Hid (Lib.validD s.data.toList = Lib.validD (s.data.toList.drop k)∧runesD s.data.toList = rs ++ runesD (s.data.toList.drop k))∧rs.length ≤ k∧Grows w wr) (fun _ i _ => s.size - (intOf i).toNat)
 case atStart => exact ⟨0,[],Nat.zero_le _,rfl,Owns.nil _ _ _ _ _,⟨rfl,rfl⟩,Nat.le_refl _,Grows.refl _⟩
 case round =>
  obtain ⟨k,rs,hk,rfl,hown,hinv,hrl,hg⟩:=hrel
  obtain ⟨a3,c3,rfl,hc1,hc2,hat⟩:=hown.at_ runeLay.len
  by_cases hlt : k < s.size
  ·have HN:=fun W => Lib.hid (next_any s k W (by omega) hlt)
   have hcs:=next_cases hlt
   generalize nextS s k = R at *
   obtain ⟨c,n⟩:=R
   simp only at HN hcs
   rcases hcs with ⟨h0,hv⟩ | ⟨h1,h2,hv,hr⟩
   ·subst h0
    have hbad : Lib.validD s.data.toList = false:=hinv.out.1.trans hv
    have HB:=Lib.hid hbad
    clear hbad hv hinv hat
    go_wp2_with (first | (go_at_call 210;refine (HN _).out.mono ?_;rintro e w1 ⟨rfl,hg1⟩))
    go_ret2
    unfold RunesPost
    rw [HB.out]
    exact ⟨none,0,rfl,AtCells.nil _ _ _,hg.tr hg1⟩
   ·have hinv2 : Lib.validD s.data.toList = Lib.validD (s.data.toList.drop (k + n))∧runesD s.data.toList = (rs ++ [c]) ++ runesD (s.data.toList.drop (k + n)):=⟨hinv.out.1.trans hv,by rw [hinv.out.2,hr];simp⟩
    have HI:=Lib.hid hinv2
    have hnb : ((n : Int) == 0) = false:=by rw [beq_eq_false_iff_ne];omega
    clear hinv hinv2 hv hr hat
    go_wp2_with (first | (go_at_call 210;refine (HN _).out.mono ?_;rintro e w1 ⟨rfl,hg1⟩) | (at_builtin;refine app_one runeLay rfl _ _ rfl w.heap.size _ _ c rfl (hown.grows hg1) (Grows.refl _) w1.heap.size 1 rfl #[.int .i32 c] rfl rfl (by omega) (hg.tr hg1).size ?_;intro v' w5 hown' hg5))
    have hgw5:=hg5 w (hg.tr hg1) (Nat.le_refl _)
    go_wp2
    go_roundw
    case rel => exact ⟨k + n,rs ++ [c],h2,by go_num,hown',HI.out,by simp;omega,hgw5⟩
    case measure => simp [intOf];omega
  ·obtain rfl : k = s.size:=by omega
   have hfin : Lib.validD s.data.toList = true∧runesD s.data.toList = rs:=by
    have:=hinv.out
    rw [show s.data.toList.drop s.size = [] by rw [Lib.size_eq,List.drop_length]] at this
    exact ⟨this.1,by rw [this.2,runesD_nil,List.append_nil]⟩
   have HF:=Lib.hid hfin
   clear hfin hinv
   go_wp2
   go_ret2
   unfold RunesPost
   rw [HF.out.1,HF.out.2,if_pos rfl]
   exact ⟨_,_,rfl,hat,hg⟩
end Go.Proofs.YtepoiefadjoabaaGreatDoor
