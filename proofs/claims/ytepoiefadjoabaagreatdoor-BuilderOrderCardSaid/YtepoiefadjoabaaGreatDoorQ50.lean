/- The texts PkDP, one behind the other. -/
import Derived.Test.YtepoiefadjoabaaGreatDoorQ24
import Derived.Test.YtepoiefadjoabaaGreatDoorQ39
namespace Go.Proofs.YtepoiefadjoabaaGreatDoor
open Go Go.RowKit
attribute [local go_sem] quietE quietE2
def wordsT (l : List Nat) (W k q : Nat) : List Nat := (List.range q).map fun Q => bitsN (fun p => decide (p < 8 * k) && bitAt l W p) (64 * Q) 64
theorem wordsT_len (l : List Nat) (W k q : Nat) : (wordsT l W k q).length = q := by simp [wordsT]
theorem wordsT_get {l : List Nat} {W k q Q : Nat} (h : Q < q) : (wordsT l W k q)[Q]? = some (bitsN (fun p => decide (p < 8 * k) && bitAt l W p) (64 * Q) 64) := by
 unfold wordsT
 rw [List.getElem?_map,List.getElem?_range h];rfl
theorem bitsN_zero (f : Nat → Bool) (b k : Nat) (h : ∀ t, t < k → f (b + t) = false) : bitsN f b k = 0 := by
 symm
 exact bitsN_eq (Nat.two_pow_pos _) fun t ht => by rw [h t ht];simp
theorem wordsT_zero (l : List Nat) (W q : Nat) : wordsT l W 0 q = List.replicate q 0 := by
 apply List.ext_getElem?
 intro i
 by_cases h : i < q
 ·rw [wordsT_get h,List.getElem?_replicate_of_lt h,bitsN_zero _ _ _ (fun t _ => by simp)]
 ·rw [List.getElem?_eq_none (by rw [wordsT_len];omega),List.getElem?_eq_none (by simp;omega)]
theorem bitAt_none {l : List Nat} {W p : Nat} (hl : ∀ x ∈ l, x < 2 ^ W) (h : l.length * W ≤ p) : bitAt l W p = false := by
 by_cases hW : W = 0
 ·subst hW
  unfold bitAt
  have : l.getD (p / 0) 0 = 0:=by
   rw [List.getD_eq_getElem?_getD]
   cases hx : l[p / 0]? with
   | none => rfl
   | some x => have:=hl x (List.mem_of_getElem? hx);simp at this;simp [this]
  rw [this];simp
 ·exact bitAt_end (by omega) h
theorem wordsT_all {l : List Nat} {W k q : Nat} (hl : ∀ x ∈ l, x < 2 ^ W) (h : l.length * W ≤ 8 * k) : wordsT l W k q = wordsP l W q := by
 unfold wordsT wordsP packW
 apply List.map_congr_left
 intro Q _
 apply bitsN_congr
 intro t _
 by_cases hp : 64 * Q + t < 8 * k
 ·simp [hp]
 ·rw [bitAt_none hl (by omega)];simp
theorem wordsT_bit {l : List Nat} {W k t : Nat} (ht : t < 64) :
  (bitsN (fun p => decide (p < 8 * k) && bitAt l W p) (64 * (k / 8)) 64 ||| (bitsN (bitAt l W) (8 * k) 8 <<< (k % 8 * 8)) % 18446744073709551616).testBit t = (decide (64 * (k / 8) + t < 8 * (k + 1)) && bitAt l W (64 * (k / 8) + t)):=by
 rw [Nat.testBit_or,bitsN_test,shl_test ht,bitsN_test]
 generalize hB : bitAt l W = B
 by_cases h1 : t < k % 8 * 8
 ·have e1 : 64 * (k / 8) + t < 8 * k:=by omega
  have e2 : ¬ k % 8 * 8 ≤ t:=by omega
  have e3 : 64 * (k / 8) + t < 8 * (k + 1):=by omega
  rw [decide_eq_true ht,decide_eq_true e1,decide_eq_false e2,decide_eq_true e3,Bool.false_and,Bool.or_false,Bool.true_and,Bool.true_and]
 ·have e1 : ¬ 64 * (k / 8) + t < 8 * k:=by omega
  have e2 : k % 8 * 8 ≤ t:=by omega
  rw [decide_eq_true ht,decide_eq_false e1,decide_eq_true e2,Bool.false_and,Bool.and_false,Bool.false_or,Bool.true_and]
  by_cases h2 : t < k % 8 * 8 + 8
  ·have e3 : t - k % 8 * 8 < 8:=by omega
   have e4 : 64 * (k / 8) + t < 8 * (k + 1):=by omega
   have e5 : 8 * k + (t - k % 8 * 8) = 64 * (k / 8) + t:=by omega
   rw [decide_eq_true e3,decide_eq_true e4,e5]
  ·have e3 : ¬ t - k % 8 * 8 < 8:=by omega
   have e4 : ¬ 64 * (k / 8) + t < 8 * (k + 1):=by omega
   rw [decide_eq_false e3,decide_eq_false e4,Bool.false_and,Bool.false_and]
theorem wordsT_step {l : List Nat} {W k q : Nat} (hq : k / 8 < q) :
  wordsT l W (k + 1) q = (wordsT l W k q).set (k / 8) (bitsN (fun p => decide (p < 8 * k) && bitAt l W p) (64 * (k / 8)) 64 ||| (bitsN (bitAt l W) (8 * k) 8 <<< (k % 8 * 8)) % 18446744073709551616):=by
 apply List.ext_getElem?
 intro i
 by_cases hi : i < q
 ·rw [wordsT_get hi]
  by_cases he : k / 8 = i
  ·rw [← he,List.getElem?_set_self (by rw [wordsT_len];exact hq)]
   refine congrArg some ?_
   symm
   exact bitsN_eq (Nat.or_lt_two_pow (n:=64) (bitsN_lt _ _ 64) (Nat.mod_lt _ (by decide))) fun t ht => wordsT_bit ht
  ·rw [List.getElem?_set_ne he,wordsT_get hi]
   refine congrArg some ?_
   apply bitsN_congr
   intro t ht
   generalize bitAt l W = B
   by_cases h1 : 64 * i + t < 8 * k
   ·have h2 : 64 * i + t < 8 * (k + 1):=by omega
    rw [decide_eq_true h1,decide_eq_true h2]
   ·have h2 : ¬ 64 * i + t < 8 * (k + 1):=by omega
    rw [decide_eq_false h1,decide_eq_false h2]
 ·rw [List.getElem?_eq_none (by rw [wordsT_len];omega),List.getElem?_eq_none (by rw [List.length_set,wordsT_len];omega)]
theorem i64_or_nat (a b : Nat) (ha : a < 4611686018427387904) (hb : b < 4611686018427387904) : bits .or .i64 (a : Int) (b : Int) = ((a ||| b : Nat) : Int) := by
 have hx : a ||| b < 2 ^ 62:=Nat.or_lt_two_pow (by omega) (by omega)
 show IntKind.i64.wrap ((BitVec.ofInt 64 (a : Int) ||| BitVec.ofInt 64 (b : Int)).toNat : Int) = _
 rw [BitVec.toNat_or,ofInt_u64 a (by omega),ofInt_u64 b (by omega)]
 generalize a ||| b = x at hx
 simp [IntKind.wrap,IntKind.bits,IntKind.signed]
 omega
theorem or_high {a c k : Nat} (h : a < 2 ^ k) : a ||| (c * 2 ^ k) = a + c * 2 ^ k := by
 rw [Nat.or_comm,Nat.mul_comm,← Nat.two_pow_add_eq_or_of_lt h,Nat.add_comm]
theorem four_or {b0 b1 b2 b3 : Nat} (h0 : b0 < 256) (h1 : b1 < 256) (h2 : b2 < 256) (h3 : b3 < 256) :
  bits .or .i64 (b0 : Int) ((b1 * 256 : Nat) : Int) = ((b0 + b1 * 256 : Nat) : Int)∧bits .or .i64 ((b0 + b1 * 256 : Nat) : Int) ((b2 * 65536 : Nat) : Int) = ((b0 + b1 * 256 + b2 * 65536 : Nat) : Int) ∧
  bits .or .i64 ((b0 + b1 * 256 + b2 * 65536 : Nat) : Int) ((b3 * 16777216 : Nat) : Int) = ((b0 + b1 * 256 + b2 * 65536 + b3 * 16777216 : Nat) : Int):=by
 refine ⟨?_, ?_, ?_⟩
 ·rw [i64_or_nat _ _ (by omega) (by omega),show b1 * 256 = b1 * 2 ^ 8 from rfl,or_high (by omega)]
 ·rw [i64_or_nat _ _ (by omega) (by omega),show b2 * 65536 = b2 * 2 ^ 16 from rfl,or_high (by omega)]
 ·rw [i64_or_nat _ _ (by omega) (by omega),show b3 * 16777216 = b3 * 2 ^ 24 from rfl,or_high (by omega)]
theorem wrap_nat {x : Nat} (h : x < 4611686018427387904) : IntKind.i64.wrap (x : Int) = x := by simp [IntKind.wrap, IntKind.bits, IntKind.signed]; omega
theorem four_ex {b0 b1 b2 b3 n : Nat} (h0 : b0 < 256) (h1 : b1 < 256) (h2 : b2 < 256) (h3 : b3 < 256) (hn : n = b0 + b1 * 256 + b2 * 65536 + b3 * 16777216) :
  ∃ c1 c2 c3 s1 s2 : Nat,IntKind.i64.wrap ((b1 : Int) * 256) = (c1 : Int)∧IntKind.i64.wrap ((b2 : Int) * 65536) = (c2 : Int)∧IntKind.i64.wrap ((b3 : Int) * 16777216) = (c3 : Int) ∧
   bits .or .i64 (b0 : Int) (c1 : Int) = (s1 : Int)∧bits .or .i64 (s1 : Int) (c2 : Int) = (s2 : Int)∧bits .or .i64 (s2 : Int) (c3 : Int) = (n : Int):=by
 obtain ⟨o1,o2,o3⟩:=four_or h0 h1 h2 h3
 refine ⟨b1 * 256,b2 * 65536,b3 * 16777216,b0 + b1 * 256,b0 + b1 * 256 + b2 * 65536, ?_, ?_, ?_,o1,o2, ?_⟩
 ·have:=wrap_nat (x:=b1 * 256) (by omega)
  rwa [Int.natCast_mul] at this
 ·have:=wrap_nat (x:=b2 * 65536) (by omega)
  rwa [Int.natCast_mul] at this
 ·have:=wrap_nat (x:=b3 * 16777216) (by omega)
  rwa [Int.natCast_mul] at this
 ·rw [o3,hn]
theorem packE_head (l : List Nat) : ∃ b0 b1 b2 b3 : Nat, packE l = [UInt8.ofNat b0, UInt8.ofNat b1, UInt8.ofNat b2, UInt8.ofNat b3, UInt8.ofNat (widL l)] ++ packB l ∧ b0 < 256 ∧ b1 < 256 ∧ b2 < 256 ∧ b3 < 256 ∧ (l.length < 4294967296 → l.length = b0 + b1 * 256 + b2 * 65536 + b3 * 16777216) := by
 refine ⟨l.length % 256,l.length / 256 % 256,l.length / 65536 % 256,l.length / 16777216 % 256, ?_,by omega,by omega,by omega,by omega,fun h => by omega⟩
 unfold packE leB
 simp [List.range,List.range.loop,ofNat_mod]
end Go.Proofs.YtepoiefadjoabaaGreatDoor
