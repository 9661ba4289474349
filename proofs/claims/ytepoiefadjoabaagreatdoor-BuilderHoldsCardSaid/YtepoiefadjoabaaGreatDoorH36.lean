/- The texts SecC PkDP PosD RefX Bid, one behind the other. -/
import Derived.Test.YtepoiefadjoabaaGreatDoorH35
import Derived.Test.YtepoiefadjoabaaGreatDoorH27
import Derived.Test.YtepoiefadjoabaaGreatDoorH22
import Derived.Test.YtepoiefadjoabaaGreatDoorH24
import Derived.Test.YtepoiefadjoabaaGreatDoorH5
import Derived.Test.YtepoiefadjoabaaGreatDoorH25
import Derived.Test.YtepoiefadjoabaaGreatDoorH21
import Derived.Test.YtepoiefadjoabaaGreatDoorH12
import Derived.Test.YtepoiefadjoabaaGreatDoorH13
import Derived.Maps.Own
import Derived.Carry
namespace Go.Proofs.YtepoiefadjoabaaGreatDoor
open Go Go.RowKit Go.Shelf
attribute [local go_sem] quietE quietE2
theorem secn_eg : ∀ args w, (callFunc 103 args).run Tryz.prog w = .ok (.enter 103 args) w := enters_of Tryz.func103 (by kernel_rfl) rfl
set_option maxHeartbeats 4000000 in
set_option maxRecDepth 100000 in
theorem secn_any (b : List UInt8) (ba : Option Addr) (bc k v n pb pa po most : Nat) (w : World) (hk : k ≤ b.length) (hb : b.length ≤ 1099511627776) (hat : AtCells w ba 1 (b.map byteC)) (hR : rdU (b.drop k) = some (v, n)) (hv : v ≤ most) (hm : most ≤ 1099511627776)
  (cb : w.cell? ⟨pb,0,none⟩ = some (.slice ba b.length bc)) (ca : w.cell? ⟨pa,0,none⟩ = some (.int .i64 k)) (co : w.cell? ⟨po,0,none⟩ = some (.bool true)) (fa : w.frozen? ⟨pa,0,none⟩ = false) :
  Calls Tryz.prog 103 #[.int .i64 most,.pointer (some ⟨pb,0,none⟩),.pointer (some ⟨pa,0,none⟩),.pointer (some ⟨po,0,none⟩)] w fun e w' => e = .returned (.int .i64 v)∧∃ w1,Grows w w1∧w' = w1.setCell ⟨pa,0,none⟩ (.int .i64 ((k + n : Nat) : Int)):=by
 have CU:=Lib.hid (uint_any b k ba bc w hk hb hat)
 rw [hR] at CU
 unfold uintR at CU
 have hpa:=World.block_lt_of_cell? w _ ca
 obtain ⟨K,hK⟩ : ∃ K,K = k + n:=⟨_,rfl⟩
 simp only [← hK] at CU ⊢
 clear hR hat hK
 have wm : IntKind.u64.wrap (most : Int) = most:=by simp [IntKind.wrap,IntKind.bits,IntKind.signed];omega
 have wv : IntKind.i64.wrap (v : Int) = v:=by simp [IntKind.wrap,IntKind.bits,IntKind.signed];omega
 have hvm : ¬ (most : Int) < v:=by omega
 go_enter Tryz.func103,Tryz.ntmps103
 go_wp2_with fail
 refine CU.out.mono ?_
 rintro e w1 ⟨rfl,hg1⟩
 have ca1:=hg1.cell ca
 have co1:=hg1.cell co
 have fa1:=(hg1.froz (p:=⟨pa,0,none⟩) hpa).trans fa
 go_wp2_with fail
 go_ret
 exact ⟨rfl,w1,hg1,rfl⟩
set_option maxHeartbeats 4000000 in
set_option maxRecDepth 100000 in
theorem bclone_any (l : List UInt8) (a : Option Addr) (c : Nat) (w : World) (hl : l.length ≤ 1099511627776) (hn : a = none → c = 0) (hat : AtCells w a 1 (l.map byteC)) :
  Calls Tryz.prog 106 #[.slice a l.length c] w fun e w' => ∃ v,e = .returned v∧Owns w' w.heap.size 5 1 byteC v l∧Grows w w':=by
 cases a with
 | none =>
  have hl0 : l = []:=Decidable.byContradiction fun h => by
   obtain ⟨_,_,e,_⟩:=hat (by simpa using h)
   cases e
  subst hl0
  obtain rfl:=hn rfl
  have hcmp : ∀ W : World,(binOp .eql 28 (.slice none 0 0) (.slice none 0 0)).run Tryz.prog W = .ok (.bool true) W:=fun W => by rfl
  go_enter Tryz.func106,Tryz.ntmps106
  go_wp2_with fail
  go_ret
  exact ⟨_,rfl,Owns.nil _ _ _ _ _,Grows.refl _⟩
 | some q =>
  have HSRC:=Lib.hid (hat.grows (Grows.alloc w (.cells #[] 5)))
  clear hat hn
  have hcmp : ∀ W : World,(binOp .eql 28 (.slice (some q) l.length c) (.slice none 0 0)).run Tryz.prog W = .ok (.bool false) W:=fun W => by rfl
  go_enter Tryz.func106,Tryz.ntmps106
  go_wp2_with (at_builtin;refine app_many byteLay rfl _ _ rfl w.heap.size _ [] l rfl (owns_lit w.heap.size (Nat.le_refl _)) (Grows.refl _) (some q) c rfl HSRC.out (fun h => by cases h) (by simp;omega) (by simp) ?_;intro v' w3 hown3 hg3)
  rw [List.nil_append] at hown3
  have hgx:=hg3 w (Grows.alloc _ _) (Nat.le_refl _)
  go_wp2_with fail
  go_ret
  exact ⟨_,rfl,hown3,hgx⟩
set_option maxHeartbeats 4000000 in
set_option maxRecDepth 100000 in
theorem bequal_any (l m : List UInt8) (a b : Option Addr) (c d : Nat) (w : World) (h1 : AtCells w a 1 (l.map byteC)) (h2 : AtCells w b 1 (m.map byteC)) :
  Calls Tryz.prog 57 #[.slice a l.length c,.slice b m.length d] w fun e w' => e = .returned (.bool (decide (l = m)))∧w = w':=by
 have v1 : (convert 28 9 (.slice a l.length c)).run Tryz.prog w = .ok (.string (mkB l)) w:=conv_at2 h1
 have v2 : (convert 28 9 (.slice b m.length d)).run Tryz.prog w = .ok (.string (mkB m)) w:=conv_at2 h2
 by_cases h : l = m
 ·have e1 : ((mkB l).toList == (mkB m).toList) = true:=by rw [h];simp
  have HH:=Lib.hid h
  clear h
  go_enter Tryz.func57,Tryz.ntmps57
  go_wp2_with fail
  go_ret
  exact ⟨by simp [HH.out],rfl⟩
 ·have e1 : ((mkB l).toList == (mkB m).toList) = false:=by
   rw [beq_eq_false_iff_ne]
   intro he
   exact h (by have:=congrArg (·.data.toList) (toList_inj he);simpa [mkB_data] using this)
  have HH:=Lib.hid h
  clear h
  go_enter Tryz.func57,Tryz.ntmps57
  go_wp2_with fail
  go_ret
  exact ⟨by simp [HH.out],rfl⟩
end Go.Proofs.YtepoiefadjoabaaGreatDoor
namespace Go.Proofs.YtepoiefadjoabaaGreatDoor
open Go Go.RowKit
attribute [local go_sem] quietE quietE2
def wordsT (l : List Nat) (W k q : Nat) : List Nat := (List.range q).map fun Q => bitsN (fun p => decide (p < 8 * k) && bitAt l W p) (64 * Q) 64
theorem wordsT_len (l : List Nat) (W k q : Nat) : (wordsT l W k q).length = q := by simp [wordsT]
theorem wordsT_get {l : List Nat} {W k q Q : Nat} (h : Q < q) : (wordsT l W k q)[Q]? = some (bitsN (fun p => decide (p < 8 * k) && bitAt l W p) (64 * Q) 64) := by
 unfold wordsT
 rw [List.getElem?_map,List.getElem?_range h];rfl
theorem bitsN_zero (f : Nat → Bool) (b k : Nat) (h : ∀ t, t < k → f (b + t) = false) : bitsN f b k = 0 := by
 symm
 exact bitsN_eq (Nat.two_pow_pos _) fun t ht => by rw [h t ht];simp
theorem wordsT_zero (l : List Nat) (W q : Nat) : wordsT l W 0 q = List.replicate q 0 := by
 apply List.ext_getElem?
 intro i
 by_cases h : i < q
 ·rw [wordsT_get h,List.getElem?_replicate_of_lt h,bitsN_zero _ _ _ (fun t _ => by simp)]
 ·rw [List.getElem?_eq_none (by rw [wordsT_len];omega),List.getElem?_eq_none (by simp;omega)]
theorem bitAt_none {l : List Nat} {W p : Nat} (hl : ∀ x ∈ l, x < 2 ^ W) (h : l.length * W ≤ p) : bitAt l W p = false := by
 by_cases hW : W = 0
 ·subst hW
  unfold bitAt
  have : l.getD (p / 0) 0 = 0:=by
   rw [List.getD_eq_getElem?_getD]
   cases hx : l[p / 0]? with
   | none => rfl
   | some x => have:=hl x (List.mem_of_getElem? hx);simp at this;simp [this]
  rw [this];simp
 ·exact bitAt_end (by omega) h
theorem wordsT_all {l : List Nat} {W k q : Nat} (hl : ∀ x ∈ l, x < 2 ^ W) (h : l.length * W ≤ 8 * k) : wordsT l W k q = wordsP l W q := by
 unfold wordsT wordsP packW
 apply List.map_congr_left
 intro Q _
 apply bitsN_congr
 intro t _
 by_cases hp : 64 * Q + t < 8 * k
 ·simp [hp]
 ·rw [bitAt_none hl (by omega)];simp
theorem wordsT_bit {l : List Nat} {W k t : Nat} (ht : t < 64) :
  (bitsN (fun p => decide (p < 8 * k) && bitAt l W p) (64 * (k / 8)) 64 ||| (bitsN (bitAt l W) (8 * k) 8 <<< (k % 8 * 8)) % 18446744073709551616).testBit t = (decide (64 * (k / 8) + t < 8 * (k + 1)) && bitAt l W (64 * (k / 8) + t)):=by
 rw [Nat.testBit_or,bitsN_test,shl_test ht,bitsN_test]
 generalize hB : bitAt l W = B
 by_cases h1 : t < k % 8 * 8
 ·have e1 : 64 * (k / 8) + t < 8 * k:=by omega
  have e2 : ¬ k % 8 * 8 ≤ t:=by omega
  have e3 : 64 * (k / 8) + t < 8 * (k + 1):=by omega
  rw [decide_eq_true ht,decide_eq_true e1,decide_eq_false e2,decide_eq_true e3,Bool.false_and,Bool.or_false,Bool.true_and,Bool.true_and]
 ·have e1 : ¬ 64 * (k / 8) + t < 8 * k:=by omega
  have e2 : k % 8 * 8 ≤ t:=by omega
  rw [decide_eq_true ht,decide_eq_false e1,decide_eq_true e2,Bool.false_and,Bool.and_false,Bool.false_or,Bool.true_and]
  by_cases h2 : t < k % 8 * 8 + 8
  ·have e3 : t - k % 8 * 8 < 8:=by omega
   have e4 : 64 * (k / 8) + t < 8 * (k + 1):=by omega
   have e5 : 8 * k + (t - k % 8 * 8) = 64 * (k / 8) + t:=by omega
   rw [decide_eq_true e3,decide_eq_true e4,e5]
  ·have e3 : ¬ t - k % 8 * 8 < 8:=by omega
   have e4 : ¬ 64 * (k / 8) + t < 8 * (k + 1):=by omega
   rw [decide_eq_false e3,decide_eq_false e4,Bool.false_and,Bool.false_and]
theorem wordsT_step {l : List Nat} {W k q : Nat} (hq : k / 8 < q) :
  wordsT l W (k + 1) q = (wordsT l W k q).set (k / 8) (bitsN (fun p => decide (p < 8 * k) && bitAt l W p) (64 * (k / 8)) 64 ||| (bitsN (bitAt l W) (8 * k) 8 <<< (k % 8 * 8)) % 18446744073709551616):=by
 apply List.ext_getElem?
 intro i
 by_cases hi : i < q
 ·rw [wordsT_get hi]
  by_cases he : k / 8 = i
  ·rw [← he,List.getElem?_set_self (by rw [wordsT_len];exact hq)]
   refine congrArg some ?_
   symm
   exact bitsN_eq (Nat.or_lt_two_pow (n:=64) (bitsN_lt _ _ 64) (Nat.mod_lt _ (by decide))) fun t ht => wordsT_bit ht
  ·rw [List.getElem?_set_ne he,wordsT_get hi]
   refine congrArg some ?_
   apply bitsN_congr
   intro t ht
   generalize bitAt l W = B
   by_cases h1 : 64 * i + t < 8 * k
   ·have h2 : 64 * i + t < 8 * (k + 1):=by omega
    rw [decide_eq_true h1,decide_eq_true h2]
   ·have h2 : ¬ 64 * i + t < 8 * (k + 1):=by omega
    rw [decide_eq_false h1,decide_eq_false h2]
 ·rw [List.getElem?_eq_none (by rw [wordsT_len];omega),List.getElem?_eq_none (by rw [List.length_set,wordsT_len];omega)]
theorem i64_or_nat (a b : Nat) (ha : a < 4611686018427387904) (hb : b < 4611686018427387904) : bits .or .i64 (a : Int) (b : Int) = ((a ||| b : Nat) : Int) := by
 have hx : a ||| b < 2 ^ 62:=Nat.or_lt_two_pow (by omega) (by omega)
 show IntKind.i64.wrap ((BitVec.ofInt 64 (a : Int) ||| BitVec.ofInt 64 (b : Int)).toNat : Int) = _
 rw [BitVec.toNat_or,ofInt_u64 a (by omega),ofInt_u64 b (by omega)]
 generalize a ||| b = x at hx
 simp [IntKind.wrap,IntKind.bits,IntKind.signed]
 omega
theorem or_high {a c k : Nat} (h : a < 2 ^ k) : a ||| (c * 2 ^ k) = a + c * 2 ^ k := by
 rw [Nat.or_comm,Nat.mul_comm,← Nat.two_pow_add_eq_or_of_lt h,Nat.add_comm]
theorem four_or {b0 b1 b2 b3 : Nat} (h0 : b0 < 256) (h1 : b1 < 256) (h2 : b2 < 256) (h3 : b3 < 256) :
  bits .or .i64 (b0 : Int) ((b1 * 256 : Nat) : Int) = ((b0 + b1 * 256 : Nat) : Int)∧bits .or .i64 ((b0 + b1 * 256 : Nat) : Int) ((b2 * 65536 : Nat) : Int) = ((b0 + b1 * 256 + b2 * 65536 : Nat) : Int) ∧
  bits .or .i64 ((b0 + b1 * 256 + b2 * 65536 : Nat) : Int) ((b3 * 16777216 : Nat) : Int) = ((b0 + b1 * 256 + b2 * 65536 + b3 * 16777216 : Nat) : Int):=by
 refine ⟨?_, ?_, ?_⟩
 ·rw [i64_or_nat _ _ (by omega) (by omega),show b1 * 256 = b1 * 2 ^ 8 from rfl,or_high (by omega)]
 ·rw [i64_or_nat _ _ (by omega) (by omega),show b2 * 65536 = b2 * 2 ^ 16 from rfl,or_high (by omega)]
 ·rw [i64_or_nat _ _ (by omega) (by omega),show b3 * 16777216 = b3 * 2 ^ 24 from rfl,or_high (by omega)]
theorem wrap_nat {x : Nat} (h : x < 4611686018427387904) : IntKind.i64.wrap (x : Int) = x := by simp [IntKind.wrap, IntKind.bits, IntKind.signed]; omega
theorem four_ex {b0 b1 b2 b3 n : Nat} (h0 : b0 < 256) (h1 : b1 < 256) (h2 : b2 < 256) (h3 : b3 < 256) (hn : n = b0 + b1 * 256 + b2 * 65536 + b3 * 16777216) :
  ∃ c1 c2 c3 s1 s2 : Nat,IntKind.i64.wrap ((b1 : Int) * 256) = (c1 : Int)∧IntKind.i64.wrap ((b2 : Int) * 65536) = (c2 : Int)∧IntKind.i64.wrap ((b3 : Int) * 16777216) = (c3 : Int) ∧
   bits .or .i64 (b0 : Int) (c1 : Int) = (s1 : Int)∧bits .or .i64 (s1 : Int) (c2 : Int) = (s2 : Int)∧bits .or .i64 (s2 : Int) (c3 : Int) = (n : Int):=by
 obtain ⟨o1,o2,o3⟩:=four_or h0 h1 h2 h3
 refine ⟨b1 * 256,b2 * 65536,b3 * 16777216,b0 + b1 * 256,b0 + b1 * 256 + b2 * 65536, ?_, ?_, ?_,o1,o2, ?_⟩
 ·have:=wrap_nat (x:=b1 * 256) (by omega)
  rwa [Int.natCast_mul] at this
 ·have:=wrap_nat (x:=b2 * 65536) (by omega)
  rwa [Int.natCast_mul] at this
 ·have:=wrap_nat (x:=b3 * 16777216) (by omega)
  rwa [Int.natCast_mul] at this
 ·rw [o3,hn]
theorem packE_head (l : List Nat) : ∃ b0 b1 b2 b3 : Nat, packE l = [UInt8.ofNat b0, UInt8.ofNat b1, UInt8.ofNat b2, UInt8.ofNat b3, UInt8.ofNat (widL l)] ++ packB l ∧ b0 < 256 ∧ b1 < 256 ∧ b2 < 256 ∧ b3 < 256 ∧ (l.length < 4294967296 → l.length = b0 + b1 * 256 + b2 * 65536 + b3 * 16777216) := by
 refine ⟨l.length % 256,l.length / 256 % 256,l.length / 65536 % 256,l.length / 16777216 % 256, ?_,by omega,by omega,by omega,by omega,fun h => by omega⟩
 unfold packE leB
 simp [List.range,List.range.loop,ofNat_mod]
end Go.Proofs.YtepoiefadjoabaaGreatDoor
namespace Go.Proofs.YtepoiefadjoabaaGreatDoor
open Go Go.RowKit Go.Shelf
attribute [local go_sem] quietE quietE2
theorem posInfoD : ∃ i, Tryz.prog.info? 60 = some i ∧ ∃ z, i.zero = some z ∧ i.size = 2 ∧ i.bytes = 24 ∧ z.cells.size = 2 := by
 have h : (Tryz.prog.info? 60).map (fun i => (i.zero,i.size,i.bytes)) = some (some (.agg #[.string ⟨#[]⟩,.int .i64 0]),2,24):=by kernel_rfl
 cases hi : Tryz.prog.info? 60 with
 | none => rw [hi] at h;cases h
 | some i =>
  rw [hi] at h
  simp only [Option.map_some,Option.some.injEq,Prod.mk.injEq] at h
  exact ⟨i,rfl,_,h.1,h.2.1,h.2.2,rfl⟩
theorem posLayD : ElemLay Tryz.prog 22 60 2 24 posCells where
 sl:=Tryz.underlying22
 info:=by obtain ⟨i,h1,z,h2,h3,h4,h5⟩:=posInfoD;exact ⟨i,z,h1,h2,h3,h4,h5⟩
 pos:=by decide
 by1:=by decide
 len:=fun _ => rfl
 one:=fun x u hu => by
  simp only [posCells,List.mem_cons,List.not_mem_nil,or_false] at hu
  rcases hu with rfl | rfl <;> rfl
def pposP (p : List PosV) (i : Nat) : Nat := (putU p.length ++ (p.take i).flatMap posOne).length
theorem pposP_zero (p : List PosV) : pposP p 0 = (putU p.length).length := by simp [pposP]
theorem pposP_succ {p : List PosV} {i : Nat} {x : PosV} (h : p[i]? = some x) : pposP p (i + 1) = pposP p i + (putS x.name).length + (putU x.kind.toNat).length := by
 unfold pposP
 have h2 : (posOne x).length = (putS x.name).length + (putU x.kind.toNat).length:=by rw [posOne,List.length_append]
 rw [takeSnoc h,posE_snoc,← List.append_assoc,List.length_append,h2]
 omega
theorem pposP_end (p : List PosV) : pposP p p.length = (posE p).length := by unfold pposP posE; rw [List.take_length]
theorem pposE_drop {p : List PosV} {i : Nat} {x : PosV} (h : p[i]? = some x) : (posE p).drop (pposP p i) = putS x.name ++ (putU x.kind.toNat ++ (p.drop (i + 1)).flatMap posOne) := by
 have hi:=(List.getElem?_eq_some_iff.1 h).1
 have e : posE p = (putU p.length ++ (p.take i).flatMap posOne) ++ (posOne x ++ (p.drop (i + 1)).flatMap posOne):=by
  unfold posE
  have h1 : p.flatMap posOne = (p.take i).flatMap posOne ++ (p.drop i).flatMap posOne:=by rw [← List.flatMap_append,List.take_append_drop]
  rw [h1,List.drop_eq_getElem_cons hi,(List.getElem?_eq_some_iff.1 h).2,List.flatMap_cons,List.append_assoc]
 unfold pposP
 rw [e,List.drop_left,posOne,List.append_assoc]
theorem pposP_le {p : List PosV} {i : Nat} : pposP p i ≤ (posE p).length := by
 unfold pposP posE
 have h1 : p.flatMap posOne = (p.take i).flatMap posOne ++ (p.drop i).flatMap posOne:=by rw [← List.flatMap_append,List.take_append_drop]
 rw [h1,List.length_append,List.length_append,List.length_append]
 omega
set_option maxHeartbeats 2000000 in
set_option maxRecDepth 100000 in
theorem posdec_any (p : List PosV) (ba : Option Addr) (bc : Nat) (w : World) (hv : posValid p = true) (hbl : (posE p).length ≤ 1099511627776) (hbc : (posE p).length ≤ bc) (hnc : ba = none → bc = 0) (hat : AtCells w ba 1 ((posE p).map byteC)) :
  Calls Tryz.prog 67 #[.slice ba (posE p).length bc] w fun e w' => ∃ v,e = .returned (.tuple #[v,.int .i64 0])∧Owns w' w.heap.size 60 2 posCells v p∧Grows w w':=by
 obtain ⟨hl64,hall⟩:=posValid_all hv
 have C0 : Hid (Calls Tryz.prog 104 #[.slice ba (posE p).length bc,.int .i64 0] w fun e w' => e = .returned (.tuple #[.int .u64 (p.length : Nat),.int .i64 (pposP p 0 : Nat),.bool true])∧Grows w w'):=by
  have h:=uint_any (posE p) 0 ba bc w (Nat.zero_le _) hbl hat
  rw [List.drop_zero,show rdU (posE p) = some (p.length,(putU p.length).length) from rdU_put (by omega) _,uintR,Nat.zero_add,← pposP_zero] at h
  exact h
 have CT : ∀ (i : Nat) (x : PosV) (u : World),p[i]? = some x → Grows w u → Hid (Calls Tryz.prog 105 #[.slice ba (posE p).length bc,.int .i64 (pposP p i : Nat)] u fun e w' => e = .returned (.tuple #[.string x.name,.int .i64 (pposP p i + (putS x.name).length : Nat),.bool true])∧Grows u w'):=fun i x u hx hu => by
  have h:=text_any12 (posE p) (pposP p i) ba bc u pposP_le hbl hbc hnc (hat.grows hu)
  have hs:=(hall x (List.mem_of_getElem? hx)).1
  rw [pposE_drop hx,rdT_put (by omega),textR] at h
  exact h
 have CU : ∀ (i : Nat) (x : PosV) (u : World),p[i]? = some x → Grows w u → Hid (Calls Tryz.prog 104 #[.slice ba (posE p).length bc,.int .i64 (pposP p i + (putS x.name).length : Nat)] u fun e w' => e = .returned (.tuple #[.int .u64 (x.kind.toNat : Nat),.int .i64 (pposP p (i + 1) : Nat),.bool true])∧Grows u w'):=fun i x u hx hu => by
  have hs:=(hall x (List.mem_of_getElem? hx)).2
  have hle : pposP p i + (putS x.name).length ≤ (posE p).length:=by
   have:=pposP_le (p:=p) (i:=i + 1)
   rw [pposP_succ hx] at this
   omega
  have h:=uint_any (posE p) (pposP p i + (putS x.name).length) ba bc u hle hbl (hat.grows hu)
  rw [← List.drop_drop,pposE_drop hx,List.drop_left,rdU_put (by omega),uintR,← pposP_succ hx] at h
  exact h
 have HALL:=Lib.hid hall
 have HEND:=Lib.hid (pposP_end p)
 have HV:=Lib.hid hv
 obtain ⟨N,hN⟩ : ∃ N,N = (posE p).length:=⟨_,rfl⟩
 rw [← hN] at C0 CT CU HEND ⊢
 obtain ⟨n,hn⟩ : ∃ n,n = p.length:=⟨_,rfl⟩
 have HNL:=Lib.hid hn
 rw [← hn] at C0 hl64
 have h64 : ¬ (64 : Int) < n:=by omega
 clear hat hall hv hbl hbc hnc hN hn
 go_enter Tryz.func67,Tryz.ntmps67
 go_wp2_with fail
 refine C0.out.mono ?_
 rintro e w1 ⟨rfl,hg1⟩
 clear C0
 go_wp2_with fail
 go_loopw [5,7,27] (fun vA v i wr => ∃ k : Nat,k ≤ n∧i = .int .u64 k∧vA = .int .i64 (pposP p k : Nat)∧Hid (Owns wr w.heap.size 60 2 posCells v (p.take k))∧Hid (Grows w wr)) (fun _ _ i _ => n - (intOf i).toNat)
 case atStart => exact ⟨0,Nat.zero_le _,rfl,rfl,Owns.nil _ _ _ _ _,hg1⟩
 case round =>
  clear hg1
  obtain ⟨k,hk,rfl,rfl,hown,hg⟩:=hrel
  by_cases hlt : k < n
  ·have hki : (k : Int) < n:=by omega
   obtain ⟨⟨nm,kd⟩,hx⟩ : ∃ x,p[k]? = some x:=⟨_,List.getElem?_eq_getElem (by have:=HNL.out;omega)⟩
   have HX:=Lib.hid hx
   obtain ⟨hs,hk0,hk2⟩:=HALL.out _ (List.mem_of_getElem? hx)
   simp only at hs hk0 hk2
   obtain ⟨K,rfl⟩ : ∃ K : Nat,kd = (K : Int):=⟨kd.toNat,by omega⟩
   have CT1:=CT k _ wr hx hg.out
   simp only at CT1
   clear hx
   go_wp2_with fail
   refine CT1.out.mono ?_
   rintro e w2 ⟨rfl,hg2⟩
   have CU1:=CU k _ w2 HX.out (hg.out.tr hg2)
   simp only [Int.toNat_natCast] at CU1
   clear CT1
   go_wp2_with fail
   refine CU1.out.mono ?_
   rintro e w3 ⟨rfl,hg3⟩
   clear CU1
   have hK2 : ¬ (2 : Int) < K:=by omega
   have wK : IntKind.i64.wrap (K : Int) = K:=by simp [IntKind.wrap,IntKind.bits,IntKind.signed];omega
   have htl : (p.take k).length = k:=by rw [List.length_take];have:=HNL.out;omega
   have hown3:=(hown.out.grows hg2).grows hg3
   have hgw3:=(hg.out.tr hg2).tr hg3
   have HT:=Lib.hid (takeSnoc HX.out)
   generalize p.take k = acc at hown3 HT htl
   go_wp2_with (at_builtin;refine app_one5 posLayD rfl _ _ rfl w.heap.size _ acc ⟨nm,(K : Int)⟩ rfl hown3 (Grows.refl _) _ 1 rfl #[.string nm,.int .i64 K] rfl rfl (by omega) hgw3.size ?_;intro v5 w5 hown5 _ _ hg5)
   have HG5:=hg5 w hgw3 (Nat.le_refl _)
   rw [← HT.out] at hown5
   go_wp2_with fail
   go_roundw
   case rel => exact ⟨k + 1,hlt,by go_num,rfl,hown5,HG5⟩
   case measure => simp [intOf];omega
  ·obtain rfl : k = n:=by omega
   have ho:=hown.out
   rw [List.take_of_length_le (by have:=HNL.out;omega)] at ho
   obtain ⟨a,c,rfl,_,_,hat2⟩:=ho.at_ posLayD.len
   have CC:=Lib.hid (check_any p a c wr hat2 (by have:=HNL.out;omega))
   rw [HV.out] at CC
   have HO:=Lib.hid ho
   have e1 : pposP p k = N:=by rw [HNL.out];exact HEND.out
   rw [e1]
   clear ho hat2 hown e1
   go_wp2_with fail
   refine CC.out.mono ?_
   rintro e w6 ⟨rfl,hg6⟩
   go_wp2
   go_ret2
   exact ⟨_,rfl,HO.out.grows hg6,hg.out.tr hg6⟩
end Go.Proofs.YtepoiefadjoabaaGreatDoor
namespace Go.Proofs.YtepoiefadjoabaaGreatDoor
open Go Go.RowKit
attribute [local go_sem] quietE
end Go.Proofs.YtepoiefadjoabaaGreatDoor
namespace Go.Proofs.YtepoiefadjoabaaGreatDoor
open Go Go.RowKit Go.Shelf
attribute [local go_sem] quietE quietE2
theorem zeroI3 (w : World) : (zeroValue 3).run Tryz.prog w = .ok (.int .i64 0) w := by kernel_rfl
def IdM (L : List ByteArray) (k : Nat) (D : DataW Unit) : Prop := ∀ i s, i < k → L[i]? = some s → D.atKey (.string s.data.toList) (.lit (.int .i64 0)) = .lit (.int .i64 i)
theorem idM_look {w : World} {b n k i : Nat} {D : DataW Unit} {L : List ByteArray} {s : ByteArray} (hM : IdM L k D) (hown : w.ownsMap Tryz.prog 9 (plainElem Tryz.prog 3) b n D) (hi : i < k) (hx : L[i]? = some s) (hs : s.size ≤ maxLen) :
  (Instr.lookup 78 (.map (some b)) (.string s) false).run Tryz.prog w = .ok (.int .i64 i) w:=by
 obtain ⟨c,hrun,hat,_⟩:=hown.lookup_int (Maps.string_keyed Tryz.underlying9) Tryz.underlying78 Tryz.underlying3 (zeroI3 w) (WideMaps.keyOf_string_mk Tryz.underlying9 hs)
 rw [hM i s hi hx] at hat
 have : (i : Int) = c:=by simpa using hat
 rw [this];exact hrun
theorem idM_zero (L : List ByteArray) (D : DataW Unit) : IdM L 0 D := fun i _ h => absurd h (Nat.not_lt_zero i)
theorem idM_put {b n k : Nat} {w : World} {D : DataW Unit} {L : List ByteArray} {s : ByteArray} (hM : IdM L k D) (hown : w.ownsMap Tryz.prog 9 (plainElem Tryz.prog 3) b n D) (hd : L.Nodup) (hx : L[k]? = some s) : IdM L (k + 1) (D.put (.string s.data.toList) (.lit (.int .i64 k))) := fun i t hi ht => by
 by_cases h : i = k
 ·subst h
  obtain rfl : s = t:=by rw [hx] at ht;exact Option.some.inj ht
  rw [Maps.atKey_put_same hown.isMap (k:=.string s.data.toList) trivial]
 ·have hne : (Lit.string t.data.toList) ≠ .string s.data.toList:=fun h2 => h (by
   injection h2 with h3
   have h4 : t = s:=bytes_ext h3
   obtain ⟨hi1,hi2⟩:=List.getElem?_eq_some_iff.1 ht
   obtain ⟨hk1,hk2⟩:=List.getElem?_eq_some_iff.1 hx
   exact (List.getElem_inj hd).1 (by rw [hi2,hk2,h4]))
  rw [Maps.atKey_put_other hne,hM i t (by omega) ht]
structure IdAt (w : World) (ib : Nat) (L : List ByteArray) : Prop where
 ex : ∃ mb n D,w.cell? ⟨ib,0,none⟩ = some (.map (some mb))∧w.ownsMap Tryz.prog 9 (plainElem (H:=Unit) Tryz.prog 3) mb n D∧IdM L L.length D
theorem IdAt.grows {w w' : World} {ib : Nat} {L : List ByteArray} (h : IdAt w ib L) (hg : Grows w w') : IdAt w' ib L := by
 obtain ⟨mb,n,D,h1,h2,h3⟩:=h.ex
 exact ⟨mb,n,D,hg.cell h1,ownsMap_grows h2 hg,h3⟩
set_option maxHeartbeats 2000000 in
set_option maxRecDepth 100000 in
theorem bcl7_any (L : List ByteArray) (ib i : Nat) (x : En) (w : World) (h : IdAt w ib L) (hx : L[i]? = some x.s) (hs : x.s.size ≤ maxLen) :
  Calls Tryz.prog 48 #[x.agg,.pointer (some ⟨ib,0,none⟩)] w fun e w' => e = .returned (.int .i64 i)∧Grows w w':=by
 obtain ⟨xr,xs,xl,xt,xc⟩:=x
 obtain ⟨mb,n,D,h1,h2,h3⟩:=h.ex
 simp only at hx hs
 have c1 : (w.alloc (.cells #[.string xr,.string xs,.int .i64 xl,.int .i64 xt,.int .i64 xc] 38)).cell? ⟨ib,0,none⟩ = some (.map (some mb)):=(Grows.alloc _ _).cell h1
 have hl:=idM_look h3 (ownsMap_grows h2 (Grows.alloc w (.cells #[.string xr,.string xs,.int .i64 xl,.int .i64 xt,.int .i64 xc] 38))) (List.getElem?_eq_some_iff.1 hx).1 hx hs
 unfold En.agg
 clear h h1 h2 h3
 go_enter Tryz.func48,Tryz.ntmps48
 go_wp2_with fail
 go_ret
 exact ⟨rfl,Grows.alloc _ _⟩
theorem bcl7_eg : ∀ args w, (callFunc 48 args).run Tryz.prog w = .ok (.enter 48 args) w := enters_of Tryz.func48 (by kernel_rfl) rfl
theorem bcl4_eg : ∀ args w, (callFunc 41 args).run Tryz.prog w = .ok (.enter 41 args) w := enters_of Tryz.func41 (by kernel_rfl) rfl
set_option maxHeartbeats 4000000 in
set_option maxRecDepth 100000 in
theorem bcl4_any (L : List ByteArray) (ib eb i j x y : Nat) (l : List En) (ex ey : En) (a : Option Addr) (c : Nat) (w : World) (h : IdAt w ib L) (he : w.cell? ⟨eb, 0, none⟩ = some (.slice a l.length c)) (hat : AtCells w a 5 (l.map enCells)) (_hl : l.length ≤ 1048576) (hL : L.length ≤ 1048576)
  (hx : l[x]? = some ex) (hy : l[y]? = some ey) (hi : L[i]? = some ex.s) (hj : L[j]? = some ey.s) (hs : ex.s.size ≤ maxLen∧ey.s.size ≤ maxLen) :
  Calls Tryz.prog 41 #[.int .i64 x,.int .i64 y,.pointer (some ⟨ib,0,none⟩),.pointer (some ⟨eb,0,none⟩)] w fun e w' => e = .returned (.int .i64 ((i : Int) - j))∧w' = w.drew:=by
 obtain ⟨xr,xs,xl,xt,xc⟩:=ex
 obtain ⟨yr,ys,yl,yt,yc⟩:=ey
 obtain ⟨mb,n,D,h1,h2,h3⟩:=h.ex
 simp only at hi hj hs
 have hxl:=(List.getElem?_eq_some_iff.1 hx).1
 have hyl:=(List.getElem?_eq_some_iff.1 hy).1
 have hil:=(List.getElem?_eq_some_iff.1 hi).1
 have hjl:=(List.getElem?_eq_some_iff.1 hj).1
 obtain ⟨ba,oa,rfl,hca⟩:=AtCells.get (enc:=enCells) hat (ne_nil_of_lt hxl)
 have z0 : ∀ x : Ext Grows w.drew,x.u.cell? ⟨ib,0,none⟩ = some (.map (some mb)):=ext_cell ((Grows.drew w).cell h1)
 have z1 : ∀ x : Ext Grows w.drew,x.u.cell? ⟨eb,0,none⟩ = some (.slice (some ⟨ba,oa,none⟩) l.length c):=ext_cell ((Grows.drew w).cell he)
 have z2 : ∀ u : Ext Grows w.drew,u.u.cell? ⟨ba,oa + x * 5 + 1,none⟩ = some (.string xs):=ext_cell ((Grows.drew w).cell (hca x _ hx 1 _ rfl))
 have z3 : ∀ u : Ext Grows w.drew,u.u.cell? ⟨ba,oa + y * 5 + 1,none⟩ = some (.string ys):=ext_cell ((Grows.drew w).cell (hca y _ hy 1 _ rfl))
 have z4 : ∀ u : Ext Grows w.drew,(Instr.lookup 78 (.map (some mb)) (.string xs) false).run Tryz.prog u.u = .ok (.int .i64 i) u.u:=fun u => idM_look h3 (ownsMap_grows (ownsMap_grows h2 (Grows.drew w)) u.h) hil hi hs.1
 have z5 : ∀ u : Ext Grows w.drew,(Instr.lookup 78 (.map (some mb)) (.string ys) false).run Tryz.prog u.u = .ok (.int .i64 j) u.u:=fun u => idM_look h3 (ownsMap_grows (ownsMap_grows h2 (Grows.drew w)) u.h) hjl hj hs.2
 have hxi : (x : Int) < l.length:=by omega
 have hyi : (y : Int) < l.length:=by omega
 have wij : IntKind.i64.wrap ((i : Int) - j) = (i : Int) - j:=by simp [IntKind.wrap,IntKind.bits,IntKind.signed];omega
 clear h he hat hx hy hi hj hs h1 h2 h3 hca
 go_enter Tryz.func41,Tryz.ntmps41
 go_wp2_with fail
 refine t_region (Grows) [(0,false),(1,false),(2,false),(3,false),(4,false),(5,false),(6,false),(7,false),(8,false),(9,false),(10,false),(11,false),(12,false),(13,false),(14,false),(15,false)] Grows.refl Grows.trans (by kernel_rfl) (by kernel_rfl) (fun d _ _ _ _ h => by cases d <;> exact h) ?_
 iterate 16 (refine t_quiet rfl (fun K hK => ?_);go_simp;refine hK _ ?_;clear hK K)
 clear z0 z1 z2 z3 z4 z5
 refine t_end ?_
 go_wp2_with fail
 go_ret
 exact ⟨rfl,rfl⟩
end Go.Proofs.YtepoiefadjoabaaGreatDoor
