/- The texts W11P PopW Less2 PlaceP Bsrt Variants SortR SortWP KeyE MapE, one behind the other. -/
import Derived.Test.YtepoiefadjoabaaGreatDoorH4
import Derived.Test.YtepoiefadjoabaaGreatDoorH1
import Derived.Test.YtepoiefadjoabaaGreatDoorH2
import Derived.WalkKit
import Derived.WalkLawsBesides
import Derived.Lib.Hide
import Derived.Laws.BitsAllLaws
import Derived.Laws.Bits128
import Derived.Test.YtepoiefadjoabaaGreatDoorH3
import Derived.Laws.OwnMore
import Derived.Laws.Rows
import Derived.OwnWalk
import Derived.Test.YtepoiefadjoabaaGreatDoorProg
import Derived.DeepKeys4
import Derived.Maps.RangeWalk
import Derived.Maps.Views
namespace Go.Proofs.YtepoiefadjoabaaGreatDoor
open Go
def badAt (L : List (List UInt8)) (i : Nat) : Bool := decide ((nth L i).length < 1) || decide (256 < (nth L i).length) || (decide (0 < i) && !Op.bytesLess (nth L (i - 1)) (nth L i))
def anyBad (L : List (List UInt8)) : Bool := (List.range L.length).any (badAt L)
theorem anyBad_hit {L : List (List UInt8)} {i : Nat} (h : i < L.length) (hb : badAt L i = true) : anyBad L = true := List.any_eq_true.2 ⟨i, List.mem_range.2 h, hb⟩
theorem anyBad_none {L : List (List UInt8)} (h : ∀ i, i < L.length → badAt L i = false) : anyBad L = false := by
 unfold anyBad
 rw [List.any_eq_false]
 intro i hi
 rw [h i (List.mem_range.1 hi)];simp
def chk11 (L : List (List UInt8)) : Nat := if 20000 < L.length then 2 else if anyBad L = true then 1 else if 524287 < countL L then 2 else 0
theorem okL_of {L : List (List UInt8)} (h : anyBad L = false) : OkL L := by
 unfold anyBad at h
 rw [List.any_eq_false] at h
 have key : ∀ i,i < L.length → (1 ≤ (nth L i).length∧(nth L i).length ≤ 256)∧(0 < i → Op.bytesLess (nth L (i - 1)) (nth L i) = true):=by
  intro i hi
  have:=h i (List.mem_range.2 hi)
  unfold badAt at this
  simp only [Bool.or_eq_true,decide_eq_true_eq,Bool.and_eq_true,Bool.not_eq_true',not_or,not_and,Bool.not_eq_false] at this
  exact ⟨⟨by omega,by omega⟩,this.2⟩
 refine ⟨fun j hj => ?_,fun s hs => ?_,fun s hs => ?_⟩
 ·have:=(key (j + 1) hj).2 (by omega)
  rwa [Nat.add_sub_cancel] at this
 ·obtain ⟨i,hi⟩:=List.mem_iff_getElem?.1 hs
  have:=(key i (List.getElem?_eq_some_iff.1 hi).1).1.1
  rw [nth_eq hi] at this
  intro h0
  rw [h0] at this;simp at this
 ·obtain ⟨i,hi⟩:=List.mem_iff_getElem?.1 hs
  have:=(key i (List.getElem?_eq_some_iff.1 hi).1).1.2
  rw [nth_eq hi] at this
  exact this
theorem chk11_ok {L : List (List UInt8)} (h : chk11 L = 0) : OkL L ∧ L.length ≤ 20000 ∧ countL L ≤ 524287 := by
 unfold chk11 at h
 split at h
 ·omega
 ·rename_i h1
  split at h
  ·omega
  ·rename_i h2
   split at h
   ·omega
   ·exact ⟨okL_of (by simpa using h2),by omega,by omega⟩
theorem levStep_len (n : Nat) (out : List (List UInt8)) (s : List UInt8) : (levStep n out s).length ≤ out.length + 1 := by
 unfold levStep
 split <;> simp
theorem levL_len (L : List (List UInt8)) (n : Nat) : (levL L n).length ≤ L.length := by
 have key : ∀ (L : List (List UInt8)) (out : List (List UInt8)),(L.foldl (levStep n) out).length ≤ out.length + L.length:=by
  intro L
  induction L with
  | nil => intro out;simp
  | cons s L ih =>
   intro out
   rw [List.foldl_cons,List.length_cons]
   have:=ih (levStep n out s)
   have:=levStep_len n out s
   omega
 have h:=key L []
 rw [List.length_nil,Nat.zero_add] at h
 exact h
def nodesTo (L : List (List UInt8)) (n : Nat) : List (List UInt8) := [] :: (List.range' 1 n).flatMap (levL L)
theorem nodesTo_succ (L : List (List UInt8)) (n : Nat) : nodesTo L (n + 1) = nodesTo L n ++ levL L (n + 1) := by
 unfold nodesTo
 rw [List.range'_concat,List.flatMap_append]
 simp [Nat.add_comm]
theorem nodesTo_len (L : List (List UInt8)) : ∀ n, (nodesTo L n).length ≤ 1 + n * L.length
 | 0 => by simp [nodesTo]
 | n + 1 => by
  rw [nodesTo_succ,List.length_append,Nat.succ_mul]
  have:=nodesTo_len L n
  have:=levL_len L (n + 1)
  omega
end Go.Proofs.YtepoiefadjoabaaGreatDoor
namespace Go.Proofs.YtepoiefadjoabaaGreatDoor
open Go Go.RowKit
theorem addC {a b c : Nat} (h : c = a + b) : (a : Int) + b = c := by omega
theorem divC1 (x : Nat) : ((x / 2 : Nat) : Int) = (x : Int) / 2 := by omega
theorem divC2 (x : Nat) : ((x / 4 : Nat) : Int) = (x : Int) / 4 := by omega
theorem divC3 (x : Nat) : ((x / 16 + x : Nat) : Int) = (x : Int) / 16 + x := by omega
theorem divC4 (x : Nat) : ((x + x / 4294967296 : Nat) : Int) = (x : Int) + (x : Int) / 4294967296 := by omega
theorem divC5 {x y : Nat} (h : x + x / 256 = y) : (x : Int) + (x : Int) / 256 = y := by omega
theorem divC6 {x y : Nat} (h : x + x / 65536 = y) : (x : Int) + (x : Int) / 65536 = y := by omega
theorem small64 {x Y Z : Nat} (b5 : x ≤ 1085102592571150095) (hY : x + x / 256 = Y) (hZ : Y + Y / 65536 = Z) : wrap64 ((Z : Int) + (Z : Int) / 4294967296) = (Z : Int) + (Z : Int) / 4294967296 := by
 have h8 : Z + Z / 4294967296 < 4611686018427387904:=by omega
 unfold wrap64
 omega
theorem s128 {Z S : Nat} (h : (Z + Z / 4294967296) % 128 = S) : ((Z : Int) + (Z : Int) / 4294967296) % 128 = S := by omega
set_option maxHeartbeats 2000000 in
set_option maxRecDepth 100000 in
theorem ones_any (x : Nat) (w : World) (hx : x < 18446744073709551616) :
  Calls Tryz.prog 143 #[.int .u64 x] w fun e w' => e = .returned (.int .i64 (sumD 2 64 x))∧w = w':=by
 obtain ⟨x1,h1⟩ : ∃ x1,x1 = ((x >>> 1) &&& 6148914691236517205) + (x &&& 6148914691236517205):=⟨_,rfl⟩
 obtain ⟨x2,h2⟩ : ∃ x2,x2 = ((x1 >>> 2) &&& 3689348814741910323) + (x1 &&& 3689348814741910323):=⟨_,rfl⟩
 obtain ⟨x3,h3⟩ : ∃ x3,x3 = (x2 >>> 4 + x2) &&& 1085102592571150095:=⟨_,rfl⟩
 obtain ⟨b1,b2,b23,b3,Y,Z,hY,hZ,bY,bZ,bS,hS⟩:=pop64 h1 h2 h3
 obtain ⟨S,hSd⟩ : ∃ S,S = sumD 2 64 x:=⟨_,rfl⟩
 rw [← hSd] at hS ⊢
 clear hSd
 simp only [Nat.shiftRight_eq_div_pow,Nat.reducePow] at h1 h2 h3 hY hZ hS b23 bS
 have c1:=divC1 x
 have c3:=divC2 x1
 have c5:=divC3 x2
 have c6:=divC4 Z
 have e1 : bits .and .u64 ((x : Int) / 2) 6148914691236517205 = ((x / 2 &&& 6148914691236517205 : Nat) : Int):=by rw [← c1];exact u64_and_nat (x / 2) 6148914691236517205 (Nat.lt_of_le_of_lt (Nat.div_le_self _ _) hx) (by decide)
 have e2 : bits .and .u64 (x : Int) 6148914691236517205 = ((x &&& 6148914691236517205 : Nat) : Int):=u64_and_nat x 6148914691236517205 hx (by decide)
 have e3 : bits .and .u64 ((x1 : Int) / 4) 3689348814741910323 = ((x1 / 4 &&& 3689348814741910323 : Nat) : Int):=by rw [← c3];exact u64_and_nat (x1 / 4) 3689348814741910323 (Nat.lt_of_le_of_lt (Nat.div_le_self _ _) b1) (by decide)
 have e4 : bits .and .u64 (x1 : Int) 3689348814741910323 = ((x1 &&& 3689348814741910323 : Nat) : Int):=u64_and_nat x1 3689348814741910323 b1 (by decide)
 have e5 : bits .and .u64 ((x2 : Int) / 16 + x2) 1085102592571150095 = (x3 : Int):=by
  rw [h3,← c5]
  exact u64_and_nat (x2 / 16 + x2) 1085102592571150095 b23 (by decide)
 have a1 : ((x / 2 &&& 6148914691236517205 : Nat) : Int) + ((x &&& 6148914691236517205 : Nat) : Int) = (x1 : Int):=addC h1
 have a2 : ((x1 / 4 &&& 3689348814741910323 : Nat) : Int) + ((x1 &&& 3689348814741910323 : Nat) : Int) = (x2 : Int):=addC h2
 have a3 : (x3 : Int) + (x3 : Int) / 256 = (Y : Int):=divC5 hY
 have a4 : (Y : Int) + (Y : Int) / 65536 = (Z : Int):=divC6 hZ
 have hw : ∀ n : Nat,n < 18446744073709551616 → IntKind.u64.wrap (n : Int) = n:=fun n h => by simp [IntKind.wrap,IntKind.bits,IntKind.signed];omega
 have w1:=hw x1 b1
 have w2:=hw x2 b2
 have w3:=hw Y bY
 have w4:=hw Z bZ
 have w5 : IntKind.u64.wrap ((x2 : Int) / 16 + x2) = (x2 : Int) / 16 + x2:=by rw [← c5];exact hw (x2 / 16 + x2) b23
 have w6 : IntKind.u64.wrap ((Z : Int) + (Z : Int) / 4294967296) = (Z : Int) + (Z : Int) / 4294967296:=by rw [← c6];exact hw (Z + Z / 4294967296) bS
 have b5 : x3 ≤ 1085102592571150095:=by rw [h3];exact Nat.and_le_right
 have w7:=small64 b5 hY hZ
 have hS2 : ((Z : Int) + (Z : Int) / 4294967296) % 128 = S:=by
  exact s128 (by rw [← hS,and127])
 have e6:=i64_and127 ((Z : Int) + (Z : Int) / 4294967296)
 rw [hS2] at e6
 clear c1 c3 c5 c6 h1 h2 h3 hY hZ hw b1 b2 b3 bY bZ
 go_enter Tryz.func143,Tryz.ntmps143
 go_wp2
 go_ret
 exact ⟨rfl,rfl⟩
end Go.Proofs.YtepoiefadjoabaaGreatDoor
namespace Go.Proofs.YtepoiefadjoabaaGreatDoor
open Go Go.RowKit
attribute [local go_sem] quietE
theorem cmpS_ne {a b : ByteArray} (h : a ≠ b) : cmpS a b ≠ 0 ∧ decide (cmpS a b < 0) = Op.bytesLess a.toList b.toList := by
 have hne : (a.toList == b.toList) = false:=by
  have:=seq_false.2 h;exact this
 unfold cmpS
 rw [hne]
 cases Op.bytesLess a.toList b.toList <;> simp
theorem lessS_r {x y : En} (h : x.r ≠ y.r) : lessS x y = Op.bytesLess x.r.toList y.r.toList := by
 obtain ⟨h1,h2⟩:=cmpS_ne h
 unfold lessS enCmp
 simp only [orI,if_neg h1]
 exact h2
end Go.Proofs.YtepoiefadjoabaaGreatDoor
namespace Go.Proofs.YtepoiefadjoabaaGreatDoor
open Go
theorem bitOf_left {l m : List Bool} {i : Nat} (h : i < l.length) : bitOf (l ++ m) i = bitOf l i := by
 unfold bitOf
 rw [List.getD_eq_getElem?_getD,List.getD_eq_getElem?_getD,List.getElem?_append_left h]
theorem bitOf_right (l m : List Bool) (i : Nat) : bitOf (l ++ m) (l.length + i) = bitOf m i := by
 unfold bitOf
 rw [List.getD_eq_getElem?_getD,List.getD_eq_getElem?_getD,List.getElem?_append_right (by omega),Nat.add_sub_cancel_left]
theorem bitOf_rep {n i : Nat} (h : i < n) : bitOf (List.replicate n true) i = true := by
 unfold bitOf
 rw [List.getD_eq_getElem?_getD,List.getElem?_replicate,if_pos h];rfl
theorem rankT_left (l m : List Bool) : ∀ i, i ≤ l.length → rankT (l ++ m) i = rankT l i
 | 0,_ => rfl
 | i + 1,h => by rw [rankT_succ,rankT_succ,rankT_left l m i (by omega),bitOf_left h]
theorem rankT_right (l m : List Bool) : ∀ i, rankT (l ++ m) (l.length + i) = rankT l l.length + rankT m i
 | 0 => rankT_left l m l.length (Nat.le_refl _)
 | i + 1 => by rw [← Nat.add_assoc,rankT_succ,rankT_succ,rankT_right l m i,bitOf_right];omega
theorem rankT_rep (n : Nat) : ∀ i, i ≤ n → rankT (List.replicate n true) i = i
 | 0,_ => rfl
 | i + 1,h => by rw [rankT_succ,rankT_rep n i (by omega),bitOf_rep h];simp
theorem rankT_pre (L : List (List UInt8)) : ∀ i, i ≤ (nodesA L).length → rankT (shapeL L ((nodesA L).take i)) (offA L i + i + 1) = offA L i
 | 0,_ => rfl
 | i + 1,hi => by
  obtain ⟨x,hx⟩ : ∃ x,(nodesA L)[i]? = some x:=⟨_,List.getElem?_eq_getElem hi⟩
  have ih:=rankT_pre L i (by omega)
  have hl:=shapeL_len L i (by omega)
  rw [List.take_add_one,hx,Option.toList_some,shapeL_snoc,offA_succ hx,List.append_assoc]
  rw [show offA L i + (kids L x).length + (i + 1) + 1 = (shapeL L ((nodesA L).take i)).length + ((kids L x).length + 1) by omega,rankT_right,hl,ih]
  congr 1
  have h2:=rankT_right (List.replicate (kids L x).length true) [false] 1
  rw [List.length_replicate] at h2
  rw [h2,rankT_rep _ _ (Nat.le_refl _)]
  rfl
theorem shape_split {L : List (List UInt8)} {A : List Span} {p : Nat} {x : Span} (hx : A[p]? = some x) : ∃ rest, shapeL L A = shapeL L (A.take p) ++ (List.replicate (kids L x).length true ++ ([false] ++ rest)) := by
 obtain ⟨hp,he⟩:=List.getElem?_eq_some_iff.1 hx
 refine ⟨(A.drop (p + 1)).flatMap fun x => List.replicate (kids L x).length true ++ [false], ?_⟩
 have h1 : A = A.take p ++ ([x] ++ A.drop (p + 1)):=by
  rw [List.singleton_append,← he,List.getElem_cons_drop,List.take_append_drop]
 have h2 : shapeL L A = shapeL L (A.take p ++ ([x] ++ A.drop (p + 1))):=by rw [← h1]
 rw [h2]
 unfold shapeL
 simp [List.flatMap_append]
theorem place_kid {L : List (List UInt8)} {k p : Nat} {x : Span} (hx : (nodesA L)[p]? = some x) (h1 : offA L p ≤ k) (h2 : k < offA L (p + 1)) :
  bitOf (shapeL L (nodesA L)) (k + p + 1) = true∧rankB (shapeL L (nodesA L)) true (k + p + 1) = k∧rankB (shapeL L (nodesA L)) false (k + p + 1) = p + 1:=by
 have hp:=(List.getElem?_eq_some_iff.1 hx).1
 have hl:=shapeL_len L p (by omega)
 have hr:=rankT_pre L p (by omega)
 rw [offA_succ hx] at h2
 obtain ⟨rest,hs⟩:=shape_split (L:=L) hx
 have e : k + p + 1 = (shapeL L ((nodesA L).take p)).length + (k - offA L p):=by omega
 have hT : rankT (shapeL L (nodesA L)) (k + p + 1) = k:=by
  rw [hs,e,rankT_right,hl,hr,rankT_left _ _ _ (by rw [List.length_replicate];omega),rankT_rep _ _ (by omega)]
  omega
 refine ⟨?_,hT, ?_⟩
 ·rw [hs,e,bitOf_right,bitOf_left (by rw [List.length_replicate];omega),bitOf_rep (by omega)]
 ·show k + p + 1 - rankT _ _ = p + 1
  rw [hT];omega
theorem bitOf_snocF (l : List Bool) : bitOf (l ++ [false]) l.length = false := by
 have:=bitOf_right l [false] 0
 rw [Nat.add_zero] at this
 rw [this];rfl
theorem shape_last (L : List (List UInt8)) : ∀ (A : List Span), ∃ l, shapeL L A = l ++ [false] := by
 intro A
 rcases List.eq_nil_or_concat A with h | ⟨B,x,h⟩
 ·subst h
  exact ⟨[true],rfl⟩
 ·refine ⟨shapeL L B ++ List.replicate (kids L x).length true, ?_⟩
  rw [h,List.concat_eq_append,shapeL_snoc]
theorem shape_pre (L : List (List UInt8)) (A : List Span) (p : Nat) : ∃ rest, shapeL L A = shapeL L (A.take p) ++ rest := by
 refine ⟨(A.drop p).flatMap fun x => List.replicate (kids L x).length true ++ [false], ?_⟩
 have h2 : shapeL L A = shapeL L (A.take p ++ A.drop p):=by rw [List.take_append_drop]
 rw [h2]
 unfold shapeL
 rw [List.flatMap_append,List.append_assoc]
theorem place_zero {L : List (List UInt8)} {i : Nat} (hi : i ≤ (nodesA L).length) :
  bitOf (shapeL L (nodesA L)) (offA L i + i) = false∧rankB (shapeL L (nodesA L)) false (offA L i + i) = i∧rankB (shapeL L (nodesA L)) true (offA L i + i + 1) = offA L i:=by
 have hl:=shapeL_len L i hi
 have hr:=rankT_pre L i hi
 obtain ⟨rest,hs⟩:=shape_pre L (nodesA L) i
 obtain ⟨l,hll⟩:=shape_last L ((nodesA L).take i)
 have hlen : l.length = offA L i + i:=by
  have:=congrArg List.length hll
  rw [List.length_append] at this
  simp at this;omega
 have hb : bitOf (shapeL L (nodesA L)) (offA L i + i) = false:=by
  rw [hs,bitOf_left (by omega),hll,← hlen,bitOf_snocF]
 have hT : rankT (shapeL L (nodesA L)) (offA L i + i + 1) = offA L i:=by
  rw [hs,rankT_left _ _ _ (by omega),hr]
 refine ⟨hb, ?_,hT⟩
 have h2:=rankT_succ (shapeL L (nodesA L)) (offA L i + i)
 rw [hT,hb] at h2
 show offA L i + i - rankT _ _ = i
 simp at h2
 omega
theorem OkL.node {L : List (List UInt8)} (h : OkL L) {j : Nat} (hj : j < L.length) : ∃ (i : Nat) (x : Span), (nodesA L)[i]? = some x ∧ here L x = true ∧ x.i = j := by
 have hmem : nth L j ∈ L:=List.mem_of_getElem? (nth_some hj)
 have hp : 0 < (nth L j).length:=List.length_pos_iff.2 (h.pos _ hmem)
 have h256:=h.len _ hmem
 have hf:=(tile_lv h.asc (nth L j).length).firsts hp
 have hin : j ∈ (lv L (nth L j).length).map (fun x => x.i):=by
  rw [hf,List.mem_filter]
  refine ⟨by rw [List.mem_range'_1];omega, ?_⟩
  unfold isFirst
  simp only [Bool.and_eq_true,decide_eq_true_eq,Bool.or_eq_true,beq_iff_eq]
  refine ⟨Nat.le_refl _, ?_⟩
  rcases Nat.eq_zero_or_pos j with h0 | h0
  ·exact Or.inl h0
  ·exact Or.inr (comm_less (h.asc.lt j (j - 1) (by omega) hj))
 obtain ⟨x,hx,hxi⟩:=List.mem_map.1 hin
 obtain ⟨g,hd,_,_⟩:=(tile_lv h.asc (nth L j).length).mem x hx
 have hA : x ∈ nodesA L:=by
  unfold nodesA
  exact List.mem_flatMap.2 ⟨_,List.mem_range.2 (by omega),hx⟩
 obtain ⟨i,hi⟩:=List.mem_iff_getElem?.1 hA
 refine ⟨i,x,hi, ?_,hxi⟩
 unfold here
 rw [hxi]
 have hlt : x.i < x.t:=by rcases g.ne with h | h <;> omega
 simp;omega
end Go.Proofs.YtepoiefadjoabaaGreatDoor
namespace Go.Proofs.YtepoiefadjoabaaGreatDoor
open Go Go.RowKit
theorem enInfo : ∃ i, Tryz.prog.info? 38 = some i ∧ i.zero = some enZero.agg ∧ i.size = 5 ∧ i.bytes = 56 := by
 have h : (Tryz.prog.info? 38).map (fun i => (i.zero,i.size,i.bytes)) = some (some enZero.agg,5,56):=by kernel_rfl
 cases hi : Tryz.prog.info? 38 with
 | none => rw [hi] at h;cases h
 | some i =>
  rw [hi] at h
  simp only [Option.map_some,Option.some.injEq,Prod.mk.injEq] at h
  exact ⟨i,rfl,h.1,h.2.1,h.2.2⟩
def SRow (W : World) (sb n : Nat) (so : List En) (k : Nat) : Prop :=
 ∃ cur : Array Value,W.heap[sb]? = some (.cells cur 38 (0,0))∧cur.size = n * 5∧∀ i x,i < k → so[i]? = some x → ∀ j u,(enCells x)[j]? = some u → cur[i * 5 + j]? = some u
theorem SRow.froz {W : World} {sb n k : Nat} {so : List En} (h : SRow W sb n so k) (j : Nat) : W.frozen? ⟨sb, j, none⟩ = false := by
 obtain ⟨cur,h1,_⟩:=h
 simp [World.frozen?,h1]
theorem SRow.cell {W : World} {sb n k : Nat} {so : List En} (h : SRow W sb n so k) {j : Nat} (hj : j < n * 5) : ∃ u, W.cell? ⟨sb, j, none⟩ = some u := by
 obtain ⟨cur,h1,h2,_⟩:=h
 exact ⟨cur[j]'(by omega),by simp [World.cell?,h1,h2,hj]⟩
theorem SRow.set {W : World} {sb n k : Nat} {so : List En} (h : SRow W sb n so k) {j : Nat} (hj : k * 5 ≤ j) (v : Value) : SRow (W.setCell ⟨sb, j, none⟩ v) sb n so k := by
 obtain ⟨cur,h1,h2,h3⟩:=h
 refine ⟨cur.setIfInBounds j v,heap_setCell_same W sb j cur _ v h1,by simpa using h2,fun i x hi hx m u hu => ?_⟩
 have hm : m < 5:=by have:=(List.getElem?_eq_some_iff.1 hu).1;rwa [enCells_len] at this
 rw [Array.getElem?_setIfInBounds,if_neg (by omega)]
 exact h3 i x hi hx m u hu
theorem SRow.step {W : World} {sb n k : Nat} {so : List En} {x : En} (h : SRow W sb n so k) (hk : k < n) (hx : so[k]? = some x) :
  SRow (((((W.setCell ⟨sb,k * 5,none⟩ (.string x.r)).setCell ⟨sb,k * 5 + 1,none⟩ (.string x.s)).setCell ⟨sb,k * 5 + 2,none⟩ (.int .i64 x.l)).setCell ⟨sb,k * 5 + 3,none⟩ (.int .i64 x.t)).setCell ⟨sb,k * 5 + 4,none⟩ (.int .i64 x.c)) sb n so (k + 1):=by
 obtain ⟨cur,h1,h2,h3⟩:=h
 refine ⟨((((cur.setIfInBounds (k * 5) (.string x.r)).setIfInBounds (k * 5 + 1) (.string x.s)).setIfInBounds (k * 5 + 2) (.int .i64 x.l)).setIfInBounds (k * 5 + 3) (.int .i64 x.t)).setIfInBounds (k * 5 + 4) (.int .i64 x.c),heap_setCell_same _ _ _ _ _ _ (heap_setCell_same _ _ _ _ _ _ (heap_setCell_same _ _ _ _ _ _ (heap_setCell_same _ _ _ _ _ _ (heap_setCell_same W sb _ cur _ _ h1)))),by simpa using h2,fun i y hi hy m u hu => ?_⟩
 have hm : m < 5:=by have:=(List.getElem?_eq_some_iff.1 hu).1;rwa [enCells_len] at this
 rcases Nat.lt_or_ge i k with hik | hik
 ·simp only [Array.getElem?_setIfInBounds]
  rw [if_neg (by omega),if_neg (by omega),if_neg (by omega),if_neg (by omega),if_neg (by omega)]
  exact h3 i y hik hy m u hu
 ·obtain rfl : i = k:=by omega
  obtain rfl : x = y:=by rw [hx] at hy;exact Option.some.inj hy
  simp only [Array.getElem?_setIfInBounds,Array.size_setIfInBounds]
  match m,hm,hu with
  | 0,_,hu => simp [enCells] at hu;subst hu;simp [h2];omega
  | 1,_,hu => simp [enCells] at hu;subst hu;simp [h2];omega
  | 2,_,hu => simp [enCells] at hu;subst hu;simp [h2];omega
  | 3,_,hu => simp [enCells] at hu;subst hu;simp [h2];omega
  | 4,_,hu => simp [enCells] at hu;subst hu;simp [h2];omega
theorem SRow.at_ {W : World} {sb n : Nat} {so : List En} (h : SRow W sb n so so.length) : AtCells W (some ⟨sb, 0, none⟩) 5 (so.map enCells) := fun _ => ⟨sb, 0, rfl, fun i row hi j u hj => by
 obtain ⟨cur,h1,h2,h3⟩:=h
 rw [List.getElem?_map] at hi
 cases hx : so[i]? with
 | none => rw [hx] at hi;cases hi
 | some x =>
  rw [hx] at hi
  obtain rfl : enCells x = row:=by simpa using hi
  have:=h3 i x (List.getElem?_eq_some_iff.1 hx).1 hx j u hj
  simp [World.cell?,h1,this]⟩
theorem SRow.made {W : World} {base sb n : Nat} {so : List En} {l : List Value} (h : W.ownsRow base 38 5 (.slice (some ⟨sb, 0, none⟩) n n) n l) : SRow W sb n so 0 ∧ base ≤ sb := by
 rcases h.2 with ⟨e,_⟩ | ⟨g,cap,cur,hv,hb,hh,h1,h2,h3,h4⟩
 ·cases e
 ·cases hv
  exact ⟨⟨cur,hh,h3,fun i x hi => absurd hi (Nat.not_lt_zero i)⟩,hb⟩
end Go.Proofs.YtepoiefadjoabaaGreatDoor
namespace Go.Proofs.YtepoiefadjoabaaGreatDoor
open Go Go.RowKit
attribute [local go_sem] quietE
end Go.Proofs.YtepoiefadjoabaaGreatDoor
namespace Go.Proofs.YtepoiefadjoabaaGreatDoor
open Go
def Bad (x : En) (i : Nat) (y : En) (j : Nat) : Prop := sameKey x y ∧ (y.c < x.c ∨ y.c = x.c ∧ j < i)
instance (x : En) (i : Nat) (y : En) (j : Nat) : Decidable (Bad x i y j) := by unfold Bad; exact inferInstance
theorem take_snoc {l : List En} {i : Nat} {x : En} (hx : l[i]? = some x) : l.take (i + 1) = l.take i ++ [x] := by rw [List.take_add_one, hx]; rfl
end Go.Proofs.YtepoiefadjoabaaGreatDoor
namespace Go.Proofs.YtepoiefadjoabaaGreatDoor
open Go Go.RowKit
theorem entLay : ElemLay Tryz.prog 24 38 5 56 enCells where
 sl:=Tryz.underlying24
 info:=elem_info (z:=.agg #[.string ⟨#[]⟩,.string ⟨#[]⟩,.int .i64 0,.int .i64 0,.int .i64 0]) (by kernel_rfl) rfl
 pos:=by decide
 by1:=by decide
 len _:=rfl
 one:=enCells_one
def ESortPost (l : List En) (w : World) (e : Ending) (w' : World) : Prop := ∃ v, e = .returned v ∧ Owns w' w.heap.size 38 5 enCells v (sortS l) ∧ Grows w w'
end Go.Proofs.YtepoiefadjoabaaGreatDoor
namespace Go.Proofs.YtepoiefadjoabaaGreatDoor
open Go Go.RowKit
def klE (x : En) : Lit := .string (keyBytes [.string x.r.data.toList, .string x.s.data.toList, .int .i64 x.l, .int .i64 x.t, .int .i64 x.c])
theorem keyedE : Go.Maps.Keyed Tryz.prog 38 := Go.Maps.Keyed.of_law (deep_law_laid laidOutP (m := 3) (by decide) (of_decide_eq_true (by kernel_rfl)) (by kernel_rfl) (by kernel_rfl))
set_option maxRecDepth 100000 in
theorem keyE {x : En} (h : EnOK x) : Go.keyOf Tryz.prog 38 x.agg = some (klE x) := by
 obtain ⟨m,hm⟩ : ∃ m,Tryz.prog.types.size = m + 1:=⟨Tryz.prog.types.size - 1,by have : 0 < Tryz.prog.types.size:=of_decide_eq_true (by kernel_rfl);omega⟩
 have hS : ∀ (s : ByteArray),s.size ≤ maxLen → Tryz.prog.keyLits (m + 1) 9 [.string s] = some [.string s.data.toList]:=fun s hs => by
  unfold Program.keyLits
  simp only [Tryz.underlying9,if_pos hs]
 have hI : ∀ (n : Int),(Lit.int .i64 n).wf = true → Tryz.prog.keyLits (m + 1) 3 [.int .i64 n] = some [.int .i64 n]:=fun n hn => by
  unfold Program.keyLits
  simp only [Tryz.underlying3,hn,and_self,if_true]
 have hk : Tryz.prog.keyType 38 = true:=by kernel_rfl
 have hc : Tryz.prog.cellsOf 38 = 5:=by kernel_rfl
 have hcs : Tryz.prog.cellsOf 9 = 1:=by kernel_rfl
 have hci : Tryz.prog.cellsOf 3 = 1:=by kernel_rfl
 obtain ⟨r,s,l,t,c⟩:=x
 obtain ⟨h1,h2,h3,h4,h5⟩:=h
 have g1:=hS r h1
 have g2:=hS s h2
 have g3:=hI l h3
 have g4:=hI t h4
 have g5:=hI c h5
 unfold Go.keyOf
 simp only [Tryz.underlying38,hk,Bool.true_and]
 unfold Value.formed En.agg
 simp only [Tryz.underlying38,hc]
 have hz : ((#[Value.string r,.string s,.int .i64 l,.int .i64 t,.int .i64 c] : Array Value).size == 5) = true:=rfl
 rw [if_pos hz,hm]
 unfold Program.keyLits
 simp only [Tryz.underlying38,hc,Value.cells]
 simp [hcs,hci,g1,g2,g3,g4,g5,klE]
theorem klE_inj {x y : En} (hx : EnOK x) (hy : EnOK y) (h : klE x = klE y) : x = y := by
 have h1:=keyE hx
 have h2:=keyE hy
 rw [h] at h1
 have:=keyedE.inj h1 h2
 obtain ⟨a,b,c,d,e⟩:=x
 obtain ⟨a',b',c',d',e'⟩:=y
 simpa [En.agg] using this
set_option maxRecDepth 100000 in
theorem keyE_inv {key : Value} {kl : Lit} (h : Go.keyOf Tryz.prog 38 key = some kl) : ∃ x : En, EnOK x ∧ key = x.agg ∧ kl = klE x := by
 obtain ⟨m,hm⟩ : ∃ m,Tryz.prog.types.size = m + 1:=⟨Tryz.prog.types.size - 1,by have : 0 < Tryz.prog.types.size:=of_decide_eq_true (by kernel_rfl);omega⟩
 have hS : ∀ (v : Value) (ls : List Lit),Tryz.prog.keyLits (m + 1) 9 [v] = some ls → ∃ s : ByteArray,v = .string s∧s.size ≤ maxLen∧ls = [.string s.data.toList]:=fun v ls h => by
  unfold Program.keyLits at h
  simp only [Tryz.underlying9] at h
  cases v <;> simp at h
  rename_i s
  exact ⟨s,rfl,h.1,h.2.symm⟩
 have hI : ∀ (v : Value) (ls : List Lit),Tryz.prog.keyLits (m + 1) 3 [v] = some ls → ∃ n : Int,v = .int .i64 n∧(Lit.int .i64 n).wf = true∧ls = [.int .i64 n]:=fun v ls h => by
  unfold Program.keyLits at h
  simp only [Tryz.underlying3] at h
  cases v <;> simp at h
  obtain ⟨⟨rfl,h2⟩,h3⟩:=h
  exact ⟨_,rfl,h2,h3.symm⟩
 have hk : Tryz.prog.keyType 38 = true:=by kernel_rfl
 have hc : Tryz.prog.cellsOf 38 = 5:=by kernel_rfl
 have hcs : Tryz.prog.cellsOf 9 = 1:=by kernel_rfl
 have hci : Tryz.prog.cellsOf 3 = 1:=by kernel_rfl
 unfold Go.keyOf at h
 simp only [Tryz.underlying38,hk,Bool.true_and] at h
 split at h
 ·rename_i hf
  rw [hm] at h
  obtain ⟨cs,rfl,hsz⟩ : ∃ cs,key = .agg cs∧cs.size = 5:=by
   unfold Value.formed at hf
   cases key <;> simp [Tryz.underlying38,hc] at hf
   exact ⟨_,rfl,hf⟩
  obtain ⟨l⟩:=cs
  match l,hsz with
  | [c0,c1,c2,c3,c4],_ =>
   rw [keyLits_struct Tryz.underlying38] at h
   simp only [Value.cells] at h
   simp [hcs,hci,hc,Option.bind_eq_some_iff,List.mapM_cons] at h
   obtain ⟨l0,g0,a1,⟨l1,g1,a2,⟨l2,g2,a3,⟨l3,g3,a4,⟨l4,g4,rfl⟩,rfl⟩,rfl⟩,rfl⟩,rfl⟩:=h
   obtain ⟨s0,rfl,z0,rfl⟩:=hS _ _ g0
   obtain ⟨s1,rfl,z1,rfl⟩:=hS _ _ g1
   obtain ⟨n2,rfl,z2,rfl⟩:=hI _ _ g2
   obtain ⟨n3,rfl,z3,rfl⟩:=hI _ _ g3
   obtain ⟨n4,rfl,z4,rfl⟩:=hI _ _ g4
   exact ⟨⟨s0,s1,n2,n3,n4⟩,⟨z0,z1,z2,z3,z4⟩,rfl,by simp [klE]⟩
 ·cases h
end Go.Proofs.YtepoiefadjoabaaGreatDoor
namespace Go.Proofs.YtepoiefadjoabaaGreatDoor
open Go Go.RowKit
def keyOfE (x : En) : En := { x with c := 0 }
theorem EnOK.key {x : En} (h : EnOK x) : EnOK (keyOfE x) := ⟨h.r, h.s, h.l, h.t, by show (Lit.int .i64 0).wf = true; decide⟩
theorem sameKey_key {z y : En} (hy : y.c = 0) (h : sameKey z y) : y = keyOfE z := by
 obtain ⟨a,b,c,d,e⟩:=z
 obtain ⟨a',b',c',d',e'⟩:=y
 obtain ⟨rfl,rfl,rfl,rfl⟩:=h
 simp only at hy
 subst hy;rfl
theorem key_same (z : En) : sameKey z (keyOfE z) := ⟨rfl, rfl, rfl, rfl⟩
theorem klE_key (y : En) : WideAt.IsKeyLit (klE y) := by simp [klE, WideAt.IsKeyLit]
theorem klE_same (y : En) : (klE y).sameKey (klE y) = true := by simp [klE, Lit.sameKey]
section
variable {H : Type}
def AtE (D : DataW H) (y : En) : Option Int → Prop
 | none => Maps.has D (klE y) = false
 | some c => Maps.has D (klE y) = true∧∀ zd,D.atKey (klE y) zd = .lit (.int .i64 c)
def LeastC (l : List En) (y : En) : Option Int → Prop
 | none => ∀ z ∈ l,¬ sameKey z y
 | some c => (∃ z ∈ l,sameKey z y∧z.c = c)∧∀ z ∈ l,sameKey z y → c ≤ z.c
def MapD (l : List En) (D : DataW H) : Prop := ∀ y, EnOK y → (y.c ≠ 0 → Maps.has D (klE y) = false) ∧ (y.c = 0 → ∃ o, LeastC l y o ∧ AtE D y o)
theorem AtE.unique {D : DataW H} {y : En} {o o' : Option Int} (h : AtE D y o) (h' : AtE D y o') : o = o' := by
 cases o with
 | none => cases o' with
  | none => rfl
  | some c => have h1 : Maps.has D (klE y) = false:=h;rw [h'.1] at h1;cases h1
 | some c => cases o' with
  | none => have h1 : Maps.has D (klE y) = false:=h';rw [h.1] at h1;cases h1
  | some c' =>
   have h1:=h.2 (.lit (.int .i64 0))
   rw [h'.2] at h1
   simpa using h1.symm
theorem LeastC.snoc_other {l : List En} {y z : En} {o : Option Int} (h : LeastC l y o) (hn : ¬ sameKey z y) : LeastC (l ++ [z]) y o := by
 cases o with
 | none =>
  intro x hx
  rcases List.mem_append.1 hx with hx | hx
  ·exact h x hx
  ·obtain rfl : x = z:=by simpa using hx
   exact hn
 | some c =>
  obtain ⟨⟨x,hx,h1,h2⟩,h3⟩:=h
  refine ⟨⟨x,List.mem_append_left _ hx,h1,h2⟩,fun x hx hk => ?_⟩
  rcases List.mem_append.1 hx with hx | hx
  ·exact h3 x hx hk
  ·obtain rfl : x = z:=by simpa using hx
   exact absurd hk hn
theorem mapD_nil : MapD (H := H) [] (.map []) := fun y _ => ⟨fun _ => rfl, fun _ => ⟨none, fun z hz => by simp at hz, rfl⟩⟩
theorem MapD.skip {l : List En} {D : DataW H} (h : MapD l D) {z : En} {c : Int} (ha : AtE D (keyOfE z) (some c)) (hc : c ≤ z.c) : MapD (l ++ [z]) D := fun y hy => by
 refine ⟨(h y hy).1,fun h0 => ?_⟩
 obtain ⟨o,ho,hD⟩:=(h y hy).2 h0
 by_cases hk : sameKey z y
 ·have e:=sameKey_key h0 hk
  subst e
  obtain rfl:=hD.unique ha
  refine ⟨some c,⟨?_,fun x hx hk => ?_⟩,ha⟩
  ·obtain ⟨⟨x,hx,h1,h2⟩,_⟩:=ho
   exact ⟨x,List.mem_append_left _ hx,h1,h2⟩
  ·rcases List.mem_append.1 hx with hx | hx
   ·exact ho.2 x hx hk
   ·obtain rfl : x = z:=by simpa using hx
    exact hc
 ·exact ⟨o,ho.snoc_other hk,hD⟩
theorem MapD.store {l : List En} {D : DataW H} (h : MapD l D) (hm : Maps.IsMap D) {z : En} (hz : EnOK z) {o : Option Int} (ha : AtE D (keyOfE z) o) (hc : ∀ c, o = some c → z.c < c) : MapD (l ++ [z]) (D.put (klE (keyOfE z)) (.lit (.int .i64 z.c))) := fun y hy => by
 refine ⟨fun h0 => ?_,fun h0 => ?_⟩
 ·have hne : klE y ≠ klE (keyOfE z):=fun e => h0 (by rw [klE_inj hy hz.key e];rfl)
  rw [Maps.has_put_other hne]
  exact (h y hy).1 h0
 ·obtain ⟨o',ho,hD⟩:=(h y hy).2 h0
  by_cases hk : sameKey z y
  ·have e:=sameKey_key h0 hk
   subst e
   obtain rfl:=hD.unique ha
   refine ⟨some z.c,⟨⟨z,by simp,key_same z,rfl⟩,fun x hx hk => ?_⟩,Maps.has_put_same hm (klE_key _) _,fun zd => Maps.atKey_put_same hm (klE_key _) _ _⟩
   rcases List.mem_append.1 hx with hx | hx
   ·cases o' with
    | none => exact absurd hk (ho x hx)
    | some c =>
     have h1:=ho.2 x hx hk
     have h2:=hc c rfl
     omega
   ·obtain rfl : x = z:=by simpa using hx
    exact Int.le_refl _
  ·have hne : klE y ≠ klE (keyOfE z):=fun e => hk (by rw [klE_inj hy hz.key e];exact key_same z)
   refine ⟨o',ho.snoc_other hk, ?_⟩
   cases o' with
   | none =>
    show Maps.has _ _ = false
    rw [Maps.has_put_other hne];exact hD
   | some c => exact ⟨by rw [Maps.has_put_other hne];exact hD.1,fun zd => by rw [Maps.atKey_put_other hne];exact hD.2 zd⟩
def CollE (D : DataW H) (left : Lit → Bool) (ys : List En) : Prop := ys.Nodup ∧ (∀ y ∈ ys, EnOK y) ∧ ∀ y, EnOK y → (y ∈ ys ↔ AtE D (keyOfE y) (some y.c) ∧ left (klE (keyOfE y)) = false)
theorem collE_start (D : DataW H) : CollE D (Maps.has D) [] := ⟨List.nodup_nil, fun y hy => by simp at hy, fun y _ => ⟨fun h => by simp at h, fun ⟨h1, h2⟩ => by rw [h1.1] at h2; cases h2⟩⟩
theorem CollE.step {l : List En} {D : DataW H} {left : Lit → Bool} {ys : List En} (h : CollE D left ys) (hM : MapD l D) {x : En} (hx : EnOK x) {c : Int} (hc : (Lit.int .i64 c).wf = true) (hl : left (klE x) = true) (hat : ∀ zd, D.atKey (klE x) zd = .lit (.int .i64 c)) :
  CollE D (fun z => left z && !z.sameKey (klE x)) (ys ++ [{ x with c:=c }]):=by
 have hhas:=Maps.has_true_of_atKey hat
 have h0 : x.c = 0:=Decidable.byContradiction fun hn => by
  have:=(hM x hx).1 hn
  rw [this] at hhas;cases hhas
 have hkx : keyOfE { x with c:=c } = x:=by
  obtain ⟨a,b,d,e,f⟩:=x
  simp only at h0
  subst h0;rfl
 have hxA : AtE D x (some c):=⟨hhas,hat⟩
 have hyOK : EnOK { x with c:=c }:=⟨hx.r,hx.s,hx.l,hx.t,hc⟩
 obtain ⟨h1,h2,h3⟩:=h
 refine ⟨?_,fun y hy => ?_,fun y hy => ?_⟩
 ·refine List.nodup_append.2 ⟨h1,by simp,fun y hy z hz e => ?_⟩
  obtain rfl : z = { x with c:=c }:=by simpa using hz
  subst e
  have:=((h3 _ hyOK).1 hy).2
  rw [hkx,hl] at this;cases this
 ·rcases List.mem_append.1 hy with hy | hy
  ·exact h2 y hy
  ·obtain rfl : y = { x with c:=c }:=by simpa using hy
   exact hyOK
 ·constructor
  ·intro hm
   rcases List.mem_append.1 hm with hm | hm
   ·obtain ⟨k1,k2⟩:=(h3 y hy).1 hm
    exact ⟨k1,by simp [k2]⟩
   ·obtain rfl : y = { x with c:=c }:=by simpa using hm
    rw [hkx]
    exact ⟨hxA,by simp [klE_same]⟩
  ·rintro ⟨k1,k2⟩
   by_cases hk : klE (keyOfE y) = klE x
   ·have e:=klE_inj hy.key hx hk
    rw [e] at k1
    have e2 : y.c = c:=by simpa using k1.unique hxA
    have : y = { x with c:=c }:=by
     rw [← e,← e2]
     obtain ⟨a,b,d,e,f⟩:=y
     rfl
    rw [this];simp
   ·have k3 : (left (klE (keyOfE y)) && !(klE (keyOfE y)).sameKey (klE x)) = false:=k2
    rw [Maps.sameKey_ne hk] at k3
    exact List.mem_append_left _ ((h3 y hy).2 ⟨k1,by simpa using k3⟩)
theorem CollE.least {l : List En} {D : DataW H} {left : Lit → Bool} {ys : List En} (h : CollE D left ys) (hM : MapD l D) (hl : ∀ x ∈ l, EnOK x) (h0 : ∀ kl, left kl = false) (y : En) : y ∈ ys ↔ IsLeast l y := by
 have key : ∀ y,EnOK y → (AtE D (keyOfE y) (some y.c) ↔ IsLeast l y):=fun y hy => by
  obtain ⟨o,ho,hD⟩:=(hM (keyOfE y) hy.key).2 rfl
  constructor
  ·intro h1
   obtain rfl:=hD.unique h1
   obtain ⟨⟨z,hz,k1,k2⟩,k3⟩:=ho
   refine ⟨?_,fun x hx hk => k3 x hx hk⟩
   have : z = y:=by
    obtain ⟨a,b,d,e,f⟩:=z
    obtain ⟨a',b',d',e',f'⟩:=y
    obtain ⟨rfl,rfl,rfl,rfl⟩:=k1
    simp only at k2
    subst k2;rfl
   rw [← this];exact hz
  ·rintro ⟨hy2,h2⟩
   cases o with
   | none => exact absurd (key_same y) (ho y hy2)
   | some c =>
    obtain ⟨⟨z,hz,k1,k2⟩,k3⟩:=ho
    have e1:=k3 y hy2 (key_same y)
    have e2:=h2 z hz k1
    have : c = y.c:=by omega
    rw [← this];exact hD
 constructor
 ·intro hy
  have hok:=h.2.1 y hy
  exact (key y hok).1 ((h.2.2 y hok).1 hy).1
 ·intro hy
  have hok:=hl y hy.1
  exact (h.2.2 y hok).2 ⟨(key y hok).2 hy,h0 _⟩
end
end Go.Proofs.YtepoiefadjoabaaGreatDoor
