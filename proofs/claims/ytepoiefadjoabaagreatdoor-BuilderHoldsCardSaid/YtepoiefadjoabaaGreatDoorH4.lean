/- The texts LoudQ LoudR LoudT StabP GrpP SortP, one behind the other. -/
import Derived.Test.YtepoiefadjoabaaGreatDoorH3
import Derived.Test.YtepoiefadjoabaaGreatDoorH1
namespace Go.Proofs.YtepoiefadjoabaaGreatDoor
open Go
def spanS (L : List (List UInt8)) (x : Span) : List UInt8 := (nth L x.i).take x.d
def nodesA (L : List (List UInt8)) : List Span := (List.range 257).flatMap (lv L)
theorem Good.slen {L : List (List UInt8)} {x : Span} (g : Good L x) : (spanS L x).length = x.d := by
 unfold spanS
 rw [List.length_take]
 rcases g.ne with h | h
 ·have:=g.len x.i (Nat.le_refl _) h;omega
 ·omega
theorem Good.same {L : List (List UInt8)} {x y : Span} (gx : Good L x) (gy : Good L y) (hi : x.i = y.i) (hd : x.d = y.d) : x = y := by
 have key : ∀ {x y : Span},Good L x → Good L y → x.i = y.i → x.d = y.d → ¬ x.t < y.t:=by
  intro x y gx gy hi hd h
  have h1:=gx.hi
  have h2:=gy.le
  rcases h1 with h1 | h1
  ·omega
  ·rcases gx.ne with h3 | h3
   ·have:=gy.inn x.t (by omega) h;omega
   ·omega
 have k1:=key gx gy hi hd
 have k2:=key gy gx hi.symm hd.symm
 obtain ⟨xi,xt,xd⟩:=x
 obtain ⟨yi,yt,yd⟩:=y
 simp only at hi hd k1 k2
 subst hi;subst hd
 rw [show xt = yt by omega]
theorem Good.inj {L : List (List UInt8)} (hL : Asc L) {x y : Span} (gx : Good L x) (gy : Good L y) (h : spanS L x = spanS L y) : x = y := by
 have hd : x.d = y.d:=by rw [← gx.slen,← gy.slen,h]
 refine gx.same gy ?_ hd
 have key : ∀ {x y : Span},Good L x → Good L y → x.d = y.d → spanS L x = spanS L y → ¬ x.i < y.i:=by
  intro x y gx gy hd h hlt
  rcases gy.ne with h3 | h3
  ·have a1 : x.d ≤ (nth L x.i).length:=by
    have:=gx.slen;unfold spanS at this;rw [List.length_take] at this;omega
   have a2:=gy.len y.i (Nat.le_refl _) h3
   unfold spanS at h
   have:=hL.all (i:=x.i) (j:=y.i) (m:=y.i) (by have:=gy.le;omega) hlt (Nat.le_refl _) ((comm_iff x.d _ _).2 ⟨a1,by omega,by rw [h,hd]⟩)
   rcases gy.lo with h4 | h4 <;> omega
  ·rcases gy.lo with h4 | h4 <;> omega
 have k1:=key gx gy hd h
 have k2:=key gy gx hd.symm h.symm
 omega
theorem mem_nodes {L : List (List UInt8)} (hL : Asc L) {x : Span} (h : x ∈ nodesA L) : Good L x := by
 unfold nodesA at h
 obtain ⟨d,_,h⟩:=List.mem_flatMap.1 h
 exact ((tile_lv hL d).mem x h).1
def Before (x y : Span) : Prop := x.d < y.d ∨ (x.d = y.d ∧ x.i < y.i)
theorem Tile.pairwise {L : List (List UInt8)} {e : Nat} (he : 0 < e) : ∀ {xs : List Span} {lo hi : Nat}, Tile L e lo xs hi → xs.Pairwise Before
 | [],_,_,_ => List.Pairwise.nil
 | x :: xs,lo,hi,h => by
  obtain ⟨_,_,h3,h4,h5⟩:=h
  refine List.pairwise_cons.2 ⟨fun y hy => ?_,Tile.pairwise he h5⟩
  obtain ⟨_,k2,k3,_⟩:=h5.mem y hy
  refine Or.inr ⟨by omega, ?_⟩
  rcases h3.ne with h | h <;> omega
theorem nodes_pairwise {L : List (List UInt8)} (hL : Asc L) : (nodesA L).Pairwise Before := by
 unfold nodesA
 rw [List.pairwise_flatMap]
 refine ⟨fun d _ => ?_, ?_⟩
 ·cases d with
  | zero => simp [lv]
  | succ d => exact (tile_lv hL (d + 1)).pairwise (Nat.succ_pos _)
 ·refine List.pairwise_lt_range.imp ?_
  intro a b hab x hx y hy
  have h1:=((tile_lv hL a).mem x hx).2.1
  have h2:=((tile_lv hL b).mem y hy).2.1
  exact Or.inl (by omega)
theorem lv_end {L : List (List UInt8)} (hL : Asc L) {d : Nat} (hd0 : 0 < d) (h : ∀ s ∈ L, s.length < d) : lv L d = [] := by
 apply List.eq_nil_iff_forall_not_mem.2
 intro x hx
 obtain ⟨g,hd,_,_⟩:=(tile_lv hL d).mem x hx
 rcases g.ne with h1 | h1
 ·have h2:=g.len x.i (Nat.le_refl _) h1
  have h3:=h (nth L x.i) (List.mem_of_getElem? (nth_some (by have:=g.le;omega)))
  omega
 ·omega
theorem levels_fix {L : List (List UInt8)} (hL : Asc L) {n : Nat} (h : ∀ s ∈ L, s.length < n + 1) : (List.range (n + 1)).flatMap (lv L) = rootS L :: ((List.range (n + 1)).flatMap (lv L)).flatMap (kids L) := by
 have e2 : ((List.range (n + 1)).flatMap (lv L)).flatMap (kids L) = (List.range (n + 1)).flatMap (fun d => lv L (d + 1)):=by
  rw [List.flatMap_assoc]
  rfl
 rw [e2,List.range_succ,List.flatMap_append (f:=fun d => lv L (d + 1))]
 simp only [List.flatMap_cons,List.flatMap_nil,List.append_nil]
 rw [lv_end hL (Nat.succ_pos n) h,List.append_nil,← List.range_succ,List.range_succ_eq_map,List.flatMap_cons,List.flatMap_map]
 rfl
theorem nodes_fix {L : List (List UInt8)} (hL : Asc L) (h : ∀ s ∈ L, s.length ≤ 256) : nodesA L = rootS L :: (nodesA L).flatMap (kids L) :=
 levels_fix hL (n:=256) (fun s hs => Nat.lt_succ_of_le (h s hs))
section bfs
variable {α : Type} {r : α} {kd : α → List α} {A : List α}
def bfsAt (r : α) (kd : α → List α) (A : List α) (i : Nat) : List α := r :: (A.take i).flatMap kd
theorem bfsAt_split (hA : A = r :: A.flatMap kd) (i : Nat) : A = bfsAt r kd A i ++ (A.drop i).flatMap kd := by
 unfold bfsAt
 rw [List.cons_append,← List.flatMap_append,List.take_append_drop]
 exact hA
theorem bfsAt_succ {i : Nat} {x : α} (h : A[i]? = some x) : bfsAt r kd A (i + 1) = bfsAt r kd A i ++ kd x := by
 unfold bfsAt
 rw [List.take_add_one,h,List.flatMap_append]
 simp
theorem bfsAt_le (hA : A = r :: A.flatMap kd) (i : Nat) : (bfsAt r kd A i).length ≤ A.length := by
 have:=congrArg List.length (bfsAt_split hA i)
 rw [List.length_append] at this
 omega
theorem bfsAt_get (hA : A = r :: A.flatMap kd) {i k : Nat} (h : k < (bfsAt r kd A i).length) : (bfsAt r kd A i)[k]? = A[k]? := by
 have h1 : A[k]? = (bfsAt r kd A i ++ (A.drop i).flatMap kd)[k]?:=congrArg (fun l => l[k]?) (bfsAt_split hA i)
 rw [h1,List.getElem?_append_left h]
theorem bfsAt_mono {i j : Nat} (h : i ≤ j) : (bfsAt r kd A i).length ≤ (bfsAt r kd A j).length := by
 unfold bfsAt
 obtain ⟨d,rfl⟩ : ∃ d,j = i + d:=⟨j - i,by omega⟩
 rw [List.take_add,List.flatMap_append]
 simp
theorem bfsAt_end (hA : A = r :: A.flatMap kd) (dep : α → Nat) (hd : ∀ x, ∀ y ∈ kd x, dep y = dep x + 1) (hp : A.Pairwise fun x y => dep x ≤ dep y) {i : Nat} (hi : i < A.length) : i < (bfsAt r kd A i).length := by
 apply Classical.byContradiction
 intro hcon
 have h1:=bfsAt_split hA i
 have h2 : A[i] ∈ (A.drop i).flatMap kd:=by
  have h3 : A[i]? = (bfsAt r kd A i ++ (A.drop i).flatMap kd)[i]?:=congrArg (fun l => l[i]?) h1
  rw [List.getElem?_append_right (by omega),List.getElem?_eq_getElem hi] at h3
  exact List.mem_of_getElem? h3.symm
 obtain ⟨x,hx,hk⟩:=List.mem_flatMap.1 h2
 have h4:=hd x _ hk
 obtain ⟨j,hj⟩:=List.mem_iff_getElem?.1 hx
 rw [List.getElem?_drop] at hj
 obtain ⟨hj1,hj2⟩:=List.getElem?_eq_some_iff.1 hj
 rcases Nat.eq_zero_or_pos j with h5 | h5
 ·subst h5
  rw [Nat.add_zero] at hj1
  simp only [Nat.add_zero] at hj2
  rw [hj2] at h4;omega
 ·have:=List.pairwise_iff_getElem.1 hp i (i + j) hi hj1 (by omega)
  rw [hj2] at this;omega
theorem bfsAt_all (hA : A = r :: A.flatMap kd) : bfsAt r kd A A.length = A := by
 unfold bfsAt
 rw [List.take_length]
 exact hA.symm
theorem bfsAt_parent (hA : A = r :: A.flatMap kd) : ∀ (i k : Nat), 1 ≤ k → k < (bfsAt r kd A i).length → ∃ p, p < i ∧ (bfsAt r kd A p).length ≤ k ∧ k < (bfsAt r kd A (p + 1)).length
 | 0,k,h1,h2 => by simp [bfsAt] at h2;omega
 | i + 1,k,h1,h2 => by
  rcases Nat.lt_or_ge k (bfsAt r kd A i).length with h | h
  ·obtain ⟨p,a,b,c⟩:=bfsAt_parent hA i k h1 h
   exact ⟨p,by omega,b,c⟩
  ·exact ⟨i,by omega,h,h2⟩
theorem bfsAt_kid (hA : A = r :: A.flatMap kd) {p k : Nat} {x : α} (hx : A[p]? = some x) (h1 : (bfsAt r kd A p).length ≤ k) (h2 : k < (bfsAt r kd A (p + 1)).length) : A[k]? = (kd x)[k - (bfsAt r kd A p).length]? := by
 rw [← bfsAt_get hA h2,bfsAt_succ hx,List.getElem?_append_right h1]
end bfs
theorem nodes_mono {L : List (List UInt8)} (hL : Asc L) : (nodesA L).Pairwise fun x y => x.d ≤ y.d := (nodes_pairwise hL).imp fun h => by rcases h with h | h <;> omega
theorem kidsGo_d (L : List (List UInt8)) (d t : Nat) : ∀ (f i : Nat), ∀ y ∈ kidsGo L d t f i, y.d = d + 1
 | 0,_,y,h => by simp [kidsGo] at h
 | f + 1,i,y,h => by
  rw [kidsGo] at h
  split at h
  ·rcases List.mem_cons.1 h with rfl | h
   ·rfl
   ·exact kidsGo_d L d t f _ y h
  ·simp at h
theorem kids_d (L : List (List UInt8)) (x : Span) : ∀ y ∈ kids L x, y.d = x.d + 1 := kidsGo_d L x.d x.t _ _
theorem kid_str {L : List (List UInt8)} (hL : Asc L) {x y : Span} (g : Good L x) (h : y ∈ kids L x) : spanS L y = spanS L x ++ [(nth L y.i).getD x.d 0] := by
 obtain ⟨gy,hd,h1,h2⟩:=(tile_kids hL g).mem y h
 have h3 : y.i < y.t:=by rcases gy.ne with h | h <;> omega
 have h4:=gy.len y.i (Nat.le_refl _) h3
 have h5 : (nth L y.i).take x.d = (nth L x.i).take x.d:=by
  rcases Nat.lt_or_ge x.i y.i with h6 | h6
  ·have:=chain_comm (L:=L) (e:=x.d) (i:=x.i) (g.len x.i (Nat.le_refl _) (by omega)) y.i (by omega) (fun m a b => g.inn m a (by omega))
   exact ((comm_iff _ _ _).1 this).2.2.symm
  ·rw [show y.i = x.i by omega]
 unfold spanS
 rw [hd,List.take_add_one,h5,List.getElem?_eq_getElem (by omega),List.getD_eq_getElem?_getD,List.getElem?_eq_getElem (by omega)]
 rfl
def shapeL (L : List (List UInt8)) (A : List Span) : List Bool := [true, false] ++ A.flatMap fun x => List.replicate (kids L x).length true ++ [false]
def labelOf (L : List (List UInt8)) (x y : Span) : UInt8 := (nth L y.i).getD x.d 0
def labelsL (L : List (List UInt8)) (A : List Span) : List UInt8 := A.flatMap fun x => (kids L x).map (labelOf L x)
def isL (L : List (List UInt8)) (A : List Span) : List Bool := A.map (here L)
def idsL (L : List (List UInt8)) (A : List Span) : List Nat := (A.filter (here L)).map fun x => x.i
theorem labels_last {L : List (List UInt8)} (hL : Asc L) : ∀ (A : List Span), (∀ x ∈ A, Good L x) → labelsL L A = (A.flatMap (kids L)).map fun y => (spanS L y).getLastD 0
 | [],_ => rfl
 | x :: A,h => by
  have:=labels_last hL A (fun y hy => h y (by simp [hy]))
  unfold labelsL at *
  rw [List.flatMap_cons,List.flatMap_cons,List.map_append,this]
  congr 1
  apply List.map_congr_left
  intro y hy
  rw [kid_str hL (h x (by simp)) hy]
  simp [labelOf]
theorem here_iff {L : List (List UInt8)} (hL : Asc L) {x : Span} (g : Good L x) (hne : ∀ s ∈ L, s ≠ []) (j : Nat) : (L[j]? = some (spanS L x)) ↔ here L x = true ∧ j = x.i := by
 unfold here
 simp only [Bool.and_eq_true,decide_eq_true_eq,beq_iff_eq]
 constructor
 ·intro h
  have hj:=(List.getElem?_eq_some_iff.1 h).1
  have hs:=nth_eq h
  have hd : x.d ≠ 0:=fun h0 => by
   have:=g.slen
   rw [h0] at this
   exact hne _ (List.mem_of_getElem? h) (List.length_eq_zero_iff.1 this)
  have hit : x.i < x.t:=by rcases g.ne with h | h <;> omega
  have hlj : (nth L j).length = x.d:=by rw [hs,g.slen]
  have hcj : x.d ≤ comm (nth L x.i) (nth L j):=(comm_iff _ _ _).2 ⟨g.len _ (Nat.le_refl _) hit,by omega,by rw [hs];unfold spanS;rw [List.take_take,Nat.min_self]⟩
  have e1 : ¬ j < x.i:=fun hlt => by
   have h1:=comm_less (hL.lt _ _ hlt (by have:=g.le;omega))
   rw [comm_symm] at hcj
   have:=hL.all (m:=x.i) (by have:=g.le;omega) hlt (Nat.le_refl _) hcj
   rcases g.lo with h4 | h4 <;> omega
  have e2 : ¬ x.i < j:=fun hlt => by
   have:=comm_less (hL.lt _ _ hlt hj);omega
  have e3 : j = x.i:=by omega
  subst e3
  exact ⟨⟨hit,hlj⟩,rfl⟩
 ·rintro ⟨⟨h1,h2⟩,rfl⟩
  rw [nth_some (by have:=g.le;omega)]
  unfold spanS
  rw [List.take_of_length_le (by omega)]
end Go.Proofs.YtepoiefadjoabaaGreatDoor
namespace Go.Proofs.YtepoiefadjoabaaGreatDoor
open Go
def levStep (n : Nat) (out : List (List UInt8)) (s : List UInt8) : List (List UInt8) :=
 if n ≤ s.length∧(out = [] ∨ out.getLastD [] ≠ s.take n) then out ++ [s.take n] else out
def levL (L : List (List UInt8)) (n : Nat) : List (List UInt8) := L.foldl (levStep n) []
def firstsL (L : List (List UInt8)) (n m : Nat) : List (List UInt8) := ((List.range' 0 m).filter (isFirst L n)).map fun j => (nth L j).take n
theorem firstsL_succ (L : List (List UInt8)) (n m : Nat) : firstsL L n (m + 1) = if isFirst L n m then firstsL L n m ++ [(nth L m).take n] else firstsL L n m := by
 unfold firstsL
 rw [List.range'_concat,List.filter_append,List.map_append]
 simp only [Nat.zero_add,Nat.one_mul,List.filter_cons,List.filter_nil]
 split <;> simp
theorem cAt_le (L : List (List UInt8)) (m : Nat) : cAt L m ≤ (nth L (m - 1)).length ∧ cAt L m ≤ (nth L m).length := comm_le _ _
theorem levL_take {L : List (List UInt8)} (hL : Asc L) {n : Nat} (hn : 0 < n) : ∀ m, m ≤ L.length → (L.take m).foldl (levStep n) [] = firstsL L n m ∧
  (((∀ j,j < m → (nth L j).length < n)∧firstsL L n m = []) ∨ ∃ j,j < m∧n ≤ (nth L j).length∧(∀ k,j < k → k < m → (nth L k).length < n)∧firstsL L n m ≠ []∧(firstsL L n m).getLastD [] = (nth L j).take n)
 | 0,_ => ⟨rfl,Or.inl ⟨fun j h => by omega,rfl⟩⟩
 | m + 1,hm => by
  obtain ⟨h1,h2⟩:=levL_take hL hn m (by omega)
  rw [List.take_add_one,nth_some (by omega),List.foldl_append,h1]
  simp only [Option.toList_some,List.foldl_cons,List.foldl_nil]
  rw [firstsL_succ]
  by_cases hs : n ≤ (nth L m).length
  ·rcases h2 with ⟨h2,h3⟩ | ⟨j,h2,h3,h4,h5,h6⟩
   ·have hf : isFirst L n m = true:=by
     unfold isFirst
     simp only [Bool.and_eq_true,decide_eq_true_eq,Bool.or_eq_true,beq_iff_eq]
     refine ⟨hs, ?_⟩
     rcases Nat.eq_zero_or_pos m with h | h
     ·exact Or.inl h
     ·have:=h2 (m - 1) (by omega)
      have:=(cAt_le L m).1
      exact Or.inr (by omega)
    unfold levStep
    rw [if_pos hf,if_pos ⟨hs,Or.inl h3⟩]
    refine ⟨rfl,Or.inr ⟨m,Nat.lt_succ_self m,hs,fun k a b => by omega,by simp,by simp⟩⟩
   ·by_cases hq : (nth L j).take n = (nth L m).take n
    ·have hc:=(comm_iff n _ _).2 ⟨h3,hs,hq⟩
     have hc2:=hL.all (m:=m) (by omega) h2 (Nat.le_refl _) hc
     have hf : ¬ isFirst L n m = true:=by
      unfold isFirst
      simp only [Bool.and_eq_true,decide_eq_true_eq,Bool.or_eq_true,beq_iff_eq]
      omega
     unfold levStep
     rw [if_neg hf,if_neg (by rw [h6,hq];simp [h5])]
     exact ⟨rfl,Or.inr ⟨m,Nat.lt_succ_self m,hs,fun k a b => by omega,h5,by rw [h6,hq]⟩⟩
    ·have hf : isFirst L n m = true:=by
      unfold isFirst
      simp only [Bool.and_eq_true,decide_eq_true_eq,Bool.or_eq_true,beq_iff_eq]
      refine ⟨hs,Or.inr ?_⟩
      apply Classical.byContradiction
      intro hcon
      have h7:=(cAt_le L m).1
      have h8 : j = m - 1:=by
       rcases Nat.lt_or_ge j (m - 1) with h | h
       ·have:=h4 (m - 1) h (by omega);omega
       ·omega
      have h9 : n ≤ cAt L m:=by omega
      unfold cAt at h9
      rw [← h8] at h9
      exact hq ((comm_iff _ _ _).1 h9).2.2
     unfold levStep
     rw [if_pos hf,if_pos ⟨hs,Or.inr (by rw [h6];exact hq)⟩]
     exact ⟨rfl,Or.inr ⟨m,Nat.lt_succ_self m,hs,fun k a b => by omega,by simp,by simp⟩⟩
  ·have hf : ¬ isFirst L n m = true:=by
    unfold isFirst
    simp only [Bool.and_eq_true,decide_eq_true_eq]
    omega
   unfold levStep
   rw [if_neg hf,if_neg (by omega)]
   refine ⟨rfl, ?_⟩
   rcases h2 with ⟨h2,h3⟩ | ⟨j,h2,h3,h4,h5,h6⟩
   ·refine Or.inl ⟨fun k hk => ?_,h3⟩
    rcases Nat.lt_or_ge k m with h | h
    ·exact h2 k h
    ·rw [show k = m by omega];omega
   ·refine Or.inr ⟨j,by omega,h3,fun k a b => ?_,h5,h6⟩
    rcases Nat.lt_or_ge k m with h | h
    ·exact h4 k a h
    ·rw [show k = m by omega];omega
theorem levL_firsts {L : List (List UInt8)} (hL : Asc L) {n : Nat} (hn : 0 < n) : levL L n = firstsL L n L.length := by
 have:=(levL_take hL hn L.length (Nat.le_refl _)).1
 rw [List.take_length] at this
 exact this
def nodesL (L : List (List UInt8)) : List (List UInt8) := [] :: (List.range' 1 256).flatMap (levL L)
theorem lv_strs {L : List (List UInt8)} (hL : Asc L) (d : Nat) : (lv L (d + 1)).map (spanS L) = levL L (d + 1) := by
 have ht:=tile_lv hL (d + 1)
 rw [levL_firsts hL (Nat.succ_pos d)]
 unfold firstsL
 have hf:=ht.firsts (Nat.succ_pos d)
 rw [Nat.sub_zero] at hf
 rw [← hf,List.map_map]
 apply List.map_congr_left
 intro x hx
 show (nth L x.i).take x.d = (nth L x.i).take (d + 1)
 rw [(ht.mem x hx).2.1]
theorem nodes_strs {L : List (List UInt8)} (hL : Asc L) : (nodesA L).map (spanS L) = nodesL L := by
 have key : ∀ n,((List.range (n + 1)).flatMap (lv L)).map (spanS L) = [] :: (List.range' 1 n).flatMap (levL L):=by
  intro n
  rw [List.range_succ_eq_map,List.flatMap_cons,List.map_append,List.flatMap_map,List.map_flatMap,List.range'_eq_map_range,List.flatMap_map]
  have : (lv L 0).map (spanS L) = [[]]:=by simp [lv,spanS,rootS]
  rw [this]
  simp only [List.cons_append,List.nil_append,List.cons.injEq,true_and]
  congr 1
  funext d
  rw [lv_strs hL d,Nat.add_comm]
 exact key 256
def newBy (L : List (List UInt8)) (j : Nat) : Nat := (nth L j).length - (if j = 0 then 0 else cAt L j)
def countTo (L : List (List UInt8)) : Nat → Nat
 | 0 => 1
 | m + 1 => countTo L m + newBy L m
def countL (L : List (List UInt8)) : Nat := countTo L L.length
def firstsN (L : List (List UInt8)) (n m : Nat) : Nat := ((List.range' 0 m).filter (isFirst L n)).length
theorem firstsN_succ (L : List (List UInt8)) (n m : Nat) : firstsN L n (m + 1) = firstsN L n m + (if isFirst L n m then 1 else 0) := by
 unfold firstsN
 rw [List.range'_concat,List.filter_append,List.length_append]
 simp only [Nat.zero_add,Nat.one_mul,List.filter_cons,List.filter_nil]
 split <;> simp
def sumTo (f : Nat → Nat) : Nat → Nat
 | 0 => 0
 | k + 1 => sumTo f k + f (k + 1)
theorem sumTo_add (f g : Nat → Nat) : ∀ k, sumTo (fun n => f n + g n) k = sumTo f k + sumTo g k
 | 0 => rfl
 | k + 1 => by simp only [sumTo];rw [sumTo_add f g k];omega
theorem sumTo_first (L : List (List UInt8)) (j : Nat) : ∀ k, sumTo (fun n => if isFirst L n j then 1 else 0) k = min k (nth L j).length - (if j = 0 then 0 else min k (cAt L j))
 | 0 => by simp [sumTo]
 | k + 1 => by
  have hc:=(cAt_le L j).2
  simp only [sumTo]
  rw [sumTo_first L j k]
  unfold isFirst
  by_cases h0 : j = 0
  ·simp only [h0,if_true,beq_self_eq_true,Bool.true_or,Bool.and_true,decide_eq_true_eq]
   split <;> omega
  ·have h0' : (j == 0) = false:=by simp [h0]
   simp only [h0',if_neg h0,Bool.false_or,Bool.and_eq_true,decide_eq_true_eq]
   split <;> omega
theorem sumTo_zero : ∀ k, sumTo (fun _ => 0) k = 0
 | 0 => rfl
 | k + 1 => by simp only [sumTo];rw [sumTo_zero k]
theorem sumTo_congr {f g : Nat → Nat} : ∀ k, (∀ n, 1 ≤ n → n ≤ k → f n = g n) → sumTo f k = sumTo g k
 | 0,_ => rfl
 | k + 1,h => by simp only [sumTo];rw [sumTo_congr k (fun n a b => h n a (by omega)),h (k + 1) (by omega) (Nat.le_refl _)]
theorem sumTo_firstsN (L : List (List UInt8)) (h : ∀ s ∈ L, s.length ≤ 256) : ∀ m, m ≤ L.length → 1 + sumTo (fun n => firstsN L n m) 256 = countTo L m
 | 0,_ => by
  have : sumTo (fun n => firstsN L n 0) 256 = sumTo (fun _ => 0) 256:=sumTo_congr _ (fun n _ _ => rfl)
  rw [this,sumTo_zero];rfl
 | m + 1,hm => by
  have ih:=sumTo_firstsN L h m (by omega)
  have e : sumTo (fun n => firstsN L n (m + 1)) 256 = sumTo (fun n => firstsN L n m + (if isFirst L n m then 1 else 0)) 256:=sumTo_congr _ (fun n _ _ => firstsN_succ L n m)
  rw [e,sumTo_add,sumTo_first,countTo,← ih]
  have h1:=h _ (List.mem_of_getElem? (nth_some (L:=L) (j:=m) (by omega)))
  have h2:=(cAt_le L m).2
  unfold newBy
  split <;> omega
theorem nodes_count {L : List (List UInt8)} (hL : Asc L) (h : ∀ s ∈ L, s.length ≤ 256) : (nodesA L).length = countL L := by
 have key : ∀ n,((List.range (n + 1)).flatMap (lv L)).length = 1 + sumTo (fun d => firstsN L d L.length) n:=by
  intro n
  induction n with
  | zero => rfl
  | succ n ih =>
   rw [List.range_succ,List.flatMap_append,List.length_append,ih]
   simp only [List.flatMap_cons,List.flatMap_nil,List.append_nil,sumTo]
   have hf:=(tile_lv hL (n + 1)).firsts (Nat.succ_pos n)
   rw [Nat.sub_zero] at hf
   have : (lv L (n + 1)).length = firstsN L (n + 1) L.length:=by
    unfold firstsN
    rw [← hf,List.length_map]
   omega
 unfold countL
 rw [← sumTo_firstsN L h L.length (Nat.le_refl _)]
 exact key 256
end Go.Proofs.YtepoiefadjoabaaGreatDoor
namespace Go.Proofs.YtepoiefadjoabaaGreatDoor
open Go
structure OkL (L : List (List UInt8)) : Prop where
 asc : Asc L
 pos : ∀ s ∈ L,s ≠ []
 len : ∀ s ∈ L,s.length ≤ 256
def offA (L : List (List UInt8)) (i : Nat) : Nat := (bfsAt (rootS L) (kids L) (nodesA L) i).length
theorem OkL.fix {L : List (List UInt8)} (h : OkL L) : nodesA L = rootS L :: (nodesA L).flatMap (kids L) := nodes_fix h.asc h.len
theorem offA_zero (L : List (List UInt8)) : offA L 0 = 1 := rfl
theorem offA_succ {L : List (List UInt8)} {i : Nat} {x : Span} (h : (nodesA L)[i]? = some x) : offA L (i + 1) = offA L i + (kids L x).length := by
 unfold offA
 rw [bfsAt_succ h,List.length_append]
theorem offA_mono {L : List (List UInt8)} {i j : Nat} (h : i ≤ j) : offA L i ≤ offA L j := bfsAt_mono h
theorem OkL.off_all {L : List (List UInt8)} (h : OkL L) : offA L (nodesA L).length = (nodesA L).length := by
 unfold offA
 rw [bfsAt_all h.fix]
theorem OkL.off_le {L : List (List UInt8)} (h : OkL L) (i : Nat) : offA L i ≤ (nodesA L).length := bfsAt_le h.fix i
theorem OkL.off_gt {L : List (List UInt8)} (h : OkL L) {i : Nat} (hi : i < (nodesA L).length) : i < offA L i :=
 bfsAt_end h.fix (fun x => x.d) (kids_d L) (nodes_mono h.asc) hi
theorem OkL.good {L : List (List UInt8)} (h : OkL L) {i : Nat} {x : Span} (hx : (nodesA L)[i]? = some x) : Good L x := mem_nodes h.asc (List.mem_of_getElem? hx)
theorem OkL.uniq {L : List (List UInt8)} (h : OkL L) {i j : Nat} {x : Span} (hi : (nodesA L)[i]? = some x) (hj : (nodesA L)[j]? = some x) : i = j := by
 have key : ∀ {i j : Nat},(nodesA L)[i]? = some x → (nodesA L)[j]? = some x → ¬ i < j:=by
  intro i j hi hj hlt
  obtain ⟨h1,h2⟩:=List.getElem?_eq_some_iff.1 hi
  obtain ⟨h3,h4⟩:=List.getElem?_eq_some_iff.1 hj
  have:=List.pairwise_iff_getElem.1 (nodes_pairwise h.asc) i j h1 h3 hlt
  rw [h2,h4] at this
  unfold Before at this
  omega
 have k1:=key hi hj
 have k2:=key hj hi
 omega
theorem OkL.parent {L : List (List UInt8)} (h : OkL L) {k : Nat} {y : Span} (h1 : 1 ≤ k) (hy : (nodesA L)[k]? = some y) : ∃ p x, (nodesA L)[p]? = some x ∧ p < k ∧ offA L p ≤ k ∧ k < offA L (p + 1) ∧ y ∈ kids L x := by
 have hk:=(List.getElem?_eq_some_iff.1 hy).1
 obtain ⟨p,a,b,c⟩:=bfsAt_parent h.fix (nodesA L).length k h1 (by rw [bfsAt_all h.fix];exact hk)
 obtain ⟨x,hx⟩ : ∃ x,(nodesA L)[p]? = some x:=⟨_,List.getElem?_eq_getElem a⟩
 have hp:=h.off_gt a
 have hkid:=bfsAt_kid h.fix hx b c
 rw [hy] at hkid
 exact ⟨p,x,hx,by unfold offA at hp;omega,b,c,List.mem_of_getElem? hkid.symm⟩
theorem OkL.kid {L : List (List UInt8)} (h : OkL L) {i k : Nat} {x y : Span} (hx : (nodesA L)[i]? = some x) (h1 : offA L i ≤ k) (h2 : k < offA L (i + 1)) (hy : (nodesA L)[k]? = some y) : y ∈ kids L x := by
 have hkid:=bfsAt_kid h.fix hx h1 h2
 rw [hy] at hkid
 exact List.mem_of_getElem? hkid.symm
theorem shapeL_snoc (L : List (List UInt8)) (A : List Span) (x : Span) : shapeL L (A ++ [x]) = shapeL L A ++ List.replicate (kids L x).length true ++ [false] := by
 unfold shapeL
 rw [List.flatMap_append]
 simp
theorem isL_snoc (L : List (List UInt8)) (A : List Span) (x : Span) : isL L (A ++ [x]) = isL L A ++ [here L x] := by simp [isL]
theorem idsL_snoc (L : List (List UInt8)) (A : List Span) (x : Span) : idsL L (A ++ [x]) = idsL L A ++ if here L x then [x.i] else [] := by
 unfold idsL
 rw [List.filter_append,List.map_append]
 by_cases h : here L x = true <;> simp [h]
theorem OkL.labels {L : List (List UInt8)} (h : OkL L) : labelsL L (nodesA L) = ((nodesA L).drop 1).map fun y => (spanS L y).getLastD 0 := by
 rw [labels_last h.asc _ (fun x hx => mem_nodes h.asc hx)]
 congr 1
 have h1 : (nodesA L).drop 1 = (rootS L :: (nodesA L).flatMap (kids L)).drop 1:=congrArg (List.drop 1) h.fix
 rw [h1];rfl
def part11 (b : List UInt8) : List UInt8 := leB 4 b.length ++ b
def loudE (L : List (List UInt8)) : List UInt8 :=
 part11 (vecE (shapeL L (nodesA L))) ++ part11 (labelsL L (nodesA L)) ++ part11 (vecE (isL L (nodesA L))) ++ part11 (packE (idsL L (nodesA L)))
theorem shapeL_len (L : List (List UInt8)) : ∀ i, i ≤ (nodesA L).length → (shapeL L ((nodesA L).take i)).length = offA L i + i + 1
 | 0,_ => rfl
 | i + 1,hi => by
  obtain ⟨x,hx⟩ : ∃ x,(nodesA L)[i]? = some x:=⟨_,List.getElem?_eq_getElem hi⟩
  have ih:=shapeL_len L i (by omega)
  rw [List.take_add_one,hx,Option.toList_some,shapeL_snoc,List.length_append,List.length_append,ih,offA_succ hx,List.length_replicate]
  simp;omega
end Go.Proofs.YtepoiefadjoabaaGreatDoor
namespace Go.Proofs.YtepoiefadjoabaaGreatDoor
open Go
def ltK (k : Nat → Nat) (x y : Nat) : Prop := k x < k y ∨ (k x = k y ∧ x < y)
theorem ltK_trans {k : Nat → Nat} {x y z : Nat} (h1 : ltK k x y) (h2 : ltK k y z) : ltK k x z := by unfold ltK at *; omega
theorem ltK_irrefl {k : Nat → Nat} {x : Nat} : ¬ ltK k x x := by unfold ltK; omega
theorem ltK_key {k : Nat → Nat} {x y : Nat} (h : x < y) : ltK k y x ↔ k y < k x := by unfold ltK; omega
theorem ltK_key2 {k : Nat → Nat} {x y : Nat} (h : x < y) : ltK k x y ↔ ¬ k y < k x := by unfold ltK; omega
def rotF (D : Nat → Nat) (a m b i : Nat) : Nat := if i < a then D i else if i < a + (b - m) then D (i + (m - a)) else if i < b then D (i - (b - m)) else D i
def swpF (D : Nat → Nat) (a b n i : Nat) : Nat := if a ≤ i ∧ i < a + n then D (i - a + b) else if b ≤ i ∧ i < b + n then D (i - b + a) else D i
structure Same (D D' : Nat → Nat) (a b : Nat) : Prop where
 out : ∀ i,(i < a ∨ b ≤ i) → D' i = D i
 fro : ∀ i,a ≤ i → i < b → ∃ j,a ≤ j∧j < b∧D' i = D j
 to : ∀ j,a ≤ j → j < b → ∃ i,a ≤ i∧i < b∧D' i = D j
theorem Same.refl (D : Nat → Nat) (a b : Nat) : Same D D a b := ⟨fun _ _ => rfl, fun i h1 h2 => ⟨i, h1, h2, rfl⟩, fun i h1 h2 => ⟨i, h1, h2, rfl⟩⟩
theorem Same.trans {D D' D'' : Nat → Nat} {a b : Nat} (h : Same D D' a b) (h' : Same D' D'' a b) : Same D D'' a b where
 out i hi:=(h'.out i hi).trans (h.out i hi)
 fro i h1 h2:=by
  obtain ⟨j,j1,j2,e⟩:=h'.fro i h1 h2
  obtain ⟨j',j1',j2',e'⟩:=h.fro j j1 j2
  exact ⟨j',j1',j2',e.trans e'⟩
 to j h1 h2:=by
  obtain ⟨i,i1,i2,e⟩:=h.to j h1 h2
  obtain ⟨i',i1',i2',e'⟩:=h'.to i i1 i2
  exact ⟨i',i1',i2',e'.trans e⟩
theorem Same.wide {D D' : Nat → Nat} {a b a' b' : Nat} (h : Same D D' a b) (ha : a' ≤ a) (hb : b ≤ b') : Same D D' a' b' where
 out i hi:=h.out i (by omega)
 fro i h1 h2:=by
  by_cases hi : a ≤ i∧i < b
  ·obtain ⟨j,j1,j2,e⟩:=h.fro i hi.1 hi.2
   exact ⟨j,by omega,by omega,e⟩
  ·exact ⟨i,h1,h2,h.out i (by omega)⟩
 to i h1 h2:=by
  by_cases hi : a ≤ i∧i < b
  ·obtain ⟨j,j1,j2,e⟩:=h.to i hi.1 hi.2
   exact ⟨j,by omega,by omega,e⟩
  ·exact ⟨i,h1,h2,h.out i (by omega)⟩
theorem rotF_lo {D : Nat → Nat} {a m b i : Nat} (h : i < a) : rotF D a m b i = D i := by unfold rotF; rw [if_pos h]
theorem rotF_1 {D : Nat → Nat} {a m b i : Nat} (h1 : a ≤ i) (h2 : i < a + (b - m)) : rotF D a m b i = D (i + (m - a)) := by
 unfold rotF;rw [if_neg (by omega),if_pos h2]
theorem rotF_2 {D : Nat → Nat} {a m b i : Nat} (h1 : a + (b - m) ≤ i) (h2 : i < b) : rotF D a m b i = D (i - (b - m)) := by
 unfold rotF;rw [if_neg (by omega),if_neg (by omega),if_pos h2]
theorem rotF_hi {D : Nat → Nat} {a m b i : Nat} (ha : a ≤ m) (hm : m ≤ b) (h : b ≤ i) : rotF D a m b i = D i := by
 unfold rotF;rw [if_neg (by omega),if_neg (by omega),if_neg (by omega)]
theorem same_rot {D : Nat → Nat} {a m b : Nat} (ha : a ≤ m) (hm : m ≤ b) : Same D (rotF D a m b) a b where
 out i hi:=by
  rcases hi with hi | hi
  ·exact rotF_lo hi
  ·exact rotF_hi ha hm hi
 fro i h1 h2:=by
  rcases Nat.lt_or_ge i (a + (b - m)) with h | h
  ·exact ⟨_,by omega,by omega,rotF_1 h1 h⟩
  ·exact ⟨_,by omega,by omega,rotF_2 h h2⟩
 to j h1 h2:=by
  rcases Nat.lt_or_ge j m with h | h
  ·exact ⟨j + (b - m),by omega,by omega,by rw [rotF_2 (by omega) (by omega)];congr 1;omega⟩
  ·exact ⟨j - (m - a),by omega,by omega,by rw [rotF_1 (by omega) (by omega)];congr 1;omega⟩
theorem rotF_left {D : Nat → Nat} {a b : Nat} (h : a ≤ b) : rotF D a a b = D := by
 funext i;unfold rotF
 split
 ·rfl
 ·split
  ·congr 1;omega
  ·split
   ·omega
   ·rfl
theorem rotF_right {D : Nat → Nat} {a b : Nat} : rotF D a b b = D := by
 funext i;unfold rotF
 split
 ·rfl
 ·split
  ·omega
  ·split
   ·congr 1;omega
   ·rfl
theorem swpF_zero (D : Nat → Nat) (a b : Nat) : swpF D a b 0 = D := by
 funext i;unfold swpF
 rw [if_neg (by omega),if_neg (by omega)]
def setF (D : Nat → Nat) (j v i : Nat) : Nat := if i = j then v else D i
theorem swpF_succ {D : Nat → Nat} {a b n : Nat} (h : a + n < b) : setF (setF (swpF D a b n) (a + n) (swpF D a b n (b + n))) (b + n) (swpF D a b n (a + n)) = swpF D a b (n + 1) := by
 have e1 : swpF D a b n (b + n) = D (b + n):=by unfold swpF;rw [if_neg (by omega),if_neg (by omega)]
 have e2 : swpF D a b n (a + n) = D (a + n):=by unfold swpF;rw [if_neg (by omega),if_neg (by omega)]
 rw [e1,e2]
 funext i
 unfold setF
 by_cases h1 : i = b + n
 ·subst h1
  rw [if_pos rfl]
  unfold swpF
  rw [if_neg (by omega),if_pos (by omega)]
  congr 1;omega
 ·rw [if_neg h1]
  by_cases h2 : i = a + n
  ·subst h2
   rw [if_pos rfl]
   unfold swpF
   rw [if_pos (by omega)]
   congr 1;omega
  ·rw [if_neg h2]
   unfold swpF
   by_cases h3 : a ≤ i∧i < a + n
   ·rw [if_pos h3,if_pos (by omega)]
   ·rw [if_neg h3]
    by_cases h4 : b ≤ i∧i < b + n
    ·rw [if_pos h4,if_neg (by omega),if_pos (by omega)]
    ·rw [if_neg h4,if_neg (by omega),if_neg (by omega)]
theorem rot_big {D : Nat → Nat} {m i j : Nat} (hi : i ≤ m) (h : j < i) : rotF (swpF D (m - i) m j) (m - (i - j)) m (m + j) = rotF D (m - i) m (m + j) := by
 funext x
 rcases Nat.lt_or_ge x (m - i) with h1 | h1
 ·rw [rotF_lo (by omega),rotF_lo h1]
  unfold swpF;rw [if_neg (by omega),if_neg (by omega)]
 rcases Nat.lt_or_ge x (m - i + j) with h2 | h2
 ·rw [rotF_lo (by omega),rotF_1 h1 (by omega)]
  unfold swpF;rw [if_pos (by omega)];congr 1;omega
 rcases Nat.lt_or_ge x (m + j) with h3 | h3
 ·rw [rotF_2 (D:=D) (by omega) h3]
  rcases Nat.lt_or_ge x (m - (i - j) + j) with h4 | h4
  ·rw [rotF_1 (by omega) (by omega)]
   unfold swpF
   rw [if_neg (by omega),if_pos (by omega)];congr 1;omega
  ·rw [rotF_2 (by omega) h3]
   unfold swpF
   rw [if_neg (by omega),if_neg (by omega)]
 ·rw [rotF_hi (by omega) (by omega) h3,rotF_hi (by omega) (by omega) h3]
  unfold swpF;rw [if_neg (by omega),if_neg (by omega)]
theorem rot_small {D : Nat → Nat} {m i j : Nat} (hi : i ≤ m) (h : i < j) : rotF (swpF D (m - i) (m + j - i) i) (m - i) m (m + (j - i)) = rotF D (m - i) m (m + j) := by
 funext x
 rcases Nat.lt_or_ge x (m - i) with h1 | h1
 ·rw [rotF_lo (by omega),rotF_lo h1]
  unfold swpF;rw [if_neg (by omega),if_neg (by omega)]
 rcases Nat.lt_or_ge x (m + j - i) with h2 | h2
 ·rw [rotF_1 (D:=D) h1 (by omega)]
  rcases Nat.lt_or_ge x (m - i + (j - i)) with h4 | h4
  ·rw [rotF_1 h1 (by omega)]
   unfold swpF
   rw [if_neg (by omega),if_neg (by omega)]
  ·rw [rotF_2 (by omega) (by omega)]
   unfold swpF
   rw [if_pos (by omega)];congr 1;omega
 rcases Nat.lt_or_ge x (m + j) with h3 | h3
 ·rw [rotF_2 (D:=D) (by omega) h3,rotF_hi (by omega) (by omega) (by omega)]
  unfold swpF
  rw [if_neg (by omega),if_pos (by omega)];congr 1;omega
 ·rw [rotF_hi (by omega) (by omega) h3,rotF_hi (by omega) (by omega) (by omega)]
  unfold swpF;rw [if_neg (by omega),if_neg (by omega)]
theorem rot_even {D : Nat → Nat} {m i : Nat} (hi : i ≤ m) : swpF D (m - i) m i = rotF D (m - i) m (m + i) := by
 funext x
 rcases Nat.lt_or_ge x (m - i) with h1 | h1
 ·rw [rotF_lo h1]
  unfold swpF;rw [if_neg (by omega),if_neg (by omega)]
 rcases Nat.lt_or_ge x m with h2 | h2
 ·rw [rotF_1 h1 (by omega)]
  unfold swpF;rw [if_pos (by omega)];congr 1;omega
 rcases Nat.lt_or_ge x (m + i) with h3 | h3
 ·rw [rotF_2 (by omega) h3]
  unfold swpF;rw [if_neg (by omega),if_pos (by omega)];congr 1;omega
 ·rw [rotF_hi (by omega) (by omega) h3]
  unfold swpF;rw [if_neg (by omega),if_neg (by omega)]
theorem rot_down {D : Nat → Nat} {i j : Nat} (h0 : 0 < j) (h : j ≤ i) : setF (setF (rotF D j i (i + 1)) j (rotF D j i (i + 1) (j - 1))) (j - 1) (rotF D j i (i + 1) j) = rotF D (j - 1) i (i + 1) := by
 have e1 : rotF D j i (i + 1) (j - 1) = D (j - 1):=rotF_lo (by omega)
 have e2 : rotF D j i (i + 1) j = D i:=by rw [rotF_1 (Nat.le_refl _) (by omega)];congr 1;omega
 rw [e1,e2]
 funext x
 unfold setF
 by_cases h1 : x = j - 1
 ·subst h1
  rw [if_pos rfl,rotF_1 (Nat.le_refl _) (by omega)];congr 1;omega
 ·rw [if_neg h1]
  by_cases h2 : x = j
  ·subst h2
   rw [if_pos rfl,rotF_2 (by omega) (by omega)];congr 1;omega
  ·rw [if_neg h2]
   rcases Nat.lt_or_ge x (j - 1) with h3 | h3
   ·rw [rotF_lo (by omega),rotF_lo h3]
   rcases Nat.lt_or_ge x (i + 1) with h4 | h4
   ·rw [rotF_2 (by omega) h4,rotF_2 (by omega) h4]
   ·rw [rotF_hi (by omega) (by omega) h4,rotF_hi (by omega) (by omega) h4]
theorem rot_up {D : Nat → Nat} {a j : Nat} (h : a ≤ j) : setF (setF (rotF D a (a + 1) (j + 1)) j (rotF D a (a + 1) (j + 1) (j + 1))) (j + 1) (rotF D a (a + 1) (j + 1) j) = rotF D a (a + 1) (j + 2) := by
 have e1 : rotF D a (a + 1) (j + 1) (j + 1) = D (j + 1):=rotF_hi (by omega) (by omega) (Nat.le_refl _)
 have e2 : rotF D a (a + 1) (j + 1) j = D a:=by rw [rotF_2 (by omega) (by omega)];congr 1;omega
 rw [e1,e2]
 funext x
 unfold setF
 by_cases h1 : x = j + 1
 ·subst h1
  rw [if_pos rfl,rotF_2 (by omega) (by omega)];congr 1;omega
 ·rw [if_neg h1]
  by_cases h2 : x = j
  ·subst h2
   rw [if_pos rfl,rotF_1 h (by omega)];congr 1;omega
  ·rw [if_neg h2]
   rcases Nat.lt_or_ge x a with h3 | h3
   ·rw [rotF_lo h3,rotF_lo h3]
   rcases Nat.lt_or_ge x j with h4 | h4
   ·rw [rotF_1 h3 (by omega),rotF_1 h3 (by omega)]
   ·rw [rotF_hi (by omega) (by omega) (by omega),rotF_hi (by omega) (by omega) (by omega)]
def Srt (k D : Nat → Nat) (a b : Nat) : Prop := ∀ i j, a ≤ i → i < j → j < b → ltK k (D i) (D j)
def Apt (D : Nat → Nat) (a m b : Nat) : Prop := ∀ i j, a ≤ i → i < m → m ≤ j → j < b → D i < D j
theorem Srt.of_eq {k D D' : Nat → Nat} {a b : Nat} (h : Srt k D a b) (he : ∀ i, a ≤ i → i < b → D' i = D i) : Srt k D' a b := fun i j h1 h2 h3 => by
 rw [he i h1 (by omega),he j (by omega) h3];exact h i j h1 h2 h3
theorem Srt.le {k D : Nat → Nat} {a b : Nat} (h : Srt k D a b) {i j x : Nat} (h1 : a ≤ i) (h2 : i ≤ j) (h3 : j < b) (hx : ltK k x (D i)) : ltK k x (D j) := by
 rcases Nat.lt_or_ge i j with h4 | h4
 ·exact ltK_trans hx (h i j h1 h4 h3)
 ·rw [show j = i by omega];exact hx
theorem Srt.ge {k D : Nat → Nat} {a b : Nat} (h : Srt k D a b) {i j x : Nat} (h1 : a ≤ i) (h2 : i ≤ j) (h3 : j < b) (hx : ltK k (D j) x) : ltK k (D i) x := by
 rcases Nat.lt_or_ge i j with h4 | h4
 ·exact ltK_trans (h i j h1 h4 h3) hx
 ·rw [show i = j by omega];exact hx
theorem srt_join {k D : Nat → Nat} {a m b : Nat} (h1 : Srt k D a m) (h2 : Srt k D m b) (h : ∀ i j, a ≤ i → i < m → m ≤ j → j < b → ltK k (D i) (D j)) : Srt k D a b := fun i j hi hij hj => by
 rcases Nat.lt_or_ge j m with h3 | h3
 ·exact h1 i j hi hij h3
 ·rcases Nat.lt_or_ge i m with h4 | h4
  ·exact h i j hi h4 h3 hj
  ·exact h2 i j h4 hij hj
theorem ins_down {k D : Nat → Nat} {a i j : Nat} (hs : Srt k D a i) (ha : a ≤ j) (hj : j ≤ i) (h1 : ∀ c, a ≤ c → c < j → ltK k (D c) (D i)) (h2 : ∀ c, j ≤ c → c < i → ltK k (D i) (D c)) : Srt k (rotF D j i (i + 1)) a (i + 1) := by
 have ej : rotF D j i (i + 1) j = D i:=by rw [rotF_1 (Nat.le_refl _) (by omega)];congr 1;omega
 intro x y hx hxy hy
 rcases Nat.lt_or_ge x j with h3 | h3
 ·rw [rotF_lo h3]
  rcases Nat.lt_or_ge y j with h4 | h4
  ·rw [rotF_lo h4];exact hs x y hx hxy (by omega)
  ·rcases Nat.lt_or_ge j y with h5 | h5
   ·rw [rotF_2 (by omega) hy];exact hs x _ hx (by omega) (by omega)
   ·rw [show y = j by omega,ej];exact h1 x hx h3
 ·rw [rotF_2 (D:=D) (i:=y) (by omega) hy]
  rcases Nat.lt_or_ge j x with h5 | h5
  ·rw [rotF_2 (by omega) (by omega)];exact hs _ _ (by omega) (by omega) (by omega)
  ·rw [show x = j by omega,ej];exact h2 _ (by omega) (by omega)
theorem ins_up {k D : Nat → Nat} {a i b : Nat} (hs : Srt k D (a + 1) b) (ha : a + 1 ≤ i) (hi : i ≤ b) (h1 : ∀ c, a + 1 ≤ c → c < i → ltK k (D c) (D a)) (h2 : ∀ c, i ≤ c → c < b → ltK k (D a) (D c)) : Srt k (rotF D a (a + 1) i) a b := by
 have ej : rotF D a (a + 1) i (i - 1) = D a:=by rw [rotF_2 (by omega) (by omega)];congr 1;omega
 intro x y hx hxy hy
 rcases Nat.lt_or_ge y (i - 1) with h3 | h3
 ·rw [rotF_1 hx (by omega),rotF_1 (by omega) (by omega)];exact hs _ _ (by omega) (by omega) (by omega)
 ·rcases Nat.lt_or_ge x (i - 1) with h4 | h4
  ·rw [rotF_1 hx (by omega)]
   rcases Nat.lt_or_ge (i - 1) y with h5 | h5
   ·rw [rotF_hi (by omega) (by omega) (by omega)];exact hs _ _ (by omega) (by omega) hy
   ·rw [show y = i - 1 by omega,ej];exact h1 _ (by omega) (by omega)
  ·rw [rotF_hi (D:=D) (i:=y) (by omega) (by omega) (by omega)]
   rcases Nat.lt_or_ge (i - 1) x with h5 | h5
   ·rw [rotF_hi (by omega) (by omega) (by omega)];exact hs _ _ (by omega) hxy hy
   ·rw [show x = i - 1 by omega,ej];exact h2 _ (by omega) hy
structure SymAt (a m b mid lo hi : Nat) : Prop where
 am : a < m
 mb : m < b
 mid1 : 2 * mid ≤ a + b
 mid2 : a + b ≤ 2 * mid + 1
 big : mid < m → lo = mid + m - b∧hi = mid
 small : m ≤ mid → lo = a∧hi = m
theorem SymAt.in {a m b mid lo hi c : Nat} (h : SymAt a m b mid lo hi) (h1 : lo ≤ c) (h2 : c < hi) : a ≤ c ∧ c < m ∧ m ≤ mid + m - 1 - c ∧ mid + m - 1 - c < b ∧ c < mid + m := by
 obtain ⟨h3,h4,h5,h6,h7,h8⟩:=h
 rcases Nat.lt_or_ge mid m with hm | hm
 ·have:=h7 hm;omega
 ·have:=h8 hm;omega
theorem SymAt.rng {a m b mid lo hi : Nat} (h : SymAt a m b mid lo hi) : a ≤ lo ∧ lo ≤ hi ∧ hi ≤ m ∧ hi ≤ mid ∧ mid + m - lo ≤ b ∧ m ≤ mid + m - hi ∧ mid + m - lo ≥ m := by
 obtain ⟨h3,h4,h5,h6,h7,h8⟩:=h
 rcases Nat.lt_or_ge mid m with hm | hm
 ·have:=h7 hm;omega
 ·have:=h8 hm;omega
theorem sym_mono {k D : Nat → Nat} {a m b mid lo hi c c' : Nat} (h : SymAt a m b mid lo hi) (s1 : Srt k D a m) (s2 : Srt k D m b) (ap : Apt D a m b) (h1 : lo ≤ c) (h2 : c ≤ c') (h3 : c' < hi)
  (hc : k (D (mid + m - 1 - c)) < k (D c)) : k (D (mid + m - 1 - c')) < k (D c'):=by
 obtain ⟨a1,a2,a3,a4,a5⟩:=h.in h1 (by omega)
 obtain ⟨b1,b2,b3,b4,b5⟩:=h.in (c:=c') (by omega) h3
 rw [← ltK_key (ap _ _ b1 b2 b3 b4)]
 rw [← ltK_key (ap _ _ a1 a2 a3 a4)] at hc
 exact s1.le a1 h2 b2 (s2.ge b3 (by omega) a4 hc)
theorem sym_cut {k D : Nat → Nat} {a m b mid lo hi s : Nat} (h : SymAt a m b mid lo hi) (s1 : Srt k D a m) (s2 : Srt k D m b) (ap : Apt D a m b) (hlo : lo ≤ s) (hhi : s ≤ hi)
  (h1 : ∀ c,lo ≤ c → c < s → ¬ k (D (mid + m - 1 - c)) < k (D c)) (h2 : ∀ c,s ≤ c → c < hi → k (D (mid + m - 1 - c)) < k (D c)) :
  Srt k (rotF D s m (mid + m - s)) a s∧Srt k (rotF D s m (mid + m - s)) s mid∧Srt k (rotF D s m (mid + m - s)) mid (mid + m - s)∧Srt k (rotF D s m (mid + m - s)) (mid + m - s) b ∧
  Apt (rotF D s m (mid + m - s)) a s mid∧Apt (rotF D s m (mid + m - s)) mid (mid + m - s) b ∧
  ∀ i j,a ≤ i → i < mid → mid ≤ j → j < b → ltK k (rotF D s m (mid + m - s) i) (rotF D s m (mid + m - s) j):=by
 obtain ⟨r1,r2,r3,r4,r5,r6,r7⟩:=h.rng
 have hend : mid + m - s ≤ b:=by omega
 have A1 : ∀ i,i < s → rotF D s m (mid + m - s) i = D i:=fun i hi => rotF_lo hi
 have A2 : ∀ i,s ≤ i → i < mid → rotF D s m (mid + m - s) i = D (i + (m - s)):=fun i h1 h2 => rotF_1 h1 (by omega)
 have A3 : ∀ i,mid ≤ i → i < mid + m - s → rotF D s m (mid + m - s) i = D (i - (mid - s)):=fun i h1 h2 => by
  rw [rotF_2 (by omega) h2];congr 1;omega
 have A4 : ∀ i,mid + m - s ≤ i → rotF D s m (mid + m - s) i = D i:=fun i h => rotF_hi (by omega) (by omega) h
 -- what lies left of the cut is less than what lies right of it
 have X1 : ∀ c q,a ≤ c → c < s → mid + m - s ≤ q → q < b → ltK k (D c) (D q):=fun c q c1 c2 q1 q2 => by
  rcases Nat.lt_or_ge lo s with hl | hl
  ·obtain ⟨y1,y2,y3,y4,y5⟩:=h.in (c:=s - 1) (by omega) (by omega)
   have:=h1 (s - 1) (by omega) (by omega)
   rw [← ltK_key2 (ap _ _ y1 y2 y3 y4)] at this
   exact s1.ge (j:=s - 1) c1 (by omega) y2 (s2.le y3 (by omega) q2 this)
  ·exfalso
   obtain ⟨h3,h4,h5,h6,h7,h8⟩:=h
   rcases Nat.lt_or_ge mid m with hm | hm
   ·have:=h7 hm;omega
   ·have:=h8 hm;omega
 have X2 : ∀ q c,m ≤ q → q < mid + m - s → s ≤ c → c < m → ltK k (D q) (D c):=fun q c q1 q2 c1 c2 => by
  rcases Nat.lt_or_ge s hi with hl | hl
  ·obtain ⟨y1,y2,y3,y4,y5⟩:=h.in (c:=s) (by omega) hl
   have:=h2 s (Nat.le_refl _) hl
   rw [← ltK_key (ap _ _ y1 y2 y3 y4)] at this
   exact s1.le y1 c1 c2 (s2.ge q1 (by omega) y4 this)
  ·exfalso
   obtain ⟨h3,h4,h5,h6,h7,h8⟩:=h
   rcases Nat.lt_or_ge mid m with hm | hm
   ·have:=h7 hm;omega
   ·have:=h8 hm;omega
 refine ⟨?_, ?_, ?_, ?_, ?_, ?_, ?_⟩
 ·intro i j i1 i2 i3
  rw [A1 i (by omega),A1 j i3];exact s1 i j i1 i2 (by omega)
 ·intro i j i1 i2 i3
  rw [A2 i i1 (by omega),A2 j (by omega) i3];exact s2 _ _ (by omega) (by omega) (by omega)
 ·intro i j i1 i2 i3
  rw [A3 i i1 (by omega),A3 j (by omega) i3];exact s1 _ _ (by omega) (by omega) (by omega)
 ·intro i j i1 i2 i3
  rw [A4 i i1,A4 j (by omega)];exact s2 _ _ (by omega) (by omega) (by omega)
 ·intro i j i1 i2 i3 i4
  rw [A1 i i2,A2 j i3 i4];exact ap _ _ i1 (by omega) (by omega) (by omega)
 ·intro i j i1 i2 i3 i4
  rw [A3 i i1 i2,A4 j i3];exact ap _ _ (by omega) (by omega) (by omega) i4
 ·intro i j i1 i2 i3 i4
  rcases Nat.lt_or_ge i s with h3 | h3
  ·rw [A1 i h3]
   rcases Nat.lt_or_ge j (mid + m - s) with h4 | h4
   ·rw [A3 j i3 h4];exact s1 _ _ i1 (by omega) (by omega)
   ·rw [A4 j h4];exact X1 i j i1 h3 h4 i4
  ·rw [A2 i h3 i2]
   rcases Nat.lt_or_ge j (mid + m - s) with h4 | h4
   ·rw [A3 j i3 h4];exact X2 _ _ (by omega) (by omega) (by omega) (by omega)
   ·rw [A4 j h4];exact s2 _ _ (by omega) (by omega) (by omega)
theorem sym_join {k D1 D2 D3 : Nat → Nat} {a mid b : Nat} (ham : a ≤ mid) (hmb : mid ≤ b) (hx : ∀ i j, a ≤ i → i < mid → mid ≤ j → j < b → ltK k (D1 i) (D1 j)) (e1 : Same D1 D2 a mid) (s1 : Srt k D2 a mid) (e2 : Same D2 D3 mid b) (s2 : Srt k D3 mid b) :
  Srt k D3 a b∧Same D1 D3 a b:=by
 refine ⟨srt_join (m:=mid) (s1.of_eq fun i h1 h2 => e2.out i (Or.inl h2)) s2 ?_,(e1.wide (Nat.le_refl _) hmb).trans (e2.wide ham (Nat.le_refl _))⟩
 intro i j i1 i2 j1 j2
 rw [e2.out i (Or.inl i2)]
 obtain ⟨i',p1,p2,p3⟩:=e1.fro i i1 i2
 obtain ⟨j',q1,q2,q3⟩:=e2.fro j j1 j2
 rw [p3,q3,e1.out j' (Or.inr q1)]
 exact hx i' j' p1 p2 q1 q2
structure Win (k D : Nat → Nat) (a b : Nat) : Prop where
 srt : Srt k D a b
 inn : ∀ i,a ≤ i → i < b → a ≤ D i∧D i < b
 all : ∀ v,a ≤ v → v < b → ∃ i,a ≤ i∧i < b∧D i = v
theorem Win.none (k D : Nat → Nat) (a : Nat) : Win k D a a := ⟨fun i j h1 h2 h3 => by omega, fun i h1 h2 => by omega, fun v h1 h2 => by omega⟩
theorem Win.apt {k D : Nat → Nat} {a m b : Nat} (h1 : Win k D a m) (h2 : Win k D m b) : Apt D a m b := fun i j i1 i2 j1 j2 => by
 have:=h1.inn i i1 i2
 have:=h2.inn j j1 j2
 omega
theorem Win.merge {k D D' : Nat → Nat} {a m b : Nat} (h1 : Win k D a m) (h2 : Win k D m b) (ham : a ≤ m) (hmb : m ≤ b) (hs : Same D D' a b) (h : Srt k D' a b) : Win k D' a b := by
 refine ⟨h,fun i i1 i2 => ?_,fun v v1 v2 => ?_⟩
 ·obtain ⟨j,j1,j2,e⟩:=hs.fro i i1 i2
  rw [e]
  rcases Nat.lt_or_ge j m with hj | hj
  ·have:=h1.inn j j1 hj;omega
  ·have:=h2.inn j hj j2;omega
 ·rcases Nat.lt_or_ge v m with hv | hv
  ·obtain ⟨j,j1,j2,e⟩:=h1.all v v1 hv
   obtain ⟨i,i1,i2,e2⟩:=hs.to j j1 (by omega)
   exact ⟨i,i1,i2,e2.trans e⟩
  ·obtain ⟨j,j1,j2,e⟩:=h2.all v hv v2
   obtain ⟨i,i1,i2,e2⟩:=hs.to j (by omega) j2
   exact ⟨i,i1,i2,e2.trans e⟩
theorem Win.of_eq {k D D' : Nat → Nat} {a b : Nat} (h : Win k D a b) (he : ∀ i, a ≤ i → i < b → D' i = D i) : Win k D' a b :=
 ⟨h.srt.of_eq he,fun i h1 h2 => by rw [he i h1 h2];exact h.inn i h1 h2,fun v h1 h2 => by obtain ⟨i,a,b,c⟩:=h.all v h1 h2;exact ⟨i,a,b,by rw [he i a b,c]⟩⟩
def Wins (k D : Nat → Nat) (B n : Nat) : Prop := ∀ t, t * B < n → Win k D (t * B) (min (t * B + B) n)
theorem pairwise_unique {α : Type} {r : α → α → Prop} (hirr : ∀ a, ¬ r a a) (htr : ∀ a b c, r a b → r b c → r a c) : ∀ {l1 l2 : List α}, l1.Pairwise r → l2.Pairwise r → (∀ x, x ∈ l1 ↔ x ∈ l2) → l1 = l2
 | [],[],_,_,_ => rfl
 | [],y :: _,_,_,h => by have:=(h y).2 (by simp);simp at this
 | x :: _,[],_,_,h => by have:=(h x).1 (by simp);simp at this
 | x :: l1,y :: l2,h1,h2,h => by
  obtain ⟨a1,a2⟩:=List.pairwise_cons.1 h1
  obtain ⟨b1,b2⟩:=List.pairwise_cons.1 h2
  have hxy : x = y:=by
   rcases List.mem_cons.1 ((h x).1 (by simp)) with e | e
   ·exact e
   ·rcases List.mem_cons.1 ((h y).2 (by simp)) with e2 | e2
    ·exact e2.symm
    ·exact absurd (htr _ _ _ (a1 y e2) (b1 x e)) (hirr x)
  subst hxy
  rw [pairwise_unique hirr htr a2 b2 fun z => ?_]
  constructor
  ·intro hz
   rcases List.mem_cons.1 ((h z).1 (by simp [hz])) with e | e
   ·subst e;exact absurd (a1 z hz) (hirr z)
   ·exact e
  ·intro hz
   rcases List.mem_cons.1 ((h z).2 (by simp [hz])) with e | e
   ·subst e;exact absurd (b1 z hz) (hirr z)
   ·exact e
end Go.Proofs.YtepoiefadjoabaaGreatDoor
namespace Go.Proofs.YtepoiefadjoabaaGreatDoor
open Go
def grp (k : Nat → Nat) (n s : Nat) : List Nat := (List.range n).filter fun i => k i == s
def grpsL (k : Nat → Nat) (n S : Nat) : List Nat := (List.range S).flatMap (grp k n)
def atsL (k : Nat → Nat) (n S : Nat) : List Nat := (List.range S).map fun s => (grpsL k n s).length
theorem grpsL_succ (k : Nat → Nat) (n S : Nat) : grpsL k n (S + 1) = grpsL k n S ++ grp k n S := by
 unfold grpsL
 rw [List.range_succ,List.flatMap_append]
 simp
theorem atsL_succ (k : Nat → Nat) (n S : Nat) : atsL k n (S + 1) = atsL k n S ++ [(grpsL k n S).length] := by
 unfold atsL
 rw [List.range_succ,List.map_append]
 rfl
theorem grp_mem {k : Nat → Nat} {n s i : Nat} : i ∈ grp k n s ↔ i < n ∧ k i = s := by
 unfold grp
 rw [List.mem_filter,List.mem_range]
 simp
theorem grpsL_mem {k : Nat → Nat} {n S i : Nat} : i ∈ grpsL k n S ↔ i < n ∧ k i < S := by
 unfold grpsL
 rw [List.mem_flatMap]
 constructor
 ·rintro ⟨s,hs,hi⟩
  rw [grp_mem] at hi
  rw [List.mem_range] at hs
  omega
 ·rintro ⟨h1,h2⟩
  exact ⟨k i,List.mem_range.2 h2,grp_mem.2 ⟨h1,rfl⟩⟩
theorem grp_pairwise (k : Nat → Nat) (n s : Nat) : (grp k n s).Pairwise (ltK k) := by
 have h : (grp k n s).Pairwise (· < ·):=List.Pairwise.filter _ List.pairwise_lt_range
 refine (List.pairwise_iff_getElem.2 fun i j hi hj hij => ?_)
 have h1:=List.pairwise_iff_getElem.1 h i j hi hj hij
 have a:=(grp_mem.1 (List.getElem_mem hi)).2
 have b:=(grp_mem.1 (List.getElem_mem hj)).2
 unfold ltK
 omega
theorem grpsL_pairwise (k : Nat → Nat) (n : Nat) : ∀ S, (grpsL k n S).Pairwise (ltK k)
 | 0 => by simp [grpsL]
 | S + 1 => by
  rw [grpsL_succ]
  refine List.pairwise_append.2 ⟨grpsL_pairwise k n S,grp_pairwise k n S,fun a ha b hb => ?_⟩
  have h1:=grpsL_mem.1 ha
  have h2:=grp_mem.1 hb
  unfold ltK
  omega
def newAt (k : Nat → Nat) (l : List Nat) (i : Nat) : Bool := i == 0 || k (l.getD i 0) != k (l.getD (i - 1) 0)
def begins (k : Nat → Nat) (l : List Nat) : List Nat := (List.range l.length).filter (newAt k l)
theorem begins_app {k : Nat → Nat} {l g : List Nat} {s : Nat} (hg : g ≠ []) (h1 : ∀ x ∈ l, k x < s) (h2 : ∀ x ∈ g, k x = s) : begins k (l ++ g) = begins k l ++ [l.length] := by
 have hlen : 0 < g.length:=List.length_pos_iff.2 hg
 have L1 : ∀ i,i < l.length → (l ++ g).getD i 0 = l.getD i 0:=fun i hi => by
  rw [List.getD_eq_getElem?_getD,List.getD_eq_getElem?_getD,List.getElem?_append_left hi]
 have L2 : ∀ i,(l ++ g).getD (l.length + i) 0 = g.getD i 0:=fun i => by
  rw [List.getD_eq_getElem?_getD,List.getD_eq_getElem?_getD,List.getElem?_append_right (by omega),Nat.add_sub_cancel_left]
 have G : ∀ i,i < g.length → k (g.getD i 0) = s:=fun i hi => by
  rw [List.getD_eq_getElem?_getD,List.getElem?_eq_getElem hi];exact h2 _ (List.getElem_mem hi)
 have LL : ∀ i,i < l.length → k (l.getD i 0) < s:=fun i hi => by
  rw [List.getD_eq_getElem?_getD,List.getElem?_eq_getElem hi];exact h1 _ (List.getElem_mem hi)
 unfold begins
 rw [List.length_append,show l.length + g.length = l.length + (1 + (g.length - 1)) by omega,List.range_eq_range',← List.range'_append_1,← List.range'_append_1,List.filter_append,List.filter_append]
 have e1 : (List.range' 0 l.length).filter (newAt k (l ++ g)) = (List.range l.length).filter (newAt k l):=by
  rw [List.range_eq_range']
  apply List.filter_congr
  intro i hi
  rw [List.mem_range'_1] at hi
  unfold newAt
  rw [L1 i (by omega),L1 (i - 1) (by omega)]
 have e2 : (List.range' (0 + l.length) 1).filter (newAt k (l ++ g)) = [l.length]:=by
  rw [Nat.zero_add]
  have : newAt k (l ++ g) l.length = true:=by
   unfold newAt
   rcases Nat.eq_zero_or_pos l.length with h | h
   ·rw [h];rfl
   ·have a:=L2 0
    rw [Nat.add_zero] at a
    rw [a,G 0 hlen,L1 _ (by omega)]
    have:=LL (l.length - 1) (by omega)
    have hne : (s != k (l.getD (l.length - 1) 0)) = true:=by rw [bne_iff_ne];omega
    rw [hne,Bool.or_true]
  simp [List.range',this]
 have e3 : (List.range' (0 + l.length + 1) (g.length - 1)).filter (newAt k (l ++ g)) = []:=by
  rw [List.filter_eq_nil_iff]
  intro i hi
  rw [List.mem_range'_1] at hi
  have a:=L2 (i - l.length)
  have b:=L2 (i - l.length - 1)
  rw [show l.length + (i - l.length) = i by omega] at a
  rw [show l.length + (i - l.length - 1) = i - 1 by omega] at b
  unfold newAt
  rw [a,b,G _ (by omega),G _ (by omega)]
  have : i ≠ 0:=by omega
  simp [this]
 rw [e1,e2,e3,List.append_nil]
theorem begins_grps (k : Nat → Nat) (n : Nat) : ∀ S, (∀ s, s < S → ∃ i, i < n ∧ k i = s) → begins k (grpsL k n S) = atsL k n S
 | 0,_ => rfl
 | S + 1,h => by
  rw [grpsL_succ,atsL_succ,← begins_grps k n S fun s hs => h s (by omega)]
  refine begins_app (s:=S) ?_ (fun x hx => (grpsL_mem.1 hx).2) (fun x hx => (grp_mem.1 hx).2)
  obtain ⟨i,hi,hk⟩:=h S (by omega)
  exact List.ne_nil_of_mem (grp_mem.2 ⟨hi,hk⟩)
theorem win_grps {k D : Nat → Nat} {n S : Nat} (h : Win k D 0 n) (hS : ∀ i, i < n → k i < S) : (List.range n).map D = grpsL k n S := by
 refine pairwise_unique (fun _ => ltK_irrefl) (fun _ _ _ => ltK_trans) ?_ (grpsL_pairwise k n S) fun x => ?_
 ·rw [List.pairwise_map]
  refine List.pairwise_iff_getElem.2 fun i j hi hj hij => ?_
  rw [List.getElem_range,List.getElem_range]
  exact h.srt i j (Nat.zero_le _) hij (by simpa using hj)
 ·rw [grpsL_mem,List.mem_map]
  constructor
  ·rintro ⟨i,hi,rfl⟩
   have:=h.inn i (Nat.zero_le _) (List.mem_range.1 hi)
   exact ⟨this.2,hS _ this.2⟩
  ·rintro ⟨h1,_⟩
   obtain ⟨i,_,h3,h4⟩:=h.all x (Nat.zero_le _) h1
   exact ⟨i,List.mem_range.2 h3,h4⟩
end Go.Proofs.YtepoiefadjoabaaGreatDoor
namespace Go.Proofs.YtepoiefadjoabaaGreatDoor
open Go
def sameKey (x y : En) : Prop := x.r = y.r ∧ x.s = y.s ∧ x.l = y.l ∧ x.t = y.t
instance (x y : En) : Decidable (sameKey x y) := by unfold sameKey; exact inferInstance
def IsLeast (l : List En) (y : En) : Prop := y ∈ l ∧ ∀ z ∈ l, sameKey z y → y.c ≤ z.c
def SortedE (o : List En) : Prop := o.Pairwise fun x y => lessS x y = true
def IsSort (l o : List En) : Prop := SortedE o ∧ ∀ y, y ∈ o ↔ IsLeast l y
theorem sorted_unique : ∀ {o o' : List En}, SortedE o → SortedE o' → (∀ y, y ∈ o ↔ y ∈ o') → o = o'
 | [],[],_,_,_ => rfl
 | [],b :: s,_,_,h => by have:=(h b).2 (by simp);cases this
 | a :: r,[],_,_,h => by have:=(h a).1 (by simp);cases this
 | a :: r,b :: s,h1,h2,h => by
  obtain ⟨ha,hr⟩:=List.pairwise_cons.1 h1
  obtain ⟨hb,hs⟩:=List.pairwise_cons.1 h2
  have hab : a = b:=by
   rcases List.mem_cons.1 ((h a).1 (by simp)) with e | e
   ·exact e
   ·rcases List.mem_cons.1 ((h b).2 (by simp)) with e' | e'
    ·exact e'.symm
    ·have k1:=hb a e
     have k2:=ha b e'
     have:=lessS_trans k1 k2
     rw [lessS_irrefl] at this;cases this
  subst hab
  have hn1 : a ∉ r:=fun hm => by have:=ha a hm;rw [lessS_irrefl] at this;cases this
  have hn2 : a ∉ s:=fun hm => by have:=hb a hm;rw [lessS_irrefl] at this;cases this
  rw [sorted_unique hr hs fun y => ?_]
  constructor
  ·intro hy
   rcases List.mem_cons.1 ((h y).1 (by simp [hy])) with e | e
   ·subst e;exact absurd hy hn1
   ·exact e
  ·intro hy
   rcases List.mem_cons.1 ((h y).2 (by simp [hy])) with e | e
   ·subst e;exact absurd hy hn2
   ·exact e
theorem IsSort.unique {l o o' : List En} (h : IsSort l o) (h' : IsSort l o') : o = o' := sorted_unique h.1 h'.1 fun y => (h.2 y).trans (h'.2 y).symm
def insE (x : En) : List En → List En
 | [] => [x]
 | y :: r => if lessS y x then y :: insE x r else x :: y :: r
theorem mem_insE {x y : En} : ∀ {o : List En}, y ∈ insE x o ↔ y = x ∨ y ∈ o
 | [] => by simp [insE]
 | z :: r => by
  unfold insE
  split
  ·rw [List.mem_cons,mem_insE (o:=r),List.mem_cons]
   constructor
   ·rintro (h | h | h)
    ·exact Or.inr (Or.inl h)
    ·exact Or.inl h
    ·exact Or.inr (Or.inr h)
   ·rintro (h | h | h)
    ·exact Or.inr (Or.inl h)
    ·exact Or.inl h
    ·exact Or.inr (Or.inr h)
  ·simp
theorem sorted_insE {x : En} : ∀ {o : List En}, SortedE o → x ∉ o → SortedE (insE x o)
 | [],_,_ => by simp [insE,SortedE]
 | z :: r,h,hx => by
  obtain ⟨hz,hr⟩:=List.pairwise_cons.1 h
  have hxz : x ≠ z:=fun e => hx (by simp [e])
  have hxr : x ∉ r:=fun e => hx (by simp [e])
  unfold insE
  split
  ·rename_i hl
   refine List.pairwise_cons.2 ⟨fun y hy => ?_,sorted_insE hr hxr⟩
   rcases mem_insE.1 hy with rfl | hy
   ·exact hl
   ·exact hz y hy
  ·rename_i hl
   have hl' : lessS x z = true:=by
    have:=lessS_one (x:=z) (y:=x) (Ne.symm hxz)
    rw [this];simpa using hl
   refine List.pairwise_cons.2 ⟨fun y hy => ?_,h⟩
   rcases List.mem_cons.1 hy with rfl | hy
   ·exact hl'
   ·exact lessS_trans hl' (hz y hy)
def leastB (l : List En) (y : En) : Bool := l.all fun z => !decide (sameKey z y) || decide (y.c ≤ z.c)
theorem leastB_iff {l : List En} {y : En} (hy : y ∈ l) : leastB l y = true ↔ IsLeast l y := by
 unfold leastB IsLeast
 rw [List.all_eq_true]
 constructor
 ·intro h
  refine ⟨hy,fun z hz hk => ?_⟩
  have:=h z hz
  simpa [hk] using this
 ·rintro ⟨_,h⟩ z hz
  by_cases hk : sameKey z y
  ·simp [hk,h z hz hk]
  ·simp [hk]
def sortGo (l : List En) : List En → List En → List En
 | [],o => o
 | x :: r,o => if leastB l x && !decide (x ∈ o) then sortGo l r (insE x o) else sortGo l r o
def sortS (l : List En) : List En := sortGo l l []
theorem sortGo_spec (l : List En) : ∀ (r done o : List En), l = done ++ r → SortedE o → (∀ y, y ∈ o ↔ y ∈ done ∧ leastB l y = true) → IsSort l (sortGo l r o)
 | [],done,o,hl,hs,hm => by
  refine ⟨hs,fun y => ?_⟩
  rw [List.append_nil] at hl
  subst hl
  show y ∈ o ↔ _
  rw [hm y]
  exact ⟨fun ⟨a,b⟩ => (leastB_iff a).1 b,fun h => ⟨h.1,(leastB_iff h.1).2 h⟩⟩
 | x :: r,done,o,hl,hs,hm => by
  have hl2 : l = (done ++ [x]) ++ r:=by rw [hl];simp
  unfold sortGo
  split
  ·rename_i hc
   simp only [Bool.and_eq_true,Bool.not_eq_true',decide_eq_false_iff_not] at hc
   refine sortGo_spec l r _ _ hl2 (sorted_insE hs hc.2) fun y => ?_
   rw [mem_insE,hm y]
   constructor
   ·rintro (rfl | ⟨a,b⟩)
    ·exact ⟨by simp,hc.1⟩
    ·exact ⟨by simp [a],b⟩
   ·rintro ⟨a,b⟩
    rcases List.mem_append.1 a with a | a
    ·exact Or.inr ⟨a,b⟩
    ·exact Or.inl (by simpa using a)
  ·rename_i hc
   simp only [Bool.and_eq_true,Bool.not_eq_true',decide_eq_false_iff_not,not_and,Decidable.not_not] at hc
   refine sortGo_spec l r _ _ hl2 hs fun y => ?_
   rw [hm y]
   constructor
   ·rintro ⟨a,b⟩
    exact ⟨by simp [a],b⟩
   ·rintro ⟨a,b⟩
    rcases List.mem_append.1 a with a | a
    ·exact ⟨a,b⟩
    ·obtain rfl : y = x:=by simpa using a
     exact (hm y).1 (hc b)
theorem sortS_spec (l : List En) : IsSort l (sortS l) := sortGo_spec l l [] [] rfl (by simp [SortedE]) (by simp)
end Go.Proofs.YtepoiefadjoabaaGreatDoor
