/- The texts DecM, one behind the other. -/
import Derived.Test.YtepoiefadjoabaaGreatDoorH23
namespace Go.Proofs.YtepoiefadjoabaaGreatDoor
open Go Go.RowKit
def rdNum (b : List UInt8) (k : Nat) : Option (Nat × Nat) :=
 match rdU (b.drop k) with
 | some (v,n) => if v ≤ 1048576 then some (v,k + n) else none
 | none => none
def nxt (b : List UInt8) (s : Nat × Bool) : Nat × Nat × Bool :=
 match rdNum b s.1 with
 | some (v,e) => (v,e,s.2)
 | none => (0,s.1,true)
def decLoop (b : List UInt8) : Nat → Mx → Nat → Nat × Bool → Option Mx
 | 0,m,_,s => if s.1 = b.length then some m else none
 | k + 1,m,j,s =>
  if (nxt b (nxt b s).2).2.2 = true ∨ (nxt b s).1 = 0 ∨ ((nxt b (nxt b s).2).1 : Int) = m.d ∨ m.n * m.n ≤ j + (nxt b s).1 - 1 ∨ isC ((nxt b (nxt b s).2).1 : Int) = false then none
  else decLoop b k (m.set (pairAt m.n (j + (nxt b s).1 - 1)) (nxt b (nxt b s).2).1) (j + (nxt b s).1) (nxt b (nxt b s).2).2
def hdN (b : List UInt8) : Nat × Nat × Bool := nxt b (0, false)
def hdD (b : List UInt8) : Nat × Nat × Bool := nxt b (hdN b).2
def hdQ (b : List UInt8) : Nat × Nat × Bool := nxt b (hdD b).2
def decM (b : List UInt8) : Option Mx :=
 if newB (hdN b).1 (hdD b).1 = true∧(hdQ b).2.2 = false then decLoop b (hdQ b).1 (newM (hdN b).1 (hdD b).1) 0 (hdQ b).2 else none
theorem nxt_true (b : List UInt8) (k : Nat) : (nxt b (k, true)).2.2 = true := by
 unfold nxt
 split <;> rfl
theorem nxt_false {b : List UInt8} {s : Nat × Bool} (h : (nxt b s).2.2 = false) : s.2 = false := by
 obtain ⟨k,t⟩:=s
 cases t with
 | false => rfl
 | true => rw [nxt_true] at h;cases h
theorem nxt_ok {b : List UInt8} {k : Nat} (h : (nxt b (k, false)).2.2 = false) : (nxt b (k, false)).1 ≤ 1048576 ∧ (nxt b (k, false)).2 = (k + (putU (nxt b (k, false)).1).length, false) ∧ b.drop k = putU (nxt b (k, false)).1 ++ b.drop (nxt b (k, false)).2.1 := by
 unfold nxt at h ⊢
 cases hn : rdNum b k with
 | none => simp only at h;rw [hn] at h;cases h
 | some x =>
  obtain ⟨v,e⟩:=x
  simp only
  unfold rdNum at hn
  cases hr : rdU (b.drop k) with
  | none => rw [hr] at hn;cases hn
  | some y =>
   obtain ⟨v',n⟩:=y
   rw [hr] at hn
   simp only at hn
   by_cases hle : v' ≤ 1048576
   ·rw [if_pos hle] at hn
    simp only [Option.some.injEq,Prod.mk.injEq] at hn
    obtain ⟨rfl,rfl⟩:=hn
    obtain ⟨r,h1,h2,h3⟩:=rdU_iff.1 hr
    refine ⟨hle,by rw [h3], ?_⟩
    rw [← List.drop_drop,h2,h3,List.drop_left]
   ·rw [if_neg hle] at hn;cases hn
theorem nxt_put {b : List UInt8} {k v : Nat} {r : List UInt8} (h : b.drop k = putU v ++ r) (hv : v ≤ 1048576) : nxt b (k, false) = (v, k + (putU v).length, false) ∧ b.drop (k + (putU v).length) = r := by
 have hn : rdNum b k = some (v,k + (putU v).length):=by
  unfold rdNum
  rw [h,rdU_put (by omega)]
  simp only
  rw [if_pos hv]
 refine ⟨by unfold nxt;simp only [hn], ?_⟩
 rw [← List.drop_drop,h,List.drop_left]
theorem Mx.set_at {m : Mx} {i : Nat} (hi : i < m.n * m.n) (c : Int) : (m.set (pairAt m.n i) c).cs = m.cs.set i c := by
 show m.cs.set (at2 m.n (pairAt m.n i)) c = _
 rw [(pairAt_in hi).2]
theorem set_getD {l : List Int} {i j : Nat} {c : Int} (hi : i < l.length) : (l.set i c).getD j 0 = if j = i then c else l.getD j 0 := by
 rw [List.getD_eq_getElem?_getD,List.getD_eq_getElem?_getD,List.getElem?_set]
 by_cases h : i = j
 ·subst h;simp [hi]
 ·rw [if_neg h,if_neg (fun e => h e.symm)]
theorem idx_set {m : Mx} (hm : m.OK) {i : Nat} {c : Int} (hi : i < m.n * m.n) (hc : c ≠ m.d) (hlo : ∀ a ∈ m.idx, a < i) : (m.set (pairAt m.n i) c).idx = m.idx ++ [i] := by
 have hl:=hm.len
 refine pw_unique (lt:=(· < ·)) (fun a => Nat.lt_irrefl a) (fun h1 h2 => Nat.lt_trans h1 h2) Mx.idx_up ?_ fun y => ?_
 ·rw [List.pairwise_append]
  exact ⟨Mx.idx_up,List.pairwise_singleton _ _,fun a ha b hb => by rw [List.mem_singleton.1 hb];exact hlo a ha⟩
 ·rw [Mx.mem_idx,Mx.set_at hi,set_getD (by omega),List.mem_append,List.mem_singleton,Mx.mem_idx]
  show y < m.n * m.n∧_ ≠ m.d ↔ _
  by_cases h : y = i
  ·rw [if_pos h];subst h;exact ⟨fun _ => Or.inr rfl,fun _ => ⟨hi,hc⟩⟩
  ·rw [if_neg h];exact ⟨fun g => Or.inl g,fun g => g.resolve_right h⟩
theorem setB_at {m : Mx} {i : Nat} {c : Int} (hi : i < m.n * m.n) (hc : isC c = true) : m.setB (pairAt m.n i) c = true := by
 unfold Mx.setB
 rw [(pairAt_in hi).1,hc];rfl
theorem decLoop_sound (b : List UInt8) : ∀ (k : Nat) (m : Mx) (j q : Nat) (M : Mx), q ≤ b.length → decLoop b k m j (q, false) = some M → m.OK → (∀ i ∈ m.idx, i < j) →
  M.OK∧M.n = m.n∧M.d = m.d∧∃ L,M.idx = m.idx ++ L∧L.length = k∧b.drop q = encGo M ((j : Int) - 1) L∧∀ i < j,M.cs.getD i 0 = m.cs.getD i 0
 | 0,m,j,q,M,_,h,hm,_ => by
  simp only [decLoop] at h
  by_cases hq : q = b.length
  ·rw [if_pos hq] at h
   obtain rfl:=Option.some.inj h
   exact ⟨hm,rfl,rfl,[],by simp,rfl,by rw [hq,List.drop_length];rfl,fun _ _ => rfl⟩
  ·rw [if_neg hq] at h;cases h
 | k + 1,m,j,q,M,hqb,h,hm,hlo => by
  simp only [decLoop] at h
  split at h
  ·cases h
  ·rename_i hc
   simp only [not_or,Bool.not_eq_true] at hc
   obtain ⟨h1,h2,h3,h4,h5⟩:=hc
   have hb1 : (nxt b (q,false)).2.2 = false:=nxt_false h1
   obtain ⟨x1,x2,x3⟩:=nxt_ok hb1
   generalize nxt b (q,false) = X at *
   obtain ⟨x,e,t⟩:=X
   simp only [Prod.mk.injEq] at x1 x2 x3 h1 h2 h3 h4 h5 hb1 h
   obtain ⟨rfl,rfl⟩:=x2
   obtain ⟨y1,y2,y3⟩:=nxt_ok h1
   generalize nxt b (q + (putU x).length,false) = Y at *
   obtain ⟨c,e,t⟩:=Y
   simp only [Prod.mk.injEq] at y1 y2 y3 h1 h2 h3 h4 h5 h
   obtain ⟨rfl,rfl⟩:=y2
   have hI : j + x - 1 < m.n * m.n:=by omega
   have hisC : isC (c : Int) = true:=by cases hh : isC (c : Int) with
    | true => rfl
    | false => exact absurd hh h5
   have hset:=setB_at hI hisC
   have hidx:=idx_set hm hI h3 (fun a ha => by have:=hlo a ha;omega)
   have hql : q + (putU x).length + (putU c).length ≤ b.length:=by
    have e1:=congrArg List.length x3
    have e2:=congrArg List.length y3
    simp only [List.length_append,List.length_drop] at e1 e2
    have:=List.length_pos_iff.2 (putU_ne x)
    have:=List.length_pos_iff.2 (putU_ne c)
    omega
   obtain ⟨r1,r2,r3,L,r4,r5,r6,r7⟩:=decLoop_sound b k _ _ _ M hql h (hm.set hset) (fun i hi => by
    rw [hidx] at hi
    rcases List.mem_append.1 hi with hi | hi
    ·have:=hlo i hi;omega
    ·rw [List.mem_singleton.1 hi];omega)
   have hl:=hm.len
   refine ⟨r1,r2,r3,(j + x - 1) :: L,by rw [r4,hidx];simp,by simp [r5], ?_,fun i hi => ?_⟩
   ·show _ = putU _ ++ (putU _ ++ encGo M _ L)
    rw [x3,y3,r6]
    have g1 : (((j + x - 1 : Nat) : Int) - ((j : Int) - 1)).toNat = x:=by omega
    have g2 : M.cs.getD (j + x - 1) 0 = c:=by
     rw [r7 _ (by omega),Mx.set_at hI,set_getD (by omega),if_pos rfl]
    have g3 : ((j + x : Nat) : Int) - 1 = ((j + x - 1 : Nat) : Int):=by omega
    rw [g1,g2,g3]
    rfl
   ·rw [r7 i (by omega),Mx.set_at hI,set_getD (by omega),if_neg (by omega)]
def cutM (M : Mx) (j : Nat) : Mx := ⟨M.n, M.d, (List.range (M.n * M.n)).map fun i => if i < j then M.cs.getD i 0 else M.d⟩
theorem cutM_eq {M : Mx} (hM : M.OK) {j : Nat} (h : ∀ i, j ≤ i → i < M.n * M.n → M.cs.getD i 0 = M.d) : cutM M j = M := by
 obtain ⟨n,d,cs⟩:=M
 have hl : cs.length = n * n:=hM.len
 show Mx.mk n d _ = _
 congr 1
 apply List.ext_getElem?
 intro i
 rw [List.getElem?_map]
 by_cases hi : i < n * n
 ·rw [List.getElem?_range hi,Option.map_some]
  have hg : cs[i]? = some (cs.getD i 0):=by
   rw [List.getD_eq_getElem?_getD,List.getElem?_eq_getElem (by omega)];rfl
  rw [hg]
  show some (if i < j then cs.getD i 0 else d) = _
  by_cases hj : i < j
  ·rw [if_pos hj]
  ·rw [if_neg hj];exact congrArg some (h i (by omega) hi).symm
 ·rw [List.getElem?_eq_none (by simp;omega),List.getElem?_eq_none (by omega)];rfl
theorem cutM_zero {M : Mx} : cutM M 0 = newM M.n M.d := by
 unfold cutM newM
 simp only [Int.toNat_natCast,Nat.not_lt_zero,if_false,Mx.mk.injEq,true_and]
 apply List.ext_getElem?
 intro i
 rw [List.getElem?_map,List.getElem?_replicate]
 by_cases hi : i < M.n * M.n
 ·rw [List.getElem?_range hi,if_pos hi];rfl
 ·rw [List.getElem?_eq_none (by simp;omega),if_neg hi];rfl
theorem cutM_set {M : Mx} {i j : Nat} (hi : i < M.n * M.n) (hj : j ≤ i) (h : ∀ a, j ≤ a → a < i → M.cs.getD a 0 = M.d) : (cutM M j).set (pairAt M.n i) (M.cs.getD i 0) = cutM M (i + 1) := by
 have e : ((cutM M j).set (pairAt M.n i) (M.cs.getD i 0)).cs = (cutM M (i + 1)).cs:=by
  have e0 : ((cutM M j).set (pairAt M.n i) (M.cs.getD i 0)).cs = (cutM M j).cs.set i (M.cs.getD i 0):=Mx.set_at (m:=cutM M j) hi _
  rw [e0]
  apply List.ext_getElem?
  intro a
  show (List.set (List.map (fun i => if i < j then M.cs.getD i 0 else M.d) (List.range (M.n * M.n))) i _)[a]? = (List.map (fun a => if a < i + 1 then M.cs.getD a 0 else M.d) (List.range (M.n * M.n)))[a]?
  rw [List.getElem?_set,List.getElem?_map,List.getElem?_map,List.length_map,List.length_range]
  by_cases ha : a < M.n * M.n
  ·rw [List.getElem?_range ha]
   by_cases e : i = a
   ·subst e;rw [if_pos rfl,if_pos hi];simp
   ·rw [if_neg e]
    simp only [Option.map_some,Option.some.injEq]
    by_cases h1 : a < j
    ·rw [if_pos h1,if_pos (by omega)]
    ·rw [if_neg h1]
     by_cases h2 : a < i + 1
     ·rw [if_pos h2];exact (h a (by omega) (by omega)).symm
     ·rw [if_neg h2]
  ·rw [if_neg (by omega),List.getElem?_eq_none (l:=List.range (M.n * M.n)) (by simp;omega)];rfl
 show Mx.mk _ _ _ = Mx.mk _ _ _
 exact congrArg _ e
theorem idx_default {M : Mx} {i : Nat} (hi : i < M.n * M.n) (h : i ∉ M.idx) : M.cs.getD i 0 = M.d := by
 rw [Mx.mem_idx] at h
 simp only [not_and,ne_eq,Classical.not_not] at h
 exact h hi
theorem decLoop_complete (b : List UInt8) (M : Mx) (hM : M.OK) : ∀ (L A : List Nat) (j q : Nat), M.idx = A ++ L → (∀ a ∈ A, a < j) → (∀ a ∈ L, j ≤ a) → b.drop q = encGo M ((j : Int) - 1) L → q ≤ b.length →
  decLoop b L.length (cutM M j) j (q,false) = some M
 | [],A,j,q,hidx,hA,_,hd,hq => by
  have h1 : q = b.length:=by
   have:=congrArg List.length hd
   simp only [encGo,List.length_drop,List.length_nil] at this
   omega
  simp only [List.length_nil,decLoop]
  rw [if_pos h1,cutM_eq hM]
  intro i hij hi
  refine idx_default hi fun hm => ?_
  rw [hidx,List.append_nil] at hm
  have:=hA i hm
  omega
 | i :: L,A,j,q,hidx,hA,hL,hd,hq => by
  have hmem : i ∈ M.idx:=by rw [hidx];simp
  obtain ⟨hi,hid⟩:=Mx.mem_idx.1 hmem
  have hji:=hL i (List.mem_cons_self ..)
  have hup : (A ++ i :: L).Pairwise (· < ·):=by rw [← hidx];exact Mx.idx_up
  rw [List.pairwise_append,List.pairwise_cons] at hup
  obtain ⟨_,⟨hup2,_⟩,_⟩:=hup
  have hcost : 0 ≤ M.cs.getD i 0∧M.cs.getD i 0 ≤ 30000:=by
   have hl:=hM.len
   rw [List.getD_eq_getElem?_getD,List.getElem?_eq_getElem (by omega)]
   exact hM.cost _ (List.getElem_mem _)
  have hnn : M.n * M.n ≤ 4096:=Nat.mul_le_mul hM.n2 hM.n2
  have hd2 : b.drop q = putU ((i : Int) - ((j : Int) - 1)).toNat ++ (putU (M.cs.getD i 0).toNat ++ encGo M i L):=hd
  obtain ⟨x,hx⟩ : ∃ x,x = ((i : Int) - ((j : Int) - 1)).toNat:=⟨_,rfl⟩
  obtain ⟨c,hc⟩ : ∃ c,c = (M.cs.getD i 0).toNat:=⟨_,rfl⟩
  have hcc : (c : Int) = M.cs.getD i 0:=by omega
  rw [← hx,← hc] at hd2
  obtain ⟨x1,x2⟩:=nxt_put hd2 (by omega)
  obtain ⟨y1,y2⟩:=nxt_put x2 (by omega)
  have hI : j + x - 1 = i:=by omega
  show decLoop b (L.length + 1) (cutM M j) j (q,false) = some M
  simp only [decLoop]
  rw [x1]
  simp only
  rw [y1]
  simp only
  rw [hI,hcc]
  have hisC : isC (M.cs.getD i 0) = true:=isC_iff.2 hcost
  rw [if_neg (by
   rintro (h | h | h | h | h)
   ·cases h
   ·omega
   ·exact hid h
   ·have h : M.n * M.n ≤ i:=h
    omega
   ·rw [hisC] at h;cases h)]
  have hset : (cutM M j).set (pairAt (cutM M j).n i) (M.cs.getD i 0) = cutM M (i + 1):=cutM_set hi hji fun a ha1 ha2 => by
   refine idx_default (by omega) fun hm => ?_
   rw [hidx] at hm
   rcases List.mem_append.1 hm with hm | hm
   ·have:=hA a hm;omega
   ·rcases List.mem_cons.1 hm with rfl | hm
    ·omega
    ·have:=hup2 a hm;omega
  rw [hset,show j + x = i + 1 by omega]
  refine decLoop_complete b M hM L (A ++ [i]) (i + 1) _ (by rw [hidx];simp) (fun a ha => ?_) (fun a ha => hup2 a ha) (by rw [y2];congr 1;omega) ?_
  ·rcases List.mem_append.1 ha with ha | ha
   ·have:=hA a ha;omega
   ·rw [List.mem_singleton.1 ha];omega
  ·have e1:=congrArg List.length hd2
   simp only [List.length_append,List.length_drop] at e1
   have:=List.length_pos_iff.2 (putU_ne x)
   omega
theorem decM_iff {b : List UInt8} {M : Mx} : decM b = some M ↔ M.OK ∧ M.enc = b := by
 constructor
 ·intro h
  unfold decM at h
  split at h
  ·rename_i hc
   obtain ⟨hb,hq⟩:=hc
   have hd : (hdD b).2.2 = false:=nxt_false hq
   have hn : (hdN b).2.2 = false:=nxt_false hd
   unfold hdQ at hq h
   unfold hdD at hd hq hb h
   obtain ⟨a1,a2,a3⟩:=nxt_ok (b:=b) (k:=0) hn
   rw [show nxt b (0,false) = hdN b from rfl] at a1 a2 a3
   generalize hdN b = X at *
   obtain ⟨x,e,t⟩:=X
   simp only [Prod.mk.injEq] at a1 a2 a3 hd hq hb h
   obtain ⟨rfl,rfl⟩:=a2
   obtain ⟨c1,c2,c3⟩:=nxt_ok hd
   generalize nxt b (0 + (putU x).length,false) = Y at *
   obtain ⟨y,e,t⟩:=Y
   simp only [Prod.mk.injEq] at c1 c2 c3 hq hb h
   obtain ⟨rfl,rfl⟩:=c2
   obtain ⟨d1,d2,d3⟩:=nxt_ok hq
   generalize nxt b (0 + (putU x).length + (putU y).length,false) = Z at *
   obtain ⟨z,e,t⟩:=Z
   simp only [Prod.mk.injEq] at d1 d2 d3 h
   obtain ⟨rfl,rfl⟩:=d2
   have hql : 0 + (putU x).length + (putU y).length + (putU z).length ≤ b.length:=by
    have e1:=congrArg List.length a3
    have e2:=congrArg List.length c3
    have e3:=congrArg List.length d3
    simp only [List.length_append,List.length_drop] at e1 e2 e3
    have:=List.length_pos_iff.2 (putU_ne x)
    have:=List.length_pos_iff.2 (putU_ne y)
    have:=List.length_pos_iff.2 (putU_ne z)
    omega
   have hidx0 : (newM (x : Int) (y : Int)).idx = []:=by
    apply List.eq_nil_iff_forall_not_mem.2
    intro i hi
    obtain ⟨h1,h2⟩:=Mx.mem_idx.1 hi
    apply h2
    simp only [newM,Int.toNat_natCast] at h1 ⊢
    rw [List.getD_eq_getElem?_getD,List.getElem?_replicate,if_pos h1];rfl
   obtain ⟨r1,r2,r3,L,r4,r5,r6,_⟩:=decLoop_sound b z _ 0 _ M hql h (newM_ok hb) (fun i hi => by rw [hidx0] at hi;cases hi)
   rw [hidx0,List.nil_append] at r4
   refine ⟨r1, ?_⟩
   unfold Mx.enc
   rw [r2,r3,r4,r5]
   simp only [newM,Int.toNat_natCast]
   have h0 : b = b.drop 0:=rfl
   rw [h0,a3,c3,d3,r6]
   rfl
  ·cases h
 ·rintro ⟨hM,he⟩
  have h0 : b.drop 0 = putU M.n ++ (putU M.d.toNat ++ (putU M.idx.length ++ encGo M (-1) M.idx)):=he.symm
  have hn2:=hM.n2
  have hd1:=hM.d1
  have hd2:=hM.d2
  have hil:=Mx.idx_len hM
  obtain ⟨a1,a2⟩:=nxt_put h0 (by omega)
  obtain ⟨c1,c2⟩:=nxt_put a2 (by omega)
  obtain ⟨d1,d2⟩:=nxt_put c2 (by omega)
  have e1 : hdN b = (M.n,0 + (putU M.n).length,false):=a1
  have e2 : hdD b = (M.d.toNat,0 + (putU M.n).length + (putU M.d.toNat).length,false):=by unfold hdD;rw [e1];exact c1
  have e3 : hdQ b = (M.idx.length,0 + (putU M.n).length + (putU M.d.toNat).length + (putU M.idx.length).length,false):=by unfold hdQ;rw [e2];exact d1
  have hdd : ((M.d.toNat : Nat) : Int) = M.d:=by omega
  unfold decM
  rw [e1,e2,e3]
  simp only
  rw [hdd,if_pos ⟨newB_iff.2 ⟨by have:=hM.n1;omega,by omega,hd1,hd2⟩,trivial⟩,← cutM_zero]
  refine decLoop_complete b M hM M.idx [] 0 _ rfl (fun a ha => by cases ha) (fun a _ => Nat.zero_le a) (by rw [d2];rfl) ?_
  have:=congrArg List.length he
  unfold Mx.enc at this
  simp only [List.length_append] at this
  omega
end Go.Proofs.YtepoiefadjoabaaGreatDoor
