/- The texts Bimg Bsz R18P DicP HolP Bjn, one behind the other. -/
import Derived.Test.YtepoiefadjoabaaGreatDoorH33
import Derived.Test.YtepoiefadjoabaaGreatDoorH31
import Derived.Test.YtepoiefadjoabaaGreatDoorH15
import Derived.Test.YtepoiefadjoabaaGreatDoorH4
import Derived.Test.YtepoiefadjoabaaGreatDoorH35
import Derived.Test.YtepoiefadjoabaaGreatDoorH7
import Derived.Test.YtepoiefadjoabaaGreatDoorH22
import Derived.Test.YtepoiefadjoabaaGreatDoorH28
import Derived.Test.YtepoiefadjoabaaGreatDoorH37
import Derived.Test.YtepoiefadjoabaaGreatDoorH1
import Derived.Test.YtepoiefadjoabaaGreatDoorH21
namespace Go.Proofs.YtepoiefadjoabaaGreatDoor
open Go Go.RowKit
def readL (es : List En) : List ByteArray := setB (es.map (·.r))
def surfL (es : List En) : List ByteArray := setB (es.map (·.s))
theorem bls_mkB (l : List (List UInt8)) : bls (l.map mkB) = l := by
 unfold bls
 rw [List.map_map]
 exact (List.map_congr_left fun x _ => mkB_data x).trans (List.map_id _)
theorem setB_mem {ks : List ByteArray} {s : ByteArray} (h : s ∈ ks) : s ∈ setB ks := by
 unfold setB
 refine List.mem_map.2 ⟨bl s,(setL_mem _ _).2 (List.mem_map.2 ⟨s,h,rfl⟩),mkB_of s⟩
theorem setB_of {ks : List ByteArray} {s : ByteArray} (h : s ∈ setB ks) : s ∈ ks := by
 unfold setB at h
 obtain ⟨x,hx,rfl⟩:=List.mem_map.1 h
 obtain ⟨t,ht,rfl⟩:=List.mem_map.1 ((setL_mem _ _).1 hx)
 rw [show mkB (bl t) = t from mkB_of t];exact ht
theorem setB_nodup (ks : List ByteArray) : (setB ks).Nodup := by
 unfold setB
 have h:=setL_asc (bls ks)
 refine List.Pairwise.map mkB (fun a b (hab : Less a b) e => ?_) h
 rw [mkB_inj e] at hab
 exact less_irr _ hab
theorem setB_get {ks : List ByteArray} {i : Nat} (h : i < (setB ks).length) : (setB ks)[i]? = some (mkB (nth (bls (setB ks)) i)) := by
 rw [bls_setB]
 unfold setB nth
 unfold setB at h
 rw [List.length_map] at h
 rw [List.getElem?_map,List.getD_eq_getElem?_getD,List.getElem?_eq_getElem h]
 rfl
theorem setB_le (ks : List ByteArray) : (setB ks).length ≤ ks.length := nodup_sub_len (setB_nodup ks) fun _ h => setB_of h
def sidE (S : List ByteArray) (x : En) : Nat := S.findIdx fun s => decide (s = x.s)
theorem sidE_get {S : List ByteArray} {x : En} (h : x.s ∈ S) : S[sidE S x]? = some x.s := by
 have h1 : sidE S x < S.length:=List.findIdx_lt_length_of_exists ⟨x.s,h,by simp⟩
 rw [List.getElem?_eq_getElem h1]
 have h2:=List.findIdx_getElem (w:=h1)
 exact congrArg some (of_decide_eq_true h2)
theorem sidE_lt {S : List ByteArray} {x : En} (h : x.s ∈ S) : sidE S x < S.length := (List.getElem?_eq_some_iff.1 (sidE_get h)).1
def keySE (S : List ByteArray) (es : List En) (i : Nat) : Nat := sidE S (es.getD i enZero)
def ordE (es : List En) : List Nat := grpsL (keySE (surfL es) es) es.length (surfL es).length
def sortedE (es : List En) : List En := (ordE es).map fun i => es.getD i enZero
def newR (x y : En) : Bool := !decide (x.r = y.r)
def newS (x y : En) : Bool := !decide (x.s = y.s)
def partN (name : Array UInt8) (data : List UInt8) : PartV := ⟨⟨name⟩, data, none, 0⟩
def imgP (p : List PosV) (m : Mx) (es : List En) : List PartV :=
 [partN #[112,111,115] (posE p),partN #[109,97,116,114,105,120] m.enc,partN #[114,101,97,100,105,110,103,115] (loudE (bls (readL es))),partN #[102,105,114,115,116] (packE (idxL newR es es.length)),
  partN #[115,117,114,102,97,99,101,115] (loudE (bls (surfL es))),partN #[115,117,114,102,97,99,101] (packE (es.map (sidE (surfL es)))),partN #[108,101,102,116] (packE (es.map fun x => x.l.toNat)),partN #[114,105,103,104,116] (packE (es.map fun x => x.t.toNat)),
  partN #[99,111,115,116] (packE (es.map fun x => x.c.toNat)),partN #[111,114,100,101,114] (packE (ordE es)),partN #[97,116] (packE (idxL newS (sortedE es) es.length))]
theorem idxL_lt {nw : En → En → Bool} {l : List En} {k i : Nat} (h : i ∈ idxL nw l k) : i < k := List.mem_range.1 (List.mem_filter.1 h).1
theorem firstE_zero {n : Int} : ∀ {l : List En}, firstE n l = 0 → ∀ x ∈ l, checkE x n = 0
 | [],_,x,hx => by cases hx
 | y :: l,h,x,hx => by
  unfold firstE at h
  by_cases hy : checkE y n = 0
  ·rw [if_pos hy] at h
   rcases List.mem_cons.1 hx with rfl | hx
   ·exact hy
   ·exact firstE_zero h x hx
  ·rw [if_neg hy] at h;exact absurd h hy
theorem checkE_nums {x : En} {n : Int} (h : checkE x n = 0) : 0 ≤ x.l ∧ x.l < n ∧ 0 ≤ x.t ∧ x.t < n ∧ 0 ≤ x.c ∧ x.c ≤ 30000 := by
 unfold checkE checkS at h
 split at h
 ·split at h
  ·cases h
  ·split at h
   ·cases h
   ·omega
 ·cases h
theorem chkB_nums {p : List PosV} {m : Mx} {l : List En} (h : chkB p (some m) l = 0) : (m.n : Int) = p.length ∧ l.length ≤ 20000 ∧ posValid p = true ∧ ∀ x ∈ l, checkE x p.length = 0 := by
 unfold chkB at h
 split at h
 ·cases h
 ·rename_i hv
  simp only at h
  split at h
  ·rename_i h1
   split at h
   ·cases h
   ·rename_i h2
    exact ⟨h1,by omega,by simpa using hv,firstE_zero h⟩
  ·cases h
def buildB (p : List PosV) (m : Option Mx) (l : List En) : Int × List UInt8 :=
 if chkB p m l = 0 then match m with
  | none => (0,[])
  | some m => if chk11 (bls (readL (sortS l))) = 0∧chk11 (bls (surfL (sortS l))) = 0 then (if chk14 (imgP p m (sortS l)) = 0 then (0,file14 (imgP p m (sortS l))) else (chk14 (imgP p m (sortS l)),[])) else (2,[])
 else (chkB p m l,[])
end Go.Proofs.YtepoiefadjoabaaGreatDoor
namespace Go.Proofs.YtepoiefadjoabaaGreatDoor
open Go Go.RowKit
theorem encGo_len (m : Mx) : ∀ (l : List Nat) (last : Int), (encGo m last l).length ≤ l.length * 20
 | [],_ => by simp [encGo]
 | i :: r,last => by
  have h1:=encGo_len m r i
  have h2:=putU_len ((i : Int) - last).toNat
  have h3:=putU_len (m.cs.getD i 0).toNat
  rw [encGo,List.length_append,List.length_append,List.length_cons]
  omega
theorem enc_len {m : Mx} (h : m.OK) : m.enc.length ≤ 82000 := by
 have h1:=Mx.idx_len h
 have h2:=encGo_len m m.idx (-1)
 have h3:=putU_len m.n
 have h4:=putU_len m.d.toNat
 have h5:=putU_len m.idx.length
 unfold Mx.enc
 rw [List.length_append,List.length_append,List.length_append]
 omega
theorem posE_len {p : List PosV} (h : posValid p = true) : (posE p).length ≤ 2600 := by
 obtain ⟨h1,h2⟩:=posValid_all h
 have h3:=posFlat_len (l:=p) (fun x hx => (h2 x hx).1)
 have h4:=putU_len p.length
 unfold posE
 rw [List.length_append]
 omega
theorem packE_le {l : List Nat} (h : ∀ n ∈ l, n < 18446744073709551616) : (packE l).length ≤ 5 + l.length * 64 := by
 have hw : widL l ≤ 64:=widL_le.2 h
 have h1 : l.length * widL l ≤ l.length * 64:=Nat.mul_le_mul_left _ hw
 unfold packE packB
 rw [List.length_append,List.length_append,leB_len,List.length_map,List.length_range]
 simp only [List.length_singleton]
 omega
theorem flat_leB (k : Nat) : ∀ l : List Nat, ((l.map (leB k)).flatten).length = l.length * k
 | [] => by simp
 | x :: l => by
  rw [List.map_cons,List.flatten_cons,List.length_append,leB_len,flat_leB k l,List.length_cons,Nat.succ_mul]
  omega
theorem vecE_le (l : List Bool) : (vecE l).length ≤ 20 + l.length := by
 unfold vecE vecWs vecCs
 rw [List.length_append,List.length_append,leB_len,flat_leB,flat_leB,List.length_map,List.length_map,List.length_range,List.length_range]
 omega
theorem loudE_len {L : List (List UInt8)} (hok : OkL L) (hl : L.length ≤ 20000) (hc : countL L ≤ 524287) : (loudE L).length ≤ 40000000 := by
 obtain ⟨z1,z2,z3,z4,z5⟩:=hok.sizes hl hc
 have h1:=vecE_le (shapeL L (nodesA L))
 have h2:=vecE_le (isL L (nodesA L))
 have h3:=packE_le (l:=idsL L (nodesA L)) (fun n hn => by have:=z5 n hn;omega)
 unfold loudE part11
 simp only [List.length_append,leB_len]
 omega
end Go.Proofs.YtepoiefadjoabaaGreatDoor
namespace Go.Proofs.YtepoiefadjoabaaGreatDoor
open Go Go.RowKit
theorem grp_nodup (k : Nat → Nat) (n S : Nat) : (grpsL k n S).Nodup := (grpsL_pairwise k n S).imp fun {a b} h e => by rw [e] at h; exact ltK_irrefl h
theorem grpsL_len {k : Nat → Nat} {n S : Nat} (h : ∀ i, i < n → k i < S) : (grpsL k n S).length = n := by
 have h1:=nodup_sub_len (grp_nodup k n S) (l':=List.range n) fun x hx => List.mem_range.2 (grpsL_mem.1 hx).1
 have h2:=nodup_sub_len (List.nodup_range (n:=n)) (l':=grpsL k n S) fun x hx => grpsL_mem.2 ⟨List.mem_range.1 hx,h x (List.mem_range.1 hx)⟩
 rw [List.length_range] at h1 h2
 omega
theorem es_get {es : List En} {i : Nat} (h : i < es.length) : es[i]? = some (es.getD i enZero) := by rw [List.getD_eq_getElem?_getD, List.getElem?_eq_getElem h]; rfl
theorem surf_in {es : List En} {x : En} (h : x ∈ es) : x.s ∈ surfL es := setB_mem (List.mem_map.2 ⟨x, h, rfl⟩)
theorem keySE_lt {es : List En} {i : Nat} (h : i < es.length) : keySE (surfL es) es i < (surfL es).length := sidE_lt (surf_in (List.mem_of_getElem? (es_get h)))
theorem ordE_len (es : List En) : (ordE es).length = es.length := grpsL_len fun _ hi => keySE_lt hi
theorem ordE_lt {es : List En} {i : Nat} (h : i ∈ ordE es) : i < es.length := (grpsL_mem.1 h).1
theorem sidE_same {S : List ByteArray} {x y : En} (hx : x.s ∈ S) (hy : y.s ∈ S) : sidE S x = sidE S y ↔ x.s = y.s := by
 constructor
 ·intro h
  have a:=sidE_get hx
  rw [h,sidE_get hy] at a
  exact (Option.some.inj a).symm
 ·intro h
  unfold sidE
  rw [h]
theorem nodup_at {l : List ByteArray} (hn : l.Nodup) {i j : Nat} {s : ByteArray} (hi : l[i]? = some s) (hj : l[j]? = some s) : i = j := by
 obtain ⟨h1,e1⟩:=List.getElem?_eq_some_iff.1 hi
 obtain ⟨h2,e2⟩:=List.getElem?_eq_some_iff.1 hj
 rcases Nat.lt_trichotomy i j with h | h | h
 ·exact absurd (e1.trans e2.symm) (List.pairwise_iff_getElem.1 hn i j h1 h2 h)
 ·exact h
 ·exact absurd (e2.trans e1.symm) (List.pairwise_iff_getElem.1 hn j i h2 h1 h)
theorem keySE_all (es : List En) : ∀ s, s < (surfL es).length → ∃ i, i < es.length ∧ keySE (surfL es) es i = s := by
 intro s hs
 have h1 : (surfL es)[s]? = some (surfL es)[s]:=List.getElem?_eq_getElem hs
 have h2 : (surfL es)[s] ∈ es.map (·.s):=setB_of (List.getElem_mem hs)
 obtain ⟨x,hx,hxs⟩:=List.mem_map.1 h2
 obtain ⟨i,hi,he⟩:=List.mem_iff_getElem.1 hx
 refine ⟨i,hi, ?_⟩
 have h3 : es.getD i enZero = x:=by rw [List.getD_eq_getElem?_getD,List.getElem?_eq_getElem hi];exact he
 unfold keySE
 rw [h3]
 exact nodup_at (setB_nodup _) (sidE_get (surf_in hx)) (by rw [hxs];exact h1)
theorem at_idx (es : List En) : idxL newS (sortedE es) es.length = atsL (keySE (surfL es) es) es.length (surfL es).length := by
 rw [← begins_grps _ _ _ (keySE_all es)]
 have hl : (grpsL (keySE (surfL es) es) es.length (surfL es).length).length = es.length:=ordE_len es
 unfold idxL begins
 rw [hl]
 apply List.filter_congr
 intro i hi
 rw [List.mem_range] at hi
 have hg : ∀ j,j < es.length → ∃ m,m < es.length∧(grpsL (keySE (surfL es) es) es.length (surfL es).length).getD j 0 = m∧(sortedE es).getD j enZero = es.getD m enZero:=by
  intro j hj
  have h1 : (ordE es)[j]? = some ((ordE es).getD j 0):=by rw [List.getD_eq_getElem?_getD,List.getElem?_eq_getElem (by rw [ordE_len];exact hj)];rfl
  refine ⟨(ordE es).getD j 0,ordE_lt (List.mem_of_getElem? h1),rfl, ?_⟩
  unfold sortedE
  rw [List.getD_eq_getElem?_getD,List.getElem?_map,h1]
  rfl
 obtain ⟨a,ha,ea,ka⟩:=hg i hi
 obtain ⟨b,hb,eb,kb⟩:=hg (i - 1) (by omega)
 unfold newIx newAt
 rw [ka,kb,ea,eb]
 congr 1
 unfold newS
 have h:=sidE_same (surf_in (List.mem_of_getElem? (es_get ha))) (surf_in (List.mem_of_getElem? (es_get hb)))
 show _ = (keySE (surfL es) es a != keySE (surfL es) es b)
 unfold keySE
 generalize es.getD a enZero = x at h ⊢
 generalize es.getD b enZero = y at h ⊢
 by_cases he : x.s = y.s
 ·rw [h.2 he];simp [he]
 ·have : sidE (surfL es) x ≠ sidE (surfL es) y:=fun e => he (h.1 e)
  simp [he,this]
theorem sortS_le (l : List En) : (sortS l).length ≤ l.length :=
 nodup_sub_len ((sortS_spec l).1.imp fun {a b} hab e => by rw [e,lessS_irrefl] at hab;cases hab) fun y hy => (((sortS_spec l).2 y).1 hy).1
theorem sortS_of {l : List En} {x : En} (h : x ∈ sortS l) : x ∈ l := (((sortS_spec l).2 x).1 h).1
theorem countTo_le {L : List (List UInt8)} (h : ∀ s ∈ L, s.length ≤ 256) : ∀ m, m ≤ L.length → countTo L m ≤ 1 + m * 256
 | 0,_ => Nat.le_refl _
 | m + 1,hm => by
  have h1:=countTo_le h m (by omega)
  have h2:=h _ (List.mem_of_getElem? (nth_some (L:=L) (j:=m) (by omega)))
  unfold countTo newBy
  omega
theorem loudE_small {L : List (List UInt8)} (hok : OkL L) (hl : L.length ≤ 300) : (loudE L).length ≤ 5300000 := by
 have hc : countL L ≤ 76801:=by have:=countTo_le hok.len L.length (Nat.le_refl _);unfold countL;omega
 have hN:=nodes_count hok.asc hok.len
 obtain ⟨z1,z2,z3,z4,z5⟩:=hok.sizes (by omega) (by omega : countL L ≤ 524287)
 have h0:=shapeL_len L (nodesA L).length (Nat.le_refl _)
 rw [List.take_length,hok.off_all] at h0
 have h1:=vecE_le (shapeL L (nodesA L))
 have h2:=vecE_le (isL L (nodesA L))
 have h3:=packE_le (l:=idsL L (nodesA L)) (fun n hn => by have:=z5 n hn;omega)
 have h4 : (isL L (nodesA L)).length = (nodesA L).length:=by unfold isL;rw [List.length_map]
 have h5 : (labelsL L (nodesA L)).length ≤ (nodesA L).length:=by rw [hok.labels,List.length_map,List.length_drop];omega
 have h6 : (idsL L (nodesA L)).length ≤ (nodesA L).length:=by
  unfold idsL
  rw [List.length_map]
  exact List.length_filter_le (here L) (nodesA L)
 unfold loudE part11
 simp only [List.length_append,leB_len]
 omega
theorem img_names (p : List PosV) (m : Mx) (es : List En) : (imgP p m es).any (fun q => !azS q.name) = false ∧ dupL (imgP p m es) = false := by
 constructor
 ·simp only [imgP,List.any_cons,List.any_nil,partN]
  decide +kernel
 ·simp only [imgP,dupL,dup14,partN]
  decide +kernel
theorem chk14_img {p : List PosV} {m : Mx} {es : List En} (hm : m.OK) (hp : posValid p = true) (hl : es.length ≤ 300) (hr : chk11 (bls (readL es)) = 0) (hs : chk11 (bls (surfL es)) = 0)
  (hn : ∀ x ∈ es,0 ≤ x.l∧x.l < 18446744073709551616∧0 ≤ x.t∧x.t < 18446744073709551616∧0 ≤ x.c∧x.c < 18446744073709551616) : chk14 (imgP p m es) = 0:=by
 have hR : (bls (readL es)).length ≤ 300:=by
  have:=setB_le (es.map (·.r));unfold bls readL;rw [List.length_map];rw [List.length_map] at this;omega
 have hS : (bls (surfL es)).length ≤ 300:=by
  have:=setB_le (es.map (·.s));unfold bls surfL;rw [List.length_map];rw [List.length_map] at this;omega
 have hS2 : (surfL es).length ≤ 300:=by unfold bls at hS;rw [List.length_map] at hS;exact hS
 have a1:=posE_len hp
 have a2:=enc_len hm
 have a3:=loudE_small (chk11_ok hr).1 hR
 have a4:=loudE_small (chk11_ok hs).1 hS
 have b1:=packE_le (l:=idxL newR es es.length) (fun n hn => by have:=idxL_lt hn;omega)
 have b2:=packE_le (l:=es.map (sidE (surfL es))) (fun n hn => by
  obtain ⟨x,hx,rfl⟩:=List.mem_map.1 hn
  have:=sidE_lt (surf_in hx);omega)
 have b3:=packE_le (l:=es.map fun x => x.l.toNat) (fun n h => by
  obtain ⟨x,hx,rfl⟩:=List.mem_map.1 h
  have:=hn x hx;omega)
 have b4:=packE_le (l:=es.map fun x => x.t.toNat) (fun n h => by
  obtain ⟨x,hx,rfl⟩:=List.mem_map.1 h
  have:=hn x hx;omega)
 have b5:=packE_le (l:=es.map fun x => x.c.toNat) (fun n h => by
  obtain ⟨x,hx,rfl⟩:=List.mem_map.1 h
  have:=hn x hx;omega)
 have b6:=packE_le (l:=ordE es) (fun n hn => by have:=ordE_lt hn;omega)
 have b7:=packE_le (l:=idxL newS (sortedE es) es.length) (fun n hn => by have:=idxL_lt hn;omega)
 have c1:=idxL_le newR es es.length
 have c2:=idxL_le newS (sortedE es) es.length
 have c3:=ordE_len es
 rw [List.length_map] at b2 b3 b4 b5
 have hsum : sum14 (imgP p m es) ≤ 16777216:=by
  simp only [sum14,imgP,partN,List.map_cons,List.map_nil,List.sum_cons,List.sum_nil]
  omega
 have hlen : (imgP p m es).length = 11:=rfl
 obtain ⟨n1,n2⟩:=img_names p m es
 unfold chk14
 rw [if_neg (by omega),if_neg (by rw [n1];decide),if_neg (by rw [n2];decide)]
end Go.Proofs.YtepoiefadjoabaaGreatDoor
namespace Go.Proofs.YtepoiefadjoabaaGreatDoor
open Go Go.RowKit
theorem grpsL_pre {k : Nat → Nat} {n : Nat} : ∀ {s t : Nat}, s ≤ t → ∃ r, grpsL k n t = grpsL k n s ++ r
 | s,0,h => by
  obtain rfl : s = 0:=by omega
  exact ⟨[],by simp⟩
 | s,t + 1,h => by
  rcases Nat.lt_or_ge t s with h1 | h1
  ·obtain rfl : s = t + 1:=by omega
   exact ⟨[],by simp⟩
  ·obtain ⟨r,hr⟩:=grpsL_pre (k:=k) (n:=n) h1
   exact ⟨r ++ grp k n t,by rw [grpsL_succ,hr,List.append_assoc]⟩
theorem atsL_get {k : Nat → Nat} {n S id : Nat} (h : id < S) : (atsL k n S)[id]? = some (grpsL k n id).length := by
 unfold atsL
 rw [List.getElem?_map,List.getElem?_range h];rfl
theorem atsL_len (k : Nat → Nat) (n S : Nat) : (atsL k n S).length = S := by simp [atsL]
theorem grps_at {k : Nat → Nat} {n S i s : Nat} (hk : ∀ i, i < n → k i < S) (hi : i < n) (hs : s ≤ S) : (grpsL k n s).length ≤ i ↔ s ≤ k ((grpsL k n S).getD i 0) := by
 obtain ⟨r,hr⟩:=grpsL_pre (k:=k) (n:=n) hs
 have hl:=grpsL_len hk
 have hg : (grpsL k n S)[i]? = some ((grpsL k n S).getD i 0):=by rw [List.getD_eq_getElem?_getD,List.getElem?_eq_getElem (by omega)];rfl
 obtain ⟨x,hx⟩ : ∃ x,x = (grpsL k n S).getD i 0:=⟨_,rfl⟩
 rw [← hx] at hg ⊢
 have hp:=grpsL_pairwise k n S
 constructor
 ·intro h
  apply Classical.byContradiction
  intro hc
  have hm : x ∈ grpsL k n s:=grpsL_mem.2 ⟨(grpsL_mem.1 (List.mem_of_getElem? hg)).1,by omega⟩
  obtain ⟨j,hj,ej⟩:=List.mem_iff_getElem.1 hm
  have hj2 : (grpsL k n S)[j]? = some x:=by rw [hr,List.getElem?_append_left hj,List.getElem?_eq_getElem hj,ej]
  obtain ⟨a1,a2⟩:=List.getElem?_eq_some_iff.1 hg
  obtain ⟨b1,b2⟩:=List.getElem?_eq_some_iff.1 hj2
  have:=List.pairwise_iff_getElem.1 hp j i b1 a1 (by omega)
  rw [a2,b2] at this
  exact ltK_irrefl this
 ·intro h
  apply Classical.byContradiction
  intro hc
  rw [hr,List.getElem?_append_left (by omega)] at hg
  have:=(grpsL_mem.1 (List.mem_of_getElem? hg)).2
  omega
def ridE (R : List ByteArray) (x : En) : Nat := R.findIdx fun s => decide (s = x.r)
theorem ridE_get {R : List ByteArray} {x : En} (h : x.r ∈ R) : R[ridE R x]? = some x.r := by
 have h1 : ridE R x < R.length:=List.findIdx_lt_length_of_exists ⟨x.r,h,by simp⟩
 rw [List.getElem?_eq_getElem h1]
 have h2:=List.findIdx_getElem (w:=h1)
 exact congrArg some (of_decide_eq_true h2)
theorem ridE_lt {R : List ByteArray} {x : En} (h : x.r ∈ R) : ridE R x < R.length := (List.getElem?_eq_some_iff.1 (ridE_get h)).1
theorem read_in {es : List En} {x : En} (h : x ∈ es) : x.r ∈ readL es := setB_mem (List.mem_map.2 ⟨x, h, rfl⟩)
def keyRE (R : List ByteArray) (es : List En) (i : Nat) : Nat := ridE R (es.getD i enZero)
theorem keyRE_lt {es : List En} {i : Nat} (h : i < es.length) : keyRE (readL es) es i < (readL es).length := ridE_lt (read_in (List.mem_of_getElem? (es_get h)))
theorem ridE_same {R : List ByteArray} {x y : En} (hx : x.r ∈ R) (hy : y.r ∈ R) : ridE R x = ridE R y ↔ x.r = y.r := by
 constructor
 ·intro h
  have a:=ridE_get hx
  rw [h,ridE_get hy] at a
  exact (Option.some.inj a).symm
 ·intro h
  unfold ridE
  rw [h]
theorem keyRE_all (es : List En) : ∀ s, s < (readL es).length → ∃ i, i < es.length ∧ keyRE (readL es) es i = s := by
 intro s hs
 have h1 : (readL es)[s]? = some (readL es)[s]:=List.getElem?_eq_getElem hs
 have h2 : (readL es)[s] ∈ es.map (·.r):=setB_of (List.getElem_mem hs)
 obtain ⟨x,hx,hxs⟩:=List.mem_map.1 h2
 obtain ⟨i,hi,he⟩:=List.mem_iff_getElem.1 hx
 refine ⟨i,hi, ?_⟩
 have h3 : es.getD i enZero = x:=by rw [List.getD_eq_getElem?_getD,List.getElem?_eq_getElem hi];exact he
 unfold keyRE
 rw [h3]
 exact nodup_at (setB_nodup _) (ridE_get (read_in hx)) (by rw [hxs];exact h1)
theorem setB_less {ks : List ByteArray} {i j : Nat} {a b : ByteArray} (hi : (setB ks)[i]? = some a) (hj : (setB ks)[j]? = some b) (h : Op.bytesLess (bl a) (bl b) = true) : i < j := by
 have hp:=setL_asc (bls ks)
 have key : ∀ {i : Nat} {a : ByteArray},(setB ks)[i]? = some a → (setL (bls ks))[i]? = some (bl a):=fun {i a} h => by
  unfold setB at h
  rw [List.getElem?_map] at h
  cases hx : (setL (bls ks))[i]? with
  | none => rw [hx] at h;cases h
  | some x =>
   rw [hx] at h
   rw [← Option.some.inj h]
   exact congrArg some (mkB_data x).symm
 obtain ⟨a1,a2⟩:=List.getElem?_eq_some_iff.1 (key hi)
 obtain ⟨b1,b2⟩:=List.getElem?_eq_some_iff.1 (key hj)
 rcases Nat.lt_trichotomy i j with c | c | c
 ·exact c
 ·subst c
  rw [a2] at b2
  rw [b2] at h
  exact absurd h (less_irr _)
 ·have:=List.pairwise_iff_getElem.1 hp j i b1 a1 c
  rw [a2,b2] at this
  exact absurd (less_tr _ _ _ h this) (less_irr _)
theorem keyRE_mono {es : List En} (hs : SortedE es) {i j : Nat} (h1 : i < j) (h2 : j < es.length) : keyRE (readL es) es i ≤ keyRE (readL es) es j := by
 have hl:=List.pairwise_iff_getElem.1 hs i j (by omega) h2 h1
 have e1 : es.getD i enZero = es[i]:=by rw [List.getD_eq_getElem?_getD,List.getElem?_eq_getElem (by omega)];rfl
 have e2 : es.getD j enZero = es[j]:=by rw [List.getD_eq_getElem?_getD,List.getElem?_eq_getElem h2];rfl
 have m1:=read_in (List.getElem_mem (show i < es.length by omega))
 have m2:=read_in (List.getElem_mem h2)
 unfold keyRE
 rw [e1,e2]
 by_cases he : es[i].r = es[j].r
 ·rw [(ridE_same m1 m2).2 he];exact Nat.le_refl _
 ·rw [lessS_r he,Lib.toList_data,Lib.toList_data] at hl
  exact Nat.le_of_lt (setB_less (ridE_get m1) (ridE_get m2) hl)
theorem grps_read {es : List En} (hs : SortedE es) : grpsL (keyRE (readL es) es) es.length (readL es).length = List.range es.length := by
 refine (pairwise_unique (fun _ => ltK_irrefl) (fun _ _ _ => ltK_trans) ?_ (grpsL_pairwise (keyRE (readL es) es) es.length (readL es).length) fun x => ?_).symm
 ·refine List.pairwise_iff_getElem.2 fun i j hi hj hij => ?_
  rw [List.getElem_range,List.getElem_range]
  have:=keyRE_mono hs hij (by simpa using hj)
  unfold ltK
  omega
 ·rw [grpsL_mem,List.mem_range]
  exact ⟨fun h => ⟨h,keyRE_lt h⟩,fun h => h.1⟩
theorem first_idx {es : List En} (hs : SortedE es) : idxL newR es es.length = atsL (keyRE (readL es) es) es.length (readL es).length := by
 rw [← begins_grps _ _ _ (keyRE_all es),grps_read hs]
 unfold idxL begins
 rw [List.length_range]
 apply List.filter_congr
 intro i hi
 rw [List.mem_range] at hi
 have g : ∀ j,j < es.length → (List.range es.length).getD j 0 = j:=fun j hj => by rw [List.getD_eq_getElem?_getD,List.getElem?_range hj];rfl
 unfold newIx newAt
 rw [g i hi,g (i - 1) (by omega)]
 congr 1
 unfold newR
 have h:=ridE_same (read_in (List.mem_of_getElem? (es_get hi))) (read_in (List.mem_of_getElem? (es_get (show i - 1 < es.length by omega))))
 show _ = (keyRE (readL es) es i != keyRE (readL es) es (i - 1))
 unfold keyRE
 generalize es.getD i enZero = x at h ⊢
 generalize es.getD (i - 1) enZero = y at h ⊢
 by_cases he : x.r = y.r
 ·rw [h.2 he];simp [he]
 ·have : ridE (readL es) x ≠ ridE (readL es) y:=fun e => he (h.1 e)
  simp [he,this]
end Go.Proofs.YtepoiefadjoabaaGreatDoor
namespace Go.Proofs.YtepoiefadjoabaaGreatDoor
open Go Go.RowKit
theorem map_mkB_bls (B : List ByteArray) : (bls B).map mkB = B := by
 unfold bls
 rw [List.map_map]
 exact (List.map_congr_left fun x _ => mkB_of x).trans (List.map_id _)
theorem first_at {es : List En} (hs : SortedE es) {i s : Nat} (hi : i < es.length) (h : s ≤ (readL es).length) : (grpsL (keyRE (readL es) es) es.length s).length ≤ i ↔ s ≤ keyRE (readL es) es i := by
 have h1:=grps_at (k:=keyRE (readL es) es) (n:=es.length) (S:=(readL es).length) (fun i hi => keyRE_lt hi) hi h
 rw [grps_read hs,List.getD_eq_getElem?_getD,List.getElem?_range hi,Option.getD_some] at h1
 exact h1
theorem keyRE_mono' {es : List En} (hs : SortedE es) {i j : Nat} (h1 : i ≤ j) (h2 : j < es.length) : keyRE (readL es) es i ≤ keyRE (readL es) es j := by
 rcases Nat.eq_or_lt_of_le h1 with rfl | h
 ·exact Nat.le_refl _
 ·exact keyRE_mono hs h h2
def nextR (es : List En) (j : Nat) : Nat := if j = 0 then 0 else keyRE (readL es) es (j - 1) + 1
theorem nextR_le {es : List En} (hs : SortedE es) {j : Nat} (hj : j < es.length) : keyRE (readL es) es j ≤ nextR es j ∧ nextR es j ≤ keyRE (readL es) es j + 1 := by
 have hlt:=keyRE_lt hj
 refine ⟨?_, ?_⟩
 ·apply Classical.byContradiction
  intro hc
  obtain ⟨i,hi,hk⟩:=keyRE_all es (nextR es j) (by omega)
  by_cases hij : j ≤ i
  ·have:=keyRE_mono' hs hij hi
   omega
  ·have:=keyRE_mono' hs (show i ≤ j - 1 by omega) (by omega)
   unfold nextR at hk hc
   rw [if_neg (by omega)] at hk hc
   omega
 ·unfold nextR
  split
  ·omega
  ·have:=keyRE_mono' hs (show j - 1 ≤ j by omega) hj
   omega
theorem step_r {es : List En} (hs : SortedE es) {j : Nat} (hj : j < es.length) :
  ((atsL (keyRE (readL es) es) es.length (readL es).length)[nextR es j]? = some j∧keyRE (readL es) es j = nextR es j) ∨
  (keyRE (readL es) es j + 1 = nextR es j∧((readL es).length ≤ nextR es j ∨ ∃ f,(atsL (keyRE (readL es) es) es.length (readL es).length)[nextR es j]? = some f∧f ≠ j)):=by
 obtain ⟨h1,h2⟩:=nextR_le hs hj
 have hlt:=keyRE_lt hj
 by_cases he : keyRE (readL es) es j = nextR es j
 ·refine Or.inl ⟨?_,he⟩
  rw [atsL_get (by omega)]
  have a:=(first_at hs hj (s:=nextR es j) (by omega)).2 (by omega)
  congr 1
  by_cases hj0 : j = 0
  ·omega
  ·have b:=first_at hs (i:=j - 1) (s:=nextR es j) (by omega) (by omega)
   have c : ¬ nextR es j ≤ keyRE (readL es) es (j - 1):=by unfold nextR;rw [if_neg hj0];omega
   have d:=mt b.1 c
   omega
 ·refine Or.inr ⟨by omega, ?_⟩
  by_cases hl : (readL es).length ≤ nextR es j
  ·exact Or.inl hl
  ·refine Or.inr ⟨_,atsL_get (by omega),fun e => ?_⟩
   have a:=(first_at hs hj (s:=nextR es j) (by omega)).1 (by omega)
   omega
theorem last_r {es : List En} (hs : SortedE es) : nextR es es.length = (readL es).length := by
 unfold nextR
 split
 ·rename_i h
  apply Classical.byContradiction
  intro hc
  obtain ⟨i,hi,_⟩:=keyRE_all es 0 (by omega)
  omega
 ·rename_i h
  have h1:=keyRE_lt (es:=es) (i:=es.length - 1) (by omega)
  apply Classical.byContradiction
  intro hc
  obtain ⟨i,hi,hk⟩:=keyRE_all es (keyRE (readL es) es (es.length - 1) + 1) (by omega)
  have:=keyRE_mono' hs (show i ≤ es.length - 1 by omega) (by omega)
  omega
theorem nextR_succ (es : List En) (j : Nat) : nextR es (j + 1) = keyRE (readL es) es j + 1 := by unfold nextR; rw [if_neg (by omega), Nat.add_sub_cancel]
theorem entry_r {es : List En} {j : Nat} {y : En} (hy : es[j]? = some y) : (readL es)[keyRE (readL es) es j]? = some y.r ∧ (surfL es)[sidE (surfL es) y]? = some y.s ∧ keySE (surfL es) es j = sidE (surfL es) y := by
 have hm:=List.mem_of_getElem? hy
 have hg : es.getD j enZero = y:=by rw [List.getD_eq_getElem?_getD,hy];rfl
 refine ⟨?_,sidE_get (surf_in hm), ?_⟩
 ·unfold keyRE
  rw [hg]
  exact ridE_get (read_in hm)
 ·unfold keySE
  rw [hg]
theorem buildB_zero {p : List PosV} {m : Option Mx} {l : List En} (h : (buildB p m l).1 = 0) :
  ∃ mm,m = some mm∧chkB p (some mm) l = 0∧chk11 (bls (readL (sortS l))) = 0∧chk11 (bls (surfL (sortS l))) = 0∧chk14 (imgP p mm (sortS l)) = 0∧buildB p m l = (0,file14 (imgP p mm (sortS l))):=by
 unfold buildB at h ⊢
 by_cases hc : chkB p m l = 0
 ·cases m with
  | none =>
   unfold chkB at hc
   split at hc
   ·cases hc
   ·cases hc
  | some mm =>
   rw [if_pos hc] at h ⊢
   simp only at h ⊢
   by_cases h2 : chk11 (bls (readL (sortS l))) = 0∧chk11 (bls (surfL (sortS l))) = 0
   ·rw [if_pos h2] at h ⊢
    by_cases h3 : chk14 (imgP p mm (sortS l)) = 0
    ·rw [if_pos h3]
     exact ⟨mm,rfl,hc,h2.1,h2.2,h3,rfl⟩
    ·rw [if_neg h3] at h
     exact absurd h (by simpa using h3)
   ·rw [if_neg h2] at h
    cases h
 ·rw [if_neg hc] at h
  exact absurd h hc
theorem buildB_non {p : List PosV} {m : Option Mx} {l : List En} (h : (buildB p m l).1 ≠ 0) : (buildB p m l).2 = [] := by
 unfold buildB at h ⊢
 by_cases hc : chkB p m l = 0
 ·rw [if_pos hc] at h ⊢
  cases m with
  | none => rfl
  | some mm =>
   simp only at h ⊢
   split
   ·split
    ·rename_i h2 h3
     rw [if_pos h2,if_pos h3] at h
     exact absurd rfl h
    ·rfl
   ·rfl
 ·rw [if_neg hc]
end Go.Proofs.YtepoiefadjoabaaGreatDoor
namespace Go.Proofs.YtepoiefadjoabaaGreatDoor
open Go Go.RowKit
theorem parts_cells (P : List PartV) (w : World) (T : TypeId) (hl : P.length ≤ 1000000) : AtCells (w.alloc (.cells (P.flatMap partC).toArray T)) (some ⟨w.heap.size, 0, none⟩) 2 (P.map partC) := by
 have h:=owns_box (enc:=partC) (k:=2) (fun _ => rfl) (w:=w) (e:=T) (base:=w.heap.size) (n:=P.length) (Nat.le_refl _) P (cs:=(P.flatMap partC).toArray) (by simp) rfl (by unfold maxLen;omega)
 obtain ⟨a,c,e,_,_,hat⟩:=h.at_ (k:=2) (fun _ => rfl)
 have e1:=(Value.slice.inj e).1
 rw [e1]
 exact hat
def bare (p : PartV) : PartV := ⟨p.name, p.data, none, 0⟩
theorem sum14_bare (P : List PartV) : sum14 (P.map bare) = sum14 P := by simp [sum14, bare, List.map_map, Function.comp_def]
theorem body14_bare (P : List PartV) : body14 (P.map bare) = body14 P := by
 simp [body14,head14,data14,bare,List.flatMap_map]
theorem file14_bare (P : List PartV) : file14 (P.map bare) = file14 P := by unfold file14; rw [body14_bare]
theorem dup14_bare : ∀ (P : List PartV) (seen : List ByteArray), dup14 (P.map bare) seen = dup14 P seen
 | [],_ => rfl
 | p :: P,seen => by
  rw [List.map_cons,dup14,dup14,dup14_bare P]
  rfl
theorem chk14_bare (P : List PartV) : chk14 (P.map bare) = chk14 P := by
 unfold chk14 dupL
 rw [sum14_bare,List.length_map,dup14_bare,List.any_map]
 rfl
theorem own_part {W : World} {base : Nat} {v : Value} {data : List UInt8} (h : Owns W base 5 1 byteC v data) : ∃ a c, v = .slice a data.length c ∧ AtCells W a 1 (data.map byteC) ∧ (a = none → c = 0) := by
 obtain ⟨a,c,rfl,_,_,hat⟩:=h.at_ (k:=1) (fun x => (rfl : (byteC x).length = 1))
 refine ⟨a,c,rfl,hat,fun ha => ?_⟩
 rcases h.2 with ⟨e,_⟩ | ⟨g,cap,cur,hv,_⟩
 ·exact (Value.slice.inj e).2.2
 ·rw [ha] at hv
  cases (Value.slice.inj hv).1
end Go.Proofs.YtepoiefadjoabaaGreatDoor
