/- The texts Bimg R18b Bsz R18P R18c Bjn, one behind the other. -/
import Derived.Test.YtepoiefadjoabaaGreatDoorQ32
import Derived.Test.YtepoiefadjoabaaGreatDoorQ35
import Derived.Test.YtepoiefadjoabaaGreatDoorQ16
import Derived.Test.YtepoiefadjoabaaGreatDoorQ3
import Derived.Test.YtepoiefadjoabaaGreatDoorQ38
import Derived.Test.YtepoiefadjoabaaGreatDoorQ7
import Derived.Test.YtepoiefadjoabaaGreatDoorQ24
import Derived.Test.YtepoiefadjoabaaGreatDoorQ28
import Derived.Test.YtepoiefadjoabaaGreatDoorQ40
import Derived.Test.YtepoiefadjoabaaGreatDoorQ22
import Derived.Test.YtepoiefadjoabaaGreatDoorQ39
import Derived.Test.YtepoiefadjoabaaGreatDoorQ12
import Derived.Test.YtepoiefadjoabaaGreatDoorQ14
import Derived.Test.YtepoiefadjoabaaGreatDoorQ23
import Derived.Test.YtepoiefadjoabaaGreatDoorQ27
import Derived.Test.YtepoiefadjoabaaGreatDoorQ21
namespace Go.Proofs.YtepoiefadjoabaaGreatDoor
open Go Go.RowKit
def readL (es : List En) : List ByteArray := setB (es.map (·.r))
def surfL (es : List En) : List ByteArray := setB (es.map (·.s))
theorem setB_mem {ks : List ByteArray} {s : ByteArray} (h : s ∈ ks) : s ∈ setB ks := by
 unfold setB
 refine List.mem_map.2 ⟨bl s,(setL_mem _ _).2 (List.mem_map.2 ⟨s,h,rfl⟩),mkB_of s⟩
theorem setB_of {ks : List ByteArray} {s : ByteArray} (h : s ∈ setB ks) : s ∈ ks := by
 unfold setB at h
 obtain ⟨x,hx,rfl⟩:=List.mem_map.1 h
 obtain ⟨t,ht,rfl⟩:=List.mem_map.1 ((setL_mem _ _).1 hx)
 rw [show mkB (bl t) = t from mkB_of t];exact ht
theorem setB_nodup (ks : List ByteArray) : (setB ks).Nodup := by
 unfold setB
 have h:=setL_asc (bls ks)
 refine List.Pairwise.map mkB (fun a b (hab : Less a b) e => ?_) h
 rw [mkB_inj e] at hab
 exact less_irr _ hab
theorem setB_get {ks : List ByteArray} {i : Nat} (h : i < (setB ks).length) : (setB ks)[i]? = some (mkB (nth (bls (setB ks)) i)) := by
 rw [bls_setB]
 unfold setB nth
 unfold setB at h
 rw [List.length_map] at h
 rw [List.getElem?_map,List.getD_eq_getElem?_getD,List.getElem?_eq_getElem h]
 rfl
theorem setB_le (ks : List ByteArray) : (setB ks).length ≤ ks.length := nodup_sub_len (setB_nodup ks) fun _ h => setB_of h
def sidE (S : List ByteArray) (x : En) : Nat := S.findIdx fun s => decide (s = x.s)
theorem sidE_get {S : List ByteArray} {x : En} (h : x.s ∈ S) : S[sidE S x]? = some x.s := by
 have h1 : sidE S x < S.length:=List.findIdx_lt_length_of_exists ⟨x.s,h,by simp⟩
 rw [List.getElem?_eq_getElem h1]
 have h2:=List.findIdx_getElem (w:=h1)
 exact congrArg some (of_decide_eq_true h2)
theorem sidE_lt {S : List ByteArray} {x : En} (h : x.s ∈ S) : sidE S x < S.length := (List.getElem?_eq_some_iff.1 (sidE_get h)).1
def keySE (S : List ByteArray) (es : List En) (i : Nat) : Nat := sidE S (es.getD i enZero)
def ordE (es : List En) : List Nat := grpsL (keySE (surfL es) es) es.length (surfL es).length
def sortedE (es : List En) : List En := (ordE es).map fun i => es.getD i enZero
def newR (x y : En) : Bool := !decide (x.r = y.r)
def newS (x y : En) : Bool := !decide (x.s = y.s)
def partN (name : Array UInt8) (data : List UInt8) : PartV := ⟨⟨name⟩, data, none, 0⟩
def imgP (p : List PosV) (m : Mx) (es : List En) : List PartV :=
 [partN #[112,111,115] (posE p),partN #[109,97,116,114,105,120] m.enc,partN #[114,101,97,100,105,110,103,115] (loudE (bls (readL es))),partN #[102,105,114,115,116] (packE (idxL newR es es.length)),
  partN #[115,117,114,102,97,99,101,115] (loudE (bls (surfL es))),partN #[115,117,114,102,97,99,101] (packE (es.map (sidE (surfL es)))),partN #[108,101,102,116] (packE (es.map fun x => x.l.toNat)),partN #[114,105,103,104,116] (packE (es.map fun x => x.t.toNat)),
  partN #[99,111,115,116] (packE (es.map fun x => x.c.toNat)),partN #[111,114,100,101,114] (packE (ordE es)),partN #[97,116] (packE (idxL newS (sortedE es) es.length))]
theorem idxL_lt {nw : En → En → Bool} {l : List En} {k i : Nat} (h : i ∈ idxL nw l k) : i < k := List.mem_range.1 (List.mem_filter.1 h).1
theorem firstE_zero {n : Int} : ∀ {l : List En}, firstE n l = 0 → ∀ x ∈ l, checkE x n = 0
 | [],_,x,hx => by cases hx
 | y :: l,h,x,hx => by
  unfold firstE at h
  by_cases hy : checkE y n = 0
  ·rw [if_pos hy] at h
   rcases List.mem_cons.1 hx with rfl | hx
   ·exact hy
   ·exact firstE_zero h x hx
  ·rw [if_neg hy] at h;exact absurd h hy
theorem checkE_nums {x : En} {n : Int} (h : checkE x n = 0) : 0 ≤ x.l ∧ x.l < n ∧ 0 ≤ x.t ∧ x.t < n ∧ 0 ≤ x.c ∧ x.c ≤ 30000 := by
 unfold checkE checkS at h
 split at h
 ·split at h
  ·cases h
  ·split at h
   ·cases h
   ·omega
 ·cases h
theorem chkB_nums {p : List PosV} {m : Mx} {l : List En} (h : chkB p (some m) l = 0) : (m.n : Int) = p.length ∧ l.length ≤ 20000 ∧ posValid p = true ∧ ∀ x ∈ l, checkE x p.length = 0 := by
 unfold chkB at h
 split at h
 ·cases h
 ·rename_i hv
  simp only at h
  split at h
  ·rename_i h1
   split at h
   ·cases h
   ·rename_i h2
    exact ⟨h1,by omega,by simpa using hv,firstE_zero h⟩
  ·cases h
def buildB (p : List PosV) (m : Option Mx) (l : List En) : Int × List UInt8 :=
 if chkB p m l = 0 then match m with
  | none => (0,[])
  | some m => if chk11 (bls (readL (sortS l))) = 0∧chk11 (bls (surfL (sortS l))) = 0 then (if chk14 (imgP p m (sortS l)) = 0 then (0,file14 (imgP p m (sortS l))) else (chk14 (imgP p m (sortS l)),[])) else (2,[])
 else (chkB p m l,[])
end Go.Proofs.YtepoiefadjoabaaGreatDoor
namespace Go.Proofs.YtepoiefadjoabaaGreatDoor
open Go Go.RowKit Go.Shelf
attribute [local go_sem] quietE quietE2
theorem bls_inj {A B : List ByteArray} (h : bls A = bls B) : A = B := by
 have h1:=congrArg (List.map mkB) h
 unfold bls at h1
 rw [List.map_map,List.map_map] at h1
 have e : ∀ l : List ByteArray,l.map (mkB ∘ bl) = l:=fun l => (List.map_congr_left fun x _ => mkB_of x).trans (List.map_id _)
 rwa [e,e] at h1
theorem setB_snoc (ks : List ByteArray) (s : ByteArray) : putL (bls (setB ks)) (bl s) = bls (setB (ks ++ [s])) := by
 rw [bls_setB,bls_setB,bls_snoc18]
 unfold setL
 rw [List.foldl_append]
 rfl
theorem setB_of_put {ks out : List ByteArray} {s : ByteArray} (h : bls out = putL (bls (setB ks)) (bl s)) : out = setB (ks ++ [s]) := bls_inj (h.trans (setB_snoc ks s))
set_option maxHeartbeats 4000000 in
set_option maxRecDepth 100000 in
theorem rplace_any (B : List ByteArray) (s : ByteArray) (a : Option Addr) (c : Nat) (w : World) (hl : B.length ≤ 1048576) (hs : s ∈ B) (hat : AtCells w a 1 (B.map stC)) :
  Calls Tryz.prog 76 #[.slice a B.length c,.string s] w fun e w' => e = .returned (.int .i64 ((B.findIdx fun t => decide (t = s) : Nat) : Int))∧Grows w w':=by
 have HAT:=Lib.hid hat
 obtain ⟨N,hN⟩ : ∃ N,N = B.findIdx fun t => decide (t = s):=⟨_,rfl⟩
 have hNlt : N < B.length:=by rw [hN];exact List.findIdx_lt_length_of_exists ⟨s,hs,by simp⟩
 have HHIT : Hid (∀ k x,B[k]? = some x → k ≤ N → x = s → k = N):=fun k x hx hk he => by
  rcases Nat.lt_or_ge k N with h | h
  ·obtain ⟨hk2,hx2⟩:=List.getElem?_eq_some_iff.1 hx
   rw [hN] at h
   have:=List.not_of_lt_findIdx h
   rw [hx2] at this
   simp [he] at this
  ·omega
 have HMISS : Hid (∀ k x,B[k]? = some x → k ≤ N → x ≠ s → k + 1 ≤ N):=fun k x hx hk he => by
  rcases Nat.lt_or_ge k N with h | h
  ·omega
  ·obtain rfl : k = N:=by omega
   obtain ⟨hk2,hx2⟩:=List.getElem?_eq_some_iff.1 hx
   have h3 : B.findIdx (fun t => decide (t = s)) < B.length:=by rw [← hN];exact hNlt
   have h4:=List.findIdx_getElem (w:=h3)
   have h5:=of_decide_eq_true h4
   rw [← hx2] at he
   subst hN
   exact absurd h5 he
 rw [← hN]
 clear hat hN hs
 go_enter Tryz.func76,Tryz.ntmps76
 go_wp2_with fail
 go_loopw [5] (fun i wr => ∃ (k : Nat),k ≤ N∧i = .int .i64 k∧Grows w wr) (fun i _ => B.length - (intOf i).toNat)
 case atStart => exact ⟨0,Nat.zero_le _,rfl,Grows.refl _⟩
 case round =>
  obtain ⟨k,hk,rfl,hg⟩:=hrel
  have hlt : k < B.length:=by omega
  obtain ⟨x,hx⟩ : ∃ x,B[k]? = some x:=⟨_,List.getElem?_eq_getElem hlt⟩
  obtain ⟨b,o,rfl,hc⟩:=at1 (f:=Value.string) (HAT.out.grows hg) (ne_nil_of_lt hlt)
  have hcx:=hc k x hx
  have hki : (k : Int) < B.length:=by omega
  by_cases he : x = s
  ·have hkN:=HHIT.out k x hx hk he
   subst he
   subst hkN
   have heq : (x.toList == x.toList) = true:=by simp
   clear hc hx
   go_wp2_with fail
   go_ret
   exact ⟨rfl,hg⟩
  ·have hkN:=HMISS.out k x hx hk he
   have heq : (x.toList == s.toList) = false:=by simpa using fun h => he (toList_inj h)
   clear hc hx
   go_wp2_with fail
   go_roundw
   case rel => exact ⟨k + 1,hkN,by go_num,hg⟩
   case measure => simp [intOf];omega
set_option maxHeartbeats 4000000 in
set_option maxRecDepth 100000 in
theorem rreadings_any (es : List En) (a : Option Addr) (c : Nat) (pv mv : Value) (w : World) (hl : es.length ≤ 1048576) (hat : AtCells w a 5 (es.map enCells)) :
  Calls Tryz.prog 74 #[.agg #[pv,mv,.slice a es.length c]] w fun e w' => Grows w w'∧∃ v,e = .returned v∧Owns w' w.heap.size 9 1 stC v (readL es):=by
 obtain ⟨W0,hW0⟩ : ∃ W0,W0 = w.alloc (.cells #[pv,mv,.slice a es.length c] 62):=⟨_,rfl⟩
 have hg0 : Grows w W0:=by rw [hW0];exact Grows.alloc _ _
 have q2:=cell_box w #[pv,mv,.slice a es.length c] 62 (0,0) 2 _ rfl
 rw [← hW0] at q2
 have HQ:=Lib.hid q2
 have HAT:=Lib.hid (hat.grows hg0)
 have HG0:=Lib.hid hg0
 clear hat hg0
 go_enter Tryz.func74,Tryz.ntmps74
 go_wp2_with fail
 rw [← hW0]
 clear hW0
 go_loopw [3,4] (fun v i wr => ∃ (k : Nat),k ≤ es.length∧i = .int .i64 k∧Owns wr w.heap.size 9 1 stC v (setB ((es.take k).map (·.r)))∧Grows W0 wr) (fun _ i _ => es.length - (intOf i).toNat)
 case atStart => exact ⟨0,Nat.zero_le _,rfl,Owns.nil _ _ _ _ _,Grows.refl _⟩
 case round =>
  obtain ⟨k,hk,rfl,hown,hg⟩:=hrel
  clear q2
  have q2:=hg.cell HQ.out
  by_cases hlt : k < es.length
  ·obtain ⟨⟨xr,xs,xl,xt,xc⟩,hx⟩ : ∃ x,es[k]? = some x:=⟨_,List.getElem?_eq_getElem hlt⟩
   obtain ⟨ba,oa,rfl,hca⟩:=(HAT.out.grows hg).get (ne_nil_of_lt hlt)
   have c0 : wr.cell? ⟨ba,oa + k * 5,none⟩ = some (.string xr):=hca k _ hx 0 _ rfl
   have hki : (k : Int) < es.length:=by omega
   have HT : Hid (setB ((es.take k).map (·.r) ++ [xr]) = setB ((es.take (k + 1)).map (·.r))):=by
    show _ = _
    rw [takeSnoc hx,List.map_append]
    rfl
   have hkl : (setB ((es.take k).map (·.r))).length ≤ k:=Nat.le_trans (setB_le _) (by rw [List.length_map,List.length_take];omega)
   obtain ⟨B,hB⟩ : ∃ B,B = setB ((es.take k).map (·.r)):=⟨_,rfl⟩
   have HB:=Lib.hid hB
   rw [← hB] at hown hkl
   clear hca hx hB
   obtain ⟨va,vc,rfl,_,_,hvat⟩:=hown.at_ (k:=1) (fun x => (rfl : (stC x).length = 1))
   go_wp2_with fail
   refine (rput_any B xr va vc wr (by omega) hvat).mono ?_
   rintro e w2 ⟨hg2,v2,out,ho,rfl,hown2⟩
   rw [HB.out] at ho
   obtain rfl:=setB_of_put ho
   rw [HT.out] at hown2
   have hg02:=Grows.trans _ _ _ hg hg2
   have hown3:=hown2.base (Grows.trans _ _ _ HG0.out hg).size
   clear hown hown2 hvat ho hg2
   go_wp2_with fail
   go_roundw
   case rel => exact ⟨k + 1,hlt,by go_num,hown3,hg02⟩
   case measure => simp [intOf];omega
  ·obtain rfl : k = es.length:=by omega
   rw [List.take_length] at hown
   go_wp2_with fail
   go_ret
   exact ⟨Grows.trans _ _ _ HG0.out hg,_,rfl,hown⟩
set_option maxHeartbeats 4000000 in
set_option maxRecDepth 100000 in
theorem rsurfaces_any (es : List En) (a : Option Addr) (c : Nat) (pv mv : Value) (w : World) (hl : es.length ≤ 1048576) (hat : AtCells w a 5 (es.map enCells)) :
  Calls Tryz.prog 75 #[.agg #[pv,mv,.slice a es.length c]] w fun e w' => Grows w w'∧∃ v,e = .returned v∧Owns w' w.heap.size 9 1 stC v (surfL es):=by
 obtain ⟨W0,hW0⟩ : ∃ W0,W0 = w.alloc (.cells #[pv,mv,.slice a es.length c] 62):=⟨_,rfl⟩
 have hg0 : Grows w W0:=by rw [hW0];exact Grows.alloc _ _
 have q2:=cell_box w #[pv,mv,.slice a es.length c] 62 (0,0) 2 _ rfl
 rw [← hW0] at q2
 have HQ:=Lib.hid q2
 have HAT:=Lib.hid (hat.grows hg0)
 have HG0:=Lib.hid hg0
 clear hat hg0
 go_enter Tryz.func75,Tryz.ntmps75
 go_wp2_with fail
 rw [← hW0]
 clear hW0
 go_loopw [3,4] (fun v i wr => ∃ (k : Nat),k ≤ es.length∧i = .int .i64 k∧Owns wr w.heap.size 9 1 stC v (setB ((es.take k).map (·.s)))∧Grows W0 wr) (fun _ i _ => es.length - (intOf i).toNat)
 case atStart => exact ⟨0,Nat.zero_le _,rfl,Owns.nil _ _ _ _ _,Grows.refl _⟩
 case round =>
  obtain ⟨k,hk,rfl,hown,hg⟩:=hrel
  clear q2
  have q2:=hg.cell HQ.out
  by_cases hlt : k < es.length
  ·obtain ⟨⟨xr,xs,xl,xt,xc⟩,hx⟩ : ∃ x,es[k]? = some x:=⟨_,List.getElem?_eq_getElem hlt⟩
   obtain ⟨ba,oa,rfl,hca⟩:=(HAT.out.grows hg).get (ne_nil_of_lt hlt)
   have c0 : wr.cell? ⟨ba,oa + k * 5 + 1,none⟩ = some (.string xs):=hca k _ hx 1 _ rfl
   have hki : (k : Int) < es.length:=by omega
   have HT : Hid (setB ((es.take k).map (·.s) ++ [xs]) = setB ((es.take (k + 1)).map (·.s))):=by
    show _ = _
    rw [takeSnoc hx,List.map_append]
    rfl
   have hkl : (setB ((es.take k).map (·.s))).length ≤ k:=Nat.le_trans (setB_le _) (by rw [List.length_map,List.length_take];omega)
   obtain ⟨B,hB⟩ : ∃ B,B = setB ((es.take k).map (·.s)):=⟨_,rfl⟩
   have HB:=Lib.hid hB
   rw [← hB] at hown hkl
   clear hca hx hB
   obtain ⟨va,vc,rfl,_,_,hvat⟩:=hown.at_ (k:=1) (fun x => (rfl : (stC x).length = 1))
   go_wp2_with fail
   refine (rput_any B xs va vc wr (by omega) hvat).mono ?_
   rintro e w2 ⟨hg2,v2,out,ho,rfl,hown2⟩
   rw [HB.out] at ho
   obtain rfl:=setB_of_put ho
   rw [HT.out] at hown2
   have hg02:=Grows.trans _ _ _ hg hg2
   have hown3:=hown2.base (Grows.trans _ _ _ HG0.out hg).size
   clear hown hown2 hvat ho hg2
   go_wp2_with fail
   go_roundw
   case rel => exact ⟨k + 1,hlt,by go_num,hown3,hg02⟩
   case measure => simp [intOf];omega
  ·obtain rfl : k = es.length:=by omega
   rw [List.take_length] at hown
   go_wp2_with fail
   go_ret
   exact ⟨Grows.trans _ _ _ HG0.out hg,_,rfl,hown⟩
end Go.Proofs.YtepoiefadjoabaaGreatDoor
namespace Go.Proofs.YtepoiefadjoabaaGreatDoor
open Go Go.RowKit
theorem encGo_len (m : Mx) : ∀ (l : List Nat) (last : Int), (encGo m last l).length ≤ l.length * 20
 | [],_ => by simp [encGo]
 | i :: r,last => by
  have h1:=encGo_len m r i
  have h2:=putU_len ((i : Int) - last).toNat
  have h3:=putU_len (m.cs.getD i 0).toNat
  rw [encGo,List.length_append,List.length_append,List.length_cons]
  omega
theorem enc_len {m : Mx} (h : m.OK) : m.enc.length ≤ 82000 := by
 have h1:=Mx.idx_len h
 have h2:=encGo_len m m.idx (-1)
 have h3:=putU_len m.n
 have h4:=putU_len m.d.toNat
 have h5:=putU_len m.idx.length
 unfold Mx.enc
 rw [List.length_append,List.length_append,List.length_append]
 omega
theorem posE_len {p : List PosV} (h : posValid p = true) : (posE p).length ≤ 2600 := by
 obtain ⟨h1,h2⟩:=posValid_all h
 have h3:=posFlat_len (l:=p) (fun x hx => (h2 x hx).1)
 have h4:=putU_len p.length
 unfold posE
 rw [List.length_append]
 omega
theorem packE_le {l : List Nat} (h : ∀ n ∈ l, n < 18446744073709551616) : (packE l).length ≤ 5 + l.length * 64 := by
 have hw : widL l ≤ 64:=widL_le.2 h
 have h1 : l.length * widL l ≤ l.length * 64:=Nat.mul_le_mul_left _ hw
 unfold packE packB
 rw [List.length_append,List.length_append,leB_len,List.length_map,List.length_range]
 simp only [List.length_singleton]
 omega
theorem flat_leB (k : Nat) : ∀ l : List Nat, ((l.map (leB k)).flatten).length = l.length * k
 | [] => by simp
 | x :: l => by
  rw [List.map_cons,List.flatten_cons,List.length_append,leB_len,flat_leB k l,List.length_cons,Nat.succ_mul]
  omega
theorem vecE_le (l : List Bool) : (vecE l).length ≤ 20 + l.length := by
 unfold vecE vecWs vecCs
 rw [List.length_append,List.length_append,leB_len,flat_leB,flat_leB,List.length_map,List.length_map,List.length_range,List.length_range]
 omega
theorem loudE_len {L : List (List UInt8)} (hok : OkL L) (hl : L.length ≤ 20000) (hc : countL L ≤ 524287) : (loudE L).length ≤ 40000000 := by
 obtain ⟨z1,z2,z3,z4,z5⟩:=hok.sizes hl hc
 have h1:=vecE_le (shapeL L (nodesA L))
 have h2:=vecE_le (isL L (nodesA L))
 have h3:=packE_le (l:=idsL L (nodesA L)) (fun n hn => by have:=z5 n hn;omega)
 unfold loudE part11
 simp only [List.length_append,leB_len]
 omega
end Go.Proofs.YtepoiefadjoabaaGreatDoor
namespace Go.Proofs.YtepoiefadjoabaaGreatDoor
open Go Go.RowKit
theorem grp_nodup (k : Nat → Nat) (n S : Nat) : (grpsL k n S).Nodup := (grpsL_pairwise k n S).imp fun {a b} h e => by rw [e] at h; exact ltK_irrefl h
theorem grpsL_len {k : Nat → Nat} {n S : Nat} (h : ∀ i, i < n → k i < S) : (grpsL k n S).length = n := by
 have h1:=nodup_sub_len (grp_nodup k n S) (l':=List.range n) fun x hx => List.mem_range.2 (grpsL_mem.1 hx).1
 have h2:=nodup_sub_len (List.nodup_range (n:=n)) (l':=grpsL k n S) fun x hx => grpsL_mem.2 ⟨List.mem_range.1 hx,h x (List.mem_range.1 hx)⟩
 rw [List.length_range] at h1 h2
 omega
theorem es_get {es : List En} {i : Nat} (h : i < es.length) : es[i]? = some (es.getD i enZero) := by rw [List.getD_eq_getElem?_getD, List.getElem?_eq_getElem h]; rfl
theorem surf_in {es : List En} {x : En} (h : x ∈ es) : x.s ∈ surfL es := setB_mem (List.mem_map.2 ⟨x, h, rfl⟩)
theorem keySE_lt {es : List En} {i : Nat} (h : i < es.length) : keySE (surfL es) es i < (surfL es).length := sidE_lt (surf_in (List.mem_of_getElem? (es_get h)))
theorem ordE_len (es : List En) : (ordE es).length = es.length := grpsL_len fun _ hi => keySE_lt hi
theorem ordE_lt {es : List En} {i : Nat} (h : i ∈ ordE es) : i < es.length := (grpsL_mem.1 h).1
theorem sidE_same {S : List ByteArray} {x y : En} (hx : x.s ∈ S) (hy : y.s ∈ S) : sidE S x = sidE S y ↔ x.s = y.s := by
 constructor
 ·intro h
  have a:=sidE_get hx
  rw [h,sidE_get hy] at a
  exact (Option.some.inj a).symm
 ·intro h
  unfold sidE
  rw [h]
theorem nodup_at {l : List ByteArray} (hn : l.Nodup) {i j : Nat} {s : ByteArray} (hi : l[i]? = some s) (hj : l[j]? = some s) : i = j := by
 obtain ⟨h1,e1⟩:=List.getElem?_eq_some_iff.1 hi
 obtain ⟨h2,e2⟩:=List.getElem?_eq_some_iff.1 hj
 rcases Nat.lt_trichotomy i j with h | h | h
 ·exact absurd (e1.trans e2.symm) (List.pairwise_iff_getElem.1 hn i j h1 h2 h)
 ·exact h
 ·exact absurd (e2.trans e1.symm) (List.pairwise_iff_getElem.1 hn j i h2 h1 h)
theorem keySE_all (es : List En) : ∀ s, s < (surfL es).length → ∃ i, i < es.length ∧ keySE (surfL es) es i = s := by
 intro s hs
 have h1 : (surfL es)[s]? = some (surfL es)[s]:=List.getElem?_eq_getElem hs
 have h2 : (surfL es)[s] ∈ es.map (·.s):=setB_of (List.getElem_mem hs)
 obtain ⟨x,hx,hxs⟩:=List.mem_map.1 h2
 obtain ⟨i,hi,he⟩:=List.mem_iff_getElem.1 hx
 refine ⟨i,hi, ?_⟩
 have h3 : es.getD i enZero = x:=by rw [List.getD_eq_getElem?_getD,List.getElem?_eq_getElem hi];exact he
 unfold keySE
 rw [h3]
 exact nodup_at (setB_nodup _) (sidE_get (surf_in hx)) (by rw [hxs];exact h1)
theorem at_idx (es : List En) : idxL newS (sortedE es) es.length = atsL (keySE (surfL es) es) es.length (surfL es).length := by
 rw [← begins_grps _ _ _ (keySE_all es)]
 have hl : (grpsL (keySE (surfL es) es) es.length (surfL es).length).length = es.length:=ordE_len es
 unfold idxL begins
 rw [hl]
 apply List.filter_congr
 intro i hi
 rw [List.mem_range] at hi
 have hg : ∀ j,j < es.length → ∃ m,m < es.length∧(grpsL (keySE (surfL es) es) es.length (surfL es).length).getD j 0 = m∧(sortedE es).getD j enZero = es.getD m enZero:=by
  intro j hj
  have h1 : (ordE es)[j]? = some ((ordE es).getD j 0):=by rw [List.getD_eq_getElem?_getD,List.getElem?_eq_getElem (by rw [ordE_len];exact hj)];rfl
  refine ⟨(ordE es).getD j 0,ordE_lt (List.mem_of_getElem? h1),rfl, ?_⟩
  unfold sortedE
  rw [List.getD_eq_getElem?_getD,List.getElem?_map,h1]
  rfl
 obtain ⟨a,ha,ea,ka⟩:=hg i hi
 obtain ⟨b,hb,eb,kb⟩:=hg (i - 1) (by omega)
 unfold newIx newAt
 rw [ka,kb,ea,eb]
 congr 1
 unfold newS
 have h:=sidE_same (surf_in (List.mem_of_getElem? (es_get ha))) (surf_in (List.mem_of_getElem? (es_get hb)))
 show _ = (keySE (surfL es) es a != keySE (surfL es) es b)
 unfold keySE
 generalize es.getD a enZero = x at h ⊢
 generalize es.getD b enZero = y at h ⊢
 by_cases he : x.s = y.s
 ·rw [h.2 he];simp [he]
 ·have : sidE (surfL es) x ≠ sidE (surfL es) y:=fun e => he (h.1 e)
  simp [he,this]
theorem sortS_le (l : List En) : (sortS l).length ≤ l.length :=
 nodup_sub_len ((sortS_spec l).1.imp fun {a b} hab e => by rw [e,lessS_irrefl] at hab;cases hab) fun y hy => (((sortS_spec l).2 y).1 hy).1
theorem sortS_of {l : List En} {x : En} (h : x ∈ sortS l) : x ∈ l := (((sortS_spec l).2 x).1 h).1
theorem countTo_le {L : List (List UInt8)} (h : ∀ s ∈ L, s.length ≤ 256) : ∀ m, m ≤ L.length → countTo L m ≤ 1 + m * 256
 | 0,_ => Nat.le_refl _
 | m + 1,hm => by
  have h1:=countTo_le h m (by omega)
  have h2:=h _ (List.mem_of_getElem? (nth_some (L:=L) (j:=m) (by omega)))
  unfold countTo newBy
  omega
theorem loudE_small {L : List (List UInt8)} (hok : OkL L) (hl : L.length ≤ 300) : (loudE L).length ≤ 5300000 := by
 have hc : countL L ≤ 76801:=by have:=countTo_le hok.len L.length (Nat.le_refl _);unfold countL;omega
 have hN:=nodes_count hok.asc hok.len
 obtain ⟨z1,z2,z3,z4,z5⟩:=hok.sizes (by omega) (by omega : countL L ≤ 524287)
 have h0:=shapeL_len L (nodesA L).length (Nat.le_refl _)
 rw [List.take_length,hok.off_all] at h0
 have h1:=vecE_le (shapeL L (nodesA L))
 have h2:=vecE_le (isL L (nodesA L))
 have h3:=packE_le (l:=idsL L (nodesA L)) (fun n hn => by have:=z5 n hn;omega)
 have h4 : (isL L (nodesA L)).length = (nodesA L).length:=by unfold isL;rw [List.length_map]
 have h5 : (labelsL L (nodesA L)).length ≤ (nodesA L).length:=by rw [hok.labels,List.length_map,List.length_drop];omega
 have h6 : (idsL L (nodesA L)).length ≤ (nodesA L).length:=by
  unfold idsL
  rw [List.length_map]
  exact List.length_filter_le (here L) (nodesA L)
 unfold loudE part11
 simp only [List.length_append,leB_len]
 omega
theorem img_names (p : List PosV) (m : Mx) (es : List En) : (imgP p m es).any (fun q => !azS q.name) = false ∧ dupL (imgP p m es) = false := by
 constructor
 ·simp only [imgP,List.any_cons,List.any_nil,partN]
  decide +kernel
 ·simp only [imgP,dupL,dup14,partN]
  decide +kernel
theorem chk14_img {p : List PosV} {m : Mx} {es : List En} (hm : m.OK) (hp : posValid p = true) (hl : es.length ≤ 300) (hr : chk11 (bls (readL es)) = 0) (hs : chk11 (bls (surfL es)) = 0)
  (hn : ∀ x ∈ es,0 ≤ x.l∧x.l < 18446744073709551616∧0 ≤ x.t∧x.t < 18446744073709551616∧0 ≤ x.c∧x.c < 18446744073709551616) : chk14 (imgP p m es) = 0:=by
 have hR : (bls (readL es)).length ≤ 300:=by
  have:=setB_le (es.map (·.r));unfold bls readL;rw [List.length_map];rw [List.length_map] at this;omega
 have hS : (bls (surfL es)).length ≤ 300:=by
  have:=setB_le (es.map (·.s));unfold bls surfL;rw [List.length_map];rw [List.length_map] at this;omega
 have hS2 : (surfL es).length ≤ 300:=by unfold bls at hS;rw [List.length_map] at hS;exact hS
 have a1:=posE_len hp
 have a2:=enc_len hm
 have a3:=loudE_small (chk11_ok hr).1 hR
 have a4:=loudE_small (chk11_ok hs).1 hS
 have b1:=packE_le (l:=idxL newR es es.length) (fun n hn => by have:=idxL_lt hn;omega)
 have b2:=packE_le (l:=es.map (sidE (surfL es))) (fun n hn => by
  obtain ⟨x,hx,rfl⟩:=List.mem_map.1 hn
  have:=sidE_lt (surf_in hx);omega)
 have b3:=packE_le (l:=es.map fun x => x.l.toNat) (fun n h => by
  obtain ⟨x,hx,rfl⟩:=List.mem_map.1 h
  have:=hn x hx;omega)
 have b4:=packE_le (l:=es.map fun x => x.t.toNat) (fun n h => by
  obtain ⟨x,hx,rfl⟩:=List.mem_map.1 h
  have:=hn x hx;omega)
 have b5:=packE_le (l:=es.map fun x => x.c.toNat) (fun n h => by
  obtain ⟨x,hx,rfl⟩:=List.mem_map.1 h
  have:=hn x hx;omega)
 have b6:=packE_le (l:=ordE es) (fun n hn => by have:=ordE_lt hn;omega)
 have b7:=packE_le (l:=idxL newS (sortedE es) es.length) (fun n hn => by have:=idxL_lt hn;omega)
 have c1:=idxL_le newR es es.length
 have c2:=idxL_le newS (sortedE es) es.length
 have c3:=ordE_len es
 rw [List.length_map] at b2 b3 b4 b5
 have hsum : sum14 (imgP p m es) ≤ 16777216:=by
  simp only [sum14,imgP,partN,List.map_cons,List.map_nil,List.sum_cons,List.sum_nil]
  omega
 have hlen : (imgP p m es).length = 11:=rfl
 obtain ⟨n1,n2⟩:=img_names p m es
 unfold chk14
 rw [if_neg (by omega),if_neg (by rw [n1];decide),if_neg (by rw [n2];decide)]
end Go.Proofs.YtepoiefadjoabaaGreatDoor
namespace Go.Proofs.YtepoiefadjoabaaGreatDoor
open Go Go.RowKit Go.Shelf
attribute [local go_sem] quietE quietE2
def noDict : Value := .agg #[.slice none 0 0, .pointer none, .slice none 0 0]
theorem chkB_v {p : List PosV} {m : Option Mx} {l : List En} (h : posValid p = false) : chkB p m l = 5 := by unfold chkB; rw [if_pos h]
theorem chkB_n {p : List PosV} {l : List En} (h : posValid p = true) : chkB p none l = 9 := by unfold chkB; rw [if_neg (by rw [h]; decide)]
theorem chkB_s {p : List PosV} {m : Mx} {l : List En} (h : posValid p = true) : chkB p (some m) l = if (m.n : Int) = p.length then (if 20000 < l.length then 2 else firstE p.length l) else 5 := by unfold chkB; rw [if_neg (by rw [h]; decide)]
def makeE (p : List PosV) (m : Option Mx) (l : List En) : Int :=
 if chkB p m l = 0 then (if chk11 (bls (readL (sortS l))) = 0∧chk11 (bls (surfL (sortS l))) = 0 then 0 else 2) else chkB p m l
def MakePost (p : List PosV) (mv : Value) (m : Option Mx) (l : List En) (pa : Option Addr) (pc : Nat) (w : World) (e : Ending) (w' : World) : Prop :=
 Grows w w'∧(makeE p m l = 0 → ∃ a c,e = .returned (.tuple #[.agg #[.slice pa p.length pc,mv,.slice a (sortS l).length c],.int .i64 0])∧AtCells w' a 5 ((sortS l).map enCells))∧(makeE p m l ≠ 0 → e = .returned (.tuple #[noDict,.int .i64 (makeE p m l)]))
theorem MakePost.bad {p : List PosV} {mv : Value} {m : Option Mx} {l : List En} {pa : Option Addr} {pc : Nat} {w w' : World} {f : Int} (h : chkB p m l ≠ 0) (hf : f = chkB p m l) (hg : Grows w w') :
  MakePost p mv m l pa pc w (.returned (.tuple #[.agg #[.slice none 0 0,.pointer none,.slice none 0 0],.int .i64 f])) w':=by
 have e : makeE p m l = f:=by unfold makeE;rw [if_neg h,hf]
 refine ⟨hg,fun h0 => ?_,fun _ => ?_⟩
 ·rw [e,hf] at h0;exact absurd h0 h
 ·rw [e];rfl
theorem MakePost.long {p : List PosV} {mv : Value} {m : Option Mx} {l : List En} {pa : Option Addr} {pc : Nat} {w w' : World} (h : chkB p m l = 0) (h2 : ¬ (chk11 (bls (readL (sortS l))) = 0 ∧ chk11 (bls (surfL (sortS l))) = 0)) (hg : Grows w w') :
  MakePost p mv m l pa pc w (.returned (.tuple #[.agg #[.slice none 0 0,.pointer none,.slice none 0 0],.int .i64 2])) w':=by
 have e : makeE p m l = 2:=by unfold makeE;rw [if_pos h,if_neg h2]
 refine ⟨hg,fun h0 => ?_,fun _ => ?_⟩
 ·rw [e] at h0;cases h0
 ·rw [e];rfl
theorem MakePost.good {p : List PosV} {mv : Value} {m : Option Mx} {l : List En} {pa : Option Addr} {pc : Nat} {w w' : World} {a : Option Addr} {c : Nat} (h : chkB p m l = 0) (h2 : chk11 (bls (readL (sortS l))) = 0 ∧ chk11 (bls (surfL (sortS l))) = 0) (hg : Grows w w') (hat : AtCells w' a 5 ((sortS l).map enCells)) :
  MakePost p mv m l pa pc w (.returned (.tuple #[.agg #[.slice pa p.length pc,mv,.slice a (sortS l).length c],.int .i64 0])) w':=by
 have e : makeE p m l = 0:=by unfold makeE;rw [if_pos h,if_pos h2]
 exact ⟨hg,fun _ => ⟨a,c,rfl,hat⟩,fun h0 => absurd e h0⟩
theorem MakePost.good2 {p : List PosV} {mv : Value} {m : Option Mx} {l es : List En} {pa : Option Addr} {pc : Nat} {w w' : World} {a : Option Addr} {c : Nat} (he : es = sortS l) (h : chkB p m l = 0) (h2 : chk11 (bls (readL (sortS l))) = 0 ∧ chk11 (bls (surfL (sortS l))) = 0) (hg : Grows w w') (hat : AtCells w' a 5 (es.map enCells)) :
  MakePost p mv m l pa pc w (.returned (.tuple #[.agg #[.slice pa p.length pc,mv,.slice a es.length c],.int .i64 0])) w':=by
 subst he
 exact MakePost.good h h2 hg hat
set_option maxHeartbeats 4000000 in
set_option maxRecDepth 100000 in
theorem rmake_bad (p : List PosV) (mv : Value) (m : Option Mx) (l : List En) (pa a : Option Addr) (pc c : Nat) (w : World) (hp : p.length ≤ 4611686018427387904) (hpn : ∀ x ∈ p, x.name.size ≤ 9223372036854775807) (hl : l.length ≤ 140737488355328) (hs : ∀ x ∈ l, x.r.size ≤ 1099511627776 ∧ x.s.size ≤ 1099511627776)
  (hpt : AtCells w pa 2 (p.map posCells)) (hm : RefV w mv m) (hat : AtCells w a 5 (l.map enCells)) (hc : chkB p m l ≠ 0) :
  Calls Tryz.prog 25 #[.slice pa p.length pc,mv,.slice a l.length c] w (MakePost p mv m l pa pc w):=by
 obtain ⟨W1,hW1⟩ : ∃ W,W = w.alloc (.cells #[.slice none 0 0,.pointer none,.slice none 0 0] 62):=⟨_,rfl⟩
 have hgA : Grows w W1:=by rw [hW1];exact Grows.alloc _ _
 have HBL : Hid (w.heap.size < W1.heap.size):=by rw [hW1];show _ < _;simp
 have HBX : Hid (∀ w',Grows W1 w' → (∀ j v,(#[.slice none 0 0,.pointer none,.slice none 0 0] : Array Value)[j]? = some v → w'.cell? ⟨w.heap.size,j,none⟩ = some v)∧(∀ j,w'.frozen? ⟨w.heap.size,j,none⟩ = false)):=fun w' h => box_cells2 (by rw [← hW1];exact h)
 have HGA:=Lib.hid hgA
 have HAT:=Lib.hid (hat.grows hgA)
 have HS:=Lib.hid hs
 have HM:=Lib.hid (hm.grows hgA)
 have HC:=Lib.hid hc
 have CP:=Lib.hid (valid2_any p pa pc W1 (hpt.grows hgA) hp hpn)
 clear hat hs hm hpt hc hgA
 cases hv : posValid p with
 | false =>
  rw [hv] at CP
  have HF:=Lib.hid (chkB_v (m:=m) (l:=l) hv)
  clear hv
  go_enter Tryz.func25,Tryz.ntmps25
  go_wp2_with fail
  rw [← hW1]
  clear hW1
  refine CP.out.mono ?_
  rintro e w1 ⟨rfl,hg1⟩
  obtain ⟨bc,bf⟩:=HBX.out _ hg1
  have b0:=bc 0 _ rfl
  have b1:=bc 1 _ rfl
  have b2:=bc 2 _ rfl
  have f0:=bf 0
  have f1:=bf 1
  have f2:=bf 2
  clear bc bf
  go_wp2
  refine bodyPost_ret (v:=.tuple #[.agg #[.slice none 0 0,.pointer none,.slice none 0 0],.int .i64 _]) (by simp [results,Tryz.results25,go_sem,b0,b1,b2];rfl) rfl ?_
  exact MakePost.bad HC.out HF.out.symm ((((Grows.trans _ _ _ HGA.out hg1).set (Nat.le_refl _) _).set (Nat.le_refl _) _).set (Nat.le_refl _) _)
 | true =>
  rw [hv] at CP
  cases m with
  | none =>
   obtain rfl : mv = .pointer none:=HM.out
   have HF:=Lib.hid (chkB_n (l:=l) hv)
   clear hv
   go_enter Tryz.func25,Tryz.ntmps25
   go_wp2_with fail
   rw [← hW1]
   clear hW1
   refine CP.out.mono ?_
   rintro e w1 ⟨rfl,hg1⟩
   obtain ⟨bc,bf⟩:=HBX.out _ hg1
   have b0:=bc 0 _ rfl
   have b1:=bc 1 _ rfl
   have b2:=bc 2 _ rfl
   have f0:=bf 0
   have f1:=bf 1
   have f2:=bf 2
   clear bc bf
   go_wp2
   refine bodyPost_ret (v:=.tuple #[.agg #[.slice none 0 0,.pointer none,.slice none 0 0],.int .i64 _]) (by simp [results,Tryz.results25,go_sem,b0,b1,b2];rfl) rfl ?_
   exact MakePost.bad HC.out HF.out.symm ((((Grows.trans _ _ _ HGA.out hg1).set (Nat.le_refl _) _).set (Nat.le_refl _) _).set (Nat.le_refl _) _)
  | some m =>
   obtain ⟨rb,rfl,hra⟩:=HM.out
   have hrc:=hra.c0
   have HF:=Lib.hid (chkB_s (m:=m) (l:=l) hv)
   clear HM hra hv
   by_cases h1 : (m.n : Int) = p.length
   ·have HF1 : Hid (chkB p (some m) l = if 20000 < l.length then 2 else firstE p.length l):=by show _ = _;rw [HF.out];simp [h1]
    clear HF
    by_cases h2 : 20000 < l.length
    ·have h2i : (20000 : Int) < l.length:=by omega
     have HF2 : Hid (chkB p (some m) l = 2):=by show _ = _;rw [HF1.out,if_pos h2]
     go_enter Tryz.func25,Tryz.ntmps25
     go_wp2_with fail
     rw [← hW1]
     clear hW1
     refine CP.out.mono ?_
     rintro e w1 ⟨rfl,hg1⟩
     have hrc1:=hg1.cell hrc
     obtain ⟨bc,bf⟩:=HBX.out _ hg1
     have b0:=bc 0 _ rfl
     have b1:=bc 1 _ rfl
     have b2:=bc 2 _ rfl
     have f0:=bf 0
     have f1:=bf 1
     have f2:=bf 2
     clear bc bf
     go_wp2
     refine bodyPost_ret (v:=.tuple #[.agg #[.slice none 0 0,.pointer none,.slice none 0 0],.int .i64 _]) (by simp [results,Tryz.results25,go_sem,b0,b1,b2];rfl) rfl ?_
     exact MakePost.bad HC.out HF2.out.symm ((((Grows.trans _ _ _ HGA.out hg1).set (Nat.le_refl _) _).set (Nat.le_refl _) _).set (Nat.le_refl _) _)
    ·have h2i : ¬ (20000 : Int) < l.length:=by omega
     have HF2 : Hid (chkB p (some m) l = firstE p.length l):=by show _ = _;rw [HF1.out,if_neg h2]
     clear HF1
     go_enter Tryz.func25,Tryz.ntmps25
     go_wp2_with fail
     rw [← hW1]
     clear hW1
     refine CP.out.mono ?_
     rintro e w1 ⟨rfl,hg1⟩
     have hrc1:=hg1.cell hrc
     clear h2
     go_wp2_with fail
     clear h1 hrc1 hrc
     go_loopw [8] (fun i wr => ∃ (k : Nat),k ≤ l.length∧i = .int .i64 k∧Hid (firstE p.length (l.drop k) = firstE p.length l)∧Grows W1 wr) (fun i _ => l.length - (intOf i).toNat)
     case atStart => exact ⟨0,Nat.zero_le _,rfl,rfl,hg1⟩
     case round =>
      obtain ⟨k,hk,rfl,hF,hg⟩:=hrel
      by_cases hlt : k < l.length
      ·obtain ⟨⟨xr,xs,xl,xt,xc⟩,hx⟩ : ∃ x,l[k]? = some x:=⟨_,List.getElem?_eq_getElem hlt⟩
       obtain ⟨ba,oa,rfl,hca⟩:=(HAT.out.grows hg).get (ne_nil_of_lt hlt)
       have c0 : wr.cell? ⟨ba,oa + k * 5,none⟩ = some (.string xr):=hca k _ hx 0 _ rfl
       have c1 : wr.cell? ⟨ba,oa + k * 5 + 1,none⟩ = some (.string xs):=hca k _ hx 1 _ rfl
       have c2 : wr.cell? ⟨ba,oa + k * 5 + 2,none⟩ = some (.int .i64 xl):=hca k _ hx 2 _ rfl
       have c3 : wr.cell? ⟨ba,oa + k * 5 + 3,none⟩ = some (.int .i64 xt):=hca k _ hx 3 _ rfl
       have c4 : wr.cell? ⟨ba,oa + k * 5 + 4,none⟩ = some (.int .i64 xc):=hca k _ hx 4 _ rfl
       have hsz:=HS.out _ (List.mem_of_getElem? hx)
       simp only at hsz
       have CC:=fun W => Lib.hid (rcheck_any xr xs xl xt xc p.length W (by omega) (by omega))
       have HD:=firstE_drop (n:=p.length) hx
       rw [hF.out] at HD
       obtain ⟨f,hf⟩ : ∃ f,f = checkE ⟨xr,xs,xl,xt,xc⟩ p.length:=⟨_,rfl⟩
       rw [← hf] at HD
       have hff : checkS xr xs xl xt xc p.length = f:=hf.symm
       simp only [hff] at CC
       have HD:=Lib.hid HD
       clear hca hx hsz hf hff hF
       go_wp2_with fail
       refine (CC _).out.mono ?_
       rintro e w2 ⟨rfl,hg2⟩
       have hg3:=Grows.trans _ _ _ hg hg2
       by_cases hf0 : f = 0
       ·subst hf0
        have HX : Hid (firstE p.length (l.drop (k + 1)) = firstE p.length l):=by show _ = _;rw [HD.out,if_pos rfl]
        clear HD
        go_wp2_with fail
        go_roundw
        case rel => exact ⟨k + 1,by omega,by go_num,HX,hg3⟩
        case measure => simp [intOf];omega
       ·have hfb : (f != 0) = true:=by simpa using hf0
        obtain ⟨bc,bf⟩:=HBX.out _ hg3
        have b0:=bc 0 _ rfl
        have b1:=bc 1 _ rfl
        have b2:=bc 2 _ rfl
        have f0:=bf 0
        have f1:=bf 1
        have f2:=bf 2
        clear bc bf
        go_wp2_with fail
        refine bodyPost_ret (v:=.tuple #[.agg #[.slice none 0 0,.pointer none,.slice none 0 0],.int .i64 _]) (by simp [results,Tryz.results25,go_sem,b0,b1,b2];rfl) rfl ?_
        exact MakePost.bad HC.out (by rw [HF2.out,HD.out,if_neg hf0]) ((((Grows.trans _ _ _ HGA.out hg3).set (Nat.le_refl _) _).set (Nat.le_refl _) _).set (Nat.le_refl _) _)
      ·obtain rfl : k = l.length:=by omega
       have HX : firstE p.length l = 0:=by rw [← hF.out,List.drop_length];rfl
       exact absurd (HF2.out.trans HX) HC.out
   ·have HF2 : Hid (chkB p (some m) l = 5):=by show _ = _;rw [HF.out];simp [h1]
    clear HF
    go_enter Tryz.func25,Tryz.ntmps25
    go_wp2_with fail
    rw [← hW1]
    clear hW1
    refine CP.out.mono ?_
    rintro e w1 ⟨rfl,hg1⟩
    have hrc1:=hg1.cell hrc
    obtain ⟨bc,bf⟩:=HBX.out _ hg1
    have b0:=bc 0 _ rfl
    have b1:=bc 1 _ rfl
    have b2:=bc 2 _ rfl
    have f0:=bf 0
    have f1:=bf 1
    have f2:=bf 2
    clear bc bf
    go_wp2
    refine bodyPost_ret (v:=.tuple #[.agg #[.slice none 0 0,.pointer none,.slice none 0 0],.int .i64 _]) (by simp [results,Tryz.results25,go_sem,b0,b1,b2];rfl) rfl ?_
    exact MakePost.bad HC.out HF2.out.symm ((((Grows.trans _ _ _ HGA.out hg1).set (Nat.le_refl _) _).set (Nat.le_refl _) _).set (Nat.le_refl _) _)
set_option maxHeartbeats 4000000 in
set_option maxRecDepth 100000 in
theorem rmake_ok (p : List PosV) (rb : Nat) (m : Mx) (l : List En) (pa a : Option Addr) (pc c : Nat) (w : World) (hp : p.length ≤ 4611686018427387904) (hpn : ∀ x ∈ p, x.name.size ≤ 9223372036854775807) (hs : ∀ x ∈ l, x.r.size ≤ 1099511627776 ∧ x.s.size ≤ 1099511627776)
  (hpt : AtCells w pa 2 (p.map posCells)) (hr : RefAt w rb m) (hat : AtCells w a 5 (l.map enCells)) (hc : chkB p (some m) l = 0) :
  Calls Tryz.prog 25 #[.slice pa p.length pc,.pointer (some ⟨rb,0,none⟩),.slice a l.length c] w (MakePost p (.pointer (some ⟨rb,0,none⟩)) (some m) l pa pc w):=by
 obtain ⟨W1,hW1⟩ : ∃ W,W = w.alloc (.cells #[.slice none 0 0,.pointer none,.slice none 0 0] 62):=⟨_,rfl⟩
 have hgA : Grows w W1:=by rw [hW1];exact Grows.alloc _ _
 have HBL : Hid (w.heap.size < W1.heap.size):=by rw [hW1];show _ < _;simp
 have HBX : Hid (∀ w',Grows W1 w' → (∀ j v,(#[.slice none 0 0,.pointer none,.slice none 0 0] : Array Value)[j]? = some v → w'.cell? ⟨w.heap.size,j,none⟩ = some v)∧(∀ j,w'.frozen? ⟨w.heap.size,j,none⟩ = false)):=fun w' h => box_cells2 (by rw [← hW1];exact h)
 have HGA:=Lib.hid hgA
 have HAT:=Lib.hid (hat.grows hgA)
 have HS:=Lib.hid hs
 have HC:=Lib.hid hc
 obtain ⟨h1,h2,h3,h4⟩:=chkB_nums hc
 have CP:=Lib.hid (valid2_any p pa pc W1 (hpt.grows hgA) hp hpn)
 rw [h3] at CP
 have HK:=Lib.hid h4
 have hrc:=(hr.grows hgA).c0
 have h2i : ¬ (20000 : Int) < l.length:=by omega
 obtain ⟨es,hes⟩ : ∃ es,es = sortS l:=⟨_,rfl⟩
 have hel : es.length ≤ l.length:=by rw [hes];exact sortS_le l
 have HSZ : Hid (∀ x ∈ es,x.r.size ≤ 1099511627776∧x.s.size ≤ 1099511627776):=fun x hx => hs x (sortS_of (by rw [← hes];exact hx))
 have HES:=Lib.hid hes
 clear hat hs hpt hc h3 h4 hes hgA
 go_enter Tryz.func25,Tryz.ntmps25
 go_wp2_with fail
 rw [← hW1]
 clear hW1
 refine CP.out.mono ?_
 rintro e w1 ⟨rfl,hg1⟩
 have hrc1:=hg1.cell hrc
 go_wp2_with fail
 clear hrc hrc1 h1
 go_loopw [8] (fun i wr => ∃ (k : Nat),k ≤ l.length∧i = .int .i64 k∧Grows W1 wr) (fun i _ => l.length - (intOf i).toNat)
 case atStart => exact ⟨0,Nat.zero_le _,rfl,hg1⟩
 case round =>
  obtain ⟨k,hk,rfl,hg⟩:=hrel
  by_cases hlt : k < l.length
  ·obtain ⟨⟨xr,xs,xl,xt,xc⟩,hx⟩ : ∃ x,l[k]? = some x:=⟨_,List.getElem?_eq_getElem hlt⟩
   obtain ⟨ba,oa,rfl,hca⟩:=(HAT.out.grows hg).get (ne_nil_of_lt hlt)
   have c0 : wr.cell? ⟨ba,oa + k * 5,none⟩ = some (.string xr):=hca k _ hx 0 _ rfl
   have c1 : wr.cell? ⟨ba,oa + k * 5 + 1,none⟩ = some (.string xs):=hca k _ hx 1 _ rfl
   have c2 : wr.cell? ⟨ba,oa + k * 5 + 2,none⟩ = some (.int .i64 xl):=hca k _ hx 2 _ rfl
   have c3 : wr.cell? ⟨ba,oa + k * 5 + 3,none⟩ = some (.int .i64 xt):=hca k _ hx 3 _ rfl
   have c4 : wr.cell? ⟨ba,oa + k * 5 + 4,none⟩ = some (.int .i64 xc):=hca k _ hx 4 _ rfl
   have hsz:=HS.out _ (List.mem_of_getElem? hx)
   simp only at hsz
   have CC:=fun W => Lib.hid (rcheck_any xr xs xl xt xc p.length W (by omega) (by omega))
   have hff : checkS xr xs xl xt xc p.length = 0:=HK.out _ (List.mem_of_getElem? hx)
   simp only [hff] at CC
   clear hca hx hsz hff
   go_wp2_with fail
   refine (CC _).out.mono ?_
   rintro e w2 ⟨rfl,hg2⟩
   have hg3:=Grows.trans _ _ _ hg hg2
   go_wp2_with fail
   go_roundw
   case rel => exact ⟨k + 1,by omega,by go_num,hg3⟩
   case measure => simp [intOf];omega
  ·obtain rfl : k = l.length:=by omega
   go_wp2_with fail
   refine (rsort_any l a c wr (by omega) (HAT.out.grows hg)).mono ?_
   rintro e w2 ⟨sv,rfl,hown,hg2⟩
   rw [← HES.out] at hown
   obtain ⟨sa,sc,rfl,_,_,hsat⟩:=hown.at_ enCells_len
   have hge : ∀ q : Addr,sa = some q → some q.block ≠ some w.heap.size:=fun q hq => by
    have h1 : w.heap.size < W1.heap.size:=HBL.out
    have h2:=hg.size
    rcases hown.2 with ⟨e,_⟩ | ⟨g,cap,cur,e,hb,_⟩
    ·rw [hq] at e
     cases (Value.slice.inj e).1
    ·have e1:=(Value.slice.inj e).1
     rw [hq] at e1
     cases e1
     intro h3
     have:=Option.some.inj h3
     simp only at this
     omega
   have HGE:=Lib.hid hge
   obtain ⟨WD,hWD⟩ : ∃ W,W = w2.alloc (.cells #[.slice pa p.length pc,.pointer (some ⟨rb,0,none⟩),.slice sa es.length sc] 62):=⟨_,rfl⟩
   have hgD : Grows w2 WD:=by rw [hWD];exact Grows.alloc _ _
   have HD : Hid (∀ w',Grows WD w' → (∀ j v,(#[.slice pa p.length pc,.pointer (some ⟨rb,0,none⟩),.slice sa es.length sc] : Array Value)[j]? = some v → w'.cell? ⟨w2.heap.size,j,none⟩ = some v)∧(∀ j,w'.frozen? ⟨w2.heap.size,j,none⟩ = false)):=fun w' h => box_cells2 (by rw [← hWD];exact h)
   have hg02:=Grows.trans _ _ _ hg (Grows.trans _ _ _ hg2 hgD)
   have hsD:=hsat.grows hgD
   obtain ⟨db,hdb⟩ : ∃ b,b = w2.heap.size:=⟨_,rfl⟩
   clear hown hg2 hg hsat hge
   go_wp2_with fail
   rw [← hWD]
   clear hWD
   rw [← hdb] at HD ⊢
   clear hdb
   refine (rreadings_any es sa sc _ _ WD (by omega) hsD).mono ?_
   rintro e w3 ⟨hg3,rv,rfl,hrown⟩
   have hsat:=hsD
   have GD3:=Lib.hid hg3
   obtain ⟨ra,rc,rfl,_,_,hrat⟩:=hrown.at_ (k:=1) (fun x => (rfl : (stC x).length = 1))
   have hs3:=hsat.grows hg3
   have hg03:=Grows.trans _ _ _ hg02 hg3
   have hRL:=setB_le (es.map (·.r))
   rw [List.length_map] at hRL
   have hRS : ∀ s ∈ readL es,s.size ≤ 1099511627776:=fun s h => by
    obtain ⟨x,hx,rfl⟩:=List.mem_map.1 (setB_of h)
    exact (HSZ.out x hx).1
   clear hrown hg3 hsat
   go_wp2_with fail
   refine (rchk11_any (readL es) ra rc w3 (by unfold readL;omega) hRS hrat).mono ?_
   rintro e w4 ⟨rfl,hg4⟩
   have hs4:=hs3.grows hg4
   have hg04:=Grows.trans _ _ _ hg03 hg4
   have GD4:=Lib.hid (Grows.trans _ _ _ GD3.out hg4)
   obtain ⟨dc,_⟩:=HD.out _ GD4.out
   have d0:=dc 0 _ rfl
   have d1:=dc 1 _ rfl
   have d2:=dc 2 _ rfl
   clear hs3 hg03 hg4 hrat hRS dc
   by_cases hkR : chk11 (bls (readL es)) = 0
   ·rw [hkR]
    go_wp2_with fail
    refine (rsurfaces_any es sa sc _ _ w4 (by omega) hs4).mono ?_
    rintro e w5 ⟨hg5,uv,rfl,huown⟩
    obtain ⟨ua,uc,rfl,_,_,huat⟩:=huown.at_ (k:=1) (fun x => (rfl : (stC x).length = 1))
    have hs5:=hs4.grows hg5
    have GD5:=Lib.hid hg5
    clear d0 d1 d2
    have hg05:=Grows.trans _ _ _ hg04 hg5
    have hUL:=setB_le (es.map (·.s))
    rw [List.length_map] at hUL
    have hUS : ∀ s ∈ surfL es,s.size ≤ 1099511627776:=fun s h => by
     obtain ⟨x,hx,rfl⟩:=List.mem_map.1 (setB_of h)
     exact (HSZ.out x hx).2
    clear huown hg5 hs4
    go_wp2_with fail
    refine (rchk11_any (surfL es) ua uc w5 (by unfold surfL;omega) hUS huat).mono ?_
    rintro e w6 ⟨rfl,hg6⟩
    have hs6:=hs5.grows hg6
    have hg06:=Grows.trans _ _ _ hg05 hg6
    have GD6:=Lib.hid (Grows.trans _ _ _ GD4.out (Grows.trans _ _ _ GD5.out hg6))
    obtain ⟨dc,_⟩:=HD.out _ GD6.out
    have d0:=dc 0 _ rfl
    have d1:=dc 1 _ rfl
    have d2:=dc 2 _ rfl
    clear dc
    clear hs5 hg05 hg6 huat hUS
    by_cases hkS : chk11 (bls (surfL es)) = 0
    ·have HR2 : Hid (chk11 (bls (readL (sortS l))) = 0∧chk11 (bls (surfL (sortS l))) = 0):=by rw [← HES.out];exact ⟨hkR,hkS⟩
     rw [hkS]
     obtain ⟨bc,bf⟩:=HBX.out _ hg06
     have b0:=bc 0 _ rfl
     have b1:=bc 1 _ rfl
     have b2:=bc 2 _ rfl
     have f0:=bf 0
     have f1:=bf 1
     have f2:=bf 2
     clear bc bf
     go_wp2
     refine bodyPost_ret (v:=.tuple #[.agg #[.slice pa p.length pc,.pointer (some ⟨rb,0,none⟩),.slice sa es.length sc],.int .i64 0]) (by simp [results,Tryz.results25,go_sem,b0,b1,b2]) rfl ?_
     exact MakePost.good2 HES.out HC.out HR2.out ((((Grows.trans _ _ _ HGA.out hg06).set (Nat.le_refl _) _).set (Nat.le_refl _) _).set (Nat.le_refl _) _) (at_keep (at_keep (at_keep hs6 ((Grows.refl _).grownBy_set _ _ _) HGE.out) ((Grows.refl _).grownBy_set _ _ _) HGE.out) ((Grows.refl _).grownBy_set _ _ _) HGE.out)
    ·have HNS : Hid (¬ (chk11 (bls (readL (sortS l))) = 0∧chk11 (bls (surfL (sortS l))) = 0)):=by rw [← HES.out];exact fun h => hkS h.2
     have hfi : (chk11 (bls (surfL es)) : Int) ≠ 0:=by omega
     obtain ⟨f,hf⟩ : ∃ f : Int,f = chk11 (bls (surfL es)):=⟨_,rfl⟩
     rw [← hf] at hfi ⊢
     have hfb : (f != 0) = true:=by simpa using hfi
     clear hf hkS hfi
     obtain ⟨bc,bf⟩:=HBX.out _ hg06
     have b0:=bc 0 _ rfl
     have b1:=bc 1 _ rfl
     have b2:=bc 2 _ rfl
     have f0:=bf 0
     have f1:=bf 1
     have f2:=bf 2
     clear bc bf
     go_wp2
     refine bodyPost_ret (v:=.tuple #[.agg #[.slice none 0 0,.pointer none,.slice none 0 0],.int .i64 _]) (by simp [results,Tryz.results25,go_sem,b0,b1,b2];rfl) rfl ?_
     exact MakePost.long HC.out HNS.out ((((Grows.trans _ _ _ HGA.out hg06).set (Nat.le_refl _) _).set (Nat.le_refl _) _).set (Nat.le_refl _) _)
   ·have HNS : Hid (¬ (chk11 (bls (readL (sortS l))) = 0∧chk11 (bls (surfL (sortS l))) = 0)):=by rw [← HES.out];exact fun h => hkR h.1
    have hfi : (chk11 (bls (readL es)) : Int) ≠ 0:=by omega
    obtain ⟨f,hf⟩ : ∃ f : Int,f = chk11 (bls (readL es)):=⟨_,rfl⟩
    rw [← hf] at hfi ⊢
    have hfb : (f != 0) = true:=by simpa using hfi
    clear hf hkR hfi
    obtain ⟨bc,bf⟩:=HBX.out _ hg04
    have b0:=bc 0 _ rfl
    have b1:=bc 1 _ rfl
    have b2:=bc 2 _ rfl
    have f0:=bf 0
    have f1:=bf 1
    have f2:=bf 2
    clear bc bf
    go_wp2
    refine bodyPost_ret (v:=.tuple #[.agg #[.slice none 0 0,.pointer none,.slice none 0 0],.int .i64 _]) (by simp [results,Tryz.results25,go_sem,b0,b1,b2];rfl) rfl ?_
    exact MakePost.long HC.out HNS.out ((((Grows.trans _ _ _ HGA.out hg04).set (Nat.le_refl _) _).set (Nat.le_refl _) _).set (Nat.le_refl _) _)
end Go.Proofs.YtepoiefadjoabaaGreatDoor
namespace Go.Proofs.YtepoiefadjoabaaGreatDoor
open Go Go.RowKit
theorem parts_cells (P : List PartV) (w : World) (T : TypeId) (hl : P.length ≤ 1000000) : AtCells (w.alloc (.cells (P.flatMap partC).toArray T)) (some ⟨w.heap.size, 0, none⟩) 2 (P.map partC) := by
 have h:=owns_box (enc:=partC) (k:=2) (fun _ => rfl) (w:=w) (e:=T) (base:=w.heap.size) (n:=P.length) (Nat.le_refl _) P (cs:=(P.flatMap partC).toArray) (by simp) rfl (by unfold maxLen;omega)
 obtain ⟨a,c,e,_,_,hat⟩:=h.at_ (k:=2) (fun _ => rfl)
 have e1:=(Value.slice.inj e).1
 rw [e1]
 exact hat
def bare (p : PartV) : PartV := ⟨p.name, p.data, none, 0⟩
theorem sum14_bare (P : List PartV) : sum14 (P.map bare) = sum14 P := by simp [sum14, bare, List.map_map, Function.comp_def]
theorem body14_bare (P : List PartV) : body14 (P.map bare) = body14 P := by
 simp [body14,head14,data14,bare,List.flatMap_map]
theorem file14_bare (P : List PartV) : file14 (P.map bare) = file14 P := by unfold file14; rw [body14_bare]
theorem dup14_bare : ∀ (P : List PartV) (seen : List ByteArray), dup14 (P.map bare) seen = dup14 P seen
 | [],_ => rfl
 | p :: P,seen => by
  rw [List.map_cons,dup14,dup14,dup14_bare P]
  rfl
theorem chk14_bare (P : List PartV) : chk14 (P.map bare) = chk14 P := by
 unfold chk14 dupL
 rw [sum14_bare,List.length_map,dup14_bare,List.any_map]
 rfl
theorem own_part {W : World} {base : Nat} {v : Value} {data : List UInt8} (h : Owns W base 5 1 byteC v data) : ∃ a c, v = .slice a data.length c ∧ AtCells W a 1 (data.map byteC) ∧ (a = none → c = 0) := by
 obtain ⟨a,c,rfl,_,_,hat⟩:=h.at_ (k:=1) (fun x => (rfl : (byteC x).length = 1))
 refine ⟨a,c,rfl,hat,fun ha => ?_⟩
 rcases h.2 with ⟨e,_⟩ | ⟨g,cap,cur,hv,_⟩
 ·exact (Value.slice.inj e).2.2
 ·rw [ha] at hv
  cases (Value.slice.inj hv).1
end Go.Proofs.YtepoiefadjoabaaGreatDoor
