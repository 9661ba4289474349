/- The texts Pk PkN PkE PkG Bnum, one behind the other. -/
import Derived.Test.YtepoiefadjoabaaGreatDoorH21
import Derived.Test.YtepoiefadjoabaaGreatDoorShelf
import Derived.Laws.OwnMore
import Derived.OwnWalk
import Derived.Laws.MakeOwn
import Derived.Laws.BitsAllLaws
namespace Go.Proofs.YtepoiefadjoabaaGreatDoor
open Go Go.RowKit
attribute [local go_sem] quietE quietE2
theorem flat_one {α : Type} (f : α → Value) (xs : List α) : xs.flatMap (fun x => [f x]) = xs.map f := by
 induction xs with
 | nil => rfl
 | cons x xs ih => rw [List.flatMap_cons,ih];rfl
theorem owns_set1 {α : Type} {f : α → Value} {w : World} {base g n c k : Nat} {e : TypeId} {xs : List α} (h : Owns w base e 1 (fun x => [f x]) (.slice (some ⟨g, 0, none⟩) n c) xs) (hk : k < xs.length) (y : α) :
  w.frozen? ⟨g,k,none⟩ = false∧base ≤ g∧Owns (w.setCell ⟨g,k,none⟩ (f y)) base e 1 (fun x => [f x]) (.slice (some ⟨g,0,none⟩) n c) (xs.set k y):=by
 rcases h.2 with ⟨h1,_⟩ | ⟨g',cap,cur,hv,hb,hh,hn,hc,hs,ht⟩
 ·cases h1
 ·have e1:=(Value.slice.inj hv).1
  have e2:=(Value.slice.inj hv).2.1
  obtain rfl : g = g':=congrArg Addr.block (Option.some.inj e1)
  have hkc : k < cur.size:=by omega
  refine ⟨by simp [World.frozen?,hh],hb, ?_⟩
  have hl : (xs.set k y).length = xs.length:=List.length_set
  have hf : (xs.set k y).flatMap (fun x => [f x]) = (xs.flatMap (fun x => [f x])).set k (f y):=by
   rw [flat_one,flat_one,List.map_set]
  unfold Owns
  rw [hl]
  refine ⟨by rw [hf,List.length_set];exact h.1,Or.inr ⟨g,cap,cur.setIfInBounds k (f y),hv,hb,heap_setCell_same w g k cur _ _ hh,hn,hc,by simpa using hs, ?_⟩⟩
  rw [hf,← ht,Array.toList_setIfInBounds,List.take_set]
theorem own_cell1 {α : Type} {f : α → Value} {w : World} {base g n c k : Nat} {e : TypeId} {xs : List α} {x : α} (h : Owns w base e 1 (fun x => [f x]) (.slice (some ⟨g, 0, none⟩) n c) xs) (hx : xs[k]? = some x) : w.cell? ⟨g, k, none⟩ = some (f x) := by
 obtain ⟨a,c2,he,_,_,hat⟩:=Owns.at_ (enc:=fun x => [f x]) (fun _ => rfl) h
 simp only [Value.slice.injEq] at he
 rw [← he.1] at hat
 obtain ⟨b1,o1,he1,hcells⟩:=at1 (f:=f) hat (ne_nil_of_lt (List.getElem?_eq_some_iff.1 hx).1)
 obtain ⟨rfl,rfl⟩ : g = b1∧0 = o1:=by simpa using he1
 have:=hcells k x hx
 rwa [Nat.zero_add] at this
def wordsP (l : List Nat) (W q : Nat) : List Nat := (List.range q).map (packW l W)
theorem wordsP_len (l : List Nat) (W q : Nat) : (wordsP l W q).length = q := by simp [wordsP]
theorem wordsP_get {l : List Nat} {W q k : Nat} (h : k < q) : (wordsP l W q)[k]? = some (packW l W k) := by
 unfold wordsP
 rw [List.getElem?_map,List.getElem?_range h];rfl
theorem wordsP_one {l : List Nat} {W v q Q S : Nat} (hW : 0 < W) (hW64 : W ≤ 64) (hv : v < 2 ^ W) (hS : S < 64) (hQ : l.length * W = 64 * Q + S) (hfit : S + W ≤ 64) : wordsP (l ++ [v]) W q = (wordsP l W q).set Q (packW l W Q ||| (v <<< S) % 18446744073709551616) := by
 apply List.ext_getElem?
 intro k
 by_cases hk : k < q
 ·rw [wordsP_get hk]
  by_cases hkQ : k = Q
  ·subst hkQ
   rw [List.getElem?_set_self (by rw [wordsP_len];exact hk),packW_set hW hv hQ]
  ·rw [List.getElem?_set_ne (Ne.symm hkQ),wordsP_get hk,packW_same hW hv hS hQ hkQ (fun _ => hfit) hW64]
 ·rw [List.getElem?_eq_none (by rw [wordsP_len];omega),List.getElem?_eq_none (by rw [List.length_set,wordsP_len];omega)]
theorem wordsP_two {l : List Nat} {W v q Q S : Nat} (hW : 0 < W) (hW64 : W ≤ 64) (hv : v < 2 ^ W) (hS : S < 64) (hQ : l.length * W = 64 * Q + S) (_ : 64 < S + W) (hQ1 : Q + 1 < q) :
  wordsP (l ++ [v]) W q = ((wordsP l W q).set Q (packW l W Q ||| (v <<< S) % 18446744073709551616)).set (Q + 1) (packW l W (Q + 1) ||| v >>> (64 - S)):=by
 apply List.ext_getElem?
 intro k
 by_cases hk : k < q
 ·rw [wordsP_get hk]
  by_cases hkQ1 : k = Q + 1
  ·subst hkQ1
   rw [List.getElem?_set_self (by rw [List.length_set,wordsP_len];exact hk),packW_next hW hv hW64 hS hQ]
  ·rw [List.getElem?_set_ne (Ne.symm hkQ1)]
   by_cases hkQ : k = Q
   ·subst hkQ
    rw [List.getElem?_set_self (by rw [wordsP_len];exact hk),packW_set hW hv hQ]
   ·rw [List.getElem?_set_ne (Ne.symm hkQ),wordsP_get hk,packW_same hW hv hS hQ hkQ (fun h => absurd h hkQ1) hW64]
 ·rw [List.getElem?_eq_none (by rw [wordsP_len];omega),List.getElem?_eq_none (by rw [List.length_set,List.length_set,wordsP_len];omega)]
theorem shl_or {x v S : Nat} (hx : x < 18446744073709551616) : bits .or .u64 (x : Int) (IntKind.u64.wrap ((v : Int) * 2 ^ S)) = ((x ||| (v <<< S) % 18446744073709551616 : Nat) : Int) := by
 have h1 : IntKind.u64.wrap ((v : Int) * 2 ^ S) = ((v <<< S % 18446744073709551616 : Nat) : Int):=by
  rw [Nat.shiftLeft_eq,show (v : Int) * 2 ^ S = ((v * 2 ^ S : Nat) : Int) by push_cast;rfl]
  generalize v * 2 ^ S = N
  simp [IntKind.wrap,IntKind.bits,IntKind.signed]
 rw [h1]
 exact u64_or_nat x _ hx (Nat.mod_lt _ (by decide))
theorem shr_or {x v T : Nat} (hx : x < 18446744073709551616) (hv : v < 18446744073709551616) : bits .or .u64 (x : Int) ((v : Int) / 2 ^ T) = ((x ||| v >>> T : Nat) : Int) := by
 rw [int_shr]
 exact u64_or_nat x _ hx (Nat.lt_of_le_of_lt (by rw [Nat.shiftRight_eq_div_pow];exact Nat.div_le_self _ _) hv)
set_option maxHeartbeats 8000000 in
set_option maxRecDepth 100000 in
theorem pset_any (pb wb q W v i base : Nat) (pre : List Nat) (w : World) (hW0 : 0 < W) (hW : W ≤ 64) (hi : i = pre.length) (hi2 : i ≤ 1048576) (hv : v < 2 ^ W) (hfit : (i + 1) * W ≤ 64 * q) (hq : q ≤ 1048576)
  (c1 : w.cell? ⟨pb,1,none⟩ = some (.int .i64 W)) (c2 : w.cell? ⟨pb,2,none⟩ = some (.slice (some ⟨wb,0,none⟩) q q)) (hpw : pb < wb) (hown : Owns w base 116 1 n64C (.slice (some ⟨wb,0,none⟩) q q) (wordsP pre W q)) :
  Calls Tryz.prog 140 #[.pointer (some ⟨pb,0,none⟩),.int .i64 i,.int .u64 v] w fun e w' => e = .returned (.tuple #[])∧Owns w' base 116 1 n64C (.slice (some ⟨wb,0,none⟩) q q) (wordsP (pre ++ [v]) W q)∧EB wb w w':=by
 obtain ⟨M,hM⟩ : ∃ M,M = i * W:=⟨_,rfl⟩
 obtain ⟨Q,hQ⟩ : ∃ Q,Q = M / 64:=⟨_,rfl⟩
 obtain ⟨S,hS⟩ : ∃ S,S = M % 64:=⟨_,rfl⟩
 have hMb : M ≤ 1048576 * 64:=by rw [hM];exact Nat.mul_le_mul hi2 hW
 have hMq : M + W ≤ 64 * q:=by rw [hM];rw [Nat.succ_mul] at hfit;exact hfit
 have hQS : pre.length * W = 64 * Q + S:=by rw [← hi,← hM];omega
 have hS64 : S < 64:=by omega
 have hQq : Q < q:=by omega
 have hv64 : v < 18446744073709551616:=Nat.lt_of_lt_of_le hv (Nat.pow_le_pow_right (n:=2) (by decide) hW)
 have wM : IntKind.i64.wrap ((i : Int) * W) = M:=by
  have h1 : (i : Int) * W = M:=by rw [hM];push_cast;rfl
  rw [h1];simp [IntKind.wrap,IntKind.bits,IntKind.signed];omega
 have eQ : (M : Int) / 64 = Q:=by omega
 have eS : (M : Int) % 64 = S:=by omega
 obtain ⟨x,hx⟩ : ∃ x,x = packW pre W Q:=⟨_,rfl⟩
 have hx64 : x < 18446744073709551616:=by rw [hx];exact packW_lt pre W Q
 have d1 : w.cell? ⟨wb,Q,none⟩ = some (.int .u64 x):=own_cell1 (f:=fun n : Nat => Value.int .u64 n) hown (by rw [wordsP_get hQq,hx])
 obtain ⟨f1,_,hown1⟩:=owns_set1 (f:=fun n : Nat => Value.int .u64 n) (hown.grows (Grows.drew w)) (k:=Q) (by rw [wordsP_len];exact hQq) (x ||| (v <<< S) % 18446744073709551616)
 have HWB:=Lib.hid (Nat.le_of_lt (World.block_lt_of_cell? w _ d1))
 have hor:=shl_or (v:=v) (S:=S) hx64
 obtain ⟨x1,hx1⟩ : ∃ x1,x1 = x ||| (v <<< S) % 18446744073709551616:=⟨_,rfl⟩
 rw [← hx1] at hor hown1
 have hne : pb ≠ wb:=by omega
 have z1 : ∀ y : Ext Grows w.drew,y.u.cell? ⟨pb,1,none⟩ = some (.int .i64 W):=ext_cell ((Grows.drew w).cell c1)
 have hb1 : (W : Int) ≠ 0:=by omega
 have hQi : (Q : Int) < q:=by omega
 have g1 : ∀ u,(w.drew.setCell ⟨wb,Q,none⟩ u).cell? ⟨pb,1,none⟩ = some (.int .i64 W):=fun u => (World.cell?_setCell_other _ _ _ _ (fun h => hne (congrArg Addr.block h).symm)).trans c1
 have g2 : ∀ u,(w.drew.setCell ⟨wb,Q,none⟩ u).cell? ⟨pb,2,none⟩ = some (.slice (some ⟨wb,0,none⟩) q q):=fun u => (World.cell?_setCell_other _ _ _ _ (fun h => hne (congrArg Addr.block h).symm)).trans c2
 have hwSW : IntKind.i64.wrap ((S : Int) + W) = (S : Int) + W:=by simp [IntKind.wrap,IntKind.bits,IntKind.signed];omega
 by_cases hfit1 : S + W ≤ 64
 ·have hsw : ¬ (64 : Int) < (S : Int) + W:=by omega
  have HF : Hid (wordsP (pre ++ [v]) W q = (wordsP pre W q).set Q x1):=by show _ = _;rw [wordsP_one hW0 hW hv hS64 hQS hfit1,hx1,hx]
  have HO:=Lib.hid hown1
  clear hM hQ hS hQS hx hx1 hown1 hown hfit hMq hi hv
  go_enter Tryz.func140,Tryz.ntmps140
  go_wp2_with fail
  refine t_region (Grows) [(0,false),(1,false),(2,false),(3,false),(4,false),(5,false),(6,false),(7,false),(8,false),(9,false),(10,false),(11,false),(12,false),(13,false),(14,false),(15,false),(16,false)] Grows.refl Grows.trans (by kernel_rfl) (by kernel_rfl) (fun d _ _ _ _ h => by cases d <;> exact h) ?_
  iterate 17 (refine t_quiet rfl (fun K hK => ?_);go_simp;refine hK _ ?_;clear hK K)
  refine t_end ?_
  clear z1
  go_wp2_with fail
  refine bodyPost_end (v:=.tuple #[]) (by simp [results,Tryz.results140,go_sem]) rfl ⟨rfl, ?_, ?_⟩
  ·rw [HF.out]
   exact HO.out
  ·exact EB.trans _ _ _ _ (EB.of (Grows.drew w) HWB.out) ⟨(Below.refl wb w.drew).setCell (p:=⟨wb,Q,none⟩) (Nat.le_refl wb) _,by simp⟩
 ·have hfit1 : 64 < S + W:=by omega
  have hsw : (64 : Int) < (S : Int) + W:=by omega
  have hQ1 : Q + 1 < q:=by omega
  have hQ1i : (Q : Int) + 1 < q:=by omega
  obtain ⟨y,hy⟩ : ∃ y,y = packW pre W (Q + 1):=⟨_,rfl⟩
  have hy64 : y < 18446744073709551616:=by rw [hy];exact packW_lt pre W _
  have hYg : ((wordsP pre W q).set Q x1)[Q + 1]? = some y:=by rw [List.getElem?_set_ne (by omega),wordsP_get hQ1,hy]
  have e1:=own_cell1 (f:=fun n : Nat => Value.int .u64 n) hown (k:=Q + 1) (x:=y) (by rw [wordsP_get hQ1,hy])
  obtain ⟨f3,_,_⟩:=owns_set1 (f:=fun n : Nat => Value.int .u64 n) hown (k:=Q + 1) (by rw [wordsP_len];exact hQ1) y
  obtain ⟨f2,_,hown2⟩:=owns_set1 (f:=fun n : Nat => Value.int .u64 n) hown1 (k:=Q + 1) (by rw [List.length_set,wordsP_len];exact hQ1) (y ||| v >>> (64 - S))
  have hor2:=shr_or (x:=y) (v:=v) (T:=64 - S) hy64 hv64
  obtain ⟨y1,hy1⟩ : ∃ y1,y1 = y ||| v >>> (64 - S):=⟨_,rfl⟩
  rw [← hy1] at hor2 hown2
  have hT : (64 : Int) - S = ((64 - S : Nat) : Int):=by omega
  have hTw : IntKind.u64.wrap ((64 - S : Nat) : Int) = ((64 - S : Nat) : Int):=by simp [IntKind.wrap,IntKind.bits,IntKind.signed];omega
  have HF : Hid (wordsP (pre ++ [v]) W q = ((wordsP pre W q).set Q x1).set (Q + 1) y1):=by show _ = _;rw [wordsP_two hW0 hW hv hS64 hQS hfit1 hQ1,hx1,hx,hy1,hy]
  have HO:=Lib.hid hown2
  clear hM hQ hS hQS hx hx1 hown1 hown hfit hMq hi hv hy hy1 hown2 hYg
  go_enter Tryz.func140,Tryz.ntmps140
  go_wp2_with fail
  refine t_region (Grows) [(0,false),(1,false),(2,false),(3,false),(4,false),(5,false),(6,false),(7,false),(8,false),(9,false),(10,false),(11,false),(12,false),(13,false),(14,false),(15,false),(16,false)] Grows.refl Grows.trans (by kernel_rfl) (by kernel_rfl) (fun d _ _ _ _ h => by cases d <;> exact h) ?_
  iterate 17 (refine t_quiet rfl (fun K hK => ?_);go_simp;refine hK _ ?_;clear hK K)
  refine t_end ?_
  clear z1
  go_wp2_with fail
  refine bodyPost_end (v:=.tuple #[]) (by simp [results,Tryz.results140,go_sem]) rfl ⟨rfl, ?_, ?_⟩
  ·rw [HF.out]
   exact HO.out
  ·exact EB.trans _ _ _ _ (EB.of (Grows.drew w) HWB.out) ⟨((Below.refl wb w.drew).setCell (p:=⟨wb,Q,none⟩) (Nat.le_refl wb) _).setCell (p:=⟨wb,Q + 1,none⟩) (Nat.le_refl wb) _,by simp⟩
end Go.Proofs.YtepoiefadjoabaaGreatDoor
namespace Go.Proofs.YtepoiefadjoabaaGreatDoor
open Go Go.RowKit
attribute [local go_sem] quietE quietE2
theorem bitLen_half {x : Nat} (h : x ≠ 0) : bitLen x = 1 + bitLen (x / 2) := by
 unfold bitLen
 rw [if_neg h]
 by_cases h1 : x = 1
 ·subst h1;rfl
 ·rw [if_neg (by omega),Nat.log2_def,if_pos (by omega)]
  omega
theorem bitLen_lib : ∀ (f x : Nat), x < 2 ^ f → Lib.bitLenAux f x = bitLen x
 | 0,x,h => by
  obtain rfl : x = 0:=by simpa using h
  rfl
 | f + 1,x,h => by
  rw [Lib.bitLenAux]
  by_cases hx : x = 0
  ·subst hx;rfl
  ·rw [if_neg hx,bitLen_half hx,bitLen_lib f (x / 2) (by rw [Nat.pow_succ] at h;omega)]
theorem len64_any (x : Nat) (w : World) (hx : x < 18446744073709551616) : Calls Tryz.prog 139 #[.int .u64 x] w fun e w' => e = .returned (.int .i64 (bitLen x)) ∧ w = w' := by
 refine (Tryz.bits_Len64 x w (by omega) (by omega)).mono ?_
 rintro e w1 ⟨rfl,rfl⟩
 exact ⟨by rw [Int.toNat_natCast];unfold Lib.bitLen;rw [bitLen_lib 64 x hx],rfl⟩
theorem n64Info : ∃ i, Tryz.prog.info? 116 = some i ∧ i.zero = some (.int .u64 0) ∧ i.size = 1 ∧ i.bytes = 8 := by
 obtain ⟨i,z,h1,h2,h3,h4,_⟩:=n64Lay.info
 have h : (Tryz.prog.info? 116).map (fun i => i.zero) = some (some (.int .u64 0)):=by kernel_rfl
 rw [h1] at h
 exact ⟨i,h1,by simpa using h,h3,h4⟩
theorem mk64 (n : Nat) (W : World) (hn : n ≤ 1048576) : (Instr.makeSlice 125 (.int .i64 n) (.int .i64 n)).run Tryz.prog W = .ok (.slice (some ⟨W.heap.size, 0, none⟩) n n) (W.alloc (.cells (madeCells #[.int .u64 0] (n * 1)) 116)) := by
 obtain ⟨i,h1,h2,h3,h4⟩:=n64Info
 have h:=run_make (P:=Tryz.prog) W 125 116 i (.int .u64 0) Tryz.underlying125 h1 h2 .i64 .i64 n n (by omega) (Int.le_refl _) (by rw [h4];omega) (by omega)
 rw [Int.toNat_natCast,h3] at h
 exact h
theorem made64 {w : World} {n : Nat} (hn : n ≤ 1048576) : Owns (w.alloc (.cells (madeCells #[.int .u64 0] (n * 1)) 116)) w.heap.size 116 1 n64C (.slice (some ⟨w.heap.size, 0, none⟩) n n) (List.replicate n 0) :=
 owns_box (enc:=n64C) (fun _ => rfl) (Nat.le_refl _) (List.replicate n 0) (by
  rw [toList_madeCells_one,Nat.mul_one]
  unfold n64C
  rw [flat_one,List.map_replicate]
  rfl) (by simp) (by unfold maxLen;omega)
theorem wordsP_nil (W q : Nat) : wordsP [] W q = List.replicate q 0 := by
 unfold wordsP
 apply List.ext_getElem?
 intro k
 by_cases hk : k < q
 ·rw [List.getElem?_map,List.getElem?_range hk,List.getElem?_replicate,if_pos hk]
  simp [packW_nil]
 ·rw [List.getElem?_eq_none (by simp;omega),List.getElem?_eq_none (by simp;omega)]
theorem wordsP_zero {l : List Nat} {v q : Nat} (h : ∀ n ∈ l ++ [v], n < 2 ^ 0) : wordsP (l ++ [v]) 0 q = wordsP l 0 q := by
 unfold wordsP
 apply List.map_congr_left
 intro k _
 rw [packW_zero _ k h,packW_zero l k (fun n hn => h n (by simp [hn]))]
set_option maxHeartbeats 1000000 in
theorem pset0_any (pb i v : Nat) (w : World) (c1 : w.cell? ⟨pb, 1, none⟩ = some (.int .i64 0)) :
  Calls Tryz.prog 140 #[.pointer (some ⟨pb,0,none⟩),.int .i64 i,.int .u64 v] w fun e w' => e = .returned (.tuple #[])∧w = w':=by
 go_enter Tryz.func140,Tryz.ntmps140
 go_wp2_with fail
 refine bodyPost_ret (v:=.tuple #[]) (by simp [results,Tryz.results140,go_sem]) rfl ⟨rfl,rfl⟩
theorem box_froz (w : World) (cs : Array Value) (t : TypeId) (j : Nat) : (w.alloc (.cells cs t)).frozen? ⟨w.heap.size, j, none⟩ = false := by
 have h : (w.alloc (.cells cs t)).heap[w.heap.size]? = some (.cells cs t):=heap_alloc_new w _
 unfold World.frozen?
 simp only [h]
 simp
theorem owns_setLo {α : Type} {w : World} {base : Nat} {e : TypeId} {k : Nat} {enc : α → List Value} {v : Value} {xs : List α} (h : Owns w base e k enc v xs) {p : Addr} (hp : p.block < base) (u : Value) : Owns (w.setCell p u) base e k enc v xs := by
 obtain ⟨h1,h2⟩:=h
 refine ⟨h1, ?_⟩
 rcases h2 with h2 | ⟨g,cap,cur,hv,hb,hh,r⟩
 ·exact Or.inl h2
 ·refine Or.inr ⟨g,cap,cur,hv,hb, ?_,r⟩
  rw [heap_setCell_other w p g u (by omega)]
  exact hh
structure PkAt (w : World) (pb : Nat) (l : List Nat) : Prop where
 c0 : w.cell? ⟨pb,0,none⟩ = some (.int .i64 l.length)
 c1 : w.cell? ⟨pb,1,none⟩ = some (.int .i64 (widL l))
 c2 : ∃ wb,pb < wb∧w.cell? ⟨pb,2,none⟩ = some (.slice (some ⟨wb,0,none⟩) ((l.length * widL l + 63) / 64) ((l.length * widL l + 63) / 64))∧Owns w wb 116 1 n64C (.slice (some ⟨wb,0,none⟩) ((l.length * widL l + 63) / 64) ((l.length * widL l + 63) / 64)) (wordsP l (widL l) ((l.length * widL l + 63) / 64))
theorem PkAt.grows {w w' : World} {pb : Nat} {l : List Nat} (h : PkAt w pb l) (hg : Grows w w') : PkAt w' pb l := by
 obtain ⟨wb,h1,h2,h3⟩:=h.c2
 exact ⟨hg.cell h.c0,hg.cell h.c1,wb,h1,hg.cell h2,h3.grows hg⟩
theorem orAll_take {l : List Nat} {k v : Nat} (h : l[k]? = some v) : orAll (l.take (k + 1)) = orAll (l.take k) ||| v := by rw [takeSnoc h, orAll_snoc]
set_option maxHeartbeats 8000000 in
set_option maxRecDepth 100000 in
theorem pnew_any (l : List Nat) (a : Option Addr) (c : Nat) (w : World) (hl : l.length ≤ 1048576) (hn : ∀ n ∈ l, n < 18446744073709551616) (hat : AtCells w a 1 (l.map n64C)) :
  Calls Tryz.prog 87 #[.slice a l.length c] w fun e w' => e = .returned (.tuple #[.pointer (some ⟨w.heap.size,0,none⟩),.int .i64 0])∧PkAt w' w.heap.size l∧Grows w w':=by
 have HAT:=Lib.hid hat
 have HN:=Lib.hid hn
 have hW64 : widL l ≤ 64:=widL_le.2 hn
 obtain ⟨W,hWe⟩ : ∃ W,W = widL l:=⟨_,rfl⟩
 rw [← hWe] at hW64
 have HW:=Lib.hid hWe
 obtain ⟨q,hq⟩ : ∃ q,q = (l.length * W + 63) / 64:=⟨_,rfl⟩
 have hLW : l.length * W ≤ 1048576 * 64:=Nat.mul_le_mul hl hW64
 have hqb : q ≤ 1048576:=by omega
 have HQ:=Lib.hid hq
 have hlw : ¬ (1048576 : Int) < l.length:=by omega
 clear hat hn hWe hq
 go_enter Tryz.func87,Tryz.ntmps87
 go_wp2_with fail
 go_loop [4,15] (fun v i => ∃ k V : Nat,k ≤ l.length∧i = .int .i64 k∧v = .int .u64 V∧V < 18446744073709551616∧Hid (V = orAll (l.take k))) (fun _ i => l.length - (intOf i).toNat)
 case atStart => exact ⟨0,0,Nat.zero_le _,rfl,rfl,by decide,rfl⟩
 case round =>
  obtain ⟨k,V,hk,rfl,rfl,hV,hinv⟩:=hrel
  by_cases hlt : k < l.length
  ·obtain ⟨x,hx⟩ : ∃ x,l[k]? = some x:=⟨_,List.getElem?_eq_getElem hlt⟩
   obtain ⟨b,o,rfl,hc⟩:=at1 HAT.out (ne_nil_of_lt hlt)
   have hcx:=hc k x hx
   have hx64:=HN.out x (List.mem_of_getElem? hx)
   have HI : Hid (V ||| x = orAll (l.take (k + 1))):=by show _ = _;rw [orAll_take hx,← hinv.out]
   have hor:=u64_or_nat V x hV hx64
   have hol : V ||| x < 18446744073709551616:=Nat.or_lt_two_pow (n:=64) hV hx64
   clear hc hx hinv
   go_wp2_with fail
   go_round
   case rel => exact ⟨k + 1,V ||| x,hlt,by go_num,rfl,hol,HI.out⟩
   case measure => simp [intOf];omega
  ·have hke : k = l.length:=by omega
   have hki : ¬ (k : Int) < l.length:=by omega
   have hbl : bitLen V = W:=by rw [hinv.out,hke,List.take_length,HW.out];rfl
   have CL:=len64_any V w hV
   rw [hbl] at CL
   clear hinv hke hbl
   go_wp2_with fail
   refine CL.mono ?_
   rintro e w1 ⟨rfl,rfl⟩
   go_wp2_with fail
   obtain ⟨WB,hWB⟩ : ∃ WB,WB = w.alloc (.cells #[.int .i64 l.length,.int .i64 W,.slice none 0 0] 183):=⟨_,rfl⟩
   have b0 : WB.cell? ⟨w.heap.size,0,none⟩ = some (.int .i64 l.length):=by rw [hWB];exact cell_box w _ _ (0,0) 0 _ rfl
   have b1 : WB.cell? ⟨w.heap.size,1,none⟩ = some (.int .i64 W):=by rw [hWB];exact cell_box w _ _ (0,0) 1 _ rfl
   have b2 : WB.cell? ⟨w.heap.size,2,none⟩ = some (.slice none 0 0):=by rw [hWB];exact cell_box w _ _ (0,0) 2 _ rfl
   have bf : WB.frozen? ⟨w.heap.size,2,none⟩ = false:=by rw [hWB];exact (box_froz w _ _ 2)
   have hgB : Grows w WB:=by rw [hWB];exact Grows.alloc _ _
   have hsz : WB.heap.size = w.heap.size + 1:=by rw [hWB];simp
   rw [← hWB]
   clear hWB CL
   obtain ⟨M,hM⟩ : ∃ M,M = l.length * W:=⟨_,rfl⟩
   have hMb : M ≤ 1048576 * 64:=by rw [hM];exact hLW
   have hqM : (M + 63) / 64 = q:=by rw [hM];exact HQ.out.symm
   have wM : IntKind.i64.wrap ((l.length : Int) * W) = M:=by
    have h1 : (l.length : Int) * W = M:=by rw [hM];push_cast;rfl
    rw [h1];simp [IntKind.wrap,IntKind.bits,IntKind.signed];omega
   have wM2 : IntKind.i64.wrap ((M : Int) + 63) = (M : Int) + 63:=by simp [IntKind.wrap,IntKind.bits,IntKind.signed];omega
   have eq1 : ((M : Int) + 63) / 64 = q:=by omega
   have eq2 : ((M : Int) + 63).tdiv 64 = q:=by rw [Int.tdiv_eq_ediv_of_nonneg (by omega)];exact eq1
   have z0 : ∀ y : Ext Grows WB.drew,y.u.cell? ⟨w.heap.size,0,none⟩ = some (.int .i64 l.length):=ext_cell ((Grows.drew WB).cell b0)
   have z1 : ∀ y : Ext Grows WB.drew,y.u.cell? ⟨w.heap.size,1,none⟩ = some (.int .i64 W):=ext_cell ((Grows.drew WB).cell b1)
   have wq : IntKind.i64.wrap (q : Int) = q:=by simp [IntKind.wrap,IntKind.bits,IntKind.signed];omega
   have hmk:=fun (Y : World) => mk64 q Y hqb
   clear hLW hM
   refine t_tail (Grows) 13 [(0,false),(1,false),(2,false),(3,false),(4,false),(5,false),(6,false),(7,false),(8,false),(9,false),(10,false),(11,false),(12,true)] Grows.refl Grows.trans (by kernel_rfl) (by kernel_rfl) (fun d _ _ _ _ h => by cases d <;> exact h) ?_
   iterate 12 (refine t_quiet rfl (fun K hK => ?_);go_simp;refine hK _ ?_;clear hK K)
   refine t_late rfl rfl (fun K hK => ?_)
   go_simp
   refine ⟨Grows.alloc _ _,hK _ _ ?_⟩
   clear hK K z0 z1 hmk
   refine t_end ?_
   simp only [List.drop_succ_cons,List.drop_zero]
   have hmade0:=made64 (w:=WB) hqb
   rw [Nat.mul_one,hsz] at hmade0
   obtain ⟨W3,hW3⟩ : ∃ W3,W3 = (WB.alloc (.cells (madeCells #[.int .u64 0] q) 116)).drew:=⟨_,rfl⟩
   have hg3 : Grows WB W3:=by rw [hW3];exact (Grows.alloc WB _).dr
   have hmade : Owns W3 (w.heap.size + 1) 116 1 n64C (.slice (some ⟨w.heap.size + 1,0,none⟩) q q) (List.replicate q 0):=by rw [hW3];exact hmade0.grows (Grows.drew _)
   rw [← hW3]
   clear hmade0
   have b32 : W3.cell? ⟨w.heap.size,2,none⟩ = some (.slice none 0 0):=hg3.cell b2
   have b3f : W3.frozen? ⟨w.heap.size,2,none⟩ = false:=by rw [hg3.froz (by show w.heap.size < WB.heap.size;omega)];exact bf
   clear hW3
   have hWl : W3.heap.size ≥ WB.heap.size:=hg3.size
   have g0:=hg3.cell b0
   have g1:=hg3.cell b1
   go_wp2_with fail
   have e0 : (W3.setCell ⟨w.heap.size,2,none⟩ (.slice (some ⟨w.heap.size + 1,0,none⟩) q q)).cell? ⟨w.heap.size,0,none⟩ = some (.int .i64 l.length):=(World.cell?_setCell_other _ _ _ _ (fun h => by cases h)).trans g0
   have e1 : (W3.setCell ⟨w.heap.size,2,none⟩ (.slice (some ⟨w.heap.size + 1,0,none⟩) q q)).cell? ⟨w.heap.size,1,none⟩ = some (.int .i64 W):=(World.cell?_setCell_other _ _ _ _ (fun h => by cases h)).trans g1
   have e2 : (W3.setCell ⟨w.heap.size,2,none⟩ (.slice (some ⟨w.heap.size + 1,0,none⟩) q q)).cell? ⟨w.heap.size,2,none⟩ = some (.slice (some ⟨w.heap.size + 1,0,none⟩) q q):=World.cell?_setCell_same _ _ _ b32
   have hown4:=owns_setLo hmade (p:=⟨w.heap.size,2,none⟩) (Nat.lt_succ_self _) (.slice (some ⟨w.heap.size + 1,0,none⟩) q q)
   have hg4 : Grows w (W3.setCell ⟨w.heap.size,2,none⟩ (.slice (some ⟨w.heap.size + 1,0,none⟩) q q)):=(hgB.tr hg3).set (Nat.le_refl _) _
   rw [← wordsP_nil W q] at hown4
   generalize W3.setCell ⟨w.heap.size,2,none⟩ (.slice (some ⟨w.heap.size + 1,0,none⟩) q q) = W4 at e0 e1 e2 hown4 hg4 ⊢
   have hqM2 : l.length * W ≤ 64 * q:=by have:=HQ.out;omega
   have HQM:=Lib.hid hqM2
   clear b0 b1 b2 bf hgB hsz hMb hqM wM wM2 eq1 eq2 wq hg3 hmade b32 b3f hWl g0 g1 hqM2
   go_loopw [46] (fun i wr => ∃ k : Nat,k ≤ l.length∧i = .int .i64 k∧wr.cell? ⟨w.heap.size,0,none⟩ = some (.int .i64 l.length)∧wr.cell? ⟨w.heap.size,1,none⟩ = some (.int .i64 W)∧wr.cell? ⟨w.heap.size,2,none⟩ = some (.slice (some ⟨w.heap.size + 1,0,none⟩) q q)∧Owns wr (w.heap.size + 1) 116 1 n64C (.slice (some ⟨w.heap.size + 1,0,none⟩) q q) (wordsP (l.take k) W q)∧Grows w wr) (fun i _ => l.length - (intOf i).toNat)
   case atStart => exact ⟨0,Nat.zero_le _,rfl,e0,e1,e2,hown4,hg4⟩
   case round =>
    obtain ⟨k,hk,rfl,d0,d1,d2,hown,hg⟩:=hrel
    by_cases hlt : k < l.length
    ·obtain ⟨x,hx⟩ : ∃ x,l[k]? = some x:=⟨_,List.getElem?_eq_getElem hlt⟩
     obtain ⟨b,o,rfl,hc⟩:=at1 HAT.out (ne_nil_of_lt hlt)
     have hcx:=hg.cell (hc k x hx)
     have hki : (k : Int) < l.length:=by omega
     by_cases hW0 : W = 0
     ·have HO : Hid (Owns wr (w.heap.size + 1) 116 1 n64C (.slice (some ⟨w.heap.size + 1,0,none⟩) q q) (wordsP (l.take (k + 1)) W q)):=by
       show Owns _ _ _ _ _ _ _
       rw [takeSnoc hx]
       have h1:=hown
       rw [hW0] at h1 ⊢
       rw [wordsP_zero (l:=l.take k) (v:=x) (fun n hn => by
        rw [← takeSnoc hx] at hn
        have h2:=widL_lt (List.mem_of_mem_take hn)
        rwa [← HW.out,hW0] at h2)]
       exact h1
      have C0:=pset0_any w.heap.size k x wr (by rw [d1,hW0];rfl)
      clear hc hx hW0
      go_wp2_with fail
      refine C0.mono ?_
      rintro e w5 ⟨rfl,rfl⟩
      go_wp2_with fail
      go_roundw
      case rel => exact ⟨k + 1,hlt,by go_num,d0,d1,d2,HO.out,hg⟩
      case measure => simp [intOf];omega
     ·have hfit : (k + 1) * W ≤ 64 * q:=Nat.le_trans (Nat.mul_le_mul_right W (show k + 1 ≤ l.length by omega)) HQM.out
      have CS:=pset_any w.heap.size (w.heap.size + 1) q W x k (w.heap.size + 1) (l.take k) wr (by omega) hW64 (by rw [List.length_take];omega) (by omega) (by rw [HW.out];exact widL_lt (List.mem_of_getElem? hx)) hfit hqb d1 d2 (Nat.lt_succ_self _) hown
      rw [← takeSnoc hx] at CS
      clear hc hx hfit
      go_wp2_with fail
      refine CS.mono ?_
      rintro e w5 ⟨rfl,hown5,heb⟩
      go_wp2_with fail
      go_roundw
      case rel => exact ⟨k + 1,hlt,by go_num,by rw [Below.cell heb.1 (Nat.lt_succ_self _)];exact d0,by rw [Below.cell heb.1 (Nat.lt_succ_self _)];exact d1,by rw [Below.cell heb.1 (Nat.lt_succ_self _)];exact d2,hown5,Below.trans hg (Below.mono heb.1 (Nat.le_succ _))⟩
      case measure => simp [intOf];omega
    ·have hki : ¬ (k : Int) < l.length:=by omega
     have hke : k = l.length:=by omega
     have HP : Hid (PkAt wr w.heap.size l):=by
      refine ⟨d0,by rw [← HW.out];exact d1,w.heap.size + 1,Nat.lt_succ_self _, ?_, ?_⟩
      ·rw [← HW.out,← HQ.out];exact d2
      ·rw [← HW.out,← HQ.out]
       rw [hke,List.take_length] at hown
       exact hown
     clear hke
     go_wp2_with fail
     refine bodyPost_ret (v:=.tuple #[.pointer (some ⟨w.heap.size,0,none⟩),.int .i64 0]) (by simp [results,Tryz.results87,go_sem]) rfl ⟨rfl,HP.out,hg⟩
end Go.Proofs.YtepoiefadjoabaaGreatDoor
namespace Go.Proofs.YtepoiefadjoabaaGreatDoor
open Go Go.RowKit
attribute [local go_sem] quietE quietE2
theorem pack_head2 (n w : Nat) (hw : w ≤ 64) : (#[Value.int .u8 (IntKind.u8.wrap (n : Int)), .int .u8 (IntKind.u8.wrap ((n : Int) / 256)), .int .u8 (IntKind.u8.wrap ((n : Int) / 65536)), .int .u8 (IntKind.u8.wrap ((n : Int) / 16777216)), .int .u8 (IntKind.u8.wrap (w : Int))] : Array Value).toList = (leB 4 n ++ [UInt8.ofNat w]).flatMap byteC := by
 have h:=pack_head n w hw
 rw [IntKind.wrap_u8',IntKind.wrap_u8',IntKind.wrap_u8',IntKind.wrap_u8',IntKind.wrap_u8',show (w : Int) % 256 = w by omega]
 exact h
def packTo (l : List Nat) (k : Nat) : List UInt8 := (List.range k).map fun j => UInt8.ofNat (bitsN (bitAt l (widL l)) (8 * j) 8)
theorem packTo_succ (l : List Nat) (k : Nat) : packTo l (k + 1) = packTo l k ++ [UInt8.ofNat (packW l (widL l) (k / 8) >>> (k % 8 * 8))] := by
 unfold packTo
 rw [List.range_succ,List.map_append]
 simp only [List.map_cons,List.map_nil]
 rw [← packW_byte l (widL l) k,ofNat_mod]
theorem packTo_len (l : List Nat) (k : Nat) : (packTo l k).length = k := by simp [packTo]
set_option maxHeartbeats 8000000 in
set_option maxRecDepth 100000 in
theorem penc_any (l : List Nat) (pb : Nat) (w : World) (hl : l.length ≤ 1048576) (hn : ∀ n ∈ l, n < 18446744073709551616) (hat : PkAt w pb l) :
  Calls Tryz.prog 95 #[.pointer (some ⟨pb,0,none⟩)] w fun e w' => ∃ v,e = .returned v∧Owns w' w.heap.size 5 1 byteC v (packE l)∧Grows w w':=by
 have hW64 : widL l ≤ 64:=widL_le.2 hn
 have c0:=hat.c0
 have c1:=hat.c1
 obtain ⟨wb,hpw,c2,hown⟩:=hat.c2
 obtain ⟨W,hWe⟩ : ∃ W,W = widL l:=⟨_,rfl⟩
 obtain ⟨n,hne⟩ : ∃ n,n = l.length:=⟨_,rfl⟩
 rw [← hWe] at hW64 c1 c2 hown
 rw [← hne] at hl c0 c2 hown
 obtain ⟨q,hq⟩ : ∃ q,q = (n * W + 63) / 64:=⟨_,rfl⟩
 rw [← hq] at c2 hown
 have HW:=Lib.hid hWe
 have HNE:=Lib.hid hne
 have HOWN:=Lib.hid hown
 have HH:=Lib.hid (pack_head2 n W hW64)
 obtain ⟨M,hM⟩ : ∃ M,M = n * W:=⟨_,rfl⟩
 have hMb : M ≤ 1048576 * 64:=by rw [hM];exact Nat.mul_le_mul hl hW64
 obtain ⟨T,hT⟩ : ∃ T,T = (M + 7) / 8:=⟨_,rfl⟩
 have hTq : T ≤ 8 * q:=by rw [hT,hq,← hM];omega
 have hTb : T ≤ 8388609:=by omega
 have HTE : Hid (T = (l.length * widL l + 7) / 8):=by show _ = _;rw [hT,hM,HNE.out,HW.out]
 have wM : IntKind.i64.wrap ((n : Int) * W) = M:=by
  have h1 : (n : Int) * W = M:=by rw [hM];push_cast;rfl
  rw [h1];simp [IntKind.wrap,IntKind.bits,IntKind.signed];omega
 have wM2 : IntKind.i64.wrap ((M : Int) + 7) = (M : Int) + 7:=by simp [IntKind.wrap,IntKind.bits,IntKind.signed];omega
 have eq1 : ((M : Int) + 7) / 8 = T:=by omega
 have eq2 : ((M : Int) + 7).tdiv 8 = T:=by rw [Int.tdiv_eq_ediv_of_nonneg (by omega)];exact eq1
 have wT : IntKind.i64.wrap (T : Int) = T:=by simp [IntKind.wrap,IntKind.bits,IntKind.signed];omega
 have HWM:=Lib.hid wM
 have HWM2:=Lib.hid wM2
 have HE1:=Lib.hid eq1
 have HE2:=Lib.hid eq2
 have HWT:=Lib.hid wT
 have HL:=Lib.hid hl
 have z0 : ∀ y : Ext Grows w.drew,y.u.cell? ⟨pb,0,none⟩ = some (.int .i64 n):=ext_cell ((Grows.drew w).cell c0)
 have z1 : ∀ y : Ext Grows w.drew,y.u.cell? ⟨pb,1,none⟩ = some (.int .i64 W):=ext_cell ((Grows.drew w).cell c1)
 clear hn hat hWe hne hM hT hown wM wM2 eq1 eq2 wT hl hMb hpw hq
 go_enter Tryz.func95,Tryz.ntmps95
 go_wp2_with fail
 refine t_region (Grows) [(0,false),(1,false),(2,false),(3,false),(4,false),(5,false),(6,false),(7,false),(8,false),(9,false),(10,false),(11,false),(12,false),(13,false),(14,false),(15,false),(16,false),(17,false),(18,false),(19,false),(20,false),(21,false),(22,false),(23,false),(24,false),(25,false),(26,false),(27,false),(28,true),(29,true)] Grows.refl Grows.trans (by kernel_rfl) (by kernel_rfl) (fun d _ _ _ _ h => by cases d <;> exact h) ?_
 iterate 28 (refine t_quiet rfl (fun K hK => ?_);go_simp;refine hK _ ?_;clear hK K)
 refine t_late rfl rfl (fun K hK => ?_)
 go_simp
 refine ⟨Grows.alloc _ _,hK _ _ ?_⟩
 clear hK K z0 z1
 iterate 1 (refine t_late rfl rfl (fun K hK => ?_);go_simp;refine ⟨Grows.refl _,hK _ _ ?_⟩;clear hK K)
 refine t_end ?_
 have hown0:=(owns_box (enc:=byteC) (e:=5) (w:=w) (base:=w.heap.size) (fun _ => rfl) (Nat.le_refl _) (leB 4 n ++ [UInt8.ofNat W]) HH.out (n:=5) (by simp [leB_len]) (by decide)).grows (Grows.drew _)
 obtain ⟨w1,hw1⟩ : ∃ w1,w1 = (w.alloc (.cells #[.int .u8 (IntKind.u8.wrap (n : Int)),.int .u8 (IntKind.u8.wrap ((n : Int) / 256)),.int .u8 (IntKind.u8.wrap ((n : Int) / 65536)),.int .u8 (IntKind.u8.wrap ((n : Int) / 16777216)),.int .u8 (IntKind.u8.wrap (W : Int))] 5)).drew:=⟨_,rfl⟩
 have hg1 : Grows w w1:=by rw [hw1];exact (Grows.alloc _ _).dr
 rw [← hw1] at hown0 ⊢
 clear hw1 HH
 generalize IntKind.u8.wrap (n : Int) = y1
 generalize IntKind.u8.wrap ((n : Int) / 256) = y2
 generalize IntKind.u8.wrap ((n : Int) / 65536) = y3
 generalize IntKind.u8.wrap ((n : Int) / 16777216) = y4
 generalize IntKind.u8.wrap (W : Int) = y5
 go_wp2_with fail
 have wM:=HWM.out
 have wM2:=HWM2.out
 have eq1:=HE1.out
 have eq2:=HE2.out
 have wT:=HWT.out
 have z0 : ∀ y : Ext Grows w1.drew,y.u.cell? ⟨pb,0,none⟩ = some (.int .i64 n):=ext_cell (hg1.dr.cell c0)
 have z1 : ∀ y : Ext Grows w1.drew,y.u.cell? ⟨pb,1,none⟩ = some (.int .i64 W):=ext_cell (hg1.dr.cell c1)
 refine t_region (Grows) [(0,false),(1,false),(2,false),(3,false),(4,false),(5,false),(6,false),(7,false),(8,false),(9,false),(10,false),(11,false)] Grows.refl Grows.trans (by kernel_rfl) (by kernel_rfl) (fun d _ _ _ _ h => by cases d <;> exact h) ?_
 iterate 12 (refine t_quiet rfl (fun K hK => ?_);go_simp;refine hK _ ?_;clear hK K)
 refine t_end ?_
 clear z0 z1 wM wM2 eq1 eq2 wT
 go_wp2_with fail
 go_loopw [3,47] (fun out i wr => ∃ (k : Nat) (acc : List UInt8),k ≤ T∧i = .int .i64 k∧Hid (acc = leB 4 n ++ [UInt8.ofNat W] ++ packTo l k)∧Owns wr w.heap.size 5 1 byteC out acc∧Grows w wr) (fun _ i _ => T - (intOf i).toNat)
 case atStart => exact ⟨0,_,Nat.zero_le _,rfl,(by show _ = _;simp [packTo]),hown0.grows (Grows.drew _),hg1.dr⟩
 case round =>
  obtain ⟨k,acc,hk,rfl,hacc,hown,hg⟩:=hrel
  by_cases hlt : k < T
  ·have hki : (k : Int) < T:=by omega
   obtain ⟨J,hJ⟩ : ∃ J,J = k / 8:=⟨_,rfl⟩
   obtain ⟨R,hR⟩ : ∃ R,R = k % 8 * 8:=⟨_,rfl⟩
   have hJq : J < q:=by omega
   have hRb : R ≤ 56:=by omega
   have eJ : (k : Int) / 8 = J:=by omega
   have eR : (k : Int) % 8 * 8 = R:=by omega
   have wR : IntKind.u64.wrap (R : Int) = R:=by simp [IntKind.wrap,IntKind.bits,IntKind.signed];omega
   obtain ⟨x,hx⟩ : ∃ x,x = packW l W J:=⟨_,rfl⟩
   have hcx : wr.cell? ⟨wb,J,none⟩ = some (.int .u64 x):=hg.cell (own_cell1 (f:=fun n : Nat => Value.int .u64 n) HOWN.out (by rw [wordsP_get hJq,hx]))
   have c2r:=hg.cell c2
   have HN : Hid (acc ++ [UInt8.ofNat (x >>> R)] = leB 4 n ++ [UInt8.ofNat W] ++ packTo l (k + 1)):=by
    show _ = _
    rw [packTo_succ,← HW.out,← hJ,← hR,← hx,hacc.out,List.append_assoc]
   have HB : Hid ([Value.int .u8 ((x : Int) / 2 ^ R % 256)] = byteC (UInt8.ofNat (x >>> R))):=by
    show _ = _
    rw [int_shr]
    exact byte_cell _
   have hal : acc.length ≤ 5 + k:=by rw [hacc.out,List.length_append,packTo_len];simp [leB_len] <;> omega
   have hJi : (J : Int) < q:=by omega
   clear hJ hR hx hacc
   go_wp2_with (at_builtin;refine app_one byteLay rfl _ _ rfl w.heap.size _ acc (UInt8.ofNat (x >>> R)) rfl hown (Grows.refl _) _ 1 rfl _ (by exact HB.out) rfl (by omega) hg.size ?_;intro v' w5 hown5 hg5)
   go_roundw
   case rel => exact ⟨k + 1,_,hlt,by go_num,HN.out,hown5,hg5 w hg (Nat.le_refl _)⟩
   case measure => simp [intOf];omega
  ·have hki : ¬ (k : Int) < T:=by omega
   have HF : Hid (acc = packE l):=by
    show _ = _
    have hkT : k = T:=by omega
    rw [hacc.out,hkT,HTE.out,HNE.out,HW.out]
    rfl
   clear hacc
   go_wp2_with fail
   go_ret
   exact ⟨_,rfl,by rw [← HF.out];exact hown,hg⟩
end Go.Proofs.YtepoiefadjoabaaGreatDoor
namespace Go.Proofs.YtepoiefadjoabaaGreatDoor
open Go Go.RowKit
attribute [local go_sem] quietE quietE2
theorem packW_test (l : List Nat) (W Q t : Nat) (ht : t < 64) : (packW l W Q).testBit t = bitAt l W (64 * Q + t) := by
 unfold packW
 rw [bitsN_test]
 simp [ht]
theorem getW_one {l : List Nat} {W i x Q S : Nat} (hx : l[i]? = some x) (hxW : x < 2 ^ W) (hQ : i * W = 64 * Q + S) (hfit : S + W ≤ 64) : (packW l W Q >>> S) &&& (2 ^ W - 1) = x := by
 apply Nat.eq_of_testBit_eq
 intro t
 rw [Nat.testBit_and,Nat.testBit_two_pow_sub_one,Nat.testBit_shiftRight]
 by_cases ht : t < W
 ·rw [packW_test _ _ _ _ (by omega),← Nat.add_assoc,← hQ,bitAt_at hx ht]
  simp [ht]
 ·simp only [ht,decide_false,Bool.and_false]
  exact (Nat.testBit_lt_two_pow (Nat.lt_of_lt_of_le hxW (Nat.pow_le_pow_right (by decide) (by omega)))).symm
theorem getW_two {l : List Nat} {W i x Q S : Nat} (hx : l[i]? = some x) (hxW : x < 2 ^ W) (hQ : i * W = 64 * Q + S) (hS : S < 64) (hW : W ≤ 64) (hfit : 64 < S + W) :
  ((packW l W Q >>> S) ||| (packW l W (Q + 1) <<< (64 - S)) % 18446744073709551616) &&& (2 ^ W - 1) = x:=by
 apply Nat.eq_of_testBit_eq
 intro t
 rw [Nat.testBit_and,Nat.testBit_two_pow_sub_one,Nat.testBit_or,Nat.testBit_shiftRight]
 by_cases ht : t < W
 ·rw [shl_test (by omega)]
  by_cases h1 : S + t < 64
  ·rw [packW_test _ _ _ _ h1,← Nat.add_assoc,← hQ,bitAt_at hx ht]
   simp [ht,show ¬ 64 - S ≤ t by omega]
  ·rw [show (packW l W Q).testBit (S + t) = false by
    apply Nat.testBit_lt_two_pow
    exact Nat.lt_of_lt_of_le (packW_lt l W Q) (Nat.pow_le_pow_right (n:=2) (by decide) (show 64 ≤ S + t by omega))]
   rw [packW_test _ _ _ _ (by omega),show 64 * (Q + 1) + (t - (64 - S)) = i * W + t by omega,bitAt_at hx ht]
   simp [ht,show 64 - S ≤ t by omega]
 ·simp only [ht,decide_false,Bool.and_false]
  exact (Nat.testBit_lt_two_pow (Nat.lt_of_lt_of_le hxW (Nat.pow_le_pow_right (by decide) (by omega)))).symm
theorem mask_val {W : Nat} (hW : W ≤ 64) : IntKind.u64.wrap (IntKind.u64.wrap (2 ^ W) - 1) = ((2 ^ W - 1 : Nat) : Int) := by
 have h : ∀ V : Fin 65,IntKind.u64.wrap (IntKind.u64.wrap (2 ^ V.val) - 1) = ((2 ^ V.val - 1 : Nat) : Int):=by decide +kernel
 exact h ⟨W,by omega⟩
set_option maxHeartbeats 4000000 in
set_option maxRecDepth 100000 in
theorem pget_any (pb wb q W i x base : Nat) (l : List Nat) (w : World) (hW : W ≤ 64) (hi2 : l.length ≤ 1048576) (hx : l[i]? = some x) (hxW : x < 2 ^ W) (hq : l.length * W ≤ 64 * q)
  (c1 : w.cell? ⟨pb,1,none⟩ = some (.int .i64 W)) (c2 : w.cell? ⟨pb,2,none⟩ = some (.slice (some ⟨wb,0,none⟩) q q)) (hown : Owns w base 116 1 n64C (.slice (some ⟨wb,0,none⟩) q q) (wordsP l W q)) :
  Calls Tryz.prog 115 #[.pointer (some ⟨pb,0,none⟩),.int .i64 i] w fun e w' => e = .returned (.int .u64 x)∧Grows w w':=by
 have hil:=(List.getElem?_eq_some_iff.1 hx).1
 by_cases hW0 : W = 0
 ·have hx0 : x = 0:=by rw [hW0] at hxW;simpa using hxW
  subst hx0
  subst hW0
  clear hown
  go_enter Tryz.func115,Tryz.ntmps115
  go_wp2_with fail
  go_ret
  exact ⟨rfl,Grows.refl _⟩
 ·have hb1 : (W : Int) ≠ 0:=by omega
  obtain ⟨M,hM⟩ : ∃ M,M = i * W:=⟨_,rfl⟩
  have hMq : M + W ≤ 64 * q:=by
   have h1 : (i + 1) * W ≤ l.length * W:=Nat.mul_le_mul_right _ (by omega)
   rw [Nat.add_mul] at h1
   omega
  have hM64 : M ≤ 1048576 * 64:=by rw [hM];exact Nat.mul_le_mul (by omega) hW
  obtain ⟨Q,hQ⟩ : ∃ Q,Q = M / 64:=⟨_,rfl⟩
  obtain ⟨S,hS⟩ : ∃ S,S = M % 64:=⟨_,rfl⟩
  have hQS : i * W = 64 * Q + S:=by rw [← hM];omega
  have hS64 : S < 64:=by omega
  have hQq : Q < q:=by omega
  have wM : IntKind.i64.wrap ((i : Int) * W) = M:=by
   have h1 : (i : Int) * W = M:=by rw [hM];push_cast;rfl
   rw [h1];simp [IntKind.wrap,IntKind.bits,IntKind.signed];omega
  have eQ : (M : Int) / 64 = Q:=by omega
  have eS : (M : Int) % 64 = S:=by omega
  obtain ⟨y,hy⟩ : ∃ y,y = packW l W Q:=⟨_,rfl⟩
  have hy64 : y < 18446744073709551616:=by rw [hy];exact packW_lt l W Q
  have d1 : w.drew.cell? ⟨wb,Q,none⟩ = some (.int .u64 y):=(Grows.drew w).cell (own_cell1 (f:=fun n : Nat => Value.int .u64 n) hown (by rw [wordsP_get hQq,hy]))
  have z1 : ∀ y : Ext Grows w.drew,y.u.cell? ⟨pb,1,none⟩ = some (.int .i64 W):=ext_cell ((Grows.drew w).cell c1)
  have hQi : (Q : Int) < q:=by omega
  have g1 : w.drew.cell? ⟨pb,1,none⟩ = some (.int .i64 W):=(Grows.drew w).cell c1
  have g2 : w.drew.cell? ⟨pb,2,none⟩ = some (.slice (some ⟨wb,0,none⟩) q q):=(Grows.drew w).cell c2
  have hwSW : IntKind.i64.wrap ((S : Int) + W) = (S : Int) + W:=by simp [IntKind.wrap,IntKind.bits,IntKind.signed];omega
  have hmk:=mask_val hW
  have hmn : 2 ^ W - 1 < 18446744073709551616:=by
   have : 2 ^ W ≤ 2 ^ 64:=Nat.pow_le_pow_right (by decide) hW
   have e : (2 : Nat) ^ 64 = 18446744073709551616:=by decide
   omega
  obtain ⟨v0,hv0⟩ : ∃ v,v = y >>> S:=⟨_,rfl⟩
  have hsh : (y : Int) / 2 ^ S = (v0 : Nat):=by rw [hv0];exact int_shr y S
  have hv064 : v0 < 18446744073709551616:=by rw [hv0];exact Nat.lt_of_le_of_lt (Nat.shiftRight_le _ _) hy64
  by_cases hfit1 : S + W ≤ 64
  ·have hsw : ¬ (64 : Int) < (S : Int) + W:=by omega
   have hand : bits .and .u64 (v0 : Int) ((2 ^ W - 1 : Nat) : Int) = (x : Int):=by
    rw [u64_and_nat _ _ hv064 hmn,hv0,hy,getW_one hx hxW hQS hfit1]
   obtain ⟨MK,hMK⟩ : ∃ M,M = 2 ^ W - 1:=⟨_,rfl⟩
   rw [← hMK] at hand hmk
   clear hM hQ hS hQS hy hown hMq hx hxW hv0 hMK
   go_enter Tryz.func115,Tryz.ntmps115
   go_wp2_with fail
   refine t_region (Grows) [(0,false),(1,false),(2,false),(3,false),(4,false),(5,false),(6,false),(7,false),(8,false),(9,false),(10,false),(11,false),(12,false),(13,false),(14,false),(15,false),(16,false)] Grows.refl Grows.trans (by kernel_rfl) (by kernel_rfl) (fun d _ _ _ _ h => by cases d <;> exact h) ?_
   iterate 17 (refine t_quiet rfl (fun K hK => ?_);go_simp;refine hK _ ?_;clear hK K)
   refine t_end ?_
   clear z1
   go_wp2_with fail
   go_ret
   exact ⟨rfl,Grows.drew w⟩
  ·have hfit1 : 64 < S + W:=by omega
   have hsw : (64 : Int) < (S : Int) + W:=by omega
   have hQ1 : Q + 1 < q:=by omega
   have hQ1i : (Q : Int) + 1 < q:=by omega
   obtain ⟨y1,hy1⟩ : ∃ y,y = packW l W (Q + 1):=⟨_,rfl⟩
   have hy164 : y1 < 18446744073709551616:=by rw [hy1];exact packW_lt l W _
   have d2 : w.drew.cell? ⟨wb,Q + 1,none⟩ = some (.int .u64 y1):=(Grows.drew w).cell (own_cell1 (f:=fun n : Nat => Value.int .u64 n) hown (by rw [wordsP_get hQ1,hy1]))
   have hor:=shl_or (v:=y1) (S:=64 - S) hv064
   obtain ⟨v1,hv1⟩ : ∃ v,v = v0 ||| (y1 <<< (64 - S)) % 18446744073709551616:=⟨_,rfl⟩
   rw [← hv1] at hor
   have hv164 : v1 < 18446744073709551616:=by rw [hv1];exact Nat.or_lt_two_pow (n:=64) hv064 (Nat.mod_lt _ (by decide))
   have hT : (64 : Int) - S = ((64 - S : Nat) : Int):=by omega
   have hTw : IntKind.u64.wrap ((64 - S : Nat) : Int) = ((64 - S : Nat) : Int):=by simp [IntKind.wrap,IntKind.bits,IntKind.signed];omega
   have hand : bits .and .u64 (v1 : Int) ((2 ^ W - 1 : Nat) : Int) = (x : Int):=by
    rw [u64_and_nat _ _ hv164 hmn,hv1,hv0,hy,hy1,getW_two hx hxW hQS hS64 hW hfit1]
   obtain ⟨MK,hMK⟩ : ∃ M,M = 2 ^ W - 1:=⟨_,rfl⟩
   rw [← hMK] at hand hmk
   clear hM hQ hS hQS hy hown hMq hx hxW hv0 hMK hy1 hv1
   go_enter Tryz.func115,Tryz.ntmps115
   go_wp2_with fail
   refine t_region (Grows) [(0,false),(1,false),(2,false),(3,false),(4,false),(5,false),(6,false),(7,false),(8,false),(9,false),(10,false),(11,false),(12,false),(13,false),(14,false),(15,false),(16,false)] Grows.refl Grows.trans (by kernel_rfl) (by kernel_rfl) (fun d _ _ _ _ h => by cases d <;> exact h) ?_
   iterate 17 (refine t_quiet rfl (fun K hK => ?_);go_simp;refine hK _ ?_;clear hK K)
   refine t_end ?_
   clear z1
   go_wp2_with fail
   go_ret
   exact ⟨rfl,Grows.drew w⟩
theorem bound_widL {l : List Nat} {x : Nat} (h : x ∈ l) : x < 2 ^ widL l := widL_le.1 (Nat.le_refl _) x h
set_option maxHeartbeats 4000000 in
set_option maxRecDepth 100000 in
theorem pklen_any (l : List Nat) (pb : Nat) (w : World) (hat : PkAt w pb l) : Calls Tryz.prog 65 #[.pointer (some ⟨pb, 0, none⟩)] w fun e w' => e = .returned (.int .i64 (l.length : Nat)) ∧ w = w' := by
 have c0:=hat.c0
 go_enter Tryz.func65,Tryz.ntmps65
 go_wp2_with fail
 go_ret
 exact ⟨rfl,rfl⟩
set_option maxHeartbeats 4000000 in
set_option maxRecDepth 100000 in
theorem pkget_any (l : List Nat) (pb i x : Nat) (w : World) (hat : PkAt w pb l) (hl : l.length ≤ 1048576) (hn : ∀ n ∈ l, n < 18446744073709551616) (hx : l[i]? = some x) : Calls Tryz.prog 66 #[.pointer (some ⟨pb, 0, none⟩), .int .i64 i] w fun e w' => e = .returned (.tuple #[.int .u64 x, .bool true]) ∧ Grows w w' := by
 obtain ⟨wb,h1,h2,h3⟩:=hat.c2
 have hil:=(List.getElem?_eq_some_iff.1 hx).1
 have CG:=Lib.hid (pget_any pb wb ((l.length * widL l + 63) / 64) (widL l) i x wb l w (widL_le.2 hn) hl hx (bound_widL (List.mem_of_getElem? hx)) (by omega) hat.c1 h2 h3)
 have CL:=Lib.hid (pklen_any l pb w hat)
 have h0 : ¬ (i : Int) < 0:=by omega
 have hi : (i : Int) < l.length:=by omega
 clear hat h2 h3 hx
 go_enter Tryz.func66,Tryz.ntmps66
 go_wp2_with fail
 refine CL.out.mono ?_
 rintro e w1 ⟨rfl,rfl⟩
 go_wp2_with fail
 refine CG.out.mono ?_
 rintro e w2 ⟨rfl,hg2⟩
 go_wp2
 go_ret2
 exact ⟨rfl,hg2⟩
end Go.Proofs.YtepoiefadjoabaaGreatDoor
namespace Go.Proofs.YtepoiefadjoabaaGreatDoor
open Go Go.RowKit
attribute [local go_sem] quietE quietE2
def fillL {α : Type} (l : List α) (z : α) (k : Nat) : List α := l.take k ++ List.replicate (l.length - k) z
theorem fillL_len {α : Type} (l : List α) (z : α) {k : Nat} (h : k ≤ l.length) : (fillL l z k).length = l.length := by
 unfold fillL
 rw [List.length_append,List.length_take,List.length_replicate];omega
theorem fillL_zero {α : Type} (l : List α) (z : α) : fillL l z 0 = List.replicate l.length z := by simp [fillL]
theorem fillL_all {α : Type} (l : List α) (z : α) : fillL l z l.length = l := by simp [fillL]
theorem fillL_set {α : Type} {l : List α} {z x : α} {k : Nat} (h : l[k]? = some x) : (fillL l z k).set k x = fillL l z (k + 1) := by
 have hk : k < l.length:=(List.getElem?_eq_some_iff.1 h).1
 unfold fillL
 rw [List.set_append_right _ _ (by rw [List.length_take];omega),takeSnoc h,List.append_assoc]
 congr 1
 rw [show k - (l.take k).length = 0 by rw [List.length_take];omega,show l.length - k = (l.length - (k + 1)) + 1 by omega,List.replicate_succ]
 rfl
set_option maxHeartbeats 4000000 in
set_option maxRecDepth 100000 in
theorem numbers_any (l : List Nat) (a : Option Addr) (c : Nat) (w : World) (hl : l.length ≤ 1048576) (hn : ∀ n ∈ l, n < 9223372036854775808) (hat : AtCells w a 1 (l.map natC)) :
  Calls Tryz.prog 44 #[.slice a l.length c] w fun e w' => ∃ v,e = .returned v∧Owns w' w.heap.size 5 1 byteC v (packE l)∧Grows w w':=by
 have HAT:=Lib.hid hat
 have HN:=Lib.hid hn
 have hmk:=fun (Y : World) => mk64 l.length Y hl
 have CP:=fun (W : World) (q c : Nat) (h : AtCells W (some ⟨q,0,none⟩) 1 (l.map n64C)) => Lib.hid (pnew_any l (some ⟨q,0,none⟩) c W hl (fun n hn' => by have:=hn n hn';omega) h)
 have CE:=fun (W : World) (q : Nat) (h : PkAt W q l) => Lib.hid (penc_any l q W hl (fun n hn' => by have:=hn n hn';omega) h)
 clear hat hn
 go_enter Tryz.func44,Tryz.ntmps44
 go_wp2_with fail
 have hmade0:=made64 (w:=w) (n:=l.length) hl
 rw [Nat.mul_one,← fillL_zero l 0] at hmade0
 obtain ⟨W1,hW1⟩ : ∃ W1,W1 = w.alloc (.cells (madeCells #[.int .u64 0] l.length) 116):=⟨_,rfl⟩
 have hgA : Grows w W1:=by rw [hW1];exact Grows.alloc _ _
 rw [← hW1] at hmade0 ⊢
 clear hW1
 go_loopw [13] (fun i wr => ∃ (k : Nat),k ≤ l.length∧i = .int .i64 k∧Owns wr w.heap.size 116 1 n64C (.slice (some ⟨w.heap.size,0,none⟩) l.length l.length) (fillL l 0 k)∧Grows w wr) (fun i _ => l.length - (intOf i).toNat)
 case atStart => exact ⟨0,Nat.zero_le _,rfl,hmade0,hgA⟩
 case round =>
  clear hmade0 hgA
  obtain ⟨k,hk,rfl,hown,hg⟩:=hrel
  by_cases hlt : k < l.length
  ·obtain ⟨x,hx⟩ : ∃ x,l[k]? = some x:=⟨_,List.getElem?_eq_getElem hlt⟩
   obtain ⟨b,o,rfl,hc⟩:=at1 (HAT.out.grows hg) (ne_nil_of_lt hlt)
   have hcx:=hc k x hx
   have hx63:=HN.out x (List.mem_of_getElem? hx)
   have wx : IntKind.u64.wrap (x : Int) = x:=by simp [IntKind.wrap,IntKind.bits,IntKind.signed];omega
   have hfl:=fillL_len l 0 hk
   obtain ⟨y,hy⟩ : ∃ y,(fillL l 0 k)[k]? = some y:=⟨_,List.getElem?_eq_getElem (by omega)⟩
   have e1:=own_cell1 (f:=fun n : Nat => Value.int .u64 n) hown hy
   obtain ⟨f1,_,hown1⟩:=owns_set1 (f:=fun n : Nat => Value.int .u64 n) hown (k:=k) (by omega) x
   rw [fillL_set hx] at hown1
   have HO:=Lib.hid hown1
   clear hc hx hy hown hown1 hfl
   go_wp2_with fail
   go_roundw
   case rel => exact ⟨k + 1,by omega,by go_num,HO.out,hg.set (Nat.le_refl _) _⟩
   case measure => simp [intOf];omega
  ·obtain rfl : k = l.length:=by omega
   rw [fillL_all] at hown
   obtain ⟨a1,c1,e1,_,_,hat1⟩:=hown.at_ (k:=1) (fun x => (rfl : (n64C x).length = 1))
   have e2:=(Value.slice.inj e1).1
   subst e2
   have CP1:=CP wr w.heap.size l.length hat1
   clear CP e1 hat1 hown
   go_wp2_with fail
   refine CP1.out.mono ?_
   rintro e w2 ⟨rfl,hp,hg2⟩
   have CE1:=CE w2 wr.heap.size hp
   clear CE CP1 hp
   have hg2:=Grows.trans _ _ _ hg hg2
   go_wp2_with fail
   refine CE1.out.mono ?_
   rintro e w3 ⟨v,rfl,hv,hg3⟩
   go_wp2_with fail
   go_ret
   exact ⟨v,rfl,hv.base hg2.size,Grows.trans _ _ _ hg2 hg3⟩
end Go.Proofs.YtepoiefadjoabaaGreatDoor
