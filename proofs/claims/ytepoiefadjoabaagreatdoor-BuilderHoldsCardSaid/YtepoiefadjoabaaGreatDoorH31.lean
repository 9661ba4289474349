/- The texts Bidx BvC BvN Rnk Sel, one behind the other. -/
import Derived.Test.YtepoiefadjoabaaGreatDoorH5
import Derived.Test.YtepoiefadjoabaaGreatDoorH25
import Derived.Test.YtepoiefadjoabaaGreatDoorH30
import Derived.Test.YtepoiefadjoabaaGreatDoorH21
import Derived.Test.YtepoiefadjoabaaGreatDoorH7
import Derived.Test.YtepoiefadjoabaaGreatDoorH1
namespace Go.Proofs.YtepoiefadjoabaaGreatDoor
open Go Go.RowKit Go.Shelf
attribute [local go_sem] quietE quietE2
def newIx (nw : En → En → Bool) (l : List En) (i : Nat) : Bool := i == 0 || nw (l.getD i enZero) (l.getD (i - 1) enZero)
def idxL (nw : En → En → Bool) (l : List En) (k : Nat) : List Nat := (List.range k).filter (newIx nw l)
theorem idxL_yes {nw : En → En → Bool} {l : List En} {k : Nat} (h : newIx nw l k = true) : idxL nw l (k + 1) = idxL nw l k ++ [k] := by
 unfold idxL
 rw [List.range_succ,List.filter_append]
 simp [h]
theorem idxL_no {nw : En → En → Bool} {l : List En} {k : Nat} (h : newIx nw l k = false) : idxL nw l (k + 1) = idxL nw l k := by
 unfold idxL
 rw [List.range_succ,List.filter_append]
 simp [h]
theorem idxL_le (nw : En → En → Bool) (l : List En) (k : Nat) : (idxL nw l k).length ≤ k := by
 unfold idxL
 have:=List.length_filter_le (newIx nw l) (List.range k)
 rwa [List.length_range] at this
set_option maxHeartbeats 4000000 in
set_option maxRecDepth 100000 in
theorem indices_any (nw : En → En → Bool) (g : Nat) (eg : ∀ args w, (callFunc g args).run Tryz.prog w = .ok (.enter g args) w) (HG : ∀ (x y : En) w, Calls Tryz.prog g #[x.agg, y.agg] w fun e w' => e = .returned (.bool (nw x y)) ∧ Grows w w')
  (l : List En) (a : Option Addr) (c : Nat) (w : World) (hl : l.length ≤ 1048576) (hat : AtCells w a 5 (l.map enCells)) :
  Calls Tryz.prog 38 #[.slice a l.length c,.func (.func g) #[] #[]] w fun e w' => Grows w w'∧∃ v,e = .returned v∧Owns w' w.heap.size 3 1 natC v (idxL nw l l.length):=by
 have HAT:=Lib.hid hat
 have HGG:=fun x y w => Lib.hid (HG x y w)
 clear hat HG
 go_enter Tryz.func38,Tryz.ntmps38
 go_wp2_with fail
 go_loopw [5,10] (fun v i wr => ∃ (k : Nat),k ≤ l.length∧i = .int .i64 k∧Owns wr w.heap.size 3 1 natC v (idxL nw l k)∧Grows w wr) (fun _ i _ => l.length - (intOf i).toNat)
 case atStart => exact ⟨0,Nat.zero_le _,rfl,Owns.nil _ _ _ _ _,Grows.refl _⟩
 case round =>
  obtain ⟨k,hk,rfl,hown,hg⟩:=hrel
  by_cases hlt : k < l.length
  ·obtain ⟨⟨xr,xs,xl,xt,xc⟩,hx⟩ : ∃ x,l[k]? = some x:=⟨_,List.getElem?_eq_getElem hlt⟩
   obtain ⟨ba,oa,rfl,hca⟩:=(HAT.out.grows hg).get (ne_nil_of_lt hlt)
   have c0 : wr.cell? ⟨ba,oa + k * 5,none⟩ = some (.string xr):=hca k _ hx 0 _ rfl
   have c1 : wr.cell? ⟨ba,oa + k * 5 + 1,none⟩ = some (.string xs):=hca k _ hx 1 _ rfl
   have c2 : wr.cell? ⟨ba,oa + k * 5 + 2,none⟩ = some (.int .i64 xl):=hca k _ hx 2 _ rfl
   have c3 : wr.cell? ⟨ba,oa + k * 5 + 3,none⟩ = some (.int .i64 xt):=hca k _ hx 3 _ rfl
   have c4 : wr.cell? ⟨ba,oa + k * 5 + 4,none⟩ = some (.int .i64 xc):=hca k _ hx 4 _ rfl
   have hlenI:=idxL_le nw l k
   obtain ⟨W1,hW1⟩ : ∃ W1,W1 = wr.alloc (.cells #[.string xr,.string xs,.int .i64 xl,.int .i64 xt,.int .i64 xc] 38):=⟨_,rfl⟩
   have hg1 : Grows wr W1:=by rw [hW1];exact Grows.alloc _ _
   have hbx:=fun j u h => cell_box wr #[.string xr,.string xs,.int .i64 xl,.int .i64 xt,.int .i64 xc] 38 (0,0) j u h
   rw [← hW1] at hbx
   have z0 : ∀ x : Ext Grows W1.drew,x.u.cell? ⟨wr.heap.size,0,none⟩ = some (.string xr):=ext_cell ((Grows.drew W1).cell (hbx 0 _ rfl))
   have z1 : ∀ x : Ext Grows W1.drew,x.u.cell? ⟨wr.heap.size,1,none⟩ = some (.string xs):=ext_cell ((Grows.drew W1).cell (hbx 1 _ rfl))
   have z2 : ∀ x : Ext Grows W1.drew,x.u.cell? ⟨wr.heap.size,2,none⟩ = some (.int .i64 xl):=ext_cell ((Grows.drew W1).cell (hbx 2 _ rfl))
   have z3 : ∀ x : Ext Grows W1.drew,x.u.cell? ⟨wr.heap.size,3,none⟩ = some (.int .i64 xt):=ext_cell ((Grows.drew W1).cell (hbx 3 _ rfl))
   have z4 : ∀ x : Ext Grows W1.drew,x.u.cell? ⟨wr.heap.size,4,none⟩ = some (.int .i64 xc):=ext_cell ((Grows.drew W1).cell (hbx 4 _ rfl))
   clear hbx
   by_cases h0 : k = 0
   ·have hK : Hid (newIx nw l k = true):=by show _ = _;rw [h0];rfl
    have hkz : ((k : Int) == 0) = true:=by rw [h0];rfl
    have H0:=Lib.hid h0
    clear hca hx h0
    go_wp2_with fail
    rw [← hW1]
    clear hW1
    refine t_region (Grows) [(0,false),(1,false),(2,false),(3,false),(4,false),(5,false),(6,false),(7,false),(8,false),(9,false),(10,false),(11,false)] Grows.refl Grows.trans (by kernel_rfl) (by kernel_rfl) (fun d _ _ _ _ h => by cases d <;> exact h) ?_
    iterate 12 (refine t_quiet rfl (fun K hK => ?_);go_simp;refine hK _ ?_;clear hK K)
    clear z0 z1 z2 z3 z4
    refine t_end ?_
    have hown1:=hown.grows hg1.dr
    have hgw1:=Grows.trans _ _ _ hg hg1.dr
    have HI:=Lib.hid (idxL_yes hK.out)
    obtain ⟨acc,hacc⟩ : ∃ acc,acc = idxL nw l k:=⟨_,rfl⟩
    rw [← hacc] at hown1 HI hlenI
    clear hacc hown hg1 hg
    go_wp2_with (at_builtin;refine app_one5 natLay rfl _ _ rfl w.heap.size _ acc k rfl hown1 (Grows.refl _) _ 1 rfl #[.int .i64 k] rfl rfl (by omega) hgw1.size ?_;intro v5 w5 hown5 _ _ hg5)
    have HG5:=hg5 w hgw1 (Nat.le_refl _)
    rw [← HI.out] at hown5
    go_wp2_with fail
    go_roundw
    case rel => exact ⟨k + 1,by omega,by go_num,hown5,HG5⟩
    case measure => simp [intOf];omega
   ·obtain ⟨⟨yr,ys,yl,yt,yc⟩,hy⟩ : ∃ y,l[k - 1]? = some y:=⟨_,List.getElem?_eq_getElem (by omega)⟩
    obtain ⟨m,hm⟩ : ∃ m,m = k - 1:=⟨_,rfl⟩
    have hkz : ((k : Int) == 0) = false:=by simp;omega
    have wk : IntKind.i64.wrap ((k : Int) - 1) = m:=by simp [IntKind.wrap,IntKind.bits,IntKind.signed];omega
    have hml : m < l.length:=by omega
    have hmi : (m : Int) < l.length:=by omega
    rw [← hm] at hy
    have d0 : ∀ x : Ext Grows W1.drew,x.u.cell? ⟨ba,oa + m * 5,none⟩ = some (.string yr):=ext_cell ((Grows.drew W1).cell (hg1.cell (hca m _ hy 0 _ rfl)))
    have d1 : ∀ x : Ext Grows W1.drew,x.u.cell? ⟨ba,oa + m * 5 + 1,none⟩ = some (.string ys):=ext_cell ((Grows.drew W1).cell (hg1.cell (hca m _ hy 1 _ rfl)))
    have d2 : ∀ x : Ext Grows W1.drew,x.u.cell? ⟨ba,oa + m * 5 + 2,none⟩ = some (.int .i64 yl):=ext_cell ((Grows.drew W1).cell (hg1.cell (hca m _ hy 2 _ rfl)))
    have d3 : ∀ x : Ext Grows W1.drew,x.u.cell? ⟨ba,oa + m * 5 + 3,none⟩ = some (.int .i64 yt):=ext_cell ((Grows.drew W1).cell (hg1.cell (hca m _ hy 3 _ rfl)))
    have d4 : ∀ x : Ext Grows W1.drew,x.u.cell? ⟨ba,oa + m * 5 + 4,none⟩ = some (.int .i64 yc):=ext_cell ((Grows.drew W1).cell (hg1.cell (hca m _ hy 4 _ rfl)))
    obtain ⟨b,hb⟩ : ∃ b,b = nw ⟨xr,xs,xl,xt,xc⟩ ⟨yr,ys,yl,yt,yc⟩:=⟨_,rfl⟩
    have HB : Hid (newIx nw l k = b):=by
     show _ = _
     unfold newIx
     rw [show l.getD k enZero = ⟨xr,xs,xl,xt,xc⟩ by rw [List.getD_eq_getElem?_getD,hx];rfl,← hm,show l.getD m enZero = ⟨yr,ys,yl,yt,yc⟩ by rw [List.getD_eq_getElem?_getD,hy];rfl,← hb,show (k == 0) = false by simpa using h0]
     rfl
    have CG:=fun W => Lib.hid (HGG ⟨xr,xs,xl,xt,xc⟩ ⟨yr,ys,yl,yt,yc⟩ W).out
    rw [← hb] at CG
    have HM:=Lib.hid hm
    have H0:=Lib.hid h0
    clear hca hx hy hm hb h0
    go_wp2_with fail
    rw [← hW1]
    clear hW1
    refine t_region (Grows) [(0,false),(1,false),(2,false),(3,false),(4,false),(5,false),(6,false),(7,false),(8,false),(9,false),(10,true),(11,false)] Grows.refl Grows.trans (by kernel_rfl) (by kernel_rfl) (fun d _ _ _ _ h => by cases d <;> exact h) ?_
    iterate 10 (refine t_quiet rfl (fun K hK => ?_);go_simp;refine hK _ ?_;clear hK K)
    refine t_late rfl rfl (fun K hK => ?_)
    go_simp
    refine ((CG W1.drew).out).mono ?_
    rintro e w2 ⟨rfl,hg2⟩
    refine ⟨hg2,hK _ _ ?_⟩
    clear hK K
    iterate 1 (refine t_quiet rfl (fun K hK => ?_);go_simp;refine hK _ ?_;clear hK K)
    clear z0 z1 z2 z3 z4 d0 d1 d2 d3 d4
    refine t_end ?_
    have hg12:=Grows.trans _ _ _ hg1.dr hg2
    have hown1:=hown.grows hg12
    have hgw1:=Grows.trans _ _ _ hg hg12
    obtain ⟨acc,hacc⟩ : ∃ acc,acc = idxL nw l k:=⟨_,rfl⟩
    cases b with
    | true =>
     have HI:=Lib.hid (idxL_yes HB.out)
     rw [← hacc] at hown1 HI hlenI
     clear hacc hown hg1 hg CG hg2 hg12
     go_wp2_with (at_builtin;refine app_one5 natLay rfl _ _ rfl w.heap.size _ acc k rfl hown1 (Grows.refl _) _ 1 rfl #[.int .i64 k] rfl rfl (by omega) hgw1.size ?_;intro v5 w5 hown5 _ _ hg5)
     have HG5:=hg5 w hgw1 (Nat.le_refl _)
     rw [← HI.out] at hown5
     go_wp2_with fail
     go_roundw
     case rel => exact ⟨k + 1,by omega,by go_num,hown5,HG5⟩
     case measure => simp [intOf];omega
    | false =>
     have HI:=Lib.hid (idxL_no HB.out)
     rw [← hacc] at hown1 HI hlenI
     clear hacc hown hg1 hg CG hg2 hg12
     go_wp2_with fail
     rw [← HI.out] at hown1
     go_roundw
     case rel => exact ⟨k + 1,by omega,by go_num,hown1,hgw1⟩
     case measure => simp [intOf];omega
  ·obtain rfl : k = l.length:=by omega
   go_wp2_with fail
   go_ret
   exact ⟨hg,_,rfl,hown⟩
end Go.Proofs.YtepoiefadjoabaaGreatDoor
namespace Go.Proofs.YtepoiefadjoabaaGreatDoor
open Go Go.RowKit
attribute [local go_sem] quietE quietE2
theorem owns_EB {α : Type} {w w' : World} {B base : Nat} {e : TypeId} {k : Nat} {enc : α → List Value} {v : Value} {xs : List α} (h : Owns w base e k enc v xs) (hg : EB B w w') (hb : ∀ q, v.ownBlock = some q → q < B) : Owns w' base e k enc v xs := by
 obtain ⟨h1,h2⟩:=h
 refine ⟨h1, ?_⟩
 rcases h2 with h2 | ⟨g,cap,cur,hv,hbs,hh,r⟩
 ·exact Or.inl h2
 ·refine Or.inr ⟨g,cap,cur,hv,hbs, ?_,r⟩
  rw [Below.block hg.1 g (hb g (by rw [hv];rfl))]
  exact hh
def countsL (l : List Bool) (k : Nat) : List Nat := (List.range k).map fun g => rankT l (512 * g)
theorem countsL_succ (l : List Bool) (k : Nat) : countsL l (k + 1) = countsL l k ++ [rankT l (512 * k)] := by
 unfold countsL
 rw [List.range_succ,List.map_append];rfl
theorem countsL_len (l : List Bool) (k : Nat) : (countsL l k).length = k := by simp [countsL]
theorem vecWs_get {l : List Bool} {k : Nat} (h : k < (l.length + 63) / 64) : (vecWs l)[k]? = some (vecW l k) := by
 unfold vecWs
 rw [List.getElem?_map,List.getElem?_range h];rfl
theorem vecWs_len (l : List Bool) : (vecWs l).length = (l.length + 63) / 64 := by simp [vecWs]
theorem grownBy_more {w w1 w2 : World} {p : Nat} {row : Option Nat} (h : w.grownBy w1 (some p)) (k : w1.grownBy w2 row) (hr : ∀ q, row = some q → w.heap.size ≤ q) : w.grownBy w2 (some p) :=
 ⟨k.os.trans h.os,k.tape.trans h.tape,k.output.trans h.output,Nat.le_trans h.size k.size,fun i hi hne => (k.block i (Nat.lt_of_lt_of_le hi h.size) (fun e => by have:=hr i e.symm;omega)).trans (h.block i hi hne)⟩
theorem grownBy_put {w w1 : World} {p : Nat} (h : w.grownBy w1 (some p)) (j : Nat) (v : Value) : w.grownBy (w1.setCell ⟨p, j, none⟩ v) (some p) :=
 ⟨h.os,h.tape,h.output,by simpa using h.size,fun i hi hne => (Below.heap_setCell _ _ _ i (fun e => hne (by rw [e]))).trans (h.block i hi hne)⟩
theorem grownBy_EB {w w1 : World} {p : Nat} (h : w.grownBy w1 (some p)) (hp : p < w.heap.size) : EB p w w1 :=
 ⟨Below.grown (row:=some p) (Below.refl _ _) h (Nat.le_of_lt hp) (fun k hk => by cases hk;exact Nat.le_refl _),h.size⟩
set_option maxHeartbeats 8000000 in
set_option maxRecDepth 100000 in
theorem count_any (l : List Bool) (vb bw : Nat) (vW : Value) (w : World) (hl : l.length ≤ 1048576) (hvw : ∀ r, vW.ownBlock = some r → r ≠ vb)
  (c1 : w.cell? ⟨vb,1,none⟩ = some vW) (c2 : w.cell? ⟨vb,2,none⟩ = some (.slice none 0 0)) (f2 : w.frozen? ⟨vb,2,none⟩ = false)
  (hown : Owns w bw 116 1 n64C vW (vecWs l)) :
  Calls Tryz.prog 138 #[.pointer (some ⟨vb,0,none⟩)] w fun e w' => e = .returned (.tuple #[])∧(∃ vC,w'.cell? ⟨vb,2,none⟩ = some vC∧Owns w' w.heap.size 3 1 natC vC (countsL l ((l.length + 511) / 512)))∧(∀ j,j ≠ 2 → w'.cell? ⟨vb,j,none⟩ = w.cell? ⟨vb,j,none⟩)∧w.grownBy w' (some vb):=by
 obtain ⟨q,hq⟩ : ∃ q,q = (l.length + 63) / 64:=⟨_,rfl⟩
 have hqb : q ≤ 16384:=by omega
 have hvl:=World.block_lt_of_cell? w _ c1
 simp only at hvl
 obtain ⟨aW,cW,rfl,_,_,hatW⟩:=hown.at_ (enc:=n64C) (fun _ => rfl)
 have HNE : Hid (∀ r : Addr,aW = some r → some r.block ≠ some vb):=fun r hr e => hvw r.block (by rw [hr];rfl) (Option.some.inj e)
 have hWl:=vecWs_len l
 rw [← hq] at hWl
 rw [hWl] at c1
 have HWG : Hid (∀ k,k < q → (vecWs l)[k]? = some (vecW l k)):=fun k hk => vecWs_get (by omega)
 have HATW:=Lib.hid hatW
 have HQ : Hid ((l.length + 511) / 512 = (q + 7) / 8):=by show _ = _;omega
 clear hown hq hWl hatW hvw
 go_enter Tryz.func138,Tryz.ntmps138
 go_wp2_with fail
 go_loopw [2,10] (fun n i wr => ∃ (k N : Nat) (vC : Value),k ≤ q∧i = .int .i64 k∧n = .int .i64 N∧Hid (N = rankT l (64 * k))∧N ≤ 64 * k∧wr.cell? ⟨vb,1,none⟩ = some (.slice aW q cW)∧wr.cell? ⟨vb,2,none⟩ = some vC∧wr.frozen? ⟨vb,2,none⟩ = false∧Owns wr w.heap.size 3 1 natC vC (countsL l ((k + 7) / 8))∧Hid (∀ j,j ≠ 2 → wr.cell? ⟨vb,j,none⟩ = w.cell? ⟨vb,j,none⟩)∧Hid (w.grownBy wr (some vb))) (fun _ i _ => q - (intOf i).toNat)
 case atStart => exact ⟨0,0,_,Nat.zero_le _,rfl,rfl,rfl,Nat.zero_le _,c1,c2,f2,Owns.nil _ _ _ _ _,fun _ _ => rfl,grownBy_refl _ _⟩
 case round =>
  obtain ⟨k,N,vC,hk,rfl,rfl,hN,hNb,d1,d2,df,hown,hj,heb⟩:=hrel
  have hszr : w.heap.size ≤ wr.heap.size:=heb.out.size
  by_cases hlt : k < q
  ·obtain ⟨wb,wo,rfl,hcW⟩:=at1 (f:=fun n : Nat => Value.int .u64 n) (at_keep HATW.out heb.out HNE.out) (ne_nil_of_lt (k:=k) (by rw [vecWs_len];have:=(List.getElem?_eq_some_iff.1 (HWG.out k hlt)).1;rw [vecWs_len] at this;exact this))
   have hcx:=hcW k _ (HWG.out k hlt)
   clear hcW
   obtain ⟨x,hx⟩ : ∃ x,x = vecW l k:=⟨_,rfl⟩
   have hx64 : x < 18446744073709551616:=by rw [hx];exact vecW_lt l k
   rw [← hx] at hcx
   obtain ⟨S,hS⟩ : ∃ S,S = sumD 2 64 x:=⟨_,rfl⟩
   have HN2 : Hid (N + S = rankT l (64 * (k + 1))):=by show _ = _;rw [rankT_word,← hN.out,hS,hx]
   have hNS : N + S ≤ 64 * (k + 1):=by rw [HN2.out];exact rankT_le _ _
   have CO:=fun W => ones_any x W hx64
   rw [← hS] at CO
   have hki : (k : Int) < q:=by omega
   have hcl:=countsL_len l ((k + 7) / 8)
   clear hx hS
   by_cases h8 : k % 8 = 0
   ·have h8i : (k : Int) % 8 = 0:=by omega
    have hC2 : countsL l ((k + 1 + 7) / 8) = countsL l ((k + 7) / 8) ++ [N]:=by
     rw [show (k + 1 + 7) / 8 = (k + 7) / 8 + 1 by omega,countsL_succ,hN.out,show 512 * ((k + 7) / 8) = 64 * k by omega]
    have HC2:=Lib.hid hC2
    clear hC2
    obtain ⟨aC,cC,rfl,_,_,_⟩:=hown.at_ (enc:=natC) (fun _ => rfl)
    rw [hcl] at d2 hown
    have hnr : some vb ≠ (Value.slice aC ((k + 7) / 8) cC).ownBlock:=fun h => by
     have:=ownBlock_ge hown _ h.symm
     omega
    go_wp2_with (at_builtin;refine app_one5 natLay rfl _ _ rfl w.heap.size (.slice aC ((k + 7) / 8) cC) (countsL l ((k + 7) / 8)) N rfl hown (Grows.refl _) _ 1 rfl #[.int .i64 N] rfl rfl (by rw [hcl];omega) hszr ?_;intro v' w5 hown5 hk5 hf5 hg5;obtain ⟨a5,c5,rfl,_,_,_⟩:=hown5.at_ (enc:=natC) (fun _ => rfl);rw [show (countsL l ((k + 7) / 8) ++ [N]).length = (k + 7) / 8 + 1 by rw [List.length_append,hcl];rfl] at hown5 ⊢;have e1:=hk5.cell d1 hnr;have e2:=hk5.cell d2 hnr;have ef : w5.frozen? ⟨vb,2,none⟩ = false:=(World.frozen?_of_block (a:=⟨vb,2,none⟩) (hk5.block vb (by omega) hnr)).trans df)
    refine (CO _).mono ?_
    rintro e w6 ⟨rfl,rfl⟩
    go_wp2_with fail
    have hjj : ∀ j,j ≠ 2 → (w5.setCell ⟨vb,2,none⟩ (.slice a5 ((k + 7) / 8 + 1) c5)).cell? ⟨vb,j,none⟩ = w.cell? ⟨vb,j,none⟩:=fun j hj2 => by
     rw [World.cell?_setCell_other _ _ _ _ (fun h => hj2 (congrArg Addr.off h).symm),← hj.out j hj2]
     exact World.cell?_of_block (a:=⟨vb,j,none⟩) (hk5.block vb (by omega) hnr)
    have heb5 : Hid (w.grownBy (w5.setCell ⟨vb,2,none⟩ (.slice a5 ((k + 7) / 8 + 1) c5)) (some vb)):=grownBy_put (grownBy_more heb.out hk5 (fun r hr => ownBlock_ge hown r hr)) 2 _
    go_roundw
    case rel => exact ⟨k + 1,N + S,_,hlt,by go_num,by go_num,HN2.out,hNS,(World.cell?_setCell_other _ _ _ _ (fun h => by cases h)).trans e1,World.cell?_setCell_same _ _ _ e2,(World.frozen?_setCell _ _ _ _).trans ef,by rw [HC2.out];exact owns_setLo hown5 (p:=⟨vb,2,none⟩) hvl _,hjj,heb5⟩
    case measure => simp [intOf];omega
   ·have h8i : ¬ (k : Int) % 8 = 0:=by omega
    have hC2 : (k + 1 + 7) / 8 = (k + 7) / 8:=by omega
    have HC2:=Lib.hid hC2
    clear hC2 hcl
    go_wp2_with fail
    refine (CO _).mono ?_
    rintro e w6 ⟨rfl,rfl⟩
    go_wp2_with fail
    go_roundw
    case rel => exact ⟨k + 1,N + S,vC,hlt,by go_num,by go_num,HN2.out,hNS,d1,d2,df,by rw [HC2.out];exact hown,hj.out,heb⟩
    case measure => simp [intOf];omega
  ·have hki : ¬ (k : Int) < q:=by omega
   have hke : k = q:=by omega
   have HO : Hid (Owns wr w.heap.size 3 1 natC vC (countsL l ((l.length + 511) / 512))):=by show Owns _ _ _ _ _ _ _;rw [HQ.out,← hke];exact hown
   clear hke
   go_wp2_with fail
   refine bodyPost_end (v:=.tuple #[]) (by simp [results,Tryz.results138,go_sem]) rfl ⟨rfl,⟨vC,d2,HO.out⟩,hj.out,heb.out⟩
end Go.Proofs.YtepoiefadjoabaaGreatDoor
namespace Go.Proofs.YtepoiefadjoabaaGreatDoor
open Go Go.RowKit
attribute [local go_sem] quietE quietE2
def wordsV (l : List Bool) (q : Nat) : List Nat := (List.range q).map (vecW l)
theorem wordsV_len (l : List Bool) (q : Nat) : (wordsV l q).length = q := by simp [wordsV]
theorem wordsV_get {l : List Bool} {q k : Nat} (h : k < q) : (wordsV l q)[k]? = some (vecW l k) := by
 unfold wordsV
 rw [List.getElem?_map,List.getElem?_range h];rfl
theorem wordsV_nil (q : Nat) : wordsV [] q = List.replicate q 0 := by
 apply List.ext_getElem?
 intro k
 by_cases hk : k < q
 ·rw [wordsV_get hk,List.getElem?_replicate,if_pos hk,vecW_nil]
 ·rw [List.getElem?_eq_none (by rw [wordsV_len];omega),List.getElem?_eq_none (by simp;omega)]
theorem wordsV_false (l : List Bool) (q : Nat) : wordsV (l ++ [false]) q = wordsV l q := by
 unfold wordsV
 apply List.map_congr_left
 intro k _
 exact vecW_false l k
theorem wordsV_true {l : List Bool} {q Q S : Nat} (hS : S < 64) (hQ : l.length = 64 * Q + S) : wordsV (l ++ [true]) q = (wordsV l q).set Q (vecW l Q ||| (1 <<< S) % 18446744073709551616) := by
 apply List.ext_getElem?
 intro k
 by_cases hk : k < q
 ·rw [wordsV_get hk]
  by_cases hkQ : k = Q
  ·subst hkQ
   rw [List.getElem?_set_self (by rw [wordsV_len];exact hk),vecW_true hQ]
  ·rw [List.getElem?_set_ne (Ne.symm hkQ),wordsV_get hk,vecW_same hS hQ hkQ]
 ·rw [List.getElem?_eq_none (by rw [wordsV_len];omega),List.getElem?_eq_none (by rw [List.length_set,wordsV_len];omega)]
structure VecAt (w : World) (vb : Nat) (l : List Bool) : Prop where
 c0 : w.cell? ⟨vb,0,none⟩ = some (.int .i64 l.length)
 c1 : ∃ vW,w.cell? ⟨vb,1,none⟩ = some vW∧Owns w 0 116 1 n64C vW (vecWs l)
 c2 : ∃ vC,w.cell? ⟨vb,2,none⟩ = some vC∧Owns w 0 3 1 natC vC (vecCs l)
theorem VecAt.grows {w w' : World} {vb : Nat} {l : List Bool} (h : VecAt w vb l) (hg : Grows w w') : VecAt w' vb l := by
 obtain ⟨wb,h1,h2⟩:=h.c1
 obtain ⟨vC,h3,h4⟩:=h.c2
 exact ⟨hg.cell h.c0,⟨wb,hg.cell h1,h2.grows hg⟩,vC,hg.cell h3,h4.grows hg⟩
theorem one_or {x S : Nat} (hx : x < 18446744073709551616) : bits .or .u64 (x : Int) (IntKind.u64.wrap ((2 : Int) ^ S)) = ((x ||| (1 <<< S) % 18446744073709551616 : Nat) : Int) := by
 have h:=shl_or (v:=1) (S:=S) hx
 rw [show ((1 : Nat) : Int) * 2 ^ S = (2 : Int) ^ S by simp] at h
 exact h
set_option maxHeartbeats 8000000 in
set_option maxRecDepth 100000 in
theorem vnew_any (l : List Bool) (a : Option Addr) (c : Nat) (w : World) (hl : l.length ≤ 1048576) (hat : AtCells w a 1 (l.map boolC)) :
  Calls Tryz.prog 86 #[.slice a l.length c] w fun e w' => e = .returned (.tuple #[.pointer (some ⟨w.heap.size + 1,0,none⟩),.int .i64 0])∧VecAt w' (w.heap.size + 1) l∧Grows w w':=by
 have HAT:=Lib.hid hat
 obtain ⟨q,hq⟩ : ∃ q,q = (l.length + 63) / 64:=⟨_,rfl⟩
 have hqb : q ≤ 16384:=by omega
 have HQ:=Lib.hid hq
 have hlw : ¬ (1048576 : Int) < l.length:=by omega
 have eq1 : ((l.length : Int) + 63) / 64 = q:=by omega
 have eq2 : ((l.length : Int) + 63).tdiv 64 = q:=by rw [Int.tdiv_eq_ediv_of_nonneg (by omega)];exact eq1
 have wq : IntKind.i64.wrap (q : Int) = q:=by simp [IntKind.wrap,IntKind.bits,IntKind.signed];omega
 have hmk:=fun (Y : World) => mk64 q Y (by omega)
 clear hat hq
 go_enter Tryz.func86,Tryz.ntmps86
 go_wp2_with fail
 have hmade0:=made64 (w:=w) (n:=q) (by omega)
 rw [Nat.mul_one] at hmade0
 obtain ⟨W1,hW1⟩ : ∃ W1,W1 = w.alloc (.cells (madeCells #[.int .u64 0] q) 116):=⟨_,rfl⟩
 have hs1 : W1.heap.size = w.heap.size + 1:=by rw [hW1];simp
 have hgA : Grows w W1:=by rw [hW1];exact Grows.alloc _ _
 rw [← hW1] at hmade0 ⊢
 obtain ⟨W2,hW2⟩ : ∃ W2,W2 = W1.alloc (.cells #[.int .i64 l.length,.slice (some ⟨w.heap.size,0,none⟩) q q,.slice none 0 0] 196):=⟨_,rfl⟩
 have hbx:=fun j u h => cell_box W1 #[.int .i64 l.length,.slice (some ⟨w.heap.size,0,none⟩) q q,.slice none 0 0] 196 (0,0) j u h
 rw [← hW2,hs1] at hbx
 have b0:=hbx 0 _ rfl
 have b1:=hbx 1 _ rfl
 have b2:=hbx 2 _ rfl
 have bf : W2.frozen? ⟨w.heap.size + 1,2,none⟩ = false:=by rw [hW2,← hs1];exact box_froz _ _ _ _
 have hgB : Grows W1 W2:=by rw [hW2];exact Grows.alloc _ _
 have hown2:=hmade0.grows hgB
 have hg2:=hgA.tr hgB
 rw [← wordsV_nil q] at hown2
 rw [← hW2]
 clear hW1 hW2 hbx hmade0 hs1 hgA hgB hmk eq1 eq2 wq
 go_loopw [21] (fun i wr => ∃ k : Nat,k ≤ l.length∧i = .int .i64 k∧wr.cell? ⟨w.heap.size + 1,0,none⟩ = some (.int .i64 l.length)∧wr.cell? ⟨w.heap.size + 1,1,none⟩ = some (.slice (some ⟨w.heap.size,0,none⟩) q q)∧wr.cell? ⟨w.heap.size + 1,2,none⟩ = some (.slice none 0 0)∧wr.frozen? ⟨w.heap.size + 1,2,none⟩ = false∧Owns wr w.heap.size 116 1 n64C (.slice (some ⟨w.heap.size,0,none⟩) q q) (wordsV (l.take k) q)∧Grows w wr) (fun i _ => l.length - (intOf i).toNat)
 case atStart => exact ⟨0,Nat.zero_le _,rfl,b0,b1,b2,bf,hown2,hg2⟩
 case round =>
  obtain ⟨k,hk,rfl,d0,d1,d2,df,hown,hg⟩:=hrel
  by_cases hlt : k < l.length
  ·obtain ⟨x,hx⟩ : ∃ x,l[k]? = some x:=⟨_,List.getElem?_eq_getElem hlt⟩
   obtain ⟨b,o,rfl,hc⟩:=at1 HAT.out (ne_nil_of_lt hlt)
   have hcx:=hg.cell (hc k x hx)
   have hki : (k : Int) < l.length:=by omega
   cases x
   ·have HO : Hid (Owns wr w.heap.size 116 1 n64C (.slice (some ⟨w.heap.size,0,none⟩) q q) (wordsV (l.take (k + 1)) q)):=by show Owns _ _ _ _ _ _ _;rw [takeSnoc hx,wordsV_false];exact hown
    clear hc hx
    go_wp2_with fail
    go_roundw
    case rel => exact ⟨k + 1,hlt,by go_num,d0,d1,d2,df,HO.out,hg⟩
    case measure => simp [intOf];omega
   ·obtain ⟨Q,hQ⟩ : ∃ Q,Q = k / 64:=⟨_,rfl⟩
    obtain ⟨S,hS⟩ : ∃ S,S = k % 64:=⟨_,rfl⟩
    have hS64 : S < 64:=by omega
    have hQq : Q < q:=by have:=HQ.out;omega
    have eQ : (k : Int) / 64 = Q:=by omega
    have eS : (k : Int) % 64 = S:=by omega
    have hQi : (Q : Int) < q:=by omega
    have eT : (k : Int).tmod 64 = S:=by rw [Int.tmod_eq_emod_of_nonneg (by omega)];exact eS
    have wQ : IntKind.i64.wrap (Q : Int) = Q:=by simp [IntKind.wrap,IntKind.bits,IntKind.signed];omega
    have wS : IntKind.i64.wrap (S : Int) = S:=by simp [IntKind.wrap,IntKind.bits,IntKind.signed];omega
    obtain ⟨y,hy⟩ : ∃ y,y = vecW (l.take k) Q:=⟨_,rfl⟩
    have hy64 : y < 18446744073709551616:=by rw [hy];exact vecW_lt _ _
    have hownd:=hown.grows (Grows.drew wr)
    have e1 : wr.cell? ⟨w.heap.size,Q,none⟩ = some (.int .u64 y):=own_cell1 (f:=fun n : Nat => Value.int .u64 n) hown (by rw [wordsV_get hQq,hy])
    obtain ⟨f1,_,hown1⟩:=owns_set1 (f:=fun n : Nat => Value.int .u64 n) hownd (k:=Q) (by rw [wordsV_len];exact hQq) (y ||| (1 <<< S) % 18446744073709551616)
    have hor:=one_or (S:=S) hy64
    obtain ⟨y1,hy1⟩ : ∃ y1,y1 = y ||| (1 <<< S) % 18446744073709551616:=⟨_,rfl⟩
    rw [← hy1] at hor hown1
    have HO : Hid (Owns (wr.drew.setCell ⟨w.heap.size,Q,none⟩ (.int .u64 y1)) w.heap.size 116 1 n64C (.slice (some ⟨w.heap.size,0,none⟩) q q) (wordsV (l.take (k + 1)) q)):=by
     show Owns _ _ _ _ _ _ _
     rw [takeSnoc hx,wordsV_true (Q:=Q) hS64 (by rw [List.length_take];omega),← hy,← hy1]
     exact hown1
    have z1 : ∀ x : Ext Grows wr.drew,x.u.cell? ⟨w.heap.size + 1,1,none⟩ = some (.slice (some ⟨w.heap.size,0,none⟩) q q):=ext_cell ((Grows.drew wr).cell d1)
    have z2 : ∀ x : Ext Grows wr.drew,x.u.cell? ⟨w.heap.size,Q,none⟩ = some (.int .u64 y):=ext_cell ((Grows.drew wr).cell e1)
    clear hc hx hQ hS hy hy1 hown1 hownd
    go_wp2_with fail
    refine t_tail (Grows) 12 [(0,false),(1,false),(2,false),(3,false),(4,false),(5,false),(6,false),(7,false),(8,false),(9,false),(10,false),(11,false)] Grows.refl Grows.trans (by kernel_rfl) (by kernel_rfl) (fun d _ _ _ _ h => by cases d <;> exact h) ?_
    iterate 12 (refine t_quiet rfl (fun K hK => ?_);go_simp;refine hK _ ?_;clear hK K)
    clear z1 z2
    refine t_end ?_
    simp only [List.drop_succ_cons,List.drop_zero]
    go_wp2_with fail
    have h0 : ∀ j,(wr.drew.setCell ⟨w.heap.size,Q,none⟩ (.int .u64 y1)).cell? ⟨w.heap.size + 1,j,none⟩ = wr.cell? ⟨w.heap.size + 1,j,none⟩:=fun j => World.cell?_setCell_other _ _ _ _ (fun h => by have:=congrArg Addr.block h;simp at this)
    go_roundw
    case rel => exact ⟨k + 1,hlt,by go_num,(h0 0).trans d0,(h0 1).trans d1,(h0 2).trans d2,(World.frozen?_setCell _ _ _ _).trans df,HO.out,(hg.dr).set (Nat.le_refl _) _⟩
    case measure => simp [intOf];omega
  ·have hki : ¬ (k : Int) < l.length:=by omega
   have hke : k = l.length:=by omega
   rw [hke,List.take_length] at hown
   have hd1:=d1
   have hown3:=hown
   rw [HQ.out] at hd1 hown3
   have CC:=count_any l (w.heap.size + 1) w.heap.size _ wr hl (fun r hr => by have : w.heap.size = r:=Option.some.inj hr;omega) hd1 d2 df hown3
   clear hke hd1
   go_wp2_with fail
   refine CC.mono ?_
   rintro e w5 ⟨rfl,⟨vC,g2,hownC⟩,hj,hgb⟩
   have hvl5 : w.heap.size + 1 < wr.heap.size:=World.block_lt_of_cell? wr _ d0
   have heb:=grownBy_EB hgb hvl5
   have HV : Hid (VecAt w5 (w.heap.size + 1) l):=by
    refine ⟨by rw [hj 0 (by decide)];exact d0,⟨.slice (some ⟨w.heap.size,0,none⟩) ((l.length + 63) / 64) ((l.length + 63) / 64), ?_, ?_⟩,vC,g2,hownC.base (Nat.zero_le _)⟩
    ·rw [hj 1 (by decide),← HQ.out];exact d1
    ·exact (owns_EB hown3 heb (fun r hr => by have : w.heap.size = r:=Option.some.inj hr;omega)).base (Nat.zero_le _)
   have hg5 : Grows w w5:=Below.trans hg (Below.mono heb.1 (Nat.le_succ _))
   clear hj heb hown3 hown hownC g2
   go_wp2_with fail
   refine bodyPost_ret (v:=.tuple #[.pointer (some ⟨w.heap.size + 1,0,none⟩),.int .i64 0]) (by simp [results,Tryz.results86,go_sem]) rfl ⟨rfl,HV.out,hg5⟩
end Go.Proofs.YtepoiefadjoabaaGreatDoor
namespace Go.Proofs.YtepoiefadjoabaaGreatDoor
open Go Go.RowKit
attribute [local go_sem] quietE quietE2
theorem vecCs_at {l : List Bool} {k : Nat} (h : k < (l.length + 511) / 512) : (vecCs l)[k]? = some (rankT l (512 * k)) := by
 unfold vecCs
 rw [List.getElem?_map,List.getElem?_range h];rfl
set_option maxHeartbeats 1000000 in
theorem vlen_any (l : List Bool) (vb : Nat) (w : World) (hat : VecAt w vb l) :
  Calls Tryz.prog 142 #[.pointer (some ⟨vb,0,none⟩)] w fun e w' => e = .returned (.int .i64 l.length)∧w = w':=by
 have c0:=hat.c0
 clear hat
 go_enter Tryz.func142,Tryz.ntmps142
 go_wp2_with fail
 go_ret
 exact ⟨rfl,rfl⟩
set_option maxHeartbeats 8000000 in
set_option maxRecDepth 100000 in
theorem rank_any (l : List Bool) (vb : Nat) (b : Bool) (i : Nat) (w : World) (hl : l.length ≤ 1048576) (hi : i ≤ 1048576) (hat : VecAt w vb l) :
  Calls Tryz.prog 90 #[.pointer (some ⟨vb,0,none⟩),.bool b,.int .i64 i] w fun e w' => e = .returned (.int .i64 (rankB l b (min i l.length)))∧w = w':=by
 obtain ⟨vW,h1,h2⟩:=hat.c1
 obtain ⟨aW,cW,rfl,_,_,hatW⟩:=h2.at_ (enc:=n64C) (fun _ => rfl)
 have hwl:=vecWs_len l
 rw [hwl] at h1
 obtain ⟨vC,h3,h4⟩:=hat.c2
 have CL:=Lib.hid (vlen_any l vb w hat)
 obtain ⟨aC,cC,rfl,_,_,hatC⟩:=h4.at_ (enc:=natC) (fun _ => rfl)
 have hcl : (vecCs l).length = (l.length + 511) / 512:=by simp [vecCs]
 rw [hcl] at h3
 have c0:=hat.c0
 obtain ⟨m,hm⟩ : ∃ m,m = min i l.length:=⟨_,rfl⟩
 rw [← hm]
 have hml : m ≤ l.length:=by omega
 by_cases hm0 : m = 0
 ·have hv : rankB l b m = 0:=by subst hm0;cases b <;> rfl
  have e1 : min (i : Int) l.length = 0:=by omega
  have e2 : max (0 : Int) 0 = 0:=rfl
  rw [hv]
  clear hat h1 h2 h3 h4 hatC hatW hv hwl
  go_enter Tryz.func90,Tryz.ntmps90
  go_wp2_with fail
  refine CL.out.mono ?_
  rintro e w2 ⟨rfl,rfl⟩
  go_wp2_with fail
  go_ret
  exact ⟨rfl,rfl⟩
 ·obtain ⟨b1,o1,rfl,hcC⟩:=at1 (f:=fun n : Nat => Value.int .i64 n) hatC (ne_nil_of_lt (k:=0) (by rw [hcl];omega))
  obtain ⟨bW,oW,rfl,hcW⟩:=at1 (f:=fun n : Nat => Value.int .u64 n) hatW (ne_nil_of_lt (k:=0) (by rw [hwl];omega))
  have hcells : ∀ k,k < (l.length + 63) / 64 → w.cell? ⟨bW,oW + k,none⟩ = some (.int .u64 (vecW l k)):=fun k hk => hcW k _ (vecWs_get hk)
  have HC:=Lib.hid hcells
  obtain ⟨L,hL⟩ : ∃ L,L = (m - 1) / 64:=⟨_,rfl⟩
  have hLq : L < (l.length + 63) / 64:=by omega
  have hcx:=hcC (L / 8) _ (vecCs_at (l:=l) (k:=L / 8) (by omega))
  have eL : ((m : Int) - 1).tdiv 64 = L:=by rw [Int.tdiv_eq_ediv_of_nonneg (by omega)];omega
  have eL8 : (L : Int).tdiv 8 = (L / 8 : Nat):=by rw [Int.tdiv_eq_ediv_of_nonneg (by omega)];omega
  have eM : ((m : Int) - 1).tmod 64 = ((m - 1) % 64 : Nat):=by rw [Int.tmod_eq_emod_of_nonneg (by omega)];omega
  have e1 : min (i : Int) l.length = m:=by omega
  have e2 : max (0 : Int) m = m:=by omega
  obtain ⟨R0,hR0⟩ : ∃ R0,R0 = rankT l (512 * (L / 8)):=⟨_,rfl⟩
  rw [← hR0] at hcx
  have hR0b : R0 ≤ 512 * (L / 8):=by rw [hR0];exact rankT_le _ _
  have HR0 : Hid (R0 = rankT l (64 * (8 * (L / 8)))):=by show _ = _;rw [hR0];congr 1;omega
  obtain ⟨q,hq⟩ : ∃ q,q = (l.length + 63) / 64:=⟨_,rfl⟩
  obtain ⟨q5,hq5⟩ : ∃ q5,q5 = (l.length + 511) / 512:=⟨_,rfl⟩
  have hL5 : L / 8 < q5:=by omega
  have hLm : L ≤ 16384:=by omega
  rw [← hq] at h1 hLq HC
  rw [← hq5] at h3
  obtain ⟨L8,hL8⟩ : ∃ L8,L8 = L / 8:=⟨_,rfl⟩
  have hL8b : 8 * L8 ≤ L:=by omega
  rw [← hL8] at hcx eL8 HR0 hL5 hR0b
  have HL:=Lib.hid hL
  have HL8:=Lib.hid hL8
  clear hat h2 h4 hatC hcC hcells hcW hatW hwl hq hq5 hR0 hcl hL hL8
  have em : min i l.length = m:=hm.symm
  clear hm
  have fL : ((m : Int) - 1) / 64 = L:=by have:=HL.out;omega
  have gL : (m - 1) / 64 = L:=HL.out.symm
  have fL8 : (L : Int) / 8 = L8:=by have:=HL8.out;omega
  have gL8 : L / 8 = L8:=HL8.out.symm
  have wL8 : IntKind.i64.wrap ((L8 : Int) * 8) = (8 * L8 : Nat):=by simp [IntKind.wrap,IntKind.bits,IntKind.signed];omega
  go_enter Tryz.func90,Tryz.ntmps90
  go_wp2_with fail
  refine CL.out.mono ?_
  rintro e w2 ⟨rfl,rfl⟩
  go_wp2_with fail
  have hmz : ((m : Int) == 0) = false:=by simp;omega
  rw [hmz]
  clear hmz
  go_loopw [8,9] (fun n k wr => ∃ (K N : Nat),K ≤ L∧k = .int .i64 K∧n = .int .i64 N∧Hid (N = rankT l (64 * K))∧N ≤ 64 * K∧Hid (wr = w)) (fun _ k _ => L - (intOf k).toNat)
  case atStart => exact ⟨8 * L8,R0,hL8b,by go_num,rfl,HR0.out,by omega,rfl⟩
  case round =>
   obtain ⟨K,N,hK,rfl,rfl,hN,hNb,hw⟩:=hrel
   obtain rfl:=hw.out
   have hKq : K < q:=by omega
   have hcx:=HC.out K hKq
   obtain ⟨x,hx⟩ : ∃ x,x = vecW l K:=⟨_,rfl⟩
   have hx64 : x < 18446744073709551616:=by rw [hx];exact vecW_lt l K
   rw [← hx] at hcx
   by_cases hlt : K < L
   ·obtain ⟨S,hS⟩ : ∃ S,S = sumD 2 64 x:=⟨_,rfl⟩
    have HN2 : Hid (N + S = rankT l (64 * (K + 1))):=by show _ = _;rw [rankT_word,← hN.out,hS,hx]
    have hNS : N + S ≤ 64 * (K + 1):=by rw [HN2.out];exact rankT_le _ _
    have CO:=fun W => ones_any x W hx64
    rw [← hS] at CO
    have hki : (K : Int) < L:=by omega
    clear hx hS
    go_wp2_with fail
    refine (CO _).mono ?_
    rintro e w6 ⟨rfl,rfl⟩
    go_wp2_with fail
    go_roundw
    case rel => exact ⟨K + 1,N + S,hlt,by go_num,by go_num,HN2.out,hNS,trivial⟩
    case measure => simp [intOf];omega
   ·have hki : ¬ (K : Int) < L:=by omega
    obtain rfl : K = L:=by omega
    obtain ⟨s,hs⟩ : ∃ s,s = (m - 1) % 64:=⟨_,rfl⟩
    have hs64 : s < 64:=by omega
    have eS : ((m : Int) - 1) % 64 = s:=by omega
    rw [← hs] at eM
    obtain ⟨y,hy⟩ : ∃ y,y = (x <<< (63 - s)) % 18446744073709551616:=⟨_,rfl⟩
    have hy64 : y < 18446744073709551616:=by rw [hy];exact Nat.mod_lt _ (by decide)
    obtain ⟨S,hS⟩ : ∃ S,S = sumD 2 64 y:=⟨_,rfl⟩
    have HN2 : Hid (N + S = rankT l m):=by show _ = _;rw [hN.out,hS,hy,hx,rank_last l K s hs64];congr 1;have:=HL.out;omega
    have hNS : N + S ≤ m:=by rw [HN2.out];exact rankT_le _ _
    have CO:=fun W => ones_any y W hy64
    rw [← hS] at CO
    have HY : Hid (IntKind.u64.wrap ((x : Int) * 2 ^ (63 - s)) = y):=by
     show _ = _
     rw [hy,Nat.shiftLeft_eq,show (x : Int) * 2 ^ (63 - s) = ((x * 2 ^ (63 - s) : Nat) : Int) by push_cast;rfl]
     generalize x * 2 ^ (63 - s) = N
     simp [IntKind.wrap,IntKind.bits,IntKind.signed]
    have hsm : (m - 1) % 64 = s:=hs.symm
    clear hx hS hy hs
    go_wp2_with fail
    rw [HY.out]
    refine (CO _).mono ?_
    rintro e w6 ⟨rfl,rfl⟩
    have hnp : min (m : Int) (N + S) = N + S:=by omega
    have hb1 : rankB l true m = N + S:=HN2.out.symm
    have hb2 : rankB l false m = m - (N + S):=by rw [HN2.out];rfl
    cases b
    ·go_wp2_with fail
     go_ret
     refine ⟨?_,rfl⟩
     rw [hb2]
     congr 2
     rw [Int.ofNat_sub hNS]
     push_cast
     rfl
    ·go_wp2_with fail
     go_ret
     exact ⟨by rw [hb1];congr 2,rfl⟩
end Go.Proofs.YtepoiefadjoabaaGreatDoor
namespace Go.Proofs.YtepoiefadjoabaaGreatDoor
open Go Go.RowKit
attribute [local go_sem] quietE quietE2
set_option maxHeartbeats 8000000 in
set_option maxRecDepth 100000 in
theorem selc_any (l : List Bool) (vb b1 b2 b3 : Nat) (b : Bool) (k i : Nat) (w : World) (hl : l.length ≤ 1048576) (hi : i < l.length) (hat : VecAt w vb l)
  (c1 : w.cell? ⟨b1,0,none⟩ = some (.pointer (some ⟨vb,0,none⟩))) (c2 : w.cell? ⟨b2,0,none⟩ = some (.bool b)) (c3 : w.cell? ⟨b3,0,none⟩ = some (.int .i64 k)) :
  Calls Tryz.prog 145 #[.int .i64 i,.pointer (some ⟨b1,0,none⟩),.pointer (some ⟨b2,0,none⟩),.pointer (some ⟨b3,0,none⟩)] w fun e w' => e = .returned (.bool (decide (k < rankB l b (i + 1))))∧w' = w.drew:=by
 obtain ⟨R,hR⟩ : ∃ R,R = rankB l b (i + 1):=⟨_,rfl⟩
 have CR : Hid (∀ u,Grows w u → Calls Tryz.prog 90 #[.pointer (some ⟨vb,0,none⟩),.bool b,.int .i64 ((i : Int) + 1)] u fun e w' => e = .returned (.int .i64 R)∧u = w'):=by
  intro u hg
  have h:=rank_any l vb b (i + 1) u hl (by omega) (hat.grows hg)
  rw [Nat.min_eq_left (by omega : i + 1 ≤ l.length),← hR] at h
  exact h
 rw [← hR]
 have z1 : ∀ x : Ext Grows w.drew,x.u.cell? ⟨b1,0,none⟩ = some (.pointer (some ⟨vb,0,none⟩)):=ext_cell ((Grows.drew w).cell c1)
 have z2 : ∀ x : Ext Grows w.drew,x.u.cell? ⟨b2,0,none⟩ = some (.bool b):=ext_cell ((Grows.drew w).cell c2)
 have z3 : ∀ x : Ext Grows w.drew,x.u.cell? ⟨b3,0,none⟩ = some (.int .i64 k):=ext_cell ((Grows.drew w).cell c3)
 have hdec : decide ((k : Int) < R) = decide (k < R):=by simp
 have wi : IntKind.i64.wrap ((i : Int) + 1) = (i : Int) + 1:=by simp [IntKind.wrap,IntKind.bits,IntKind.signed];omega
 clear hat hR
 go_enter Tryz.func145,Tryz.ntmps145
 go_wp2_with fail
 refine t_region (Grows) [(0,false),(1,false),(2,false),(3,false),(4,false),(5,false),(6,false),(7,false)] Grows.refl Grows.trans (by kernel_rfl) (by kernel_rfl) (fun d _ _ _ _ h => by cases d <;> exact h) ?_
 iterate 4 (refine t_quiet rfl (fun K hK => ?_);go_simp;refine hK _ ?_;clear hK K)
 refine t_quiet rfl (fun K hK => ?_)
 go_simp
 apply Exists.intro
 refine ⟨fun x => ?_,hK _ ?_⟩
 ·go_at_call 90;exact calls_same (CR.out _ ((Grows.drew w).tr x.h))
 clear hK K
 iterate 3 (refine t_quiet rfl (fun K hK => ?_);go_simp;refine hK _ ?_;clear hK K)
 refine t_end ?_
 go_wp2_with fail
 go_ret
 exact ⟨by simp,rfl⟩
end Go.Proofs.YtepoiefadjoabaaGreatDoor
