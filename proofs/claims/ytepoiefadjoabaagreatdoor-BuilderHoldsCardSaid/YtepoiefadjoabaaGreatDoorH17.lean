/- The texts PairC SortW, one behind the other. -/
import Derived.Test.YtepoiefadjoabaaGreatDoorH3
import Derived.Test.YtepoiefadjoabaaGreatDoorH9
import Derived.Test.YtepoiefadjoabaaGreatDoorH12
import Derived.Test.YtepoiefadjoabaaGreatDoorShelf2
import Derived.Test.YtepoiefadjoabaaGreatDoorH16
import Derived.Test.YtepoiefadjoabaaGreatDoorH7
namespace Go.Proofs.YtepoiefadjoabaaGreatDoor
open Go Go.RowKit Go.Shelf
attribute [local go_sem] quietE
def pairC (x : Int × Int) : List Value := [.int .i64 x.1, .int .i64 x.2]
set_option maxHeartbeats 1000000 in
set_option maxRecDepth 100000 in
theorem pairCmp_any (a b c d : Int) (w : World) :
  Calls Tryz.prog 153 #[.agg #[.int .i64 a,.int .i64 b],.agg #[.int .i64 c,.int .i64 d]] w fun e w' =>
   e = .returned (.int .i64 (orI [cmpI a c,cmpI b d]))∧GrowsD w w':=by
 go_enter Tryz.func153,Tryz.ntmps153
 go_wp2
 generalize hW : (w.alloc (.cells #[.int .i64 a,.int .i64 b] 162)).alloc (.cells #[.int .i64 c,.int .i64 d] 162) = W
 have hB : GrowsD w W:=by rw [← hW];exact (GrowsD.alloc _ _).tr (GrowsD.alloc _ _)
 have hx : ∀ j v,#[Value.int .i64 a,.int .i64 b][j]? = some v → W.drew.cell? ⟨w.heap.size,j,none⟩ = some v:=fun j v h => by
  rw [← hW];exact (Grows.alloc _ _).cell (cell_box w _ _ _ j v h)
 have hy : ∀ j v,#[Value.int .i64 c,.int .i64 d][j]? = some v → W.drew.cell? ⟨w.heap.size + 1,j,none⟩ = some v:=fun j v h => by
  rw [← hW]
  have:=cell_box (w.alloc (.cells #[.int .i64 a,.int .i64 b] 162)) _ 162 (0,0) j v h
  simpa using this
 clear hW
 have x0 : ∀ x : Ext GrowsD (W.drew),x.u.cell? ⟨w.heap.size,0,none⟩ = some (.int .i64 a):=ext_cellD (hx 0 _ rfl)
 have x1 : ∀ x : Ext GrowsD (W.drew),x.u.cell? ⟨w.heap.size,1,none⟩ = some (.int .i64 b):=ext_cellD (hx 1 _ rfl)
 have y0 : ∀ x : Ext GrowsD (W.drew),x.u.cell? ⟨w.heap.size + 1,0,none⟩ = some (.int .i64 c):=ext_cellD (hy 0 _ rfl)
 have y1 : ∀ x : Ext GrowsD (W.drew),x.u.cell? ⟨w.heap.size + 1,1,none⟩ = some (.int .i64 d):=ext_cellD (hy 1 _ rfl)
 clear hx hy
 refine wp_region_ord GrowsD [(0,false),(1,false),(2,false),(3,false),(4,false),(5,false),(6,false),(7,false),(8,false),(9,false),(10,true),(11,true),(12,true)] GrowsD.refl GrowsD.trans (by kernel_rfl) (by kernel_rfl) (fun d _ _ _ _ h => by cases d <;> exact h) ?_
 repeat (refine ord_quiet rfl (fun K hK => ?_);go_simp;first | (refine hK _ ?_;clear hK K) | (apply Exists.intro;refine ⟨fun x => ?_,hK _ ?_⟩;((first | (go_at_call 111;exact calls_ext_sameD (compareI_any _ _ _))));clear hK K))
 clear x0 x1 y0 y1
 refine ord_late_w rfl rfl (fun K hK w2 h2 => ?_)
 go_simp
 refine ⟨GrowsD.alloc _ _,hK _ _ ?_⟩
 clear hK K
 have hz : ∀ k,k < [cmpI a c,cmpI b d].length → (w2.alloc (.cells #[.int .i64 (cmpI a c),.int .i64 (cmpI b d)] 3)).cell? ⟨w2.heap.size,0 + k,none⟩ = some (.int .i64 ([cmpI a c,cmpI b d][k]?.getD 0)):=fun k hk => by
  refine cell_box w2 _ _ _ _ _ ?_
  match k,hk with
  | 0,_ => rfl
  | 1,_ => rfl
 have h3 : GrowsD w2 (w2.alloc (.cells #[.int .i64 (cmpI a c),.int .i64 (cmpI b d)] 3)):=GrowsD.alloc _ _
 generalize w2.alloc _ = w3 at hz h3 ⊢
 refine ord_late_w rfl rfl (fun K hK w4 h4 => ?_)
 go_simp
 refine (or_any [cmpI a c,cmpI b d] w2.heap.size 0 2 w4 (by simp) (fun k hk => h4.1.cell (hz k hk))).mono ?_
 rintro e w' ⟨rfl,rfl⟩
 refine ⟨GrowsD.refl _,hK _ _ ?_⟩
 clear hK K
 refine ord_late_w rfl rfl (fun K hK w5 h5 => ?_)
 go_simp
 refine ⟨GrowsD.refl _,hK _ _ ?_⟩
 clear hK K
 refine ord_end (fun w6 h6 => ?_)
 have hB6 : GrowsD w w6:=(((((hB.tr (GrowsD.drew _)).tr h2).tr h3).tr h4).tr h5).tr h6
 go_wp2
 go_ret
 exact ⟨rfl,hB6⟩
theorem cmpLaysP (blk off size : Nat) (w : World) : CmpLays Tryz.prog 153 #[] pairC 2 cmpP blk off size w := fun m os dk _ x y =>
 (pairCmp_any x.1 x.2 y.1 y.2 (sortWorldK pairC 2 w blk off m dk os)).mono fun _ _ ⟨he,hg⟩ => ⟨he,hg.grow⟩
theorem ltOf_P (x y : Int × Int) : ltOf cmpP x y = true ↔ ltP x y := by
 rw [← cmpP_lt];simp [ltOf]
theorem swoP : Sort.SWO (ltOf cmpP) where
 irrefl x:=by
  cases h : ltOf cmpP x x with
  | false => rfl
  | true => exact absurd ((ltOf_P x x).1 h) (ltP_irrefl x)
 trans x y z h1 h2:=(ltOf_P x z).2 (ltP_trans ((ltOf_P x y).1 h1) ((ltOf_P y z).1 h2))
 ntrans x y z h1 h2:=by
  have k1 : ¬ ltP x y:=fun h => by rw [(ltOf_P x y).2 h] at h1;cases h1
  have k2 : ¬ ltP y z:=fun h => by rw [(ltOf_P y z).2 h] at h2;cases h2
  cases h : ltOf cmpP x z with
  | false => rfl
  | true =>
   have k3:=(ltOf_P x z).1 h
   unfold ltP at k1 k2 k3
   exfalso;omega
theorem psf_agg (w : World) : (isAgg 162).run Tryz.prog w = .ok true w := by kernel_rfl
theorem psf_size (w : World) : (Go.sizeOf 162).run Tryz.prog w = .ok 2 w := by kernel_rfl
theorem pairC_one : ∀ (x : Int × Int), ∀ v ∈ pairC x, v.oneCell' = true := fun x v hv => by
 simp [pairC] at hv
 rcases hv with rfl | rfl <;> rfl
theorem psortf_any (w : World) (base : Nat) (v : Value) (l : List (Int × Int)) (hown : Owns w base 162 2 pairC v l) (hl : l.length < 4611686018427387904) :
  Calls Tryz.prog 201 #[v,.func (.func 153) #[] #[]] w fun e w' => e = .returned (.tuple #[])∧∃ l',l'.Perm l∧l'.Pairwise (fun x y => ltOf cmpP y x = false)∧Owns w' base 162 2 pairC v l'∧w.grownBy w' v.ownBlock:=by
 have h:=sortFunc_owns Tryz.sortP psf_agg psf_size (fun _ => rfl) (by decide) pairC_one cmpP swoP 153 #[] (enters_of Tryz.func153 (by kernel_rfl) rfl) cmpLaysP w base 162 v l hown hl
 exact h
end Go.Proofs.YtepoiefadjoabaaGreatDoor
namespace Go.Proofs.YtepoiefadjoabaaGreatDoor
open Go Go.RowKit Go.Shelf
attribute [local go_sem] quietE
theorem zeroI (w : World) : (zeroValue 3).run Tryz.prog w = .ok (.int .i64 0) w := by kernel_rfl
theorem esf_agg (w : World) : (isAgg 38).run Tryz.prog w = .ok true w := by kernel_rfl
theorem esf_size (w : World) : (Go.sizeOf 38).run Tryz.prog w = .ok 5 w := by kernel_rfl
theorem esortf_any (w : World) (base : Nat) (v : Value) (l : List En) (hown : Owns w base 38 5 enCells v l) (hl : l.length < 4611686018427387904) :
  Calls Tryz.prog 60 #[v,.func (.func 61) #[] #[]] w fun e w' => e = .returned (.tuple #[])∧∃ l',l'.Perm l∧l'.Pairwise (fun x y => ltOf enCmp y x = false)∧Owns w' base 38 5 enCells v l'∧w.grownBy w' v.ownBlock:=by
 have h:=sortFunc_owns Tryz.sortE esf_agg esf_size (fun _ => rfl) (by decide) enCells_one enCmp swoE 61 #[] (enters_of Tryz.func61 (by kernel_rfl) rfl) cmpLaysE w base 38 v l hown hl
 exact h
set_option maxHeartbeats 4000000 in
set_option maxRecDepth 100000 in
theorem esort_any (l : List En) (la : Option Addr) (cap : Nat) (w : World) (hl : l.length ≤ 1048576) (hok : ∀ x ∈ l, EnOK x) (hat : AtCells w la 5 (l.map enCells)) :
  Calls Tryz.prog 18 #[.slice la l.length cap] w (ESortPost l w):=by
 have HAT:=Lib.hid hat
 have HOK:=Lib.hid hok
 clear hat hok
 have hmm:=@run_makeMap Tryz.prog
 go_enter Tryz.func18,Tryz.ntmps18
 go_wp2_with fail
 go_loopw [15] (fun i wr => ∃ (k : Nat) (D : DataW Unit),k ≤ l.length∧i = .int .i64 k∧wr.ownsMap Tryz.prog 38 (plainElem Tryz.prog 3) w.heap.size k D∧Hid (MapD (l.take k) D)∧Grows w wr) (fun i _ => l.length - (intOf i).toNat)
 case atStart => exact ⟨0,_,Nat.zero_le _,rfl,World.ownsMap_made _ _ _ _,mapD_nil,Grows.alloc _ _⟩
 case round =>
  obtain ⟨k,D,hk,rfl,hown,hM,hg⟩:=hrel
  by_cases hlt : k < l.length
  ·obtain ⟨⟨xr,xs,xl,xt,xc⟩,hx⟩ : ∃ x,l[k]? = some x:=⟨_,List.getElem?_eq_getElem hlt⟩
   obtain ⟨ba,oa,rfl,hca⟩:=(HAT.out.grows hg).get (ne_nil_of_lt hlt)
   have c0 : wr.cell? ⟨ba,oa + k * 5,none⟩ = some (.string xr):=hca k _ hx 0 _ rfl
   have c1 : wr.cell? ⟨ba,oa + k * 5 + 1,none⟩ = some (.string xs):=hca k _ hx 1 _ rfl
   have c2 : wr.cell? ⟨ba,oa + k * 5 + 2,none⟩ = some (.int .i64 xl):=hca k _ hx 2 _ rfl
   have c3 : wr.cell? ⟨ba,oa + k * 5 + 3,none⟩ = some (.int .i64 xt):=hca k _ hx 3 _ rfl
   have c4 : wr.cell? ⟨ba,oa + k * 5 + 4,none⟩ = some (.int .i64 xc):=hca k _ hx 4 _ rfl
   have hxok : EnOK ⟨xr,xs,xl,xt,xc⟩:=HOK.out _ (List.mem_of_getElem? hx)
   have hkok : EnOK ⟨xr,xs,xl,xt,0⟩:=hxok.key
   have HK:=Lib.hid hkok
   have hwc0 : (Lit.int .i64 xc).wf = true:=hxok.c
   obtain ⟨o,_,hA⟩:=(hM.out _ hkok).2 rfl
   have HT:=Lib.hid (take_snoc hx)
   have HX:=Lib.hid hxok
   clear hca hx hxok
   cases o with
   | none =>
    have hh : Maps.has D (klE ⟨xr,xs,xl,xt,0⟩) = false:=hA
    have HS : Hid (MapD (l.take k ++ [⟨xr,xs,xl,xt,xc⟩]) (D.put (klE ⟨xr,xs,xl,xt,0⟩) (.lit (.int .i64 xc)))):=hM.out.store hown.isMap HX.out (o:=none) hA (fun c hc => by cases hc)
    clear hA hkok
    go_wp2_with (first | (at_lookup;refine wpList_lookup_own_ok_int _ rfl _ _ 107 rfl 38 3 .i64 keyedE Tryz.underlying107 Tryz.underlying3 (zeroI _) w.heap.size k D rfl ((hown.alloc _).alloc _) _ (klE ⟨xr,xs,xl,xt,0⟩) rfl (keyE HK.out) ?_;intro c hat hwc;rw [hh];clear hat) | (at_mapUpdate;refine wpList_mapUpdate_own _ rfl _ _ _ 107 rfl 38 3 keyedE Tryz.underlying107 _ w.heap.size k D rfl ((hown.alloc _).alloc _) (by unfold maxLen;omega) _ _ (klE ⟨xr,xs,xl,xt,0⟩) rfl rfl (keyE HK.out) _ [] (plainElem_int Tryz.underlying3 hwc0) ?_;intro w1 hown1 hgrow1))
    go_roundw
    case rel => exact ⟨k + 1,_,hlt,by go_num,hown1,by rw [HT.out];exact HS.out,(((hg.al _).al _).grown hgrow1 (fun q hq => by cases hq;exact Nat.le_refl _))⟩
    case measure => simp [intOf];omega
   | some c0 =>
    have hh : Maps.has D (klE ⟨xr,xs,xl,xt,0⟩) = true:=hA.1
    have HA:=Lib.hid hA
    by_cases hc : xc < c0
    ·have HS : Hid (MapD (l.take k ++ [⟨xr,xs,xl,xt,xc⟩]) (D.put (klE ⟨xr,xs,xl,xt,0⟩) (.lit (.int .i64 xc)))):=hM.out.store hown.isMap HX.out (o:=some c0) hA (fun c hc2 => by cases hc2;exact hc)
     clear hA hkok
     go_wp2_with (first | (at_lookup;refine wpList_lookup_own_ok_int _ rfl _ _ 107 rfl 38 3 .i64 keyedE Tryz.underlying107 Tryz.underlying3 (zeroI _) w.heap.size k D rfl ((hown.alloc _).alloc _) _ (klE ⟨xr,xs,xl,xt,0⟩) rfl (keyE HK.out) ?_;intro c hat hwc;rw [hh];have hcc : c = c0:=(by have h1:=HA.out.2 (.lit (.int .i64 0));rw [hat] at h1;simpa using h1);have hlt2 : xc < c:=(by omega);clear hat hcc) | (at_mapUpdate;refine wpList_mapUpdate_own _ rfl _ _ _ 107 rfl 38 3 keyedE Tryz.underlying107 _ w.heap.size k D rfl ((hown.alloc _).alloc _) (by unfold maxLen;omega) _ _ (klE ⟨xr,xs,xl,xt,0⟩) rfl rfl (keyE HK.out) _ [] (plainElem_int Tryz.underlying3 hwc0) ?_;intro w1 hown1 hgrow1))
     go_roundw
     case rel => exact ⟨k + 1,_,hlt,by go_num,hown1,by rw [HT.out];exact HS.out,(((hg.al _).al _).grown hgrow1 (fun q hq => by cases hq;exact Nat.le_refl _))⟩
     case measure => simp [intOf];omega
    ·have HS : Hid (MapD (l.take k ++ [⟨xr,xs,xl,xt,xc⟩]) D):=hM.out.skip (z:=⟨xr,xs,xl,xt,xc⟩) hA (by simp only;omega)
     clear hA hkok
     go_wp2_with (first | (at_lookup;refine wpList_lookup_own_ok_int _ rfl _ _ 107 rfl 38 3 .i64 keyedE Tryz.underlying107 Tryz.underlying3 (zeroI _) w.heap.size k D rfl ((hown.alloc _).alloc _) _ (klE ⟨xr,xs,xl,xt,0⟩) rfl (keyE HK.out) ?_;intro c hat hwc;rw [hh];have hcc : c = c0:=(by have h1:=HA.out.2 (.lit (.int .i64 0));rw [hat] at h1;simpa using h1);have hlt2 : ¬ xc < c:=(by omega);clear hat hcc) | (at_mapUpdate;refine wpList_mapUpdate_own _ rfl _ _ _ 107 rfl 38 3 keyedE Tryz.underlying107 _ w.heap.size k D rfl ((hown.alloc _).alloc _) (by unfold maxLen;omega) _ _ (klE ⟨xr,xs,xl,xt,0⟩) rfl rfl (keyE HK.out) _ [] (plainElem_int Tryz.underlying3 hwc0) ?_;intro w1 hown1 hgrow1))
     go_roundw
     case rel => exact ⟨k + 1,D,hlt,by go_num,((hown.alloc _).alloc _).mono (Nat.le_succ _),by rw [HT.out];exact HS.out,(hg.al _).al _⟩
     case measure => simp [intOf];omega
  ·obtain rfl : k = l.length:=by omega
   rw [List.take_length] at hM
   obtain ⟨u0,rfl⟩ : ∃ u0,u0 = wr:=⟨_,rfl⟩
   have hszD:=hown.size_le
   go_wp2_with (first | (at_range;refine wpList_range_own _ rfl _ 107 rfl 38 3 keyedE Tryz.underlying107 _ w.heap.size l.length D rfl hown ?_;intro w0 hrg0 hg0 hs0))
   go_frame
   go_loopw [9] (fun v wx => ∃ (left : Lit → Bool) (cnt : Nat) (ys : List En),wx.ranges Tryz.prog 38 (plainElem Tryz.prog 3) w.heap.size u0.heap.size l.length D left cnt∧ys.length + cnt ≤ l.length∧Hid (CollE D left ys)∧Owns wx w.heap.size 38 5 enCells v ys∧Grows w wx) (fun _ wx => wx.rangeLeft w.heap.size u0.heap.size)
   case atStart => exact ⟨_,_,[],hrg0,by simpa using hszD,collE_start D,Owns.nil _ _ _ _ _,hg.grown hg0 (fun q hq => by cases hq)⟩
   case round =>
    obtain ⟨left,cnt,ys,hrg,hcs,hC,hown9,hg9⟩:=hrel
    go_wp2_with (first | (at_next;refine wpList_next_ranges _ rfl _ rfl 38 keyedE (plainElem Tryz.prog 3) (fun x : En => .agg #[.string x.r,.string x.s,.int .i64 x.l,.int .i64 x.t,.int .i64 x.c]) (Value.int .i64) (fun key kl hk => by obtain ⟨x,_,hx,_⟩:=keyE_inv hk;exact ⟨x,hx⟩) (fun v y hv => by obtain ⟨c,hc,_⟩:=plainElem_int_inv Tryz.underlying3 hv;exact ⟨c,hc⟩) w.heap.size u0.heap.size l.length D left cnt rfl hrg ?_ ?_))
    ·intro hc0 hl0
     have hmem:=fun y => hC.out.least hM.out HOK.out hl0 y
     have HMEM:=Lib.hid hmem
     clear hmem hc0 hl0
     go_wp2_with (first | (go_at_call 60;refine (esortf_any _ w.heap.size _ ys hown9 (by omega)).mono ?_;rintro e w9 ⟨rfl,l',hp,hsd,hown10,hgr10⟩))
     go_ret
     have hS : IsSort l l':=⟨sorted_strict (hp.nodup_iff.2 hC.out.1) hsd,fun y => (hp.mem_iff).trans (HMEM.out y)⟩
     rw [hS.unique (sortS_spec l)] at hown10
     exact ⟨_,rfl,hown10,hg9.grown hgr10 (fun q hq => ownBlock_ge hown9 q hq)⟩
    ·intro x c kl yd yp w2 cnt2 hkey hlk hv hat hrg2 hlt2 hg2 hs2 hen
     obtain ⟨x',hxok,ex,rfl⟩:=keyE_inv hkey
     obtain rfl : x = x':=by
      obtain ⟨a,b,c,d,e⟩:=x
      obtain ⟨a',b',c',d',e'⟩:=x'
      simpa [En.agg] using ex
     obtain ⟨c',ec,ez,hwc⟩:=plainElem_int_inv Tryz.underlying3 hv
     obtain rfl : c = c':=by simpa using ec
     obtain rfl : yd = .lit (.int .i64 c):=(Prod.mk.inj ez).1
     have HC:=Lib.hid (hC.out.step hM.out hxok hwc hlk hat)
     have hnm:=owns_ne_map hown9 hrg.owns
     have hni:=owns_ne_iter hown9 hrg
     have hown10:=owns_kept hown9 hg2 (Or.inr (Ne.symm hni))
     have hgw2:=hg9.grown hg2 (fun q hq => by cases hq;exact hg.size)
     obtain ⟨xr,xs,xl,xt,xc⟩:=x
     dsimp only at hen HC
     clear hkey ex hat hv ec ez hlk hs2 hxok
     go_wp2_with (first | (at_builtin;refine app_one3 entLay rfl _ _ rfl w.heap.size _ ys ⟨xr,xs,xl,xt,c⟩ rfl hown10 (Grows.alloc _ _) _ 1 (by simp) _ rfl rfl (by omega) hgw2.size ?_;intro v5 w5 hown5 hg5a hg5b))
     have hrg5:=(ranges_grows hrg2 ((Grows.alloc _ _).al _)).kept hg5a hnm hni
     have hgw5:=hg5b w hgw2 (Nat.le_refl _)
     go_roundw
     case rel => exact ⟨_,cnt2,ys ++ [⟨xr,xs,xl,xt,c⟩],hrg5,by simp;omega,HC,hown5,hgw5⟩
     case measure => rw [hrg5.left_eq,hrg.left_eq];exact hlt2
end Go.Proofs.YtepoiefadjoabaaGreatDoor
