/- The texts Ecmp2, one behind the other. -/
import Derived.Test.YtepoiefadjoabaaGreatDoorH4
import Derived.Test.YtepoiefadjoabaaGreatDoorH9
import Derived.Test.YtepoiefadjoabaaGreatDoorH12
namespace Go.Proofs.YtepoiefadjoabaaGreatDoor
open Go Go.RowKit
attribute [local go_sem] quietE
set_option maxHeartbeats 1000000 in
set_option maxRecDepth 100000 in
theorem compareD_any (xr xs yr ys : ByteArray) (xl xt xc yl yt yc : Int) (w : World) :
  Calls Tryz.prog 61 #[.agg #[.string xr,.string xs,.int .i64 xl,.int .i64 xt,.int .i64 xc],.agg #[.string yr,.string ys,.int .i64 yl,.int .i64 yt,.int .i64 yc]] w fun e w' =>
   e = .returned (.int .i64 (orI [cmpS xr yr,cmpI xc yc,cmpS xs ys,cmpI xl yl,cmpI xt yt]))∧GrowsD w w':=by
 go_enter Tryz.func61,Tryz.ntmps61
 go_wp2
 generalize hW : (w.alloc (.cells #[.string xr,.string xs,.int .i64 xl,.int .i64 xt,.int .i64 xc] 38)).alloc (.cells #[.string yr,.string ys,.int .i64 yl,.int .i64 yt,.int .i64 yc] 38) = W
 have hB : GrowsD w W:=by rw [← hW];exact (GrowsD.alloc _ _).tr (GrowsD.alloc _ _)
 have hx : ∀ j v,#[Value.string xr,.string xs,.int .i64 xl,.int .i64 xt,.int .i64 xc][j]? = some v → W.drew.cell? ⟨w.heap.size,j,none⟩ = some v:=fun j v h => by
  rw [← hW];exact (Grows.alloc _ _).cell (cell_box w _ _ _ j v h)
 have hy : ∀ j v,#[Value.string yr,.string ys,.int .i64 yl,.int .i64 yt,.int .i64 yc][j]? = some v → W.drew.cell? ⟨w.heap.size + 1,j,none⟩ = some v:=fun j v h => by
  rw [← hW]
  have:=cell_box (w.alloc (.cells #[.string xr,.string xs,.int .i64 xl,.int .i64 xt,.int .i64 xc] 38)) _ 38 (0,0) j v h
  simpa using this
 clear hW
 have x0 : ∀ x : Ext GrowsD (W.drew),x.u.cell? ⟨w.heap.size,0,none⟩ = some (.string xr):=ext_cellD (hx 0 _ rfl)
 have x1 : ∀ x : Ext GrowsD (W.drew),x.u.cell? ⟨w.heap.size,1,none⟩ = some (.string xs):=ext_cellD (hx 1 _ rfl)
 have x2 : ∀ x : Ext GrowsD (W.drew),x.u.cell? ⟨w.heap.size,2,none⟩ = some (.int .i64 xl):=ext_cellD (hx 2 _ rfl)
 have x3 : ∀ x : Ext GrowsD (W.drew),x.u.cell? ⟨w.heap.size,3,none⟩ = some (.int .i64 xt):=ext_cellD (hx 3 _ rfl)
 have x4 : ∀ x : Ext GrowsD (W.drew),x.u.cell? ⟨w.heap.size,4,none⟩ = some (.int .i64 xc):=ext_cellD (hx 4 _ rfl)
 have y0 : ∀ x : Ext GrowsD (W.drew),x.u.cell? ⟨w.heap.size + 1,0,none⟩ = some (.string yr):=ext_cellD (hy 0 _ rfl)
 have y1 : ∀ x : Ext GrowsD (W.drew),x.u.cell? ⟨w.heap.size + 1,1,none⟩ = some (.string ys):=ext_cellD (hy 1 _ rfl)
 have y2 : ∀ x : Ext GrowsD (W.drew),x.u.cell? ⟨w.heap.size + 1,2,none⟩ = some (.int .i64 yl):=ext_cellD (hy 2 _ rfl)
 have y3 : ∀ x : Ext GrowsD (W.drew),x.u.cell? ⟨w.heap.size + 1,3,none⟩ = some (.int .i64 yt):=ext_cellD (hy 3 _ rfl)
 have y4 : ∀ x : Ext GrowsD (W.drew),x.u.cell? ⟨w.heap.size + 1,4,none⟩ = some (.int .i64 yc):=ext_cellD (hy 4 _ rfl)
 clear hx hy
 refine wp_region_ord GrowsD [(0,false),(1,false),(2,false),(3,false),(4,false),(5,false),(6,false),(7,false),(8,false),(9,false),(10,false),(11,false),(12,false),(13,false),(14,false),(15,false),(16,false),(17,false),(18,false),(19,false),(20,false),(21,false),(22,false),(23,false),(24,false),(25,true),(26,true),(27,true)] GrowsD.refl GrowsD.trans (by kernel_rfl) (by kernel_rfl) (fun d _ _ _ _ h => by cases d <;> exact h) ?_
 repeat (refine ord_quiet rfl (fun K hK => ?_);go_simp;first | (refine hK _ ?_;clear hK K) | (apply Exists.intro;refine ⟨fun x => ?_,hK _ ?_⟩;((first | (go_at_call 110;exact calls_ext_sameD (compareS_any _ _ _)) | (go_at_call 111;exact calls_ext_sameD (compareI_any _ _ _))));clear hK K))
 clear x0 x1 x2 x3 x4 y0 y1 y2 y3 y4
 refine ord_late_w rfl rfl (fun K hK w2 h2 => ?_)
 go_simp
 refine ⟨GrowsD.alloc _ _,hK _ _ ?_⟩
 clear hK K
 have hz : ∀ k,k < [cmpS xr yr,cmpI xc yc,cmpS xs ys,cmpI xl yl,cmpI xt yt].length → (w2.alloc (.cells #[.int .i64 (cmpS xr yr),.int .i64 (cmpI xc yc),.int .i64 (cmpS xs ys),.int .i64 (cmpI xl yl),.int .i64 (cmpI xt yt)] 3)).cell? ⟨w2.heap.size,0 + k,none⟩ = some (.int .i64 ([cmpS xr yr,cmpI xc yc,cmpS xs ys,cmpI xl yl,cmpI xt yt][k]?.getD 0)):=fun k hk => by
  refine cell_box w2 _ _ _ _ _ ?_
  match k,hk with
  | 0,_ => rfl
  | 1,_ => rfl
  | 2,_ => rfl
  | 3,_ => rfl
  | 4,_ => rfl
 have h3 : GrowsD w2 (w2.alloc (.cells #[.int .i64 (cmpS xr yr),.int .i64 (cmpI xc yc),.int .i64 (cmpS xs ys),.int .i64 (cmpI xl yl),.int .i64 (cmpI xt yt)] 3)):=GrowsD.alloc _ _
 generalize w2.alloc _ = w3 at hz h3 ⊢
 refine ord_late_w rfl rfl (fun K hK w4 h4 => ?_)
 go_simp
 refine (or_any [cmpS xr yr,cmpI xc yc,cmpS xs ys,cmpI xl yl,cmpI xt yt] w2.heap.size 0 5 w4 (by simp) (fun k hk => h4.1.cell (hz k hk))).mono ?_
 rintro e w' ⟨rfl,rfl⟩
 refine ⟨GrowsD.refl _,hK _ _ ?_⟩
 clear hK K
 refine ord_late_w rfl rfl (fun K hK w5 h5 => ?_)
 go_simp
 refine ⟨GrowsD.refl _,hK _ _ ?_⟩
 clear hK K
 refine ord_end (fun w6 h6 => ?_)
 have hB6 : GrowsD w w6:=(((((hB.tr (GrowsD.drew _)).tr h2).tr h3).tr h4).tr h5).tr h6
 go_wp2
 go_ret
 exact ⟨rfl,hB6⟩
instance : Inhabited En := ⟨enZero⟩
theorem cmpLaysE (blk off size : Nat) (w : World) : CmpLays Tryz.prog 61 #[] enCells 5 enCmp blk off size w := fun m os dk _ x y =>
 (compareD_any x.r x.s y.r y.s x.l x.t x.c y.l y.t y.c (sortWorldK enCells 5 w blk off m dk os)).mono fun _ _ ⟨he,hg⟩ => ⟨he,hg.grow⟩
theorem swoE : Sort.SWO (ltOf enCmp) where
 irrefl:=lessS_irrefl
 trans x y z:=lessS_trans
 ntrans x y z h1 h2:=by
  show lessS x z = false
  have h1' : lessS x y = false:=h1
  have h2' : lessS y z = false:=h2
  by_cases e1 : x = y
  ·rw [e1];exact h2'
  ·by_cases e2 : y = z
   ·rw [← e2];exact h1'
   ·have k1 : lessS y x = true:=by rw [lessS_one e1,h1'];rfl
    have k2 : lessS z y = true:=by rw [lessS_one e2,h2'];rfl
    have k3:=lessS_trans k2 k1
    cases hxz : lessS x z with
    | false => rfl
    | true => have:=lessS_trans k3 hxz;rw [lessS_irrefl] at this;cases this
theorem sorted_strict {l : List En} (hn : l.Nodup) (h : l.Pairwise fun x y => ltOf enCmp y x = false) : SortedE l := by
 unfold SortedE
 refine (h.and hn).imp fun {x y} ⟨h1,h2⟩ => ?_
 have h1' : lessS y x = false:=h1
 rw [lessS_one (Ne.symm h2),h1'];rfl
end Go.Proofs.YtepoiefadjoabaaGreatDoor
