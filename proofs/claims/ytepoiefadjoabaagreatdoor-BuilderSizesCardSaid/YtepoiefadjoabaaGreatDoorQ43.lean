/- The texts R18d Bord, one behind the other. -/
import Derived.Test.YtepoiefadjoabaaGreatDoorQ42
import Derived.Test.YtepoiefadjoabaaGreatDoorQ21
import Derived.Test.YtepoiefadjoabaaGreatDoorQ31
import Derived.Test.YtepoiefadjoabaaGreatDoorQ38
import Derived.Test.YtepoiefadjoabaaGreatDoorQ29
import Derived.Test.YtepoiefadjoabaaGreatDoorQ39
import Derived.Test.YtepoiefadjoabaaGreatDoorQ5
import Derived.Shelf.GgSortFunc.Compose
namespace Go.Proofs.YtepoiefadjoabaaGreatDoor
open Go Go.RowKit Go.Shelf
attribute [local go_sem] quietE quietE2
structure RowsL (B : Nat) (W : World) (vs : List Value) (xs : List (List Nat)) : Prop where
 own : ∀ (i : Nat) (v : Value) (x : List Nat),vs[i]? = some v → xs[i]? = some x → Owns W B 116 1 n64C v x
 ap : ∀ (i j : Nat) (v u : Value),i ≠ j → vs[i]? = some v → vs[j]? = some u → Apart v u
 len : vs.length = xs.length
theorem RowsL.nil (B : Nat) (W : World) (n : Nat) : RowsL B W (List.replicate n (.slice none 0 0)) (List.replicate n []) where
 own:=fun i v x hv hx => by
  obtain rfl:=List.eq_of_mem_replicate (List.mem_of_getElem? hv)
  obtain rfl:=List.eq_of_mem_replicate (List.mem_of_getElem? hx)
  exact Owns.nil _ _ _ _ _
 ap:=fun i j v u _ hv _ => by
  obtain rfl:=List.eq_of_mem_replicate (List.mem_of_getElem? hv)
  exact Apart.nil _ _ _
 len:=by simp
theorem RowsL.set {B : Nat} {W W' : World} {vs : List Value} {xs : List (List Nat)} (h : RowsL B W vs xs) {i : Nat} {v v' : Value} {x' : List Nat} (hi : vs[i]? = some v) (ho : Owns W' B 116 1 n64C v' x') (hk : W.grownBy W' v.ownBlock) (hf : Fresh W v v') :
  RowsL B W' (vs.set i v') (xs.set i x') where
 own:=fun j u x hu hx => by
  by_cases hj : i = j
  ·subst hj
   have hlt:=(List.getElem?_eq_some_iff.1 hi).1
   rw [List.getElem?_set_self hlt] at hu
   rw [List.getElem?_set_self (by rw [← h.len];exact hlt)] at hx
   cases hu
   cases hx
   exact ho
  ·rw [List.getElem?_set_ne hj] at hu hx
   exact owns_keep (h.own j u x hu hx) hk (h.ap i j v u hj hi hu)
 ap:=fun j l u z hjl hu hz => by
  by_cases hj : i = j
  ·subst hj
   have hlt:=(List.getElem?_eq_some_iff.1 hi).1
   rw [List.getElem?_set_self hlt] at hu
   cases hu
   rw [List.getElem?_set_ne hjl] at hz
   obtain ⟨x,hx⟩ : ∃ x,xs[l]? = some x:=⟨_,List.getElem?_eq_getElem (by rw [← h.len];exact (List.getElem?_eq_some_iff.1 hz).1)⟩
   exact (h.ap i l v z hjl hi hz).fresh (own_lt (h.own l z x hz hx)) hf
  ·rw [List.getElem?_set_ne hj] at hu
   by_cases hl : i = l
   ·subst hl
    have hlt:=(List.getElem?_eq_some_iff.1 hi).1
    rw [List.getElem?_set_self hlt] at hz
    cases hz
    obtain ⟨x,hx⟩ : ∃ x,xs[j]? = some x:=⟨_,List.getElem?_eq_getElem (by rw [← h.len];exact (List.getElem?_eq_some_iff.1 hu).1)⟩
    exact ((h.ap i j v u hj hi hu).fresh (own_lt (h.own j u x hu hx)) hf).symm
   ·rw [List.getElem?_set_ne hl] at hz
    exact h.ap j l u z hjl hu hz
 len:=by rw [List.length_set,List.length_set];exact h.len
theorem RowsL.grows {B : Nat} {W W' : World} {vs : List Value} {xs : List (List Nat)} (h : RowsL B W vs xs) (hg : Grows W W') : RowsL B W' vs xs := ⟨fun i v x hv hx => (h.own i v x hv hx).grows hg, h.ap, h.len⟩
theorem RowsL.at_ {B : Nat} {W : World} {vs : List Value} {xs : List (List Nat)} (h : RowsL B W vs xs) {i : Nat} {v : Value} {x : List Nat} (hi : vs[i]? = some v) (hx : xs[i]? = some x) : ∃ a c, v = .slice a x.length c ∧ AtCells W a 1 (x.map n64C) := by
 obtain ⟨a,c,e,_,_,hat⟩:=(h.own i v x hi hx).at_ (k:=1) (fun x => (rfl : (n64C x).length = 1))
 exact ⟨a,c,e,hat⟩
theorem wrapU {k : Nat} (h : k ≤ 1099511627776) : IntKind.u64.wrap (k : Int) = k := by simp [IntKind.wrap, IntKind.bits, IntKind.signed]; omega
def grpTo (key : Nat → Nat) (k s : Nat) : List Nat := (List.range k).filter fun i => key i == s
theorem grpTo_yes {key : Nat → Nat} {k s : Nat} (h : key k = s) : grpTo key (k + 1) s = grpTo key k s ++ [k] := by
 unfold grpTo
 rw [List.range_succ,List.filter_append]
 simp [h]
theorem grpTo_no {key : Nat → Nat} {k s : Nat} (h : key k ≠ s) : grpTo key (k + 1) s = grpTo key k s := by
 unfold grpTo
 rw [List.range_succ,List.filter_append]
 simp [h]
theorem grpTo_le (key : Nat → Nat) (k s : Nat) : (grpTo key k s).length ≤ k := by
 unfold grpTo
 have:=List.length_filter_le (fun i => key i == s) (List.range k)
 rwa [List.length_range] at this
theorem sum14_mem {q : PartV} : ∀ {P : List PartV}, q ∈ P → q.data.length ≤ sum14 P
 | [],h => by cases h
 | x :: P,h => by
  unfold sum14
  rw [List.map_cons,List.sum_cons]
  rcases List.mem_cons.1 h with rfl | h
  ·omega
  ·have:=sum14_mem h
   unfold sum14 at this
   omega
theorem chk14_sum {P : List PartV} (h : chk14 P = 0) : sum14 P ≤ 16777216 := by
 unfold chk14 at h
 split at h
 ·cases h
 ·omega
theorem grpTo_full (key : Nat → Nat) (n s : Nat) : grpsL key n s ++ grpTo key n s = grpsL key n (s + 1) := (grpsL_succ key n s).symm
theorem grpsL_le (key : Nat → Nat) (n S : Nat) : (grpsL key n S).length ≤ n := by
 have:=nodup_sub_len (grp_nodup key n S) (l':=List.range n) fun x hx => List.mem_range.2 (grpsL_mem.1 hx).1
 rwa [List.length_range] at this
set_option maxHeartbeats 16000000 in
set_option maxRecDepth 100000 in
theorem rimage_any (p : List PosV) (rb : Nat) (m : Mx) (es : List En) (pa sa : Option Addr) (pc sc : Nat) (w : World) (hv : posValid p = true) (hl : es.length ≤ 20000) (hn : ∀ x ∈ es, 0 ≤ x.l ∧ x.l < 64 ∧ 0 ≤ x.t ∧ x.t < 64 ∧ 0 ≤ x.c ∧ x.c ≤ 30000)
  (hpt : AtCells w pa 2 (p.map posCells)) (hr : RefAt w rb m) (hat : AtCells w sa 5 (es.map enCells)) (hkR : chk11 (bls (readL es)) = 0) (hkS : chk11 (bls (surfL es)) = 0) (h14 : chk14 (imgP p m es) = 0) :
  Calls Tryz.prog 26 #[.agg #[.slice pa p.length pc,.pointer (some ⟨rb,0,none⟩),.slice sa es.length sc]] w fun e w' => Grows w w'∧∃ v,e = .returned v∧Owns w' w.heap.size 5 1 byteC v (file14 (imgP p m es)):=by
 obtain ⟨W0,hW0⟩ : ∃ W0,W0 = w.alloc (.cells #[.slice pa p.length pc,.pointer (some ⟨rb,0,none⟩),.slice sa es.length sc] 62):=⟨_,rfl⟩
 have hg0 : Grows w W0:=by rw [hW0];exact Grows.alloc _ _
 have hbx:=fun j u h => cell_box w #[.slice pa p.length pc,.pointer (some ⟨rb,0,none⟩),.slice sa es.length sc] 62 (0,0) j u h
 rw [← hW0] at hbx
 have q0:=hbx 0 _ rfl
 have q1:=hbx 1 _ rfl
 have q2:=hbx 2 _ rfl
 have z0 : ∀ x : Ext Grows W0.drew,x.u.cell? ⟨w.heap.size,0,none⟩ = some (.slice pa p.length pc):=ext_cell ((Grows.drew W0).cell q0)
 have z1 : ∀ x : Ext Grows W0.drew,x.u.cell? ⟨w.heap.size,1,none⟩ = some (.pointer (some ⟨rb,0,none⟩)):=ext_cell ((Grows.drew W0).cell q1)
 have z2 : ∀ x : Ext Grows W0.drew,x.u.cell? ⟨w.heap.size,2,none⟩ = some (.slice sa es.length sc):=ext_cell ((Grows.drew W0).cell q2)
 have HQ:=Lib.hid (And.intro q0 (And.intro q1 q2))
 have HPT:=Lib.hid hpt
 have HR:=Lib.hid hr
 have HAT:=Lib.hid (hat.grows hg0)
 have HN:=Lib.hid hn
 have HK:=Lib.hid (And.intro hkR hkS)
 have HV:=Lib.hid hv
 have H14:=Lib.hid h14
 have hG0:=Lib.hid hg0
 clear hbx hpt hr hat hn hkR hkS hv h14 q0 q1 q2
 obtain ⟨BS,hBS⟩ : ∃ BS,BS = surfL es:=⟨_,rfl⟩
 have HBS:=Lib.hid hBS
 have hBSl : BS.length ≤ es.length:=by
  have:=setB_le (es.map (·.s));rw [List.length_map] at this;rw [hBS];exact this
 have HMS : Hid (∀ x ∈ es,x.s ∈ BS):=by rw [hBS];exact fun x hx => surf_in hx
 have HND : Hid BS.Nodup:=by rw [hBS];exact setB_nodup _
 clear hBS
 go_enter Tryz.func26,Tryz.ntmps26
 go_wp2_with fail
 rw [← hW0]
 clear hW0
 refine t_region (Grows) [(0,false),(2,false),(1,true),(3,true),(4,false),(5,false)] Grows.refl Grows.trans (by kernel_rfl) (by kernel_rfl) (fun d _ _ _ _ h => by cases d <;> exact h) ?_
 iterate 2 (refine t_quiet rfl (fun K hK => ?_);go_simp;refine hK _ ?_;clear hK K)
 clear z0 z1 z2
 refine t_late rfl rfl (fun K hK => ?_)
 go_simp
 refine (rreadings_any es sa sc _ _ W0.drew (by omega) (HAT.out.grows (Grows.drew W0))).mono ?_
 rintro e w1 ⟨hg1,rv,rfl,hrown⟩
 refine ⟨hg1,hK _ _ ?_⟩
 clear hK K
 have hg01:=Grows.trans _ _ _ (Grows.drew W0) hg1
 refine t_late rfl rfl (fun K hK => ?_)
 go_simp
 refine (rsurfaces_any es sa sc _ _ w1 (by omega) (HAT.out.grows hg01)).mono ?_
 rintro e w3 ⟨hg3,uv,rfl,huown⟩
 refine ⟨hg3,hK _ _ ?_⟩
 clear hK K
 iterate 2 (refine t_quiet rfl (fun K hK => ?_);go_simp;refine hK _ ?_;clear hK K)
 refine t_end ?_
 have hg03:=Grows.trans _ _ _ hg01 hg3
 obtain ⟨ra,rc,hve,_,_,hrat⟩:=hrown.at_ (k:=1) (fun x => (rfl : (stC x).length = 1))
 obtain ⟨n2,hn2⟩ : ∃ n,n = (readL es).length:=⟨_,rfl⟩
 have HN2:=Lib.hid hn2
 rw [← hn2] at hve
 clear hn2
 subst hve
 obtain ⟨ua,uc,rfl,_,_,huat⟩:=huown.at_ (k:=1) (fun x => (rfl : (stC x).length = 1))
 have HRAT:=Lib.hid (hrat.grows hg3)
 have HUAT0 : Hid (AtCells w3 ua 1 (BS.map stC)):=by rw [HBS.out];exact huat
 have HUAT:=HUAT0
 rw [← HBS.out]
 have HA3:=Lib.hid (HAT.out.grows hg03)
 have hgw3:=Grows.trans _ _ _ hG0.out hg03
 have HW3:=Lib.hid hgw3
 have HB0:=Lib.hid (hg03.cell HQ.out.1)
 have HB1:=Lib.hid (hg03.cell HQ.out.2.1)
 have HB2:=Lib.hid (hg03.cell HQ.out.2.2)
 clear hrown huown hrat huat hg1 hg3 hg01 hg03 hg0 HUAT0 hgw3 HQ HAT
 go_wp2_with fail
 go_loopw [5,6,7,8,9,12] (fun vf vs vl vr vc i wr => ∃ (k : Nat),k ≤ es.length∧i = .int .i64 k∧RowsL w3.heap.size wr [vf,vs,vl,vr,vc] [idxL newR es k,(es.take k).map (sidE BS),(es.take k).map (fun x => x.l.toNat),(es.take k).map (fun x => x.t.toNat),(es.take k).map (fun x => x.c.toNat)]∧Grows w3 wr) (fun _ _ _ _ _ i _ => es.length - (intOf i).toNat)
 case atStart => exact ⟨0,Nat.zero_le _,rfl,RowsL.nil _ _ 5,Grows.refl _⟩
 case round =>
  obtain ⟨k,hk,rfl,R,hg⟩:=hrel
  by_cases hlt : k < es.length
  ·obtain ⟨⟨xr,xs,xl,xt,xc⟩,hx⟩ : ∃ x,es[k]? = some x:=⟨_,List.getElem?_eq_getElem hlt⟩
   have hnx:=HN.out _ (List.mem_of_getElem? hx)
   simp only at hnx
   obtain ⟨nl,rfl⟩ : ∃ nl : Nat,xl = nl:=⟨xl.toNat,by omega⟩
   obtain ⟨nt,rfl⟩ : ∃ nt : Nat,xt = nt:=⟨xt.toNat,by omega⟩
   obtain ⟨nc,rfl⟩ : ∃ nc : Nat,xc = nc:=⟨xc.toNat,by omega⟩
   have wl : IntKind.u64.wrap (nl : Int) = nl:=wrapU (by omega)
   have wt : IntKind.u64.wrap (nt : Int) = nt:=wrapU (by omega)
   have wc : IntKind.u64.wrap (nc : Int) = nc:=wrapU (by omega)
   have wk : IntKind.u64.wrap (k : Int) = k:=wrapU (by omega)
   obtain ⟨ba,oa,rfl,hca⟩:=(HA3.out).get (ne_nil_of_lt hlt)
   have HC0 : Hid (w3.cell? ⟨ba,oa + k * 5,none⟩ = some (.string xr)):=hca k _ hx 0 _ rfl
   have HC1 : Hid (w3.cell? ⟨ba,oa + k * 5 + 1,none⟩ = some (.string xs)):=hca k _ hx 1 _ rfl
   have HC2 : Hid (w3.cell? ⟨ba,oa + k * 5 + 2,none⟩ = some (.int .i64 nl)):=hca k _ hx 2 _ rfl
   have HC3 : Hid (w3.cell? ⟨ba,oa + k * 5 + 3,none⟩ = some (.int .i64 nt)):=hca k _ hx 3 _ rfl
   have HC4 : Hid (w3.cell? ⟨ba,oa + k * 5 + 4,none⟩ = some (.int .i64 nc)):=hca k _ hx 4 _ rfl
   have hyB:=HMS.out _ (List.mem_of_getElem? hx)
   obtain ⟨y,hy⟩ : ∃ y,y = sidE BS ⟨xr,xs,nl,nt,nc⟩:=⟨_,rfl⟩
   have hyl : y < BS.length:=by rw [hy];exact sidE_lt hyB
   have wy : IntKind.u64.wrap (y : Int) = y:=wrapU (by omega)
   have CPL:=fun W (hW : Grows w3 W) => Lib.hid (rplace_any BS xs ua uc W (by omega) hyB (HUAT.out.grows hW))
   rw [show (BS.findIdx fun t => decide (t = xs)) = y from hy.symm] at CPL
   have HX1 : Hid ((es.take k).map (sidE BS) ++ [y] = (es.take (k + 1)).map (sidE BS)):=by show _ = _;rw [takeSnoc hx,List.map_append,hy];rfl
   have HX2 : Hid ((es.take k).map (fun x => x.l.toNat) ++ [nl] = (es.take (k + 1)).map (fun x => x.l.toNat)):=by show _ = _;rw [takeSnoc hx,List.map_append];rfl
   have HX3 : Hid ((es.take k).map (fun x => x.t.toNat) ++ [nt] = (es.take (k + 1)).map (fun x => x.t.toNat)):=by show _ = _;rw [takeSnoc hx,List.map_append];rfl
   have HX4 : Hid ((es.take k).map (fun x => x.c.toNat) ++ [nc] = (es.take (k + 1)).map (fun x => x.c.toNat)):=by show _ = _;rw [takeSnoc hx,List.map_append];rfl
   have HGX : Hid (es.getD k enZero = ⟨xr,xs,nl,nt,nc⟩):=by show _ = _;rw [List.getD_eq_getElem?_getD,hx];rfl
   have hl0:=idxL_le newR es k
   have hl1 : ((es.take k).map (sidE BS)).length = k:=by rw [List.length_map,List.length_take];omega
   have hl2 : ((es.take k).map (fun x => x.l.toNat)).length = k:=by rw [List.length_map,List.length_take];omega
   have hl3 : ((es.take k).map (fun x => x.t.toNat)).length = k:=by rw [List.length_map,List.length_take];omega
   have hl4 : ((es.take k).map (fun x => x.c.toNat)).length = k:=by rw [List.length_map,List.length_take];omega
   have IY:=fun h => Lib.hid (idxL_yes (nw:=newR) (l:=es) (k:=k) h)
   have IN:=fun h => Lib.hid (idxL_no (nw:=newR) (l:=es) (k:=k) h)
   generalize idxL newR es k = X0 at R hl0 IY IN
   generalize (es.take k).map (sidE BS) = X1 at R hl1 HX1
   generalize (es.take k).map (fun x => x.l.toNat) = X2 at R hl2 HX2
   generalize (es.take k).map (fun x => x.t.toNat) = X3 at R hl3 HX3
   generalize (es.take k).map (fun x => x.c.toNat) = X4 at R hl4 HX4
   have hki : (k : Int) < es.length:=by omega
   have e2 : ∀ x : Ext Grows wr.drew,x.u.cell? ⟨w.heap.size,2,none⟩ = some (.slice (some ⟨ba,oa,none⟩) es.length sc):=ext_cell (hg.dr.cell HB2.out)
   have b2:=hg.cell HB2.out
   have y0 : ∀ x : Ext Grows wr.drew,x.u.cell? ⟨ba,oa + k * 5,none⟩ = some (.string xr):=ext_cell (hg.dr.cell HC0.out)
   clear hx hy hyB hnx
   by_cases h0 : k = 0
   ·have HX0:=IY (by rw [h0];rfl)
    have hkz : ((k : Int) == 0) = true:=by rw [h0];rfl
    have H0:=Lib.hid h0
    clear h0 IY IN hca
    go_wp2_with fail
    refine t_region (Grows) [(0,false),(1,false),(2,false),(3,false),(4,false),(5,false),(6,false),(7,false),(8,false),(9,false),(10,false),(11,false),(12,false),(13,false),(14,false),(15,false),(16,false),(17,false)] Grows.refl Grows.trans (by kernel_rfl) (by kernel_rfl) (fun d _ _ _ _ h => by cases d <;> exact h) ?_
    iterate 18 (refine t_quiet rfl (fun K hK => ?_);go_simp;refine hK _ ?_;clear hK K)
    refine t_end ?_
    clear e2 y0 b2
    have R6:=R.grows (Grows.drew wr)
    have hg6:=hg.dr
    clear R hg
    go_wp2_with (at_builtin;refine app_one5 n64Lay rfl _ _ rfl w3.heap.size _ X0 k rfl (R6.own 0 _ _ rfl rfl) (Grows.refl _) _ 1 rfl #[.int .u64 k] rfl rfl (by omega) hg6.size ?_;intro v7 w7 hown7 hk7 hf7 hgg7;have hg7:=hgg7 w3 hg6 (Nat.le_refl _);have R7:=R6.set (i:=0) rfl hown7 hk7 hf7;clear R6 hg6 hown7 hk7 hf7 hgg7;have b2:=hg7.cell HB2.out;have c1:=hg7.cell HC1.out)
    replace HX0:=Lib.hid HX0.out.symm
    go_wp2_with fail
    refine (CPL _ hg7).out.mono ?_
    rintro e w8 ⟨rfl,hgp⟩
    have R8:=R7.grows hgp
    have hg8:=Grows.trans _ _ _ hg7 hgp
    clear R7 hg7 hgp b2 c1
    go_wp2_with (at_builtin;first | (refine app_one5 n64Lay rfl _ _ rfl w3.heap.size _ X1 y rfl (R8.own 1 _ _ rfl rfl) (Grows.refl _) _ 1 rfl #[.int .u64 y] rfl rfl (by omega) hg8.size ?_;intro v9 w9 hown9 hk9 hf9 hgg9;have hg9:=hgg9 w3 hg8 (Nat.le_refl _);have R9:=R8.set (i:=1) rfl hown9 hk9 hf9;clear R8 hg8 hown9 hk9 hf9 hgg9;have b2:=hg9.cell HB2.out;have c2:=hg9.cell HC2.out) | (refine app_one5 n64Lay rfl _ _ rfl w3.heap.size _ X2 nl rfl (R9.own 2 _ _ rfl rfl) (Grows.refl _) _ 1 rfl #[.int .u64 nl] rfl rfl (by omega) hg9.size ?_;intro v10 w10 hown10 hk10 hf10 hgg10;have hg10:=hgg10 w3 hg9 (Nat.le_refl _);have R10:=R9.set (i:=2) rfl hown10 hk10 hf10;clear R9 hg9 hown10 hk10 hf10 hgg10;clear b2 c2;have b2:=hg10.cell HB2.out;have c3:=hg10.cell HC3.out) | (refine app_one5 n64Lay rfl _ _ rfl w3.heap.size _ X3 nt rfl (R10.own 3 _ _ rfl rfl) (Grows.refl _) _ 1 rfl #[.int .u64 nt] rfl rfl (by omega) hg10.size ?_;intro v11 w11 hown11 hk11 hf11 hgg11;have hg11:=hgg11 w3 hg10 (Nat.le_refl _);have R11:=R10.set (i:=3) rfl hown11 hk11 hf11;clear R10 hg10 hown11 hk11 hf11 hgg11;clear b2 c3;have b2:=hg11.cell HB2.out;have c4:=hg11.cell HC4.out) | (refine app_one5 n64Lay rfl _ _ rfl w3.heap.size _ X4 nc rfl (R11.own 4 _ _ rfl rfl) (Grows.refl _) _ 1 rfl #[.int .u64 nc] rfl rfl (by omega) hg11.size ?_;intro v12 w12 hown12 hk12 hf12 hgg12;have hg12:=hgg12 w3 hg11 (Nat.le_refl _);have R12:=R11.set (i:=4) rfl hown12 hk12 hf12;clear R11 hg11 hown12 hk12 hf12 hgg12;clear b2 c4))
    go_wp2_with fail
    go_roundw
    case rel => exact ⟨k + 1,hlt,by go_num,by rw [← HX0.out,← HX1.out,← HX2.out,← HX3.out,← HX4.out];exact R12,hg12⟩
    case measure => simp [intOf];omega
   ·obtain ⟨⟨yr,ys,yl,yt,yc⟩,hy⟩ : ∃ y,es[k - 1]? = some y:=⟨_,List.getElem?_eq_getElem (by omega)⟩
    obtain ⟨m',hm⟩ : ∃ m,m = k - 1:=⟨_,rfl⟩
    have hkz : ((k : Int) == 0) = false:=by simp;omega
    have wm : IntKind.i64.wrap ((k : Int) - 1) = m':=by simp [IntKind.wrap,IntKind.bits,IntKind.signed];omega
    have hml : m' < es.length:=by omega
    have hmi : (m' : Int) < es.length:=by omega
    rw [← hm] at hy
    have y1 : ∀ x : Ext Grows wr.drew,x.u.cell? ⟨ba,oa + m' * 5,none⟩ = some (.string yr):=ext_cell (hg.dr.cell (hca m' _ hy 0 _ rfl))
    have hnew : newIx newR es k = !decide (xr = yr):=by
     unfold newIx
     rw [HGX.out,← hm,show es.getD m' enZero = ⟨yr,ys,yl,yt,yc⟩ by rw [List.getD_eq_getElem?_getD,hy];rfl,show (k == 0) = false by simpa using h0]
     rfl
    have HM:=Lib.hid hm
    by_cases he : xr = yr
    ·have HX0:=IN (by rw [hnew];simp [he])
     have hxy : (xr.toList == yr.toList) = true:=by rw [he];simp
     subst he
     have H0:=Lib.hid h0
     clear h0 IY IN hca hy hm hnew
     go_wp2_with fail
     refine t_region (Grows) [(0,false),(1,false),(2,false),(3,false),(4,false),(5,false),(6,false),(7,false),(8,false),(9,false),(10,false),(11,false),(12,false),(13,false),(14,false),(15,false),(16,false),(17,false)] Grows.refl Grows.trans (by kernel_rfl) (by kernel_rfl) (fun d _ _ _ _ h => by cases d <;> exact h) ?_
     iterate 18 (refine t_quiet rfl (fun K hK => ?_);go_simp;refine hK _ ?_;clear hK K)
     refine t_end ?_
     clear e2 y0 y1 b2
     have R7:=R.grows (Grows.drew wr)
     have hg7:=hg.dr
     have b2:=hg7.cell HB2.out
     have c1:=hg7.cell HC1.out
     clear R hg
     replace HX0:=Lib.hid HX0.out.symm
     go_wp2_with fail
     refine (CPL _ hg7).out.mono ?_
     rintro e w8 ⟨rfl,hgp⟩
     have R8:=R7.grows hgp
     have hg8:=Grows.trans _ _ _ hg7 hgp
     clear R7 hg7 hgp b2 c1
     go_wp2_with (at_builtin;first | (refine app_one5 n64Lay rfl _ _ rfl w3.heap.size _ X1 y rfl (R8.own 1 _ _ rfl rfl) (Grows.refl _) _ 1 rfl #[.int .u64 y] rfl rfl (by omega) hg8.size ?_;intro v9 w9 hown9 hk9 hf9 hgg9;have hg9:=hgg9 w3 hg8 (Nat.le_refl _);have R9:=R8.set (i:=1) rfl hown9 hk9 hf9;clear R8 hg8 hown9 hk9 hf9 hgg9;have b2:=hg9.cell HB2.out;have c2:=hg9.cell HC2.out) | (refine app_one5 n64Lay rfl _ _ rfl w3.heap.size _ X2 nl rfl (R9.own 2 _ _ rfl rfl) (Grows.refl _) _ 1 rfl #[.int .u64 nl] rfl rfl (by omega) hg9.size ?_;intro v10 w10 hown10 hk10 hf10 hgg10;have hg10:=hgg10 w3 hg9 (Nat.le_refl _);have R10:=R9.set (i:=2) rfl hown10 hk10 hf10;clear R9 hg9 hown10 hk10 hf10 hgg10;clear b2 c2;have b2:=hg10.cell HB2.out;have c3:=hg10.cell HC3.out) | (refine app_one5 n64Lay rfl _ _ rfl w3.heap.size _ X3 nt rfl (R10.own 3 _ _ rfl rfl) (Grows.refl _) _ 1 rfl #[.int .u64 nt] rfl rfl (by omega) hg10.size ?_;intro v11 w11 hown11 hk11 hf11 hgg11;have hg11:=hgg11 w3 hg10 (Nat.le_refl _);have R11:=R10.set (i:=3) rfl hown11 hk11 hf11;clear R10 hg10 hown11 hk11 hf11 hgg11;clear b2 c3;have b2:=hg11.cell HB2.out;have c4:=hg11.cell HC4.out) | (refine app_one5 n64Lay rfl _ _ rfl w3.heap.size _ X4 nc rfl (R11.own 4 _ _ rfl rfl) (Grows.refl _) _ 1 rfl #[.int .u64 nc] rfl rfl (by omega) hg11.size ?_;intro v12 w12 hown12 hk12 hf12 hgg12;have hg12:=hgg12 w3 hg11 (Nat.le_refl _);have R12:=R11.set (i:=4) rfl hown12 hk12 hf12;clear R11 hg11 hown12 hk12 hf12 hgg12;clear b2 c4))
     go_wp2_with fail
     go_roundw
     case rel => exact ⟨k + 1,hlt,by go_num,by rw [← HX0.out,← HX1.out,← HX2.out,← HX3.out,← HX4.out];exact R12,hg12⟩
     case measure => simp [intOf];omega
    ·have HX0:=IY (by rw [hnew];simp [he])
     have hxy : (xr.toList == yr.toList) = false:=by simpa using fun h => he (toList_inj h)
     have H0:=Lib.hid h0
     clear h0 IY IN hca hy hm hnew he
     go_wp2_with fail
     refine t_region (Grows) [(0,false),(1,false),(2,false),(3,false),(4,false),(5,false),(6,false),(7,false),(8,false),(9,false),(10,false),(11,false),(12,false),(13,false),(14,false),(15,false),(16,false),(17,false)] Grows.refl Grows.trans (by kernel_rfl) (by kernel_rfl) (fun d _ _ _ _ h => by cases d <;> exact h) ?_
     iterate 18 (refine t_quiet rfl (fun K hK => ?_);go_simp;refine hK _ ?_;clear hK K)
     refine t_end ?_
     clear e2 y0 y1 b2
     have R6:=R.grows (Grows.drew wr)
     have hg6:=hg.dr
     clear R hg
     go_wp2_with (at_builtin;refine app_one5 n64Lay rfl _ _ rfl w3.heap.size _ X0 k rfl (R6.own 0 _ _ rfl rfl) (Grows.refl _) _ 1 rfl #[.int .u64 k] rfl rfl (by omega) hg6.size ?_;intro v7 w7 hown7 hk7 hf7 hgg7;have hg7:=hgg7 w3 hg6 (Nat.le_refl _);have R7:=R6.set (i:=0) rfl hown7 hk7 hf7;clear R6 hg6 hown7 hk7 hf7 hgg7;have b2:=hg7.cell HB2.out;have c1:=hg7.cell HC1.out)
     replace HX0:=Lib.hid HX0.out.symm
     go_wp2_with fail
     refine (CPL _ hg7).out.mono ?_
     rintro e w8 ⟨rfl,hgp⟩
     have R8:=R7.grows hgp
     have hg8:=Grows.trans _ _ _ hg7 hgp
     clear R7 hg7 hgp b2 c1
     go_wp2_with (at_builtin;first | (refine app_one5 n64Lay rfl _ _ rfl w3.heap.size _ X1 y rfl (R8.own 1 _ _ rfl rfl) (Grows.refl _) _ 1 rfl #[.int .u64 y] rfl rfl (by omega) hg8.size ?_;intro v9 w9 hown9 hk9 hf9 hgg9;have hg9:=hgg9 w3 hg8 (Nat.le_refl _);have R9:=R8.set (i:=1) rfl hown9 hk9 hf9;clear R8 hg8 hown9 hk9 hf9 hgg9;have b2:=hg9.cell HB2.out;have c2:=hg9.cell HC2.out) | (refine app_one5 n64Lay rfl _ _ rfl w3.heap.size _ X2 nl rfl (R9.own 2 _ _ rfl rfl) (Grows.refl _) _ 1 rfl #[.int .u64 nl] rfl rfl (by omega) hg9.size ?_;intro v10 w10 hown10 hk10 hf10 hgg10;have hg10:=hgg10 w3 hg9 (Nat.le_refl _);have R10:=R9.set (i:=2) rfl hown10 hk10 hf10;clear R9 hg9 hown10 hk10 hf10 hgg10;clear b2 c2;have b2:=hg10.cell HB2.out;have c3:=hg10.cell HC3.out) | (refine app_one5 n64Lay rfl _ _ rfl w3.heap.size _ X3 nt rfl (R10.own 3 _ _ rfl rfl) (Grows.refl _) _ 1 rfl #[.int .u64 nt] rfl rfl (by omega) hg10.size ?_;intro v11 w11 hown11 hk11 hf11 hgg11;have hg11:=hgg11 w3 hg10 (Nat.le_refl _);have R11:=R10.set (i:=3) rfl hown11 hk11 hf11;clear R10 hg10 hown11 hk11 hf11 hgg11;clear b2 c3;have b2:=hg11.cell HB2.out;have c4:=hg11.cell HC4.out) | (refine app_one5 n64Lay rfl _ _ rfl w3.heap.size _ X4 nc rfl (R11.own 4 _ _ rfl rfl) (Grows.refl _) _ 1 rfl #[.int .u64 nc] rfl rfl (by omega) hg11.size ?_;intro v12 w12 hown12 hk12 hf12 hgg12;have hg12:=hgg12 w3 hg11 (Nat.le_refl _);have R12:=R11.set (i:=4) rfl hown12 hk12 hf12;clear R11 hg11 hown12 hk12 hf12 hgg12;clear b2 c4))
     go_wp2_with fail
     go_roundw
     case rel => exact ⟨k + 1,hlt,by go_num,by rw [← HX0.out,← HX1.out,← HX2.out,← HX3.out,← HX4.out];exact R12,hg12⟩
     case measure => simp [intOf];omega
  ·obtain rfl : k = es.length:=by omega
   rw [List.take_length] at R
   have b2:=hg.cell HB2.out
   obtain ⟨fa,fc,hve,hfat⟩:=R.at_ (i:=0) rfl rfl
   obtain ⟨n3,hn3⟩ : ∃ n,n = (idxL newR es es.length).length:=⟨_,rfl⟩
   have HN3:=Lib.hid hn3
   rw [← hn3] at hve
   clear hn3
   subst hve
   obtain ⟨va,vc',hve,hvat⟩:=R.at_ (i:=1) rfl rfl
   rw [List.length_map] at hve
   subst hve
   obtain ⟨la,lc,hve,hlat⟩:=R.at_ (i:=2) rfl rfl
   rw [List.length_map] at hve
   subst hve
   obtain ⟨ta,tc,hve,htat⟩:=R.at_ (i:=3) rfl rfl
   rw [List.length_map] at hve
   subst hve
   obtain ⟨ca,cc,hve,hcat⟩:=R.at_ (i:=4) rfl rfl
   rw [List.length_map] at hve
   subst hve
   have HF:=Lib.hid hfat
   have HVV:=Lib.hid hvat
   have HL:=Lib.hid hlat
   have HT:=Lib.hid htat
   have HC:=Lib.hid hcat
   have hg4:=hg
   obtain ⟨w4,hw4⟩ : ∃ w4,w4 = wr:=⟨_,rfl⟩
   subst hw4
   have HG4:=Lib.hid hg4
   have HB24:=Lib.hid b2
   have HA4:=Lib.hid (HA3.out.grows hg4)
   have HU4:=Lib.hid (HUAT.out.grows hg4)
   clear R hfat hvat hlat htat hcat hg hg4 b2
   have b2:=HB24.out
   go_wp2_with fail
   clear b2
   go_loopw [10,11,13] (fun vo va s wr => ∃ (k : Nat),k ≤ BS.length∧s = .int .i64 k∧RowsL w4.heap.size wr [vo,va] [grpsL (keySE BS es) es.length k,atsL (keySE BS es) es.length k]∧Grows w4 wr) (fun _ _ s _ => BS.length - (intOf s).toNat)
   case atStart => exact ⟨0,Nat.zero_le _,rfl,RowsL.nil _ _ 2,Grows.refl _⟩
   case round =>
    obtain ⟨s,hs,rfl,R,hg⟩:=hrel
    by_cases hlt : s < BS.length
    ·obtain ⟨tx,hx⟩ : ∃ t,BS[s]? = some t:=⟨_,List.getElem?_eq_getElem hlt⟩
     have hki : (s : Int) < BS.length:=by omega
     have hgl:=grpsL_le (keySE BS es) es.length s
     have hal : (atsL (keySE BS es) es.length s).length = s:=by unfold atsL;rw [List.length_map,List.length_range]
     have HAS : Hid (atsL (keySE BS es) es.length s ++ [(grpsL (keySE BS es) es.length s).length] = atsL (keySE BS es) es.length (s + 1)):=(atsL_succ _ _ _).symm
     have HGF:=Lib.hid (grpTo_full (keySE BS es) es.length s)
     generalize grpsL (keySE BS es) es.length s = XO at R hgl HAS HGF
     generalize atsL (keySE BS es) es.length s = XA at R hal HAS
     obtain ⟨oa,oc,rfl,_⟩:=R.at_ (i:=0) rfl rfl
     have wo : IntKind.u64.wrap (XO.length : Int) = XO.length:=wrapU (by omega)
     go_wp2_with (at_builtin;refine app_one5 n64Lay rfl _ _ rfl w4.heap.size _ XA XO.length rfl (R.own 1 _ _ rfl rfl) (Grows.refl _) _ 1 rfl #[.int .u64 XO.length] rfl rfl (by omega) hg.size ?_;intro v5 w5 hown5 hk5 hf5 hgg5;have hg5:=hgg5 w4 hg (Nat.le_refl _);have R5:=R.set (i:=1) rfl hown5 hk5 hf5;clear R hg hown5 hk5 hf5 hgg5;have b2:=hg5.cell HB24.out)
     obtain ⟨ub,uo,e1,hc1⟩:=at1 (f:=Value.string) HU4.out (ne_nil_of_lt hlt)
     subst e1
     have HUC:=Lib.hid (hc1 s tx hx)
     have HX:=Lib.hid hx
     clear hc1 hx
     go_wp2_with fail
     clear b2
     go_loopw [10,14] (fun vo i wx => ∃ (k : Nat),k ≤ es.length∧i = .int .i64 k∧RowsL w4.heap.size wx [vo,v5] [XO ++ grpTo (keySE BS es) k s,XA ++ [XO.length]]∧Grows w4 wx) (fun _ i _ => es.length - (intOf i).toNat)
     case atStart => exact ⟨0,Nat.zero_le _,rfl,by rw [show grpTo (keySE BS es) 0 s = [] from rfl,List.append_nil];exact R5,hg5⟩
     case round =>
      clear R5 hg5
      obtain ⟨k,hk,rfl,R,hg⟩:=hrel
      by_cases hlt2 : k < es.length
      ·obtain ⟨⟨xr,xs,xl,xt,xc⟩,hx⟩ : ∃ x,es[k]? = some x:=⟨_,List.getElem?_eq_getElem hlt2⟩
       obtain ⟨ba,oa',rfl,hca⟩:=(HA4.out).get (ne_nil_of_lt hlt2)
       have hki2 : (k : Int) < es.length:=by omega
       have b2:=hg.cell HB24.out
       have e2 : ∀ x : Ext Grows wr.drew,x.u.cell? ⟨w.heap.size,2,none⟩ = some (.slice (some ⟨ba,oa',none⟩) es.length sc):=ext_cell (hg.dr.cell HB24.out)
       have y1 : ∀ x : Ext Grows wr.drew,x.u.cell? ⟨ba,oa' + k * 5 + 1,none⟩ = some (.string xs):=ext_cell (hg.dr.cell (hca k _ hx 1 _ rfl))
       have y2 : ∀ x : Ext Grows wr.drew,x.u.cell? ⟨ub,uo + s,none⟩ = some (.string tx):=ext_cell (hg.dr.cell HUC.out)
       have hm:=HMS.out _ (List.mem_of_getElem? hx)
       have hkey : keySE BS es k = sidE BS ⟨xr,xs,xl,xt,xc⟩:=by
        unfold keySE
        rw [show es.getD k enZero = ⟨xr,xs,xl,xt,xc⟩ by rw [List.getD_eq_getElem?_getD,hx];rfl]
       have hsg:=sidE_get hm
       rw [← hkey] at hsg
       have wk : IntKind.u64.wrap (k : Int) = k:=wrapU (by omega)
       have hgl2:=grpTo_le (keySE BS es) k s
       by_cases he : xs = tx
       ·have hks : keySE BS es k = s:=nodup_at HND.out hsg (by rw [HX.out];exact congrArg some he.symm)
        have HI:=Lib.hid (grpTo_yes hks)
        have heq : (xs.toList == tx.toList) = true:=by rw [he];simp
        subst he
        generalize grpTo (keySE BS es) k s = XG at R hgl2 HI
        have hgl3 : (XO ++ XG).length ≤ 40000:=by rw [List.length_append];omega
        clear hca hx hm hkey hsg hks
        go_wp2_with fail
        refine t_region (Grows) [(0,false),(1,false),(2,false),(3,false),(4,false),(5,false),(6,false),(7,false),(8,false),(9,false),(10,false)] Grows.refl Grows.trans (by kernel_rfl) (by kernel_rfl) (fun d _ _ _ _ h => by cases d <;> exact h) ?_
        iterate 11 (refine t_quiet rfl (fun K hK => ?_);go_simp;refine hK _ ?_;clear hK K)
        refine t_end ?_
        clear e2 y1 y2 b2
        have R6:=R.grows (Grows.drew wr)
        have hg6:=hg.dr
        clear R hg
        go_wp2_with (at_builtin;refine app_one5 n64Lay rfl _ _ rfl w4.heap.size _ (XO ++ XG) k rfl (R6.own 0 _ _ rfl rfl) (Grows.refl _) _ 1 rfl #[.int .u64 k] rfl rfl (by omega) hg6.size ?_;intro v7 w7 hown7 hk7 hf7 hgg7;have hg7:=hgg7 w4 hg6 (Nat.le_refl _);have R7:=R6.set (i:=0) rfl hown7 hk7 hf7;clear R6 hg6 hown7 hk7 hf7 hgg7)
        go_wp2_with fail
        go_roundw
        case rel => exact ⟨k + 1,hlt2,by go_num,by rw [HI.out,← List.append_assoc];exact R7,hg7⟩
        case measure => simp [intOf];omega
       ·have hks : keySE BS es k ≠ s:=fun h => he (by rw [h,HX.out] at hsg;exact (Option.some.inj hsg).symm)
        have HI:=Lib.hid (grpTo_no hks)
        have heq : (xs.toList == tx.toList) = false:=by simpa using fun h => he (toList_inj h)
        generalize grpTo (keySE BS es) k s = XG at R hgl2 HI
        clear hca hx hm hkey hsg hks he
        go_wp2_with fail
        refine t_region (Grows) [(0,false),(1,false),(2,false),(3,false),(4,false),(5,false),(6,false),(7,false),(8,false),(9,false),(10,false)] Grows.refl Grows.trans (by kernel_rfl) (by kernel_rfl) (fun d _ _ _ _ h => by cases d <;> exact h) ?_
        iterate 11 (refine t_quiet rfl (fun K hK => ?_);go_simp;refine hK _ ?_;clear hK K)
        refine t_end ?_
        clear e2 y1 y2 b2
        go_wp2_with fail
        go_roundw
        case rel => exact ⟨k + 1,hlt2,by go_num,by rw [HI.out];exact R.grows (Grows.drew wr),hg.dr⟩
        case measure => simp [intOf];omega
      ·obtain rfl : k = es.length:=by omega
       rw [HGF.out,HAS.out] at R
       have b2:=hg.cell HB24.out
       go_wp2_with fail
       go_roundw
       case rel => exact ⟨s + 1,hlt,by go_num,R,hg⟩
       case measure => simp [intOf];omega
    ·obtain rfl : s = BS.length:=by omega
     have ho1 : grpsL (keySE BS es) es.length BS.length = ordE es:=by rw [HBS.out];rfl
     have ho2 : atsL (keySE BS es) es.length BS.length = idxL newS (sortedE es) es.length:=by rw [at_idx,HBS.out]
     rw [ho1,ho2] at R
     obtain ⟨oa,oc,hve,hoat⟩:=R.at_ (i:=0) rfl rfl
     rw [ordE_len] at hve
     subst hve
     obtain ⟨aa,ac,hve,haat⟩:=R.at_ (i:=1) rfl rfl
     obtain ⟨n10,hn10⟩ : ∃ n,n = (idxL newS (sortedE es) es.length).length:=⟨_,rfl⟩
     have HN10:=Lib.hid hn10
     rw [← hn10] at hve
     clear hn10
     subst hve
     obtain ⟨WR,hWR⟩ : ∃ WR,WR = wr.drew:=⟨_,rfl⟩
     have hgR : Grows wr WR:=by rw [hWR];exact Grows.drew wr
     have HO:=Lib.hid (hoat.grows hgR)
     have HAA:=Lib.hid (haat.grows hgR)
     have HG5:=Lib.hid (Grows.trans _ _ _ hg hgR)
     have z0 : ∀ x : Ext Grows WR,x.u.cell? ⟨w.heap.size,0,none⟩ = some (.slice pa p.length pc):=ext_cell (HG5.out.cell (HG4.out.cell HB0.out))
     have z1 : ∀ x : Ext Grows WR,x.u.cell? ⟨w.heap.size,1,none⟩ = some (.pointer (some ⟨rb,0,none⟩)):=ext_cell (HG5.out.cell (HG4.out.cell HB1.out))
     have GW:=Lib.hid (Grows.trans _ _ _ HW3.out (Grows.trans _ _ _ HG4.out HG5.out))
     have hil:=idxL_le newR es es.length
     have hil4:=idxL_le newS (sortedE es) es.length
     have hol:=ordE_len es
     clear R hoat haat hg ho1 ho2 hgR
     go_wp2_with fail
     obtain ⟨D0,HD0,C0⟩ : ∃ D : List UInt8,Hid (D = posE p)∧Hid (∀ W,Grows WR W → Calls Tryz.prog 78 #[.slice pa p.length pc] W fun e w' => ∃ v,e = .returned v∧Owns w' W.heap.size 5 1 byteC v D∧Grows W w') :=
      ⟨_,rfl,fun W h => by exact rpos_any p pa pc W HV.out (HPT.out.grows (Grows.trans _ _ _ GW.out h))⟩
     obtain ⟨D1,HD1,C1⟩ : ∃ D : List UInt8,Hid (D = m.enc)∧Hid (∀ W,Grows WR W → Calls Tryz.prog 79 #[.pointer (some ⟨rb,0,none⟩)] W fun e w' => ∃ v,e = .returned v∧Owns w' W.heap.size 5 1 byteC v D∧Grows W w') :=
      ⟨_,rfl,fun W h => by exact renc_any W rb m (HR.out.grows (Grows.trans _ _ _ GW.out h))⟩
     obtain ⟨D2,HD2,C2⟩ : ∃ D : List UInt8,Hid (D = loudE (bls (readL es)))∧Hid (∀ W,Grows WR W → Calls Tryz.prog 80 #[.slice ra n2 rc] W fun e w' => ∃ v,e = .returned v∧Owns w' W.heap.size 5 1 byteC v D∧Grows W w') :=
      ⟨_,rfl,fun W h => by have h9:=rloud_any (readL es) ra rc W HK.out.1 (HRAT.out.grows (Grows.trans _ _ _ HG4.out (Grows.trans _ _ _ HG5.out h)));rw [← HN2.out] at h9;exact h9⟩
     obtain ⟨D3,HD3,C3⟩ : ∃ D : List UInt8,Hid (D = packE (idxL newR es es.length))∧Hid (∀ W,Grows WR W → Calls Tryz.prog 81 #[.slice fa n3 fc] W fun e w' => ∃ v,e = .returned v∧Owns w' W.heap.size 5 1 byteC v D∧Grows W w') :=
      ⟨_,rfl,fun W h => by have h9:=rpack_any (idxL newR es es.length) fa fc W (by omega) (fun n hn => by have:=idxL_lt hn;omega) (HF.out.grows (Grows.trans _ _ _ HG5.out h));rw [← HN3.out] at h9;exact h9⟩
     obtain ⟨D4,HD4,C4⟩ : ∃ D : List UInt8,Hid (D = loudE (bls BS))∧Hid (∀ W,Grows WR W → Calls Tryz.prog 80 #[.slice ua BS.length uc] W fun e w' => ∃ v,e = .returned v∧Owns w' W.heap.size 5 1 byteC v D∧Grows W w') :=
      ⟨_,rfl,fun W h => by exact rloud_any BS ua uc W (by rw [HBS.out];exact HK.out.2) (HUAT.out.grows (Grows.trans _ _ _ HG4.out (Grows.trans _ _ _ HG5.out h)))⟩
     obtain ⟨D5,HD5,C5⟩ : ∃ D : List UInt8,Hid (D = packE (es.map (sidE BS)))∧Hid (∀ W,Grows WR W → Calls Tryz.prog 81 #[.slice va es.length vc'] W fun e w' => ∃ v,e = .returned v∧Owns w' W.heap.size 5 1 byteC v D∧Grows W w') :=
      ⟨_,rfl,fun W h => by have h9:=rpack_any (es.map (sidE BS)) va vc' W (by rw [List.length_map];omega) (fun n hn => by obtain ⟨x,hx,rfl⟩:=List.mem_map.1 hn;have:=sidE_lt (HMS.out x hx);omega) (HVV.out.grows (Grows.trans _ _ _ HG5.out h));rw [List.length_map] at h9;exact h9⟩
     obtain ⟨D6,HD6,C6⟩ : ∃ D : List UInt8,Hid (D = packE (es.map fun x => x.l.toNat))∧Hid (∀ W,Grows WR W → Calls Tryz.prog 81 #[.slice la es.length lc] W fun e w' => ∃ v,e = .returned v∧Owns w' W.heap.size 5 1 byteC v D∧Grows W w') :=
      ⟨_,rfl,fun W h => by have h9:=rpack_any (es.map fun x => x.l.toNat) la lc W (by rw [List.length_map];omega) (fun n hn => by obtain ⟨x,hx,rfl⟩:=List.mem_map.1 hn;have:=HN.out x hx;omega) (HL.out.grows (Grows.trans _ _ _ HG5.out h));rw [List.length_map] at h9;exact h9⟩
     obtain ⟨D7,HD7,C7⟩ : ∃ D : List UInt8,Hid (D = packE (es.map fun x => x.t.toNat))∧Hid (∀ W,Grows WR W → Calls Tryz.prog 81 #[.slice ta es.length tc] W fun e w' => ∃ v,e = .returned v∧Owns w' W.heap.size 5 1 byteC v D∧Grows W w') :=
      ⟨_,rfl,fun W h => by have h9:=rpack_any (es.map fun x => x.t.toNat) ta tc W (by rw [List.length_map];omega) (fun n hn => by obtain ⟨x,hx,rfl⟩:=List.mem_map.1 hn;have:=HN.out x hx;omega) (HT.out.grows (Grows.trans _ _ _ HG5.out h));rw [List.length_map] at h9;exact h9⟩
     obtain ⟨D8,HD8,C8⟩ : ∃ D : List UInt8,Hid (D = packE (es.map fun x => x.c.toNat))∧Hid (∀ W,Grows WR W → Calls Tryz.prog 81 #[.slice ca es.length cc] W fun e w' => ∃ v,e = .returned v∧Owns w' W.heap.size 5 1 byteC v D∧Grows W w') :=
      ⟨_,rfl,fun W h => by have h9:=rpack_any (es.map fun x => x.c.toNat) ca cc W (by rw [List.length_map];omega) (fun n hn => by obtain ⟨x,hx,rfl⟩:=List.mem_map.1 hn;have:=HN.out x hx;omega) (HC.out.grows (Grows.trans _ _ _ HG5.out h));rw [List.length_map] at h9;exact h9⟩
     obtain ⟨D9,HD9,C9⟩ : ∃ D : List UInt8,Hid (D = packE (ordE es))∧Hid (∀ W,Grows WR W → Calls Tryz.prog 81 #[.slice oa es.length oc] W fun e w' => ∃ v,e = .returned v∧Owns w' W.heap.size 5 1 byteC v D∧Grows W w') :=
      ⟨_,rfl,fun W h => by have h9:=rpack_any (ordE es) oa oc W (by omega) (fun n hn => by have:=ordE_lt hn;omega) (HO.out.grows h);rw [ordE_len] at h9;exact h9⟩
     obtain ⟨D10,HD10,C10⟩ : ∃ D : List UInt8,Hid (D = packE (idxL newS (sortedE es) es.length))∧Hid (∀ W,Grows WR W → Calls Tryz.prog 81 #[.slice aa n10 ac] W fun e w' => ∃ v,e = .returned v∧Owns w' W.heap.size 5 1 byteC v D∧Grows W w') :=
      ⟨_,rfl,fun W h => by have h9:=rpack_any (idxL newS (sortedE es) es.length) aa ac W (by omega) (fun n hn => by have:=idxL_lt hn;omega) (HAA.out.grows h);rw [← HN10.out] at h9;exact h9⟩
     refine t_region (Grows) [(0,false),(1,false),(4,false),(5,false),(8,false),(11,false),(14,false),(17,false),(20,false),(23,false),(26,false),(29,false),(32,false),(2,true),(3,false),(6,true),(7,false),(9,true),(10,false),(12,true),(13,false),(15,true),(16,false),(18,true),(19,false),(21,true),(22,false),(24,true),(25,false),(27,true),(28,false),(30,true),(31,false),(33,true),(34,false),(35,true),(36,true),(37,false),(38,false),(39,false),(40,false),(41,false)] Grows.refl Grows.trans (by kernel_rfl) (by kernel_rfl) (fun d _ _ _ _ h => by cases d <;> exact h) ?_
     rw [← hWR]
     clear hWR
     iterate 13 (refine t_quiet rfl (fun K hK => ?_);go_simp;refine hK _ ?_;clear hK K)
     clear z0 z1
     refine t_late rfl rfl (fun K hK => ?_)
     go_simp
     refine (C0.out WR (Grows.refl WR)).mono ?_
     rintro e w40 ⟨v40,rfl,hv40,hg40⟩
     refine ⟨hg40,hK _ _ ?_⟩
     clear hK K
     obtain ⟨a40,c40,rfl,hat40,hn40⟩:=own_part hv40
     have PP40:=Lib.hid (And.intro hat40 hn40)
     have G40:=Lib.hid (Grows.trans _ _ _ (Grows.refl WR) hg40)
     have GA40:=Lib.hid (Grows.trans _ _ _ GW.out hg40)
     have E40:=Lib.hid hg40
     clear hv40 hat40 hn40 hg40
     iterate 1 (refine t_quiet rfl (fun K hK => ?_);go_simp;refine hK _ ?_;clear hK K)
     refine t_late rfl rfl (fun K hK => ?_)
     go_simp
     refine (C1.out w40 G40.out).mono ?_
     rintro e w41 ⟨v41,rfl,hv41,hg41⟩
     refine ⟨hg41,hK _ _ ?_⟩
     clear hK K
     obtain ⟨a41,c41,rfl,hat41,hn41⟩:=own_part hv41
     have PP41:=Lib.hid (And.intro hat41 hn41)
     have G41:=Lib.hid (Grows.trans _ _ _ G40.out hg41)
     have GA41:=Lib.hid (Grows.trans _ _ _ GA40.out hg41)
     have E41:=Lib.hid hg41
     clear hv41 hat41 hn41 hg41
     iterate 1 (refine t_quiet rfl (fun K hK => ?_);go_simp;refine hK _ ?_;clear hK K)
     refine t_late rfl rfl (fun K hK => ?_)
     go_simp
     refine (C2.out w41 G41.out).mono ?_
     rintro e w42 ⟨v42,rfl,hv42,hg42⟩
     refine ⟨hg42,hK _ _ ?_⟩
     clear hK K
     obtain ⟨a42,c42,rfl,hat42,hn42⟩:=own_part hv42
     have PP42:=Lib.hid (And.intro hat42 hn42)
     have G42:=Lib.hid (Grows.trans _ _ _ G41.out hg42)
     have GA42:=Lib.hid (Grows.trans _ _ _ GA41.out hg42)
     have E42:=Lib.hid hg42
     clear hv42 hat42 hn42 hg42
     iterate 1 (refine t_quiet rfl (fun K hK => ?_);go_simp;refine hK _ ?_;clear hK K)
     refine t_late rfl rfl (fun K hK => ?_)
     go_simp
     refine (C3.out w42 G42.out).mono ?_
     rintro e w43 ⟨v43,rfl,hv43,hg43⟩
     refine ⟨hg43,hK _ _ ?_⟩
     clear hK K
     obtain ⟨a43,c43,rfl,hat43,hn43⟩:=own_part hv43
     have PP43:=Lib.hid (And.intro hat43 hn43)
     have G43:=Lib.hid (Grows.trans _ _ _ G42.out hg43)
     have GA43:=Lib.hid (Grows.trans _ _ _ GA42.out hg43)
     have E43:=Lib.hid hg43
     clear hv43 hat43 hn43 hg43
     iterate 1 (refine t_quiet rfl (fun K hK => ?_);go_simp;refine hK _ ?_;clear hK K)
     refine t_late rfl rfl (fun K hK => ?_)
     go_simp
     refine (C4.out w43 G43.out).mono ?_
     rintro e w44 ⟨v44,rfl,hv44,hg44⟩
     refine ⟨hg44,hK _ _ ?_⟩
     clear hK K
     obtain ⟨a44,c44,rfl,hat44,hn44⟩:=own_part hv44
     have PP44:=Lib.hid (And.intro hat44 hn44)
     have G44:=Lib.hid (Grows.trans _ _ _ G43.out hg44)
     have GA44:=Lib.hid (Grows.trans _ _ _ GA43.out hg44)
     have E44:=Lib.hid hg44
     clear hv44 hat44 hn44 hg44
     iterate 1 (refine t_quiet rfl (fun K hK => ?_);go_simp;refine hK _ ?_;clear hK K)
     refine t_late rfl rfl (fun K hK => ?_)
     go_simp
     refine (C5.out w44 G44.out).mono ?_
     rintro e w45 ⟨v45,rfl,hv45,hg45⟩
     refine ⟨hg45,hK _ _ ?_⟩
     clear hK K
     obtain ⟨a45,c45,rfl,hat45,hn45⟩:=own_part hv45
     have PP45:=Lib.hid (And.intro hat45 hn45)
     have G45:=Lib.hid (Grows.trans _ _ _ G44.out hg45)
     have GA45:=Lib.hid (Grows.trans _ _ _ GA44.out hg45)
     have E45:=Lib.hid hg45
     clear hv45 hat45 hn45 hg45
     iterate 1 (refine t_quiet rfl (fun K hK => ?_);go_simp;refine hK _ ?_;clear hK K)
     refine t_late rfl rfl (fun K hK => ?_)
     go_simp
     refine (C6.out w45 G45.out).mono ?_
     rintro e w46 ⟨v46,rfl,hv46,hg46⟩
     refine ⟨hg46,hK _ _ ?_⟩
     clear hK K
     obtain ⟨a46,c46,rfl,hat46,hn46⟩:=own_part hv46
     have PP46:=Lib.hid (And.intro hat46 hn46)
     have G46:=Lib.hid (Grows.trans _ _ _ G45.out hg46)
     have GA46:=Lib.hid (Grows.trans _ _ _ GA45.out hg46)
     have E46:=Lib.hid hg46
     clear hv46 hat46 hn46 hg46
     iterate 1 (refine t_quiet rfl (fun K hK => ?_);go_simp;refine hK _ ?_;clear hK K)
     refine t_late rfl rfl (fun K hK => ?_)
     go_simp
     refine (C7.out w46 G46.out).mono ?_
     rintro e w47 ⟨v47,rfl,hv47,hg47⟩
     refine ⟨hg47,hK _ _ ?_⟩
     clear hK K
     obtain ⟨a47,c47,rfl,hat47,hn47⟩:=own_part hv47
     have PP47:=Lib.hid (And.intro hat47 hn47)
     have G47:=Lib.hid (Grows.trans _ _ _ G46.out hg47)
     have GA47:=Lib.hid (Grows.trans _ _ _ GA46.out hg47)
     have E47:=Lib.hid hg47
     clear hv47 hat47 hn47 hg47
     iterate 1 (refine t_quiet rfl (fun K hK => ?_);go_simp;refine hK _ ?_;clear hK K)
     refine t_late rfl rfl (fun K hK => ?_)
     go_simp
     refine (C8.out w47 G47.out).mono ?_
     rintro e w48 ⟨v48,rfl,hv48,hg48⟩
     refine ⟨hg48,hK _ _ ?_⟩
     clear hK K
     obtain ⟨a48,c48,rfl,hat48,hn48⟩:=own_part hv48
     have PP48:=Lib.hid (And.intro hat48 hn48)
     have G48:=Lib.hid (Grows.trans _ _ _ G47.out hg48)
     have GA48:=Lib.hid (Grows.trans _ _ _ GA47.out hg48)
     have E48:=Lib.hid hg48
     clear hv48 hat48 hn48 hg48
     iterate 1 (refine t_quiet rfl (fun K hK => ?_);go_simp;refine hK _ ?_;clear hK K)
     refine t_late rfl rfl (fun K hK => ?_)
     go_simp
     refine (C9.out w48 G48.out).mono ?_
     rintro e w49 ⟨v49,rfl,hv49,hg49⟩
     refine ⟨hg49,hK _ _ ?_⟩
     clear hK K
     obtain ⟨a49,c49,rfl,hat49,hn49⟩:=own_part hv49
     have PP49:=Lib.hid (And.intro hat49 hn49)
     have G49:=Lib.hid (Grows.trans _ _ _ G48.out hg49)
     have GA49:=Lib.hid (Grows.trans _ _ _ GA48.out hg49)
     have E49:=Lib.hid hg49
     clear hv49 hat49 hn49 hg49
     iterate 1 (refine t_quiet rfl (fun K hK => ?_);go_simp;refine hK _ ?_;clear hK K)
     refine t_late rfl rfl (fun K hK => ?_)
     go_simp
     refine (C10.out w49 G49.out).mono ?_
     rintro e w50 ⟨v50,rfl,hv50,hg50⟩
     refine ⟨hg50,hK _ _ ?_⟩
     clear hK K
     obtain ⟨a50,c50,rfl,hat50,hn50⟩:=own_part hv50
     have PP50:=Lib.hid (And.intro hat50 hn50)
     have G50:=Lib.hid (Grows.trans _ _ _ G49.out hg50)
     have GA50:=Lib.hid (Grows.trans _ _ _ GA49.out hg50)
     have E50:=Lib.hid hg50
     clear hv50 hat50 hn50 hg50
     iterate 1 (refine t_quiet rfl (fun K hK => ?_);go_simp;refine hK _ ?_;clear hK K)
     refine t_late rfl rfl (fun K hK => ?_)
     go_simp
     refine ⟨Grows.alloc _ _,hK _ _ ?_⟩
     clear hK K
     obtain ⟨P,hP⟩ : ∃ P : List PartV,P = [⟨⟨#[112,111,115]⟩,D0,a40,c40⟩,⟨⟨#[109,97,116,114,105,120]⟩,D1,a41,c41⟩,⟨⟨#[114,101,97,100,105,110,103,115]⟩,D2,a42,c42⟩,⟨⟨#[102,105,114,115,116]⟩,D3,a43,c43⟩,⟨⟨#[115,117,114,102,97,99,101,115]⟩,D4,a44,c44⟩,⟨⟨#[115,117,114,102,97,99,101]⟩,D5,a45,c45⟩,⟨⟨#[108,101,102,116]⟩,D6,a46,c46⟩,⟨⟨#[114,105,103,104,116]⟩,D7,a47,c47⟩,⟨⟨#[99,111,115,116]⟩,D8,a48,c48⟩,⟨⟨#[111,114,100,101,114]⟩,D9,a49,c49⟩,⟨⟨#[97,116]⟩,D10,a50,c50⟩]:=⟨_,rfl⟩
     have hPl : P.length = 11:=by rw [hP];rfl
     obtain ⟨W9,hW9⟩ : ∃ W,W = w50.alloc (.cells (P.flatMap partC).toArray 129):=⟨_,rfl⟩
     have HPB : Hid (P.map bare = imgP p m es):=by
      show _ = _
      rw [hP]
      unfold imgP
      rw [← HBS.out,← HD0.out,← HD1.out,← HD2.out,← HD3.out,← HD4.out,← HD5.out,← HD6.out,← HD7.out,← HD8.out,← HD9.out,← HD10.out]
      rfl
     have hSM : ∀ q ∈ P,q.data.length ≤ 16777216:=fun q hq => by
      have h1:=sum14_mem hq
      rw [← sum14_bare,HPB.out] at h1
      have h2:=chk14_sum H14.out
      omega
     have hPA : PartsAt w50 P:=by
      have T50:=Grows.refl w50
      have T49:=Grows.trans _ _ _ E50.out T50
      have T48:=Grows.trans _ _ _ E49.out T49
      have T47:=Grows.trans _ _ _ E48.out T48
      have T46:=Grows.trans _ _ _ E47.out T47
      have T45:=Grows.trans _ _ _ E46.out T46
      have T44:=Grows.trans _ _ _ E45.out T45
      have T43:=Grows.trans _ _ _ E44.out T44
      have T42:=Grows.trans _ _ _ E43.out T43
      have T41:=Grows.trans _ _ _ E42.out T42
      have T40:=Grows.trans _ _ _ E41.out T41
      refine ⟨fun q hq => ?_,fun q hq => ?_,fun q hq => ?_,fun q hq => Nat.le_trans (hSM q hq) (by decide)⟩ <;> rw [hP] at hq <;> simp only [List.mem_cons,List.mem_nil_iff,or_false] at hq
      ·rcases hq with rfl | rfl | rfl | rfl | rfl | rfl | rfl | rfl | rfl | rfl | rfl
       ·exact PP40.out.1.grows T40
       ·exact PP41.out.1.grows T41
       ·exact PP42.out.1.grows T42
       ·exact PP43.out.1.grows T43
       ·exact PP44.out.1.grows T44
       ·exact PP45.out.1.grows T45
       ·exact PP46.out.1.grows T46
       ·exact PP47.out.1.grows T47
       ·exact PP48.out.1.grows T48
       ·exact PP49.out.1.grows T49
       ·exact PP50.out.1.grows T50
      ·rcases hq with rfl | rfl | rfl | rfl | rfl | rfl | rfl | rfl | rfl | rfl | rfl
       ·exact PP40.out.2
       ·exact PP41.out.2
       ·exact PP42.out.2
       ·exact PP43.out.2
       ·exact PP44.out.2
       ·exact PP45.out.2
       ·exact PP46.out.2
       ·exact PP47.out.2
       ·exact PP48.out.2
       ·exact PP49.out.2
       ·exact PP50.out.2
      ·rcases hq with rfl | rfl | rfl | rfl | rfl | rfl | rfl | rfl | rfl | rfl | rfl <;> simp [ByteArray.size]
     have hPC : AtCells W9 (some ⟨w50.heap.size,0,none⟩) 2 (P.map partC):=by
      rw [hW9]
      exact parts_cells P w50 _ (by omega)
     have hg9 : Grows w50 W9:=by rw [hW9];exact Grows.alloc _ _
     have CJ:=Lib.hid (rjoin_any P (some ⟨w50.heap.size,0,none⟩) 11 W9 (by omega) hPC (hPA.grows hg9))
     rw [hPl] at CJ
     have hW9' : W9 = w50.alloc (.cells (P.flatMap partC).toArray 129):=hW9
     rw [hP] at hW9'
     have HW9:=Lib.hid hW9'
     have CJ2 : ∀ W,W = W9 → Hid (Calls Tryz.prog 77 #[.slice (some ⟨w50.heap.size,0,none⟩) 11 11] W (JoinPost P W9)):=by rintro _ rfl;exact CJ
     have G9:=Lib.hid (Grows.trans _ _ _ GA50.out hg9)
     have h0 : chk14 P = 0:=by rw [← chk14_bare,HPB.out];exact H14.out
     have HFI : Hid (file14 P = file14 (imgP p m es)):=by show _ = _;rw [← file14_bare,HPB.out]
     have H0:=Lib.hid h0
     clear hP hW9 hW9' hPA hPC CJ hg9 hSM h0
     refine t_late rfl rfl (fun K hK => ?_)
     go_simp
     refine (CJ2 _ ?_).out.mono ?_
     ·rw [HW9.out];rfl
     rintro e w51 ⟨hj0,_,hgJ⟩
     obtain ⟨v,rfl,hv'⟩:=hj0 H0.out
     rw [HFI.out] at hv'
     have GJ:=Lib.hid (Grows.trans _ _ _ G9.out hgJ)
     have HVJ:=Lib.hid (hv'.base G9.out.size)
     clear hj0 hv'
     refine ⟨?_,hK _ _ ?_⟩
     ·rw [show w50.alloc _ = W9 from ?_]
      ·exact hgJ
      ·rw [HW9.out];rfl
     clear hK K hgJ
     iterate 5 (refine t_quiet rfl (fun K hK => ?_);go_simp;refine hK _ ?_;clear hK K)
     refine t_end ?_
     go_wp2_with fail
     go_ret
     exact ⟨GJ.out,_,rfl,HVJ.out⟩
end Go.Proofs.YtepoiefadjoabaaGreatDoor
namespace Go.Proofs.YtepoiefadjoabaaGreatDoor
open Go Go.RowKit Go.Shelf Go.Sort
theorem grownBy_nv {w : World} {g n : Nat} {os : Array Obj} (d : Array Nat) : w.grownBy (grow (putRow nv (Sort.ahead w n) g 0 d) os) (some g) := by
 refine ⟨rfl,rfl,rfl,by simp,fun k hk hne => ?_⟩
 rw [heap_grow_old _ _ (by simpa using hk)]
 have : g ≠ k:=fun e => hne (by rw [e])
 simp [putRow,mapBlock,Sort.ahead,Array.getElem?_modify,this]
theorem sw_grows {wB w0 W : World} {ob : Nat} {dk : Array Nat} (hB : Grows wB w0) (hob : wB.heap.size ≤ ob) (S : SWn w0 ob dk W) : Grows wB W := by
 obtain ⟨m,os,rfl⟩:=S
 exact hB.grown (grownBy_nv dk) (fun q hq => by cases hq;exact hob)
theorem ord_at {es : List En} {BS : List ByteArray} {ib eb sc ob : Nat} {sa : Option Addr} {wB w0 : World} (hn : es.length ≤ 1048576) (hL : BS.length ≤ 1048576) (hB : Grows wB w0) (hob : wB.heap.size ≤ ob) (hid : IdAt wB ib BS) (hcell : wB.cell? ⟨eb, 0, none⟩ = some (.slice sa es.length sc)) (hat : AtCells wB sa 5 (es.map enCells))
  (hown : Owns w0 wB.heap.size 3 1 natC (.slice (some ⟨ob,0,none⟩) es.length es.length) (List.range es.length)) (hlt : ob < w0.heap.size) (hm : ∀ x ∈ es,x.s ∈ BS) (hz : ∀ x ∈ es,x.s.size ≤ maxLen) :
  StabAt (keySE BS es) es.length ob 41 #[.pointer (some ⟨ib,0,none⟩),.pointer (some ⟨eb,0,none⟩)] (List.range es.length).toArray w0∧SWn w0 ob (List.range es.length).toArray w0:=by
 have hH : Holds nv w0 ob 0 (List.range es.length).toArray:=fun j hj => by
  have hj2 : j < es.length:=by simpa using hj
  have h1:=own_cell1 (f:=fun n : Nat => Value.int .i64 n) hown (k:=j) (x:=j) (by rw [List.getElem?_range hj2])
  obtain ⟨h2,_,_⟩:=owns_set1 (f:=fun n : Nat => Value.int .i64 n) hown (k:=j) (by simpa using hj2) 0
  refine ⟨?_,by rw [Nat.zero_add];exact h2⟩
  rw [Nat.zero_add,h1]
  simp [nv,hj2]
 refine ⟨⟨⟨fun x => rfl,hH,hlt⟩,by simp,hn,bcl4_eg, ?_⟩,⟨0,#[],(sortWorld_start nv w0 ob 0 _ hH).symm⟩⟩
 intro m os dk hs x y hx hy
 have hg : Grows wB (sortWorld nv w0 ob 0 m dk os):=sw_grows hB hob ⟨m,os,rfl⟩
 have hex : es[x]? = some (es.getD x enZero):=by rw [List.getD_eq_getElem?_getD,List.getElem?_eq_getElem hx];rfl
 have hey : es[y]? = some (es.getD y enZero):=by rw [List.getD_eq_getElem?_getD,List.getElem?_eq_getElem hy];rfl
 have hmx:=List.mem_of_getElem? hex
 have hmy:=List.mem_of_getElem? hey
 have h:=bcl4_any BS ib eb (keySE BS es x) (keySE BS es y) x y es (es.getD x enZero) (es.getD y enZero) sa sc _ (hid.grows hg) (hg.cell hcell) (hat.grows hg) hn hL hex hey (sidE_get (hm _ hmx)) (sidE_get (hm _ hmy)) ⟨hz _ hmx,hz _ hmy⟩
 exact h.mono fun e w' ⟨h1,h2⟩ => ⟨h1,1,#[],by rw [h2,grow_empty];rfl⟩
theorem ord_left {es : List En} {BS : List ByteArray} {ob : Nat} {_wB w0 w' : World} {dk : Array Nat} (hs : dk.size = es.length) (hw : Win (keySE BS es) (Fd dk) 0 es.length) (hm : ∀ x ∈ es, x.s ∈ BS) (R : Row1 nv w0 ob 0 (List.range es.length).toArray) (S : SWn w0 ob dk w') :
  AtCells w' (some ⟨ob,0,none⟩) 1 ((grpsL (keySE BS es) es.length BS.length).map natC)∧(grpsL (keySE BS es) es.length BS.length).length = es.length∧∀ i ∈ grpsL (keySE BS es) es.length BS.length,i < es.length:=by
 have h1 : (List.range es.length).map (Fd dk) = grpsL (keySE BS es) es.length BS.length:=win_grps hw fun i hi => by
  have hex : es[i]? = some (es.getD i enZero):=by rw [List.getD_eq_getElem?_getD,List.getElem?_eq_getElem hi];rfl
  exact sidE_lt (hm _ (List.mem_of_getElem? hex))
 rw [← h1]
 refine ⟨fun _ => ⟨ob,0,rfl,fun i row hi j u hj => ?_⟩,by simp,fun i hi => ?_⟩
 ·rw [List.getElem?_map,List.getElem?_map] at hi
  rcases Nat.lt_or_ge i es.length with hlt | hge
  ·rw [List.getElem?_range hlt] at hi
   simp only [Option.map_some,Option.some.injEq] at hi
   subst hi
   match j,hj with
   | 0,hj =>
    have:=S.c1 R (by rw [hs];simp) i (by omega)
    simp only [natC,List.getElem?_cons_zero,Option.some.injEq] at hj
    subst hj
    simpa [Fd,nv] using this
  ·rw [List.getElem?_eq_none (by simpa using hge)] at hi
   cases hi
 ·obtain ⟨j,hj,rfl⟩:=List.mem_map.1 hi
  rw [List.mem_range] at hj
  exact (hw.inn j (Nat.zero_le _) hj).2
end Go.Proofs.YtepoiefadjoabaaGreatDoor
