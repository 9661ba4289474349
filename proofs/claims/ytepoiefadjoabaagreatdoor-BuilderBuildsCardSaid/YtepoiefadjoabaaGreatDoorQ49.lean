/- The texts BuildsL, one behind the other. -/
import Derived.Test.YtepoiefadjoabaaGreatDoorQ48
import Derived.Test.YtepoiefadjoabaaGreatDoorQ7
import Derived.Test.YtepoiefadjoabaaGreatDoorQ21
import Derived.Test.YtepoiefadjoabaaGreatDoorQ25
namespace Go.Proofs.YtepoiefadjoabaaGreatDoor
open Go Go.RowKit Go.Shelf
attribute [local go_sem] quietE quietE2
set_option maxHeartbeats 8000000 in
set_option maxRecDepth 100000 in
theorem builds_of (HW : ∀ W, Env W → Calls Tryz.prog 12 #[] W fun e w' => e = .returned (.bool true) ∧ Grows W w')
  (x : SrcV) (A : SrcA) (w : World) (he : Env w) (hok : SrcOK x) (hnil : A.ea = none → A.ec = 0) (hat : SrcAt w A x) :
  Calls Tryz.prog 3 #[A.agg x] w fun e w' => e = .returned (.bool true)∧Grows w w':=by
 have hok0:=Lib.hid hok
 obtain ⟨pa,pc,sa,sc,ea,ec⟩:=A
 obtain ⟨xp,xd,xs,xe⟩:=x
 obtain ⟨W0,hW0⟩ : ∃ W0,W0 = w.alloc (.cells #[.slice pa xp.length pc,.int .i64 xd,.slice sa xs.length sc,.slice ea xe.length ec] 26):=⟨_,rfl⟩
 have hg0 : Grows w W0:=by rw [hW0];exact Grows.alloc _ _
 have hbx:=fun j u h => cell_box w #[.slice pa xp.length pc,.int .i64 xd,.slice sa xs.length sc,.slice ea xe.length ec] 26 (0,0) j u h
 rw [← hW0] at hbx
 have q0:=hbx 0 _ rfl
 have q1:=hbx 1 _ rfl
 have q2:=hbx 2 _ rfl
 have q3:=hbx 3 _ rfl
 have HQ:=Lib.hid (And.intro q0 (And.intro q1 (And.intro q2 q3)))
 have HSA:=Lib.hid (hat.grows hg0)
 have HG0:=Lib.hid hg0
 clear hbx
 have HNIL : Hid (ea = none → ec = 0):=hnil
 have HE:=Lib.hid he
 have CW:=fun W (h : Grows w W) => Lib.hid (HW W (he.grows h))
 have CL:=Lib.hid (light_any ⟨xp,xd,xs,xe⟩ ⟨pa,pc,sa,sc,ea,ec⟩ W0 hok0.out HSA.out)
 unfold SrcA.agg SrcA.cells at CL
 simp only at CL
 show Calls _ _ #[.agg #[.slice pa xp.length pc,.int .i64 xd,.slice sa xs.length sc,.slice ea xe.length ec]] _ _
 cases hl : lightS ⟨xp,xd,xs,xe⟩ with
 | false =>
  rw [hl] at CL
  go_enter Tryz.func3,Tryz.ntmps3
  go_wp2_with fail
  rw [← hW0]
  clear hW0
  refine CL.out.mono ?_
  rintro e w1 ⟨rfl,hg1⟩
  go_wp2
  go_ret
  exact ⟨rfl,Grows.trans _ _ _ HG0.out hg1⟩
 | true =>
  rw [hl] at CL
  obtain ⟨_,h400,h70,h300,hx300⟩:=lightS_of hl
  obtain ⟨_,hB2,hB3⟩:=srcB hl hok0.out
  have HB2 : Hid (∀ y ∈ xe,y.r.size ≤ 1099511627776∧y.s.size ≤ 1099511627776):=hB2
  have HB3 : Hid (∀ y ∈ xp,y.name.size ≤ 9223372036854775807):=hB3
  replace h70 : xp.length ≤ 70:=h70
  replace hx300 : xe.length ≤ 300:=hx300
  have CI:=fun (W : World) (h : Grows W0 W) => Lib.hid (image_any ⟨xp,xd,xs,xe⟩ ⟨pa,pc,sa,sc,ea,ec⟩ W (HE.out.grows (Grows.trans _ _ _ HG0.out h)) hok0.out HB2.out (HSA.out.grows h))
  have CC:=fun (W : World) (h : Grows W0 W) => Lib.hid (costs_any ⟨xp,xd,xs,xe⟩ ⟨pa,pc,sa,sc,ea,ec⟩ W hok0.out (HSA.out.grows h))
  unfold SrcA.agg SrcA.cells at CI CC
  simp only at CI CC
  have CP:=fun (W : World) (h : Grows W0 W) => Lib.hid (positions_any xp pa pc W (by omega) (HSA.out.p.grows h))
  have CB:=fun (p : Option Addr) (c : Nat) (mv : Value) (oa : Option Addr) (oc : Nat) (W : World) (hp : AtCells W p 2 (xp.map posCells)) (hm : RefV W mv (srcM ⟨xp,xd,xs,xe⟩)) (ho : AtCells W oa 5 (xe.map enCells)) => Lib.hid (rbuild_any xp mv (srcM ⟨xp,xd,xs,xe⟩) xe p oa c oc W (by omega) HB3.out hx300 HB2.out hp hm ho)
  have HE5 : Hid (AtCells W0 ea 5 (xe.map enCells)):=HSA.out.e
  generalize srcM ⟨xp,xd,xs,xe⟩ = SM at CI CC CB
  clear hl hat hok he hnil HB2 HB3 h400 h300 hB2 hB3
  go_enter Tryz.func3,Tryz.ntmps3
  go_wp2_with fail
  rw [← hW0]
  clear hW0
  refine CL.out.mono ?_
  rintro e w1 ⟨rfl,hg1⟩
  clear CL q0 q1 q2
  have q3:=(hg1.al (.cells #[] 38)).cell HQ.out.2.2.2
  have HSRC:=Lib.hid (HE5.out.grows (hg1.al (.cells #[] 38)))
  have hwz:=hg1.size
  go_wp2_with (at_builtin;refine app_many entLay rfl _ _ rfl W0.heap.size _ [] xe rfl (owns_lit W0.heap.size hwz) (Grows.refl _) ea ec rfl HSRC.out HNIL.out (by simp;omega) (Nat.le_trans hwz (by simp)) ?_;intro v' w3 hown3 hg3;have hgx3:=hg3 W0 (hg1.al _) (Nat.le_refl _);have q0:=hgx3.cell HQ.out.1;have q1:=hgx3.cell HQ.out.2.1;have q2:=hgx3.cell HQ.out.2.2.1;have q3:=hgx3.cell HQ.out.2.2.2)
  rw [List.nil_append] at hown3
  obtain ⟨oa,oc,rfl,_,_,hoat⟩:=hown3.at_ entLay.len
  clear hown3 hg3 hg1 HSRC hwz
  go_wp2_with fail
  refine (CI w3 hgx3).out.mono ?_
  rintro e w4 ⟨hg4,v4,rfl,hv4⟩
  have hgx4:=Grows.trans _ _ _ hgx3 hg4
  have HO4:=Lib.hid (hoat.grows hg4)
  clear hoat q0 q1 q2 q3
  go_wp2_with fail
  have z0 : ∀ x : Ext Grows w4.drew,x.u.cell? ⟨w.heap.size,0,none⟩ = some (.slice pa xp.length pc):=ext_cell (hgx4.dr.cell HQ.out.1)
  have z1 : ∀ x : Ext Grows w4.drew,x.u.cell? ⟨w.heap.size,1,none⟩ = some (.int .i64 xd):=ext_cell (hgx4.dr.cell HQ.out.2.1)
  have z2 : ∀ x : Ext Grows w4.drew,x.u.cell? ⟨w.heap.size,2,none⟩ = some (.slice sa xs.length sc):=ext_cell (hgx4.dr.cell HQ.out.2.2.1)
  have z3 : ∀ x : Ext Grows w4.drew,x.u.cell? ⟨w.heap.size,3,none⟩ = some (.slice ea xe.length ec):=ext_cell (hgx4.dr.cell HQ.out.2.2.2)
  refine t_region (Grows) [(0,false),(1,false),(3,false),(5,false),(2,true),(4,true),(6,true),(7,false),(8,false),(9,false),(10,false),(11,false)] Grows.refl Grows.trans (by kernel_rfl) (by kernel_rfl) (fun d _ _ _ _ h => by cases d <;> exact h) ?_
  iterate 4 (refine t_quiet rfl (fun K hK => ?_);go_simp;refine hK _ ?_;clear hK K)
  clear z0 z1 z2 z3
  refine t_late rfl rfl (fun K hK => ?_)
  go_simp
  refine ((CP w4.drew hgx4.dr).out).mono ?_
  rintro e w5 ⟨p5,c5,rfl,hp5,hg5⟩
  refine ⟨hg5,hK _ _ ?_⟩
  clear hK K
  have hgx5:=Grows.trans _ _ _ hgx4.dr hg5
  refine t_late rfl rfl (fun K hK => ?_)
  go_simp
  refine ((CC w5 hgx5).out).mono ?_
  rintro e w6 ⟨mv,rfl,hm6,hg6⟩
  refine ⟨hg6,hK _ _ ?_⟩
  clear hK K
  have hgx6:=Grows.trans _ _ _ hgx5 hg6
  have hg46:=Grows.trans _ _ _ (Grows.drew w4) (Grows.trans _ _ _ hg5 hg6)
  refine t_late rfl rfl (fun K hK => ?_)
  go_simp
  refine ((CB p5 c5 mv oa oc w6 (hp5.grows hg6) hm6 (HO4.out.grows hg46)).out).mono ?_
  rintro e w7 ⟨hg7,v7,rfl,hv7⟩
  refine ⟨hg7,hK _ _ ?_⟩
  clear hK K
  iterate 5 (refine t_quiet rfl (fun K hK => ?_);go_simp;refine hK _ ?_;clear hK K)
  refine t_end ?_
  have hgx7:=Grows.trans _ _ _ hgx6 hg7
  have HO7:=Lib.hid (HO4.out.grows (Grows.trans _ _ _ hg46 hg7))
  have hv47:=hv4.grows (Grows.trans _ _ _ hg46 hg7)
  obtain ⟨EB,hEB⟩ : ∃ b,b = buildB xp SM xe:=⟨_,rfl⟩
  rw [← hEB] at hv7 hv47 ⊢
  obtain ⟨f,img⟩:=EB
  obtain ⟨b4,d4,rfl,_,_,hat4⟩:=hv47.at_ byteLay.len
  obtain ⟨b7,d7,rfl,_,_,hat7⟩:=hv7.at_ byteLay.len
  simp only at hat4 hat7
  have HA4:=Lib.hid hat4
  have HA7:=Lib.hid hat7
  clear CI CC CP CB hg46 hp5 hm6 hv4 hv7 hv47 hat4 hat7 hEB hg4 hg5 hg6 hg7 hgx3 hgx4 hgx5 hgx6
  go_wp2_with fail
  go_loopw [8] (fun i wr => ∃ (k : Nat),k ≤ xe.length∧i = .int .i64 k∧Grows w7 wr) (fun i _ => xe.length - (intOf i).toNat)
  case atStart => exact ⟨0,Nat.zero_le _,rfl,Grows.refl _⟩
  case round =>
   obtain ⟨k,hk,rfl,hg⟩:=hrel
   have hgx:=Grows.trans _ _ _ hgx7 hg
   by_cases hlt : k < xe.length
   ·obtain ⟨⟨yr,ys,yl,yt,yc⟩,hx⟩ : ∃ y,xe[k]? = some y:=⟨_,List.getElem?_eq_getElem hlt⟩
    obtain ⟨ba,fa,rfl,hca⟩:=(HE5.out.grows hgx).get (ne_nil_of_lt hlt)
    obtain ⟨bo,fo,rfl,hco⟩:=(HO7.out.grows hg).get (ne_nil_of_lt hlt)
    have z3 : ∀ x : Ext Grows wr.drew,x.u.cell? ⟨w.heap.size,3,none⟩ = some (.slice (some ⟨ba,fa,none⟩) xe.length ec):=ext_cell (hgx.dr.cell HQ.out.2.2.2)
    have hki : (k : Int) < xe.length:=by omega
    have a0 : ∀ x : Ext Grows wr.drew,x.u.cell? ⟨ba,fa + k * 5,none⟩ = some (.string yr):=ext_cell ((Grows.drew wr).cell (hca k _ hx 0 _ rfl))
    have b0 : ∀ x : Ext Grows wr.drew,x.u.cell? ⟨bo,fo + k * 5,none⟩ = some (.string yr):=ext_cell ((Grows.drew wr).cell (hco k _ hx 0 _ rfl))
    have a1 : ∀ x : Ext Grows wr.drew,x.u.cell? ⟨ba,fa + k * 5 + 1,none⟩ = some (.string ys):=ext_cell ((Grows.drew wr).cell (hca k _ hx 1 _ rfl))
    have b1 : ∀ x : Ext Grows wr.drew,x.u.cell? ⟨bo,fo + k * 5 + 1,none⟩ = some (.string ys):=ext_cell ((Grows.drew wr).cell (hco k _ hx 1 _ rfl))
    have a2 : ∀ x : Ext Grows wr.drew,x.u.cell? ⟨ba,fa + k * 5 + 2,none⟩ = some (.int .i64 yl):=ext_cell ((Grows.drew wr).cell (hca k _ hx 2 _ rfl))
    have b2 : ∀ x : Ext Grows wr.drew,x.u.cell? ⟨bo,fo + k * 5 + 2,none⟩ = some (.int .i64 yl):=ext_cell ((Grows.drew wr).cell (hco k _ hx 2 _ rfl))
    have a3 : ∀ x : Ext Grows wr.drew,x.u.cell? ⟨ba,fa + k * 5 + 3,none⟩ = some (.int .i64 yt):=ext_cell ((Grows.drew wr).cell (hca k _ hx 3 _ rfl))
    have b3 : ∀ x : Ext Grows wr.drew,x.u.cell? ⟨bo,fo + k * 5 + 3,none⟩ = some (.int .i64 yt):=ext_cell ((Grows.drew wr).cell (hco k _ hx 3 _ rfl))
    have a4 : ∀ x : Ext Grows wr.drew,x.u.cell? ⟨ba,fa + k * 5 + 4,none⟩ = some (.int .i64 yc):=ext_cell ((Grows.drew wr).cell (hca k _ hx 4 _ rfl))
    have b4 : ∀ x : Ext Grows wr.drew,x.u.cell? ⟨bo,fo + k * 5 + 4,none⟩ = some (.int .i64 yc):=ext_cell ((Grows.drew wr).cell (hco k _ hx 4 _ rfl))
    have e1 : (yr.toList == yr.toList) = true:=by simp
    have e2 : (ys.toList == ys.toList) = true:=by simp
    clear hca hco hx
    go_wp2_with fail
    refine t_region (Grows) [(0,false),(1,false),(2,false),(3,false),(4,false),(5,false),(6,false),(7,false),(8,false),(9,false)] Grows.refl Grows.trans (by kernel_rfl) (by kernel_rfl) (fun d _ _ _ _ h => by cases d <;> exact h) ?_
    iterate 10 (refine t_quiet rfl (fun K hK => ?_);go_simp;refine hK _ ?_;clear hK K)
    refine t_end ?_
    clear z3 a0 a1 a2 a3 a4 b0 b1 b2 b3 b4
    go_wp2_with fail
    go_roundw
    case rel => exact ⟨k + 1,hlt,by go_num,hg.dr⟩
    case measure => simp [intOf];omega
   ·obtain rfl : k = xe.length:=by omega
    have v4 : (convert 28 9 (.slice b4 img.length d4)).run Tryz.prog wr = .ok (.string (mkB img)) wr:=conv_at2 (HA4.out.grows hg)
    have v7 : (convert 28 9 (.slice b7 img.length d7)).run Tryz.prog wr = .ok (.string (mkB img)) wr:=conv_at2 (HA7.out.grows hg)
    have e1 : ((mkB img).toList == (mkB img).toList) = true:=by simp
    have CW7:=CW wr (Grows.trans _ _ _ HG0.out hgx)
    go_wp2_with fail
    refine CW7.out.mono ?_
    rintro e w8 ⟨rfl,hg8⟩
    go_wp2
    go_ret
    exact ⟨rfl,Grows.trans _ _ _ HG0.out (Grows.trans _ _ _ hgx hg8)⟩
end Go.Proofs.YtepoiefadjoabaaGreatDoor
