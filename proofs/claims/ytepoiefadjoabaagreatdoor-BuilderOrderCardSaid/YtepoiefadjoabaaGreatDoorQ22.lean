/- The texts Src OpenSrc RefS, one behind the other. -/
import Derived.Test.YtepoiefadjoabaaGreatDoorQ16
import Derived.Test.YtepoiefadjoabaaGreatDoorQ14
import Derived.Test.YtepoiefadjoabaaGreatDoorQ21
import Derived.Test.YtepoiefadjoabaaGreatDoorQ12
import Derived.Test.YtepoiefadjoabaaGreatDoorQ7
import Derived.Test.YtepoiefadjoabaaGreatDoorQ1
namespace Go.Proofs.YtepoiefadjoabaaGreatDoor
open Go Go.RowKit
attribute [local go_sem] quietE quietE2
def RefV (w : World) (v : Value) : Option Mx → Prop
 | none => v = .pointer none
 | some m => ∃ rb,v = .pointer (some ⟨rb,0,none⟩)∧RefAt w rb m
theorem RefV.grows {w w' : World} {v : Value} {m : Option Mx} (h : RefV w v m) (hg : Grows w w') : RefV w' v m := by
 cases m with
 | none => exact h
 | some m => obtain ⟨rb,e,hr⟩:=h;exact ⟨rb,e,hr.grows hg⟩
theorem posLay15 : ElemLay Tryz.prog 33 66 2 24 posCells where
 sl:=Tryz.underlying33
 info:=elem_info (z:=.agg #[.string ⟨#[]⟩,.int .i64 0]) (by kernel_rfl) rfl
 pos:=by decide
 by1:=by decide
 len _:=rfl
 one x u hu:=by
  simp [posCells] at hu
  rcases hu with rfl | rfl <;> rfl
structure SrcV where
 p : List PosV
 d : Int
 s : List SetV
 e : List En
structure SrcA where
 pa : Option Addr
 pc : Nat
 sa : Option Addr
 sc : Nat
 ea : Option Addr
 ec : Nat
def SrcA.cells (a : SrcA) (x : SrcV) : Array Value := #[.slice a.pa x.p.length a.pc, .int .i64 x.d, .slice a.sa x.s.length a.sc, .slice a.ea x.e.length a.ec]
def SrcA.agg (a : SrcA) (x : SrcV) : Value := .agg (a.cells x)
structure SrcAt (w : World) (a : SrcA) (x : SrcV) : Prop where
 p : AtCells w a.pa 2 (x.p.map posCells)
 s : AtCells w a.sa 3 (x.s.map setC)
 e : AtCells w a.ea 5 (x.e.map enCells)
theorem SrcAt.grows {w w' : World} {a : SrcA} {x : SrcV} (h : SrcAt w a x) (hg : Grows w w') : SrcAt w' a x := ⟨h.p.grows hg, h.s.grows hg, h.e.grows hg⟩
structure SrcOK (x : SrcV) : Prop where
 p : ∀ y ∈ x.p,y.name.size ≤ maxLen
 s : ∀ y ∈ x.s,WfI y.c
 e : ∀ y ∈ x.e,EnOK y
 d : WfI x.d
 lp : x.p.length ≤ 140737488355328
 ls : x.s.length ≤ 140737488355328
 le : x.e.length ≤ 140737488355328
def bigP (y : PosV) : Bool := decide (400 < y.name.size)
def bigE (y : En) : Bool := decide (400 < y.r.size) || decide (400 < y.s.size)
def lightS (x : SrcV) : Bool := !x.p.any bigP && !x.e.any bigE && decide (x.p.length ≤ 70) && decide (x.s.length ≤ 300) && decide (x.e.length ≤ 300)
theorem lightS_of {x : SrcV} (h : lightS x = true) : (∀ y ∈ x.p, y.name.size ≤ 400) ∧ (∀ y ∈ x.e, y.r.size ≤ 400 ∧ y.s.size ≤ 400) ∧ x.p.length ≤ 70 ∧ x.s.length ≤ 300 ∧ x.e.length ≤ 300 := by
 unfold lightS at h
 simp only [Bool.and_eq_true,Bool.not_eq_true',decide_eq_true_eq,List.any_eq_false] at h
 obtain ⟨⟨⟨⟨h1,h2⟩,h3⟩,h4⟩,h5⟩:=h
 refine ⟨fun y hy => ?_,fun y hy => ?_,h3,h4,h5⟩
 ·have:=h1 y hy;unfold bigP at this;simp at this;exact this
 ·have:=h2 y hy;unfold bigE at this;simp at this;exact this
theorem anyDrop {α : Type} {f : α → Bool} {l : List α} {k : Nat} {x : α} (h : l[k]? = some x) : (l.drop k).any f = (f x || (l.drop (k + 1)).any f) := by
 obtain ⟨hk,rfl⟩:=List.getElem?_eq_some_iff.1 h
 rw [List.drop_eq_getElem_cons hk,List.any_cons]
def srcM (x : SrcV) : Option Mx := if newB x.p.length x.d then some (runSets (newM x.p.length x.d) x.s) else none
set_option maxHeartbeats 4000000 in
set_option maxRecDepth 100000 in
theorem light_any (x : SrcV) (A : SrcA) (w : World) (hok : SrcOK x) (hat : SrcAt w A x) :
  Calls Tryz.prog 7 #[A.agg x] w fun e w' => e = .returned (.bool (lightS x))∧Grows w w':=by
 have hlp:=hok.lp
 have hle:=hok.le
 have hls:=hok.ls
 clear hok
 obtain ⟨pa,pc,sa,sc,ea,ec⟩:=A
 obtain ⟨xp,xd,xs,xe⟩:=x
 try replace hlp : xp.length ≤ 140737488355328:=hlp
 try replace hls : xs.length ≤ 140737488355328:=hls
 try replace hle : xe.length ≤ 140737488355328:=hle
 obtain ⟨W0,hW0⟩ : ∃ W0,W0 = w.alloc (.cells #[.slice pa xp.length pc,.int .i64 xd,.slice sa xs.length sc,.slice ea xe.length ec] 26):=⟨_,rfl⟩
 have hg0 : Grows w W0:=by rw [hW0];exact Grows.alloc _ _
 have hbx:=fun j u h => cell_box w #[.slice pa xp.length pc,.int .i64 xd,.slice sa xs.length sc,.slice ea xe.length ec] 26 (0,0) j u h
 rw [← hW0] at hbx
 have q0:=hbx 0 _ rfl
 have q1:=hbx 1 _ rfl
 have q2:=hbx 2 _ rfl
 have q3:=hbx 3 _ rfl
 have HQ:=Lib.hid (And.intro q0 (And.intro q1 (And.intro q2 q3)))
 have HP : Hid (AtCells W0 pa 2 (xp.map posCells)):=hat.p.grows hg0
 have HS : Hid (AtCells W0 sa 3 (xs.map setC)):=hat.s.grows hg0
 have HE : Hid (AtCells W0 ea 5 (xe.map enCells)):=hat.e.grows hg0
 have HG0:=Lib.hid hg0
 clear hbx hat hg0
 show Calls _ _ #[.agg #[.slice pa xp.length pc,.int .i64 xd,.slice sa xs.length sc,.slice ea xe.length ec]] _ _
 have HL : Hid (lightS ⟨xp,xd,xs,xe⟩ = (!xp.any bigP && !xe.any bigE && decide (xp.length ≤ 70) && decide (xs.length ≤ 300) && decide (xe.length ≤ 300))):=rfl
 obtain ⟨LB,hLB⟩ : ∃ b,b = lightS ⟨xp,xd,xs,xe⟩:=⟨_,rfl⟩
 rw [← hLB] at HL ⊢
 clear hLB q1 q2 q3
 go_enter Tryz.func7,Tryz.ntmps7
 go_wp2_with fail
 rw [← hW0]
 clear hW0
 go_loopw [3] (fun i wr => ∃ (k : Nat),k ≤ xp.length∧i = .int .i64 k∧Hid ((xp.drop k).any bigP = xp.any bigP)∧wr = W0) (fun i _ => xp.length - (intOf i).toNat)
 case atStart => exact ⟨0,Nat.zero_le _,rfl,rfl,rfl⟩
 case round =>
  obtain ⟨k,hk,rfl,hF,rfl⟩:=hrel
  by_cases hlt : k < xp.length
  ·obtain ⟨⟨yn,yk⟩,hx⟩ : ∃ y,xp[k]? = some y:=⟨_,List.getElem?_eq_getElem hlt⟩
   obtain ⟨ba,oa,rfl,hca⟩:=HP.out.get (ne_nil_of_lt hlt)
   have c0 : wr.cell? ⟨ba,oa + k * 2,none⟩ = some (.string yn):=hca k _ hx 0 _ rfl
   have hki : (k : Int) < xp.length:=by omega
   have HD:=Lib.hid (anyDrop (f:=bigP) hx)
   rw [hF.out] at HD
   clear hca hx hF
   by_cases hb : 400 < yn.size
   ·have hbi : (400 : Int) < yn.size:=by omega
    have HX : Hid (xp.any bigP = true):=by show _ = _;rw [HD.out];unfold bigP;simp [hb]
    clear HD hb
    go_wp2_with fail
    go_ret
    exact ⟨by rw [HL.out,HX.out];rfl,HG0.out⟩
   ·have hbi : ¬ (400 : Int) < yn.size:=by omega
    have HX : Hid ((xp.drop (k + 1)).any bigP = xp.any bigP):=by show _ = _;rw [HD.out];unfold bigP;simp [hb]
    clear HD hb
    go_wp2_with fail
    go_roundw
    case rel => exact ⟨k + 1,hlt,by go_num,HX,trivial⟩
    case measure => simp [intOf];omega
  ·obtain rfl : k = xp.length:=by omega
   have HPA : Hid (xp.any bigP = false):=by show _ = _;rw [← hF.out,List.drop_length];rfl
   have q3:=HQ.out.2.2.2
   clear hF
   go_wp2_with fail
   go_loopw [4] (fun i wx => ∃ (k : Nat),k ≤ xe.length∧i = .int .i64 k∧Hid ((xe.drop k).any bigE = xe.any bigE)∧wx = wr) (fun i _ => xe.length - (intOf i).toNat)
   case atStart => exact ⟨0,Nat.zero_le _,rfl,rfl,rfl⟩
   case round =>
    obtain ⟨k,hk,rfl,hF,rfl⟩:=hrel
    by_cases hlt : k < xe.length
    ·obtain ⟨⟨yr,ys,yl,yt,yc⟩,hx⟩ : ∃ y,xe[k]? = some y:=⟨_,List.getElem?_eq_getElem hlt⟩
     obtain ⟨ba,oa,rfl,hca⟩:=HE.out.get (ne_nil_of_lt hlt)
     have c0 : wr.cell? ⟨ba,oa + k * 5,none⟩ = some (.string yr):=hca k _ hx 0 _ rfl
     have c1 : wr.cell? ⟨ba,oa + k * 5 + 1,none⟩ = some (.string ys):=hca k _ hx 1 _ rfl
     have hki : (k : Int) < xe.length:=by omega
     have HD:=Lib.hid (anyDrop (f:=bigE) hx)
     rw [hF.out] at HD
     clear hca hx hF
     by_cases hb : 400 < yr.size
     ·have hbi : (400 : Int) < yr.size:=by omega
      have HX : Hid (xe.any bigE = true):=by show _ = _;rw [HD.out];unfold bigE;simp [hb]
      clear HD hb
      go_wp2_with fail
      go_ret
      exact ⟨by rw [HL.out,HX.out];simp,HG0.out⟩
     ·have hbi : ¬ (400 : Int) < yr.size:=by omega
      by_cases hb2 : 400 < ys.size
      ·have hbi2 : (400 : Int) < ys.size:=by omega
       have HX : Hid (xe.any bigE = true):=by show _ = _;rw [HD.out];unfold bigE;simp [hb2]
       clear HD hb hb2
       go_wp2_with fail
       go_ret
       exact ⟨by rw [HL.out,HX.out];simp,HG0.out⟩
      ·have hbi2 : ¬ (400 : Int) < ys.size:=by omega
       have HX : Hid ((xe.drop (k + 1)).any bigE = xe.any bigE):=by show _ = _;rw [HD.out];unfold bigE;simp [hb,hb2]
       clear HD hb hb2
       go_wp2_with fail
       go_roundw
       case rel => exact ⟨k + 1,hlt,by go_num,HX,trivial⟩
       case measure => simp [intOf];omega
    ·obtain rfl : k = xe.length:=by omega
     have HEA : Hid (xe.any bigE = false):=by show _ = _;rw [← hF.out,List.drop_length];rfl
     have q2:=HQ.out.2.2.1
     have e1 : decide ((xp.length : Int) ≤ 70) = decide (xp.length ≤ 70):=decide_eq_decide.2 (by omega)
     have e2 : decide ((xs.length : Int) ≤ 300) = decide (xs.length ≤ 300):=decide_eq_decide.2 (by omega)
     have e3 : decide ((xe.length : Int) ≤ 300) = decide (xe.length ≤ 300):=decide_eq_decide.2 (by omega)
     have HL2 : Hid (LB = (decide ((xp.length : Int) ≤ 70) && decide ((xs.length : Int) ≤ 300) && decide ((xe.length : Int) ≤ 300))):=by show _ = _;rw [HL.out,HPA.out,HEA.out,e1,e2,e3];simp
     clear hF e1 e2 e3 hlt
     by_cases h1 : (xp.length : Int) ≤ 70
     ·by_cases h2 : (xs.length : Int) ≤ 300
      ·go_wp2_with fail
       go_ret
       exact ⟨by rw [HL2.out];simp [h1,h2],HG0.out⟩
      ·go_wp2_with fail
       go_ret
       exact ⟨by rw [HL2.out];simp;omega,HG0.out⟩
     ·go_wp2_with fail
      go_ret
      exact ⟨by rw [HL2.out];simp;omega,HG0.out⟩
set_option maxHeartbeats 4000000 in
set_option maxRecDepth 100000 in
theorem matrix_any (x : SrcV) (A : SrcA) (w : World) (hok : SrcOK x) (hat : SrcAt w A x) :
  Calls Tryz.prog 14 #[A.agg x] w fun e w' => ∃ v,e = .returned v∧MatV w' v (srcM x)∧Grows w w':=by
 have HOS:=Lib.hid hok.s
 have hlp:=hok.lp
 have hls:=hok.ls
 clear hok
 obtain ⟨pa,pc,sa,sc,ea,ec⟩:=A
 obtain ⟨xp,xd,xs,xe⟩:=x
 try replace hlp : xp.length ≤ 140737488355328:=hlp
 try replace hls : xs.length ≤ 140737488355328:=hls
 try replace hle : xe.length ≤ 140737488355328:=hle
 obtain ⟨W0,hW0⟩ : ∃ W0,W0 = w.alloc (.cells #[.slice pa xp.length pc,.int .i64 xd,.slice sa xs.length sc,.slice ea xe.length ec] 26):=⟨_,rfl⟩
 have hg0 : Grows w W0:=by rw [hW0];exact Grows.alloc _ _
 have hbx:=fun j u h => cell_box w #[.slice pa xp.length pc,.int .i64 xd,.slice sa xs.length sc,.slice ea xe.length ec] 26 (0,0) j u h
 rw [← hW0] at hbx
 have q0:=hbx 0 _ rfl
 have q1:=hbx 1 _ rfl
 have q2:=hbx 2 _ rfl
 have q3:=hbx 3 _ rfl
 have HQ:=Lib.hid (And.intro q0 (And.intro q1 (And.intro q2 q3)))
 have HP : Hid (AtCells W0 pa 2 (xp.map posCells)):=hat.p.grows hg0
 have HS : Hid (AtCells W0 sa 3 (xs.map setC)):=hat.s.grows hg0
 have HE : Hid (AtCells W0 ea 5 (xe.map enCells)):=hat.e.grows hg0
 have HG0:=Lib.hid hg0
 clear hbx hat hg0
 show Calls _ _ #[.agg #[.slice pa xp.length pc,.int .i64 xd,.slice sa xs.length sc,.slice ea xe.length ec]] _ _
 have HSM : Hid (srcM ⟨xp,xd,xs,xe⟩ = if newB xp.length xd then some (runSets (newM xp.length xd) xs) else none):=rfl
 obtain ⟨SM,hSM⟩ : ∃ m,m = srcM ⟨xp,xd,xs,xe⟩:=⟨_,rfl⟩
 rw [← hSM] at HSM ⊢
 clear hSM q2 q3
 replace HOS : Hid (∀ y ∈ xs,WfI y.c):=HOS
 go_enter Tryz.func14,Tryz.ntmps14
 cases hnb : newB xp.length xd with
 | false =>
  rw [hnb] at HSM
  go_wp2_with fail
  rw [← hW0]
  clear hW0
  refine (new_bad xp.length xd _ hnb).mono ?_
  rintro e w1 ⟨rfl,rfl⟩
  go_wp2_with fail
  go_ret
  exact ⟨_,rfl,by rw [HSM.out];rfl,HG0.out⟩
 | true =>
  rw [hnb] at HSM
  replace HSM : Hid (SM = some (runSets (newM xp.length xd) xs)):=HSM
  go_wp2_with fail
  rw [← hW0]
  clear hW0
  refine (new_any xp.length xd _ hnb).mono ?_
  rintro e w1 ⟨rfl,hm1,hg1⟩
  clear q0 q1
  go_wp2_with fail
  go_loopw [5] (fun i wr => ∃ (k : Nat),k ≤ xs.length∧i = .int .i64 k∧MatAt wr (W0.heap.size + 1) W0.heap.size (runSets (newM xp.length xd) (xs.take k))∧Grows W0 wr) (fun i _ => xs.length - (intOf i).toNat)
  case atStart => exact ⟨0,Nat.zero_le _,rfl,hm1,hg1⟩
  case round =>
  obtain ⟨k,hk,rfl,hm,hg⟩:=hrel
  clear hm1 hg1
  by_cases hlt : k < xs.length
  ·obtain ⟨⟨sr,sl,sq⟩,hs⟩ : ∃ s,xs[k]? = some s:=⟨_,List.getElem?_eq_getElem hlt⟩
   have hsq : WfI sq:=HOS.out _ (List.mem_of_getElem? hs)
   have HT:=Lib.hid (runSets_take (m:=newM xp.length xd) hs)
   obtain ⟨lb,lo,rfl,hcl⟩:=HS.out.get (ne_nil_of_lt hlt)
   have hki : (k : Int) < xs.length:=by omega
   have b2:=hg.cell HQ.out.2.2.1
   have z2 : ∀ x : Ext Grows wr.drew,x.u.cell? ⟨w.heap.size,2,none⟩ = some (.slice (some ⟨lb,lo,none⟩) xs.length sc):=ext_cell (hg.dr.cell HQ.out.2.2.1)
   have y0 : ∀ x : Ext Grows wr.drew,x.u.cell? ⟨lb,lo + k * 3,none⟩ = some (.int .i64 sr):=ext_cell (hg.dr.cell (hcl k _ hs 0 _ rfl))
   have y1 : ∀ x : Ext Grows wr.drew,x.u.cell? ⟨lb,lo + k * 3 + 1,none⟩ = some (.int .i64 sl):=ext_cell (hg.dr.cell (hcl k _ hs 1 _ rfl))
   have y2 : ∀ x : Ext Grows wr.drew,x.u.cell? ⟨lb,lo + k * 3 + 2,none⟩ = some (.int .i64 sq):=ext_cell (hg.dr.cell (hcl k _ hs 2 _ rfl))
   clear hcl hs
   generalize runSets (newM xp.length xd) (xs.take k) = M1 at *
   go_wp2_with fail
   refine t_tail (Grows) 19 [(0,false),(1,false),(2,false),(3,false),(4,false),(5,false),(6,false),(7,false),(8,false),(9,false),(10,false),(11,false),(12,false),(13,false),(14,false),(15,false),(16,false),(17,false),(18,false)] Grows.refl Grows.trans (by kernel_rfl) (by kernel_rfl) (fun d _ _ _ _ h => by cases d <;> exact h) ?_
   iterate 19 (refine t_quiet rfl (fun K hK => ?_);go_simp;refine hK _ ?_;clear hK K)
   refine t_end ?_
   simp only [List.drop_succ_cons,List.drop_zero]
   clear z2 y0 y1 y2 b2
   have hSV:=set_any wr.drew _ _ _ (hm.grows (Grows.drew wr)) sr sl sq hsq
   go_wp2_with fail
   refine hSV.mono ?_
   rintro e w4 ⟨rfl,hm4,hg4⟩
   have hgw4 : Grows W0 w4:=hg.dr.grown hg4 (fun q hq => by cases hq;exact Nat.le_refl _)
   go_wp2_with fail
   go_roundw
   case rel => exact ⟨k + 1,hlt,by go_num,by rw [HT.out];exact hm4,hgw4⟩
   case measure => simp [intOf];omega
  ·obtain rfl : k = xs.length:=by omega
   rw [List.take_length] at hm
   have b2:=hg.cell HQ.out.2.2.1
   go_wp2_with fail
   go_ret
   refine ⟨_,rfl, ?_,Grows.trans _ _ _ HG0.out hg⟩
   rw [HSM.out]
   exact ⟨_,_,rfl,hm⟩
set_option maxHeartbeats 4000000 in
set_option maxRecDepth 100000 in
theorem costs_any (x : SrcV) (A : SrcA) (w : World) (hok : SrcOK x) (hat : SrcAt w A x) :
  Calls Tryz.prog 11 #[A.agg x] w fun e w' => ∃ v,e = .returned v∧RefV w' v (srcM x)∧Grows w w':=by
 have HOS:=Lib.hid hok.s
 have hlp:=hok.lp
 have hls:=hok.ls
 clear hok
 obtain ⟨pa,pc,sa,sc,ea,ec⟩:=A
 obtain ⟨xp,xd,xs,xe⟩:=x
 try replace hlp : xp.length ≤ 140737488355328:=hlp
 try replace hls : xs.length ≤ 140737488355328:=hls
 try replace hle : xe.length ≤ 140737488355328:=hle
 obtain ⟨W0,hW0⟩ : ∃ W0,W0 = w.alloc (.cells #[.slice pa xp.length pc,.int .i64 xd,.slice sa xs.length sc,.slice ea xe.length ec] 26):=⟨_,rfl⟩
 have hg0 : Grows w W0:=by rw [hW0];exact Grows.alloc _ _
 have hbx:=fun j u h => cell_box w #[.slice pa xp.length pc,.int .i64 xd,.slice sa xs.length sc,.slice ea xe.length ec] 26 (0,0) j u h
 rw [← hW0] at hbx
 have q0:=hbx 0 _ rfl
 have q1:=hbx 1 _ rfl
 have q2:=hbx 2 _ rfl
 have q3:=hbx 3 _ rfl
 have HQ:=Lib.hid (And.intro q0 (And.intro q1 (And.intro q2 q3)))
 have HP : Hid (AtCells W0 pa 2 (xp.map posCells)):=hat.p.grows hg0
 have HS : Hid (AtCells W0 sa 3 (xs.map setC)):=hat.s.grows hg0
 have HE : Hid (AtCells W0 ea 5 (xe.map enCells)):=hat.e.grows hg0
 have HG0:=Lib.hid hg0
 clear hbx hat hg0
 show Calls _ _ #[.agg #[.slice pa xp.length pc,.int .i64 xd,.slice sa xs.length sc,.slice ea xe.length ec]] _ _
 have HSM : Hid (srcM ⟨xp,xd,xs,xe⟩ = if newB xp.length xd then some (runSets (newM xp.length xd) xs) else none):=rfl
 obtain ⟨SM,hSM⟩ : ∃ m,m = srcM ⟨xp,xd,xs,xe⟩:=⟨_,rfl⟩
 rw [← hSM] at HSM ⊢
 clear hSM q2 q3
 replace HOS : Hid (∀ y ∈ xs,WfI y.c):=HOS
 go_enter Tryz.func11,Tryz.ntmps11
 cases hnb : newB xp.length xd with
 | false =>
  rw [hnb] at HSM
  go_wp2_with fail
  rw [← hW0]
  clear hW0
  refine (rnew_bad xp.length xd _ hnb).mono ?_
  rintro e w1 ⟨rfl,rfl⟩
  go_wp2_with fail
  go_ret
  exact ⟨_,rfl,by rw [HSM.out];rfl,HG0.out⟩
 | true =>
  rw [hnb] at HSM
  replace HSM : Hid (SM = some (runSets (newM xp.length xd) xs)):=HSM
  go_wp2_with fail
  rw [← hW0]
  clear hW0
  refine (rnew_any xp.length xd _ hnb).mono ?_
  rintro e w1 ⟨rfl,hm1,hg1⟩
  clear q0 q1
  go_wp2_with fail
  go_loopw [4] (fun i wr => ∃ (k : Nat),k ≤ xs.length∧i = .int .i64 k∧RefAt wr W0.heap.size (runSets (newM xp.length xd) (xs.take k))∧Grows W0 wr) (fun i _ => xs.length - (intOf i).toNat)
  case atStart => exact ⟨0,Nat.zero_le _,rfl,hm1,hg1⟩
  case round =>
  obtain ⟨k,hk,rfl,hm,hg⟩:=hrel
  clear hm1 hg1
  by_cases hlt : k < xs.length
  ·obtain ⟨⟨sr,sl,sq⟩,hs⟩ : ∃ s,xs[k]? = some s:=⟨_,List.getElem?_eq_getElem hlt⟩
   have hsq : WfI sq:=HOS.out _ (List.mem_of_getElem? hs)
   have HT:=Lib.hid (runSets_take (m:=newM xp.length xd) hs)
   obtain ⟨lb,lo,rfl,hcl⟩:=HS.out.get (ne_nil_of_lt hlt)
   have hki : (k : Int) < xs.length:=by omega
   have b2:=hg.cell HQ.out.2.2.1
   have z2 : ∀ x : Ext Grows wr.drew,x.u.cell? ⟨w.heap.size,2,none⟩ = some (.slice (some ⟨lb,lo,none⟩) xs.length sc):=ext_cell (hg.dr.cell HQ.out.2.2.1)
   have y0 : ∀ x : Ext Grows wr.drew,x.u.cell? ⟨lb,lo + k * 3,none⟩ = some (.int .i64 sr):=ext_cell (hg.dr.cell (hcl k _ hs 0 _ rfl))
   have y1 : ∀ x : Ext Grows wr.drew,x.u.cell? ⟨lb,lo + k * 3 + 1,none⟩ = some (.int .i64 sl):=ext_cell (hg.dr.cell (hcl k _ hs 1 _ rfl))
   have y2 : ∀ x : Ext Grows wr.drew,x.u.cell? ⟨lb,lo + k * 3 + 2,none⟩ = some (.int .i64 sq):=ext_cell (hg.dr.cell (hcl k _ hs 2 _ rfl))
   clear hcl hs
   generalize runSets (newM xp.length xd) (xs.take k) = M1 at *
   go_wp2_with fail
   refine t_tail (Grows) 19 [(0,false),(1,false),(2,false),(3,false),(4,false),(5,false),(6,false),(7,false),(8,false),(9,false),(10,false),(11,false),(12,false),(13,false),(14,false),(15,false),(16,false),(17,false),(18,false)] Grows.refl Grows.trans (by kernel_rfl) (by kernel_rfl) (fun d _ _ _ _ h => by cases d <;> exact h) ?_
   iterate 19 (refine t_quiet rfl (fun K hK => ?_);go_simp;refine hK _ ?_;clear hK K)
   refine t_end ?_
   simp only [List.drop_succ_cons,List.drop_zero]
   clear z2 y0 y1 y2 b2
   have hSV:=rset_any wr.drew _ _ (hm.grows (Grows.drew wr)) sr sl sq
   go_wp2_with fail
   refine hSV.mono ?_
   rintro e w4 ⟨rfl,hm4,g,hgl,hg4⟩
   have hgw4 : Grows W0 w4:=hg.dr.grown hg4 (fun q hq => by cases hq;omega)
   go_wp2_with fail
   go_roundw
   case rel => exact ⟨k + 1,hlt,by go_num,by rw [HT.out];exact hm4,hgw4⟩
   case measure => simp [intOf];omega
  ·obtain rfl : k = xs.length:=by omega
   rw [List.take_length] at hm
   have b2:=hg.cell HQ.out.2.2.1
   go_wp2_with fail
   go_ret
   refine ⟨_,rfl, ?_,Grows.trans _ _ _ HG0.out hg⟩
   rw [HSM.out]
   exact ⟨_,rfl,hm⟩
def PositionsPost (p : List PosV) (w : World) (e : Ending) (w' : World) : Prop := ∃ a cap, e = .returned (.slice a p.length cap) ∧ AtCells w' a 2 (p.map posCells) ∧ Grows w w'
set_option maxHeartbeats 2000000 in
set_option maxRecDepth 100000 in
theorem positions_any (p : List PosV) (pa : Option Addr) (ca : Nat) (w : World) (lp : p.length * 24 ≤ 140737488355328) (hp : AtCells w pa 2 (p.map posCells)) :
  Calls Tryz.prog 10 #[.slice pa p.length ca] w (PositionsPost p w):=by
 go_enter Tryz.func10,Tryz.ntmps10
 go_wp2_with fail
 go_loopw [3,4] (fun v i wr => ∃ (k : Nat),k ≤ p.length∧i = .int .i64 k∧Owns wr w.heap.size 66 2 posCells v (p.take k)∧Grows w wr) (fun _ i _ => p.length - (intOf i).toNat)
 case atStart => exact ⟨0,Nat.zero_le _,rfl,Owns.nil _ _ _ _ _,Grows.refl _⟩
 case round =>
  obtain ⟨k,hk,rfl,hown,hg⟩:=hrel
  by_cases hlt : k < p.length
  ·obtain ⟨⟨xn,xk⟩,hx⟩ : ∃ x,p[k]? = some x:=⟨_,List.getElem?_eq_getElem hlt⟩
   obtain ⟨ba,oa,rfl,hca⟩:=(hp.grows hg).get (ne_nil_of_lt hlt)
   have c0 : wr.cell? ⟨ba,oa + k * 2,none⟩ = some (.string xn):=hca k _ hx 0 _ rfl
   have c1 : wr.cell? ⟨ba,oa + k * 2 + 1,none⟩ = some (.int .i64 xk):=hca k _ hx 1 _ rfl
   have x0:=ext_cell (w:=wr.drew) c0
   have x1:=ext_cell (w:=wr.drew) c1
   have htk : p.take (k + 1) = p.take k ++ [⟨xn,xk⟩]:=by rw [List.take_add_one,hx];rfl
   have htl : (p.take k).length = k:=by rw [List.length_take];omega
   have HT:=Lib.hid htk
   obtain ⟨a3,c3,rfl,hc1,hc2,_⟩:=hown.at_ posLay15.len
   rw [htl] at *
   clear hca hx htk htl
   go_wp2_with fail
   refine wp_region_tail Grows 13 [(0,false),(1,false),(2,false),(3,false),(4,false),(5,false),(6,false),(7,false),(8,false),(9,false),(10,false),(11,false),(12,true)] Grows.refl Grows.trans (by kernel_rfl) (by kernel_rfl) (fun d _ _ _ _ h => by cases d <;> exact h) ?_
   repeat (refine ord_quiet rfl (fun K hK => ?_);go_simp;first | (refine hK _ ?_;clear hK K) | (apply Exists.intro;refine ⟨fun x => ?_,hK _ ?_⟩;(fail);clear hK K))
   clear x0 x1
   refine ord_late_w rfl rfl (fun K hK w3 h3 => ?_);go_simp;refine ⟨Grows.alloc _ _,hK _ _ ?_⟩;clear hK K
   refine ord_end (fun w4 h4 => ?_)
   simp only [List.drop_succ_cons,List.drop_zero]
   have hg4 : Grows wr w4:=(((Grows.drew _).tr h3).al _).tr h4
   go_wp2_with (at_builtin;refine app_at posLay15 rfl _ _ rfl w.heap.size _ _ ⟨xn,xk⟩ rfl hown hg4 w3.heap.size 1 (box_in h4 rfl) rfl (by rw [List.length_take];omega) hg.size ?_;intro v' w5 hown' hg5)
   have hgw5:=hg5 w hg (Nat.le_refl _)
   go_wp2
   go_roundw
   case rel => exact ⟨k + 1,hlt,by go_num,by rw [HT.out];exact hown',hgw5⟩
   case measure => simp [intOf];omega
  ·obtain rfl : k = p.length:=by omega
   rw [List.take_length] at hown
   obtain ⟨a3,c3,rfl,hc1,hc2,hat⟩:=hown.at_ posLay15.len
   go_wp2
   go_ret
   exact ⟨_,_,rfl,hat,hg⟩
end Go.Proofs.YtepoiefadjoabaaGreatDoor
namespace Go.Proofs.YtepoiefadjoabaaGreatDoor
open Go Go.ChangeShapes Go.WideShapes Go.ChangeAt Go.RowKit Go.Shelf Go.Lib
open Go.ChangeMaps (open_string shut_string)
structure SetOK (x : SetV) : Prop where
 r : (Lit.int .i64 x.r).wf = true
 l : (Lit.int .i64 x.l).wf = true
 c : (Lit.int .i64 x.c).wf = true
set_option maxRecDepth 100000 in
theorem dec_set {H : Type} {enc : TypeId × Value → H} {W : World} {base : Nat} {sp : Nat → Bool} {hd : Bool} (n : Nat) (cs : List Value) (x : DataW H × List MemPlace) (hl : cs.length = 3) (h : DataW.trod enc Tryz.prog W base sp hd n 69 cs = some x) :
  ∃ y : SetV,cs = setC y∧SetOK y:=by
 obtain ⟨xs,n,_,hx,_,hlen,hall⟩:=DataW.trod_struct Tryz.underlying69 h
 match cs,hl with
 | [c0,c1,c2],_ =>
  match xs,hlen with
  | [y0,y1,y2],_ =>
   have g0:=hall 0 _ rfl
   have g1:=hall 1 _ rfl
   have g2:=hall 2 _ rfl
   obtain ⟨n0,k0,_,z0⟩:=DataW.trod_int Tryz.underlying3 g0
   obtain ⟨n1,k1,_,z1⟩:=DataW.trod_int Tryz.underlying3 g1
   obtain ⟨n2,k2,_,z2⟩:=DataW.trod_int Tryz.underlying3 g2
   refine ⟨⟨n0,n1,n2⟩, ?_,⟨z0,z1,z2⟩⟩
   have e0 : c0 = .int .i64 n0:=by injection k0
   have e1 : c1 = .int .i64 n1:=by injection k1
   have e2 : c2 = .int .i64 n2:=by injection k2
   subst e0 e1 e2;rfl
structure PPosOK (x : PosV) : Prop where
 n : x.name.size ≤ maxLen
 k : (Lit.int .i64 x.kind).wf = true
set_option maxRecDepth 100000 in
theorem dec_ppos {H : Type} {enc : TypeId × Value → H} {W : World} {base : Nat} {sp : Nat → Bool} {hd : Bool} (n : Nat) (cs : List Value) (x : DataW H × List MemPlace) (hl : cs.length = 2) (h : DataW.trod enc Tryz.prog W base sp hd n 60 cs = some x) :
  ∃ y : PosV,cs = posCells y∧PPosOK y:=by
 obtain ⟨xs,n,_,hx,_,hlen,hall⟩:=DataW.trod_struct Tryz.underlying60 h
 match cs,hl with
 | [c0,c1],_ =>
  match xs,hlen with
  | [y0,y1],_ =>
   have g0:=hall 0 _ rfl
   have g1:=hall 1 _ rfl
   obtain ⟨s0,k0,_,z0⟩:=DataW.trod_string Tryz.underlying9 g0
   obtain ⟨n1,k1,_,z1⟩:=DataW.trod_int Tryz.underlying3 g1
   refine ⟨⟨s0,n1⟩, ?_,⟨z0,z1⟩⟩
   have e0 : c0 = .string s0:=by injection k0
   have e1 : c1 = .int .i64 n1:=by injection k1
   subst e0 e1;rfl
theorem cells4_1 {cs : Array Value} {a b c d : Value} (hs : cs.size = 4) (h0 : (cs.toList.drop 0).take 1 = [a]) (h1 : (cs.toList.drop 1).take 1 = [b]) (h2 : (cs.toList.drop 2).take 1 = [c]) (h3 : (cs.toList.drop 3).take 1 = [d]) : cs = #[a, b, c, d] := by
 obtain ⟨l⟩:=cs
 match l,hs with
 | [x0,x1,x2,x3],_ =>
  simp at h0 h1 h2 h3
  subst h0 h1 h2 h3
  rfl
section
variable {H : Type} {enc : TypeId × Value → H} {P : Program} {w : World} {base : Nat} {spare : Nat → Bool} {held : Bool}
theorem open_rows2 {α : Type} {cells : α → List Value} {OK : α → Prop} {t e : TypeId} {k fuel : Nat} {cs0 : List Value} {x0 : DataW H × List MemPlace} (ht : P.underlying t = some (.slice e)) (hC : P.cellsOf e = k) (hk : 0 < k) (hlen : ∀ y, (cells y).length = k)
  (hdec : ∀ (n : Nat) (cs : List Value) (x : DataW H × List MemPlace),cs.length = k → DataW.trod enc P w base spare held n e cs = some x → ∃ y : α,cs = cells y∧OK y)
  (hf : DataW.trod enc P w base spare held fuel t cs0 = some x0) :
  ∃ (a : Option Addr) (l : List α) (cap : Nat),cs0 = [.slice a l.length cap]∧AtCells w a k (l.map cells)∧(∀ x ∈ l,OK x)∧(x0.1 = .nil∧l = [] ∨ ∃ el sp,x0.1 = .slice el sp∧el.length = l.length)∧(a = none → cap = 0):=by
 rcases Go.Deep.open_slice ht hf with ⟨h1,h2⟩ | ⟨a',len,cap,m,n,D,Pl,h1,hb,hle,hcap,hm,hx,hi⟩
 ·subst h1 h2
  exact ⟨none,[],0,rfl,AtCells.nil _ _ _,by simp,Or.inl ⟨rfl,rfl⟩,fun _ => rfl⟩
 ·subst h1 hx
  obtain ⟨l,hl,hp⟩:=build_list (P:=fun i (y : α) => OK y∧∀ (j : Nat) (u : Value),(cells y)[j]? = some u → w.cell? (a'.add (i * k + j)) = some u) len (fun i hlt => by
   have him : i < m:=by rw [hm];split <;> omega
   obtain ⟨cs,hcs,htr⟩:=hi i him
   rw [hC] at hcs
   obtain ⟨_,hcl,hat⟩:=World.cells?_some hcs
   obtain ⟨y,rfl,hok⟩:=hdec _ _ _ hcl htr
   refine ⟨y,hok,fun j u hu => ?_⟩
   have hj : j < k:=by rw [← hcl];exact (List.getElem?_eq_some_iff.1 hu).1
   rw [← Go.Deep.add_add]
   exact (hat j hj).trans hu)
  subst hl
  refine ⟨some a',l,cap,rfl,fun hne => ?_,fun x hx => ?_,Or.inr ⟨_,_,rfl,by simp⟩,fun h => by cases h⟩
  ·have hs : a'.spot = none:=by
    cases l with
    | nil => simp at hne
    | cons y0 r =>
     have h0 : 0 < (cells y0).length:=by rw [hlen];exact hk
     have:=(hp 0 y0 rfl).2 0 _ (List.getElem?_eq_getElem h0)
     have h2:=spot_none this
     rw [Nat.zero_mul,Nat.zero_add] at h2
     simpa [Addr.add] using h2
   obtain ⟨b,off,s⟩:=a'
   obtain rfl : s = none:=hs
   refine ⟨b,off,rfl,fun i row hi2 j u hj => ?_⟩
   rw [List.getElem?_map] at hi2
   cases hx2 : l[i]? with
   | none => rw [hx2] at hi2;cases hi2
   | some y =>
    rw [hx2] at hi2
    obtain rfl:=Option.some.inj hi2
    have:=(hp i y hx2).2 j u hj
    rw [add_zero_off] at this
    rw [Nat.add_assoc];exact this
  ·obtain ⟨i,hlt,rfl⟩:=List.getElem_of_mem hx
   exact (hp i _ (List.getElem?_eq_getElem hlt)).1
theorem sized_fields {ts : List TypeId} {ds : List (DataW H)} (h : (DataW.weightsEach P ts ds).all (· ≤ reachBytes) = true) {j : Nat} {t : TypeId} {fs : Array Field} {parts : List (DataW H)} (ht : ts[j]? = some t) (hd : ds[j]? = some (.agg parts)) (hu : P.underlying t = some (.struct fs)) :
  (DataW.weightsEach P (fs.toList.map (·.type)) parts).all (· ≤ reachBytes) = true:=by
 rw [List.all_eq_true]
 intro n hn
 exact List.all_eq_true.1 h n (DataW.weights_mem_each ht hd n (by simp only [DataW.weights,hu];exact hn))
end
set_option maxRecDepth 100000 in
theorem open_src {H : Type} {enc : TypeId × Value → H} {W : World} {base b0 : Nat} {sp : Nat → Bool} {hd : Bool} {r : Reach} {v : Value} {d : DataW H} {ps : List MemPlace} {ts : List TypeId} {ds : List (DataW H)} {j : Nat}
  (hval : Value.okWide Tryz.prog W r b0 26 v) (h : DataW.Trod enc Tryz.prog W base sp hd 26 v d ps)
  (hz : (DataW.weightsEach Tryz.prog ts ds).all (· ≤ reachBytes) = true) (htj : ts[j]? = some 26) (hdj : ds[j]? = some d) :
  ∃ (x : SrcV) (A : SrcA),v = A.agg x∧SrcAt W A x∧SrcOK x∧(A.ea = none → A.ec = 0):=by
 obtain ⟨cs,rfl,hs⟩:=okWide_struct Tryz.underlying26 hval
 obtain ⟨fuel,hf⟩:=h
 obtain ⟨xs,n,_,hx,hl,hlen,hall⟩:=DataW.trod_struct Tryz.underlying26 hf
 have hs4 : cs.size = 4:=hs
 match xs,hlen with
 | [y0,y1,y2,y3],_ =>
  have g0:=hall 0 _ rfl
  have g1:=hall 1 _ rfl
  have g2:=hall 2 _ rfl
  have g3:=hall 3 _ rfl
  obtain ⟨pa,p,pc,k0,hp,okp,hp2,_⟩:=open_rows2 (cells:=posCells) (OK:=PPosOK) Tryz.underlying22 (by kernel_rfl) (by decide) (fun _ => rfl) dec_ppos g0
  obtain ⟨n1,k1,_,z1⟩:=DataW.trod_int Tryz.underlying3 g1
  obtain ⟨sa,s,sc,k2,hs',oks,hs2,_⟩:=open_rows2 (cells:=setC) (OK:=SetOK) Tryz.underlying23 (by kernel_rfl) (by decide) (fun _ => rfl) dec_set g2
  obtain ⟨ea,e,ec,k3,he,oke,he2,hnil⟩:=open_rows2 (cells:=enCells) (OK:=EnOK) Tryz.underlying24 (by kernel_rfl) (by decide) enCells_len dec_entry g3
  have hd2 : ds[j]? = some (.agg [y0.1,y1.1,y2.1,y3.1]):=by
   rw [hdj]
   have e1:=congrArg Prod.fst hx
   simpa using e1
  have hw:=sized_fields hz htj hd2 Tryz.underlying26
  have l0:=reach_len hw (j:=0) (d:=y0.1) rfl rfl Tryz.underlying22 (of_decide_eq_true (by kernel_rfl)) (Or.elim hp2 (fun h => Or.inl ⟨h.1,congrArg List.length h.2⟩) Or.inr)
  have l2:=reach_len hw (j:=2) (d:=y2.1) rfl rfl Tryz.underlying23 (of_decide_eq_true (by kernel_rfl)) (Or.elim hs2 (fun h => Or.inl ⟨h.1,congrArg List.length h.2⟩) Or.inr)
  have l3:=reach_len hw (j:=3) (d:=y3.1) rfl rfl Tryz.underlying24 (of_decide_eq_true (by kernel_rfl)) (Or.elim he2 (fun h => Or.inl ⟨h.1,congrArg List.length h.2⟩) Or.inr)
  exact ⟨⟨p,n1,s,e⟩,⟨pa,pc,sa,sc,ea,ec⟩,by rw [cells4_1 hs4 k0 k1 k2 k3];rfl,⟨hp,hs',he⟩,⟨fun y hy => (okp y hy).n,fun y hy => (oks y hy).c,oke,z1,l0,l2,l3⟩,hnil⟩
end Go.Proofs.YtepoiefadjoabaaGreatDoor
namespace Go.Proofs.YtepoiefadjoabaaGreatDoor
open Go Go.RowKit
attribute [local go_sem] quietE
def KeepTo (l : List En) (x : En) (k m : Nat) (kb : Bool) : Prop := kb = true ↔ ∀ j y, j < m → l[j]? = some y → ¬ Bad x k y j
theorem KeepTo.start (l : List En) (x : En) (k : Nat) : KeepTo l x k 0 true := ⟨fun _ j y hj => by omega, fun _ => rfl⟩
theorem KeepTo.bad {l : List En} {x y : En} {k m : Nat} (hy : l[m]? = some y) (hb : Bad x k y m) : KeepTo l x k (m + 1) false := ⟨fun h => (by cases h), fun h => absurd hb (h m y (Nat.lt_succ_self _) hy)⟩
theorem KeepTo.good {l : List En} {x y : En} {k m : Nat} {kb : Bool} (h : KeepTo l x k m kb) (hy : l[m]? = some y) (hb : ¬ Bad x k y m) : KeepTo l x k (m + 1) kb := by
 constructor
 ·intro hk j z hj hz
  rcases Nat.lt_succ_iff_lt_or_eq.1 hj with hj | rfl
  ·exact h.1 hk j z hj hz
  ·rw [hy] at hz
   rw [← Option.some.inj hz];exact hb
 ·intro hk
  exact h.2 fun j z hj hz => hk j z (by omega) hz
theorem KeepTo.full {l : List En} {x : En} {k : Nat} {kb : Bool} (h : KeepTo l x k l.length kb) (hx : l[k]? = some x) : kb = true ↔ leastB l x = true ∧ x ∉ l.take k := h.trans (keep_iff hx)
theorem variants_is {x y : En} {b : Bool} (hb : decide (sameKey x y) = b) (W : World) : Calls Tryz.prog 119 #[x.agg, y.agg] W fun e w' => e = .returned (.bool b) ∧ Grows W w' := hb ▸ variants_any x y W
theorem less2_is {x y : En} {b : Bool} (hb : lessS x y = b) (W : World) : Calls Tryz.prog 120 #[x.agg, y.agg] W fun e w' => e = .returned (.bool b) ∧ Grows W w' := hb ▸ less2_any x y W
theorem owns_none {α : Type} {w : World} {base : Nat} {e : TypeId} {k : Nat} {enc : α → List Value} {a : Option Addr} {n c : Nat} {xs : List α} (h : Owns w base e k enc (.slice a n c) xs) : a = none → c = 0 := by
 intro ha
 rcases h.2 with ⟨h1,_⟩ | ⟨g,cap,cur,h1,_⟩
 ·have : a = none∧n = 0∧c = 0:=by simpa using h1
  exact this.2.2
 ·rw [ha] at h1;simp at h1
set_option maxHeartbeats 8000000 in
set_option maxRecDepth 100000 in
theorem rsort_any (l : List En) (la : Option Addr) (cap : Nat) (w : World) (hl : l.length ≤ 1048576) (hat : AtCells w la 5 (l.map enCells)) :
  Calls Tryz.prog 72 #[.slice la l.length cap] w (ESortPost l w):=by
 have HAT:=Lib.hid hat
 clear hat
 go_enter Tryz.func72,Tryz.ntmps72
 go_wp2_with fail
 go_loopw [3,4] (fun v i wr => ∃ (k : Nat) (o : List En),k ≤ l.length∧i = .int .i64 k∧Owns wr w.heap.size 38 5 enCells v o∧o.length ≤ k∧Hid (SInv l k o)∧Grows w wr) (fun _ i _ => l.length - (intOf i).toNat)
 case atStart => exact ⟨0,[],Nat.zero_le _,rfl,Owns.nil _ _ _ _ _,Nat.zero_le _,SInv.start l,Grows.refl _⟩
 case round =>
  obtain ⟨k,o,hk,rfl,hown,hol,hinv,hg⟩:=hrel
  obtain ⟨u0,rfl⟩ : ∃ u0,u0 = wr:=⟨_,rfl⟩
  by_cases hlt : k < l.length
  ·obtain ⟨⟨xr,xs,xl,xt,xc⟩,hx⟩ : ∃ x,l[k]? = some x:=⟨_,List.getElem?_eq_getElem hlt⟩
   obtain ⟨a3,c3,rfl,hc1,hc2,hoat⟩:=hown.at_ entLay.len
   obtain ⟨ba,oa,rfl,hca⟩:=(HAT.out.grows hg).get (ne_nil_of_lt hlt)
   have HCA:=Lib.hid hca
   have HX:=Lib.hid hx
   have HO:=Lib.hid hoat
   clear hca hx hoat
   go_wp2_with fail
   go_loopw [5,6] (fun b j wx => ∃ (m : Nat) (kb : Bool),m ≤ l.length∧j = .int .i64 m∧b = .bool kb∧Hid (KeepTo l ⟨xr,xs,xl,xt,xc⟩ k m kb)∧Grows u0 wx) (fun _ j _ => l.length - (intOf j).toNat)
   case atStart => exact ⟨0,true,Nat.zero_le _,rfl,rfl,KeepTo.start _ _ _,Grows.refl _⟩
   case round =>
    obtain ⟨m,kb,hm,rfl,rfl,hkb,hgx⟩:=hrel
    by_cases hml : m < l.length
    ·obtain ⟨⟨yr,ys,yl,yt,yc⟩,hy⟩ : ∃ y,l[m]? = some y:=⟨_,List.getElem?_eq_getElem hml⟩
     have HY:=Lib.hid hy
     clear hy
     go_wp2_with fail
     have x0 : ∀ x : Ext Grows wr.drew,x.u.cell? ⟨ba,oa + k * 5,none⟩ = some (.string xr):=ext_cell (hgx.dr.cell (HCA.out k _ HX.out 0 _ rfl));have x1 : ∀ x : Ext Grows wr.drew,x.u.cell? ⟨ba,oa + k * 5 + 1,none⟩ = some (.string xs):=ext_cell (hgx.dr.cell (HCA.out k _ HX.out 1 _ rfl));have x2 : ∀ x : Ext Grows wr.drew,x.u.cell? ⟨ba,oa + k * 5 + 2,none⟩ = some (.int .i64 xl):=ext_cell (hgx.dr.cell (HCA.out k _ HX.out 2 _ rfl));have x3 : ∀ x : Ext Grows wr.drew,x.u.cell? ⟨ba,oa + k * 5 + 3,none⟩ = some (.int .i64 xt):=ext_cell (hgx.dr.cell (HCA.out k _ HX.out 3 _ rfl));have x4 : ∀ x : Ext Grows wr.drew,x.u.cell? ⟨ba,oa + k * 5 + 4,none⟩ = some (.int .i64 xc):=ext_cell (hgx.dr.cell (HCA.out k _ HX.out 4 _ rfl))
     have y0 : ∀ x : Ext Grows wr.drew,x.u.cell? ⟨ba,oa + m * 5,none⟩ = some (.string yr):=ext_cell (hgx.dr.cell (HCA.out m _ HY.out 0 _ rfl));have y1 : ∀ x : Ext Grows wr.drew,x.u.cell? ⟨ba,oa + m * 5 + 1,none⟩ = some (.string ys):=ext_cell (hgx.dr.cell (HCA.out m _ HY.out 1 _ rfl));have y2 : ∀ x : Ext Grows wr.drew,x.u.cell? ⟨ba,oa + m * 5 + 2,none⟩ = some (.int .i64 yl):=ext_cell (hgx.dr.cell (HCA.out m _ HY.out 2 _ rfl));have y3 : ∀ x : Ext Grows wr.drew,x.u.cell? ⟨ba,oa + m * 5 + 3,none⟩ = some (.int .i64 yt):=ext_cell (hgx.dr.cell (HCA.out m _ HY.out 3 _ rfl));have y4 : ∀ x : Ext Grows wr.drew,x.u.cell? ⟨ba,oa + m * 5 + 4,none⟩ = some (.int .i64 yc):=ext_cell (hgx.dr.cell (HCA.out m _ HY.out 4 _ rfl))
     by_cases hs : sameKey ⟨xr,xs,xl,xt,xc⟩ ⟨yr,ys,yl,yt,yc⟩
     ·have HSB : Hid (decide (sameKey ⟨xr,xs,xl,xt,xc⟩ ⟨yr,ys,yl,yt,yc⟩) = true):=decide_eq_true hs
      have HS:=Lib.hid hs
      clear hs
      refine s_region Grows [(0,false),(1,false),(2,false),(3,false),(4,false),(5,false),(6,false),(7,false),(8,false),(9,false),(10,false),(11,false),(12,false),(13,false),(14,false),(15,false),(16,false),(17,false),(18,false),(19,false),(20,false),(21,false),(22,false),(23,false),(24,false),(25,false),(26,false),(27,false),(28,false),(29,false),(30,false),(31,false),(32,false),(33,false),(34,false),(35,false),(36,false),(37,false),(38,false),(39,false)] Grows.refl Grows.trans (by kernel_rfl) (by kernel_rfl) (fun d _ _ _ _ h => by cases d <;> exact h) ?_
      iterate 8 (refine s_quiet rfl (fun K hK => ?_);go_simp;refine hK _ ?_;clear hK K)
      refine s_quiet rfl (fun K hK => ?_)
      go_simp
      apply Exists.intro
      refine ⟨fun x => ?_,hK _ ?_⟩
      ·go_at_call 119;exact calls_ext (variants_is (x:=⟨xr,xs,xl,xt,xc⟩) (y:=⟨yr,ys,yl,yt,yc⟩) HSB.out _)
      clear hK K
      iterate 1 (refine s_quiet rfl (fun K hK => ?_);go_simp;refine hK _ ?_;clear hK K)
      iterate 12 (refine s_quiet rfl (fun K hK => ?_);go_simp;refine hK _ ?_;clear hK K)
      by_cases h1 : yc < xc
      ·have HB : Hid (Bad ⟨xr,xs,xl,xt,xc⟩ k ⟨yr,ys,yl,yt,yc⟩ m):=⟨HS.out,Or.inl h1⟩
       iterate 18 (refine s_quiet rfl (fun K hK => ?_);go_simp;refine hK _ ?_;clear hK K)
       refine s_end (fun w4 h4 => ?_)
       go_wp2_with fail
       go_roundw
       case rel => exact ⟨m + 1,false,hml,by go_num,rfl,KeepTo.bad HY.out HB.out,hgx.dr.tr h4⟩
       case measure => simp [intOf];omega
      ·iterate 12 (refine s_quiet rfl (fun K hK => ?_);go_simp;refine hK _ ?_;clear hK K)
       by_cases h2 : yc = xc
       ·by_cases h3 : m < k
        ·have HB : Hid (Bad ⟨xr,xs,xl,xt,xc⟩ k ⟨yr,ys,yl,yt,yc⟩ m):=⟨HS.out,Or.inr ⟨h2,h3⟩⟩
         iterate 6 (refine s_quiet rfl (fun K hK => ?_);go_simp;refine hK _ ?_;clear hK K)
         refine s_end (fun w4 h4 => ?_)
         go_wp2_with fail
         go_roundw
         case rel => exact ⟨m + 1,false,hml,by go_num,rfl,KeepTo.bad HY.out HB.out,hgx.dr.tr h4⟩
         case measure => simp [intOf];omega
        ·have HB : Hid (¬ Bad ⟨xr,xs,xl,xt,xc⟩ k ⟨yr,ys,yl,yt,yc⟩ m):=fun h => by rcases h.2 with h4 | ⟨_,h4⟩ <;> (try simp only at h4) <;> omega
         iterate 6 (refine s_quiet rfl (fun K hK => ?_);go_simp;refine hK _ ?_;clear hK K)
         refine s_end (fun w4 h4 => ?_)
         go_wp2_with fail
         go_roundw
         case rel => exact ⟨m + 1,kb,hml,by go_num,rfl,hkb.out.good HY.out HB.out,hgx.dr.tr h4⟩
         case measure => simp [intOf];omega
       ·have HB : Hid (¬ Bad ⟨xr,xs,xl,xt,xc⟩ k ⟨yr,ys,yl,yt,yc⟩ m):=fun h => by rcases h.2 with h4 | ⟨h4,_⟩ <;> (try simp only at h4) <;> omega
        iterate 6 (refine s_quiet rfl (fun K hK => ?_);go_simp;refine hK _ ?_;clear hK K)
        refine s_end (fun w4 h4 => ?_)
        go_wp2_with fail
        go_roundw
        case rel => exact ⟨m + 1,kb,hml,by go_num,rfl,hkb.out.good HY.out HB.out,hgx.dr.tr h4⟩
        case measure => simp [intOf];omega
     ·have HSB : Hid (decide (sameKey ⟨xr,xs,xl,xt,xc⟩ ⟨yr,ys,yl,yt,yc⟩) = false):=decide_eq_false hs
      have HS:=Lib.hid hs
      clear hs
      refine s_region Grows [(0,false),(1,false),(2,false),(3,false),(4,false),(5,false),(6,false),(7,false),(8,false),(9,false),(10,false),(11,false),(12,false),(13,false),(14,false),(15,false),(16,false),(17,false),(18,false),(19,false),(20,false),(21,false),(22,false),(23,false),(24,false),(25,false),(26,false),(27,false),(28,false),(29,false),(30,false),(31,false),(32,false),(33,false),(34,false),(35,false),(36,false),(37,false),(38,false),(39,false)] Grows.refl Grows.trans (by kernel_rfl) (by kernel_rfl) (fun d _ _ _ _ h => by cases d <;> exact h) ?_
      iterate 8 (refine s_quiet rfl (fun K hK => ?_);go_simp;refine hK _ ?_;clear hK K)
      refine s_quiet rfl (fun K hK => ?_)
      go_simp
      apply Exists.intro
      refine ⟨fun x => ?_,hK _ ?_⟩
      ·go_at_call 119;exact calls_ext (variants_is (x:=⟨xr,xs,xl,xt,xc⟩) (y:=⟨yr,ys,yl,yt,yc⟩) HSB.out _)
      clear hK K
      iterate 1 (refine s_quiet rfl (fun K hK => ?_);go_simp;refine hK _ ?_;clear hK K)
      have HB : Hid (¬ Bad ⟨xr,xs,xl,xt,xc⟩ k ⟨yr,ys,yl,yt,yc⟩ m):=fun h => HS.out h.1
      iterate 30 (refine s_quiet rfl (fun K hK => ?_);go_simp;refine hK _ ?_;clear hK K)
      refine s_end (fun w4 h4 => ?_)
      go_wp2_with fail
      go_roundw
      case rel => exact ⟨m + 1,kb,hml,by go_num,rfl,hkb.out.good HY.out HB.out,hgx.dr.tr h4⟩
      case measure => simp [intOf];omega
    ·obtain rfl : m = l.length:=by omega
     have hfull:=hkb.out.full HX.out
     have hown1:=hown.grows hgx
     cases kb
     ·have HN : Hid (SInv l (k + 1) o):=hinv.out.skip HX.out (fun h => by cases hfull.2 h)
      clear hfull
      go_wp2_with fail
      go_roundw
      case rel => exact ⟨k + 1,o,hlt,by go_num,hown1,by omega,HN,hg.tr hgx⟩
      case measure => simp [intOf];omega
     ·obtain ⟨hf1,hf2⟩:=hfull.1 rfl
      have HN : Hid (SInv l (k + 1) (insE ⟨xr,xs,xl,xt,xc⟩ o)):=hinv.out.ins HX.out hf1 hf2
      have HCN : Hid (a3 = none → c3 = 0):=owns_none hown
      clear hfull hf1 hf2
      obtain ⟨u1,rfl⟩ : ∃ u1,u1 = wr:=⟨_,rfl⟩
      go_wp2_with fail
      go_loopw [8] (fun a wx => ∃ (m : Nat),m ≤ o.length∧a = .int .i64 m∧Hid (∀ j y,j < m → o[j]? = some y → lessS y ⟨xr,xs,xl,xt,xc⟩ = true)∧Grows u0 wx) (fun a _ => o.length - (intOf a).toNat)
      case atStart => exact ⟨0,Nat.zero_le _,rfl,fun j y hj => by omega,hgx⟩
      case round =>
       obtain ⟨m,hm,rfl,hall,hgu⟩:=hrel
       obtain ⟨u2,rfl⟩ : ∃ u2,u2 = wr:=⟨_,rfl⟩
       by_cases hmo : m < o.length
       ·obtain ⟨⟨yr,ys,yl,yt,yc⟩,hy⟩ : ∃ y,o[m]? = some y:=⟨_,List.getElem?_eq_getElem hmo⟩
        obtain ⟨ob,oo,rfl,hco⟩:=HO.out.get (ne_nil_of_lt hmo)
        have HCO:=Lib.hid hco
        have HY:=Lib.hid hy
        clear hco hy
        have x0 : ∀ x : Ext Grows u2.drew,x.u.cell? ⟨ba,oa + k * 5,none⟩ = some (.string xr):=ext_cell (hgu.dr.cell (HCA.out k _ HX.out 0 _ rfl));have x1 : ∀ x : Ext Grows u2.drew,x.u.cell? ⟨ba,oa + k * 5 + 1,none⟩ = some (.string xs):=ext_cell (hgu.dr.cell (HCA.out k _ HX.out 1 _ rfl));have x2 : ∀ x : Ext Grows u2.drew,x.u.cell? ⟨ba,oa + k * 5 + 2,none⟩ = some (.int .i64 xl):=ext_cell (hgu.dr.cell (HCA.out k _ HX.out 2 _ rfl));have x3 : ∀ x : Ext Grows u2.drew,x.u.cell? ⟨ba,oa + k * 5 + 3,none⟩ = some (.int .i64 xt):=ext_cell (hgu.dr.cell (HCA.out k _ HX.out 3 _ rfl));have x4 : ∀ x : Ext Grows u2.drew,x.u.cell? ⟨ba,oa + k * 5 + 4,none⟩ = some (.int .i64 xc):=ext_cell (hgu.dr.cell (HCA.out k _ HX.out 4 _ rfl))
        have y0 : ∀ x : Ext Grows u2.drew,x.u.cell? ⟨ob,oo + m * 5,none⟩ = some (.string yr):=ext_cell (hgu.dr.cell (HCO.out m _ HY.out 0 _ rfl));have y1 : ∀ x : Ext Grows u2.drew,x.u.cell? ⟨ob,oo + m * 5 + 1,none⟩ = some (.string ys):=ext_cell (hgu.dr.cell (HCO.out m _ HY.out 1 _ rfl));have y2 : ∀ x : Ext Grows u2.drew,x.u.cell? ⟨ob,oo + m * 5 + 2,none⟩ = some (.int .i64 yl):=ext_cell (hgu.dr.cell (HCO.out m _ HY.out 2 _ rfl));have y3 : ∀ x : Ext Grows u2.drew,x.u.cell? ⟨ob,oo + m * 5 + 3,none⟩ = some (.int .i64 yt):=ext_cell (hgu.dr.cell (HCO.out m _ HY.out 3 _ rfl));have y4 : ∀ x : Ext Grows u2.drew,x.u.cell? ⟨ob,oo + m * 5 + 4,none⟩ = some (.int .i64 yc):=ext_cell (hgu.dr.cell (HCO.out m _ HY.out 4 _ rfl))
        cases hls : lessS ⟨yr,ys,yl,yt,yc⟩ ⟨xr,xs,xl,xt,xc⟩
        ·have hins:=insE_at (x:=⟨xr,xs,xl,xt,xc⟩) hm hall.out (Or.inr ⟨_,HY.out,hls⟩)
         have HIN:=Lib.hid hins
         clear hins
         go_wp2_with fail
         refine s_region Grows [(0,false),(1,false),(2,false),(3,false),(4,false),(5,false),(6,false),(7,false),(8,false),(9,false),(10,false),(11,false),(12,false),(13,false),(14,false)] Grows.refl Grows.trans (by kernel_rfl) (by kernel_rfl) (fun d _ _ _ _ h => by cases d <;> exact h) ?_
         iterate 13 (refine s_quiet rfl (fun K hK => ?_);go_simp;refine hK _ ?_;clear hK K)
         refine s_quiet rfl (fun K hK => ?_)
         go_simp
         apply Exists.intro
         refine ⟨fun x => ?_,hK _ ?_⟩
         ·go_at_call 120;exact calls_ext (less2_is (x:=⟨yr,ys,yl,yt,yc⟩) (y:=⟨xr,xs,xl,xt,xc⟩) hls _)
         clear hK K
         iterate 1 (refine s_quiet rfl (fun K hK => ?_);go_simp;refine hK _ ?_;clear hK K)
         refine s_end (fun w4 h4 => ?_)
         have hgw4:=hgu.dr.tr h4
         obtain ⟨p2,hp2,hq2,hr2⟩:=sliced_at (k:=5) (l:=m) (h:=o.length) (HO.out.grows hgw4) HCN.out hm (Nat.le_refl _) hc1
         have hne : ¬ c3 = m:=by omega
         obtain rfl : p2 = some ⟨ob,oo + m * 5,none⟩:=by
          unfold sliced at hp2
          rw [if_neg hne,Option.map_some,add_zero_off] at hp2
          injection hp2 with h
          exact h.symm
         clear hp2
         rw [List.take_length] at hq2
         have hq1:=at_take (HO.out.grows hgw4) m
         have hmc : m ≤ c3:=by omega
         have hl1 : (o.take m).length = m:=by rw [List.length_take];omega
         have hl2 : (o.drop m).length = o.length - m:=List.length_drop
         have HQ1:=Lib.hid hq1
         have HQ2:=Lib.hid hq2
         clear hq1 hq2
         go_wp2_with (first
          | (at_builtin;refine app_many entLay rfl _ _ rfl w4.heap.size (.slice none 0 0) [] (o.take m) rfl (Owns.nil w4 _ _ _ _) (Grows.refl _) _ c3 (by rw [hl1];rfl) HQ1.out HCN.out (by rw [hl1];simp;omega) (Nat.le_refl _) ?_;intro v5 w5 hown5 hg5;have hgu5:=hg5 w4 (Grows.refl _) (Nat.le_refl _);clear hg5;rw [List.nil_append] at hown5;have z0 : w5.cell? ⟨ba,oa + k * 5,none⟩ = some (.string xr):=(hgw4.tr hgu5).cell (HCA.out k _ HX.out 0 _ rfl);have z1 : w5.cell? ⟨ba,oa + k * 5 + 1,none⟩ = some (.string xs):=(hgw4.tr hgu5).cell (HCA.out k _ HX.out 1 _ rfl);have z2 : w5.cell? ⟨ba,oa + k * 5 + 2,none⟩ = some (.int .i64 xl):=(hgw4.tr hgu5).cell (HCA.out k _ HX.out 2 _ rfl);have z3 : w5.cell? ⟨ba,oa + k * 5 + 3,none⟩ = some (.int .i64 xt):=(hgw4.tr hgu5).cell (HCA.out k _ HX.out 3 _ rfl);have z4 : w5.cell? ⟨ba,oa + k * 5 + 4,none⟩ = some (.int .i64 xc):=(hgw4.tr hgu5).cell (HCA.out k _ HX.out 4 _ rfl))
          | (at_builtin;refine app_one entLay rfl _ _ rfl w4.heap.size _ (o.take m) ⟨xr,xs,xl,xt,xc⟩ rfl hown5 (Grows.refl _) _ 1 rfl _ rfl rfl (by rw [hl1];omega) hgu5.size ?_;intro v6 w6 hown6 hg6;have hgu6:=hg6 w4 hgu5 (Nat.le_refl _);clear hg6)
          | (at_builtin;refine app_many entLay rfl _ _ rfl w4.heap.size _ (o.take m ++ [⟨xr,xs,xl,xt,xc⟩]) (o.drop m) rfl hown6 (Grows.refl _) _ (c3 - m) (by rw [hl2];rfl) (HQ2.out.grows hgu6) hr2 (by rw [List.length_append,hl1,hl2];simp;omega) hgu6.size ?_;intro v7 w7 hown7 hg7;have hgu7:=hg7 w4 hgu6 (Nat.le_refl _);clear hg7))
         go_roundw
         case rel => exact ⟨k + 1,insE ⟨xr,xs,xl,xt,xc⟩ o,hlt,by go_num,by rw [HIN.out,← List.append_assoc];exact hown7.base (Nat.le_trans hg.size (hgw4.size)),by rw [length_insE];omega,HN,(hg.tr hgw4).tr hgu7⟩
         case measure => simp [intOf];omega
        ·have hall2 : Hid (∀ j y,j < m + 1 → o[j]? = some y → lessS y ⟨xr,xs,xl,xt,xc⟩ = true):=fun j y hj hy => by
          rcases Nat.lt_succ_iff_lt_or_eq.1 hj with h | rfl
          ·exact hall.out j y h hy
          ·rw [HY.out] at hy
           rw [← Option.some.inj hy];exact hls
         go_wp2_with fail
         refine s_region Grows [(0,false),(1,false),(2,false),(3,false),(4,false),(5,false),(6,false),(7,false),(8,false),(9,false),(10,false),(11,false),(12,false),(13,false),(14,false)] Grows.refl Grows.trans (by kernel_rfl) (by kernel_rfl) (fun d _ _ _ _ h => by cases d <;> exact h) ?_
         iterate 13 (refine s_quiet rfl (fun K hK => ?_);go_simp;refine hK _ ?_;clear hK K)
         refine s_quiet rfl (fun K hK => ?_)
         go_simp
         apply Exists.intro
         refine ⟨fun x => ?_,hK _ ?_⟩
         ·go_at_call 120;exact calls_ext (less2_is (x:=⟨yr,ys,yl,yt,yc⟩) (y:=⟨xr,xs,xl,xt,xc⟩) hls _)
         clear hK K
         iterate 1 (refine s_quiet rfl (fun K hK => ?_);go_simp;refine hK _ ?_;clear hK K)
         refine s_end (fun w4 h4 => ?_)
         go_wp2_with fail
         go_roundw
         case rel => exact ⟨m + 1,hmo,by go_num,hall2,hgu.dr.tr h4⟩
         case measure => simp [intOf];omega
       ·have hme : m = o.length:=by omega
        have hins:=insE_at (x:=⟨xr,xs,xl,xt,xc⟩) hm hall.out (Or.inl hme)
        have HIN:=Lib.hid hins
        clear hins hme
        go_wp2_with fail
        refine s_region Grows [(0,false),(1,false),(2,false),(3,false),(4,false),(5,false),(6,false),(7,false),(8,false),(9,false),(10,false),(11,false),(12,false),(13,false),(14,false)] Grows.refl Grows.trans (by kernel_rfl) (by kernel_rfl) (fun d _ _ _ _ h => by cases d <;> exact h) ?_
        iterate 15 (refine s_quiet rfl (fun K hK => ?_);go_simp;refine hK _ ?_;clear hK K)
        refine s_end (fun w4 h4 => ?_)
        have hgw4:=hgu.dr.tr h4
        obtain ⟨p2,hp2,hq2,hr2⟩:=sliced_at (k:=5) (l:=m) (h:=o.length) (HO.out.grows hgw4) HCN.out hm (Nat.le_refl _) hc1
        have hsl : (if c3 = m then a3 else Option.map (fun x => x.add (m * 5)) a3) = p2:=by
         unfold sliced at hp2
         injection hp2
        clear hp2
        rw [List.take_length] at hq2
        have hq1:=at_take (HO.out.grows hgw4) m
        have hmc : m ≤ c3:=by omega
        have hl1 : (o.take m).length = m:=by rw [List.length_take];omega
        have hl2 : (o.drop m).length = o.length - m:=List.length_drop
        have HQ1:=Lib.hid hq1
        have HQ2:=Lib.hid hq2
        clear hq1 hq2
        go_wp2_with (first
         | (at_builtin;refine app_many entLay rfl _ _ rfl w4.heap.size (.slice none 0 0) [] (o.take m) rfl (Owns.nil w4 _ _ _ _) (Grows.refl _) _ c3 (by rw [hl1];rfl) HQ1.out HCN.out (by rw [hl1];simp;omega) (Nat.le_refl _) ?_;intro v5 w5 hown5 hg5;have hgu5:=hg5 w4 (Grows.refl _) (Nat.le_refl _);clear hg5;rw [List.nil_append] at hown5;have z0 : w5.cell? ⟨ba,oa + k * 5,none⟩ = some (.string xr):=(hgw4.tr hgu5).cell (HCA.out k _ HX.out 0 _ rfl);have z1 : w5.cell? ⟨ba,oa + k * 5 + 1,none⟩ = some (.string xs):=(hgw4.tr hgu5).cell (HCA.out k _ HX.out 1 _ rfl);have z2 : w5.cell? ⟨ba,oa + k * 5 + 2,none⟩ = some (.int .i64 xl):=(hgw4.tr hgu5).cell (HCA.out k _ HX.out 2 _ rfl);have z3 : w5.cell? ⟨ba,oa + k * 5 + 3,none⟩ = some (.int .i64 xt):=(hgw4.tr hgu5).cell (HCA.out k _ HX.out 3 _ rfl);have z4 : w5.cell? ⟨ba,oa + k * 5 + 4,none⟩ = some (.int .i64 xc):=(hgw4.tr hgu5).cell (HCA.out k _ HX.out 4 _ rfl))
         | (at_builtin;refine app_one entLay rfl _ _ rfl w4.heap.size _ (o.take m) ⟨xr,xs,xl,xt,xc⟩ rfl hown5 (Grows.refl _) _ 1 rfl _ rfl rfl (by rw [hl1];omega) hgu5.size ?_;intro v6 w6 hown6 hg6;have hgu6:=hg6 w4 hgu5 (Nat.le_refl _);clear hg6)
         | (at_builtin;refine app_many entLay rfl _ _ rfl w4.heap.size _ (o.take m ++ [⟨xr,xs,xl,xt,xc⟩]) (o.drop m) rfl hown6 (Grows.refl _) _ (c3 - m) (by rw [hl2];rfl) (HQ2.out.grows hgu6) hr2 (by rw [List.length_append,hl1,hl2];simp;omega) hgu6.size ?_;intro v7 w7 hown7 hg7;have hgu7:=hg7 w4 hgu6 (Nat.le_refl _);clear hg7))
        go_roundw
        case rel => exact ⟨k + 1,insE ⟨xr,xs,xl,xt,xc⟩ o,hlt,by go_num,by rw [HIN.out,← List.append_assoc];exact hown7.base (Nat.le_trans hg.size (hgw4.size)),by rw [length_insE];omega,HN,(hg.tr hgw4).tr hgu7⟩
        case measure => simp [intOf];omega
  ·obtain rfl : k = l.length:=by omega
   have HN:=hinv.out.done
   go_wp2_with fail
   go_ret
   exact ⟨_,rfl,HN ▸ hown,hg⟩
end Go.Proofs.YtepoiefadjoabaaGreatDoor
