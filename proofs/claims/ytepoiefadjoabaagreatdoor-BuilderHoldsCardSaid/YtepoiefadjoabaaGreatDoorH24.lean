/- The texts Src OpenSrc NamedD CutV RdS RefS KanaP RefK, one behind the other. -/
import Derived.Test.YtepoiefadjoabaaGreatDoorH15
import Derived.Test.YtepoiefadjoabaaGreatDoorH13
import Derived.Test.YtepoiefadjoabaaGreatDoorH21
import Derived.Test.YtepoiefadjoabaaGreatDoorH11
import Derived.Test.YtepoiefadjoabaaGreatDoorH5
import Derived.Test.YtepoiefadjoabaaGreatDoorH18
import Derived.Test.YtepoiefadjoabaaGreatDoorH23
import Derived.Test.YtepoiefadjoabaaGreatDoorH7
import Derived.Test.YtepoiefadjoabaaGreatDoorH2
namespace Go.Proofs.YtepoiefadjoabaaGreatDoor
open Go Go.RowKit
attribute [local go_sem] quietE quietE2
structure SrcV where
 p : List PosV
 d : Int
 s : List SetV
 e : List En
structure SrcA where
 pa : Option Addr
 pc : Nat
 sa : Option Addr
 sc : Nat
 ea : Option Addr
 ec : Nat
def SrcA.cells (a : SrcA) (x : SrcV) : Array Value := #[.slice a.pa x.p.length a.pc, .int .i64 x.d, .slice a.sa x.s.length a.sc, .slice a.ea x.e.length a.ec]
def SrcA.agg (a : SrcA) (x : SrcV) : Value := .agg (a.cells x)
structure SrcAt (w : World) (a : SrcA) (x : SrcV) : Prop where
 p : AtCells w a.pa 2 (x.p.map posCells)
 s : AtCells w a.sa 3 (x.s.map setC)
 e : AtCells w a.ea 5 (x.e.map enCells)
theorem SrcAt.grows {w w' : World} {a : SrcA} {x : SrcV} (h : SrcAt w a x) (hg : Grows w w') : SrcAt w' a x := ⟨h.p.grows hg, h.s.grows hg, h.e.grows hg⟩
structure SrcOK (x : SrcV) : Prop where
 p : ∀ y ∈ x.p,y.name.size ≤ maxLen
 s : ∀ y ∈ x.s,WfI y.c
 e : ∀ y ∈ x.e,EnOK y
 d : WfI x.d
 lp : x.p.length ≤ 140737488355328
 ls : x.s.length ≤ 140737488355328
 le : x.e.length ≤ 140737488355328
def bigP (y : PosV) : Bool := decide (400 < y.name.size)
def bigE (y : En) : Bool := decide (400 < y.r.size) || decide (400 < y.s.size)
def lightS (x : SrcV) : Bool := !x.p.any bigP && !x.e.any bigE && decide (x.p.length ≤ 70) && decide (x.s.length ≤ 300) && decide (x.e.length ≤ 300)
theorem lightS_of {x : SrcV} (h : lightS x = true) : (∀ y ∈ x.p, y.name.size ≤ 400) ∧ (∀ y ∈ x.e, y.r.size ≤ 400 ∧ y.s.size ≤ 400) ∧ x.p.length ≤ 70 ∧ x.s.length ≤ 300 ∧ x.e.length ≤ 300 := by
 unfold lightS at h
 simp only [Bool.and_eq_true,Bool.not_eq_true',decide_eq_true_eq,List.any_eq_false] at h
 obtain ⟨⟨⟨⟨h1,h2⟩,h3⟩,h4⟩,h5⟩:=h
 refine ⟨fun y hy => ?_,fun y hy => ?_,h3,h4,h5⟩
 ·have:=h1 y hy;unfold bigP at this;simp at this;exact this
 ·have:=h2 y hy;unfold bigE at this;simp at this;exact this
theorem anyDrop {α : Type} {f : α → Bool} {l : List α} {k : Nat} {x : α} (h : l[k]? = some x) : (l.drop k).any f = (f x || (l.drop (k + 1)).any f) := by
 obtain ⟨hk,rfl⟩:=List.getElem?_eq_some_iff.1 h
 rw [List.drop_eq_getElem_cons hk,List.any_cons]
def srcM (x : SrcV) : Option Mx := if newB x.p.length x.d then some (runSets (newM x.p.length x.d) x.s) else none
set_option maxHeartbeats 4000000 in
set_option maxRecDepth 100000 in
theorem light_any (x : SrcV) (A : SrcA) (w : World) (hok : SrcOK x) (hat : SrcAt w A x) :
  Calls Tryz.prog 7 #[A.agg x] w fun e w' => e = .returned (.bool (lightS x))∧Grows w w':=by
 have hlp:=hok.lp
 have hle:=hok.le
 have hls:=hok.ls
 clear hok
 obtain ⟨pa,pc,sa,sc,ea,ec⟩:=A
 obtain ⟨xp,xd,xs,xe⟩:=x
 try replace hlp : xp.length ≤ 140737488355328:=hlp
 try replace hls : xs.length ≤ 140737488355328:=hls
 try replace hle : xe.length ≤ 140737488355328:=hle
 obtain ⟨W0,hW0⟩ : ∃ W0,W0 = w.alloc (.cells #[.slice pa xp.length pc,.int .i64 xd,.slice sa xs.length sc,.slice ea xe.length ec] 26):=⟨_,rfl⟩
 have hg0 : Grows w W0:=by rw [hW0];exact Grows.alloc _ _
 have hbx:=fun j u h => cell_box w #[.slice pa xp.length pc,.int .i64 xd,.slice sa xs.length sc,.slice ea xe.length ec] 26 (0,0) j u h
 rw [← hW0] at hbx
 have q0:=hbx 0 _ rfl
 have q1:=hbx 1 _ rfl
 have q2:=hbx 2 _ rfl
 have q3:=hbx 3 _ rfl
 have HQ:=Lib.hid (And.intro q0 (And.intro q1 (And.intro q2 q3)))
 have HP : Hid (AtCells W0 pa 2 (xp.map posCells)):=hat.p.grows hg0
 have HS : Hid (AtCells W0 sa 3 (xs.map setC)):=hat.s.grows hg0
 have HE : Hid (AtCells W0 ea 5 (xe.map enCells)):=hat.e.grows hg0
 have HG0:=Lib.hid hg0
 clear hbx hat hg0
 show Calls _ _ #[.agg #[.slice pa xp.length pc,.int .i64 xd,.slice sa xs.length sc,.slice ea xe.length ec]] _ _
 have HL : Hid (lightS ⟨xp,xd,xs,xe⟩ = (!xp.any bigP && !xe.any bigE && decide (xp.length ≤ 70) && decide (xs.length ≤ 300) && decide (xe.length ≤ 300))):=rfl
 obtain ⟨LB,hLB⟩ : ∃ b,b = lightS ⟨xp,xd,xs,xe⟩:=⟨_,rfl⟩
 rw [← hLB] at HL ⊢
 clear hLB q1 q2 q3
 go_enter Tryz.func7,Tryz.ntmps7
 go_wp2_with fail
 rw [← hW0]
 clear hW0
 go_loopw [3] (fun i wr => ∃ (k : Nat),k ≤ xp.length∧i = .int .i64 k∧Hid ((xp.drop k).any bigP = xp.any bigP)∧wr = W0) (fun i _ => xp.length - (intOf i).toNat)
 case atStart => exact ⟨0,Nat.zero_le _,rfl,rfl,rfl⟩
 case round =>
  obtain ⟨k,hk,rfl,hF,rfl⟩:=hrel
  by_cases hlt : k < xp.length
  ·obtain ⟨⟨yn,yk⟩,hx⟩ : ∃ y,xp[k]? = some y:=⟨_,List.getElem?_eq_getElem hlt⟩
   obtain ⟨ba,oa,rfl,hca⟩:=HP.out.get (ne_nil_of_lt hlt)
   have c0 : wr.cell? ⟨ba,oa + k * 2,none⟩ = some (.string yn):=hca k _ hx 0 _ rfl
   have hki : (k : Int) < xp.length:=by omega
   have HD:=Lib.hid (anyDrop (f:=bigP) hx)
   rw [hF.out] at HD
   clear hca hx hF
   by_cases hb : 400 < yn.size
   ·have hbi : (400 : Int) < yn.size:=by omega
    have HX : Hid (xp.any bigP = true):=by show _ = _;rw [HD.out];unfold bigP;simp [hb]
    clear HD hb
    go_wp2_with fail
    go_ret
    exact ⟨by rw [HL.out,HX.out];rfl,HG0.out⟩
   ·have hbi : ¬ (400 : Int) < yn.size:=by omega
    have HX : Hid ((xp.drop (k + 1)).any bigP = xp.any bigP):=by show _ = _;rw [HD.out];unfold bigP;simp [hb]
    clear HD hb
    go_wp2_with fail
    go_roundw
    case rel => exact ⟨k + 1,hlt,by go_num,HX,trivial⟩
    case measure => simp [intOf];omega
  ·obtain rfl : k = xp.length:=by omega
   have HPA : Hid (xp.any bigP = false):=by show _ = _;rw [← hF.out,List.drop_length];rfl
   have q3:=HQ.out.2.2.2
   clear hF
   go_wp2_with fail
   go_loopw [4] (fun i wx => ∃ (k : Nat),k ≤ xe.length∧i = .int .i64 k∧Hid ((xe.drop k).any bigE = xe.any bigE)∧wx = wr) (fun i _ => xe.length - (intOf i).toNat)
   case atStart => exact ⟨0,Nat.zero_le _,rfl,rfl,rfl⟩
   case round =>
    obtain ⟨k,hk,rfl,hF,rfl⟩:=hrel
    by_cases hlt : k < xe.length
    ·obtain ⟨⟨yr,ys,yl,yt,yc⟩,hx⟩ : ∃ y,xe[k]? = some y:=⟨_,List.getElem?_eq_getElem hlt⟩
     obtain ⟨ba,oa,rfl,hca⟩:=HE.out.get (ne_nil_of_lt hlt)
     have c0 : wr.cell? ⟨ba,oa + k * 5,none⟩ = some (.string yr):=hca k _ hx 0 _ rfl
     have c1 : wr.cell? ⟨ba,oa + k * 5 + 1,none⟩ = some (.string ys):=hca k _ hx 1 _ rfl
     have hki : (k : Int) < xe.length:=by omega
     have HD:=Lib.hid (anyDrop (f:=bigE) hx)
     rw [hF.out] at HD
     clear hca hx hF
     by_cases hb : 400 < yr.size
     ·have hbi : (400 : Int) < yr.size:=by omega
      have HX : Hid (xe.any bigE = true):=by show _ = _;rw [HD.out];unfold bigE;simp [hb]
      clear HD hb
      go_wp2_with fail
      go_ret
      exact ⟨by rw [HL.out,HX.out];simp,HG0.out⟩
     ·have hbi : ¬ (400 : Int) < yr.size:=by omega
      by_cases hb2 : 400 < ys.size
      ·have hbi2 : (400 : Int) < ys.size:=by omega
       have HX : Hid (xe.any bigE = true):=by show _ = _;rw [HD.out];unfold bigE;simp [hb2]
       clear HD hb hb2
       go_wp2_with fail
       go_ret
       exact ⟨by rw [HL.out,HX.out];simp,HG0.out⟩
      ·have hbi2 : ¬ (400 : Int) < ys.size:=by omega
       have HX : Hid ((xe.drop (k + 1)).any bigE = xe.any bigE):=by show _ = _;rw [HD.out];unfold bigE;simp [hb,hb2]
       clear HD hb hb2
       go_wp2_with fail
       go_roundw
       case rel => exact ⟨k + 1,hlt,by go_num,HX,trivial⟩
       case measure => simp [intOf];omega
    ·obtain rfl : k = xe.length:=by omega
     have HEA : Hid (xe.any bigE = false):=by show _ = _;rw [← hF.out,List.drop_length];rfl
     have q2:=HQ.out.2.2.1
     have e1 : decide ((xp.length : Int) ≤ 70) = decide (xp.length ≤ 70):=decide_eq_decide.2 (by omega)
     have e2 : decide ((xs.length : Int) ≤ 300) = decide (xs.length ≤ 300):=decide_eq_decide.2 (by omega)
     have e3 : decide ((xe.length : Int) ≤ 300) = decide (xe.length ≤ 300):=decide_eq_decide.2 (by omega)
     have HL2 : Hid (LB = (decide ((xp.length : Int) ≤ 70) && decide ((xs.length : Int) ≤ 300) && decide ((xe.length : Int) ≤ 300))):=by show _ = _;rw [HL.out,HPA.out,HEA.out,e1,e2,e3];simp
     clear hF e1 e2 e3 hlt
     by_cases h1 : (xp.length : Int) ≤ 70
     ·by_cases h2 : (xs.length : Int) ≤ 300
      ·go_wp2_with fail
       go_ret
       exact ⟨by rw [HL2.out];simp [h1,h2],HG0.out⟩
      ·go_wp2_with fail
       go_ret
       exact ⟨by rw [HL2.out];simp;omega,HG0.out⟩
     ·go_wp2_with fail
      go_ret
      exact ⟨by rw [HL2.out];simp;omega,HG0.out⟩
set_option maxHeartbeats 4000000 in
set_option maxRecDepth 100000 in
theorem matrix_any (x : SrcV) (A : SrcA) (w : World) (hok : SrcOK x) (hat : SrcAt w A x) :
  Calls Tryz.prog 14 #[A.agg x] w fun e w' => ∃ v,e = .returned v∧MatV w' v (srcM x)∧Grows w w':=by
 have HOS:=Lib.hid hok.s
 have hlp:=hok.lp
 have hls:=hok.ls
 clear hok
 obtain ⟨pa,pc,sa,sc,ea,ec⟩:=A
 obtain ⟨xp,xd,xs,xe⟩:=x
 try replace hlp : xp.length ≤ 140737488355328:=hlp
 try replace hls : xs.length ≤ 140737488355328:=hls
 try replace hle : xe.length ≤ 140737488355328:=hle
 obtain ⟨W0,hW0⟩ : ∃ W0,W0 = w.alloc (.cells #[.slice pa xp.length pc,.int .i64 xd,.slice sa xs.length sc,.slice ea xe.length ec] 26):=⟨_,rfl⟩
 have hg0 : Grows w W0:=by rw [hW0];exact Grows.alloc _ _
 have hbx:=fun j u h => cell_box w #[.slice pa xp.length pc,.int .i64 xd,.slice sa xs.length sc,.slice ea xe.length ec] 26 (0,0) j u h
 rw [← hW0] at hbx
 have q0:=hbx 0 _ rfl
 have q1:=hbx 1 _ rfl
 have q2:=hbx 2 _ rfl
 have q3:=hbx 3 _ rfl
 have HQ:=Lib.hid (And.intro q0 (And.intro q1 (And.intro q2 q3)))
 have HP : Hid (AtCells W0 pa 2 (xp.map posCells)):=hat.p.grows hg0
 have HS : Hid (AtCells W0 sa 3 (xs.map setC)):=hat.s.grows hg0
 have HE : Hid (AtCells W0 ea 5 (xe.map enCells)):=hat.e.grows hg0
 have HG0:=Lib.hid hg0
 clear hbx hat hg0
 show Calls _ _ #[.agg #[.slice pa xp.length pc,.int .i64 xd,.slice sa xs.length sc,.slice ea xe.length ec]] _ _
 have HSM : Hid (srcM ⟨xp,xd,xs,xe⟩ = if newB xp.length xd then some (runSets (newM xp.length xd) xs) else none):=rfl
 obtain ⟨SM,hSM⟩ : ∃ m,m = srcM ⟨xp,xd,xs,xe⟩:=⟨_,rfl⟩
 rw [← hSM] at HSM ⊢
 clear hSM q2 q3
 replace HOS : Hid (∀ y ∈ xs,WfI y.c):=HOS
 go_enter Tryz.func14,Tryz.ntmps14
 cases hnb : newB xp.length xd with
 | false =>
  rw [hnb] at HSM
  go_wp2_with fail
  rw [← hW0]
  clear hW0
  refine (new_bad xp.length xd _ hnb).mono ?_
  rintro e w1 ⟨rfl,rfl⟩
  go_wp2_with fail
  go_ret
  exact ⟨_,rfl,by rw [HSM.out];rfl,HG0.out⟩
 | true =>
  rw [hnb] at HSM
  replace HSM : Hid (SM = some (runSets (newM xp.length xd) xs)):=HSM
  go_wp2_with fail
  rw [← hW0]
  clear hW0
  refine (new_any xp.length xd _ hnb).mono ?_
  rintro e w1 ⟨rfl,hm1,hg1⟩
  clear q0 q1
  go_wp2_with fail
  go_loopw [5] (fun i wr => ∃ (k : Nat),k ≤ xs.length∧i = .int .i64 k∧MatAt wr (W0.heap.size + 1) W0.heap.size (runSets (newM xp.length xd) (xs.take k))∧Grows W0 wr) (fun i _ => xs.length - (intOf i).toNat)
  case atStart => exact ⟨0,Nat.zero_le _,rfl,hm1,hg1⟩
  case round =>
  obtain ⟨k,hk,rfl,hm,hg⟩:=hrel
  clear hm1 hg1
  by_cases hlt : k < xs.length
  ·obtain ⟨⟨sr,sl,sq⟩,hs⟩ : ∃ s,xs[k]? = some s:=⟨_,List.getElem?_eq_getElem hlt⟩
   have hsq : WfI sq:=HOS.out _ (List.mem_of_getElem? hs)
   have HT:=Lib.hid (runSets_take (m:=newM xp.length xd) hs)
   obtain ⟨lb,lo,rfl,hcl⟩:=HS.out.get (ne_nil_of_lt hlt)
   have hki : (k : Int) < xs.length:=by omega
   have b2:=hg.cell HQ.out.2.2.1
   have z2 : ∀ x : Ext Grows wr.drew,x.u.cell? ⟨w.heap.size,2,none⟩ = some (.slice (some ⟨lb,lo,none⟩) xs.length sc):=ext_cell (hg.dr.cell HQ.out.2.2.1)
   have y0 : ∀ x : Ext Grows wr.drew,x.u.cell? ⟨lb,lo + k * 3,none⟩ = some (.int .i64 sr):=ext_cell (hg.dr.cell (hcl k _ hs 0 _ rfl))
   have y1 : ∀ x : Ext Grows wr.drew,x.u.cell? ⟨lb,lo + k * 3 + 1,none⟩ = some (.int .i64 sl):=ext_cell (hg.dr.cell (hcl k _ hs 1 _ rfl))
   have y2 : ∀ x : Ext Grows wr.drew,x.u.cell? ⟨lb,lo + k * 3 + 2,none⟩ = some (.int .i64 sq):=ext_cell (hg.dr.cell (hcl k _ hs 2 _ rfl))
   clear hcl hs
   generalize runSets (newM xp.length xd) (xs.take k) = M1 at *
   go_wp2_with fail
   refine t_tail (Grows) 19 [(0,false),(1,false),(2,false),(3,false),(4,false),(5,false),(6,false),(7,false),(8,false),(9,false),(10,false),(11,false),(12,false),(13,false),(14,false),(15,false),(16,false),(17,false),(18,false)] Grows.refl Grows.trans (by kernel_rfl) (by kernel_rfl) (fun d _ _ _ _ h => by cases d <;> exact h) ?_
   iterate 19 (refine t_quiet rfl (fun K hK => ?_);go_simp;refine hK _ ?_;clear hK K)
   refine t_end ?_
   simp only [List.drop_succ_cons,List.drop_zero]
   clear z2 y0 y1 y2 b2
   have hSV:=set_any wr.drew _ _ _ (hm.grows (Grows.drew wr)) sr sl sq hsq
   go_wp2_with fail
   refine hSV.mono ?_
   rintro e w4 ⟨rfl,hm4,hg4⟩
   have hgw4 : Grows W0 w4:=hg.dr.grown hg4 (fun q hq => by cases hq;exact Nat.le_refl _)
   go_wp2_with fail
   go_roundw
   case rel => exact ⟨k + 1,hlt,by go_num,by rw [HT.out];exact hm4,hgw4⟩
   case measure => simp [intOf];omega
  ·obtain rfl : k = xs.length:=by omega
   rw [List.take_length] at hm
   have b2:=hg.cell HQ.out.2.2.1
   go_wp2_with fail
   go_ret
   refine ⟨_,rfl, ?_,Grows.trans _ _ _ HG0.out hg⟩
   rw [HSM.out]
   exact ⟨_,_,rfl,hm⟩
end Go.Proofs.YtepoiefadjoabaaGreatDoor
namespace Go.Proofs.YtepoiefadjoabaaGreatDoor
open Go Go.ChangeShapes Go.WideShapes Go.ChangeAt Go.RowKit Go.Shelf Go.Lib
open Go.ChangeMaps (open_string shut_string)
structure SetOK (x : SetV) : Prop where
 r : (Lit.int .i64 x.r).wf = true
 l : (Lit.int .i64 x.l).wf = true
 c : (Lit.int .i64 x.c).wf = true
set_option maxRecDepth 100000 in
theorem dec_set {H : Type} {enc : TypeId × Value → H} {W : World} {base : Nat} {sp : Nat → Bool} {hd : Bool} (n : Nat) (cs : List Value) (x : DataW H × List MemPlace) (hl : cs.length = 3) (h : DataW.trod enc Tryz.prog W base sp hd n 69 cs = some x) :
  ∃ y : SetV,cs = setC y∧SetOK y:=by
 obtain ⟨xs,n,_,hx,_,hlen,hall⟩:=DataW.trod_struct Tryz.underlying69 h
 match cs,hl with
 | [c0,c1,c2],_ =>
  match xs,hlen with
  | [y0,y1,y2],_ =>
   have g0:=hall 0 _ rfl
   have g1:=hall 1 _ rfl
   have g2:=hall 2 _ rfl
   obtain ⟨n0,k0,_,z0⟩:=DataW.trod_int Tryz.underlying3 g0
   obtain ⟨n1,k1,_,z1⟩:=DataW.trod_int Tryz.underlying3 g1
   obtain ⟨n2,k2,_,z2⟩:=DataW.trod_int Tryz.underlying3 g2
   refine ⟨⟨n0,n1,n2⟩, ?_,⟨z0,z1,z2⟩⟩
   have e0 : c0 = .int .i64 n0:=by injection k0
   have e1 : c1 = .int .i64 n1:=by injection k1
   have e2 : c2 = .int .i64 n2:=by injection k2
   subst e0 e1 e2;rfl
structure PPosOK (x : PosV) : Prop where
 n : x.name.size ≤ maxLen
 k : (Lit.int .i64 x.kind).wf = true
set_option maxRecDepth 100000 in
theorem dec_ppos {H : Type} {enc : TypeId × Value → H} {W : World} {base : Nat} {sp : Nat → Bool} {hd : Bool} (n : Nat) (cs : List Value) (x : DataW H × List MemPlace) (hl : cs.length = 2) (h : DataW.trod enc Tryz.prog W base sp hd n 60 cs = some x) :
  ∃ y : PosV,cs = posCells y∧PPosOK y:=by
 obtain ⟨xs,n,_,hx,_,hlen,hall⟩:=DataW.trod_struct Tryz.underlying60 h
 match cs,hl with
 | [c0,c1],_ =>
  match xs,hlen with
  | [y0,y1],_ =>
   have g0:=hall 0 _ rfl
   have g1:=hall 1 _ rfl
   obtain ⟨s0,k0,_,z0⟩:=DataW.trod_string Tryz.underlying9 g0
   obtain ⟨n1,k1,_,z1⟩:=DataW.trod_int Tryz.underlying3 g1
   refine ⟨⟨s0,n1⟩, ?_,⟨z0,z1⟩⟩
   have e0 : c0 = .string s0:=by injection k0
   have e1 : c1 = .int .i64 n1:=by injection k1
   subst e0 e1;rfl
theorem cells4_1 {cs : Array Value} {a b c d : Value} (hs : cs.size = 4) (h0 : (cs.toList.drop 0).take 1 = [a]) (h1 : (cs.toList.drop 1).take 1 = [b]) (h2 : (cs.toList.drop 2).take 1 = [c]) (h3 : (cs.toList.drop 3).take 1 = [d]) : cs = #[a, b, c, d] := by
 obtain ⟨l⟩:=cs
 match l,hs with
 | [x0,x1,x2,x3],_ =>
  simp at h0 h1 h2 h3
  subst h0 h1 h2 h3
  rfl
section
variable {H : Type} {enc : TypeId × Value → H} {P : Program} {w : World} {base : Nat} {spare : Nat → Bool} {held : Bool}
theorem open_rows2 {α : Type} {cells : α → List Value} {OK : α → Prop} {t e : TypeId} {k fuel : Nat} {cs0 : List Value} {x0 : DataW H × List MemPlace} (ht : P.underlying t = some (.slice e)) (hC : P.cellsOf e = k) (hk : 0 < k) (hlen : ∀ y, (cells y).length = k)
  (hdec : ∀ (n : Nat) (cs : List Value) (x : DataW H × List MemPlace),cs.length = k → DataW.trod enc P w base spare held n e cs = some x → ∃ y : α,cs = cells y∧OK y)
  (hf : DataW.trod enc P w base spare held fuel t cs0 = some x0) :
  ∃ (a : Option Addr) (l : List α) (cap : Nat),cs0 = [.slice a l.length cap]∧AtCells w a k (l.map cells)∧(∀ x ∈ l,OK x)∧(x0.1 = .nil∧l = [] ∨ ∃ el sp,x0.1 = .slice el sp∧el.length = l.length)∧(a = none → cap = 0):=by
 rcases Go.Deep.open_slice ht hf with ⟨h1,h2⟩ | ⟨a',len,cap,m,n,D,Pl,h1,hb,hle,hcap,hm,hx,hi⟩
 ·subst h1 h2
  exact ⟨none,[],0,rfl,AtCells.nil _ _ _,by simp,Or.inl ⟨rfl,rfl⟩,fun _ => rfl⟩
 ·subst h1 hx
  obtain ⟨l,hl,hp⟩:=build_list (P:=fun i (y : α) => OK y∧∀ (j : Nat) (u : Value),(cells y)[j]? = some u → w.cell? (a'.add (i * k + j)) = some u) len (fun i hlt => by
   have him : i < m:=by rw [hm];split <;> omega
   obtain ⟨cs,hcs,htr⟩:=hi i him
   rw [hC] at hcs
   obtain ⟨_,hcl,hat⟩:=World.cells?_some hcs
   obtain ⟨y,rfl,hok⟩:=hdec _ _ _ hcl htr
   refine ⟨y,hok,fun j u hu => ?_⟩
   have hj : j < k:=by rw [← hcl];exact (List.getElem?_eq_some_iff.1 hu).1
   rw [← Go.Deep.add_add]
   exact (hat j hj).trans hu)
  subst hl
  refine ⟨some a',l,cap,rfl,fun hne => ?_,fun x hx => ?_,Or.inr ⟨_,_,rfl,by simp⟩,fun h => by cases h⟩
  ·have hs : a'.spot = none:=by
    cases l with
    | nil => simp at hne
    | cons y0 r =>
     have h0 : 0 < (cells y0).length:=by rw [hlen];exact hk
     have:=(hp 0 y0 rfl).2 0 _ (List.getElem?_eq_getElem h0)
     have h2:=spot_none this
     rw [Nat.zero_mul,Nat.zero_add] at h2
     simpa [Addr.add] using h2
   obtain ⟨b,off,s⟩:=a'
   obtain rfl : s = none:=hs
   refine ⟨b,off,rfl,fun i row hi2 j u hj => ?_⟩
   rw [List.getElem?_map] at hi2
   cases hx2 : l[i]? with
   | none => rw [hx2] at hi2;cases hi2
   | some y =>
    rw [hx2] at hi2
    obtain rfl:=Option.some.inj hi2
    have:=(hp i y hx2).2 j u hj
    rw [add_zero_off] at this
    rw [Nat.add_assoc];exact this
  ·obtain ⟨i,hlt,rfl⟩:=List.getElem_of_mem hx
   exact (hp i _ (List.getElem?_eq_getElem hlt)).1
theorem sized_fields {ts : List TypeId} {ds : List (DataW H)} (h : (DataW.weightsEach P ts ds).all (· ≤ reachBytes) = true) {j : Nat} {t : TypeId} {fs : Array Field} {parts : List (DataW H)} (ht : ts[j]? = some t) (hd : ds[j]? = some (.agg parts)) (hu : P.underlying t = some (.struct fs)) :
  (DataW.weightsEach P (fs.toList.map (·.type)) parts).all (· ≤ reachBytes) = true:=by
 rw [List.all_eq_true]
 intro n hn
 exact List.all_eq_true.1 h n (DataW.weights_mem_each ht hd n (by simp only [DataW.weights,hu];exact hn))
end
set_option maxRecDepth 100000 in
theorem open_src {H : Type} {enc : TypeId × Value → H} {W : World} {base b0 : Nat} {sp : Nat → Bool} {hd : Bool} {r : Reach} {v : Value} {d : DataW H} {ps : List MemPlace} {ts : List TypeId} {ds : List (DataW H)} {j : Nat}
  (hval : Value.okWide Tryz.prog W r b0 26 v) (h : DataW.Trod enc Tryz.prog W base sp hd 26 v d ps)
  (hz : (DataW.weightsEach Tryz.prog ts ds).all (· ≤ reachBytes) = true) (htj : ts[j]? = some 26) (hdj : ds[j]? = some d) :
  ∃ (x : SrcV) (A : SrcA),v = A.agg x∧SrcAt W A x∧SrcOK x∧(A.ea = none → A.ec = 0):=by
 obtain ⟨cs,rfl,hs⟩:=okWide_struct Tryz.underlying26 hval
 obtain ⟨fuel,hf⟩:=h
 obtain ⟨xs,n,_,hx,hl,hlen,hall⟩:=DataW.trod_struct Tryz.underlying26 hf
 have hs4 : cs.size = 4:=hs
 match xs,hlen with
 | [y0,y1,y2,y3],_ =>
  have g0:=hall 0 _ rfl
  have g1:=hall 1 _ rfl
  have g2:=hall 2 _ rfl
  have g3:=hall 3 _ rfl
  obtain ⟨pa,p,pc,k0,hp,okp,hp2,_⟩:=open_rows2 (cells:=posCells) (OK:=PPosOK) Tryz.underlying22 (by kernel_rfl) (by decide) (fun _ => rfl) dec_ppos g0
  obtain ⟨n1,k1,_,z1⟩:=DataW.trod_int Tryz.underlying3 g1
  obtain ⟨sa,s,sc,k2,hs',oks,hs2,_⟩:=open_rows2 (cells:=setC) (OK:=SetOK) Tryz.underlying23 (by kernel_rfl) (by decide) (fun _ => rfl) dec_set g2
  obtain ⟨ea,e,ec,k3,he,oke,he2,hnil⟩:=open_rows2 (cells:=enCells) (OK:=EnOK) Tryz.underlying24 (by kernel_rfl) (by decide) enCells_len dec_entry g3
  have hd2 : ds[j]? = some (.agg [y0.1,y1.1,y2.1,y3.1]):=by
   rw [hdj]
   have e1:=congrArg Prod.fst hx
   simpa using e1
  have hw:=sized_fields hz htj hd2 Tryz.underlying26
  have l0:=reach_len hw (j:=0) (d:=y0.1) rfl rfl Tryz.underlying22 (of_decide_eq_true (by kernel_rfl)) (Or.elim hp2 (fun h => Or.inl ⟨h.1,congrArg List.length h.2⟩) Or.inr)
  have l2:=reach_len hw (j:=2) (d:=y2.1) rfl rfl Tryz.underlying23 (of_decide_eq_true (by kernel_rfl)) (Or.elim hs2 (fun h => Or.inl ⟨h.1,congrArg List.length h.2⟩) Or.inr)
  have l3:=reach_len hw (j:=3) (d:=y3.1) rfl rfl Tryz.underlying24 (of_decide_eq_true (by kernel_rfl)) (Or.elim he2 (fun h => Or.inl ⟨h.1,congrArg List.length h.2⟩) Or.inr)
  exact ⟨⟨p,n1,s,e⟩,⟨pa,pc,sa,sc,ea,ec⟩,by rw [cells4_1 hs4 k0 k1 k2 k3];rfl,⟨hp,hs',he⟩,⟨fun y hy => (okp y hy).n,fun y hy => (oks y hy).c,oke,z1,l0,l2,l3⟩,hnil⟩
end Go.Proofs.YtepoiefadjoabaaGreatDoor
namespace Go.Proofs.YtepoiefadjoabaaGreatDoor
open Go
theorem namedS_D (s : ByteArray) : namedS s = (!s.toList.isEmpty && decide (s.size ≤ 16) && !(runesD s.data.toList).any nameBad) := by
 unfold namedS;rw [idx_D]
end Go.Proofs.YtepoiefadjoabaaGreatDoor
namespace Go.Proofs.YtepoiefadjoabaaGreatDoor
open Go Go.RowKit
theorem cut_val {w : World} {ba : Option Addr} {b : List UInt8} {bc l h : Nat} (hat : AtCells w ba 1 (b.map byteC)) (hn : ba = none → bc = 0) (h1 : l ≤ h) (h2 : h ≤ b.length) (h3 : b.length ≤ bc) :
  ∃ a',(if bc = l then ba else Option.map (fun x => x.add l) ba) = a'∧AtCells w a' 1 (((b.take h).drop l).map byteC)∧(a' = none → bc - l = 0):=by
 obtain ⟨a',hsl,hat',hna'⟩:=sliced_at (c:=bc) (l:=l) (h:=h) (k:=1) hat hn h1 h2 h3
 refine ⟨a', ?_,hat',hna'⟩
 unfold sliced at hsl
 by_cases hbk : bc = l
 ·rw [if_pos hbk] at hsl ⊢;exact (Value.slice.inj hsl).1
 ·rw [if_neg hbk] at hsl ⊢
  have:=(Value.slice.inj hsl).1
  rw [← this]
  congr 1
  funext x
  rw [Nat.mul_one]
end Go.Proofs.YtepoiefadjoabaaGreatDoor
namespace Go.Proofs.YtepoiefadjoabaaGreatDoor
open Go Go.RowKit
attribute [local go_sem] quietE quietE2
theorem conv_at2 {w : World} {a : Option Addr} {c : Nat} {l : List UInt8} (h : AtCells w a 1 (l.map byteC)) : (convert 28 9 (.slice a l.length c)).run Tryz.prog w = .ok (.string (mkB l)) w := by
 cases l with
 | nil =>
  rw [run_convert_bytes_string w 28 9 5 a ([] : List UInt8).length c Tryz.underlying28 Tryz.underlying5 Tryz.underlying9]
  cases a <;> (simp [Conv.bytesToString];rfl)
 | cons x r =>
  obtain ⟨b,o,rfl,hc⟩:=h.get (by simp)
  generalize hL : x :: r = L at *
  have hz : (mkB L).size = L.length:=by rw [Lib.size_eq,mkB_data]
  have hB : Lib.Bytes w b o (mkB L):=fun i hi => by
   rw [hz] at hi
   have h1:=hc i L[i] (List.getElem?_eq_getElem hi) 0 _ rfl
   have hg : (mkB L)[i]'(by rw [hz];exact hi) = L[i]:=rfl
   rw [hg]
   simpa using h1
  have:=Lib.run_convert_whole (P:=Tryz.prog) w 28 5 9 Tryz.underlying28 Tryz.underlying5 Tryz.underlying9 b o (mkB L) hB c
  rw [hz] at this
  exact this
def rdT (l : List UInt8) : Option (ByteArray × Nat) := match rdU l with
 | none => none
 | some (n,j) => if n ≤ (l.drop j).length then some (mkB ((l.drop j).take n),j + n) else none
def textR (k : Nat) : Option (ByteArray × Nat) → Value
 | some (v,n) => .tuple #[.string v,.int .i64 ((k + n : Nat) : Int),.bool true]
 | none => .tuple #[.string ⟨#[]⟩,.int .i64 0,.bool false]
def RdTPost (R : Option (ByteArray × Nat)) (rb k : Nat) (w : World) (e : Ending) (w' : World) : Prop :=
 ((∃ v n,R = some (v,n)∧e = .returned (.string v)∧w'.cell? ⟨rb,1,none⟩ = some (.int .i64 ((k + n : Nat) : Int))) ∨ (R = none∧e = .panicked [{ v:=failV,recovered:=false }]))∧EB rb w w'
set_option maxRecDepth 100000 in
set_option maxHeartbeats 2000000 in
theorem rdcs_panic (p0 p1 p2 : Nat) (w : World) (older : List PanicEntry) (v0 v1 v2 : Value) (c0 : w.cell? ⟨p0, 0, none⟩ = some v0) (c1 : w.cell? ⟨p1, 0, none⟩ = some v1) (c2 : w.cell? ⟨p2, 0, none⟩ = some v2)
  (f0 : w.frozen? ⟨p0,0,none⟩ = false) (f1 : w.frozen? ⟨p1,0,none⟩ = false) (f2 : w.frozen? ⟨p2,0,none⟩ = false) (n01 : p0 ≠ p1) (n02 : p0 ≠ p2) (n12 : p1 ≠ p2) (B : Nat) (hB0 : B ≤ p0) (hB1 : B ≤ p1) (hB2 : B ≤ p2) :
  CallsD Tryz.prog 204 #[.pointer (some ⟨p0,0,none⟩),.pointer (some ⟨p1,0,none⟩),.pointer (some ⟨p2,0,none⟩)] (.panicking ({ v:=failV,recovered:=false } :: older)) w fun e u' w' =>
   e = .returned (.tuple #[])∧u' = .panicking ({ v:=failV,recovered:=true } :: older)∧w'.cell? ⟨p0,0,none⟩ = some (.string ⟨#[]⟩)∧w'.cell? ⟨p1,0,none⟩ = some (.int .i64 0)∧w'.cell? ⟨p2,0,none⟩ = some (.bool false)∧EB B w w':=by
 have hta : ∀ W : World,(Instr.typeAssert (.iface 250 (.agg #[])) 20 250 true).run Tryz.prog W = .ok (.tuple #[.agg #[],.bool true]) W:=fun W => by kernel_rfl
 have hga:=Grows.alloc w (.cells #[] 250)
 have b0:=World.block_lt_of_cell? w _ c0
 have b1:=World.block_lt_of_cell? w _ c1
 have b2:=World.block_lt_of_cell? w _ c2
 have d0:=hga.cell c0
 have d1:=hga.cell c1
 have d2:=hga.cell c2
 have g0:=(hga.froz (p:=⟨p0,0,none⟩) b0).trans f0
 have g1:=(hga.froz (p:=⟨p1,0,none⟩) b1).trans f1
 have g2:=(hga.froz (p:=⟨p2,0,none⟩) b2).trans f2
 have e1 : (w.alloc (.cells #[] 250) |>.setCell ⟨p0,0,none⟩ (.string ⟨#[]⟩)).cell? ⟨p1,0,none⟩ = some v1:=(World.cell?_setCell_other _ _ _ _ (fun e => n01 (congrArg Addr.block e))).trans d1
 have e2 : ((w.alloc (.cells #[] 250) |>.setCell ⟨p0,0,none⟩ (.string ⟨#[]⟩)).setCell ⟨p1,0,none⟩ (.int .i64 0)).cell? ⟨p2,0,none⟩ = some v2:=(World.cell?_setCell_other _ _ _ _ (fun e => n12 (congrArg Addr.block e))).trans ((World.cell?_setCell_other _ _ _ _ (fun e => n02 (congrArg Addr.block e))).trans d2)
 refine callsD_of_wpS Tryz.func204 rfl fun c₀ cs hu => ?_
 apply wpS_seq
 apply wpS_region
 simp [wpOpsS,go_sem,recoverD,hu,Tryz.ntmps204,Exit.thenS,failV]
 refine wpS_of_wp ?_
 rw [show (#[Value.pointer (some ⟨p0,0,none⟩),.pointer (some ⟨p1,0,none⟩),.pointer (some ⟨p2,0,none⟩)] ++ (Array.replicate 11 undef).setIfInBounds 4 (.iface 250 (.agg #[]))) = #[.pointer (some ⟨p0,0,none⟩),.pointer (some ⟨p1,0,none⟩),.pointer (some ⟨p2,0,none⟩),undef,undef,undef,undef,.iface 250 (.agg #[]),undef,undef,undef,undef,undef,undef] from rfl]
 go_wp2
 have hs0 : (((w.setCell ⟨p0,0,none⟩ (.string ⟨#[]⟩)).setCell ⟨p1,0,none⟩ (.int .i64 0)).setCell ⟨p2,0,none⟩ (.bool false)).cell? ⟨p0,0,none⟩ = some (.string ⟨#[]⟩):=by
  rw [World.cell?_setCell_other _ _ _ _ (fun e => n02 (congrArg Addr.block e).symm),World.cell?_setCell_other _ _ _ _ (fun e => n01 (congrArg Addr.block e).symm)]
  exact World.cell?_setCell_same _ _ _ c0
 have hs1 : (((w.setCell ⟨p0,0,none⟩ (.string ⟨#[]⟩)).setCell ⟨p1,0,none⟩ (.int .i64 0)).setCell ⟨p2,0,none⟩ (.bool false)).cell? ⟨p1,0,none⟩ = some (.int .i64 0):=by
  rw [World.cell?_setCell_other _ _ _ _ (fun e => n12 (congrArg Addr.block e).symm)]
  exact World.cell?_setCell_same _ _ _ ((World.cell?_setCell_other _ _ _ _ (fun e => n01 (congrArg Addr.block e))).trans c1)
 have hs2 : (((w.setCell ⟨p0,0,none⟩ (.string ⟨#[]⟩)).setCell ⟨p1,0,none⟩ (.int .i64 0)).setCell ⟨p2,0,none⟩ (.bool false)).cell? ⟨p2,0,none⟩ = some (.bool false) :=
  World.cell?_setCell_same _ _ _ ((World.cell?_setCell_other _ _ _ _ (fun e => n12 (congrArg Addr.block e))).trans ((World.cell?_setCell_other _ _ _ _ (fun e => n02 (congrArg Addr.block e))).trans c2))
 have hbl : Below B w ((((w.setCell ⟨p0,0,none⟩ (.string ⟨#[]⟩)).setCell ⟨p1,0,none⟩ (.int .i64 0)).setCell ⟨p2,0,none⟩ (.bool false)).alloc (.cells #[] 250)):=((((Below.refl B w).setCell (p:=⟨p0,0,none⟩) hB0 _).setCell (p:=⟨p1,0,none⟩) hB1 _).setCell (p:=⟨p2,0,none⟩) hB2 _).alloc (by simp;omega) _
 have hal:=Grows.alloc (((w.setCell ⟨p0,0,none⟩ (.string ⟨#[]⟩)).setCell ⟨p1,0,none⟩ (.int .i64 0)).setCell ⟨p2,0,none⟩ (.bool false)) (.cells #[] 250)
 have k0:=hal.cell hs0
 have k1:=hal.cell hs1
 have k2:=hal.cell hs2
 have heb : EB B w ((((w.setCell ⟨p0,0,none⟩ (.string ⟨#[]⟩)).setCell ⟨p1,0,none⟩ (.int .i64 0)).setCell ⟨p2,0,none⟩ (.bool false)).alloc (.cells #[] 250)):=⟨hbl,hbl.size⟩
 exact ⟨rfl,_,rfl,_,results_none rfl _ _ _,rfl,rfl,k0,k1,k2,heb⟩
set_option maxRecDepth 100000 in
set_option maxHeartbeats 2000000 in
theorem rdcs_ret (p0 p1 p2 : Nat) (w : World) :
  CallsD Tryz.prog 204 #[.pointer (some ⟨p0,0,none⟩),.pointer (some ⟨p1,0,none⟩),.pointer (some ⟨p2,0,none⟩)] .returning w fun e u' w' => e = .returned (.tuple #[])∧u' = .returning∧w' = w:=by
 refine callsD_of_wpS Tryz.func204 rfl fun c₀ cs hu => ?_
 apply wpS_seq
 apply wpS_region
 simp [wpOpsS,go_sem,recoverD,hu,Tryz.ntmps204,Exit.thenS]
 refine wpS_of_wp ?_
 rw [show (#[Value.pointer (some ⟨p0,0,none⟩),.pointer (some ⟨p1,0,none⟩),.pointer (some ⟨p2,0,none⟩)] ++ (Array.replicate 11 undef).setIfInBounds 4 .nilIface) = #[.pointer (some ⟨p0,0,none⟩),.pointer (some ⟨p1,0,none⟩),.pointer (some ⟨p2,0,none⟩),undef,undef,undef,undef,.nilIface,undef,undef,undef,undef,undef,undef] from rfl]
 go_wp2
 cases c₀
 simp only at hu
 subst hu
 exact ⟨rfl,_,rfl,_,results_none rfl _ _ _,rfl,rfl,rfl⟩
set_option maxHeartbeats 4000000 in
set_option maxRecDepth 100000 in
theorem rdt_any (b : List UInt8) (rb k : Nat) (ba : Option Addr) (bc : Nat) (w : World) (hk : k ≤ b.length) (hb : b.length ≤ 1099511627776) (hbc : b.length ≤ bc) (hnc : ba = none → bc = 0) (hat : AtCells w ba 1 (b.map byteC)) (hba : ∀ q : Addr, ba = some q → b ≠ [] → q.block < rb)
  (c0 : w.cell? ⟨rb,0,none⟩ = some (.slice ba b.length bc)) (c1 : w.cell? ⟨rb,1,none⟩ = some (.int .i64 k)) (f1 : w.frozen? ⟨rb,1,none⟩ = false) :
  Calls Tryz.prog 159 #[.pointer (some ⟨rb,0,none⟩)] w (RdTPost (rdT (b.drop k)) rb k w):=by
 have hRT : ∀ n j,rdU (b.drop k) = some (n,j) → rdT (b.drop k) = if n ≤ (b.drop (k + j)).length then some (mkB ((b.drop (k + j)).take n),j + n) else none:=fun n j h => by
  unfold rdT
  rw [h]
  simp only
  rw [List.drop_drop]
 have hR0 : rdU (b.drop k) = none → rdT (b.drop k) = none:=fun h => by unfold rdT;rw [h]
 have CN:=Lib.hid (rdn_any b rb k ba bc w hk hb hat hba c0 c1 f1)
 have HAT:=Lib.hid hat
 have HNC:=Lib.hid hnc
 have HBA:=Lib.hid hba
 have hrb:=World.block_lt_of_cell? w _ c0
 simp only at hrb
 cases hU : rdU (b.drop k) with
 | none =>
  rw [hU] at CN
  have HR:=Lib.hid (hR0 hU)
  clear hRT hR0 hU hat hba
  go_enter Tryz.func159,Tryz.ntmps159
  go_wp2_with fail
  refine CN.out.mono ?_
  rintro e w1 ⟨hres,heb⟩
  rcases hres with ⟨v,n,hR,_⟩ | ⟨_,rfl⟩
  ·cases hR
  ·exact ⟨rfl,Or.inr ⟨HR.out,rfl⟩,heb⟩
 | some x =>
  obtain ⟨n,j⟩:=x
  rw [hU] at CN
  have HR:=Lib.hid (hRT n j hU)
  obtain ⟨r,hn64,hlr,hjj⟩:=rdU_iff.1 hU
  have hj : j ≤ b.length - k:=by
   have:=congrArg List.length hlr
   rw [List.length_drop,List.length_append] at this
   omega
  clear hlr hjj r
  clear hRT hR0 hat hba hU
  obtain ⟨K,hK⟩ : ∃ K,K = k + j:=⟨_,rfl⟩
  have hKb : K ≤ b.length:=by omega
  rw [← hK] at HR
  have HK:=Lib.hid hK
  go_enter Tryz.func159,Tryz.ntmps159
  go_wp2_with fail
  refine CN.out.mono ?_
  rintro e w1 ⟨hres,heb⟩
  rcases hres with ⟨v,n',hR,rfl,hc1,hc0,hf1⟩ | ⟨hR,_⟩
  case inr => cases hR
  obtain ⟨rfl,rfl⟩ : n = v∧j = n':=by simpa using hR
  rw [← hK] at hc1
  have z0 : ∀ x : Ext Grows w1.drew,x.u.cell? ⟨rb,0,none⟩ = some (.slice ba b.length bc):=ext_cell ((Grows.drew w1).cell hc0)
  have z1 : ∀ x : Ext Grows w1.drew,x.u.cell? ⟨rb,1,none⟩ = some (.int .i64 (K : Int)):=ext_cell ((Grows.drew w1).cell hc1)
  have wsub : IntKind.i64.wrap ((b.length : Int) - (K : Int)) = ((b.length - K : Nat) : Int):=by simp [IntKind.wrap,IntKind.bits,IntKind.signed];omega
  have wcv : IntKind.u64.wrap ((b.length - K : Nat) : Int) = ((b.length - K : Nat) : Int):=by simp [IntKind.wrap,IntKind.bits,IntKind.signed];omega
  clear hR hK
  by_cases hbig : b.length - K < n
  ·have hbi : ((b.length - K : Nat) : Int) < n:=by omega
   have HRN : Hid (rdT (b.drop k) = none):=by show _ = _;rw [HR.out,if_neg (by rw [List.length_drop];omega)]
   clear HR
   go_wp2_with fail
   refine t_region (Grows) [(0,false),(1,false),(2,false),(3,false),(4,false),(5,false),(6,false),(7,false),(8,false),(9,false),(10,false),(11,false),(12,false)] Grows.refl Grows.trans (by kernel_rfl) (by kernel_rfl) (fun d _ _ _ _ h => by cases d <;> exact h) ?_
   iterate 13 (refine t_quiet rfl (fun K hK => ?_);go_simp;refine hK _ ?_;clear hK K)
   refine t_end ?_
   clear z0 z1
   go_wp2_with fail
   exact ⟨rfl,Or.inr ⟨HRN.out,rfl⟩,EB.trans _ _ _ _ heb (EB.of (Grows.drew w1) (Nat.le_trans (Nat.le_of_lt hrb) heb.2))⟩
  ·have hbi : ¬ ((b.length - K : Nat) : Int) < n:=by omega
   have HRS : Hid (rdT (b.drop k) = some (mkB ((b.drop K).take n),j + n)):=by show _ = _;rw [HR.out,if_pos (by rw [List.length_drop];omega)]
   clear HR
   go_wp2_with fail
   refine t_region (Grows) [(0,false),(1,false),(2,false),(3,false),(4,false),(5,false),(6,false),(7,false),(8,false),(9,false),(10,false),(11,false),(12,false)] Grows.refl Grows.trans (by kernel_rfl) (by kernel_rfl) (fun d _ _ _ _ h => by cases d <;> exact h) ?_
   iterate 13 (refine t_quiet rfl (fun K hK => ?_);go_simp;refine hK _ ?_;clear hK K)
   refine t_end ?_
   clear z0 z1
   have y0 : ∀ x : Ext Grows w1.drew.drew,x.u.cell? ⟨rb,0,none⟩ = some (.slice ba b.length bc):=ext_cell ((Grows.drew _).cell ((Grows.drew w1).cell hc0))
   have y1 : ∀ x : Ext Grows w1.drew.drew,x.u.cell? ⟨rb,1,none⟩ = some (.int .i64 (K : Int)):=ext_cell ((Grows.drew _).cell ((Grows.drew w1).cell hc1))
   have wn : IntKind.i64.wrap (n : Int) = n:=by simp [IntKind.wrap,IntKind.bits,IntKind.signed];omega
   have wa : IntKind.i64.wrap ((K : Int) + n) = ((K + n : Nat) : Int):=by simp [IntKind.wrap,IntKind.bits,IntKind.signed];omega
   go_wp2_with fail
   refine t_region (Grows) [(0,false),(1,false),(2,false),(3,false),(4,false),(5,false),(6,false),(7,false),(8,false),(9,false),(10,false),(11,false),(12,false),(13,false),(14,false),(15,false),(16,false),(17,false)] Grows.refl Grows.trans (by kernel_rfl) (by kernel_rfl) (fun d _ _ _ _ h => by cases d <;> exact h) ?_
   have h01 : (0 : Int) ≤ (K : Int) + n:=by omega
   have h02 : (K : Int) + n ≤ bc:=by omega
   have tn : ((K : Int) + n).toNat = K + n:=by omega
   have tk : K ≤ K + n:=by omega
   have tm : K + n - K = n:=by omega
   have HAT1 : AtCells w1 ba 1 (b.map byteC):=fun hne => by
    obtain ⟨bb,bo,e,hc⟩:=HAT.out hne
    have hlt:=HBA.out _ e (fun h0 => hne (by rw [h0];rfl))
    exact ⟨bb,bo,e,fun i row hi j v hj => (Below.cell heb.1 (by simpa using hlt)).trans (hc i row hi j v hj)⟩
   obtain ⟨a',hsl,hat',_⟩:=sliced_at (c:=bc) (l:=K) (h:=K + n) (k:=1) HAT1 HNC.out (by omega) (by omega) (by omega)
   rw [show K + n - K = n by omega] at hsl
   have hsl2 : (if bc = K then ba else Option.map (fun x => x.add K) ba) = a':=by
    unfold sliced at hsl
    by_cases hbk : bc = K
    ·rw [if_pos hbk] at hsl ⊢;exact (Value.slice.inj hsl).1
    ·rw [if_neg hbk] at hsl ⊢
     have:=(Value.slice.inj hsl).1
     rw [← this]
     congr 1
     funext x
     rw [Nat.mul_one]
   have hll : ((b.take (K + n)).drop K) = (b.drop K).take n:=by rw [List.take_drop]
   have hln : ((b.drop K).take n).length = n:=by rw [List.length_take,List.length_drop];omega
   rw [hll] at hat'
   have hcv : ∀ x : Ext Grows w1.drew.drew,(convert 28 9 (.slice a' n (bc - K))).run Tryz.prog x.u = .ok (.string (mkB ((b.drop K).take n))) x.u:=fun x => by
    have:=conv_at2 (c:=bc - K) (hat'.grows (Grows.trans _ _ _ (Grows.trans _ _ _ (Grows.drew w1) (Grows.drew _)) x.h))
    rw [hln] at this
    exact this
   generalize (b.drop K).take n = S at *
   iterate 18 (refine t_quiet rfl (fun K hK => ?_);go_simp;refine hK _ ?_;clear hK K)
   refine t_end ?_
   go_wp2_with fail
   go_ret
   refine ⟨Or.inl ⟨_,_,HRS.out,rfl, ?_⟩,EB.trans _ _ _ _ (EB.trans _ _ _ _ heb (⟨(Below.refl rb w1).setCell (p:=⟨rb,1,none⟩) (Nat.le_refl rb) _,by simp⟩ : EB rb w1 (w1.setCell ⟨rb,1,none⟩ (.int .i64 ((K : Int) + n))))) (EB.of ((Grows.drew _).dr) (by simp;exact Nat.le_trans (Nat.le_of_lt hrb) heb.2))⟩
   rw [show ((k + (j + n) : Nat) : Int) = (K : Int) + n by rw [HK.out];push_cast;omega]
   exact World.cell?_setCell_same _ _ _ hc1
structure RdBs (w : World) (s : Value) (k : Int) (W : World) : Prop where
 g : Grows w W
 sz : w.heap.size + 1 + 1 + 1 < W.heap.size
 c0 : W.cell? ⟨w.heap.size,0,none⟩ = some (.string ⟨#[]⟩)
 f0 : W.frozen? ⟨w.heap.size,0,none⟩ = false
 c1 : W.cell? ⟨w.heap.size + 1,0,none⟩ = some (.int .i64 0)
 f1 : W.frozen? ⟨w.heap.size + 1,0,none⟩ = false
 c2 : W.cell? ⟨w.heap.size + 1 + 1,0,none⟩ = some (.bool false)
 f2 : W.frozen? ⟨w.heap.size + 1 + 1,0,none⟩ = false
 r0 : W.cell? ⟨w.heap.size + 1 + 1 + 1,0,none⟩ = some s
 r1 : W.cell? ⟨w.heap.size + 1 + 1 + 1,1,none⟩ = some (.int .i64 k)
 rf : W.frozen? ⟨w.heap.size + 1 + 1 + 1,1,none⟩ = false
theorem rdBs (w : World) (s : Value) (k : Int) : RdBs w s k ((((w.alloc (.cells #[.string ⟨#[]⟩] 9)).alloc (.cells #[.int .i64 0] 3)).alloc (.cells #[.bool false] 4)).alloc (.cells #[s, .int .i64 k] 252)) := by
 have e1 : (w.alloc (.cells #[.string ⟨#[]⟩] 9)).heap.size = w.heap.size + 1:=by simp
 have e2 : ((w.alloc (.cells #[.string ⟨#[]⟩] 9)).alloc (.cells #[.int .i64 0] 3)).heap.size = w.heap.size + 1 + 1:=by simp
 have e3 : (((w.alloc (.cells #[.string ⟨#[]⟩] 9)).alloc (.cells #[.int .i64 0] 3)).alloc (.cells #[.bool false] 4)).heap.size = w.heap.size + 1 + 1 + 1:=by simp
 have b0:=box_cells2 (w:=w) (cs:=#[.string ⟨#[]⟩]) (t:=9) (w':=((((w.alloc (.cells #[.string ⟨#[]⟩] 9)).alloc (.cells #[.int .i64 0] 3)).alloc (.cells #[.bool false] 4)).alloc (.cells #[s,.int .i64 k] 252))) (((Grows.alloc _ _).al _).al _)
 have b1:=box_cells2 (w:=w.alloc (.cells #[.string ⟨#[]⟩] 9)) (cs:=#[.int .i64 0]) (t:=3) (w':=((((w.alloc (.cells #[.string ⟨#[]⟩] 9)).alloc (.cells #[.int .i64 0] 3)).alloc (.cells #[.bool false] 4)).alloc (.cells #[s,.int .i64 k] 252))) ((Grows.alloc _ _).al _)
 have b2:=box_cells2 (w:=(w.alloc (.cells #[.string ⟨#[]⟩] 9)).alloc (.cells #[.int .i64 0] 3)) (cs:=#[.bool false]) (t:=4) (w':=((((w.alloc (.cells #[.string ⟨#[]⟩] 9)).alloc (.cells #[.int .i64 0] 3)).alloc (.cells #[.bool false] 4)).alloc (.cells #[s,.int .i64 k] 252))) (Grows.alloc _ _)
 have b3:=box_cells2 (w:=((w.alloc (.cells #[.string ⟨#[]⟩] 9)).alloc (.cells #[.int .i64 0] 3)).alloc (.cells #[.bool false] 4)) (cs:=#[s,.int .i64 k]) (t:=252) (w':=((((w.alloc (.cells #[.string ⟨#[]⟩] 9)).alloc (.cells #[.int .i64 0] 3)).alloc (.cells #[.bool false] 4)).alloc (.cells #[s,.int .i64 k] 252))) (Grows.refl _)
 rw [e1] at b1
 rw [e2] at b2
 rw [e3] at b3
 exact ⟨(((Grows.alloc _ _).al _).al _).al _,by simp,b0.1 0 _ rfl,b0.2 0,b1.1 0 _ rfl,b1.2 0,b2.1 0 _ rfl,b2.2 0,b3.1 0 _ rfl,b3.1 1 _ rfl,b3.2 1⟩
set_option maxHeartbeats 4000000 in
set_option maxRecDepth 100000 in
theorem reads_any (b : List UInt8) (k : Nat) (ba : Option Addr) (bc : Nat) (w : World) (hk : k ≤ b.length) (hb : b.length ≤ 1099511627776) (hbc : b.length ≤ bc) (hnc : ba = none → bc = 0) (hat : AtCells w ba 1 (b.map byteC)) :
  Calls Tryz.prog 158 #[.slice ba b.length bc,.int .i64 k,.func (.func 159) #[] #[]] w fun e w' => e = .returned (textR k (rdT (b.drop k)))∧Grows w w':=by
 have hmf : ∀ (fn : Fn) (first cap : Array Value) (w : World),(Instr.makeFunc fn first cap).run Tryz.prog w = .ok (.func fn first cap) w:=fun _ _ _ _ => rfl
 have hk0 : ¬ (k : Int) < 0:=by omega
 have HAT:=Lib.hid hat
 have HBA : Hid (∀ q : Addr,ba = some q → b ≠ [] → q.block < w.heap.size):=fun q hq hne => by
  obtain ⟨x,hx⟩ : ∃ x,b[0]? = some x:=⟨_,List.getElem?_eq_getElem (List.length_pos_iff.2 hne)⟩
  obtain ⟨bb,bo,e,hbc⟩:=hat.get hne
  rw [e] at hq
  cases hq
  exact World.block_lt_of_cell? _ _ (hbc 0 x hx 0 _ rfl)
 obtain ⟨R,hR⟩ : ∃ R,R = rdT (b.drop k):=⟨_,rfl⟩
 have HR:=Lib.hid hR
 rw [← hR]
 clear hR hat
 go_enter_defers Tryz.func158,Tryz.ntmps158
 go_wp2_with fail
 have hB:=rdBs w (.slice ba b.length bc) k
 generalize ((((w.alloc (.cells #[Value.string ⟨#[]⟩] 9)).alloc (.cells #[.int .i64 0] 3)).alloc (.cells #[.bool false] 4)).alloc (.cells #[Value.slice ba b.length bc,.int .i64 k] 252)) = W4 at *
 refine (rdt_any b _ k ba bc W4 hk hb hbc hnc (HAT.out.grows hB.g) (fun q hq hne => Nat.lt_trans (HBA.out q hq hne) (by omega)) hB.r0 hB.r1 hB.rf).mono ?_
 rintro e w5 ⟨hres,heb⟩
 rw [← HR.out] at hres
 have hs5:=heb.2
 have hsz:=hB.sz
 have c0 : w5.cell? ⟨w.heap.size,0,none⟩ = _:=(Below.cell heb.1 (by simp only;omega)).trans hB.c0
 have c1 : w5.cell? ⟨w.heap.size + 1,0,none⟩ = _:=(Below.cell heb.1 (by simp only;omega)).trans hB.c1
 have c2 : w5.cell? ⟨w.heap.size + 1 + 1,0,none⟩ = _:=(Below.cell heb.1 (by simp only;omega)).trans hB.c2
 have f0 : w5.frozen? ⟨w.heap.size,0,none⟩ = _:=(Below.frozen heb.1 (by simp only;omega)).trans hB.f0
 have f1 : w5.frozen? ⟨w.heap.size + 1,0,none⟩ = _:=(Below.frozen heb.1 (by simp only;omega)).trans hB.f1
 have f2 : w5.frozen? ⟨w.heap.size + 1 + 1,0,none⟩ = _:=(Below.frozen heb.1 (by simp only;omega)).trans hB.f2
 have hg5 : Grows w w5:=eb_grows2 hB.g heb (by omega)
 rcases hres with ⟨v,n,rfl,rfl,hc⟩ | ⟨rfl,rfl⟩
 ·have g0 : (w5.setCell ⟨w.heap.size,0,none⟩ (.string v)).cell? ⟨w.heap.size,0,none⟩ = some (.string v):=World.cell?_setCell_same _ _ _ c0
  have g1 : (w5.setCell ⟨w.heap.size,0,none⟩ (.string v)).cell? ⟨w.heap.size + 1,0,none⟩ = some (.int .i64 0):=(World.cell?_setCell_other _ _ _ _ (fun e => by have:=congrArg Addr.block e;simp only at this;omega)).trans c1
  have g2 : (w5.setCell ⟨w.heap.size,0,none⟩ (.string v)).cell? ⟨w.heap.size + 1 + 1,0,none⟩ = some (.bool false):=(World.cell?_setCell_other _ _ _ _ (fun e => by have:=congrArg Addr.block e;simp only at this;omega)).trans c2
  have g3 : (w5.setCell ⟨w.heap.size,0,none⟩ (.string v)).cell? ⟨w.heap.size + 1 + 1 + 1,1,none⟩ = some (.int .i64 ((k + n : Nat) : Int)):=(World.cell?_setCell_other _ _ _ _ (fun e => by have:=congrArg Addr.block e;simp only at this;omega)).trans hc
  have gg : ∀ j,j = w.heap.size ∨ j = w.heap.size + 1 ∨ j = w.heap.size + 1 + 1 → (w5.setCell ⟨w.heap.size,0,none⟩ (.string v)).frozen? ⟨j,0,none⟩ = false:=fun j hj => by
   rw [World.frozen?_setCell]
   rcases hj with rfl | rfl | rfl
   ·exact f0
   ·exact f1
   ·exact f2
  obtain ⟨K,hK2⟩ : ∃ K,K = k + n:=⟨_,rfl⟩
  rw [← hK2] at g3 hc
  have HK2:=Lib.hid hK2
  clear hK2
  have hgp : Grows w (w5.setCell ⟨w.heap.size,0,none⟩ (.string v)):=hg5.set (by simp only;omega) _
  have hsp : w.heap.size + 1 + 1 + 1 < (w5.setCell ⟨w.heap.size,0,none⟩ (.string v)).heap.size:=by simp;omega
  clear HR hB heb c1 c2 f1 f2 hc hg5
  go_wp2_with fail
  clear c0 f0
  generalize (w5.setCell ⟨w.heap.size,0,none⟩ (.string v)) = w6 at *
  have z0 : ∀ x : Ext (ES w.heap.size (.string v)) w6.drew,x.u.cell? ⟨w.heap.size,0,none⟩ = some (.string v):=fun x => x.h.2.2.2.1 ((Grows.drew _).cell g0)
  have z3 : ∀ x : Ext (ES w.heap.size (.string v)) w6.drew,x.u.cell? ⟨w.heap.size + 1 + 1 + 1,1,none⟩ = some (.int .i64 (K : Int)):=fun x => x.h.2.1 _ _ (by simp only;omega) ((Grows.drew _).cell g3)
  have x0 : w6.drew.cell? ⟨w.heap.size,0,none⟩ = some (.string v):=g0
  have xf : w6.drew.frozen? ⟨w.heap.size,0,none⟩ = false:=gg _ (Or.inl rfl)
  refine wp_onlyN ?_
  refine t_tail (ES w.heap.size (.string v)) 6 [(0,false),(1,false),(2,false),(3,false),(4,false),(5,true)] (ES.refl _ _) (ES.trans _ _) (by kernel_rfl) (by kernel_rfl) (fun _ _ _ _ _ h => h) ?_
  iterate 5 (refine t_quiet rfl (fun K hK => ?_);go_simp;refine hK _ ?_;clear hK K)
  refine t_late rfl rfl (fun K hK => ?_)
  go_simp
  refine ⟨ES.put x0,hK _ _ ?_⟩
  clear hK K
  refine t_end ?_
  simp only [List.drop_succ_cons,List.drop_zero]
  clear z0 z3
  have n0:=g0
  have y0 : (w6.setCell ⟨w.heap.size,0,none⟩ (.string v)).cell? ⟨w.heap.size,0,none⟩ = some (.string v):=World.cell?_setCell_same _ _ _ g0
  have y1 : (w6.setCell ⟨w.heap.size,0,none⟩ (.string v)).cell? ⟨w.heap.size + 1,0,none⟩ = some (.int .i64 0):=(World.cell?_setCell_other _ _ _ _ (fun e => by have:=congrArg Addr.block e;simp only at this;omega)).trans g1
  have y2 : (w6.setCell ⟨w.heap.size,0,none⟩ (.string v)).cell? ⟨w.heap.size + 1 + 1,0,none⟩ = some (.bool false):=(World.cell?_setCell_other _ _ _ _ (fun e => by have:=congrArg Addr.block e;simp only at this;omega)).trans g2
  have yg : Grows w (w6.setCell ⟨w.heap.size,0,none⟩ (.string v)):=hgp.set (by simp only;omega) _
  have yf1 : (w6.setCell ⟨w.heap.size,0,none⟩ (.string v)).frozen? ⟨w.heap.size + 1,0,none⟩ = false:=(World.frozen?_setCell _ _ _ _).trans (gg _ (Or.inr (Or.inl rfl)))
  have yf2 : (w6.setCell ⟨w.heap.size,0,none⟩ (.string v)).frozen? ⟨w.heap.size + 1 + 1,0,none⟩ = false:=(World.frozen?_setCell _ _ _ _).trans (gg _ (Or.inr (Or.inr rfl)))
  clear x0 xf g0 g1 g2 g3 gg n0
  generalize w6.setCell ⟨w.heap.size,0,none⟩ (.string v) = w7 at *
  have k1 : ((w7.setCell ⟨w.heap.size + 1,0,none⟩ (.int .i64 K)).setCell ⟨w.heap.size + 1 + 1,0,none⟩ (.bool true)).drew.cell? ⟨w.heap.size + 1,0,none⟩ = some (.int .i64 K):=by
   refine (World.cell?_setCell_other _ _ _ _ (fun e => by have:=congrArg Addr.block e;simp only at this;omega)).trans ?_
   exact World.cell?_setCell_same _ _ _ y1
  have y2' : (w7.setCell ⟨w.heap.size + 1,0,none⟩ (.int .i64 K)).cell? ⟨w.heap.size + 1 + 1,0,none⟩ = some (.bool false):=by
   rw [World.cell?_setCell_other _ _ _ _ (fun e => by have:=congrArg Addr.block e;simp only at this;omega)]
   exact y2
  have k2 : ((w7.setCell ⟨w.heap.size + 1,0,none⟩ (.int .i64 K)).setCell ⟨w.heap.size + 1 + 1,0,none⟩ (.bool true)).drew.cell? ⟨w.heap.size + 1 + 1,0,none⟩ = some (.bool true):=World.cell?_setCell_same _ _ _ y2'
  have k0 : ((w7.setCell ⟨w.heap.size + 1,0,none⟩ (.int .i64 K)).setCell ⟨w.heap.size + 1 + 1,0,none⟩ (.bool true)).drew.cell? ⟨w.heap.size,0,none⟩ = some (.string v):=by
   refine (World.cell?_setCell_other _ _ _ _ (fun e => by have:=congrArg Addr.block e;simp only at this;omega)).trans ?_
   refine (World.cell?_setCell_other _ _ _ _ (fun e => by have:=congrArg Addr.block e;simp only at this;omega)).trans ?_
   exact y0
  have kg : Grows w ((w7.setCell ⟨w.heap.size + 1,0,none⟩ (.int .i64 K)).setCell ⟨w.heap.size + 1 + 1,0,none⟩ (.bool true)).drew:=((yg.set (by simp only;omega) _).set (by simp only;omega) _).dr
  go_wp2_with fail
  simp only [onlyN_normal]
  go_wp2_with fail
  refine leaves_cons (f:=204) (args:=#[.pointer (some ⟨w.heap.size,0,none⟩),.pointer (some ⟨w.heap.size + 1,0,none⟩),.pointer (some ⟨w.heap.size + 1 + 1,0,none⟩)]) (by simp) (by simp [go_sem]) ?_
  refine (rdcs_ret _ _ _ _).mono ?_
  rintro e u' w'' ⟨rfl,rfl,rfl⟩
  show Leaves _ _ _ _ _ _ _
  simp only [settle]
  refine ⟨.tuple #[.string v,.int .i64 K,.bool true], ?_,by rw [HK2.out];rfl,kg⟩
  simp [results,Tryz.results158,go_sem,k0,k1,k2]
 ·clear HR hB heb
  go_wp2_with fail
  refine leaves_cons (f:=204) (args:=#[.pointer (some ⟨w.heap.size,0,none⟩),.pointer (some ⟨w.heap.size + 1,0,none⟩),.pointer (some ⟨w.heap.size + 1 + 1,0,none⟩)]) (by simp) (by simp [go_sem]) ?_
  refine (rdcs_panic w.heap.size (w.heap.size + 1) (w.heap.size + 1 + 1) w5 [] _ _ _ c0 c1 c2 f0 f1 f2 (by omega) (by omega) (by omega) w.heap.size (by omega) (by omega) (by omega)).mono ?_
  rintro e u' w'' ⟨rfl,rfl,k0,k1,k2,heb6⟩
  have kg : Grows w w'':=EB.grows hg5 heb6
  show Leaves _ _ _ _ _ _ _
  simp only [settle]
  refine ⟨.tuple #[.string ⟨#[]⟩,.int .i64 0,.bool false], ?_,rfl,kg⟩
  simp [results,Tryz.results158,go_sem,k0,k1,k2]
set_option maxHeartbeats 2000000 in
set_option maxRecDepth 100000 in
theorem text_any12 (b : List UInt8) (k : Nat) (ba : Option Addr) (bc : Nat) (w : World) (hk : k ≤ b.length) (hb : b.length ≤ 1099511627776) (hbc : b.length ≤ bc) (hnc : ba = none → bc = 0) (hat : AtCells w ba 1 (b.map byteC)) :
  Calls Tryz.prog 105 #[.slice ba b.length bc,.int .i64 k] w fun e w' => e = .returned (textR k (rdT (b.drop k)))∧Grows w w':=by
 have CR:=Lib.hid (reads_any b k ba bc w hk hb hbc hnc hat)
 cases hR : rdT (b.drop k) with
 | none =>
  rw [hR] at CR
  unfold textR at CR ⊢
  clear hR hat
  go_enter Tryz.func105,Tryz.ntmps105
  go_wp2_with fail
  refine CR.out.mono ?_
  rintro e w1 ⟨rfl,hg⟩
  go_wp2_with fail
  go_ret3
  exact ⟨rfl,hg⟩
 | some x =>
  obtain ⟨v,n⟩:=x
  rw [hR] at CR
  unfold textR at CR ⊢
  obtain ⟨K,hK⟩ : ∃ K,K = k + n:=⟨_,rfl⟩
  simp only [← hK] at CR ⊢
  clear hR hat hK
  go_enter Tryz.func105,Tryz.ntmps105
  go_wp2_with fail
  refine CR.out.mono ?_
  rintro e w1 ⟨rfl,hg⟩
  go_wp2_with fail
  go_ret3
  exact ⟨rfl,hg⟩
end Go.Proofs.YtepoiefadjoabaaGreatDoor
namespace Go.Proofs.YtepoiefadjoabaaGreatDoor
open Go Go.RowKit
attribute [local go_sem] quietE
end Go.Proofs.YtepoiefadjoabaaGreatDoor
namespace Go.Proofs.YtepoiefadjoabaaGreatDoor
open Go
end Go.Proofs.YtepoiefadjoabaaGreatDoor
namespace Go.Proofs.YtepoiefadjoabaaGreatDoor
open Go Go.RowKit
attribute [local go_sem] quietE
end Go.Proofs.YtepoiefadjoabaaGreatDoor
