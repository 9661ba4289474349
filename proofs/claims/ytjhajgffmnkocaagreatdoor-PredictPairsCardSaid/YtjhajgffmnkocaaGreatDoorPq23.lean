/- The texts RefS Src RdS CutV OpenSrc, one behind the other. -/
import Derived.Test.YtjhajgffmnkocaaGreatDoorPq2
import Derived.Test.YtjhajgffmnkocaaGreatDoorPq20
import Derived.Test.YtjhajgffmnkocaaGreatDoorPq8
import Derived.Test.YtjhajgffmnkocaaGreatDoorPq1
import Derived.Test.YtjhajgffmnkocaaGreatDoorPq15
import Derived.Test.YtjhajgffmnkocaaGreatDoorPq12
import Derived.Test.YtjhajgffmnkocaaGreatDoorPq21
open Go.World renaming cell?_setCell_other → Aa,cell?_setCell_same → Ab,block_lt_of_cell? → Ad,frozen?_setCell → Ag
open List renaming getElem?_eq_getElem → Ac,length_drop → Ah,drop_succ_cons → Al,drop_length → Am,drop_zero → Ap
open Go.Lib renaming hid → Ae
open Go.Addr renaming block → Af
open Go.IntKind renaming signed → Ai,wrap → Aj,bits → Ak
open Nat renaming zero_le → An,le_trans → Aq,le_of_lt → Ar,le_refl → As,mul_one → At
open Array renaming replicate → Ao
open Option renaming map → Au
set_option maxHeartbeats 4000000
namespace Go.Proofs.YtjhajgffmnkocaaGreatDoor
set_option maxRecDepth 100000
section
open Go Go.RowKit
attribute [local go_sem] aO
end
section
open Go Go.RowKit
attribute [local go_sem] aO aM
structure dC0 where
 p:List cY
 d:Int
 s:List iE1
 e:List En
structure gQ0 where
 pa:Option Addr
 pc:Nat
 sa:Option Addr
 sc:Nat
 ea:Option Addr
 ec:Nat
def gQ0.cells (a:gQ0) (x:dC0):Array Value := #[.slice a.pa x.p.length a.pc,.int .i64 x.d,.slice a.sa x.s.length a.sc,.slice a.ea x.e.length a.ec]
def gQ0.agg (a:gQ0) (x:dC0):Value := .agg (a.cells x)
structure hH0 (w:World) (a:gQ0) (x:dC0):Prop where
 p:aG w a.pa 2 (x.p.map cB)
 s:aG w a.sa 3 (x.s.map mR1)
 e:aG w a.ea 5 (x.e.map bF)
theorem hH0.grows {w w':World} {a:gQ0} {x:dC0} (h:hH0 w a x) (hg:aB w w'):hH0 w' a x:=⟨h.p.grows hg,h.s.grows hg,h.e.grows hg⟩
structure lS0 (x:dC0):Prop where
 p:∀y∈x.p,y.name.size<=maxLen
 s:∀y∈x.s,WfI y.c
 e:∀y∈x.e,tS y
 d:WfI x.d
 lp:x.p.length<=140737488355328
 ls:x.s.length<=140737488355328
 le:x.e.length<=140737488355328
def vH0 (y:cY):Bool:=decide (400<y.name.size)
def qY0 (y:En):Bool:=decide (400<y.r.size)||decide (400<y.s.size)
def nY (x:dC0):Bool := !x.p.any vH0 && !x.e.any qY0&&decide (x.p.length<=70)&&decide (x.s.length<=300)&&decide (x.e.length<=300)
theorem kE0 {x:dC0} (h:nY x=true):(∀y∈x.p,y.name.size<=400)/\(∀y∈x.e,y.r.size<=400/\y.s.size<=400)/\x.p.length<=70/\x.s.length<=300/\x.e.length<=300:=by
 unfold nY at h;simp only[Bool.and_eq_true,Bool.not_eq_true',decide_eq_true_eq,List.any_eq_false]at h;obtain⟨⟨⟨⟨h1,h2⟩,h3⟩,h4⟩,h5⟩:=h;refine⟨λy hy=>?_,λy hy=>?_,h3,h4,h5⟩
 ·have:=h1 y hy;unfold vH0 at this;simp at this;exact this
 ·have:=h2 y hy;unfold qY0 at this;simp at this;exact this
theorem vQ0 {α:Type} {f:α->Bool} {l:List α} {k:Nat} {x:α} (h:l[k]?=some x):(l.drop k).any f=(f x||(l.drop (k+1)).any f):=by
 obtain⟨hk,rfl⟩:=List.getElem?_eq_some_iff.1 h;rw[List.drop_eq_getElem_cons hk,List.any_cons]
def dL0 (x:dC0):Option Mx:=if vW0 x.p.length x.d then some (runSets (newM x.p.length x.d) x.s) else none
theorem wK0 (x:dC0) (A:gQ0) (w:World) (ag:lS0 x) (ac:hH0 w A x) :
  Calls Tryz.prog 26 #[A.agg x] w λe w'=>e=.returned (.bool (nY x))/\aB w w':=by
 have hlp:=ag.lp;have gv:=ag.le;have hls:=ag.ls;clear ag;obtain⟨pa,pc,sa,sc,ea,ec⟩:=A;obtain⟨xp,xd,xs,xe⟩:=x;try replace hlp:xp.length<=140737488355328:=hlp
 try replace hls:xs.length<=140737488355328:=hls
 try replace gv:xe.length<=140737488355328:=gv
 obtain⟨W0,dh⟩:=exq (w.alloc (.cells #[.slice pa xp.length pc,.int .i64 xd,.slice sa xs.length sc,.slice ea xe.length ec] 26));have et:aB w W0:=by rw[dh];exact aB.alloc _ _
 have er:=λj u h=>aT w #[.slice pa xp.length pc,.int .i64 xd,.slice sa xs.length sc,.slice ea xe.length ec] 26 (0,0) j u h;rw[<-dh]at er;have q0:=er 0 _ rfl;have q1:=er 1 _ rfl;have q2:=er 2 _ rfl;have q3:=er 3 _ rfl;have HQ:=Ae (And.intro q0 (And.intro q1 (And.intro q2 q3)));have HP:Hid (aG W0 pa 2 (xp.map cB)):=ac.p.grows et;have HS:Hid (aG W0 sa 3 (xs.map mR1)):=ac.s.grows et;have HE:Hid (aG W0 ea 5 (xe.map bF)):=ac.e.grows et;have HG0:=Ae et;clear er ac et;show Calls _ _ #[.agg #[.slice pa xp.length pc,.int .i64 xd,.slice sa xs.length sc,.slice ea xe.length ec]] _ _
 have HL:Hid (nY ⟨xp,xd,xs,xe⟩=(!xp.any vH0 && !xe.any qY0&&decide (xp.length<=70)&&decide (xs.length<=300)&&decide (xe.length<=300))):=rfl;obtain⟨LB,hLB⟩:=exq (nY ⟨xp,xd,xs,xe⟩);rw[<-hLB]at HL ⊢;clear hLB q1 q2 q3;go_enter Tryz.func26,Tryz.ntmps26
 go_wp2_with fail
 rw[<-dh];clear dh;go_loopw [3] (λi wr=>∃(k:Nat),k<=xp.length/\i=.int .i64 k/\Hid ((xp.drop k).any vH0=xp.any vH0)/\wr=W0) (λi _=>xp.length-(intOf i).toNat)
 case atStart=>exact⟨0,An _,rfl,rfl,rfl⟩
 case round =>
  obtain⟨k,hk,rfl,hF,rfl⟩:=hrel;by_cases af:k<xp.length
  ·obtain⟨⟨yn,yk⟩,hx⟩:∃y,xp[k]?=some y:=⟨_,Ac af⟩
   obtain⟨ba,oa,rfl,bz⟩:=HP.out.get (aJ af);have c0:wr.cell? ⟨ba,oa+k*2,none⟩=some (.string yn):=bz k _ hx 0 _ rfl;have cz:(k:Int)<xp.length:=by omega
   have HD:=Ae (vQ0 (f:=vH0) hx);rw[hF.out]at HD;clear bz hx hF;by_cases hb:400<yn.size
   ·have q8:(400:Int)<yn.size:=by omega
    have HX:Hid (xp.any vH0=true):=by show _=_;rw[HD.out];unfold vH0;simp[hb]
    clear HD hb;go_wp2_with fail
    go_ret;exact⟨by rw[HL.out,HX.out];rfl,HG0.out⟩
   ·have q8:¬(400:Int)<yn.size:=by omega
    have HX:Hid ((xp.drop (k+1)).any vH0=xp.any vH0):=by show _=_;rw[HD.out];unfold vH0;simp[hb]
    clear HD hb;go_wp2_with fail
    go_roundw
    case rel=>exact⟨k+1,af,by go_num,HX,trivial⟩
    case measure=>simp[intOf];omega
  ·obtain rfl:k=xp.length:=by omega
   have HPA:Hid (xp.any vH0=false):=by show _=_;rw[<-hF.out,Am];rfl
   have q3:=HQ.out.2.2.2;clear hF;go_wp2_with fail
   go_loopw [4] (λi wx=>∃(k:Nat),k<=xe.length/\i=.int .i64 k/\Hid ((xe.drop k).any qY0=xe.any qY0)/\wx=wr) (λi _=>xe.length-(intOf i).toNat)
   case atStart=>exact⟨0,An _,rfl,rfl,rfl⟩
   case round =>
    obtain⟨k,hk,rfl,hF,rfl⟩:=hrel;by_cases af:k<xe.length
    ·obtain⟨⟨yr,ys,yl,yt,yc⟩,hx⟩:∃y,xe[k]?=some y:=⟨_,Ac af⟩
     obtain⟨ba,oa,rfl,bz⟩:=HE.out.get (aJ af);have c0:wr.cell? ⟨ba,oa+k*5,none⟩=some (.string yr):=bz k _ hx 0 _ rfl;have c1:wr.cell? ⟨ba,oa+k*5+1,none⟩=some (.string ys):=bz k _ hx 1 _ rfl;have cz:(k:Int)<xe.length:=by omega
     have HD:=Ae (vQ0 (f:=qY0) hx);rw[hF.out]at HD;clear bz hx hF;by_cases hb:400<yr.size
     ·have q8:(400:Int)<yr.size:=by omega
      have HX:Hid (xe.any qY0=true):=by show _=_;rw[HD.out];unfold qY0;simp[hb]
      clear HD hb;go_wp2_with fail
      go_ret;exact⟨by rw[HL.out,HX.out];simp,HG0.out⟩
     ·have q8:¬(400:Int)<yr.size:=by omega
      by_cases dn:400<ys.size
      ·have ag2:(400:Int)<ys.size:=by omega
       have HX:Hid (xe.any qY0=true):=by show _=_;rw[HD.out];unfold qY0;simp[dn]
       clear HD hb dn;go_wp2_with fail
       go_ret;exact⟨by rw[HL.out,HX.out];simp,HG0.out⟩
      ·have ag2:¬(400:Int)<ys.size:=by omega
       have HX:Hid ((xe.drop (k+1)).any qY0=xe.any qY0):=by show _=_;rw[HD.out];unfold qY0;simp[hb,dn]
       clear HD hb dn;go_wp2_with fail
       go_roundw
       case rel=>exact⟨k+1,af,by go_num,HX,trivial⟩
       case measure=>simp[intOf];omega
    ·obtain rfl:k=xe.length:=by omega
     have HEA:Hid (xe.any qY0=false):=by show _=_;rw[<-hF.out,Am];rfl
     have q2:=HQ.out.2.2.1;have e1:decide ((xp.length:Int)<=70)=decide (xp.length<=70):=decide_eq_decide.2 (by omega);have e2:decide ((xs.length:Int)<=300)=decide (xs.length<=300):=decide_eq_decide.2 (by omega);have e3:decide ((xe.length:Int)<=300)=decide (xe.length<=300):=decide_eq_decide.2 (by omega);have HL2:Hid (LB=(decide ((xp.length:Int)<=70)&&decide ((xs.length:Int)<=300)&&decide ((xe.length:Int)<=300))):=by show _=_;rw[HL.out,HPA.out,HEA.out,e1,e2,e3];simp
     clear hF e1 e2 e3 af;by_cases h1:(xp.length:Int)<=70
     ·by_cases h2:(xs.length:Int)<=300
      ·go_wp2_with fail
       go_ret;exact⟨by rw[HL2.out];simp[h1,h2],HG0.out⟩
      ·go_wp2_with fail
       go_ret;exact⟨by rw[HL2.out];simp;omega,HG0.out⟩
     ·go_wp2_with fail
      go_ret;exact⟨by rw[HL2.out];simp;omega,HG0.out⟩
theorem rW0 (x:dC0) (A:gQ0) (w:World) (ag:lS0 x) (ac:hH0 w A x) :
  Calls Tryz.prog 54 #[A.agg x] w λe w'=>∃v,e=.returned v/\eR1 w' v (dL0 x)/\aB w w':=by
 have HOS:=Ae ag.s;have hlp:=ag.lp;have hls:=ag.ls;clear ag;obtain⟨pa,pc,sa,sc,ea,ec⟩:=A;obtain⟨xp,xd,xs,xe⟩:=x;try replace hlp:xp.length<=140737488355328:=hlp
 try replace hls:xs.length<=140737488355328:=hls
 try replace gv:xe.length<=140737488355328:=gv
 obtain⟨W0,dh⟩:=exq (w.alloc (.cells #[.slice pa xp.length pc,.int .i64 xd,.slice sa xs.length sc,.slice ea xe.length ec] 26));have et:aB w W0:=by rw[dh];exact aB.alloc _ _
 have er:=λj u h=>aT w #[.slice pa xp.length pc,.int .i64 xd,.slice sa xs.length sc,.slice ea xe.length ec] 26 (0,0) j u h;rw[<-dh]at er;have q0:=er 0 _ rfl;have q1:=er 1 _ rfl;have q2:=er 2 _ rfl;have q3:=er 3 _ rfl;have HQ:=Ae (And.intro q0 (And.intro q1 (And.intro q2 q3)));have HP:Hid (aG W0 pa 2 (xp.map cB)):=ac.p.grows et;have HS:Hid (aG W0 sa 3 (xs.map mR1)):=ac.s.grows et;have HE:Hid (aG W0 ea 5 (xe.map bF)):=ac.e.grows et;have HG0:=Ae et;clear er ac et;show Calls _ _ #[.agg #[.slice pa xp.length pc,.int .i64 xd,.slice sa xs.length sc,.slice ea xe.length ec]] _ _
 have HSM:Hid (dL0 ⟨xp,xd,xs,xe⟩=if vW0 xp.length xd then some (runSets (newM xp.length xd) xs) else none):=rfl
 obtain⟨SM,hSM⟩:=exq (dL0 ⟨xp,xd,xs,xe⟩);rw[<-hSM]at HSM ⊢;clear hSM q2 q3;replace HOS:Hid (∀y∈xs,WfI y.c):=HOS;go_enter Tryz.func54,Tryz.ntmps54
 cases lh:vW0 xp.length xd with
 | false =>
  rw[lh]at HSM;go_wp2_with fail
  rw[<-dh];clear dh;refine(xQ0 xp.length xd _ lh).mono ?_;rintro e w1 ⟨rfl,rfl⟩;go_wp2_with fail
  go_ret;exact⟨_,rfl,by rw[HSM.out];rfl,HG0.out⟩
 | true =>
  rw[lh]at HSM;replace HSM:Hid (SM=some (runSets (newM xp.length xd) xs)):=HSM;go_wp2_with fail
  rw[<-dh];clear dh;refine(zG0 xp.length xd _ lh).mono ?_;rintro e w1 ⟨rfl,pz,ai⟩;clear q0 q1;go_wp2_with fail
  go_loopw [5] (λi wr=>∃(k:Nat),k<=xs.length/\i=.int .i64 k/\gF wr (W0.heap.size+1) W0.heap.size (runSets (newM xp.length xd) (xs.take k))/\aB W0 wr) (λi _=>xs.length-(intOf i).toNat)
  case atStart=>exact⟨0,An _,rfl,pz,ai⟩
  case round =>
  obtain⟨k,hk,rfl,hm,hg⟩:=hrel;clear pz ai;by_cases af:k<xs.length
  ·obtain⟨⟨sr,sl,sq⟩,hs⟩:∃s,xs[k]?=some s:=⟨_,Ac af⟩
   have hsq:WfI sq:=HOS.out _ (List.mem_of_getElem? hs);have HT:=Ae (iW0 (m:=newM xp.length xd) hs);obtain⟨lb,lo,rfl,cr⟩:=HS.out.get (aJ af);have cz:(k:Int)<xs.length:=by omega
   have b2:=hg.cell HQ.out.2.2.1;have z2:∀x:Ext aB wr.drew,x.u.cell? ⟨w.heap.size,2,none⟩=some (.slice (some ⟨lb,lo,none⟩) xs.length sc):=aF (hg.dr.cell HQ.out.2.2.1);have y0:∀x:Ext aB wr.drew,x.u.cell? ⟨lb,lo+k*3,none⟩=some (.int .i64 sr):=aF (hg.dr.cell (cr k _ hs 0 _ rfl));have y1:∀x:Ext aB wr.drew,x.u.cell? ⟨lb,lo+k*3+1,none⟩=some (.int .i64 sl):=aF (hg.dr.cell (cr k _ hs 1 _ rfl));have y2:∀x:Ext aB wr.drew,x.u.cell? ⟨lb,lo+k*3+2,none⟩=some (.int .i64 sq):=aF (hg.dr.cell (cr k _ hs 2 _ rfl));clear cr hs;generalize runSets (newM xp.length xd) (xs.take k)=M1 at *;go_wp2_with fail
   refine oV 19 (bE 19 []) (by kernel_rfl) (λd _ _ _ _ h=>by cases d<;>exact h) ?_
   iterate 19 (refine aH rfl (λK hK=>?_);go_simp;refine hK _ ?_;clear hK K)
   refine bN ?_;simp only[Al,Ap];clear z2 y0 y1 y2 b2;have hSV:=bP1 wr.drew _ _ _ (hm.grows (aB.drew wr)) sr sl sq hsq;go_wp2_with fail
   refine hSV.mono ?_;rintro e w4 ⟨rfl,hm4,cu⟩;have ki:aB W0 w4:=hg.dr.grown cu (λq hq=>by cases hq;exact As _);go_wp2_with fail
   go_roundw
   case rel=>exact⟨k+1,af,by go_num,by rw[HT.out];exact hm4,ki⟩
   case measure=>simp[intOf];omega
  ·obtain rfl:k=xs.length:=by omega
   rw[List.take_length]at hm;have b2:=hg.cell HQ.out.2.2.1;go_wp2_with fail
   go_ret;refine⟨_,rfl,?_,aB.trans _ _ _ HG0.out hg⟩;rw[HSM.out];exact⟨_,_,rfl,hm⟩
theorem rW {w:World} {a:Option Addr} {c:Nat} {l:List UInt8} (h:aG w a 1 (l.map aV)):(convert 67 9 (.slice a l.length c)).run Tryz.prog w=.ok (.string (mkB l)) w:=by
 cases l with
 | nil =>
  rw[run_convert_bytes_string w 67 9 5 a ([]:List UInt8).length c Tryz.underlying67 Tryz.underlying5 Tryz.underlying9];cases a<;>(simp[Conv.bytesToString];rfl)
 | cons x r =>
  obtain⟨b,o,rfl,hc⟩:=h.get (by simp);generalize hL:x::r=L at *;have hz:(mkB L).size=L.length:=by rw[Lib.size_eq,iR]
  have hB:Lib.Bytes w b o (mkB L):=λi hi=>by
   rw[hz]at hi;have h1:=hc i L[i] (by simp_all) 0 _ rfl;have hg:(mkB L)[i]'(by rw[hz];exact hi)=L[i]:=rfl;simp_all
  have:=Lib.run_convert_whole (P:=Tryz.prog) w 67 5 9 Tryz.underlying67 Tryz.underlying5 Tryz.underlying9 b o (mkB L) hB c
  rw[hz]at this;exact this
def rdT (l:List UInt8):Option (ByteArray×Nat):=match rdU l with
 | none=>none
 | some (n,j)=>if n<=(l.drop j).length then some (mkB ((l.drop j).take n),j+n) else none
def sA0 (k:Nat):Option (ByteArray×Nat)->Value
 | some (v,n) => .tuple #[.string v,.int .i64 ((k+n:Nat):Int),.bool true]
 | none => .tuple #[.string ⟨#[]⟩,.int .i64 0,.bool false]
def kU1 (R:Option (ByteArray×Nat)) (rb k:Nat) (w:World) (e:Ending) (w':World):Prop :=
 ((∃v n,R=some (v,n)/\e=.returned (.string v)/\w'.cell? ⟨rb,1,none⟩=some (.int .i64 ((k+n:Nat):Int)))\/(R=none/\e=.panicked [{ v:=lA0,recovered:=false }]))/\EB rb w w'
theorem rX0 (p0 p1 p2:Nat) (w:World) (ox:List PanicEntry) (v0 v1 v2:Value) (c0:w.cell? ⟨p0,0,none⟩=some v0) (c1:w.cell? ⟨p1,0,none⟩=some v1) (c2:w.cell? ⟨p2,0,none⟩=some v2)
  (f0:w.frozen? ⟨p0,0,none⟩=false) (f1:w.frozen? ⟨p1,0,none⟩=false) (f2:w.frozen? ⟨p2,0,none⟩=false) (n01:p0≠p1) (n02:p0≠p2) (n12:p1≠p2) (B:Nat) (qe:B<=p0) (qg:B<=p1) (lg:B<=p2) :
  CallsD Tryz.prog 230 #[.pointer (some ⟨p0,0,none⟩),.pointer (some ⟨p1,0,none⟩),.pointer (some ⟨p2,0,none⟩)] (.panicking ({ v:=lA0,recovered:=false }::ox)) w λe u' w' =>
   e=.returned (.tuple #[])/\u' = .panicking ({ v:=lA0,recovered:=true }::ox)/\w'.cell? ⟨p0,0,none⟩=some (.string ⟨#[]⟩)/\w'.cell? ⟨p1,0,none⟩=some (.int .i64 0)/\w'.cell? ⟨p2,0,none⟩=some (.bool false)/\EB B w w':=by
 have hta:∀W:World,(Instr.typeAssert (.iface 290 (.agg #[])) 20 290 true).run Tryz.prog W=.ok (.tuple #[.agg #[],.bool true]) W:=λW=>by kernel_rfl
 have mc:=aB.alloc w (.cells #[] 290);have b0:=Ad w _ c0;have b1:=Ad w _ c1;have b2:=Ad w _ c2;have d0:=mc.cell c0;have d1:=mc.cell c1;have d2:=mc.cell c2;have g0:=(mc.froz (p:=⟨p0,0,none⟩) b0).trans f0;have g1:=(mc.froz (p:=⟨p1,0,none⟩) b1).trans f1;have g2:=(mc.froz (p:=⟨p2,0,none⟩) b2).trans f2;have e1:(w.alloc (.cells #[] 290) |>.setCell ⟨p0,0,none⟩ (.string ⟨#[]⟩)).cell? ⟨p1,0,none⟩=some v1:=(Aa _ _ _ _ (by simp_all)).trans d1
 have e2:((w.alloc (.cells #[] 290) |>.setCell ⟨p0,0,none⟩ (.string ⟨#[]⟩)).setCell ⟨p1,0,none⟩ (.int .i64 0)).cell? ⟨p2,0,none⟩=some v2:=(Aa _ _ _ _ (by simp_all)).trans ((Aa _ _ _ _ (by simp_all)).trans d2)
 refine callsD_of_wpS Tryz.func230 rfl λc₀ cs hu=>?_;apply wpS_seq
 apply wpS_region
 simp[wpOpsS,go_sem,recoverD,hu,Tryz.ntmps230,Exit.thenS,lA0]
 refine wpS_of_wp ?_;rw[show (#[Value.pointer (some ⟨p0,0,none⟩),.pointer (some ⟨p1,0,none⟩),.pointer (some ⟨p2,0,none⟩)]++(Ao 11 undef).setIfInBounds 4 (.iface 290 (.agg #[]))) = #[.pointer (some ⟨p0,0,none⟩),.pointer (some ⟨p1,0,none⟩),.pointer (some ⟨p2,0,none⟩),undef,undef,undef,undef,.iface 290 (.agg #[]),undef,undef,undef,undef,undef,undef] from rfl]
 go_wp2
 have j8:(((w.setCell ⟨p0,0,none⟩ (.string ⟨#[]⟩)).setCell ⟨p1,0,none⟩ (.int .i64 0)).setCell ⟨p2,0,none⟩ (.bool false)).cell? ⟨p0,0,none⟩=some (.string ⟨#[]⟩):=by
  rw[Aa _ _ _ _ (by simp_all),Aa _ _ _ _ (by simp_all)];exact Ab _ _ _ c0
 have fe:(((w.setCell ⟨p0,0,none⟩ (.string ⟨#[]⟩)).setCell ⟨p1,0,none⟩ (.int .i64 0)).setCell ⟨p2,0,none⟩ (.bool false)).cell? ⟨p1,0,none⟩=some (.int .i64 0):=by
  rw[Aa _ _ _ _ (by simp_all)];exact Ab _ _ _ ((Aa _ _ _ _ (by simp_all)).trans c1)
 have iq:(((w.setCell ⟨p0,0,none⟩ (.string ⟨#[]⟩)).setCell ⟨p1,0,none⟩ (.int .i64 0)).setCell ⟨p2,0,none⟩ (.bool false)).cell? ⟨p2,0,none⟩=some (.bool false) :=
  Ab _ _ _ ((Aa _ _ _ _ (by simp_all)).trans ((Aa _ _ _ _ (by simp_all)).trans c2))
 have gd:Below B w ((((w.setCell ⟨p0,0,none⟩ (.string ⟨#[]⟩)).setCell ⟨p1,0,none⟩ (.int .i64 0)).setCell ⟨p2,0,none⟩ (.bool false)).alloc (.cells #[] 290)):=((((Below.refl B w).setCell (p:=⟨p0,0,none⟩) qe _).setCell (p:=⟨p1,0,none⟩) qg _).setCell (p:=⟨p2,0,none⟩) lg _).alloc (by simp;omega) _;have mw:=aB.alloc (((w.setCell ⟨p0,0,none⟩ (.string ⟨#[]⟩)).setCell ⟨p1,0,none⟩ (.int .i64 0)).setCell ⟨p2,0,none⟩ (.bool false)) (.cells #[] 290);have k0:=mw.cell j8;have k1:=mw.cell fe;have k2:=mw.cell iq;have de:EB B w ((((w.setCell ⟨p0,0,none⟩ (.string ⟨#[]⟩)).setCell ⟨p1,0,none⟩ (.int .i64 0)).setCell ⟨p2,0,none⟩ (.bool false)).alloc (.cells #[] 290)):=⟨gd,gd.size⟩;exact⟨rfl,_,rfl,_,results_none rfl _ _ _,rfl,rfl,k0,k1,k2,de⟩
theorem dB1 (p0 p1 p2:Nat) (w:World) :
  CallsD Tryz.prog 230 #[.pointer (some ⟨p0,0,none⟩),.pointer (some ⟨p1,0,none⟩),.pointer (some ⟨p2,0,none⟩)] .returning w λe u' w'=>e=.returned (.tuple #[])/\u' = .returning/\w'=w:=by
 refine callsD_of_wpS Tryz.func230 rfl λc₀ cs hu=>?_;apply wpS_seq
 apply wpS_region
 simp[wpOpsS,go_sem,recoverD,hu,Tryz.ntmps230,Exit.thenS]
 refine wpS_of_wp ?_;rw[show (#[Value.pointer (some ⟨p0,0,none⟩),.pointer (some ⟨p1,0,none⟩),.pointer (some ⟨p2,0,none⟩)]++(Ao 11 undef).setIfInBounds 4 .nilIface) = #[.pointer (some ⟨p0,0,none⟩),.pointer (some ⟨p1,0,none⟩),.pointer (some ⟨p2,0,none⟩),undef,undef,undef,undef,.nilIface,undef,undef,undef,undef,undef,undef] from rfl]
 go_wp2
 cases c₀
 simp only at hu;subst hu;exact⟨rfl,_,rfl,_,results_none rfl _ _ _,rfl,rfl,rfl⟩
theorem lZ1 (b:List UInt8) (rb k:Nat) (ba:Option Addr) (bc:Nat) (w:World) (hk:k<=b.length) (hb:b.length<=1099511627776) (fo:b.length<=bc) (jw:ba=none->bc=0) (ac:aG w ba 1 (b.map aV)) (hba:∀q:Addr,ba=some q->b≠[]->q.block<rb)
  (c0:w.cell? ⟨rb,0,none⟩=some (.slice ba b.length bc)) (c1:w.cell? ⟨rb,1,none⟩=some (.int .i64 k)) (f1:w.frozen? ⟨rb,1,none⟩=false) :
  Calls Tryz.prog 188 #[.pointer (some ⟨rb,0,none⟩)] w (kU1 (rdT (b.drop k)) rb k w):=by
 have hRT:∀n j,rdU (b.drop k)=some (n,j)->rdT (b.drop k)=if n<=(b.drop (k+j)).length then some (mkB ((b.drop (k+j)).take n),j+n) else none:=λn j h=>by
  unfold rdT;rw[h];simp only;rw[List.drop_drop]
 have y6:rdU (b.drop k)=none->rdT (b.drop k)=none:=λh=>by unfold rdT;rw[h]
 have CN:=Ae (zM0 b rb k ba bc w hk hb ac hba c0 c1 f1);have HAT:=Ae ac;have HNC:=Ae jw;have HBA:=Ae hba;have hrb:=Ad w _ c0;simp only at hrb
 cases hU:rdU (b.drop k) with
 | none =>
  rw[hU]at CN;have HR:=Ae (y6 hU);clear hRT y6 hU ac hba;go_enter Tryz.func188,Tryz.ntmps188
  go_wp2_with fail
  refine CN.out.mono ?_;rintro e w1 ⟨m0,de⟩;rcases m0 with ⟨v,n,hR,_⟩|⟨_,rfl⟩
  ·cases hR
  ·exact⟨rfl,Or.inr ⟨HR.out,rfl⟩,de⟩
 | some x =>
  obtain⟨n,j⟩:=x;rw[hU]at CN;have HR:=Ae (hRT n j hU);obtain⟨r,sw,hlr,hjj⟩:=eZ0.1 hU
  have hj:j<=b.length-k:=by
   have:=congrArg List.length hlr
   rw[Ah,List.length_append]at this;omega
  clear hlr hjj r;clear hRT y6 ac hba hU;obtain⟨K,hK⟩:=exq (k+j);have hKb:K<=b.length:=by omega
  rw[<-hK]at HR;have HK:=Ae hK;go_enter Tryz.func188,Tryz.ntmps188
  go_wp2_with fail
  refine CN.out.mono ?_;rintro e w1 ⟨m0,de⟩;rcases m0 with ⟨v,n',hR,rfl,nu,lu,hf1⟩|⟨hR,_⟩
  case inr=>cases hR
  obtain⟨rfl,rfl⟩:n=v/\j=n':=by simpa using hR
  rw[<-hK]at nu;have z0:∀x:Ext aB w1.drew,x.u.cell? ⟨rb,0,none⟩=some (.slice ba b.length bc):=aF ((aB.drew w1).cell lu);have z1:∀x:Ext aB w1.drew,x.u.cell? ⟨rb,1,none⟩=some (.int .i64 (K:Int)):=aF ((aB.drew w1).cell nu);have aek:IntKind.i64.wrap ((b.length:Int)-(K:Int))=((b.length-K:Nat):Int):=by simp[Aj,Ak,Ai];omega
  have wcv:IntKind.u64.wrap ((b.length-K:Nat):Int)=((b.length-K:Nat):Int):=by simp[Aj,Ak,Ai];omega
  clear hR hK;by_cases ia:b.length-K<n
  ·have q8:((b.length-K:Nat):Int)<n:=by omega
   have HRN:Hid (rdT (b.drop k)=none):=by show _=_;rw[HR.out,if_neg (by rw[Ah];omega)]
   clear HR;go_wp2_with fail
   refine bH (bE 13 []) (by kernel_rfl) (λd _ _ _ _ h=>by cases d<;>exact h) ?_
   iterate 13 (refine aH rfl (λK hK=>?_);go_simp;refine hK _ ?_;clear hK K)
   refine bN ?_;clear z0 z1;go_wp2_with fail
   exact⟨rfl,Or.inr ⟨HRN.out,rfl⟩,EB.trans _ _ _ _ de (EB.of (aB.drew w1) (Aq (Ar hrb) de.2))⟩
  ·have q8:¬((b.length-K:Nat):Int)<n:=by omega
   have HRS:Hid (rdT (b.drop k)=some (mkB ((b.drop K).take n),j+n)):=by show _=_;rw[HR.out,if_pos (by rw[Ah];omega)]
   clear HR;go_wp2_with fail
   refine bH (bE 13 []) (by kernel_rfl) (λd _ _ _ _ h=>by cases d<;>exact h) ?_
   iterate 13 (refine aH rfl (λK hK=>?_);go_simp;refine hK _ ?_;clear hK K)
   refine bN ?_;clear z0 z1;have y0:∀x:Ext aB w1.drew.drew,x.u.cell? ⟨rb,0,none⟩=some (.slice ba b.length bc):=aF ((aB.drew _).cell ((aB.drew w1).cell lu));have y1:∀x:Ext aB w1.drew.drew,x.u.cell? ⟨rb,1,none⟩=some (.int .i64 (K:Int)):=aF ((aB.drew _).cell ((aB.drew w1).cell nu));have wn:IntKind.i64.wrap (n:Int)=n:=by simp[Aj,Ak,Ai];omega
   have wa:IntKind.i64.wrap ((K:Int)+n)=((K+n:Nat):Int):=by simp[Aj,Ak,Ai];omega
   go_wp2_with fail
   refine bH (bE 18 []) (by kernel_rfl) (λd _ _ _ _ h=>by cases d<;>exact h) ?_
   have h01:(0:Int)<=(K:Int)+n:=by omega
   have h02:(K:Int)+n<=bc:=by omega
   have tn:((K:Int)+n).toNat=K+n:=by omega
   have tk:K<=K+n:=by omega
   have tm:K+n-K=n:=by omega
   have HAT1:aG w1 ba 1 (b.map aV):=λak=>by
    obtain⟨bb,bo,e,hc⟩:=HAT.out ak;have af:=HBA.out _ e (λh0=>ak (by rw[h0];rfl));exact⟨bb,bo,e,λi row hi j v hj=>(Below.cell de.1 (by simpa using af)).trans (hc i row hi j v hj)⟩
   obtain⟨a',jg,kj,_⟩:=aX0 (c:=bc) (l:=K) (h:=K+n) (k:=1) HAT1 HNC.out (by omega) (by omega) (by omega);rw[show K+n-K=n by omega]at jg
   have ag3:(if bc=K then ba else Au (λx=>x.add K) ba)=a':=by
    unfold sliced at jg;by_cases s6:bc=K
    ·rw[if_pos s6]at jg ⊢;exact(Value.slice.inj jg).1
    ·rw[if_neg s6]at jg ⊢
     have:=(Value.slice.inj jg).1
     rw[<-this];congr 1
     funext x
     rw[At]
   have oh:((b.take (K+n)).drop K)=(b.drop K).take n:=by rw[List.take_drop]
   have vl:((b.drop K).take n).length=n:=by rw[List.length_take,Ah];omega
   rw[oh]at kj
   have hcv:∀x:Ext aB w1.drew.drew,(convert 67 9 (.slice a' n (bc-K))).run Tryz.prog x.u=.ok (.string (mkB ((b.drop K).take n))) x.u:=λx=>by
    have:=rW (c:=bc-K) (kj.grows (aB.trans _ _ _ (aB.trans _ _ _ (aB.drew w1) (aB.drew _)) x.h))
    rw[vl]at this;exact this
   generalize (b.drop K).take n=S at *;iterate 18 (refine aH rfl (λK hK=>?_);go_simp;refine hK _ ?_;clear hK K)
   refine bN ?_;go_wp2_with fail
   go_ret;refine⟨Or.inl ⟨_,_,HRS.out,rfl,?_⟩,EB.trans _ _ _ _ (EB.trans _ _ _ _ de (⟨(Below.refl rb w1).setCell (p:=⟨rb,1,none⟩) (As rb) _,by simp⟩:EB rb w1 (w1.setCell ⟨rb,1,none⟩ (.int .i64 ((K:Int)+n))))) (EB.of ((aB.drew _).dr) (by simp;exact Aq (Ar hrb) de.2))⟩;rw[show ((k+(j+n):Nat):Int)=(K:Int)+n by rw[HK.out];push_cast;omega]
   exact Ab _ _ _ nu
structure oY1 (w:World) (s:Value) (k:Int) (W:World):Prop where
 g:aB w W
 sz:w.heap.size+1+1+1<W.heap.size
 c0:W.cell? ⟨w.heap.size,0,none⟩=some (.string ⟨#[]⟩)
 f0:W.frozen? ⟨w.heap.size,0,none⟩=false
 c1:W.cell? ⟨w.heap.size+1,0,none⟩=some (.int .i64 0)
 f1:W.frozen? ⟨w.heap.size+1,0,none⟩=false
 c2:W.cell? ⟨w.heap.size+1+1,0,none⟩=some (.bool false)
 f2:W.frozen? ⟨w.heap.size+1+1,0,none⟩=false
 r0:W.cell? ⟨w.heap.size+1+1+1,0,none⟩=some s
 r1:W.cell? ⟨w.heap.size+1+1+1,1,none⟩=some (.int .i64 k)
 rf:W.frozen? ⟨w.heap.size+1+1+1,1,none⟩=false
theorem oW1 (w:World) (s:Value) (k:Int):oY1 w s k ((((w.alloc (.cells #[.string ⟨#[]⟩] 9)).alloc (.cells #[.int .i64 0] 3)).alloc (.cells #[.bool false] 4)).alloc (.cells #[s,.int .i64 k] 292)):=by
 have e1:(w.alloc (.cells #[.string ⟨#[]⟩] 9)).heap.size=w.heap.size+1:=by simp
 have e2:((w.alloc (.cells #[.string ⟨#[]⟩] 9)).alloc (.cells #[.int .i64 0] 3)).heap.size=w.heap.size+1+1:=by simp
 have e3:(((w.alloc (.cells #[.string ⟨#[]⟩] 9)).alloc (.cells #[.int .i64 0] 3)).alloc (.cells #[.bool false] 4)).heap.size=w.heap.size+1+1+1:=by simp
 have b0:=cG (w:=w) (cs:=#[.string ⟨#[]⟩]) (t:=9) (w':=((((w.alloc (.cells #[.string ⟨#[]⟩] 9)).alloc (.cells #[.int .i64 0] 3)).alloc (.cells #[.bool false] 4)).alloc (.cells #[s,.int .i64 k] 292))) (((aB.alloc _ _).al _).al _);have b1:=cG (w:=w.alloc (.cells #[.string ⟨#[]⟩] 9)) (cs:=#[.int .i64 0]) (t:=3) (w':=((((w.alloc (.cells #[.string ⟨#[]⟩] 9)).alloc (.cells #[.int .i64 0] 3)).alloc (.cells #[.bool false] 4)).alloc (.cells #[s,.int .i64 k] 292))) ((aB.alloc _ _).al _);have b2:=cG (w:=(w.alloc (.cells #[.string ⟨#[]⟩] 9)).alloc (.cells #[.int .i64 0] 3)) (cs:=#[.bool false]) (t:=4) (w':=((((w.alloc (.cells #[.string ⟨#[]⟩] 9)).alloc (.cells #[.int .i64 0] 3)).alloc (.cells #[.bool false] 4)).alloc (.cells #[s,.int .i64 k] 292))) (aB.alloc _ _);have b3:=cG (w:=((w.alloc (.cells #[.string ⟨#[]⟩] 9)).alloc (.cells #[.int .i64 0] 3)).alloc (.cells #[.bool false] 4)) (cs:=#[s,.int .i64 k]) (t:=292) (w':=((((w.alloc (.cells #[.string ⟨#[]⟩] 9)).alloc (.cells #[.int .i64 0] 3)).alloc (.cells #[.bool false] 4)).alloc (.cells #[s,.int .i64 k] 292))) (aB.refl _);rw[e1]at b1;rw[e2]at b2;rw[e3]at b3;exact⟨(((aB.alloc _ _).al _).al _).al _,by simp,b0.1 0 _ rfl,b0.2 0,b1.1 0 _ rfl,b1.2 0,b2.1 0 _ rfl,b2.2 0,b3.1 0 _ rfl,b3.1 1 _ rfl,b3.2 1⟩
theorem zN0 (b:List UInt8) (k:Nat) (ba:Option Addr) (bc:Nat) (w:World) (hk:k<=b.length) (hb:b.length<=1099511627776) (fo:b.length<=bc) (jw:ba=none->bc=0) (ac:aG w ba 1 (b.map aV)) :
  Calls Tryz.prog 187 #[.slice ba b.length bc,.int .i64 k,.func (.func 188) #[] #[]] w λe w'=>e=.returned (sA0 k (rdT (b.drop k)))/\aB w w':=by
 have hmf:∀(fn:Fn) (first cap:Array Value) (w:World),(Instr.makeFunc fn first cap).run Tryz.prog w=.ok (.func fn first cap) w:=λ_ _ _ _=>rfl
 have l7:¬(k:Int)<0:=by omega
 have HAT:=Ae ac
 have HBA:Hid (∀q:Addr,ba=some q->b≠[]->q.block<w.heap.size):=λq hq ak=>by
  obtain⟨x,hx⟩:∃x,b[0]?=some x:=⟨_,Ac (List.length_pos_iff.2 ak)⟩;obtain⟨bb,bo,e,fo⟩:=ac.get ak;rw[e]at hq;cases hq
  exact Ad _ _ (fo 0 x hx 0 _ rfl)
 obtain⟨R,hR⟩:=exq (rdT (b.drop k));have HR:=Ae hR;rw[<-hR];clear hR ac;go_enter_defers Tryz.func187,Tryz.ntmps187
 go_wp2_with fail
 have hB:=oW1 w (.slice ba b.length bc) k;generalize ((((w.alloc (.cells #[Value.string ⟨#[]⟩] 9)).alloc (.cells #[.int .i64 0] 3)).alloc (.cells #[.bool false] 4)).alloc (.cells #[Value.slice ba b.length bc,.int .i64 k] 292))=W4 at *;refine(lZ1 b _ k ba bc W4 hk hb fo jw (HAT.out.grows hB.g) (λq hq ak=>Nat.lt_trans (HBA.out q hq ak) (by omega)) hB.r0 hB.r1 hB.rf).mono ?_;rintro e w5 ⟨m0,de⟩;rw[<-HR.out]at m0;have hs5:=de.2;have dm:=hB.sz;have c0:w5.cell? ⟨w.heap.size,0,none⟩=_:=(Below.cell de.1 (by simp only;omega)).trans hB.c0;have c1:w5.cell? ⟨w.heap.size+1,0,none⟩=_:=(Below.cell de.1 (by simp only;omega)).trans hB.c1;have c2:w5.cell? ⟨w.heap.size+1+1,0,none⟩=_:=(Below.cell de.1 (by simp only;omega)).trans hB.c2;have f0:w5.frozen? ⟨w.heap.size,0,none⟩=_:=(Below.frozen de.1 (by simp only;omega)).trans hB.f0;have f1:w5.frozen? ⟨w.heap.size+1,0,none⟩=_:=(Below.frozen de.1 (by simp only;omega)).trans hB.f1;have f2:w5.frozen? ⟨w.heap.size+1+1,0,none⟩=_:=(Below.frozen de.1 (by simp only;omega)).trans hB.f2;have bi:aB w w5:=kC0 hB.g de (by omega);rcases m0 with ⟨v,n,rfl,rfl,hc⟩|⟨rfl,rfl⟩
 ·have g0:(w5.setCell ⟨w.heap.size,0,none⟩ (.string v)).cell? ⟨w.heap.size,0,none⟩=some (.string v):=Ab _ _ _ c0
  have g1:(w5.setCell ⟨w.heap.size,0,none⟩ (.string v)).cell? ⟨w.heap.size+1,0,none⟩=some (.int .i64 0):=(Aa _ _ _ _ (λe=>by have:=congrArg Af e;simp only at this;omega)).trans c1;have g2:(w5.setCell ⟨w.heap.size,0,none⟩ (.string v)).cell? ⟨w.heap.size+1+1,0,none⟩=some (.bool false):=(Aa _ _ _ _ (λe=>by have:=congrArg Af e;simp only at this;omega)).trans c2;have g3:(w5.setCell ⟨w.heap.size,0,none⟩ (.string v)).cell? ⟨w.heap.size+1+1+1,1,none⟩=some (.int .i64 ((k+n:Nat):Int)):=(Aa _ _ _ _ (λe=>by have:=congrArg Af e;simp only at this;omega)).trans hc
  have gg:∀j,j=w.heap.size\/j=w.heap.size+1\/j=w.heap.size+1+1->(w5.setCell ⟨w.heap.size,0,none⟩ (.string v)).frozen? ⟨j,0,none⟩=false:=λj hj=>by
   rw[Ag];rcases hj with rfl|rfl|rfl
   ·exact f0
   ·exact f1
   ·exact f2
  obtain⟨K,ld⟩:=exq (k+n);rw[<-ld]at g3 hc;have HK2:=Ae ld;clear ld;have hgp:aB w (w5.setCell ⟨w.heap.size,0,none⟩ (.string v)):=bi.set (by simp only;omega) _;have hsp:w.heap.size+1+1+1<(w5.setCell ⟨w.heap.size,0,none⟩ (.string v)).heap.size:=by simp;omega
  clear HR hB de c1 c2 f1 f2 hc bi;go_wp2_with fail
  clear c0 f0;generalize (w5.setCell ⟨w.heap.size,0,none⟩ (.string v))=w6 at *;have z0:∀x:Ext (ES w.heap.size (.string v)) w6.drew,x.u.cell? ⟨w.heap.size,0,none⟩=some (.string v):=λx=>x.h.2.2.2.1 ((aB.drew _).cell g0);have z3:∀x:Ext (ES w.heap.size (.string v)) w6.drew,x.u.cell? ⟨w.heap.size+1+1+1,1,none⟩=some (.int .i64 (K:Int)):=λx=>x.h.2.1 _ _ (by simp only;omega) ((aB.drew _).cell g3);have x0:w6.drew.cell? ⟨w.heap.size,0,none⟩=some (.string v):=g0;have xf:w6.drew.frozen? ⟨w.heap.size,0,none⟩=false:=gg _ (Or.inl rfl);refine pT0 ?_;refine pV0 (ES w.heap.size (.string v)) 6 (bE 6 [5]) (ES.refl _ _) (ES.trans _ _) (by kernel_rfl) (by kernel_rfl) (λ_ _ _ _ _ h=>h) ?_;iterate 5 (refine aH rfl (λK hK=>?_);go_simp;refine hK _ ?_;clear hK K)
  refine bG rfl rfl (λK hK=>?_);go_simp;refine⟨ES.put x0,hK _ _ ?_⟩;clear hK K;refine bN ?_;simp only[Al,Ap];clear z0 z3;have n0:=g0;have y0:(w6.setCell ⟨w.heap.size,0,none⟩ (.string v)).cell? ⟨w.heap.size,0,none⟩=some (.string v):=Ab _ _ _ g0;have y1:(w6.setCell ⟨w.heap.size,0,none⟩ (.string v)).cell? ⟨w.heap.size+1,0,none⟩=some (.int .i64 0):=(Aa _ _ _ _ (λe=>by have:=congrArg Af e;simp only at this;omega)).trans g1;have y2:(w6.setCell ⟨w.heap.size,0,none⟩ (.string v)).cell? ⟨w.heap.size+1+1,0,none⟩=some (.bool false):=(Aa _ _ _ _ (λe=>by have:=congrArg Af e;simp only at this;omega)).trans g2;have yg:aB w (w6.setCell ⟨w.heap.size,0,none⟩ (.string v)):=hgp.set (by simp only;omega) _;have yf1:(w6.setCell ⟨w.heap.size,0,none⟩ (.string v)).frozen? ⟨w.heap.size+1,0,none⟩=false:=(Ag _ _ _ _).trans (gg _ (Or.inr (Or.inl rfl)));have yf2:(w6.setCell ⟨w.heap.size,0,none⟩ (.string v)).frozen? ⟨w.heap.size+1+1,0,none⟩=false:=(Ag _ _ _ _).trans (gg _ (Or.inr (Or.inr rfl)));clear x0 xf g0 g1 g2 g3 gg n0;generalize w6.setCell ⟨w.heap.size,0,none⟩ (.string v)=w7 at *
  have k1:((w7.setCell ⟨w.heap.size+1,0,none⟩ (.int .i64 K)).setCell ⟨w.heap.size+1+1,0,none⟩ (.bool true)).drew.cell? ⟨w.heap.size+1,0,none⟩=some (.int .i64 K):=by
   refine(Aa _ _ _ _ (λe=>by have:=congrArg Af e;simp only at this;omega)).trans ?_;exact Ab _ _ _ y1
  have y2':(w7.setCell ⟨w.heap.size+1,0,none⟩ (.int .i64 K)).cell? ⟨w.heap.size+1+1,0,none⟩=some (.bool false):=by
   rw[Aa _ _ _ _ (λe=>by have:=congrArg Af e;simp only at this;omega)];exact y2
  have k2:((w7.setCell ⟨w.heap.size+1,0,none⟩ (.int .i64 K)).setCell ⟨w.heap.size+1+1,0,none⟩ (.bool true)).drew.cell? ⟨w.heap.size+1+1,0,none⟩=some (.bool true):=Ab _ _ _ y2'
  have k0:((w7.setCell ⟨w.heap.size+1,0,none⟩ (.int .i64 K)).setCell ⟨w.heap.size+1+1,0,none⟩ (.bool true)).drew.cell? ⟨w.heap.size,0,none⟩=some (.string v):=by
   refine(Aa _ _ _ _ (λe=>by have:=congrArg Af e;simp only at this;omega)).trans ?_;refine(Aa _ _ _ _ (λe=>by have:=congrArg Af e;simp only at this;omega)).trans ?_;exact y0
  have kg:aB w ((w7.setCell ⟨w.heap.size+1,0,none⟩ (.int .i64 K)).setCell ⟨w.heap.size+1+1,0,none⟩ (.bool true)).drew:=((yg.set (by simp only;omega) _).set (by simp only;omega) _).dr;go_wp2_with fail
  simp only[vQ];go_wp2_with fail
  refine leaves_cons (f:=230) (args:=#[.pointer (some ⟨w.heap.size,0,none⟩),.pointer (some ⟨w.heap.size+1,0,none⟩),.pointer (some ⟨w.heap.size+1+1,0,none⟩)]) (by simp) (by simp[go_sem]) ?_
  refine(dB1 _ _ _ _).mono ?_;rintro e u' mi ⟨rfl,rfl,rfl⟩;show Leaves _ _ _ _ _ _ _
  simp only[settle];refine⟨.tuple #[.string v,.int .i64 K,.bool true],?_,by rw[HK2.out];rfl,kg⟩;simp[results,Tryz.results187,go_sem,k0,k1,k2]
 ·clear HR hB de
  go_wp2_with fail
  refine leaves_cons (f:=230) (args:=#[.pointer (some ⟨w.heap.size,0,none⟩),.pointer (some ⟨w.heap.size+1,0,none⟩),.pointer (some ⟨w.heap.size+1+1,0,none⟩)]) (by simp) (by simp[go_sem]) ?_
  refine(rX0 w.heap.size (w.heap.size+1) (w.heap.size+1+1) w5 [] _ _ _ c0 c1 c2 f0 f1 f2 (by omega) (by omega) (by omega) w.heap.size (by omega) (by omega) (by omega)).mono ?_;rintro e u' mi ⟨rfl,rfl,k0,k1,k2,acn⟩;have kg:aB w mi:=EB.grows bi acn;show Leaves _ _ _ _ _ _ _
  simp only[settle];refine⟨.tuple #[.string ⟨#[]⟩,.int .i64 0,.bool false],?_,rfl,kg⟩;simp[results,Tryz.results187,go_sem,k0,k1,k2]
theorem dD0 (b:List UInt8) (k:Nat) (ba:Option Addr) (bc:Nat) (w:World) (hk:k<=b.length) (hb:b.length<=1099511627776) (fo:b.length<=bc) (jw:ba=none->bc=0) (ac:aG w ba 1 (b.map aV)) :
  Calls Tryz.prog 121 #[.slice ba b.length bc,.int .i64 k] w λe w'=>e=.returned (sA0 k (rdT (b.drop k)))/\aB w w':=by
 have CR:=Ae (zN0 b k ba bc w hk hb fo jw ac)
 cases hR:rdT (b.drop k) with
 | none =>
  rw[hR]at CR;unfold sA0 at CR ⊢;clear hR ac;go_enter Tryz.func121,Tryz.ntmps121
  go_wp2_with fail
  refine CR.out.mono ?_;rintro e w1 ⟨rfl,hg⟩;go_wp2_with fail
  go_ret3;exact⟨rfl,hg⟩
 | some x =>
  obtain⟨v,n⟩:=x;rw[hR]at CR;unfold sA0 at CR ⊢;obtain⟨K,hK⟩:=exq (k+n);simp only[<-hK]at CR ⊢;clear hR ac hK;go_enter Tryz.func121,Tryz.ntmps121
  go_wp2_with fail
  refine CR.out.mono ?_;rintro e w1 ⟨rfl,hg⟩;go_wp2_with fail
  go_ret3;exact⟨rfl,hg⟩
end
section
open Go Go.RowKit
theorem zX {w:World} {ba:Option Addr} {b:List UInt8} {bc l h:Nat} (ac:aG w ba 1 (b.map aV)) (hn:ba=none->bc=0) (h1:l<=h) (h2:h<=b.length) (h3:b.length<=bc) :
  ∃a',(if bc=l then ba else Au (λx=>x.add l) ba)=a'/\aG w a' 1 (((b.take h).drop l).map aV)/\(a'=none->bc-l=0):=by
 obtain⟨a',jg,kj,abg⟩:=aX0 (c:=bc) (l:=l) (h:=h) (k:=1) ac hn h1 h2 h3;refine⟨a',?_,kj,abg⟩;unfold sliced at jg;by_cases s6:bc=l
 ·rw[if_pos s6]at jg ⊢;exact(Value.slice.inj jg).1
 ·rw[if_neg s6]at jg ⊢
  have:=(Value.slice.inj jg).1
  rw[<-this];congr 1
  funext x
  rw[At]
end
section
open Go Go.ChangeShapes Go.WideShapes Go.ChangeAt Go.RowKit Go.Shelf Go.Lib
open Go.ChangeMaps (open_string shut_string)
structure mG1 (x:iE1):Prop where
 r:(Lit.int .i64 x.r).wf=true
 l:(Lit.int .i64 x.l).wf=true
 c:(Lit.int .i64 x.c).wf=true
theorem jB1 {H:Type} {enc:TypeId×Value->H} {W:World} {base:Nat} {sp:Nat->Bool} {hd:Bool} (n:Nat) (cs:List Value) (x:DataW H×List MemPlace) (hl:cs.length=3) (h:DataW.trod enc Tryz.prog W base sp hd n 135 cs=some x) :
  ∃y:iE1,cs=mR1 y/\mG1 y:=by
 obtain⟨xs,n,_,hx,_,aj,bg⟩:=DataW.trod_struct Tryz.underlying135 h
 match cs,hl with
 | [c0,c1,c2],_ =>
  match xs,aj with
  | [y0,y1,y2],_ =>
   have g0:=bg 0 _ rfl;have g1:=bg 1 _ rfl;have g2:=bg 2 _ rfl;obtain⟨n0,k0,_,z0⟩:=DataW.trod_int Tryz.underlying3 g0;obtain⟨n1,k1,_,z1⟩:=DataW.trod_int Tryz.underlying3 g1;obtain⟨n2,k2,_,z2⟩:=DataW.trod_int Tryz.underlying3 g2;refine⟨⟨n0,n1,n2⟩,?_,⟨z0,z1,z2⟩⟩;have e0:c0=.int .i64 n0:=by injection k0
   have e1:c1=.int .i64 n1:=by injection k1
   have e2:c2=.int .i64 n2:=by injection k2
   subst e0 e1 e2;rfl
structure iC1 (x:cY):Prop where
 n:x.name.size<=maxLen
 k:(Lit.int .i64 x.kind).wf=true
theorem eY1 {H:Type} {enc:TypeId×Value->H} {W:World} {base:Nat} {sp:Nat->Bool} {hd:Bool} (n:Nat) (cs:List Value) (x:DataW H×List MemPlace) (hl:cs.length=2) (h:DataW.trod enc Tryz.prog W base sp hd n 99 cs=some x) :
  ∃y:cY,cs=cB y/\iC1 y:=by
 obtain⟨xs,n,_,hx,_,aj,bg⟩:=DataW.trod_struct Tryz.underlying99 h
 match cs,hl with
 | [c0,c1],_ =>
  match xs,aj with
  | [y0,y1],_ =>
   have g0:=bg 0 _ rfl;have g1:=bg 1 _ rfl;obtain⟨s0,k0,_,z0⟩:=DataW.trod_string Tryz.underlying9 g0;obtain⟨n1,k1,_,z1⟩:=DataW.trod_int Tryz.underlying3 g1;refine⟨⟨s0,n1⟩,?_,⟨z0,z1⟩⟩;have e0:c0=.string s0:=by injection k0
   have e1:c1=.int .i64 n1:=by injection k1
   subst e0 e1;rfl
section
variable {H:Type} {enc:TypeId×Value->H} {P:Program} {w:World} {base:Nat} {spare:Nat->Bool} {held:Bool}
theorem qL {α:Type} {cells:α->List Value} {OK:α->Prop} {t e:TypeId} {k bu:Nat} {cs0:List Value} {x0:DataW H×List MemPlace} (ht:P.underlying t=some (.slice e)) (hC:P.cellsOf e=k) (hk:0<k) (aj:∀y,(cells y).length=k)
  (zt:∀(n:Nat) (cs:List Value) (x:DataW H×List MemPlace),cs.length=k->DataW.trod enc P w base spare held n e cs=some x->∃y:α,cs=cells y/\OK y)
  (hf:DataW.trod enc P w base spare held bu t cs0=some x0) :
  ∃(a:Option Addr) (l:List α) (cap:Nat),cs0=[.slice a l.length cap]/\aG w a k (l.map cells)/\(∀x∈l,OK x)/\(x0.1=.nil/\l=[]\/∃el sp,x0.1=.slice el sp/\el.length=l.length)/\(a=none->cap=0):=by
 rcases Go.Deep.open_slice ht hf with ⟨h1,h2⟩|⟨a',len,cap,m,n,D,Pl,h1,hb,gv,agw,hm,hx,hi⟩
 ·subst h1 h2
  exact⟨none,[],0,rfl,aG.nil _ _ _,by simp,Or.inl ⟨rfl,rfl⟩,λ_=>rfl⟩
 ·subst h1 hx
  obtain⟨l,hl,hp⟩:=uG (P:=λi (y:α)=>OK y/\∀(j:Nat) (u:Value),(cells y)[j]?=some u->w.cell? (a'.add (i*k+j))=some u) len (λi af=>by
   have him:i<m:=by rw[hm];split<;>omega
   obtain⟨cs,dg,htr⟩:=hi i him;rw[hC]at dg;obtain⟨_,cr,ac⟩:=World.cells?_some dg;obtain⟨y,rfl,ag⟩:=zt _ _ _ cr htr;refine⟨y,ag,λj u hu=>?_⟩;have hj:j<k:=by rw[<-cr];exact(List.getElem?_eq_some_iff.1 hu).1
   rw[<-Go.Deep.add_add];exact(ac j hj).trans hu)
  subst hl;refine⟨some a',l,cap,rfl,λak=>?_,λx hx=>?_,Or.inr ⟨_,_,rfl,by simp⟩,λh=>by cases h⟩
  ·have hs:a'.spot=none:=by
    cases l with
    | nil=>simp at ak
    | cons y0 r =>
     have h0:0<(cells y0).length:=by rw[aj];exact hk
     have:=(hp 0 y0 rfl).2 0 _ (Ac h0)
     have h2:=kY0 this;rw[Nat.zero_mul,Nat.zero_add]at h2;simpa [Addr.add] using h2
   obtain⟨b,off,s⟩:=a';obtain rfl:s=none:=hs;refine⟨b,off,rfl,λi row j7 j u hj=>?_⟩;rw[List.getElem?_map]at j7
   cases i5:l[i]? with
   | none=>rw[i5]at j7;cases j7
   | some y =>
    rw[i5]at j7;obtain rfl:=Option.some.inj j7
    have:=(hp i y i5).2 j u hj
    rw[iE]at this;rw[Nat.add_assoc];exact this
  ·obtain⟨i,af,rfl⟩:=List.getElem_of_mem hx
   exact(hp i _ (Ac af)).1
theorem xC {ts:List TypeId} {ds:List (DataW H)} (h:(DataW.weightsEach P ts ds).all (· <= reachBytes)=true) {j:Nat} {t:TypeId} {fs:Array Field} {parts:List (DataW H)} (ht:ts[j]?=some t) (hd:ds[j]?=some (.agg parts)) (hu:P.underlying t=some (.struct fs)) :
  (DataW.weightsEach P (fs.toList.map (·.type)) parts).all (· <= reachBytes)=true:=by
 rw[List.all_eq_true];intro n hn;exact List.all_eq_true.1 h n (DataW.weights_mem_each ht hd n (by simp only[DataW.weights,hu];exact hn))
end
end
end Go.Proofs.YtjhajgffmnkocaaGreatDoor
