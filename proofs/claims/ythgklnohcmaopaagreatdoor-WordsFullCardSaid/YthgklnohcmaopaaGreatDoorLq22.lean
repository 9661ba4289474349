/- The texts UtfR RefS Src RdS CutV Wck Wrun OpenSrc, one behind the other. -/
import Derived.Test.YthgklnohcmaopaaGreatDoorLq5
import Derived.Test.YthgklnohcmaopaaGreatDoorLq2
import Derived.Test.YthgklnohcmaopaaGreatDoorLq19
import Derived.Laws.Cover4
import Derived.Laws.IdiomStrings
import Derived.Lib.TrimUEq
import Derived.Test.YthgklnohcmaopaaGreatDoorLq20
import Derived.Test.YthgklnohcmaopaaGreatDoorLq9
import Derived.Test.YthgklnohcmaopaaGreatDoorLq1
import Derived.Test.YthgklnohcmaopaaGreatDoorLq15
import Derived.Test.YthgklnohcmaopaaGreatDoorLq12
import Derived.Test.YthgklnohcmaopaaGreatDoorLq21
open Go.World renaming cell?_setCell_other → Aa,cell?_setCell_same → Ab,block_lt_of_cell? → Ae,frozen?_setCell → Ag
open List renaming getElem?_eq_getElem → Ac,length_drop → Ah,length_map → Ai,getElem?_map → Al,drop_succ_cons → Ap,drop_length → Aq,drop_drop → As,drop_zero → At
open Go.Lib renaming hid → Ad,size_eq → Aw
open Go.Addr renaming block → Af,add → Az
open Go.IntKind renaming signed → Aj,wrap → Am,bits → An
open Nat renaming le_refl → Ak,zero_le → Ar,le_trans → Au,le_of_lt → Av,mul_one → Ax
open Array renaming replicate → Ao
open Option renaming map → Ay
set_option maxHeartbeats 4000000
namespace Go.Proofs.YthgklnohcmaopaaGreatDoor
set_option maxRecDepth 100000
section
open Go Go.RowKit
theorem bB0 (s:ByteArray):∀(n i:Nat) (bk:Array Value),s.size<=i+n->(Conv.runesFrom s n i bk).toList=bk.toList++(bD (s.data.toList.drop i)).map λc:Nat=>Value.int .i32 c
 | 0,i,bk,h=>by
  have:s.data.toList.drop i=[]:=gM.2 (by omega)
  rw[this,eR0];simp[Conv.runesFrom]
 | n+1,i,bk,h=>by
  unfold Conv.runesFrom;by_cases hi:i<s.size
  ·have aj:s.data.toList.drop i≠[]:=λe=>gM.1 e hi
   have hw:=Lib.decodeL_width (s.data.toList.drop i);have hd:=Lib.decodeL_drop s i;rw[if_pos hi,jD _ aj,As,hd];rw[hd]at hw;generalize Utf8.decode s i=RK at hw ⊢;obtain⟨r,k⟩:=RK;simp only at hw ⊢;rw[bB0 s n (i+k) _ (by omega)];simp
  ·have:s.data.toList.drop i=[]:=gM.2 hi
   rw[if_neg hi,this,eR0];simp
theorem tS (s:ByteArray):(Conv.runesFrom s s.size 0 #[]).toList=(bD s.data.toList).map λc:Nat=>Value.int .i32 c:=by
 rw[bB0 s s.size 0 #[] (by omega)];simp
theorem yF {C:List (List UInt8)} (hC:fJ C):runesBytes ((rS C).map λn:Nat=>(n:Int))=mkB C.flatten:=by
 have key:∀(C:List (List UInt8)) (s:ByteArray),fJ C->((rS C).map λn:Nat=>(n:Int)).foldl (λr n=>r++Utf8.encode n) s=s++mkB C.flatten:=λC=>by
  induction C with
  | nil =>
   intro s _;show s=s++mkB []
   refine nB ?_;simp[mkB]
  | cons c C ih =>
   intro s h;have hc:=fR1 (h c (by simp));show ((rS C).map λn:Nat=>(n:Int)).foldl _ (s++Utf8.encode ((Lib.decodeL c).1:Int))=_
   rw[ih _ λx hx=>h x (by simp[hx])];refine nB ?_;simp[mkB,hc]
 have:=key C ByteArray.empty hC
 unfold runesBytes;rw[this];refine nB ?_;simp[mkB]
theorem dM0 {w:World} {a:Option Addr} {c:Nat} {l:List Nat} (h:aG w a 1 (l.map pZ)):(convert 76 9 (.slice a l.length c)).run Tryz.prog w=.ok (.string (runesBytes (l.map λn:Nat=>(n:Int)))) w:=by
 by_cases hn:l=[]
 ·subst hn
  cases a with
  | none=>exact run_convert_runes_nil w _ _ _ _ _ Tryz.underlying76 Tryz.underlying21 Tryz.underlying9
  | some p=>exact run_convert_runes w _ _ _ p 0 c [] (Ak _) Tryz.underlying76 Tryz.underlying21 Tryz.underlying9 (λj hj=>by cases hj)
 ·obtain⟨b,o,rfl,hc⟩:=h.get (enc:=pZ) hn
  have hr:=run_convert_runes (P:=Tryz.prog) w 76 9 21 ⟨b,o,none⟩ l.length c (l.map λn:Nat=>(n:Int)) (by rw[Ai];exact Ak _) Tryz.underlying76 Tryz.underlying21 Tryz.underlying9 (λj hj=>by
   rw[Ai]at hj;have h1:=hc j _ (Ac hj) 0 _ rfl
   have h2:(⟨b,o,none⟩:Addr).add j=⟨b,o+j,none⟩:=by
    unfold Az;by_cases h0:j=0
    ·subst h0;simp
    ·simp[h0]
   rw[h2];simpa [List.getD,hj] using h1)
  rw[List.take_of_length_le (by rw[Ai];exact Ak _)]at hr;exact hr
end
section
open Go Go.RowKit
attribute [local go_sem] aO
end
section
open Go Go.RowKit
attribute [local go_sem] aO aM
structure yH where
 p:List dE
 d:Int
 s:List jX1
 e:List En
structure cF0 where
 pa:Option Addr
 pc:Nat
 sa:Option Addr
 sc:Nat
 ea:Option Addr
 ec:Nat
def cF0.cells (a:cF0) (x:yH):Array Value := #[.slice a.pa x.p.length a.pc,.int .i64 x.d,.slice a.sa x.s.length a.sc,.slice a.ea x.e.length a.ec]
def cF0.agg (a:cF0) (x:yH):Value := .agg (a.cells x)
structure yC (w:World) (a:cF0) (x:yH):Prop where
 p:aG w a.pa 2 (x.p.map cX)
 s:aG w a.sa 3 (x.s.map oJ1)
 e:aG w a.ea 5 (x.e.map bF)
theorem yC.grows {w w':World} {a:cF0} {x:yH} (h:yC w a x) (hg:aB w w'):yC w' a x:=⟨h.p.grows hg,h.s.grows hg,h.e.grows hg⟩
structure iK0 (x:yH):Prop where
 p:∀y∈x.p,y.name.size<=maxLen
 s:∀y∈x.s,WfI y.c
 e:∀y∈x.e,yB y
 d:WfI x.d
 lp:x.p.length<=140737488355328
 ls:x.s.length<=140737488355328
 le:x.e.length<=140737488355328
def wT0 (y:dE):Bool:=decide (400<y.name.size)
def qL0 (y:En):Bool:=decide (400<y.r.size)||decide (400<y.s.size)
def mK (x:yH):Bool := !x.p.any wT0 && !x.e.any qL0&&decide (x.p.length<=70)&&decide (x.s.length<=300)&&decide (x.e.length<=300)
theorem mC0 {x:yH} (h:mK x=true):(∀y∈x.p,y.name.size<=400)/\(∀y∈x.e,y.r.size<=400/\y.s.size<=400)/\x.p.length<=70/\x.s.length<=300/\x.e.length<=300:=by
 unfold mK at h;simp only[Bool.and_eq_true,Bool.not_eq_true',decide_eq_true_eq,List.any_eq_false]at h;obtain⟨⟨⟨⟨h1,h2⟩,h3⟩,h4⟩,h5⟩:=h;refine⟨λy hy=>?_,λy hy=>?_,h3,h4,h5⟩
 ·have:=h1 y hy;unfold wT0 at this;simp at this;exact this
 ·have:=h2 y hy;unfold qL0 at this;simp at this;exact this
theorem aT1 {α:Type} {f:α->Bool} {l:List α} {k:Nat} {x:α} (h:l[k]?=some x):(l.drop k).any f=(f x||(l.drop (k+1)).any f):=by
 obtain⟨hk,rfl⟩:=List.getElem?_eq_some_iff.1 h;rw[List.drop_eq_getElem_cons hk,List.any_cons]
def cE0 (x:yH):Option Mx:=if cJ1 x.p.length x.d then some (runSets (newM x.p.length x.d) x.s) else none
theorem zI0 (x:yH) (A:cF0) (w:World) (ag:iK0 x) (ac:yC w A x) :
  Calls Tryz.prog 22 #[A.agg x] w λe w'=>e=.returned (.bool (mK x))/\aB w w':=by
 have hlp:=ag.lp;have gv:=ag.le;have hls:=ag.ls;clear ag;obtain⟨pa,pc,sa,sc,ea,ec⟩:=A;obtain⟨xp,xd,xs,xe⟩:=x;try replace hlp:xp.length<=140737488355328:=hlp
 try replace hls:xs.length<=140737488355328:=hls
 try replace gv:xe.length<=140737488355328:=gv
 obtain⟨W0,cq⟩:=exq (w.alloc (.cells #[.slice pa xp.length pc,.int .i64 xd,.slice sa xs.length sc,.slice ea xe.length ec] 26));have dh:aB w W0:=by rw[cq];exact aB.alloc _ _
 have da:=λj u h=>aT w #[.slice pa xp.length pc,.int .i64 xd,.slice sa xs.length sc,.slice ea xe.length ec] 26 (0,0) j u h;rw[<-cq]at da;have q0:=da 0 _ rfl;have q1:=da 1 _ rfl;have q2:=da 2 _ rfl;have q3:=da 3 _ rfl;have HQ:=Ad (And.intro q0 (And.intro q1 (And.intro q2 q3)));have HP:Hid (aG W0 pa 2 (xp.map cX)):=ac.p.grows dh;have HS:Hid (aG W0 sa 3 (xs.map oJ1)):=ac.s.grows dh;have HE:Hid (aG W0 ea 5 (xe.map bF)):=ac.e.grows dh;have HG0:=Ad dh;clear da ac dh;show Calls _ _ #[.agg #[.slice pa xp.length pc,.int .i64 xd,.slice sa xs.length sc,.slice ea xe.length ec]] _ _
 have HL:Hid (mK ⟨xp,xd,xs,xe⟩=(!xp.any wT0 && !xe.any qL0&&decide (xp.length<=70)&&decide (xs.length<=300)&&decide (xe.length<=300))):=rfl;obtain⟨LB,hLB⟩:=exq (mK ⟨xp,xd,xs,xe⟩);rw[<-hLB]at HL ⊢;clear hLB q1 q2 q3;go_enter Tryz.func22,Tryz.ntmps22
 go_wp2_with fail
 rw[<-cq];clear cq;go_loopw [3] (λi wr=>∃(k:Nat),k<=xp.length/\i=.int .i64 k/\Hid ((xp.drop k).any wT0=xp.any wT0)/\wr=W0) (λi _=>xp.length-(intOf i).toNat)
 case atStart=>exact⟨0,Ar _,rfl,rfl,rfl⟩
 case round =>
  obtain⟨k,hk,rfl,hF,rfl⟩:=hrel;by_cases ae:k<xp.length
  ·obtain⟨⟨yn,yk⟩,hx⟩:∃y,xp[k]?=some y:=⟨_,Ac ae⟩
   obtain⟨ba,oa,rfl,be⟩:=HP.out.get (aK ae);have c0:wr.cell? ⟨ba,oa+k*2,none⟩=some (.string yn):=be k _ hx 0 _ rfl;have cn:(k:Int)<xp.length:=by omega
   have HD:=Ad (aT1 (f:=wT0) hx);rw[hF.out]at HD;clear be hx hF;by_cases hb:400<yn.size
   ·have lj:(400:Int)<yn.size:=by omega
    have HX:Hid (xp.any wT0=true):=by show _=_;rw[HD.out];unfold wT0;simp[hb]
    clear HD hb;go_wp2_with fail
    go_ret;exact⟨by rw[HL.out,HX.out];rfl,HG0.out⟩
   ·have lj:¬(400:Int)<yn.size:=by omega
    have HX:Hid ((xp.drop (k+1)).any wT0=xp.any wT0):=by show _=_;rw[HD.out];unfold wT0;simp[hb]
    clear HD hb;go_wp2_with fail
    go_roundw
    case rel=>exact⟨k+1,ae,by go_num,HX,trivial⟩
    case measure=>simp[intOf];omega
  ·obtain rfl:k=xp.length:=by omega
   have HPA:Hid (xp.any wT0=false):=by show _=_;rw[<-hF.out,Aq];rfl
   have q3:=HQ.out.2.2.2;clear hF;go_wp2_with fail
   go_loopw [4] (λi wx=>∃(k:Nat),k<=xe.length/\i=.int .i64 k/\Hid ((xe.drop k).any qL0=xe.any qL0)/\wx=wr) (λi _=>xe.length-(intOf i).toNat)
   case atStart=>exact⟨0,Ar _,rfl,rfl,rfl⟩
   case round =>
    obtain⟨k,hk,rfl,hF,rfl⟩:=hrel;by_cases ae:k<xe.length
    ·obtain⟨⟨yr,ys,yl,yt,yc⟩,hx⟩:∃y,xe[k]?=some y:=⟨_,Ac ae⟩
     obtain⟨ba,oa,rfl,be⟩:=HE.out.get (aK ae);have c0:wr.cell? ⟨ba,oa+k*5,none⟩=some (.string yr):=be k _ hx 0 _ rfl;have c1:wr.cell? ⟨ba,oa+k*5+1,none⟩=some (.string ys):=be k _ hx 1 _ rfl;have cn:(k:Int)<xe.length:=by omega
     have HD:=Ad (aT1 (f:=qL0) hx);rw[hF.out]at HD;clear be hx hF;by_cases hb:400<yr.size
     ·have lj:(400:Int)<yr.size:=by omega
      have HX:Hid (xe.any qL0=true):=by show _=_;rw[HD.out];unfold qL0;simp[hb]
      clear HD hb;go_wp2_with fail
      go_ret;exact⟨by rw[HL.out,HX.out];simp,HG0.out⟩
     ·have lj:¬(400:Int)<yr.size:=by omega
      by_cases cy:400<ys.size
      ·have ahi:(400:Int)<ys.size:=by omega
       have HX:Hid (xe.any qL0=true):=by show _=_;rw[HD.out];unfold qL0;simp[cy]
       clear HD hb cy;go_wp2_with fail
       go_ret;exact⟨by rw[HL.out,HX.out];simp,HG0.out⟩
      ·have ahi:¬(400:Int)<ys.size:=by omega
       have HX:Hid ((xe.drop (k+1)).any qL0=xe.any qL0):=by show _=_;rw[HD.out];unfold qL0;simp[hb,cy]
       clear HD hb cy;go_wp2_with fail
       go_roundw
       case rel=>exact⟨k+1,ae,by go_num,HX,trivial⟩
       case measure=>simp[intOf];omega
    ·obtain rfl:k=xe.length:=by omega
     have HEA:Hid (xe.any qL0=false):=by show _=_;rw[<-hF.out,Aq];rfl
     have q2:=HQ.out.2.2.1;have e1:decide ((xp.length:Int)<=70)=decide (xp.length<=70):=decide_eq_decide.2 (by omega);have e2:decide ((xs.length:Int)<=300)=decide (xs.length<=300):=decide_eq_decide.2 (by omega);have e3:decide ((xe.length:Int)<=300)=decide (xe.length<=300):=decide_eq_decide.2 (by omega);have HL2:Hid (LB=(decide ((xp.length:Int)<=70)&&decide ((xs.length:Int)<=300)&&decide ((xe.length:Int)<=300))):=by show _=_;rw[HL.out,HPA.out,HEA.out,e1,e2,e3];simp
     clear hF e1 e2 e3 ae;by_cases h1:(xp.length:Int)<=70
     ·by_cases h2:(xs.length:Int)<=300
      ·go_wp2_with fail
       go_ret;exact⟨by rw[HL2.out];simp[h1,h2],HG0.out⟩
      ·go_wp2_with fail
       go_ret;exact⟨by rw[HL2.out];simp;omega,HG0.out⟩
     ·go_wp2_with fail
      go_ret;exact⟨by rw[HL2.out];simp;omega,HG0.out⟩
theorem vJ0 (x:yH) (A:cF0) (w:World) (ag:iK0 x) (ac:yC w A x) :
  Calls Tryz.prog 16 #[A.agg x] w λe w'=>∃v,e=.returned v/\fF1 w' v (cE0 x)/\aB w w':=by
 have HOS:=Ad ag.s;have hlp:=ag.lp;have hls:=ag.ls;clear ag;obtain⟨pa,pc,sa,sc,ea,ec⟩:=A;obtain⟨xp,xd,xs,xe⟩:=x;try replace hlp:xp.length<=140737488355328:=hlp
 try replace hls:xs.length<=140737488355328:=hls
 try replace gv:xe.length<=140737488355328:=gv
 obtain⟨W0,cq⟩:=exq (w.alloc (.cells #[.slice pa xp.length pc,.int .i64 xd,.slice sa xs.length sc,.slice ea xe.length ec] 26));have dh:aB w W0:=by rw[cq];exact aB.alloc _ _
 have da:=λj u h=>aT w #[.slice pa xp.length pc,.int .i64 xd,.slice sa xs.length sc,.slice ea xe.length ec] 26 (0,0) j u h;rw[<-cq]at da;have q0:=da 0 _ rfl;have q1:=da 1 _ rfl;have q2:=da 2 _ rfl;have q3:=da 3 _ rfl;have HQ:=Ad (And.intro q0 (And.intro q1 (And.intro q2 q3)));have HP:Hid (aG W0 pa 2 (xp.map cX)):=ac.p.grows dh;have HS:Hid (aG W0 sa 3 (xs.map oJ1)):=ac.s.grows dh;have HE:Hid (aG W0 ea 5 (xe.map bF)):=ac.e.grows dh;have HG0:=Ad dh;clear da ac dh;show Calls _ _ #[.agg #[.slice pa xp.length pc,.int .i64 xd,.slice sa xs.length sc,.slice ea xe.length ec]] _ _
 have HSM:Hid (cE0 ⟨xp,xd,xs,xe⟩=if cJ1 xp.length xd then some (runSets (newM xp.length xd) xs) else none):=rfl
 obtain⟨SM,hSM⟩:=exq (cE0 ⟨xp,xd,xs,xe⟩);rw[<-hSM]at HSM ⊢;clear hSM q2 q3;replace HOS:Hid (∀y∈xs,WfI y.c):=HOS;go_enter Tryz.func16,Tryz.ntmps16
 cases l7:cJ1 xp.length xd with
 | false =>
  rw[l7]at HSM;go_wp2_with fail
  rw[<-cq];clear cq;refine(dE1 xp.length xd _ l7).mono ?_;rintro e w1 ⟨rfl,rfl⟩;go_wp2_with fail
  go_ret;exact⟨_,rfl,by rw[HSM.out];rfl,HG0.out⟩
 | true =>
  rw[l7]at HSM;replace HSM:Hid (SM=some (runSets (newM xp.length xd) xs)):=HSM;go_wp2_with fail
  rw[<-cq];clear cq;refine(yA0 xp.length xd _ l7).mono ?_;rintro e w1 ⟨rfl,q9,an⟩;clear q0 q1;go_wp2_with fail
  go_loopw [5] (λi wr=>∃(k:Nat),k<=xs.length/\i=.int .i64 k/\gR wr (W0.heap.size+1) W0.heap.size (runSets (newM xp.length xd) (xs.take k))/\aB W0 wr) (λi _=>xs.length-(intOf i).toNat)
  case atStart=>exact⟨0,Ar _,rfl,q9,an⟩
  case round =>
  obtain⟨k,hk,rfl,hm,hg⟩:=hrel;clear q9 an;by_cases ae:k<xs.length
  ·obtain⟨⟨sr,sl,sq⟩,hs⟩:∃s,xs[k]?=some s:=⟨_,Ac ae⟩
   have hsq:WfI sq:=HOS.out _ (List.mem_of_getElem? hs);have HT:=Ad (iU0 (m:=newM xp.length xd) hs);obtain⟨lb,lo,rfl,ci⟩:=HS.out.get (aK ae);have cn:(k:Int)<xs.length:=by omega
   have b2:=hg.cell HQ.out.2.2.1;have z2:∀x:Ext aB wr.drew,x.u.cell? ⟨w.heap.size,2,none⟩=some (.slice (some ⟨lb,lo,none⟩) xs.length sc):=aF (hg.dr.cell HQ.out.2.2.1);have y0:∀x:Ext aB wr.drew,x.u.cell? ⟨lb,lo+k*3,none⟩=some (.int .i64 sr):=aF (hg.dr.cell (ci k _ hs 0 _ rfl));have y1:∀x:Ext aB wr.drew,x.u.cell? ⟨lb,lo+k*3+1,none⟩=some (.int .i64 sl):=aF (hg.dr.cell (ci k _ hs 1 _ rfl));have y2:∀x:Ext aB wr.drew,x.u.cell? ⟨lb,lo+k*3+2,none⟩=some (.int .i64 sq):=aF (hg.dr.cell (ci k _ hs 2 _ rfl));clear ci hs;generalize runSets (newM xp.length xd) (xs.take k)=M1 at *;go_wp2_with fail
   refine lC 19 (bB 19 []) (by kernel_rfl) (λd _ _ _ _ h=>by cases d<;>exact h) ?_
   iterate 19 (refine aH rfl (λK hK=>?_);go_simp;refine hK _ ?_;clear hK K)
   refine cB ?_;simp only[Ap,At];clear z2 y0 y1 y2 b2;have hSV:=cO1 wr.drew _ _ _ (hm.grows (aB.drew wr)) sr sl sq hsq;go_wp2_with fail
   refine hSV.mono ?_;rintro e w4 ⟨rfl,hm4,ch⟩;have jx:aB W0 w4:=hg.dr.grown ch (λq hq=>by cases hq;exact Ak _);go_wp2_with fail
   go_roundw
   case rel=>exact⟨k+1,ae,by go_num,by rw[HT.out];exact hm4,jx⟩
   case measure=>simp[intOf];omega
  ·obtain rfl:k=xs.length:=by omega
   rw[List.take_length]at hm;have b2:=hg.cell HQ.out.2.2.1;go_wp2_with fail
   go_ret;refine⟨_,rfl,?_,aB.trans _ _ _ HG0.out hg⟩;rw[HSM.out];exact⟨_,_,rfl,hm⟩
theorem yK {w:World} {a:Option Addr} {c:Nat} {l:List UInt8} (h:aG w a 1 (l.map aY)):(convert 28 9 (.slice a l.length c)).run Tryz.prog w=.ok (.string (mkB l)) w:=by
 cases l with
 | nil =>
  rw[run_convert_bytes_string w 28 9 5 a ([]:List UInt8).length c Tryz.underlying28 Tryz.underlying5 Tryz.underlying9];cases a<;>(simp[Conv.bytesToString];rfl)
 | cons x r =>
  obtain⟨b,o,rfl,hc⟩:=h.get (by simp);generalize hL:x::r=L at *;have hz:(mkB L).size=L.length:=by rw[Aw,jM]
  have hB:Lib.Bytes w b o (mkB L):=λi hi=>by
   rw[hz]at hi;have h1:=hc i L[i] (by simp_all) 0 _ rfl;have hg:(mkB L)[i]'(by rw[hz];exact hi)=L[i]:=rfl;simp_all
  have:=Lib.run_convert_whole (P:=Tryz.prog) w 28 5 9 Tryz.underlying28 Tryz.underlying5 Tryz.underlying9 b o (mkB L) hB c
  rw[hz]at this;exact this
def rdT (l:List UInt8):Option (ByteArray×Nat):=match rdU l with
 | none=>none
 | some (n,j)=>if n<=(l.drop j).length then some (mkB ((l.drop j).take n),j+n) else none
def uK0 (k:Nat):Option (ByteArray×Nat)->Value
 | some (v,n) => .tuple #[.string v,.int .i64 ((k+n:Nat):Int),.bool true]
 | none => .tuple #[.string ⟨#[]⟩,.int .i64 0,.bool false]
def nJ1 (R:Option (ByteArray×Nat)) (rb k:Nat) (w:World) (e:Ending) (w':World):Prop :=
 ((∃v n,R=some (v,n)/\e=.returned (.string v)/\w'.cell? ⟨rb,1,none⟩=some (.int .i64 ((k+n:Nat):Int)))\/(R=none/\e=.panicked [{ v:=lS0,recovered:=false }]))/\EB rb w w'
theorem tH0 (p0 p1 p2:Nat) (w:World) (pj:List PanicEntry) (v0 v1 v2:Value) (c0:w.cell? ⟨p0,0,none⟩=some v0) (c1:w.cell? ⟨p1,0,none⟩=some v1) (c2:w.cell? ⟨p2,0,none⟩=some v2)
  (f0:w.frozen? ⟨p0,0,none⟩=false) (f1:w.frozen? ⟨p1,0,none⟩=false) (f2:w.frozen? ⟨p2,0,none⟩=false) (n01:p0≠p1) (n02:p0≠p2) (n12:p1≠p2) (B:Nat) (vl:B<=p0) (xw:B<=p1) (k7:B<=p2) :
  CallsD Tryz.prog 265 #[.pointer (some ⟨p0,0,none⟩),.pointer (some ⟨p1,0,none⟩),.pointer (some ⟨p2,0,none⟩)] (.panicking ({ v:=lS0,recovered:=false }::pj)) w λe u' w' =>
   e=.returned (.tuple #[])/\u' = .panicking ({ v:=lS0,recovered:=true }::pj)/\w'.cell? ⟨p0,0,none⟩=some (.string ⟨#[]⟩)/\w'.cell? ⟨p1,0,none⟩=some (.int .i64 0)/\w'.cell? ⟨p2,0,none⟩=some (.bool false)/\EB B w w':=by
 have hta:∀W:World,(Instr.typeAssert (.iface 339 (.agg #[])) 20 339 true).run Tryz.prog W=.ok (.tuple #[.agg #[],.bool true]) W:=λW=>by kernel_rfl
 have mn:=aB.alloc w (.cells #[] 339);have b0:=Ae w _ c0;have b1:=Ae w _ c1;have b2:=Ae w _ c2;have d0:=mn.cell c0;have d1:=mn.cell c1;have d2:=mn.cell c2;have g0:=(mn.froz (p:=⟨p0,0,none⟩) b0).trans f0;have g1:=(mn.froz (p:=⟨p1,0,none⟩) b1).trans f1;have g2:=(mn.froz (p:=⟨p2,0,none⟩) b2).trans f2;have e1:(w.alloc (.cells #[] 339) |>.setCell ⟨p0,0,none⟩ (.string ⟨#[]⟩)).cell? ⟨p1,0,none⟩=some v1:=(Aa _ _ _ _ (by simp_all)).trans d1
 have e2:((w.alloc (.cells #[] 339) |>.setCell ⟨p0,0,none⟩ (.string ⟨#[]⟩)).setCell ⟨p1,0,none⟩ (.int .i64 0)).cell? ⟨p2,0,none⟩=some v2:=(Aa _ _ _ _ (by simp_all)).trans ((Aa _ _ _ _ (by simp_all)).trans d2)
 refine callsD_of_wpS Tryz.func265 rfl λc₀ cs hu=>?_;apply wpS_seq
 apply wpS_region
 simp[wpOpsS,go_sem,recoverD,hu,Tryz.ntmps265,Exit.thenS,lS0]
 refine wpS_of_wp ?_;rw[show (#[Value.pointer (some ⟨p0,0,none⟩),.pointer (some ⟨p1,0,none⟩),.pointer (some ⟨p2,0,none⟩)]++(Ao 11 undef).setIfInBounds 4 (.iface 339 (.agg #[]))) = #[.pointer (some ⟨p0,0,none⟩),.pointer (some ⟨p1,0,none⟩),.pointer (some ⟨p2,0,none⟩),undef,undef,undef,undef,.iface 339 (.agg #[]),undef,undef,undef,undef,undef,undef] from rfl]
 go_wp2
 have lg:(((w.setCell ⟨p0,0,none⟩ (.string ⟨#[]⟩)).setCell ⟨p1,0,none⟩ (.int .i64 0)).setCell ⟨p2,0,none⟩ (.bool false)).cell? ⟨p0,0,none⟩=some (.string ⟨#[]⟩):=by
  rw[Aa _ _ _ _ (by simp_all),Aa _ _ _ _ (by simp_all)];exact Ab _ _ _ c0
 have dw:(((w.setCell ⟨p0,0,none⟩ (.string ⟨#[]⟩)).setCell ⟨p1,0,none⟩ (.int .i64 0)).setCell ⟨p2,0,none⟩ (.bool false)).cell? ⟨p1,0,none⟩=some (.int .i64 0):=by
  rw[Aa _ _ _ _ (by simp_all)];exact Ab _ _ _ ((Aa _ _ _ _ (by simp_all)).trans c1)
 have ew:(((w.setCell ⟨p0,0,none⟩ (.string ⟨#[]⟩)).setCell ⟨p1,0,none⟩ (.int .i64 0)).setCell ⟨p2,0,none⟩ (.bool false)).cell? ⟨p2,0,none⟩=some (.bool false) :=
  Ab _ _ _ ((Aa _ _ _ _ (by simp_all)).trans ((Aa _ _ _ _ (by simp_all)).trans c2))
 have gm:Below B w ((((w.setCell ⟨p0,0,none⟩ (.string ⟨#[]⟩)).setCell ⟨p1,0,none⟩ (.int .i64 0)).setCell ⟨p2,0,none⟩ (.bool false)).alloc (.cells #[] 339)):=((((Below.refl B w).setCell (p:=⟨p0,0,none⟩) vl _).setCell (p:=⟨p1,0,none⟩) xw _).setCell (p:=⟨p2,0,none⟩) k7 _).alloc (by simp;omega) _;have pm:=aB.alloc (((w.setCell ⟨p0,0,none⟩ (.string ⟨#[]⟩)).setCell ⟨p1,0,none⟩ (.int .i64 0)).setCell ⟨p2,0,none⟩ (.bool false)) (.cells #[] 339);have k0:=pm.cell lg;have k1:=pm.cell dw;have k2:=pm.cell ew;have cv:EB B w ((((w.setCell ⟨p0,0,none⟩ (.string ⟨#[]⟩)).setCell ⟨p1,0,none⟩ (.int .i64 0)).setCell ⟨p2,0,none⟩ (.bool false)).alloc (.cells #[] 339)):=⟨gm,gm.size⟩;exact⟨rfl,_,rfl,_,results_none rfl _ _ _,rfl,rfl,k0,k1,k2,cv⟩
theorem iB1 (p0 p1 p2:Nat) (w:World) :
  CallsD Tryz.prog 265 #[.pointer (some ⟨p0,0,none⟩),.pointer (some ⟨p1,0,none⟩),.pointer (some ⟨p2,0,none⟩)] .returning w λe u' w'=>e=.returned (.tuple #[])/\u' = .returning/\w'=w:=by
 refine callsD_of_wpS Tryz.func265 rfl λc₀ cs hu=>?_;apply wpS_seq
 apply wpS_region
 simp[wpOpsS,go_sem,recoverD,hu,Tryz.ntmps265,Exit.thenS]
 refine wpS_of_wp ?_;rw[show (#[Value.pointer (some ⟨p0,0,none⟩),.pointer (some ⟨p1,0,none⟩),.pointer (some ⟨p2,0,none⟩)]++(Ao 11 undef).setIfInBounds 4 .nilIface) = #[.pointer (some ⟨p0,0,none⟩),.pointer (some ⟨p1,0,none⟩),.pointer (some ⟨p2,0,none⟩),undef,undef,undef,undef,.nilIface,undef,undef,undef,undef,undef,undef] from rfl]
 go_wp2
 cases c₀
 simp only at hu;subst hu;exact⟨rfl,_,rfl,_,results_none rfl _ _ _,rfl,rfl,rfl⟩
theorem nC1 (b:List UInt8) (rb k:Nat) (ba:Option Addr) (bc:Nat) (w:World) (hk:k<=b.length) (hb:b.length<=1099511627776) (fg:b.length<=bc) (jh:ba=none->bc=0) (ac:aG w ba 1 (b.map aY)) (hba:∀q:Addr,ba=some q->b≠[]->q.block<rb)
  (c0:w.cell? ⟨rb,0,none⟩=some (.slice ba b.length bc)) (c1:w.cell? ⟨rb,1,none⟩=some (.int .i64 k)) (f1:w.frozen? ⟨rb,1,none⟩=false) :
  Calls Tryz.prog 210 #[.pointer (some ⟨rb,0,none⟩)] w (nJ1 (rdT (b.drop k)) rb k w):=by
 have hRT:∀n j,rdU (b.drop k)=some (n,j)->rdT (b.drop k)=if n<=(b.drop (k+j)).length then some (mkB ((b.drop (k+j)).take n),j+n) else none:=λn j h=>by
  unfold rdT;rw[h];simp only;rw[As]
 have vm:rdU (b.drop k)=none->rdT (b.drop k)=none:=λh=>by unfold rdT;rw[h]
 have CN:=Ad (yC0 b rb k ba bc w hk hb ac hba c0 c1 f1);have HAT:=Ad ac;have HNC:=Ad jh;have HBA:=Ad hba;have hrb:=Ae w _ c0;simp only at hrb
 cases hU:rdU (b.drop k) with
 | none =>
  rw[hU]at CN;have HR:=Ad (vm hU);clear hRT vm hU ac hba;go_enter Tryz.func210,Tryz.ntmps210
  go_wp2_with fail
  refine CN.out.mono ?_;rintro e w1 ⟨nf,cv⟩;rcases nf with ⟨v,n,hR,_⟩|⟨_,rfl⟩
  ·cases hR
  ·exact⟨rfl,Or.inr ⟨HR.out,rfl⟩,cv⟩
 | some x =>
  obtain⟨n,j⟩:=x;rw[hU]at CN;have HR:=Ad (hRT n j hU);obtain⟨r,um,hlr,hjj⟩:=hH0.1 hU
  have hj:j<=b.length-k:=by
   have:=congrArg List.length hlr
   rw[Ah,List.length_append]at this;omega
  clear hlr hjj r;clear hRT vm ac hba hU;obtain⟨K,hK⟩:=exq (k+j);have hKb:K<=b.length:=by omega
  rw[<-hK]at HR;have HK:=Ad hK;go_enter Tryz.func210,Tryz.ntmps210
  go_wp2_with fail
  refine CN.out.mono ?_;rintro e w1 ⟨nf,cv⟩;rcases nf with ⟨v,n',hR,rfl,o9,rk,hf1⟩|⟨hR,_⟩
  case inr=>cases hR
  obtain⟨rfl,rfl⟩:n=v/\j=n':=by simpa using hR
  rw[<-hK]at o9;have z0:∀x:Ext aB w1.drew,x.u.cell? ⟨rb,0,none⟩=some (.slice ba b.length bc):=aF ((aB.drew w1).cell rk);have z1:∀x:Ext aB w1.drew,x.u.cell? ⟨rb,1,none⟩=some (.int .i64 (K:Int)):=aF ((aB.drew w1).cell o9);have ae1:IntKind.i64.wrap ((b.length:Int)-(K:Int))=((b.length-K:Nat):Int):=by simp[Am,An,Aj];omega
  have wcv:IntKind.u64.wrap ((b.length-K:Nat):Int)=((b.length-K:Nat):Int):=by simp[Am,An,Aj];omega
  clear hR hK;by_cases cu:b.length-K<n
  ·have lj:((b.length-K:Nat):Int)<n:=by omega
   have HRN:Hid (rdT (b.drop k)=none):=by show _=_;rw[HR.out,if_neg (by rw[Ah];omega)]
   clear HR;go_wp2_with fail
   refine bK (bB 13 []) (by kernel_rfl) (λd _ _ _ _ h=>by cases d<;>exact h) ?_
   iterate 13 (refine aH rfl (λK hK=>?_);go_simp;refine hK _ ?_;clear hK K)
   refine cB ?_;clear z0 z1;go_wp2_with fail
   exact⟨rfl,Or.inr ⟨HRN.out,rfl⟩,EB.trans _ _ _ _ cv (EB.of (aB.drew w1) (Au (Av hrb) cv.2))⟩
  ·have lj:¬((b.length-K:Nat):Int)<n:=by omega
   have HRS:Hid (rdT (b.drop k)=some (mkB ((b.drop K).take n),j+n)):=by show _=_;rw[HR.out,if_pos (by rw[Ah];omega)]
   clear HR;go_wp2_with fail
   refine bK (bB 13 []) (by kernel_rfl) (λd _ _ _ _ h=>by cases d<;>exact h) ?_
   iterate 13 (refine aH rfl (λK hK=>?_);go_simp;refine hK _ ?_;clear hK K)
   refine cB ?_;clear z0 z1;have y0:∀x:Ext aB w1.drew.drew,x.u.cell? ⟨rb,0,none⟩=some (.slice ba b.length bc):=aF ((aB.drew _).cell ((aB.drew w1).cell rk));have y1:∀x:Ext aB w1.drew.drew,x.u.cell? ⟨rb,1,none⟩=some (.int .i64 (K:Int)):=aF ((aB.drew _).cell ((aB.drew w1).cell o9));have wn:IntKind.i64.wrap (n:Int)=n:=by simp[Am,An,Aj];omega
   have wa:IntKind.i64.wrap ((K:Int)+n)=((K+n:Nat):Int):=by simp[Am,An,Aj];omega
   go_wp2_with fail
   refine bK (bB 18 []) (by kernel_rfl) (λd _ _ _ _ h=>by cases d<;>exact h) ?_
   have h01:(0:Int)<=(K:Int)+n:=by omega
   have h02:(K:Int)+n<=bc:=by omega
   have tn:((K:Int)+n).toNat=K+n:=by omega
   have tk:K<=K+n:=by omega
   have tm:K+n-K=n:=by omega
   have HAT1:aG w1 ba 1 (b.map aY):=λaj=>by
    obtain⟨bb,bo,e,hc⟩:=HAT.out aj;have ae:=HBA.out _ e (λh0=>aj (by rw[h0];rfl));exact⟨bb,bo,e,λi row hi j v hj=>(Below.cell cv.1 (by simpa using ae)).trans (hc i row hi j v hj)⟩
   obtain⟨a',im,jy,_⟩:=aM0 (c:=bc) (l:=K) (h:=K+n) (k:=1) HAT1 HNC.out (by omega) (by omega) (by omega);rw[show K+n-K=n by omega]at im
   have ahj:(if bc=K then ba else Ay (λx=>x.add K) ba)=a':=by
    unfold sliced at im;by_cases uq:bc=K
    ·rw[if_pos uq]at im ⊢;exact(Value.slice.inj im).1
    ·rw[if_neg uq]at im ⊢
     have:=(Value.slice.inj im).1
     rw[<-this];congr 1
     funext x
     rw[Ax]
   have m9:((b.take (K+n)).drop K)=(b.drop K).take n:=by rw[List.take_drop]
   have xy:((b.drop K).take n).length=n:=by rw[List.length_take,Ah];omega
   rw[m9]at jy
   have te:∀x:Ext aB w1.drew.drew,(convert 28 9 (.slice a' n (bc-K))).run Tryz.prog x.u=.ok (.string (mkB ((b.drop K).take n))) x.u:=λx=>by
    have:=yK (c:=bc-K) (jy.grows (aB.trans _ _ _ (aB.trans _ _ _ (aB.drew w1) (aB.drew _)) x.h))
    rw[xy]at this;exact this
   generalize (b.drop K).take n=S at *;iterate 18 (refine aH rfl (λK hK=>?_);go_simp;refine hK _ ?_;clear hK K)
   refine cB ?_;go_wp2_with fail
   go_ret;refine⟨Or.inl ⟨_,_,HRS.out,rfl,?_⟩,EB.trans _ _ _ _ (EB.trans _ _ _ _ cv (⟨(Below.refl rb w1).setCell (p:=⟨rb,1,none⟩) (Ak rb) _,by simp⟩:EB rb w1 (w1.setCell ⟨rb,1,none⟩ (.int .i64 ((K:Int)+n))))) (EB.of ((aB.drew _).dr) (by simp;exact Au (Av hrb) cv.2))⟩;rw[show ((k+(j+n):Nat):Int)=(K:Int)+n by rw[HK.out];push_cast;omega]
   exact Ab _ _ _ o9
structure rM1 (w:World) (s:Value) (k:Int) (W:World):Prop where
 g:aB w W
 sz:w.heap.size+1+1+1<W.heap.size
 c0:W.cell? ⟨w.heap.size,0,none⟩=some (.string ⟨#[]⟩)
 f0:W.frozen? ⟨w.heap.size,0,none⟩=false
 c1:W.cell? ⟨w.heap.size+1,0,none⟩=some (.int .i64 0)
 f1:W.frozen? ⟨w.heap.size+1,0,none⟩=false
 c2:W.cell? ⟨w.heap.size+1+1,0,none⟩=some (.bool false)
 f2:W.frozen? ⟨w.heap.size+1+1,0,none⟩=false
 r0:W.cell? ⟨w.heap.size+1+1+1,0,none⟩=some s
 r1:W.cell? ⟨w.heap.size+1+1+1,1,none⟩=some (.int .i64 k)
 rf:W.frozen? ⟨w.heap.size+1+1+1,1,none⟩=false
theorem rN1 (w:World) (s:Value) (k:Int):rM1 w s k ((((w.alloc (.cells #[.string ⟨#[]⟩] 9)).alloc (.cells #[.int .i64 0] 3)).alloc (.cells #[.bool false] 4)).alloc (.cells #[s,.int .i64 k] 341)):=by
 have e1:(w.alloc (.cells #[.string ⟨#[]⟩] 9)).heap.size=w.heap.size+1:=by simp
 have e2:((w.alloc (.cells #[.string ⟨#[]⟩] 9)).alloc (.cells #[.int .i64 0] 3)).heap.size=w.heap.size+1+1:=by simp
 have e3:(((w.alloc (.cells #[.string ⟨#[]⟩] 9)).alloc (.cells #[.int .i64 0] 3)).alloc (.cells #[.bool false] 4)).heap.size=w.heap.size+1+1+1:=by simp
 have b0:=bT (w:=w) (cs:=#[.string ⟨#[]⟩]) (t:=9) (w':=((((w.alloc (.cells #[.string ⟨#[]⟩] 9)).alloc (.cells #[.int .i64 0] 3)).alloc (.cells #[.bool false] 4)).alloc (.cells #[s,.int .i64 k] 341))) (((aB.alloc _ _).al _).al _);have b1:=bT (w:=w.alloc (.cells #[.string ⟨#[]⟩] 9)) (cs:=#[.int .i64 0]) (t:=3) (w':=((((w.alloc (.cells #[.string ⟨#[]⟩] 9)).alloc (.cells #[.int .i64 0] 3)).alloc (.cells #[.bool false] 4)).alloc (.cells #[s,.int .i64 k] 341))) ((aB.alloc _ _).al _);have b2:=bT (w:=(w.alloc (.cells #[.string ⟨#[]⟩] 9)).alloc (.cells #[.int .i64 0] 3)) (cs:=#[.bool false]) (t:=4) (w':=((((w.alloc (.cells #[.string ⟨#[]⟩] 9)).alloc (.cells #[.int .i64 0] 3)).alloc (.cells #[.bool false] 4)).alloc (.cells #[s,.int .i64 k] 341))) (aB.alloc _ _);have b3:=bT (w:=((w.alloc (.cells #[.string ⟨#[]⟩] 9)).alloc (.cells #[.int .i64 0] 3)).alloc (.cells #[.bool false] 4)) (cs:=#[s,.int .i64 k]) (t:=341) (w':=((((w.alloc (.cells #[.string ⟨#[]⟩] 9)).alloc (.cells #[.int .i64 0] 3)).alloc (.cells #[.bool false] 4)).alloc (.cells #[s,.int .i64 k] 341))) (aB.refl _);rw[e1]at b1;rw[e2]at b2;rw[e3]at b3;exact⟨(((aB.alloc _ _).al _).al _).al _,by simp,b0.1 0 _ rfl,b0.2 0,b1.1 0 _ rfl,b1.2 0,b2.1 0 _ rfl,b2.2 0,b3.1 0 _ rfl,b3.1 1 _ rfl,b3.2 1⟩
theorem cU1 (b:List UInt8) (k:Nat) (ba:Option Addr) (bc:Nat) (w:World) (hk:k<=b.length) (hb:b.length<=1099511627776) (fg:b.length<=bc) (jh:ba=none->bc=0) (ac:aG w ba 1 (b.map aY)) :
  Calls Tryz.prog 209 #[.slice ba b.length bc,.int .i64 k,.func (.func 210) #[] #[]] w λe w'=>e=.returned (uK0 k (rdT (b.drop k)))/\aB w w':=by
 have un:∀(fn:Fn) (first cap:Array Value) (w:World),(Instr.makeFunc fn first cap).run Tryz.prog w=.ok (.func fn first cap) w:=λ_ _ _ _=>rfl
 have ow:¬(k:Int)<0:=by omega
 have HAT:=Ad ac
 have HBA:Hid (∀q:Addr,ba=some q->b≠[]->q.block<w.heap.size):=λq hq aj=>by
  obtain⟨x,hx⟩:∃x,b[0]?=some x:=⟨_,Ac (List.length_pos_iff.2 aj)⟩;obtain⟨bb,bo,e,fg⟩:=ac.get aj;rw[e]at hq;cases hq
  exact Ae _ _ (fg 0 x hx 0 _ rfl)
 obtain⟨R,hR⟩:=exq (rdT (b.drop k));have HR:=Ad hR;rw[<-hR];clear hR ac;go_enter_defers Tryz.func209,Tryz.ntmps209
 go_wp2_with fail
 have hB:=rN1 w (.slice ba b.length bc) k;generalize ((((w.alloc (.cells #[Value.string ⟨#[]⟩] 9)).alloc (.cells #[.int .i64 0] 3)).alloc (.cells #[.bool false] 4)).alloc (.cells #[Value.slice ba b.length bc,.int .i64 k] 341))=W4 at *;refine(nC1 b _ k ba bc W4 hk hb fg jh (HAT.out.grows hB.g) (λq hq aj=>Nat.lt_trans (HBA.out q hq aj) (by omega)) hB.r0 hB.r1 hB.rf).mono ?_;rintro e w5 ⟨nf,cv⟩;rw[<-HR.out]at nf;have hs5:=cv.2;have de:=hB.sz;have c0:w5.cell? ⟨w.heap.size,0,none⟩=_:=(Below.cell cv.1 (by simp only;omega)).trans hB.c0;have c1:w5.cell? ⟨w.heap.size+1,0,none⟩=_:=(Below.cell cv.1 (by simp only;omega)).trans hB.c1;have c2:w5.cell? ⟨w.heap.size+1+1,0,none⟩=_:=(Below.cell cv.1 (by simp only;omega)).trans hB.c2;have f0:w5.frozen? ⟨w.heap.size,0,none⟩=_:=(Below.frozen cv.1 (by simp only;omega)).trans hB.f0;have f1:w5.frozen? ⟨w.heap.size+1,0,none⟩=_:=(Below.frozen cv.1 (by simp only;omega)).trans hB.f1;have f2:w5.frozen? ⟨w.heap.size+1+1,0,none⟩=_:=(Below.frozen cv.1 (by simp only;omega)).trans hB.f2;have bv:aB w w5:=lM0 hB.g cv (by omega);rcases nf with ⟨v,n,rfl,rfl,hc⟩|⟨rfl,rfl⟩
 ·have g0:(w5.setCell ⟨w.heap.size,0,none⟩ (.string v)).cell? ⟨w.heap.size,0,none⟩=some (.string v):=Ab _ _ _ c0
  have g1:(w5.setCell ⟨w.heap.size,0,none⟩ (.string v)).cell? ⟨w.heap.size+1,0,none⟩=some (.int .i64 0):=(Aa _ _ _ _ (λe=>by have:=congrArg Af e;simp only at this;omega)).trans c1;have g2:(w5.setCell ⟨w.heap.size,0,none⟩ (.string v)).cell? ⟨w.heap.size+1+1,0,none⟩=some (.bool false):=(Aa _ _ _ _ (λe=>by have:=congrArg Af e;simp only at this;omega)).trans c2;have g3:(w5.setCell ⟨w.heap.size,0,none⟩ (.string v)).cell? ⟨w.heap.size+1+1+1,1,none⟩=some (.int .i64 ((k+n:Nat):Int)):=(Aa _ _ _ _ (λe=>by have:=congrArg Af e;simp only at this;omega)).trans hc
  have gg:∀j,j=w.heap.size\/j=w.heap.size+1\/j=w.heap.size+1+1->(w5.setCell ⟨w.heap.size,0,none⟩ (.string v)).frozen? ⟨j,0,none⟩=false:=λj hj=>by
   rw[Ag];rcases hj with rfl|rfl|rfl
   ·exact f0
   ·exact f1
   ·exact f2
  obtain⟨K,oe⟩:=exq (k+n);rw[<-oe]at g3 hc;have HK2:=Ad oe;clear oe;have hgp:aB w (w5.setCell ⟨w.heap.size,0,none⟩ (.string v)):=bv.set (by simp only;omega) _;have hsp:w.heap.size+1+1+1<(w5.setCell ⟨w.heap.size,0,none⟩ (.string v)).heap.size:=by simp;omega
  clear HR hB cv c1 c2 f1 f2 hc bv;go_wp2_with fail
  clear c0 f0;generalize (w5.setCell ⟨w.heap.size,0,none⟩ (.string v))=w6 at *;have z0:∀x:Ext (ES w.heap.size (.string v)) w6.drew,x.u.cell? ⟨w.heap.size,0,none⟩=some (.string v):=λx=>x.h.2.2.2.1 ((aB.drew _).cell g0);have z3:∀x:Ext (ES w.heap.size (.string v)) w6.drew,x.u.cell? ⟨w.heap.size+1+1+1,1,none⟩=some (.int .i64 (K:Int)):=λx=>x.h.2.1 _ _ (by simp only;omega) ((aB.drew _).cell g3);have x0:w6.drew.cell? ⟨w.heap.size,0,none⟩=some (.string v):=g0;have xf:w6.drew.frozen? ⟨w.heap.size,0,none⟩=false:=gg _ (Or.inl rfl);refine rX0 ?_;refine qB0 (ES w.heap.size (.string v)) 6 (bB 6 [5]) (ES.refl _ _) (ES.trans _ _) (by kernel_rfl) (by kernel_rfl) (λ_ _ _ _ _ h=>h) ?_;iterate 5 (refine aH rfl (λK hK=>?_);go_simp;refine hK _ ?_;clear hK K)
  refine bH rfl rfl (λK hK=>?_);go_simp;refine⟨ES.put x0,hK _ _ ?_⟩;clear hK K;refine cB ?_;simp only[Ap,At];clear z0 z3;have n0:=g0;have y0:(w6.setCell ⟨w.heap.size,0,none⟩ (.string v)).cell? ⟨w.heap.size,0,none⟩=some (.string v):=Ab _ _ _ g0;have y1:(w6.setCell ⟨w.heap.size,0,none⟩ (.string v)).cell? ⟨w.heap.size+1,0,none⟩=some (.int .i64 0):=(Aa _ _ _ _ (λe=>by have:=congrArg Af e;simp only at this;omega)).trans g1;have y2:(w6.setCell ⟨w.heap.size,0,none⟩ (.string v)).cell? ⟨w.heap.size+1+1,0,none⟩=some (.bool false):=(Aa _ _ _ _ (λe=>by have:=congrArg Af e;simp only at this;omega)).trans g2;have yg:aB w (w6.setCell ⟨w.heap.size,0,none⟩ (.string v)):=hgp.set (by simp only;omega) _;have yf1:(w6.setCell ⟨w.heap.size,0,none⟩ (.string v)).frozen? ⟨w.heap.size+1,0,none⟩=false:=(Ag _ _ _ _).trans (gg _ (Or.inr (Or.inl rfl)));have yf2:(w6.setCell ⟨w.heap.size,0,none⟩ (.string v)).frozen? ⟨w.heap.size+1+1,0,none⟩=false:=(Ag _ _ _ _).trans (gg _ (Or.inr (Or.inr rfl)));clear x0 xf g0 g1 g2 g3 gg n0;generalize w6.setCell ⟨w.heap.size,0,none⟩ (.string v)=w7 at *
  have k1:((w7.setCell ⟨w.heap.size+1,0,none⟩ (.int .i64 K)).setCell ⟨w.heap.size+1+1,0,none⟩ (.bool true)).drew.cell? ⟨w.heap.size+1,0,none⟩=some (.int .i64 K):=by
   refine(Aa _ _ _ _ (λe=>by have:=congrArg Af e;simp only at this;omega)).trans ?_;exact Ab _ _ _ y1
  have y2':(w7.setCell ⟨w.heap.size+1,0,none⟩ (.int .i64 K)).cell? ⟨w.heap.size+1+1,0,none⟩=some (.bool false):=by
   rw[Aa _ _ _ _ (λe=>by have:=congrArg Af e;simp only at this;omega)];exact y2
  have k2:((w7.setCell ⟨w.heap.size+1,0,none⟩ (.int .i64 K)).setCell ⟨w.heap.size+1+1,0,none⟩ (.bool true)).drew.cell? ⟨w.heap.size+1+1,0,none⟩=some (.bool true):=Ab _ _ _ y2'
  have k0:((w7.setCell ⟨w.heap.size+1,0,none⟩ (.int .i64 K)).setCell ⟨w.heap.size+1+1,0,none⟩ (.bool true)).drew.cell? ⟨w.heap.size,0,none⟩=some (.string v):=by
   refine(Aa _ _ _ _ (λe=>by have:=congrArg Af e;simp only at this;omega)).trans ?_;refine(Aa _ _ _ _ (λe=>by have:=congrArg Af e;simp only at this;omega)).trans ?_;exact y0
  have kg:aB w ((w7.setCell ⟨w.heap.size+1,0,none⟩ (.int .i64 K)).setCell ⟨w.heap.size+1+1,0,none⟩ (.bool true)).drew:=((yg.set (by simp only;omega) _).set (by simp only;omega) _).dr;go_wp2_with fail
  simp only[xQ];go_wp2_with fail
  refine leaves_cons (f:=265) (args:=#[.pointer (some ⟨w.heap.size,0,none⟩),.pointer (some ⟨w.heap.size+1,0,none⟩),.pointer (some ⟨w.heap.size+1+1,0,none⟩)]) (by simp) (by simp[go_sem]) ?_
  refine(iB1 _ _ _ _).mono ?_;rintro e u' q6 ⟨rfl,rfl,rfl⟩;show Leaves _ _ _ _ _ _ _
  simp only[settle];refine⟨.tuple #[.string v,.int .i64 K,.bool true],?_,by rw[HK2.out];rfl,kg⟩;simp[results,Tryz.results209,go_sem,k0,k1,k2]
 ·clear HR hB cv
  go_wp2_with fail
  refine leaves_cons (f:=265) (args:=#[.pointer (some ⟨w.heap.size,0,none⟩),.pointer (some ⟨w.heap.size+1,0,none⟩),.pointer (some ⟨w.heap.size+1+1,0,none⟩)]) (by simp) (by simp[go_sem]) ?_
  refine(tH0 w.heap.size (w.heap.size+1) (w.heap.size+1+1) w5 [] _ _ _ c0 c1 c2 f0 f1 f2 (by omega) (by omega) (by omega) w.heap.size (by omega) (by omega) (by omega)).mono ?_;rintro e u' q6 ⟨rfl,rfl,k0,k1,k2,acs⟩;have kg:aB w q6:=EB.grows bv acs;show Leaves _ _ _ _ _ _ _
  simp only[settle];refine⟨.tuple #[.string ⟨#[]⟩,.int .i64 0,.bool false],?_,rfl,kg⟩;simp[results,Tryz.results209,go_sem,k0,k1,k2]
theorem dV0 (b:List UInt8) (k:Nat) (ba:Option Addr) (bc:Nat) (w:World) (hk:k<=b.length) (hb:b.length<=1099511627776) (fg:b.length<=bc) (jh:ba=none->bc=0) (ac:aG w ba 1 (b.map aY)) :
  Calls Tryz.prog 146 #[.slice ba b.length bc,.int .i64 k] w λe w'=>e=.returned (uK0 k (rdT (b.drop k)))/\aB w w':=by
 have CR:=Ad (cU1 b k ba bc w hk hb fg jh ac)
 cases hR:rdT (b.drop k) with
 | none =>
  rw[hR]at CR;unfold uK0 at CR ⊢;clear hR ac;go_enter Tryz.func146,Tryz.ntmps146
  go_wp2_with fail
  refine CR.out.mono ?_;rintro e w1 ⟨rfl,hg⟩;go_wp2_with fail
  go_ret3;exact⟨rfl,hg⟩
 | some x =>
  obtain⟨v,n⟩:=x;rw[hR]at CR;unfold uK0 at CR ⊢;obtain⟨K,hK⟩:=exq (k+n);simp only[<-hK]at CR ⊢;clear hR ac hK;go_enter Tryz.func146,Tryz.ntmps146
  go_wp2_with fail
  refine CR.out.mono ?_;rintro e w1 ⟨rfl,hg⟩;go_wp2_with fail
  go_ret3;exact⟨rfl,hg⟩
end
section
open Go Go.RowKit
theorem zD {w:World} {ba:Option Addr} {b:List UInt8} {bc l h:Nat} (ac:aG w ba 1 (b.map aY)) (hn:ba=none->bc=0) (h1:l<=h) (h2:h<=b.length) (h3:b.length<=bc) :
  ∃a',(if bc=l then ba else Ay (λx=>x.add l) ba)=a'/\aG w a' 1 (((b.take h).drop l).map aY)/\(a'=none->bc-l=0):=by
 obtain⟨a',im,jy,abk⟩:=aM0 (c:=bc) (l:=l) (h:=h) (k:=1) ac hn h1 h2 h3;refine⟨a',?_,jy,abk⟩;unfold sliced at im;by_cases uq:bc=l
 ·rw[if_pos uq]at im ⊢;exact(Value.slice.inj im).1
 ·rw[if_neg uq]at im ⊢
  have:=(Value.slice.inj im).1
  rw[<-this];congr 1
  funext x
  rw[Ax]
end
section
open Go Go.RowKit Go.Shelf
attribute [local go_sem] aO
def wchk (s:ByteArray):Int:=if countS s<0 then 10 else if countS s=0 then 1 else if 64<countS s then 2 else 0
theorem qI (s:ByteArray) (w:World) (hs:s.size<9223372036854775807) (he:Env w) :
  Calls Tryz.prog 27 #[.string s] w λe w'=>e=.returned (.int .i64 (wchk s))/\aB w w':=by
 have CC:=Ad (kP s w hs he);unfold wchk;generalize countS s=n at CC ⊢;clear hs he;go_enter Tryz.func27,Tryz.ntmps27
 by_cases h1:n<0
 ·rw[if_pos h1]
  go_wp2_with (go_at_call 10;refine CC.out.mono ?_;rintro e w' ⟨rfl,hg⟩)
  go_ret;exact⟨rfl,hg⟩
 ·rw[if_neg h1]
  by_cases h2:n=0
  ·subst h2
   rw[if_pos rfl];go_wp2_with (go_at_call 10;refine CC.out.mono ?_;rintro e w' ⟨rfl,hg⟩)
   go_ret;exact⟨rfl,hg⟩
  ·rw[if_neg h2]
   have hb:(n==0)=false:=by simpa using h2
   clear h2;by_cases h3:64<n
   ·rw[if_pos h3]
    go_wp2_with (go_at_call 10;refine CC.out.mono ?_;rintro e w' ⟨rfl,hg⟩)
    go_ret;exact⟨rfl,hg⟩
   ·rw[if_neg h3]
    go_wp2_with (go_at_call 10;refine CC.out.mono ?_;rintro e w' ⟨rfl,hg⟩)
    go_ret;exact⟨rfl,hg⟩
theorem xU0:readingS ⟨#[227,129,130]⟩=true:=by decide +kernel
theorem fT1 (s:ByteArray) (w:World) (hs:s.size<9223372036854775807) (he:Env w) :
  Calls Tryz.prog 35 #[.string s] w λe w'=>e=.returned (.bool (surfaceS s))/\aB w w':=by
 have CC:=Ad (dU0 ⟨#[227,129,130]⟩ s 0 0 0 1 w (by decide) hs he)
 have hk:xT ⟨#[227,129,130]⟩ s 0 0 0 1=if surfaceS s then 0 else 5:=by
  unfold xT;rw[xU0];cases surfaceS s<;>simp
 rw[hk]at CC;clear hs he hk;generalize surfaceS s=b at CC ⊢;go_enter Tryz.func35,Tryz.ntmps35
 cases b
 ·simp only[Bool.false_eq_true,if_false]at CC
  go_wp2_with (go_at_call 88;refine CC.out.mono ?_;rintro e w' ⟨rfl,hg⟩)
  go_ret;exact⟨rfl,hg⟩
 ·simp only[if_true]at CC
  go_wp2_with (go_at_call 88;refine CC.out.mono ?_;rintro e w' ⟨rfl,hg⟩)
  go_ret;exact⟨rfl,hg⟩
theorem xJ0 (w:World) (s:ByteArray) (hs:s.size<=70368744177664):∃c w',(convert 9 76 (.string s)).run Tryz.prog w=.ok (.slice (some ⟨w.heap.size,0,none⟩) (bD s.data.toList).length c) w'/\((bD s.data.toList).length<=c/\c<=maxLen)/\aB w w'/\aG w' (some ⟨w.heap.size,0,none⟩) 1 ((bD s.data.toList).map pZ):=by
 have hl:(Conv.runesFrom s s.size 0 #[]).size=(bD s.data.toList).length:=by
  rw[<-Array.length_toList,tS,Ai]
 have gv:=jH s.data.toList;have de:s.data.toList.length=s.size:=(Aw s).symm;have hr:=run_runes_of_string (P:=Tryz.prog) w 9 76 21 s Tryz.underlying9 Tryz.underlying76 Tryz.underlying21 (by omega);rw[hl]at hr;refine⟨_,_,hr,⟨grownCap_ge _ _ _ _,grownCap_le_maxLen _ _ _ _ (by unfold maxLen;omega)⟩,(aB.drew w).al _,λ_=>⟨w.heap.size,0,rfl,λi row hi j v hj=>?_⟩⟩
 obtain⟨x,hx,rfl⟩:∃x,(bD s.data.toList)[i]?=some x/\pZ x=row:=by
  rw[Al]at hi
  cases hq:(bD s.data.toList)[i]? with
  | none=>rw[hq]at hi;cases hi
  | some x=>rw[hq]at hi;exact⟨x,rfl,by simpa using hi⟩
 obtain rfl:j=0:=by
  have:=(List.getElem?_eq_some_iff.1 hj).1
  simp[pZ]at this;omega
 obtain rfl:Value.int .i32 x=v:=by simpa [pZ] using hj
 have hb:=aT w.drew (Conv.runesFrom s s.size 0 #[]++Ao (grownCap w (bD s.data.toList).length 0 21-(bD s.data.toList).length) (.int .i32 0)) 21 (0,0) i (.int .i32 x) (by
  have ld:=(List.getElem?_eq_some_iff.1 hx).1;rw[Array.getElem?_append_left (by rw[hl];exact ld),<-Array.getElem?_toList,tS,Al,hx];rfl)
 simpa using hb
theorem uC0 (s:ByteArray) (w:World) (hs:s.size<=70368744177664) (he:Env w) (hv:Lib.validD s.data.toList=true) :
  Calls Tryz.prog 28 #[.string s] w λe w'=>∃a c,e=.returned (.tuple #[.slice a (bD s.data.toList).length c,.bool true])/\((bD s.data.toList).length<=c/\c<=maxLen)/\aG w' a 1 ((bD s.data.toList).map pZ)/\aB w w':=by
 have cV:Calls Tryz.prog 43 #[.string s] w _:=Any.utf8_ValidString Tryz.laysValid s w (by omega) he.utf;rw[hv]at cV;have CV:=Ad cV;have HS:=Ad hs;clear cV he hs hv;go_enter Tryz.func28,Tryz.ntmps28
 go_wp2_with fail
 refine CV.out.mono ?_;rintro e w1 ⟨rfl,hg⟩;obtain⟨c,w2,ix,rp,af,ac⟩:=xJ0 w1 s HS.out;have G:=Ad (aB.trans _ _ _ (show aB w w1 from hg) af)
 have HA:=Ad ac;have HCC:=Ad rp;clear hg af ac rp;go_wp2_with fail
 go_ret2;exact⟨_,_,rfl,HCC.out,HA.out,G.out⟩
end
section
open Go Go.ChangeShapes Go.WideShapes Go.ChangeAt Go.RowKit Go.Shelf Go.Lib
open Go.ChangeMaps (open_string shut_string)
structure oR1 (x:jX1):Prop where
 r:(Lit.int .i64 x.r).wf=true
 l:(Lit.int .i64 x.l).wf=true
 c:(Lit.int .i64 x.c).wf=true
theorem kL1 {H:Type} {enc:TypeId×Value->H} {W:World} {base:Nat} {sp:Nat->Bool} {hd:Bool} (n:Nat) (cs:List Value) (x:DataW H×List MemPlace) (hl:cs.length=3) (h:DataW.trod enc Tryz.prog W base sp hd n 125 cs=some x) :
  ∃y:jX1,cs=oJ1 y/\oR1 y:=by
 obtain⟨xs,n,_,hx,_,ah,aw⟩:=DataW.trod_struct Tryz.underlying125 h
 match cs,hl with
 | [c0,c1,c2],_ =>
  match xs,ah with
  | [y0,y1,y2],_ =>
   have g0:=aw 0 _ rfl;have g1:=aw 1 _ rfl;have g2:=aw 2 _ rfl;obtain⟨n0,k0,_,z0⟩:=DataW.trod_int Tryz.underlying3 g0;obtain⟨n1,k1,_,z1⟩:=DataW.trod_int Tryz.underlying3 g1;obtain⟨n2,k2,_,z2⟩:=DataW.trod_int Tryz.underlying3 g2;refine⟨⟨n0,n1,n2⟩,?_,⟨z0,z1,z2⟩⟩;have e0:c0=.int .i64 n0:=by injection k0
   have e1:c1=.int .i64 n1:=by injection k1
   have e2:c2=.int .i64 n2:=by injection k2
   subst e0 e1 e2;rfl
structure jR1 (x:dE):Prop where
 n:x.name.size<=maxLen
 k:(Lit.int .i64 x.kind).wf=true
theorem fD1 {H:Type} {enc:TypeId×Value->H} {W:World} {base:Nat} {sp:Nat->Bool} {hd:Bool} (n:Nat) (cs:List Value) (x:DataW H×List MemPlace) (hl:cs.length=2) (h:DataW.trod enc Tryz.prog W base sp hd n 73 cs=some x) :
  ∃y:dE,cs=cX y/\jR1 y:=by
 obtain⟨xs,n,_,hx,_,ah,aw⟩:=DataW.trod_struct Tryz.underlying73 h
 match cs,hl with
 | [c0,c1],_ =>
  match xs,ah with
  | [y0,y1],_ =>
   have g0:=aw 0 _ rfl;have g1:=aw 1 _ rfl;obtain⟨s0,k0,_,z0⟩:=DataW.trod_string Tryz.underlying9 g0;obtain⟨n1,k1,_,z1⟩:=DataW.trod_int Tryz.underlying3 g1;refine⟨⟨s0,n1⟩,?_,⟨z0,z1⟩⟩;have e0:c0=.string s0:=by injection k0
   have e1:c1=.int .i64 n1:=by injection k1
   subst e0 e1;rfl
section
variable {H:Type} {enc:TypeId×Value->H} {P:Program} {w:World} {base:Nat} {spare:Nat->Bool} {held:Bool}
theorem qO {α:Type} {cells:α->List Value} {OK:α->Prop} {t e:TypeId} {k bz:Nat} {cs0:List Value} {x0:DataW H×List MemPlace} (ht:P.underlying t=some (.slice e)) (hC:P.cellsOf e=k) (hk:0<k) (ah:∀y,(cells y).length=k)
  (ae2:∀(n:Nat) (cs:List Value) (x:DataW H×List MemPlace),cs.length=k->DataW.trod enc P w base spare held n e cs=some x->∃y:α,cs=cells y/\OK y)
  (hf:DataW.trod enc P w base spare held bz t cs0=some x0) :
  ∃(a:Option Addr) (l:List α) (cap:Nat),cs0=[.slice a l.length cap]/\aG w a k (l.map cells)/\(∀x∈l,OK x)/\(x0.1=.nil/\l=[]\/∃el sp,x0.1=.slice el sp/\el.length=l.length)/\(a=none->cap=0):=by
 rcases Go.Deep.open_slice ht hf with ⟨h1,h2⟩|⟨a',len,cap,m,n,D,Pl,h1,hb,gv,aji,hm,hx,hi⟩
 ·subst h1 h2
  exact⟨none,[],0,rfl,aG.nil _ _ _,by simp,Or.inl ⟨rfl,rfl⟩,λ_=>rfl⟩
 ·subst h1 hx
  obtain⟨l,hl,hp⟩:=eH0 (P:=λi (y:α)=>OK y/\∀(j:Nat) (u:Value),(cells y)[j]?=some u->w.cell? (a'.add (i*k+j))=some u) len (λi ae=>by
   have him:i<m:=by rw[hm];split<;>omega
   obtain⟨cs,cj,htr⟩:=hi i him;rw[hC]at cj;obtain⟨_,ci,ac⟩:=World.cells?_some cj;obtain⟨y,rfl,ag⟩:=ae2 _ _ _ ci htr;refine⟨y,ag,λj u hu=>?_⟩;have hj:j<k:=by rw[<-ci];exact(List.getElem?_eq_some_iff.1 hu).1
   rw[<-Go.Deep.add_add];exact(ac j hj).trans hu)
  subst hl;refine⟨some a',l,cap,rfl,λaj=>?_,λx hx=>?_,Or.inr ⟨_,_,rfl,by simp⟩,λh=>by cases h⟩
  ·have hs:a'.spot=none:=by
    cases l with
    | nil=>simp at aj
    | cons y0 r =>
     have h0:0<(cells y0).length:=by rw[ah];exact hk
     have:=(hp 0 y0 rfl).2 0 _ (Ac h0)
     have h2:=xZ0 this;rw[Nat.zero_mul,Nat.zero_add]at h2;simpa [Az] using h2
   obtain⟨b,off,s⟩:=a';obtain rfl:s=none:=hs;refine⟨b,off,rfl,λi row ld j u hj=>?_⟩;rw[Al]at ld
   cases ie:l[i]? with
   | none=>rw[ie]at ld;cases ld
   | some y =>
    rw[ie]at ld;obtain rfl:=Option.some.inj ld
    have:=(hp i y ie).2 j u hj
    rw[jQ]at this;rw[Nat.add_assoc];exact this
  ·obtain⟨i,ae,rfl⟩:=List.getElem_of_mem hx
   exact(hp i _ (Ac ae)).1
theorem wP {ts:List TypeId} {ds:List (DataW H)} (h:(DataW.weightsEach P ts ds).all (· <= reachBytes)=true) {j:Nat} {t:TypeId} {fs:Array Field} {parts:List (DataW H)} (ht:ts[j]?=some t) (hd:ds[j]?=some (.agg parts)) (hu:P.underlying t=some (.struct fs)) :
  (DataW.weightsEach P (fs.toList.map (·.type)) parts).all (· <= reachBytes)=true:=by
 rw[List.all_eq_true];intro n hn;exact List.all_eq_true.1 h n (DataW.weights_mem_each ht hd n (by simp only[DataW.weights,hu];exact hn))
end
end
end Go.Proofs.YthgklnohcmaopaaGreatDoor
