/- The texts UtfR RefS Src RdS CutV Wck Wrun OpenSrc, one behind the other. -/
import Derived.Test.YtaogeadljgjpcaaGreatDoorRq5
import Derived.Test.YtaogeadljgjpcaaGreatDoorRq2
import Derived.Test.YtaogeadljgjpcaaGreatDoorRq19
import Derived.Laws.Cover4
import Derived.Laws.IdiomStrings
import Derived.Lib.TrimUEq
import Derived.Test.YtaogeadljgjpcaaGreatDoorRq20
import Derived.Test.YtaogeadljgjpcaaGreatDoorRq8
import Derived.Test.YtaogeadljgjpcaaGreatDoorRq1
import Derived.Test.YtaogeadljgjpcaaGreatDoorRq15
import Derived.Test.YtaogeadljgjpcaaGreatDoorRq12
import Derived.Test.YtaogeadljgjpcaaGreatDoorRq21
open Go.World renaming cell?_setCell_other → Aa,cell?_setCell_same → Ac,block_lt_of_cell? → Ae,frozen?_setCell → Ah
open List renaming getElem?_eq_getElem → Ab,drop_succ_cons → Ag,length_drop → Ai,length_map → Ak,drop_zero → Al,getElem?_map → Ao,take_length → Ap,length_take → Aq,mem_of_getElem? → Au,length → Av,drop_length → Aw,drop_drop → Ax
open Go.Lib renaming hid → Ad,validD → Ay,size_eq → Bb
open Go.Addr renaming block → Af,add → Bf
open Nat renaming le_refl → Aj,zero_le → An,le_trans → Az,le_of_lt → Ba,mul_one → Bc
open Go.IntKind renaming signed → Am,wrap → Ar,bits → As
open Array renaming replicate → At
open Option renaming map → Bd
open Or renaming elim → Be
set_option maxHeartbeats 4000000
namespace Go.Proofs.YtaogeadljgjpcaaGreatDoor
set_option maxRecDepth 100000
section
open Go Go.RowKit
theorem zT (s:ByteArray):∀(n i:Nat) (bz:Array Value),s.size<=i+n->(Conv.runesFrom s n i bz).toList=bz.toList++(bD (s.data.toList.drop i)).map λc:Nat=>Value.int .i32 c
 | 0,i,bz,h=>by
  have:s.data.toList.drop i=[]:=gA.2 (by omega)
  rw[this,dT0];simp[Conv.runesFrom]
 | n+1,i,bz,h=>by
  unfold Conv.runesFrom;by_cases hi:i<s.size
  ·have aj:s.data.toList.drop i≠[]:=λe=>gA.1 e hi
   have hw:=Lib.decodeL_width (s.data.toList.drop i);have hd:=Lib.decodeL_drop s i;rw[if_pos hi,jB _ aj,Ax,hd];rw[hd]at hw;generalize Utf8.decode s i=RK at hw ⊢;obtain⟨r,k⟩:=RK;simp only at hw ⊢;rw[zT s n (i+k) _ (by omega)];simp
  ·have:s.data.toList.drop i=[]:=gA.2 hi
   rw[if_neg hi,this,dT0];simp
theorem rZ (s:ByteArray):(Conv.runesFrom s s.size 0 #[]).toList=(bD s.data.toList).map λc:Nat=>Value.int .i32 c:=by
 rw[zT s s.size 0 #[] (by omega)];simp
theorem xJ {C:List (List UInt8)} (hC:iQ C):runesBytes ((uP C).map λn:Nat=>(n:Int))=mkB C.flatten:=by
 have key:∀(C:List (List UInt8)) (s:ByteArray),iQ C->((uP C).map λn:Nat=>(n:Int)).foldl (λr n=>r++Utf8.encode n) s=s++mkB C.flatten:=λC=>by
  induction C with
  | nil =>
   intro s _;show s=s++mkB []
   refine mR ?_;simp[mkB]
  | cons c C ih =>
   intro s h;have hc:=gN1 (h c (by simp));show ((uP C).map λn:Nat=>(n:Int)).foldl _ (s++Utf8.encode ((Lib.decodeL c).1:Int))=_
   rw[ih _ λx hx=>h x (by simp[hx])];refine mR ?_;simp[mkB,hc]
 have:=key C ByteArray.empty hC
 unfold runesBytes;rw[this];refine mR ?_;simp[mkB]
theorem dD0 {w:World} {a:Option Addr} {c:Nat} {l:List Nat} (h:aG w a 1 (l.map nI)):(convert 71 9 (.slice a l.length c)).run Tryz.prog w=.ok (.string (runesBytes (l.map λn:Nat=>(n:Int)))) w:=by
 by_cases hn:l=[]
 ·subst hn
  cases a with
  | none=>exact run_convert_runes_nil w _ _ _ _ _ Tryz.underlying71 Tryz.underlying21 Tryz.underlying9
  | some p=>exact run_convert_runes w _ _ _ p 0 c [] (Aj _) Tryz.underlying71 Tryz.underlying21 Tryz.underlying9 (λj hj=>by cases hj)
 ·obtain⟨b,o,rfl,hc⟩:=h.get (enc:=nI) hn
  have hr:=run_convert_runes (P:=Tryz.prog) w 71 9 21 ⟨b,o,none⟩ l.length c (l.map λn:Nat=>(n:Int)) (by rw[Ak];exact Aj _) Tryz.underlying71 Tryz.underlying21 Tryz.underlying9 (λj hj=>by
   rw[Ak]at hj;have h1:=hc j _ (Ab hj) 0 _ rfl
   have h2:(⟨b,o,none⟩:Addr).add j=⟨b,o+j,none⟩:=by
    unfold Bf;by_cases h0:j=0
    ·subst h0;simp
    ·simp[h0]
   rw[h2];simpa [List.getD,hj] using h1)
  rw[List.take_of_length_le (by rw[Ak];exact Aj _)]at hr;exact hr
end
section
open Go Go.RowKit
attribute [local go_sem] aQ
end
section
open Go Go.RowKit
attribute [local go_sem] aQ aM
def oV1 (w:World) (v:Value):Option Mx->Prop
 | none=>v=.pointer none
 | some m=>∃rb,v=.pointer (some ⟨rb,0,none⟩)/\qW w rb m
theorem oV1.grows {w w':World} {v:Value} {m:Option Mx} (h:oV1 w v m) (hg:aB w w'):oV1 w' v m:=by
 cases m with
 | none=>exact h
 | some m=>obtain⟨rb,e,hr⟩:=h;exact⟨rb,e,hr.grows hg⟩
theorem hC0:dO Tryz.prog 37 139 2 24 bN where
 sl:=Tryz.underlying37
 info:=fG (z:=.agg #[.string ⟨#[]⟩,.int .i64 0]) (by kernel_rfl) rfl
 pos:=by decide
 by1:=by decide
 len _:=rfl
 one x u hu:=by
  simp[bN]at hu;rcases hu with rfl|rfl<;>rfl
structure zU where
 p:List cO
 d:Int
 s:List jI1
 e:List En
structure yT where
 pa:Option Addr
 pc:Nat
 sa:Option Addr
 sc:Nat
 ea:Option Addr
 ec:Nat
def yT.cells (a:yT) (x:zU):Array Value := #[.slice a.pa x.p.length a.pc,.int .i64 x.d,.slice a.sa x.s.length a.sc,.slice a.ea x.e.length a.ec]
def yT.agg (a:yT) (x:zU):Value := .agg (a.cells x)
structure uS (w:World) (a:yT) (x:zU):Prop where
 p:aG w a.pa 2 (x.p.map bN)
 s:aG w a.sa 3 (x.s.map nI1)
 e:aG w a.ea 5 (x.e.map bF)
theorem uS.grows {w w':World} {a:yT} {x:zU} (h:uS w a x) (hg:aB w w'):uS w' a x:=⟨h.p.grows hg,h.s.grows hg,h.e.grows hg⟩
structure eT0 (x:zU):Prop where
 p:∀y∈x.p,y.name.size<=maxLen
 s:∀y∈x.s,WfI y.c
 e:∀y∈x.e,uE y
 d:WfI x.d
 lp:x.p.length<=140737488355328
 ls:x.s.length<=140737488355328
 le:x.e.length<=140737488355328
def vW0 (y:cO):Bool:=decide (400<y.name.size)
def qP0 (y:En):Bool:=decide (400<y.r.size)||decide (400<y.s.size)
def mO (x:zU):Bool := !x.p.any vW0 && !x.e.any qP0&&decide (x.p.length<=70)&&decide (x.s.length<=300)&&decide (x.e.length<=300)
theorem jT0 {x:zU} (h:mO x=true):(∀y∈x.p,y.name.size<=400)/\(∀y∈x.e,y.r.size<=400/\y.s.size<=400)/\x.p.length<=70/\x.s.length<=300/\x.e.length<=300:=by
 unfold mO at h;simp only[Bool.and_eq_true,Bool.not_eq_true',decide_eq_true_eq,List.any_eq_false]at h;obtain⟨⟨⟨⟨h1,h2⟩,h3⟩,h4⟩,h5⟩:=h;refine⟨λy hy=>?_,λy hy=>?_,h3,h4,h5⟩
 ·have:=h1 y hy;unfold vW0 at this;simp at this;exact this
 ·have:=h2 y hy;unfold qP0 at this;simp at this;exact this
theorem yU0 {α:Type} {f:α->Bool} {l:List α} {k:Nat} {x:α} (h:l[k]?=some x):(l.drop k).any f=(f x||(l.drop (k+1)).any f):=by
 obtain⟨hk,rfl⟩:=List.getElem?_eq_some_iff.1 h;rw[List.drop_eq_getElem_cons hk,List.any_cons]
def bB0 (x:zU):Option Mx:=if nO0 x.p.length x.d then some (runSets (newM x.p.length x.d) x.s) else none
theorem yY0 (x:zU) (A:yT) (w:World) (ag:eT0 x) (ac:uS w A x) :
  Calls Tryz.prog 33 #[A.agg x] w λe w'=>e=.returned (.bool (mO x))/\aB w w':=by
 have za:=ag.lp;have gm:=ag.le;have q7:=ag.ls;clear ag;obtain⟨pa,pc,sa,sc,ea,ec⟩:=A;obtain⟨xp,xd,xs,xe⟩:=x;try replace za:xp.length<=140737488355328:=za
 try replace q7:xs.length<=140737488355328:=q7
 try replace gm:xe.length<=140737488355328:=gm
 obtain⟨W0,cq⟩:=exq (w.alloc (.cells #[.slice pa xp.length pc,.int .i64 xd,.slice sa xs.length sc,.slice ea xe.length ec] 30));have dg:aB w W0:=by rw[cq];exact aB.alloc _ _
 have da:=λj u h=>aT w #[.slice pa xp.length pc,.int .i64 xd,.slice sa xs.length sc,.slice ea xe.length ec] 30 (0,0) j u h;rw[<-cq]at da;have q0:=da 0 _ rfl;have q1:=da 1 _ rfl;have q2:=da 2 _ rfl;have q3:=da 3 _ rfl;have HQ:=Ad (And.intro q0 (And.intro q1 (And.intro q2 q3)));have HP:Hid (aG W0 pa 2 (xp.map bN)):=ac.p.grows dg;have HS:Hid (aG W0 sa 3 (xs.map nI1)):=ac.s.grows dg;have HE:Hid (aG W0 ea 5 (xe.map bF)):=ac.e.grows dg;have HG0:=Ad dg;clear da ac dg;show Calls _ _ #[.agg #[.slice pa xp.length pc,.int .i64 xd,.slice sa xs.length sc,.slice ea xe.length ec]] _ _
 have HL:Hid (mO ⟨xp,xd,xs,xe⟩=(!xp.any vW0 && !xe.any qP0&&decide (xp.length<=70)&&decide (xs.length<=300)&&decide (xe.length<=300))):=rfl;obtain⟨LB,hLB⟩:=exq (mO ⟨xp,xd,xs,xe⟩);rw[<-hLB]at HL ⊢;clear hLB q1 q2 q3;go_enter Tryz.func33,Tryz.ntmps33
 go_wp2_with fail
 rw[<-cq];clear cq;go_loopw [3] (λi wr=>∃(k:Nat),k<=xp.length/\i=.int .i64 k/\Hid ((xp.drop k).any vW0=xp.any vW0)/\wr=W0) (λi _=>xp.length-(intOf i).toNat)
 case atStart=>exact⟨0,An _,rfl,rfl,rfl⟩
 case round =>
  obtain⟨k,hk,rfl,hF,rfl⟩:=hrel;by_cases ae:k<xp.length
  ·obtain⟨⟨yn,yk⟩,hx⟩:∃y,xp[k]?=some y:=⟨_,Ab ae⟩
   obtain⟨ba,oa,rfl,bj⟩:=HP.out.get (aK ae);have c0:wr.cell? ⟨ba,oa+k*2,none⟩=some (.string yn):=bj k _ hx 0 _ rfl;have cn:(k:Int)<xp.length:=by omega
   have HD:=Ad (yU0 (f:=vW0) hx);rw[hF.out]at HD;clear bj hx hF;by_cases hb:400<yn.size
   ·have kr:(400:Int)<yn.size:=by omega
    have HX:Hid (xp.any vW0=true):=by show _=_;rw[HD.out];unfold vW0;simp[hb]
    clear HD hb;go_wp2_with fail
    go_ret;exact⟨by rw[HL.out,HX.out];rfl,HG0.out⟩
   ·have kr:¬(400:Int)<yn.size:=by omega
    have HX:Hid ((xp.drop (k+1)).any vW0=xp.any vW0):=by show _=_;rw[HD.out];unfold vW0;simp[hb]
    clear HD hb;go_wp2_with fail
    go_roundw
    case rel=>exact⟨k+1,ae,by go_num,HX,trivial⟩
    case measure=>simp[intOf];omega
  ·obtain rfl:k=xp.length:=by omega
   have HPA:Hid (xp.any vW0=false):=by show _=_;rw[<-hF.out,Aw];rfl
   have q3:=HQ.out.2.2.2;clear hF;go_wp2_with fail
   go_loopw [4] (λi wx=>∃(k:Nat),k<=xe.length/\i=.int .i64 k/\Hid ((xe.drop k).any qP0=xe.any qP0)/\wx=wr) (λi _=>xe.length-(intOf i).toNat)
   case atStart=>exact⟨0,An _,rfl,rfl,rfl⟩
   case round =>
    obtain⟨k,hk,rfl,hF,rfl⟩:=hrel;by_cases ae:k<xe.length
    ·obtain⟨⟨yr,ys,yl,yt,yc⟩,hx⟩:∃y,xe[k]?=some y:=⟨_,Ab ae⟩
     obtain⟨ba,oa,rfl,bj⟩:=HE.out.get (aK ae);have c0:wr.cell? ⟨ba,oa+k*5,none⟩=some (.string yr):=bj k _ hx 0 _ rfl;have c1:wr.cell? ⟨ba,oa+k*5+1,none⟩=some (.string ys):=bj k _ hx 1 _ rfl;have cn:(k:Int)<xe.length:=by omega
     have HD:=Ad (yU0 (f:=qP0) hx);rw[hF.out]at HD;clear bj hx hF;by_cases hb:400<yr.size
     ·have kr:(400:Int)<yr.size:=by omega
      have HX:Hid (xe.any qP0=true):=by show _=_;rw[HD.out];unfold qP0;simp[hb]
      clear HD hb;go_wp2_with fail
      go_ret;exact⟨by rw[HL.out,HX.out];simp,HG0.out⟩
     ·have kr:¬(400:Int)<yr.size:=by omega
      by_cases ct:400<ys.size
      ·have ag6:(400:Int)<ys.size:=by omega
       have HX:Hid (xe.any qP0=true):=by show _=_;rw[HD.out];unfold qP0;simp[ct]
       clear HD hb ct;go_wp2_with fail
       go_ret;exact⟨by rw[HL.out,HX.out];simp,HG0.out⟩
      ·have ag6:¬(400:Int)<ys.size:=by omega
       have HX:Hid ((xe.drop (k+1)).any qP0=xe.any qP0):=by show _=_;rw[HD.out];unfold qP0;simp[hb,ct]
       clear HD hb ct;go_wp2_with fail
       go_roundw
       case rel=>exact⟨k+1,ae,by go_num,HX,trivial⟩
       case measure=>simp[intOf];omega
    ·obtain rfl:k=xe.length:=by omega
     have HEA:Hid (xe.any qP0=false):=by show _=_;rw[<-hF.out,Aw];rfl
     have q2:=HQ.out.2.2.1;have e1:decide ((xp.length:Int)<=70)=decide (xp.length<=70):=decide_eq_decide.2 (by omega);have e2:decide ((xs.length:Int)<=300)=decide (xs.length<=300):=decide_eq_decide.2 (by omega);have e3:decide ((xe.length:Int)<=300)=decide (xe.length<=300):=decide_eq_decide.2 (by omega);have HL2:Hid (LB=(decide ((xp.length:Int)<=70)&&decide ((xs.length:Int)<=300)&&decide ((xe.length:Int)<=300))):=by show _=_;rw[HL.out,HPA.out,HEA.out,e1,e2,e3];simp
     clear hF e1 e2 e3 ae;by_cases h1:(xp.length:Int)<=70
     ·by_cases h2:(xs.length:Int)<=300
      ·go_wp2_with fail
       go_ret;exact⟨by rw[HL2.out];simp[h1,h2],HG0.out⟩
      ·go_wp2_with fail
       go_ret;exact⟨by rw[HL2.out];simp;omega,HG0.out⟩
     ·go_wp2_with fail
      go_ret;exact⟨by rw[HL2.out];simp;omega,HG0.out⟩
theorem vP0 (x:zU) (A:yT) (w:World) (ag:eT0 x) (ac:uS w A x) :
  Calls Tryz.prog 64 #[A.agg x] w λe w'=>∃v,e=.returned v/\dW1 w' v (bB0 x)/\aB w w':=by
 have HOS:=Ad ag.s;have za:=ag.lp;have q7:=ag.ls;clear ag;obtain⟨pa,pc,sa,sc,ea,ec⟩:=A;obtain⟨xp,xd,xs,xe⟩:=x;try replace za:xp.length<=140737488355328:=za
 try replace q7:xs.length<=140737488355328:=q7
 try replace gm:xe.length<=140737488355328:=gm
 obtain⟨W0,cq⟩:=exq (w.alloc (.cells #[.slice pa xp.length pc,.int .i64 xd,.slice sa xs.length sc,.slice ea xe.length ec] 30));have dg:aB w W0:=by rw[cq];exact aB.alloc _ _
 have da:=λj u h=>aT w #[.slice pa xp.length pc,.int .i64 xd,.slice sa xs.length sc,.slice ea xe.length ec] 30 (0,0) j u h;rw[<-cq]at da;have q0:=da 0 _ rfl;have q1:=da 1 _ rfl;have q2:=da 2 _ rfl;have q3:=da 3 _ rfl;have HQ:=Ad (And.intro q0 (And.intro q1 (And.intro q2 q3)));have HP:Hid (aG W0 pa 2 (xp.map bN)):=ac.p.grows dg;have HS:Hid (aG W0 sa 3 (xs.map nI1)):=ac.s.grows dg;have HE:Hid (aG W0 ea 5 (xe.map bF)):=ac.e.grows dg;have HG0:=Ad dg;clear da ac dg;show Calls _ _ #[.agg #[.slice pa xp.length pc,.int .i64 xd,.slice sa xs.length sc,.slice ea xe.length ec]] _ _
 have HSM:Hid (bB0 ⟨xp,xd,xs,xe⟩=if nO0 xp.length xd then some (runSets (newM xp.length xd) xs) else none):=rfl
 obtain⟨SM,hSM⟩:=exq (bB0 ⟨xp,xd,xs,xe⟩);rw[<-hSM]at HSM ⊢;clear hSM q2 q3;replace HOS:Hid (∀y∈xs,WfI y.c):=HOS;go_enter Tryz.func64,Tryz.ntmps64
 cases jc:nO0 xp.length xd with
 | false =>
  rw[jc]at HSM;go_wp2_with fail
  rw[<-cq];clear cq;refine(aJ1 xp.length xd _ jc).mono ?_;rintro e w1 ⟨rfl,rfl⟩;go_wp2_with fail
  go_ret;exact⟨_,rfl,by rw[HSM.out];rfl,HG0.out⟩
 | true =>
  rw[jc]at HSM;replace HSM:Hid (SM=some (runSets (newM xp.length xd) xs)):=HSM;go_wp2_with fail
  rw[<-cq];clear cq;refine(xP0 xp.length xd _ jc).mono ?_;rintro e w1 ⟨rfl,m9,aq⟩;clear q0 q1;go_wp2_with fail
  go_loopw [5] (λi wr=>∃(k:Nat),k<=xs.length/\i=.int .i64 k/\gJ wr (W0.heap.size+1) W0.heap.size (runSets (newM xp.length xd) (xs.take k))/\aB W0 wr) (λi _=>xs.length-(intOf i).toNat)
  case atStart=>exact⟨0,An _,rfl,m9,aq⟩
  case round =>
  obtain⟨k,hk,rfl,hm,hg⟩:=hrel;clear m9 aq;by_cases ae:k<xs.length
  ·obtain⟨⟨sr,sl,sq⟩,hs⟩:∃s,xs[k]?=some s:=⟨_,Ab ae⟩
   have hsq:WfI sq:=HOS.out _ (Au hs);have HT:=Ad (wH (m:=newM xp.length xd) hs);obtain⟨lb,lo,rfl,ci⟩:=HS.out.get (aK ae);have cn:(k:Int)<xs.length:=by omega
   have b2:=hg.cell HQ.out.2.2.1;have z2:∀x:Ext aB wr.drew,x.u.cell? ⟨w.heap.size,2,none⟩=some (.slice (some ⟨lb,lo,none⟩) xs.length sc):=aF (hg.dr.cell HQ.out.2.2.1);have y0:∀x:Ext aB wr.drew,x.u.cell? ⟨lb,lo+k*3,none⟩=some (.int .i64 sr):=aF (hg.dr.cell (ci k _ hs 0 _ rfl));have y1:∀x:Ext aB wr.drew,x.u.cell? ⟨lb,lo+k*3+1,none⟩=some (.int .i64 sl):=aF (hg.dr.cell (ci k _ hs 1 _ rfl));have y2:∀x:Ext aB wr.drew,x.u.cell? ⟨lb,lo+k*3+2,none⟩=some (.int .i64 sq):=aF (hg.dr.cell (ci k _ hs 2 _ rfl));clear ci hs;generalize runSets (newM xp.length xd) (xs.take k)=M1 at *;go_wp2_with fail
   refine jV 19 (bB 19 []) (by kernel_rfl) (λd _ _ _ _ h=>by cases d<;>exact h) ?_
   iterate 19 (refine aH rfl (λK hK=>?_);go_simp;refine hK _ ?_;clear hK K)
   refine bQ ?_;simp only[Ag,Al];clear z2 y0 y1 y2 b2;have hSV:=cA1 wr.drew _ _ _ (hm.grows (aB.drew wr)) sr sl sq hsq;go_wp2_with fail
   refine hSV.mono ?_;rintro e w4 ⟨rfl,vk,cp⟩;have ix:aB W0 w4:=hg.dr.grown cp (λq hq=>by cases hq;exact Aj _);go_wp2_with fail
   go_roundw
   case rel=>exact⟨k+1,ae,by go_num,by rw[HT.out];exact vk,ix⟩
   case measure=>simp[intOf];omega
  ·obtain rfl:k=xs.length:=by omega
   rw[Ap]at hm;have b2:=hg.cell HQ.out.2.2.1;go_wp2_with fail
   go_ret;refine⟨_,rfl,?_,aB.trans _ _ _ HG0.out hg⟩;rw[HSM.out];exact⟨_,_,rfl,hm⟩
theorem costs_any (x:zU) (A:yT) (w:World) (ag:eT0 x) (ac:uS w A x) :
  Calls Tryz.prog 38 #[A.agg x] w λe w'=>∃v,e=.returned v/\oV1 w' v (bB0 x)/\aB w w':=by
 have HOS:=Ad ag.s;have za:=ag.lp;have q7:=ag.ls;clear ag;obtain⟨pa,pc,sa,sc,ea,ec⟩:=A;obtain⟨xp,xd,xs,xe⟩:=x;try replace za:xp.length<=140737488355328:=za
 try replace q7:xs.length<=140737488355328:=q7
 try replace gm:xe.length<=140737488355328:=gm
 obtain⟨W0,cq⟩:=exq (w.alloc (.cells #[.slice pa xp.length pc,.int .i64 xd,.slice sa xs.length sc,.slice ea xe.length ec] 30));have dg:aB w W0:=by rw[cq];exact aB.alloc _ _
 have da:=λj u h=>aT w #[.slice pa xp.length pc,.int .i64 xd,.slice sa xs.length sc,.slice ea xe.length ec] 30 (0,0) j u h;rw[<-cq]at da;have q0:=da 0 _ rfl;have q1:=da 1 _ rfl;have q2:=da 2 _ rfl;have q3:=da 3 _ rfl;have HQ:=Ad (And.intro q0 (And.intro q1 (And.intro q2 q3)));have HP:Hid (aG W0 pa 2 (xp.map bN)):=ac.p.grows dg;have HS:Hid (aG W0 sa 3 (xs.map nI1)):=ac.s.grows dg;have HE:Hid (aG W0 ea 5 (xe.map bF)):=ac.e.grows dg;have HG0:=Ad dg;clear da ac dg;show Calls _ _ #[.agg #[.slice pa xp.length pc,.int .i64 xd,.slice sa xs.length sc,.slice ea xe.length ec]] _ _
 have HSM:Hid (bB0 ⟨xp,xd,xs,xe⟩=if nO0 xp.length xd then some (runSets (newM xp.length xd) xs) else none):=rfl
 obtain⟨SM,hSM⟩:=exq (bB0 ⟨xp,xd,xs,xe⟩);rw[<-hSM]at HSM ⊢;clear hSM q2 q3;replace HOS:Hid (∀y∈xs,WfI y.c):=HOS;go_enter Tryz.func38,Tryz.ntmps38
 cases jc:nO0 xp.length xd with
 | false =>
  rw[jc]at HSM;go_wp2_with fail
  rw[<-cq];clear cq;refine(eK1 xp.length xd _ jc).mono ?_;rintro e w1 ⟨rfl,rfl⟩;go_wp2_with fail
  go_ret;exact⟨_,rfl,by rw[HSM.out];rfl,HG0.out⟩
 | true =>
  rw[jc]at HSM;replace HSM:Hid (SM=some (runSets (newM xp.length xd) xs)):=HSM;go_wp2_with fail
  rw[<-cq];clear cq;refine(iH1 xp.length xd _ jc).mono ?_;rintro e w1 ⟨rfl,m9,aq⟩;clear q0 q1;go_wp2_with fail
  go_loopw [4] (λi wr=>∃(k:Nat),k<=xs.length/\i=.int .i64 k/\qW wr W0.heap.size (runSets (newM xp.length xd) (xs.take k))/\aB W0 wr) (λi _=>xs.length-(intOf i).toNat)
  case atStart=>exact⟨0,An _,rfl,m9,aq⟩
  case round =>
  obtain⟨k,hk,rfl,hm,hg⟩:=hrel;clear m9 aq;by_cases ae:k<xs.length
  ·obtain⟨⟨sr,sl,sq⟩,hs⟩:∃s,xs[k]?=some s:=⟨_,Ab ae⟩
   have hsq:WfI sq:=HOS.out _ (Au hs);have HT:=Ad (wH (m:=newM xp.length xd) hs);obtain⟨lb,lo,rfl,ci⟩:=HS.out.get (aK ae);have cn:(k:Int)<xs.length:=by omega
   have b2:=hg.cell HQ.out.2.2.1;have z2:∀x:Ext aB wr.drew,x.u.cell? ⟨w.heap.size,2,none⟩=some (.slice (some ⟨lb,lo,none⟩) xs.length sc):=aF (hg.dr.cell HQ.out.2.2.1);have y0:∀x:Ext aB wr.drew,x.u.cell? ⟨lb,lo+k*3,none⟩=some (.int .i64 sr):=aF (hg.dr.cell (ci k _ hs 0 _ rfl));have y1:∀x:Ext aB wr.drew,x.u.cell? ⟨lb,lo+k*3+1,none⟩=some (.int .i64 sl):=aF (hg.dr.cell (ci k _ hs 1 _ rfl));have y2:∀x:Ext aB wr.drew,x.u.cell? ⟨lb,lo+k*3+2,none⟩=some (.int .i64 sq):=aF (hg.dr.cell (ci k _ hs 2 _ rfl));clear ci hs;generalize runSets (newM xp.length xd) (xs.take k)=M1 at *;go_wp2_with fail
   refine jV 19 (bB 19 []) (by kernel_rfl) (λd _ _ _ _ h=>by cases d<;>exact h) ?_
   iterate 19 (refine aH rfl (λK hK=>?_);go_simp;refine hK _ ?_;clear hK K)
   refine bQ ?_;simp only[Ag,Al];clear z2 y0 y1 y2 b2;have hSV:=iK1 wr.drew _ _ (hm.grows (aB.drew wr)) sr sl sq;go_wp2_with fail
   refine hSV.mono ?_;rintro e w4 ⟨rfl,vk,g,hgl,cp⟩;have ix:aB W0 w4:=hg.dr.grown cp (λq hq=>by cases hq;omega);go_wp2_with fail
   go_roundw
   case rel=>exact⟨k+1,ae,by go_num,by rw[HT.out];exact vk,ix⟩
   case measure=>simp[intOf];omega
  ·obtain rfl:k=xs.length:=by omega
   rw[Ap]at hm;have b2:=hg.cell HQ.out.2.2.1;go_wp2_with fail
   go_ret;refine⟨_,rfl,?_,aB.trans _ _ _ HG0.out hg⟩;rw[HSM.out];exact⟨_,rfl,hm⟩
def eK0 (p:List cO) (w:World) (e:Ending) (w':World):Prop:=∃a cap,e=.returned (.slice a p.length cap)/\aG w' a 2 (p.map bN)/\aB w w'
theorem positions_any (p:List cO) (pa:Option Addr) (ca:Nat) (w:World) (lp:p.length*24<=140737488355328) (hp:aG w pa 2 (p.map bN)) :
  Calls Tryz.prog 37 #[.slice pa p.length ca] w (eK0 p w):=by
 go_enter Tryz.func37,Tryz.ntmps37
 go_wp2_with fail
 go_loopw [3,4] (λv i wr=>∃(k:Nat),k<=p.length/\i=.int .i64 k/\aV wr w.heap.size 139 2 bN v (p.take k)/\aB w wr) (λ_ i _=>p.length-(intOf i).toNat)
 case atStart=>exact⟨0,An _,rfl,aV.nil _ _ _ _ _,aB.refl _⟩
 case round =>
  obtain⟨k,hk,rfl,aa,hg⟩:=hrel;by_cases ae:k<p.length
  ·obtain⟨⟨xn,xk⟩,hx⟩:∃x,p[k]?=some x:=⟨_,Ab ae⟩
   obtain⟨ba,oa,rfl,bj⟩:=(hp.grows hg).get (aK ae);have c0:wr.cell? ⟨ba,oa+k*2,none⟩=some (.string xn):=bj k _ hx 0 _ rfl;have c1:wr.cell? ⟨ba,oa+k*2+1,none⟩=some (.int .i64 xk):=bj k _ hx 1 _ rfl;have x0:=aF (w:=wr.drew) c0;have x1:=aF (w:=wr.drew) c1;have htk:p.take (k+1)=p.take k++[⟨xn,xk⟩]:=by rw[List.take_add_one,hx];rfl
   have ld:(p.take k).length=k:=by rw[Aq];omega
   have HT:=Ad htk;obtain⟨a3,c3,rfl,ml,hc2,_⟩:=aa.at_ hC0.len;rw[ld] at *;clear bj hx htk ld;go_wp2_with fail
   refine jJ aB 13 (bB 13 [12]) aB.refl aB.trans (by kernel_rfl) (by kernel_rfl) (λd _ _ _ _ h=>by cases d<;>exact h) ?_
   repeat (refine lB rfl (λK hK=>?_);go_simp;first|(refine hK _ ?_;clear hK K)|(apply Exists.intro;refine⟨λx=>?_,hK _ ?_⟩;(fail);clear hK K))
   clear x0 x1;refine eN rfl rfl (λK hK w3 h3=>?_);go_simp;refine⟨aB.alloc _ _,hK _ _ ?_⟩;clear hK K
   refine rL (λw4 h4=>?_);simp only[Ag,Al];have cp:aB wr w4:=(((aB.drew _).tr h3).al _).tr h4;go_wp2_with (at_builtin;refine jV1 hC0 rfl _ _ rfl w.heap.size _ _ ⟨xn,xk⟩ rfl aa cp w3.heap.size 1 (qZ h4 rfl) rfl (by rw[Aq];omega) hg.size ?_;intro v' w5 ly bk)
   have dh:=bk w hg (Aj _);go_wp2
   go_roundw
   case rel=>exact⟨k+1,ae,by go_num,by rw[HT.out];exact ly,dh⟩
   case measure=>simp[intOf];omega
  ·obtain rfl:k=p.length:=by omega
   rw[Ap]at aa;obtain⟨a3,c3,rfl,ml,hc2,ac⟩:=aa.at_ hC0.len;go_wp2
   go_ret;exact⟨_,_,rfl,ac,hg⟩
theorem xP {w:World} {a:Option Addr} {c:Nat} {l:List UInt8} (h:aG w a 1 (l.map aZ)):(convert 60 9 (.slice a l.length c)).run Tryz.prog w=.ok (.string (mkB l)) w:=by
 cases l with
 | nil =>
  rw[run_convert_bytes_string w 60 9 5 a ([]:List UInt8).length c Tryz.underlying60 Tryz.underlying5 Tryz.underlying9];cases a<;>(simp[Conv.bytesToString];rfl)
 | cons x r =>
  obtain⟨b,o,rfl,hc⟩:=h.get (by simp);generalize hL:x::r=L at *;have hz:(mkB L).size=L.length:=by rw[Bb,jK]
  have hB:Lib.Bytes w b o (mkB L):=λi hi=>by
   rw[hz]at hi;have h1:=hc i L[i] (by simp_all) 0 _ rfl;have hg:(mkB L)[i]'(by rw[hz];exact hi)=L[i]:=rfl;simp_all
  have:=Lib.run_convert_whole (P:=Tryz.prog) w 60 5 9 Tryz.underlying60 Tryz.underlying5 Tryz.underlying9 b o (mkB L) hB c
  rw[hz]at this;exact this
def rdT (l:List UInt8):Option (ByteArray×Nat):=match rdU l with
 | none=>none
 | some (n,j)=>if n<=(l.drop j).length then some (mkB ((l.drop j).take n),j+n) else none
def tS0 (k:Nat):Option (ByteArray×Nat)->Value
 | some (v,n) => .tuple #[.string v,.int .i64 ((k+n:Nat):Int),.bool true]
 | none => .tuple #[.string ⟨#[]⟩,.int .i64 0,.bool false]
def lC1 (R:Option (ByteArray×Nat)) (rb k:Nat) (w:World) (e:Ending) (w':World):Prop :=
 ((∃v n,R=some (v,n)/\e=.returned (.string v)/\w'.cell? ⟨rb,1,none⟩=some (.int .i64 ((k+n:Nat):Int)))\/(R=none/\e=.panicked [{ v:=kC0,recovered:=false }]))/\EB rb w w'
theorem vR0 (p0 p1 p2:Nat) (w:World) (oe:List PanicEntry) (v0 v1 v2:Value) (c0:w.cell? ⟨p0,0,none⟩=some v0) (c1:w.cell? ⟨p1,0,none⟩=some v1) (c2:w.cell? ⟨p2,0,none⟩=some v2)
  (f0:w.frozen? ⟨p0,0,none⟩=false) (f1:w.frozen? ⟨p1,0,none⟩=false) (f2:w.frozen? ⟨p2,0,none⟩=false) (n01:p0≠p1) (n02:p0≠p2) (n12:p1≠p2) (B:Nat) (t5:B<=p0) (vh:B<=p1) (kn:B<=p2) :
  CallsD Tryz.prog 235 #[.pointer (some ⟨p0,0,none⟩),.pointer (some ⟨p1,0,none⟩),.pointer (some ⟨p2,0,none⟩)] (.panicking ({ v:=kC0,recovered:=false }::oe)) w λe u' w' =>
   e=.returned (.tuple #[])/\u' = .panicking ({ v:=kC0,recovered:=true }::oe)/\w'.cell? ⟨p0,0,none⟩=some (.string ⟨#[]⟩)/\w'.cell? ⟨p1,0,none⟩=some (.int .i64 0)/\w'.cell? ⟨p2,0,none⟩=some (.bool false)/\EB B w w':=by
 have hta:∀W:World,(Instr.typeAssert (.iface 304 (.agg #[])) 20 304 true).run Tryz.prog W=.ok (.tuple #[.agg #[],.bool true]) W:=λW=>by kernel_rfl
 have lz:=aB.alloc w (.cells #[] 304);have b0:=Ae w _ c0;have b1:=Ae w _ c1;have b2:=Ae w _ c2;have d0:=lz.cell c0;have d1:=lz.cell c1;have d2:=lz.cell c2;have g0:=(lz.froz (p:=⟨p0,0,none⟩) b0).trans f0;have g1:=(lz.froz (p:=⟨p1,0,none⟩) b1).trans f1;have g2:=(lz.froz (p:=⟨p2,0,none⟩) b2).trans f2;have e1:(w.alloc (.cells #[] 304) |>.setCell ⟨p0,0,none⟩ (.string ⟨#[]⟩)).cell? ⟨p1,0,none⟩=some v1:=(Aa _ _ _ _ (by simp_all)).trans d1
 have e2:((w.alloc (.cells #[] 304) |>.setCell ⟨p0,0,none⟩ (.string ⟨#[]⟩)).setCell ⟨p1,0,none⟩ (.int .i64 0)).cell? ⟨p2,0,none⟩=some v2:=(Aa _ _ _ _ (by simp_all)).trans ((Aa _ _ _ _ (by simp_all)).trans d2)
 refine callsD_of_wpS Tryz.func235 rfl λc₀ cs hu=>?_;apply wpS_seq
 apply wpS_region
 simp[wpOpsS,go_sem,recoverD,hu,Tryz.ntmps235,Exit.thenS,kC0]
 refine wpS_of_wp ?_;rw[show (#[Value.pointer (some ⟨p0,0,none⟩),.pointer (some ⟨p1,0,none⟩),.pointer (some ⟨p2,0,none⟩)]++(At 11 undef).setIfInBounds 4 (.iface 304 (.agg #[]))) = #[.pointer (some ⟨p0,0,none⟩),.pointer (some ⟨p1,0,none⟩),.pointer (some ⟨p2,0,none⟩),undef,undef,undef,undef,.iface 304 (.agg #[]),undef,undef,undef,undef,undef,undef] from rfl]
 go_wp2
 have kp:(((w.setCell ⟨p0,0,none⟩ (.string ⟨#[]⟩)).setCell ⟨p1,0,none⟩ (.int .i64 0)).setCell ⟨p2,0,none⟩ (.bool false)).cell? ⟨p0,0,none⟩=some (.string ⟨#[]⟩):=by
  rw[Aa _ _ _ _ (by simp_all),Aa _ _ _ _ (by simp_all)];exact Ac _ _ _ c0
 have ed:(((w.setCell ⟨p0,0,none⟩ (.string ⟨#[]⟩)).setCell ⟨p1,0,none⟩ (.int .i64 0)).setCell ⟨p2,0,none⟩ (.bool false)).cell? ⟨p1,0,none⟩=some (.int .i64 0):=by
  rw[Aa _ _ _ _ (by simp_all)];exact Ac _ _ _ ((Aa _ _ _ _ (by simp_all)).trans c1)
 have ev:(((w.setCell ⟨p0,0,none⟩ (.string ⟨#[]⟩)).setCell ⟨p1,0,none⟩ (.int .i64 0)).setCell ⟨p2,0,none⟩ (.bool false)).cell? ⟨p2,0,none⟩=some (.bool false) :=
  Ac _ _ _ ((Aa _ _ _ _ (by simp_all)).trans ((Aa _ _ _ _ (by simp_all)).trans c2))
 have gn:Below B w ((((w.setCell ⟨p0,0,none⟩ (.string ⟨#[]⟩)).setCell ⟨p1,0,none⟩ (.int .i64 0)).setCell ⟨p2,0,none⟩ (.bool false)).alloc (.cells #[] 304)):=((((Below.refl B w).setCell (p:=⟨p0,0,none⟩) t5 _).setCell (p:=⟨p1,0,none⟩) vh _).setCell (p:=⟨p2,0,none⟩) kn _).alloc (by simp;omega) _;have og:=aB.alloc (((w.setCell ⟨p0,0,none⟩ (.string ⟨#[]⟩)).setCell ⟨p1,0,none⟩ (.int .i64 0)).setCell ⟨p2,0,none⟩ (.bool false)) (.cells #[] 304);have k0:=og.cell kp;have k1:=og.cell ed;have k2:=og.cell ev;have cz:EB B w ((((w.setCell ⟨p0,0,none⟩ (.string ⟨#[]⟩)).setCell ⟨p1,0,none⟩ (.int .i64 0)).setCell ⟨p2,0,none⟩ (.bool false)).alloc (.cells #[] 304)):=⟨gn,gn.size⟩;exact⟨rfl,_,rfl,_,results_none rfl _ _ _,rfl,rfl,k0,k1,k2,cz⟩
theorem fC1 (p0 p1 p2:Nat) (w:World) :
  CallsD Tryz.prog 235 #[.pointer (some ⟨p0,0,none⟩),.pointer (some ⟨p1,0,none⟩),.pointer (some ⟨p2,0,none⟩)] .returning w λe u' w'=>e=.returned (.tuple #[])/\u' = .returning/\w'=w:=by
 refine callsD_of_wpS Tryz.func235 rfl λc₀ cs hu=>?_;apply wpS_seq
 apply wpS_region
 simp[wpOpsS,go_sem,recoverD,hu,Tryz.ntmps235,Exit.thenS]
 refine wpS_of_wp ?_;rw[show (#[Value.pointer (some ⟨p0,0,none⟩),.pointer (some ⟨p1,0,none⟩),.pointer (some ⟨p2,0,none⟩)]++(At 11 undef).setIfInBounds 4 .nilIface) = #[.pointer (some ⟨p0,0,none⟩),.pointer (some ⟨p1,0,none⟩),.pointer (some ⟨p2,0,none⟩),undef,undef,undef,undef,.nilIface,undef,undef,undef,undef,undef,undef] from rfl]
 go_wp2
 cases c₀
 simp only at hu;subst hu;exact⟨rfl,_,rfl,_,results_none rfl _ _ _,rfl,rfl,rfl⟩
theorem kF1 (b:List UInt8) (rb k:Nat) (ba:Option Addr) (bc:Nat) (w:World) (hk:k<=b.length) (hb:b.length<=1099511627776) (ff:b.length<=bc) (jk:ba=none->bc=0) (ac:aG w ba 1 (b.map aZ)) (hba:∀q:Addr,ba=some q->b≠[]->q.block<rb)
  (c0:w.cell? ⟨rb,0,none⟩=some (.slice ba b.length bc)) (c1:w.cell? ⟨rb,1,none⟩=some (.int .i64 k)) (f1:w.frozen? ⟨rb,1,none⟩=false) :
  Calls Tryz.prog 194 #[.pointer (some ⟨rb,0,none⟩)] w (lC1 (rdT (b.drop k)) rb k w):=by
 have hRT:∀n j,rdU (b.drop k)=some (n,j)->rdT (b.drop k)=if n<=(b.drop (k+j)).length then some (mkB ((b.drop (k+j)).take n),j+n) else none:=λn j h=>by
  unfold rdT;rw[h];simp only;rw[Ax]
 have t9:rdU (b.drop k)=none->rdT (b.drop k)=none:=λh=>by unfold rdT;rw[h]
 have CN:=Ad (wE0 b rb k ba bc w hk hb ac hba c0 c1 f1);have HAT:=Ad ac;have HNC:=Ad jk;have HBA:=Ad hba;have hrb:=Ae w _ c0;simp only at hrb
 cases hU:rdU (b.drop k) with
 | none =>
  rw[hU]at CN;have HR:=Ad (t9 hU);clear hRT t9 hU ac hba;go_enter Tryz.func194,Tryz.ntmps194
  go_wp2_with fail
  refine CN.out.mono ?_;rintro e w1 ⟨mn,cz⟩;rcases mn with ⟨v,n,hR,_⟩|⟨_,rfl⟩
  ·cases hR
  ·exact⟨rfl,Or.inr ⟨HR.out,rfl⟩,cz⟩
 | some x =>
  obtain⟨n,j⟩:=x;rw[hU]at CN;have HR:=Ad (hRT n j hU);obtain⟨r,sn,hlr,hjj⟩:=gD0.1 hU
  have hj:j<=b.length-k:=by
   have:=congrArg Av hlr
   rw[Ai,List.length_append]at this;omega
  clear hlr hjj r;clear hRT t9 ac hba hU;obtain⟨K,hK⟩:=exq (k+j);have hKb:K<=b.length:=by omega
  rw[<-hK]at HR;have HK:=Ad hK;go_enter Tryz.func194,Tryz.ntmps194
  go_wp2_with fail
  refine CN.out.mono ?_;rintro e w1 ⟨mn,cz⟩;rcases mn with ⟨v,n',hR,rfl,ml,p8,hf1⟩|⟨hR,_⟩
  case inr=>cases hR
  obtain⟨rfl,rfl⟩:n=v/\j=n':=by simpa using hR
  rw[<-hK]at ml;have z0:∀x:Ext aB w1.drew,x.u.cell? ⟨rb,0,none⟩=some (.slice ba b.length bc):=aF ((aB.drew w1).cell p8);have z1:∀x:Ext aB w1.drew,x.u.cell? ⟨rb,1,none⟩=some (.int .i64 (K:Int)):=aF ((aB.drew w1).cell ml);have aep:IntKind.i64.wrap ((b.length:Int)-(K:Int))=((b.length-K:Nat):Int):=by simp[Ar,As,Am];omega
  have wcv:IntKind.u64.wrap ((b.length-K:Nat):Int)=((b.length-K:Nat):Int):=by simp[Ar,As,Am];omega
  clear hR hK;by_cases cy:b.length-K<n
  ·have kr:((b.length-K:Nat):Int)<n:=by omega
   have HRN:Hid (rdT (b.drop k)=none):=by show _=_;rw[HR.out,if_neg (by rw[Ai];omega)]
   clear HR;go_wp2_with fail
   refine bK (bB 13 []) (by kernel_rfl) (λd _ _ _ _ h=>by cases d<;>exact h) ?_
   iterate 13 (refine aH rfl (λK hK=>?_);go_simp;refine hK _ ?_;clear hK K)
   refine bQ ?_;clear z0 z1;go_wp2_with fail
   exact⟨rfl,Or.inr ⟨HRN.out,rfl⟩,EB.trans _ _ _ _ cz (EB.of (aB.drew w1) (Az (Ba hrb) cz.2))⟩
  ·have kr:¬((b.length-K:Nat):Int)<n:=by omega
   have HRS:Hid (rdT (b.drop k)=some (mkB ((b.drop K).take n),j+n)):=by show _=_;rw[HR.out,if_pos (by rw[Ai];omega)]
   clear HR;go_wp2_with fail
   refine bK (bB 13 []) (by kernel_rfl) (λd _ _ _ _ h=>by cases d<;>exact h) ?_
   iterate 13 (refine aH rfl (λK hK=>?_);go_simp;refine hK _ ?_;clear hK K)
   refine bQ ?_;clear z0 z1;have y0:∀x:Ext aB w1.drew.drew,x.u.cell? ⟨rb,0,none⟩=some (.slice ba b.length bc):=aF ((aB.drew _).cell ((aB.drew w1).cell p8));have y1:∀x:Ext aB w1.drew.drew,x.u.cell? ⟨rb,1,none⟩=some (.int .i64 (K:Int)):=aF ((aB.drew _).cell ((aB.drew w1).cell ml));have wn:IntKind.i64.wrap (n:Int)=n:=by simp[Ar,As,Am];omega
   have wa:IntKind.i64.wrap ((K:Int)+n)=((K+n:Nat):Int):=by simp[Ar,As,Am];omega
   go_wp2_with fail
   refine bK (bB 18 []) (by kernel_rfl) (λd _ _ _ _ h=>by cases d<;>exact h) ?_
   have h01:(0:Int)<=(K:Int)+n:=by omega
   have h02:(K:Int)+n<=bc:=by omega
   have tn:((K:Int)+n).toNat=K+n:=by omega
   have tk:K<=K+n:=by omega
   have tm:K+n-K=n:=by omega
   have HAT1:aG w1 ba 1 (b.map aZ):=λaj=>by
    obtain⟨bb,bo,e,hc⟩:=HAT.out aj;have ae:=HBA.out _ e (λh0=>aj (by rw[h0];rfl));exact⟨bb,bo,e,λi row hi j v hj=>(Below.cell cz.1 (by simpa using ae)).trans (hc i row hi j v hj)⟩
   obtain⟨a',iy,jw,_⟩:=aA0 (c:=bc) (l:=K) (h:=K+n) (k:=1) HAT1 HNC.out (by omega) (by omega) (by omega);rw[show K+n-K=n by omega]at iy
   have ag7:(if bc=K then ba else Bd (λx=>x.add K) ba)=a':=by
    unfold sliced at iy;by_cases s5:bc=K
    ·rw[if_pos s5]at iy ⊢;exact(Value.slice.inj iy).1
    ·rw[if_neg s5]at iy ⊢
     have:=(Value.slice.inj iy).1
     rw[<-this];congr 1
     funext x
     rw[Bc]
   have mh:((b.take (K+n)).drop K)=(b.drop K).take n:=by rw[List.take_drop]
   have vl:((b.drop K).take n).length=n:=by rw[Aq,Ai];omega
   rw[mh]at jw
   have rh:∀x:Ext aB w1.drew.drew,(convert 60 9 (.slice a' n (bc-K))).run Tryz.prog x.u=.ok (.string (mkB ((b.drop K).take n))) x.u:=λx=>by
    have:=xP (c:=bc-K) (jw.grows (aB.trans _ _ _ (aB.trans _ _ _ (aB.drew w1) (aB.drew _)) x.h))
    rw[vl]at this;exact this
   generalize (b.drop K).take n=S at *;iterate 18 (refine aH rfl (λK hK=>?_);go_simp;refine hK _ ?_;clear hK K)
   refine bQ ?_;go_wp2_with fail
   go_ret;refine⟨Or.inl ⟨_,_,HRS.out,rfl,?_⟩,EB.trans _ _ _ _ (EB.trans _ _ _ _ cz (⟨(Below.refl rb w1).setCell (p:=⟨rb,1,none⟩) (Aj rb) _,by simp⟩:EB rb w1 (w1.setCell ⟨rb,1,none⟩ (.int .i64 ((K:Int)+n))))) (EB.of ((aB.drew _).dr) (by simp;exact Az (Ba hrb) cz.2))⟩;rw[show ((k+(j+n):Nat):Int)=(K:Int)+n by rw[HK.out];push_cast;omega]
   exact Ac _ _ _ ml
structure qS1 (w:World) (s:Value) (k:Int) (W:World):Prop where
 g:aB w W
 sz:w.heap.size+1+1+1<W.heap.size
 c0:W.cell? ⟨w.heap.size,0,none⟩=some (.string ⟨#[]⟩)
 f0:W.frozen? ⟨w.heap.size,0,none⟩=false
 c1:W.cell? ⟨w.heap.size+1,0,none⟩=some (.int .i64 0)
 f1:W.frozen? ⟨w.heap.size+1,0,none⟩=false
 c2:W.cell? ⟨w.heap.size+1+1,0,none⟩=some (.bool false)
 f2:W.frozen? ⟨w.heap.size+1+1,0,none⟩=false
 r0:W.cell? ⟨w.heap.size+1+1+1,0,none⟩=some s
 r1:W.cell? ⟨w.heap.size+1+1+1,1,none⟩=some (.int .i64 k)
 rf:W.frozen? ⟨w.heap.size+1+1+1,1,none⟩=false
theorem qT1 (w:World) (s:Value) (k:Int):qS1 w s k ((((w.alloc (.cells #[.string ⟨#[]⟩] 9)).alloc (.cells #[.int .i64 0] 3)).alloc (.cells #[.bool false] 4)).alloc (.cells #[s,.int .i64 k] 306)):=by
 have e1:(w.alloc (.cells #[.string ⟨#[]⟩] 9)).heap.size=w.heap.size+1:=by simp
 have e2:((w.alloc (.cells #[.string ⟨#[]⟩] 9)).alloc (.cells #[.int .i64 0] 3)).heap.size=w.heap.size+1+1:=by simp
 have e3:(((w.alloc (.cells #[.string ⟨#[]⟩] 9)).alloc (.cells #[.int .i64 0] 3)).alloc (.cells #[.bool false] 4)).heap.size=w.heap.size+1+1+1:=by simp
 have b0:=cF (w:=w) (cs:=#[.string ⟨#[]⟩]) (t:=9) (w':=((((w.alloc (.cells #[.string ⟨#[]⟩] 9)).alloc (.cells #[.int .i64 0] 3)).alloc (.cells #[.bool false] 4)).alloc (.cells #[s,.int .i64 k] 306))) (((aB.alloc _ _).al _).al _);have b1:=cF (w:=w.alloc (.cells #[.string ⟨#[]⟩] 9)) (cs:=#[.int .i64 0]) (t:=3) (w':=((((w.alloc (.cells #[.string ⟨#[]⟩] 9)).alloc (.cells #[.int .i64 0] 3)).alloc (.cells #[.bool false] 4)).alloc (.cells #[s,.int .i64 k] 306))) ((aB.alloc _ _).al _);have b2:=cF (w:=(w.alloc (.cells #[.string ⟨#[]⟩] 9)).alloc (.cells #[.int .i64 0] 3)) (cs:=#[.bool false]) (t:=4) (w':=((((w.alloc (.cells #[.string ⟨#[]⟩] 9)).alloc (.cells #[.int .i64 0] 3)).alloc (.cells #[.bool false] 4)).alloc (.cells #[s,.int .i64 k] 306))) (aB.alloc _ _);have b3:=cF (w:=((w.alloc (.cells #[.string ⟨#[]⟩] 9)).alloc (.cells #[.int .i64 0] 3)).alloc (.cells #[.bool false] 4)) (cs:=#[s,.int .i64 k]) (t:=306) (w':=((((w.alloc (.cells #[.string ⟨#[]⟩] 9)).alloc (.cells #[.int .i64 0] 3)).alloc (.cells #[.bool false] 4)).alloc (.cells #[s,.int .i64 k] 306))) (aB.refl _);rw[e1]at b1;rw[e2]at b2;rw[e3]at b3;exact⟨(((aB.alloc _ _).al _).al _).al _,by simp,b0.1 0 _ rfl,b0.2 0,b1.1 0 _ rfl,b1.2 0,b2.1 0 _ rfl,b2.2 0,b3.1 0 _ rfl,b3.1 1 _ rfl,b3.2 1⟩
theorem bQ1 (b:List UInt8) (k:Nat) (ba:Option Addr) (bc:Nat) (w:World) (hk:k<=b.length) (hb:b.length<=1099511627776) (ff:b.length<=bc) (jk:ba=none->bc=0) (ac:aG w ba 1 (b.map aZ)) :
  Calls Tryz.prog 193 #[.slice ba b.length bc,.int .i64 k,.func (.func 194) #[] #[]] w λe w'=>e=.returned (tS0 k (rdT (b.drop k)))/\aB w w':=by
 have sv:∀(fn:Fn) (first cap:Array Value) (w:World),(Instr.makeFunc fn first cap).run Tryz.prog w=.ok (.func fn first cap) w:=λ_ _ _ _=>rfl
 have nt:¬(k:Int)<0:=by omega
 have HAT:=Ad ac
 have HBA:Hid (∀q:Addr,ba=some q->b≠[]->q.block<w.heap.size):=λq hq aj=>by
  obtain⟨x,hx⟩:∃x,b[0]?=some x:=⟨_,Ab (List.length_pos_iff.2 aj)⟩;obtain⟨bb,bo,e,ff⟩:=ac.get aj;rw[e]at hq;cases hq
  exact Ae _ _ (ff 0 x hx 0 _ rfl)
 obtain⟨R,hR⟩:=exq (rdT (b.drop k));have HR:=Ad hR;rw[<-hR];clear hR ac;go_enter_defers Tryz.func193,Tryz.ntmps193
 go_wp2_with fail
 have hB:=qT1 w (.slice ba b.length bc) k;generalize ((((w.alloc (.cells #[Value.string ⟨#[]⟩] 9)).alloc (.cells #[.int .i64 0] 3)).alloc (.cells #[.bool false] 4)).alloc (.cells #[Value.slice ba b.length bc,.int .i64 k] 306))=W4 at *;refine(kF1 b _ k ba bc W4 hk hb ff jk (HAT.out.grows hB.g) (λq hq aj=>Nat.lt_trans (HBA.out q hq aj) (by omega)) hB.r0 hB.r1 hB.rf).mono ?_;rintro e w5 ⟨mn,cz⟩;rw[<-HR.out]at mn;have hs5:=cz.2;have du:=hB.sz;have c0:w5.cell? ⟨w.heap.size,0,none⟩=_:=(Below.cell cz.1 (by simp only;omega)).trans hB.c0;have c1:w5.cell? ⟨w.heap.size+1,0,none⟩=_:=(Below.cell cz.1 (by simp only;omega)).trans hB.c1;have c2:w5.cell? ⟨w.heap.size+1+1,0,none⟩=_:=(Below.cell cz.1 (by simp only;omega)).trans hB.c2;have f0:w5.frozen? ⟨w.heap.size,0,none⟩=_:=(Below.frozen cz.1 (by simp only;omega)).trans hB.f0;have f1:w5.frozen? ⟨w.heap.size+1,0,none⟩=_:=(Below.frozen cz.1 (by simp only;omega)).trans hB.f1;have f2:w5.frozen? ⟨w.heap.size+1+1,0,none⟩=_:=(Below.frozen cz.1 (by simp only;omega)).trans hB.f2;have bk:aB w w5:=jQ0 hB.g cz (by omega);rcases mn with ⟨v,n,rfl,rfl,hc⟩|⟨rfl,rfl⟩
 ·have g0:(w5.setCell ⟨w.heap.size,0,none⟩ (.string v)).cell? ⟨w.heap.size,0,none⟩=some (.string v):=Ac _ _ _ c0
  have g1:(w5.setCell ⟨w.heap.size,0,none⟩ (.string v)).cell? ⟨w.heap.size+1,0,none⟩=some (.int .i64 0):=(Aa _ _ _ _ (λe=>by have:=congrArg Af e;simp only at this;omega)).trans c1;have g2:(w5.setCell ⟨w.heap.size,0,none⟩ (.string v)).cell? ⟨w.heap.size+1+1,0,none⟩=some (.bool false):=(Aa _ _ _ _ (λe=>by have:=congrArg Af e;simp only at this;omega)).trans c2;have g3:(w5.setCell ⟨w.heap.size,0,none⟩ (.string v)).cell? ⟨w.heap.size+1+1+1,1,none⟩=some (.int .i64 ((k+n:Nat):Int)):=(Aa _ _ _ _ (λe=>by have:=congrArg Af e;simp only at this;omega)).trans hc
  have gg:∀j,j=w.heap.size\/j=w.heap.size+1\/j=w.heap.size+1+1->(w5.setCell ⟨w.heap.size,0,none⟩ (.string v)).frozen? ⟨j,0,none⟩=false:=λj hj=>by
   rw[Ah];rcases hj with rfl|rfl|rfl
   ·exact f0
   ·exact f1
   ·exact f2
  obtain⟨K,nc⟩:=exq (k+n);rw[<-nc]at g3 hc;have HK2:=Ad nc;clear nc;have hgp:aB w (w5.setCell ⟨w.heap.size,0,none⟩ (.string v)):=bk.set (by simp only;omega) _;have hsp:w.heap.size+1+1+1<(w5.setCell ⟨w.heap.size,0,none⟩ (.string v)).heap.size:=by simp;omega
  clear HR hB cz c1 c2 f1 f2 hc bk;go_wp2_with fail
  clear c0 f0;generalize (w5.setCell ⟨w.heap.size,0,none⟩ (.string v))=w6 at *;have z0:∀x:Ext (ES w.heap.size (.string v)) w6.drew,x.u.cell? ⟨w.heap.size,0,none⟩=some (.string v):=λx=>x.h.2.2.2.1 ((aB.drew _).cell g0);have z3:∀x:Ext (ES w.heap.size (.string v)) w6.drew,x.u.cell? ⟨w.heap.size+1+1+1,1,none⟩=some (.int .i64 (K:Int)):=λx=>x.h.2.1 _ _ (by simp only;omega) ((aB.drew _).cell g3);have x0:w6.drew.cell? ⟨w.heap.size,0,none⟩=some (.string v):=g0;have xf:w6.drew.frozen? ⟨w.heap.size,0,none⟩=false:=gg _ (Or.inl rfl);refine pV0 ?_;refine rE0 (ES w.heap.size (.string v)) 6 (bB 6 [5]) (ES.refl _ _) (ES.trans _ _) (by kernel_rfl) (by kernel_rfl) (λ_ _ _ _ _ h=>h) ?_;iterate 5 (refine aH rfl (λK hK=>?_);go_simp;refine hK _ ?_;clear hK K)
  refine bJ rfl rfl (λK hK=>?_);go_simp;refine⟨ES.put x0,hK _ _ ?_⟩;clear hK K;refine bQ ?_;simp only[Ag,Al];clear z0 z3;have n0:=g0;have y0:(w6.setCell ⟨w.heap.size,0,none⟩ (.string v)).cell? ⟨w.heap.size,0,none⟩=some (.string v):=Ac _ _ _ g0;have y1:(w6.setCell ⟨w.heap.size,0,none⟩ (.string v)).cell? ⟨w.heap.size+1,0,none⟩=some (.int .i64 0):=(Aa _ _ _ _ (λe=>by have:=congrArg Af e;simp only at this;omega)).trans g1;have y2:(w6.setCell ⟨w.heap.size,0,none⟩ (.string v)).cell? ⟨w.heap.size+1+1,0,none⟩=some (.bool false):=(Aa _ _ _ _ (λe=>by have:=congrArg Af e;simp only at this;omega)).trans g2;have yg:aB w (w6.setCell ⟨w.heap.size,0,none⟩ (.string v)):=hgp.set (by simp only;omega) _;have yf1:(w6.setCell ⟨w.heap.size,0,none⟩ (.string v)).frozen? ⟨w.heap.size+1,0,none⟩=false:=(Ah _ _ _ _).trans (gg _ (Or.inr (Or.inl rfl)));have yf2:(w6.setCell ⟨w.heap.size,0,none⟩ (.string v)).frozen? ⟨w.heap.size+1+1,0,none⟩=false:=(Ah _ _ _ _).trans (gg _ (Or.inr (Or.inr rfl)));clear x0 xf g0 g1 g2 g3 gg n0;generalize w6.setCell ⟨w.heap.size,0,none⟩ (.string v)=w7 at *
  have k1:((w7.setCell ⟨w.heap.size+1,0,none⟩ (.int .i64 K)).setCell ⟨w.heap.size+1+1,0,none⟩ (.bool true)).drew.cell? ⟨w.heap.size+1,0,none⟩=some (.int .i64 K):=by
   refine(Aa _ _ _ _ (λe=>by have:=congrArg Af e;simp only at this;omega)).trans ?_;exact Ac _ _ _ y1
  have y2':(w7.setCell ⟨w.heap.size+1,0,none⟩ (.int .i64 K)).cell? ⟨w.heap.size+1+1,0,none⟩=some (.bool false):=by
   rw[Aa _ _ _ _ (λe=>by have:=congrArg Af e;simp only at this;omega)];exact y2
  have k2:((w7.setCell ⟨w.heap.size+1,0,none⟩ (.int .i64 K)).setCell ⟨w.heap.size+1+1,0,none⟩ (.bool true)).drew.cell? ⟨w.heap.size+1+1,0,none⟩=some (.bool true):=Ac _ _ _ y2'
  have k0:((w7.setCell ⟨w.heap.size+1,0,none⟩ (.int .i64 K)).setCell ⟨w.heap.size+1+1,0,none⟩ (.bool true)).drew.cell? ⟨w.heap.size,0,none⟩=some (.string v):=by
   refine(Aa _ _ _ _ (λe=>by have:=congrArg Af e;simp only at this;omega)).trans ?_;refine(Aa _ _ _ _ (λe=>by have:=congrArg Af e;simp only at this;omega)).trans ?_;exact y0
  have kg:aB w ((w7.setCell ⟨w.heap.size+1,0,none⟩ (.int .i64 K)).setCell ⟨w.heap.size+1+1,0,none⟩ (.bool true)).drew:=((yg.set (by simp only;omega) _).set (by simp only;omega) _).dr;go_wp2_with fail
  simp only[xE];go_wp2_with fail
  refine leaves_cons (f:=235) (args:=#[.pointer (some ⟨w.heap.size,0,none⟩),.pointer (some ⟨w.heap.size+1,0,none⟩),.pointer (some ⟨w.heap.size+1+1,0,none⟩)]) (by simp) (by simp[go_sem]) ?_
  refine(fC1 _ _ _ _).mono ?_;rintro e u' l9 ⟨rfl,rfl,rfl⟩;show Leaves _ _ _ _ _ _ _
  simp only[settle];refine⟨.tuple #[.string v,.int .i64 K,.bool true],?_,by rw[HK2.out];rfl,kg⟩;simp[results,Tryz.results193,go_sem,k0,k1,k2]
 ·clear HR hB cz
  go_wp2_with fail
  refine leaves_cons (f:=235) (args:=#[.pointer (some ⟨w.heap.size,0,none⟩),.pointer (some ⟨w.heap.size+1,0,none⟩),.pointer (some ⟨w.heap.size+1+1,0,none⟩)]) (by simp) (by simp[go_sem]) ?_
  refine(vR0 w.heap.size (w.heap.size+1) (w.heap.size+1+1) w5 [] _ _ _ c0 c1 c2 f0 f1 f2 (by omega) (by omega) (by omega) w.heap.size (by omega) (by omega) (by omega)).mono ?_;rintro e u' l9 ⟨rfl,rfl,k0,k1,k2,aco⟩;have kg:aB w l9:=EB.grows bk aco;show Leaves _ _ _ _ _ _ _
  simp only[settle];refine⟨.tuple #[.string ⟨#[]⟩,.int .i64 0,.bool false],?_,rfl,kg⟩;simp[results,Tryz.results193,go_sem,k0,k1,k2]
theorem dN0 (b:List UInt8) (k:Nat) (ba:Option Addr) (bc:Nat) (w:World) (hk:k<=b.length) (hb:b.length<=1099511627776) (ff:b.length<=bc) (jk:ba=none->bc=0) (ac:aG w ba 1 (b.map aZ)) :
  Calls Tryz.prog 129 #[.slice ba b.length bc,.int .i64 k] w λe w'=>e=.returned (tS0 k (rdT (b.drop k)))/\aB w w':=by
 have CR:=Ad (bQ1 b k ba bc w hk hb ff jk ac)
 cases hR:rdT (b.drop k) with
 | none =>
  rw[hR]at CR;unfold tS0 at CR ⊢;clear hR ac;go_enter Tryz.func129,Tryz.ntmps129
  go_wp2_with fail
  refine CR.out.mono ?_;rintro e w1 ⟨rfl,hg⟩;go_wp2_with fail
  go_ret3;exact⟨rfl,hg⟩
 | some x =>
  obtain⟨v,n⟩:=x;rw[hR]at CR;unfold tS0 at CR ⊢;obtain⟨K,hK⟩:=exq (k+n);simp only[<-hK]at CR ⊢;clear hR ac hK;go_enter Tryz.func129,Tryz.ntmps129
  go_wp2_with fail
  refine CR.out.mono ?_;rintro e w1 ⟨rfl,hg⟩;go_wp2_with fail
  go_ret3;exact⟨rfl,hg⟩
end
section
open Go Go.RowKit
theorem aB0 {w:World} {ba:Option Addr} {b:List UInt8} {bc l h:Nat} (ac:aG w ba 1 (b.map aZ)) (hn:ba=none->bc=0) (h1:l<=h) (h2:h<=b.length) (h3:b.length<=bc) :
  ∃a',(if bc=l then ba else Bd (λx=>x.add l) ba)=a'/\aG w a' 1 (((b.take h).drop l).map aZ)/\(a'=none->bc-l=0):=by
 obtain⟨a',iy,jw,abh⟩:=aA0 (c:=bc) (l:=l) (h:=h) (k:=1) ac hn h1 h2 h3;refine⟨a',?_,jw,abh⟩;unfold sliced at iy;by_cases s5:bc=l
 ·rw[if_pos s5]at iy ⊢;exact(Value.slice.inj iy).1
 ·rw[if_neg s5]at iy ⊢
  have:=(Value.slice.inj iy).1
  rw[<-this];congr 1
  funext x
  rw[Bc]
end
section
open Go Go.RowKit Go.Shelf
attribute [local go_sem] aQ
def wchk (s:ByteArray):Int:=if countS s<0 then 10 else if countS s=0 then 1 else if 64<countS s then 2 else 0
theorem qN (s:ByteArray) (w:World) (hs:s.size<9223372036854775807) (he:Env w) :
  Calls Tryz.prog 12 #[.string s] w λe w'=>e=.returned (.int .i64 (wchk s))/\aB w w':=by
 have CC:=Ad (mK s w hs he);unfold wchk;generalize countS s=n at CC ⊢;clear hs he;go_enter Tryz.func12,Tryz.ntmps12
 by_cases h1:n<0
 ·rw[if_pos h1]
  go_wp2_with (go_at_call 22;refine CC.out.mono ?_;rintro e w' ⟨rfl,hg⟩)
  go_ret;exact⟨rfl,hg⟩
 ·rw[if_neg h1]
  by_cases h2:n=0
  ·subst h2
   rw[if_pos rfl];go_wp2_with (go_at_call 22;refine CC.out.mono ?_;rintro e w' ⟨rfl,hg⟩)
   go_ret;exact⟨rfl,hg⟩
  ·rw[if_neg h2]
   have hb:(n==0)=false:=by simpa using h2
   clear h2;by_cases h3:64<n
   ·rw[if_pos h3]
    go_wp2_with (go_at_call 22;refine CC.out.mono ?_;rintro e w' ⟨rfl,hg⟩)
    go_ret;exact⟨rfl,hg⟩
   ·rw[if_neg h3]
    go_wp2_with (go_at_call 22;refine CC.out.mono ?_;rintro e w' ⟨rfl,hg⟩)
    go_ret;exact⟨rfl,hg⟩
theorem wM0:readingS ⟨#[227,129,130]⟩=true:=by decide +kernel
theorem hJ1 (s:ByteArray) (w:World) (hs:s.size<9223372036854775807) (he:Env w) :
  Calls Tryz.prog 45 #[.string s] w λe w'=>e=.returned (.bool (surfaceS s))/\aB w w':=by
 have CC:=Ad (dM0 ⟨#[227,129,130]⟩ s 0 0 0 1 w (by decide) hs he)
 have hk:xA ⟨#[227,129,130]⟩ s 0 0 0 1=if surfaceS s then 0 else 5:=by
  unfold xA;rw[wM0];cases surfaceS s<;>simp
 rw[hk]at CC;clear hs he hk;generalize surfaceS s=b at CC ⊢;go_enter Tryz.func45,Tryz.ntmps45
 cases b
 ·simp only[Bool.false_eq_true,if_false]at CC
  go_wp2_with (go_at_call 86;refine CC.out.mono ?_;rintro e w' ⟨rfl,hg⟩)
  go_ret;exact⟨rfl,hg⟩
 ·simp only[if_true]at CC
  go_wp2_with (go_at_call 86;refine CC.out.mono ?_;rintro e w' ⟨rfl,hg⟩)
  go_ret;exact⟨rfl,hg⟩
theorem tP0 (s:ByteArray) (w:World) (hs:s.size<9223372036854775807) (he:Env w) :
  Calls Tryz.prog 44 #[.string s] w λe w'=>e=.returned (.bool (Ay s.data.toList))/\aB w w':=by
 have cV:Calls Tryz.prog 61 #[.string s] w _:=Any.utf8_ValidString Tryz.laysValid s w (by omega) he.utf;have CV:=Ad cV;clear cV he hs;generalize Ay s.data.toList=v at CV ⊢;go_enter Tryz.func44,Tryz.ntmps44
 go_wp2_with (go_at_call 61;refine CV.out.mono ?_;rintro e w' ⟨rfl,hg⟩)
 go_ret;exact⟨rfl,hg⟩
theorem xO0 (w:World) (s:ByteArray) (hs:s.size<=70368744177664):∃c w',(convert 9 71 (.string s)).run Tryz.prog w=.ok (.slice (some ⟨w.heap.size,0,none⟩) (bD s.data.toList).length c) w'/\((bD s.data.toList).length<=c/\c<=maxLen)/\aB w w'/\aG w' (some ⟨w.heap.size,0,none⟩) 1 ((bD s.data.toList).map nI):=by
 have hl:(Conv.runesFrom s s.size 0 #[]).size=(bD s.data.toList).length:=by
  rw[<-Array.length_toList,rZ,Ak]
 have gm:=kO s.data.toList;have du:s.data.toList.length=s.size:=(Bb s).symm;have hr:=run_runes_of_string (P:=Tryz.prog) w 9 71 21 s Tryz.underlying9 Tryz.underlying71 Tryz.underlying21 (by omega);rw[hl]at hr;refine⟨_,_,hr,⟨grownCap_ge _ _ _ _,grownCap_le_maxLen _ _ _ _ (by unfold maxLen;omega)⟩,(aB.drew w).al _,λ_=>⟨w.heap.size,0,rfl,λi row hi j v hj=>?_⟩⟩
 obtain⟨x,hx,rfl⟩:∃x,(bD s.data.toList)[i]?=some x/\nI x=row:=by
  rw[Ao]at hi
  cases hq:(bD s.data.toList)[i]? with
  | none=>rw[hq]at hi;cases hi
  | some x=>rw[hq]at hi;exact⟨x,rfl,by simpa using hi⟩
 obtain rfl:j=0:=by
  have:=(List.getElem?_eq_some_iff.1 hj).1
  simp[nI]at this;omega
 obtain rfl:Value.int .i32 x=v:=by simpa [nI] using hj
 have hb:=aT w.drew (Conv.runesFrom s s.size 0 #[]++At (grownCap w (bD s.data.toList).length 0 21-(bD s.data.toList).length) (.int .i32 0)) 21 (0,0) i (.int .i32 x) (by
  have ji:=(List.getElem?_eq_some_iff.1 hx).1;rw[Array.getElem?_append_left (by rw[hl];exact ji),<-Array.getElem?_toList,rZ,Ao,hx];rfl)
 simpa using hb
theorem uF0 (s:ByteArray) (w:World) (hs:s.size<=70368744177664) (he:Env w) (hv:Ay s.data.toList=true) :
  Calls Tryz.prog 30 #[.string s] w λe w'=>∃a c,e=.returned (.tuple #[.slice a (bD s.data.toList).length c,.bool true])/\((bD s.data.toList).length<=c/\c<=maxLen)/\aG w' a 1 ((bD s.data.toList).map nI)/\aB w w':=by
 have cV:Calls Tryz.prog 61 #[.string s] w _:=Any.utf8_ValidString Tryz.laysValid s w (by omega) he.utf;rw[hv]at cV;have CV:=Ad cV;have HS:=Ad hs;clear cV he hs hv;go_enter Tryz.func30,Tryz.ntmps30
 go_wp2_with fail
 refine CV.out.mono ?_;rintro e w1 ⟨rfl,hg⟩;obtain⟨c,w2,iw,o8,af,ac⟩:=xO0 w1 s HS.out;have G:=Ad (aB.trans _ _ _ (show aB w w1 from hg) af)
 have HA:=Ad ac;have HCC:=Ad o8;clear hg af ac o8;go_wp2_with fail
 go_ret2;exact⟨_,_,rfl,HCC.out,HA.out,G.out⟩
end
section
open Go Go.ChangeShapes Go.WideShapes Go.ChangeAt Go.RowKit Go.Shelf Go.Lib
open Go.ChangeMaps (open_string shut_string)
structure nO1 (x:jI1):Prop where
 r:(Lit.int .i64 x.r).wf=true
 l:(Lit.int .i64 x.l).wf=true
 c:(Lit.int .i64 x.c).wf=true
theorem mS1 {H:Type} {enc:TypeId×Value->H} {W:World} {base:Nat} {sp:Nat->Bool} {hd:Bool} (n:Nat) (cs:List Value) (x:DataW H×List MemPlace) (hl:cs.length=3) (h:DataW.trod enc Tryz.prog W base sp hd n 143 cs=some x) :
  ∃y:jI1,cs=nI1 y/\nO1 y:=by
 obtain⟨xs,n,_,hx,_,ah,ax⟩:=DataW.trod_struct Tryz.underlying143 h
 match cs,hl with
 | [c0,c1,c2],_ =>
  match xs,ah with
  | [y0,y1,y2],_ =>
   have g0:=ax 0 _ rfl;have g1:=ax 1 _ rfl;have g2:=ax 2 _ rfl;obtain⟨n0,k0,_,z0⟩:=DataW.trod_int Tryz.underlying3 g0;obtain⟨n1,k1,_,z1⟩:=DataW.trod_int Tryz.underlying3 g1;obtain⟨n2,k2,_,z2⟩:=DataW.trod_int Tryz.underlying3 g2;refine⟨⟨n0,n1,n2⟩,?_,⟨z0,z1,z2⟩⟩;have e0:c0=.int .i64 n0:=by injection k0
   have e1:c1=.int .i64 n1:=by injection k1
   have e2:c2=.int .i64 n2:=by injection k2
   subst e0 e1 e2;rfl
structure jS1 (x:cO):Prop where
 n:x.name.size<=maxLen
 k:(Lit.int .i64 x.kind).wf=true
theorem fS1 {H:Type} {enc:TypeId×Value->H} {W:World} {base:Nat} {sp:Nat->Bool} {hd:Bool} (n:Nat) (cs:List Value) (x:DataW H×List MemPlace) (hl:cs.length=2) (h:DataW.trod enc Tryz.prog W base sp hd n 110 cs=some x) :
  ∃y:cO,cs=bN y/\jS1 y:=by
 obtain⟨xs,n,_,hx,_,ah,ax⟩:=DataW.trod_struct Tryz.underlying110 h
 match cs,hl with
 | [c0,c1],_ =>
  match xs,ah with
  | [y0,y1],_ =>
   have g0:=ax 0 _ rfl;have g1:=ax 1 _ rfl;obtain⟨s0,k0,_,z0⟩:=DataW.trod_string Tryz.underlying9 g0;obtain⟨n1,k1,_,z1⟩:=DataW.trod_int Tryz.underlying3 g1;refine⟨⟨s0,n1⟩,?_,⟨z0,z1⟩⟩;have e0:c0=.string s0:=by injection k0
   have e1:c1=.int .i64 n1:=by injection k1
   subst e0 e1;rfl
theorem hS1 {cs:Array Value} {a b c d:Value} (hs:cs.size=4) (h0:(cs.toList.drop 0).take 1=[a]) (h1:(cs.toList.drop 1).take 1=[b]) (h2:(cs.toList.drop 2).take 1=[c]) (h3:(cs.toList.drop 3).take 1=[d]):cs = #[a,b,c,d]:=by
 obtain⟨l⟩:=cs
 match l,hs with
 | [x0,x1,x2,x3],_ =>
  simp at h0 h1 h2 h3;subst h0 h1 h2 h3;rfl
section
variable {H:Type} {enc:TypeId×Value->H} {P:Program} {w:World} {base:Nat} {spare:Nat->Bool} {held:Bool}
theorem tT {α:Type} {cells:α->List Value} {OK:α->Prop} {t e:TypeId} {k b9:Nat} {cs0:List Value} {x0:DataW H×List MemPlace} (ht:P.underlying t=some (.slice e)) (hC:P.cellsOf e=k) (hk:0<k) (ah:∀y,(cells y).length=k)
  (zw:∀(n:Nat) (cs:List Value) (x:DataW H×List MemPlace),cs.length=k->DataW.trod enc P w base spare held n e cs=some x->∃y:α,cs=cells y/\OK y)
  (hf:DataW.trod enc P w base spare held b9 t cs0=some x0) :
  ∃(a:Option Addr) (l:List α) (cap:Nat),cs0=[.slice a l.length cap]/\aG w a k (l.map cells)/\(∀x∈l,OK x)/\(x0.1=.nil/\l=[]\/∃el sp,x0.1=.slice el sp/\el.length=l.length)/\(a=none->cap=0):=by
 rcases Go.Deep.open_slice ht hf with ⟨h1,h2⟩|⟨a',len,cap,m,n,D,Pl,h1,hb,gm,ag3,hm,hx,hi⟩
 ·subst h1 h2
  exact⟨none,[],0,rfl,aG.nil _ _ _,by simp,Or.inl ⟨rfl,rfl⟩,λ_=>rfl⟩
 ·subst h1 hx
  obtain⟨l,hl,hp⟩:=uG (P:=λi (y:α)=>OK y/\∀(j:Nat) (u:Value),(cells y)[j]?=some u->w.cell? (a'.add (i*k+j))=some u) len (λi ae=>by
   have him:i<m:=by rw[hm];split<;>omega
   obtain⟨cs,ck,htr⟩:=hi i him;rw[hC]at ck;obtain⟨_,ci,ac⟩:=World.cells?_some ck;obtain⟨y,rfl,ag⟩:=zw _ _ _ ci htr;refine⟨y,ag,λj u hu=>?_⟩;have hj:j<k:=by rw[<-ci];exact(List.getElem?_eq_some_iff.1 hu).1
   rw[<-Go.Deep.add_add];exact(ac j hj).trans hu)
  subst hl;refine⟨some a',l,cap,rfl,λaj=>?_,λx hx=>?_,Or.inr ⟨_,_,rfl,by simp⟩,λh=>by cases h⟩
  ·have hs:a'.spot=none:=by
    cases l with
    | nil=>simp at aj
    | cons y0 r =>
     have h0:0<(cells y0).length:=by rw[ah];exact hk
     have:=(hp 0 y0 rfl).2 0 _ (Ab h0)
     have h2:=jK0 this;rw[Nat.zero_mul,Nat.zero_add]at h2;simpa [Bf] using h2
   obtain⟨b,off,s⟩:=a';obtain rfl:s=none:=hs;refine⟨b,off,rfl,λi row ji j u hj=>?_⟩;rw[Ao]at ji
   cases fu:l[i]? with
   | none=>rw[fu]at ji;cases ji
   | some y =>
    rw[fu]at ji;obtain rfl:=Option.some.inj ji
    have:=(hp i y fu).2 j u hj
    rw[iH]at this;rw[Nat.add_assoc];exact this
  ·obtain⟨i,ae,rfl⟩:=List.getElem_of_mem hx
   exact(hp i _ (Ab ae)).1
theorem kN0 {ts:List TypeId} {ds:List (DataW H)} (h:(DataW.weightsEach P ts ds).all (· <= reachBytes)=true) {j:Nat} {t:TypeId} {fs:Array Field} {parts:List (DataW H)} (ht:ts[j]?=some t) (hd:ds[j]?=some (.agg parts)) (hu:P.underlying t=some (.struct fs)) :
  (DataW.weightsEach P (fs.toList.map (·.type)) parts).all (· <= reachBytes)=true:=by
 rw[List.all_eq_true];intro n hn;exact List.all_eq_true.1 h n (DataW.weights_mem_each ht hd n (by simp only[DataW.weights,hu];exact hn))
end
theorem open_src {H:Type} {enc:TypeId×Value->H} {W:World} {base b0:Nat} {sp:Nat->Bool} {hd:Bool} {r:Reach} {v:Value} {d:DataW H} {ps:List MemPlace} {ts:List TypeId} {ds:List (DataW H)} {j:Nat}
  (jh:Value.okWide Tryz.prog W r b0 30 v) (h:DataW.Trod enc Tryz.prog W base sp hd 30 v d ps)
  (hz:(DataW.weightsEach Tryz.prog ts ds).all (· <= reachBytes)=true) (htj:ts[j]?=some 30) (hdj:ds[j]?=some d) :
  ∃(x:zU) (A:yT),v=A.agg x/\uS W A x/\eT0 x/\(A.ea=none->A.ec=0):=by
 obtain⟨cs,rfl,hs⟩:=okWide_struct Tryz.underlying30 jh;obtain⟨b9,hf⟩:=h;obtain⟨xs,n,_,hx,hl,ah,ax⟩:=DataW.trod_struct Tryz.underlying30 hf;have hs4:cs.size=4:=hs
 match xs,ah with
 | [y0,y1,y2,y3],_ =>
  have g0:=ax 0 _ rfl;have g1:=ax 1 _ rfl;have g2:=ax 2 _ rfl;have g3:=ax 3 _ rfl;obtain⟨pa,p,pc,k0,hp,okp,hp2,_⟩:=tT (cells:=bN) (OK:=jS1) Tryz.underlying26 (by kernel_rfl) (by decide) (λ_=>rfl) fS1 g0;obtain⟨n1,k1,_,z1⟩:=DataW.trod_int Tryz.underlying3 g1;obtain⟨sa,s,sc,k2,hs',oks,ev,_⟩:=tT (cells:=nI1) (OK:=nO1) Tryz.underlying27 (by kernel_rfl) (by decide) (λ_=>rfl) mS1 g2;obtain⟨ea,e,ec,k3,he,oke,he2,ag8⟩:=tT (cells:=bF) (OK:=uE) Tryz.underlying28 (by kernel_rfl) (by decide) nY kE0 g3
  have g9:ds[j]?=some (.agg [y0.1,y1.1,y2.1,y3.1]):=by
   rw[hdj];have e1:=congrArg Prod.fst hx;simpa using e1
  have hw:=kN0 hz htj g9 Tryz.underlying30;have l0:=zD hw (j:=0) (d:=y0.1) rfl rfl Tryz.underlying26 (of_decide_eq_true (by kernel_rfl)) (Be hp2 (λh=>Or.inl ⟨h.1,congrArg Av h.2⟩) Or.inr);have l2:=zD hw (j:=2) (d:=y2.1) rfl rfl Tryz.underlying27 (of_decide_eq_true (by kernel_rfl)) (Be ev (λh=>Or.inl ⟨h.1,congrArg Av h.2⟩) Or.inr);have l3:=zD hw (j:=3) (d:=y3.1) rfl rfl Tryz.underlying28 (of_decide_eq_true (by kernel_rfl)) (Be he2 (λh=>Or.inl ⟨h.1,congrArg Av h.2⟩) Or.inr);exact⟨⟨p,n1,s,e⟩,⟨pa,pc,sa,sc,ea,ec⟩,by rw[hS1 hs4 k0 k1 k2 k3];rfl,⟨hp,hs',he⟩,⟨λy hy=>(okp y hy).n,λy hy=>(oks y hy).c,oke,z1,l0,l2,l3⟩,ag8⟩
end
end Go.Proofs.YtaogeadljgjpcaaGreatDoor
