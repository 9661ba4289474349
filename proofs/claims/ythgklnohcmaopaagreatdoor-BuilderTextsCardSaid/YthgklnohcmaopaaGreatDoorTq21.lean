/- The texts Src RefS CutV PpsP uF0 PrintB Print ParS EnvL9 Witness9 OpenSrc, one behind the other. -/
import Derived.Test.YthgklnohcmaopaaGreatDoorTq14
import Derived.Test.YthgklnohcmaopaaGreatDoorTq12
import Derived.Test.YthgklnohcmaopaaGreatDoorTq20
import Derived.Test.YthgklnohcmaopaaGreatDoorTq2
import Derived.Test.YthgklnohcmaopaaGreatDoorTq7
import Derived.Test.YthgklnohcmaopaaGreatDoorTq1
import Derived.Test.YthgklnohcmaopaaGreatDoorTq3
import Derived.Test.YthgklnohcmaopaaGreatDoorTq6
import Derived.Test.YthgklnohcmaopaaGreatDoorTq19
import Derived.Lib.SlicesS
import Derived.Lib.IndexMore
import Derived.Lib.ItoaNum
import Derived.Lib.ItoaLen
import Derived.Test.YthgklnohcmaopaaGreatDoorTq18
open List renaming getElem?_eq_getElem → Aa,length_append → Ae,getElem?_map → Af,cons_append → Ag,length_cons → Aj,mem_cons_of_mem → Al,drop_eq_getElem_cons → Ap,append_assoc → Ar,length → As,drop_length → At,singleton_append → Av,getElem?_eq_none → Aw,mem_of_getElem? → Ax,drop_succ_cons → Ba,map_cons → Bb,mem_cons_self → Bc,any_eq_false → Bf,nil_append → Bg,append_nil → Bh,isPrefixOf → Bi,length_nil → Bj,drop_zero → Bk,map_nil → Br
open Bool renaming and_eq_true → Ab,not_eq_true' → Be
open Go.Lib renaming hid → Ac,size_eq → Ad,byteCells → Ah,itoa → Am,IsBuilderF → An,BuilderAtF → Ao,join → Ay,byteCells_length → Az,itoa_length_le → Bd,index → Bn,cut → Bo,pow10Tab → Bq
open Int renaming eq_ofNat_of_zero_le → Ai
open Nat renaming le_refl → Ak,zero_le → Aq,zero_add → Bp,le_trans → Bs,mul_one → Bt
open Go.World renaming block_lt_of_cell? → Au
open Option renaming map → Bu
open Or renaming elim → Bv
open Prod renaming fst → Bw
set_option maxHeartbeats 4000000
namespace Go.Proofs.YthgklnohcmaopaaGreatDoor
set_option maxRecDepth 100000
section
open Go Go.RowKit
attribute [local go_sem] aK aP
structure jS0 where
 p:List bD
 d:Int
 s:List bF1
 e:List En
structure iW0 where
 pa:Option Addr
 pc:Nat
 sa:Option Addr
 sc:Nat
 ea:Option Addr
 ec:Nat
def iW0.cells (a:iW0) (x:jS0):Array Value := #[.slice a.pa x.p.length a.pc,.int .i64 x.d,.slice a.sa x.s.length a.sc,.slice a.ea x.e.length a.ec]
def iW0.agg (a:iW0) (x:jS0):Value := .agg (a.cells x)
structure yI (w:World) (a:iW0) (x:jS0):Prop where
 p:aF w a.pa 2 (x.p.map bH)
 s:aF w a.sa 3 (x.s.map cB1)
 e:aF w a.ea 5 (x.e.map aZ)
theorem yI.grows {w w':World} {a:iW0} {x:jS0} (h:yI w a x) (hg:aB w w'):yI w' a x:=⟨h.p.grows hg,h.s.grows hg,h.e.grows hg⟩
structure mH0 (x:jS0):Prop where
 p:∀y∈x.p,y.name.size<=maxLen
 s:∀y∈x.s,WfI y.c
 e:∀y∈x.e,tL y
 d:WfI x.d
 lp:x.p.length<=140737488355328
 ls:x.s.length<=140737488355328
 le:x.e.length<=140737488355328
def oI0 (y:bD):Bool:=decide (400<y.name.size)
def kL0 (y:En):Bool:=decide (400<y.r.size)||decide (400<y.s.size)
def aG0 (x:jS0):Bool := !x.p.any oI0 && !x.e.any kL0&&decide (x.p.length<=70)&&decide (x.s.length<=300)&&decide (x.e.length<=300)
theorem oZ0 {x:jS0} (h:aG0 x=true):(∀y∈x.p,y.name.size<=400)/\(∀y∈x.e,y.r.size<=400/\y.s.size<=400)/\x.p.length<=70/\x.s.length<=300/\x.e.length<=300:=by
 unfold aG0 at h;simp only[Ab,Be,decide_eq_true_eq,Bf]at h;obtain⟨⟨⟨⟨h1,h2⟩,h3⟩,h4⟩,h5⟩:=h;refine⟨λy hy=>?_,λy hy=>?_,h3,h4,h5⟩
 ·have:=h1 y hy;unfold oI0 at this;simp at this;exact this
 ·have:=h2 y hy;unfold kL0 at this;simp at this;exact this
theorem qG0 {α:Type} {f:α->Bool} {l:List α} {k:Nat} {x:α} (h:l[k]?=some x):(l.drop k).any f=(f x||(l.drop (k+1)).any f):=by
 obtain⟨hk,rfl⟩:=List.getElem?_eq_some_iff.1 h;rw[Ap hk,List.any_cons]
def pA0 (x:jS0):Option Mx:=if vJ0 x.p.length x.d then some (runSets (newM x.p.length x.d) x.s) else none
theorem light_any (x:jS0) (A:iW0) (w:World) (aq:mH0 x) (ac:yI w A x) :
  Calls Tryz.prog 22 #[A.agg x] w λe w'=>e=.returned (.bool (aG0 x))/\aB w w':=by
 have hlp:=aq.lp;have jd:=aq.le;have pv:=aq.ls;clear aq;obtain⟨pa,pc,sa,sc,ea,ec⟩:=A;obtain⟨xp,xd,xs,xe⟩:=x;try replace hlp:xp.length<=140737488355328:=hlp
 try replace pv:xs.length<=140737488355328:=pv
 try replace jd:xe.length<=140737488355328:=jd
 obtain⟨W0,et⟩:=exq (w.alloc (.cells #[.slice pa xp.length pc,.int .i64 xd,.slice sa xs.length sc,.slice ea xe.length ec] 26));have ft:aB w W0:=by rw[et];exact aB.alloc _ _
 have eo:=λj u h=>aM w #[.slice pa xp.length pc,.int .i64 xd,.slice sa xs.length sc,.slice ea xe.length ec] 26 (0,0) j u h;rw[<-et]at eo;have q0:=eo 0 _ rfl;have q1:=eo 1 _ rfl;have q2:=eo 2 _ rfl;have q3:=eo 3 _ rfl;have HQ:=Ac (And.intro q0 (And.intro q1 (And.intro q2 q3)));have HP:Hid (aF W0 pa 2 (xp.map bH)):=ac.p.grows ft;have HS:Hid (aF W0 sa 3 (xs.map cB1)):=ac.s.grows ft;have HE:Hid (aF W0 ea 5 (xe.map aZ)):=ac.e.grows ft;have HG0:=Ac ft;clear eo ac ft;show Calls _ _ #[.agg #[.slice pa xp.length pc,.int .i64 xd,.slice sa xs.length sc,.slice ea xe.length ec]] _ _
 have HL:Hid (aG0 ⟨xp,xd,xs,xe⟩=(!xp.any oI0 && !xe.any kL0&&decide (xp.length<=70)&&decide (xs.length<=300)&&decide (xe.length<=300))):=rfl;obtain⟨LB,hLB⟩:=exq (aG0 ⟨xp,xd,xs,xe⟩);rw[<-hLB]at HL ⊢;clear hLB q1 q2 q3;go_enter Tryz.func22,Tryz.ntmps22
 go_wp2_with fail
 rw[<-et];clear et;go_loopw [3] (λi wr=>∃(k:Nat),k<=xp.length/\i=.int .i64 k/\Hid ((xp.drop k).any oI0=xp.any oI0)/\wr=W0) (λi _=>xp.length-(intOf i).toNat)
 case atStart=>exact⟨0,Aq _,rfl,rfl,rfl⟩
 case round =>
  obtain⟨k,hk,rfl,hF,rfl⟩:=hrel;by_cases ae:k<xp.length
  ·obtain⟨⟨yn,yk⟩,hx⟩:∃y,xp[k]?=some y:=⟨_,Aa ae⟩
   obtain⟨ba,oa,rfl,ci⟩:=HP.out.get (aH ae);have c0:wr.cell? ⟨ba,oa+k*2,none⟩=some (.string yn):=ci k _ hx 0 _ rfl;have cy:(k:Int)<xp.length:=by omega
   have HD:=Ac (qG0 (f:=oI0) hx);rw[hF.out]at HD;clear ci hx hF;by_cases hb:400<yn.size
   ·have pw:(400:Int)<yn.size:=by omega
    have HX:Hid (xp.any oI0=true):=by show _=_;rw[HD.out];unfold oI0;simp[hb]
    clear HD hb;go_wp2_with fail
    go_ret;exact⟨by rw[HL.out,HX.out];rfl,HG0.out⟩
   ·have pw:¬(400:Int)<yn.size:=by omega
    have HX:Hid ((xp.drop (k+1)).any oI0=xp.any oI0):=by show _=_;rw[HD.out];unfold oI0;simp[hb]
    clear HD hb;go_wp2_with fail
    go_roundw
    case rel=>exact⟨k+1,ae,by go_num,HX,trivial⟩
    case measure=>simp[intOf];omega
  ·obtain rfl:k=xp.length:=by omega
   have HPA:Hid (xp.any oI0=false):=by show _=_;rw[<-hF.out,At];rfl
   have q3:=HQ.out.2.2.2;clear hF;go_wp2_with fail
   go_loopw [4] (λi wx=>∃(k:Nat),k<=xe.length/\i=.int .i64 k/\Hid ((xe.drop k).any kL0=xe.any kL0)/\wx=wr) (λi _=>xe.length-(intOf i).toNat)
   case atStart=>exact⟨0,Aq _,rfl,rfl,rfl⟩
   case round =>
    obtain⟨k,hk,rfl,hF,rfl⟩:=hrel;by_cases ae:k<xe.length
    ·obtain⟨⟨yr,ys,yl,yt,yc⟩,hx⟩:∃y,xe[k]?=some y:=⟨_,Aa ae⟩
     obtain⟨ba,oa,rfl,ci⟩:=HE.out.get (aH ae);have c0:wr.cell? ⟨ba,oa+k*5,none⟩=some (.string yr):=ci k _ hx 0 _ rfl;have c1:wr.cell? ⟨ba,oa+k*5+1,none⟩=some (.string ys):=ci k _ hx 1 _ rfl;have cy:(k:Int)<xe.length:=by omega
     have HD:=Ac (qG0 (f:=kL0) hx);rw[hF.out]at HD;clear ci hx hF;by_cases hb:400<yr.size
     ·have pw:(400:Int)<yr.size:=by omega
      have HX:Hid (xe.any kL0=true):=by show _=_;rw[HD.out];unfold kL0;simp[hb]
      clear HD hb;go_wp2_with fail
      go_ret;exact⟨by rw[HL.out,HX.out];simp,HG0.out⟩
     ·have pw:¬(400:Int)<yr.size:=by omega
      by_cases dm:400<ys.size
      ·have afk:(400:Int)<ys.size:=by omega
       have HX:Hid (xe.any kL0=true):=by show _=_;rw[HD.out];unfold kL0;simp[dm]
       clear HD hb dm;go_wp2_with fail
       go_ret;exact⟨by rw[HL.out,HX.out];simp,HG0.out⟩
      ·have afk:¬(400:Int)<ys.size:=by omega
       have HX:Hid ((xe.drop (k+1)).any kL0=xe.any kL0):=by show _=_;rw[HD.out];unfold kL0;simp[hb,dm]
       clear HD hb dm;go_wp2_with fail
       go_roundw
       case rel=>exact⟨k+1,ae,by go_num,HX,trivial⟩
       case measure=>simp[intOf];omega
    ·obtain rfl:k=xe.length:=by omega
     have HEA:Hid (xe.any kL0=false):=by show _=_;rw[<-hF.out,At];rfl
     have q2:=HQ.out.2.2.1;have e1:decide ((xp.length:Int)<=70)=decide (xp.length<=70):=decide_eq_decide.2 (by omega);have e2:decide ((xs.length:Int)<=300)=decide (xs.length<=300):=decide_eq_decide.2 (by omega);have e3:decide ((xe.length:Int)<=300)=decide (xe.length<=300):=decide_eq_decide.2 (by omega);have HL2:Hid (LB=(decide ((xp.length:Int)<=70)&&decide ((xs.length:Int)<=300)&&decide ((xe.length:Int)<=300))):=by show _=_;rw[HL.out,HPA.out,HEA.out,e1,e2,e3];simp
     clear hF e1 e2 e3 ae;by_cases h1:(xp.length:Int)<=70
     ·by_cases h2:(xs.length:Int)<=300
      ·go_wp2_with fail
       go_ret;exact⟨by rw[HL2.out];simp[h1,h2],HG0.out⟩
      ·go_wp2_with fail
       go_ret;exact⟨by rw[HL2.out];simp;omega,HG0.out⟩
     ·go_wp2_with fail
      go_ret;exact⟨by rw[HL2.out];simp;omega,HG0.out⟩
theorem mD0 (x:jS0) (A:iW0) (w:World) (aq:mH0 x) (ac:yI w A x) :
  Calls Tryz.prog 16 #[A.agg x] w λe w'=>∃v,e=.returned v/\wD0 w' v (pA0 x)/\aB w w':=by
 have HOS:=Ac aq.s;have hlp:=aq.lp;have pv:=aq.ls;clear aq;obtain⟨pa,pc,sa,sc,ea,ec⟩:=A;obtain⟨xp,xd,xs,xe⟩:=x;try replace hlp:xp.length<=140737488355328:=hlp
 try replace pv:xs.length<=140737488355328:=pv
 try replace jd:xe.length<=140737488355328:=jd
 obtain⟨W0,et⟩:=exq (w.alloc (.cells #[.slice pa xp.length pc,.int .i64 xd,.slice sa xs.length sc,.slice ea xe.length ec] 26));have ft:aB w W0:=by rw[et];exact aB.alloc _ _
 have eo:=λj u h=>aM w #[.slice pa xp.length pc,.int .i64 xd,.slice sa xs.length sc,.slice ea xe.length ec] 26 (0,0) j u h;rw[<-et]at eo;have q0:=eo 0 _ rfl;have q1:=eo 1 _ rfl;have q2:=eo 2 _ rfl;have q3:=eo 3 _ rfl;have HQ:=Ac (And.intro q0 (And.intro q1 (And.intro q2 q3)));have HP:Hid (aF W0 pa 2 (xp.map bH)):=ac.p.grows ft;have HS:Hid (aF W0 sa 3 (xs.map cB1)):=ac.s.grows ft;have HE:Hid (aF W0 ea 5 (xe.map aZ)):=ac.e.grows ft;have HG0:=Ac ft;clear eo ac ft;show Calls _ _ #[.agg #[.slice pa xp.length pc,.int .i64 xd,.slice sa xs.length sc,.slice ea xe.length ec]] _ _
 have HSM:Hid (pA0 ⟨xp,xd,xs,xe⟩=if vJ0 xp.length xd then some (runSets (newM xp.length xd) xs) else none):=rfl
 obtain⟨SM,hSM⟩:=exq (pA0 ⟨xp,xd,xs,xe⟩);rw[<-hSM]at HSM ⊢;clear hSM q2 q3;replace HOS:Hid (∀y∈xs,WfI y.c):=HOS;go_enter Tryz.func16,Tryz.ntmps16
 cases nl:vJ0 xp.length xd with
 | false =>
  rw[nl]at HSM;go_wp2_with fail
  rw[<-et];clear et;refine(yY0 xp.length xd _ nl).mono ?_;rintro e w1 ⟨rfl,rfl⟩;go_wp2_with fail
  go_ret;exact⟨_,rfl,by rw[HSM.out];rfl,HG0.out⟩
 | true =>
  rw[nl]at HSM;replace HSM:Hid (SM=some (runSets (newM xp.length xd) xs)):=HSM;go_wp2_with fail
  rw[<-et];clear et;refine(oN0 xp.length xd _ nl).mono ?_;rintro e w1 ⟨rfl,l8,aj⟩;clear q0 q1;go_wp2_with fail
  go_loopw [5] (λi wr=>∃(k:Nat),k<=xs.length/\i=.int .i64 k/\gG wr (W0.heap.size+1) W0.heap.size (runSets (newM xp.length xd) (xs.take k))/\aB W0 wr) (λi _=>xs.length-(intOf i).toNat)
  case atStart=>exact⟨0,Aq _,rfl,l8,aj⟩
  case round =>
  obtain⟨k,hk,rfl,hm,hg⟩:=hrel;clear l8 aj;by_cases ae:k<xs.length
  ·obtain⟨⟨sr,sl,sq⟩,hs⟩:∃s,xs[k]?=some s:=⟨_,Aa ae⟩
   have hsq:WfI sq:=HOS.out _ (Ax hs);have HT:=Ac (dO0 (m:=newM xp.length xd) hs);obtain⟨lb,lo,rfl,cu⟩:=HS.out.get (aH ae);have cy:(k:Int)<xs.length:=by omega
   have b2:=hg.cell HQ.out.2.2.1;have z2:∀x:Ext aB wr.drew,x.u.cell? ⟨w.heap.size,2,none⟩=some (.slice (some ⟨lb,lo,none⟩) xs.length sc):=aG (hg.dr.cell HQ.out.2.2.1);have y0:∀x:Ext aB wr.drew,x.u.cell? ⟨lb,lo+k*3,none⟩=some (.int .i64 sr):=aG (hg.dr.cell (cu k _ hs 0 _ rfl));have y1:∀x:Ext aB wr.drew,x.u.cell? ⟨lb,lo+k*3+1,none⟩=some (.int .i64 sl):=aG (hg.dr.cell (cu k _ hs 1 _ rfl));have y2:∀x:Ext aB wr.drew,x.u.cell? ⟨lb,lo+k*3+2,none⟩=some (.int .i64 sq):=aG (hg.dr.cell (cu k _ hs 2 _ rfl));clear cu hs;generalize runSets (newM xp.length xd) (xs.take k)=M1 at *;go_wp2_with fail
   refine rP 19 (bB 19 []) (by kernel_rfl) (λd _ _ _ _ h=>by cases d<;>exact h) ?_
   iterate 19 (refine aO rfl (λK hK=>?_);go_simp;refine hK _ ?_;clear hK K)
   refine bU ?_;simp only[Ba,Bk];clear z2 y0 y1 y2 b2;have hSV:=tR0 wr.drew _ _ _ (hm.grows (aB.drew wr)) sr sl sq hsq;go_wp2_with fail
   refine hSV.mono ?_;rintro e w4 ⟨rfl,hm4,di⟩;have gw:aB W0 w4:=hg.dr.grown di (λq hq=>by cases hq;exact Ak _);go_wp2_with fail
   go_roundw
   case rel=>exact⟨k+1,ae,by go_num,by rw[HT.out];exact hm4,gw⟩
   case measure=>simp[intOf];omega
  ·obtain rfl:k=xs.length:=by omega
   rw[List.take_length]at hm;have b2:=hg.cell HQ.out.2.2.1;go_wp2_with fail
   go_ret;refine⟨_,rfl,?_,aB.trans _ _ _ HG0.out hg⟩;rw[HSM.out];exact⟨_,_,rfl,hm⟩
end
section
open Go Go.RowKit
attribute [local go_sem] aK
end
section
open Go Go.RowKit
theorem qN0 {w:World} {ba:Option Addr} {b:List UInt8} {bc l h:Nat} (ac:aF w ba 1 (b.map aV)) (hn:ba=none->bc=0) (h1:l<=h) (h2:h<=b.length) (h3:b.length<=bc) :
  ∃a',(if bc=l then ba else Bu (λx=>x.add l) ba)=a'/\aF w a' 1 (((b.take h).drop l).map aV)/\(a'=none->bc-l=0):=by
 obtain⟨a',gk,fm,ua⟩:=uS (c:=bc) (l:=l) (h:=h) (k:=1) ac hn h1 h2 h3;refine⟨a',?_,fm,ua⟩;unfold sliced at gk;by_cases ou:bc=l
 ·rw[if_pos ou]at gk ⊢;exact(Value.slice.inj gk).1
 ·rw[if_neg ou]at gk ⊢
  have:=(Value.slice.inj gk).1
  rw[<-this];congr 1
  funext x
  rw[Bt]
end
section
open Go
def kG:List ByteArray:=[mkB [99,111,110,116,101,110,116],mkB [102,117,110,99,116,105,111,110],mkB [112,114,101,102,105,120]]
def rU0 (s:ByteArray):Int:=Lib.idxOfS kG s
def uJ0 (s:ByteArray):bD:=⟨mkB (Bo s.data.toList [9]).1,rU0 (mkB (Bo s.data.toList [9]).2.1)⟩
def mT (out:List bD) (q:bD):Int :=
 if q.kind<0\/fV q.name=false\/(out=[]/\rE q=false) then 5 else if (posFind out q.name).isSome=true then 4 else if out.length=64 then 2 else 0
def fQ:List ByteArray->Nat->List (Nat×ByteArray)
 | [],_=>[]
 | s::r,i=>if cF s then fQ r (i+1) else (i+1,s)::fQ r (i+1)
def yD:List (Nat×ByteArray)->List bD->List bD×Int×Int
 | [],out=>if out=[] then ([],0,5) else (out,0,0)
 | x::r,out=>if mT out (uJ0 x.2)≠0 then ([],x.1,mT out (uJ0 x.2)) else yD r (out++[uJ0 x.2])
def cX1 (text:ByteArray):List bD×Int×Int:=if 1048576<text.size then ([],0,2) else yD (fQ (splitS 10 text) 0) []
def okP:List (Nat×ByteArray)->List bD->Option (List bD)
 | [],out=>some out
 | x::r,out=>if mT out (uJ0 x.2)≠0 then none else okP r (out++[uJ0 x.2])
theorem uX:∀ {pre:List (Nat×ByteArray)} {o out:List bD} (rest:List (Nat×ByteArray)),okP pre o=some out->yD (pre++rest) o=yD rest out
 | [],o,out,rest,h=>by obtain rfl:=Option.some.inj h;rfl
 | x::r,o,out,rest,h=>by
  rw[okP]at h;split at h
  ·cases h
  ·rename_i hn
   rw[Ag,yD,if_neg hn];exact uX rest h
theorem xQ0:∀ {pre:List (Nat×ByteArray)} {o out:List bD} {x:Nat×ByteArray},okP pre o=some out->mT out (uJ0 x.2)=0->okP (pre++[x]) o=some (out++[uJ0 x.2])
 | [],o,out,x,h,he=>by
  obtain rfl:=Option.some.inj h;rw[Bg,okP,if_neg (by rw[he];decide)];rfl
 | y::r,o,out,x,h,he=>by
  rw[okP]at h;split at h
  ·cases h
  ·rename_i hn
   rw[Ag,okP,if_neg hn];exact xQ0 h he
theorem pposL_stop {all pre:List (Nat×ByteArray)} {x:Nat×ByteArray} {out:List bD} {e:Int} (hp:pre++[x] <+: all) (h:okP pre []=some out) (he:mT out (uJ0 x.2)=e) (h0:e≠0):yD all []=([],(x.1:Int),e):=by
 obtain⟨r,rfl⟩:=hp;rw[Ar,uX _ h,Av,yD,if_pos (by rw[he];exact h0),he]
theorem pposL_done {all:List (Nat×ByteArray)} {out:List bD} (h:okP all []=some out):yD all []=if out=[] then ([],0,5) else (out,0,0):=by
 have:=uX [] h
 rwa [Bh]at this
theorem zS0:∀ {pre:List (Nat×ByteArray)} {o out:List bD},o.length<=64->okP pre o=some out->out.length<=64
 | [],o,out,ho,h=>by obtain rfl:=Option.some.inj h;exact ho
 | y::r,o,out,ho,h=>by
  rw[okP]at h;split at h
  ·cases h
  ·rename_i hn
   refine zS0 ?_ h
   have pr:¬o.length=64:=λe=>hn (by
    unfold mT;split
    ·decide
    ·split
     ·decide
     ·first|decide|(rw[if_pos e];decide))
   rw[Ae,List.length_singleton];omega
def qE0 (k:Int):List UInt8:=(kG.getD k.toNat (mkB [])).data.toList
def dG (q:bD):List UInt8:=q.name.data.toList++9::qE0 q.kind
def oF0 (l:List bD):List UInt8:=l.flatMap λq=>dG q++[10]
theorem tK0:∀ {x:List UInt8} (l:List UInt8),(9:UInt8)∉x->Bn (x++9::l) [9]=(x.length:Int)
 | [],l,_=>by rw[Bg,Bn,if_pos (by simp[Bi])];rfl
 | b::x,l,h=>by
  have h1:¬(9:UInt8)=b:=λe=>h (by rw[e];exact Bc);have ih:=tK0 l (λhm=>h (Al _ hm));rw[Ag,Bn,if_neg (by simp[Bi,h1]),ih,if_neg (by rw[beq_iff_eq];omega),Aj];omega
theorem dM1 {x:List UInt8} (l:List UInt8) (h:(9:UInt8)∉x):Bo (x++9::l) [9]=(x,l,true):=by
 unfold Bo;rw[tK0 l h,if_pos (by omega),Int.toNat_natCast];simp
theorem pU:∀(n:Nat) (l:List UInt8),l.length<=n->65533∉eU l->Lib.validD l=true
 | 0,l,hl,_=>by
  have:l=[]:=List.eq_nil_of_length_eq_zero (by omega)
  subst this;rfl
 | n+1,l,hl,h=>by
  by_cases ai:l=[]
  ·subst ai;rfl
  ·have an:0<l.length:=List.length_pos_iff.2 ai
   have hw:=Lib.decodeL_width l;rw[eO l ai]at h;rw[Lib.validD_step l ai,if_neg (λhb=>h (by rw[hb.1];exact Bc))];exact pU n _ (by rw[List.length_drop];omega) (λhm=>h (Al _ hm))
theorem oV {s:ByteArray} (h:fV s=true):s.data.toList≠[]/\s.size<=16/\∀b∈s.data.toList,36<=b.toNat:=by
 rw[tW]at h;simp only[Ab,decide_eq_true_eq,Be,Bf]at h;obtain⟨⟨h0,h16⟩,ay⟩:=h;have hv:=pU _ _ (Ak _) (λhm=>ay _ hm (by decide));refine⟨λe=>by rw[Lib.toList_data,e]at h0;simp at h0,h16,λb hb=>?_⟩;rcases Nat.lt_or_ge b.toNat 36 with ae|jn
 ·exfalso
  apply ay _ (kC _ _ (Ak _) hv b hb (by omega))
  unfold nameBad;simp;omega
 ·exact jn
theorem qK0 {k:Int} (h0:0<=k) (h2:k<=2):rU0 (mkB (qE0 k))=k/\(10:UInt8)∉qE0 k/\(qE0 k).length<=8:=by
 obtain⟨n,rfl⟩:=Ai h0;have hn:n=0\/n=1\/n=2:=by omega
 rcases hn with rfl|rfl|rfl<;>decide
theorem fD0 {q:bD} (hn:fV q.name=true) (h0:0<=q.kind) (h2:q.kind<=2):uJ0 (mkB (dG q))=q/\(10:UInt8)∉dG q/\cF (mkB (dG q))=false:=by
 obtain⟨ai,_,hb⟩:=oV hn;obtain⟨k1,k2,_⟩:=qK0 h0 h2;have no:∀c:UInt8,c.toNat<36->c∉q.name.data.toList:=λc hc hm=>by have:=hb c hm;omega
 refine⟨?_,?_,?_⟩
 ·unfold uJ0 dG
  rw[bQ,dM1 _ (no 9 (by decide))];simp only[k1,xO]
 ·unfold dG
  rw[List.mem_append,List.mem_cons];rintro(h|h|h)
  ·exact no 10 (by decide) h
  ·exact absurd h (by decide)
  ·exact k2 h
 ·unfold cF dG
  rw[bQ]
  cases hl:q.name.data.toList with
  | nil=>exact absurd hl ai
  | cons b r =>
   have:=hb b (by rw[hl];simp)
   have jb:¬b=35:=λe=>by subst e;simp at this
   simp[jb]
theorem eS0 {L:List bD}:∀ {l:List bD} {i j:Nat} {q:bD},cO L l i=true->l[j]?=some q->lN L (i+j) q=true
 | [],_,_,_,_,h=>by simp at h
 | p::r,i,0,q,h,hj=>by
  obtain rfl:p=q:=by simpa using hj
  rw[cO,Ab]at h;exact h.1
 | p::r,i,j+1,q,h,hj=>by
  rw[cO,Ab]at h
  have:=eS0 (j:=j) h.2 (by simpa using hj)
  rwa [show i+(j+1)=i+1+j by omega]
theorem zZ {name:ByteArray} (r:List bD):∀ {l:List bD} {i k:Nat},fO name l i=some k->fO name (l++r) i=some k
 | [],_,_,h=>by cases h
 | p::l,i,k,h=>by
  rw[Ag];rw[fO]at h ⊢;split
  ·rename_i hs;rwa [if_pos hs]at h
  ·rename_i hs;rw[if_neg hs]at h;exact zZ r h
theorem lG {L:List bD} (hv:aQ L=true):L≠[]/\L.length<=64/\(∀q r,L=q::r->rE q=true)/\cO L L 0=true:=by
 cases L with
 | nil=>cases hv
 | cons p0 r =>
  have h:(decide ((p0::r).length<=64)&&rE p0&&cO (p0::r) (p0::r) 0)=true:=hv;simp only[Ab,decide_eq_true_eq]at h;exact⟨by simp,h.1.1,λq r' e=>by cases e;exact h.1.2,h.2⟩
theorem wG {L out r:List bD} {q:bD} (hv:aQ L=true) (hL:L=out++q::r):mT out q=0/\fV q.name=true/\0<=q.kind/\q.kind<=2:=by
 obtain⟨_,pr,hb,ha⟩:=lG hv;have hq:L[out.length]?=some q:=by rw[hL];simp
 have aq:=eS0 ha hq;rw[Bp]at aq;unfold lN at aq;simp only[Ab,beq_iff_eq,decide_eq_true_eq]at aq;obtain⟨⟨⟨hf,hn⟩,h0⟩,h2⟩:=aq;refine⟨?_,hn,h0,h2⟩;unfold mT
 have hfn:posFind out q.name=none:=by
  cases hfo:posFind out q.name with
  | none=>rfl
  | some k =>
   have h1:=(sD hfo).2;have h3:posFind L q.name=some k:=by rw[hL];exact zZ _ hfo
   rw[h3]at hf
   have:(k:Int)=out.length:=hf
   omega
 rw[if_neg,if_neg (by rw[hfn];simp),if_neg]
 ·have:=congrArg As hL
  rw[Ae,Aj]at this;omega
 ·rintro(h|h|⟨h,h'⟩)
  ·omega
  ·rw[hn]at h;cases h
  ·subst h
   rw[hb q r hL]at h';cases h'
theorem sT {L:List bD} (hv:aQ L=true):∀ {rest out:List bD} {i:Nat},L=out++rest->yD (fQ (rest.map (λq=>mkB (dG q))++[mkB []]) i) out=(L,0,0)
 | [],out,i,h=>by
  rw[Bh]at h;subst h;show (if L=[] then _ else _)=_
  rw[if_neg (lG hv).1]
 | q::r,out,i,h=>by
  obtain⟨he,hn,h0,h2⟩:=wG hv h;obtain⟨t1,_,t3⟩:=fD0 hn h0 h2;rw[Bb,Ag,fQ,t3,if_neg (by simp),yD];simp only[t1,he];rw[if_neg (by simp)];exact sT hv (by rw[h,Ar];rfl)
theorem tC {L:List bD}:∀ {l:List bD},(∀q∈l,(10:UInt8)∉dG q)->cE 10 (oF0 l)=l.map dG++[[]]
 | [],_=>rfl
 | q::r,h=>by
  show cE 10 ((dG q++[10])++oF0 r)=_
  rw[Ar,Av,gE _ (h q (by simp)),tC (L:=L) (λy hy=>h y (by simp[hy]))];rfl
theorem kQ {L:List bD} (hv:aQ L=true) {q:bD} (hq:q∈L):fV q.name=true/\0<=q.kind/\q.kind<=2:=by
 obtain⟨a,b,km⟩:=List.append_of_mem hq;exact(wG hv km).2
theorem rB0 {L:List bD}:∀ {l:List bD},(∀q∈l,fV q.name=true/\0<=q.kind/\q.kind<=2)->(oF0 l).length<=l.length*26
 | [],_=>Ak _
 | q::r,h=>by
  obtain⟨hn,h0,h2⟩:=h q (by simp);have h1:=(oV hn).2.1;have h3:=(qK0 h0 h2).2.2;have ih:=rB0 (L:=L) (λy hy=>h y (Al _ hy));show ((dG q++[10])++oF0 r).length<=_
  unfold dG;rw[Ad]at h1;simp only[Ae,Aj,Bj];omega
theorem print_ppos {L:List bD} (hv:aQ L=true):cX1 (mkB (oF0 L))=(L,0,0):=by
 have hl:=rB0 (L:=L) (l:=L) (λq hq=>kQ hv hq);have pr:=(lG hv).2.1;unfold cX1
 have hs:splitS 10 (mkB (oF0 L))=L.map (λq=>mkB (dG q))++[mkB []]:=by
  have h1:splitS 10 (mkB (oF0 L))=(cE 10 (oF0 L)).map mkB:=tS 10 _
  rw[h1,tC (L:=L) (λq hq=>by
   obtain⟨hn,h0,h2⟩:=kQ hv hq;exact(fD0 hn h0 h2).2.1),List.map_append,List.map_map]
  rfl
 rw[if_neg (by rw[Ad,bQ];omega),hs];exact sT hv rfl
end
section
open Go Go.RowKit Go.Shelf
structure uF0 (w:World):Prop extends Env w where
 pow : Lib.TabIs Tryz.prog w "internal/strconv.uint64pow10" .u64 Bq
 kin:∀(i:Nat) (s:ByteArray),kG[i]?=some s->w.cell? ⟨0,i,none⟩=some (.string s)
theorem dE1 : Tryz.prog.globalNamed "internal/strconv.uint64pow10" = some 5 := by kernel_rfl
theorem uF0.env {w:World} (h:uF0 w):Env w:=h.toEnv
theorem uF0.grows {w w':World} (h:uF0 w) (hg:aB w w'):uF0 w' where
 toEnv:=h.toEnv.grows hg
 pow:=var?_below hg.below dE1 (Au w _ (h.pow.cell dE1 0 (by decide))) h.pow
 kin:=λi s hs=>hg.cell (h.kin i s hs)
end
section
open Go Go.RowKit Go.Shelf
attribute [local go_sem] aK
abbrev cI1:=uF0
def dH (p:List bD) (i:Int):ByteArray:=((p[i.toNat]?).map (·.name)).getD ByteArray.empty
theorem aY0 (n:Int) (w:World) (h0:0<=n) (h1:n<=30000) (he:cI1 w) :
  Calls Tryz.prog 86 #[.int .i64 n] w λe w'=>e=.returned (.string ⟨(Am n).toArray⟩)/\aB w w' :=
 Calls.mono (Tryz.strconv_Itoa n (by omega) (by omega) w he.pow) λ_ _ ⟨h,k,os,hw⟩=>⟨h,by rw[hw];exact lW0 _ _ _⟩
theorem oU {L:List bD}:∀ {l:List bD} {i j:Nat} {q:bD},cO L l i=true->l[j]?=some q->lN L (i+j) q=true
 | [],_,_,_,_,h=>by simp at h
 | p::r,i,0,q,h,hj=>by
  obtain rfl:p=q:=by simpa using hj
  simp only[cO,Ab]at h;exact h.1
 | p::r,i,j+1,q,h,hj=>by
  simp only[cO,Ab]at h
  have:=oU h.2 (j:=j) (by simpa using hj)
  rwa [show i+(j+1)=i+1+j by omega]
theorem fG0 {p:List bD} (hv:aQ p=true) {i:Nat} {q:bD} (hq:p[i]?=some q):q.name.size<=16:=by
 cases p with
 | nil=>simp at hq
 | cons p0 r =>
  have h:(decide ((p0::r).length<=64)&&rE p0&&cO (p0::r) (p0::r) 0)=true:=hv;simp only[Ab]at h
  have:=oU h.2 hq
  simp only[lN,fV,Ab,decide_eq_true_eq]at this;exact this.1.1.2.1.2
theorem eV {T e:TypeId} {B b:Nat} {bs:List Value} {w w':World} (h:An T e B b bs w) (hg:aB w w'):An T e B b bs w':=by
 have key:∀q,Ao T e B b q bs w->Ao T e B b q bs w':=λq ⟨hB,v,hb,aa,ai⟩=>by
  refine⟨hB,v,by rw[hg.block b (Array.getElem?_eq_some_iff.1 hb).1];exact hb,⟨aa.1,?_⟩,ai⟩;rcases aa.2 with h2|⟨g,cap,bv,fz,hv,hb,hh,r⟩
  ·exact Or.inl h2
  ·exact Or.inr ⟨g,cap,bv,fz,hv,hb,by rw[hg.block g (Array.getElem?_eq_some_iff.1 hh).1];exact hh,r⟩
 exact h.imp (key _) (key _)
theorem iF {T e:TypeId} {B b:Nat} {bs:List Value} {w:World} (h:An T e B b bs w):B<=w.heap.size:=by
 rcases h with ⟨hB,v,hb,_⟩|⟨hB,v,hb,_⟩<;>have:=(Array.getElem?_eq_some_iff.1 hb).1<;>omega
theorem jM {T e:TypeId} {B b:Nat} {v:Value} {acc L:List UInt8} {s:ByteArray} {w:World} (h:Ao T e B b v (Ah acc++Lib.strCells s) w) (hs:s.data.toList=L):Ao T e B b v (Ah (acc++L)) w:=by
 rw[Lib.byteCells_append,<-hs,<-Lib.strCells_eq];exact h
def iN (p:List bD) (x:En):List UInt8 :=
 Ay ([x.r,x.s,dH p x.l,dH p x.t,⟨(Am x.c).toArray⟩].map (·.data.toList)) [9]++[10]
def dP (p:List bD):List En->List UInt8->List UInt8×Int
 | [],acc=>(acc,0)
 | x::r,acc=>if checkE x p.length≠0 then ([],checkE x p.length) else dP p r (acc++iN p x)
def printS (l:List En) (p:List bD):List UInt8×Int :=
 if aQ p then (if 20000<l.length then ([],2) else
  (if (dP p l []).2≠0 then ([],(dP p l []).2) else if 1048576<(dP p l []).1.length then ([],2) else ((dP p l []).1,0))) else ([],5)
theorem lQ (p:List bD) (x:En) (r:List En) (acc:List UInt8):dP p (x::r) acc=if checkE x p.length≠0 then ([],checkE x p.length) else dP p r (acc++iN p x):=rfl
theorem wU {x:En} {n:Int} (h:checkE x n=0):0<=x.l/\x.l<n/\0<=x.t/\x.t<n/\0<=x.c/\x.c<=30000:=by
 unfold checkE checkS at h;split at h
 ·split at h
  ·omega
  ·split at h
   ·omega
   ·omega
 ·omega
theorem eM0 (a b c d e:List UInt8):(Ay [a,b,c,d,e] [9]).length=a.length+b.length+c.length+d.length+e.length+4:=by
 simp[Ay,List.intercalate,List.intersperse];omega
theorem print_any (l:List En) (p:List bD) (la pa:Option Addr) (cap q6:Nat) (w:World) (hl:l.length<=4611686018427387904) (hp:p.length<=4611686018427387904) (he:cI1 w)
  (cw:∀x,x∈l->x.r.size<=1048576/\x.s.size<=1048576) (ac:aF w la 5 (l.map aZ)) (jq:aF w pa 2 (p.map bH)) :
  Calls Tryz.prog 25 #[.slice la l.length cap,.slice pa p.length q6] w λe w'=>e=.returned (.tuple #[.string ⟨(printS l p).1.toArray⟩,.int .i64 (printS l p).2])/\aB w w':=by
 have CC:=Ac (iX p pa q6 w jq hp);have HAT:=Ac ac;have HPT:=Ac jq;clear ac jq;cases hv:aQ p
 ·have hp:printS l p=([],5):=by unfold printS;rw[hv];rfl
  rw[hp];rw[hv]at CC;clear hp hv;go_enter Tryz.func25,Tryz.ntmps25
  go_wp2_with (first|(go_at_call 83;refine CC.out.mono ?_;rintro e w1 ⟨rfl,aj⟩))
  go_ret2;exact⟨rfl,aj⟩
 ·by_cases cr:20000<l.length
  ·have hp:printS l p=([],2):=by unfold printS;rw[hv,if_pos rfl,if_pos cr]
   have hb:(20000:Int)<l.length:=by omega
   rw[hp];rw[hv]at CC;clear hp hv;go_enter Tryz.func25,Tryz.ntmps25
   go_wp2_with (first|(go_at_call 83;refine CC.out.mono ?_;rintro e w1 ⟨rfl,aj⟩))
   go_ret2;exact⟨rfl,aj⟩
  ·have hps:printS l p=(if (dP p l []).2≠0 then ([],(dP p l []).2) else if 1048576<(dP p l []).1.length then ([],2) else ((dP p l []).1,0)):=by unfold printS;rw[hv,if_pos rfl,if_neg cr]
   have hb:(l.length:Int)<=20000:=by omega
   rw[hv,show bO1 true=0 from rfl]at CC
   generalize printS l p=PS at hps ⊢;have HPS:=Ac hps;have HNS:Hid (∀(i:Nat) (q:bD),p[i]?=some q->q.name.size<=16):=λi q hq=>fG0 hv hq;clear hv cr hps;go_enter Tryz.func25,Tryz.ntmps25
   go_wp2_with (first|(go_at_call 83;refine CC.out.mono ?_;rintro e w1 ⟨rfl,aj⟩))
   go_loopw [21] (λi wr=>∃(k:Nat) (acc:List UInt8),k<=l.length/\i=.int .i64 k/\An 144 5 w1.heap.size w1.heap.size (Ah acc) wr/\Hid (dP p l []=dP p (l.drop k) acc)/\Hid (acc.length<=k*4194304)/\aB w1 wr) (λi _=>l.length-(intOf i).toNat)
   case atStart=>exact⟨0,[],Aq _,rfl,Lib.IsBuilderF.of (Lib.fresh_isBuilder _ _ w1),rfl,Aq _,aB.alloc _ _⟩
   case round =>
    obtain⟨k,acc,hk,rfl,fg,hpr,js,dw⟩:=hrel;have xn:=aj.tr dw;by_cases ae:k<l.length
    ·obtain⟨⟨xr,xs,xl,xt,xc⟩,hx⟩:∃x,l[k]?=some x:=⟨_,Aa ae⟩
     obtain⟨ahm,ahn⟩:xr.size<=1048576/\xs.size<=1048576:=cw _ (Ax hx)
     have cm:l.drop k=⟨xr,xs,xl,xt,xc⟩::l.drop (k+1):=by
      rw[Ap ae]
      have:l[k]=⟨xr,xs,xl,xt,xc⟩:=(List.getElem?_eq_some_iff.1 hx).2
      rw[this]
     obtain⟨lb,q7,rfl,cu⟩:=(HAT.out.grows xn).get (aH ae);have c0:wr.cell? ⟨lb,q7+k*5,none⟩=some (.string xr):=cu k _ hx 0 _ rfl;have c1:wr.cell? ⟨lb,q7+k*5+1,none⟩=some (.string xs):=cu k _ hx 1 _ rfl;have c2:wr.cell? ⟨lb,q7+k*5+2,none⟩=some (.int .i64 xl):=cu k _ hx 2 _ rfl;have c3:wr.cell? ⟨lb,q7+k*5+3,none⟩=some (.int .i64 xt):=cu k _ hx 3 _ rfl;have c4:wr.cell? ⟨lb,q7+k*5+4,none⟩=some (.int .i64 xc):=cu k _ hx 4 _ rfl;have aar:=hpr.out;rw[cm,lQ]at aar;have HC:=λW hW=>Ac (sA xr xs xl xt xc p.length W (by omega) (by omega) (he.env.grows hW));have hce:checkE ⟨xr,xs,xl,xt,xc⟩ p.length=checkS xr xs xl xt xc p.length:=rfl;rw[<-hce]at HC;have aq:=λh:checkE ⟨xr,xs,xl,xt,xc⟩ p.length=0=>wU h;generalize checkE ⟨xr,xs,xl,xt,xc⟩ p.length=no at *;have HP:=Ac aar;have HX:=Ac hx;clear cu hx cm hpr aar hce;by_cases iq:no=0
     ·have ct:dP p l []=dP p (l.drop (k+1)) (acc++iN p ⟨xr,xs,xl,xt,xc⟩):=by rw[HP.out];simp[iq]
      have HP2:=Ac ct;obtain⟨o1,o2,o3,o4,o5,o6⟩:0<=xl/\xl<p.length/\0<=xt/\xt<p.length/\0<=xc/\xc<=30000:=aq iq;subst iq;clear HP ct aq;go_wp2_with (first|(go_at_call 88;refine(HC _ (xn.al _)).out.mono ?_;rintro e w3 ⟨rfl,bg⟩))
      have lc:=(xn.al _).tr bg;have e0:w3.cell? ⟨wr.heap.size,0,none⟩=some (.string xr):=bg.cell (aM _ _ _ _ 0 _ rfl);have e1:w3.cell? ⟨wr.heap.size,1,none⟩=some (.string xs):=bg.cell (aM _ _ _ _ 1 _ rfl);have e2:w3.cell? ⟨wr.heap.size,2,none⟩=some (.int .i64 xl):=bg.cell (aM _ _ _ _ 2 _ rfl);have e3:w3.cell? ⟨wr.heap.size,3,none⟩=some (.int .i64 xt):=bg.cell (aM _ _ _ _ 3 _ rfl);have e4:w3.cell? ⟨wr.heap.size,4,none⟩=some (.int .i64 xc):=bg.cell (aM _ _ _ _ 4 _ rfl);obtain⟨il,rfl⟩:=Ai o1;obtain⟨it,rfl⟩:=Ai o3;obtain⟨P1,ub⟩:∃q,p[il]?=some q:=⟨_,Aa (by omega)⟩;obtain⟨P2,np⟩:∃q,p[it]?=some q:=⟨_,Aa (by omega)⟩;obtain⟨pb,iz,rfl,q8⟩:=(HPT.out.grows lc).get (aH (k:=il) (by omega));have f1:w3.cell? ⟨pb,iz+il*2,none⟩=some (.string P1.name):=q8 il P1 ub 0 _ rfl;have f2:w3.cell? ⟨pb,iz+it*2,none⟩=some (.string P2.name):=q8 it P2 np 0 _ rfl
      have d9:iN p ⟨xr,xs,il,it,xc⟩=Ay ([xr,xs,P1.name,P2.name,⟨(Am xc).toArray⟩].map (·.data.toList)) (⟨#[9]⟩:ByteArray).data.toList++[10]:=by
       unfold iN dH;simp[ub,np]
      have HL:=Ac d9;have HN1:=Ac ub;have HN2:=Ac np;have x0:=aG (w:=w3.drew) e0;have x1:=aG (w:=w3.drew) e1;have x2:=aG (w:=w3.drew) e2;have x3:=aG (w:=w3.drew) e3;have x4:=aG (w:=w3.drew) e4;have y1:=aG (w:=w3.drew) f1;have y2:=aG (w:=w3.drew) f2;have hE3:cI1 w3.drew:=(he.grows lc).grows (aB.drew _);clear d9 ub np q8 e0 e1 e2 e3 e4 f1 f2 c0 c1 c2 c3 c4 HC;refine fE aB 19 (bB 19 []) aB.refl aB.trans (by kernel_rfl) (by kernel_rfl) (λd _ _ _ _ h=>by cases d<;>exact h) ?_
      repeat (refine fT rfl (λK hK=>?_);go_simp;first|(refine hK _ ?_;clear hK K)|(apply Exists.intro;refine⟨λx=>?_,hK _ ?_⟩;((first|(go_at_call 86;exact dS0 (aY0 _ _ (by assumption) (by assumption) (hE3.grows x.h)))));clear hK K))
      refine kN (λw4 h4=>?_);simp only[Ba,Bk];clear x0 x1 x2 x3 x4 y1 y2
      have hJ:=λW (hb:w4.heap.size<W.heap.size) (hc:∀(j:Nat) (y:ByteArray),[xr,xs,P1.name,P2.name,⟨(Am xc).toArray⟩][j]?=some y->W.cell? ⟨w4.heap.size,0+j,none⟩=some (.string y))=>Ac (Tryz.strings_Join w4.heap.size 0 5 [xr,xs,P1.name,P2.name,⟨(Am xc).toArray⟩] ⟨#[9]⟩ W hc hb (by simp) (Ak _) (by
       have h1:=HNS.out _ _ HN1.out;have h2:=HNS.out _ _ HN2.out;have h3:=Bd xc (by omega) (by omega);have q1:=Ad xr;have q2:=Ad xs;have q3:=Ad P1.name;have q4:=Ad P2.name;simp only[Bb,Br];rw[eM0];omega))
      go_wp2_with (first|(go_at_call 89;refine(hJ _ (by simp) ?hc).out.mono ?_))
      case hc =>
       intro j y hj;have h:=congrArg (Bu Value.string) hj;rw[<-Af]at h;exact h
      rintro e w5 rfl q9;have tc:aB wr w5:=(((((aB.alloc _ _).tr bg).dr).tr h4).al _).tr (Below.mono q9 (by simp))
      have aaf:(iN p ⟨xr,xs,il,it,xc⟩).length<=4194304:=by
       have h1:=HNS.out _ _ HN1.out;have h2:=HNS.out _ _ HN2.out;have h3:=Bd xc (by omega) (by omega);have q1:=Ad xr;have q2:=Ad xs;have q3:=Ad P1.name;have q4:=Ad P2.name;rw[HL.out];simp only[Bb,Br,Ae,Aj,Bj]
       have:=eM0 xr.data.toList xs.data.toList P1.name.data.toList P2.name.data.toList (Am xc)
       rw[this];omega
      have hjl:¬9223372036854775807<(Ay [xr.data.toList,xs.data.toList,P1.name.data.toList,P2.name.data.toList,Am xc] [9]).length+1:=by
       have h7:(iN p ⟨xr,xs,il,it,xc⟩).length=(Ay [xr.data.toList,xs.data.toList,P1.name.data.toList,P2.name.data.toList,Am xc] [9]).length+1:=by rw[HL.out];simp
       omega
      have hWS:=λ(s:ByteArray) (hs:s.data.toList=iN p ⟨xr,xs,il,it,xc⟩)=>Ac (Tryz.Builder_WriteString_k w1.heap.size w1.heap.size (Ah acc) s w5 (eV fg tc) (by
       have:=js.out
       have h9:=Ad s;rw[hs]at h9;rw[Az];omega) (Bs (iF fg) tc.size))
      go_wp2_with (first|(go_at_call 84;refine(hWS _ ?hs).out.mono ?_))
      case hs=>rw[HL.out];simp
      rintro e w6 ⟨rfl,afl,xo,_⟩;go_wp2_with fail
      have afm:aB w1 w6:=Below.trans (dw.tr tc) xo;go_roundw
      case rel =>
       refine⟨k+1,acc++iN p ⟨xr,xs,il,it,xc⟩,ae,rfl,?_,HP2.out,?_,afm⟩
       ·exact Or.inr (jM (L:=iN p ⟨xr,xs,il,it,xc⟩) afl (by rw[HL.out];simp))
       ·have h7:=js.out
        show _<=_
        rw[Ae];omega
      case measure=>simp[intOf];omega
     ·have dm:(no != 0)=true:=by simpa using iq
      have ct:dP p l []=([],no):=by rw[HP.out];simp[iq]
      have HP2:=Ac ct;have acj:PS=([],no):=by rw[HPS.out,ct];simp[iq]
      have HNO:=Ac acj;clear HP ct aq iq acj;go_wp2_with (first|(go_at_call 88;refine(HC _ (xn.al _)).out.mono ?_;rintro e w3 ⟨rfl,bg⟩))
      go_ret2;rw[HNO.out];exact⟨rfl,(xn.al _).tr bg⟩
    ·obtain rfl:k=l.length:=by omega
     have aw:dP p l []=(acc,0):=by rw[hpr.out,At];rfl
     have ack:PS=if 1048576<acc.length then ([],2) else (acc,0):=by rw[HPS.out,aw];simp
     have HF:=Ac ack;have an:=Az acc;clear aw ack hpr;by_cases cr:1048576<acc.length
     ·have dm:(1048576:Int)<(Ah acc).length:=by rw[an];omega
      go_wp2_with (first|(go_at_call 90;refine(Tryz.Builder_Len_f _ _ _ _ fg).mono ?_;rintro e w3 ⟨rfl,rfl⟩))
      go_ret2;rw[HF.out,if_pos cr];exact⟨rfl,xn⟩
     ·have dm:¬(1048576:Int)<(Ah acc).length:=by rw[an];omega
      go_wp2_with (first|(go_at_call 90;refine(Tryz.Builder_Len_f _ _ _ _ fg).mono ?_;rintro e w3 ⟨rfl,rfl⟩)|(go_at_call 85;refine(Tryz.Builder_String_any_k _ _ _ _ fg (iF fg)).mono ?_;rintro e w4 ⟨rfl,acl,px,_⟩))
      go_ret2;rw[HF.out,if_neg cr];exact⟨rfl,Below.trans xn (Below.mono px aj.size)⟩
end
section
open Go Go.RowKit
structure CB (b:Nat) (w w':World):Prop where
 size:w.heap.size<=w'.heap.size
 cell:∀(p:Addr) (v:Value),p.block≠b->w.cell? p=some v->w'.cell? p=some v
theorem CB.of {b:Nat} {w w':World} (h:aB w w'):CB b w w':=⟨h.size,λ_ _ _ hc=>h.cell hc⟩
theorem CB.trans {b:Nat} {w w' gl:World} (h:CB b w w') (k:CB b w' gl):CB b w gl:=⟨Bs h.size k.size,λp v hp hc=>k.cell p v hp (h.cell p v hp hc)⟩
theorem CB.tr {b:Nat} {w w' gl:World} (h:CB b w w') (k:aB w' gl):CB b w gl:=h.trans (CB.of k)
theorem eN {H:Type} {P:Program} {k:TypeId} {R:Value->Option (DataW H×List MemPlace)} {w:World} {bs N:Nat} {D:DataW H} (h:w.ownsMap P k R bs N D) {p:Addr} {v:Value} (hc:w.cell? p=some v):p.block≠bs:=by
 obtain⟨es,clock,hb,_⟩:=h;intro e;rw[<-e]at hb;simp[World.cell?,hb]at hc
theorem CB.of_map {H:Type} {P:Program} {k:TypeId} {R:Value->Option (DataW H×List MemPlace)} {b:Nat} {w w':World} {bs N:Nat} {D:DataW H} (h:w.ownsMap P k R bs N D) (hg:w.grownBy w' (some bs)):CB b w w' :=
 ⟨hg.size,λ_ _ _ hc=>aY hg hc (λe=>eN h hc (Option.some.inj e))⟩
theorem CB.set {w:World} (b i:Nat) (v:Value):CB b w (w.setCell ⟨b,i,none⟩ v) :=
 ⟨by simp,λp u hp hc=>by rw[World.cell?_setCell_other _ _ _ _ (λe=>hp (by rw[<-e]))];exact hc⟩
def yJ0:oJ->List (Nat×Nat)
 | none=>[]
 | some ms=>ms.2
def vQ (seen:List (Nat×Nat)) (D:DataW Unit):Prop:=∀a b:Nat,a<=64->b<=64->D.atKey (klP ((a:Int),(b:Int))) (.lit (.int .i64 0))=.lit (.int .i64 (if (a,b)∈seen then 1 else 0))
theorem mN {a:Nat} (h:a<=64):WfI (a:Int):=by
 unfold WfI;exact WalkArith.wf_i64 (by omega)
theorem vQ.nil:vQ [] (.map []):=λ_ _ _ _=>rfl
theorem vQ.put {seen:List (Nat×Nat)} {D:DataW Unit} (h:vQ seen D) (hm:Go.Maps.IsMap D) {a b:Nat} (ha:a<=64) (hb:b<=64):vQ ((a,b)::seen) (D.put (klP ((a:Int),(b:Int))) (.lit (.int .i64 1))):=λa' b' ha' hb'=>by
 by_cases e:(a',b')=(a,b)
 ·obtain⟨rfl,rfl⟩:=Prod.mk.inj e
  rw[Go.Maps.atKey_put_same hm (xR _)];simp
 ·rw[Go.Maps.atKey_put_other (λe2=>e ?_),h a' b' ha' hb']
  ·simp[e]
  ·have:=aQ0 (mN ha') (mN hb') (mN ha) (mN hb) e2
   simp only[Prod.mk.injEq,Int.natCast_inj]at this;rw[this.1,this.2]
structure PSt (w:World) (B b7 b8 bs N:Nat) (st:oJ):Prop where
 g7:B<=b7
 gs:B<=bs
 n78:b8≠b7
 c8:w.cell? ⟨b8,0,none⟩=some (.map (some bs))
 c7:∃v,w.cell? ⟨b7,0,none⟩=some v
 f7:w.frozen? ⟨b7,0,none⟩=false
 mp:∃D,w.ownsMap Tryz.prog 158 (plainElem Tryz.prog 3) bs N D/\vQ (yJ0 st) D
 no:st=none->w.cell? ⟨b7,0,none⟩=some (.pointer none)
 so:∀m seen,st=some (m,seen)->∃mb bm,w.cell? ⟨b7,0,none⟩=some (.pointer (some ⟨mb,0,none⟩))/\gG w mb bm m/\B<=mb/\B<=bm/\bm≠bs/\mb≠b7
theorem PSt.lt7 {w:World} {B b7 b8 bs N:Nat} {st:oJ} (h:PSt w B b7 b8 bs N st):b7<w.heap.size:=let ⟨_,hv⟩:=h.c7; Au w _ hv
theorem PSt.grows {w w':World} {B b7 b8 bs N:Nat} {st:oJ} (h:PSt w B b7 b8 bs N st) (hg:aB w w'):PSt w' B b7 b8 bs N st :=
 ⟨h.g7,h.gs,h.n78,hg.cell h.c8,let ⟨v,hv⟩:=h.c7;⟨v,hg.cell hv⟩,(hg.froz (p:=⟨b7,0,none⟩) h.lt7).trans h.f7,let ⟨D,ho,hm⟩:=h.mp;⟨D,bC ho hg,hm⟩,
  λe=>hg.cell (h.no e),λm seen e=>let ⟨mb,bm,h1,h2,h3⟩:=h.so m seen e;⟨mb,bm,hg.cell h1,h2.grows hg,h3⟩⟩
def cM (p:List bD) (st:oJ) (f:List ByteArray) (B b7 b8 bs N:Nat) (w:World) (e:Ending) (w':World):Prop :=
 e=.returned (.int .i64 (fS p st f).2)/\((fS p st f).2=0->PSt w' B b7 b8 bs (N+1) (fS p st f).1)/\EB B w w'/\CB b7 w w'
theorem cM.err {p:List bD} {st:oJ} {f:List ByteArray} {B b7 b8 bs N:Nat} {w w':World} {E:Int} (hl:(fS p st f).2=E) (hE:E≠0) (h1:EB B w w') (h2:CB b7 w w'):cM p st f B b7 b8 bs N w (.returned (.int .i64 E)) w' :=
 ⟨by rw[hl],λh=>absurd (hl.symm.trans h) hE,h1,h2⟩
theorem wX {p:List bD} {f:List ByteArray} (h:¬(f.length=2/\gR f 0=bQ1/\numMb (gR f 1)=true)):fS p none f=(none,5):=by
 unfold fS;simp only;rw[if_neg h]
theorem dL0 {p:List bD} {a b:ByteArray} (ha:a=bQ1) (hb:numMb b=true):fS p none [a,b]=(some (newM p.length (numMv b),[]),0):=by
 unfold fS;simp only;rw[if_pos ⟨rfl,ha,hb⟩];rfl
theorem wO {p:List bD} {m:Mx} {seen:List (Nat×Nat)} {x y z:ByteArray} (hz:numMb z=true):fS p (some (m,seen)) [x,y,z]=(match posFind p x,posFind p y with
  | some a,some b=>if (a,b)∈seen then (some (m,seen),4) else (some (m.setIf ((a:Int),(b:Int)) (numMv z),(a,b)::seen),0)
  | _,_=>(some (m,seen),150)):=by
 unfold fS;simp only;rw[if_pos ⟨rfl,hz⟩];rfl
theorem aA0 {p:List bD} {m:Mx} {seen:List (Nat×Nat)} {f:List ByteArray} (h:¬(f.length=3/\numMb (gR f 2)=true)):fS p (some (m,seen)) f=(some (m,seen),5):=by
 unfold fS;simp only;rw[if_neg h]
def EM (P:Program) (t:TypeId) (bs:Nat) (key:Value) (w u:World):Prop:=w.grownBy u (some bs)/\∀v,(Instr.lookup t (.map (some bs)) key false).run P w=.ok v w->(Instr.lookup t (.map (some bs)) key false).run P u=.ok v u
theorem EM.refl (P:Program) (t:TypeId) (bs:Nat) (key:Value) (w:World):EM P t bs key w w:=⟨⟨rfl,rfl,rfl,Ak _,λ_ _ _=>rfl⟩,λ_ h=>h⟩
instance (P:Program) (t:TypeId) (bs:Nat) (key:Value) (w:World):Nonempty (Ext (EM P t bs key) w):=⟨⟨w,EM.refl _ _ _ _ _⟩⟩
theorem EM.trans (P:Program) (t:TypeId) (bs:Nat) (key:Value) (a b c:World) (h:EM P t bs key a b) (k:EM P t bs key b c):EM P t bs key a c:=⟨h.1.andThen k.1 (λ_ hj=>Or.inr hj),λv hv=>k.2 v (h.2 v hv)⟩
end
section
open Go Go.ChangeShapes Go.WideShapes Go.ChangeAt Go.RowKit Go.Shelf Go.Lib
def sM0 : List (String × DataW Unit) := [("henkan/crc.quarter", Rows.laid_henkan_crc_quarter), ("math/bits.deBruijn32tab", Rows.laid_math_bits_deBruijn32tab), ("math/bits.deBruijn64tab", Rows.laid_math_bits_deBruijn64tab), ("internal/strconv.uint64pow10", Rows.laid_internal_strconv_uint64pow10), ("unicode/utf8.acceptRanges", Rows.laid_unicode_utf8_acceptRanges), ("strconv.ErrRange", Rows.laid_strconv_ErrRange), ("strconv.ErrSyntax", Rows.laid_strconv_ErrSyntax), ("henkan/pos.kinds", Rows.laid_henkan_pos_kinds), ("unicode/utf8.first", Rows.laid_unicode_utf8_first)]
theorem pT0 {W:World} (h:laidMetH Tryz.prog sM0 W):laidMet Tryz.prog sM0 W:=h
theorem e3:(Rows.laid_internal_strconv_uint64pow10:DataW Unit)=Lib.tabData .u64 Bq:=by kernel_rfl
theorem e5:(Rows.laid_henkan_pos_kinds:DataW Unit)=.agg (kG.map λs => .lit (.string s.data.toList)):=by kernel_rfl
theorem cO0 {P:Program} {w:World} {base:Nat} {sp:Nat->Bool} {held:Bool} {bd:Nat} {t e:TypeId} {n:Nat} {cs:List Value} {zs:List ByteArray} {p:List MemPlace}
  (ht:P.underlying t=some (.array n e)) (he:P.underlying e=some .string) (hce:P.cellsOf e=1) (hct:P.cellsOf t=n)
  (h:DataW.trod (λ_=>()) P w base sp held bd t cs=some (.agg (zs.map λs => .lit (.string s.data.toList)),p)):cs=zs.map Value.string:=by
 cases bd with
 | zero=>simp[DataW.trod]at h
 | succ bd =>
  simp only[DataW.trod,ht,hce,hct,Bt]at h;split at h
  ·rename_i hl
   obtain⟨xs,hm,hx⟩:=Option.map_eq_some_iff.1 h
   have hxs:xs.map (·.1)=zs.map λs=>(DataW.lit (.string s.data.toList):DataW Unit):=by
    have:=congrArg Bw hx
    simpa using this
   have hxl:xs.length=n:=by simpa using mapM_length hm
   have hzl:zs.length=n:=by
    have:=congrArg As hxs
    simp at this;omega
   apply List.ext_getElem?
   intro i;by_cases hi:i<n
   ·obtain⟨b,hb,hf⟩:=mapM_at hm i i (by simp[hi])
    obtain⟨s,hc,rfl,_⟩:=DataW.trod_string he hf
    have h1:cs[i]?=some (.string s):=by
     have:=congrArg (·[0]?) hc
     simpa [List.getElem?_take,List.getElem?_drop] using this
    have h2:(xs.map (·.1))[i]?=some (DataW.lit (.string s.data.toList):DataW Unit):=by simp[hb]
    rw[hxs]at h2;simp only[Af,Option.map_eq_some_iff,DataW.lit.injEq,Lit.string.injEq]at h2;obtain⟨z',hz',hzz⟩:=h2;simp[h1,hz',pL hzz]
   ·rw[Aw (by omega),Aw (by simp;omega)]
  ·cases h
theorem env9_of {W:World} (h:laidMetH Tryz.prog sM0 W) (hS:W.ShapedOpen Tryz.prog):uF0 W:=by
 have hL:=pT0 h
 have r1 : VarReads Tryz.prog W "unicode/utf8.first" firstData := by
  rw[<-e1];exact laidMet.reads hL (.tail _ (.tail _ (.tail _ (.tail _ (.tail _ (.tail _ (.tail _ (.tail _ (.head _)))))))))
 have r2 : VarReads Tryz.prog W "unicode/utf8.acceptRanges" acceptData := by
  rw[<-e2];exact laidMet.reads hL (.tail _ (.tail _ (.tail _ (.tail _ (.head _)))))
 have r3 : VarReads Tryz.prog W "internal/strconv.uint64pow10" (tabData .u64 pow10Tab) := by
  rw[<-e3];exact laidMet.reads hL (.tail _ (.tail _ (.tail _ (.head _))))
 have r4 : VarReads Tryz.prog W "henkan/crc.quarter" (tabData .u32 (iB.map fun n : Nat => (n : Int))) := by
  rw[<-e4];exact laidMet.reads hL (.head _)
 have r5 : VarReads Tryz.prog W "henkan/pos.kinds" (.agg (kG.map fun s => .lit (.string s.data.toList))) := by
  rw[<-e5];exact laidMet.reads hL (.tail _ (.tail _ (.tail _ (.tail _ (.tail _ (.tail _ (.tail _ (.head _))))))))
 refine⟨⟨utf8Tabs_of_readsT (U8Types.of196 Tryz.laysValid) ⟨by kernel_rfl,by kernel_rfl,by kernel_rfl,by kernel_rfl,by kernel_rfl,by kernel_rfl,by kernel_rfl⟩ r1 r2,cell_of_shapedOpen_int (P:=Tryz.prog) (g:=4) (t:=3) (zero:=#[.int .i64 0]) hS (of_decide_eq_true (by kernel_rfl)) (by kernel_rfl) rfl (by kernel_rfl) (by kernel_rfl) Tryz.underlying3,?_⟩,?_,?_⟩
 ·obtain⟨g,t,cs,bd,p,hg,hty,re,hd⟩:=r4
  have ht:(Tryz.prog.globals[3]?).map (·.type)=some 337:=by kernel_rfl
  obtain rfl:=Option.some.inj (dV1.symm.trans hg);obtain rfl:=Option.some.inj (ht.symm.trans hty);have cn:=cells_of_tab Tryz.underlying337 Tryz.underlying237 (by kernel_rfl) (by kernel_rfl) hd
  have T : TabIs Tryz.prog W "henkan/crc.quarter" .u32 (iB.map fun n : Nat => (n : Int)) := by
   unfold TabIs;rw[re,<-cn]
  intro i q hq;have hi:=(List.getElem?_eq_some_iff.1 hq).1;have hc:=T.cell dV1 i (by rw[List.length_map];exact hi);rw[hc,List.getD_eq_getElem?_getD,Af,hq];rfl
 ·obtain⟨g,t,cs,bd,p,hg,hty,re,hd⟩:=r3
  have ht:(Tryz.prog.globals[5]?).map (·.type)=some 367:=by kernel_rfl
  obtain rfl:=Option.some.inj (dE1.symm.trans hg);obtain rfl:=Option.some.inj (ht.symm.trans hty);have cn:=cells_of_tab Tryz.underlying367 Tryz.underlying213 (by kernel_rfl) (by kernel_rfl) hd;unfold TabIs;rw[re,<-cn]
 ·obtain⟨g,t,cs,bd,p,hg,hty,re,hd⟩:=r5
  have hgk : Tryz.prog.globalNamed "henkan/pos.kinds" = some 0 := by kernel_rfl
  have ht:(Tryz.prog.globals[0]?).map (·.type)=some 149:=by kernel_rfl
  obtain rfl:=Option.some.inj (hgk.symm.trans hg);obtain rfl:=Option.some.inj (ht.symm.trans hty);have hcs:=cO0 Tryz.underlying149 Tryz.underlying9 (by kernel_rfl) (by kernel_rfl) hd;intro i s hs;have hv2 : W.var? Tryz.prog "henkan/pos.kinds" = some (kG.map Value.string).toArray := by rw [re, ← hcs]
  rw[World.var?_cell hgk hv2 i,List.getElem?_toArray,Af,hs];rfl
noncomputable def low:Nat:=(World.settled Tryz.prog default).heap.size
noncomputable def lZ0 (os:Os):World :=
 let w0:=World.holding Tryz.prog os ⟨#[.cells #[.string ⟨#[118,97,108,117,101,32,111,117,116,32,111,102,32,114,97,110,103,101]⟩] 390,.cells #[.string ⟨#[105,110,118,97,108,105,100,32,115,121,110,116,97,120]⟩] 390],#[],[]⟩
 let put (h:Array Obj) (g:Nat) (cs:Array Value):Array Obj:=h.modify g λ
  | .cells _ t frozen => .cells cs t frozen
  | o=>o
 let ints (d:DataW Unit):Array Value:=match d with
  | .agg l=>(l.map λx=>match x with
   | .lit (.int k z)=>Value.int k z
   | _ => .nilIface).toArray
  | _ => #[]
 let h1:=put w0.heap 1 (Lib.firstTab.map λz=>Value.int .u8 z).toArray
 let h2:=put h1 2 ((List.range 16).flatMap λi=>[Value.int .u8 (Lib.accLo i),Value.int .u8 (Lib.accHi i)]).toArray
 let h3:=put h2 5 (Lib.pow10Tab.map λz=>Value.int .u64 z).toArray
 let h4:=put h3 8 (ints Rows.laid_math_bits_deBruijn32tab)
 let h5:=put h4 9 (ints Rows.laid_math_bits_deBruijn64tab)
 let h6:=put h5 7 #[.iface 388 (.pointer (some ⟨low,0,none⟩))]
 let h7:=put h6 6 #[.iface 388 (.pointer (some ⟨low+1,0,none⟩))]
 let h8:=put h7 3 (iB.map λn:Nat=>Value.int .u32 (n:Int)).toArray
 let h9:=put h8 0 (kG.map Value.string).toArray
 { w0 with heap:=h9 }
theorem laid9_met (os:Os) (args:Array Value):laidMet Tryz.prog sM0 ((lZ0 os).forCall (λ_ _=>0) ⟨#[],args,[]⟩).memory :=
 (LaidIn.of_run (l:=sM0) [1,2,5,8,9,7,6,3,0,low,low+1] 10 (by kernel_rfl) (by kernel_rfl) (by kernel_rfl) (by kernel_rfl)).met
end
section
open Go Go.ChangeShapes Go.WideShapes Go.ChangeAt Go.RowKit Go.Shelf Go.Lib
open Go.ChangeMaps (open_string shut_string)
structure cE1 (x:bF1):Prop where
 r:(Lit.int .i64 x.r).wf=true
 l:(Lit.int .i64 x.l).wf=true
 c:(Lit.int .i64 x.c).wf=true
theorem zH0 {H:Type} {enc:TypeId×Value->H} {W:World} {base:Nat} {sp:Nat->Bool} {hd:Bool} (n:Nat) (cs:List Value) (x:DataW H×List MemPlace) (hl:cs.length=3) (h:DataW.trod enc Tryz.prog W base sp hd n 125 cs=some x) :
  ∃y:bF1,cs=cB1 y/\cE1 y:=by
 obtain⟨xs,n,_,hx,_,an,ay⟩:=DataW.trod_struct Tryz.underlying125 h
 match cs,hl with
 | [c0,c1,c2],_ =>
  match xs,an with
  | [y0,y1,y2],_ =>
   have g0:=ay 0 _ rfl;have g1:=ay 1 _ rfl;have g2:=ay 2 _ rfl;obtain⟨n0,k0,_,z0⟩:=DataW.trod_int Tryz.underlying3 g0;obtain⟨n1,k1,_,z1⟩:=DataW.trod_int Tryz.underlying3 g1;obtain⟨n2,k2,_,z2⟩:=DataW.trod_int Tryz.underlying3 g2;refine⟨⟨n0,n1,n2⟩,?_,⟨z0,z1,z2⟩⟩;have e0:c0=.int .i64 n0:=by injection k0
   have e1:c1=.int .i64 n1:=by injection k1
   have e2:c2=.int .i64 n2:=by injection k2
   subst e0 e1 e2;rfl
structure yN0 (x:bD):Prop where
 n:x.name.size<=maxLen
 k:(Lit.int .i64 x.kind).wf=true
theorem uK0 {H:Type} {enc:TypeId×Value->H} {W:World} {base:Nat} {sp:Nat->Bool} {hd:Bool} (n:Nat) (cs:List Value) (x:DataW H×List MemPlace) (hl:cs.length=2) (h:DataW.trod enc Tryz.prog W base sp hd n 73 cs=some x) :
  ∃y:bD,cs=bH y/\yN0 y:=by
 obtain⟨xs,n,_,hx,_,an,ay⟩:=DataW.trod_struct Tryz.underlying73 h
 match cs,hl with
 | [c0,c1],_ =>
  match xs,an with
  | [y0,y1],_ =>
   have g0:=ay 0 _ rfl;have g1:=ay 1 _ rfl;obtain⟨s0,k0,_,z0⟩:=DataW.trod_string Tryz.underlying9 g0;obtain⟨n1,k1,_,z1⟩:=DataW.trod_int Tryz.underlying3 g1;refine⟨⟨s0,n1⟩,?_,⟨z0,z1⟩⟩;have e0:c0=.string s0:=by injection k0
   have e1:c1=.int .i64 n1:=by injection k1
   subst e0 e1;rfl
theorem wN0 {cs:Array Value} {a b c d:Value} (hs:cs.size=4) (h0:(cs.toList.drop 0).take 1=[a]) (h1:(cs.toList.drop 1).take 1=[b]) (h2:(cs.toList.drop 2).take 1=[c]) (h3:(cs.toList.drop 3).take 1=[d]):cs = #[a,b,c,d]:=by
 obtain⟨l⟩:=cs
 match l,hs with
 | [x0,x1,x2,x3],_ =>
  simp at h0 h1 h2 h3;subst h0 h1 h2 h3;rfl
section
variable {H:Type} {enc:TypeId×Value->H} {P:Program} {w:World} {base:Nat} {spare:Nat->Bool} {held:Bool}
theorem rM {α:Type} {cells:α->List Value} {OK:α->Prop} {t e:TypeId} {k bd:Nat} {cs0:List Value} {x0:DataW H×List MemPlace} (ht:P.underlying t=some (.slice e)) (hC:P.cellsOf e=k) (hk:0<k) (an:∀y,(cells y).length=k)
  (acm:∀(n:Nat) (cs:List Value) (x:DataW H×List MemPlace),cs.length=k->DataW.trod enc P w base spare held n e cs=some x->∃y:α,cs=cells y/\OK y)
  (hf:DataW.trod enc P w base spare held bd t cs0=some x0) :
  ∃(a:Option Addr) (l:List α) (cap:Nat),cs0=[.slice a l.length cap]/\aF w a k (l.map cells)/\(∀x∈l,OK x)/\(x0.1=.nil/\l=[]\/∃el sp,x0.1=.slice el sp/\el.length=l.length)/\(a=none->cap=0):=by
 rcases Go.Deep.open_slice ht hf with ⟨h1,h2⟩|⟨a',len,cap,m,n,D,Pl,h1,hb,jd,aho,hm,hx,hi⟩
 ·subst h1 h2
  exact⟨none,[],0,rfl,aF.nil _ _ _,by simp,Or.inl ⟨rfl,rfl⟩,λ_=>rfl⟩
 ·subst h1 hx
  obtain⟨l,hl,hp⟩:=zM (P:=λi (y:α)=>OK y/\∀(j:Nat) (u:Value),(cells y)[j]?=some u->w.cell? (a'.add (i*k+j))=some u) len (λi ae=>by
   have him:i<m:=by rw[hm];split<;>omega
   obtain⟨cs,cn,pq⟩:=hi i him;rw[hC]at cn;obtain⟨_,cu,ac⟩:=World.cells?_some cn;obtain⟨y,rfl,aq⟩:=acm _ _ _ cu pq;refine⟨y,aq,λj u hu=>?_⟩;have hj:j<k:=by rw[<-cu];exact(List.getElem?_eq_some_iff.1 hu).1
   rw[<-Go.Deep.add_add];exact(ac j hj).trans hu)
  subst hl;refine⟨some a',l,cap,rfl,λai=>?_,λx hx=>?_,Or.inr ⟨_,_,rfl,by simp⟩,λh=>by cases h⟩
  ·have hs:a'.spot=none:=by
    cases l with
    | nil=>simp at ai
    | cons y0 r =>
     have h0:0<(cells y0).length:=by rw[an];exact hk
     have:=(hp 0 y0 rfl).2 0 _ (Aa h0)
     have h2:=rA0 this;rw[Nat.zero_mul,Bp]at h2;simpa [Addr.add] using h2
   obtain⟨b,off,s⟩:=a';obtain rfl:s=none:=hs;refine⟨b,off,rfl,λi row jf j u hj=>?_⟩;rw[Af]at jf
   cases ig:l[i]? with
   | none=>rw[ig]at jf;cases jf
   | some y =>
    rw[ig]at jf;obtain rfl:=Option.some.inj jf
    have:=(hp i y ig).2 j u hj
    rw[mX]at this;rw[Nat.add_assoc];exact this
  ·obtain⟨i,ae,rfl⟩:=List.getElem_of_mem hx
   exact(hp i _ (Aa ae)).1
theorem dP0 {ts:List TypeId} {ds:List (DataW H)} (h:(DataW.weightsEach P ts ds).all (· <= reachBytes)=true) {j:Nat} {t:TypeId} {fs:Array Field} {parts:List (DataW H)} (ht:ts[j]?=some t) (hd:ds[j]?=some (.agg parts)) (hu:P.underlying t=some (.struct fs)) :
  (DataW.weightsEach P (fs.toList.map (·.type)) parts).all (· <= reachBytes)=true:=by
 rw[List.all_eq_true];intro n hn;exact List.all_eq_true.1 h n (DataW.weights_mem_each ht hd n (by simp only[DataW.weights,hu];exact hn))
end
theorem open_src {H:Type} {enc:TypeId×Value->H} {W:World} {base b0:Nat} {sp:Nat->Bool} {hd:Bool} {r:Reach} {v:Value} {d:DataW H} {ps:List MemPlace} {ts:List TypeId} {ds:List (DataW H)} {j:Nat}
  (afn:Value.okWide Tryz.prog W r b0 26 v) (h:DataW.Trod enc Tryz.prog W base sp hd 26 v d ps)
  (hz:(DataW.weightsEach Tryz.prog ts ds).all (· <= reachBytes)=true) (htj:ts[j]?=some 26) (hdj:ds[j]?=some d) :
  ∃(x:jS0) (A:iW0),v=A.agg x/\yI W A x/\mH0 x/\(A.ea=none->A.ec=0):=by
 obtain⟨cs,rfl,hs⟩:=okWide_struct Tryz.underlying26 afn;obtain⟨bd,hf⟩:=h;obtain⟨xs,n,_,hx,hl,an,ay⟩:=DataW.trod_struct Tryz.underlying26 hf;have hs4:cs.size=4:=hs
 match xs,an with
 | [y0,y1,y2,y3],_ =>
  have g0:=ay 0 _ rfl;have g1:=ay 1 _ rfl;have g2:=ay 2 _ rfl;have g3:=ay 3 _ rfl;obtain⟨pa,p,pc,k0,hp,okp,ct,_⟩:=rM (cells:=bH) (OK:=yN0) Tryz.underlying22 (by kernel_rfl) (by decide) (λ_=>rfl) uK0 g0;obtain⟨n1,k1,_,z1⟩:=DataW.trod_int Tryz.underlying3 g1;obtain⟨sa,s,sc,k2,hs',oks,ii,_⟩:=rM (cells:=cB1) (OK:=cE1) Tryz.underlying23 (by kernel_rfl) (by decide) (λ_=>rfl) zH0 g2;obtain⟨ea,e,ec,k3,he,oke,he2,afo⟩:=rM (cells:=aZ) (OK:=tL) Tryz.underlying24 (by kernel_rfl) (by decide) gF sQ0 g3
  have ma:ds[j]?=some (.agg [y0.1,y1.1,y2.1,y3.1]):=by
   rw[hdj];have e1:=congrArg Bw hx;simpa using e1
  have hw:=dP0 hz htj ma Tryz.underlying26;have l0:=vF hw (j:=0) (d:=y0.1) rfl rfl Tryz.underlying22 (of_decide_eq_true (by kernel_rfl)) (Bv ct (λh=>Or.inl ⟨h.1,congrArg As h.2⟩) Or.inr);have l2:=vF hw (j:=2) (d:=y2.1) rfl rfl Tryz.underlying23 (of_decide_eq_true (by kernel_rfl)) (Bv ii (λh=>Or.inl ⟨h.1,congrArg As h.2⟩) Or.inr);have l3:=vF hw (j:=3) (d:=y3.1) rfl rfl Tryz.underlying24 (of_decide_eq_true (by kernel_rfl)) (Bv he2 (λh=>Or.inl ⟨h.1,congrArg As h.2⟩) Or.inr);exact⟨⟨p,n1,s,e⟩,⟨pa,pc,sa,sc,ea,ec⟩,by rw[wN0 hs4 k0 k1 k2 k3];rfl,⟨hp,hs',he⟩,⟨λy hy=>(okp y hy).n,λy hy=>(oks y hy).c,oke,z1,l0,l2,l3⟩,afo⟩
end
end Go.Proofs.YthgklnohcmaopaaGreatDoor
