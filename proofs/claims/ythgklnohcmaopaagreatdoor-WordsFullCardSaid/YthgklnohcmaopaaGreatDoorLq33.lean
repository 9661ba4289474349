/- The texts Bidx BvC BvN Rnk Sel, one behind the other. -/
import Derived.Test.YthgklnohcmaopaaGreatDoorLq3
import Derived.Test.YthgklnohcmaopaaGreatDoorLq25
import Derived.Test.YthgklnohcmaopaaGreatDoorLq32
import Derived.Test.YthgklnohcmaopaaGreatDoorLq20
import Derived.Test.YthgklnohcmaopaaGreatDoorLq6
import Derived.Test.YthgklnohcmaopaaGreatDoorLq4
open Go.Lib renaming hid → Aa
open Go.IntKind renaming signed → Ab,wrap → Ae,bits → Af
open List renaming getElem?_eq_none → Ac,getElem?_eq_getElem → Ah,getElem?_range → Aj,getD_eq_getElem?_getD → Ak,getElem?_map → Am,range_succ → Ao,filter_append → Ar,ext_getElem? → As,range → At
open Int renaming tdiv_eq_ediv_of_nonneg → Ad,tmod_eq_emod_of_nonneg → Al
open Go.World renaming cell?_setCell_other → Ag,block_lt_of_cell? → An,frozen?_setCell → Ap
open Nat renaming zero_le → Ai,le_refl → Aq
set_option maxHeartbeats 8000000
namespace Go.Proofs.YthgklnohcmaopaaGreatDoor
set_option maxRecDepth 100000
section
open Go Go.RowKit Go.Shelf
attribute [local go_sem] aO aM
def fI0 (nw:En->En->Bool) (l:List En) (i:Nat):Bool:=i==0||nw (l.getD i enZero) (l.getD (i-1) enZero)
def iY (nw:En->En->Bool) (l:List En) (k:Nat):List Nat:=(At k).filter (fI0 nw l)
theorem rO0 {nw:En->En->Bool} {l:List En} {k:Nat} (h:fI0 nw l k=true):iY nw l (k+1)=iY nw l k++[k]:=by
 unfold iY;rw[Ao,Ar];simp[h]
theorem mX1 {nw:En->En->Bool} {l:List En} {k:Nat} (h:fI0 nw l k=false):iY nw l (k+1)=iY nw l k:=by
 unfold iY;rw[Ao,Ar];simp[h]
theorem aX0 (nw:En->En->Bool) (l:List En) (k:Nat):(iY nw l k).length<=k:=by
 grind [iY]
theorem zU (nw:En->En->Bool) (g:Nat) (eg:∀args w,(callFunc g args).run Tryz.prog w=.ok (.enter g args) w) (HG:∀(x y:En) w,Calls Tryz.prog g #[x.agg,y.agg] w λe w'=>e=.returned (.bool (nw x y))/\aB w w')
  (l:List En) (a:Option Addr) (c:Nat) (w:World) (hl:l.length<=1048576) (ac:aG w a 5 (l.map bF)) :
  Calls Tryz.prog 57 #[.slice a l.length c,.func (.func g) #[] #[]] w λe w'=>aB w w'/\∃v,e=.returned v/\aX w' w.heap.size 3 1 lK v (iY nw l l.length):=by
 have HAT:=Aa ac;have HGG:=λx y w=>Aa (HG x y w);clear ac HG;go_enter Tryz.func57,Tryz.ntmps57
 go_wp2_with fail
 go_loopw [5,10] (λv i wr=>∃(k:Nat),k<=l.length/\i=.int .i64 k/\aX wr w.heap.size 3 1 lK v (iY nw l k)/\aB w wr) (λ_ i _=>l.length-(intOf i).toNat)
 case atStart=>exact⟨0,Ai _,rfl,aX.nil _ _ _ _ _,aB.refl _⟩
 case round =>
  obtain⟨k,hk,rfl,aa,hg⟩:=hrel;by_cases ae:k<l.length
  ·obtain⟨⟨xr,xs,xl,xt,xc⟩,hx⟩:∃x,l[k]?=some x:=⟨_,Ah ae⟩
   obtain⟨ba,oa,rfl,be⟩:=(HAT.out.grows hg).get (aK ae);have c0:wr.cell? ⟨ba,oa+k*5,none⟩=some (.string xr):=be k _ hx 0 _ rfl;have c1:wr.cell? ⟨ba,oa+k*5+1,none⟩=some (.string xs):=be k _ hx 1 _ rfl;have c2:wr.cell? ⟨ba,oa+k*5+2,none⟩=some (.int .i64 xl):=be k _ hx 2 _ rfl;have c3:wr.cell? ⟨ba,oa+k*5+3,none⟩=some (.int .i64 xt):=be k _ hx 3 _ rfl;have c4:wr.cell? ⟨ba,oa+k*5+4,none⟩=some (.int .i64 xc):=be k _ hx 4 _ rfl;have yq:=aX0 nw l k;obtain⟨W1,bi⟩:=exq (wr.alloc (.cells #[.string xr,.string xs,.int .i64 xl,.int .i64 xt,.int .i64 xc] 30));have an:aB wr W1:=by rw[bi];exact aB.alloc _ _
   have da:=λj u h=>aT wr #[.string xr,.string xs,.int .i64 xl,.int .i64 xt,.int .i64 xc] 30 (0,0) j u h;rw[<-bi]at da;have z0:∀x:Ext aB W1.drew,x.u.cell? ⟨wr.heap.size,0,none⟩=some (.string xr):=aF ((aB.drew W1).cell (da 0 _ rfl));have z1:∀x:Ext aB W1.drew,x.u.cell? ⟨wr.heap.size,1,none⟩=some (.string xs):=aF ((aB.drew W1).cell (da 1 _ rfl));have z2:∀x:Ext aB W1.drew,x.u.cell? ⟨wr.heap.size,2,none⟩=some (.int .i64 xl):=aF ((aB.drew W1).cell (da 2 _ rfl));have z3:∀x:Ext aB W1.drew,x.u.cell? ⟨wr.heap.size,3,none⟩=some (.int .i64 xt):=aF ((aB.drew W1).cell (da 3 _ rfl));have z4:∀x:Ext aB W1.drew,x.u.cell? ⟨wr.heap.size,4,none⟩=some (.int .i64 xc):=aF ((aB.drew W1).cell (da 4 _ rfl));clear da;by_cases h0:k=0
   ·have hK:Hid (fI0 nw l k=true):=by show _=_;rw[h0];rfl
    have hkz:((k:Int)==0)=true:=by rw[h0];rfl
    have H0:=Aa h0;clear be hx h0;go_wp2_with fail
    rw[<-bi];clear bi;refine bK (bB 12 []) (by kernel_rfl) (λd _ _ _ _ h=>by cases d<;>exact h) ?_
    iterate 12 (refine aH rfl (λK hK=>?_);go_simp;refine hK _ ?_;clear hK K)
    clear z0 z1 z2 z3 z4;refine cB ?_;have aq:=aa.grows an.dr;have ck:=aB.trans _ _ _ hg an.dr;have HI:=Aa (rO0 hK.out);obtain⟨bk,b9⟩:=exq (iY nw l k);rw[<-b9]at aq HI yq;clear b9 aa an hg;go_wp2_with (at_builtin;refine fG tJ rfl _ _ rfl w.heap.size _ bk k rfl aq (aB.refl _) _ 1 rfl #[.int .i64 k] rfl rfl (by omega) ck.size ?_;intro v5 w5 ar _ _ bv)
    have HG5:=bv w ck (Aq _);rw[<-HI.out]at ar;go_wp2_with fail
    go_roundw
    case rel=>exact⟨k+1,by omega,by go_num,ar,HG5⟩
    case measure=>simp[intOf];omega
   ·obtain⟨⟨yr,ys,yl,yt,yc⟩,hy⟩:∃y,l[k-1]?=some y:=⟨_,Ah (by omega)⟩
    obtain⟨m,hm⟩:=exq (k-1);have hkz:((k:Int)==0)=false:=by simp;omega
    have wk:IntKind.i64.wrap ((k:Int)-1)=m:=by simp[Ae,Af,Ab];omega
    have hml:m<l.length:=by omega
    have hmi:(m:Int)<l.length:=by omega
    rw[<-hm]at hy;have d0:∀x:Ext aB W1.drew,x.u.cell? ⟨ba,oa+m*5,none⟩=some (.string yr):=aF ((aB.drew W1).cell (an.cell (be m _ hy 0 _ rfl)));have d1:∀x:Ext aB W1.drew,x.u.cell? ⟨ba,oa+m*5+1,none⟩=some (.string ys):=aF ((aB.drew W1).cell (an.cell (be m _ hy 1 _ rfl)));have d2:∀x:Ext aB W1.drew,x.u.cell? ⟨ba,oa+m*5+2,none⟩=some (.int .i64 yl):=aF ((aB.drew W1).cell (an.cell (be m _ hy 2 _ rfl)));have d3:∀x:Ext aB W1.drew,x.u.cell? ⟨ba,oa+m*5+3,none⟩=some (.int .i64 yt):=aF ((aB.drew W1).cell (an.cell (be m _ hy 3 _ rfl)));have d4:∀x:Ext aB W1.drew,x.u.cell? ⟨ba,oa+m*5+4,none⟩=some (.int .i64 yc):=aF ((aB.drew W1).cell (an.cell (be m _ hy 4 _ rfl)));obtain⟨b,hb⟩:=exq (nw ⟨xr,xs,xl,xt,xc⟩ ⟨yr,ys,yl,yt,yc⟩)
    have HB:Hid (fI0 nw l k=b):=by
     show _=_
     unfold fI0;rw[show l.getD k enZero=⟨xr,xs,xl,xt,xc⟩ by rw[Ak,hx];rfl,<-hm,show l.getD m enZero=⟨yr,ys,yl,yt,yc⟩ by rw[Ak,hy];rfl,<-hb,show (k==0)=false by simpa using h0]
     rfl
    have CG:=λW=>Aa (HGG ⟨xr,xs,xl,xt,xc⟩ ⟨yr,ys,yl,yt,yc⟩ W).out;rw[<-hb]at CG;have HM:=Aa hm;have H0:=Aa h0;clear be hx hy hm hb h0;go_wp2_with fail
    rw[<-bi];clear bi;refine bK (bB 12 [10]) (by kernel_rfl) (λd _ _ _ _ h=>by cases d<;>exact h) ?_
    iterate 10 (refine aH rfl (λK hK=>?_);go_simp;refine hK _ ?_;clear hK K)
    refine bH rfl rfl (λK hK=>?_);go_simp;refine((CG W1.drew).out).mono ?_;rintro e w2 ⟨rfl,af⟩;refine⟨af,hK _ _ ?_⟩;clear hK K;iterate 1 (refine aH rfl (λK hK=>?_);go_simp;refine hK _ ?_;clear hK K)
    clear z0 z1 z2 z3 z4 d0 d1 d2 d3 d4;refine cB ?_;have pv:=aB.trans _ _ _ an.dr af;have aq:=aa.grows pv;have ck:=aB.trans _ _ _ hg pv;obtain⟨bk,b9⟩:=exq (iY nw l k)
    cases b with
    | true =>
     have HI:=Aa (rO0 HB.out);rw[<-b9]at aq HI yq;clear b9 aa an hg CG af pv;go_wp2_with (at_builtin;refine fG tJ rfl _ _ rfl w.heap.size _ bk k rfl aq (aB.refl _) _ 1 rfl #[.int .i64 k] rfl rfl (by omega) ck.size ?_;intro v5 w5 ar _ _ bv)
     have HG5:=bv w ck (Aq _);rw[<-HI.out]at ar;go_wp2_with fail
     go_roundw
     case rel=>exact⟨k+1,by omega,by go_num,ar,HG5⟩
     case measure=>simp[intOf];omega
    | false =>
     have HI:=Aa (mX1 HB.out);rw[<-b9]at aq HI yq;clear b9 aa an hg CG af pv;go_wp2_with fail
     rw[<-HI.out]at aq;go_roundw
     case rel=>exact⟨k+1,by omega,by go_num,aq,ck⟩
     case measure=>simp[intOf];omega
  ·obtain rfl:k=l.length:=by omega
   go_wp2_with fail
   go_ret;exact⟨hg,_,rfl,aa⟩
end
section
open Go Go.RowKit
attribute [local go_sem] aO aM
theorem nQ1 {α:Type} {w w':World} {B base:Nat} {e:TypeId} {k:Nat} {enc:α->List Value} {v:Value} {xs:List α} (h:aX w base e k enc v xs) (hg:EB B w w') (hb:∀q,v.ownBlock=some q->q<B):aX w' base e k enc v xs:=by
 obtain⟨h1,h2⟩:=h;refine⟨h1,?_⟩;rcases h2 with h2|⟨g,cap,cp,hv,hbs,hh,r⟩
 ·exact Or.inl h2
 ·refine Or.inr ⟨g,cap,cp,hv,hbs,?_,r⟩
  rw[Below.block hg.1 g (hb g (by rw[hv];rfl))];exact hh
def jW (l:List Bool) (k:Nat):List Nat:=(At k).map λg=>eC l (512*g)
theorem iN0 (l:List Bool) (k:Nat):jW l (k+1)=jW l k++[eC l (512*k)]:=by
 unfold jW;rw[Ao,List.map_append];rfl
theorem oB0 (l:List Bool) (k:Nat):(jW l k).length=k:=by simp[jW]
theorem pR {l:List Bool} {k:Nat} (h:k<(l.length+63)/64):(mQ l)[k]?=some (nH l k):=by
 unfold mQ;rw[Am,Aj h];rfl
theorem gI (l:List Bool):(mQ l).length=(l.length+63)/64:=by simp[mQ]
theorem lG0 {w w1 w2:World} {p:Nat} {row:Option Nat} (h:w.grownBy w1 (some p)) (k:w1.grownBy w2 row) (hr:∀q,row=some q->w.heap.size<=q):w.grownBy w2 (some p) :=
 ⟨k.os.trans h.os,k.tape.trans h.tape,k.output.trans h.output,Nat.le_trans h.size k.size,λi hi aj=>(k.block i (Nat.lt_of_lt_of_le hi h.size) (λe=>by have:=hr i e.symm;omega)).trans (h.block i hi aj)⟩
theorem nX0 {w w1:World} {p:Nat} (h:w.grownBy w1 (some p)) (j:Nat) (v:Value):w.grownBy (w1.setCell ⟨p,j,none⟩ v) (some p) :=
 ⟨h.os,h.tape,h.output,by simpa using h.size,λi hi aj=>(Below.heap_setCell _ _ _ i (λe=>aj (by rw[e]))).trans (h.block i hi aj)⟩
theorem eB0 {w w1:World} {p:Nat} (h:w.grownBy w1 (some p)) (hp:p<w.heap.size):EB p w w1 :=
 ⟨Below.grown (row:=some p) (Below.refl _ _) h (Nat.le_of_lt hp) (λk hk=>by cases hk;exact Aq _),h.size⟩
theorem kV0 (l:List Bool) (vb bw:Nat) (vW:Value) (w:World) (hl:l.length<=1048576) (hvw:∀r,vW.ownBlock=some r->r≠vb)
  (c1:w.cell? ⟨vb,1,none⟩=some vW) (c2:w.cell? ⟨vb,2,none⟩=some (.slice none 0 0)) (f2:w.frozen? ⟨vb,2,none⟩=false)
  (aa:aX w bw 213 1 kI vW (mQ l)) :
  Calls Tryz.prog 183 #[.pointer (some ⟨vb,0,none⟩)] w λe w'=>e=.returned (.tuple #[])/\(∃vC,w'.cell? ⟨vb,2,none⟩=some vC/\aX w' w.heap.size 3 1 lK vC (jW l ((l.length+511)/512)))/\(∀j,j≠2->w'.cell? ⟨vb,j,none⟩=w.cell? ⟨vb,j,none⟩)/\w.grownBy w' (some vb):=by
 obtain⟨q,hq⟩:=exq ((l.length+63)/64);have xx:q<=16384:=by omega
 have hvl:=An w _ c1;simp only at hvl;obtain⟨aW,cW,rfl,_,_,gl⟩:=aa.at_ (enc:=kI) (λ_=>rfl);have HNE:Hid (∀r:Addr,aW=some r->some r.block≠some vb):=λr hr e=>hvw r.block (by rw[hr];rfl) (Option.some.inj e);have hWl:=gI l;rw[<-hq]at hWl;rw[hWl]at c1;have HWG:Hid (∀k,k<q->(mQ l)[k]?=some (nH l k)):=λk hk=>pR (by omega);have HATW:=Aa gl;have HQ:Hid ((l.length+511)/512=(q+7)/8):=by show _=_;omega
 clear aa hq hWl gl hvw;go_enter Tryz.func183,Tryz.ntmps183
 go_wp2_with fail
 go_loopw [2,10] (λn i wr=>∃(k N:Nat) (vC:Value),k<=q/\i=.int .i64 k/\n=.int .i64 N/\Hid (N=eC l (64*k))/\N<=64*k/\wr.cell? ⟨vb,1,none⟩=some (.slice aW q cW)/\wr.cell? ⟨vb,2,none⟩=some vC/\wr.frozen? ⟨vb,2,none⟩=false/\aX wr w.heap.size 3 1 lK vC (jW l ((k+7)/8))/\Hid (∀j,j≠2->wr.cell? ⟨vb,j,none⟩=w.cell? ⟨vb,j,none⟩)/\Hid (w.grownBy wr (some vb))) (λ_ i _=>q-(intOf i).toNat)
 case atStart=>exact⟨0,0,_,Ai _,rfl,rfl,rfl,Ai _,c1,c2,f2,aX.nil _ _ _ _ _,λ_ _=>rfl,lW _ _⟩
 case round =>
  obtain⟨k,N,vC,hk,rfl,rfl,hN,hNb,d1,d2,df,aa,hj,cv⟩:=hrel;have rs:w.heap.size<=wr.heap.size:=cv.out.size;by_cases ae:k<q
  ·obtain⟨wb,wo,rfl,yu⟩:=at1 (f:=λn:Nat=>Value.int .u64 n) (fP0 HATW.out cv.out HNE.out) (aK (k:=k) (by rw[gI];have:=(List.getElem?_eq_some_iff.1 (HWG.out k ae)).1;rw[gI]at this;exact this))
   have gn:=yu k _ (HWG.out k ae);clear yu;obtain⟨x,hx⟩:=exq (nH l k);have ji:x<18446744073709551616:=by rw[hx];exact pM l k
   rw[<-hx]at gn;obtain⟨S,hS⟩:=exq (zG 2 64 x);have HN2:Hid (N+S=eC l (64*(k+1))):=by show _=_;rw[dN0,<-hN.out,hS,hx]
   have hNS:N+S<=64*(k+1):=by rw[HN2.out];exact oB _ _
   have CO:=λW=>gQ0 x W ji;rw[<-hS]at CO;have cn:(k:Int)<q:=by omega
   have ci:=oB0 l ((k+7)/8);clear hx hS;by_cases h8:k%8=0
   ·have h8i:(k:Int)%8=0:=by omega
    have hC2:jW l ((k+1+7)/8)=jW l ((k+7)/8)++[N]:=by
     rw[show (k+1+7)/8=(k+7)/8+1 by omega,iN0,hN.out,show 512*((k+7)/8)=64*k by omega]
    have HC2:=Aa hC2;clear hC2;obtain⟨aC,cC,rfl,_,_,_⟩:=aa.at_ (enc:=lK) (λ_=>rfl);rw[ci]at d2 aa
    have hnr:some vb≠(Value.slice aC ((k+7)/8) cC).ownBlock:=λh=>by
     have:=aZ aa _ h.symm
     omega
    go_wp2_with (at_builtin;refine fG tJ rfl _ _ rfl w.heap.size (.slice aC ((k+7)/8) cC) (jW l ((k+7)/8)) N rfl aa (aB.refl _) _ 1 rfl #[.int .i64 N] rfl rfl (by rw[ci];omega) rs ?_;intro v' w5 ar qv hf5 bv;obtain⟨a5,c5,rfl,_,_,_⟩:=ar.at_ (enc:=lK) (λ_=>rfl);rw[show (jW l ((k+7)/8)++[N]).length=(k+7)/8+1 by rw[List.length_append,ci];rfl]at ar ⊢;have e1:=qv.cell d1 hnr;have e2:=qv.cell d2 hnr;have ef:w5.frozen? ⟨vb,2,none⟩=false:=(World.frozen?_of_block (a:=⟨vb,2,none⟩) (qv.block vb (by omega) hnr)).trans df)
    refine(CO _).mono ?_;rintro e w6 ⟨rfl,rfl⟩;go_wp2_with fail
    have hjj:∀j,j≠2->(w5.setCell ⟨vb,2,none⟩ (.slice a5 ((k+7)/8+1) c5)).cell? ⟨vb,j,none⟩=w.cell? ⟨vb,j,none⟩:=λj lx=>by
     rw[Ag _ _ _ _ (λh=>lx (congrArg Addr.off h).symm),<-hj.out j lx];exact World.cell?_of_block (a:=⟨vb,j,none⟩) (qv.block vb (by omega) hnr)
    have ahr:Hid (w.grownBy (w5.setCell ⟨vb,2,none⟩ (.slice a5 ((k+7)/8+1) c5)) (some vb)):=nX0 (lG0 cv.out qv (λr hr=>aZ aa r hr)) 2 _;go_roundw
    case rel=>exact⟨k+1,N+S,_,ae,by go_num,by go_num,HN2.out,hNS,(Ag _ _ _ _ (λh=>by cases h)).trans e1,World.cell?_setCell_same _ _ _ e2,(Ap _ _ _ _).trans ef,by rw[HC2.out];exact mG ar (p:=⟨vb,2,none⟩) hvl _,hjj,ahr⟩
    case measure=>simp[intOf];omega
   ·have h8i:¬(k:Int)%8=0:=by omega
    have hC2:(k+1+7)/8=(k+7)/8:=by omega
    have HC2:=Aa hC2;clear hC2 ci;go_wp2_with fail
    refine(CO _).mono ?_;rintro e w6 ⟨rfl,rfl⟩;go_wp2_with fail
    go_roundw
    case rel=>exact⟨k+1,N+S,vC,ae,by go_num,by go_num,HN2.out,hNS,d1,d2,df,by rw[HC2.out];exact aa,hj.out,cv⟩
    case measure=>simp[intOf];omega
  ·have cn:¬(k:Int)<q:=by omega
   have jr:k=q:=by omega
   have HO:Hid (aX wr w.heap.size 3 1 lK vC (jW l ((l.length+511)/512))):=by show aX _ _ _ _ _ _ _;rw[HQ.out,<-jr];exact aa
   clear jr;go_wp2_with fail
   refine bodyPost_end (v:=.tuple #[]) (by simp[results,Tryz.results183,go_sem]) rfl ⟨rfl,⟨vC,d2,HO.out⟩,hj.out,cv.out⟩
def mI (l:List Bool) (q:Nat):List Nat:=(At q).map (nH l)
theorem mT (l:List Bool) (q:Nat):(mI l q).length=q:=by simp[mI]
theorem rB {l:List Bool} {q k:Nat} (h:k<q):(mI l q)[k]?=some (nH l k):=by
 unfold mI;rw[Am,Aj h];rfl
theorem vN0 (q:Nat):mI [] q=List.replicate q 0:=by
 apply As
 intro k;by_cases hk:k<q
 ·rw[rB hk,List.getElem?_replicate,if_pos hk,iD1]
 ·rw[Ac (by rw[mT];omega),Ac (by simp;omega)]
theorem kP0 (l:List Bool) (q:Nat):mI (l++[false]) q=mI l q:=by
 unfold mI;apply List.map_congr_left
 intro k _;exact sZ0 l k
theorem oI0 {l:List Bool} {q Q S:Nat} (hS:S<64) (hQ:l.length=64*Q+S):mI (l++[true]) q=(mI l q).set Q (nH l Q|||(1<<<S)%18446744073709551616):=by
 apply As
 intro k;by_cases hk:k<q
 ·rw[rB hk]
  by_cases xz:k=Q
  ·subst xz
   rw[List.getElem?_set_self (by rw[mT];exact hk),yW0 hQ]
  ·rw[List.getElem?_set_ne (Ne.symm xz),rB hk,cA1 hS hQ xz]
 ·rw[Ac (by rw[mT];omega),Ac (by rw[List.length_set,mT];omega)]
structure kL (w:World) (vb:Nat) (l:List Bool):Prop where
 c0:w.cell? ⟨vb,0,none⟩=some (.int .i64 l.length)
 c1:∃vW,w.cell? ⟨vb,1,none⟩=some vW/\aX w 0 213 1 kI vW (mQ l)
 c2:∃vC,w.cell? ⟨vb,2,none⟩=some vC/\aX w 0 3 1 lK vC (uJ l)
theorem kL.grows {w w':World} {vb:Nat} {l:List Bool} (h:kL w vb l) (hg:aB w w'):kL w' vb l:=by
 obtain⟨wb,h1,h2⟩:=h.c1;obtain⟨vC,h3,h4⟩:=h.c2;exact⟨hg.cell h.c0,⟨wb,hg.cell h1,h2.grows hg⟩,vC,hg.cell h3,h4.grows hg⟩
theorem pP1 {x S:Nat} (hx:x<18446744073709551616):bits .or .u64 (x:Int) (IntKind.u64.wrap ((2:Int)^S))=((x|||(1<<<S)%18446744073709551616:Nat):Int):=by
 have h:=kW0 (v:=1) (S:=S) hx;rw[show ((1:Nat):Int)*2^S=(2:Int)^S by simp]at h
 exact h
theorem qA0 (l:List Bool) (a:Option Addr) (c:Nat) (w:World) (hl:l.length<=1048576) (ac:aG w a 1 (l.map rD)) :
  Calls Tryz.prog 119 #[.slice a l.length c] w λe w'=>e=.returned (.tuple #[.pointer (some ⟨w.heap.size+1,0,none⟩),.int .i64 0])/\kL w' (w.heap.size+1) l/\aB w w':=by
 have HAT:=Aa ac;obtain⟨q,hq⟩:=exq ((l.length+63)/64);have xx:q<=16384:=by omega
 have HQ:=Aa hq;have hlw:¬(1048576:Int)<l.length:=by omega
 have tg:((l.length:Int)+63)/64=q:=by omega
 have eq2:((l.length:Int)+63).tdiv 64=q:=by rw[Ad (by omega)];exact tg
 have wq:IntKind.i64.wrap (q:Int)=q:=by simp[Ae,Af,Ab];omega
 have l9:=λ(Y:World)=>pH1 q Y (by omega);clear ac hq;go_enter Tryz.func119,Tryz.ntmps119
 go_wp2_with fail
 have az:=lR0 (w:=w) (n:=q) (by omega);rw[Nat.mul_one]at az;obtain⟨W1,bi⟩:=exq (w.alloc (.cells (madeCells #[.int .u64 0] q) 213));have dw:W1.heap.size=w.heap.size+1:=by rw[bi];simp
 have gk:aB w W1:=by rw[bi];exact aB.alloc _ _
 rw[<-bi]at az ⊢;obtain⟨W2,d9⟩:=exq (W1.alloc (.cells #[.int .i64 l.length,.slice (some ⟨w.heap.size,0,none⟩) q q,.slice none 0 0] 277));have da:=λj u h=>aT W1 #[.int .i64 l.length,.slice (some ⟨w.heap.size,0,none⟩) q q,.slice none 0 0] 277 (0,0) j u h;rw[<-d9,dw]at da;have b0:=da 0 _ rfl;have b1:=da 1 _ rfl;have b2:=da 2 _ rfl;have bf:W2.frozen? ⟨w.heap.size+1,2,none⟩=false:=by rw[d9,<-dw];exact gG0 _ _ _ _
 have jt:aB W1 W2:=by rw[d9];exact aB.alloc _ _
 have ai:=az.grows jt;have af:=gk.tr jt;rw[<-vN0 q]at ai;rw[<-d9];clear bi d9 da az dw gk jt l9 tg eq2 wq;go_loopw [21] (λi wr=>∃k:Nat,k<=l.length/\i=.int .i64 k/\wr.cell? ⟨w.heap.size+1,0,none⟩=some (.int .i64 l.length)/\wr.cell? ⟨w.heap.size+1,1,none⟩=some (.slice (some ⟨w.heap.size,0,none⟩) q q)/\wr.cell? ⟨w.heap.size+1,2,none⟩=some (.slice none 0 0)/\wr.frozen? ⟨w.heap.size+1,2,none⟩=false/\aX wr w.heap.size 213 1 kI (.slice (some ⟨w.heap.size,0,none⟩) q q) (mI (l.take k) q)/\aB w wr) (λi _=>l.length-(intOf i).toNat)
 case atStart=>exact⟨0,Ai _,rfl,b0,b1,b2,bf,ai,af⟩
 case round =>
  obtain⟨k,hk,rfl,d0,d1,d2,df,aa,hg⟩:=hrel;by_cases ae:k<l.length
  ·obtain⟨x,hx⟩:∃x,l[k]?=some x:=⟨_,Ah ae⟩
   obtain⟨b,o,rfl,hc⟩:=at1 HAT.out (aK ae);have gn:=hg.cell (hc k x hx);have cn:(k:Int)<l.length:=by omega
   cases x
   ·have HO:Hid (aX wr w.heap.size 213 1 kI (.slice (some ⟨w.heap.size,0,none⟩) q q) (mI (l.take (k+1)) q)):=by show aX _ _ _ _ _ _ _;rw[bM hx,kP0];exact aa
    clear hc hx;go_wp2_with fail
    go_roundw
    case rel=>exact⟨k+1,ae,by go_num,d0,d1,d2,df,HO.out,hg⟩
    case measure=>simp[intOf];omega
   ·obtain⟨Q,hQ⟩:=exq (k/64)
    obtain⟨S,hS⟩:=exq (k%64);have nh:S<64:=by omega
    have ur:Q<q:=by have:=HQ.out;omega
    have eQ:(k:Int)/64=Q:=by omega
    have eS:(k:Int)%64=S:=by omega
    have hQi:(Q:Int)<q:=by omega
    have eT:(k:Int).tmod 64=S:=by rw[Al (by omega)];exact eS
    have wQ:IntKind.i64.wrap (Q:Int)=Q:=by simp[Ae,Af,Ab];omega
    have wS:IntKind.i64.wrap (S:Int)=S:=by simp[Ae,Af,Ab];omega
    obtain⟨y,hy⟩:=exq (nH (l.take k) Q);have j6:y<18446744073709551616:=by rw[hy];exact pM _ _
    have aas:=aa.grows (aB.drew wr);have e1:wr.cell? ⟨w.heap.size,Q,none⟩=some (.int .u64 y):=dC (f:=λn:Nat=>Value.int .u64 n) aa (by rw[rB ur,hy]);obtain⟨f1,_,aq⟩:=eW (f:=λn:Nat=>Value.int .u64 n) aas (k:=Q) (by rw[mT];exact ur) (y|||(1<<<S)%18446744073709551616)
    have tf:=pP1 (S:=S) j6;obtain⟨y1,lk⟩:=exq (y|||(1<<<S)%18446744073709551616)
    rw[<-lk]at tf aq
    have HO:Hid (aX (wr.drew.setCell ⟨w.heap.size,Q,none⟩ (.int .u64 y1)) w.heap.size 213 1 kI (.slice (some ⟨w.heap.size,0,none⟩) q q) (mI (l.take (k+1)) q)):=by
     show aX _ _ _ _ _ _ _
     rw[bM hx,oI0 (Q:=Q) nh (by rw[List.length_take];omega),<-hy,<-lk];exact aq
    have z1:∀x:Ext aB wr.drew,x.u.cell? ⟨w.heap.size+1,1,none⟩=some (.slice (some ⟨w.heap.size,0,none⟩) q q):=aF ((aB.drew wr).cell d1);have z2:∀x:Ext aB wr.drew,x.u.cell? ⟨w.heap.size,Q,none⟩=some (.int .u64 y):=aF ((aB.drew wr).cell e1);clear hc hx hQ hS hy lk aq aas;go_wp2_with fail
    refine lC 12 (bB 12 []) (by kernel_rfl) (λd _ _ _ _ h=>by cases d<;>exact h) ?_
    iterate 12 (refine aH rfl (λK hK=>?_);go_simp;refine hK _ ?_;clear hK K)
    clear z1 z2;refine cB ?_;simp only[List.drop_succ_cons,List.drop_zero];go_wp2_with fail
    have h0:∀j,(wr.drew.setCell ⟨w.heap.size,Q,none⟩ (.int .u64 y1)).cell? ⟨w.heap.size+1,j,none⟩=wr.cell? ⟨w.heap.size+1,j,none⟩:=λj=>Ag _ _ _ _ (λh=>by have:=congrArg Addr.block h;simp at this);go_roundw
    case rel=>exact⟨k+1,ae,by go_num,(h0 0).trans d0,(h0 1).trans d1,(h0 2).trans d2,(Ap _ _ _ _).trans df,HO.out,(hg.dr).set (Aq _) _⟩
    case measure=>simp[intOf];omega
  ·have cn:¬(k:Int)<l.length:=by omega
   have jr:k=l.length:=by omega
   rw[jr,List.take_length]at aa;have ev:=d1;have au:=aa;rw[HQ.out]at ev au;have CC:=kV0 l (w.heap.size+1) w.heap.size _ wr hl (λr hr=>by have:w.heap.size=r:=Option.some.inj hr;omega) ev d2 df au;clear jr ev;go_wp2_with fail
   refine CC.mono ?_;rintro e w5 ⟨rfl,⟨vC,g2,je⟩,hj,lf⟩;have abq:w.heap.size+1<wr.heap.size:=An wr _ d0;have cv:=eB0 lf abq
   have HV:Hid (kL w5 (w.heap.size+1) l):=by
    refine⟨by rw[hj 0 (by decide)];exact d0,⟨.slice (some ⟨w.heap.size,0,none⟩) ((l.length+63)/64) ((l.length+63)/64),?_,?_⟩,vC,g2,je.base (Ai _)⟩
    ·rw[hj 1 (by decide),<-HQ.out];exact d1
    ·exact(nQ1 au cv (λr hr=>by have:w.heap.size=r:=Option.some.inj hr;omega)).base (Ai _)
   have bv:aB w w5:=Below.trans hg (Below.mono cv.1 (Nat.le_succ _));clear hj cv au aa je g2;go_wp2_with fail
   refine bodyPost_ret (v:=.tuple #[.pointer (some ⟨w.heap.size+1,0,none⟩),.int .i64 0]) (by simp[results,Tryz.results119,go_sem]) rfl ⟨rfl,HV.out,bv⟩
theorem gM1 {l:List Bool} {k:Nat} (h:k<(l.length+511)/512):(uJ l)[k]?=some (eC l (512*k)):=by
 unfold uJ;rw[Am,Aj h];rfl
theorem sE (l:List Bool) (vb:Nat) (w:World) (ac:kL w vb l) :
  Calls Tryz.prog 186 #[.pointer (some ⟨vb,0,none⟩)] w λe w'=>e=.returned (.int .i64 l.length)/\w=w':=by
 have c0:=ac.c0;clear ac;go_enter Tryz.func186,Tryz.ntmps186
 go_wp2_with fail
 go_ret;exact⟨rfl,rfl⟩
theorem qK (l:List Bool) (vb:Nat) (b:Bool) (i:Nat) (w:World) (hl:l.length<=1048576) (hi:i<=1048576) (ac:kL w vb l) :
  Calls Tryz.prog 123 #[.pointer (some ⟨vb,0,none⟩),.bool b,.int .i64 i] w λe w'=>e=.returned (.int .i64 (jU l b (min i l.length)))/\w=w':=by
 obtain⟨vW,h1,h2⟩:=ac.c1;obtain⟨aW,cW,rfl,_,_,gl⟩:=h2.at_ (enc:=kI) (λ_=>rfl);have ru:=gI l;rw[ru]at h1;obtain⟨vC,h3,h4⟩:=ac.c2;have CL:=Aa (sE l vb w ac);obtain⟨aC,cC,rfl,_,_,rv⟩:=h4.at_ (enc:=lK) (λ_=>rfl);have ci:(uJ l).length=(l.length+511)/512:=by simp[uJ]
 rw[ci]at h3;have c0:=ac.c0;obtain⟨m,hm⟩:=exq (min i l.length);rw[<-hm];have hml:m<=l.length:=by omega
 by_cases hm0:m=0
 ·have hv:jU l b m=0:=by subst hm0;cases b<;>rfl
  have e1:min (i:Int) l.length=0:=by omega
  have e2:max (0:Int) 0=0:=rfl;rw[hv];clear ac h1 h2 h3 h4 rv gl hv ru;go_enter Tryz.func123,Tryz.ntmps123
  go_wp2_with fail
  refine CL.out.mono ?_;rintro e w2 ⟨rfl,rfl⟩;go_wp2_with fail
  go_ret;exact⟨rfl,rfl⟩
 ·obtain⟨b1,o1,rfl,hcC⟩:=at1 (f:=λn:Nat=>Value.int .i64 n) rv (aK (k:=0) (by rw[ci];omega))
  obtain⟨bW,oW,rfl,yu⟩:=at1 (f:=λn:Nat=>Value.int .u64 n) gl (aK (k:=0) (by rw[ru];omega));have bj:∀k,k<(l.length+63)/64->w.cell? ⟨bW,oW+k,none⟩=some (.int .u64 (nH l k)):=λk hk=>yu k _ (pR hk);have HC:=Aa bj;obtain⟨L,hL⟩:=exq ((m-1)/64);have hLq:L<(l.length+63)/64:=by omega
  have gn:=hcC (L/8) _ (gM1 (l:=l) (k:=L/8) (by omega));have eL:((m:Int)-1).tdiv 64=L:=by rw[Ad (by omega)];omega
  have eL8:(L:Int).tdiv 8=(L/8:Nat):=by rw[Ad (by omega)];omega
  have eM:((m:Int)-1).tmod 64=((m-1)%64:Nat):=by rw[Al (by omega)];omega
  have e1:min (i:Int) l.length=m:=by omega
  have e2:max (0:Int) m=m:=by omega
  obtain⟨R0,vm⟩:=exq (eC l (512*(L/8)));rw[<-vm]at gn;have ahs:R0<=512*(L/8):=by rw[vm];exact oB _ _
  have HR0:Hid (R0=eC l (64*(8*(L/8)))):=by show _=_;rw[vm];congr 1;omega
  obtain⟨q,hq⟩:=exq ((l.length+63)/64);obtain⟨q5,hq5⟩:=exq ((l.length+511)/512);have hL5:L/8<q5:=by omega
  have hLm:L<=16384:=by omega
  rw[<-hq]at h1 hLq HC;rw[<-hq5]at h3;obtain⟨L8,hL8⟩:=exq (L/8);have aht:8*L8<=L:=by omega
  rw[<-hL8]at gn eL8 HR0 hL5 ahs;have HL:=Aa hL;have HL8:=Aa hL8;clear ac h2 h4 rv hcC bj yu gl ru hq hq5 vm ci hL hL8;have em:min i l.length=m:=hm.symm;clear hm;have fL:((m:Int)-1)/64=L:=by have:=HL.out;omega
  have gL:(m-1)/64=L:=HL.out.symm;have fL8:(L:Int)/8=L8:=by have:=HL8.out;omega
  have gL8:L/8=L8:=HL8.out.symm;have wL8:IntKind.i64.wrap ((L8:Int)*8)=(8*L8:Nat):=by simp[Ae,Af,Ab];omega
  go_enter Tryz.func123,Tryz.ntmps123
  go_wp2_with fail
  refine CL.out.mono ?_;rintro e w2 ⟨rfl,rfl⟩;go_wp2_with fail
  have hmz:((m:Int)==0)=false:=by simp;omega
  rw[hmz];clear hmz;go_loopw [8,9] (λn k wr=>∃(K N:Nat),K<=L/\k=.int .i64 K/\n=.int .i64 N/\Hid (N=eC l (64*K))/\N<=64*K/\Hid (wr=w)) (λ_ k _=>L-(intOf k).toNat)
  case atStart=>exact⟨8*L8,R0,aht,by go_num,rfl,HR0.out,by omega,rfl⟩
  case round =>
   obtain⟨K,N,hK,rfl,rfl,hN,hNb,hw⟩:=hrel;obtain rfl:=hw.out;have hKq:K<q:=by omega
   have gn:=HC.out K hKq;obtain⟨x,hx⟩:=exq (nH l K);have ji:x<18446744073709551616:=by rw[hx];exact pM l K
   rw[<-hx]at gn;by_cases ae:K<L
   ·obtain⟨S,hS⟩:=exq (zG 2 64 x)
    have HN2:Hid (N+S=eC l (64*(K+1))):=by show _=_;rw[dN0,<-hN.out,hS,hx]
    have hNS:N+S<=64*(K+1):=by rw[HN2.out];exact oB _ _
    have CO:=λW=>gQ0 x W ji;rw[<-hS]at CO;have cn:(K:Int)<L:=by omega
    clear hx hS;go_wp2_with fail
    refine(CO _).mono ?_;rintro e w6 ⟨rfl,rfl⟩;go_wp2_with fail
    go_roundw
    case rel=>exact⟨K+1,N+S,ae,by go_num,by go_num,HN2.out,hNS,trivial⟩
    case measure=>simp[intOf];omega
   ·have cn:¬(K:Int)<L:=by omega
    obtain rfl:K=L:=by omega
    obtain⟨s,hs⟩:=exq ((m-1)%64);have ahu:s<64:=by omega
    have eS:((m:Int)-1)%64=s:=by omega
    rw[<-hs]at eM;obtain⟨y,hy⟩:=exq ((x<<<(63-s))%18446744073709551616);have j6:y<18446744073709551616:=by rw[hy];exact Nat.mod_lt _ (by decide)
    obtain⟨S,hS⟩:=exq (zG 2 64 y);have HN2:Hid (N+S=eC l m):=by show _=_;rw[hN.out,hS,hy,hx,yX0 l K s ahu];congr 1;have:=HL.out;omega
    have hNS:N+S<=m:=by rw[HN2.out];exact oB _ _
    have CO:=λW=>gQ0 y W j6;rw[<-hS]at CO
    have HY:Hid (IntKind.u64.wrap ((x:Int)*2^(63-s))=y):=by
     show _=_
     rw[hy,Nat.shiftLeft_eq,show (x:Int)*2^(63-s)=((x*2^(63-s):Nat):Int) by push_cast;rfl]
     generalize x*2^(63-s)=N;simp[Ae,Af,Ab]
    have hsm:(m-1)%64=s:=hs.symm;clear hx hS hy hs;go_wp2_with fail
    rw[HY.out];refine(CO _).mono ?_;rintro e w6 ⟨rfl,rfl⟩;have hnp:min (m:Int) (N+S)=N+S:=by omega
    have eo:jU l true m=N+S:=HN2.out.symm;have cy:jU l false m=m-(N+S):=by rw[HN2.out];rfl
    cases b
    ·go_wp2_with fail
     go_ret;refine⟨?_,rfl⟩;rw[cy];congr 2
     rw[Int.ofNat_sub hNS];push_cast
     rfl
    ·go_wp2_with fail
     go_ret;exact⟨by rw[eo];congr 2,rfl⟩
theorem gS1 (l:List Bool) (vb b1 b2 b3:Nat) (b:Bool) (k i:Nat) (w:World) (hl:l.length<=1048576) (hi:i<l.length) (ac:kL w vb l)
  (c1:w.cell? ⟨b1,0,none⟩=some (.pointer (some ⟨vb,0,none⟩))) (c2:w.cell? ⟨b2,0,none⟩=some (.bool b)) (c3:w.cell? ⟨b3,0,none⟩=some (.int .i64 k)) :
  Calls Tryz.prog 189 #[.int .i64 i,.pointer (some ⟨b1,0,none⟩),.pointer (some ⟨b2,0,none⟩),.pointer (some ⟨b3,0,none⟩)] w λe w'=>e=.returned (.bool (decide (k<jU l b (i+1))))/\w'=w.drew:=by
 obtain⟨R,hR⟩:=exq (jU l b (i+1))
 have CR:Hid (∀u,aB w u->Calls Tryz.prog 123 #[.pointer (some ⟨vb,0,none⟩),.bool b,.int .i64 ((i:Int)+1)] u λe w'=>e=.returned (.int .i64 R)/\u=w'):=by
  intro u hg;have h:=qK l vb b (i+1) u hl (by omega) (ac.grows hg);rw[Nat.min_eq_left (by omega:i+1<=l.length),<-hR]at h;exact h
 rw[<-hR];have z1:∀x:Ext aB w.drew,x.u.cell? ⟨b1,0,none⟩=some (.pointer (some ⟨vb,0,none⟩)):=aF ((aB.drew w).cell c1);have z2:∀x:Ext aB w.drew,x.u.cell? ⟨b2,0,none⟩=some (.bool b):=aF ((aB.drew w).cell c2);have z3:∀x:Ext aB w.drew,x.u.cell? ⟨b3,0,none⟩=some (.int .i64 k):=aF ((aB.drew w).cell c3);have ae2:decide ((k:Int)<R)=decide (k<R):=by simp
 have wi:IntKind.i64.wrap ((i:Int)+1)=(i:Int)+1:=by simp[Ae,Af,Ab];omega
 clear ac hR;go_enter Tryz.func189,Tryz.ntmps189
 go_wp2_with fail
 refine bK (bB 8 []) (by kernel_rfl) (λd _ _ _ _ h=>by cases d<;>exact h) ?_
 iterate 4 (refine aH rfl (λK hK=>?_);go_simp;refine hK _ ?_;clear hK K)
 refine aH rfl (λK hK=>?_);go_simp;apply Exists.intro
 refine⟨λx=>?_,hK _ ?_⟩
 ·go_at_call 123;exact dU (CR.out _ ((aB.drew w).tr x.h))
 clear hK K;iterate 3 (refine aH rfl (λK hK=>?_);go_simp;refine hK _ ?_;clear hK K)
 refine cB ?_;go_wp2_with fail
 go_ret;exact⟨by simp,rfl⟩
end
end Go.Proofs.YthgklnohcmaopaaGreatDoor
