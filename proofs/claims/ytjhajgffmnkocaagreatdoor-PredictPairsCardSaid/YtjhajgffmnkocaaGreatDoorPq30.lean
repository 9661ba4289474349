/- The texts Bidx BvC BvN Rnk Sel zZ0 OpenAsk, one behind the other. -/
import Derived.Test.YtjhajgffmnkocaaGreatDoorPq3
import Derived.Test.YtjhajgffmnkocaaGreatDoorPq25
import Derived.Test.YtjhajgffmnkocaaGreatDoorPq29
import Derived.Test.YtjhajgffmnkocaaGreatDoorPq20
import Derived.Test.YtjhajgffmnkocaaGreatDoorPq6
import Derived.Test.YtjhajgffmnkocaaGreatDoorPq4
import Derived.Test.YtjhajgffmnkocaaGreatDoorPq23
import Derived.Test.YtjhajgffmnkocaaGreatDoorPq28
open Go.Lib renaming hid → Aa,size_eq → Aw
open Go.IntKind renaming signed → Ab,wrap → Ae,bits → Af
open List renaming getElem?_eq_none → Ac,getElem?_eq_getElem → Ah,getElem?_range → Aj,getD_eq_getElem?_getD → Ak,getElem?_map → Am,range_succ → Ao,length → Ar,range → As,filter_append → At,ext_getElem? → Au
open Int renaming tdiv_eq_ediv_of_nonneg → Ad,tmod_eq_emod_of_nonneg → Al
open Go.World renaming cell?_setCell_other → Ag,block_lt_of_cell? → An,frozen?_setCell → Ap
open Nat renaming zero_le → Ai,le_refl → Aq
open Or renaming elim → Av
open Prod renaming fst → Ax
set_option maxHeartbeats 8000000
namespace Go.Proofs.YtjhajgffmnkocaaGreatDoor
set_option maxRecDepth 100000
section
open Go Go.RowKit Go.Shelf
attribute [local go_sem] aO aM
def bU0 (nw:En->En->Bool) (l:List En) (i:Nat):Bool:=i==0||nw (l.getD i enZero) (l.getD (i-1) enZero)
def gO (nw:En->En->Bool) (l:List En) (k:Nat):List Nat:=(As k).filter (bU0 nw l)
theorem pF0 {nw:En->En->Bool} {l:List En} {k:Nat} (h:bU0 nw l k=true):gO nw l (k+1)=gO nw l k++[k]:=by
 unfold gO;rw[Ao,At];simp[h]
theorem jM1 {nw:En->En->Bool} {l:List En} {k:Nat} (h:bU0 nw l k=false):gO nw l (k+1)=gO nw l k:=by
 unfold gO;rw[Ao,At];simp[h]
theorem aC0 (nw:En->En->Bool) (l:List En) (k:Nat):(gO nw l k).length<=k:=by
 unfold gO
 have:=List.length_filter_le (bU0 nw l) (As k)
 rwa [List.length_range]at this
theorem yX (nw:En->En->Bool) (g:Nat) (eg:∀args w,(callFunc g args).run Tryz.prog w=.ok (.enter g args) w) (HG:∀(x y:En) w,Calls Tryz.prog g #[x.agg,y.agg] w λe w'=>e=.returned (.bool (nw x y))/\aB w w')
  (l:List En) (a:Option Addr) (c:Nat) (w:World) (hl:l.length<=1048576) (ac:aG w a 5 (l.map bF)) :
  Calls Tryz.prog 101 #[.slice a l.length c,.func (.func g) #[] #[]] w λe w'=>aB w w'/\∃v,e=.returned v/\aU w' w.heap.size 3 1 jS v (gO nw l l.length):=by
 have HAT:=Aa ac;have HGG:=λx y w=>Aa (HG x y w);clear ac HG;go_enter Tryz.func101,Tryz.ntmps101
 go_wp2_with fail
 go_loopw [5,10] (λv i wr=>∃(k:Nat),k<=l.length/\i=.int .i64 k/\aU wr w.heap.size 3 1 jS v (gO nw l k)/\aB w wr) (λ_ i _=>l.length-(intOf i).toNat)
 case atStart=>exact⟨0,Ai _,rfl,aU.nil _ _ _ _ _,aB.refl _⟩
 case round =>
  obtain⟨k,hk,rfl,aa,hg⟩:=hrel;by_cases af:k<l.length
  ·obtain⟨⟨xr,xs,xl,xt,xc⟩,hx⟩:∃x,l[k]?=some x:=⟨_,Ah af⟩
   obtain⟨ba,oa,rfl,bz⟩:=(HAT.out.grows hg).get (aJ af);have c0:wr.cell? ⟨ba,oa+k*5,none⟩=some (.string xr):=bz k _ hx 0 _ rfl;have c1:wr.cell? ⟨ba,oa+k*5+1,none⟩=some (.string xs):=bz k _ hx 1 _ rfl;have c2:wr.cell? ⟨ba,oa+k*5+2,none⟩=some (.int .i64 xl):=bz k _ hx 2 _ rfl;have c3:wr.cell? ⟨ba,oa+k*5+3,none⟩=some (.int .i64 xt):=bz k _ hx 3 _ rfl;have c4:wr.cell? ⟨ba,oa+k*5+4,none⟩=some (.int .i64 xc):=bz k _ hx 4 _ rfl;have vn:=aC0 nw l k;obtain⟨W1,bh⟩:=exq (wr.alloc (.cells #[.string xr,.string xs,.int .i64 xl,.int .i64 xt,.int .i64 xc] 62));have ai:aB wr W1:=by rw[bh];exact aB.alloc _ _
   have er:=λj u h=>aT wr #[.string xr,.string xs,.int .i64 xl,.int .i64 xt,.int .i64 xc] 62 (0,0) j u h;rw[<-bh]at er;have z0:∀x:Ext aB W1.drew,x.u.cell? ⟨wr.heap.size,0,none⟩=some (.string xr):=aF ((aB.drew W1).cell (er 0 _ rfl));have z1:∀x:Ext aB W1.drew,x.u.cell? ⟨wr.heap.size,1,none⟩=some (.string xs):=aF ((aB.drew W1).cell (er 1 _ rfl));have z2:∀x:Ext aB W1.drew,x.u.cell? ⟨wr.heap.size,2,none⟩=some (.int .i64 xl):=aF ((aB.drew W1).cell (er 2 _ rfl));have z3:∀x:Ext aB W1.drew,x.u.cell? ⟨wr.heap.size,3,none⟩=some (.int .i64 xt):=aF ((aB.drew W1).cell (er 3 _ rfl));have z4:∀x:Ext aB W1.drew,x.u.cell? ⟨wr.heap.size,4,none⟩=some (.int .i64 xc):=aF ((aB.drew W1).cell (er 4 _ rfl));clear er;by_cases h0:k=0
   ·have hK:Hid (bU0 nw l k=true):=by show _=_;rw[h0];rfl
    have vo:((k:Int)==0)=true:=by rw[h0];rfl
    have H0:=Aa h0;clear bz hx h0;go_wp2_with fail
    rw[<-bh];clear bh;refine bH (bE 12 []) (by kernel_rfl) (λd _ _ _ _ h=>by cases d<;>exact h) ?_
    iterate 12 (refine aH rfl (λK hK=>?_);go_simp;refine hK _ ?_;clear hK K)
    clear z0 z1 z2 z3 z4;refine bN ?_;have ay:=aa.grows ai.dr;have da:=aB.trans _ _ _ hg ai.dr;have HI:=Aa (pF0 hK.out);obtain⟨cd,ci⟩:=exq (gO nw l k);rw[<-ci]at ay HI vn;clear ci aa ai hg;go_wp2_with (at_builtin;refine eV nW rfl _ _ rfl w.heap.size _ cd k rfl ay (aB.refl _) _ 1 rfl #[.int .i64 k] rfl rfl (by omega) da.size ?_;intro v5 w5 au _ _ bi)
    have HG5:=bi w da (Aq _);rw[<-HI.out]at au;go_wp2_with fail
    go_roundw
    case rel=>exact⟨k+1,by omega,by go_num,au,HG5⟩
    case measure=>simp[intOf];omega
   ·obtain⟨⟨yr,ys,yl,yt,yc⟩,hy⟩:∃y,l[k-1]?=some y:=⟨_,Ah (by omega)⟩
    obtain⟨m,hm⟩:=exq (k-1);have vo:((k:Int)==0)=false:=by simp;omega
    have wk:IntKind.i64.wrap ((k:Int)-1)=m:=by simp[Ae,Af,Ab];omega
    have hml:m<l.length:=by omega
    have zq:(m:Int)<l.length:=by omega
    rw[<-hm]at hy;have d0:∀x:Ext aB W1.drew,x.u.cell? ⟨ba,oa+m*5,none⟩=some (.string yr):=aF ((aB.drew W1).cell (ai.cell (bz m _ hy 0 _ rfl)));have d1:∀x:Ext aB W1.drew,x.u.cell? ⟨ba,oa+m*5+1,none⟩=some (.string ys):=aF ((aB.drew W1).cell (ai.cell (bz m _ hy 1 _ rfl)));have d2:∀x:Ext aB W1.drew,x.u.cell? ⟨ba,oa+m*5+2,none⟩=some (.int .i64 yl):=aF ((aB.drew W1).cell (ai.cell (bz m _ hy 2 _ rfl)));have d3:∀x:Ext aB W1.drew,x.u.cell? ⟨ba,oa+m*5+3,none⟩=some (.int .i64 yt):=aF ((aB.drew W1).cell (ai.cell (bz m _ hy 3 _ rfl)));have d4:∀x:Ext aB W1.drew,x.u.cell? ⟨ba,oa+m*5+4,none⟩=some (.int .i64 yc):=aF ((aB.drew W1).cell (ai.cell (bz m _ hy 4 _ rfl)));obtain⟨b,hb⟩:=exq (nw ⟨xr,xs,xl,xt,xc⟩ ⟨yr,ys,yl,yt,yc⟩)
    have HB:Hid (bU0 nw l k=b):=by
     show _=_
     unfold bU0;rw[show l.getD k enZero=⟨xr,xs,xl,xt,xc⟩ by rw[Ak,hx];rfl,<-hm,show l.getD m enZero=⟨yr,ys,yl,yt,yc⟩ by rw[Ak,hy];rfl,<-hb,show (k==0)=false by simpa using h0]
     rfl
    have CG:=λW=>Aa (HGG ⟨xr,xs,xl,xt,xc⟩ ⟨yr,ys,yl,yt,yc⟩ W).out;rw[<-hb]at CG;have HM:=Aa hm;have H0:=Aa h0;clear bz hx hy hm hb h0;go_wp2_with fail
    rw[<-bh];clear bh;refine bH (bE 12 [10]) (by kernel_rfl) (λd _ _ _ _ h=>by cases d<;>exact h) ?_
    iterate 10 (refine aH rfl (λK hK=>?_);go_simp;refine hK _ ?_;clear hK K)
    refine bG rfl rfl (λK hK=>?_);go_simp;refine((CG W1.drew).out).mono ?_;rintro e w2 ⟨rfl,ae⟩;refine⟨ae,hK _ _ ?_⟩;clear hK K;iterate 1 (refine aH rfl (λK hK=>?_);go_simp;refine hK _ ?_;clear hK K)
    clear z0 z1 z2 z3 z4 d0 d1 d2 d3 d4;refine bN ?_;have o4:=aB.trans _ _ _ ai.dr ae;have ay:=aa.grows o4;have da:=aB.trans _ _ _ hg o4;obtain⟨cd,ci⟩:=exq (gO nw l k)
    cases b with
    | true =>
     have HI:=Aa (pF0 HB.out);rw[<-ci]at ay HI vn;clear ci aa ai hg CG ae o4;go_wp2_with (at_builtin;refine eV nW rfl _ _ rfl w.heap.size _ cd k rfl ay (aB.refl _) _ 1 rfl #[.int .i64 k] rfl rfl (by omega) da.size ?_;intro v5 w5 au _ _ bi)
     have HG5:=bi w da (Aq _);rw[<-HI.out]at au;go_wp2_with fail
     go_roundw
     case rel=>exact⟨k+1,by omega,by go_num,au,HG5⟩
     case measure=>simp[intOf];omega
    | false =>
     have HI:=Aa (jM1 HB.out);rw[<-ci]at ay HI vn;clear ci aa ai hg CG ae o4;go_wp2_with fail
     rw[<-HI.out]at ay;go_roundw
     case rel=>exact⟨k+1,by omega,by go_num,ay,da⟩
     case measure=>simp[intOf];omega
  ·obtain rfl:k=l.length:=by omega
   go_wp2_with fail
   go_ret;exact⟨hg,_,rfl,aa⟩
end
section
open Go Go.RowKit
attribute [local go_sem] aO aM
theorem kH1 {α:Type} {w w':World} {B base:Nat} {e:TypeId} {k:Nat} {enc:α->List Value} {v:Value} {xs:List α} (h:aU w base e k enc v xs) (hg:EB B w w') (hb:∀q,v.ownBlock=some q->q<B):aU w' base e k enc v xs:=by
 obtain⟨h1,h2⟩:=h;refine⟨h1,?_⟩;rcases h2 with h2|⟨g,cap,ct,hv,hbs,hh,r⟩
 ·exact Or.inl h2
 ·refine Or.inr ⟨g,cap,ct,hv,hbs,?_,r⟩
  rw[Below.block hg.1 g (hb g (by rw[hv];rfl))];exact hh
def jM (l:List Bool) (k:Nat):List Nat:=(As k).map λg=>dT l (512*g)
theorem kD0 (l:List Bool) (k:Nat):jM l (k+1)=jM l k++[dT l (512*k)]:=by
 unfold jM;rw[Ao,List.map_append];rfl
theorem mI0 (l:List Bool) (k:Nat):(jM l k).length=k:=by simp[jM]
theorem pJ {l:List Bool} {k:Nat} (h:k<(l.length+63)/64):(mO l)[k]?=some (mY l k):=by
 unfold mO;rw[Am,Aj h];rfl
theorem fM (l:List Bool):(mO l).length=(l.length+63)/64:=by simp[mO]
theorem lJ0 {w w1 w2:World} {p:Nat} {row:Option Nat} (h:w.grownBy w1 (some p)) (k:w1.grownBy w2 row) (hr:∀q,row=some q->w.heap.size<=q):w.grownBy w2 (some p) :=
 ⟨k.os.trans h.os,k.tape.trans h.tape,k.output.trans h.output,Nat.le_trans h.size k.size,λi hi ak=>(k.block i (Nat.lt_of_lt_of_le hi h.size) (λe=>by have:=hr i e.symm;omega)).trans (h.block i hi ak)⟩
theorem mC0 {w w1:World} {p:Nat} (h:w.grownBy w1 (some p)) (j:Nat) (v:Value):w.grownBy (w1.setCell ⟨p,j,none⟩ v) (some p) :=
 ⟨h.os,h.tape,h.output,by simpa using h.size,λi hi ak=>(Below.heap_setCell _ _ _ i (λe=>ak (by rw[e]))).trans (h.block i hi ak)⟩
theorem cG0 {w w1:World} {p:Nat} (h:w.grownBy w1 (some p)) (hp:p<w.heap.size):EB p w w1 :=
 ⟨Below.grown (row:=some p) (Below.refl _ _) h (Nat.le_of_lt hp) (λk hk=>by cases hk;exact Aq _),h.size⟩
theorem gX0 (l:List Bool) (vb bw:Nat) (vW:Value) (w:World) (hl:l.length<=1048576) (hvw:∀r,vW.ownBlock=some r->r≠vb)
  (c1:w.cell? ⟨vb,1,none⟩=some vW) (c2:w.cell? ⟨vb,2,none⟩=some (.slice none 0 0)) (f2:w.frozen? ⟨vb,2,none⟩=false)
  (aa:aU w bw 154 1 kF vW (mO l)) :
  Calls Tryz.prog 213 #[.pointer (some ⟨vb,0,none⟩)] w λe w'=>e=.returned (.tuple #[])/\(∃vC,w'.cell? ⟨vb,2,none⟩=some vC/\aU w' w.heap.size 3 1 jS vC (jM l ((l.length+511)/512)))/\(∀j,j≠2->w'.cell? ⟨vb,j,none⟩=w.cell? ⟨vb,j,none⟩)/\w.grownBy w' (some vb):=by
 obtain⟨q,hq⟩:=exq ((l.length+63)/64);have ve:q<=16384:=by omega
 have hvl:=An w _ c1;simp only at hvl;obtain⟨aW,cW,rfl,_,_,ic⟩:=aa.at_ (enc:=kF) (λ_=>rfl);have HNE:Hid (∀r:Addr,aW=some r->some r.block≠some vb):=λr hr e=>hvw r.block (by rw[hr];rfl) (Option.some.inj e);have hWl:=fM l;rw[<-hq]at hWl;rw[hWl]at c1;have HWG:Hid (∀k,k<q->(mO l)[k]?=some (mY l k)):=λk hk=>pJ (by omega);have HATW:=Aa ic;have HQ:Hid ((l.length+511)/512=(q+7)/8):=by show _=_;omega
 clear aa hq hWl ic hvw;go_enter Tryz.func213,Tryz.ntmps213
 go_wp2_with fail
 go_loopw [2,10] (λn i wr=>∃(k N:Nat) (vC:Value),k<=q/\i=.int .i64 k/\n=.int .i64 N/\Hid (N=dT l (64*k))/\N<=64*k/\wr.cell? ⟨vb,1,none⟩=some (.slice aW q cW)/\wr.cell? ⟨vb,2,none⟩=some vC/\wr.frozen? ⟨vb,2,none⟩=false/\aU wr w.heap.size 3 1 jS vC (jM l ((k+7)/8))/\Hid (∀j,j≠2->wr.cell? ⟨vb,j,none⟩=w.cell? ⟨vb,j,none⟩)/\Hid (w.grownBy wr (some vb))) (λ_ i _=>q-(intOf i).toNat)
 case atStart=>exact⟨0,0,_,Ai _,rfl,rfl,rfl,Ai _,c1,c2,f2,aU.nil _ _ _ _ _,λ_ _=>rfl,lH _ _⟩
 case round =>
  obtain⟨k,N,vC,hk,rfl,rfl,hN,hNb,d1,d2,df,aa,hj,de⟩:=hrel;have qi:w.heap.size<=wr.heap.size:=de.out.size;by_cases af:k<q
  ·obtain⟨wb,wo,rfl,vp⟩:=at1 (f:=λn:Nat=>Value.int .u64 n) (eP0 HATW.out de.out HNE.out) (aJ (k:=k) (by rw[fM];have:=(List.getElem?_eq_some_iff.1 (HWG.out k af)).1;rw[fM]at this;exact this))
   have jc:=vp k _ (HWG.out k af);clear vp;obtain⟨x,hx⟩:=exq (mY l k);have ju:x<18446744073709551616:=by rw[hx];exact oR l k
   rw[<-hx]at jc;obtain⟨S,hS⟩:=exq (zT 2 64 x);have HN2:Hid (N+S=dT l (64*(k+1))):=by show _=_;rw[dP0,<-hN.out,hS,hx]
   have hNS:N+S<=64*(k+1):=by rw[HN2.out];exact nM _ _
   have CO:=λW=>gE0 x W ju;rw[<-hS]at CO;have cz:(k:Int)<q:=by omega
   have cr:=mI0 l ((k+7)/8);clear hx hS;by_cases h8:k%8=0
   ·have h8i:(k:Int)%8=0:=by omega
    have hC2:jM l ((k+1+7)/8)=jM l ((k+7)/8)++[N]:=by
     rw[show (k+1+7)/8=(k+7)/8+1 by omega,kD0,hN.out,show 512*((k+7)/8)=64*k by omega]
    have HC2:=Aa hC2;clear hC2;obtain⟨aC,cC,rfl,_,_,_⟩:=aa.at_ (enc:=jS) (λ_=>rfl);rw[cr]at d2 aa
    have y9:some vb≠(Value.slice aC ((k+7)/8) cC).ownBlock:=λh=>by
     have:=aX aa _ h.symm
     omega
    go_wp2_with (at_builtin;refine eV nW rfl _ _ rfl w.heap.size (.slice aC ((k+7)/8) cC) (jM l ((k+7)/8)) N rfl aa (aB.refl _) _ 1 rfl #[.int .i64 N] rfl rfl (by rw[cr];omega) qi ?_;intro v' w5 au pr y8 bi;obtain⟨a5,c5,rfl,_,_,_⟩:=au.at_ (enc:=jS) (λ_=>rfl);rw[show (jM l ((k+7)/8)++[N]).length=(k+7)/8+1 by rw[List.length_append,cr];rfl]at au ⊢;have e1:=pr.cell d1 y9;have e2:=pr.cell d2 y9;have ef:w5.frozen? ⟨vb,2,none⟩=false:=(World.frozen?_of_block (a:=⟨vb,2,none⟩) (pr.block vb (by omega) y9)).trans df)
    refine(CO _).mono ?_;rintro e w6 ⟨rfl,rfl⟩;go_wp2_with fail
    have hjj:∀j,j≠2->(w5.setCell ⟨vb,2,none⟩ (.slice a5 ((k+7)/8+1) c5)).cell? ⟨vb,j,none⟩=w.cell? ⟨vb,j,none⟩:=λj nr=>by
     rw[Ag _ _ _ _ (λh=>nr (congrArg Addr.off h).symm),<-hj.out j nr];exact World.cell?_of_block (a:=⟨vb,j,none⟩) (pr.block vb (by omega) y9)
    have ag7:Hid (w.grownBy (w5.setCell ⟨vb,2,none⟩ (.slice a5 ((k+7)/8+1) c5)) (some vb)):=mC0 (lJ0 de.out pr (λr hr=>aX aa r hr)) 2 _;go_roundw
    case rel=>exact⟨k+1,N+S,_,af,by go_num,by go_num,HN2.out,hNS,(Ag _ _ _ _ (λh=>by cases h)).trans e1,World.cell?_setCell_same _ _ _ e2,(Ap _ _ _ _).trans ef,by rw[HC2.out];exact mM au (p:=⟨vb,2,none⟩) hvl _,hjj,ag7⟩
    case measure=>simp[intOf];omega
   ·have h8i:¬(k:Int)%8=0:=by omega
    have hC2:(k+1+7)/8=(k+7)/8:=by omega
    have HC2:=Aa hC2;clear hC2 cr;go_wp2_with fail
    refine(CO _).mono ?_;rintro e w6 ⟨rfl,rfl⟩;go_wp2_with fail
    go_roundw
    case rel=>exact⟨k+1,N+S,vC,af,by go_num,by go_num,HN2.out,hNS,d1,d2,df,by rw[HC2.out];exact aa,hj.out,de⟩
    case measure=>simp[intOf];omega
  ·have cz:¬(k:Int)<q:=by omega
   have jt:k=q:=by omega
   have HO:Hid (aU wr w.heap.size 3 1 jS vC (jM l ((l.length+511)/512))):=by show aU _ _ _ _ _ _ _;rw[HQ.out,<-jt];exact aa
   clear jt;go_wp2_with fail
   refine bodyPost_end (v:=.tuple #[]) (by simp[results,Tryz.results213,go_sem]) rfl ⟨rfl,⟨vC,d2,HO.out⟩,hj.out,de.out⟩
def mK (l:List Bool) (q:Nat):List Nat:=(As q).map (mY l)
theorem mR (l:List Bool) (q:Nat):(mK l q).length=q:=by simp[mK]
theorem qG {l:List Bool} {q k:Nat} (h:k<q):(mK l q)[k]?=some (mY l k):=by
 unfold mK;rw[Am,Aj h];rfl
theorem rJ0 (q:Nat):mK [] q=List.replicate q 0:=by
 apply Au
 intro k;by_cases hk:k<q
 ·rw[qG hk,List.getElem?_replicate,if_pos hk,eH1]
 ·rw[Ac (by rw[mR];omega),Ac (by simp;omega)]
theorem jQ0 (l:List Bool) (q:Nat):mK (l++[false]) q=mK l q:=by
 unfold mK;apply List.map_congr_left
 intro k _;exact tO0 l k
theorem nO0 {l:List Bool} {q Q S:Nat} (hS:S<64) (hQ:l.length=64*Q+S):mK (l++[true]) q=(mK l q).set Q (mY l Q|||(1<<<S)%18446744073709551616):=by
 apply Au
 intro k;by_cases hk:k<q
 ·rw[qG hk]
  by_cases vf:k=Q
  ·subst vf
   rw[List.getElem?_set_self (by rw[mR];exact hk),yV0 hQ]
  ·rw[List.getElem?_set_ne (Ne.symm vf),qG hk,zR0 hS hQ vf]
 ·rw[Ac (by rw[mR];omega),Ac (by rw[List.length_set,mR];omega)]
structure kE (w:World) (vb:Nat) (l:List Bool):Prop where
 c0:w.cell? ⟨vb,0,none⟩=some (.int .i64 l.length)
 c1:∃vW,w.cell? ⟨vb,1,none⟩=some vW/\aU w 0 154 1 kF vW (mO l)
 c2:∃vC,w.cell? ⟨vb,2,none⟩=some vC/\aU w 0 3 1 jS vC (tV l)
theorem kE.grows {w w':World} {vb:Nat} {l:List Bool} (h:kE w vb l) (hg:aB w w'):kE w' vb l:=by
 obtain⟨wb,h1,h2⟩:=h.c1;obtain⟨vC,h3,h4⟩:=h.c2;exact⟨hg.cell h.c0,⟨wb,hg.cell h1,h2.grows hg⟩,vC,hg.cell h3,h4.grows hg⟩
theorem nP1 {x S:Nat} (hx:x<18446744073709551616):bits .or .u64 (x:Int) (IntKind.u64.wrap ((2:Int)^S))=((x|||(1<<<S)%18446744073709551616:Nat):Int):=by
 have h:=kU0 (v:=1) (S:=S) hx;rw[show ((1:Nat):Int)*2^S=(2:Int)^S by simp]at h
 exact h
theorem qC0 (l:List Bool) (a:Option Addr) (c:Nat) (w:World) (hl:l.length<=1048576) (ac:aG w a 1 (l.map qQ)) :
  Calls Tryz.prog 166 #[.slice a l.length c] w λe w'=>e=.returned (.tuple #[.pointer (some ⟨w.heap.size+1,0,none⟩),.int .i64 0])/\kE w' (w.heap.size+1) l/\aB w w':=by
 have HAT:=Aa ac;obtain⟨q,hq⟩:=exq ((l.length+63)/64);have ve:q<=16384:=by omega
 have HQ:=Aa hq;have hlw:¬(1048576:Int)<l.length:=by omega
 have qz:((l.length:Int)+63)/64=q:=by omega
 have yz:((l.length:Int)+63).tdiv 64=q:=by rw[Ad (by omega)];exact qz
 have wq:IntKind.i64.wrap (q:Int)=q:=by simp[Ae,Af,Ab];omega
 have kh:=λ(Y:World)=>nE1 q Y (by omega);clear ac hq;go_enter Tryz.func166,Tryz.ntmps166
 go_wp2_with fail
 have be:=kW0 (w:=w) (n:=q) (by omega);rw[Nat.mul_one]at be;obtain⟨W1,bh⟩:=exq (w.alloc (.cells (madeCells #[.int .u64 0] q) 154));have fe:W1.heap.size=w.heap.size+1:=by rw[bh];simp
 have ik:aB w W1:=by rw[bh];exact aB.alloc _ _
 rw[<-bh]at be ⊢;obtain⟨W2,iv⟩:=exq (W1.alloc (.cells #[.int .i64 l.length,.slice (some ⟨w.heap.size,0,none⟩) q q,.slice none 0 0] 266));have er:=λj u h=>aT W1 #[.int .i64 l.length,.slice (some ⟨w.heap.size,0,none⟩) q q,.slice none 0 0] 266 (0,0) j u h;rw[<-iv,fe]at er;have b0:=er 0 _ rfl;have b1:=er 1 _ rfl;have b2:=er 2 _ rfl;have bf:W2.frozen? ⟨w.heap.size+1,2,none⟩=false:=by rw[iv,<-fe];exact eF0 _ _ _ _
 have jv:aB W1 W2:=by rw[iv];exact aB.alloc _ _
 have ah:=be.grows jv;have ae:=ik.tr jv;rw[<-rJ0 q]at ah;rw[<-iv];clear bh iv er be fe ik jv kh qz yz wq;go_loopw [21] (λi wr=>∃k:Nat,k<=l.length/\i=.int .i64 k/\wr.cell? ⟨w.heap.size+1,0,none⟩=some (.int .i64 l.length)/\wr.cell? ⟨w.heap.size+1,1,none⟩=some (.slice (some ⟨w.heap.size,0,none⟩) q q)/\wr.cell? ⟨w.heap.size+1,2,none⟩=some (.slice none 0 0)/\wr.frozen? ⟨w.heap.size+1,2,none⟩=false/\aU wr w.heap.size 154 1 kF (.slice (some ⟨w.heap.size,0,none⟩) q q) (mK (l.take k) q)/\aB w wr) (λi _=>l.length-(intOf i).toNat)
 case atStart=>exact⟨0,Ai _,rfl,b0,b1,b2,bf,ah,ae⟩
 case round =>
  obtain⟨k,hk,rfl,d0,d1,d2,df,aa,hg⟩:=hrel;by_cases af:k<l.length
  ·obtain⟨x,hx⟩:∃x,l[k]?=some x:=⟨_,Ah af⟩
   obtain⟨b,o,rfl,hc⟩:=at1 HAT.out (aJ af);have jc:=hg.cell (hc k x hx);have cz:(k:Int)<l.length:=by omega
   cases x
   ·have HO:Hid (aU wr w.heap.size 154 1 kF (.slice (some ⟨w.heap.size,0,none⟩) q q) (mK (l.take (k+1)) q)):=by show aU _ _ _ _ _ _ _;rw[bJ hx,jQ0];exact aa
    clear hc hx;go_wp2_with fail
    go_roundw
    case rel=>exact⟨k+1,af,by go_num,d0,d1,d2,df,HO.out,hg⟩
    case measure=>simp[intOf];omega
   ·obtain⟨Q,hQ⟩:=exq (k/64)
    obtain⟨S,hS⟩:=exq (k%64);have m5:S<64:=by omega
    have s5:Q<q:=by have:=HQ.out;omega
    have eQ:(k:Int)/64=Q:=by omega
    have eS:(k:Int)%64=S:=by omega
    have hQi:(Q:Int)<q:=by omega
    have eT:(k:Int).tmod 64=S:=by rw[Al (by omega)];exact eS
    have wQ:IntKind.i64.wrap (Q:Int)=Q:=by simp[Ae,Af,Ab];omega
    have wS:IntKind.i64.wrap (S:Int)=S:=by simp[Ae,Af,Ab];omega
    obtain⟨y,hy⟩:=exq (mY (l.take k) Q);have ke:y<18446744073709551616:=by rw[hy];exact oR _ _
    have aam:=aa.grows (aB.drew wr);have e1:wr.cell? ⟨w.heap.size,Q,none⟩=some (.int .u64 y):=cM (f:=λn:Nat=>Value.int .u64 n) aa (by rw[qG s5,hy]);obtain⟨f1,_,ay⟩:=eO (f:=λn:Nat=>Value.int .u64 n) aam (k:=Q) (by rw[mR];exact s5) (y|||(1<<<S)%18446744073709551616)
    have z9:=nP1 (S:=S) ke;obtain⟨y1,lj⟩:=exq (y|||(1<<<S)%18446744073709551616)
    rw[<-lj]at z9 ay
    have HO:Hid (aU (wr.drew.setCell ⟨w.heap.size,Q,none⟩ (.int .u64 y1)) w.heap.size 154 1 kF (.slice (some ⟨w.heap.size,0,none⟩) q q) (mK (l.take (k+1)) q)):=by
     show aU _ _ _ _ _ _ _
     rw[bJ hx,nO0 (Q:=Q) m5 (by rw[List.length_take];omega),<-hy,<-lj];exact ay
    have z1:∀x:Ext aB wr.drew,x.u.cell? ⟨w.heap.size+1,1,none⟩=some (.slice (some ⟨w.heap.size,0,none⟩) q q):=aF ((aB.drew wr).cell d1);have z2:∀x:Ext aB wr.drew,x.u.cell? ⟨w.heap.size,Q,none⟩=some (.int .u64 y):=aF ((aB.drew wr).cell e1);clear hc hx hQ hS hy lj ay aam;go_wp2_with fail
    refine oV 12 (bE 12 []) (by kernel_rfl) (λd _ _ _ _ h=>by cases d<;>exact h) ?_
    iterate 12 (refine aH rfl (λK hK=>?_);go_simp;refine hK _ ?_;clear hK K)
    clear z1 z2;refine bN ?_;simp only[List.drop_succ_cons,List.drop_zero];go_wp2_with fail
    have h0:∀j,(wr.drew.setCell ⟨w.heap.size,Q,none⟩ (.int .u64 y1)).cell? ⟨w.heap.size+1,j,none⟩=wr.cell? ⟨w.heap.size+1,j,none⟩:=λj=>Ag _ _ _ _ (λh=>by have:=congrArg Addr.block h;simp at this);go_roundw
    case rel=>exact⟨k+1,af,by go_num,(h0 0).trans d0,(h0 1).trans d1,(h0 2).trans d2,(Ap _ _ _ _).trans df,HO.out,(hg.dr).set (Aq _) _⟩
    case measure=>simp[intOf];omega
  ·have cz:¬(k:Int)<l.length:=by omega
   have jt:k=l.length:=by omega
   rw[jt,List.take_length]at aa;have fc:=d1;have av:=aa;rw[HQ.out]at fc av;have CC:=gX0 l (w.heap.size+1) w.heap.size _ wr hl (λr hr=>by have:w.heap.size=r:=Option.some.inj hr;omega) fc d2 df av;clear jt fc;go_wp2_with fail
   refine CC.mono ?_;rintro e w5 ⟨rfl,⟨vC,g2,jp⟩,hj,mq⟩;have abl:w.heap.size+1<wr.heap.size:=An wr _ d0;have de:=cG0 mq abl
   have HV:Hid (kE w5 (w.heap.size+1) l):=by
    refine⟨by rw[hj 0 (by decide)];exact d0,⟨.slice (some ⟨w.heap.size,0,none⟩) ((l.length+63)/64) ((l.length+63)/64),?_,?_⟩,vC,g2,jp.base (Ai _)⟩
    ·rw[hj 1 (by decide),<-HQ.out];exact d1
    ·exact(kH1 av de (λr hr=>by have:w.heap.size=r:=Option.some.inj hr;omega)).base (Ai _)
   have bi:aB w w5:=Below.trans hg (Below.mono de.1 (Nat.le_succ _));clear hj de av aa jp g2;go_wp2_with fail
   refine bodyPost_ret (v:=.tuple #[.pointer (some ⟨w.heap.size+1,0,none⟩),.int .i64 0]) (by simp[results,Tryz.results166,go_sem]) rfl ⟨rfl,HV.out,bi⟩
theorem fG1 {l:List Bool} {k:Nat} (h:k<(l.length+511)/512):(tV l)[k]?=some (dT l (512*k)):=by
 unfold tV;rw[Am,Aj h];rfl
theorem sS (l:List Bool) (vb:Nat) (w:World) (ac:kE w vb l) :
  Calls Tryz.prog 200 #[.pointer (some ⟨vb,0,none⟩)] w λe w'=>e=.returned (.int .i64 l.length)/\w=w':=by
 have c0:=ac.c0;clear ac;go_enter Tryz.func200,Tryz.ntmps200
 go_wp2_with fail
 go_ret;exact⟨rfl,rfl⟩
theorem pT (l:List Bool) (vb:Nat) (b:Bool) (i:Nat) (w:World) (hl:l.length<=1048576) (hi:i<=1048576) (ac:kE w vb l) :
  Calls Tryz.prog 170 #[.pointer (some ⟨vb,0,none⟩),.bool b,.int .i64 i] w λe w'=>e=.returned (.int .i64 (jK l b (min i l.length)))/\w=w':=by
 obtain⟨vW,h1,h2⟩:=ac.c1;obtain⟨aW,cW,rfl,_,_,ic⟩:=h2.at_ (enc:=kF) (λ_=>rfl);have qj:=fM l;rw[qj]at h1;obtain⟨vC,h3,h4⟩:=ac.c2;have CL:=Aa (sS l vb w ac);obtain⟨aC,cC,rfl,_,_,qk⟩:=h4.at_ (enc:=jS) (λ_=>rfl);have cr:(tV l).length=(l.length+511)/512:=by simp[tV]
 rw[cr]at h3;have c0:=ac.c0;obtain⟨m,hm⟩:=exq (min i l.length);rw[<-hm];have hml:m<=l.length:=by omega
 by_cases hm0:m=0
 ·have hv:jK l b m=0:=by subst hm0;cases b<;>rfl
  have e1:min (i:Int) l.length=0:=by omega
  have e2:max (0:Int) 0=0:=rfl;rw[hv];clear ac h1 h2 h3 h4 qk ic hv qj;go_enter Tryz.func170,Tryz.ntmps170
  go_wp2_with fail
  refine CL.out.mono ?_;rintro e w2 ⟨rfl,rfl⟩;go_wp2_with fail
  go_ret;exact⟨rfl,rfl⟩
 ·obtain⟨b1,o1,rfl,hcC⟩:=at1 (f:=λn:Nat=>Value.int .i64 n) qk (aJ (k:=0) (by rw[cr];omega))
  obtain⟨bW,oW,rfl,vp⟩:=at1 (f:=λn:Nat=>Value.int .u64 n) ic (aJ (k:=0) (by rw[qj];omega));have cg:∀k,k<(l.length+63)/64->w.cell? ⟨bW,oW+k,none⟩=some (.int .u64 (mY l k)):=λk hk=>vp k _ (pJ hk);have HC:=Aa cg;obtain⟨L,hL⟩:=exq ((m-1)/64);have hLq:L<(l.length+63)/64:=by omega
  have jc:=hcC (L/8) _ (fG1 (l:=l) (k:=L/8) (by omega));have eL:((m:Int)-1).tdiv 64=L:=by rw[Ad (by omega)];omega
  have eL8:(L:Int).tdiv 8=(L/8:Nat):=by rw[Ad (by omega)];omega
  have eM:((m:Int)-1).tmod 64=((m-1)%64:Nat):=by rw[Al (by omega)];omega
  have e1:min (i:Int) l.length=m:=by omega
  have e2:max (0:Int) m=m:=by omega
  obtain⟨R0,y6⟩:=exq (dT l (512*(L/8)));rw[<-y6]at jc;have ag8:R0<=512*(L/8):=by rw[y6];exact nM _ _
  have HR0:Hid (R0=dT l (64*(8*(L/8)))):=by show _=_;rw[y6];congr 1;omega
  obtain⟨q,hq⟩:=exq ((l.length+63)/64);obtain⟨q5,hq5⟩:=exq ((l.length+511)/512);have hL5:L/8<q5:=by omega
  have hLm:L<=16384:=by omega
  rw[<-hq]at h1 hLq HC;rw[<-hq5]at h3;obtain⟨L8,hL8⟩:=exq (L/8);have ag9:8*L8<=L:=by omega
  rw[<-hL8]at jc eL8 HR0 hL5 ag8;have HL:=Aa hL;have HL8:=Aa hL8;clear ac h2 h4 qk hcC cg vp ic qj hq hq5 y6 cr hL hL8;have em:min i l.length=m:=hm.symm;clear hm;have fL:((m:Int)-1)/64=L:=by have:=HL.out;omega
  have gL:(m-1)/64=L:=HL.out.symm;have fL8:(L:Int)/8=L8:=by have:=HL8.out;omega
  have gL8:L/8=L8:=HL8.out.symm;have wL8:IntKind.i64.wrap ((L8:Int)*8)=(8*L8:Nat):=by simp[Ae,Af,Ab];omega
  go_enter Tryz.func170,Tryz.ntmps170
  go_wp2_with fail
  refine CL.out.mono ?_;rintro e w2 ⟨rfl,rfl⟩;go_wp2_with fail
  have hmz:((m:Int)==0)=false:=by simp;omega
  rw[hmz];clear hmz;go_loopw [8,9] (λn k wr=>∃(K N:Nat),K<=L/\k=.int .i64 K/\n=.int .i64 N/\Hid (N=dT l (64*K))/\N<=64*K/\Hid (wr=w)) (λ_ k _=>L-(intOf k).toNat)
  case atStart=>exact⟨8*L8,R0,ag9,by go_num,rfl,HR0.out,by omega,rfl⟩
  case round =>
   obtain⟨K,N,hK,rfl,rfl,hN,hNb,hw⟩:=hrel;obtain rfl:=hw.out;have hKq:K<q:=by omega
   have jc:=HC.out K hKq;obtain⟨x,hx⟩:=exq (mY l K);have ju:x<18446744073709551616:=by rw[hx];exact oR l K
   rw[<-hx]at jc;by_cases af:K<L
   ·obtain⟨S,hS⟩:=exq (zT 2 64 x)
    have HN2:Hid (N+S=dT l (64*(K+1))):=by show _=_;rw[dP0,<-hN.out,hS,hx]
    have hNS:N+S<=64*(K+1):=by rw[HN2.out];exact nM _ _
    have CO:=λW=>gE0 x W ju;rw[<-hS]at CO;have cz:(K:Int)<L:=by omega
    clear hx hS;go_wp2_with fail
    refine(CO _).mono ?_;rintro e w6 ⟨rfl,rfl⟩;go_wp2_with fail
    go_roundw
    case rel=>exact⟨K+1,N+S,af,by go_num,by go_num,HN2.out,hNS,trivial⟩
    case measure=>simp[intOf];omega
   ·have cz:¬(K:Int)<L:=by omega
    obtain rfl:K=L:=by omega
    obtain⟨s,hs⟩:=exq ((m-1)%64);have aha:s<64:=by omega
    have eS:((m:Int)-1)%64=s:=by omega
    rw[<-hs]at eM;obtain⟨y,hy⟩:=exq ((x<<<(63-s))%18446744073709551616);have ke:y<18446744073709551616:=by rw[hy];exact Nat.mod_lt _ (by decide)
    obtain⟨S,hS⟩:=exq (zT 2 64 y);have HN2:Hid (N+S=dT l m):=by show _=_;rw[hN.out,hS,hy,hx,xH0 l K s aha];congr 1;have:=HL.out;omega
    have hNS:N+S<=m:=by rw[HN2.out];exact nM _ _
    have CO:=λW=>gE0 y W ke;rw[<-hS]at CO
    have HY:Hid (IntKind.u64.wrap ((x:Int)*2^(63-s))=y):=by
     show _=_
     rw[hy,Nat.shiftLeft_eq,show (x:Int)*2^(63-s)=((x*2^(63-s):Nat):Int) by push_cast;rfl]
     generalize x*2^(63-s)=N;simp[Ae,Af,Ab]
    have hsm:(m-1)%64=s:=hs.symm;clear hx hS hy hs;go_wp2_with fail
    rw[HY.out];refine(CO _).mono ?_;rintro e w6 ⟨rfl,rfl⟩;have hnp:min (m:Int) (N+S)=N+S:=by omega
    have fi:jK l true m=N+S:=HN2.out.symm;have dn:jK l false m=m-(N+S):=by rw[HN2.out];rfl
    cases b
    ·go_wp2_with fail
     go_ret;refine⟨?_,rfl⟩;rw[dn];congr 2
     rw[Int.ofNat_sub hNS];push_cast
     rfl
    ·go_wp2_with fail
     go_ret;exact⟨by rw[fi];congr 2,rfl⟩
theorem gE1 (l:List Bool) (vb b1 b2 b3:Nat) (b:Bool) (k i:Nat) (w:World) (hl:l.length<=1048576) (hi:i<l.length) (ac:kE w vb l)
  (c1:w.cell? ⟨b1,0,none⟩=some (.pointer (some ⟨vb,0,none⟩))) (c2:w.cell? ⟨b2,0,none⟩=some (.bool b)) (c3:w.cell? ⟨b3,0,none⟩=some (.int .i64 k)) :
  Calls Tryz.prog 218 #[.int .i64 i,.pointer (some ⟨b1,0,none⟩),.pointer (some ⟨b2,0,none⟩),.pointer (some ⟨b3,0,none⟩)] w λe w'=>e=.returned (.bool (decide (k<jK l b (i+1))))/\w'=w.drew:=by
 obtain⟨R,hR⟩:=exq (jK l b (i+1))
 have CR:Hid (∀u,aB w u->Calls Tryz.prog 170 #[.pointer (some ⟨vb,0,none⟩),.bool b,.int .i64 ((i:Int)+1)] u λe w'=>e=.returned (.int .i64 R)/\u=w'):=by
  intro u hg;have h:=pT l vb b (i+1) u hl (by omega) (ac.grows hg);rw[Nat.min_eq_left (by omega:i+1<=l.length),<-hR]at h;exact h
 rw[<-hR];have z1:∀x:Ext aB w.drew,x.u.cell? ⟨b1,0,none⟩=some (.pointer (some ⟨vb,0,none⟩)):=aF ((aB.drew w).cell c1);have z2:∀x:Ext aB w.drew,x.u.cell? ⟨b2,0,none⟩=some (.bool b):=aF ((aB.drew w).cell c2);have z3:∀x:Ext aB w.drew,x.u.cell? ⟨b3,0,none⟩=some (.int .i64 k):=aF ((aB.drew w).cell c3);have zt:decide ((k:Int)<R)=decide (k<R):=by simp
 have wi:IntKind.i64.wrap ((i:Int)+1)=(i:Int)+1:=by simp[Ae,Af,Ab];omega
 clear ac hR;go_enter Tryz.func218,Tryz.ntmps218
 go_wp2_with fail
 refine bH (bE 8 []) (by kernel_rfl) (λd _ _ _ _ h=>by cases d<;>exact h) ?_
 iterate 4 (refine aH rfl (λK hK=>?_);go_simp;refine hK _ ?_;clear hK K)
 refine aH rfl (λK hK=>?_);go_simp;apply Exists.intro
 refine⟨λx=>?_,hK _ ?_⟩
 ·go_at_call 170;exact cX (CR.out _ ((aB.drew w).tr x.h))
 clear hK K;iterate 3 (refine aH rfl (λK hK=>?_);go_simp;refine hK _ ?_;clear hK K)
 refine bN ?_;go_wp2_with fail
 go_ret;exact⟨by simp,rfl⟩
end
section
open Go Go.RowKit
structure uM0 (x:Cnt):Prop where
 k:x.k.size<=maxLen
 v:(Lit.int .i64 x.v).wf=true
structure zZ0 where
 s:dC0
 c:List Cnt
 p:ByteArray
 v:ByteArray
 m:Int
structure oI0 where
 s:gQ0
 ca:Option Addr
 cc:Nat
def oI0.cells (A:oI0) (x:zZ0):Array Value := #[.slice A.s.pa x.s.p.length A.s.pc,.int .i64 x.s.d,.slice A.s.sa x.s.s.length A.s.sc,.slice A.s.ea x.s.e.length A.s.ec,.slice A.ca x.c.length A.cc,.string x.p,.string x.v,.int .i64 x.m]
def oI0.agg (A:oI0) (x:zZ0):Value := .agg (A.cells x)
structure fE0 (w:World) (A:oI0) (x:zZ0):Prop where
 s:hH0 w A.s x.s
 c:aG w A.ca 2 (x.c.map kC)
theorem fE0.grows {w w':World} {A:oI0} {x:zZ0} (h:fE0 w A x) (hg:aB w w'):fE0 w' A x:=⟨h.s.grows hg,h.c.grows hg⟩
structure mP1 (x:zZ0):Prop where
 s:lS0 x.s
 c:∀y∈x.c,uM0 y
 lc:x.c.length<=140737488355328
 p:x.p.size<=140737488355328
 v:x.v.size<=140737488355328
 m:(Lit.int .i64 x.m).wf=true
def cY1 (y:Cnt):Bool:=decide (500<y.k.size)
def wX (x:zZ0):Bool := !x.c.any cY1&&(nY x.s&&(decide (x.c.length<=100)&&(decide (x.p.size<=400)&&decide (x.v.size<=400))))
theorem lightA_of {x:zZ0} (h:wX x=true):nY x.s=true/\x.c.length<=100/\x.p.size<=400/\x.v.size<=400/\∀y∈x.c,y.k.size<=500:=by
 unfold wX at h;simp only[Bool.and_eq_true,Bool.not_eq_true',decide_eq_true_eq,List.any_eq_false]at h;obtain⟨h1,h2,h3,h4,h5⟩:=h;refine⟨h2,h3,h4,h5,λy hy=>?_⟩
 have:=h1 y hy
 unfold cY1 at this;simp at this;exact this
end
section
open Go Go.ChangeShapes Go.WideShapes Go.ChangeAt Go.RowKit Go.Shelf Go.Lib
open Go.ChangeMaps (open_string shut_string)
theorem lT1 {H:Type} {enc:TypeId×Value->H} {W:World} {base:Nat} {sp:Nat->Bool} {hd:Bool} (n:Nat) (cs:List Value) (x:DataW H×List MemPlace) (hl:cs.length=2) (h:DataW.trod enc Tryz.prog W base sp hd n 58 cs=some x) :
  ∃y:Cnt,cs=kC y/\uM0 y:=by
 obtain⟨xs,n,_,hx,_,aj,bg⟩:=DataW.trod_struct Tryz.underlying58 h
 match cs,hl with
 | [c0,c1],_ =>
  match xs,aj with
  | [y0,y1],_ =>
   have g0:=bg 0 _ rfl;have g1:=bg 1 _ rfl;obtain⟨s0,k0,_,z0⟩:=DataW.trod_string Tryz.underlying9 g0;obtain⟨n1,k1,_,z1⟩:=DataW.trod_int Tryz.underlying3 g1;refine⟨⟨s0,n1⟩,?_,⟨z0,z1⟩⟩;have e0:c0=.string s0:=by injection k0
   have e1:c1=.int .i64 n1:=by injection k1
   subst e0 e1;rfl
theorem open_ask {H:Type} {enc:TypeId×Value->H} {W:World} {base b0:Nat} {sp:Nat->Bool} {hd:Bool} {r:Reach} {v:Value} {d:DataW H} {ps:List MemPlace} {ts:List TypeId} {ds:List (DataW H)} {j:Nat}
  (mn:Value.okWide Tryz.prog W r b0 29 v) (h:DataW.Trod enc Tryz.prog W base sp hd 29 v d ps)
  (hz:(DataW.weightsEach Tryz.prog ts ds).all (· <= reachBytes)=true) (htj:ts[j]?=some 29) (hdj:ds[j]?=some d) :
  ∃(c:zZ0) (A:oI0),v=A.agg c/\fE0 W A c/\mP1 c:=by
 obtain⟨cs,rfl,hs⟩:=okWide_struct Tryz.underlying29 mn;obtain⟨bu,hf⟩:=h;obtain⟨xs,n,_,hx,hl,aj,bg⟩:=DataW.trod_struct Tryz.underlying29 hf;have hs8:cs.size=8:=hs;obtain⟨l⟩:=cs
 match l,hs8 with
 | [x0,x1,x2,x3,x4,x5,x6,x7],_ =>
  match xs,aj with
  | [y0,y1,y2,y3,y4],_ =>
   have g0:=bg 0 _ rfl;have g1:=bg 1 _ rfl;have g2:=bg 2 _ rfl;have g3:=bg 3 _ rfl;have g4:=bg 4 _ rfl;obtain⟨xs',n',_,hx',hl',ady,rh⟩:=DataW.trod_struct Tryz.underlying26 g0
   match xs',ady with
   | [u0,u1,u2,u3],_ =>
    have f0:=rh 0 _ rfl;have f1:=rh 1 _ rfl;have f2:=rh 2 _ rfl;have f3:=rh 3 _ rfl;obtain⟨pa,p,pc,k0,hp,okp,hp2,_⟩:=qL (cells:=cB) (OK:=iC1) Tryz.underlying22 (by kernel_rfl) (by decide) (λ_=>rfl) eY1 f0;obtain⟨n1,k1,_,z1⟩:=DataW.trod_int Tryz.underlying3 f1;obtain⟨sa,s,sc,k2,hs',oks,iq,_⟩:=qL (cells:=mR1) (OK:=mG1) Tryz.underlying23 (by kernel_rfl) (by decide) (λ_=>rfl) jB1 f2;obtain⟨ea,e,ec,k3,he,oke,he2,_⟩:=qL (cells:=bF) (OK:=tS) Tryz.underlying24 (by kernel_rfl) (by decide) nO kR0 f3;obtain⟨la,ls,lc,k4,hla,okl,np,_⟩:=qL (cells:=kC) (OK:=uM0) Tryz.underlying27 (by kernel_rfl) (by decide) (λ_=>rfl) lT1 g1;obtain⟨tx,k5,ex,z5⟩:=DataW.trod_string Tryz.underlying9 g2;obtain⟨tv,k6,ev,z6⟩:=DataW.trod_string Tryz.underlying9 g3;obtain⟨n7,k7,_,z7⟩:=DataW.trod_int Tryz.underlying3 g4
    have ja:ds[j]?=some (.agg [y0.1,y1.1,y2.1,y3.1,y4.1]):=by
     rw[hdj];have e1:=congrArg Ax hx;simpa using e1
    have hw:=xC hz htj ja Tryz.underlying29
    have hy0:[y0.1,y1.1,y2.1,y3.1,y4.1][0]?=some (.agg [u0.1,u1.1,u2.1,u3.1]):=by
     have e1:=congrArg Ax hx';simpa using e1
    have hw0:=xC hw (j:=0) (t:=26) rfl hy0 Tryz.underlying26;have l0:=sD hw0 (j:=0) (d:=u0.1) rfl rfl Tryz.underlying22 (of_decide_eq_true (by kernel_rfl)) (Av hp2 (λh=>Or.inl ⟨h.1,congrArg Ar h.2⟩) Or.inr);have l2:=sD hw0 (j:=2) (d:=u2.1) rfl rfl Tryz.underlying23 (of_decide_eq_true (by kernel_rfl)) (Av iq (λh=>Or.inl ⟨h.1,congrArg Ar h.2⟩) Or.inr);have l3:=sD hw0 (j:=3) (d:=u3.1) rfl rfl Tryz.underlying24 (of_decide_eq_true (by kernel_rfl)) (Av he2 (λh=>Or.inl ⟨h.1,congrArg Ar h.2⟩) Or.inr);have l4:=sD hw (j:=1) (d:=y1.1) rfl rfl Tryz.underlying27 (of_decide_eq_true (by kernel_rfl)) (Av np (λh=>Or.inl ⟨h.1,congrArg Ar h.2⟩) Or.inr)
    have l5:tx.size<=140737488355328:=by
     have fw:=sized_string (bytes:=tx.data.toList) hw (j:=2) rfl (by rw[show [y0.1,y1.1,y2.1,y3.1,y4.1][2]?=some y2.1 from rfl,ex])
     have h3:reachBytes<2^47:=reachBytes_lt;rw[<-Aw]at fw;omega
    have l6:tv.size<=140737488355328:=by
     have fw:=sized_string (bytes:=tv.data.toList) hw (j:=3) rfl (by rw[show [y0.1,y1.1,y2.1,y3.1,y4.1][3]?=some y3.1 from rfl,ev])
     have h3:reachBytes<2^47:=reachBytes_lt;rw[<-Aw]at fw;omega
    refine⟨⟨⟨p,n1,s,e⟩,ls,tx,tv,n7⟩,⟨⟨pa,pc,sa,sc,ea,ec⟩,la,lc⟩,?_,⟨⟨hp,hs',he⟩,hla⟩,⟨⟨λy hy=>(okp y hy).n,λy hy=>(oks y hy).c,oke,z1,l0,l2,l3⟩,okl,l4,l5,l6,z7⟩⟩;have e0:x0=.slice pa p.length pc:=by injection (show [x0]=[_] from k0)
    have e1:x1=.int .i64 n1:=by injection (show [x1]=[_] from k1)
    have e2:x2=.slice sa s.length sc:=by injection (show [x2]=[_] from k2)
    have e3:x3=.slice ea e.length ec:=by injection (show [x3]=[_] from k3)
    have e4:x4=.slice la ls.length lc:=by injection (show [x4]=[_] from k4)
    have e5:x5=.string tx:=by injection (show [x5]=[_] from k5)
    have e6:x6=.string tv:=by injection (show [x6]=[_] from k6)
    have e7:x7=.int .i64 n7:=by injection (show [x7]=[_] from k7)
    subst e0 e1 e2 e3 e4 e5 e6 e7;rfl
end
end Go.Proofs.YtjhajgffmnkocaaGreatDoor
