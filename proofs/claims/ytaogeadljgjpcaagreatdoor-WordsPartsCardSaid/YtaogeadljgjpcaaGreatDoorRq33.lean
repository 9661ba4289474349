/- The texts Bidx BvC BvN Rnk Sel, one behind the other. -/
import Derived.Test.YtaogeadljgjpcaaGreatDoorRq3
import Derived.Test.YtaogeadljgjpcaaGreatDoorRq25
import Derived.Test.YtaogeadljgjpcaaGreatDoorRq32
import Derived.Test.YtaogeadljgjpcaaGreatDoorRq20
import Derived.Test.YtaogeadljgjpcaaGreatDoorRq6
import Derived.Test.YtaogeadljgjpcaaGreatDoorRq4
open Go.Lib renaming hid → Aa
open Go.IntKind renaming signed → Ab,wrap → Ae,bits → Af
open List renaming getElem?_eq_none → Ac,getElem?_eq_getElem → Ah,getElem?_range → Aj,getD_eq_getElem?_getD → Ak,getElem?_map → Am,range_succ → Ao,range → Ar,filter_append → As,ext_getElem? → At
open Int renaming tdiv_eq_ediv_of_nonneg → Ad,tmod_eq_emod_of_nonneg → Al
open Go.World renaming cell?_setCell_other → Ag,block_lt_of_cell? → An,frozen?_setCell → Ap
open Nat renaming zero_le → Ai,le_refl → Aq
set_option maxHeartbeats 8000000
namespace Go.Proofs.YtaogeadljgjpcaaGreatDoor
set_option maxRecDepth 100000
section
open Go Go.RowKit Go.Shelf
attribute [local go_sem] aQ aM
def cD0 (nw:En->En->Bool) (l:List En) (i:Nat):Bool:=i==0||nw (l.getD i enZero) (l.getD (i-1) enZero)
def iX (nw:En->En->Bool) (l:List En) (k:Nat):List Nat:=(Ar k).filter (cD0 nw l)
theorem rB0 {nw:En->En->Bool} {l:List En} {k:Nat} (h:cD0 nw l k=true):iX nw l (k+1)=iX nw l k++[k]:=by
 unfold iX;rw[Ao,As];simp[h]
theorem kI1 {nw:En->En->Bool} {l:List En} {k:Nat} (h:cD0 nw l k=false):iX nw l (k+1)=iX nw l k:=by
 unfold iX;rw[Ao,As];simp[h]
theorem bM0 (nw:En->En->Bool) (l:List En) (k:Nat):(iX nw l k).length<=k:=by
 unfold iX
 have:=List.length_filter_le (cD0 nw l) (Ar k)
 rwa [List.length_range]at this
theorem yU (nw:En->En->Bool) (g:Nat) (eg:∀args w,(callFunc g args).run Tryz.prog w=.ok (.enter g args) w) (HG:∀(x y:En) w,Calls Tryz.prog g #[x.agg,y.agg] w λe w'=>e=.returned (.bool (nw x y))/\aB w w')
  (l:List En) (a:Option Addr) (c:Nat) (w:World) (hl:l.length<=1048576) (ac:aG w a 5 (l.map bF)) :
  Calls Tryz.prog 109 #[.slice a l.length c,.func (.func g) #[] #[]] w λe w'=>aB w w'/\∃v,e=.returned v/\aV w' w.heap.size 3 1 lJ v (iX nw l l.length):=by
 have HAT:=Aa ac;have HGG:=λx y w=>Aa (HG x y w);clear ac HG;go_enter Tryz.func109,Tryz.ntmps109
 go_wp2_with fail
 go_loopw [5,10] (λv i wr=>∃(k:Nat),k<=l.length/\i=.int .i64 k/\aV wr w.heap.size 3 1 lJ v (iX nw l k)/\aB w wr) (λ_ i _=>l.length-(intOf i).toNat)
 case atStart=>exact⟨0,Ai _,rfl,aV.nil _ _ _ _ _,aB.refl _⟩
 case round =>
  obtain⟨k,hk,rfl,aa,hg⟩:=hrel;by_cases ae:k<l.length
  ·obtain⟨⟨xr,xs,xl,xt,xc⟩,hx⟩:∃x,l[k]?=some x:=⟨_,Ah ae⟩
   obtain⟨ba,oa,rfl,bj⟩:=(HAT.out.grows hg).get (aK ae);have c0:wr.cell? ⟨ba,oa+k*5,none⟩=some (.string xr):=bj k _ hx 0 _ rfl;have c1:wr.cell? ⟨ba,oa+k*5+1,none⟩=some (.string xs):=bj k _ hx 1 _ rfl;have c2:wr.cell? ⟨ba,oa+k*5+2,none⟩=some (.int .i64 xl):=bj k _ hx 2 _ rfl;have c3:wr.cell? ⟨ba,oa+k*5+3,none⟩=some (.int .i64 xt):=bj k _ hx 3 _ rfl;have c4:wr.cell? ⟨ba,oa+k*5+4,none⟩=some (.int .i64 xc):=bj k _ hx 4 _ rfl;have vt:=bM0 nw l k;obtain⟨W1,bu⟩:=exq (wr.alloc (.cells #[.string xr,.string xs,.int .i64 xl,.int .i64 xt,.int .i64 xc] 62));have aq:aB wr W1:=by rw[bu];exact aB.alloc _ _
   have da:=λj u h=>aT wr #[.string xr,.string xs,.int .i64 xl,.int .i64 xt,.int .i64 xc] 62 (0,0) j u h;rw[<-bu]at da;have z0:∀x:Ext aB W1.drew,x.u.cell? ⟨wr.heap.size,0,none⟩=some (.string xr):=aF ((aB.drew W1).cell (da 0 _ rfl));have z1:∀x:Ext aB W1.drew,x.u.cell? ⟨wr.heap.size,1,none⟩=some (.string xs):=aF ((aB.drew W1).cell (da 1 _ rfl));have z2:∀x:Ext aB W1.drew,x.u.cell? ⟨wr.heap.size,2,none⟩=some (.int .i64 xl):=aF ((aB.drew W1).cell (da 2 _ rfl));have z3:∀x:Ext aB W1.drew,x.u.cell? ⟨wr.heap.size,3,none⟩=some (.int .i64 xt):=aF ((aB.drew W1).cell (da 3 _ rfl));have z4:∀x:Ext aB W1.drew,x.u.cell? ⟨wr.heap.size,4,none⟩=some (.int .i64 xc):=aF ((aB.drew W1).cell (da 4 _ rfl));clear da;by_cases h0:k=0
   ·have hK:Hid (cD0 nw l k=true):=by show _=_;rw[h0];rfl
    have hkz:((k:Int)==0)=true:=by rw[h0];rfl
    have H0:=Aa h0;clear bj hx h0;go_wp2_with fail
    rw[<-bu];clear bu;refine bK (bB 12 []) (by kernel_rfl) (λd _ _ _ _ h=>by cases d<;>exact h) ?_
    iterate 12 (refine aH rfl (λK hK=>?_);go_simp;refine hK _ ?_;clear hK K)
    clear z0 z1 z2 z3 z4;refine bQ ?_;have ar:=aa.grows aq.dr;have cm:=aB.trans _ _ _ hg aq.dr;have HI:=Aa (rB0 hK.out);obtain⟨bz,cd⟩:=exq (iX nw l k);rw[<-cd]at ar HI vt;clear cd aa aq hg;go_wp2_with (at_builtin;refine fF sG rfl _ _ rfl w.heap.size _ bz k rfl ar (aB.refl _) _ 1 rfl #[.int .i64 k] rfl rfl (by omega) cm.size ?_;intro v5 w5 an _ _ bk)
    have HG5:=bk w cm (Aq _);rw[<-HI.out]at an;go_wp2_with fail
    go_roundw
    case rel=>exact⟨k+1,by omega,by go_num,an,HG5⟩
    case measure=>simp[intOf];omega
   ·obtain⟨⟨yr,ys,yl,yt,yc⟩,hy⟩:∃y,l[k-1]?=some y:=⟨_,Ah (by omega)⟩
    obtain⟨m,hm⟩:=exq (k-1);have hkz:((k:Int)==0)=false:=by simp;omega
    have wk:IntKind.i64.wrap ((k:Int)-1)=m:=by simp[Ae,Af,Ab];omega
    have hml:m<l.length:=by omega
    have yy:(m:Int)<l.length:=by omega
    rw[<-hm]at hy;have d0:∀x:Ext aB W1.drew,x.u.cell? ⟨ba,oa+m*5,none⟩=some (.string yr):=aF ((aB.drew W1).cell (aq.cell (bj m _ hy 0 _ rfl)));have d1:∀x:Ext aB W1.drew,x.u.cell? ⟨ba,oa+m*5+1,none⟩=some (.string ys):=aF ((aB.drew W1).cell (aq.cell (bj m _ hy 1 _ rfl)));have d2:∀x:Ext aB W1.drew,x.u.cell? ⟨ba,oa+m*5+2,none⟩=some (.int .i64 yl):=aF ((aB.drew W1).cell (aq.cell (bj m _ hy 2 _ rfl)));have d3:∀x:Ext aB W1.drew,x.u.cell? ⟨ba,oa+m*5+3,none⟩=some (.int .i64 yt):=aF ((aB.drew W1).cell (aq.cell (bj m _ hy 3 _ rfl)));have d4:∀x:Ext aB W1.drew,x.u.cell? ⟨ba,oa+m*5+4,none⟩=some (.int .i64 yc):=aF ((aB.drew W1).cell (aq.cell (bj m _ hy 4 _ rfl)));obtain⟨b,hb⟩:=exq (nw ⟨xr,xs,xl,xt,xc⟩ ⟨yr,ys,yl,yt,yc⟩)
    have HB:Hid (cD0 nw l k=b):=by
     show _=_
     unfold cD0;rw[show l.getD k enZero=⟨xr,xs,xl,xt,xc⟩ by rw[Ak,hx];rfl,<-hm,show l.getD m enZero=⟨yr,ys,yl,yt,yc⟩ by rw[Ak,hy];rfl,<-hb,show (k==0)=false by simpa using h0]
     rfl
    have CG:=λW=>Aa (HGG ⟨xr,xs,xl,xt,xc⟩ ⟨yr,ys,yl,yt,yc⟩ W).out;rw[<-hb]at CG;have HM:=Aa hm;have H0:=Aa h0;clear bj hx hy hm hb h0;go_wp2_with fail
    rw[<-bu];clear bu;refine bK (bB 12 [10]) (by kernel_rfl) (λd _ _ _ _ h=>by cases d<;>exact h) ?_
    iterate 10 (refine aH rfl (λK hK=>?_);go_simp;refine hK _ ?_;clear hK K)
    refine bJ rfl rfl (λK hK=>?_);go_simp;refine((CG W1.drew).out).mono ?_;rintro e w2 ⟨rfl,af⟩;refine⟨af,hK _ _ ?_⟩;clear hK K;iterate 1 (refine aH rfl (λK hK=>?_);go_simp;refine hK _ ?_;clear hK K)
    clear z0 z1 z2 z3 z4 d0 d1 d2 d3 d4;refine bQ ?_;have oq:=aB.trans _ _ _ aq.dr af;have ar:=aa.grows oq;have cm:=aB.trans _ _ _ hg oq;obtain⟨bz,cd⟩:=exq (iX nw l k)
    cases b with
    | true =>
     have HI:=Aa (rB0 HB.out);rw[<-cd]at ar HI vt;clear cd aa aq hg CG af oq;go_wp2_with (at_builtin;refine fF sG rfl _ _ rfl w.heap.size _ bz k rfl ar (aB.refl _) _ 1 rfl #[.int .i64 k] rfl rfl (by omega) cm.size ?_;intro v5 w5 an _ _ bk)
     have HG5:=bk w cm (Aq _);rw[<-HI.out]at an;go_wp2_with fail
     go_roundw
     case rel=>exact⟨k+1,by omega,by go_num,an,HG5⟩
     case measure=>simp[intOf];omega
    | false =>
     have HI:=Aa (kI1 HB.out);rw[<-cd]at ar HI vt;clear cd aa aq hg CG af oq;go_wp2_with fail
     rw[<-HI.out]at ar;go_roundw
     case rel=>exact⟨k+1,by omega,by go_num,ar,cm⟩
     case measure=>simp[intOf];omega
  ·obtain rfl:k=l.length:=by omega
   go_wp2_with fail
   go_ret;exact⟨hg,_,rfl,aa⟩
end
section
open Go Go.RowKit
attribute [local go_sem] aQ aM
theorem lK1 {α:Type} {w w':World} {B base:Nat} {e:TypeId} {k:Nat} {enc:α->List Value} {v:Value} {xs:List α} (h:aV w base e k enc v xs) (hg:EB B w w') (hb:∀q,v.ownBlock=some q->q<B):aV w' base e k enc v xs:=by
 obtain⟨h1,h2⟩:=h;refine⟨h1,?_⟩;rcases h2 with h2|⟨g,cap,cj,hv,hbs,hh,r⟩
 ·exact Or.inl h2
 ·refine Or.inr ⟨g,cap,cj,hv,hbs,?_,r⟩
  rw[Below.block hg.1 g (hb g (by rw[hv];rfl))];exact hh
def jU (l:List Bool) (k:Nat):List Nat:=(Ar k).map λg=>dY l (512*g)
theorem jW0 (l:List Bool) (k:Nat):jU l (k+1)=jU l k++[dY l (512*k)]:=by
 unfold jU;rw[Ao,List.map_append];rfl
theorem mT0 (l:List Bool) (k:Nat):(jU l k).length=k:=by simp[jU]
theorem pQ {l:List Bool} {k:Nat} (h:k<(l.length+63)/64):(nA l)[k]?=some (nE l k):=by
 unfold nA;rw[Am,Aj h];rfl
theorem fW (l:List Bool):(nA l).length=(l.length+63)/64:=by simp[nA]
theorem lL0 {w w1 w2:World} {p:Nat} {row:Option Nat} (h:w.grownBy w1 (some p)) (k:w1.grownBy w2 row) (hr:∀q,row=some q->w.heap.size<=q):w.grownBy w2 (some p) :=
 ⟨k.os.trans h.os,k.tape.trans h.tape,k.output.trans h.output,Nat.le_trans h.size k.size,λi hi aj=>(k.block i (Nat.lt_of_lt_of_le hi h.size) (λe=>by have:=hr i e.symm;omega)).trans (h.block i hi aj)⟩
theorem mQ0 {w w1:World} {p:Nat} (h:w.grownBy w1 (some p)) (j:Nat) (v:Value):w.grownBy (w1.setCell ⟨p,j,none⟩ v) (some p) :=
 ⟨h.os,h.tape,h.output,by simpa using h.size,λi hi aj=>(Below.heap_setCell _ _ _ i (λe=>aj (by rw[e]))).trans (h.block i hi aj)⟩
theorem cZ0 {w w1:World} {p:Nat} (h:w.grownBy w1 (some p)) (hp:p<w.heap.size):EB p w w1 :=
 ⟨Below.grown (row:=some p) (Below.refl _ _) h (Nat.le_of_lt hp) (λk hk=>by cases hk;exact Aq _),h.size⟩
theorem lC0 (l:List Bool) (vb bw:Nat) (vW:Value) (w:World) (hl:l.length<=1048576) (hvw:∀r,vW.ownBlock=some r->r≠vb)
  (c1:w.cell? ⟨vb,1,none⟩=some vW) (c2:w.cell? ⟨vb,2,none⟩=some (.slice none 0 0)) (f2:w.frozen? ⟨vb,2,none⟩=false)
  (aa:aV w bw 192 1 kG vW (nA l)) :
  Calls Tryz.prog 217 #[.pointer (some ⟨vb,0,none⟩)] w λe w'=>e=.returned (.tuple #[])/\(∃vC,w'.cell? ⟨vb,2,none⟩=some vC/\aV w' w.heap.size 3 1 lJ vC (jU l ((l.length+511)/512)))/\(∀j,j≠2->w'.cell? ⟨vb,j,none⟩=w.cell? ⟨vb,j,none⟩)/\w.grownBy w' (some vb):=by
 obtain⟨q,hq⟩:=exq ((l.length+63)/64);have vj:q<=16384:=by omega
 have hvl:=An w _ c1;simp only at hvl;obtain⟨aW,cW,rfl,_,_,gk⟩:=aa.at_ (enc:=kG) (λ_=>rfl);have HNE:Hid (∀r:Addr,aW=some r->some r.block≠some vb):=λr hr e=>hvw r.block (by rw[hr];rfl) (Option.some.inj e);have hWl:=fW l;rw[<-hq]at hWl;rw[hWl]at c1;have HWG:Hid (∀k,k<q->(nA l)[k]?=some (nE l k)):=λk hk=>pQ (by omega);have HATW:=Aa gk;have HQ:Hid ((l.length+511)/512=(q+7)/8):=by show _=_;omega
 clear aa hq hWl gk hvw;go_enter Tryz.func217,Tryz.ntmps217
 go_wp2_with fail
 go_loopw [2,10] (λn i wr=>∃(k N:Nat) (vC:Value),k<=q/\i=.int .i64 k/\n=.int .i64 N/\Hid (N=dY l (64*k))/\N<=64*k/\wr.cell? ⟨vb,1,none⟩=some (.slice aW q cW)/\wr.cell? ⟨vb,2,none⟩=some vC/\wr.frozen? ⟨vb,2,none⟩=false/\aV wr w.heap.size 3 1 lJ vC (jU l ((k+7)/8))/\Hid (∀j,j≠2->wr.cell? ⟨vb,j,none⟩=w.cell? ⟨vb,j,none⟩)/\Hid (w.grownBy wr (some vb))) (λ_ i _=>q-(intOf i).toNat)
 case atStart=>exact⟨0,0,_,Ai _,rfl,rfl,rfl,Ai _,c1,c2,f2,aV.nil _ _ _ _ _,λ_ _=>rfl,lU _ _⟩
 case round =>
  obtain⟨k,N,vC,hk,rfl,rfl,hN,hNb,d1,d2,df,aa,hj,cz⟩:=hrel;have qd:w.heap.size<=wr.heap.size:=cz.out.size;by_cases ae:k<q
  ·obtain⟨wb,wo,rfl,vu⟩:=at1 (f:=λn:Nat=>Value.int .u64 n) (fD0 HATW.out cz.out HNE.out) (aK (k:=k) (by rw[fW];have:=(List.getElem?_eq_some_iff.1 (HWG.out k ae)).1;rw[fW]at this;exact this))
   have gq:=vu k _ (HWG.out k ae);clear vu;obtain⟨x,hx⟩:=exq (nE l k);have jl:x<18446744073709551616:=by rw[hx];exact oU l k
   rw[<-hx]at gq;obtain⟨S,hS⟩:=exq (aC0 2 64 x);have HN2:Hid (N+S=dY l (64*(k+1))):=by show _=_;rw[dI0,<-hN.out,hS,hx]
   have hNS:N+S<=64*(k+1):=by rw[HN2.out];exact nV _ _
   have CO:=λW=>eV0 x W jl;rw[<-hS]at CO;have cn:(k:Int)<q:=by omega
   have ci:=mT0 l ((k+7)/8);clear hx hS;by_cases h8:k%8=0
   ·have h8i:(k:Int)%8=0:=by omega
    have hC2:jU l ((k+1+7)/8)=jU l ((k+7)/8)++[N]:=by
     rw[show (k+1+7)/8=(k+7)/8+1 by omega,jW0,hN.out,show 512*((k+7)/8)=64*k by omega]
    have HC2:=Aa hC2;clear hC2;obtain⟨aC,cC,rfl,_,_,_⟩:=aa.at_ (enc:=lJ) (λ_=>rfl);rw[ci]at d2 aa
    have zk:some vb≠(Value.slice aC ((k+7)/8) cC).ownBlock:=λh=>by
     have:=aY aa _ h.symm
     omega
    go_wp2_with (at_builtin;refine fF sG rfl _ _ rfl w.heap.size (.slice aC ((k+7)/8) cC) (jU l ((k+7)/8)) N rfl aa (aB.refl _) _ 1 rfl #[.int .i64 N] rfl rfl (by rw[ci];omega) qd ?_;intro v' w5 an pj zj bk;obtain⟨a5,c5,rfl,_,_,_⟩:=an.at_ (enc:=lJ) (λ_=>rfl);rw[show (jU l ((k+7)/8)++[N]).length=(k+7)/8+1 by rw[List.length_append,ci];rfl]at an ⊢;have e1:=pj.cell d1 zk;have e2:=pj.cell d2 zk;have ef:w5.frozen? ⟨vb,2,none⟩=false:=(World.frozen?_of_block (a:=⟨vb,2,none⟩) (pj.block vb (by omega) zk)).trans df)
    refine(CO _).mono ?_;rintro e w6 ⟨rfl,rfl⟩;go_wp2_with fail
    have hjj:∀j,j≠2->(w5.setCell ⟨vb,2,none⟩ (.slice a5 ((k+7)/8+1) c5)).cell? ⟨vb,j,none⟩=w.cell? ⟨vb,j,none⟩:=λj lf=>by
     rw[Ag _ _ _ _ (λh=>lf (congrArg Addr.off h).symm),<-hj.out j lf];exact World.cell?_of_block (a:=⟨vb,j,none⟩) (pj.block vb (by omega) zk)
    have ahg:Hid (w.grownBy (w5.setCell ⟨vb,2,none⟩ (.slice a5 ((k+7)/8+1) c5)) (some vb)):=mQ0 (lL0 cz.out pj (λr hr=>aY aa r hr)) 2 _;go_roundw
    case rel=>exact⟨k+1,N+S,_,ae,by go_num,by go_num,HN2.out,hNS,(Ag _ _ _ _ (λh=>by cases h)).trans e1,World.cell?_setCell_same _ _ _ e2,(Ap _ _ _ _).trans ef,by rw[HC2.out];exact nC an (p:=⟨vb,2,none⟩) hvl _,hjj,ahg⟩
    case measure=>simp[intOf];omega
   ·have h8i:¬(k:Int)%8=0:=by omega
    have hC2:(k+1+7)/8=(k+7)/8:=by omega
    have HC2:=Aa hC2;clear hC2 ci;go_wp2_with fail
    refine(CO _).mono ?_;rintro e w6 ⟨rfl,rfl⟩;go_wp2_with fail
    go_roundw
    case rel=>exact⟨k+1,N+S,vC,ae,by go_num,by go_num,HN2.out,hNS,d1,d2,df,by rw[HC2.out];exact aa,hj.out,cz⟩
    case measure=>simp[intOf];omega
  ·have cn:¬(k:Int)<q:=by omega
   have jt:k=q:=by omega
   have HO:Hid (aV wr w.heap.size 3 1 lJ vC (jU l ((l.length+511)/512))):=by show aV _ _ _ _ _ _ _;rw[HQ.out,<-jt];exact aa
   clear jt;go_wp2_with fail
   refine bodyPost_end (v:=.tuple #[]) (by simp[results,Tryz.results217,go_sem]) rfl ⟨rfl,⟨vC,d2,HO.out⟩,hj.out,cz.out⟩
def nB (l:List Bool) (q:Nat):List Nat:=(Ar q).map (nE l)
theorem mY (l:List Bool) (q:Nat):(nB l q).length=q:=by simp[nB]
theorem qQ {l:List Bool} {q k:Nat} (h:k<q):(nB l q)[k]?=some (nE l k):=by
 unfold nB;rw[Am,Aj h];rfl
theorem uE0 (q:Nat):nB [] q=List.replicate q 0:=by
 apply At
 intro k;by_cases hk:k<q
 ·rw[qQ hk,List.getElem?_replicate,if_pos hk,gU1]
 ·rw[Ac (by rw[mY];omega),Ac (by simp;omega)]
theorem iE0 (l:List Bool) (q:Nat):nB (l++[false]) q=nB l q:=by
 unfold nB;apply List.map_congr_left
 intro k _;exact sW0 l k
theorem mM0 {l:List Bool} {q Q S:Nat} (hS:S<64) (hQ:l.length=64*Q+S):nB (l++[true]) q=(nB l q).set Q (nE l Q|||(1<<<S)%18446744073709551616):=by
 apply At
 intro k;by_cases hk:k<q
 ·rw[qQ hk]
  by_cases vm:k=Q
  ·subst vm
   rw[List.getElem?_set_self (by rw[mY];exact hk),xR0 hQ]
  ·rw[List.getElem?_set_ne (Ne.symm vm),qQ hk,bT1 hS hQ vm]
 ·rw[Ac (by rw[mY];omega),Ac (by rw[List.length_set,mY];omega)]
structure kE (w:World) (vb:Nat) (l:List Bool):Prop where
 c0:w.cell? ⟨vb,0,none⟩=some (.int .i64 l.length)
 c1:∃vW,w.cell? ⟨vb,1,none⟩=some vW/\aV w 0 192 1 kG vW (nA l)
 c2:∃vC,w.cell? ⟨vb,2,none⟩=some vC/\aV w 0 3 1 lJ vC (tW l)
theorem kE.grows {w w':World} {vb:Nat} {l:List Bool} (h:kE w vb l) (hg:aB w w'):kE w' vb l:=by
 obtain⟨wb,h1,h2⟩:=h.c1;obtain⟨vC,h3,h4⟩:=h.c2;exact⟨hg.cell h.c0,⟨wb,hg.cell h1,h2.grows hg⟩,vC,hg.cell h3,h4.grows hg⟩
theorem oP1 {x S:Nat} (hx:x<18446744073709551616):bits .or .u64 (x:Int) (IntKind.u64.wrap ((2:Int)^S))=((x|||(1<<<S)%18446744073709551616:Nat):Int):=by
 have h:=kD0 (v:=1) (S:=S) hx;rw[show ((1:Nat):Int)*2^S=(2:Int)^S by simp]at h
 exact h
theorem rC0 (l:List Bool) (a:Option Addr) (c:Nat) (w:World) (hl:l.length<=1048576) (ac:aG w a 1 (l.map qU)) :
  Calls Tryz.prog 172 #[.slice a l.length c] w λe w'=>e=.returned (.tuple #[.pointer (some ⟨w.heap.size+1,0,none⟩),.int .i64 0])/\kE w' (w.heap.size+1) l/\aB w w':=by
 have HAT:=Aa ac;obtain⟨q,hq⟩:=exq ((l.length+63)/64);have vj:q<=16384:=by omega
 have HQ:=Aa hq;have hlw:¬(1048576:Int)<l.length:=by omega
 have ri:((l.length:Int)+63)/64=q:=by omega
 have zf:((l.length:Int)+63).tdiv 64=q:=by rw[Ad (by omega)];exact ri
 have wq:IntKind.i64.wrap (q:Int)=q:=by simp[Ae,Af,Ab];omega
 have lk:=λ(Y:World)=>nZ1 q Y (by omega);clear ac hq;go_enter Tryz.func172,Tryz.ntmps172
 go_wp2_with fail
 have bg:=kK0 (w:=w) (n:=q) (by omega);rw[Nat.mul_one]at bg;obtain⟨W1,bu⟩:=exq (w.alloc (.cells (madeCells #[.int .u64 0] q) 192));have ed:W1.heap.size=w.heap.size+1:=by rw[bu];simp
 have gh:aB w W1:=by rw[bu];exact aB.alloc _ _
 rw[<-bu]at bg ⊢;obtain⟨W2,ei⟩:=exq (W1.alloc (.cells #[.int .i64 l.length,.slice (some ⟨w.heap.size,0,none⟩) q q,.slice none 0 0] 289));have da:=λj u h=>aT W1 #[.int .i64 l.length,.slice (some ⟨w.heap.size,0,none⟩) q q,.slice none 0 0] 289 (0,0) j u h;rw[<-ei,ed]at da;have b0:=da 0 _ rfl;have b1:=da 1 _ rfl;have b2:=da 2 _ rfl;have bf:W2.frozen? ⟨w.heap.size+1,2,none⟩=false:=by rw[ei,<-ed];exact gI0 _ _ _ _
 have jm:aB W1 W2:=by rw[ei];exact aB.alloc _ _
 have ai:=bg.grows jm;have af:=gh.tr jm;rw[<-uE0 q]at ai;rw[<-ei];clear bu ei da bg ed gh jm lk ri zf wq;go_loopw [21] (λi wr=>∃k:Nat,k<=l.length/\i=.int .i64 k/\wr.cell? ⟨w.heap.size+1,0,none⟩=some (.int .i64 l.length)/\wr.cell? ⟨w.heap.size+1,1,none⟩=some (.slice (some ⟨w.heap.size,0,none⟩) q q)/\wr.cell? ⟨w.heap.size+1,2,none⟩=some (.slice none 0 0)/\wr.frozen? ⟨w.heap.size+1,2,none⟩=false/\aV wr w.heap.size 192 1 kG (.slice (some ⟨w.heap.size,0,none⟩) q q) (nB (l.take k) q)/\aB w wr) (λi _=>l.length-(intOf i).toNat)
 case atStart=>exact⟨0,Ai _,rfl,b0,b1,b2,bf,ai,af⟩
 case round =>
  obtain⟨k,hk,rfl,d0,d1,d2,df,aa,hg⟩:=hrel;by_cases ae:k<l.length
  ·obtain⟨x,hx⟩:∃x,l[k]?=some x:=⟨_,Ah ae⟩
   obtain⟨b,o,rfl,hc⟩:=at1 HAT.out (aK ae);have gq:=hg.cell (hc k x hx);have cn:(k:Int)<l.length:=by omega
   cases x
   ·have HO:Hid (aV wr w.heap.size 192 1 kG (.slice (some ⟨w.heap.size,0,none⟩) q q) (nB (l.take (k+1)) q)):=by show aV _ _ _ _ _ _ _;rw[bM hx,iE0];exact aa
    clear hc hx;go_wp2_with fail
    go_roundw
    case rel=>exact⟨k+1,ae,by go_num,d0,d1,d2,df,HO.out,hg⟩
    case measure=>simp[intOf];omega
   ·obtain⟨Q,hQ⟩:=exq (k/64)
    obtain⟨S,hS⟩:=exq (k%64);have mq:S<64:=by omega
    have s6:Q<q:=by have:=HQ.out;omega
    have eQ:(k:Int)/64=Q:=by omega
    have eS:(k:Int)%64=S:=by omega
    have hQi:(Q:Int)<q:=by omega
    have eT:(k:Int).tmod 64=S:=by rw[Al (by omega)];exact eS
    have wQ:IntKind.i64.wrap (Q:Int)=Q:=by simp[Ae,Af,Ab];omega
    have wS:IntKind.i64.wrap (S:Int)=S:=by simp[Ae,Af,Ab];omega
    obtain⟨y,hy⟩:=exq (nE (l.take k) Q);have jy:y<18446744073709551616:=by rw[hy];exact oU _ _
    have aam:=aa.grows (aB.drew wr);have e1:wr.cell? ⟨w.heap.size,Q,none⟩=some (.int .u64 y):=cU (f:=λn:Nat=>Value.int .u64 n) aa (by rw[qQ s6,hy]);obtain⟨f1,_,ar⟩:=eP (f:=λn:Nat=>Value.int .u64 n) aam (k:=Q) (by rw[mY];exact s6) (y|||(1<<<S)%18446744073709551616)
    have hor:=oP1 (S:=S) jy;obtain⟨y1,kt⟩:=exq (y|||(1<<<S)%18446744073709551616)
    rw[<-kt]at hor ar
    have HO:Hid (aV (wr.drew.setCell ⟨w.heap.size,Q,none⟩ (.int .u64 y1)) w.heap.size 192 1 kG (.slice (some ⟨w.heap.size,0,none⟩) q q) (nB (l.take (k+1)) q)):=by
     show aV _ _ _ _ _ _ _
     rw[bM hx,mM0 (Q:=Q) mq (by rw[List.length_take];omega),<-hy,<-kt];exact ar
    have z1:∀x:Ext aB wr.drew,x.u.cell? ⟨w.heap.size+1,1,none⟩=some (.slice (some ⟨w.heap.size,0,none⟩) q q):=aF ((aB.drew wr).cell d1);have z2:∀x:Ext aB wr.drew,x.u.cell? ⟨w.heap.size,Q,none⟩=some (.int .u64 y):=aF ((aB.drew wr).cell e1);clear hc hx hQ hS hy kt ar aam;go_wp2_with fail
    refine jV 12 (bB 12 []) (by kernel_rfl) (λd _ _ _ _ h=>by cases d<;>exact h) ?_
    iterate 12 (refine aH rfl (λK hK=>?_);go_simp;refine hK _ ?_;clear hK K)
    clear z1 z2;refine bQ ?_;simp only[List.drop_succ_cons,List.drop_zero];go_wp2_with fail
    have h0:∀j,(wr.drew.setCell ⟨w.heap.size,Q,none⟩ (.int .u64 y1)).cell? ⟨w.heap.size+1,j,none⟩=wr.cell? ⟨w.heap.size+1,j,none⟩:=λj=>Ag _ _ _ _ (λh=>by have:=congrArg Addr.block h;simp at this);go_roundw
    case rel=>exact⟨k+1,ae,by go_num,(h0 0).trans d0,(h0 1).trans d1,(h0 2).trans d2,(Ap _ _ _ _).trans df,HO.out,(hg.dr).set (Aq _) _⟩
    case measure=>simp[intOf];omega
  ·have cn:¬(k:Int)<l.length:=by omega
   have jt:k=l.length:=by omega
   rw[jt,List.take_length]at aa;have er:=d1;have au:=aa;rw[HQ.out]at er au;have CC:=lC0 l (w.heap.size+1) w.heap.size _ wr hl (λr hr=>by have:w.heap.size=r:=Option.some.inj hr;omega) er d2 df au;clear jt er;go_wp2_with fail
   refine CC.mono ?_;rintro e w5 ⟨rfl,⟨vC,g2,je⟩,hj,ko⟩;have abn:w.heap.size+1<wr.heap.size:=An wr _ d0;have cz:=cZ0 ko abn
   have HV:Hid (kE w5 (w.heap.size+1) l):=by
    refine⟨by rw[hj 0 (by decide)];exact d0,⟨.slice (some ⟨w.heap.size,0,none⟩) ((l.length+63)/64) ((l.length+63)/64),?_,?_⟩,vC,g2,je.base (Ai _)⟩
    ·rw[hj 1 (by decide),<-HQ.out];exact d1
    ·exact(lK1 au cz (λr hr=>by have:w.heap.size=r:=Option.some.inj hr;omega)).base (Ai _)
   have bk:aB w w5:=Below.trans hg (Below.mono cz.1 (Nat.le_succ _));clear hj cz au aa je g2;go_wp2_with fail
   refine bodyPost_ret (v:=.tuple #[.pointer (some ⟨w.heap.size+1,0,none⟩),.int .i64 0]) (by simp[results,Tryz.results172,go_sem]) rfl ⟨rfl,HV.out,bk⟩
theorem hU1 {l:List Bool} {k:Nat} (h:k<(l.length+511)/512):(tW l)[k]?=some (dY l (512*k)):=by
 unfold tW;rw[Am,Aj h];rfl
theorem rV (l:List Bool) (vb:Nat) (w:World) (ac:kE w vb l) :
  Calls Tryz.prog 220 #[.pointer (some ⟨vb,0,none⟩)] w λe w'=>e=.returned (.int .i64 l.length)/\w=w':=by
 have c0:=ac.c0;clear ac;go_enter Tryz.func220,Tryz.ntmps220
 go_wp2_with fail
 go_ret;exact⟨rfl,rfl⟩
theorem qR (l:List Bool) (vb:Nat) (b:Bool) (i:Nat) (w:World) (hl:l.length<=1048576) (hi:i<=1048576) (ac:kE w vb l) :
  Calls Tryz.prog 176 #[.pointer (some ⟨vb,0,none⟩),.bool b,.int .i64 i] w λe w'=>e=.returned (.int .i64 (jS l b (min i l.length)))/\w=w':=by
 obtain⟨vW,h1,h2⟩:=ac.c1;obtain⟨aW,cW,rfl,_,_,gk⟩:=h2.at_ (enc:=kG) (λ_=>rfl);have qe:=fW l;rw[qe]at h1;obtain⟨vC,h3,h4⟩:=ac.c2;have CL:=Aa (rV l vb w ac);obtain⟨aC,cC,rfl,_,_,qf⟩:=h4.at_ (enc:=lJ) (λ_=>rfl);have ci:(tW l).length=(l.length+511)/512:=by simp[tW]
 rw[ci]at h3;have c0:=ac.c0;obtain⟨m,hm⟩:=exq (min i l.length);rw[<-hm];have hml:m<=l.length:=by omega
 by_cases hm0:m=0
 ·have hv:jS l b m=0:=by subst hm0;cases b<;>rfl
  have e1:min (i:Int) l.length=0:=by omega
  have e2:max (0:Int) 0=0:=rfl;rw[hv];clear ac h1 h2 h3 h4 qf gk hv qe;go_enter Tryz.func176,Tryz.ntmps176
  go_wp2_with fail
  refine CL.out.mono ?_;rintro e w2 ⟨rfl,rfl⟩;go_wp2_with fail
  go_ret;exact⟨rfl,rfl⟩
 ·obtain⟨b1,o1,rfl,hcC⟩:=at1 (f:=λn:Nat=>Value.int .i64 n) qf (aK (k:=0) (by rw[ci];omega))
  obtain⟨bW,oW,rfl,vu⟩:=at1 (f:=λn:Nat=>Value.int .u64 n) gk (aK (k:=0) (by rw[qe];omega));have bv:∀k,k<(l.length+63)/64->w.cell? ⟨bW,oW+k,none⟩=some (.int .u64 (nE l k)):=λk hk=>vu k _ (pQ hk);have HC:=Aa bv;obtain⟨L,hL⟩:=exq ((m-1)/64);have hLq:L<(l.length+63)/64:=by omega
  have gq:=hcC (L/8) _ (hU1 (l:=l) (k:=L/8) (by omega));have eL:((m:Int)-1).tdiv 64=L:=by rw[Ad (by omega)];omega
  have eL8:(L:Int).tdiv 8=(L/8:Nat):=by rw[Ad (by omega)];omega
  have eM:((m:Int)-1).tmod 64=((m-1)%64:Nat):=by rw[Al (by omega)];omega
  have e1:min (i:Int) l.length=m:=by omega
  have e2:max (0:Int) m=m:=by omega
  obtain⟨R0,t9⟩:=exq (dY l (512*(L/8)));rw[<-t9]at gq;have ahh:R0<=512*(L/8):=by rw[t9];exact nV _ _
  have HR0:Hid (R0=dY l (64*(8*(L/8)))):=by show _=_;rw[t9];congr 1;omega
  obtain⟨q,hq⟩:=exq ((l.length+63)/64);obtain⟨q5,hq5⟩:=exq ((l.length+511)/512);have hL5:L/8<q5:=by omega
  have hLm:L<=16384:=by omega
  rw[<-hq]at h1 hLq HC;rw[<-hq5]at h3;obtain⟨L8,hL8⟩:=exq (L/8);have ahi:8*L8<=L:=by omega
  rw[<-hL8]at gq eL8 HR0 hL5 ahh;have HL:=Aa hL;have HL8:=Aa hL8;clear ac h2 h4 qf hcC bv vu gk qe hq hq5 t9 ci hL hL8;have em:min i l.length=m:=hm.symm;clear hm;have fL:((m:Int)-1)/64=L:=by have:=HL.out;omega
  have gL:(m-1)/64=L:=HL.out.symm;have fL8:(L:Int)/8=L8:=by have:=HL8.out;omega
  have gL8:L/8=L8:=HL8.out.symm;have wL8:IntKind.i64.wrap ((L8:Int)*8)=(8*L8:Nat):=by simp[Ae,Af,Ab];omega
  go_enter Tryz.func176,Tryz.ntmps176
  go_wp2_with fail
  refine CL.out.mono ?_;rintro e w2 ⟨rfl,rfl⟩;go_wp2_with fail
  have hmz:((m:Int)==0)=false:=by simp;omega
  rw[hmz];clear hmz;go_loopw [8,9] (λn k wr=>∃(K N:Nat),K<=L/\k=.int .i64 K/\n=.int .i64 N/\Hid (N=dY l (64*K))/\N<=64*K/\Hid (wr=w)) (λ_ k _=>L-(intOf k).toNat)
  case atStart=>exact⟨8*L8,R0,ahi,by go_num,rfl,HR0.out,by omega,rfl⟩
  case round =>
   obtain⟨K,N,hK,rfl,rfl,hN,hNb,hw⟩:=hrel;obtain rfl:=hw.out;have hKq:K<q:=by omega
   have gq:=HC.out K hKq;obtain⟨x,hx⟩:=exq (nE l K);have jl:x<18446744073709551616:=by rw[hx];exact oU l K
   rw[<-hx]at gq;by_cases ae:K<L
   ·obtain⟨S,hS⟩:=exq (aC0 2 64 x)
    have HN2:Hid (N+S=dY l (64*(K+1))):=by show _=_;rw[dI0,<-hN.out,hS,hx]
    have hNS:N+S<=64*(K+1):=by rw[HN2.out];exact nV _ _
    have CO:=λW=>eV0 x W jl;rw[<-hS]at CO;have cn:(K:Int)<L:=by omega
    clear hx hS;go_wp2_with fail
    refine(CO _).mono ?_;rintro e w6 ⟨rfl,rfl⟩;go_wp2_with fail
    go_roundw
    case rel=>exact⟨K+1,N+S,ae,by go_num,by go_num,HN2.out,hNS,trivial⟩
    case measure=>simp[intOf];omega
   ·have cn:¬(K:Int)<L:=by omega
    obtain rfl:K=L:=by omega
    obtain⟨s,hs⟩:=exq ((m-1)%64);have ahj:s<64:=by omega
    have eS:((m:Int)-1)%64=s:=by omega
    rw[<-hs]at eM;obtain⟨y,hy⟩:=exq ((x<<<(63-s))%18446744073709551616);have jy:y<18446744073709551616:=by rw[hy];exact Nat.mod_lt _ (by decide)
    obtain⟨S,hS⟩:=exq (aC0 2 64 y);have HN2:Hid (N+S=dY l m):=by show _=_;rw[hN.out,hS,hy,hx,wG0 l K s ahj];congr 1;have:=HL.out;omega
    have hNS:N+S<=m:=by rw[HN2.out];exact nV _ _
    have CO:=λW=>eV0 y W jy;rw[<-hS]at CO
    have HY:Hid (IntKind.u64.wrap ((x:Int)*2^(63-s))=y):=by
     show _=_
     rw[hy,Nat.shiftLeft_eq,show (x:Int)*2^(63-s)=((x*2^(63-s):Nat):Int) by push_cast;rfl]
     generalize x*2^(63-s)=N;simp[Ae,Af,Ab]
    have hsm:(m-1)%64=s:=hs.symm;clear hx hS hy hs;go_wp2_with fail
    rw[HY.out];refine(CO _).mono ?_;rintro e w6 ⟨rfl,rfl⟩;have hnp:min (m:Int) (N+S)=N+S:=by omega
    have et:jS l true m=N+S:=HN2.out.symm;have ct:jS l false m=m-(N+S):=by rw[HN2.out];rfl
    cases b
    ·go_wp2_with fail
     go_ret;refine⟨?_,rfl⟩;rw[ct];congr 2
     rw[Int.ofNat_sub hNS];push_cast
     rfl
    ·go_wp2_with fail
     go_ret;exact⟨by rw[et];congr 2,rfl⟩
theorem iJ1 (l:List Bool) (vb b1 b2 b3:Nat) (b:Bool) (k i:Nat) (w:World) (hl:l.length<=1048576) (hi:i<l.length) (ac:kE w vb l)
  (c1:w.cell? ⟨b1,0,none⟩=some (.pointer (some ⟨vb,0,none⟩))) (c2:w.cell? ⟨b2,0,none⟩=some (.bool b)) (c3:w.cell? ⟨b3,0,none⟩=some (.int .i64 k)) :
  Calls Tryz.prog 223 #[.int .i64 i,.pointer (some ⟨b1,0,none⟩),.pointer (some ⟨b2,0,none⟩),.pointer (some ⟨b3,0,none⟩)] w λe w'=>e=.returned (.bool (decide (k<jS l b (i+1))))/\w'=w.drew:=by
 obtain⟨R,hR⟩:=exq (jS l b (i+1))
 have CR:Hid (∀u,aB w u->Calls Tryz.prog 176 #[.pointer (some ⟨vb,0,none⟩),.bool b,.int .i64 ((i:Int)+1)] u λe w'=>e=.returned (.int .i64 R)/\u=w'):=by
  intro u hg;have h:=qR l vb b (i+1) u hl (by omega) (ac.grows hg);rw[Nat.min_eq_left (by omega:i+1<=l.length),<-hR]at h;exact h
 rw[<-hR];have z1:∀x:Ext aB w.drew,x.u.cell? ⟨b1,0,none⟩=some (.pointer (some ⟨vb,0,none⟩)):=aF ((aB.drew w).cell c1);have z2:∀x:Ext aB w.drew,x.u.cell? ⟨b2,0,none⟩=some (.bool b):=aF ((aB.drew w).cell c2);have z3:∀x:Ext aB w.drew,x.u.cell? ⟨b3,0,none⟩=some (.int .i64 k):=aF ((aB.drew w).cell c3);have zw:decide ((k:Int)<R)=decide (k<R):=by simp
 have wi:IntKind.i64.wrap ((i:Int)+1)=(i:Int)+1:=by simp[Ae,Af,Ab];omega
 clear ac hR;go_enter Tryz.func223,Tryz.ntmps223
 go_wp2_with fail
 refine bK (bB 8 []) (by kernel_rfl) (λd _ _ _ _ h=>by cases d<;>exact h) ?_
 iterate 4 (refine aH rfl (λK hK=>?_);go_simp;refine hK _ ?_;clear hK K)
 refine aH rfl (λK hK=>?_);go_simp;apply Exists.intro
 refine⟨λx=>?_,hK _ ?_⟩
 ·go_at_call 176;exact dR (CR.out _ ((aB.drew w).tr x.h))
 clear hK K;iterate 3 (refine aH rfl (λK hK=>?_);go_simp;refine hK _ ?_;clear hK K)
 refine bQ ?_;go_wp2_with fail
 go_ret;exact⟨by simp,rfl⟩
end
end Go.Proofs.YtaogeadljgjpcaaGreatDoor
