/- The texts Bidx BvC BvN Rnk Sel, one behind the other. -/
import Derived.Test.YtheiocndipepaaaGreatDoorKq5
import Derived.Test.YtheiocndipepaaaGreatDoorKq26
import Derived.Test.YtheiocndipepaaaGreatDoorKq31
import Derived.Test.YtheiocndipepaaaGreatDoorKq20
import Derived.Test.YtheiocndipepaaaGreatDoorKq4
import Derived.Test.YtheiocndipepaaaGreatDoorKq1
open Go.Lib renaming hid → Aa
open Go.IntKind renaming signed → Ab,wrap → Ae,bits → Af
open List renaming getElem?_eq_none → Ac,getElem?_eq_getElem → Ah,getElem?_range → Aj,getD_eq_getElem?_getD → Ak,getElem?_map → Am,range_succ → Ao,range → Ar,filter_append → As,ext_getElem? → At
open Int renaming tdiv_eq_ediv_of_nonneg → Ad,tmod_eq_emod_of_nonneg → Al
open Go.World renaming cell?_setCell_other → Ag,block_lt_of_cell? → An,frozen?_setCell → Ap
open Nat renaming zero_le → Ai,le_refl → Aq
set_option maxHeartbeats 8000000
namespace Go.Proofs.YtheiocndipepaaaGreatDoor
set_option maxRecDepth 100000
section
open Go Go.RowKit Go.Shelf
attribute [local go_sem] aM aK
def dQ0 (nw:En->En->Bool) (l:List En) (i:Nat):Bool:=i==0||nw (l.getD i enZero) (l.getD (i-1) enZero)
def gT (nw:En->En->Bool) (l:List En) (k:Nat):List Nat:=(Ar k).filter (dQ0 nw l)
theorem rN0 {nw:En->En->Bool} {l:List En} {k:Nat} (h:dQ0 nw l k=true):gT nw l (k+1)=gT nw l k++[k]:=by
 unfold gT;rw[Ao,As];simp[h]
theorem lP1 {nw:En->En->Bool} {l:List En} {k:Nat} (h:dQ0 nw l k=false):gT nw l (k+1)=gT nw l k:=by
 unfold gT;rw[Ao,As];simp[h]
theorem bY0 (nw:En->En->Bool) (l:List En) (k:Nat):(gT nw l k).length<=k:=by
 unfold gT
 have:=List.length_filter_le (dQ0 nw l) (Ar k)
 rwa [List.length_range]at this
theorem bE0 (nw:En->En->Bool) (g:Nat) (eg:∀args w,(callFunc g args).run Tryz.prog w=.ok (.enter g args) w) (HG:∀(x y:En) w,Calls Tryz.prog g #[x.agg,y.agg] w λe w'=>e=.returned (.bool (nw x y))/\Grows w w')
  (l:List En) (a:Option Addr) (c:Nat) (w:World) (hl:l.length<=1048576) (ac:aF w a 5 (l.map aQ)) :
  Calls Tryz.prog 42 #[.slice a l.length c,.func (.func g) #[] #[]] w λe w'=>Grows w w'/\∃v,e=.returned v/\aV w' w.heap.size 3 1 kG v (gT nw l l.length):=by
 have HAT:=Aa ac;have HGG:=λx y w=>Aa (HG x y w);clear ac HG;go_enter Tryz.func42,Tryz.ntmps42
 go_wp2_with fail
 go_loopw [5,10] (λv i wr=>∃(k:Nat),k<=l.length/\i=.int .i64 k/\aV wr w.heap.size 3 1 kG v (gT nw l k)/\Grows w wr) (λ_ i _=>l.length-(intOf i).toNat)
 case atStart=>exact⟨0,Ai _,rfl,aV.nil _ _ _ _ _,Grows.refl _⟩
 case round =>
  obtain⟨k,hk,rfl,aa,hg⟩:=hrel;by_cases ae:k<l.length
  ·obtain⟨⟨xr,xs,xl,xt,xc⟩,hx⟩:∃x,l[k]?=some x:=⟨_,Ah ae⟩
   obtain⟨ba,oa,rfl,be⟩:=(HAT.out.grows hg).get (aH ae);have c0:wr.cell? ⟨ba,oa+k*5,none⟩=some (.string xr):=be k _ hx 0 _ rfl;have c1:wr.cell? ⟨ba,oa+k*5+1,none⟩=some (.string xs):=be k _ hx 1 _ rfl;have c2:wr.cell? ⟨ba,oa+k*5+2,none⟩=some (.int .i64 xl):=be k _ hx 2 _ rfl;have c3:wr.cell? ⟨ba,oa+k*5+3,none⟩=some (.int .i64 xt):=be k _ hx 3 _ rfl;have c4:wr.cell? ⟨ba,oa+k*5+4,none⟩=some (.int .i64 xc):=be k _ hx 4 _ rfl;have zo:=bY0 nw l k;obtain⟨W1,bi⟩:=exq (wr.alloc (.cells #[.string xr,.string xs,.int .i64 xl,.int .i64 xt,.int .i64 xc] 52));have ag:Grows wr W1:=by rw[bi];exact Grows.alloc _ _
   have ev:=λj u h=>aT wr #[.string xr,.string xs,.int .i64 xl,.int .i64 xt,.int .i64 xc] 52 (0,0) j u h;rw[<-bi]at ev;have z0:∀x:Ext Grows W1.drew,x.u.cell? ⟨wr.heap.size,0,none⟩=some (.string xr):=aB ((Grows.drew W1).cell (ev 0 _ rfl));have z1:∀x:Ext Grows W1.drew,x.u.cell? ⟨wr.heap.size,1,none⟩=some (.string xs):=aB ((Grows.drew W1).cell (ev 1 _ rfl));have z2:∀x:Ext Grows W1.drew,x.u.cell? ⟨wr.heap.size,2,none⟩=some (.int .i64 xl):=aB ((Grows.drew W1).cell (ev 2 _ rfl));have z3:∀x:Ext Grows W1.drew,x.u.cell? ⟨wr.heap.size,3,none⟩=some (.int .i64 xt):=aB ((Grows.drew W1).cell (ev 3 _ rfl));have z4:∀x:Ext Grows W1.drew,x.u.cell? ⟨wr.heap.size,4,none⟩=some (.int .i64 xc):=aB ((Grows.drew W1).cell (ev 4 _ rfl));clear ev;by_cases h0:k=0
   ·have hK:Hid (dQ0 nw l k=true):=by show _=_;rw[h0];rfl
    have hkz:((k:Int)==0)=true:=by rw[h0];rfl
    have H0:=Aa h0;clear be hx h0;go_wp2_with fail
    rw[<-bi];clear bi;refine bE (aU 12 []) (by kernel_rfl) (λd _ _ _ _ h=>by cases d<;>exact h) ?_
    iterate 12 (refine aG rfl (λK hK=>?_);go_simp;refine hK _ ?_;clear hK K)
    clear z0 z1 z2 z3 z4;refine bH ?_;have az:=aa.grows ag.dr;have dg:=Grows.trans _ _ _ hg ag.dr;have HI:=Aa (rN0 hK.out);obtain⟨cd,cr⟩:=exq (gT nw l k);rw[<-cr]at az HI zo;clear cr aa ag hg;go_wp2_with (at_builtin;refine dE pB rfl _ _ rfl w.heap.size _ cd k rfl az (Grows.refl _) _ 1 rfl #[.int .i64 k] rfl rfl (by omega) dg.size ?_;intro v5 w5 ak _ _ bg)
    have HG5:=bg w dg (Aq _);rw[<-HI.out]at ak;go_wp2_with fail
    go_roundw
    case rel=>exact⟨k+1,by omega,by go_num,ak,HG5⟩
    case measure=>simp[intOf];omega
   ·obtain⟨⟨yr,ys,yl,yt,yc⟩,hy⟩:∃y,l[k-1]?=some y:=⟨_,Ah (by omega)⟩
    obtain⟨m,hm⟩:=exq (k-1);have hkz:((k:Int)==0)=false:=by simp;omega
    have wk:IntKind.i64.wrap ((k:Int)-1)=m:=by simp[Ae,Af,Ab];omega
    have hml:m<l.length:=by omega
    have hmi:(m:Int)<l.length:=by omega
    rw[<-hm]at hy;have d0:∀x:Ext Grows W1.drew,x.u.cell? ⟨ba,oa+m*5,none⟩=some (.string yr):=aB ((Grows.drew W1).cell (ag.cell (be m _ hy 0 _ rfl)));have d1:∀x:Ext Grows W1.drew,x.u.cell? ⟨ba,oa+m*5+1,none⟩=some (.string ys):=aB ((Grows.drew W1).cell (ag.cell (be m _ hy 1 _ rfl)));have d2:∀x:Ext Grows W1.drew,x.u.cell? ⟨ba,oa+m*5+2,none⟩=some (.int .i64 yl):=aB ((Grows.drew W1).cell (ag.cell (be m _ hy 2 _ rfl)));have d3:∀x:Ext Grows W1.drew,x.u.cell? ⟨ba,oa+m*5+3,none⟩=some (.int .i64 yt):=aB ((Grows.drew W1).cell (ag.cell (be m _ hy 3 _ rfl)));have d4:∀x:Ext Grows W1.drew,x.u.cell? ⟨ba,oa+m*5+4,none⟩=some (.int .i64 yc):=aB ((Grows.drew W1).cell (ag.cell (be m _ hy 4 _ rfl)));obtain⟨b,hb⟩:=exq (nw ⟨xr,xs,xl,xt,xc⟩ ⟨yr,ys,yl,yt,yc⟩)
    have HB:Hid (dQ0 nw l k=b):=by
     show _=_
     unfold dQ0;rw[show l.getD k enZero=⟨xr,xs,xl,xt,xc⟩ by rw[Ak,hx];rfl,<-hm,show l.getD m enZero=⟨yr,ys,yl,yt,yc⟩ by rw[Ak,hy];rfl,<-hb,show (k==0)=false by simpa using h0]
     rfl
    have CG:=λW=>Aa (HGG ⟨xr,xs,xl,xt,xc⟩ ⟨yr,ys,yl,yt,yc⟩ W).out;rw[<-hb]at CG;have HM:=Aa hm;have H0:=Aa h0;clear be hx hy hm hb h0;go_wp2_with fail
    rw[<-bi];clear bi;refine bE (aU 12 [10]) (by kernel_rfl) (λd _ _ _ _ h=>by cases d<;>exact h) ?_
    iterate 10 (refine aG rfl (λK hK=>?_);go_simp;refine hK _ ?_;clear hK K)
    refine aZ rfl rfl (λK hK=>?_);go_simp;refine((CG W1.drew).out).mono ?_;rintro e w2 ⟨rfl,af⟩;refine⟨af,hK _ _ ?_⟩;clear hK K;iterate 1 (refine aG rfl (λK hK=>?_);go_simp;refine hK _ ?_;clear hK K)
    clear z0 z1 z2 z3 z4 d0 d1 d2 d3 d4;refine bH ?_;have l7:=Grows.trans _ _ _ ag.dr af;have az:=aa.grows l7;have dg:=Grows.trans _ _ _ hg l7;obtain⟨cd,cr⟩:=exq (gT nw l k)
    cases b with
    | true =>
     have HI:=Aa (rN0 HB.out);rw[<-cr]at az HI zo;clear cr aa ag hg CG af l7;go_wp2_with (at_builtin;refine dE pB rfl _ _ rfl w.heap.size _ cd k rfl az (Grows.refl _) _ 1 rfl #[.int .i64 k] rfl rfl (by omega) dg.size ?_;intro v5 w5 ak _ _ bg)
     have HG5:=bg w dg (Aq _);rw[<-HI.out]at ak;go_wp2_with fail
     go_roundw
     case rel=>exact⟨k+1,by omega,by go_num,ak,HG5⟩
     case measure=>simp[intOf];omega
    | false =>
     have HI:=Aa (lP1 HB.out);rw[<-cr]at az HI zo;clear cr aa ag hg CG af l7;go_wp2_with fail
     rw[<-HI.out]at az;go_roundw
     case rel=>exact⟨k+1,by omega,by go_num,az,dg⟩
     case measure=>simp[intOf];omega
  ·obtain rfl:k=l.length:=by omega
   go_wp2_with fail
   go_ret;exact⟨hg,_,rfl,aa⟩
end
section
open Go Go.RowKit
attribute [local go_sem] aM aK
theorem oC1 {α:Type} {w w':World} {B base:Nat} {e:TypeId} {k:Nat} {enc:α->List Value} {v:Value} {xs:List α} (h:aV w base e k enc v xs) (hg:EB B w w') (hb:∀q,v.ownBlock=some q->q<B):aV w' base e k enc v xs:=by
 obtain⟨h1,h2⟩:=h;refine⟨h1,?_⟩;rcases h2 with h2|⟨g,cap,cm,hv,hbs,hh,r⟩
 ·exact Or.inl h2
 ·refine Or.inr ⟨g,cap,cm,hv,hbs,?_,r⟩
  rw[Below.block hg.1 g (hb g (by rw[hv];rfl))];exact hh
def kE (l:List Bool) (k:Nat):List Nat:=(Ar k).map λg=>eK l (512*g)
theorem jX0 (l:List Bool) (k:Nat):kE l (k+1)=kE l k++[eK l (512*k)]:=by
 unfold kE;rw[Ao,List.map_append];rfl
theorem pV0 (l:List Bool) (k:Nat):(kE l k).length=k:=by simp[kE]
theorem pU {l:List Bool} {k:Nat} (h:k<(l.length+63)/64):(nK l)[k]?=some (pE l k):=by
 unfold nK;rw[Am,Aj h];rfl
theorem gE (l:List Bool):(nK l).length=(l.length+63)/64:=by simp[nK]
theorem lQ0 {w w1 w2:World} {p:Nat} {row:Option Nat} (h:w.grownBy w1 (some p)) (k:w1.grownBy w2 row) (hr:∀q,row=some q->w.heap.size<=q):w.grownBy w2 (some p) :=
 ⟨k.os.trans h.os,k.tape.trans h.tape,k.output.trans h.output,Nat.le_trans h.size k.size,λi hi ai=>(k.block i (Nat.lt_of_lt_of_le hi h.size) (λe=>by have:=hr i e.symm;omega)).trans (h.block i hi ai)⟩
theorem pC0 {w w1:World} {p:Nat} (h:w.grownBy w1 (some p)) (j:Nat) (v:Value):w.grownBy (w1.setCell ⟨p,j,none⟩ v) (some p) :=
 ⟨h.os,h.tape,h.output,by simpa using h.size,λi hi ai=>(Below.heap_setCell _ _ _ i (λe=>ai (by rw[e]))).trans (h.block i hi ai)⟩
theorem fU0 {w w1:World} {p:Nat} (h:w.grownBy w1 (some p)) (hp:p<w.heap.size):EB p w w1 :=
 ⟨Below.grown (row:=some p) (Below.refl _ _) h (Nat.le_of_lt hp) (λk hk=>by cases hk;exact Aq _),h.size⟩
theorem mY0 (l:List Bool) (vb bw:Nat) (vW:Value) (w:World) (hl:l.length<=1048576) (hvw:∀r,vW.ownBlock=some r->r≠vb)
  (c1:w.cell? ⟨vb,1,none⟩=some vW) (c2:w.cell? ⟨vb,2,none⟩=some (.slice none 0 0)) (f2:w.frozen? ⟨vb,2,none⟩=false)
  (aa:aV w bw 144 1 kS vW (nK l)) :
  Calls Tryz.prog 139 #[.pointer (some ⟨vb,0,none⟩)] w λe w'=>e=.returned (.tuple #[])/\(∃vC,w'.cell? ⟨vb,2,none⟩=some vC/\aV w' w.heap.size 3 1 kG vC (kE l ((l.length+511)/512)))/\(∀j,j≠2->w'.cell? ⟨vb,j,none⟩=w.cell? ⟨vb,j,none⟩)/\w.grownBy w' (some vb):=by
 obtain⟨q,hq⟩:=exq ((l.length+63)/64);have y8:q<=16384:=by omega
 have hvl:=An w _ c1;simp only at hvl;obtain⟨aW,cW,rfl,_,_,i7⟩:=aa.at_ (enc:=kS) (λ_=>rfl);have HNE:Hid (∀r:Addr,aW=some r->some r.block≠some vb):=λr hr e=>hvw r.block (by rw[hr];rfl) (Option.some.inj e);have hWl:=gE l;rw[<-hq]at hWl;rw[hWl]at c1;have HWG:Hid (∀k,k<q->(nK l)[k]?=some (pE l k)):=λk hk=>pU (by omega);have HATW:=Aa i7;have HQ:Hid ((l.length+511)/512=(q+7)/8):=by show _=_;omega
 clear aa hq hWl i7 hvw;go_enter Tryz.func139,Tryz.ntmps139
 go_wp2_with fail
 go_loopw [2,10] (λn i wr=>∃(k N:Nat) (vC:Value),k<=q/\i=.int .i64 k/\n=.int .i64 N/\Hid (N=eK l (64*k))/\N<=64*k/\wr.cell? ⟨vb,1,none⟩=some (.slice aW q cW)/\wr.cell? ⟨vb,2,none⟩=some vC/\wr.frozen? ⟨vb,2,none⟩=false/\aV wr w.heap.size 3 1 kG vC (kE l ((k+7)/8))/\Hid (∀j,j≠2->wr.cell? ⟨vb,j,none⟩=w.cell? ⟨vb,j,none⟩)/\Hid (w.grownBy wr (some vb))) (λ_ i _=>q-(intOf i).toNat)
 case atStart=>exact⟨0,0,_,Ai _,rfl,rfl,rfl,Ai _,c1,c2,f2,aV.nil _ _ _ _ _,λ_ _=>rfl,mI _ _⟩
 case round =>
  obtain⟨k,N,vC,hk,rfl,rfl,hN,hNb,d1,d2,df,aa,hj,dh⟩:=hrel;have s6:w.heap.size<=wr.heap.size:=dh.out.size;by_cases ae:k<q
  ·obtain⟨wb,wo,rfl,zp⟩:=at1 (f:=λn:Nat=>Value.int .u64 n) (pP HATW.out dh.out HNE.out) (aH (k:=k) (by rw[gE];have:=(List.getElem?_eq_some_iff.1 (HWG.out k ae)).1;rw[gE]at this;exact this))
   have jp:=zp k _ (HWG.out k ae);clear zp;obtain⟨x,hx⟩:=exq (pE l k);have kr:x<18446744073709551616:=by rw[hx];exact qF l k
   rw[<-hx]at jp;obtain⟨S,hS⟩:=exq (cR0 2 64 x);have HN2:Hid (N+S=eK l (64*(k+1))):=by show _=_;rw[fK0,<-hN.out,hS,hx]
   have hNS:N+S<=64*(k+1):=by rw[HN2.out];exact oV _ _
   have CO:=λW=>iG0 x W kr;rw[<-hS]at CO;have cy:(k:Int)<q:=by omega
   have bh:=pV0 l ((k+7)/8);clear hx hS;by_cases h8:k%8=0
   ·have h8i:(k:Int)%8=0:=by omega
    have hC2:kE l ((k+1+7)/8)=kE l ((k+7)/8)++[N]:=by
     rw[show (k+1+7)/8=(k+7)/8+1 by omega,jX0,hN.out,show 512*((k+7)/8)=64*k by omega]
    have HC2:=Aa hC2;clear hC2;obtain⟨aC,cC,rfl,_,_,_⟩:=aa.at_ (enc:=kG) (λ_=>rfl);rw[bh]at d2 aa
    have hnr:some vb≠(Value.slice aC ((k+7)/8) cC).ownBlock:=λh=>by
     have:=bB aa _ h.symm
     omega
    go_wp2_with (at_builtin;refine dE pB rfl _ _ rfl w.heap.size (.slice aC ((k+7)/8) cC) (kE l ((k+7)/8)) N rfl aa (Grows.refl _) _ 1 rfl #[.int .i64 N] rfl rfl (by rw[bh];omega) s6 ?_;intro v' w5 ak rm hf5 bg;obtain⟨a5,c5,rfl,_,_,_⟩:=ak.at_ (enc:=kG) (λ_=>rfl);rw[show (kE l ((k+7)/8)++[N]).length=(k+7)/8+1 by rw[List.length_append,bh];rfl]at ak ⊢;have e1:=rm.cell d1 hnr;have e2:=rm.cell d2 hnr;have ef:w5.frozen? ⟨vb,2,none⟩=false:=(World.frozen?_of_block (a:=⟨vb,2,none⟩) (rm.block vb (by omega) hnr)).trans df)
    refine(CO _).mono ?_;rintro e w6 ⟨rfl,rfl⟩;go_wp2_with fail
    have hjj:∀j,j≠2->(w5.setCell ⟨vb,2,none⟩ (.slice a5 ((k+7)/8+1) c5)).cell? ⟨vb,j,none⟩=w.cell? ⟨vb,j,none⟩:=λj m4=>by
     rw[Ag _ _ _ _ (λh=>m4 (congrArg Addr.off h).symm),<-hj.out j m4];exact World.cell?_of_block (a:=⟨vb,j,none⟩) (rm.block vb (by omega) hnr)
    have aij:Hid (w.grownBy (w5.setCell ⟨vb,2,none⟩ (.slice a5 ((k+7)/8+1) c5)) (some vb)):=pC0 (lQ0 dh.out rm (λr hr=>bB aa r hr)) 2 _;go_roundw
    case rel=>exact⟨k+1,N+S,_,ae,by go_num,by go_num,HN2.out,hNS,(Ag _ _ _ _ (λh=>by cases h)).trans e1,World.cell?_setCell_same _ _ _ e2,(Ap _ _ _ _).trans ef,by rw[HC2.out];exact nH ak (p:=⟨vb,2,none⟩) hvl _,hjj,aij⟩
    case measure=>simp[intOf];omega
   ·have h8i:¬(k:Int)%8=0:=by omega
    have hC2:(k+1+7)/8=(k+7)/8:=by omega
    have HC2:=Aa hC2;clear hC2 bh;go_wp2_with fail
    refine(CO _).mono ?_;rintro e w6 ⟨rfl,rfl⟩;go_wp2_with fail
    go_roundw
    case rel=>exact⟨k+1,N+S,vC,ae,by go_num,by go_num,HN2.out,hNS,d1,d2,df,by rw[HC2.out];exact aa,hj.out,dh⟩
    case measure=>simp[intOf];omega
  ·have cy:¬(k:Int)<q:=by omega
   have jo:k=q:=by omega
   have HO:Hid (aV wr w.heap.size 3 1 kG vC (kE l ((l.length+511)/512))):=by show aV _ _ _ _ _ _ _;rw[HQ.out,<-jo];exact aa
   clear jo;go_wp2_with fail
   refine bodyPost_end (v:=.tuple #[]) (by simp[results,Tryz.results139,go_sem]) rfl ⟨rfl,⟨vC,d2,HO.out⟩,hj.out,dh.out⟩
def nU (l:List Bool) (q:Nat):List Nat:=(Ar q).map (pE l)
theorem nL (l:List Bool) (q:Nat):(nU l q).length=q:=by simp[nU]
theorem qZ {l:List Bool} {q k:Nat} (h:k<q):(nU l q)[k]?=some (pE l k):=by
 unfold nU;rw[Am,Aj h];rfl
theorem wE0 (q:Nat):nU [] q=List.replicate q 0:=by
 apply At
 intro k;by_cases hk:k<q
 ·rw[qZ hk,List.getElem?_replicate,if_pos hk,iT1]
 ·rw[Ac (by rw[nL];omega),Ac (by simp;omega)]
theorem lR0 (l:List Bool) (q:Nat):nU (l++[false]) q=nU l q:=by
 unfold nU;apply List.map_congr_left
 intro k _;exact vG0 l k
theorem oW0 {l:List Bool} {q Q S:Nat} (hS:S<64) (hQ:l.length=64*Q+S):nU (l++[true]) q=(nU l q).set Q (pE l Q|||(1<<<S)%18446744073709551616):=by
 apply At
 intro k;by_cases hk:k<q
 ·rw[qZ hk]
  by_cases zb:k=Q
  ·subst zb
   rw[List.getElem?_set_self (by rw[nL];exact hk),dC1 hQ]
  ·rw[List.getElem?_set_ne (Ne.symm zb),qZ hk,zN0 hS hQ zb]
 ·rw[Ac (by rw[nL];omega),Ac (by rw[List.length_set,nL];omega)]
structure jN (w:World) (vb:Nat) (l:List Bool):Prop where
 c0:w.cell? ⟨vb,0,none⟩=some (.int .i64 l.length)
 c1:∃vW,w.cell? ⟨vb,1,none⟩=some vW/\aV w 0 144 1 kS vW (nK l)
 c2:∃vC,w.cell? ⟨vb,2,none⟩=some vC/\aV w 0 3 1 kG vC (vV l)
theorem jN.grows {w w':World} {vb:Nat} {l:List Bool} (h:jN w vb l) (hg:Grows w w'):jN w' vb l:=by
 obtain⟨wb,h1,h2⟩:=h.c1;obtain⟨vC,h3,h4⟩:=h.c2;exact⟨hg.cell h.c0,⟨wb,hg.cell h1,h2.grows hg⟩,vC,hg.cell h3,h4.grows hg⟩
theorem pT1 {x S:Nat} (hx:x<18446744073709551616):bits .or .u64 (x:Int) (IntKind.u64.wrap ((2:Int)^S))=((x|||(1<<<S)%18446744073709551616:Nat):Int):=by
 have h:=jQ0 (v:=1) (S:=S) hx;rw[show ((1:Nat):Int)*2^S=(2:Int)^S by simp]at h
 exact h
theorem rJ0 (l:List Bool) (a:Option Addr) (c:Nat) (w:World) (hl:l.length<=1048576) (ac:aF w a 1 (l.map rT)) :
  Calls Tryz.prog 86 #[.slice a l.length c] w λe w'=>e=.returned (.tuple #[.pointer (some ⟨w.heap.size+1,0,none⟩),.int .i64 0])/\jN w' (w.heap.size+1) l/\Grows w w':=by
 have HAT:=Aa ac;obtain⟨q,hq⟩:=exq ((l.length+63)/64);have y8:q<=16384:=by omega
 have HQ:=Aa hq;have hlw:¬(1048576:Int)<l.length:=by omega
 have ue:((l.length:Int)+63)/64=q:=by omega
 have eq2:((l.length:Int)+63).tdiv 64=q:=by rw[Ad (by omega)];exact ue
 have wq:IntKind.i64.wrap (q:Int)=q:=by simp[Ae,Af,Ab];omega
 have ke:=λ(Y:World)=>pL1 q Y (by omega);clear ac hq;go_enter Tryz.func86,Tryz.ntmps86
 go_wp2_with fail
 have bk:=lE0 (w:=w) (n:=q) (by omega);rw[Nat.mul_one]at bk;obtain⟨W1,bi⟩:=exq (w.alloc (.cells (madeCells #[.int .u64 0] q) 144));have ei:W1.heap.size=w.heap.size+1:=by rw[bi];simp
 have fp:Grows w W1:=by rw[bi];exact Grows.alloc _ _
 rw[<-bi]at bk ⊢;obtain⟨W2,gm⟩:=exq (W1.alloc (.cells #[.int .i64 l.length,.slice (some ⟨w.heap.size,0,none⟩) q q,.slice none 0 0] 203));have ev:=λj u h=>aT W1 #[.int .i64 l.length,.slice (some ⟨w.heap.size,0,none⟩) q q,.slice none 0 0] 203 (0,0) j u h;rw[<-gm,ei]at ev;have b0:=ev 0 _ rfl;have b1:=ev 1 _ rfl;have b2:=ev 2 _ rfl;have bf:W2.frozen? ⟨w.heap.size+1,2,none⟩=false:=by rw[gm,<-ei];exact iP0 _ _ _ _
 have kt:Grows W1 W2:=by rw[gm];exact Grows.alloc _ _
 have aj:=bk.grows kt;have af:=fp.tr kt;rw[<-wE0 q]at aj;rw[<-gm];clear bi gm ev bk ei fp kt ke ue eq2 wq;go_loopw [21] (λi wr=>∃k:Nat,k<=l.length/\i=.int .i64 k/\wr.cell? ⟨w.heap.size+1,0,none⟩=some (.int .i64 l.length)/\wr.cell? ⟨w.heap.size+1,1,none⟩=some (.slice (some ⟨w.heap.size,0,none⟩) q q)/\wr.cell? ⟨w.heap.size+1,2,none⟩=some (.slice none 0 0)/\wr.frozen? ⟨w.heap.size+1,2,none⟩=false/\aV wr w.heap.size 144 1 kS (.slice (some ⟨w.heap.size,0,none⟩) q q) (nU (l.take k) q)/\Grows w wr) (λi _=>l.length-(intOf i).toNat)
 case atStart=>exact⟨0,Ai _,rfl,b0,b1,b2,bf,aj,af⟩
 case round =>
  obtain⟨k,hk,rfl,d0,d1,d2,df,aa,hg⟩:=hrel;by_cases ae:k<l.length
  ·obtain⟨x,hx⟩:∃x,l[k]?=some x:=⟨_,Ah ae⟩
   obtain⟨b,o,rfl,hc⟩:=at1 HAT.out (aH ae);have jp:=hg.cell (hc k x hx);have cy:(k:Int)<l.length:=by omega
   cases x
   ·have HO:Hid (aV wr w.heap.size 144 1 kS (.slice (some ⟨w.heap.size,0,none⟩) q q) (nU (l.take (k+1)) q)):=by show aV _ _ _ _ _ _ _;rw[bN hx,lR0];exact aa
    clear hc hx;go_wp2_with fail
    go_roundw
    case rel=>exact⟨k+1,ae,by go_num,d0,d1,d2,df,HO.out,hg⟩
    case measure=>simp[intOf];omega
   ·obtain⟨Q,hQ⟩:=exq (k/64)
    obtain⟨S,hS⟩:=exq (k%64);have ow:S<64:=by omega
    have vo:Q<q:=by have:=HQ.out;omega
    have eQ:(k:Int)/64=Q:=by omega
    have eS:(k:Int)%64=S:=by omega
    have hQi:(Q:Int)<q:=by omega
    have eT:(k:Int).tmod 64=S:=by rw[Al (by omega)];exact eS
    have wQ:IntKind.i64.wrap (Q:Int)=Q:=by simp[Ae,Af,Ab];omega
    have wS:IntKind.i64.wrap (S:Int)=S:=by simp[Ae,Af,Ab];omega
    obtain⟨y,hy⟩:=exq (pE (l.take k) Q);have lu:y<18446744073709551616:=by rw[hy];exact qF _ _
    have aa8:=aa.grows (Grows.drew wr);have e1:wr.cell? ⟨w.heap.size,Q,none⟩=some (.int .u64 y):=cU (f:=λn:Nat=>Value.int .u64 n) aa (by rw[qZ vo,hy]);obtain⟨f1,_,az⟩:=eC (f:=λn:Nat=>Value.int .u64 n) aa8 (k:=Q) (by rw[nL];exact vo) (y|||(1<<<S)%18446744073709551616)
    have hor:=pT1 (S:=S) lu;obtain⟨y1,mu⟩:=exq (y|||(1<<<S)%18446744073709551616)
    rw[<-mu]at hor az
    have HO:Hid (aV (wr.drew.setCell ⟨w.heap.size,Q,none⟩ (.int .u64 y1)) w.heap.size 144 1 kS (.slice (some ⟨w.heap.size,0,none⟩) q q) (nU (l.take (k+1)) q)):=by
     show aV _ _ _ _ _ _ _
     rw[bN hx,oW0 (Q:=Q) ow (by rw[List.length_take];omega),<-hy,<-mu];exact az
    have z1:∀x:Ext Grows wr.drew,x.u.cell? ⟨w.heap.size+1,1,none⟩=some (.slice (some ⟨w.heap.size,0,none⟩) q q):=aB ((Grows.drew wr).cell d1);have z2:∀x:Ext Grows wr.drew,x.u.cell? ⟨w.heap.size,Q,none⟩=some (.int .u64 y):=aB ((Grows.drew wr).cell e1);clear hc hx hQ hS hy mu az aa8;go_wp2_with fail
    refine qA 12 (aU 12 []) (by kernel_rfl) (λd _ _ _ _ h=>by cases d<;>exact h) ?_
    iterate 12 (refine aG rfl (λK hK=>?_);go_simp;refine hK _ ?_;clear hK K)
    clear z1 z2;refine bH ?_;simp only[List.drop_succ_cons,List.drop_zero];go_wp2_with fail
    have h0:∀j,(wr.drew.setCell ⟨w.heap.size,Q,none⟩ (.int .u64 y1)).cell? ⟨w.heap.size+1,j,none⟩=wr.cell? ⟨w.heap.size+1,j,none⟩:=λj=>Ag _ _ _ _ (λh=>by have:=congrArg Addr.block h;simp at this);go_roundw
    case rel=>exact⟨k+1,ae,by go_num,(h0 0).trans d0,(h0 1).trans d1,(h0 2).trans d2,(Ap _ _ _ _).trans df,HO.out,(hg.dr).set (Aq _) _⟩
    case measure=>simp[intOf];omega
  ·have cy:¬(k:Int)<l.length:=by omega
   have jo:k=l.length:=by omega
   rw[jo,List.take_length]at aa;have fe:=d1;have ax:=aa;rw[HQ.out]at fe ax;have CC:=mY0 l (w.heap.size+1) w.heap.size _ wr hl (λr hr=>by have:w.heap.size=r:=Option.some.inj hr;omega) fe d2 df ax;clear jo fe;go_wp2_with fail
   refine CC.mono ?_;rintro e w5 ⟨rfl,⟨vC,g2,kh⟩,hj,oe⟩;have aca:w.heap.size+1<wr.heap.size:=An wr _ d0;have dh:=fU0 oe aca
   have HV:Hid (jN w5 (w.heap.size+1) l):=by
    refine⟨by rw[hj 0 (by decide)];exact d0,⟨.slice (some ⟨w.heap.size,0,none⟩) ((l.length+63)/64) ((l.length+63)/64),?_,?_⟩,vC,g2,kh.base (Ai _)⟩
    ·rw[hj 1 (by decide),<-HQ.out];exact d1
    ·exact(oC1 ax dh (λr hr=>by have:w.heap.size=r:=Option.some.inj hr;omega)).base (Ai _)
   have bg:Grows w w5:=Below.trans hg (Below.mono dh.1 (Nat.le_succ _));clear hj dh ax aa kh g2;go_wp2_with fail
   refine bodyPost_ret (v:=.tuple #[.pointer (some ⟨w.heap.size+1,0,none⟩),.int .i64 0]) (by simp[results,Tryz.results86,go_sem]) rfl ⟨rfl,HV.out,bg⟩
theorem fH1 {l:List Bool} {k:Nat} (h:k<(l.length+511)/512):(vV l)[k]?=some (eK l (512*k)):=by
 unfold vV;rw[Am,Aj h];rfl
theorem tG (l:List Bool) (vb:Nat) (w:World) (ac:jN w vb l) :
  Calls Tryz.prog 143 #[.pointer (some ⟨vb,0,none⟩)] w λe w'=>e=.returned (.int .i64 l.length)/\w=w':=by
 have c0:=ac.c0;clear ac;go_enter Tryz.func143,Tryz.ntmps143
 go_wp2_with fail
 go_ret;exact⟨rfl,rfl⟩
theorem rC (l:List Bool) (vb:Nat) (b:Bool) (i:Nat) (w:World) (hl:l.length<=1048576) (hi:i<=1048576) (ac:jN w vb l) :
  Calls Tryz.prog 90 #[.pointer (some ⟨vb,0,none⟩),.bool b,.int .i64 i] w λe w'=>e=.returned (.int .i64 (kD l b (min i l.length)))/\w=w':=by
 obtain⟨vW,h1,h2⟩:=ac.c1;obtain⟨aW,cW,rfl,_,_,i7⟩:=h2.at_ (enc:=kS) (λ_=>rfl);have s7:=gE l;rw[s7]at h1;obtain⟨vC,h3,h4⟩:=ac.c2;have CL:=Aa (tG l vb w ac);obtain⟨aC,cC,rfl,_,_,s8⟩:=h4.at_ (enc:=kG) (λ_=>rfl);have bh:(vV l).length=(l.length+511)/512:=by simp[vV]
 rw[bh]at h3;have c0:=ac.c0;obtain⟨m,hm⟩:=exq (min i l.length);rw[<-hm];have hml:m<=l.length:=by omega
 by_cases hm0:m=0
 ·have hv:kD l b m=0:=by subst hm0;cases b<;>rfl
  have e1:min (i:Int) l.length=0:=by omega
  have e2:max (0:Int) 0=0:=rfl;rw[hv];clear ac h1 h2 h3 h4 s8 i7 hv s7;go_enter Tryz.func90,Tryz.ntmps90
  go_wp2_with fail
  refine CL.out.mono ?_;rintro e w2 ⟨rfl,rfl⟩;go_wp2_with fail
  go_ret;exact⟨rfl,rfl⟩
 ·obtain⟨b1,o1,rfl,hcC⟩:=at1 (f:=λn:Nat=>Value.int .i64 n) s8 (aH (k:=0) (by rw[bh];omega))
  obtain⟨bW,oW,rfl,zp⟩:=at1 (f:=λn:Nat=>Value.int .u64 n) i7 (aH (k:=0) (by rw[s7];omega));have bv:∀k,k<(l.length+63)/64->w.cell? ⟨bW,oW+k,none⟩=some (.int .u64 (pE l k)):=λk hk=>zp k _ (pU hk);have HC:=Aa bv;obtain⟨L,hL⟩:=exq ((m-1)/64);have hLq:L<(l.length+63)/64:=by omega
  have jp:=hcC (L/8) _ (fH1 (l:=l) (k:=L/8) (by omega));have eL:((m:Int)-1).tdiv 64=L:=by rw[Ad (by omega)];omega
  have eL8:(L:Int).tdiv 8=(L/8:Nat):=by rw[Ad (by omega)];omega
  have eM:((m:Int)-1).tmod 64=((m-1)%64:Nat):=by rw[Al (by omega)];omega
  have e1:min (i:Int) l.length=m:=by omega
  have e2:max (0:Int) m=m:=by omega
  obtain⟨R0,hR0⟩:=exq (eK l (512*(L/8)));rw[<-hR0]at jp;have aik:R0<=512*(L/8):=by rw[hR0];exact oV _ _
  have HR0:Hid (R0=eK l (64*(8*(L/8)))):=by show _=_;rw[hR0];congr 1;omega
  obtain⟨q,hq⟩:=exq ((l.length+63)/64);obtain⟨q5,hq5⟩:=exq ((l.length+511)/512);have hL5:L/8<q5:=by omega
  have hLm:L<=16384:=by omega
  rw[<-hq]at h1 hLq HC;rw[<-hq5]at h3;obtain⟨L8,hL8⟩:=exq (L/8);have ail:8*L8<=L:=by omega
  rw[<-hL8]at jp eL8 HR0 hL5 aik;have HL:=Aa hL;have HL8:=Aa hL8;clear ac h2 h4 s8 hcC bv zp i7 s7 hq hq5 hR0 bh hL hL8;have em:min i l.length=m:=hm.symm;clear hm;have fL:((m:Int)-1)/64=L:=by have:=HL.out;omega
  have gL:(m-1)/64=L:=HL.out.symm;have fL8:(L:Int)/8=L8:=by have:=HL8.out;omega
  have gL8:L/8=L8:=HL8.out.symm;have wL8:IntKind.i64.wrap ((L8:Int)*8)=(8*L8:Nat):=by simp[Ae,Af,Ab];omega
  go_enter Tryz.func90,Tryz.ntmps90
  go_wp2_with fail
  refine CL.out.mono ?_;rintro e w2 ⟨rfl,rfl⟩;go_wp2_with fail
  have hmz:((m:Int)==0)=false:=by simp;omega
  rw[hmz];clear hmz;go_loopw [8,9] (λn k wr=>∃(K N:Nat),K<=L/\k=.int .i64 K/\n=.int .i64 N/\Hid (N=eK l (64*K))/\N<=64*K/\Hid (wr=w)) (λ_ k _=>L-(intOf k).toNat)
  case atStart=>exact⟨8*L8,R0,ail,by go_num,rfl,HR0.out,by omega,rfl⟩
  case round =>
   obtain⟨K,N,hK,rfl,rfl,hN,hNb,hw⟩:=hrel;obtain rfl:=hw.out;have hKq:K<q:=by omega
   have jp:=HC.out K hKq;obtain⟨x,hx⟩:=exq (pE l K);have kr:x<18446744073709551616:=by rw[hx];exact qF l K
   rw[<-hx]at jp;by_cases ae:K<L
   ·obtain⟨S,hS⟩:=exq (cR0 2 64 x)
    have HN2:Hid (N+S=eK l (64*(K+1))):=by show _=_;rw[fK0,<-hN.out,hS,hx]
    have hNS:N+S<=64*(K+1):=by rw[HN2.out];exact oV _ _
    have CO:=λW=>iG0 x W kr;rw[<-hS]at CO;have cy:(K:Int)<L:=by omega
    clear hx hS;go_wp2_with fail
    refine(CO _).mono ?_;rintro e w6 ⟨rfl,rfl⟩;go_wp2_with fail
    go_roundw
    case rel=>exact⟨K+1,N+S,ae,by go_num,by go_num,HN2.out,hNS,trivial⟩
    case measure=>simp[intOf];omega
   ·have cy:¬(K:Int)<L:=by omega
    obtain rfl:K=L:=by omega
    obtain⟨s,hs⟩:=exq ((m-1)%64);have aim:s<64:=by omega
    have eS:((m:Int)-1)%64=s:=by omega
    rw[<-hs]at eM;obtain⟨y,hy⟩:=exq ((x<<<(63-s))%18446744073709551616);have lu:y<18446744073709551616:=by rw[hy];exact Nat.mod_lt _ (by decide)
    obtain⟨S,hS⟩:=exq (cR0 2 64 y);have HN2:Hid (N+S=eK l m):=by show _=_;rw[hN.out,hS,hy,hx,cI1 l K s aim];congr 1;have:=HL.out;omega
    have hNS:N+S<=m:=by rw[HN2.out];exact oV _ _
    have CO:=λW=>iG0 y W lu;rw[<-hS]at CO
    have HY:Hid (IntKind.u64.wrap ((x:Int)*2^(63-s))=y):=by
     show _=_
     rw[hy,Nat.shiftLeft_eq,show (x:Int)*2^(63-s)=((x*2^(63-s):Nat):Int) by push_cast;rfl]
     generalize x*2^(63-s)=N;simp[Ae,Af,Ab]
    have hsm:(m-1)%64=s:=hs.symm;clear hx hS hy hs;go_wp2_with fail
    rw[HY.out];refine(CO _).mono ?_;rintro e w6 ⟨rfl,rfl⟩;have hnp:min (m:Int) (N+S)=N+S:=by omega
    have fw:kD l true m=N+S:=HN2.out.symm;have eo:kD l false m=m-(N+S):=by rw[HN2.out];rfl
    cases b
    ·go_wp2_with fail
     go_ret;refine⟨?_,rfl⟩;rw[eo];congr 2
     rw[Int.ofNat_sub hNS];push_cast
     rfl
    ·go_wp2_with fail
     go_ret;exact⟨by rw[fw];congr 2,rfl⟩
theorem iP1 (l:List Bool) (vb b1 b2 b3:Nat) (b:Bool) (k i:Nat) (w:World) (hl:l.length<=1048576) (hi:i<l.length) (ac:jN w vb l)
  (c1:w.cell? ⟨b1,0,none⟩=some (.pointer (some ⟨vb,0,none⟩))) (c2:w.cell? ⟨b2,0,none⟩=some (.bool b)) (c3:w.cell? ⟨b3,0,none⟩=some (.int .i64 k)) :
  Calls Tryz.prog 146 #[.int .i64 i,.pointer (some ⟨b1,0,none⟩),.pointer (some ⟨b2,0,none⟩),.pointer (some ⟨b3,0,none⟩)] w λe w'=>e=.returned (.bool (decide (k<kD l b (i+1))))/\w'=w.drew:=by
 obtain⟨R,hR⟩:=exq (kD l b (i+1))
 have CR:Hid (∀u,Grows w u->Calls Tryz.prog 90 #[.pointer (some ⟨vb,0,none⟩),.bool b,.int .i64 ((i:Int)+1)] u λe w'=>e=.returned (.int .i64 R)/\u=w'):=by
  intro u hg;have h:=rC l vb b (i+1) u hl (by omega) (ac.grows hg);rw[Nat.min_eq_left (by omega:i+1<=l.length),<-hR]at h;exact h
 rw[<-hR];have z1:∀x:Ext Grows w.drew,x.u.cell? ⟨b1,0,none⟩=some (.pointer (some ⟨vb,0,none⟩)):=aB ((Grows.drew w).cell c1);have z2:∀x:Ext Grows w.drew,x.u.cell? ⟨b2,0,none⟩=some (.bool b):=aB ((Grows.drew w).cell c2);have z3:∀x:Ext Grows w.drew,x.u.cell? ⟨b3,0,none⟩=some (.int .i64 k):=aB ((Grows.drew w).cell c3);have afp:decide ((k:Int)<R)=decide (k<R):=by simp
 have wi:IntKind.i64.wrap ((i:Int)+1)=(i:Int)+1:=by simp[Ae,Af,Ab];omega
 clear ac hR;go_enter Tryz.func146,Tryz.ntmps146
 go_wp2_with fail
 refine bE (aU 8 []) (by kernel_rfl) (λd _ _ _ _ h=>by cases d<;>exact h) ?_
 iterate 4 (refine aG rfl (λK hK=>?_);go_simp;refine hK _ ?_;clear hK K)
 refine aG rfl (λK hK=>?_);go_simp;apply Exists.intro
 refine⟨λx=>?_,hK _ ?_⟩
 ·go_at_call 90;exact aY (CR.out _ ((Grows.drew w).tr x.h))
 clear hK K;iterate 3 (refine aG rfl (λK hK=>?_);go_simp;refine hK _ ?_;clear hK K)
 refine bH ?_;go_wp2_with fail
 go_ret;exact⟨by simp,rfl⟩
end
end Go.Proofs.YtheiocndipepaaaGreatDoor
