/- The texts Bidx BvC BvN Rnk Sel, one behind the other. -/
import Derived.Test.YthgklnohcmaopaaGreatDoorTq3
import Derived.Test.YthgklnohcmaopaaGreatDoorTq26
import Derived.Test.YthgklnohcmaopaaGreatDoorTq28
import Derived.Test.YthgklnohcmaopaaGreatDoorTq20
import Derived.Test.YthgklnohcmaopaaGreatDoorTq5
import Derived.Test.YthgklnohcmaopaaGreatDoorTq4
open Go.Lib renaming hid → Aa
open Go.IntKind renaming signed → Ab,wrap → Ae,bits → Af
open List renaming getElem?_eq_none → Ac,getElem?_eq_getElem → Ah,getElem?_range → Aj,getD_eq_getElem?_getD → Ak,getElem?_map → Am,range_succ → Ao,filter_append → Ar,ext_getElem? → As,range → At
open Int renaming tdiv_eq_ediv_of_nonneg → Ad,tmod_eq_emod_of_nonneg → Al
open Go.World renaming cell?_setCell_other → Ag,block_lt_of_cell? → An,frozen?_setCell → Ap
open Nat renaming zero_le → Ai,le_refl → Aq
set_option maxHeartbeats 8000000
namespace Go.Proofs.YthgklnohcmaopaaGreatDoor
set_option maxRecDepth 100000
section
open Go Go.RowKit Go.Shelf
attribute [local go_sem] aK aP
def nC0 (nw:En->En->Bool) (l:List En) (i:Nat):Bool:=i==0||nw (l.getD i eK) (l.getD (i-1) eK)
def qP (nw:En->En->Bool) (l:List En) (k:Nat):List Nat:=(At k).filter (nC0 nw l)
theorem kT0 {nw:En->En->Bool} {l:List En} {k:Nat} (h:nC0 nw l k=true):qP nw l (k+1)=qP nw l k++[k]:=by
 unfold qP;rw[Ao,Ar];simp[h]
theorem aZ1 {nw:En->En->Bool} {l:List En} {k:Nat} (h:nC0 nw l k=false):qP nw l (k+1)=qP nw l k:=by
 unfold qP;rw[Ao,Ar];simp[h]
theorem xP (nw:En->En->Bool) (l:List En) (k:Nat):(qP nw l k).length<=k:=by
 grind [qP]
theorem tZ (nw:En->En->Bool) (g:Nat) (eg:∀args w,(callFunc g args).run Tryz.prog w=.ok (.enter g args) w) (HG:∀(x y:En) w,Calls Tryz.prog g #[x.agg,y.agg] w λe w'=>e=.returned (.bool (nw x y))/\aB w w')
  (l:List En) (a:Option Addr) (c:Nat) (w:World) (hl:l.length<=1048576) (ac:aF w a 5 (l.map aZ)) :
  Calls Tryz.prog 57 #[.slice a l.length c,.func (.func g) #[] #[]] w λe w'=>aB w w'/\∃v,e=.returned v/\aU w' w.heap.size 3 1 gU v (qP nw l l.length):=by
 have HAT:=Aa ac;have HGG:=λx y w=>Aa (HG x y w);clear ac HG;go_enter Tryz.func57,Tryz.ntmps57
 go_wp2_with fail
 go_loopw [5,10] (λv i wr=>∃(k:Nat),k<=l.length/\i=.int .i64 k/\aU wr w.heap.size 3 1 gU v (qP nw l k)/\aB w wr) (λ_ i _=>l.length-(intOf i).toNat)
 case atStart=>exact⟨0,Ai _,rfl,aU.nil _ _ _ _ _,aB.refl _⟩
 case round =>
  obtain⟨k,hk,rfl,aa,hg⟩:=hrel;by_cases ae:k<l.length
  ·obtain⟨⟨xr,xs,xl,xt,xc⟩,hx⟩:∃x,l[k]?=some x:=⟨_,Ah ae⟩
   obtain⟨ba,oa,rfl,ci⟩:=(HAT.out.grows hg).get (aH ae);have c0:wr.cell? ⟨ba,oa+k*5,none⟩=some (.string xr):=ci k _ hx 0 _ rfl;have c1:wr.cell? ⟨ba,oa+k*5+1,none⟩=some (.string xs):=ci k _ hx 1 _ rfl;have c2:wr.cell? ⟨ba,oa+k*5+2,none⟩=some (.int .i64 xl):=ci k _ hx 2 _ rfl;have c3:wr.cell? ⟨ba,oa+k*5+3,none⟩=some (.int .i64 xt):=ci k _ hx 3 _ rfl;have c4:wr.cell? ⟨ba,oa+k*5+4,none⟩=some (.int .i64 xc):=ci k _ hx 4 _ rfl;have rq:=xP nw l k;obtain⟨W1,cq⟩:=exq (wr.alloc (.cells #[.string xr,.string xs,.int .i64 xl,.int .i64 xt,.int .i64 xc] 30));have aj:aB wr W1:=by rw[cq];exact aB.alloc _ _
   have eo:=λj u h=>aM wr #[.string xr,.string xs,.int .i64 xl,.int .i64 xt,.int .i64 xc] 30 (0,0) j u h;rw[<-cq]at eo;have z0:∀x:Ext aB W1.drew,x.u.cell? ⟨wr.heap.size,0,none⟩=some (.string xr):=aG ((aB.drew W1).cell (eo 0 _ rfl));have z1:∀x:Ext aB W1.drew,x.u.cell? ⟨wr.heap.size,1,none⟩=some (.string xs):=aG ((aB.drew W1).cell (eo 1 _ rfl));have z2:∀x:Ext aB W1.drew,x.u.cell? ⟨wr.heap.size,2,none⟩=some (.int .i64 xl):=aG ((aB.drew W1).cell (eo 2 _ rfl));have z3:∀x:Ext aB W1.drew,x.u.cell? ⟨wr.heap.size,3,none⟩=some (.int .i64 xt):=aG ((aB.drew W1).cell (eo 3 _ rfl));have z4:∀x:Ext aB W1.drew,x.u.cell? ⟨wr.heap.size,4,none⟩=some (.int .i64 xc):=aG ((aB.drew W1).cell (eo 4 _ rfl));clear eo;by_cases h0:k=0
   ·have hK:Hid (nC0 nw l k=true):=by show _=_;rw[h0];rfl
    have hkz:((k:Int)==0)=true:=by rw[h0];rfl
    have H0:=Aa h0;clear ci hx h0;go_wp2_with fail
    rw[<-cq];clear cq;refine bP (bB 12 []) (by kernel_rfl) (λd _ _ _ _ h=>by cases d<;>exact h) ?_
    iterate 12 (refine aO rfl (λK hK=>?_);go_simp;refine hK _ ?_;clear hK K)
    clear z0 z1 z2 z3 z4;refine bU ?_;have av:=aa.grows aj.dr;have cd:=aB.trans _ _ _ hg aj.dr;have HI:=Aa (kT0 hK.out);obtain⟨acc,bh⟩:=exq (qP nw l k);rw[<-bh]at av HI rq;clear bh aa aj hg;go_wp2_with (at_builtin;refine eZ jK0 rfl _ _ rfl w.heap.size _ acc k rfl av (aB.refl _) _ 1 rfl #[.int .i64 k] rfl rfl (by omega) cd.size ?_;intro v5 w5 ak _ _ bk)
    have HG5:=bk w cd (Aq _);rw[<-HI.out]at ak;go_wp2_with fail
    go_roundw
    case rel=>exact⟨k+1,by omega,by go_num,ak,HG5⟩
    case measure=>simp[intOf];omega
   ·obtain⟨⟨yr,ys,yl,yt,yc⟩,hy⟩:∃y,l[k-1]?=some y:=⟨_,Ah (by omega)⟩
    obtain⟨m,hm⟩:=exq (k-1);have hkz:((k:Int)==0)=false:=by simp;omega
    have wk:IntKind.i64.wrap ((k:Int)-1)=m:=by simp[Ae,Af,Ab];omega
    have hml:m<l.length:=by omega
    have wu:(m:Int)<l.length:=by omega
    rw[<-hm]at hy;have d0:∀x:Ext aB W1.drew,x.u.cell? ⟨ba,oa+m*5,none⟩=some (.string yr):=aG ((aB.drew W1).cell (aj.cell (ci m _ hy 0 _ rfl)));have d1:∀x:Ext aB W1.drew,x.u.cell? ⟨ba,oa+m*5+1,none⟩=some (.string ys):=aG ((aB.drew W1).cell (aj.cell (ci m _ hy 1 _ rfl)));have d2:∀x:Ext aB W1.drew,x.u.cell? ⟨ba,oa+m*5+2,none⟩=some (.int .i64 yl):=aG ((aB.drew W1).cell (aj.cell (ci m _ hy 2 _ rfl)));have d3:∀x:Ext aB W1.drew,x.u.cell? ⟨ba,oa+m*5+3,none⟩=some (.int .i64 yt):=aG ((aB.drew W1).cell (aj.cell (ci m _ hy 3 _ rfl)));have d4:∀x:Ext aB W1.drew,x.u.cell? ⟨ba,oa+m*5+4,none⟩=some (.int .i64 yc):=aG ((aB.drew W1).cell (aj.cell (ci m _ hy 4 _ rfl)));obtain⟨b,hb⟩:=exq (nw ⟨xr,xs,xl,xt,xc⟩ ⟨yr,ys,yl,yt,yc⟩)
    have HB:Hid (nC0 nw l k=b):=by
     show _=_
     unfold nC0;rw[show l.getD k eK=⟨xr,xs,xl,xt,xc⟩ by rw[Ak,hx];rfl,<-hm,show l.getD m eK=⟨yr,ys,yl,yt,yc⟩ by rw[Ak,hy];rfl,<-hb,show (k==0)=false by simpa using h0]
     rfl
    have CG:=λW=>Aa (HGG ⟨xr,xs,xl,xt,xc⟩ ⟨yr,ys,yl,yt,yc⟩ W).out;rw[<-hb]at CG;have HM:=Aa hm;have H0:=Aa h0;clear ci hx hy hm hb h0;go_wp2_with fail
    rw[<-cq];clear cq;refine bP (bB 12 [10]) (by kernel_rfl) (λd _ _ _ _ h=>by cases d<;>exact h) ?_
    iterate 10 (refine aO rfl (λK hK=>?_);go_simp;refine hK _ ?_;clear hK K)
    refine cH rfl rfl (λK hK=>?_);go_simp;refine((CG W1.drew).out).mono ?_;rintro e w2 ⟨rfl,af⟩;refine⟨af,hK _ _ ?_⟩;clear hK K;iterate 1 (refine aO rfl (λK hK=>?_);go_simp;refine hK _ ?_;clear hK K)
    clear z0 z1 z2 z3 z4 d0 d1 d2 d3 d4;refine bU ?_;have dn:=aB.trans _ _ _ aj.dr af;have av:=aa.grows dn;have cd:=aB.trans _ _ _ hg dn;obtain⟨acc,bh⟩:=exq (qP nw l k)
    cases b with
    | true =>
     have HI:=Aa (kT0 HB.out);rw[<-bh]at av HI rq;clear bh aa aj hg CG af dn;go_wp2_with (at_builtin;refine eZ jK0 rfl _ _ rfl w.heap.size _ acc k rfl av (aB.refl _) _ 1 rfl #[.int .i64 k] rfl rfl (by omega) cd.size ?_;intro v5 w5 ak _ _ bk)
     have HG5:=bk w cd (Aq _);rw[<-HI.out]at ak;go_wp2_with fail
     go_roundw
     case rel=>exact⟨k+1,by omega,by go_num,ak,HG5⟩
     case measure=>simp[intOf];omega
    | false =>
     have HI:=Aa (aZ1 HB.out);rw[<-bh]at av HI rq;clear bh aa aj hg CG af dn;go_wp2_with fail
     rw[<-HI.out]at av;go_roundw
     case rel=>exact⟨k+1,by omega,by go_num,av,cd⟩
     case measure=>simp[intOf];omega
  ·obtain rfl:k=l.length:=by omega
   go_wp2_with fail
   go_ret;exact⟨hg,_,rfl,aa⟩
end
section
open Go Go.RowKit
attribute [local go_sem] aK aP
theorem zJ0 {α:Type} {w w':World} {B base:Nat} {e:TypeId} {k:Nat} {enc:α->List Value} {v:Value} {xs:List α} (h:aU w base e k enc v xs) (hg:EB B w w') (hb:∀q,v.ownBlock=some q->q<B):aU w' base e k enc v xs:=by
 obtain⟨h1,h2⟩:=h;refine⟨h1,?_⟩;rcases h2 with h2|⟨g,cap,bv,hv,hbs,hh,r⟩
 ·exact Or.inl h2
 ·refine Or.inr ⟨g,cap,bv,hv,hbs,?_,r⟩
  rw[Below.block hg.1 g (hb g (by rw[hv];rfl))];exact hh
def gQ (l:List Bool) (k:Nat):List Nat:=(At k).map λg=>fB l (512*g)
theorem fV0 (l:List Bool) (k:Nat):gQ l (k+1)=gQ l k++[fB l (512*k)]:=by
 unfold gQ;rw[Ao,List.map_append];rfl
theorem iQ0 (l:List Bool) (k:Nat):(gQ l k).length=k:=by simp[gQ]
theorem eW0 {l:List Bool} {k:Nat} (h:k<(l.length+63)/64):(tK l)[k]?=some (sG l k):=by
 unfold tK;rw[Am,Aj h];rfl
theorem mQ (l:List Bool):(tK l).length=(l.length+63)/64:=by simp[tK]
theorem dD0 {w w1 w2:World} {p:Nat} {row:Option Nat} (h:w.grownBy w1 (some p)) (k:w1.grownBy w2 row) (hr:∀q,row=some q->w.heap.size<=q):w.grownBy w2 (some p) :=
 ⟨k.os.trans h.os,k.tape.trans h.tape,k.output.trans h.output,Nat.le_trans h.size k.size,λi hi ai=>(k.block i (Nat.lt_of_lt_of_le hi h.size) (λe=>by have:=hr i e.symm;omega)).trans (h.block i hi ai)⟩
theorem gZ0 {w w1:World} {p:Nat} (h:w.grownBy w1 (some p)) (j:Nat) (v:Value):w.grownBy (w1.setCell ⟨p,j,none⟩ v) (some p) :=
 ⟨h.os,h.tape,h.output,by simpa using h.size,λi hi ai=>(Below.heap_setCell _ _ _ i (λe=>ai (by rw[e]))).trans (h.block i hi ai)⟩
theorem mR0 {w w1:World} {p:Nat} (h:w.grownBy w1 (some p)) (hp:p<w.heap.size):EB p w w1 :=
 ⟨Below.grown (row:=some p) (Below.refl _ _) h (Nat.le_of_lt hp) (λk hk=>by cases hk;exact Aq _),h.size⟩
theorem pG0 (l:List Bool) (vb bw:Nat) (vW:Value) (w:World) (hl:l.length<=1048576) (hvw:∀r,vW.ownBlock=some r->r≠vb)
  (c1:w.cell? ⟨vb,1,none⟩=some vW) (c2:w.cell? ⟨vb,2,none⟩=some (.slice none 0 0)) (f2:w.frozen? ⟨vb,2,none⟩=false)
  (aa:aU w bw 213 1 kH vW (tK l)) :
  Calls Tryz.prog 183 #[.pointer (some ⟨vb,0,none⟩)] w λe w'=>e=.returned (.tuple #[])/\(∃vC,w'.cell? ⟨vb,2,none⟩=some vC/\aU w' w.heap.size 3 1 gU vC (gQ l ((l.length+511)/512)))/\(∀j,j≠2->w'.cell? ⟨vb,j,none⟩=w.cell? ⟨vb,j,none⟩)/\w.grownBy w' (some vb):=by
 obtain⟨q,hq⟩:=exq ((l.length+63)/64);have ue:q<=16384:=by omega
 have hvl:=An w _ c1;simp only at hvl;obtain⟨aW,cW,rfl,_,_,i6⟩:=aa.at_ (enc:=kH) (λ_=>rfl);have HNE:Hid (∀r:Addr,aW=some r->some r.block≠some vb):=λr hr e=>hvw r.block (by rw[hr];rfl) (Option.some.inj e);have hWl:=mQ l;rw[<-hq]at hWl;rw[hWl]at c1;have HWG:Hid (∀k,k<q->(tK l)[k]?=some (sG l k)):=λk hk=>eW0 (by omega);have HATW:=Aa i6;have HQ:Hid ((l.length+511)/512=(q+7)/8):=by show _=_;omega
 clear aa hq hWl i6 hvw;go_enter Tryz.func183,Tryz.ntmps183
 go_wp2_with fail
 go_loopw [2,10] (λn i wr=>∃(k N:Nat) (vC:Value),k<=q/\i=.int .i64 k/\n=.int .i64 N/\Hid (N=fB l (64*k))/\N<=64*k/\wr.cell? ⟨vb,1,none⟩=some (.slice aW q cW)/\wr.cell? ⟨vb,2,none⟩=some vC/\wr.frozen? ⟨vb,2,none⟩=false/\aU wr w.heap.size 3 1 gU vC (gQ l ((k+7)/8))/\Hid (∀j,j≠2->wr.cell? ⟨vb,j,none⟩=w.cell? ⟨vb,j,none⟩)/\Hid (w.grownBy wr (some vb))) (λ_ i _=>q-(intOf i).toNat)
 case atStart=>exact⟨0,0,_,Ai _,rfl,rfl,rfl,Ai _,c1,c2,f2,aU.nil _ _ _ _ _,λ_ _=>rfl,sW _ _⟩
 case round =>
  obtain⟨k,N,vC,hk,rfl,rfl,hN,hNb,d1,d2,df,aa,hj,ck⟩:=hrel;have mw:w.heap.size<=wr.heap.size:=ck.out.size;by_cases ae:k<q
  ·obtain⟨wb,wo,rfl,hcW⟩:=at1 (f:=λn:Nat=>Value.int .u64 n) (cE0 HATW.out ck.out HNE.out) (aH (k:=k) (by rw[mQ];have:=(List.getElem?_eq_some_iff.1 (HWG.out k ae)).1;rw[mQ]at this;exact this))
   have jl:=hcW k _ (HWG.out k ae);clear hcW;obtain⟨x,hx⟩:=exq (sG l k);have jt:x<18446744073709551616:=by rw[hx];exact vO l k
   rw[<-hx]at jl;obtain⟨S,hS⟩:=exq (wJ 2 64 x);have HN2:Hid (N+S=fB l (64*(k+1))):=by show _=_;rw[yM,<-hN.out,hS,hx]
   have hNS:N+S<=64*(k+1):=by rw[HN2.out];exact nG _ _
   have CO:=λW=>aS0 x W jt;rw[<-hS]at CO;have cy:(k:Int)<q:=by omega
   have cu:=iQ0 l ((k+7)/8);clear hx hS;by_cases h8:k%8=0
   ·have h8i:(k:Int)%8=0:=by omega
    have xk:gQ l ((k+1+7)/8)=gQ l ((k+7)/8)++[N]:=by
     rw[show (k+1+7)/8=(k+7)/8+1 by omega,fV0,hN.out,show 512*((k+7)/8)=64*k by omega]
    have HC2:=Aa xk;clear xk;obtain⟨aC,cC,rfl,_,_,_⟩:=aa.at_ (enc:=gU) (λ_=>rfl);rw[cu]at d2 aa
    have hnr:some vb≠(Value.slice aC ((k+7)/8) cC).ownBlock:=λh=>by
     have:=bE aa _ h.symm
     omega
    go_wp2_with (at_builtin;refine eZ jK0 rfl _ _ rfl w.heap.size (.slice aC ((k+7)/8) cC) (gQ l ((k+7)/8)) N rfl aa (aB.refl _) _ 1 rfl #[.int .i64 N] rfl rfl (by rw[cu];omega) mw ?_;intro v' w5 ak yf yh bk;obtain⟨a5,c5,rfl,_,_,_⟩:=ak.at_ (enc:=gU) (λ_=>rfl);rw[show (gQ l ((k+7)/8)++[N]).length=(k+7)/8+1 by rw[List.length_append,cu];rfl]at ak ⊢;have e1:=yf.cell d1 hnr;have e2:=yf.cell d2 hnr;have ef:w5.frozen? ⟨vb,2,none⟩=false:=(World.frozen?_of_block (a:=⟨vb,2,none⟩) (yf.block vb (by omega) hnr)).trans df)
    refine(CO _).mono ?_;rintro e w6 ⟨rfl,rfl⟩;go_wp2_with fail
    have hjj:∀j,j≠2->(w5.setCell ⟨vb,2,none⟩ (.slice a5 ((k+7)/8+1) c5)).cell? ⟨vb,j,none⟩=w.cell? ⟨vb,j,none⟩:=λj ng=>by
     rw[Ag _ _ _ _ (λh=>ng (congrArg Addr.off h).symm),<-hj.out j ng];exact World.cell?_of_block (a:=⟨vb,j,none⟩) (yf.block vb (by omega) hnr)
    have uo:Hid (w.grownBy (w5.setCell ⟨vb,2,none⟩ (.slice a5 ((k+7)/8+1) c5)) (some vb)):=gZ0 (dD0 ck.out yf (λr hr=>bE aa r hr)) 2 _;go_roundw
    case rel=>exact⟨k+1,N+S,_,ae,by go_num,by go_num,HN2.out,hNS,(Ag _ _ _ _ (λh=>by cases h)).trans e1,World.cell?_setCell_same _ _ _ e2,(Ap _ _ _ _).trans ef,by rw[HC2.out];exact nI ak (p:=⟨vb,2,none⟩) hvl _,hjj,uo⟩
    case measure=>simp[intOf];omega
   ·have h8i:¬(k:Int)%8=0:=by omega
    have xk:(k+1+7)/8=(k+7)/8:=by omega
    have HC2:=Aa xk;clear xk cu;go_wp2_with fail
    refine(CO _).mono ?_;rintro e w6 ⟨rfl,rfl⟩;go_wp2_with fail
    go_roundw
    case rel=>exact⟨k+1,N+S,vC,ae,by go_num,by go_num,HN2.out,hNS,d1,d2,df,by rw[HC2.out];exact aa,hj.out,ck⟩
    case measure=>simp[intOf];omega
  ·have cy:¬(k:Int)<q:=by omega
   have i5:k=q:=by omega
   have HO:Hid (aU wr w.heap.size 3 1 gU vC (gQ l ((l.length+511)/512))):=by show aU _ _ _ _ _ _ _;rw[HQ.out,<-i5];exact aa
   clear i5;go_wp2_with fail
   refine bodyPost_end (v:=.tuple #[]) (by simp[results,Tryz.results183,go_sem]) rfl ⟨rfl,⟨vC,d2,HO.out⟩,hj.out,ck.out⟩
def kI (l:List Bool) (q:Nat):List Nat:=(At q).map (sG l)
theorem kL (l:List Bool) (q:Nat):(kI l q).length=q:=by simp[kI]
theorem nB {l:List Bool} {q k:Nat} (h:k<q):(kI l q)[k]?=some (sG l k):=by
 unfold kI;rw[Am,Aj h];rfl
theorem nU0 (q:Nat):kI [] q=List.replicate q 0:=by
 apply As
 intro k;by_cases hk:k<q
 ·rw[nB hk,List.getElem?_replicate,if_pos hk,wJ0]
 ·rw[Ac (by rw[kL];omega),Ac (by simp;omega)]
theorem eD0 (l:List Bool) (q:Nat):kI (l++[false]) q=kI l q:=by
 unfold kI;apply List.map_congr_left
 intro k _;exact oA0 l k
theorem gD0 {l:List Bool} {q Q S:Nat} (hS:S<64) (hQ:l.length=64*Q+S):kI (l++[true]) q=(kI l q).set Q (sG l Q|||(1<<<S)%18446744073709551616):=by
 apply As
 intro k;by_cases hk:k<q
 ·rw[nB hk]
  by_cases rh:k=Q
  ·subst rh
   rw[List.getElem?_set_self (by rw[kL];exact hk),oO0 hQ]
  ·rw[List.getElem?_set_ne (Ne.symm rh),nB hk,pM0 hS hQ rh]
 ·rw[Ac (by rw[kL];omega),Ac (by rw[List.length_set,kL];omega)]
structure lB (w:World) (vb:Nat) (l:List Bool):Prop where
 c0:w.cell? ⟨vb,0,none⟩=some (.int .i64 l.length)
 c1:∃vW,w.cell? ⟨vb,1,none⟩=some vW/\aU w 0 213 1 kH vW (tK l)
 c2:∃vC,w.cell? ⟨vb,2,none⟩=some vC/\aU w 0 3 1 gU vC (qV l)
theorem lB.grows {w w':World} {vb:Nat} {l:List Bool} (h:lB w vb l) (hg:aB w w'):lB w' vb l:=by
 obtain⟨wb,h1,h2⟩:=h.c1;obtain⟨vC,h3,h4⟩:=h.c2;exact⟨hg.cell h.c0,⟨wb,hg.cell h1,h2.grows hg⟩,vC,hg.cell h3,h4.grows hg⟩
theorem cU1 {x S:Nat} (hx:x<18446744073709551616):bits .or .u64 (x:Int) (IntKind.u64.wrap ((2:Int)^S))=((x|||(1<<<S)%18446744073709551616:Nat):Int):=by
 have h:=kW0 (v:=1) (S:=S) hx;rw[show ((1:Nat):Int)*2^S=(2:Int)^S by simp]at h
 exact h
theorem kA0 (l:List Bool) (a:Option Addr) (c:Nat) (w:World) (hl:l.length<=1048576) (ac:aF w a 1 (l.map nP)) :
  Calls Tryz.prog 119 #[.slice a l.length c] w λe w'=>e=.returned (.tuple #[.pointer (some ⟨w.heap.size+1,0,none⟩),.int .i64 0])/\lB w' (w.heap.size+1) l/\aB w w':=by
 have HAT:=Aa ac;obtain⟨q,hq⟩:=exq ((l.length+63)/64);have ue:q<=16384:=by omega
 have HQ:=Aa hq;have hlw:¬(1048576:Int)<l.length:=by omega
 have nt:((l.length:Int)+63)/64=q:=by omega
 have te:((l.length:Int)+63).tdiv 64=q:=by rw[Ad (by omega)];exact nt
 have wq:IntKind.i64.wrap (q:Int)=q:=by simp[Ae,Af,Ab];omega
 have ml:=λ(Y:World)=>bW1 q Y (by omega);clear ac hq;go_enter Tryz.func119,Tryz.ntmps119
 go_wp2_with fail
 have ax:=fM0 (w:=w) (n:=q) (by omega);rw[Nat.mul_one]at ax;obtain⟨W1,cq⟩:=exq (w.alloc (.cells (madeCells #[.int .u64 0] q) 213));have ed:W1.heap.size=w.heap.size+1:=by rw[cq];simp
 have du:aB w W1:=by rw[cq];exact aB.alloc _ _
 rw[<-cq]at ax ⊢;obtain⟨W2,i7⟩:=exq (W1.alloc (.cells #[.int .i64 l.length,.slice (some ⟨w.heap.size,0,none⟩) q q,.slice none 0 0] 277));have eo:=λj u h=>aM W1 #[.int .i64 l.length,.slice (some ⟨w.heap.size,0,none⟩) q q,.slice none 0 0] 277 (0,0) j u h;rw[<-i7,ed]at eo;have b0:=eo 0 _ rfl;have b1:=eo 1 _ rfl;have b2:=eo 2 _ rfl;have bf:W2.frozen? ⟨w.heap.size+1,2,none⟩=false:=by rw[i7,<-ed];exact cF0 _ _ _ _
 have jv:aB W1 W2:=by rw[i7];exact aB.alloc _ _
 have ag:=ax.grows jv;have af:=du.tr jv;rw[<-nU0 q]at ag;rw[<-i7];clear cq i7 eo ax ed du jv ml nt te wq;go_loopw [21] (λi wr=>∃k:Nat,k<=l.length/\i=.int .i64 k/\wr.cell? ⟨w.heap.size+1,0,none⟩=some (.int .i64 l.length)/\wr.cell? ⟨w.heap.size+1,1,none⟩=some (.slice (some ⟨w.heap.size,0,none⟩) q q)/\wr.cell? ⟨w.heap.size+1,2,none⟩=some (.slice none 0 0)/\wr.frozen? ⟨w.heap.size+1,2,none⟩=false/\aU wr w.heap.size 213 1 kH (.slice (some ⟨w.heap.size,0,none⟩) q q) (kI (l.take k) q)/\aB w wr) (λi _=>l.length-(intOf i).toNat)
 case atStart=>exact⟨0,Ai _,rfl,b0,b1,b2,bf,ag,af⟩
 case round =>
  obtain⟨k,hk,rfl,d0,d1,d2,df,aa,hg⟩:=hrel;by_cases ae:k<l.length
  ·obtain⟨x,hx⟩:∃x,l[k]?=some x:=⟨_,Ah ae⟩
   obtain⟨b,o,rfl,hc⟩:=at1 HAT.out (aH ae);have jl:=hg.cell (hc k x hx);have cy:(k:Int)<l.length:=by omega
   cases x
   ·have HO:Hid (aU wr w.heap.size 213 1 kH (.slice (some ⟨w.heap.size,0,none⟩) q q) (kI (l.take (k+1)) q)):=by show aU _ _ _ _ _ _ _;rw[bT hx,eD0];exact aa
    clear hc hx;go_wp2_with fail
    go_roundw
    case rel=>exact⟨k+1,ae,by go_num,d0,d1,d2,df,HO.out,hg⟩
    case measure=>simp[intOf];omega
   ·obtain⟨Q,hQ⟩:=exq (k/64)
    obtain⟨S,hS⟩:=exq (k%64);have mj:S<64:=by omega
    have ri:Q<q:=by have:=HQ.out;omega
    have eQ:(k:Int)/64=Q:=by omega
    have eS:(k:Int)%64=S:=by omega
    have hQi:(Q:Int)<q:=by omega
    have eT:(k:Int).tmod 64=S:=by rw[Al (by omega)];exact eS
    have wQ:IntKind.i64.wrap (Q:Int)=Q:=by simp[Ae,Af,Ab];omega
    have wS:IntKind.i64.wrap (S:Int)=S:=by simp[Ae,Af,Ab];omega
    obtain⟨y,hy⟩:=exq (sG (l.take k) Q);have ju:y<18446744073709551616:=by rw[hy];exact vO _ _
    have yj:=aa.grows (aB.drew wr);have e1:wr.cell? ⟨w.heap.size,Q,none⟩=some (.int .u64 y):=dN (f:=λn:Nat=>Value.int .u64 n) aa (by rw[nB ri,hy]);obtain⟨f1,_,av⟩:=eF (f:=λn:Nat=>Value.int .u64 n) yj (k:=Q) (by rw[kL];exact ri) (y|||(1<<<S)%18446744073709551616)
    have xu:=cU1 (S:=S) ju;obtain⟨y1,lf⟩:=exq (y|||(1<<<S)%18446744073709551616)
    rw[<-lf]at xu av
    have HO:Hid (aU (wr.drew.setCell ⟨w.heap.size,Q,none⟩ (.int .u64 y1)) w.heap.size 213 1 kH (.slice (some ⟨w.heap.size,0,none⟩) q q) (kI (l.take (k+1)) q)):=by
     show aU _ _ _ _ _ _ _
     rw[bT hx,gD0 (Q:=Q) mj (by rw[List.length_take];omega),<-hy,<-lf];exact av
    have z1:∀x:Ext aB wr.drew,x.u.cell? ⟨w.heap.size+1,1,none⟩=some (.slice (some ⟨w.heap.size,0,none⟩) q q):=aG ((aB.drew wr).cell d1);have z2:∀x:Ext aB wr.drew,x.u.cell? ⟨w.heap.size,Q,none⟩=some (.int .u64 y):=aG ((aB.drew wr).cell e1);clear hc hx hQ hS hy lf av yj;go_wp2_with fail
    refine rP 12 (bB 12 []) (by kernel_rfl) (λd _ _ _ _ h=>by cases d<;>exact h) ?_
    iterate 12 (refine aO rfl (λK hK=>?_);go_simp;refine hK _ ?_;clear hK K)
    clear z1 z2;refine bU ?_;simp only[List.drop_succ_cons,List.drop_zero];go_wp2_with fail
    have h0:∀j,(wr.drew.setCell ⟨w.heap.size,Q,none⟩ (.int .u64 y1)).cell? ⟨w.heap.size+1,j,none⟩=wr.cell? ⟨w.heap.size+1,j,none⟩:=λj=>Ag _ _ _ _ (λh=>by have:=congrArg Addr.block h;simp at this);go_roundw
    case rel=>exact⟨k+1,ae,by go_num,(h0 0).trans d0,(h0 1).trans d1,(h0 2).trans d2,(Ap _ _ _ _).trans df,HO.out,(hg.dr).set (Aq _) _⟩
    case measure=>simp[intOf];omega
  ·have cy:¬(k:Int)<l.length:=by omega
   have i5:k=l.length:=by omega
   rw[i5,List.take_length]at aa;have gj:=d1;have au:=aa;rw[HQ.out]at gj au;have CC:=pG0 l (w.heap.size+1) w.heap.size _ wr hl (λr hr=>by have:w.heap.size=r:=Option.some.inj hr;omega) gj d2 df au;clear i5 gj;go_wp2_with fail
   refine CC.mono ?_;rintro e w5 ⟨rfl,⟨vC,g2,lm⟩,hj,iw⟩;have afx:w.heap.size+1<wr.heap.size:=An wr _ d0;have ck:=mR0 iw afx
   have HV:Hid (lB w5 (w.heap.size+1) l):=by
    refine⟨by rw[hj 0 (by decide)];exact d0,⟨.slice (some ⟨w.heap.size,0,none⟩) ((l.length+63)/64) ((l.length+63)/64),?_,?_⟩,vC,g2,lm.base (Ai _)⟩
    ·rw[hj 1 (by decide),<-HQ.out];exact d1
    ·exact(zJ0 au ck (λr hr=>by have:w.heap.size=r:=Option.some.inj hr;omega)).base (Ai _)
   have bk:aB w w5:=Below.trans hg (Below.mono ck.1 (Nat.le_succ _));clear hj ck au aa lm g2;go_wp2_with fail
   refine bodyPost_ret (v:=.tuple #[.pointer (some ⟨w.heap.size+1,0,none⟩),.int .i64 0]) (by simp[results,Tryz.results119,go_sem]) rfl ⟨rfl,HV.out,bk⟩
theorem vQ0 {l:List Bool} {k:Nat} (h:k<(l.length+511)/512):(qV l)[k]?=some (fB l (512*k)):=by
 unfold qV;rw[Am,Aj h];rfl
theorem kI0 (l:List Bool) (vb:Nat) (w:World) (ac:lB w vb l) :
  Calls Tryz.prog 186 #[.pointer (some ⟨vb,0,none⟩)] w λe w'=>e=.returned (.int .i64 l.length)/\w=w':=by
 have c0:=ac.c0;clear ac;go_enter Tryz.func186,Tryz.ntmps186
 go_wp2_with fail
 go_ret;exact⟨rfl,rfl⟩
theorem bY0 (l:List Bool) (vb:Nat) (b:Bool) (i:Nat) (w:World) (hl:l.length<=1048576) (hi:i<=1048576) (ac:lB w vb l) :
  Calls Tryz.prog 123 #[.pointer (some ⟨vb,0,none⟩),.bool b,.int .i64 i] w λe w'=>e=.returned (.int .i64 (jG l b (min i l.length)))/\w=w':=by
 obtain⟨vW,h1,h2⟩:=ac.c1;obtain⟨aW,cW,rfl,_,_,i6⟩:=h2.at_ (enc:=kH) (λ_=>rfl);have hwl:=mQ l;rw[hwl]at h1;obtain⟨vC,h3,h4⟩:=ac.c2;have CL:=Aa (kI0 l vb w ac);obtain⟨aC,cC,rfl,_,_,my⟩:=h4.at_ (enc:=gU) (λ_=>rfl);have cu:(qV l).length=(l.length+511)/512:=by simp[qV]
 rw[cu]at h3;have c0:=ac.c0;obtain⟨m,hm⟩:=exq (min i l.length);rw[<-hm];have hml:m<=l.length:=by omega
 by_cases hm0:m=0
 ·have hv:jG l b m=0:=by subst hm0;cases b<;>rfl
  have e1:min (i:Int) l.length=0:=by omega
  have e2:max (0:Int) 0=0:=rfl;rw[hv];clear ac h1 h2 h3 h4 my i6 hv hwl;go_enter Tryz.func123,Tryz.ntmps123
  go_wp2_with fail
  refine CL.out.mono ?_;rintro e w2 ⟨rfl,rfl⟩;go_wp2_with fail
  go_ret;exact⟨rfl,rfl⟩
 ·obtain⟨b1,o1,rfl,hcC⟩:=at1 (f:=λn:Nat=>Value.int .i64 n) my (aH (k:=0) (by rw[cu];omega))
  obtain⟨bW,oW,rfl,hcW⟩:=at1 (f:=λn:Nat=>Value.int .u64 n) i6 (aH (k:=0) (by rw[hwl];omega));have be:∀k,k<(l.length+63)/64->w.cell? ⟨bW,oW+k,none⟩=some (.int .u64 (sG l k)):=λk hk=>hcW k _ (eW0 hk);have HC:=Aa be;obtain⟨L,hL⟩:=exq ((m-1)/64);have hLq:L<(l.length+63)/64:=by omega
  have jl:=hcC (L/8) _ (vQ0 (l:=l) (k:=L/8) (by omega));have eL:((m:Int)-1).tdiv 64=L:=by rw[Ad (by omega)];omega
  have eL8:(L:Int).tdiv 8=(L/8:Nat):=by rw[Ad (by omega)];omega
  have eM:((m:Int)-1).tmod 64=((m-1)%64:Nat):=by rw[Al (by omega)];omega
  have e1:min (i:Int) l.length=m:=by omega
  have e2:max (0:Int) m=m:=by omega
  obtain⟨R0,yb⟩:=exq (fB l (512*(L/8)));rw[<-yb]at jl;have afy:R0<=512*(L/8):=by rw[yb];exact nG _ _
  have HR0:Hid (R0=fB l (64*(8*(L/8)))):=by show _=_;rw[yb];congr 1;omega
  obtain⟨q,hq⟩:=exq ((l.length+63)/64);obtain⟨q5,hq5⟩:=exq ((l.length+511)/512);have hL5:L/8<q5:=by omega
  have hLm:L<=16384:=by omega
  rw[<-hq]at h1 hLq HC;rw[<-hq5]at h3;obtain⟨L8,up⟩:=exq (L/8);have afz:8*L8<=L:=by omega
  rw[<-up]at jl eL8 HR0 hL5 afy;have HL:=Aa hL;have HL8:=Aa up;clear ac h2 h4 my hcC be hcW i6 hwl hq hq5 yb cu hL up;have em:min i l.length=m:=hm.symm;clear hm;have fL:((m:Int)-1)/64=L:=by have:=HL.out;omega
  have gL:(m-1)/64=L:=HL.out.symm;have fL8:(L:Int)/8=L8:=by have:=HL8.out;omega
  have gL8:L/8=L8:=HL8.out.symm;have wL8:IntKind.i64.wrap ((L8:Int)*8)=(8*L8:Nat):=by simp[Ae,Af,Ab];omega
  go_enter Tryz.func123,Tryz.ntmps123
  go_wp2_with fail
  refine CL.out.mono ?_;rintro e w2 ⟨rfl,rfl⟩;go_wp2_with fail
  have hmz:((m:Int)==0)=false:=by simp;omega
  rw[hmz];clear hmz;go_loopw [8,9] (λn k wr=>∃(K N:Nat),K<=L/\k=.int .i64 K/\n=.int .i64 N/\Hid (N=fB l (64*K))/\N<=64*K/\Hid (wr=w)) (λ_ k _=>L-(intOf k).toNat)
  case atStart=>exact⟨8*L8,R0,afz,by go_num,rfl,HR0.out,by omega,rfl⟩
  case round =>
   obtain⟨K,N,hK,rfl,rfl,hN,hNb,hw⟩:=hrel;obtain rfl:=hw.out;have hKq:K<q:=by omega
   have jl:=HC.out K hKq;obtain⟨x,hx⟩:=exq (sG l K);have jt:x<18446744073709551616:=by rw[hx];exact vO l K
   rw[<-hx]at jl;by_cases ae:K<L
   ·obtain⟨S,hS⟩:=exq (wJ 2 64 x)
    have HN2:Hid (N+S=fB l (64*(K+1))):=by show _=_;rw[yM,<-hN.out,hS,hx]
    have hNS:N+S<=64*(K+1):=by rw[HN2.out];exact nG _ _
    have CO:=λW=>aS0 x W jt;rw[<-hS]at CO;have cy:(K:Int)<L:=by omega
    clear hx hS;go_wp2_with fail
    refine(CO _).mono ?_;rintro e w6 ⟨rfl,rfl⟩;go_wp2_with fail
    go_roundw
    case rel=>exact⟨K+1,N+S,ae,by go_num,by go_num,HN2.out,hNS,trivial⟩
    case measure=>simp[intOf];omega
   ·have cy:¬(K:Int)<L:=by omega
    obtain rfl:K=L:=by omega
    obtain⟨s,hs⟩:=exq ((m-1)%64);have af0:s<64:=by omega
    have eS:((m:Int)-1)%64=s:=by omega
    rw[<-hs]at eM;obtain⟨y,hy⟩:=exq ((x<<<(63-s))%18446744073709551616);have ju:y<18446744073709551616:=by rw[hy];exact Nat.mod_lt _ (by decide)
    obtain⟨S,hS⟩:=exq (wJ 2 64 y);have HN2:Hid (N+S=fB l m):=by show _=_;rw[hN.out,hS,hy,hx,rM0 l K s af0];congr 1;have:=HL.out;omega
    have hNS:N+S<=m:=by rw[HN2.out];exact nG _ _
    have CO:=λW=>aS0 y W ju;rw[<-hS]at CO
    have HY:Hid (IntKind.u64.wrap ((x:Int)*2^(63-s))=y):=by
     show _=_
     rw[hy,Nat.shiftLeft_eq,show (x:Int)*2^(63-s)=((x*2^(63-s):Nat):Int) by push_cast;rfl]
     generalize x*2^(63-s)=N;simp[Ae,Af,Ab]
    have hsm:(m-1)%64=s:=hs.symm;clear hx hS hy hs;go_wp2_with fail
    rw[HY.out];refine(CO _).mono ?_;rintro e w6 ⟨rfl,rfl⟩;have hnp:min (m:Int) (N+S)=N+S:=by omega
    have ld:jG l true m=N+S:=HN2.out.symm;have dm:jG l false m=m-(N+S):=by rw[HN2.out];rfl
    cases b
    ·go_wp2_with fail
     go_ret;refine⟨?_,rfl⟩;rw[dm];congr 2
     rw[Int.ofNat_sub hNS];push_cast
     rfl
    ·go_wp2_with fail
     go_ret;exact⟨by rw[ld];congr 2,rfl⟩
theorem xI0 (l:List Bool) (vb b1 b2 b3:Nat) (b:Bool) (k i:Nat) (w:World) (hl:l.length<=1048576) (hi:i<l.length) (ac:lB w vb l)
  (c1:w.cell? ⟨b1,0,none⟩=some (.pointer (some ⟨vb,0,none⟩))) (c2:w.cell? ⟨b2,0,none⟩=some (.bool b)) (c3:w.cell? ⟨b3,0,none⟩=some (.int .i64 k)) :
  Calls Tryz.prog 189 #[.int .i64 i,.pointer (some ⟨b1,0,none⟩),.pointer (some ⟨b2,0,none⟩),.pointer (some ⟨b3,0,none⟩)] w λe w'=>e=.returned (.bool (decide (k<jG l b (i+1))))/\w'=w.drew:=by
 obtain⟨R,hR⟩:=exq (jG l b (i+1))
 have CR:Hid (∀u,aB w u->Calls Tryz.prog 123 #[.pointer (some ⟨vb,0,none⟩),.bool b,.int .i64 ((i:Int)+1)] u λe w'=>e=.returned (.int .i64 R)/\u=w'):=by
  intro u hg;have h:=bY0 l vb b (i+1) u hl (by omega) (ac.grows hg);rw[Nat.min_eq_left (by omega:i+1<=l.length),<-hR]at h;exact h
 rw[<-hR];have z1:∀x:Ext aB w.drew,x.u.cell? ⟨b1,0,none⟩=some (.pointer (some ⟨vb,0,none⟩)):=aG ((aB.drew w).cell c1);have z2:∀x:Ext aB w.drew,x.u.cell? ⟨b2,0,none⟩=some (.bool b):=aG ((aB.drew w).cell c2);have z3:∀x:Ext aB w.drew,x.u.cell? ⟨b3,0,none⟩=some (.int .i64 k):=aG ((aB.drew w).cell c3);have acm:decide ((k:Int)<R)=decide (k<R):=by simp
 have wi:IntKind.i64.wrap ((i:Int)+1)=(i:Int)+1:=by simp[Ae,Af,Ab];omega
 clear ac hR;go_enter Tryz.func189,Tryz.ntmps189
 go_wp2_with fail
 refine bP (bB 8 []) (by kernel_rfl) (λd _ _ _ _ h=>by cases d<;>exact h) ?_
 iterate 4 (refine aO rfl (λK hK=>?_);go_simp;refine hK _ ?_;clear hK K)
 refine aO rfl (λK hK=>?_);go_simp;apply Exists.intro
 refine⟨λx=>?_,hK _ ?_⟩
 ·go_at_call 123;exact yK (CR.out _ ((aB.drew w).tr x.h))
 clear hK K;iterate 3 (refine aO rfl (λK hK=>?_);go_simp;refine hK _ ?_;clear hK K)
 refine bU ?_;go_wp2_with fail
 go_ret;exact⟨by simp,rfl⟩
end
end Go.Proofs.YthgklnohcmaopaaGreatDoor
