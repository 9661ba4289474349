/- The texts Bidx BvC BvN Rnk Sel, one behind the other. -/
import Derived.Test.YtcijgkfpobpdbaaGreatDoorBq5
import Derived.Test.YtcijgkfpobpdbaaGreatDoorBq27
import Derived.Test.YtcijgkfpobpdbaaGreatDoorBq32
import Derived.Test.YtcijgkfpobpdbaaGreatDoorBq21
import Derived.Test.YtcijgkfpobpdbaaGreatDoorBq4
import Derived.Test.YtcijgkfpobpdbaaGreatDoorBq1
open Go.Lib renaming hid → Aa
open Go.IntKind renaming signed → Ab,wrap → Ae,bits → Af
open List renaming getElem?_eq_none → Ac,getElem?_eq_getElem → Ah,getElem?_range → Aj,getD_eq_getElem?_getD → Ak,getElem?_map → Am,range_succ → Ao,range → Ar,filter_append → As,ext_getElem? → At
open Int renaming tdiv_eq_ediv_of_nonneg → Ad,tmod_eq_emod_of_nonneg → Al
open Go.World renaming cell?_setCell_other → Ag,block_lt_of_cell? → An,frozen?_setCell → Ap
open Nat renaming zero_le → Ai,le_refl → Aq
set_option maxHeartbeats 8000000
namespace Go.Proofs.YtcijgkfpobpdbaaGreatDoor
set_option maxRecDepth 100000
section
open Go Go.RowKit Go.Shelf
attribute [local go_sem] aQ aM
def dA0 (nw:En->En->Bool) (l:List En) (i:Nat):Bool:=i==0||nw (l.getD i enZero) (l.getD (i-1) enZero)
def gM (nw:En->En->Bool) (l:List En) (k:Nat):List Nat:=(Ar k).filter (dA0 nw l)
theorem rD0 {nw:En->En->Bool} {l:List En} {k:Nat} (h:dA0 nw l k=true):gM nw l (k+1)=gM nw l k++[k]:=by
 unfold gM;rw[Ao,As];simp[h]
theorem kU1 {nw:En->En->Bool} {l:List En} {k:Nat} (h:dA0 nw l k=false):gM nw l (k+1)=gM nw l k:=by
 unfold gM;rw[Ao,As];simp[h]
theorem bL0 (nw:En->En->Bool) (l:List En) (k:Nat):(gM nw l k).length<=k:=by
 unfold gM
 have:=List.length_filter_le (dA0 nw l) (Ar k)
 rwa [List.length_range]at this
theorem bR0 (nw:En->En->Bool) (g:Nat) (eg:∀args w,(callFunc g args).run Tryz.prog w=.ok (.enter g args) w) (HG:∀(x y:En) w,Calls Tryz.prog g #[x.agg,y.agg] w λe w'=>e=.returned (.bool (nw x y))/\Grows w w')
  (l:List En) (a:Option Addr) (c:Nat) (w:World) (hl:l.length<=1048576) (ac:aF w a 5 (l.map aJ)) :
  Calls Tryz.prog 79 #[.slice a l.length c,.func (.func g) #[] #[]] w λe w'=>Grows w w'/\∃v,e=.returned v/\aU w' w.heap.size 3 1 kH v (gM nw l l.length):=by
 have HAT:=Aa ac;have HGG:=λx y w=>Aa (HG x y w);clear ac HG;go_enter Tryz.func79,Tryz.ntmps79
 go_wp2_with fail
 go_loopw [5,10] (λv i wr=>∃(k:Nat),k<=l.length/\i=.int .i64 k/\aU wr w.heap.size 3 1 kH v (gM nw l k)/\Grows w wr) (λ_ i _=>l.length-(intOf i).toNat)
 case atStart=>exact⟨0,Ai _,rfl,aU.nil _ _ _ _ _,Grows.refl _⟩
 case round =>
  obtain⟨k,hk,rfl,aa,hg⟩:=hrel;by_cases ae:k<l.length
  ·obtain⟨⟨xr,xs,xl,xt,xc⟩,hx⟩:∃x,l[k]?=some x:=⟨_,Ah ae⟩
   obtain⟨ba,oa,rfl,be⟩:=(HAT.out.grows hg).get (aH ae);have c0:wr.cell? ⟨ba,oa+k*5,none⟩=some (.string xr):=be k _ hx 0 _ rfl;have c1:wr.cell? ⟨ba,oa+k*5+1,none⟩=some (.string xs):=be k _ hx 1 _ rfl;have c2:wr.cell? ⟨ba,oa+k*5+2,none⟩=some (.int .i64 xl):=be k _ hx 2 _ rfl;have c3:wr.cell? ⟨ba,oa+k*5+3,none⟩=some (.int .i64 xt):=be k _ hx 3 _ rfl;have c4:wr.cell? ⟨ba,oa+k*5+4,none⟩=some (.int .i64 xc):=be k _ hx 4 _ rfl;have xx:=bL0 nw l k;obtain⟨W1,bi⟩:=exq (wr.alloc (.cells #[.string xr,.string xs,.int .i64 xl,.int .i64 xt,.int .i64 xc] 59));have ah:Grows wr W1:=by rw[bi];exact Grows.alloc _ _
   have dm:=λj u h=>aT wr #[.string xr,.string xs,.int .i64 xl,.int .i64 xt,.int .i64 xc] 59 (0,0) j u h;rw[<-bi]at dm;have z0:∀x:Ext Grows W1.drew,x.u.cell? ⟨wr.heap.size,0,none⟩=some (.string xr):=aB ((Grows.drew W1).cell (dm 0 _ rfl));have z1:∀x:Ext Grows W1.drew,x.u.cell? ⟨wr.heap.size,1,none⟩=some (.string xs):=aB ((Grows.drew W1).cell (dm 1 _ rfl));have z2:∀x:Ext Grows W1.drew,x.u.cell? ⟨wr.heap.size,2,none⟩=some (.int .i64 xl):=aB ((Grows.drew W1).cell (dm 2 _ rfl));have z3:∀x:Ext Grows W1.drew,x.u.cell? ⟨wr.heap.size,3,none⟩=some (.int .i64 xt):=aB ((Grows.drew W1).cell (dm 3 _ rfl));have z4:∀x:Ext Grows W1.drew,x.u.cell? ⟨wr.heap.size,4,none⟩=some (.int .i64 xc):=aB ((Grows.drew W1).cell (dm 4 _ rfl));clear dm;by_cases h0:k=0
   ·have hK:Hid (dA0 nw l k=true):=by show _=_;rw[h0];rfl
    have hkz:((k:Int)==0)=true:=by rw[h0];rfl
    have H0:=Aa h0;clear be hx h0;go_wp2_with fail
    rw[<-bi];clear bi;refine bF (aV 12 []) (by kernel_rfl) (λd _ _ _ _ h=>by cases d<;>exact h) ?_
    iterate 12 (refine aG rfl (λK hK=>?_);go_simp;refine hK _ ?_;clear hK K)
    clear z0 z1 z2 z3 z4;refine bH ?_;have ay:=aa.grows ah.dr;have dh:=Grows.trans _ _ _ hg ah.dr;have HI:=Aa (rD0 hK.out);obtain⟨bv,cm⟩:=exq (gM nw l k);rw[<-cm]at ay HI xx;clear cm aa ah hg;go_wp2_with (at_builtin;refine cK oO rfl _ _ rfl w.heap.size _ bv k rfl ay (Grows.refl _) _ 1 rfl #[.int .i64 k] rfl rfl (by omega) dh.size ?_;intro v5 w5 an _ _ bg)
    have HG5:=bg w dh (Aq _);rw[<-HI.out]at an;go_wp2_with fail
    go_roundw
    case rel=>exact⟨k+1,by omega,by go_num,an,HG5⟩
    case measure=>simp[intOf];omega
   ·obtain⟨⟨yr,ys,yl,yt,yc⟩,hy⟩:∃y,l[k-1]?=some y:=⟨_,Ah (by omega)⟩
    obtain⟨m,hm⟩:=exq (k-1);have hkz:((k:Int)==0)=false:=by simp;omega
    have wk:IntKind.i64.wrap ((k:Int)-1)=m:=by simp[Ae,Af,Ab];omega
    have hml:m<l.length:=by omega
    have hmi:(m:Int)<l.length:=by omega
    rw[<-hm]at hy;have d0:∀x:Ext Grows W1.drew,x.u.cell? ⟨ba,oa+m*5,none⟩=some (.string yr):=aB ((Grows.drew W1).cell (ah.cell (be m _ hy 0 _ rfl)));have d1:∀x:Ext Grows W1.drew,x.u.cell? ⟨ba,oa+m*5+1,none⟩=some (.string ys):=aB ((Grows.drew W1).cell (ah.cell (be m _ hy 1 _ rfl)));have d2:∀x:Ext Grows W1.drew,x.u.cell? ⟨ba,oa+m*5+2,none⟩=some (.int .i64 yl):=aB ((Grows.drew W1).cell (ah.cell (be m _ hy 2 _ rfl)));have d3:∀x:Ext Grows W1.drew,x.u.cell? ⟨ba,oa+m*5+3,none⟩=some (.int .i64 yt):=aB ((Grows.drew W1).cell (ah.cell (be m _ hy 3 _ rfl)));have d4:∀x:Ext Grows W1.drew,x.u.cell? ⟨ba,oa+m*5+4,none⟩=some (.int .i64 yc):=aB ((Grows.drew W1).cell (ah.cell (be m _ hy 4 _ rfl)));obtain⟨b,hb⟩:=exq (nw ⟨xr,xs,xl,xt,xc⟩ ⟨yr,ys,yl,yt,yc⟩)
    have HB:Hid (dA0 nw l k=b):=by
     show _=_
     unfold dA0;rw[show l.getD k enZero=⟨xr,xs,xl,xt,xc⟩ by rw[Ak,hx];rfl,<-hm,show l.getD m enZero=⟨yr,ys,yl,yt,yc⟩ by rw[Ak,hy];rfl,<-hb,show (k==0)=false by simpa using h0]
     rfl
    have CG:=λW=>Aa (HGG ⟨xr,xs,xl,xt,xc⟩ ⟨yr,ys,yl,yt,yc⟩ W).out;rw[<-hb]at CG;have HM:=Aa hm;have H0:=Aa h0;clear be hx hy hm hb h0;go_wp2_with fail
    rw[<-bi];clear bi;refine bF (aV 12 [10]) (by kernel_rfl) (λd _ _ _ _ h=>by cases d<;>exact h) ?_
    iterate 10 (refine aG rfl (λK hK=>?_);go_simp;refine hK _ ?_;clear hK K)
    refine aY rfl rfl (λK hK=>?_);go_simp;refine((CG W1.drew).out).mono ?_;rintro e w2 ⟨rfl,af⟩;refine⟨af,hK _ _ ?_⟩;clear hK K;iterate 1 (refine aG rfl (λK hK=>?_);go_simp;refine hK _ ?_;clear hK K)
    clear z0 z1 z2 z3 z4 d0 d1 d2 d3 d4;refine bH ?_;have pq:=Grows.trans _ _ _ ah.dr af;have ay:=aa.grows pq;have dh:=Grows.trans _ _ _ hg pq;obtain⟨bv,cm⟩:=exq (gM nw l k)
    cases b with
    | true =>
     have HI:=Aa (rD0 HB.out);rw[<-cm]at ay HI xx;clear cm aa ah hg CG af pq;go_wp2_with (at_builtin;refine cK oO rfl _ _ rfl w.heap.size _ bv k rfl ay (Grows.refl _) _ 1 rfl #[.int .i64 k] rfl rfl (by omega) dh.size ?_;intro v5 w5 an _ _ bg)
     have HG5:=bg w dh (Aq _);rw[<-HI.out]at an;go_wp2_with fail
     go_roundw
     case rel=>exact⟨k+1,by omega,by go_num,an,HG5⟩
     case measure=>simp[intOf];omega
    | false =>
     have HI:=Aa (kU1 HB.out);rw[<-cm]at ay HI xx;clear cm aa ah hg CG af pq;go_wp2_with fail
     rw[<-HI.out]at ay;go_roundw
     case rel=>exact⟨k+1,by omega,by go_num,ay,dh⟩
     case measure=>simp[intOf];omega
  ·obtain rfl:k=l.length:=by omega
   go_wp2_with fail
   go_ret;exact⟨hg,_,rfl,aa⟩
end
section
open Go Go.RowKit
attribute [local go_sem] aQ aM
theorem kF1 {α:Type} {w w':World} {B base:Nat} {e:TypeId} {k:Nat} {enc:α->List Value} {v:Value} {xs:List α} (h:aU w base e k enc v xs) (hg:EB B w w') (hb:∀q,v.ownBlock=some q->q<B):aU w' base e k enc v xs:=by
 obtain⟨h1,h2⟩:=h;refine⟨h1,?_⟩;rcases h2 with h2|⟨g,cap,da,hv,hbs,hh,r⟩
 ·exact Or.inl h2
 ·refine Or.inr ⟨g,cap,da,hv,hbs,?_,r⟩
  rw[Below.block hg.1 g (hb g (by rw[hv];rfl))];exact hh
def jU (l:List Bool) (k:Nat):List Nat:=(Ar k).map λg=>eA l (512*g)
theorem lB0 (l:List Bool) (k:Nat):jU l (k+1)=jU l k++[eA l (512*k)]:=by
 unfold jU;rw[Ao,List.map_append];rfl
theorem pB0 (l:List Bool) (k:Nat):(jU l k).length=k:=by simp[jU]
theorem pZ {l:List Bool} {k:Nat} (h:k<(l.length+63)/64):(nK l)[k]?=some (oU l k):=by
 unfold nK;rw[Am,Aj h];rfl
theorem fV (l:List Bool):(nK l).length=(l.length+63)/64:=by simp[nK]
theorem kF0 {w w1 w2:World} {p:Nat} {row:Option Nat} (h:w.grownBy w1 (some p)) (k:w1.grownBy w2 row) (hr:∀q,row=some q->w.heap.size<=q):w.grownBy w2 (some p) :=
 ⟨k.os.trans h.os,k.tape.trans h.tape,k.output.trans h.output,Nat.le_trans h.size k.size,λi hi aj=>(k.block i (Nat.lt_of_lt_of_le hi h.size) (λe=>by have:=hr i e.symm;omega)).trans (h.block i hi aj)⟩
theorem oR0 {w w1:World} {p:Nat} (h:w.grownBy w1 (some p)) (j:Nat) (v:Value):w.grownBy (w1.setCell ⟨p,j,none⟩ v) (some p) :=
 ⟨h.os,h.tape,h.output,by simpa using h.size,λi hi aj=>(Below.heap_setCell _ _ _ i (λe=>aj (by rw[e]))).trans (h.block i hi aj)⟩
theorem dQ0 {w w1:World} {p:Nat} (h:w.grownBy w1 (some p)) (hp:p<w.heap.size):EB p w w1 :=
 ⟨Below.grown (row:=some p) (Below.refl _ _) h (Nat.le_of_lt hp) (λk hk=>by cases hk;exact Aq _),h.size⟩
theorem jR0 (l:List Bool) (vb bw:Nat) (vW:Value) (w:World) (hl:l.length<=1048576) (hvw:∀r,vW.ownBlock=some r->r≠vb)
  (c1:w.cell? ⟨vb,1,none⟩=some vW) (c2:w.cell? ⟨vb,2,none⟩=some (.slice none 0 0)) (f2:w.frozen? ⟨vb,2,none⟩=false)
  (aa:aU w bw 164 1 kO vW (nK l)) :
  Calls Tryz.prog 208 #[.pointer (some ⟨vb,0,none⟩)] w λe w'=>e=.returned (.tuple #[])/\(∃vC,w'.cell? ⟨vb,2,none⟩=some vC/\aU w' w.heap.size 3 1 kH vC (jU l ((l.length+511)/512)))/\(∀j,j≠2->w'.cell? ⟨vb,j,none⟩=w.cell? ⟨vb,j,none⟩)/\w.grownBy w' (some vb):=by
 obtain⟨q,hq⟩:=exq ((l.length+63)/64);have wz:q<=16384:=by omega
 have hvl:=An w _ c1;simp only at hvl;obtain⟨aW,cW,rfl,_,_,io⟩:=aa.at_ (enc:=kO) (λ_=>rfl);have HNE:Hid (∀r:Addr,aW=some r->some r.block≠some vb):=λr hr e=>hvw r.block (by rw[hr];rfl) (Option.some.inj e);have hWl:=fV l;rw[<-hq]at hWl;rw[hWl]at c1;have HWG:Hid (∀k,k<q->(nK l)[k]?=some (oU l k)):=λk hk=>pZ (by omega);have HATW:=Aa io;have HQ:Hid ((l.length+511)/512=(q+7)/8):=by show _=_;omega
 clear aa hq hWl io hvw;go_enter Tryz.func208,Tryz.ntmps208
 go_wp2_with fail
 go_loopw [2,10] (λn i wr=>∃(k N:Nat) (vC:Value),k<=q/\i=.int .i64 k/\n=.int .i64 N/\Hid (N=eA l (64*k))/\N<=64*k/\wr.cell? ⟨vb,1,none⟩=some (.slice aW q cW)/\wr.cell? ⟨vb,2,none⟩=some vC/\wr.frozen? ⟨vb,2,none⟩=false/\aU wr w.heap.size 3 1 kH vC (jU l ((k+7)/8))/\Hid (∀j,j≠2->wr.cell? ⟨vb,j,none⟩=w.cell? ⟨vb,j,none⟩)/\Hid (w.grownBy wr (some vb))) (λ_ i _=>q-(intOf i).toNat)
 case atStart=>exact⟨0,0,_,Ai _,rfl,rfl,rfl,Ai _,c1,c2,f2,aU.nil _ _ _ _ _,λ_ _=>rfl,lZ _ _⟩
 case round =>
  obtain⟨k,N,vC,hk,rfl,rfl,hN,hNb,d1,d2,df,aa,hj,dw⟩:=hrel;have qy:w.heap.size<=wr.heap.size:=dw.out.size;by_cases ae:k<q
  ·obtain⟨wb,wo,rfl,xy⟩:=at1 (f:=λn:Nat=>Value.int .u64 n) (oF HATW.out dw.out HNE.out) (aH (k:=k) (by rw[fV];have:=(List.getElem?_eq_some_iff.1 (HWG.out k ae)).1;rw[fV]at this;exact this))
   have jb:=xy k _ (HWG.out k ae);clear xy;obtain⟨x,hx⟩:=exq (oU l k);have j9:x<18446744073709551616:=by rw[hx];exact pT l k
   rw[<-hx]at jb;obtain⟨S,hS⟩:=exq (zJ 2 64 x);have HN2:Hid (N+S=eA l (64*(k+1))):=by show _=_;rw[dN0,<-hN.out,hS,hx]
   have hNS:N+S<=64*(k+1):=by rw[HN2.out];exact nS _ _
   have CO:=λW=>fS0 x W j9;rw[<-hS]at CO;have dg:(k:Int)<q:=by omega
   have cw:=pB0 l ((k+7)/8);clear hx hS;by_cases h8:k%8=0
   ·have h8i:(k:Int)%8=0:=by omega
    have hC2:jU l ((k+1+7)/8)=jU l ((k+7)/8)++[N]:=by
     rw[show (k+1+7)/8=(k+7)/8+1 by omega,lB0,hN.out,show 512*((k+7)/8)=64*k by omega]
    have HC2:=Aa hC2;clear hC2;obtain⟨aC,cC,rfl,_,_,_⟩:=aa.at_ (enc:=kH) (λ_=>rfl);rw[cw]at d2 aa
    have hnr:some vb≠(Value.slice aC ((k+7)/8) cC).ownBlock:=λh=>by
     have:=bB aa _ h.symm
     omega
    go_wp2_with (at_builtin;refine cK oO rfl _ _ rfl w.heap.size (.slice aC ((k+7)/8) cC) (jU l ((k+7)/8)) N rfl aa (Grows.refl _) _ 1 rfl #[.int .i64 N] rfl rfl (by rw[cw];omega) qy ?_;intro v' w5 an qk hf5 bg;obtain⟨a5,c5,rfl,_,_,_⟩:=an.at_ (enc:=kH) (λ_=>rfl);rw[show (jU l ((k+7)/8)++[N]).length=(k+7)/8+1 by rw[List.length_append,cw];rfl]at an ⊢;have e1:=qk.cell d1 hnr;have e2:=qk.cell d2 hnr;have ef:w5.frozen? ⟨vb,2,none⟩=false:=(World.frozen?_of_block (a:=⟨vb,2,none⟩) (qk.block vb (by omega) hnr)).trans df)
    refine(CO _).mono ?_;rintro e w6 ⟨rfl,rfl⟩;go_wp2_with fail
    have hjj:∀j,j≠2->(w5.setCell ⟨vb,2,none⟩ (.slice a5 ((k+7)/8+1) c5)).cell? ⟨vb,j,none⟩=w.cell? ⟨vb,j,none⟩:=λj km=>by
     rw[Ag _ _ _ _ (λh=>km (congrArg Addr.off h).symm),<-hj.out j km];exact World.cell?_of_block (a:=⟨vb,j,none⟩) (qk.block vb (by omega) hnr)
    have ahk:Hid (w.grownBy (w5.setCell ⟨vb,2,none⟩ (.slice a5 ((k+7)/8+1) c5)) (some vb)):=oR0 (kF0 dw.out qk (λr hr=>bB aa r hr)) 2 _;go_roundw
    case rel=>exact⟨k+1,N+S,_,ae,by go_num,by go_num,HN2.out,hNS,(Ag _ _ _ _ (λh=>by cases h)).trans e1,World.cell?_setCell_same _ _ _ e2,(Ap _ _ _ _).trans ef,by rw[HC2.out];exact nE an (p:=⟨vb,2,none⟩) hvl _,hjj,ahk⟩
    case measure=>simp[intOf];omega
   ·have h8i:¬(k:Int)%8=0:=by omega
    have hC2:(k+1+7)/8=(k+7)/8:=by omega
    have HC2:=Aa hC2;clear hC2 cw;go_wp2_with fail
    refine(CO _).mono ?_;rintro e w6 ⟨rfl,rfl⟩;go_wp2_with fail
    go_roundw
    case rel=>exact⟨k+1,N+S,vC,ae,by go_num,by go_num,HN2.out,hNS,d1,d2,df,by rw[HC2.out];exact aa,hj.out,dw⟩
    case measure=>simp[intOf];omega
  ·have dg:¬(k:Int)<q:=by omega
   have ja:k=q:=by omega
   have HO:Hid (aU wr w.heap.size 3 1 kH vC (jU l ((l.length+511)/512))):=by show aU _ _ _ _ _ _ _;rw[HQ.out,<-ja];exact aa
   clear ja;go_wp2_with fail
   refine bodyPost_end (v:=.tuple #[]) (by simp[results,Tryz.results208,go_sem]) rfl ⟨rfl,⟨vC,d2,HO.out⟩,hj.out,dw.out⟩
def nL (l:List Bool) (q:Nat):List Nat:=(Ar q).map (oU l)
theorem mY (l:List Bool) (q:Nat):(nL l q).length=q:=by simp[nL]
theorem qH {l:List Bool} {q k:Nat} (h:k<q):(nL l q)[k]?=some (oU l k):=by
 unfold nL;rw[Am,Aj h];rfl
theorem uQ0 (q:Nat):nL [] q=List.replicate q 0:=by
 apply At
 intro k;by_cases hk:k<q
 ·rw[qH hk,List.getElem?_replicate,if_pos hk,cW1]
 ·rw[Ac (by rw[mY];omega),Ac (by simp;omega)]
theorem jH0 (l:List Bool) (q:Nat):nL (l++[false]) q=nL l q:=by
 unfold nL;apply List.map_congr_left
 intro k _;exact uG0 l k
theorem nW0 {l:List Bool} {q Q S:Nat} (hS:S<64) (hQ:l.length=64*Q+S):nL (l++[true]) q=(nL l q).set Q (oU l Q|||(1<<<S)%18446744073709551616):=by
 apply At
 intro k;by_cases hk:k<q
 ·rw[qH hk]
  by_cases xh:k=Q
  ·subst xh
   rw[List.getElem?_set_self (by rw[mY];exact hk),xW0 hQ]
  ·rw[List.getElem?_set_ne (Ne.symm xh),qH hk,aO1 hS hQ xh]
 ·rw[Ac (by rw[mY];omega),Ac (by rw[List.length_set,mY];omega)]
structure kK (w:World) (vb:Nat) (l:List Bool):Prop where
 c0:w.cell? ⟨vb,0,none⟩=some (.int .i64 l.length)
 c1:∃vW,w.cell? ⟨vb,1,none⟩=some vW/\aU w 0 164 1 kO vW (nK l)
 c2:∃vC,w.cell? ⟨vb,2,none⟩=some vC/\aU w 0 3 1 kH vC (uZ l)
theorem kK.grows {w w':World} {vb:Nat} {l:List Bool} (h:kK w vb l) (hg:Grows w w'):kK w' vb l:=by
 obtain⟨wb,h1,h2⟩:=h.c1;obtain⟨vC,h3,h4⟩:=h.c2;exact⟨hg.cell h.c0,⟨wb,hg.cell h1,h2.grows hg⟩,vC,hg.cell h3,h4.grows hg⟩
theorem lQ1 {x S:Nat} (hx:x<18446744073709551616):bits .or .u64 (x:Int) (IntKind.u64.wrap ((2:Int)^S))=((x|||(1<<<S)%18446744073709551616:Nat):Int):=by
 have h:=jV0 (v:=1) (S:=S) hx;rw[show ((1:Nat):Int)*2^S=(2:Int)^S by simp]at h
 exact h
theorem qZ0 (l:List Bool) (a:Option Addr) (c:Nat) (w:World) (hl:l.length<=1048576) (ac:aF w a 1 (l.map rD)) :
  Calls Tryz.prog 148 #[.slice a l.length c] w λe w'=>e=.returned (.tuple #[.pointer (some ⟨w.heap.size+1,0,none⟩),.int .i64 0])/\kK w' (w.heap.size+1) l/\Grows w w':=by
 have HAT:=Aa ac;obtain⟨q,hq⟩:=exq ((l.length+63)/64);have wz:q<=16384:=by omega
 have HQ:=Aa hq;have hlw:¬(1048576:Int)<l.length:=by omega
 have si:((l.length:Int)+63)/64=q:=by omega
 have z8:((l.length:Int)+63).tdiv 64=q:=by rw[Ad (by omega)];exact si
 have wq:IntKind.i64.wrap (q:Int)=q:=by simp[Ae,Af,Ab];omega
 have jy:=λ(Y:World)=>mN1 q Y (by omega);clear ac hq;go_enter Tryz.func148,Tryz.ntmps148
 go_wp2_with fail
 have bj:=lA0 (w:=w) (n:=q) (by omega);rw[Nat.mul_one]at bj;obtain⟨W1,bi⟩:=exq (w.alloc (.cells (madeCells #[.int .u64 0] q) 164));have ew:W1.heap.size=w.heap.size+1:=by rw[bi];simp
 have fh:Grows w W1:=by rw[bi];exact Grows.alloc _ _
 rw[<-bi]at bj ⊢;obtain⟨W2,fx⟩:=exq (W1.alloc (.cells #[.int .i64 l.length,.slice (some ⟨w.heap.size,0,none⟩) q q,.slice none 0 0] 235));have dm:=λj u h=>aT W1 #[.int .i64 l.length,.slice (some ⟨w.heap.size,0,none⟩) q q,.slice none 0 0] 235 (0,0) j u h;rw[<-fx,ew]at dm;have b0:=dm 0 _ rfl;have b1:=dm 1 _ rfl;have b2:=dm 2 _ rfl;have bf:W2.frozen? ⟨w.heap.size+1,2,none⟩=false:=by rw[fx,<-ew];exact gF0 _ _ _ _
 have kc:Grows W1 W2:=by rw[fx];exact Grows.alloc _ _
 have ai:=bj.grows kc;have af:=fh.tr kc;rw[<-uQ0 q]at ai;rw[<-fx];clear bi fx dm bj ew fh kc jy si z8 wq;go_loopw [21] (λi wr=>∃k:Nat,k<=l.length/\i=.int .i64 k/\wr.cell? ⟨w.heap.size+1,0,none⟩=some (.int .i64 l.length)/\wr.cell? ⟨w.heap.size+1,1,none⟩=some (.slice (some ⟨w.heap.size,0,none⟩) q q)/\wr.cell? ⟨w.heap.size+1,2,none⟩=some (.slice none 0 0)/\wr.frozen? ⟨w.heap.size+1,2,none⟩=false/\aU wr w.heap.size 164 1 kO (.slice (some ⟨w.heap.size,0,none⟩) q q) (nL (l.take k) q)/\Grows w wr) (λi _=>l.length-(intOf i).toNat)
 case atStart=>exact⟨0,Ai _,rfl,b0,b1,b2,bf,ai,af⟩
 case round =>
  obtain⟨k,hk,rfl,d0,d1,d2,df,aa,hg⟩:=hrel;by_cases ae:k<l.length
  ·obtain⟨x,hx⟩:∃x,l[k]?=some x:=⟨_,Ah ae⟩
   obtain⟨b,o,rfl,hc⟩:=at1 HAT.out (aH ae);have jb:=hg.cell (hc k x hx);have dg:(k:Int)<l.length:=by omega
   cases x
   ·have HO:Hid (aU wr w.heap.size 164 1 kO (.slice (some ⟨w.heap.size,0,none⟩) q q) (nL (l.take (k+1)) q)):=by show aU _ _ _ _ _ _ _;rw[bI hx,jH0];exact aa
    clear hc hx;go_wp2_with fail
    go_roundw
    case rel=>exact⟨k+1,ae,by go_num,d0,d1,d2,df,HO.out,hg⟩
    case measure=>simp[intOf];omega
   ·obtain⟨Q,hQ⟩:=exq (k/64)
    obtain⟨S,hS⟩:=exq (k%64);have np:S<64:=by omega
    have ue:Q<q:=by have:=HQ.out;omega
    have eQ:(k:Int)/64=Q:=by omega
    have eS:(k:Int)%64=S:=by omega
    have hQi:(Q:Int)<q:=by omega
    have eT:(k:Int).tmod 64=S:=by rw[Al (by omega)];exact eS
    have wQ:IntKind.i64.wrap (Q:Int)=Q:=by simp[Ae,Af,Ab];omega
    have wS:IntKind.i64.wrap (S:Int)=S:=by simp[Ae,Af,Ab];omega
    obtain⟨y,hy⟩:=exq (oU (l.take k) Q);have ku:y<18446744073709551616:=by rw[hy];exact pT _ _
    have aap:=aa.grows (Grows.drew wr);have e1:wr.cell? ⟨w.heap.size,Q,none⟩=some (.int .u64 y):=cX (f:=λn:Nat=>Value.int .u64 n) aa (by rw[qH ue,hy]);obtain⟨f1,_,ay⟩:=eU (f:=λn:Nat=>Value.int .u64 n) aap (k:=Q) (by rw[mY];exact ue) (y|||(1<<<S)%18446744073709551616)
    have hor:=lQ1 (S:=S) ku;obtain⟨y1,l8⟩:=exq (y|||(1<<<S)%18446744073709551616)
    rw[<-l8]at hor ay
    have HO:Hid (aU (wr.drew.setCell ⟨w.heap.size,Q,none⟩ (.int .u64 y1)) w.heap.size 164 1 kO (.slice (some ⟨w.heap.size,0,none⟩) q q) (nL (l.take (k+1)) q)):=by
     show aU _ _ _ _ _ _ _
     rw[bI hx,nW0 (Q:=Q) np (by rw[List.length_take];omega),<-hy,<-l8];exact ay
    have z1:∀x:Ext Grows wr.drew,x.u.cell? ⟨w.heap.size+1,1,none⟩=some (.slice (some ⟨w.heap.size,0,none⟩) q q):=aB ((Grows.drew wr).cell d1);have z2:∀x:Ext Grows wr.drew,x.u.cell? ⟨w.heap.size,Q,none⟩=some (.int .u64 y):=aB ((Grows.drew wr).cell e1);clear hc hx hQ hS hy l8 ay aap;go_wp2_with fail
    refine mK 12 (aV 12 []) (by kernel_rfl) (λd _ _ _ _ h=>by cases d<;>exact h) ?_
    iterate 12 (refine aG rfl (λK hK=>?_);go_simp;refine hK _ ?_;clear hK K)
    clear z1 z2;refine bH ?_;simp only[List.drop_succ_cons,List.drop_zero];go_wp2_with fail
    have h0:∀j,(wr.drew.setCell ⟨w.heap.size,Q,none⟩ (.int .u64 y1)).cell? ⟨w.heap.size+1,j,none⟩=wr.cell? ⟨w.heap.size+1,j,none⟩:=λj=>Ag _ _ _ _ (λh=>by have:=congrArg Addr.block h;simp at this);go_roundw
    case rel=>exact⟨k+1,ae,by go_num,(h0 0).trans d0,(h0 1).trans d1,(h0 2).trans d2,(Ap _ _ _ _).trans df,HO.out,(hg.dr).set (Aq _) _⟩
    case measure=>simp[intOf];omega
  ·have dg:¬(k:Int)<l.length:=by omega
   have ja:k=l.length:=by omega
   rw[ja,List.take_length]at aa;have ee:=d1;have aw:=aa;rw[HQ.out]at ee aw;have CC:=jR0 l (w.heap.size+1) w.heap.size _ wr hl (λr hr=>by have:w.heap.size=r:=Option.some.inj hr;omega) ee d2 df aw;clear ja ee;go_wp2_with fail
   refine CC.mono ?_;rintro e w5 ⟨rfl,⟨vC,g2,j3⟩,hj,nf⟩;have abp:w.heap.size+1<wr.heap.size:=An wr _ d0;have dw:=dQ0 nf abp
   have HV:Hid (kK w5 (w.heap.size+1) l):=by
    refine⟨by rw[hj 0 (by decide)];exact d0,⟨.slice (some ⟨w.heap.size,0,none⟩) ((l.length+63)/64) ((l.length+63)/64),?_,?_⟩,vC,g2,j3.base (Ai _)⟩
    ·rw[hj 1 (by decide),<-HQ.out];exact d1
    ·exact(kF1 aw dw (λr hr=>by have:w.heap.size=r:=Option.some.inj hr;omega)).base (Ai _)
   have bg:Grows w w5:=Below.trans hg (Below.mono dw.1 (Nat.le_succ _));clear hj dw aw aa j3 g2;go_wp2_with fail
   refine bodyPost_ret (v:=.tuple #[.pointer (some ⟨w.heap.size+1,0,none⟩),.int .i64 0]) (by simp[results,Tryz.results148,go_sem]) rfl ⟨rfl,HV.out,bg⟩
theorem dL1 {l:List Bool} {k:Nat} (h:k<(l.length+511)/512):(uZ l)[k]?=some (eA l (512*k)):=by
 unfold uZ;rw[Am,Aj h];rfl
theorem uM (l:List Bool) (vb:Nat) (w:World) (ac:kK w vb l) :
  Calls Tryz.prog 170 #[.pointer (some ⟨vb,0,none⟩)] w λe w'=>e=.returned (.int .i64 l.length)/\w=w':=by
 have c0:=ac.c0;clear ac;go_enter Tryz.func170,Tryz.ntmps170
 go_wp2_with fail
 go_ret;exact⟨rfl,rfl⟩
theorem qS (l:List Bool) (vb:Nat) (b:Bool) (i:Nat) (w:World) (hl:l.length<=1048576) (hi:i<=1048576) (ac:kK w vb l) :
  Calls Tryz.prog 152 #[.pointer (some ⟨vb,0,none⟩),.bool b,.int .i64 i] w λe w'=>e=.returned (.int .i64 (jT l b (min i l.length)))/\w=w':=by
 obtain⟨vW,h1,h2⟩:=ac.c1;obtain⟨aW,cW,rfl,_,_,io⟩:=h2.at_ (enc:=kO) (λ_=>rfl);have qz:=fV l;rw[qz]at h1;obtain⟨vC,h3,h4⟩:=ac.c2;have CL:=Aa (uM l vb w ac);obtain⟨aC,cC,rfl,_,_,q8⟩:=h4.at_ (enc:=kH) (λ_=>rfl);have cw:(uZ l).length=(l.length+511)/512:=by simp[uZ]
 rw[cw]at h3;have c0:=ac.c0;obtain⟨m,hm⟩:=exq (min i l.length);rw[<-hm];have hml:m<=l.length:=by omega
 by_cases hm0:m=0
 ·have hv:jT l b m=0:=by subst hm0;cases b<;>rfl
  have e1:min (i:Int) l.length=0:=by omega
  have e2:max (0:Int) 0=0:=rfl;rw[hv];clear ac h1 h2 h3 h4 q8 io hv qz;go_enter Tryz.func152,Tryz.ntmps152
  go_wp2_with fail
  refine CL.out.mono ?_;rintro e w2 ⟨rfl,rfl⟩;go_wp2_with fail
  go_ret;exact⟨rfl,rfl⟩
 ·obtain⟨b1,o1,rfl,hcC⟩:=at1 (f:=λn:Nat=>Value.int .i64 n) q8 (aH (k:=0) (by rw[cw];omega))
  obtain⟨bW,oW,rfl,xy⟩:=at1 (f:=λn:Nat=>Value.int .u64 n) io (aH (k:=0) (by rw[qz];omega));have bz:∀k,k<(l.length+63)/64->w.cell? ⟨bW,oW+k,none⟩=some (.int .u64 (oU l k)):=λk hk=>xy k _ (pZ hk);have HC:=Aa bz;obtain⟨L,hL⟩:=exq ((m-1)/64);have hLq:L<(l.length+63)/64:=by omega
  have jb:=hcC (L/8) _ (dL1 (l:=l) (k:=L/8) (by omega));have eL:((m:Int)-1).tdiv 64=L:=by rw[Ad (by omega)];omega
  have eL8:(L:Int).tdiv 8=(L/8:Nat):=by rw[Ad (by omega)];omega
  have eM:((m:Int)-1).tmod 64=((m-1)%64:Nat):=by rw[Al (by omega)];omega
  have e1:min (i:Int) l.length=m:=by omega
  have e2:max (0:Int) m=m:=by omega
  obtain⟨R0,zy⟩:=exq (eA l (512*(L/8)));rw[<-zy]at jb;have ahl:R0<=512*(L/8):=by rw[zy];exact nS _ _
  have HR0:Hid (R0=eA l (64*(8*(L/8)))):=by show _=_;rw[zy];congr 1;omega
  obtain⟨q,hq⟩:=exq ((l.length+63)/64);obtain⟨q5,hq5⟩:=exq ((l.length+511)/512);have hL5:L/8<q5:=by omega
  have hLm:L<=16384:=by omega
  rw[<-hq]at h1 hLq HC;rw[<-hq5]at h3;obtain⟨L8,hL8⟩:=exq (L/8);have ahm:8*L8<=L:=by omega
  rw[<-hL8]at jb eL8 HR0 hL5 ahl;have HL:=Aa hL;have HL8:=Aa hL8;clear ac h2 h4 q8 hcC bz xy io qz hq hq5 zy cw hL hL8;have em:min i l.length=m:=hm.symm;clear hm;have fL:((m:Int)-1)/64=L:=by have:=HL.out;omega
  have gL:(m-1)/64=L:=HL.out.symm;have fL8:(L:Int)/8=L8:=by have:=HL8.out;omega
  have gL8:L/8=L8:=HL8.out.symm;have wL8:IntKind.i64.wrap ((L8:Int)*8)=(8*L8:Nat):=by simp[Ae,Af,Ab];omega
  go_enter Tryz.func152,Tryz.ntmps152
  go_wp2_with fail
  refine CL.out.mono ?_;rintro e w2 ⟨rfl,rfl⟩;go_wp2_with fail
  have hmz:((m:Int)==0)=false:=by simp;omega
  rw[hmz];clear hmz;go_loopw [8,9] (λn k wr=>∃(K N:Nat),K<=L/\k=.int .i64 K/\n=.int .i64 N/\Hid (N=eA l (64*K))/\N<=64*K/\Hid (wr=w)) (λ_ k _=>L-(intOf k).toNat)
  case atStart=>exact⟨8*L8,R0,ahm,by go_num,rfl,HR0.out,by omega,rfl⟩
  case round =>
   obtain⟨K,N,hK,rfl,rfl,hN,hNb,hw⟩:=hrel;obtain rfl:=hw.out;have hKq:K<q:=by omega
   have jb:=HC.out K hKq;obtain⟨x,hx⟩:=exq (oU l K);have j9:x<18446744073709551616:=by rw[hx];exact pT l K
   rw[<-hx]at jb;by_cases ae:K<L
   ·obtain⟨S,hS⟩:=exq (zJ 2 64 x)
    have HN2:Hid (N+S=eA l (64*(K+1))):=by show _=_;rw[dN0,<-hN.out,hS,hx]
    have hNS:N+S<=64*(K+1):=by rw[HN2.out];exact nS _ _
    have CO:=λW=>fS0 x W j9;rw[<-hS]at CO;have dg:(K:Int)<L:=by omega
    clear hx hS;go_wp2_with fail
    refine(CO _).mono ?_;rintro e w6 ⟨rfl,rfl⟩;go_wp2_with fail
    go_roundw
    case rel=>exact⟨K+1,N+S,ae,by go_num,by go_num,HN2.out,hNS,trivial⟩
    case measure=>simp[intOf];omega
   ·have dg:¬(K:Int)<L:=by omega
    obtain rfl:K=L:=by omega
    obtain⟨s,hs⟩:=exq ((m-1)%64);have ahn:s<64:=by omega
    have eS:((m:Int)-1)%64=s:=by omega
    rw[<-hs]at eM;obtain⟨y,hy⟩:=exq ((x<<<(63-s))%18446744073709551616);have ku:y<18446744073709551616:=by rw[hy];exact Nat.mod_lt _ (by decide)
    obtain⟨S,hS⟩:=exq (zJ 2 64 y);have HN2:Hid (N+S=eA l m):=by show _=_;rw[hN.out,hS,hy,hx,bY1 l K s ahn];congr 1;have:=HL.out;omega
    have hNS:N+S<=m:=by rw[HN2.out];exact nS _ _
    have CO:=λW=>fS0 y W ku;rw[<-hS]at CO
    have HY:Hid (IntKind.u64.wrap ((x:Int)*2^(63-s))=y):=by
     show _=_
     rw[hy,Nat.shiftLeft_eq,show (x:Int)*2^(63-s)=((x*2^(63-s):Nat):Int) by push_cast;rfl]
     generalize x*2^(63-s)=N;simp[Ae,Af,Ab]
    have hsm:(m-1)%64=s:=hs.symm;clear hx hS hy hs;go_wp2_with fail
    rw[HY.out];refine(CO _).mono ?_;rintro e w6 ⟨rfl,rfl⟩;have hnp:min (m:Int) (N+S)=N+S:=by omega
    have ga:jT l true m=N+S:=HN2.out.symm;have d8:jT l false m=m-(N+S):=by rw[HN2.out];rfl
    cases b
    ·go_wp2_with fail
     go_ret;refine⟨?_,rfl⟩;rw[d8];congr 2
     rw[Int.ofNat_sub hNS];push_cast
     rfl
    ·go_wp2_with fail
     go_ret;exact⟨by rw[ga];congr 2,rfl⟩
theorem eG1 (l:List Bool) (vb b1 b2 b3:Nat) (b:Bool) (k i:Nat) (w:World) (hl:l.length<=1048576) (hi:i<l.length) (ac:kK w vb l)
  (c1:w.cell? ⟨b1,0,none⟩=some (.pointer (some ⟨vb,0,none⟩))) (c2:w.cell? ⟨b2,0,none⟩=some (.bool b)) (c3:w.cell? ⟨b3,0,none⟩=some (.int .i64 k)) :
  Calls Tryz.prog 214 #[.int .i64 i,.pointer (some ⟨b1,0,none⟩),.pointer (some ⟨b2,0,none⟩),.pointer (some ⟨b3,0,none⟩)] w λe w'=>e=.returned (.bool (decide (k<jT l b (i+1))))/\w'=w.drew:=by
 obtain⟨R,hR⟩:=exq (jT l b (i+1))
 have CR:Hid (∀u,Grows w u->Calls Tryz.prog 152 #[.pointer (some ⟨vb,0,none⟩),.bool b,.int .i64 ((i:Int)+1)] u λe w'=>e=.returned (.int .i64 R)/\u=w'):=by
  intro u hg;have h:=qS l vb b (i+1) u hl (by omega) (ac.grows hg);rw[Nat.min_eq_left (by omega:i+1<=l.length),<-hR]at h;exact h
 rw[<-hR];have z1:∀x:Ext Grows w.drew,x.u.cell? ⟨b1,0,none⟩=some (.pointer (some ⟨vb,0,none⟩)):=aB ((Grows.drew w).cell c1);have z2:∀x:Ext Grows w.drew,x.u.cell? ⟨b2,0,none⟩=some (.bool b):=aB ((Grows.drew w).cell c2);have z3:∀x:Ext Grows w.drew,x.u.cell? ⟨b3,0,none⟩=some (.int .i64 k):=aB ((Grows.drew w).cell c3);have aez:decide ((k:Int)<R)=decide (k<R):=by simp
 have wi:IntKind.i64.wrap ((i:Int)+1)=(i:Int)+1:=by simp[Ae,Af,Ab];omega
 clear ac hR;go_enter Tryz.func214,Tryz.ntmps214
 go_wp2_with fail
 refine bF (aV 8 []) (by kernel_rfl) (λd _ _ _ _ h=>by cases d<;>exact h) ?_
 iterate 4 (refine aG rfl (λK hK=>?_);go_simp;refine hK _ ?_;clear hK K)
 refine aG rfl (λK hK=>?_);go_simp;apply Exists.intro
 refine⟨λx=>?_,hK _ ?_⟩
 ·go_at_call 152;exact bT (CR.out _ ((Grows.drew w).tr x.h))
 clear hK K;iterate 3 (refine aG rfl (λK hK=>?_);go_simp;refine hK _ ?_;clear hK K)
 refine bH ?_;go_wp2_with fail
 go_ret;exact⟨by simp,rfl⟩
end
end Go.Proofs.YtcijgkfpobpdbaaGreatDoor
