/- The texts BvC BvN Bidx Rnk Sel, one behind the other. -/
import Derived.Test.YtiopheoljccmpaaGreatDoorCq31
import Derived.Test.YtiopheoljccmpaaGreatDoorCq6
import Derived.Test.YtiopheoljccmpaaGreatDoorCq3
import Derived.Test.YtiopheoljccmpaaGreatDoorCq27
import Derived.Test.YtiopheoljccmpaaGreatDoorCq20
import Derived.Test.YtiopheoljccmpaaGreatDoorCq4
open Go.Lib renaming hid → Aa
open Go.IntKind renaming signed → Ab,wrap → Ae,bits → Af
open List renaming getElem?_eq_none → Ac,getElem?_eq_getElem → Ah,getElem?_range → Aj,getD_eq_getElem?_getD → Al,getElem?_map → Am,range_succ → Ao,filter_append → Ar,ext_getElem? → As,range → At
open Int renaming tdiv_eq_ediv_of_nonneg → Ad,tmod_eq_emod_of_nonneg → Ak
open Go.World renaming cell?_setCell_other → Ag,block_lt_of_cell? → An,frozen?_setCell → Ap
open Nat renaming zero_le → Ai,le_refl → Aq
set_option maxHeartbeats 8000000
namespace Go.Proofs.YtiopheoljccmpaaGreatDoor
set_option maxRecDepth 100000
section
open Go Go.RowKit
attribute [local go_sem] aM aP
theorem gX1 {α:Type} {w w':World} {B base:Nat} {e:TypeId} {k:Nat} {enc:α->List Value} {v:Value} {xs:List α} (h:aO w base e k enc v xs) (hg:EB B w w') (hb:∀q,v.ownBlock=some q->q<B):aO w' base e k enc v xs:=by
 obtain⟨h1,h2⟩:=h;refine⟨h1,?_⟩;rcases h2 with h2|⟨g,cap,ei,hv,hbs,hh,r⟩
 ·exact Or.inl h2
 ·refine Or.inr ⟨g,cap,ei,hv,hbs,?_,r⟩
  rw[Below.block hg.1 g (hb g (by rw[hv];rfl))];exact hh
def jM (l:List Bool) (k:Nat):List Nat:=(At k).map λg=>fE l (512*g)
theorem jM0 (l:List Bool) (k:Nat):jM l (k+1)=jM l k++[fE l (512*k)]:=by
 unfold jM;rw[Ao,List.map_append];rfl
theorem lF0 (l:List Bool) (k:Nat):(jM l k).length=k:=by simp[jM]
theorem jT0 {l:List Bool} {k:Nat} (h:k<(l.length+63)/64):(xR l)[k]?=some (tF l k):=by
 unfold xR;rw[Am,Aj h];rfl
theorem pQ (l:List Bool):(xR l).length=(l.length+63)/64:=by simp[xR]
theorem gP0 {w w1 w2:World} {p:Nat} {row:Option Nat} (h:w.grownBy w1 (some p)) (k:w1.grownBy w2 row) (hr:∀q,row=some q->w.heap.size<=q):w.grownBy w2 (some p) :=
 ⟨k.os.trans h.os,k.tape.trans h.tape,k.output.trans h.output,Nat.le_trans h.size k.size,λi hi aw=>(k.block i (Nat.lt_of_lt_of_le hi h.size) (λe=>by have:=hr i e.symm;omega)).trans (h.block i hi aw)⟩
theorem kX0 {w w1:World} {p:Nat} (h:w.grownBy w1 (some p)) (j:Nat) (v:Value):w.grownBy (w1.setCell ⟨p,j,none⟩ v) (some p) :=
 ⟨h.os,h.tape,h.output,by simpa using h.size,λi hi aw=>(Below.heap_setCell _ _ _ i (λe=>aw (by rw[e]))).trans (h.block i hi aw)⟩
theorem tU0 {w w1:World} {p:Nat} (h:w.grownBy w1 (some p)) (hp:p<w.heap.size):EB p w w1 :=
 ⟨Below.grown (row:=some p) (Below.refl _ _) h (Nat.le_of_lt hp) (λk hk=>by cases hk;exact Aq _),h.size⟩
theorem vJ0 (l:List Bool) (vb bw:Nat) (vW:Value) (w:World) (hl:l.length<=1048576) (hvw:∀r,vW.ownBlock=some r->r≠vb)
  (c1:w.cell? ⟨vb,1,none⟩=some vW) (c2:w.cell? ⟨vb,2,none⟩=some (.slice none 0 0)) (f2:w.frozen? ⟨vb,2,none⟩=false)
  (ae:aO w bw 142 1 jR vW (xR l)) :
  Calls Tryz.prog 153 #[.pointer (some ⟨vb,0,none⟩)] w λe w'=>e=.returned (.tuple #[])/\(∃vC,w'.cell? ⟨vb,2,none⟩=some vC/\aO w' w.heap.size 3 1 jP vC (jM l ((l.length+511)/512)))/\(∀j,j≠2->w'.cell? ⟨vb,j,none⟩=w.cell? ⟨vb,j,none⟩)/\w.grownBy w' (some vb):=by
 obtain⟨q,hq⟩:=exq ((l.length+63)/64);have hqb:q<=16384:=by omega
 have hvl:=An w _ c1;simp only at hvl;obtain⟨aW,cW,rfl,_,_,m9⟩:=ae.at_ (enc:=jR) (λ_=>rfl);have HNE:Hid (∀r:Addr,aW=some r->some r.block≠some vb):=λr hr e=>hvw r.block (by rw[hr];rfl) (Option.some.inj e);have hWl:=pQ l;rw[<-hq]at hWl;rw[hWl]at c1;have HWG:Hid (∀k,k<q->(xR l)[k]?=some (tF l k)):=λk hk=>jT0 (by omega);have HATW:=Aa m9;have HQ:Hid ((l.length+511)/512=(q+7)/8):=by show _=_;omega
 clear ae hq hWl m9 hvw;go_enter Tryz.func153,Tryz.ntmps153
 go_wp2_with fail
 go_loopw [2,10] (λn i wr=>∃(k N:Nat) (vC:Value),k<=q/\i=.int .i64 k/\n=.int .i64 N/\Hid (N=fE l (64*k))/\N<=64*k/\wr.cell? ⟨vb,1,none⟩=some (.slice aW q cW)/\wr.cell? ⟨vb,2,none⟩=some vC/\wr.frozen? ⟨vb,2,none⟩=false/\aO wr w.heap.size 3 1 jP vC (jM l ((k+7)/8))/\Hid (∀j,j≠2->wr.cell? ⟨vb,j,none⟩=w.cell? ⟨vb,j,none⟩)/\Hid (w.grownBy wr (some vb))) (λ_ i _=>q-(intOf i).toNat)
 case atStart=>exact⟨0,0,_,Ai _,rfl,rfl,rfl,Ai _,c1,c2,f2,aO.nil _ _ _ _ _,λ_ _=>rfl,wU _ _⟩
 case round =>
  obtain⟨k,N,vC,hk,rfl,rfl,hN,hNb,d1,d2,df,ae,hj,ff⟩:=hrel;have uu:w.heap.size<=wr.heap.size:=ff.out.size;by_cases af:k<q
  ·obtain⟨wb,wo,rfl,hcW⟩:=at1 (f:=λn:Nat=>Value.int .u64 n) (pK HATW.out ff.out HNE.out) (aH (k:=k) (by rw[pQ];have:=(List.getElem?_eq_some_iff.1 (HWG.out k af)).1;rw[pQ]at this;exact this))
   have jy:=hcW k _ (HWG.out k af);clear hcW;obtain⟨x,hx⟩:=exq (tF l k);have l6:x<18446744073709551616:=by rw[hx];exact uR l k
   rw[<-hx]at jy;obtain⟨S,hS⟩:=exq (yV 2 64 x);have HN2:Hid (N+S=fE l (64*(k+1))):=by show _=_;rw[dK0,<-hN.out,hS,hx]
   have hNS:N+S<=64*(k+1):=by rw[HN2.out];exact nC _ _
   have CO:=λW=>fD0 x W l6;rw[<-hS]at CO;have di:(k:Int)<q:=by omega
   have fu:=lF0 l ((k+7)/8);clear hx hS;by_cases h8:k%8=0
   ·have h8i:(k:Int)%8=0:=by omega
    have hC2:jM l ((k+1+7)/8)=jM l ((k+7)/8)++[N]:=by
     rw[show (k+1+7)/8=(k+7)/8+1 by omega,jM0,hN.out,show 512*((k+7)/8)=64*k by omega]
    have HC2:=Aa hC2;clear hC2;obtain⟨aC,cC,rfl,_,_,_⟩:=ae.at_ (enc:=jP) (λ_=>rfl);rw[fu]at d2 ae
    have hnr:some vb≠(Value.slice aC ((k+7)/8) cC).ownBlock:=λh=>by
     have:=bF ae _ h.symm
     omega
    go_wp2_with (at_builtin;refine aV pU0 rfl _ _ rfl w.heap.size (.slice aC ((k+7)/8) cC) (jM l ((k+7)/8)) N rfl ae (aB.refl _) _ 1 rfl #[.int .i64 N] rfl rfl (by rw[fu];omega) uu ?_;intro v' w5 ai m7 m8 bg;obtain⟨a5,c5,rfl,_,_,_⟩:=ai.at_ (enc:=jP) (λ_=>rfl);rw[show (jM l ((k+7)/8)++[N]).length=(k+7)/8+1 by rw[List.length_append,fu];rfl]at ai ⊢;have e1:=m7.cell d1 hnr;have e2:=m7.cell d2 hnr;have ef:w5.frozen? ⟨vb,2,none⟩=false:=(World.frozen?_of_block (a:=⟨vb,2,none⟩) (m7.block vb (by omega) hnr)).trans df)
    refine(CO _).mono ?_;rintro e w6 ⟨rfl,rfl⟩;go_wp2_with fail
    have hjj:∀j,j≠2->(w5.setCell ⟨vb,2,none⟩ (.slice a5 ((k+7)/8+1) c5)).cell? ⟨vb,j,none⟩=w.cell? ⟨vb,j,none⟩:=λj od=>by
     rw[Ag _ _ _ _ (λh=>od (congrArg Addr.off h).symm),<-hj.out j od];exact World.cell?_of_block (a:=⟨vb,j,none⟩) (m7.block vb (by omega) hnr)
    have uw:Hid (w.grownBy (w5.setCell ⟨vb,2,none⟩ (.slice a5 ((k+7)/8+1) c5)) (some vb)):=kX0 (gP0 ff.out m7 (λr hr=>bF ae r hr)) 2 _;go_roundw
    case rel=>exact⟨k+1,N+S,_,af,by go_num,by go_num,HN2.out,hNS,(Ag _ _ _ _ (λh=>by cases h)).trans e1,World.cell?_setCell_same _ _ _ e2,(Ap _ _ _ _).trans ef,by rw[HC2.out];exact pV ai (p:=⟨vb,2,none⟩) hvl _,hjj,uw⟩
    case measure=>simp[intOf];omega
   ·have h8i:¬(k:Int)%8=0:=by omega
    have hC2:(k+1+7)/8=(k+7)/8:=by omega
    have HC2:=Aa hC2;clear hC2 fu;go_wp2_with fail
    refine(CO _).mono ?_;rintro e w6 ⟨rfl,rfl⟩;go_wp2_with fail
    go_roundw
    case rel=>exact⟨k+1,N+S,vC,af,by go_num,by go_num,HN2.out,hNS,d1,d2,df,by rw[HC2.out];exact ae,hj.out,ff⟩
    case measure=>simp[intOf];omega
  ·have di:¬(k:Int)<q:=by omega
   have fw:k=q:=by omega
   have HO:Hid (aO wr w.heap.size 3 1 jP vC (jM l ((l.length+511)/512))):=by show aO _ _ _ _ _ _ _;rw[HQ.out,<-fw];exact ae
   clear fw;go_wp2_with fail
   refine bodyPost_end (v:=.tuple #[]) (by simp[results,Tryz.results153,go_sem]) rfl ⟨rfl,⟨vC,d2,HO.out⟩,hj.out,ff.out⟩
def lZ (l:List Bool) (q:Nat):List Nat:=(At q).map (tF l)
theorem mI (l:List Bool) (q:Nat):(lZ l q).length=q:=by simp[lZ]
theorem qH {l:List Bool} {q k:Nat} (h:k<q):(lZ l q)[k]?=some (tF l k):=by
 unfold lZ;rw[Am,Aj h];rfl
theorem rU0 (q:Nat):lZ [] q=List.replicate q 0:=by
 apply As
 intro k;by_cases hk:k<q
 ·rw[qH hk,List.getElem?_replicate,if_pos hk,bZ1]
 ·rw[Ac (by rw[mI];omega),Ac (by simp;omega)]
theorem gR0 (l:List Bool) (q:Nat):lZ (l++[false]) q=lZ l q:=by
 unfold lZ;apply List.map_congr_left
 intro k _;exact tM0 l k
theorem mZ0 {l:List Bool} {q Q S:Nat} (hS:S<64) (hQ:l.length=64*Q+S):lZ (l++[true]) q=(lZ l q).set Q (tF l Q|||(1<<<S)%18446744073709551616):=by
 apply As
 intro k;by_cases hk:k<q
 ·rw[qH hk]
  by_cases hkQ:k=Q
  ·subst hkQ
   rw[List.getElem?_set_self (by rw[mI];exact hk),yJ0 hQ]
  ·rw[List.getElem?_set_ne (Ne.symm hkQ),qH hk,uJ0 hS hQ hkQ]
 ·rw[Ac (by rw[mI];omega),Ac (by rw[List.length_set,mI];omega)]
structure mZ (w:World) (vb:Nat) (l:List Bool):Prop where
 c0:w.cell? ⟨vb,0,none⟩=some (.int .i64 l.length)
 c1:∃vW,w.cell? ⟨vb,1,none⟩=some vW/\aO w 0 142 1 jR vW (xR l)
 c2:∃vC,w.cell? ⟨vb,2,none⟩=some vC/\aO w 0 3 1 jP vC (uH l)
theorem mZ.grows {w w':World} {vb:Nat} {l:List Bool} (h:mZ w vb l) (hg:aB w w'):mZ w' vb l:=by
 obtain⟨wb,h1,h2⟩:=h.c1;obtain⟨vC,h3,h4⟩:=h.c2;exact⟨hg.cell h.c0,⟨wb,hg.cell h1,h2.grows hg⟩,vC,hg.cell h3,h4.grows hg⟩
theorem jU1 {x S:Nat} (hx:x<18446744073709551616):bits .or .u64 (x:Int) (IntKind.u64.wrap ((2:Int)^S))=((x|||(1<<<S)%18446744073709551616:Nat):Int):=by
 have h:=nU0 (v:=1) (S:=S) hx;rw[show ((1:Nat):Int)*2^S=(2:Int)^S by simp]at h
 exact h
theorem oS0 (l:List Bool) (a:Option Addr) (c:Nat) (w:World) (hl:l.length<=1048576) (ah:aF w a 1 (l.map jJ)) :
  Calls Tryz.prog 92 #[.slice a l.length c] w λe w'=>e=.returned (.tuple #[.pointer (some ⟨w.heap.size+1,0,none⟩),.int .i64 0])/\mZ w' (w.heap.size+1) l/\aB w w':=by
 have HAT:=Aa ah;obtain⟨q,hq⟩:=exq ((l.length+63)/64);have hqb:q<=16384:=by omega
 have HQ:=Aa hq;have hlw:¬(1048576:Int)<l.length:=by omega
 have vt:((l.length:Int)+63)/64=q:=by omega
 have eq2:((l.length:Int)+63).tdiv 64=q:=by rw[Ad (by omega)];exact vt
 have wq:IntKind.i64.wrap (q:Int)=q:=by simp[Ae,Af,Ab];omega
 have ke:=λ(Y:World)=>iX1 q Y (by omega);clear ah hq;go_enter Tryz.func92,Tryz.ntmps92
 go_wp2_with fail
 have cg:=jN0 (w:=w) (n:=q) (by omega);rw[Nat.mul_one]at cg;obtain⟨W1,dv⟩:=exq (w.alloc (.cells (madeCells #[.int .u64 0] q) 142));have gk:W1.heap.size=w.heap.size+1:=by rw[dv];simp
 have ep:aB w W1:=by rw[dv];exact aB.alloc _ _
 rw[<-dv]at cg ⊢;obtain⟨W2,ki⟩:=exq (W1.alloc (.cells #[.int .i64 l.length,.slice (some ⟨w.heap.size,0,none⟩) q q,.slice none 0 0] 229));have jf:=λj u h=>aX W1 #[.int .i64 l.length,.slice (some ⟨w.heap.size,0,none⟩) q q,.slice none 0 0] 229 (0,0) j u h;rw[<-ki,gk]at jf;have b0:=jf 0 _ rfl;have b1:=jf 1 _ rfl;have b2:=jf 2 _ rfl;have bf:W2.frozen? ⟨w.heap.size+1,2,none⟩=false:=by rw[ki,<-gk];exact fN0 _ _ _ _
 have j5:aB W1 W2:=by rw[ki];exact aB.alloc _ _
 have aj:=cg.grows j5;have an:=ep.tr j5;rw[<-rU0 q]at aj;rw[<-ki];clear dv ki jf cg gk ep j5 ke vt eq2 wq;go_loopw [21] (λi wr=>∃k:Nat,k<=l.length/\i=.int .i64 k/\wr.cell? ⟨w.heap.size+1,0,none⟩=some (.int .i64 l.length)/\wr.cell? ⟨w.heap.size+1,1,none⟩=some (.slice (some ⟨w.heap.size,0,none⟩) q q)/\wr.cell? ⟨w.heap.size+1,2,none⟩=some (.slice none 0 0)/\wr.frozen? ⟨w.heap.size+1,2,none⟩=false/\aO wr w.heap.size 142 1 jR (.slice (some ⟨w.heap.size,0,none⟩) q q) (lZ (l.take k) q)/\aB w wr) (λi _=>l.length-(intOf i).toNat)
 case atStart=>exact⟨0,Ai _,rfl,b0,b1,b2,bf,aj,an⟩
 case round =>
  obtain⟨k,hk,rfl,d0,d1,d2,df,ae,hg⟩:=hrel;by_cases af:k<l.length
  ·obtain⟨x,hx⟩:∃x,l[k]?=some x:=⟨_,Ah af⟩
   obtain⟨b,o,rfl,hc⟩:=at1 HAT.out (aH af);have jy:=hg.cell (hc k x hx);have di:(k:Int)<l.length:=by omega
   cases x
   ·have HO:Hid (aO wr w.heap.size 142 1 jR (.slice (some ⟨w.heap.size,0,none⟩) q q) (lZ (l.take (k+1)) q)):=by show aO _ _ _ _ _ _ _;rw[aY hx,gR0];exact ae
    clear hc hx;go_wp2_with fail
    go_roundw
    case rel=>exact⟨k+1,af,by go_num,d0,d1,d2,df,HO.out,hg⟩
    case measure=>simp[intOf];omega
   ·obtain⟨Q,hQ⟩:=exq (k/64)
    obtain⟨S,hS⟩:=exq (k%64);have up:S<64:=by omega
    have hQq:Q<q:=by have:=HQ.out;omega
    have eQ:(k:Int)/64=Q:=by omega
    have eS:(k:Int)%64=S:=by omega
    have hQi:(Q:Int)<q:=by omega
    have eT:(k:Int).tmod 64=S:=by rw[Ak (by omega)];exact eS
    have wQ:IntKind.i64.wrap (Q:Int)=Q:=by simp[Ae,Af,Ab];omega
    have wS:IntKind.i64.wrap (S:Int)=S:=by simp[Ae,Af,Ab];omega
    obtain⟨y,hy⟩:=exq (tF (l.take k) Q);have pe:y<18446744073709551616:=by rw[hy];exact uR _ _
    have acb:=ae.grows (aB.drew wr);have e1:wr.cell? ⟨w.heap.size,Q,none⟩=some (.int .u64 y):=eH (f:=λn:Nat=>Value.int .u64 n) ae (by rw[qH hQq,hy]);obtain⟨f1,_,ax⟩:=fM (f:=λn:Nat=>Value.int .u64 n) acb (k:=Q) (by rw[mI];exact hQq) (y|||(1<<<S)%18446744073709551616)
    have hor:=jU1 (S:=S) pe;obtain⟨y1,rh⟩:=exq (y|||(1<<<S)%18446744073709551616)
    rw[<-rh]at hor ax
    have HO:Hid (aO (wr.drew.setCell ⟨w.heap.size,Q,none⟩ (.int .u64 y1)) w.heap.size 142 1 jR (.slice (some ⟨w.heap.size,0,none⟩) q q) (lZ (l.take (k+1)) q)):=by
     show aO _ _ _ _ _ _ _
     rw[aY hx,mZ0 (Q:=Q) up (by rw[List.length_take];omega),<-hy,<-rh];exact ax
    have z1:∀x:Ext aB wr.drew,x.u.cell? ⟨w.heap.size+1,1,none⟩=some (.slice (some ⟨w.heap.size,0,none⟩) q q):=aG ((aB.drew wr).cell d1);have z2:∀x:Ext aB wr.drew,x.u.cell? ⟨w.heap.size,Q,none⟩=some (.int .u64 y):=aG ((aB.drew wr).cell e1);clear hc hx hQ hS hy rh ax acb;go_wp2_with fail
    refine pD 12 (aT 12 []) (by kernel_rfl) (λd _ _ _ _ h=>by cases d<;>exact h) ?_
    iterate 12 (refine aJ rfl (λK hK=>?_);go_simp;refine hK _ ?_;clear hK K)
    clear z1 z2;refine bN ?_;simp only[List.drop_succ_cons,List.drop_zero];go_wp2_with fail
    have h0:∀j,(wr.drew.setCell ⟨w.heap.size,Q,none⟩ (.int .u64 y1)).cell? ⟨w.heap.size+1,j,none⟩=wr.cell? ⟨w.heap.size+1,j,none⟩:=λj=>Ag _ _ _ _ (λh=>by have:=congrArg Addr.block h;simp at this);go_roundw
    case rel=>exact⟨k+1,af,by go_num,(h0 0).trans d0,(h0 1).trans d1,(h0 2).trans d2,(Ap _ _ _ _).trans df,HO.out,(hg.dr).set (Aq _) _⟩
    case measure=>simp[intOf];omega
  ·have di:¬(k:Int)<l.length:=by omega
   have fw:k=l.length:=by omega
   rw[fw,List.take_length]at ae;have ie:=d1;have bd:=ae;rw[HQ.out]at ie bd;have CC:=vJ0 l (w.heap.size+1) w.heap.size _ wr hl (λr hr=>by have:w.heap.size=r:=Option.some.inj hr;omega) ie d2 df bd;clear fw ie;go_wp2_with fail
   refine CC.mono ?_;rintro e w5 ⟨rfl,⟨vC,g2,rr⟩,hj,ld⟩;have aim:w.heap.size+1<wr.heap.size:=An wr _ d0;have ff:=tU0 ld aim
   have HV:Hid (mZ w5 (w.heap.size+1) l):=by
    refine⟨by rw[hj 0 (by decide)];exact d0,⟨.slice (some ⟨w.heap.size,0,none⟩) ((l.length+63)/64) ((l.length+63)/64),?_,?_⟩,vC,g2,rr.base (Ai _)⟩
    ·rw[hj 1 (by decide),<-HQ.out];exact d1
    ·exact(gX1 bd ff (λr hr=>by have:w.heap.size=r:=Option.some.inj hr;omega)).base (Ai _)
   have bg:aB w w5:=Below.trans hg (Below.mono ff.1 (Nat.le_succ _));clear hj ff bd ae rr g2;go_wp2_with fail
   refine bodyPost_ret (v:=.tuple #[.pointer (some ⟨w.heap.size+1,0,none⟩),.int .i64 0]) (by simp[results,Tryz.results92,go_sem]) rfl ⟨rfl,HV.out,bg⟩
end
section
open Go Go.RowKit Go.Shelf
attribute [local go_sem] aM aP
def gE0 (nw:En->En->Bool) (l:List En) (i:Nat):Bool:=i==0||nw (l.getD i enZero) (l.getD (i-1) enZero)
def idxL (nw:En->En->Bool) (l:List En) (k:Nat):List Nat:=(At k).filter (gE0 nw l)
theorem fF0 {nw:En->En->Bool} {l:List En} {k:Nat} (h:gE0 nw l k=true):idxL nw l (k+1)=idxL nw l k++[k]:=by
 unfold idxL;rw[Ao,Ar];simp[h]
theorem wX0 {nw:En->En->Bool} {l:List En} {k:Nat} (h:gE0 nw l k=false):idxL nw l (k+1)=idxL nw l k:=by
 unfold idxL;rw[Ao,Ar];simp[h]
theorem oM (nw:En->En->Bool) (l:List En) (k:Nat):(idxL nw l k).length<=k:=by
 grind [idxL]
theorem zI (nw:En->En->Bool) (g:Nat) (eg:∀args w,(callFunc g args).run Tryz.prog w=.ok (.enter g args) w) (HG:∀(x y:En) w,Calls Tryz.prog g #[x.agg,y.agg] w λe w'=>e=.returned (.bool (nw x y))/\aB w w')
  (l:List En) (a:Option Addr) (c:Nat) (w:World) (hl:l.length<=1048576) (ah:aF w a 5 (l.map bE)) :
  Calls Tryz.prog 41 #[.slice a l.length c,.func (.func g) #[] #[]] w λe w'=>aB w w'/\∃v,e=.returned v/\aO w' w.heap.size 3 1 jP v (idxL nw l l.length):=by
 have HAT:=Aa ah;have HGG:=λx y w=>Aa (HG x y w);clear ah HG;go_enter Tryz.func41,Tryz.ntmps41
 go_wp2_with fail
 go_loopw [5,10] (λv i wr=>∃(k:Nat),k<=l.length/\i=.int .i64 k/\aO wr w.heap.size 3 1 jP v (idxL nw l k)/\aB w wr) (λ_ i _=>l.length-(intOf i).toNat)
 case atStart=>exact⟨0,Ai _,rfl,aO.nil _ _ _ _ _,aB.refl _⟩
 case round =>
  obtain⟨k,hk,rfl,ae,hg⟩:=hrel;by_cases af:k<l.length
  ·obtain⟨⟨xr,xs,xl,xt,xc⟩,hx⟩:∃x,l[k]?=some x:=⟨_,Ah af⟩
   obtain⟨ba,oa,rfl,cn⟩:=(HAT.out.grows hg).get (aH af);have c0:wr.cell? ⟨ba,oa+k*5,none⟩=some (.string xr):=cn k _ hx 0 _ rfl;have c1:wr.cell? ⟨ba,oa+k*5+1,none⟩=some (.string xs):=cn k _ hx 1 _ rfl;have c2:wr.cell? ⟨ba,oa+k*5+2,none⟩=some (.int .i64 xl):=cn k _ hx 2 _ rfl;have c3:wr.cell? ⟨ba,oa+k*5+3,none⟩=some (.int .i64 xt):=cn k _ hx 3 _ rfl;have c4:wr.cell? ⟨ba,oa+k*5+4,none⟩=some (.int .i64 xc):=cn k _ hx 4 _ rfl;have aag:=oM nw l k;obtain⟨W1,dv⟩:=exq (wr.alloc (.cells #[.string xr,.string xs,.int .i64 xl,.int .i64 xt,.int .i64 xc] 89));have aq:aB wr W1:=by rw[dv];exact aB.alloc _ _
   have jf:=λj u h=>aX wr #[.string xr,.string xs,.int .i64 xl,.int .i64 xt,.int .i64 xc] 89 (0,0) j u h;rw[<-dv]at jf;have z0:∀x:Ext aB W1.drew,x.u.cell? ⟨wr.heap.size,0,none⟩=some (.string xr):=aG ((aB.drew W1).cell (jf 0 _ rfl));have z1:∀x:Ext aB W1.drew,x.u.cell? ⟨wr.heap.size,1,none⟩=some (.string xs):=aG ((aB.drew W1).cell (jf 1 _ rfl));have z2:∀x:Ext aB W1.drew,x.u.cell? ⟨wr.heap.size,2,none⟩=some (.int .i64 xl):=aG ((aB.drew W1).cell (jf 2 _ rfl));have z3:∀x:Ext aB W1.drew,x.u.cell? ⟨wr.heap.size,3,none⟩=some (.int .i64 xt):=aG ((aB.drew W1).cell (jf 3 _ rfl));have z4:∀x:Ext aB W1.drew,x.u.cell? ⟨wr.heap.size,4,none⟩=some (.int .i64 xc):=aG ((aB.drew W1).cell (jf 4 _ rfl));clear jf;by_cases h0:k=0
   ·have hK:Hid (gE0 nw l k=true):=by show _=_;rw[h0];rfl
    have hkz:((k:Int)==0)=true:=by rw[h0];rfl
    have H0:=Aa h0;clear cn hx h0;go_wp2_with fail
    rw[<-dv];clear dv;refine bH (aT 12 []) (by kernel_rfl) (λd _ _ _ _ h=>by cases d<;>exact h) ?_
    iterate 12 (refine aJ rfl (λK hK=>?_);go_simp;refine hK _ ?_;clear hK K)
    clear z0 z1 z2 z3 z4;refine bN ?_;have ax:=ae.grows aq.dr;have ee:=aB.trans _ _ _ hg aq.dr;have HI:=Aa (fF0 hK.out);obtain⟨acc,bk⟩:=exq (idxL nw l k);rw[<-bk]at ax HI aag;clear bk ae aq hg;go_wp2_with (at_builtin;refine aV pU0 rfl _ _ rfl w.heap.size _ acc k rfl ax (aB.refl _) _ 1 rfl #[.int .i64 k] rfl rfl (by omega) ee.size ?_;intro v5 w5 ai _ _ bg)
    have HG5:=bg w ee (Aq _);rw[<-HI.out]at ai;go_wp2_with fail
    go_roundw
    case rel=>exact⟨k+1,by omega,by go_num,ai,HG5⟩
    case measure=>simp[intOf];omega
   ·obtain⟨⟨yr,ys,yl,yt,yc⟩,hy⟩:∃y,l[k-1]?=some y:=⟨_,Ah (by omega)⟩
    obtain⟨m,hm⟩:=exq (k-1);have hkz:((k:Int)==0)=false:=by simp;omega
    have wk:IntKind.i64.wrap ((k:Int)-1)=m:=by simp[Ae,Af,Ab];omega
    have hml:m<l.length:=by omega
    have hmi:(m:Int)<l.length:=by omega
    rw[<-hm]at hy;have d0:∀x:Ext aB W1.drew,x.u.cell? ⟨ba,oa+m*5,none⟩=some (.string yr):=aG ((aB.drew W1).cell (aq.cell (cn m _ hy 0 _ rfl)));have d1:∀x:Ext aB W1.drew,x.u.cell? ⟨ba,oa+m*5+1,none⟩=some (.string ys):=aG ((aB.drew W1).cell (aq.cell (cn m _ hy 1 _ rfl)));have d2:∀x:Ext aB W1.drew,x.u.cell? ⟨ba,oa+m*5+2,none⟩=some (.int .i64 yl):=aG ((aB.drew W1).cell (aq.cell (cn m _ hy 2 _ rfl)));have d3:∀x:Ext aB W1.drew,x.u.cell? ⟨ba,oa+m*5+3,none⟩=some (.int .i64 yt):=aG ((aB.drew W1).cell (aq.cell (cn m _ hy 3 _ rfl)));have d4:∀x:Ext aB W1.drew,x.u.cell? ⟨ba,oa+m*5+4,none⟩=some (.int .i64 yc):=aG ((aB.drew W1).cell (aq.cell (cn m _ hy 4 _ rfl)));obtain⟨b,hb⟩:=exq (nw ⟨xr,xs,xl,xt,xc⟩ ⟨yr,ys,yl,yt,yc⟩)
    have HB:Hid (gE0 nw l k=b):=by
     show _=_
     unfold gE0;rw[show l.getD k enZero=⟨xr,xs,xl,xt,xc⟩ by rw[Al,hx];rfl,<-hm,show l.getD m enZero=⟨yr,ys,yl,yt,yc⟩ by rw[Al,hy];rfl,<-hb,show (k==0)=false by simpa using h0]
     rfl
    have CG:=λW=>Aa (HGG ⟨xr,xs,xl,xt,xc⟩ ⟨yr,ys,yl,yt,yc⟩ W).out;rw[<-hb]at CG;have HM:=Aa hm;have H0:=Aa h0;clear cn hx hy hm hb h0;go_wp2_with fail
    rw[<-dv];clear dv;refine bH (aT 12 [10]) (by kernel_rfl) (λd _ _ _ _ h=>by cases d<;>exact h) ?_
    iterate 10 (refine aJ rfl (λK hK=>?_);go_simp;refine hK _ ?_;clear hK K)
    refine bM rfl rfl (λK hK=>?_);go_simp;refine((CG W1.drew).out).mono ?_;rintro e w2 ⟨rfl,an⟩;refine⟨an,hK _ _ ?_⟩;clear hK K;iterate 1 (refine aJ rfl (λK hK=>?_);go_simp;refine hK _ ?_;clear hK K)
    clear z0 z1 z2 z3 z4 d0 d1 d2 d3 d4;refine bN ?_;have fe:=aB.trans _ _ _ aq.dr an;have ax:=ae.grows fe;have ee:=aB.trans _ _ _ hg fe;obtain⟨acc,bk⟩:=exq (idxL nw l k)
    cases b with
    | true =>
     have HI:=Aa (fF0 HB.out);rw[<-bk]at ax HI aag;clear bk ae aq hg CG an fe;go_wp2_with (at_builtin;refine aV pU0 rfl _ _ rfl w.heap.size _ acc k rfl ax (aB.refl _) _ 1 rfl #[.int .i64 k] rfl rfl (by omega) ee.size ?_;intro v5 w5 ai _ _ bg)
     have HG5:=bg w ee (Aq _);rw[<-HI.out]at ai;go_wp2_with fail
     go_roundw
     case rel=>exact⟨k+1,by omega,by go_num,ai,HG5⟩
     case measure=>simp[intOf];omega
    | false =>
     have HI:=Aa (wX0 HB.out);rw[<-bk]at ax HI aag;clear bk ae aq hg CG an fe;go_wp2_with fail
     rw[<-HI.out]at ax;go_roundw
     case rel=>exact⟨k+1,by omega,by go_num,ax,ee⟩
     case measure=>simp[intOf];omega
  ·obtain rfl:k=l.length:=by omega
   go_wp2_with fail
   go_ret;exact⟨hg,_,rfl,ae⟩
end
section
open Go Go.RowKit
attribute [local go_sem] aM aP
theorem bS1 {l:List Bool} {k:Nat} (h:k<(l.length+511)/512):(uH l)[k]?=some (fE l (512*k)):=by
 unfold uH;rw[Am,Aj h];rfl
theorem pQ0 (l:List Bool) (vb:Nat) (w:World) (ah:mZ w vb l) :
  Calls Tryz.prog 157 #[.pointer (some ⟨vb,0,none⟩)] w λe w'=>e=.returned (.int .i64 l.length)/\w=w':=by
 have c0:=ah.c0;clear ah;go_enter Tryz.func157,Tryz.ntmps157
 go_wp2_with fail
 go_ret;exact⟨rfl,rfl⟩
theorem gC0 (l:List Bool) (vb:Nat) (b:Bool) (i:Nat) (w:World) (hl:l.length<=1048576) (hi:i<=1048576) (ah:mZ w vb l) :
  Calls Tryz.prog 96 #[.pointer (some ⟨vb,0,none⟩),.bool b,.int .i64 i] w λe w'=>e=.returned (.int .i64 (kS l b (min i l.length)))/\w=w':=by
 obtain⟨vW,h1,h2⟩:=ah.c1;obtain⟨aW,cW,rfl,_,_,m9⟩:=h2.at_ (enc:=jR) (λ_=>rfl);have hwl:=pQ l;rw[hwl]at h1;obtain⟨vC,h3,h4⟩:=ah.c2;have CL:=Aa (pQ0 l vb w ah);obtain⟨aC,cC,rfl,_,_,ux⟩:=h4.at_ (enc:=jP) (λ_=>rfl);have fu:(uH l).length=(l.length+511)/512:=by simp[uH]
 rw[fu]at h3;have c0:=ah.c0;obtain⟨m,hm⟩:=exq (min i l.length);rw[<-hm];have hml:m<=l.length:=by omega
 by_cases hm0:m=0
 ·have hv:kS l b m=0:=by subst hm0;cases b<;>rfl
  have e1:min (i:Int) l.length=0:=by omega
  have e2:max (0:Int) 0=0:=rfl;rw[hv];clear ah h1 h2 h3 h4 ux m9 hv hwl;go_enter Tryz.func96,Tryz.ntmps96
  go_wp2_with fail
  refine CL.out.mono ?_;rintro e w2 ⟨rfl,rfl⟩;go_wp2_with fail
  go_ret;exact⟨rfl,rfl⟩
 ·obtain⟨b1,o1,rfl,hcC⟩:=at1 (f:=λn:Nat=>Value.int .i64 n) ux (aH (k:=0) (by rw[fu];omega))
  obtain⟨bW,oW,rfl,hcW⟩:=at1 (f:=λn:Nat=>Value.int .u64 n) m9 (aH (k:=0) (by rw[hwl];omega));have bj:∀k,k<(l.length+63)/64->w.cell? ⟨bW,oW+k,none⟩=some (.int .u64 (tF l k)):=λk hk=>hcW k _ (jT0 hk);have HC:=Aa bj;obtain⟨L,hL⟩:=exq ((m-1)/64);have hLq:L<(l.length+63)/64:=by omega
  have jy:=hcC (L/8) _ (bS1 (l:=l) (k:=L/8) (by omega));have eL:((m:Int)-1).tdiv 64=L:=by rw[Ad (by omega)];omega
  have eL8:(L:Int).tdiv 8=(L/8:Nat):=by rw[Ad (by omega)];omega
  have eM:((m:Int)-1).tmod 64=((m-1)%64:Nat):=by rw[Ak (by omega)];omega
  have e1:min (i:Int) l.length=m:=by omega
  have e2:max (0:Int) m=m:=by omega
  obtain⟨R0,zg⟩:=exq (fE l (512*(L/8)));rw[<-zg]at jy;have ain:R0<=512*(L/8):=by rw[zg];exact nC _ _
  have HR0:Hid (R0=fE l (64*(8*(L/8)))):=by show _=_;rw[zg];congr 1;omega
  obtain⟨q,hq⟩:=exq ((l.length+63)/64);obtain⟨q5,hq5⟩:=exq ((l.length+511)/512);have hL5:L/8<q5:=by omega
  have hLm:L<=16384:=by omega
  rw[<-hq]at h1 hLq HC;rw[<-hq5]at h3;obtain⟨L8,hL8⟩:=exq (L/8);have aio:8*L8<=L:=by omega
  rw[<-hL8]at jy eL8 HR0 hL5 ain;have HL:=Aa hL;have HL8:=Aa hL8;clear ah h2 h4 ux hcC bj hcW m9 hwl hq hq5 zg fu hL hL8;have em:min i l.length=m:=hm.symm;clear hm;have fL:((m:Int)-1)/64=L:=by have:=HL.out;omega
  have gL:(m-1)/64=L:=HL.out.symm;have fL8:(L:Int)/8=L8:=by have:=HL8.out;omega
  have gL8:L/8=L8:=HL8.out.symm;have wL8:IntKind.i64.wrap ((L8:Int)*8)=(8*L8:Nat):=by simp[Ae,Af,Ab];omega
  go_enter Tryz.func96,Tryz.ntmps96
  go_wp2_with fail
  refine CL.out.mono ?_;rintro e w2 ⟨rfl,rfl⟩;go_wp2_with fail
  have hmz:((m:Int)==0)=false:=by simp;omega
  rw[hmz];clear hmz;go_loopw [8,9] (λn k wr=>∃(K N:Nat),K<=L/\k=.int .i64 K/\n=.int .i64 N/\Hid (N=fE l (64*K))/\N<=64*K/\Hid (wr=w)) (λ_ k _=>L-(intOf k).toNat)
  case atStart=>exact⟨8*L8,R0,aio,by go_num,rfl,HR0.out,by omega,rfl⟩
  case round =>
   obtain⟨K,N,hK,rfl,rfl,hN,hNb,hw⟩:=hrel;obtain rfl:=hw.out;have hKq:K<q:=by omega
   have jy:=HC.out K hKq;obtain⟨x,hx⟩:=exq (tF l K);have l6:x<18446744073709551616:=by rw[hx];exact uR l K
   rw[<-hx]at jy;by_cases af:K<L
   ·obtain⟨S,hS⟩:=exq (yV 2 64 x)
    have HN2:Hid (N+S=fE l (64*(K+1))):=by show _=_;rw[dK0,<-hN.out,hS,hx]
    have hNS:N+S<=64*(K+1):=by rw[HN2.out];exact nC _ _
    have CO:=λW=>fD0 x W l6;rw[<-hS]at CO;have di:(K:Int)<L:=by omega
    clear hx hS;go_wp2_with fail
    refine(CO _).mono ?_;rintro e w6 ⟨rfl,rfl⟩;go_wp2_with fail
    go_roundw
    case rel=>exact⟨K+1,N+S,af,by go_num,by go_num,HN2.out,hNS,trivial⟩
    case measure=>simp[intOf];omega
   ·have di:¬(K:Int)<L:=by omega
    obtain rfl:K=L:=by omega
    obtain⟨s,hs⟩:=exq ((m-1)%64);have aip:s<64:=by omega
    have eS:((m:Int)-1)%64=s:=by omega
    rw[<-hs]at eM;obtain⟨y,hy⟩:=exq ((x<<<(63-s))%18446744073709551616);have pe:y<18446744073709551616:=by rw[hy];exact Nat.mod_lt _ (by decide)
    obtain⟨S,hS⟩:=exq (yV 2 64 y);have HN2:Hid (N+S=fE l m):=by show _=_;rw[hN.out,hS,hy,hx,uW0 l K s aip];congr 1;have:=HL.out;omega
    have hNS:N+S<=m:=by rw[HN2.out];exact nC _ _
    have CO:=λW=>fD0 y W pe;rw[<-hS]at CO
    have HY:Hid (IntKind.u64.wrap ((x:Int)*2^(63-s))=y):=by
     show _=_
     rw[hy,Nat.shiftLeft_eq,show (x:Int)*2^(63-s)=((x*2^(63-s):Nat):Int) by push_cast;rfl]
     generalize x*2^(63-s)=N;simp[Ae,Af,Ab]
    have hsm:(m-1)%64=s:=hs.symm;clear hx hS hy hs;go_wp2_with fail
    rw[HY.out];refine(CO _).mono ?_;rintro e w6 ⟨rfl,rfl⟩;have hnp:min (m:Int) (N+S)=N+S:=by omega
    have gh:kS l true m=N+S:=HN2.out.symm;have fp:kS l false m=m-(N+S):=by rw[HN2.out];rfl
    cases b
    ·go_wp2_with fail
     go_ret;refine⟨?_,rfl⟩;rw[fp];congr 2
     rw[Int.ofNat_sub hNS];push_cast
     rfl
    ·go_wp2_with fail
     go_ret;exact⟨by rw[gh];congr 2,rfl⟩
theorem dF1 (l:List Bool) (vb b1 b2 b3:Nat) (b:Bool) (k i:Nat) (w:World) (hl:l.length<=1048576) (hi:i<l.length) (ah:mZ w vb l)
  (c1:w.cell? ⟨b1,0,none⟩=some (.pointer (some ⟨vb,0,none⟩))) (c2:w.cell? ⟨b2,0,none⟩=some (.bool b)) (c3:w.cell? ⟨b3,0,none⟩=some (.int .i64 k)) :
  Calls Tryz.prog 160 #[.int .i64 i,.pointer (some ⟨b1,0,none⟩),.pointer (some ⟨b2,0,none⟩),.pointer (some ⟨b3,0,none⟩)] w λe w'=>e=.returned (.bool (decide (k<kS l b (i+1))))/\w'=w.drew:=by
 obtain⟨R,hR⟩:=exq (kS l b (i+1))
 have CR:Hid (∀u,aB w u->Calls Tryz.prog 96 #[.pointer (some ⟨vb,0,none⟩),.bool b,.int .i64 ((i:Int)+1)] u λe w'=>e=.returned (.int .i64 R)/\u=w'):=by
  intro u hg;have h:=gC0 l vb b (i+1) u hl (by omega) (ah.grows hg);rw[Nat.min_eq_left (by omega:i+1<=l.length),<-hR]at h;exact h
 rw[<-hR];have z1:∀x:Ext aB w.drew,x.u.cell? ⟨b1,0,none⟩=some (.pointer (some ⟨vb,0,none⟩)):=aG ((aB.drew w).cell c1);have z2:∀x:Ext aB w.drew,x.u.cell? ⟨b2,0,none⟩=some (.bool b):=aG ((aB.drew w).cell c2);have z3:∀x:Ext aB w.drew,x.u.cell? ⟨b3,0,none⟩=some (.int .i64 k):=aG ((aB.drew w).cell c3);have akj:decide ((k:Int)<R)=decide (k<R):=by simp
 have wi:IntKind.i64.wrap ((i:Int)+1)=(i:Int)+1:=by simp[Ae,Af,Ab];omega
 clear ah hR;go_enter Tryz.func160,Tryz.ntmps160
 go_wp2_with fail
 refine bH (aT 8 []) (by kernel_rfl) (λd _ _ _ _ h=>by cases d<;>exact h) ?_
 iterate 4 (refine aJ rfl (λK hK=>?_);go_simp;refine hK _ ?_;clear hK K)
 refine aJ rfl (λK hK=>?_);go_simp;apply Exists.intro
 refine⟨λx=>?_,hK _ ?_⟩
 ·go_at_call 96;exact dN0 (CR.out _ ((aB.drew w).tr x.h))
 clear hK K;iterate 3 (refine aJ rfl (λK hK=>?_);go_simp;refine hK _ ?_;clear hK K)
 refine bN ?_;go_wp2_with fail
 go_ret;exact⟨by simp,rfl⟩
end
end Go.Proofs.YtiopheoljccmpaaGreatDoor
