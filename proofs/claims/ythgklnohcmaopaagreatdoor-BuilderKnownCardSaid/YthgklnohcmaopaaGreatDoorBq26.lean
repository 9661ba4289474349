/- The texts BvC BvN Rnk Sel Bidx, one behind the other. -/
import Derived.Test.YthgklnohcmaopaaGreatDoorBq25
import Derived.Test.YthgklnohcmaopaaGreatDoorBq5
import Derived.Test.YthgklnohcmaopaaGreatDoorBq4
import Derived.Test.YthgklnohcmaopaaGreatDoorBq18
import Derived.Test.YthgklnohcmaopaaGreatDoorBq3
import Derived.Test.YthgklnohcmaopaaGreatDoorBq22
open Go.Lib renaming hid → Aa
open Go.IntKind renaming signed → Ab,wrap → Ae,bits → Af
open List renaming getElem?_eq_none → Ac,getElem?_eq_getElem → Ah,getElem?_range → Aj,getD_eq_getElem?_getD → Al,getElem?_map → Am,range_succ → Ao,filter_append → Ar,ext_getElem? → As,range → At
open Int renaming tdiv_eq_ediv_of_nonneg → Ad,tmod_eq_emod_of_nonneg → Ak
open Go.World renaming cell?_setCell_other → Ag,block_lt_of_cell? → An,frozen?_setCell → Ap
open Nat renaming zero_le → Ai,le_refl → Aq
set_option maxHeartbeats 8000000
namespace Go.Proofs.YthgklnohcmaopaaGreatDoor
set_option maxRecDepth 100000
section
open Go Go.RowKit
attribute [local go_sem] aM aO
theorem vH0 {α:Type} {w w':World} {B base:Nat} {e:TypeId} {k:Nat} {enc:α->List Value} {v:Value} {xs:List α} (h:aT w base e k enc v xs) (hg:EB B w w') (hb:∀q,v.ownBlock=some q->q<B):aT w' base e k enc v xs:=by
 obtain⟨h1,h2⟩:=h;refine⟨h1,?_⟩;rcases h2 with h2|⟨g,cap,b9,hv,hbs,hh,r⟩
 ·exact Or.inl h2
 ·refine Or.inr ⟨g,cap,b9,hv,hbs,?_,r⟩
  rw[Below.block hg.1 g (hb g (by rw[hv];rfl))];exact hh
def gH (l:List Bool) (k:Nat):List Nat:=(At k).map λg=>cZ l (512*g)
theorem bI0 (l:List Bool) (k:Nat):gH l (k+1)=gH l k++[cZ l (512*k)]:=by
 unfold gH;rw[Ao,List.map_append];rfl
theorem dT0 (l:List Bool) (k:Nat):(gH l k).length=k:=by simp[gH]
theorem lB {l:List Bool} {k:Nat} (h:k<(l.length+63)/64):(jT l)[k]?=some (kD l k):=by
 unfold jT;rw[Am,Aj h];rfl
theorem eG (l:List Bool):(jT l).length=(l.length+63)/64:=by simp[jT]
theorem cK0 {w w1 w2:World} {p:Nat} {row:Option Nat} (h:w.grownBy w1 (some p)) (k:w1.grownBy w2 row) (hr:∀q,row=some q->w.heap.size<=q):w.grownBy w2 (some p) :=
 ⟨k.os.trans h.os,k.tape.trans h.tape,k.output.trans h.output,Nat.le_trans h.size k.size,λi hi aq=>(k.block i (Nat.lt_of_lt_of_le hi h.size) (λe=>by have:=hr i e.symm;omega)).trans (h.block i hi aq)⟩
theorem fA0 {w w1:World} {p:Nat} (h:w.grownBy w1 (some p)) (j:Nat) (v:Value):w.grownBy (w1.setCell ⟨p,j,none⟩ v) (some p) :=
 ⟨h.os,h.tape,h.output,by simpa using h.size,λi hi aq=>(Below.heap_setCell _ _ _ i (λe=>aq (by rw[e]))).trans (h.block i hi aq)⟩
theorem vR {w w1:World} {p:Nat} (h:w.grownBy w1 (some p)) (hp:p<w.heap.size):EB p w w1 :=
 ⟨Below.grown (row:=some p) (Below.refl _ _) h (Nat.le_of_lt hp) (λk hk=>by cases hk;exact Aq _),h.size⟩
theorem aH0 (l:List Bool) (vb bw:Nat) (vW:Value) (w:World) (hl:l.length<=1048576) (hvw:∀r,vW.ownBlock=some r->r≠vb)
  (c1:w.cell? ⟨vb,1,none⟩=some vW) (c2:w.cell? ⟨vb,2,none⟩=some (.slice none 0 0)) (f2:w.frozen? ⟨vb,2,none⟩=false)
  (aa:aT w bw 213 1 gT vW (jT l)) :
  Calls Tryz.prog 183 #[.pointer (some ⟨vb,0,none⟩)] w λe w'=>e=.returned (.tuple #[])/\(∃vC,w'.cell? ⟨vb,2,none⟩=some vC/\aT w' w.heap.size 3 1 fI vC (gH l ((l.length+511)/512)))/\(∀j,j≠2->w'.cell? ⟨vb,j,none⟩=w.cell? ⟨vb,j,none⟩)/\w.grownBy w' (some vb):=by
 obtain⟨q,hq⟩:=exq ((l.length+63)/64);have qw:q<=16384:=by omega
 have hvl:=An w _ c1;simp only at hvl;obtain⟨aW,cW,rfl,_,_,ei⟩:=aa.at_ (enc:=gT) (λ_=>rfl);have HNE:Hid (∀r:Addr,aW=some r->some r.block≠some vb):=λr hr e=>hvw r.block (by rw[hr];rfl) (Option.some.inj e);have hWl:=eG l;rw[<-hq]at hWl;rw[hWl]at c1;have HWG:Hid (∀k,k<q->(jT l)[k]?=some (kD l k)):=λk hk=>lB (by omega);have HATW:=Aa ei;have HQ:Hid ((l.length+511)/512=(q+7)/8):=by show _=_;omega
 clear aa hq hWl ei hvw;go_enter Tryz.func183,Tryz.ntmps183
 go_wp2_with fail
 go_loopw [2,10] (λn i wr=>∃(k N:Nat) (vC:Value),k<=q/\i=.int .i64 k/\n=.int .i64 N/\Hid (N=cZ l (64*k))/\N<=64*k/\wr.cell? ⟨vb,1,none⟩=some (.slice aW q cW)/\wr.cell? ⟨vb,2,none⟩=some vC/\wr.frozen? ⟨vb,2,none⟩=false/\aT wr w.heap.size 3 1 fI vC (gH l ((k+7)/8))/\Hid (∀j,j≠2->wr.cell? ⟨vb,j,none⟩=w.cell? ⟨vb,j,none⟩)/\Hid (w.grownBy wr (some vb))) (λ_ i _=>q-(intOf i).toNat)
 case atStart=>exact⟨0,0,_,Ai _,rfl,rfl,rfl,Ai _,c1,c2,f2,aT.nil _ _ _ _ _,λ_ _=>rfl,qU _ _⟩
 case round =>
  obtain⟨k,N,vC,hk,rfl,rfl,hN,hNb,d1,d2,df,aa,hj,ci⟩:=hrel;have lr:w.heap.size<=wr.heap.size:=ci.out.size;by_cases ae:k<q
  ·obtain⟨wb,wo,rfl,pe⟩:=at1 (f:=λn:Nat=>Value.int .u64 n) (xR HATW.out ci.out HNE.out) (aH (k:=k) (by rw[eG];have:=(List.getElem?_eq_some_iff.1 (HWG.out k ae)).1;rw[eG]at this;exact this))
   have fg:=pe k _ (HWG.out k ae);clear pe;obtain⟨x,hx⟩:=exq (kD l k);have fy:x<18446744073709551616:=by rw[hx];exact lN l k
   rw[<-hx]at fg;obtain⟨S,hS⟩:=exq (sU 2 64 x);have HN2:Hid (N+S=cZ l (64*(k+1))):=by show _=_;rw[xB,<-hN.out,hS,hx]
   have hNS:N+S<=64*(k+1):=by rw[HN2.out];exact kM _ _
   have CO:=λW=>zK x W fy;rw[<-hS]at CO;have cp:(k:Int)<q:=by omega
   have cj:=dT0 l ((k+7)/8);clear hx hS;by_cases h8:k%8=0
   ·have h8i:(k:Int)%8=0:=by omega
    have uy:gH l ((k+1+7)/8)=gH l ((k+7)/8)++[N]:=by
     rw[show (k+1+7)/8=(k+7)/8+1 by omega,bI0,hN.out,show 512*((k+7)/8)=64*k by omega]
    have HC2:=Aa uy;clear uy;obtain⟨aC,cC,rfl,_,_,_⟩:=aa.at_ (enc:=fI) (λ_=>rfl);rw[cj]at d2 aa
    have q9:some vb≠(Value.slice aC ((k+7)/8) cC).ownBlock:=λh=>by
     have:=aV aa _ h.symm
     omega
    go_wp2_with (at_builtin;refine eA mV rfl _ _ rfl w.heap.size (.slice aC ((k+7)/8) cC) (gH l ((k+7)/8)) N rfl aa (aB.refl _) _ 1 rfl #[.int .i64 N] rfl rfl (by rw[cj];omega) lr ?_;intro v' w5 ai k7 q8 bk;obtain⟨a5,c5,rfl,_,_,_⟩:=ai.at_ (enc:=fI) (λ_=>rfl);rw[show (gH l ((k+7)/8)++[N]).length=(k+7)/8+1 by rw[List.length_append,cj];rfl]at ai ⊢;have e1:=k7.cell d1 q9;have e2:=k7.cell d2 q9;have ef:w5.frozen? ⟨vb,2,none⟩=false:=(World.frozen?_of_block (a:=⟨vb,2,none⟩) (k7.block vb (by omega) q9)).trans df)
    refine(CO _).mono ?_;rintro e w6 ⟨rfl,rfl⟩;go_wp2_with fail
    have hjj:∀j,j≠2->(w5.setCell ⟨vb,2,none⟩ (.slice a5 ((k+7)/8+1) c5)).cell? ⟨vb,j,none⟩=w.cell? ⟨vb,j,none⟩:=λj jw=>by
     rw[Ag _ _ _ _ (λh=>jw (congrArg Addr.off h).symm),<-hj.out j jw];exact World.cell?_of_block (a:=⟨vb,j,none⟩) (k7.block vb (by omega) q9)
    have aed:Hid (w.grownBy (w5.setCell ⟨vb,2,none⟩ (.slice a5 ((k+7)/8+1) c5)) (some vb)):=fA0 (cK0 ci.out k7 (λr hr=>aV aa r hr)) 2 _;go_roundw
    case rel=>exact⟨k+1,N+S,_,ae,by go_num,by go_num,HN2.out,hNS,(Ag _ _ _ _ (λh=>by cases h)).trans e1,World.cell?_setCell_same _ _ _ e2,(Ap _ _ _ _).trans ef,by rw[HC2.out];exact jX ai (p:=⟨vb,2,none⟩) hvl _,hjj,aed⟩
    case measure=>simp[intOf];omega
   ·have h8i:¬(k:Int)%8=0:=by omega
    have uy:(k+1+7)/8=(k+7)/8:=by omega
    have HC2:=Aa uy;clear uy cj;go_wp2_with fail
    refine(CO _).mono ?_;rintro e w6 ⟨rfl,rfl⟩;go_wp2_with fail
    go_roundw
    case rel=>exact⟨k+1,N+S,vC,ae,by go_num,by go_num,HN2.out,hNS,d1,d2,df,by rw[HC2.out];exact aa,hj.out,ci⟩
    case measure=>simp[intOf];omega
  ·have cp:¬(k:Int)<q:=by omega
   have gh:k=q:=by omega
   have HO:Hid (aT wr w.heap.size 3 1 fI vC (gH l ((l.length+511)/512))):=by show aT _ _ _ _ _ _ _;rw[HQ.out,<-gh];exact aa
   clear gh;go_wp2_with fail
   refine bodyPost_end (v:=.tuple #[]) (by simp[results,Tryz.results183,go_sem]) rfl ⟨rfl,⟨vC,d2,HO.out⟩,hj.out,ci.out⟩
def jY (l:List Bool) (q:Nat):List Nat:=(At q).map (kD l)
theorem jW (l:List Bool) (q:Nat):(jY l q).length=q:=by simp[jY]
theorem mF {l:List Bool} {q k:Nat} (h:k<q):(jY l q)[k]?=some (kD l k):=by
 unfold jY;rw[Am,Aj h];rfl
theorem iO0 (q:Nat):jY [] q=List.replicate q 0:=by
 apply As
 intro k;by_cases hk:k<q
 ·rw[mF hk,List.getElem?_replicate,if_pos hk,rP0]
 ·rw[Ac (by rw[jW];omega),Ac (by simp;omega)]
theorem aX0 (l:List Bool) (q:Nat):jY (l++[false]) q=jY l q:=by
 unfold jY;apply List.map_congr_left
 intro k _;exact jF0 l k
theorem dX0 {l:List Bool} {q Q S:Nat} (hS:S<64) (hQ:l.length=64*Q+S):jY (l++[true]) q=(jY l q).set Q (kD l Q|||(1<<<S)%18446744073709551616):=by
 apply As
 intro k;by_cases hk:k<q
 ·rw[mF hk]
  by_cases oz:k=Q
  ·subst oz
   rw[List.getElem?_set_self (by rw[jW];exact hk),mP0 hQ]
  ·rw[List.getElem?_set_ne (Ne.symm oz),mF hk,lW0 hS hQ oz]
 ·rw[Ac (by rw[jW];omega),Ac (by rw[List.length_set,jW];omega)]
structure gP (w:World) (vb:Nat) (l:List Bool):Prop where
 c0:w.cell? ⟨vb,0,none⟩=some (.int .i64 l.length)
 c1:∃vW,w.cell? ⟨vb,1,none⟩=some vW/\aT w 0 213 1 gT vW (jT l)
 c2:∃vC,w.cell? ⟨vb,2,none⟩=some vC/\aT w 0 3 1 fI vC (pK l)
theorem gP.grows {w w':World} {vb:Nat} {l:List Bool} (h:gP w vb l) (hg:aB w w'):gP w' vb l:=by
 obtain⟨wb,h1,h2⟩:=h.c1;obtain⟨vC,h3,h4⟩:=h.c2;exact⟨hg.cell h.c0,⟨wb,hg.cell h1,h2.grows hg⟩,vC,hg.cell h3,h4.grows hg⟩
theorem yB0 {x S:Nat} (hx:x<18446744073709551616):bits .or .u64 (x:Int) (IntKind.u64.wrap ((2:Int)^S))=((x|||(1<<<S)%18446744073709551616:Nat):Int):=by
 have h:=aI0 (v:=1) (S:=S) hx;rw[show ((1:Nat):Int)*2^S=(2:Int)^S by simp]at h
 exact h
theorem fI0 (l:List Bool) (a:Option Addr) (c:Nat) (w:World) (hl:l.length<=1048576) (ac:aF w a 1 (l.map mT)) :
  Calls Tryz.prog 119 #[.slice a l.length c] w λe w'=>e=.returned (.tuple #[.pointer (some ⟨w.heap.size+1,0,none⟩),.int .i64 0])/\gP w' (w.heap.size+1) l/\aB w w':=by
 have HAT:=Aa ac;obtain⟨q,hq⟩:=exq ((l.length+63)/64);have qw:q<=16384:=by omega
 have HQ:=Aa hq;have hlw:¬(1048576:Int)<l.length:=by omega
 have mf:((l.length:Int)+63)/64=q:=by omega
 have qy:((l.length:Int)+63).tdiv 64=q:=by rw[Ad (by omega)];exact mf
 have wq:IntKind.i64.wrap (q:Int)=q:=by simp[Ae,Af,Ab];omega
 have iw:=λ(Y:World)=>xX0 q Y (by omega);clear ac hq;go_enter Tryz.func119,Tryz.ntmps119
 go_wp2_with fail
 have aw:=zX (w:=w) (n:=q) (by omega);rw[Nat.mul_one]at aw;obtain⟨W1,bz⟩:=exq (w.alloc (.cells (madeCells #[.int .u64 0] q) 213));have de:W1.heap.size=w.heap.size+1:=by rw[bz];simp
 have eo:aB w W1:=by rw[bz];exact aB.alloc _ _
 rw[<-bz]at aw ⊢;obtain⟨W2,ft⟩:=exq (W1.alloc (.cells #[.int .i64 l.length,.slice (some ⟨w.heap.size,0,none⟩) q q,.slice none 0 0] 277));have dd:=λj u h=>aU W1 #[.int .i64 l.length,.slice (some ⟨w.heap.size,0,none⟩) q q,.slice none 0 0] 277 (0,0) j u h;rw[<-ft,de]at dd;have b0:=dd 0 _ rfl;have b1:=dd 1 _ rfl;have b2:=dd 2 _ rfl;have bf:W2.frozen? ⟨w.heap.size+1,2,none⟩=false:=by rw[ft,<-de];exact xZ _ _ _ _
 have gi:aB W1 W2:=by rw[ft];exact aB.alloc _ _
 have af:=aw.grows gi;have ah:=eo.tr gi;rw[<-iO0 q]at af;rw[<-ft];clear bz ft dd aw de eo gi iw mf qy wq;go_loopw [21] (λi wr=>∃k:Nat,k<=l.length/\i=.int .i64 k/\wr.cell? ⟨w.heap.size+1,0,none⟩=some (.int .i64 l.length)/\wr.cell? ⟨w.heap.size+1,1,none⟩=some (.slice (some ⟨w.heap.size,0,none⟩) q q)/\wr.cell? ⟨w.heap.size+1,2,none⟩=some (.slice none 0 0)/\wr.frozen? ⟨w.heap.size+1,2,none⟩=false/\aT wr w.heap.size 213 1 gT (.slice (some ⟨w.heap.size,0,none⟩) q q) (jY (l.take k) q)/\aB w wr) (λi _=>l.length-(intOf i).toNat)
 case atStart=>exact⟨0,Ai _,rfl,b0,b1,b2,bf,af,ah⟩
 case round =>
  obtain⟨k,hk,rfl,d0,d1,d2,df,aa,hg⟩:=hrel;by_cases ae:k<l.length
  ·obtain⟨x,hx⟩:∃x,l[k]?=some x:=⟨_,Ah ae⟩
   obtain⟨b,o,rfl,hc⟩:=at1 HAT.out (aH ae);have fg:=hg.cell (hc k x hx);have cp:(k:Int)<l.length:=by omega
   cases x
   ·have HO:Hid (aT wr w.heap.size 213 1 gT (.slice (some ⟨w.heap.size,0,none⟩) q q) (jY (l.take (k+1)) q)):=by show aT _ _ _ _ _ _ _;rw[bM hx,aX0];exact aa
    clear hc hx;go_wp2_with fail
    go_roundw
    case rel=>exact⟨k+1,ae,by go_num,d0,d1,d2,df,HO.out,hg⟩
    case measure=>simp[intOf];omega
   ·obtain⟨Q,hQ⟩:=exq (k/64)
    obtain⟨S,hS⟩:=exq (k%64);have jk:S<64:=by omega
    have mz:Q<q:=by have:=HQ.out;omega
    have eQ:(k:Int)/64=Q:=by omega
    have eS:(k:Int)%64=S:=by omega
    have hQi:(Q:Int)<q:=by omega
    have eT:(k:Int).tmod 64=S:=by rw[Ak (by omega)];exact eS
    have wQ:IntKind.i64.wrap (Q:Int)=Q:=by simp[Ae,Af,Ab];omega
    have wS:IntKind.i64.wrap (S:Int)=S:=by simp[Ae,Af,Ab];omega
    obtain⟨y,hy⟩:=exq (kD (l.take k) Q);have gn:y<18446744073709551616:=by rw[hy];exact lN _ _
    have vm:=aa.grows (aB.drew wr);have e1:wr.cell? ⟨w.heap.size,Q,none⟩=some (.int .u64 y):=bP (f:=λn:Nat=>Value.int .u64 n) aa (by rw[mF mz,hy]);obtain⟨f1,_,ar⟩:=dJ (f:=λn:Nat=>Value.int .u64 n) vm (k:=Q) (by rw[jW];exact mz) (y|||(1<<<S)%18446744073709551616)
    have r9:=yB0 (S:=S) gn;obtain⟨y1,ke⟩:=exq (y|||(1<<<S)%18446744073709551616)
    rw[<-ke]at r9 ar
    have HO:Hid (aT (wr.drew.setCell ⟨w.heap.size,Q,none⟩ (.int .u64 y1)) w.heap.size 213 1 gT (.slice (some ⟨w.heap.size,0,none⟩) q q) (jY (l.take (k+1)) q)):=by
     show aT _ _ _ _ _ _ _
     rw[bM hx,dX0 (Q:=Q) jk (by rw[List.length_take];omega),<-hy,<-ke];exact ar
    have z1:∀x:Ext aB wr.drew,x.u.cell? ⟨w.heap.size+1,1,none⟩=some (.slice (some ⟨w.heap.size,0,none⟩) q q):=aG ((aB.drew wr).cell d1);have z2:∀x:Ext aB wr.drew,x.u.cell? ⟨w.heap.size,Q,none⟩=some (.int .u64 y):=aG ((aB.drew wr).cell e1);clear hc hx hQ hS hy ke ar vm;go_wp2_with fail
    refine qB 12 (bB 12 []) (by kernel_rfl) (λd _ _ _ _ h=>by cases d<;>exact h) ?_
    iterate 12 (refine aK rfl (λK hK=>?_);go_simp;refine hK _ ?_;clear hK K)
    clear z1 z2;refine bT ?_;simp only[List.drop_succ_cons,List.drop_zero];go_wp2_with fail
    have h0:∀j,(wr.drew.setCell ⟨w.heap.size,Q,none⟩ (.int .u64 y1)).cell? ⟨w.heap.size+1,j,none⟩=wr.cell? ⟨w.heap.size+1,j,none⟩:=λj=>Ag _ _ _ _ (λh=>by have:=congrArg Addr.block h;simp at this);go_roundw
    case rel=>exact⟨k+1,ae,by go_num,(h0 0).trans d0,(h0 1).trans d1,(h0 2).trans d2,(Ap _ _ _ _).trans df,HO.out,(hg.dr).set (Aq _) _⟩
    case measure=>simp[intOf];omega
  ·have cp:¬(k:Int)<l.length:=by omega
   have gh:k=l.length:=by omega
   rw[gh,List.take_length]at aa;have ii:=d1;have an:=aa;rw[HQ.out]at ii an;have CC:=aH0 l (w.heap.size+1) w.heap.size _ wr hl (λr hr=>by have:w.heap.size=r:=Option.some.inj hr;omega) ii d2 df an;clear gh ii;go_wp2_with fail
   refine CC.mono ?_;rintro e w5 ⟨rfl,⟨vC,g2,fu⟩,hj,jg⟩;have sv:w.heap.size+1<wr.heap.size:=An wr _ d0;have ci:=vR jg sv
   have HV:Hid (gP w5 (w.heap.size+1) l):=by
    refine⟨by rw[hj 0 (by decide)];exact d0,⟨.slice (some ⟨w.heap.size,0,none⟩) ((l.length+63)/64) ((l.length+63)/64),?_,?_⟩,vC,g2,fu.base (Ai _)⟩
    ·rw[hj 1 (by decide),<-HQ.out];exact d1
    ·exact(vH0 an ci (λr hr=>by have:w.heap.size=r:=Option.some.inj hr;omega)).base (Ai _)
   have bk:aB w w5:=Below.trans hg (Below.mono ci.1 (Nat.le_succ _));clear hj ci an aa fu g2;go_wp2_with fail
   refine bodyPost_ret (v:=.tuple #[.pointer (some ⟨w.heap.size+1,0,none⟩),.int .i64 0]) (by simp[results,Tryz.results119,go_sem]) rfl ⟨rfl,HV.out,bk⟩
theorem sB0 {l:List Bool} {k:Nat} (h:k<(l.length+511)/512):(pK l)[k]?=some (cZ l (512*k)):=by
 unfold pK;rw[Am,Aj h];rfl
theorem nY (l:List Bool) (vb:Nat) (w:World) (ac:gP w vb l) :
  Calls Tryz.prog 186 #[.pointer (some ⟨vb,0,none⟩)] w λe w'=>e=.returned (.int .i64 l.length)/\w=w':=by
 have c0:=ac.c0;clear ac;go_enter Tryz.func186,Tryz.ntmps186
 go_wp2_with fail
 go_ret;exact⟨rfl,rfl⟩
theorem rR (l:List Bool) (vb:Nat) (b:Bool) (i:Nat) (w:World) (hl:l.length<=1048576) (hi:i<=1048576) (ac:gP w vb l) :
  Calls Tryz.prog 123 #[.pointer (some ⟨vb,0,none⟩),.bool b,.int .i64 i] w λe w'=>e=.returned (.int .i64 (gG l b (min i l.length)))/\w=w':=by
 obtain⟨vW,h1,h2⟩:=ac.c1;obtain⟨aW,cW,rfl,_,_,ei⟩:=h2.at_ (enc:=gT) (λ_=>rfl);have mh:=eG l;rw[mh]at h1;obtain⟨vC,h3,h4⟩:=ac.c2;have CL:=Aa (nY l vb w ac);obtain⟨aC,cC,rfl,_,_,lu⟩:=h4.at_ (enc:=fI) (λ_=>rfl);have cj:(pK l).length=(l.length+511)/512:=by simp[pK]
 rw[cj]at h3;have c0:=ac.c0;obtain⟨m,hm⟩:=exq (min i l.length);rw[<-hm];have hml:m<=l.length:=by omega
 by_cases hm0:m=0
 ·have hv:gG l b m=0:=by subst hm0;cases b<;>rfl
  have e1:min (i:Int) l.length=0:=by omega
  have e2:max (0:Int) 0=0:=rfl;rw[hv];clear ac h1 h2 h3 h4 lu ei hv mh;go_enter Tryz.func123,Tryz.ntmps123
  go_wp2_with fail
  refine CL.out.mono ?_;rintro e w2 ⟨rfl,rfl⟩;go_wp2_with fail
  go_ret;exact⟨rfl,rfl⟩
 ·obtain⟨b1,o1,rfl,hcC⟩:=at1 (f:=λn:Nat=>Value.int .i64 n) lu (aH (k:=0) (by rw[cj];omega))
  obtain⟨bW,oW,rfl,pe⟩:=at1 (f:=λn:Nat=>Value.int .u64 n) ei (aH (k:=0) (by rw[mh];omega));have bg:∀k,k<(l.length+63)/64->w.cell? ⟨bW,oW+k,none⟩=some (.int .u64 (kD l k)):=λk hk=>pe k _ (lB hk);have HC:=Aa bg;obtain⟨L,hL⟩:=exq ((m-1)/64);have hLq:L<(l.length+63)/64:=by omega
  have fg:=hcC (L/8) _ (sB0 (l:=l) (k:=L/8) (by omega));have eL:((m:Int)-1).tdiv 64=L:=by rw[Ad (by omega)];omega
  have eL8:(L:Int).tdiv 8=(L/8:Nat):=by rw[Ad (by omega)];omega
  have eM:((m:Int)-1).tmod 64=((m-1)%64:Nat):=by rw[Ak (by omega)];omega
  have e1:min (i:Int) l.length=m:=by omega
  have e2:max (0:Int) m=m:=by omega
  obtain⟨R0,qz⟩:=exq (cZ l (512*(L/8)));rw[<-qz]at fg;have aee:R0<=512*(L/8):=by rw[qz];exact kM _ _
  have HR0:Hid (R0=cZ l (64*(8*(L/8)))):=by show _=_;rw[qz];congr 1;omega
  obtain⟨q,hq⟩:=exq ((l.length+63)/64);obtain⟨q5,hq5⟩:=exq ((l.length+511)/512);have hL5:L/8<q5:=by omega
  have hLm:L<=16384:=by omega
  rw[<-hq]at h1 hLq HC;rw[<-hq5]at h3;obtain⟨L8,sw⟩:=exq (L/8);have aef:8*L8<=L:=by omega
  rw[<-sw]at fg eL8 HR0 hL5 aee;have HL:=Aa hL;have HL8:=Aa sw;clear ac h2 h4 lu hcC bg pe ei mh hq hq5 qz cj hL sw;have em:min i l.length=m:=hm.symm;clear hm;have fL:((m:Int)-1)/64=L:=by have:=HL.out;omega
  have gL:(m-1)/64=L:=HL.out.symm;have fL8:(L:Int)/8=L8:=by have:=HL8.out;omega
  have gL8:L/8=L8:=HL8.out.symm;have wL8:IntKind.i64.wrap ((L8:Int)*8)=(8*L8:Nat):=by simp[Ae,Af,Ab];omega
  go_enter Tryz.func123,Tryz.ntmps123
  go_wp2_with fail
  refine CL.out.mono ?_;rintro e w2 ⟨rfl,rfl⟩;go_wp2_with fail
  have hmz:((m:Int)==0)=false:=by simp;omega
  rw[hmz];clear hmz;go_loopw [8,9] (λn k wr=>∃(K N:Nat),K<=L/\k=.int .i64 K/\n=.int .i64 N/\Hid (N=cZ l (64*K))/\N<=64*K/\Hid (wr=w)) (λ_ k _=>L-(intOf k).toNat)
  case atStart=>exact⟨8*L8,R0,aef,by go_num,rfl,HR0.out,by omega,rfl⟩
  case round =>
   obtain⟨K,N,hK,rfl,rfl,hN,hNb,hw⟩:=hrel;obtain rfl:=hw.out;have hKq:K<q:=by omega
   have fg:=HC.out K hKq;obtain⟨x,hx⟩:=exq (kD l K);have fy:x<18446744073709551616:=by rw[hx];exact lN l K
   rw[<-hx]at fg;by_cases ae:K<L
   ·obtain⟨S,hS⟩:=exq (sU 2 64 x)
    have HN2:Hid (N+S=cZ l (64*(K+1))):=by show _=_;rw[xB,<-hN.out,hS,hx]
    have hNS:N+S<=64*(K+1):=by rw[HN2.out];exact kM _ _
    have CO:=λW=>zK x W fy;rw[<-hS]at CO;have cp:(K:Int)<L:=by omega
    clear hx hS;go_wp2_with fail
    refine(CO _).mono ?_;rintro e w6 ⟨rfl,rfl⟩;go_wp2_with fail
    go_roundw
    case rel=>exact⟨K+1,N+S,ae,by go_num,by go_num,HN2.out,hNS,trivial⟩
    case measure=>simp[intOf];omega
   ·have cp:¬(K:Int)<L:=by omega
    obtain rfl:K=L:=by omega
    obtain⟨s,hs⟩:=exq ((m-1)%64);have aeg:s<64:=by omega
    have eS:((m:Int)-1)%64=s:=by omega
    rw[<-hs]at eM;obtain⟨y,hy⟩:=exq ((x<<<(63-s))%18446744073709551616);have gn:y<18446744073709551616:=by rw[hy];exact Nat.mod_lt _ (by decide)
    obtain⟨S,hS⟩:=exq (sU 2 64 y);have HN2:Hid (N+S=cZ l m):=by show _=_;rw[hN.out,hS,hy,hx,pS0 l K s aeg];congr 1;have:=HL.out;omega
    have hNS:N+S<=m:=by rw[HN2.out];exact kM _ _
    have CO:=λW=>zK y W gn;rw[<-hS]at CO
    have HY:Hid (IntKind.u64.wrap ((x:Int)*2^(63-s))=y):=by
     show _=_
     rw[hy,Nat.shiftLeft_eq,show (x:Int)*2^(63-s)=((x*2^(63-s):Nat):Int) by push_cast;rfl]
     generalize x*2^(63-s)=N;simp[Ae,Af,Ab]
    have hsm:(m-1)%64=s:=hs.symm;clear hx hS hy hs;go_wp2_with fail
    rw[HY.out];refine(CO _).mono ?_;rintro e w6 ⟨rfl,rfl⟩;have hnp:min (m:Int) (N+S)=N+S:=by omega
    have kc:gG l true m=N+S:=HN2.out.symm;have ee:gG l false m=m-(N+S):=by rw[HN2.out];rfl
    cases b
    ·go_wp2_with fail
     go_ret;refine⟨?_,rfl⟩;rw[ee];congr 2
     rw[Int.ofNat_sub hNS];push_cast
     rfl
    ·go_wp2_with fail
     go_ret;exact⟨by rw[kc];congr 2,rfl⟩
theorem tQ0 (l:List Bool) (vb b1 b2 b3:Nat) (b:Bool) (k i:Nat) (w:World) (hl:l.length<=1048576) (hi:i<l.length) (ac:gP w vb l)
  (c1:w.cell? ⟨b1,0,none⟩=some (.pointer (some ⟨vb,0,none⟩))) (c2:w.cell? ⟨b2,0,none⟩=some (.bool b)) (c3:w.cell? ⟨b3,0,none⟩=some (.int .i64 k)) :
  Calls Tryz.prog 189 #[.int .i64 i,.pointer (some ⟨b1,0,none⟩),.pointer (some ⟨b2,0,none⟩),.pointer (some ⟨b3,0,none⟩)] w λe w'=>e=.returned (.bool (decide (k<gG l b (i+1))))/\w'=w.drew:=by
 obtain⟨R,hR⟩:=exq (gG l b (i+1))
 have CR:Hid (∀u,aB w u->Calls Tryz.prog 123 #[.pointer (some ⟨vb,0,none⟩),.bool b,.int .i64 ((i:Int)+1)] u λe w'=>e=.returned (.int .i64 R)/\u=w'):=by
  intro u hg;have h:=rR l vb b (i+1) u hl (by omega) (ac.grows hg);rw[Nat.min_eq_left (by omega:i+1<=l.length),<-hR]at h;exact h
 rw[<-hR];have z1:∀x:Ext aB w.drew,x.u.cell? ⟨b1,0,none⟩=some (.pointer (some ⟨vb,0,none⟩)):=aG ((aB.drew w).cell c1);have z2:∀x:Ext aB w.drew,x.u.cell? ⟨b2,0,none⟩=some (.bool b):=aG ((aB.drew w).cell c2);have z3:∀x:Ext aB w.drew,x.u.cell? ⟨b3,0,none⟩=some (.int .i64 k):=aG ((aB.drew w).cell c3);have afw:decide ((k:Int)<R)=decide (k<R):=by simp
 have wi:IntKind.i64.wrap ((i:Int)+1)=(i:Int)+1:=by simp[Ae,Af,Ab];omega
 clear ac hR;go_enter Tryz.func189,Tryz.ntmps189
 go_wp2_with fail
 refine bI (bB 8 []) (by kernel_rfl) (λd _ _ _ _ h=>by cases d<;>exact h) ?_
 iterate 4 (refine aK rfl (λK hK=>?_);go_simp;refine hK _ ?_;clear hK K)
 refine aK rfl (λK hK=>?_);go_simp;apply Exists.intro
 refine⟨λx=>?_,hK _ ?_⟩
 ·go_at_call 123;exact pN (CR.out _ ((aB.drew w).tr x.h))
 clear hK K;iterate 3 (refine aK rfl (λK hK=>?_);go_simp;refine hK _ ?_;clear hK K)
 refine bT ?_;go_wp2_with fail
 go_ret;exact⟨by simp,rfl⟩
end
section
open Go Go.RowKit Go.Shelf
attribute [local go_sem] aM aO
def jR0 (nw:En->En->Bool) (l:List En) (i:Nat):Bool:=i==0||nw (l.getD i dY) (l.getD (i-1) dY)
def pD (nw:En->En->Bool) (l:List En) (k:Nat):List Nat:=(At k).filter (jR0 nw l)
theorem gL0 {nw:En->En->Bool} {l:List En} {k:Nat} (h:jR0 nw l k=true):pD nw l (k+1)=pD nw l k++[k]:=by
 unfold pD;rw[Ao,Ar];simp[h]
theorem xA0 {nw:En->En->Bool} {l:List En} {k:Nat} (h:jR0 nw l k=false):pD nw l (k+1)=pD nw l k:=by
 unfold pD;rw[Ao,Ar];simp[h]
theorem uF (nw:En->En->Bool) (l:List En) (k:Nat):(pD nw l k).length<=k:=by
 grind [pD]
theorem uD (nw:En->En->Bool) (g:Nat) (eg:∀args w,(callFunc g args).run Tryz.prog w=.ok (.enter g args) w) (HG:∀(x y:En) w,Calls Tryz.prog g #[x.agg,y.agg] w λe w'=>e=.returned (.bool (nw x y))/\aB w w')
  (l:List En) (a:Option Addr) (c:Nat) (w:World) (hl:l.length<=1048576) (ac:aF w a 5 (l.map aZ)) :
  Calls Tryz.prog 57 #[.slice a l.length c,.func (.func g) #[] #[]] w λe w'=>aB w w'/\∃v,e=.returned v/\aT w' w.heap.size 3 1 fI v (pD nw l l.length):=by
 have HAT:=Aa ac;have HGG:=λx y w=>Aa (HG x y w);clear ac HG;go_enter Tryz.func57,Tryz.ntmps57
 go_wp2_with fail
 go_loopw [5,10] (λv i wr=>∃(k:Nat),k<=l.length/\i=.int .i64 k/\aT wr w.heap.size 3 1 fI v (pD nw l k)/\aB w wr) (λ_ i _=>l.length-(intOf i).toNat)
 case atStart=>exact⟨0,Ai _,rfl,aT.nil _ _ _ _ _,aB.refl _⟩
 case round =>
  obtain⟨k,hk,rfl,aa,hg⟩:=hrel;by_cases ae:k<l.length
  ·obtain⟨⟨xr,xs,xl,xt,xc⟩,hx⟩:∃x,l[k]?=some x:=⟨_,Ah ae⟩
   obtain⟨ba,oa,rfl,cm⟩:=(HAT.out.grows hg).get (aH ae);have c0:wr.cell? ⟨ba,oa+k*5,none⟩=some (.string xr):=cm k _ hx 0 _ rfl;have c1:wr.cell? ⟨ba,oa+k*5+1,none⟩=some (.string xs):=cm k _ hx 1 _ rfl;have c2:wr.cell? ⟨ba,oa+k*5+2,none⟩=some (.int .i64 xl):=cm k _ hx 2 _ rfl;have c3:wr.cell? ⟨ba,oa+k*5+3,none⟩=some (.int .i64 xt):=cm k _ hx 3 _ rfl;have c4:wr.cell? ⟨ba,oa+k*5+4,none⟩=some (.int .i64 xc):=cm k _ hx 4 _ rfl;have pf:=uF nw l k;obtain⟨W1,bz⟩:=exq (wr.alloc (.cells #[.string xr,.string xs,.int .i64 xl,.int .i64 xt,.int .i64 xc] 30));have av:aB wr W1:=by rw[bz];exact aB.alloc _ _
   have dd:=λj u h=>aU wr #[.string xr,.string xs,.int .i64 xl,.int .i64 xt,.int .i64 xc] 30 (0,0) j u h;rw[<-bz]at dd;have z0:∀x:Ext aB W1.drew,x.u.cell? ⟨wr.heap.size,0,none⟩=some (.string xr):=aG ((aB.drew W1).cell (dd 0 _ rfl));have z1:∀x:Ext aB W1.drew,x.u.cell? ⟨wr.heap.size,1,none⟩=some (.string xs):=aG ((aB.drew W1).cell (dd 1 _ rfl));have z2:∀x:Ext aB W1.drew,x.u.cell? ⟨wr.heap.size,2,none⟩=some (.int .i64 xl):=aG ((aB.drew W1).cell (dd 2 _ rfl));have z3:∀x:Ext aB W1.drew,x.u.cell? ⟨wr.heap.size,3,none⟩=some (.int .i64 xt):=aG ((aB.drew W1).cell (dd 3 _ rfl));have z4:∀x:Ext aB W1.drew,x.u.cell? ⟨wr.heap.size,4,none⟩=some (.int .i64 xc):=aG ((aB.drew W1).cell (dd 4 _ rfl));clear dd;by_cases h0:k=0
   ·have hK:Hid (jR0 nw l k=true):=by show _=_;rw[h0];rfl
    have hkz:((k:Int)==0)=true:=by rw[h0];rfl
    have H0:=Aa h0;clear cm hx h0;go_wp2_with fail
    rw[<-bz];clear bz;refine bI (bB 12 []) (by kernel_rfl) (λd _ _ _ _ h=>by cases d<;>exact h) ?_
    iterate 12 (refine aK rfl (λK hK=>?_);go_simp;refine hK _ ?_;clear hK K)
    clear z0 z1 z2 z3 z4;refine bT ?_;have ar:=aa.grows av.dr;have cg:=aB.trans _ _ _ hg av.dr;have HI:=Aa (gL0 hK.out);obtain⟨bd,bh⟩:=exq (pD nw l k);rw[<-bh]at ar HI pf;clear bh aa av hg;go_wp2_with (at_builtin;refine eA mV rfl _ _ rfl w.heap.size _ bd k rfl ar (aB.refl _) _ 1 rfl #[.int .i64 k] rfl rfl (by omega) cg.size ?_;intro v5 w5 ai _ _ bk)
    have HG5:=bk w cg (Aq _);rw[<-HI.out]at ai;go_wp2_with fail
    go_roundw
    case rel=>exact⟨k+1,by omega,by go_num,ai,HG5⟩
    case measure=>simp[intOf];omega
   ·obtain⟨⟨yr,ys,yl,yt,yc⟩,hy⟩:∃y,l[k-1]?=some y:=⟨_,Ah (by omega)⟩
    obtain⟨m,hm⟩:=exq (k-1);have hkz:((k:Int)==0)=false:=by simp;omega
    have wk:IntKind.i64.wrap ((k:Int)-1)=m:=by simp[Ae,Af,Ab];omega
    have hml:m<l.length:=by omega
    have ur:(m:Int)<l.length:=by omega
    rw[<-hm]at hy;have d0:∀x:Ext aB W1.drew,x.u.cell? ⟨ba,oa+m*5,none⟩=some (.string yr):=aG ((aB.drew W1).cell (av.cell (cm m _ hy 0 _ rfl)));have d1:∀x:Ext aB W1.drew,x.u.cell? ⟨ba,oa+m*5+1,none⟩=some (.string ys):=aG ((aB.drew W1).cell (av.cell (cm m _ hy 1 _ rfl)));have d2:∀x:Ext aB W1.drew,x.u.cell? ⟨ba,oa+m*5+2,none⟩=some (.int .i64 yl):=aG ((aB.drew W1).cell (av.cell (cm m _ hy 2 _ rfl)));have d3:∀x:Ext aB W1.drew,x.u.cell? ⟨ba,oa+m*5+3,none⟩=some (.int .i64 yt):=aG ((aB.drew W1).cell (av.cell (cm m _ hy 3 _ rfl)));have d4:∀x:Ext aB W1.drew,x.u.cell? ⟨ba,oa+m*5+4,none⟩=some (.int .i64 yc):=aG ((aB.drew W1).cell (av.cell (cm m _ hy 4 _ rfl)));obtain⟨b,hb⟩:=exq (nw ⟨xr,xs,xl,xt,xc⟩ ⟨yr,ys,yl,yt,yc⟩)
    have HB:Hid (jR0 nw l k=b):=by
     show _=_
     unfold jR0;rw[show l.getD k dY=⟨xr,xs,xl,xt,xc⟩ by rw[Al,hx];rfl,<-hm,show l.getD m dY=⟨yr,ys,yl,yt,yc⟩ by rw[Al,hy];rfl,<-hb,show (k==0)=false by simpa using h0]
     rfl
    have CG:=λW=>Aa (HGG ⟨xr,xs,xl,xt,xc⟩ ⟨yr,ys,yl,yt,yc⟩ W).out;rw[<-hb]at CG;have HM:=Aa hm;have H0:=Aa h0;clear cm hx hy hm hb h0;go_wp2_with fail
    rw[<-bz];clear bz;refine bI (bB 12 [10]) (by kernel_rfl) (λd _ _ _ _ h=>by cases d<;>exact h) ?_
    iterate 10 (refine aK rfl (λK hK=>?_);go_simp;refine hK _ ?_;clear hK K)
    refine bU rfl rfl (λK hK=>?_);go_simp;refine((CG W1.drew).out).mono ?_;rintro e w2 ⟨rfl,ah⟩;refine⟨ah,hK _ _ ?_⟩;clear hK K;iterate 1 (refine aK rfl (λK hK=>?_);go_simp;refine hK _ ?_;clear hK K)
    clear z0 z1 z2 z3 z4 d0 d1 d2 d3 d4;refine bT ?_;have gz:=aB.trans _ _ _ av.dr ah;have ar:=aa.grows gz;have cg:=aB.trans _ _ _ hg gz;obtain⟨bd,bh⟩:=exq (pD nw l k)
    cases b with
    | true =>
     have HI:=Aa (gL0 HB.out);rw[<-bh]at ar HI pf;clear bh aa av hg CG ah gz;go_wp2_with (at_builtin;refine eA mV rfl _ _ rfl w.heap.size _ bd k rfl ar (aB.refl _) _ 1 rfl #[.int .i64 k] rfl rfl (by omega) cg.size ?_;intro v5 w5 ai _ _ bk)
     have HG5:=bk w cg (Aq _);rw[<-HI.out]at ai;go_wp2_with fail
     go_roundw
     case rel=>exact⟨k+1,by omega,by go_num,ai,HG5⟩
     case measure=>simp[intOf];omega
    | false =>
     have HI:=Aa (xA0 HB.out);rw[<-bh]at ar HI pf;clear bh aa av hg CG ah gz;go_wp2_with fail
     rw[<-HI.out]at ar;go_roundw
     case rel=>exact⟨k+1,by omega,by go_num,ar,cg⟩
     case measure=>simp[intOf];omega
  ·obtain rfl:k=l.length:=by omega
   go_wp2_with fail
   go_ret;exact⟨hg,_,rfl,aa⟩
end
end Go.Proofs.YthgklnohcmaopaaGreatDoor
