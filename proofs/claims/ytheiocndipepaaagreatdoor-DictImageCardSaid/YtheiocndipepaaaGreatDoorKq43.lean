/- The texts BvD LoP Tri1, one behind the other. -/
import Derived.Test.YtheiocndipepaaaGreatDoorKq1
import Derived.Test.YtheiocndipepaaaGreatDoorKq36
import Derived.Test.YtheiocndipepaaaGreatDoorKq22
import Derived.Test.YtheiocndipepaaaGreatDoorKq26
import Derived.Test.YtheiocndipepaaaGreatDoorKq41
import Derived.Test.YtheiocndipepaaaGreatDoorKq15
import Derived.Test.YtheiocndipepaaaGreatDoorKq32
import Derived.Test.YtheiocndipepaaaGreatDoorKq35
import Derived.Test.YtheiocndipepaaaGreatDoorKq33
import Derived.Test.YtheiocndipepaaaGreatDoorKq23
open Go.Lib renaming hid → Aa
open Go.IntKind renaming signed → Ab,wrap → Ac,bits → Ad
open UInt8 renaming ofNat → Ae
open List renaming length_append → Af,getElem?_eq_getElem → Ah,take_of_length_le → Ai,mem_of_getElem? → Aj,ne_nil_of_length_pos → Am,length_take → Ap,take_length → Aq,length_map → At,ne_nil_of_mem → Ax,getElem?_map → Ay,flatMap_cons → Az,append_assoc → Ba,length_drop → Bd,drop_left' → Bg,length → Bh
open Go.World renaming cell?_setCell_other → Ag,cell?_setCell_same → Ao,block_lt_of_cell? → Ar,frozen?_of_block → As,frozen?_setCell → Av
open Int renaming tdiv_eq_ediv_of_nonneg → Ak,tmod_eq_emod_of_nonneg → Al,natCast_mul → Au,natCast_add → Bf
open Nat renaming zero_le → An,le_refl → Aw,mod_eq_of_lt → Bb,lt_succ_self → Bc
open Option renaming map_some → Be
set_option maxHeartbeats 8000000
namespace Go.Proofs.YtheiocndipepaaaGreatDoor
set_option maxRecDepth 100000
section
open Go Go.RowKit
attribute [local go_sem] aM aK
theorem rU {x:Nat} (h:x<4611686018427387904):IntKind.i64.wrap (x:Int)=x:=by simp[Ac,Ad,Ab]; omega
theorem sM0 (b:List UInt8) (a:Option Addr) (c:Nat) (w:World) (hb:b.length<=8) (ac:aF w a 1 (b.map aX)) :
  Calls Tryz.prog 214 #[.slice a b.length c] w λe w'=>e=.returned (.int .u64 (zI b))/\w=w':=by
 have HAT:=Aa ac;clear ac;go_enter Tryz.func214,Tryz.ntmps214
 go_wp2_with fail
 go_loopw [3,8] (λn i wr=>∃k:Nat,k<=b.length/\i=.int .i64 k/\n=.int .u64 (zI (b.take k))/\Hid (wr=w)) (λ_ i _=>b.length-(intOf i).toNat)
 case atStart=>exact⟨0,An _,rfl,rfl,rfl⟩
 case round =>
  obtain⟨k,hk,rfl,rfl,hw⟩:=hrel;obtain rfl:=hw.out;by_cases ae:k<b.length
  ·obtain⟨x,hx⟩:∃x,b[k]?=some x:=⟨_,Ah ae⟩
   obtain⟨ab,ao,rfl,hc⟩:=at1 (f:=λx:UInt8=>Value.int .u8 x.toNat) HAT.out (aH ae);have jp:=hc k x hx;have j7:(b.take k).length=k:=by rw[Ap];omega
   have HT:Hid (zI (b.take k)|||(x.toNat<<<(8*k))%18446744073709551616=zI (b.take (k+1))):=by
    show _=_
    rw[bN hx,<-mW1 (by rw[j7];omega),j7]
   have ag7:zI (b.take k)<18446744073709551616:=sS0 (by omega);obtain⟨N,hN⟩:=exq (zI (b.take k));obtain⟨v,hv⟩:=exq x.toNat;have ajx:v<256:=by rw[hv];exact x.toNat_lt
   obtain⟨S,hS⟩:=exq (8*k);rw[<-hN]at ag7 ⊢;rw[<-hv]at jp;rw[<-hN,<-hv,<-hS]at HT;have eS:IntKind.i64.wrap ((8:Int)*k)=S:=by simp[Ac,Ad,Ab];omega
   have uv:IntKind.u64.wrap (v:Int)=v:=by simp[Ac,Ad,Ab];omega
   have hor:=jQ0 (x:=N) (v:=v) (S:=S) ag7;have ow:S<64:=by omega
   have hSm:min S 64=S:=by omega
   have cy:(k:Int)<b.length:=by omega
   clear hc hx j7 hN hv hS;go_wp2_with fail
   go_roundw
   case rel=>exact⟨k+1,ae,by go_num,congrArg (λt:Nat=>Value.int .u64 (t:Int)) HT.out,trivial⟩
   case measure=>simp[intOf];omega
  ·obtain rfl:k=b.length:=by omega
   rw[Aq];go_wp2_with fail
   go_ret;exact⟨rfl,rfl⟩
theorem zR (l:List Bool) (vb i:Nat) (w:World) (hl:l.length<=1048576) (ac:jN w vb l) :
  Calls Tryz.prog 104 #[.pointer (some ⟨vb,0,none⟩),.int .i64 i] w λe w'=>e=.returned (.bool (bitOf l i))/\w=w':=by
 obtain⟨vW,h1,h2⟩:=ac.c1;obtain⟨aW,cW,rfl,_,_,i7⟩:=h2.at_ (enc:=kS) (λ_=>rfl);have s7:=gE l;rw[s7]at h1;have CL:=Aa (tG l vb w ac);have h0:(0:Int)<=i:=by omega
 by_cases hi:i<l.length
 ·obtain⟨bW,oW,rfl,zp⟩:=at1 (f:=λn:Nat=>Value.int .u64 n) i7 (aH (k:=0) (by rw[s7];omega))
  obtain⟨Q,hQ⟩:=exq (i/64);obtain⟨S,hS⟩:=exq (i%64);obtain⟨q,hq⟩:=exq ((l.length+63)/64);have jp:=zp Q _ (pU (by omega));have aau:=kD1 l i;rw[<-hQ,<-hS]at aau;obtain⟨x,hx⟩:=exq (pE l Q);have kr:x<18446744073709551616:=by rw[hx];exact qF l Q
  rw[<-hx]at jp aau;rw[<-hq]at h1;have vo:Q<q:=by omega
  have hQi:(Q:Int)<q:=by omega
  have eQ:(i:Int)/64=Q:=by omega
  have eQt:(i:Int).tdiv 64=Q:=by rw[Ak (by omega)];omega
  have eS:(i:Int)%64=S:=by omega
  have eSt:(i:Int).tmod 64=S:=by rw[Al (by omega)];omega
  obtain⟨y,hy⟩:=exq (x>>>S);have lu:y<18446744073709551616:=by rw[hy];exact Nat.lt_of_le_of_lt (Nat.shiftRight_le _ _) kr
  have hsh:(x:Int)/2^S=(y:Nat):=by rw[hy];exact bH0 x S
  have aai:=u64_and_nat y 1 lu (by decide);rw[<-hy]at aau;rw[aau]at aai;have hand:bits .and .u64 (y:Int) 1=((if bitOf l i then 1 else 0:Nat):Int):=aai
  clear aai;have ri:(i:Int)<l.length:=by omega
  have ow:S<64:=by omega
  have hSm:min S 64=S:=by omega
  generalize bitOf l i=bt at hand ⊢;clear ac h2 i7 zp s7 hQ hS hq hx hy aau;go_enter Tryz.func104,Tryz.ntmps104
  go_wp2_with fail
  refine CL.out.mono ?_;rintro e w2 ⟨rfl,rfl⟩
  cases bt with
  | true =>
   simp only[if_true]at hand;go_wp2_with fail
   go_ret;exact⟨rfl,rfl⟩
  | false =>
   simp only[Bool.false_eq_true,if_false]at hand;go_wp2_with fail
   go_ret;exact⟨rfl,rfl⟩
 ·have ri:¬(i:Int)<l.length:=by omega
  rw[lI0 (by omega)];clear ac h2 i7 s7;go_enter Tryz.func104,Tryz.ntmps104
  go_wp2_with fail
  refine CL.out.mono ?_;rintro e w2 ⟨rfl,rfl⟩;go_wp2_with fail
  go_ret;exact⟨rfl,rfl⟩
theorem nM1 {l:List Bool} {w:World} {bb bo bc k:Nat} (ac:aF w (some ⟨bb,bo,none⟩) 1 ((pH l).map aX)) (fg:(pH l).length<=bc) (hk:k<(l.length+63)/64) :
  ∃a',(if bc=4+8*k then some ⟨bb,bo,none⟩ else some ⟨bb,bo+(4+8*k),none⟩)=a'/\aF w a' 1 ((leB 8 (pE l k)).map aX):=by
 have qo:=oT l;obtain⟨a',h1,h2,_⟩:=xB (l:=4+8*k) (h:=4+8*k+8) ac (λh=>by cases h) (by omega) (by omega) fg;refine⟨a',?_,?_⟩
 ·rw[<-h1,Be,iJ]
 ·rw[List.drop_take,show 4+8*k+8-(4+8*k)=8 by omega,dM1 hk]at h2
  exact h2
theorem gG1 {l:List Bool} {w:World} {bb bo:Nat} (ac:aF w (some ⟨bb,bo,none⟩) 1 ((pH l).map aX)):aF w (some ⟨bb,bo,none⟩) 1 ((leB 4 l.length).map aX):=λ_=>by
 have qo:=oT l;obtain⟨b,o,h1,h2⟩:=ac (by intro h;have:=congrArg Bh h;rw[At,List.length_nil]at this;omega);refine⟨b,o,h1,λi row hi j v hj=>h2 i row ?_ j v hj⟩;rw[<-aP1,Ay,List.getElem?_take]at hi;rw[Ay];split at hi
 ·exact hi
 ·cases hi
theorem dA1 (l:List Bool) (k:Nat):zI (leB 8 (pE l k))=pE l k:=by
 rw[tV];exact Bb (qF l k)
theorem zT0 {l:List Bool} (hl:l.length<=1048576):zI (leB 4 l.length)=l.length:=by
 rw[tV];exact Bb (by rw[show (256:Nat)^4=4294967296 by decide];omega)
theorem rG0 (l:List Bool) (ba:Option Addr) (bc:Nat) (w:World) (hl:l.length<=1048576) (fg:(pH l).length<=bc) (ac:aF w ba 1 ((pH l).map aX)) :
  Calls Tryz.prog 165 #[.slice ba (pH l).length bc] w λe w'=>∃vb,e=.returned (.tuple #[.pointer (some ⟨vb,0,none⟩),.int .i64 0])/\jN w' vb l/\Grows w w':=by
 have qo:=oT l;obtain⟨bb,bo,rfl,_⟩:=at1 (f:=λx:UInt8=>Value.int .u8 x.toNat) ac (Am (by omega))
 have CH:∀u c,Grows w u->Hid (Calls Tryz.prog 214 #[.slice (some ⟨bb,bo,none⟩) 4 c] u λe w'=>e=.returned (.int .u64 l.length)/\u=w'):=λu c hu=>by
  have h:=sM0 (leB 4 l.length) _ c u (by rw[bM];decide) ((gG1 ac).grows hu);rw[bM,zT0 hl]at h;exact h
 obtain⟨N,hN⟩:=exq ((pH l).length);rw[<-hN]at qo fg ⊢;have HN:=Aa hN;have HEL:=Aa qo;have HAT:=Aa ac;obtain⟨n,hn⟩:=exq l.length;have HNL:=Aa hn;rw[<-hn]at CH hl qo;obtain⟨q,hq⟩:=exq ((n+63)/64);have HQ:=Aa hq;have y8:q<=16384:=by omega
 have hN4:¬(N:Int)<4:=by omega
 have hN0:4<=N:=by omega
 have hN8:¬(N:Int)<4+8*(q:Int):=by omega
 have jg:¬(1048576:Int)<n:=by omega
 have wn:IntKind.i64.wrap (n:Int)=n:=rU (by omega);have w63:IntKind.i64.wrap ((n:Int)+63)=(n:Int)+63:=by have:=rU (x:=n+63) (by omega);rw[Bf]at this;exact this
 have e63:((n:Int)+63)/64=q:=by omega
 have ak6:((n:Int)+63).tdiv 64=q:=by rw[Ak (by omega)];exact e63
 have w8q:IntKind.i64.wrap (8*(q:Int))=8*(q:Int):=by have:=rU (x:=8*q) (by omega);rw[Au]at this;exact this
 have w4q:IntKind.i64.wrap (4+8*(q:Int))=4+8*(q:Int):=by have:=rU (x:=4+8*q) (by omega);rw[Bf,Au]at this;exact this
 clear ac hN hn hq qo;obtain⟨W1,bi⟩:=exq (w.alloc (.cells #[.int .i64 n,.slice none 0 0,.slice none 0 0] 203));obtain⟨pb,fx⟩:=exq w.heap.size;have ev:=λj u h=>aT w #[.int .i64 n,.slice none 0 0,.slice none 0 0] 203 (0,0) j u h;rw[<-bi,<-fx]at ev;have g1:Grows w W1:=by rw[bi];exact Grows.alloc _ _
 have c0:=ev 0 _ rfl;have c1:=ev 1 _ rfl;have c2:=ev 2 _ rfl;have f1:W1.frozen? ⟨pb,1,none⟩=false:=by rw[bi,fx];exact frozen_of_row _ _ _ _ _ (heap_alloc_new w _)
 have f2:W1.frozen? ⟨pb,2,none⟩=false:=by rw[bi,fx];exact frozen_of_row _ _ _ _ _ (heap_alloc_new w _)
 have ei:W1.heap.size=pb+1:=by rw[bi,fx];simp
 have HPB:=Aa fx;clear ev;go_enter Tryz.func165,Tryz.ntmps165
 go_wp2_with fail
 refine(CH _ _ (Grows.refl _)).out.mono ?_;rintro e w2 ⟨rfl,rfl⟩;go_wp2_with fail
 refine(CH _ _ (Grows.refl _)).out.mono ?_;rintro e w3 ⟨rfl,rfl⟩;go_wp2_with fail
 try rw[<-bi]
 try rw[<-fx]
 clear bi fx CH;go_loopw [35] (λi wr=>∃(k:Nat) (vW:Value),k<=q/\i=.int .i64 k/\wr.cell? ⟨pb,0,none⟩=some (.int .i64 n)/\wr.cell? ⟨pb,1,none⟩=some vW/\wr.cell? ⟨pb,2,none⟩=some (.slice none 0 0)/\wr.frozen? ⟨pb,1,none⟩=false/\wr.frozen? ⟨pb,2,none⟩=false/\aV wr (pb+1) 144 1 kS vW ((nK l).take k)/\Hid (Grows w wr)) (λi _=>q-(intOf i).toNat)
 case atStart=>exact⟨0,_,An _,rfl,c0,c1,c2,f1,f2,aV.nil _ _ _ _ _,g1⟩
 case round =>
  clear c0 c1 c2 f1 f2 g1;obtain⟨k,vW,hk,rfl,c0,c1,c2,f1,f2,aa,hg⟩:=hrel;by_cases ae:k<q
  ·have cy:(k:Int)<q:=by omega
   have hx:=pU (l:=l) (k:=k) (by have:=HQ.out;have:=HNL.out;omega);have HT:=Aa (bN hx);have j7:((nK l).take k).length=k:=by rw[Ap,gE];have:=HQ.out;have:=HNL.out;omega
   obtain⟨aW,cW,rfl,_,_,_⟩:=aa.at_ (enc:=kS) (λ_=>rfl);rw[j7]at c1 aa;obtain⟨a5,hif,ha5⟩:=nM1 HAT.out (by rw[<-HN.out];exact fg) (show k<(l.length+63)/64 by have:=HQ.out;have:=HNL.out;omega)
   have CN:∀x:Ext (EB (pb+1)) wr.drew,Calls Tryz.prog 214 #[.slice a5 8 (bc-(4+8*k))] x.u λe w'=>e=.returned (.int .u64 (pE l k))/\x.u=w':=λx=>by
    have h:=sM0 (leB 8 (pE l k)) a5 (bc-(4+8*k)) x.u (by rw[bM];decide) (ha5.grows (EB.grows hg.out.dr (x.h.mono (by have:=HPB.out;omega))));rw[bM,dA1]at h;exact h
   obtain⟨S,hS⟩:=exq (4+8*k);obtain⟨T,hT⟩:=exq (12+8*k);rw[<-hS]at hif CN;have w8:IntKind.i64.wrap (8*(k:Int))=8*(k:Int):=by have:=rU (x:=8*k) (by omega);rw[Au]at this;exact this
   have w4:IntKind.i64.wrap (4+8*(k:Int))=S:=by have:=rU (x:=S) (by omega);rw[<-this];congr 1;omega
   have w12:IntKind.i64.wrap (12+8*(k:Int))=T:=by have:=rU (x:=T) (by omega);rw[<-this];congr 1;omega
   have hTN:T<=N:=by have:=HEL.out;have:=HQ.out;have:=HNL.out;omega
   have hTS:T-S=8:=by omega
   have hST:(S:Int)<=T:=by omega
   have hTb:(T:Int)<=bc:=by omega
   clear hS hT;obtain⟨y,hy⟩:=exq (pE l k);rw[<-hy]at CN HT;have m8:pb<wr.heap.size:=Ar wr _ c0;have z1:∀x:Ext (EB (pb+1)) wr.drew,x.u.cell? ⟨pb,1,none⟩=some (.slice aW k cW):=nN (Bc _) ((Grows.drew wr).cell c1);clear hx hy ha5;go_wp2_with fail
   refine sI0 (EB (pb+1)) 16 (aU 16 [14,15]) (EB.refl (pb+1)) (EB.trans (pb+1)) (by kernel_rfl) (by kernel_rfl) (λd _ _ _ _ h=>by cases d<;>exact h) ?_
   iterate 13 (refine aG rfl (λK hK=>?_);go_simp;refine hK _ ?_;clear hK K)
   refine aG rfl (λK hK=>?_);go_simp;apply Exists.intro
   refine⟨λx=>?_,hK _ ?_⟩
   ·go_at_call 214;exact aY (CN x)
   clear hK K;clear z1;refine aZ rfl rfl (λK hK=>?_);go_simp;refine⟨EB.of (Grows.alloc _ _) (show pb+1<=wr.heap.size by omega),hK _ _ ?_⟩
   clear hK K;refine aZ rfl rfl (λK hK=>?_);refine vH yQ0 _ _ rfl (pb+1) _ ((nK l).take k) y rfl ((aa.grows (Grows.drew wr)).grows (Grows.alloc _ _)) _ 1 rfl (qV1 (oM1 _ _ _)) (by rw[j7];omega) (by simp;omega) ?_;intro v5 w5 ak rm hf5;have dp:=Grows.trans _ _ _ (Grows.drew wr) (Grows.alloc wr.drew (.cells #[.int .u64 y] 144))
   have hnr:some pb≠(Value.slice aW k cW).ownBlock:=λh=>by
    have:=bB aa _ h.symm
    omega
   have hE5:=EB.own ((aa.grows (Grows.drew wr)).grows (Grows.alloc _ _)) rm (by simp;omega);have e0:=rm.cell (dp.cell c0) hnr;have e1:=rm.cell (dp.cell c1) hnr;have e2:=rm.cell (dp.cell c2) hnr;have ef1:w5.frozen? ⟨pb,1,none⟩=false:=(As (a:=⟨pb,1,none⟩) (rm.block pb (by simp;omega) hnr)).trans ((dp.froz (by show pb<_;omega)).trans f1)
   have ef2:w5.frozen? ⟨pb,2,none⟩=false:=(As (a:=⟨pb,2,none⟩) (rm.block pb (by simp;omega) hnr)).trans ((dp.froz (by show pb<_;omega)).trans f2)
   have ab6:Hid (Grows w w5):=EB.grows (hg.out.tr dp) (hE5.mono (by have:=HPB.out;omega));refine⟨hE5,hK _ _ ?_⟩;clear hK K;refine bH ?_;simp only[List.drop_succ_cons,List.drop_zero];rw[<-HT.out]at ak;have aje:((nK l).take (k+1)).length=k+1:=by rw[Ap,gE];have:=HQ.out;have:=HNL.out;omega
   obtain⟨a6,c6,rfl,_,_,_⟩:=ak.at_ (enc:=kS) (λ_=>rfl);rw[aje]at ak ⊢;clear rm hf5 dp hE5 aa c0 c1 c2 f1 f2 CN hg;go_wp2_with fail
   go_roundw
   case rel=>exact⟨k+1,_,ae,by go_num,(Ag _ _ _ _ (λh=>by cases h)).trans e0,Ao _ _ _ e1,(Ag _ _ _ _ (λh=>by cases h)).trans e2,(Av _ _ _ _).trans ef1,(Av _ _ _ _).trans ef2,nH ak (p:=⟨pb,1,none⟩) (Bc _) _,ab6.out.set (show w.heap.size<=pb by have:=HPB.out;omega) _⟩
   case measure=>simp[intOf];omega
  ·have cy:¬(k:Int)<q:=by omega
   have jo:k=q:=by omega
   rw[jo,Ai (by rw[gE];have:=HQ.out;have:=HNL.out;omega)]at aa;clear jo;obtain⟨aW,cW,rfl,_,_,i7⟩:=aa.at_ (enc:=kS) (λ_=>rfl);have s7:(nK l).length=q:=by rw[gE];have:=HQ.out;have:=HNL.out;omega
   have CC:=mY0 l pb (pb+1) _ wr (by have:=HNL.out;omega) (λr hr=>by have:=bB aa r hr;omega) c1 c2 f2 aa;rw[s7]at c1;go_wp2_with fail
   refine CC.mono ?_;rintro e w5 ⟨rfl,⟨vC,g2,kh⟩,hj,oe⟩;have aca:pb<wr.heap.size:=Ar wr _ c0;have dh:=fU0 oe aca;have d0:=(hj 0 (by decide)).trans c0;have d1:=(hj 1 (by decide)).trans c1
   have ma:=gU (v:=.slice (some ⟨pb,0,none⟩) 0 0) aa oe (λr h1 h2=>by
    have a1:pb=r:=Option.some.inj h1
    have:=bB aa r h2
    omega)
   have bg:Grows w w5:=EB.grows hg.out (dh.mono (by have:=HPB.out;omega));have HV:Hid (jN w5 pb l):=⟨by rw[<-HNL.out];exact d0,⟨_,by rw[s7];exact d1,ma.base (An _)⟩,vC,g2,kh.base (An _)⟩;have jn:l.length<=1048576:=by have:=HNL.out;omega
   have CE:=λ(W:World) (hW:Grows w5 W)=>Aa (gJ0 l pb W jn (HV.out.grows hW));have HATW:Hid (aF w5 aW 1 ((nK l).map kS)):=(jH0 (λ_=>rfl) ma);have z0:∀x:Ext Grows w5.drew,x.u.cell? ⟨pb,0,none⟩=some (.int .i64 n):=aB ((Grows.drew w5).cell d0);have z1:∀x:Ext Grows w5.drew,x.u.cell? ⟨pb,1,none⟩=some (.slice aW q cW):=aB ((Grows.drew w5).cell d1);have HG5:=Aa bg;obtain⟨R,hR⟩:=exq (n%64);have eR:(n:Int)%64=R:=by omega
   have eRt:(n:Int).tmod 64=R:=by rw[Al (by omega)];exact eR
   have HR:=Aa hR;clear CC c0 c1 c2 f1 f2 aa i7 hj oe dh ma kh g2 aca hR hg bg d0 d1 s7;by_cases hR0:R=0
   ·subst hR0
    go_wp2_with fail
    refine bE (lT [0,1,2,3,4,5,6,7,8,9,10,11,12,13,14,15,16,17,18,19,20,21,22,23,24,26,25,27,28,29] [25,27]) (by kernel_rfl) (λd _ _ _ _ h=>by cases d<;>exact h) ?_
    iterate 26 (refine aG rfl (λK hK=>?_);go_simp;refine hK _ ?_;clear hK K)
    clear z0 z1;refine aZ rfl rfl (λK hK=>?_);go_simp;refine((CE _ (Grows.drew w5)).out).mono ?_;rintro e w8 ⟨v8,rfl,px,fq⟩;refine⟨fq,hK _ _ ?_⟩;clear hK K;obtain⟨a8,c8,rfl,_,_,gn⟩:=px.at_ bI.len;have nf:Grows w w8:=HG5.out.dr.tr fq;have CQ:=Aa (lA (pH l) (pH l) a8 (some ⟨bb,bo,none⟩) c8 bc w8 gn (HAT.out.grows nf));rw[<-HN.out]at CQ ⊢;simp only[decide_true]at CQ;have HV8:=Aa (HV.out.grows ((Grows.drew w5).tr fq));clear px gn fq;refine aZ rfl rfl (λK hK=>?_);go_simp;refine(CQ.out).mono ?_;rintro e w9 ⟨rfl,rfl⟩;refine⟨Grows.refl _,hK _ _ ?_⟩;clear hK K;iterate 2 (refine aG rfl (λK hK=>?_);go_simp;refine hK _ ?_;clear hK K)
    refine bH ?_;go_wp2
    go_ret2;exact⟨pb,rfl,HV8.out,nf⟩
   ·have hRi:((R:Int)==0)=false:=by simp;omega
    have hRn:((R:Int) != 0)=true:=by simp;omega
    have hq0:0<q:=by have:=HQ.out;have:=HR.out;omega
    obtain⟨Q1,hQ1⟩:=exq (q-1);obtain⟨bW,oW,rfl,zp⟩:=at1 (f:=λn:Nat=>Value.int .u64 n) HATW.out (aH (k:=0) (by rw[gE];have:=HQ.out;have:=HNL.out;omega));have jp:=zp Q1 _ (pU (by have:=HQ.out;have:=HNL.out;omega))
    have aea:pE l Q1/2^R=0:=by
     have h:=gD1 (l:=l) (q:=Q1) (by have:=HQ.out;have:=HNL.out;omega) (by have:=HQ.out;have:=HNL.out;have:=HR.out;omega) (by have:=HNL.out;have:=HR.out;omega);rw[<-HNL.out,<-HR.out]at h;exact h
    obtain⟨x,hx⟩:=exq (pE l Q1);rw[<-hx]at jp aea;have kr:x<18446744073709551616:=by rw[hx];exact qF l Q1
    have hsh:(x:Int)/2^R=0:=by
     have:(x:Int)/2^R=((x/2^R:Nat):Int):=by push_cast;rfl
     rw[this,aea];rfl
    have wQ1:IntKind.i64.wrap ((q:Int)-1)=Q1:=by have:=rU (x:=Q1) (by omega);rw[<-this];congr 1;omega
    have vo:Q1<q:=by omega
    have hQi:(Q1:Int)<q:=by omega
    have ak7:R<64:=by have:=HR.out;omega
    have hRm:min R 64=R:=by omega
    have z2:∀x':Ext Grows w5.drew,x'.u.cell? ⟨bW,oW+Q1,none⟩=some (.int .u64 x):=aB ((Grows.drew w5).cell jp);clear zp jp hx aea HATW hQ1 hq0;go_wp2_with fail
    refine bE (lT [0,1,2,3,4,5,6,7,8,9,10,11,12,13,14,15,16,17,18,19,20,21,22,23,24,26,25,27,28,29] [25,27]) (by kernel_rfl) (λd _ _ _ _ h=>by cases d<;>exact h) ?_
    iterate 26 (refine aG rfl (λK hK=>?_);go_simp;refine hK _ ?_;clear hK K)
    clear z0 z1 z2;refine aZ rfl rfl (λK hK=>?_);go_simp;refine((CE _ (Grows.drew w5)).out).mono ?_;rintro e w8 ⟨v8,rfl,px,fq⟩;refine⟨fq,hK _ _ ?_⟩;clear hK K;obtain⟨a8,c8,rfl,_,_,gn⟩:=px.at_ bI.len;have nf:Grows w w8:=HG5.out.dr.tr fq;have CQ:=Aa (lA (pH l) (pH l) a8 (some ⟨bb,bo,none⟩) c8 bc w8 gn (HAT.out.grows nf));rw[<-HN.out]at CQ ⊢;simp only[decide_true]at CQ;have HV8:=Aa (HV.out.grows ((Grows.drew w5).tr fq));clear px gn fq;refine aZ rfl rfl (λK hK=>?_);go_simp;refine(CQ.out).mono ?_;rintro e w9 ⟨rfl,rfl⟩;refine⟨Grows.refl _,hK _ _ ?_⟩;clear hK K;iterate 2 (refine aG rfl (λK hK=>?_);go_simp;refine hK _ ?_;clear hK K)
    refine bH ?_;go_wp2
    go_ret2;exact⟨pb,rfl,HV8.out,nf⟩
end
section
open Go Go.RowKit Go.Shelf
attribute [local go_sem] aM aK
theorem rC1 (n:Nat) (h:n<4294967296):∃b0 b1 b2 b3:Nat,leB 4 n=[Ae b0,Ae b1,Ae b2,Ae b3]/\b0<256/\b1<256/\b2<256/\b3<256/\n=b0+b1*256+b2*65536+b3*16777216:=by
 refine⟨n%256,n/256%256,n/65536%256,n/16777216%256,?_,by omega,by omega,by omega,by omega,by omega⟩;unfold leB;simp[List.range,List.range.loop,dC0]
def sF (Ps:List (List UInt8)) (k:Nat):List UInt8:=(Ps.drop k).flatMap fG
theorem gQ0 {Ps:List (List UInt8)} {k:Nat} {b:List UInt8} (h:Ps[k]?=some b):sF Ps k=leB 4 b.length++(b++sF Ps (k+1)):=by
 unfold sF;have hk:=(List.getElem?_eq_some_iff.1 h).1;rw[List.drop_eq_getElem_cons hk,(List.getElem?_eq_some_iff.1 h).2,Az,fG,Ba]
theorem tC0:∀(l:List (List UInt8)),(∀b∈l,b.length<=1000000000)->(l.flatMap fG).length<=l.length*1000000004
 | [],_=>by simp
 | b::l,h=>by
  have h1:=tC0 l λx hx=>h x (List.mem_cons_of_mem _ hx);have h2:=h b List.mem_cons_self;rw[Az,Af,fG,Af,bM,List.length_cons];omega
theorem EB.set1 {B:Nat} {w:World} {p:Addr} (h:B<=p.block) (v:Value):EB B w (w.setCell p v):=⟨Below.setCell (Below.refl _ _) h v,by simp⟩
structure rY0 (w:World) (v:Value) (b:List UInt8):Prop where
 out:∃a c,v=.slice a b.length c/\b.length<=c/\(a=none->c=0)/\aF w a 1 (b.map aX)
theorem rY0.grows {w w':World} {v:Value} {b:List UInt8} (h:rY0 w v b) (hg:Grows w w'):rY0 w' v b:=by
 obtain⟨a,c,h1,h2,h3,h4⟩:=h.out;exact⟨a,c,h1,h2,h3,h4.grows hg⟩
theorem tY0 (P0 P1 P2 P3:List UInt8) (a:Option Addr) (c:Nat) (w:World) (h0:P0.length<=1000000000) (h1:P1.length<=1000000000) (h2:P2.length<=1000000000) (h3:P3.length<=1000000000)
  (hc:(sF [P0,P1,P2,P3] 0).length<=c) (ac:aF w a 1 ((sF [P0,P1,P2,P3] 0).map aX)) :
  Calls Tryz.prog 164 #[.slice a (sF [P0,P1,P2,P3] 0).length c] w λe w'=>∃v0 v1 v2 v3,e=.returned (.tuple #[.agg #[v0,v1,v2,v3],.bool true])/\rY0 w' v0 P0/\rY0 w' v1 P1/\rY0 w' v2 P2/\rY0 w' v3 P3/\Grows w w':=by
 have an:∀(k:Nat) (b:List UInt8),[P0,P1,P2,P3][k]?=some b->b.length<=1000000000:=λk b hb=>by
  match k,hb with
  | 0,hb =>
   obtain rfl:P0=b:=by simpa using hb
   exact h0
  | 1,hb =>
   obtain rfl:P1=b:=by simpa using hb
   exact h1
  | 2,hb =>
   obtain rfl:P2=b:=by simpa using hb
   exact h2
  | 3,hb =>
   obtain rfl:P3=b:=by simpa using hb
   exact h3
  | k+4,hb=>simp at hb
 have ai:sF [P0,P1,P2,P3] 0≠[]:=by
  rw[gQ0 (k:=0) rfl];intro e
  have:=congrArg Bh e
  rw[Af,bM]at this;simp at this
 obtain⟨ba,bo,rfl,_⟩:=at1 (f:=λx:UInt8=>Value.int .u8 x.toNat) ac ai;have START:Hid (rY0 w (.slice (some ⟨ba,bo,none⟩) (sF [P0,P1,P2,P3] 0).length c) (sF [P0,P1,P2,P3] 0)):=⟨_,c,rfl,hc,(λh=>by cases h),ac⟩;have HLEN:=Aa an;obtain⟨Ps,hPs⟩:=exq ([P0,P1,P2,P3]);rw[<-hPs]at START HLEN hc ⊢;have HPS:=Aa hPs;have HL4:Hid (Ps.length=4):=by show _=_;rw[hPs];rfl
 obtain⟨pb,fx⟩:=exq w.heap.size;obtain⟨W1,bi⟩:=exq (w.alloc (.cells #[.slice none 0 0,.slice none 0 0,.slice none 0 0,.slice none 0 0] 226));have ag:Grows w W1:=by rw[bi];exact Grows.alloc _ _
 have ct:Hid (∃f,sB W1 pb 4 f):=by
  have h:=hU1 (m:=4) (Grows.refl (w.alloc (.cells #[.slice none 0 0,.slice none 0 0,.slice none 0 0,.slice none 0 0] 226))) rfl;rw[<-bi,<-fx]at h;exact⟨_,h⟩
 have HPB:=Aa fx;clear ac an h0 h1 h2 h3 hPs ai hc;go_enter Tryz.func164,Tryz.ntmps164
 go_wp2_with fail
 rw[<-bi,<-fx];clear bi fx;go_loopw [0,6] (λvb vi wr=>∃k:Nat,k<=4/\vi=.int .i64 k/\Hid (rY0 w vb (sF Ps k))/\Hid (∃f,sB wr pb 4 f/\∀j b,j<k->Ps[j]?=some b->rY0 w (f j) b)/\Hid (Grows w wr)) (λ_ vi _=>4-(intOf vi).toNat)
 case atStart=>exact⟨0,by omega,rfl,START.out,by obtain⟨f,hf⟩:=ct.out;exact⟨f,hf,λj b h=>by omega⟩,ag⟩
 case round =>
  clear START ct ag;obtain⟨k,hk,rfl,hS,hR,hG⟩:=hrel;by_cases ae:k<4
  ·have cy:(k:Int)<4:=by omega
   obtain⟨b,hb⟩:∃b,Ps[k]?=some b:=⟨_,Ah (by rw[HL4.out];exact ae)⟩;have HB:=Aa hb;have gp:=HLEN.out k b hb;have HRS:=Aa (gQ0 hb);obtain⟨a,c',rfl,m7,hc2,ac⟩:=hS.out;obtain⟨R,hRe⟩:=exq (sF Ps k);obtain⟨R2,uf⟩:=exq (sF Ps (k+1));obtain⟨n,hn⟩:=exq b.length;rw[<-hRe]at m7 ac HRS ⊢;rw[<-uf,<-hn]at HRS;rw[<-hn]at gp;have HR2:=Aa uf;have HN:=Aa hn;obtain⟨RL,hRL⟩:=exq R.length;have abw:RL=4+(n+R2.length):=by rw[hRL,HRS.out,Af,Af,bM,hn]
   have ak8:RL<=4000000016:=by
    have h:=tC0 (Ps.drop k) λx hx=>by
     obtain⟨j,hj⟩:=List.mem_iff_getElem?.1 (List.mem_of_mem_drop hx);exact HLEN.out j x hj
    rw[Bd,HL4.out]at h;have h2:RL=((Ps.drop k).flatMap fG).length:=by rw[hRL,hRe];rfl
    omega
   have wRL:IntKind.i64.wrap ((RL:Int)-4)=(RL:Int)-4:=by have:=rU (x:=RL-4) (by omega);rw[Int.natCast_sub (by omega)]at this;exact this
   obtain⟨b0,b1,b2,b3,gi,h0,h1,h2,h3,ie⟩:=rC1 n (by omega);obtain⟨bb,bo',rfl,bu⟩:=at1 (f:=λx:UInt8=>Value.int .u8 x.toNat) (ac.grows hG.out) (Am (by omega));have tN:∀x:Nat,x<256->((Ae x).toNat:Int)=x:=λx hx=>by simp;omega
   have hRh:R=[Ae b0,Ae b1,Ae b2,Ae b3]++(b++R2):=by rw[HRS.out,gi]
   have q0:wr.cell? ⟨bb,bo',none⟩=some (.int .u8 b0):=by have:=bu 0 (Ae b0) (by rw[hRh];rfl);rw[tN _ h0]at this;exact this
   have q1:wr.cell? ⟨bb,bo'+1,none⟩=some (.int .u8 b1):=by have:=bu 1 (Ae b1) (by rw[hRh];rfl);rw[tN _ h1]at this;exact this
   have q2:wr.cell? ⟨bb,bo'+2,none⟩=some (.int .u8 b2):=by have:=bu 2 (Ae b2) (by rw[hRh];rfl);rw[tN _ h2]at this;exact this
   have q3:wr.cell? ⟨bb,bo'+3,none⟩=some (.int .u8 b3):=by have:=bu 3 (Ae b3) (by rw[hRh];rfl);rw[tN _ h3]at this;exact this
   have z0:∀x:Ext Grows wr.drew,x.u.cell? ⟨bb,bo',none⟩=some (.int .u8 b0):=aB ((Grows.drew wr).cell q0);have z1:∀x:Ext Grows wr.drew,x.u.cell? ⟨bb,bo'+1,none⟩=some (.int .u8 b1):=aB ((Grows.drew wr).cell q1);have z2:∀x:Ext Grows wr.drew,x.u.cell? ⟨bb,bo'+2,none⟩=some (.int .u8 b2):=aB ((Grows.drew wr).cell q2);have z3:∀x:Ext Grows wr.drew,x.u.cell? ⟨bb,bo'+3,none⟩=some (.int .u8 b3):=aB ((Grows.drew wr).cell q3);have i0:0<RL:=by omega
   have i1:(1:Int)<RL:=by omega
   have i2:(2:Int)<RL:=by omega
   have i3:(3:Int)<RL:=by omega
   have wi:∀x:Nat,x<256->IntKind.i64.wrap (x:Int)=x:=λx hx=>by simp[Ac,Ad,Ab];omega
   have w0:=wi b0 h0;have w1:=wi b1 h1;have w2:=wi b2 h2;have w3:=wi b3 h3;obtain⟨c1,c2,c3,s1,s2,m1,m2,m3,o1,o2,o3⟩:=cO1 h0 h1 h2 h3 ie;have ak9:¬(RL:Int)<4:=by omega
   have xm:¬(RL:Int)-4<n:=by omega
   have HGW:=Aa hG.out;have HRE:=Aa hRe;have HRL:=Aa hRL;have HLR:=Aa abw;have HAT:=Aa ac;rw[<-hRL]at m7 ⊢;clear ie bu tN gi hRh q0 q1 q2 q3 wi hb hRe uf hn hRL abw ac;go_wp2_with fail
   refine bE (aU 23 []) (by kernel_rfl) (λd _ _ _ _ h=>by cases d<;>exact h) ?_
   iterate 23 (refine aG rfl (λK hK=>?_);go_simp;refine hK _ ?_;clear hK K)
   refine bH ?_;clear z0 z1 z2 z3 i0 i1 i2 i3 w0 w1 w2 w3 m1 m2 m3 o1 o2 o3 h0 h1 h2 h3;obtain⟨T,hT⟩:=exq (4+n);have hTR:T<=RL:=by have:=HLR.out;omega
   have hT4:4<=T:=by omega
   have wT:IntKind.i64.wrap (4+(n:Int))=T:=by have:=rU (x:=T) (by omega);rw[<-this];congr 1;omega
   have hTc:(T:Int)<=c':=by omega
   have ala:(T:Int)<=RL:=by omega
   have h4T:(4:Int)<=T:=by omega
   have hRc:(RL:Int)<=c':=by omega
   have hTn:T-4=n:=by omega
   have hRT:RL-T=R2.length:=by have:=HLR.out;omega
   obtain⟨a1,fy,xo,fk⟩:=xB (l:=4) (h:=T) HAT.out hc2 hT4 (by rw[<-HRL.out];exact hTR) (by rw[<-HRL.out];exact m7);obtain⟨a2,ii,ha2,ig⟩:=xB (l:=T) (h:=RL) HAT.out hc2 hTR (by rw[HRL.out];exact Aw _) (by rw[<-HRL.out];exact m7);rw[Be,iJ]at fy ii
   have e1:(R.take T).drop 4=b:=by
    rw[HRS.out,List.take_append,bM,Ai (by rw[bM];omega),show T-4=b.length by rw[<-HN.out];exact hTn,List.take_left,Bg (bM 4 n)]
   have e2:(R.take RL).drop T=R2:=by
    rw[HRL.out,Aq,HRS.out,<-Ba,Bg (by rw[Af,bM,<-HN.out,hT])]
   rw[e1]at xo;rw[e2]at ha2;have HA1:=Aa xo;have HA2:=Aa ha2;obtain⟨f,ct,dw⟩:=hR.out;have hck:=ct.cell k ae;have pj:=ct.froz k;have HROW:=Aa ct;have HSET:=Aa dw;clear e1 e2 xo ha2 hT ct dw;go_wp2_with fail
   refine iV (EB w.heap.size) (aU 12 [10]) (EB.refl w.heap.size) (EB.trans w.heap.size) (by kernel_rfl) (by kernel_rfl) (λd _ _ _ _ h=>by cases d<;>exact h) ?_
   iterate 10 (refine aG rfl (λK hK=>?_);go_simp;refine hK _ ?_;clear hK K)
   have alb:wr.drew.frozen? ⟨pb,k,none⟩=false:=pj;have alc:wr.drew.cell? ⟨pb,k,none⟩=some (f k):=(Grows.drew wr).cell hck;refine aZ rfl rfl (λK hK=>?_);go_simp;refine⟨EB.set1 (show w.heap.size<=pb by have:=HPB.out;omega) _,hK _ _ ?_⟩
   clear hK K;iterate 1 (refine aG rfl (λK hK=>?_);go_simp;refine hK _ ?_;clear hK K)
   refine bH ?_;go_wp2_with fail
   go_roundw
   case rel =>
    refine⟨k+1,ae,by go_num,⟨a2,c'-T,by rw[<-HR2.out],by rw[<-HR2.out];omega,ig,by rw[<-HR2.out];exact HA2.out⟩,⟨λj=>if j=k then .slice a1 n (c'-4) else f j,((HROW.out.set ae _).grows (Grows.drew _)).grows (Grows.drew _),λj b' hj hb'=>?_⟩,((hG.out.set (show w.heap.size<=pb by have:=HPB.out;omega) _).dr).dr⟩
    by_cases n9:j=k
    ·subst n9
     obtain rfl:b=b':=by have:=HB.out;rw[hb']at this;exact(Option.some.inj this).symm
     simp only[if_true];exact⟨a1,c'-4,by rw[<-HN.out],by rw[<-HN.out];omega,fk,HA1.out⟩
    ·simp only[if_neg n9]
     exact HSET.out j b' (by omega) hb'
   case measure=>simp[intOf];omega
  ·obtain rfl:k=4:=by omega
   obtain⟨f,ct,dw⟩:=hR.out;have hP:=HPS.out;have s0:=dw 0 P0 (by omega) (by rw[hP];rfl);have s1:=dw 1 P1 (by omega) (by rw[hP];rfl);have s2:=dw 2 P2 (by omega) (by rw[hP];rfl);have s3:=dw 3 P3 (by omega) (by rw[hP];rfl);have c0:=ct.cell 0 (by omega);have c1:=ct.cell 1 (by omega);have c2:=ct.cell 2 (by omega);have c3:=ct.cell 3 (by omega);have f0:=ct.froz 0;have f1:=ct.froz 1;have f2:=ct.froz 2;have f3:=ct.froz 3;obtain⟨a0,d0,e0,x0,y0,t0⟩:=s0.out;obtain⟨a1,d1,e1,x1,y1,t1⟩:=s1.out;obtain⟨a2,d2,e2,x2,y2,t2⟩:=s2.out;obtain⟨a3,d3,e3,x3,y3,t3⟩:=s3.out;rw[e0]at c0;rw[e1]at c1;rw[e2]at c2;rw[e3]at c3;have hr4:sF Ps 4=[]:=by rw[hP];rfl
   have hS4:=hS.out;rw[hr4]at hS4;obtain⟨a,c',rfl,_,_,_⟩:=hS4.out;have H0:Hid (rY0 w (.slice a0 P0.length d0) P0):=⟨a0,d0,rfl,x0,y0,t0⟩;have H1:Hid (rY0 w (.slice a1 P1.length d1) P1):=⟨a1,d1,rfl,x1,y1,t1⟩;have H2:Hid (rY0 w (.slice a2 P2.length d2) P2):=⟨a2,d2,rfl,x2,y2,t2⟩;have H3:Hid (rY0 w (.slice a3 P3.length d3) P3):=⟨a3,d3,rfl,x3,y3,t3⟩;clear hR ct dw hP s0 s1 s2 s3 e0 e1 e2 e3 x0 x1 x2 x3 y0 y1 y2 y3 t0 t1 t2 t3 hr4 hS hS4;have hgs:∀ {u:World} (j:Nat) (v:Value),Grows w u->Grows w (u.setCell ⟨pb,j,none⟩ v):=λj v h=>h.set (show w.heap.size<=pb by have:=HPB.out;omega) v
   have hgf:=hgs 3 (.slice a3 P3.length d3) (hgs 2 (.slice a2 P2.length d2) (hgs 1 (.slice a1 P1.length d1) (hgs 0 (.slice a0 P0.length d0) hG.out)));have ne:∀i j:Nat,i≠j->(⟨pb,i,none⟩:Addr)≠⟨pb,j,none⟩:=λi j h e=>h (congrArg Addr.off e);obtain⟨W4,hW4⟩:=exq ((((wr.setCell ⟨pb,0,none⟩ (.slice a0 P0.length d0)).setCell ⟨pb,1,none⟩ (.slice a1 P1.length d1)).setCell ⟨pb,2,none⟩ (.slice a2 P2.length d2)).setCell ⟨pb,3,none⟩ (.slice a3 P3.length d3))
   have HK:Hid (W4.cell? ⟨pb,0,none⟩=some (.slice a0 P0.length d0)/\W4.cell? ⟨pb,1,none⟩=some (.slice a1 P1.length d1)/\W4.cell? ⟨pb,2,none⟩=some (.slice a2 P2.length d2)/\W4.cell? ⟨pb,3,none⟩=some (.slice a3 P3.length d3)):=by
    have ot:∀ {u:World} {i j:Nat} {v x:Value},i≠j->u.cell? ⟨pb,i,none⟩=some x->(u.setCell ⟨pb,j,none⟩ v).cell? ⟨pb,i,none⟩=some x:=λ{u i j v x} h hc=>(Ag u _ _ _ (λe=>ne i j h (by first|exact e|exact e.symm))).trans hc
    have sm:∀ {u:World} {i:Nat} {v x:Value},u.cell? ⟨pb,i,none⟩=some x->(u.setCell ⟨pb,i,none⟩ v).cell? ⟨pb,i,none⟩=some v:=λ{u i v x} hc=>Ao u _ _ hc;rw[hW4];exact⟨ot (by decide) (ot (by decide) (ot (by decide) (sm c0))),ot (by decide) (ot (by decide) (sm (ot (by decide) c1))),ot (by decide) (sm (ot (by decide) (ot (by decide) c2))),sm (ot (by decide) (ot (by decide) (ot (by decide) c3)))⟩
   rw[<-hW4]at hgf;go_wp2_with fail
   rw[<-hW4];obtain⟨k0,k1,k2,k3⟩:=HK.out;exact bodyPost_ret (v:=.tuple #[.agg #[.slice a0 P0.length d0,.slice a1 P1.length d1,.slice a2 P2.length d2,.slice a3 P3.length d3],.bool true]) (by simp[results,Tryz.results164,go_sem,k0,k1,k2,k3]) rfl ⟨_,_,_,_,rfl,H0.out.grows hgf,H1.out.grows hgf,H2.out.grows hgf,H3.out.grows hgf,hgf⟩
theorem mM0 (L:List (List UInt8)) (tb i:Nat) (w:World) (ah:OkL L) (hl:L.length<=20000) (hc:eG L<=524287) (hi:i<(nodesA L).length) (ac:eF w tb L) :
  Calls Tryz.prog 105 #[.pointer (some ⟨tb,0,none⟩),.int .i64 i] w λe w'=>e=.returned (.tuple #[.int .i64 (offA L i:Nat),.int .i64 (offA L (i+1):Nat)])/\Grows w w':=by
 obtain⟨z1,z2,_,_,_⟩:=ah.sizes hl hc;obtain⟨sb,s1,s2⟩:=ac.s
 have xy:(shapeL L (nodesA L)).length=2*(nodesA L).length+1:=by
  have h:=fC L (nodesA L).length (Aw _);rw[Aq,ah.off_all]at h;omega
 obtain⟨p1,p2,p3⟩:=xQ (L:=L) (i:=i) (by omega);obtain⟨r1,r2,_⟩:=xQ (L:=L) (i:=i+1) (by omega);have ho1:=ah.off_le i;have rq:=ah.off_le (i+1);have hm:=lM (L:=L) (show i<=i+1 by omega)
 have CS1:=λ(u:World) (hu:Grows w u)=>Aa (xE (shapeL L (nodesA L)) sb false (offA L i+i) i u z1 (by omega) p1 p2 (s2.grows hu));have CS2:=λ(u:World) (hu:Grows w u)=>Aa (xE (shapeL L (nodesA L)) sb false (offA L (i+1)+(i+1)) (i+1) u z1 (by omega) r1 r2 (s2.grows hu))
 have CR:∀u,Grows w u->Hid (Calls Tryz.prog 90 #[.pointer (some ⟨sb,0,none⟩),.bool true,.int .i64 (offA L i+i+1:Nat)] u λe w'=>e=.returned (.int .i64 (offA L i:Nat))/\u=w'):=λu hu=>by
  have h:=rC (shapeL L (nodesA L)) sb true (offA L i+i+1) u z1 (by omega) (s2.grows hu);rw[show min (offA L i+i+1) (shapeL L (nodesA L)).length=offA L i+i+1 by omega,p3]at h
  exact h
 obtain⟨A,hA⟩:=exq (offA L i);obtain⟨B,hB⟩:=exq (offA L (i+1));rw[<-hA]at CS1 CR ho1 hm ⊢;rw[<-hB]at CS2 rq hm ⊢;obtain⟨P,hP⟩:=exq (A+i);obtain⟨F,hF⟩:=exq (A+i+1);obtain⟨T,hT⟩:=exq (B+(i+1));obtain⟨j,hj⟩:=exq (i+1);rw[<-hP]at CS1;rw[<-hF]at CR;rw[<-hj]at hT;rw[<-hj,<-hT]at CS2
 have hN:(nodesA L).length<=524287:=by
  have:=eX ah.asc ah.len
  omega
 have w1:IntKind.i64.wrap ((P:Int)+1)=F:=by simp[Ac,Ad,Ab];omega
 have w2:IntKind.i64.wrap ((i:Int)+1)=j:=by simp[Ac,Ad,Ab];omega
 have w3:IntKind.i64.wrap ((A:Int)+T)=(A:Int)+T:=by simp[Ac,Ad,Ab];omega
 have w4:IntKind.i64.wrap ((A:Int)+T-F)=B:=by simp[Ac,Ad,Ab];omega
 clear hP hF hT hj hA hB p1 p2 p3 r1 r2 ac s2 xy z1 z2;go_enter Tryz.func105,Tryz.ntmps105
 go_wp2_with fail
 refine(CS1 w (Grows.refl w)).out.mono ?_;rintro e w1' ⟨rfl,ag⟩;have s1a:=ag.cell s1;go_wp2_with fail
 refine(CS2 w1' ag).out.mono ?_;rintro e w2' ⟨rfl,af⟩;have hg:=ag.tr af;have s1b:=hg.cell s1;clear s1a ag af CS1 CS2 s1;go_wp2_with fail
 refine(CR w2' hg).out.mono ?_;rintro e w3' ⟨rfl,rfl⟩;clear CR;go_wp2_with fail
 go_ret2;exact⟨rfl,hg⟩
theorem lG0 (L:List (List UInt8)) (tb i:Nat) (c:UInt8) (w:World) (ah:OkL L) (hl:L.length<=20000) (hc:eG L<=524287) (hi:i<(nodesA L).length) (ac:eF w tb L) :
  Calls Tryz.prog 124 #[.pointer (some ⟨tb,0,none⟩),.int .i64 i,.int .u8 (c.toNat:Nat)] w λe w'=>∃(k:Nat) (b:Bool),e=.returned (.tuple #[.int .i64 k,.bool b])/\lA1 L i c k b/\Grows w w':=by
 obtain⟨x,hx⟩:∃x,(nodesA L)[i]?=some x:=⟨_,Ah hi⟩;have CK:=λ(u:World) (hu:Grows w u)=>Aa (mM0 L tb i u ah hl hc hi (ac.grows hu));obtain⟨_,_,z3,_,_⟩:=ah.sizes hl hc;obtain⟨vL,l1,l2⟩:=ac.l;obtain⟨aL,cL,rfl,_,_,l9⟩:=l2.at_ bI.len;have HATL:=Aa l9;obtain⟨ln,za⟩:=exq ((labelsL L (nodesA L)).length);rw[<-za]at l1;have HLN:=Aa za;have rq:=ah.off_le (i+1)
 have hN:(nodesA L).length<=524287/\ln+1=(nodesA L).length:=by
  have:=eX ah.asc ah.len
  refine⟨by omega,?_⟩;rw[za,ah.labels,At,Bd];omega
 have HX:=Aa hx;have HOK:=Aa ah;obtain⟨A,hA⟩:=exq (offA L i);obtain⟨B,hB⟩:=exq (offA L (i+1));rw[<-hA,<-hB]at CK;rw[<-hB]at rq;have hA1:1<=A:=by rw[hA];exact OkL.off_pos i
 have START:Hid (qH L i c A B):=by
  rw[hA,hB];exact Aa (qH.start L i c)
 have HB:=Aa hB;have HA:=Aa hA;clear hx ac l2 l9 za hA hB hl hc;go_enter Tryz.func124,Tryz.ntmps124
 go_wp2_with fail
 refine(CK w (Grows.refl w)).out.mono ?_;rintro e w1 ⟨rfl,ag⟩;have G1:=Aa ag;clear ag;go_wp2_with fail
 go_loopw [8,9] (λf t wr=>∃F T:Nat,f=.int .i64 F/\t=.int .i64 T/\T<=B/\1<=F/\F<=T/\Hid (qH L i c F T)/\Hid (Grows w wr)) (λf t _=>(intOf t).toNat-(intOf f).toNat)
 case atStart=>exact⟨A,B,rfl,rfl,Aw _,hA1,START.out.le,START.out,G1.out⟩
 case round =>
  clear START;obtain⟨F,T,rfl,rfl,hTB,hF1,hFT,hI,hG⟩:=hrel;have l1r:=hG.out.cell l1;by_cases ae:F<T
  ·have et:(F:Int)<T:=by omega
   obtain⟨M,hM⟩:=exq ((F+T)/2);obtain⟨M1,hM1⟩:=exq (M-1);have wFT:IntKind.i64.wrap ((F:Int)+T)=(F:Int)+T:=by simp[Ac,Ad,Ab];omega
   have eM:((F:Int)+T)/2=M:=by omega
   have wM1:IntKind.i64.wrap ((M:Int)-1)=M1:=by simp[Ac,Ad,Ab];omega
   have hFM:F<=M:=by omega
   have hMT:M<T:=by omega
   obtain⟨d,hd⟩:=HOK.out.lab_get HX.out (k:=M) (Nat.le_trans hI.out.lo hFM) (by rw[<-HB.out];omega);rw[<-hM1]at hd;obtain⟨lb,lo,rfl,bh⟩:=at1 (f:=λb:UInt8=>Value.int .u8 b.toNat) (HATL.out.grows hG.out) (Ax (Aj hd));have hlc:=bh M1 d hd;have ajf:(M1:Int)<ln:=by omega
   have HD:=Aa hd;have HM1:=Aa hM1;have ze:M<=524287:=by omega
   clear bh hd hM hM1;by_cases hdc:d.toNat<c.toNat
   ·have hdi:(d.toNat:Int)<c.toNat:=by omega
    have hI2:=Aa (hI.out.less HOK.out HX.out hFM hMT (by rw[<-HM1.out];exact HD.out) hdc);obtain⟨M2,hM2⟩:=exq (M+1);have zf:IntKind.i64.wrap ((M:Int)+1)=M2:=by simp[Ac,Ad,Ab];omega
    rw[<-hM2]at hI2;go_wp2_with fail
    go_roundw
    case rel=>exact⟨M2,T,by go_num,rfl,hTB,by omega,by omega,hI2.out,hG.out⟩
    case measure=>simp[intOf];omega
   ·have hdi:¬(d.toNat:Int)<c.toNat:=by omega
    have hI2:=Aa (hI.out.more HOK.out HX.out hFM hMT (by rw[<-HM1.out];exact HD.out) hdc);go_wp2_with fail
    go_roundw
    case rel=>exact⟨F,M,rfl,by go_num,by omega,hF1,hFM,hI2.out,hG.out⟩
    case measure=>simp[intOf];omega
  ·have et:¬(F:Int)<T:=by omega
   obtain rfl:F=T:=by omega
   have CK2:=CK wr hG.out;clear CK;go_wp2_with fail
   refine CK2.out.mono ?_;rintro e w2 ⟨rfl,af⟩;have ny:=hG.out.tr af;have l1s:=ny.cell l1;by_cases hFB:F<B
   ·have ajg:(F:Int)<B:=by omega
    obtain⟨M1,hM1⟩:=exq (F-1);have wM1:IntKind.i64.wrap ((F:Int)-1)=M1:=by simp[Ac,Ad,Ab];omega
    obtain⟨d,hd⟩:=HOK.out.lab_get HX.out (k:=F) hI.out.lo (by rw[<-HB.out];omega);rw[<-hM1]at hd;obtain⟨lb,lo,rfl,bh⟩:=at1 (f:=λb:UInt8=>Value.int .u8 b.toNat) (HATL.out.grows ny) (Ax (Aj hd));have ajf:(M1:Int)<ln:=by omega
    have y0:∀y:Ext Grows w2.drew,y.u.cell? ⟨lb,lo+M1,none⟩=some (.int .u8 d.toNat):=aB ((Grows.drew w2).cell (bh M1 d hd));have y1:∀y:Ext Grows w2.drew,y.u.cell? ⟨tb,2,none⟩=some (.slice (some ⟨lb,lo,none⟩) ln cL):=aB ((Grows.drew w2).cell l1s);have HD:=Aa hd;have HM1:=Aa hM1;by_cases hdc:d=c
    ·have RES:Hid (lA1 L i c F true):=hI.out.hit (by rw[<-HB.out];exact hFB) (by rw[<-HM1.out,<-hdc];exact HD.out)
     have hdi:((d.toNat:Int)==c.toNat)=true:=by rw[hdc];simp
     clear bh hd hM1 l1s l1r hdc hI;go_wp2_with fail
     refine bE (aU 18 []) (by kernel_rfl) (λd _ _ _ _ h=>by cases d<;>exact h) ?_
     iterate 18 (refine aG rfl (λK hK=>?_);go_simp;refine hK _ ?_;clear hK K)
     refine bH ?_;clear y0 y1;go_wp2
     go_ret2;exact⟨F,true,rfl,RES.out,ny.dr⟩
    ·have RES:Hid (lA1 L i c F false):=hI.out.miss HOK.out HX.out (by rw[<-HB.out];exact hFB) (by rw[<-HM1.out];exact HD.out) hdc
     have hdi:((d.toNat:Int)==c.toNat)=false:=by
      rw[beq_eq_false_iff_ne];intro h;exact hdc (UInt8.toNat_inj.1 (by omega))
     clear bh hd hM1 l1s l1r hdc hI;go_wp2_with fail
     refine bE (aU 18 []) (by kernel_rfl) (λd _ _ _ _ h=>by cases d<;>exact h) ?_
     iterate 18 (refine aG rfl (λK hK=>?_);go_simp;refine hK _ ?_;clear hK K)
     refine bH ?_;clear y0 y1;go_wp2
     go_ret2;exact⟨F,false,rfl,RES.out,ny.dr⟩
   ·have ajg:¬(F:Int)<B:=by omega
    have RES:Hid (lA1 L i c F false):=hI.out.ends (by rw[<-HB.out];exact hFB);clear hI l1r;go_wp2_with fail
    refine bE (aU 18 []) (by kernel_rfl) (λd _ _ _ _ h=>by cases d<;>exact h) ?_
    iterate 18 (refine aG rfl (λK hK=>?_);go_simp;refine hK _ ?_;clear hK K)
    refine bH ?_;go_wp2
    go_ret2;exact⟨F,false,rfl,RES.out,ny.dr⟩
theorem oI0 (L:List (List UInt8)) (tb i:Nat) (s:List UInt8) (w:World) (ah:OkL L) (hl:L.length<=20000) (hc:eG L<=524287) (hn:fR L s i) (ac:eF w tb L) :
  Calls Tryz.prog 106 #[.pointer (some ⟨tb,0,none⟩),.int .i64 i] w λe w'=>e=.returned (.tuple #[.int .i64 ((jB L s).1:Nat),.bool (jB L s).2])/\Grows w w':=by
 obtain⟨x,hx,rfl⟩:=hn;have ri:=(List.getElem?_eq_some_iff.1 hx).1;have hf:=ah.find_node hx;obtain⟨_,z2,_,z4,z5⟩:=ah.sizes hl hc;obtain⟨ib,i1,i2⟩:=ac.i;obtain⟨pb,d1,d2⟩:=ac.d
 have hN:(nodesA L).length<=524287:=by
  have:=eX ah.asc ah.len
  omega
 have CG:=Aa (zR (isL L (nodesA L)) ib i w (by omega) i2);rw[aZ0 hx]at CG;by_cases hh:iP L x=true
 ·rw[if_pos hh]at hf
  rw[hf];rw[hh]at CG;have hid:=sZ0 hx hh;have ald:(isL L (nodesA L)).length=(nodesA L).length:=by unfold isL;rw[At]
  obtain⟨k,hk⟩:=exq (eK (isL L (nodesA L)) i);rw[<-hk]at hid
  have CR:∀u,Grows w u->Hid (Calls Tryz.prog 90 #[.pointer (some ⟨ib,0,none⟩),.bool true,.int .i64 i] u λe w'=>e=.returned (.int .i64 (k:Nat))/\u=w'):=λu hu=>by
   have h:=rC (isL L (nodesA L)) ib true i u (by omega) (by omega) (i2.grows hu);rw[show min i (isL L (nodesA L)).length=i by omega]at h
   rw[hk];exact h
  have CP:=λ(u:World) (hu:Grows w u)=>Aa (uZ (idsL L (nodesA L)) pb k x.i u (d2.grows hu) (by omega) (λn hn=>by have:=z5 n hn;omega) hid);have z0:∀y:Ext Grows w.drew,y.u.cell? ⟨tb,3,none⟩=some (.pointer (some ⟨pb,0,none⟩)):=aB ((Grows.drew w).cell d1);have z1':∀y:Ext Grows w.drew,y.u.cell? ⟨tb,1,none⟩=some (.pointer (some ⟨ib,0,none⟩)):=aB ((Grows.drew w).cell i1);have hx5:x.i<=20000:=z5 _ (Aj hid);have wx:IntKind.i64.wrap ((x.i:Nat):Int)=(x.i:Nat):=by simp[Ac,Ad,Ab];omega
  clear ac d2 i2 hid hx hk hf ah;go_enter Tryz.func106,Tryz.ntmps106
  go_wp2_with fail
  refine CG.out.mono ?_;rintro e w1 ⟨rfl,rfl⟩;go_wp2_with fail
  refine bE (aU 16 [10]) (by kernel_rfl) (λd _ _ _ _ h=>by cases d<;>exact h) ?_
  iterate 9 (refine aG rfl (λK hK=>?_);go_simp;refine hK _ ?_;clear hK K)
  refine aG rfl (λK hK=>?_);go_simp;apply Exists.intro
  refine⟨λx=>?_,hK _ ?_⟩
  ·go_at_call 90;exact aY (CR _ ((Grows.drew w).tr x.h)).out
  clear hK K;clear z0 z1';refine aZ rfl rfl (λK hK=>?_);go_simp;refine((CP w.drew (Grows.drew w)).out).mono ?_;rintro e w2 ⟨rfl,af⟩;refine⟨af,hK _ _ ?_⟩;clear hK K;iterate 5 (refine aG rfl (λK hK=>?_);go_simp;refine hK _ ?_;clear hK K)
  refine bH ?_;go_wp2
  go_ret2;exact⟨rfl,(Grows.drew w).tr af⟩
 ·rw[if_neg hh]at hf
  rw[hf];rw[show iP L x=false by simpa using hh]at CG
  clear ac d2 i2 hx hf ah;go_enter Tryz.func106,Tryz.ntmps106
  go_wp2_with fail
  refine CG.out.mono ?_;rintro e w1 ⟨rfl,rfl⟩;go_wp2
  go_ret2;exact⟨rfl,Grows.refl _⟩
theorem kX0 (L:List (List UInt8)) (tb:Nat) (s:ByteArray) (w:World) (ah:OkL L) (hl:L.length<=20000) (hc:eG L<=524287) (hs:s.size<=9223372036854775807) (ac:eF w tb L) :
  Calls Tryz.prog 103 #[.pointer (some ⟨tb,0,none⟩),.string s] w λe w'=>∃(k:Nat) (b:Bool),e=.returned (.tuple #[.int .i64 k,.bool b])/\mL0 L (bl s) k b/\Grows w w':=by
 have HOK:=Aa ah;have CD:=λ(i:Nat) (c:UInt8) (hi:i<(nodesA L).length) (u:World) (hu:Grows w u)=>Aa (lG0 L tb i c u ah hl hc hi (ac.grows hu));clear ac ah;go_enter Tryz.func103,Tryz.ntmps103
 go_wp2_with fail
 go_loopw [6,7,8] (λf b i wr=>∃(k j:Nat) (ok:Bool),f=.int .i64 k/\b=.bool ok/\i=.int .i64 j/\j<=s.size/\Hid (mL0 L ((bl s).take j) k ok)/\Hid (Grows w wr)) (λ_ _ i _=>s.size-(intOf i).toNat)
 case atStart=>exact⟨0,0,true,rfl,rfl,rfl,An _,⟨λ_=>HOK.out.isRoot,λh=>by cases h⟩,Grows.refl _⟩
 case round =>
  obtain⟨k,j,ok,rfl,rfl,rfl,hj,hW,hG⟩:=hrel;by_cases ae:j<s.size
  ·have et:(j:Int)<s.size:=by omega
   cases ok with
   | true =>
    have hcj:(bl s)[j]?=some s[j]:=nR ae;have CD1:=CD k s[j] (hW.out.1 rfl).lt wr hG.out;have HC:=Aa hcj;clear CD hcj;go_wp2_with fail
    refine CD1.out.mono ?_;rintro e w1 ⟨k1,b1,rfl,hd,ag⟩;have HW1:=Aa (HOK.out.down_to (hW.out.1 rfl) hd);rw[<-bN HC.out]at HW1;go_wp2_with fail
    go_roundw
    case rel=>exact⟨k1,j+1,b1,rfl,rfl,by go_num,ae,HW1.out,hG.out.tr ag⟩
    case measure=>simp[intOf];omega
   | false =>
    have HW1:=Aa (HOK.out.walk_stop hW.out);go_wp2_with fail
    go_ret2;exact⟨k,false,rfl,HW1.out,hG.out⟩
  ·have et:¬(j:Int)<s.size:=by omega
   obtain rfl:j=s.size:=by omega
   have HW1:=hW.out;rw[Ai (by rw[dI];exact Aw _)]at HW1
   cases ok with
   | true =>
    go_wp2_with fail
    go_ret2;first|exact⟨k,true,rfl,HW1,hG.out⟩|exact⟨k,.inr ⟨rfl,HW1,hG.out⟩⟩
   | false =>
    go_wp2_with fail
    go_ret2;first|exact⟨k,false,rfl,HW1,hG.out⟩|exact⟨k,.inl ⟨rfl,HW1,hG.out⟩⟩
end
end Go.Proofs.YtheiocndipepaaaGreatDoor
