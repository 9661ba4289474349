/- The texts BitsP PackP PopP VecP CrcP RnkP SelP BvDP, one behind the other. -/
import Derived.Test.YtheiocndipepaaaGreatDoorRows
open List renaming getD_eq_getElem?_getD → Aa,getElem?_eq_none → An,length_append → At,append_assoc → Ay,take_append_of_le_length → Ba,range → Be,getElem?_append_left → Bf,flatten_cons → Bh,map_cons → Bi,length_cons → Bk,take_of_length_le → Bn,cons_append → Bw,range_succ → Bz
open Nat renaming shiftRight_eq_div_pow → Ab,and_two_pow_sub_one_eq_mod → Ac,eq_of_testBit_eq → Ad,le_refl → Ae,testBit_mod_two_pow → Af,lt_of_le_of_lt → Ag,mod_two_eq_zero_or_one → Ah,mod_add_div → Ai,pow_le_pow_right → Aj,lt_of_lt_of_le → Ak,testBit_shiftRight → Al,reducePow → Am,testBit_two_pow_mul_add → Ao,mod_lt → Ap,pow_succ → Aq,and_le_right → Ar,two_pow_pos → As,mul_comm → Au,testBit_lt_two_pow → Av,or_lt_two_pow → Aw,zero_add → Ax,xor_assoc → Az,testBit_xor → Bb,testBit_div_two → Bc,testBit_or → Bd,mod_eq_of_lt → Bj,div_div_eq_div_mul → Bl,testBit_and → Bo,div_le_self → Bp,testBit_shiftLeft → Bq,testBit_two_pow → Br,xor_lt_two_pow → Bs,lt_succ_of_lt → Bt,lt_trans → Bu,zero_testBit → Bv,shiftLeft_eq → By,add_le_add → Ca,add_lt_add → Cb,add_assoc → Cc,mul_assoc → Cd,add_comm → Ce,add_zero → Cf,pow_zero → Cg,xor_comm → Ch,mul_succ → Ci,log2_lt → Cj,mul_add → Ck
open UInt8 renaming ofNat → Bg
namespace Go.Proofs.YtheiocndipepaaaGreatDoor
section
open Go
def fX (f:Nat->Bool) (base:Nat):Nat->Nat
 | 0=>0
 | k+1=>fX f base k+(if f (base+k) then 2^k else 0)
theorem kO (f:Nat->Bool) (base:Nat):∀k,fX f base k<2^k
 | 0=>by simp[fX]
 | k+1=>by
  have:=kO f base k
  unfold fX;rw[Aq];split<;>omega
theorem dU (f:Nat->Bool) (base:Nat):∀k t,(fX f base k).testBit t=(decide (t<k)&&f (base+t))
 | 0,t=>by simp[fX]
 | k+1,t=>by
  have ae:=kO f base k;unfold fX;by_cases hf:f (base+k)=true
  ·rw[if_pos hf,Ce,<-Nat.one_mul (2^k),Au 1,Nat.two_pow_add_eq_or_of_lt ae,Bd,dU f base k t,Nat.mul_one,Br]
   by_cases h1:t<k
   ·simp[h1,Bt h1,show ¬k=t by omega]
   ·by_cases h2:t=k
    ·subst h2;simp[hf]
    ·simp[h1,show ¬k=t by omega,show ¬t<k+1 by omega]
  ·have hf2:f (base+k)=false:=by simpa using hf
   rw[if_neg hf,Cf,dU f base k t];by_cases h1:t<k
   ·simp[h1,Bt h1]
   ·by_cases h2:t=k
    ·subst h2;simp[hf2]
    ·simp[h1,show ¬t<k+1 by omega]
theorem iT {f:Nat->Bool} {base k n:Nat} (hn:n<2^k) (h:∀t,t<k->n.testBit t=f (base+t)):n=fX f base k:=by
 apply Ad
 intro t;rw[dU];by_cases ht:t<k
 ·rw[h t ht];simp[ht]
 ·simp only[ht,decide_false,Bool.false_and]
  exact Av (Ak hn (Aj (by decide) (by omega)))
theorem lI {f g:Nat->Bool} {base base' k:Nat} (h:∀t,t<k->f (base+t)=g (base'+t)):fX f base k=fX g base' k:=by
 apply iT (kO _ _ _)
 intro t ht;rw[dU,h t ht];simp[ht]
def leB (k n:Nat):List UInt8:=(Be k).map λi=>Bg (n/256^i)
theorem bM (k n:Nat):(leB k n).length=k:=by simp[leB]
theorem gA1 (k n:Nat):leB (k+1) n=Bg n::leB k (n/256):=by
 unfold leB;rw[List.range_succ_eq_map,Bi,List.map_map];simp only[Cg,Nat.div_one,List.cons.injEq,true_and];apply List.map_congr_left
 intro i _;simp only[Function.comp];rw[Aq,Au,<-Bl]
theorem fY1 (k n:Nat):leB (k+1) n=leB k n++[Bg (n/256^k)]:=by
 unfold leB;rw[Bz,List.map_append];rfl
def bitLen (n:Nat):Nat:=if n=0 then 0 else n.log2+1
theorem mH0 {n w:Nat}:bitLen n<=w↔n<2^w:=by
 unfold bitLen;by_cases h:n=0
 ·subst h
  simp only[if_true];exact⟨λ_=>As w,λ_=>Nat.zero_le _⟩
 ·rw[if_neg h]
  constructor
  ·intro h1
   exact(Cj h).1 (by omega)
  ·intro h1
   have:=(Cj h).2 h1
   omega
theorem qF1 {a b w:Nat}:a|||b<2^w↔a<2^w/\b<2^w :=
 ⟨λh=>⟨Ag Nat.left_le_or h,Ag Nat.right_le_or h⟩,λh=>Aw h.1 h.2⟩
def dO0 (l:List Nat):Nat:=l.foldl (· ||| ·) 0
def pF (l:List Nat):Nat:=bitLen (dO0 l)
theorem vP0 (l:List Nat) (n:Nat):dO0 (l++[n])=dO0 l|||n:=by simp[dO0]
theorem sP0 {w:Nat}:∀ {l:List Nat},dO0 l<2^w↔∀n∈l,n<2^w:=by
 have key:∀(l:List Nat) (a:Nat),l.foldl (· ||| ·) a<2^w↔a<2^w/\∀n∈l,n<2^w:=by
  intro l
  induction l with
  | nil=>intro a;simp
  | cons b l ih =>
   intro a;rw[List.foldl_cons,ih,qF1];simp only[List.mem_cons,forall_eq_or_imp,and_assoc]
 intro l;unfold dO0;rw[key];exact⟨λh=>h.2,λh=>⟨As w,h⟩⟩
theorem bP1 {l:List Nat} {n:Nat} (h:n∈l):n<2^pF l:=sP0.1 (mH0.1 (Ae _)) n h
theorem oY {l:List Nat} {w:Nat}:pF l<=w↔∀n∈l,n<2^w:=by unfold pF; rw[mH0,sP0]
def bitAt (l:List Nat) (w pos:Nat):Bool:=(l.getD (pos/w) 0).testBit (pos%w)
theorem zU0 (w pos:Nat):bitAt [] w pos=false:=by simp[bitAt]
theorem bM0 {l:List Nat} {w pos:Nat} (hw:0<w) (h:l.length*w<=pos):bitAt l w pos=false:=by
 unfold bitAt
 have:l.length<=pos/w:=(Nat.le_div_iff_mul_le hw).2 h
 rw[Aa,An this];simp
theorem xR {l:List Nat} {w v:Nat} (hw:0<w) (hv:v<2^w) (pos:Nat) :
  bitAt (l++[v]) w pos=(bitAt l w pos||(decide (l.length*w<=pos)&&v.testBit (pos-l.length*w))):=by
 by_cases h:pos<l.length*w
 ·have h1:pos/w<l.length:=(Nat.div_lt_iff_lt_mul hw).2 h
  unfold bitAt;rw[Aa,Bf h1,<-Aa];simp[show ¬l.length*w<=pos by omega]
 ·have h0:l.length*w<=pos:=by omega
  rw[bM0 hw h0];simp only[h0,decide_true,Bool.true_and,Bool.false_or];by_cases h2:pos<(l.length+1)*w
  ·have h3:pos/w=l.length:=by
    apply Nat.div_eq_of_lt_le
    ·exact h0
    ·exact h2
   have h4:pos%w=pos-l.length*w:=by
    have:=Nat.div_add_mod pos w
    rw[h3,Au]at this;omega
   unfold bitAt;rw[h3,h4,Aa,List.getElem?_append_right (Ae _),Nat.sub_self];rfl
  ·have h5:(l++[v]).length*w<=pos:=by rw[At];simpa using Nat.le_of_not_lt h2
   rw[bM0 hw h5];symm
   apply Av
   refine Ak hv (Aj (by decide) ?_);rw[Nat.add_mul]at h2;omega
def dM0 (l:List Nat):List UInt8:=(Be ((l.length*pF l+7)/8)).map λj=>Bg (fX (bitAt l (pF l)) (8*j) 8)
def packE (l:List Nat):List UInt8:=leB 4 l.length++[Bg (pF l)]++dM0 l
def iG (l:List Nat) (w q:Nat):Nat:=fX (bitAt l w) (64*q) 64
theorem yL0 (w q:Nat):iG [] w q=0:=by
 symm
 exact iT (As _) (λt _=>by rw[zU0];simp)
theorem oG (l:List Nat) (w q:Nat):iG l w q<18446744073709551616:=kO _ _ 64
theorem jE0 {v s t:Nat} (ht:t<64):((v<<<s)%18446744073709551616).testBit t=(decide (s<=t)&&v.testBit (t-s)):=by
 rw[show 18446744073709551616=2^64 from rfl,Af,Bq]
 simp[ht]
theorem mJ0 {l:List Nat} {w v q s:Nat} (hw:0<w) (hv:v<2^w) (hq:l.length*w=64*q+s) :
  iG (l++[v]) w q=iG l w q|||(v<<<s)%18446744073709551616:=by
 symm
 apply iT
 ·exact Aw (oG l w q) (Ap _ (by decide))
 ·intro t ht
  rw[Bd,jE0 ht,xR hw hv,iG,dU,hq];by_cases h:s<=t
  ·simp[ht,h,show 64*q+t-(64*q+s)=t-s by omega]
  ·simp[ht,h]
theorem xQ0 {l:List Nat} {w v q s:Nat} (hw:0<w) (hv:v<2^w) (ac5:w<=64) (hs:s<64) (hq:l.length*w=64*q+s) :
  iG (l++[v]) w (q+1)=iG l w (q+1)|||v>>>(64-s):=by
 symm
 apply iT
 ·refine Aw (oG l w (q+1)) ?_
  refine Ag (Nat.shiftRight_le v _) (Ak hv (Aj (by decide) ac5))
 ·intro t ht
  rw[Bd,Al,xR hw hv,iG,dU,hq];simp[ht,show 64*q+s<=64*(q+1)+t by omega,show 64*(q+1)+t-(64*q+s)=64-s+t by omega]
theorem fY0 {l:List Nat} {w v q s r:Nat} (hw:0<w) (hv:v<2^w) (hs:s<64) (hq:l.length*w=64*q+s)
  (hr:r≠q) (dd:r=q+1->s+w<=64) (ac5:w<=64):iG (l++[v]) w r=iG l w r:=by
 apply lI
 intro t ht;rw[xR hw hv,hq];by_cases h:64*q+s<=64*r+t
 ·have:v.testBit (64*r+t-(64*q+s))=false:=by
   apply Av
   refine Ak hv (Aj (by decide) ?_);by_cases h1:r=q+1
   ·have:=dd h1;omega
   ·have:q+2<=r:=by omega
    omega
  simp[this]
 ·simp[h]
theorem fI0 (l:List Nat) (q:Nat) (h:∀n∈l,n<2^0):iG l 0 q=0:=by
 symm
 refine iT (As _) (λt _=>?_);unfold bitAt;simp only[Nat.div_zero,Nat.mod_zero,Bv]
 cases l with
 | nil=>simp
 | cons a l =>
  have:=h a (by simp)
  have:a=0:=by omega
  subst this;simp
theorem wH0 (l:List Nat) (w i:Nat):(iG l w (i/8)>>>(i%8*8))%256=fX (bitAt l w) (8*i) 8:=by
 apply iT
 ·exact Ap _ (by decide)
 ·intro t ht
  rw[show 256=2^8 from rfl,Af,Al,iG,dU]
  have h1:i%8*8+t<64:=by omega
  rw[show 64*(i/8)+(i%8*8+t)=8*i+t by omega]
  simp[ht,h1]
theorem cE0 (l:List Nat):(packE l).length=5+(l.length*pF l+7)/8:=by
 unfold packE dM0;simp[bM];omega
def cR0 (B:Nat):Nat->Nat->Nat
 | 0,_=>0
 | n+1,x=>x%B+cR0 B n (x/B)
def jO1 (B M:Nat):Nat->Nat->Prop
 | 0,_=>True
 | n+1,x=>x%B<=M/\jO1 B M n (x/B)
def iF (B d:Nat):Nat->Nat
 | 0=>0
 | n+1=>B*iF B d n+d
theorem qM {k a b r s:Nat} (hr:r<2^k) (hs:s<2^k):(2^k*a+r)&&&(2^k*b+s)=2^k*(a&&&b)+(r&&&s):=by
 apply Ad
 intro i;have hrs:r&&&s<2^k:=Ag Nat.and_le_left hr;rw[Bo,Ao a hr,Ao b hs,Ao _ hrs,Bo];by_cases h:i<k
 ·simp[h]
 ·simp[h]
theorem rP1 (r:Nat):r&&&1=r%2:=Ac r 1
theorem rS1 (r:Nat):r&&&3=r%4:=Ac r 2
theorem qO1 (r:Nat):r&&&15=r%16:=Ac r 4
theorem kO1 (r:Nat):r&&&127=r%128:=Ac r 7
def eR1 (m x:Nat):Nat:=((x>>>1)&&&m)+(x&&&m)
theorem yN0 (m x:Nat):eR1 (4*m+1) x=4*eR1 m (x/4)+(x%2+x/2%2):=by
 unfold eR1;have h1:=qM (k:=2) (a:=x/4) (b:=m) (r:=x%4) (s:=1) (Ap _ (by decide)) (by decide);have h2:=qM (k:=2) (a:=x/2/4) (b:=m) (r:=x/2%4) (s:=1) (Ap _ (by decide)) (by decide);rw[rP1]at h1 h2;simp only[Am]at h1 h2;rw[show 4*(x/4)+x%4=x by omega]at h1
 rw[show 4*(x/2/4)+x/2%4=x/2 by omega]at h2
 rw[Ab,Ab,Nat.pow_one,h1,h2,show x/2/4=x/4/2 by omega]
 omega
theorem yU0:∀n x,cR0 4 n (eR1 (iF 4 1 n) x)=cR0 2 (2*n) x/\jO1 4 2 n (eR1 (iF 4 1 n) x)
 | 0,x=>⟨rfl,trivial⟩
 | n+1,x=>by
  have ih:=yU0 n (x/4);have hs:=yN0 (iF 4 1 n) x;rw[show 4*iF 4 1 n+1=iF 4 1 (n+1) from rfl]at hs
  refine⟨?_,?_⟩
  ·rw[hs,show 2*(n+1)=2*n+1+1 by omega]
   simp only[cR0];rw[show (4*eR1 (iF 4 1 n) (x/4)+(x%2+x/2%2))/4=eR1 (iF 4 1 n) (x/4) by omega,ih.1,show x/2/2=x/4 by omega]
   omega
  ·rw[hs]
   refine⟨by omega,?_⟩;rw[show (4*eR1 (iF 4 1 n) (x/4)+(x%2+x/2%2))/4=eR1 (iF 4 1 n) (x/4) by omega]
   exact ih.2
def eL1 (m x:Nat):Nat:=((x>>>2)&&&m)+(x&&&m)
theorem cU1 (m x:Nat):eL1 (16*m+3) x=16*eL1 m (x/16)+(x%4+x/4%4):=by
 unfold eL1;have h1:=qM (k:=4) (a:=x/16) (b:=m) (r:=x%16) (s:=3) (Ap _ (by decide)) (by decide);have h2:=qM (k:=4) (a:=x/4/16) (b:=m) (r:=x/4%16) (s:=3) (Ap _ (by decide)) (by decide);rw[rS1]at h1 h2;simp only[Am]at h1 h2;rw[show 16*(x/16)+x%16=x by omega]at h1
 rw[show 16*(x/4/16)+x/4%16=x/4 by omega]at h2
 simp only[Ab,Am];rw[h1,h2,show x/4/16=x/16/4 by omega]
 omega
theorem zR0:∀n x,jO1 4 2 (2*n) x->cR0 16 n (eL1 (iF 16 3 n) x)=cR0 4 (2*n) x/\jO1 16 4 n (eL1 (iF 16 3 n) x)
 | 0,x,_=>⟨rfl,trivial⟩
 | n+1,x,h=>by
  rw[show 2*(n+1)=2*n+1+1 by omega]at h ⊢
  simp only[jO1]at h;rw[show x/4/4=x/16 by omega]at h
  have ih:=zR0 n (x/16) h.2.2;have hs:=cU1 (iF 16 3 n) x;rw[show 16*iF 16 3 n+3=iF 16 3 (n+1) from rfl]at hs
  refine⟨?_,?_⟩
  ·rw[hs]
   simp only[cR0];rw[show (16*eL1 (iF 16 3 n) (x/16)+(x%4+x/4%4))/16=eL1 (iF 16 3 n) (x/16) by omega,ih.1,show x/4/4=x/16 by omega]
   omega
  ·rw[hs]
   refine⟨by omega,?_⟩;rw[show (16*eL1 (iF 16 3 n) (x/16)+(x%4+x/4%4))/16=eL1 (iF 16 3 n) (x/16) by omega]
   exact ih.2
def eP1 (m x:Nat):Nat:=(x>>>4+x)&&&m
theorem aT1 (m x:Nat) (h0:x%16<=4) (h1:x/16%16<=4) (h2:x/256%16<=4):eP1 (256*m+15) x=256*eP1 m (x/256)+(x%16+x/16%16):=by
 unfold eP1
 have e1:x>>>4+x=256*((x/256)>>>4+x/256)+(16*(x/256%16)+x%256/16+x%256):=by
  simp only[Ab,Am];omega
 have h:=qM (k:=8) (a:=(x/256)>>>4+x/256) (b:=m) (r:=16*(x/256%16)+x%256/16+x%256) (s:=15) (by simp only[Am];omega) (by decide);rw[qO1]at h;simp only[Am]at h;rw[<-e1]at h;rw[h];omega
theorem dR1:∀n x,jO1 16 4 (2*n) x->x<256^n->cR0 256 n (eP1 (iF 256 15 n) x)=cR0 16 (2*n) x/\jO1 256 8 n (eP1 (iF 256 15 n) x)
 | 0,x,_,_=>⟨rfl,trivial⟩
 | n+1,x,h,hx=>by
  rw[show 2*(n+1)=2*n+1+1 by omega]at h ⊢
  simp only[jO1]at h;rw[show x/16/16=x/256 by omega]at h
  have ik:x/256<256^n:=by rw[Aq]at hx;omega
  have ih:=dR1 n (x/256) h.2.2 ik
  have h3:x/256%16<=4:=by
   cases n with
   | zero=>simp only[Cg]at ik;omega
   | succ k =>
    have h4:=h.2.2;rw[show 2*(k+1)=2*k+1+1 by omega]at h4
    exact h4.1
  have hs:=aT1 (iF 256 15 n) x h.1 h.2.1 h3;rw[show 256*iF 256 15 n+15=iF 256 15 (n+1) from rfl]at hs
  refine⟨?_,?_⟩
  ·rw[hs]
   simp only[cR0];rw[show (256*eP1 (iF 256 15 n) (x/256)+(x%16+x/16%16))/256=eP1 (iF 256 15 n) (x/256) by omega,ih.1,show x/16/16=x/256 by omega]
   omega
  ·rw[hs]
   refine⟨by omega,?_⟩;rw[show (256*eP1 (iF 256 15 n) (x/256)+(x%16+x/16%16))/256=eP1 (iF 256 15 n) (x/256) by omega]
   exact ih.2
theorem qU1:iF 4 1 32=6148914691236517205:=by decide +kernel
theorem rA1:iF 16 3 16=3689348814741910323:=by decide +kernel
theorem qN1:iF 256 15 8=1085102592571150095:=by decide +kernel
theorem eC1 {lo B hi:Nat} (h:lo<B):(lo+B*hi)/B=hi:=by
 rw[Nat.add_mul_div_left _ _ (by omega),Nat.div_eq_of_lt h,Ax]
theorem mL1 {x b0 b1 b2 b3 b4 b5 b6 b7:Nat} (h0:b0<=8) (h1:b1<=8) (h2:b2<=8) (h3:b3<=8) (h4:b4<=8) (h5:b5<=8) (h6:b6<=8) (h7:b7<=8)
  (hX:x=b0+256*(b1+256*(b2+256*(b3+256*(b4+256*(b5+256*(b6+256*b7))))))) :
  ∃Y Z,x+x/256=Y/\Y+Y/65536=Z/\Y<18446744073709551616/\Z<18446744073709551616/\Z+Z/4294967296<18446744073709551616 /\
  (Z+Z/4294967296)%128=b0+(b1+(b2+(b3+(b4+(b5+(b6+b7)))))):=by
 have ld:x<1152921504606846976:=by omega
 have q1:x/256=b1+256*(b2+256*(b3+256*(b4+256*(b5+256*(b6+256*b7))))):=by rw[hX];exact eC1 (by omega)
 have hY:x+x/256=((b0+b1)+256*(b1+b2))+65536*((b2+b3)+256*(b3+b4)+65536*((b4+b5)+256*(b5+b6)+65536*((b6+b7)+256*b7))):=by rw[q1,hX];omega
 have hY0:x+x/256<2305843009213693952:=by
  have:=Bp x 256
  omega
 rw[hY]at hY0;refine⟨_,_,hY,rfl,?_⟩;clear hY q1 hX ld x;have q2:(((b0+b1)+256*(b1+b2))+65536*((b2+b3)+256*(b3+b4)+65536*((b4+b5)+256*(b5+b6)+65536*((b6+b7)+256*b7))))/65536=(b2+b3)+256*(b3+b4)+65536*((b4+b5)+256*(b5+b6)+65536*((b6+b7)+256*b7)):=eC1 (by omega);have hZ0:=Bp ((((b0+b1)+256*(b1+b2))+65536*((b2+b3)+256*(b3+b4)+65536*((b4+b5)+256*(b5+b6)+65536*((b6+b7)+256*b7))))) 65536;rw[q2]at hZ0 ⊢;refine⟨Bu hY0 (by decide),?_⟩;have hZ1:=Ag (Ca (Ae _) hZ0) (Cb hY0 hY0);clear hZ0 hY0;have hZ:(((b0+b1)+256*(b1+b2))+65536*((b2+b3)+256*(b3+b4)+65536*((b4+b5)+256*(b5+b6)+65536*((b6+b7)+256*b7))))+((b2+b3)+256*(b3+b4)+65536*((b4+b5)+256*(b5+b6)+65536*((b6+b7)+256*b7)))=((b0+b1+b2+b3)+128*(2*(b1+b2+b3+b4)+512*((b2+b3+b4+b5)+256*(b3+b4+b5+b6))))+4294967296*((b4+b5+b6+b7)+128*(2*(b5+b6+b7)+512*((b6+b7)+256*b7))):=by omega
 rw[hZ]at hZ1 ⊢;clear hZ q2;refine⟨Bu hZ1 (by decide),?_⟩;have q3:(((b0+b1+b2+b3)+128*(2*(b1+b2+b3+b4)+512*((b2+b3+b4+b5)+256*(b3+b4+b5+b6))))+4294967296*((b4+b5+b6+b7)+128*(2*(b5+b6+b7)+512*((b6+b7)+256*b7))))/4294967296=(b4+b5+b6+b7)+128*(2*(b5+b6+b7)+512*((b6+b7)+256*b7)):=eC1 (by omega);generalize hK:2*(b1+b2+b3+b4)+512*((b2+b3+b4+b5)+256*(b3+b4+b5+b6))=K at *;generalize hM:2*(b5+b6+b7)+512*((b6+b7)+256*b7)=M at *;refine⟨?_,?_⟩
 ·have:=Bp (b0+b1+b2+b3+128*K+4294967296*(b4+b5+b6+b7+128*M)) 4294967296
  exact Ag (Ca (Ae _) this) (Bu (Cb hZ1 hZ1) (by decide))
 ·rw[q3]
  clear q3 hZ1 hK hM;have e:b0+b1+b2+b3+128*K+4294967296*(b4+b5+b6+b7+128*M)+(b4+b5+b6+b7+128*M)=(b0+(b1+(b2+(b3+(b4+(b5+(b6+b7)))))))+128*(K+33554432*(b4+b5+b6+b7+128*M)+M):=by omega
  have hS:b0+(b1+(b2+(b3+(b4+(b5+(b6+b7))))))<128:=by omega
  rw[e,Nat.add_mul_mod_self_left];exact Bj hS
theorem rD1 {x x1 x2 x3:Nat} (h1:x1=((x>>>1)&&&6148914691236517205)+(x&&&6148914691236517205))
  (h2:x2=((x1>>>2)&&&3689348814741910323)+(x1&&&3689348814741910323)) (h3:x3=(x2>>>4+x2)&&&1085102592571150095) :
  x1<18446744073709551616/\x2<18446744073709551616/\x2>>>4+x2<18446744073709551616/\x3<18446744073709551616 /\
  ∃Y Z,x3+x3>>>8=Y/\Y+Y>>>16=Z/\Y<18446744073709551616/\Z<18446744073709551616/\Z+Z>>>32<18446744073709551616 /\
  (Z+Z>>>32)&&&127=cR0 2 64 x:=by
 have b1:(x>>>1)&&&6148914691236517205<=6148914691236517205:=Ar;have b2:x&&&6148914691236517205<=6148914691236517205:=Ar;have b3:(x1>>>2)&&&3689348814741910323<=3689348814741910323:=Ar;have b4:x1&&&3689348814741910323<=3689348814741910323:=Ar;have b5:x3<=1085102592571150095:=by rw[h3];exact Ar
 have b6:x2>>>4<=x2/16:=by rw[Ab];exact Ae _
 have a1:=yU0 32 x;rw[qU1,show eR1 6148914691236517205 x=x1 from h1.symm]at a1
 have a2:=zR0 16 x1 a1.2;rw[rA1,show eL1 3689348814741910323 x1=x2 from h2.symm]at a2
 have ik:x2<18446744073709551616:=by omega
 have a3:=dR1 8 x2 a2.2 ik;rw[qN1,show eP1 1085102592571150095 x2=x3 from h3.symm]at a3
 obtain⟨s3,d3⟩:=a3;have hs:cR0 256 8 x3=cR0 2 64 x:=by rw[s3];exact a2.1.trans a1.1
 rw[<-hs];clear s3 a1 a2 hs;refine⟨by omega,ik,by omega,by omega,?_⟩;simp only[jO1,and_true]at d3;obtain⟨c0,c1,c2,c3,c4,c5,c6,c7⟩:=d3;simp only[cR0,Cf,kO1,Ab,Am]
 have e7:x3/256/256/256/256/256/256/256%256=x3/256/256/256/256/256/256/256:=by
  apply Bj
  simp only[Bl];exact Nat.div_lt_of_lt_mul (by omega)
 have hX:x3=x3%256+256*(x3/256%256+256*(x3/256/256%256+256*(x3/256/256/256%256+256*(x3/256/256/256/256%256+256*(x3/256/256/256/256/256%256+256*(x3/256/256/256/256/256/256%256+256*(x3/256/256/256/256/256/256/256%256))))))):=by
  rw[e7,Ai,Ai,Ai,Ai,Ai,Ai,Ai]
 exact mL1 c0 c1 c2 c3 c4 c5 c6 c7 hX
def tP (f:Nat->Bool) (base:Nat):Nat->Nat
 | 0=>0
 | k+1=>tP f base k+(if f (base+k) then 1 else 0)
theorem fN0 (f:Nat->Bool) (base:Nat):∀k,tP f base (k+1)=(if f base then 1 else 0)+tP f (base+1) k
 | 0=>by simp[tP]
 | k+1=>by
  rw[tP,fN0 f base k,tP,show base+1+k=base+(k+1) by omega]
  omega
theorem zD (f:Nat->Bool) (base a:Nat):∀b,tP f base (a+b)=tP f base a+tP f (base+a) b
 | 0=>by simp[tP]
 | b+1=>by rw[show a+(b+1)=a+b+1 by omega,tP,zD f base a b,tP,Cc base];omega
theorem aU0 (f:Nat->Bool) (base:Nat):∀k,fX f base (k+1)=(if f base then 1 else 0)+2*fX f (base+1) k
 | 0=>by simp[fX]
 | k+1=>by
  rw[fX,aU0 f base k,fX,show base+1+k=base+(k+1) by omega,Aq]
  by_cases h:f (base+(k+1))=true
  ·rw[if_pos h,if_pos h];omega
  ·rw[if_neg h,if_neg h];omega
theorem bZ0 (f:Nat->Bool):∀k base,cR0 2 k (fX f base k)=tP f base k
 | 0,_=>rfl
 | k+1,base=>by
  rw[fN0,<-bZ0 f k (base+1),cR0,aU0];by_cases h:f base=true
  ·rw[if_pos h,show (1+2*fX f (base+1) k)%2=1 by omega,show (1+2*fX f (base+1) k)/2=fX f (base+1) k by omega]
  ·rw[if_neg h,show (0+2*fX f (base+1) k)%2=0 by omega,show (0+2*fX f (base+1) k)/2=fX f (base+1) k by omega]
def bitOf (l:List Bool) (i:Nat):Bool:=l.getD i false
theorem lI0 {l:List Bool} {i:Nat} (h:l.length<=i):bitOf l i=false:=by
 unfold bitOf;rw[Aa,An h];rfl
theorem xH (l:List Bool) (b:Bool) (i:Nat):bitOf (l++[b]) i=(bitOf l i||(decide (i=l.length)&&b)):=by
 unfold bitOf;rw[Aa,Aa];by_cases h:i<l.length
 ·rw[Bf h];simp[show ¬i=l.length by omega]
 ·by_cases h2:i=l.length
  ·subst h2;simp
  ·rw[An (by simp;omega),An (by omega)];simp[h2]
def pE (l:List Bool) (q:Nat):Nat:=fX (bitOf l) (64*q) 64
theorem qF (l:List Bool) (q:Nat):pE l q<18446744073709551616:=kO _ _ 64
theorem iT1 (q:Nat):pE [] q=0:=by
 symm
 exact iT (As _) (λt _=>by simp[bitOf])
theorem vG0 (l:List Bool) (q:Nat):pE (l++[false]) q=pE l q:=by
 apply lI
 intro t _;rw[xH];simp
theorem dC1 {l:List Bool} {q s:Nat} (hq:l.length=64*q+s) :
  pE (l++[true]) q=pE l q|||(1<<<s)%18446744073709551616:=by
 symm
 apply iT
 ·exact Aw (qF l q) (Ap _ (by decide))
 ·intro t ht
  rw[Bd,xH,pE,dU,hq,show 18446744073709551616=2^64 from rfl,Af,Nat.one_shiftLeft,Br]
  by_cases h:s=t
  ·subst h;simp[ht]
  ·simp[ht,h,show ¬t=s by omega]
theorem zN0 {l:List Bool} {b:Bool} {q s r:Nat} (hs:s<64) (hq:l.length=64*q+s) (hr:r≠q):pE (l++[b]) r=pE l r:=by
 apply lI
 intro t ht;rw[xH];simp[show ¬64*r+t=l.length by omega]
def eK (l:List Bool) (i:Nat):Nat:=tP (bitOf l) 0 i
theorem fK0 (l:List Bool) (q:Nat):eK l (64*(q+1))=eK l (64*q)+cR0 2 64 (pE l q):=by
 unfold eK pE;rw[bZ0,show 64*(q+1)=64*q+64 by omega,zD,Ax]
theorem gK (l:List Bool) (i:Nat):eK l (i+1)=eK l i+(if bitOf l i then 1 else 0):=by
 unfold eK;rw[tP,Ax]
theorem dI1 (f:Nat->Bool) (base:Nat):∀k,tP f base k<=k
 | 0=>Ae _
 | k+1=>by
  have:=dI1 f base k
  rw[tP];split<;>omega
theorem oV (l:List Bool) (i:Nat):eK l i<=i:=dI1 _ _ _
theorem kK0 (f:Nat->Bool) (base:Nat):∀k,(∀t,t<k->f (base+t)=false)->tP f base k=0
 | 0,_=>rfl
 | k+1,h=>by rw[tP,kK0 f base k (λt ht=>h t (by omega)),h k (by omega)];simp
def nK (l:List Bool):List Nat:=(Be ((l.length+63)/64)).map (pE l)
def vV (l:List Bool):List Nat:=(Be ((l.length+511)/512)).map λg=>eK l (512*g)
def pH (l:List Bool):List UInt8:=leB 4 l.length++((nK l).map (leB 8)).flatten++((vV l).map (leB 4)).flatten
theorem mN (k:Nat):∀(l:List Nat),((l.map (leB k)).flatten).length=k*l.length
 | []=>by simp
 | a::l=>by
  have:=mN k l
  simp only[Bi,Bh,At,Bk,this,bM];rw[Ck];omega
theorem oT (l:List Bool):(pH l).length=4+8*((l.length+63)/64)+4*((l.length+511)/512):=by
 unfold pH nK vV;rw[At,At,bM,mN,mN];simp
def rD0 (r:Nat):Nat:=if r%2=1 then r/2 ^^^ 3988292384 else r/2
def crc4 (r:Nat):Nat:=rD0 (rD0 (rD0 (rD0 r)))
def eM1 (r:Nat):Nat:=crc4 (crc4 r)
def sL:Nat->List UInt8->Nat
 | r,[]=>r
 | r,c::l=>sL (eM1 (r ^^^ c.toNat)) l
def crcSum (l:List UInt8):Nat:=sL 4294967295 l ^^^ 4294967295
theorem kE1 (a b:Nat):(a ^^^ b)%2=1↔(a%2+b%2)%2=1:=by
 have h:=Bb a b 0;simp only[Nat.testBit_zero]at h;rcases Ah a with ha|ha<;>rcases Ah b with hb|hb<;>simp[ha,hb]at h ⊢ <;> omega
theorem kH1 (a b:Nat):(a ^^^ b)/2=a/2 ^^^ b/2:=by
 apply Ad
 intro i;rw[Bc,Bb,Bb,Bc,Bc]
theorem zG (a b:Nat):rD0 (a ^^^ b)=rD0 a ^^^ rD0 b:=by
 unfold rD0;rw[kH1];have h:=kE1 a b;rcases Ah a with ha|ha<;>rcases Ah b with hb|hb
 ·rw[if_neg (by rw[h];omega),if_neg (by omega),if_neg (by omega)]
 ·rw[if_pos (by rw[h];omega),if_neg (by omega),if_pos (by omega),Az]
 ·rw[if_pos (by rw[h];omega),if_pos (by omega),if_neg (by omega),Az,Az,Ch (b/2)]
 ·rw[if_neg (by rw[h];omega),if_pos (by omega),if_pos (by omega)]
  rw[Az,Ch 3988292384,Az (b/2),Nat.xor_self,Nat.xor_zero]
theorem zY (a:Nat):rD0 (2*a)=a:=by
 unfold rD0;rw[if_neg (by omega)];omega
theorem gR0 (a b:Nat):crc4 (a ^^^ b)=crc4 a ^^^ crc4 b:=by
 unfold crc4;rw[zG,zG,zG,zG]
theorem oA1 (a:Nat):crc4 (16*a)=a:=by
 unfold crc4;rw[show 16*a=2*(2*(2*(2*a))) by omega,zY,zY,zY,zY]
theorem nT1 (r:Nat):r=16*(r/16) ^^^ r%16:=by
 apply Ad
 intro i;rw[Bb,show 16=2^4 from rfl,Af,Nat.testBit_two_pow_mul,Nat.testBit_div_two_pow]
 by_cases h:i<4
 ·have h2:¬4<=i:=by omega
  simp[h,h2]
 ·have h2:4<=i:=by omega
  rw[show i-4+4=i by omega]
  simp[h,h2]
def kW:List Nat:=[0,498536548,997073096,651767980,1994146192,1802195444,1303535960,1342533948,3988292384,4027552580,3604390888,3412177804,2607071920,2262029012,2685067896,3183342108]
theorem wI0:∀i:Fin 16,kW[i.val]?=some (crc4 i.val):=by decide +kernel
theorem eE0 (r:Nat):∃q,kW[r%16]?=some q/\crc4 r=r/16 ^^^ q:=by
 refine⟨_,wI0 ⟨r%16,Ap _ (by decide)⟩,?_⟩;have h:crc4 r=crc4 (16*(r/16) ^^^ r%16):=congrArg crc4 (nT1 r);rw[h,gR0,oA1]
theorem mW {r:Nat} (h:r<4294967296):rD0 r<4294967296:=by
 unfold rD0;split
 ·exact Bs (n:=32) (by omega) (by decide)
 ·omega
theorem jD {r:Nat} (h:r<4294967296):crc4 r<4294967296:=mW (mW (mW (mW h)))
theorem zP:∀(l:List UInt8) {r:Nat},r<4294967296->sL r l<4294967296
 | [],_,h=>h
 | c::l,r,h=>zP l (jD (jD (Bs (n:=32) h (by have:=c.toNat_lt;omega))))
theorem fV0:∀(l:List UInt8) (r:Nat) (c:UInt8),sL r (l++[c])=eM1 (sL r l ^^^ c.toNat)
 | [],_,_=>rfl
 | a::l,r,c=>by
  rw[Bw];exact fV0 l _ c
theorem wR0 {v s t:Nat} (ht:t<64):((v<<<s)%18446744073709551616).testBit t=(decide (s<=t)&&v.testBit (t-s)):=by
 rw[show 18446744073709551616=2^64 from rfl,Af,Bq]
 simp[ht]
theorem eY0 {f g:Nat->Bool} {a b:Nat}:∀k,(∀t,t<k->f (a+t)=g (b+t))->tP f a k=tP g b k
 | 0,_=>rfl
 | k+1,h=>by rw[tP,tP,eY0 k (λt ht=>h t (by omega)),h k (by omega)]
theorem cI1 (l:List Bool) (q s:Nat) (hs:s<64):eK l (64*q)+cR0 2 64 ((pE l q<<<(63-s))%18446744073709551616)=eK l (64*q+s+1):=by
 have h1:(pE l q<<<(63-s))%18446744073709551616=fX (λj=>decide (63-s<=j)&&bitOf l (64*q+(j-(63-s)))) 0 64:=by
  apply iT
  ·exact Ap _ (by decide)
  ·intro t ht
   rw[wR0 ht,pE,dU,Ax];by_cases h:63-s<=t
   ·simp[h,show t-(63-s)<64 by omega]
   ·simp[h]
 obtain⟨f,hf⟩:∃f:Nat->Bool,f=λj=>decide (63-s<=j)&&bitOf l (64*q+(j-(63-s))):=⟨_,rfl⟩;rw[h1,<-hf,bZ0];have h2:tP f 0 64=tP f 0 ((63-s)+(s+1)):=congrArg (tP f 0) (by omega);have h3:=zD f 0 (63-s) (s+1);have h4:tP f 0 (63-s)=0:=kK0 _ 0 (63-s) (λt ht=>by rw[hf];simp;omega)
 have h5:tP f (0+(63-s)) (s+1)=tP (bitOf l) (64*q) (s+1):=by
  apply eY0
  intro t _;rw[hf];simp
 have h6:=zD (bitOf l) 0 (64*q) (s+1);unfold eK;rw[Ax]at h6;rw[h2,h3,h4,h5,Ax,show 64*q+s+1=64*q+(s+1) by omega,h6]
def kD (l:List Bool) (b:Bool) (i:Nat):Nat:=if b then eK l i else i-eK l i
theorem rK (p:Nat->Bool) (j:Nat):∀n,(∀i,i<n->p i=decide (i<j))->(Be n).countP p=min j n
 | 0,_=>by simp
 | n+1,h=>by
  rw[Bz,List.countP_append,rK p j n (λi hi=>h i (by omega)),List.countP_singleton,h n (by omega)];by_cases hn:n<j
  ·simp[hn];omega
  ·simp[hn];omega
theorem wV (l:List Bool) (b:Bool) (i:Nat):kD l b (i+1)=kD l b i+(if bitOf l i=b then 1 else 0):=by
 have h1:=gK l i;have h2:=oV l i;cases b<;>cases h:bitOf l i<;>simp[kD,h]at h1 ⊢ <;> omega
theorem rM (l:List Bool) (b:Bool) {i j:Nat} (h:i<=j):kD l b i<=kD l b j:=by
 induction j with
 | zero=>rw[show i=0 by omega];exact Ae _
 | succ j ih =>
  by_cases uu:i=j+1
  ·rw[uu];exact Ae _
  ·rw[wV]
   exact Nat.le_trans (ih (by omega)) (Nat.le_add_right _ _)
theorem pC1 (l:List Bool) (b:Bool) {j k n:Nat} (hj:j<n) (hb:bitOf l j=b) (hk:kD l b j=k):(Be n).countP (λi => !decide (k<kD l b (i+1)))=j:=by
 have hs:kD l b (j+1)=k+1:=by rw[wV,hk,hb];simp
 rw[rK _ j n (λi _=>?_)]
 ·omega
 ·by_cases hi:i<j
  ·have:=rM l b (show i+1<=j by omega)
   simp[hi];omega
  ·have:=rM l b (show j+1<=i+1 by omega)
   simp[hi];omega
def zI:List UInt8->Nat
 | []=>0
 | c::b=>c.toNat+256*zI b
theorem bT0:∀(b:List UInt8) (c:UInt8),zI (b++[c])=zI b+c.toNat*256^b.length
 | [],c=>by simp[zI]
 | d::b,c=>by
  rw[Bw,zI,zI,bT0 b c,Bk,Aq,Ck,Cc];congr 2
  rw[<-Cd,Au 256,Cd,Au 256]
theorem qS0:∀(b:List UInt8),zI b<256^b.length
 | []=>by simp[zI]
 | c::b=>by
  have h:=qS0 b;have hc:=c.toNat_lt;rw[zI,Bk,Aq];omega
theorem sS0 {b:List UInt8} (h:b.length<=8):zI b<18446744073709551616 :=
 Ak (qS0 b) (by
  have:256^b.length<=256^8:=Aj (by decide) h
  exact this)
theorem tV:∀(k n:Nat),zI (leB k n)=n%256^k
 | 0,n=>by simp[leB,zI,Nat.mod_one]
 | k+1,n=>by
  rw[gA1,zI,tV k (n/256),Aq,Au (256^k) 256,Nat.mod_mul];simp
theorem mW1 {b:List UInt8} {c:UInt8} (h:b.length<8):zI b|||(c.toNat<<<(8*b.length))%18446744073709551616=zI (b++[c]):=by
 have h1:=qS0 b;have e:256^b.length=2^(8*b.length):=by rw[Nat.pow_mul]
 rw[e]at h1;have hs:=sS0 (b:=b++[c]) (by simp;omega);rw[bT0,e]at hs;rw[bT0,e,<-By,Bj (by rw[By];omega),Nat.or_comm,<-Nat.shiftLeft_add_eq_or_of_lt h1,Ce]
theorem fB0 (s:Nat):∀(l:List Nat) (k n:Nat) (t:List UInt8),l[k]?=some n->(((l.map (leB s)).flatten++t).drop (s*k)).take s=leB s n
 | [],k,n,t,h=>by simp at h
 | m::l,0,n,t,h=>by
  obtain rfl:m=n:=by simpa using h
  rw[Nat.mul_zero,List.drop_zero,Bi,Bh,Ay,Ba (by rw[bM];exact Ae _),Bn (by rw[bM];exact Ae _)]
 | m::l,k+1,n,t,h=>by
  rw[Bi,Bh,Ay,List.drop_append,bM,show s*(k+1)-s=s*k by rw[Ci];omega,List.drop_eq_nil_of_le (by rw[bM,Ci];omega),List.nil_append]
  exact fB0 s l k n t (by simpa using h)
theorem aP1 (l:List Bool):(pH l).take 4=leB 4 l.length:=by
 unfold pH;rw[Ay,Ba (by rw[bM];exact Ae _),Bn (by rw[bM];exact Ae _)]
theorem dM1 {l:List Bool} {k:Nat} (h:k<(l.length+63)/64):((pH l).drop (4+8*k)).take 8=leB 8 (pE l k):=by
 unfold pH;rw[Ay,<-List.drop_drop,List.drop_left' (bM 4 _)];exact fB0 8 (nK l) k _ _ (by unfold nK;rw[List.getElem?_map,List.getElem?_range h];rfl)
theorem gD1 {l:List Bool} {q:Nat} (h:l.length<=64*q+64) (h2:64*q<l.length) (h3:l.length%64≠0):pE l q/2^(l.length%64)=0:=by
 rw[<-Ab];apply Ad
 intro t;rw[Al,pE,dU,Bv];by_cases ht:l.length%64+t<64
 ·rw[lI0 (by omega)];simp
 ·simp[ht]
theorem kD1 (l:List Bool) (i:Nat):(pE l (i/64)>>>(i%64))&&&1=if bitOf l i then 1 else 0:=by
 apply Ad
 intro t;rw[Bo,Al,pE,dU]
 cases t with
 | zero =>
  rw[show 64*(i/64)+(i%64+0)=i by omega]
  cases bitOf l i<;>simp<;>omega
 | succ t =>
  have h1:Nat.testBit 1 (t+1)=false:=by rw[Nat.testBit_succ];simp
  cases bitOf l i<;>simp[h1]
end
end Go.Proofs.YtheiocndipepaaaGreatDoor
