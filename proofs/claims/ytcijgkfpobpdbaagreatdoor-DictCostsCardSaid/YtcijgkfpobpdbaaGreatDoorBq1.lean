/- The texts BitsP PackP PopP VecP CrcP RnkP SelP BvDP, one behind the other. -/
import Derived.Test.YtcijgkfpobpdbaaGreatDoorRows
open List renaming getD_eq_getElem?_getD → Aa,getElem?_eq_none → An,length_append → At,append_assoc → Ay,take_append_of_le_length → Ba,range → Be,getElem?_append_left → Bf,flatten_cons → Bh,map_cons → Bi,length_cons → Bk,take_of_length_le → Bn,cons_append → Bw,range_succ → Bz
open Nat renaming shiftRight_eq_div_pow → Ab,and_two_pow_sub_one_eq_mod → Ac,eq_of_testBit_eq → Ad,le_refl → Ae,testBit_mod_two_pow → Af,lt_of_le_of_lt → Ag,mod_two_eq_zero_or_one → Ah,mod_add_div → Ai,pow_le_pow_right → Aj,lt_of_lt_of_le → Ak,testBit_shiftRight → Al,reducePow → Am,testBit_two_pow_mul_add → Ao,mod_lt → Ap,pow_succ → Aq,and_le_right → Ar,two_pow_pos → As,mul_comm → Au,testBit_lt_two_pow → Av,or_lt_two_pow → Aw,zero_add → Ax,xor_assoc → Az,testBit_xor → Bb,testBit_div_two → Bc,testBit_or → Bd,mod_eq_of_lt → Bj,div_div_eq_div_mul → Bl,testBit_and → Bo,div_le_self → Bp,testBit_shiftLeft → Bq,testBit_two_pow → Br,xor_lt_two_pow → Bs,lt_succ_of_lt → Bt,lt_trans → Bu,zero_testBit → Bv,shiftLeft_eq → By,add_le_add → Ca,add_lt_add → Cb,add_assoc → Cc,mul_assoc → Cd,add_comm → Ce,add_zero → Cf,pow_zero → Cg,xor_comm → Ch,mul_succ → Ci,log2_lt → Cj,mul_add → Ck
open UInt8 renaming ofNat → Bg
namespace Go.Proofs.YtcijgkfpobpdbaaGreatDoor
section
open Go
def fM (f:Nat->Bool) (base:Nat):Nat->Nat
 | 0=>0
 | k+1=>fM f base k+(if f (base+k) then 2^k else 0)
theorem kM (f:Nat->Bool) (base:Nat):∀k,fM f base k<2^k
 | 0=>by simp[fM]
 | k+1=>by
  have:=kM f base k
  unfold fM;rw[Aq];split<;>omega
theorem dM (f:Nat->Bool) (base:Nat):∀k t,(fM f base k).testBit t=(decide (t<k)&&f (base+t))
 | 0,t=>by simp[fM]
 | k+1,t=>by
  have ae:=kM f base k;unfold fM;by_cases hf:f (base+k)=true
  ·rw[if_pos hf,Ce,<-Nat.one_mul (2^k),Au 1,Nat.two_pow_add_eq_or_of_lt ae,Bd,dM f base k t,Nat.mul_one,Br]
   by_cases h1:t<k
   ·simp[h1,Bt h1,show ¬k=t by omega]
   ·by_cases h2:t=k
    ·subst h2;simp[hf]
    ·simp[h1,show ¬k=t by omega,show ¬t<k+1 by omega]
  ·have hf2:f (base+k)=false:=by simpa using hf
   rw[if_neg hf,Cf,dM f base k t];by_cases h1:t<k
   ·simp[h1,Bt h1]
   ·by_cases h2:t=k
    ·subst h2;simp[hf2]
    ·simp[h1,show ¬t<k+1 by omega]
theorem iK {f:Nat->Bool} {base k n:Nat} (hn:n<2^k) (h:∀t,t<k->n.testBit t=f (base+t)):n=fM f base k:=by
 apply Ad
 intro t;rw[dM];by_cases ht:t<k
 ·rw[h t ht];simp[ht]
 ·simp only[ht,decide_false,Bool.false_and]
  exact Av (Ak hn (Aj (by decide) (by omega)))
theorem lT {f g:Nat->Bool} {base base' k:Nat} (h:∀t,t<k->f (base+t)=g (base'+t)):fM f base k=fM g base' k:=by
 apply iK (kM _ _ _)
 intro t ht;rw[dM,h t ht];simp[ht]
def leB (k n:Nat):List UInt8:=(Be k).map λi=>Bg (n/256^i)
theorem bM (k n:Nat):(leB k n).length=k:=by simp[leB]
theorem eK1 (k n:Nat):leB (k+1) n=Bg n::leB k (n/256):=by
 unfold leB;rw[List.range_succ_eq_map,Bi,List.map_map];simp only[Cg,Nat.div_one,List.cons.injEq,true_and];apply List.map_congr_left
 intro i _;simp only[Function.comp];rw[Aq,Au,<-Bl]
theorem dI1 (k n:Nat):leB (k+1) n=leB k n++[Bg (n/256^k)]:=by
 unfold leB;rw[Bz,List.map_append];rfl
def bitLen (n:Nat):Nat:=if n=0 then 0 else n.log2+1
theorem kK0 {n w:Nat}:bitLen n<=w↔n<2^w:=by
 unfold bitLen;by_cases h:n=0
 ·subst h
  simp only[if_true];exact⟨λ_=>As w,λ_=>Nat.zero_le _⟩
 ·rw[if_neg h]
  constructor
  ·intro h1
   exact(Cj h).1 (by omega)
  ·intro h1
   have:=(Cj h).2 h1
   omega
theorem nT1 {a b w:Nat}:a|||b<2^w↔a<2^w/\b<2^w :=
 ⟨λh=>⟨Ag Nat.left_le_or h,Ag Nat.right_le_or h⟩,λh=>Aw h.1 h.2⟩
def cS0 (l:List Nat):Nat:=l.foldl (· ||| ·) 0
def oX (l:List Nat):Nat:=bitLen (cS0 l)
theorem tA0 (l:List Nat) (n:Nat):cS0 (l++[n])=cS0 l|||n:=by simp[cS0]
theorem pZ0 {w:Nat}:∀ {l:List Nat},cS0 l<2^w↔∀n∈l,n<2^w:=by
 have key:∀(l:List Nat) (a:Nat),l.foldl (· ||| ·) a<2^w↔a<2^w/\∀n∈l,n<2^w:=by
  intro l
  induction l with
  | nil=>intro a;simp
  | cons b l ih =>
   intro a;rw[List.foldl_cons,ih,nT1];simp only[List.mem_cons,forall_eq_or_imp,and_assoc]
 intro l;unfold cS0;rw[key];exact⟨λh=>h.2,λh=>⟨As w,h⟩⟩
theorem aW1 {l:List Nat} {n:Nat} (h:n∈l):n<2^oX l:=pZ0.1 (kK0.1 (Ae _)) n h
theorem oK {l:List Nat} {w:Nat}:oX l<=w↔∀n∈l,n<2^w:=by unfold oX; rw[kK0,pZ0]
def bitAt (l:List Nat) (w pos:Nat):Bool:=(l.getD (pos/w) 0).testBit (pos%w)
theorem xZ0 (w pos:Nat):bitAt [] w pos=false:=by simp[bitAt]
theorem zP {l:List Nat} {w pos:Nat} (hw:0<w) (h:l.length*w<=pos):bitAt l w pos=false:=by
 unfold bitAt
 have:l.length<=pos/w:=(Nat.le_div_iff_mul_le hw).2 h
 rw[Aa,An this];simp
theorem vF {l:List Nat} {w v:Nat} (hw:0<w) (hv:v<2^w) (pos:Nat) :
  bitAt (l++[v]) w pos=(bitAt l w pos||(decide (l.length*w<=pos)&&v.testBit (pos-l.length*w))):=by
 by_cases h:pos<l.length*w
 ·have h1:pos/w<l.length:=(Nat.div_lt_iff_lt_mul hw).2 h
  unfold bitAt;rw[Aa,Bf h1,<-Aa];simp[show ¬l.length*w<=pos by omega]
 ·have h0:l.length*w<=pos:=by omega
  rw[zP hw h0];simp only[h0,decide_true,Bool.true_and,Bool.false_or];by_cases h2:pos<(l.length+1)*w
  ·have h3:pos/w=l.length:=by
    apply Nat.div_eq_of_lt_le
    ·exact h0
    ·exact h2
   have h4:pos%w=pos-l.length*w:=by
    have:=Nat.div_add_mod pos w
    rw[h3,Au]at this;omega
   unfold bitAt;rw[h3,h4,Aa,List.getElem?_append_right (Ae _),Nat.sub_self];rfl
  ·have h5:(l++[v]).length*w<=pos:=by rw[At];simpa using Nat.le_of_not_lt h2
   rw[zP hw h5];symm
   apply Av
   refine Ak hv (Aj (by decide) ?_);rw[Nat.add_mul]at h2;omega
def cT0 (l:List Nat):List UInt8:=(Be ((l.length*oX l+7)/8)).map λj=>Bg (fM (bitAt l (oX l)) (8*j) 8)
def packE (l:List Nat):List UInt8:=leB 4 l.length++[Bg (oX l)]++cT0 l
def iA (l:List Nat) (w q:Nat):Nat:=fM (bitAt l w) (64*q) 64
theorem wO0 (w q:Nat):iA [] w q=0:=by
 symm
 exact iK (As _) (λt _=>by rw[xZ0];simp)
theorem oC (l:List Nat) (w q:Nat):iA l w q<18446744073709551616:=kM _ _ 64
theorem gP0 {v s t:Nat} (ht:t<64):((v<<<s)%18446744073709551616).testBit t=(decide (s<=t)&&v.testBit (t-s)):=by
 rw[show 18446744073709551616=2^64 from rfl,Af,Bq]
 simp[ht]
theorem jB0 {l:List Nat} {w v q s:Nat} (hw:0<w) (hv:v<2^w) (hq:l.length*w=64*q+s) :
  iA (l++[v]) w q=iA l w q|||(v<<<s)%18446744073709551616:=by
 symm
 apply iK
 ·exact Aw (oC l w q) (Ap _ (by decide))
 ·intro t ht
  rw[Bd,gP0 ht,vF hw hv,iA,dM,hq];by_cases h:s<=t
  ·simp[ht,h,show 64*q+t-(64*q+s)=t-s by omega]
  ·simp[ht,h]
theorem uM0 {l:List Nat} {w v q s:Nat} (hw:0<w) (hv:v<2^w) (ach:w<=64) (hs:s<64) (hq:l.length*w=64*q+s) :
  iA (l++[v]) w (q+1)=iA l w (q+1)|||v>>>(64-s):=by
 symm
 apply iK
 ·refine Aw (oC l w (q+1)) ?_
  refine Ag (Nat.shiftRight_le v _) (Ak hv (Aj (by decide) ach))
 ·intro t ht
  rw[Bd,Al,vF hw hv,iA,dM,hq];simp[ht,show 64*q+s<=64*(q+1)+t by omega,show 64*(q+1)+t-(64*q+s)=64-s+t by omega]
theorem eB0 {l:List Nat} {w v q s r:Nat} (hw:0<w) (hv:v<2^w) (hs:s<64) (hq:l.length*w=64*q+s)
  (hr:r≠q) (cz:r=q+1->s+w<=64) (ach:w<=64):iA (l++[v]) w r=iA l w r:=by
 apply lT
 intro t ht;rw[vF hw hv,hq];by_cases h:64*q+s<=64*r+t
 ·have:v.testBit (64*r+t-(64*q+s))=false:=by
   apply Av
   refine Ak hv (Aj (by decide) ?_);by_cases h1:r=q+1
   ·have:=cz h1;omega
   ·have:q+2<=r:=by omega
    omega
  simp[this]
 ·simp[h]
theorem eQ0 (l:List Nat) (q:Nat) (h:∀n∈l,n<2^0):iA l 0 q=0:=by
 symm
 refine iK (As _) (λt _=>?_);unfold bitAt;simp only[Nat.div_zero,Nat.mod_zero,Bv]
 cases l with
 | nil=>simp
 | cons a l =>
  have:=h a (by simp)
  have:a=0:=by omega
  subst this;simp
theorem tP0 (l:List Nat) (w i:Nat):(iA l w (i/8)>>>(i%8*8))%256=fM (bitAt l w) (8*i) 8:=by
 apply iK
 ·exact Ap _ (by decide)
 ·intro t ht
  rw[show 256=2^8 from rfl,Af,Al,iA,dM]
  have h1:i%8*8+t<64:=by omega
  rw[show 64*(i/8)+(i%8*8+t)=8*i+t by omega]
  simp[ht,h1]
theorem cH0 (l:List Nat):(packE l).length=5+(l.length*oX l+7)/8:=by
 unfold packE cT0;simp[bM];omega
def zJ (B:Nat):Nat->Nat->Nat
 | 0,_=>0
 | n+1,x=>x%B+zJ B n (x/B)
def cZ1 (B M:Nat):Nat->Nat->Prop
 | 0,_=>True
 | n+1,x=>x%B<=M/\cZ1 B M n (x/B)
def gZ (B d:Nat):Nat->Nat
 | 0=>0
 | n+1=>B*gZ B d n+d
theorem pN {k a b r s:Nat} (hr:r<2^k) (hs:s<2^k):(2^k*a+r)&&&(2^k*b+s)=2^k*(a&&&b)+(r&&&s):=by
 apply Ad
 intro i;have hrs:r&&&s<2^k:=Ag Nat.and_le_left hr;rw[Bo,Ao a hr,Ao b hs,Ao _ hrs,Bo];by_cases h:i<k
 ·simp[h]
 ·simp[h]
theorem oB1 (r:Nat):r&&&1=r%2:=Ac r 1
theorem nZ1 (r:Nat):r&&&3=r%4:=Ac r 2
theorem nO1 (r:Nat):r&&&15=r%16:=Ac r 4
theorem iF1 (r:Nat):r&&&127=r%128:=Ac r 7
def cP1 (m x:Nat):Nat:=((x>>>1)&&&m)+(x&&&m)
theorem cF1 (m x:Nat):cP1 (4*m+1) x=4*cP1 m (x/4)+(x%2+x/2%2):=by
 unfold cP1;have h1:=pN (k:=2) (a:=x/4) (b:=m) (r:=x%4) (s:=1) (Ap _ (by decide)) (by decide);have h2:=pN (k:=2) (a:=x/2/4) (b:=m) (r:=x/2%4) (s:=1) (Ap _ (by decide)) (by decide);rw[oB1]at h1 h2;simp only[Am]at h1 h2;rw[show 4*(x/4)+x%4=x by omega]at h1
 rw[show 4*(x/2/4)+x/2%4=x/2 by omega]at h2
 rw[Ab,Ab,Nat.pow_one,h1,h2,show x/2/4=x/4/2 by omega]
 omega
theorem xT0:∀n x,zJ 4 n (cP1 (gZ 4 1 n) x)=zJ 2 (2*n) x/\cZ1 4 2 n (cP1 (gZ 4 1 n) x)
 | 0,x=>⟨rfl,trivial⟩
 | n+1,x=>by
  have ih:=xT0 n (x/4);have hs:=cF1 (gZ 4 1 n) x;rw[show 4*gZ 4 1 n+1=gZ 4 1 (n+1) from rfl]at hs
  refine⟨?_,?_⟩
  ·rw[hs,show 2*(n+1)=2*n+1+1 by omega]
   simp only[zJ];rw[show (4*cP1 (gZ 4 1 n) (x/4)+(x%2+x/2%2))/4=cP1 (gZ 4 1 n) (x/4) by omega,ih.1,show x/2/2=x/4 by omega]
   omega
  ·rw[hs]
   refine⟨by omega,?_⟩;rw[show (4*cP1 (gZ 4 1 n) (x/4)+(x%2+x/2%2))/4=cP1 (gZ 4 1 n) (x/4) by omega]
   exact ih.2
def cR1 (m x:Nat):Nat:=((x>>>2)&&&m)+(x&&&m)
theorem wT0 (m x:Nat):cR1 (16*m+3) x=16*cR1 m (x/16)+(x%4+x/4%4):=by
 unfold cR1;have h1:=pN (k:=4) (a:=x/16) (b:=m) (r:=x%16) (s:=3) (Ap _ (by decide)) (by decide);have h2:=pN (k:=4) (a:=x/4/16) (b:=m) (r:=x/4%16) (s:=3) (Ap _ (by decide)) (by decide);rw[nZ1]at h1 h2;simp only[Am]at h1 h2;rw[show 16*(x/16)+x%16=x by omega]at h1
 rw[show 16*(x/4/16)+x/4%16=x/4 by omega]at h2
 simp only[Ab,Am];rw[h1,h2,show x/4/16=x/16/4 by omega]
 omega
theorem zZ0:∀n x,cZ1 4 2 (2*n) x->zJ 16 n (cR1 (gZ 16 3 n) x)=zJ 4 (2*n) x/\cZ1 16 4 n (cR1 (gZ 16 3 n) x)
 | 0,x,_=>⟨rfl,trivial⟩
 | n+1,x,h=>by
  rw[show 2*(n+1)=2*n+1+1 by omega]at h ⊢
  simp only[cZ1]at h;rw[show x/4/4=x/16 by omega]at h
  have ih:=zZ0 n (x/16) h.2.2;have hs:=wT0 (gZ 16 3 n) x;rw[show 16*gZ 16 3 n+3=gZ 16 3 (n+1) from rfl]at hs
  refine⟨?_,?_⟩
  ·rw[hs]
   simp only[zJ];rw[show (16*cR1 (gZ 16 3 n) (x/16)+(x%4+x/4%4))/16=cR1 (gZ 16 3 n) (x/16) by omega,ih.1,show x/4/4=x/16 by omega]
   omega
  ·rw[hs]
   refine⟨by omega,?_⟩;rw[show (16*cR1 (gZ 16 3 n) (x/16)+(x%4+x/4%4))/16=cR1 (gZ 16 3 n) (x/16) by omega]
   exact ih.2
def cM1 (m x:Nat):Nat:=(x>>>4+x)&&&m
theorem zD0 (m x:Nat) (h0:x%16<=4) (h1:x/16%16<=4) (h2:x/256%16<=4):cM1 (256*m+15) x=256*cM1 m (x/256)+(x%16+x/16%16):=by
 unfold cM1
 have e1:x>>>4+x=256*((x/256)>>>4+x/256)+(16*(x/256%16)+x%256/16+x%256):=by
  simp only[Ab,Am];omega
 have h:=pN (k:=8) (a:=(x/256)>>>4+x/256) (b:=m) (r:=16*(x/256%16)+x%256/16+x%256) (s:=15) (by simp only[Am];omega) (by decide);rw[nO1]at h;simp only[Am]at h;rw[<-e1]at h;rw[h];omega
theorem wN0:∀n x,cZ1 16 4 (2*n) x->x<256^n->zJ 256 n (cM1 (gZ 256 15 n) x)=zJ 16 (2*n) x/\cZ1 256 8 n (cM1 (gZ 256 15 n) x)
 | 0,x,_,_=>⟨rfl,trivial⟩
 | n+1,x,h,hx=>by
  rw[show 2*(n+1)=2*n+1+1 by omega]at h ⊢
  simp only[cZ1]at h;rw[show x/16/16=x/256 by omega]at h
  have gq:x/256<256^n:=by rw[Aq]at hx;omega
  have ih:=wN0 n (x/256) h.2.2 gq
  have h3:x/256%16<=4:=by
   cases n with
   | zero=>simp only[Cg]at gq;omega
   | succ k =>
    have h4:=h.2.2;rw[show 2*(k+1)=2*k+1+1 by omega]at h4
    exact h4.1
  have hs:=zD0 (gZ 256 15 n) x h.1 h.2.1 h3;rw[show 256*gZ 256 15 n+15=gZ 256 15 (n+1) from rfl]at hs
  refine⟨?_,?_⟩
  ·rw[hs]
   simp only[zJ];rw[show (256*cM1 (gZ 256 15 n) (x/256)+(x%16+x/16%16))/256=cM1 (gZ 256 15 n) (x/256) by omega,ih.1,show x/16/16=x/256 by omega]
   omega
  ·rw[hs]
   refine⟨by omega,?_⟩;rw[show (256*cM1 (gZ 256 15 n) (x/256)+(x%16+x/16%16))/256=cM1 (gZ 256 15 n) (x/256) by omega]
   exact ih.2
theorem nU1:gZ 4 1 32=6148914691236517205:=by decide +kernel
theorem nI1:gZ 16 3 16=3689348814741910323:=by decide +kernel
theorem nN1:gZ 256 15 8=1085102592571150095:=by decide +kernel
theorem xG0 {lo B hi:Nat} (h:lo<B):(lo+B*hi)/B=hi:=by
 rw[Nat.add_mul_div_left _ _ (by omega),Nat.div_eq_of_lt h,Ax]
theorem kI1 {x b0 b1 b2 b3 b4 b5 b6 b7:Nat} (h0:b0<=8) (h1:b1<=8) (h2:b2<=8) (h3:b3<=8) (h4:b4<=8) (h5:b5<=8) (h6:b6<=8) (h7:b7<=8)
  (hX:x=b0+256*(b1+256*(b2+256*(b3+256*(b4+256*(b5+256*(b6+256*b7))))))) :
  ∃Y Z,x+x/256=Y/\Y+Y/65536=Z/\Y<18446744073709551616/\Z<18446744073709551616/\Z+Z/4294967296<18446744073709551616 /\
  (Z+Z/4294967296)%128=b0+(b1+(b2+(b3+(b4+(b5+(b6+b7)))))):=by
 have ki:x<1152921504606846976:=by omega
 have q1:x/256=b1+256*(b2+256*(b3+256*(b4+256*(b5+256*(b6+256*b7))))):=by rw[hX];exact xG0 (by omega)
 have hY:x+x/256=((b0+b1)+256*(b1+b2))+65536*((b2+b3)+256*(b3+b4)+65536*((b4+b5)+256*(b5+b6)+65536*((b6+b7)+256*b7))):=by rw[q1,hX];omega
 have hY0:x+x/256<2305843009213693952:=by
  have:=Bp x 256
  omega
 rw[hY]at hY0;refine⟨_,_,hY,rfl,?_⟩;clear hY q1 hX ki x;have q2:(((b0+b1)+256*(b1+b2))+65536*((b2+b3)+256*(b3+b4)+65536*((b4+b5)+256*(b5+b6)+65536*((b6+b7)+256*b7))))/65536=(b2+b3)+256*(b3+b4)+65536*((b4+b5)+256*(b5+b6)+65536*((b6+b7)+256*b7)):=xG0 (by omega);have hZ0:=Bp ((((b0+b1)+256*(b1+b2))+65536*((b2+b3)+256*(b3+b4)+65536*((b4+b5)+256*(b5+b6)+65536*((b6+b7)+256*b7))))) 65536;rw[q2]at hZ0 ⊢;refine⟨Bu hY0 (by decide),?_⟩;have hZ1:=Ag (Ca (Ae _) hZ0) (Cb hY0 hY0);clear hZ0 hY0;have hZ:(((b0+b1)+256*(b1+b2))+65536*((b2+b3)+256*(b3+b4)+65536*((b4+b5)+256*(b5+b6)+65536*((b6+b7)+256*b7))))+((b2+b3)+256*(b3+b4)+65536*((b4+b5)+256*(b5+b6)+65536*((b6+b7)+256*b7)))=((b0+b1+b2+b3)+128*(2*(b1+b2+b3+b4)+512*((b2+b3+b4+b5)+256*(b3+b4+b5+b6))))+4294967296*((b4+b5+b6+b7)+128*(2*(b5+b6+b7)+512*((b6+b7)+256*b7))):=by omega
 rw[hZ]at hZ1 ⊢;clear hZ q2;refine⟨Bu hZ1 (by decide),?_⟩;have q3:(((b0+b1+b2+b3)+128*(2*(b1+b2+b3+b4)+512*((b2+b3+b4+b5)+256*(b3+b4+b5+b6))))+4294967296*((b4+b5+b6+b7)+128*(2*(b5+b6+b7)+512*((b6+b7)+256*b7))))/4294967296=(b4+b5+b6+b7)+128*(2*(b5+b6+b7)+512*((b6+b7)+256*b7)):=xG0 (by omega);generalize hK:2*(b1+b2+b3+b4)+512*((b2+b3+b4+b5)+256*(b3+b4+b5+b6))=K at *;generalize hM:2*(b5+b6+b7)+512*((b6+b7)+256*b7)=M at *;refine⟨?_,?_⟩
 ·have:=Bp (b0+b1+b2+b3+128*K+4294967296*(b4+b5+b6+b7+128*M)) 4294967296
  exact Ag (Ca (Ae _) this) (Bu (Cb hZ1 hZ1) (by decide))
 ·rw[q3]
  clear q3 hZ1 hK hM;have e:b0+b1+b2+b3+128*K+4294967296*(b4+b5+b6+b7+128*M)+(b4+b5+b6+b7+128*M)=(b0+(b1+(b2+(b3+(b4+(b5+(b6+b7)))))))+128*(K+33554432*(b4+b5+b6+b7+128*M)+M):=by omega
  have hS:b0+(b1+(b2+(b3+(b4+(b5+(b6+b7))))))<128:=by omega
  rw[e,Nat.add_mul_mod_self_left];exact Bj hS
theorem nA1 {x x1 x2 x3:Nat} (h1:x1=((x>>>1)&&&6148914691236517205)+(x&&&6148914691236517205))
  (h2:x2=((x1>>>2)&&&3689348814741910323)+(x1&&&3689348814741910323)) (h3:x3=(x2>>>4+x2)&&&1085102592571150095) :
  x1<18446744073709551616/\x2<18446744073709551616/\x2>>>4+x2<18446744073709551616/\x3<18446744073709551616 /\
  ∃Y Z,x3+x3>>>8=Y/\Y+Y>>>16=Z/\Y<18446744073709551616/\Z<18446744073709551616/\Z+Z>>>32<18446744073709551616 /\
  (Z+Z>>>32)&&&127=zJ 2 64 x:=by
 have b1:(x>>>1)&&&6148914691236517205<=6148914691236517205:=Ar;have b2:x&&&6148914691236517205<=6148914691236517205:=Ar;have b3:(x1>>>2)&&&3689348814741910323<=3689348814741910323:=Ar;have b4:x1&&&3689348814741910323<=3689348814741910323:=Ar;have b5:x3<=1085102592571150095:=by rw[h3];exact Ar
 have b6:x2>>>4<=x2/16:=by rw[Ab];exact Ae _
 have a1:=xT0 32 x;rw[nU1,show cP1 6148914691236517205 x=x1 from h1.symm]at a1
 have a2:=zZ0 16 x1 a1.2;rw[nI1,show cR1 3689348814741910323 x1=x2 from h2.symm]at a2
 have gq:x2<18446744073709551616:=by omega
 have a3:=wN0 8 x2 a2.2 gq;rw[nN1,show cM1 1085102592571150095 x2=x3 from h3.symm]at a3
 obtain⟨s3,d3⟩:=a3;have hs:zJ 256 8 x3=zJ 2 64 x:=by rw[s3];exact a2.1.trans a1.1
 rw[<-hs];clear s3 a1 a2 hs;refine⟨by omega,gq,by omega,by omega,?_⟩;simp only[cZ1,and_true]at d3;obtain⟨c0,c1,c2,c3,c4,c5,c6,c7⟩:=d3;simp only[zJ,Cf,iF1,Ab,Am]
 have e7:x3/256/256/256/256/256/256/256%256=x3/256/256/256/256/256/256/256:=by
  apply Bj
  simp only[Bl];exact Nat.div_lt_of_lt_mul (by omega)
 have hX:x3=x3%256+256*(x3/256%256+256*(x3/256/256%256+256*(x3/256/256/256%256+256*(x3/256/256/256/256%256+256*(x3/256/256/256/256/256%256+256*(x3/256/256/256/256/256/256%256+256*(x3/256/256/256/256/256/256/256%256))))))):=by
  rw[e7,Ai,Ai,Ai,Ai,Ai,Ai,Ai]
 exact kI1 c0 c1 c2 c3 c4 c5 c6 c7 hX
def tP (f:Nat->Bool) (base:Nat):Nat->Nat
 | 0=>0
 | k+1=>tP f base k+(if f (base+k) then 1 else 0)
theorem dI0 (f:Nat->Bool) (base:Nat):∀k,tP f base (k+1)=(if f base then 1 else 0)+tP f (base+1) k
 | 0=>by simp[tP]
 | k+1=>by
  rw[tP,dI0 f base k,tP,show base+1+k=base+(k+1) by omega]
  omega
theorem yM (f:Nat->Bool) (base a:Nat):∀b,tP f base (a+b)=tP f base a+tP f (base+a) b
 | 0=>by simp[tP]
 | b+1=>by rw[show a+(b+1)=a+b+1 by omega,tP,yM f base a b,tP,Cc base];omega
theorem aK0 (f:Nat->Bool) (base:Nat):∀k,fM f base (k+1)=(if f base then 1 else 0)+2*fM f (base+1) k
 | 0=>by simp[fM]
 | k+1=>by
  rw[fM,aK0 f base k,fM,show base+1+k=base+(k+1) by omega,Aq]
  by_cases h:f (base+(k+1))=true
  ·rw[if_pos h,if_pos h];omega
  ·rw[if_neg h,if_neg h];omega
theorem bA0 (f:Nat->Bool):∀k base,zJ 2 k (fM f base k)=tP f base k
 | 0,_=>rfl
 | k+1,base=>by
  rw[dI0,<-bA0 f k (base+1),zJ,aK0];by_cases h:f base=true
  ·rw[if_pos h,show (1+2*fM f (base+1) k)%2=1 by omega,show (1+2*fM f (base+1) k)/2=fM f (base+1) k by omega]
  ·rw[if_neg h,show (0+2*fM f (base+1) k)%2=0 by omega,show (0+2*fM f (base+1) k)/2=fM f (base+1) k by omega]
def bitOf (l:List Bool) (i:Nat):Bool:=l.getD i false
theorem kD0 {l:List Bool} {i:Nat} (h:l.length<=i):bitOf l i=false:=by
 unfold bitOf;rw[Aa,An h];rfl
theorem vR (l:List Bool) (b:Bool) (i:Nat):bitOf (l++[b]) i=(bitOf l i||(decide (i=l.length)&&b)):=by
 unfold bitOf;rw[Aa,Aa];by_cases h:i<l.length
 ·rw[Bf h];simp[show ¬i=l.length by omega]
 ·by_cases h2:i=l.length
  ·subst h2;simp
  ·rw[An (by simp;omega),An (by omega)];simp[h2]
def oU (l:List Bool) (q:Nat):Nat:=fM (bitOf l) (64*q) 64
theorem pT (l:List Bool) (q:Nat):oU l q<18446744073709551616:=kM _ _ 64
theorem cW1 (q:Nat):oU [] q=0:=by
 symm
 exact iK (As _) (λt _=>by simp[bitOf])
theorem uG0 (l:List Bool) (q:Nat):oU (l++[false]) q=oU l q:=by
 apply lT
 intro t _;rw[vR];simp
theorem xW0 {l:List Bool} {q s:Nat} (hq:l.length=64*q+s) :
  oU (l++[true]) q=oU l q|||(1<<<s)%18446744073709551616:=by
 symm
 apply iK
 ·exact Aw (pT l q) (Ap _ (by decide))
 ·intro t ht
  rw[Bd,vR,oU,dM,hq,show 18446744073709551616=2^64 from rfl,Af,Nat.one_shiftLeft,Br]
  by_cases h:s=t
  ·subst h;simp[ht]
  ·simp[ht,h,show ¬t=s by omega]
theorem aO1 {l:List Bool} {b:Bool} {q s r:Nat} (hs:s<64) (hq:l.length=64*q+s) (hr:r≠q):oU (l++[b]) r=oU l r:=by
 apply lT
 intro t ht;rw[vR];simp[show ¬64*r+t=l.length by omega]
def eA (l:List Bool) (i:Nat):Nat:=tP (bitOf l) 0 i
theorem dN0 (l:List Bool) (q:Nat):eA l (64*(q+1))=eA l (64*q)+zJ 2 64 (oU l q):=by
 unfold eA oU;rw[bA0,show 64*(q+1)=64*q+64 by omega,yM,Ax]
theorem gE (l:List Bool) (i:Nat):eA l (i+1)=eA l i+(if bitOf l i then 1 else 0):=by
 unfold eA;rw[tP,Ax]
theorem bM1 (f:Nat->Bool) (base:Nat):∀k,tP f base k<=k
 | 0=>Ae _
 | k+1=>by
  have:=bM1 f base k
  rw[tP];split<;>omega
theorem nS (l:List Bool) (i:Nat):eA l i<=i:=bM1 _ _ _
theorem iT0 (f:Nat->Bool) (base:Nat):∀k,(∀t,t<k->f (base+t)=false)->tP f base k=0
 | 0,_=>rfl
 | k+1,h=>by rw[tP,iT0 f base k (λt ht=>h t (by omega)),h k (by omega)];simp
def nK (l:List Bool):List Nat:=(Be ((l.length+63)/64)).map (oU l)
def uZ (l:List Bool):List Nat:=(Be ((l.length+511)/512)).map λg=>eA l (512*g)
def oY (l:List Bool):List UInt8:=leB 4 l.length++((nK l).map (leB 8)).flatten++((uZ l).map (leB 4)).flatten
theorem mE (k:Nat):∀(l:List Nat),((l.map (leB k)).flatten).length=k*l.length
 | []=>by simp
 | a::l=>by
  have:=mE k l
  simp only[Bi,Bh,At,Bk,this,bM];rw[Ck];omega
theorem nZ (l:List Bool):(oY l).length=4+8*((l.length+63)/64)+4*((l.length+511)/512):=by
 unfold oY nK uZ;rw[At,At,bM,mE,mE];simp
def wG0 (r:Nat):Nat:=if r%2=1 then r/2 ^^^ 3988292384 else r/2
def crc4 (r:Nat):Nat:=wG0 (wG0 (wG0 (wG0 r)))
def nV1 (r:Nat):Nat:=crc4 (crc4 r)
def kI0:Nat->List UInt8->Nat
 | r,[]=>r
 | r,c::l=>kI0 (nV1 (r ^^^ c.toNat)) l
def crcSum (l:List UInt8):Nat:=kI0 4294967295 l ^^^ 4294967295
theorem gK1 (a b:Nat):(a ^^^ b)%2=1↔(a%2+b%2)%2=1:=by
 have h:=Bb a b 0;simp only[Nat.testBit_zero]at h;rcases Ah a with ha|ha<;>rcases Ah b with hb|hb<;>simp[ha,hb]at h ⊢ <;> omega
theorem gM1 (a b:Nat):(a ^^^ b)/2=a/2 ^^^ b/2:=by
 apply Ad
 intro i;rw[Bc,Bb,Bb,Bc,Bc]
theorem yW (a b:Nat):wG0 (a ^^^ b)=wG0 a ^^^ wG0 b:=by
 unfold wG0;rw[gM1];have h:=gK1 a b;rcases Ah a with ha|ha<;>rcases Ah b with hb|hb
 ·rw[if_neg (by rw[h];omega),if_neg (by omega),if_neg (by omega)]
 ·rw[if_pos (by rw[h];omega),if_neg (by omega),if_pos (by omega),Az]
 ·rw[if_pos (by rw[h];omega),if_pos (by omega),if_neg (by omega),Az,Az,Ch (b/2)]
 ·rw[if_neg (by rw[h];omega),if_pos (by omega),if_pos (by omega)]
  rw[Az,Ch 3988292384,Az (b/2),Nat.xor_self,Nat.xor_zero]
theorem yQ (a:Nat):wG0 (2*a)=a:=by
 unfold wG0;rw[if_neg (by omega)];omega
theorem gO1 (a b:Nat):crc4 (a ^^^ b)=crc4 a ^^^ crc4 b:=by
 unfold crc4;rw[yW,yW,yW,yW]
theorem jB1 (a:Nat):crc4 (16*a)=a:=by
 unfold crc4;rw[show 16*a=2*(2*(2*(2*a))) by omega,yQ,yQ,yQ,yQ]
theorem jQ1 (r:Nat):r=16*(r/16) ^^^ r%16:=by
 apply Ad
 intro i;rw[Bb,show 16=2^4 from rfl,Af,Nat.testBit_two_pow_mul,Nat.testBit_div_two_pow]
 by_cases h:i<4
 ·have h2:¬4<=i:=by omega
  simp[h,h2]
 ·have h2:4<=i:=by omega
  rw[show i-4+4=i by omega]
  simp[h,h2]
def kN:List Nat:=[0,498536548,997073096,651767980,1994146192,1802195444,1303535960,1342533948,3988292384,4027552580,3604390888,3412177804,2607071920,2262029012,2685067896,3183342108]
theorem vW0:∀i:Fin 16,kN[i.val]?=some (crc4 i.val):=by decide +kernel
theorem dH0 (r:Nat):∃q,kN[r%16]?=some q/\crc4 r=r/16 ^^^ q:=by
 refine⟨_,vW0 ⟨r%16,Ap _ (by decide)⟩,?_⟩;have h:crc4 r=crc4 (16*(r/16) ^^^ r%16):=congrArg crc4 (jQ1 r);rw[h,gO1,jB1]
theorem hQ0 {r:Nat} (h:r<4294967296):wG0 r<4294967296:=by
 unfold wG0;split
 ·exact Bs (n:=32) (by omega) (by decide)
 ·omega
theorem fR0 {r:Nat} (h:r<4294967296):crc4 r<4294967296:=hQ0 (hQ0 (hQ0 (hQ0 h)))
theorem pO0:∀(l:List UInt8) {r:Nat},r<4294967296->kI0 r l<4294967296
 | [],_,h=>h
 | c::l,r,h=>pO0 l (fR0 (fR0 (Bs (n:=32) h (by have:=c.toNat_lt;omega))))
theorem dM0:∀(l:List UInt8) (r:Nat) (c:UInt8),kI0 r (l++[c])=nV1 (kI0 r l ^^^ c.toNat)
 | [],_,_=>rfl
 | a::l,r,c=>by
  rw[Bw];exact dM0 l _ c
theorem vY0 {v s t:Nat} (ht:t<64):((v<<<s)%18446744073709551616).testBit t=(decide (s<=t)&&v.testBit (t-s)):=by
 rw[show 18446744073709551616=2^64 from rfl,Af,Bq]
 simp[ht]
theorem dO0 {f g:Nat->Bool} {a b:Nat}:∀k,(∀t,t<k->f (a+t)=g (b+t))->tP f a k=tP g b k
 | 0,_=>rfl
 | k+1,h=>by rw[tP,tP,dO0 k (λt ht=>h t (by omega)),h k (by omega)]
theorem bY1 (l:List Bool) (q s:Nat) (hs:s<64):eA l (64*q)+zJ 2 64 ((oU l q<<<(63-s))%18446744073709551616)=eA l (64*q+s+1):=by
 have h1:(oU l q<<<(63-s))%18446744073709551616=fM (λj=>decide (63-s<=j)&&bitOf l (64*q+(j-(63-s)))) 0 64:=by
  apply iK
  ·exact Ap _ (by decide)
  ·intro t ht
   rw[vY0 ht,oU,dM,Ax];by_cases h:63-s<=t
   ·simp[h,show t-(63-s)<64 by omega]
   ·simp[h]
 obtain⟨f,hf⟩:∃f:Nat->Bool,f=λj=>decide (63-s<=j)&&bitOf l (64*q+(j-(63-s))):=⟨_,rfl⟩;rw[h1,<-hf,bA0];have h2:tP f 0 64=tP f 0 ((63-s)+(s+1)):=congrArg (tP f 0) (by omega);have h3:=yM f 0 (63-s) (s+1);have h4:tP f 0 (63-s)=0:=iT0 _ 0 (63-s) (λt ht=>by rw[hf];simp;omega)
 have h5:tP f (0+(63-s)) (s+1)=tP (bitOf l) (64*q) (s+1):=by
  apply dO0
  intro t _;rw[hf];simp
 have h6:=yM (bitOf l) 0 (64*q) (s+1);unfold eA;rw[Ax]at h6;rw[h2,h3,h4,h5,Ax,show 64*q+s+1=64*q+(s+1) by omega,h6]
def jT (l:List Bool) (b:Bool) (i:Nat):Nat:=if b then eA l i else i-eA l i
theorem qV (p:Nat->Bool) (j:Nat):∀n,(∀i,i<n->p i=decide (i<j))->(Be n).countP p=min j n
 | 0,_=>by simp
 | n+1,h=>by
  rw[Bz,List.countP_append,qV p j n (λi hi=>h i (by omega)),List.countP_singleton,h n (by omega)];by_cases hn:n<j
  ·simp[hn];omega
  ·simp[hn];omega
theorem wH (l:List Bool) (b:Bool) (i:Nat):jT l b (i+1)=jT l b i+(if bitOf l i=b then 1 else 0):=by
 have h1:=gE l i;have h2:=nS l i;cases b<;>cases h:bitOf l i<;>simp[jT,h]at h1 ⊢ <;> omega
theorem qP (l:List Bool) (b:Bool) {i j:Nat} (h:i<=j):jT l b i<=jT l b j:=by
 induction j with
 | zero=>rw[show i=0 by omega];exact Ae _
 | succ j ih =>
  by_cases oe:i=j+1
  ·rw[oe];exact Ae _
  ·rw[wH]
   exact Nat.le_trans (ih (by omega)) (Nat.le_add_right _ _)
theorem mH1 (l:List Bool) (b:Bool) {j k n:Nat} (hj:j<n) (hb:bitOf l j=b) (hk:jT l b j=k):(Be n).countP (λi => !decide (k<jT l b (i+1)))=j:=by
 have hs:jT l b (j+1)=k+1:=by rw[wH,hk,hb];simp
 rw[qV _ j n (λi _=>?_)]
 ·omega
 ·by_cases hi:i<j
  ·have:=qP l b (show i+1<=j by omega)
   simp[hi];omega
  ·have:=qP l b (show j+1<=i+1 by omega)
   simp[hi];omega
def bK0:List UInt8->Nat
 | []=>0
 | c::b=>c.toNat+256*bK0 b
theorem zT:∀(b:List UInt8) (c:UInt8),bK0 (b++[c])=bK0 b+c.toNat*256^b.length
 | [],c=>by simp[bK0]
 | d::b,c=>by
  rw[Bw,bK0,bK0,zT b c,Bk,Aq,Ck,Cc];congr 2
  rw[<-Cd,Au 256,Cd,Au 256]
theorem mZ0:∀(b:List UInt8),bK0 b<256^b.length
 | []=>by simp[bK0]
 | c::b=>by
  have h:=mZ0 b;have hc:=c.toNat_lt;rw[bK0,Bk,Aq];omega
theorem rR0 {b:List UInt8} (h:b.length<=8):bK0 b<18446744073709551616 :=
 Ak (mZ0 b) (by
  have:256^b.length<=256^8:=Aj (by decide) h
  exact this)
theorem eZ0:∀(k n:Nat),bK0 (leB k n)=n%256^k
 | 0,n=>by simp[leB,bK0,Nat.mod_one]
 | k+1,n=>by
  rw[eK1,bK0,eZ0 k (n/256),Aq,Au (256^k) 256,Nat.mod_mul];simp
theorem kZ1 {b:List UInt8} {c:UInt8} (h:b.length<8):bK0 b|||(c.toNat<<<(8*b.length))%18446744073709551616=bK0 (b++[c]):=by
 have h1:=mZ0 b;have e:256^b.length=2^(8*b.length):=by rw[Nat.pow_mul]
 rw[e]at h1;have hs:=rR0 (b:=b++[c]) (by simp;omega);rw[zT,e]at hs;rw[zT,e,<-By,Bj (by rw[By];omega),Nat.or_comm,<-Nat.shiftLeft_add_eq_or_of_lt h1,Ce]
theorem eG0 (s:Nat):∀(l:List Nat) (k n:Nat) (t:List UInt8),l[k]?=some n->(((l.map (leB s)).flatten++t).drop (s*k)).take s=leB s n
 | [],k,n,t,h=>by simp at h
 | m::l,0,n,t,h=>by
  obtain rfl:m=n:=by simpa using h
  rw[Nat.mul_zero,List.drop_zero,Bi,Bh,Ay,Ba (by rw[bM];exact Ae _),Bn (by rw[bM];exact Ae _)]
 | m::l,k+1,n,t,h=>by
  rw[Bi,Bh,Ay,List.drop_append,bM,show s*(k+1)-s=s*k by rw[Ci];omega,List.drop_eq_nil_of_le (by rw[bM,Ci];omega),List.nil_append]
  exact eG0 s l k n t (by simpa using h)
theorem aR1 (l:List Bool):(oY l).take 4=leB 4 l.length:=by
 unfold oY;rw[Ay,Ba (by rw[bM];exact Ae _),Bn (by rw[bM];exact Ae _)]
theorem yW0 {l:List Bool} {k:Nat} (h:k<(l.length+63)/64):((oY l).drop (4+8*k)).take 8=leB 8 (oU l k):=by
 unfold oY;rw[Ay,<-List.drop_drop,List.drop_left' (bM 4 _)];exact eG0 8 (nK l) k _ _ (by unfold nK;rw[List.getElem?_map,List.getElem?_range h];rfl)
theorem fF1 {l:List Bool} {q:Nat} (h:l.length<=64*q+64) (h2:64*q<l.length) (h3:l.length%64≠0):oU l q/2^(l.length%64)=0:=by
 rw[<-Ab];apply Ad
 intro t;rw[Al,oU,dM,Bv];by_cases ht:l.length%64+t<64
 ·rw[kD0 (by omega)];simp
 ·simp[ht]
theorem eS1 (l:List Bool) (i:Nat):(oU l (i/64)>>>(i%64))&&&1=if bitOf l i then 1 else 0:=by
 apply Ad
 intro t;rw[Bo,Al,oU,dM]
 cases t with
 | zero =>
  rw[show 64*(i/64)+(i%64+0)=i by omega]
  cases bitOf l i<;>simp<;>omega
 | succ t =>
  have h1:Nat.testBit 1 (t+1)=false:=by rw[Nat.testBit_succ];simp
  cases bitOf l i<;>simp[h1]
end
end Go.Proofs.YtcijgkfpobpdbaaGreatDoor
