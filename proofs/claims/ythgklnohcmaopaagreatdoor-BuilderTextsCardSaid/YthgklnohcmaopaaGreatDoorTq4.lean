/- The texts CrcP BitsP PackP PopP VecP RnkP SelP, one behind the other. -/
import Derived.Test.YthgklnohcmaopaaGreatDoorRows
open Nat renaming shiftRight_eq_div_pow → Aa,and_two_pow_sub_one_eq_mod → Ab,testBit_mod_two_pow → Ac,mod_two_eq_zero_or_one → Ad,mod_add_div → Ae,reducePow → Af,testBit_two_pow_mul_add → Ag,eq_of_testBit_eq → Ah,pow_le_pow_right → Ai,and_le_right → Aj,lt_of_lt_of_le → Ak,lt_of_le_of_lt → Al,testBit_lt_two_pow → Am,or_lt_two_pow → An,zero_add → Ao,xor_assoc → Ap,testBit_xor → Aq,testBit_div_two → Ar,mod_lt → As,testBit_or → At,le_refl → Av,testBit_shiftRight → Aw,two_pow_pos → Ax,div_le_self → Ay,testBit_shiftLeft → Az,testBit_two_pow → Bb,xor_lt_two_pow → Bc,lt_trans → Bd,mod_eq_of_lt → Be,testBit_and → Bg,add_le_add → Bh,add_lt_add → Bi,xor_comm → Bj,mul_comm → Bk,add_zero → Bn,pow_succ → Bo
open List renaming range → Au,range_succ → Bf
open UInt8 renaming ofNat → Ba
namespace Go.Proofs.YthgklnohcmaopaaGreatDoor
section
open Go
def oL0 (r:Nat):Nat:=if r%2=1 then r/2 ^^^ 3988292384 else r/2
def crc4 (r:Nat):Nat:=oL0 (oL0 (oL0 (oL0 r)))
def dK1 (r:Nat):Nat:=crc4 (crc4 r)
def fB0:Nat->List UInt8->Nat
 | r,[]=>r
 | r,c::l=>fB0 (dK1 (r ^^^ c.toNat)) l
def crcSum (l:List UInt8):Nat:=fB0 4294967295 l ^^^ 4294967295
theorem xT0 (a b:Nat):(a ^^^ b)%2=1↔(a%2+b%2)%2=1:=by
 have h:=Aq a b 0;simp only[Nat.testBit_zero]at h;rcases Ad a with ha|ha<;>rcases Ad b with hb|hb<;>simp[ha,hb]at h ⊢ <;> omega
theorem vB0 (a b:Nat):(a ^^^ b)/2=a/2 ^^^ b/2:=by
 apply Ah
 intro i;rw[Ar,Aq,Aq,Ar,Ar]
theorem tP (a b:Nat):oL0 (a ^^^ b)=oL0 a ^^^ oL0 b:=by
 unfold oL0;rw[vB0];have h:=xT0 a b;rcases Ad a with ha|ha<;>rcases Ad b with hb|hb
 ·rw[if_neg (by rw[h];omega),if_neg (by omega),if_neg (by omega)]
 ·rw[if_pos (by rw[h];omega),if_neg (by omega),if_pos (by omega),Ap]
 ·rw[if_pos (by rw[h];omega),if_pos (by omega),if_neg (by omega),Ap,Ap,Bj (b/2)]
 ·rw[if_neg (by rw[h];omega),if_pos (by omega),if_pos (by omega)]
  rw[Ap,Bj 3988292384,Ap (b/2),Nat.xor_self,Nat.xor_zero]
theorem tV (a:Nat):oL0 (2*a)=a:=by
 unfold oL0;rw[if_neg (by omega)];omega
theorem xJ0 (a b:Nat):crc4 (a ^^^ b)=crc4 a ^^^ crc4 b:=by
 unfold crc4;rw[tP,tP,tP,tP]
theorem aC1 (a:Nat):crc4 (16*a)=a:=by
 unfold crc4;rw[show 16*a=2*(2*(2*(2*a))) by omega,tV,tV,tV,tV]
theorem zX0 (r:Nat):r=16*(r/16) ^^^ r%16:=by
 apply Ah
 intro i;rw[Aq,show 16=2^4 from rfl,Ac,Nat.testBit_two_pow_mul,Nat.testBit_div_two_pow]
 by_cases h:i<4
 ·have h2:¬4<=i:=by omega
  simp[h,h2]
 ·have h2:4<=i:=by omega
  rw[show i-4+4=i by omega]
  simp[h,h2]
def iB:List Nat:=[0,498536548,997073096,651767980,1994146192,1802195444,1303535960,1342533948,3988292384,4027552580,3604390888,3412177804,2607071920,2262029012,2685067896,3183342108]
theorem nY0:∀i:Fin 16,iB[i.val]?=some (crc4 i.val):=by decide +kernel
theorem zF (r:Nat):∃q,iB[r%16]?=some q/\crc4 r=r/16 ^^^ q:=by
 refine⟨_,nY0 ⟨r%16,As _ (by decide)⟩,?_⟩;have h:crc4 r=crc4 (16*(r/16) ^^^ r%16):=congrArg crc4 (zX0 r);rw[h,xJ0,aC1]
theorem cC0 {r:Nat} (h:r<4294967296):oL0 r<4294967296:=by
 unfold oL0;split
 ·exact Bc (n:=32) (by omega) (by decide)
 ·omega
theorem aV0 {r:Nat} (h:r<4294967296):crc4 r<4294967296:=cC0 (cC0 (cC0 (cC0 h)))
theorem jY0:∀(l:List UInt8) {r:Nat},r<4294967296->fB0 r l<4294967296
 | [],_,h=>h
 | c::l,r,h=>jY0 l (aV0 (aV0 (Bc (n:=32) h (by have:=c.toNat_lt;omega))))
theorem aL0:∀(l:List UInt8) (r:Nat) (c:UInt8),fB0 r (l++[c])=dK1 (fB0 r l ^^^ c.toNat)
 | [],_,_=>rfl
 | a::l,r,c=>by
  rw[List.cons_append];exact aL0 l _ c
def eC (f:Nat->Bool) (base:Nat):Nat->Nat
 | 0=>0
 | k+1=>eC f base k+(if f (base+k) then 2^k else 0)
theorem gY (f:Nat->Bool) (base:Nat):∀k,eC f base k<2^k
 | 0=>by simp[eC]
 | k+1=>by
  have:=gY f base k
  grind [eC]
theorem cY (f:Nat->Bool) (base:Nat):∀k t,(eC f base k).testBit t=(decide (t<k)&&f (base+t))
 | 0,t=>by simp[eC]
 | k+1,t=>by
  have ae:=gY f base k;unfold eC;by_cases hf:f (base+k)=true
  ·rw[if_pos hf,Nat.add_comm,<-Nat.one_mul (2^k),Bk 1,Nat.two_pow_add_eq_or_of_lt ae,At,cY f base k t,Nat.mul_one,Bb]
   grind
  ·have hf2:f (base+k)=false:=by simpa using hf
   rw[if_neg hf,Bn,cY f base k t];grind
theorem gA {f:Nat->Bool} {base k n:Nat} (hn:n<2^k) (h:∀t,t<k->n.testBit t=f (base+t)):n=eC f base k:=by
 apply Ah
 intro t;rw[cY];by_cases ht:t<k
 ·rw[h t ht];simp[ht]
 ·simp only[ht,decide_false,Bool.false_and]
  grind [Am,Ak,Ai]
theorem iU {f g:Nat->Bool} {base base' k:Nat} (h:∀t,t<k->f (base+t)=g (base'+t)):eC f base k=eC g base' k:=by
 apply gA (gY _ _ _)
 grind [cY]
def leB (k n:Nat):List UInt8:=(Au k).map λi=>Ba (n/256^i)
theorem dF (k n:Nat):(leB k n).length=k:=by simp[leB]
theorem wT0 (k n:Nat):leB (k+1) n=leB k n++[Ba (n/256^k)]:=by
 unfold leB;rw[Bf,List.map_append];rfl
def bitLen (n:Nat):Nat:=if n=0 then 0 else n.log2+1
theorem fK0 {n w:Nat}:bitLen n<=w↔n<2^w:=by
 unfold bitLen;by_cases h:n=0
 ·grind
 ·rw[if_neg h]
  grind [Nat.log2_lt]
theorem dJ1 {a b w:Nat}:a|||b<2^w↔a<2^w/\b<2^w :=
 (by grind [Nat.right_le_or,An])
def yC (l:List Nat):Nat:=l.foldl (· ||| ·) 0
def nQ (l:List Nat):Nat:=bitLen (yC l)
theorem nK0 (l:List Nat) (n:Nat):yC (l++[n])=yC l|||n:=by simp[yC]
theorem kU0 {w:Nat}:∀ {l:List Nat},yC l<2^w↔∀n∈l,n<2^w:=by
 have key:∀(l:List Nat) (a:Nat),l.foldl (· ||| ·) a<2^w↔a<2^w/\∀n∈l,n<2^w:=by
  intro l
  induction l with
  | nil=>intro a;simp
  | cons b l ih =>
   intro a;rw[List.foldl_cons,ih,dJ1];grind
 grind [yC]
theorem tV0 {l:List Nat} {n:Nat} (h:n∈l):n<2^nQ l:=kU0.1 (fK0.1 (Av _)) n h
theorem pA {l:List Nat} {w:Nat}:nQ l<=w↔∀n∈l,n<2^w:=by unfold nQ; rw[fK0,kU0]
def bitAt (l:List Nat) (w pos:Nat):Bool:=(l.getD (pos/w) 0).testBit (pos%w)
theorem vV {l:List Nat} {w pos:Nat} (hw:0<w) (h:l.length*w<=pos):bitAt l w pos=false:=by
 unfold bitAt
 have:l.length<=pos/w:=(Nat.le_div_iff_mul_le hw).2 h
 simp_all
theorem rY {l:List Nat} {w v:Nat} (hw:0<w) (hv:v<2^w) (pos:Nat) :
  bitAt (l++[v]) w pos=(bitAt l w pos||(decide (l.length*w<=pos)&&v.testBit (pos-l.length*w))):=by
 by_cases h:pos<l.length*w
 ·have h1:pos/w<l.length:=(Nat.div_lt_iff_lt_mul hw).2 h
  grind [bitAt]
 ·have h0:l.length*w<=pos:=by omega
  rw[vV hw h0];simp only[h0,decide_true,Bool.true_and,Bool.false_or];by_cases h2:pos<(l.length+1)*w
  ·have h3:pos/w=l.length:=by
    apply Nat.div_eq_of_lt_le
    ·exact h0
    ·exact h2
   have h4:pos%w=pos-l.length*w:=by
    have:=Nat.div_add_mod pos w
    rw[h3,Bk]at this;omega
   grind [bitAt]
  grind [vV,Am,Ak,Ai]
def xX (l:List Nat):List UInt8:=(Au ((l.length*nQ l+7)/8)).map λj=>Ba (eC (bitAt l (nQ l)) (8*j) 8)
def cG (l:List Nat):List UInt8:=leB 4 l.length++[Ba (nQ l)]++xX l
def fD (l:List Nat) (w q:Nat):Nat:=eC (bitAt l w) (64*q) 64
theorem tQ0 (w q:Nat):fD [] w q=0:=by
 symm
 exact gA (Ax _) (by grind [bitAt])
theorem kY (l:List Nat) (w q:Nat):fD l w q<18446744073709551616:=gY _ _ 64
theorem bA0 {v s t:Nat} (ht:t<64):((v<<<s)%18446744073709551616).testBit t=(decide (s<=t)&&v.testBit (t-s)):=by
 rw[show 18446744073709551616=2^64 from rfl,Ac,Az]
 simp[ht]
theorem eU0 {l:List Nat} {w v q s:Nat} (hw:0<w) (hv:v<2^w) (hq:l.length*w=64*q+s) :
  fD (l++[v]) w q=fD l w q|||(v<<<s)%18446744073709551616:=by
 symm
 apply gA
 ·exact An (kY l w q) (by omega)
 ·intro t ht
  rw[At,bA0 ht,rY hw hv,fD,cY,hq];grind
theorem lX0 {l:List Nat} {w v q s:Nat} (hw:0<w) (hv:v<2^w) (aag:w<=64) (hs:s<64) (hq:l.length*w=64*q+s) :
  fD (l++[v]) w (q+1)=fD l w (q+1)|||v>>>(64-s):=by
 symm
 apply gA
 ·refine An (kY l w (q+1)) ?_
  refine Al (Nat.shiftRight_le v _) (Ak hv (Ai (by decide) aag))
 ·intro t ht
  rw[At,Aw,rY hw hv,fD,cY,hq];grind
theorem yR {l:List Nat} {w v q s r:Nat} (hw:0<w) (hv:v<2^w) (hs:s<64) (hq:l.length*w=64*q+s)
  (hr:r≠q) (bu:r=q+1->s+w<=64) (aag:w<=64):fD (l++[v]) w r=fD l w r:=by
 grind [iU,rY,Am,Ak,Ai,fD]
theorem aJ0 (l:List Nat) (q:Nat) (h:∀n∈l,n<2^0):fD l 0 q=0:=by
 symm
 refine gA (Ax _) (λt _=>?_);unfold bitAt;simp only[Nat.div_zero,Nat.mod_zero,Nat.zero_testBit]
 cases l with
 | nil=>simp
 | cons a l =>
  simp_all
theorem nT0 (l:List Nat) (w i:Nat):(fD l w (i/8)>>>(i%8*8))%256=eC (bitAt l w) (8*i) 8:=by
 apply gA
 ·omega
 ·intro t ht
  rw[show 256=2^8 from rfl,Ac,Aw,fD,cY]
  grind
theorem uY (l:List Nat):(cG l).length=5+(l.length*nQ l+7)/8:=by
 unfold cG xX;simp[dF];omega
def wJ (B:Nat):Nat->Nat->Nat
 | 0,_=>0
 | n+1,x=>x%B+wJ B n (x/B)
def uT0 (B M:Nat):Nat->Nat->Prop
 | 0,_=>True
 | n+1,x=>x%B<=M/\uT0 B M n (x/B)
def fK (B d:Nat):Nat->Nat
 | 0=>0
 | n+1=>B*fK B d n+d
theorem mO {k a b r s:Nat} (hr:r<2^k) (hs:s<2^k):(2^k*a+r)&&&(2^k*b+s)=2^k*(a&&&b)+(r&&&s):=by
 apply Ah
 intro i;have hrs:r&&&s<2^k:=Al Nat.and_le_left hr;rw[Bg,Ag a hr,Ag b hs,Ag _ hrs,Bg];by_cases h:i<k
 ·simp[h]
 ·simp[h]
theorem dZ1 (r:Nat):r&&&1=r%2:=Ab r 1
theorem eC1 (r:Nat):r&&&3=r%4:=Ab r 2
theorem dT1 (r:Nat):r&&&15=r%16:=Ab r 4
theorem yB0 (r:Nat):r&&&127=r%128:=Ab r 7
def uD0 (m x:Nat):Nat:=((x>>>1)&&&m)+(x&&&m)
theorem pE0 (m x:Nat):uD0 (4*m+1) x=4*uD0 m (x/4)+(x%2+x/2%2):=by
 unfold uD0;have h1:=mO (k:=2) (a:=x/4) (b:=m) (r:=x%4) (s:=1) (As _ (by decide)) (by decide);have h2:=mO (k:=2) (a:=x/2/4) (b:=m) (r:=x/2%4) (s:=1) (As _ (by decide)) (by decide);rw[dZ1]at h1 h2;simp only[Af]at h1 h2;rw[show 4*(x/4)+x%4=x by omega]at h1
 rw[show 4*(x/2/4)+x/2%4=x/2 by omega]at h2
 rw[Aa,Aa,Nat.pow_one,h1,h2,show x/2/4=x/4/2 by omega]
 omega
theorem tZ0:∀n x,wJ 4 n (uD0 (fK 4 1 n) x)=wJ 2 (2*n) x/\uT0 4 2 n (uD0 (fK 4 1 n) x)
 | 0,x=>⟨rfl,trivial⟩
 | n+1,x=>by
  have ih:=tZ0 n (x/4);have hs:=pE0 (fK 4 1 n) x;rw[show 4*fK 4 1 n+1=fK 4 1 (n+1) from rfl]at hs
  refine⟨?_,?_⟩
  ·rw[hs,show 2*(n+1)=2*n+1+1 by omega]
   simp only[wJ];rw[show (4*uD0 (fK 4 1 n) (x/4)+(x%2+x/2%2))/4=uD0 (fK 4 1 n) (x/4) by omega,ih.1,show x/2/2=x/4 by omega]
   omega
  ·rw[hs]
   refine⟨by omega,?_⟩;rw[show (4*uD0 (fK 4 1 n) (x/4)+(x%2+x/2%2))/4=uD0 (fK 4 1 n) (x/4) by omega]
   exact ih.2
def uG0 (m x:Nat):Nat:=((x>>>2)&&&m)+(x&&&m)
theorem qY0 (m x:Nat):uG0 (16*m+3) x=16*uG0 m (x/16)+(x%4+x/4%4):=by
 unfold uG0;have h1:=mO (k:=4) (a:=x/16) (b:=m) (r:=x%16) (s:=3) (As _ (by decide)) (by decide);have h2:=mO (k:=4) (a:=x/4/16) (b:=m) (r:=x/4%16) (s:=3) (As _ (by decide)) (by decide);rw[eC1]at h1 h2;simp only[Af]at h1 h2;rw[show 16*(x/16)+x%16=x by omega]at h1
 rw[show 16*(x/4/16)+x/4%16=x/4 by omega]at h2
 simp only[Aa,Af];rw[h1,h2,show x/4/16=x/16/4 by omega]
 omega
theorem tP0:∀n x,uT0 4 2 (2*n) x->wJ 16 n (uG0 (fK 16 3 n) x)=wJ 4 (2*n) x/\uT0 16 4 n (uG0 (fK 16 3 n) x)
 | 0,x,_=>⟨rfl,trivial⟩
 | n+1,x,h=>by
  rw[show 2*(n+1)=2*n+1+1 by omega]at h ⊢
  simp only[uT0]at h;rw[show x/4/4=x/16 by omega]at h
  have ih:=tP0 n (x/16) h.2.2;have hs:=qY0 (fK 16 3 n) x;rw[show 16*fK 16 3 n+3=fK 16 3 (n+1) from rfl]at hs
  refine⟨?_,?_⟩
  ·rw[hs]
   simp only[wJ];rw[show (16*uG0 (fK 16 3 n) (x/16)+(x%4+x/4%4))/16=uG0 (fK 16 3 n) (x/16) by omega,ih.1,show x/4/4=x/16 by omega]
   omega
  ·rw[hs]
   refine⟨by omega,?_⟩;rw[show (16*uG0 (fK 16 3 n) (x/16)+(x%4+x/4%4))/16=uG0 (fK 16 3 n) (x/16) by omega]
   exact ih.2
def uE0 (m x:Nat):Nat:=(x>>>4+x)&&&m
theorem qZ0 (m x:Nat) (h0:x%16<=4) (h1:x/16%16<=4) (h2:x/256%16<=4):uE0 (256*m+15) x=256*uE0 m (x/256)+(x%16+x/16%16):=by
 unfold uE0
 have e1:x>>>4+x=256*((x/256)>>>4+x/256)+(16*(x/256%16)+x%256/16+x%256):=by
  simp only[Aa,Af];omega
 have h:=mO (k:=8) (a:=(x/256)>>>4+x/256) (b:=m) (r:=16*(x/256%16)+x%256/16+x%256) (s:=15) (by simp only[Af];omega) (by decide);rw[dT1]at h;simp only[Af]at h;rw[<-e1]at h;rw[h];omega
theorem oT0:∀n x,uT0 16 4 (2*n) x->x<256^n->wJ 256 n (uE0 (fK 256 15 n) x)=wJ 16 (2*n) x/\uT0 256 8 n (uE0 (fK 256 15 n) x)
 | 0,x,_,_=>⟨rfl,trivial⟩
 | n+1,x,h,hx=>by
  rw[show 2*(n+1)=2*n+1+1 by omega]at h ⊢
  simp only[uT0]at h;rw[show x/16/16=x/256 by omega]at h
  have ig:x/256<256^n:=by rw[Bo]at hx;omega
  have ih:=oT0 n (x/256) h.2.2 ig
  have h3:x/256%16<=4:=by
   cases n with
   | zero=>simp only[Nat.pow_zero]at ig;omega
   | succ k =>
    have h4:=h.2.2;rw[show 2*(k+1)=2*k+1+1 by omega]at h4
    exact h4.1
  have hs:=qZ0 (fK 256 15 n) x h.1 h.2.1 h3;rw[show 256*fK 256 15 n+15=fK 256 15 (n+1) from rfl]at hs
  refine⟨?_,?_⟩
  ·rw[hs]
   simp only[wJ];rw[show (256*uE0 (fK 256 15 n) (x/256)+(x%16+x/16%16))/256=uE0 (fK 256 15 n) (x/256) by omega,ih.1,show x/16/16=x/256 by omega]
   omega
  ·rw[hs]
   refine⟨by omega,?_⟩;rw[show (256*uE0 (fK 256 15 n) (x/256)+(x%16+x/16%16))/256=uE0 (fK 256 15 n) (x/256) by omega]
   exact ih.2
theorem dR1:fK 4 1 32=6148914691236517205:=by decide +kernel
theorem dH1:fK 16 3 16=3689348814741910323:=by decide +kernel
theorem dC1:fK 256 15 8=1085102592571150095:=by decide +kernel
theorem sF0 {lo B hi:Nat} (h:lo<B):(lo+B*hi)/B=hi:=by
 rw[Nat.add_mul_div_left _ _ (by omega),Nat.div_eq_of_lt h,Ao]
theorem zB0 {x b0 b1 b2 b3 b4 b5 b6 b7:Nat} (h0:b0<=8) (h1:b1<=8) (h2:b2<=8) (h3:b3<=8) (h4:b4<=8) (h5:b5<=8) (h6:b6<=8) (h7:b7<=8)
  (hX:x=b0+256*(b1+256*(b2+256*(b3+256*(b4+256*(b5+256*(b6+256*b7))))))) :
  ∃Y Z,x+x/256=Y/\Y+Y/65536=Z/\Y<18446744073709551616/\Z<18446744073709551616/\Z+Z/4294967296<18446744073709551616 /\
  (Z+Z/4294967296)%128=b0+(b1+(b2+(b3+(b4+(b5+(b6+b7)))))):=by
 have l5:x<1152921504606846976:=by omega
 have q1:x/256=b1+256*(b2+256*(b3+256*(b4+256*(b5+256*(b6+256*b7))))):=by rw[hX];exact sF0 (by omega)
 have hY:x+x/256=((b0+b1)+256*(b1+b2))+65536*((b2+b3)+256*(b3+b4)+65536*((b4+b5)+256*(b5+b6)+65536*((b6+b7)+256*b7))):=by rw[q1,hX];omega
 have hY0:x+x/256<2305843009213693952:=by
  have:=Ay x 256
  omega
 rw[hY]at hY0;refine⟨_,_,hY,rfl,?_⟩;clear hY q1 hX l5 x;have q2:(((b0+b1)+256*(b1+b2))+65536*((b2+b3)+256*(b3+b4)+65536*((b4+b5)+256*(b5+b6)+65536*((b6+b7)+256*b7))))/65536=(b2+b3)+256*(b3+b4)+65536*((b4+b5)+256*(b5+b6)+65536*((b6+b7)+256*b7)):=sF0 (by omega);have hZ0:=Ay ((((b0+b1)+256*(b1+b2))+65536*((b2+b3)+256*(b3+b4)+65536*((b4+b5)+256*(b5+b6)+65536*((b6+b7)+256*b7))))) 65536;rw[q2]at hZ0 ⊢;refine⟨Bd hY0 (by decide),?_⟩;have hZ1:=Al (Bh (Av _) hZ0) (Bi hY0 hY0);clear hZ0 hY0;have hZ:(((b0+b1)+256*(b1+b2))+65536*((b2+b3)+256*(b3+b4)+65536*((b4+b5)+256*(b5+b6)+65536*((b6+b7)+256*b7))))+((b2+b3)+256*(b3+b4)+65536*((b4+b5)+256*(b5+b6)+65536*((b6+b7)+256*b7)))=((b0+b1+b2+b3)+128*(2*(b1+b2+b3+b4)+512*((b2+b3+b4+b5)+256*(b3+b4+b5+b6))))+4294967296*((b4+b5+b6+b7)+128*(2*(b5+b6+b7)+512*((b6+b7)+256*b7))):=by omega
 rw[hZ]at hZ1 ⊢;clear hZ q2;refine⟨Bd hZ1 (by decide),?_⟩;have q3:(((b0+b1+b2+b3)+128*(2*(b1+b2+b3+b4)+512*((b2+b3+b4+b5)+256*(b3+b4+b5+b6))))+4294967296*((b4+b5+b6+b7)+128*(2*(b5+b6+b7)+512*((b6+b7)+256*b7))))/4294967296=(b4+b5+b6+b7)+128*(2*(b5+b6+b7)+512*((b6+b7)+256*b7)):=sF0 (by omega);generalize hK:2*(b1+b2+b3+b4)+512*((b2+b3+b4+b5)+256*(b3+b4+b5+b6))=K at *;generalize hM:2*(b5+b6+b7)+512*((b6+b7)+256*b7)=M at *;refine⟨?_,?_⟩
 ·have:=Ay (b0+b1+b2+b3+128*K+4294967296*(b4+b5+b6+b7+128*M)) 4294967296
  exact Al (Bh (Av _) this) (Bd (Bi hZ1 hZ1) (by decide))
 ·rw[q3]
  clear q3 hZ1 hK hM;have e:b0+b1+b2+b3+128*K+4294967296*(b4+b5+b6+b7+128*M)+(b4+b5+b6+b7+128*M)=(b0+(b1+(b2+(b3+(b4+(b5+(b6+b7)))))))+128*(K+33554432*(b4+b5+b6+b7+128*M)+M):=by omega
  have hS:b0+(b1+(b2+(b3+(b4+(b5+(b6+b7))))))<128:=by omega
  rw[e,Nat.add_mul_mod_self_left];exact Be hS
theorem dA1 {x x1 x2 x3:Nat} (h1:x1=((x>>>1)&&&6148914691236517205)+(x&&&6148914691236517205))
  (h2:x2=((x1>>>2)&&&3689348814741910323)+(x1&&&3689348814741910323)) (h3:x3=(x2>>>4+x2)&&&1085102592571150095) :
  x1<18446744073709551616/\x2<18446744073709551616/\x2>>>4+x2<18446744073709551616/\x3<18446744073709551616 /\
  ∃Y Z,x3+x3>>>8=Y/\Y+Y>>>16=Z/\Y<18446744073709551616/\Z<18446744073709551616/\Z+Z>>>32<18446744073709551616 /\
  (Z+Z>>>32)&&&127=wJ 2 64 x:=by
 have b1:(x>>>1)&&&6148914691236517205<=6148914691236517205:=Aj;have b2:x&&&6148914691236517205<=6148914691236517205:=Aj;have b3:(x1>>>2)&&&3689348814741910323<=3689348814741910323:=Aj;have b4:x1&&&3689348814741910323<=3689348814741910323:=Aj;have b5:x3<=1085102592571150095:=by rw[h3];exact Aj
 have b6:x2>>>4<=x2/16:=by rw[Aa];exact Av _
 have a1:=tZ0 32 x;rw[dR1,show uD0 6148914691236517205 x=x1 from h1.symm]at a1
 have a2:=tP0 16 x1 a1.2;rw[dH1,show uG0 3689348814741910323 x1=x2 from h2.symm]at a2
 have ig:x2<18446744073709551616:=by omega
 have a3:=oT0 8 x2 a2.2 ig;rw[dC1,show uE0 1085102592571150095 x2=x3 from h3.symm]at a3
 obtain⟨s3,d3⟩:=a3;have hs:wJ 256 8 x3=wJ 2 64 x:=by rw[s3];exact a2.1.trans a1.1
 rw[<-hs];clear s3 a1 a2 hs;refine⟨by omega,ig,by omega,by omega,?_⟩;simp only[uT0,and_true]at d3;obtain⟨c0,c1,c2,c3,c4,c5,c6,c7⟩:=d3;simp only[wJ,Bn,yB0,Aa,Af]
 have e7:x3/256/256/256/256/256/256/256%256=x3/256/256/256/256/256/256/256:=by
  apply Be
  simp only[Nat.div_div_eq_div_mul];exact Nat.div_lt_of_lt_mul (by omega)
 have hX:x3=x3%256+256*(x3/256%256+256*(x3/256/256%256+256*(x3/256/256/256%256+256*(x3/256/256/256/256%256+256*(x3/256/256/256/256/256%256+256*(x3/256/256/256/256/256/256%256+256*(x3/256/256/256/256/256/256/256%256))))))):=by
  rw[e7,Ae,Ae,Ae,Ae,Ae,Ae,Ae]
 exact zB0 c0 c1 c2 c3 c4 c5 c6 c7 hX
def pS (f:Nat->Bool) (base:Nat):Nat->Nat
 | 0=>0
 | k+1=>pS f base k+(if f (base+k) then 1 else 0)
theorem yS (f:Nat->Bool) (base:Nat):∀k,pS f base (k+1)=(if f base then 1 else 0)+pS f (base+1) k
 | 0=>by simp[pS]
 | k+1=>by
  rw[pS,yS f base k,pS,show base+1+k=base+(k+1) by omega]
  omega
theorem tU (f:Nat->Bool) (base a:Nat):∀b,pS f base (a+b)=pS f base a+pS f (base+a) b
 | 0=>by simp[pS]
 | b+1=>by rw[show a+(b+1)=a+b+1 by omega,pS,tU f base a b,pS,Nat.add_assoc base];omega
theorem xG (f:Nat->Bool) (base:Nat):∀k,eC f base (k+1)=(if f base then 1 else 0)+2*eC f (base+1) k
 | 0=>by simp[eC]
 | k+1=>by
  rw[eC,xG f base k,eC,show base+1+k=base+(k+1) by omega,Bo]
  by_cases h:f (base+(k+1))=true
  ·rw[if_pos h,if_pos h];omega
  ·rw[if_neg h,if_neg h];omega
theorem uJ (f:Nat->Bool):∀k base,wJ 2 k (eC f base k)=pS f base k
 | 0,_=>rfl
 | k+1,base=>by
  rw[yS,<-uJ f k (base+1),wJ,xG];by_cases h:f base=true
  ·rw[if_pos h,show (1+2*eC f (base+1) k)%2=1 by omega,show (1+2*eC f (base+1) k)/2=eC f (base+1) k by omega]
  ·rw[if_neg h,show (0+2*eC f (base+1) k)%2=0 by omega,show (0+2*eC f (base+1) k)/2=eC f (base+1) k by omega]
def jB (l:List Bool) (i:Nat):Bool:=l.getD i false
theorem rU (l:List Bool) (b:Bool) (i:Nat):jB (l++[b]) i=(jB l i||(decide (i=l.length)&&b)):=by
 grind [jB]
def sG (l:List Bool) (q:Nat):Nat:=eC (jB l) (64*q) 64
theorem vO (l:List Bool) (q:Nat):sG l q<18446744073709551616:=gY _ _ 64
theorem wJ0 (q:Nat):sG [] q=0:=by
 symm
 exact gA (Ax _) (by grind [jB])
theorem oA0 (l:List Bool) (q:Nat):sG (l++[false]) q=sG l q:=by
 grind [iU,rU,sG]
theorem oO0 {l:List Bool} {q s:Nat} (hq:l.length=64*q+s) :
  sG (l++[true]) q=sG l q|||(1<<<s)%18446744073709551616:=by
 symm
 apply gA
 ·exact An (vO l q) (by omega)
 ·intro t ht
  rw[At,rU,sG,cY,hq,show 18446744073709551616=2^64 from rfl,Ac,Nat.one_shiftLeft,Bb]
  grind
theorem pM0 {l:List Bool} {b:Bool} {q s r:Nat} (hs:s<64) (hq:l.length=64*q+s) (hr:r≠q):sG (l++[b]) r=sG l r:=by
 grind [iU,rU,sG]
def fB (l:List Bool) (i:Nat):Nat:=pS (jB l) 0 i
theorem yM (l:List Bool) (q:Nat):fB l (64*(q+1))=fB l (64*q)+wJ 2 64 (sG l q):=by
 unfold fB sG;rw[uJ,show 64*(q+1)=64*q+64 by omega,tU,Ao]
theorem iE (l:List Bool) (i:Nat):fB l (i+1)=fB l i+(if jB l i then 1 else 0):=by
 unfold fB;rw[pS,Ao]
theorem qW0 (f:Nat->Bool) (base:Nat):∀k,pS f base k<=k
 | 0=>Av _
 | k+1=>by
  have:=qW0 f base k
  grind [pS]
theorem nG (l:List Bool) (i:Nat):fB l i<=i:=qW0 _ _ _
theorem eQ0 (f:Nat->Bool) (base:Nat):∀k,(∀t,t<k->f (base+t)=false)->pS f base k=0
 | 0,_=>rfl
 | k+1,h=>by rw[pS,eQ0 f base k (by grind),h k (by omega)];simp
def tK (l:List Bool):List Nat:=(Au ((l.length+63)/64)).map (sG l)
def qV (l:List Bool):List Nat:=(Au ((l.length+511)/512)).map λg=>fB l (512*g)
def jC0 (l:List Bool):List UInt8:=leB 4 l.length++((tK l).map (leB 8)).flatten++((qV l).map (leB 4)).flatten
theorem mC (k:Nat):∀(l:List Nat),((l.map (leB k)).flatten).length=k*l.length
 | []=>by simp
 | a::l=>by
  have:=mC k l
  grind [leB]
theorem kV0 (l:List Bool):(jC0 l).length=4+8*((l.length+63)/64)+4*((l.length+511)/512):=by
 unfold jC0 tK qV;grind [mC,leB]
theorem nO0 {v s t:Nat} (ht:t<64):((v<<<s)%18446744073709551616).testBit t=(decide (s<=t)&&v.testBit (t-s)):=by
 rw[show 18446744073709551616=2^64 from rfl,Ac,Az]
 simp[ht]
theorem zC {f g:Nat->Bool} {a b:Nat}:∀k,(∀t,t<k->f (a+t)=g (b+t))->pS f a k=pS g b k
 | 0,_=>rfl
 | k+1,h=>by rw[pS,pS,zC k (λt ht=>h t (by omega)),h k (by omega)]
theorem rM0 (l:List Bool) (q s:Nat) (hs:s<64):fB l (64*q)+wJ 2 64 ((sG l q<<<(63-s))%18446744073709551616)=fB l (64*q+s+1):=by
 have h1:(sG l q<<<(63-s))%18446744073709551616=eC (λj=>decide (63-s<=j)&&jB l (64*q+(j-(63-s)))) 0 64:=by
  apply gA
  ·exact As _ (by decide)
  ·intro t ht
   rw[nO0 ht,sG,cY,Ao];by_cases h:63-s<=t
   ·simp[h,show t-(63-s)<64 by omega]
   ·simp[h]
 obtain⟨f,hf⟩:∃f:Nat->Bool,f=λj=>decide (63-s<=j)&&jB l (64*q+(j-(63-s))):=⟨_,rfl⟩;rw[h1,<-hf,uJ];have h2:pS f 0 64=pS f 0 ((63-s)+(s+1)):=congrArg (pS f 0) (by omega);have h3:=tU f 0 (63-s) (s+1);have h4:pS f 0 (63-s)=0:=eQ0 _ 0 (63-s) (λt ht=>by rw[hf];simp;omega)
 have h5:pS f (0+(63-s)) (s+1)=pS (jB l) (64*q) (s+1):=by
  apply zC
  intro t _;rw[hf];simp
 have h6:=tU (jB l) 0 (64*q) (s+1);unfold fB;rw[Ao]at h6;rw[h2,h3,h4,h5,Ao,show 64*q+s+1=64*q+(s+1) by omega,h6]
def jG (l:List Bool) (b:Bool) (i:Nat):Nat:=if b then fB l i else i-fB l i
theorem zT (p:Nat->Bool) (j:Nat):∀n,(∀i,i<n->p i=decide (i<j))->(Au n).countP p=min j n
 | 0,_=>by simp
 | n+1,h=>by
  rw[Bf,List.countP_append,zT p j n (by grind),List.countP_singleton,h n (by omega)];grind
theorem rO (l:List Bool) (b:Bool) (i:Nat):jG l b (i+1)=jG l b i+(if jB l i=b then 1 else 0):=by
 grind [iE,nG,jG]
theorem nE (l:List Bool) (b:Bool) {i j:Nat} (h:i<=j):jG l b i<=jG l b j:=by
 induction j with
 | zero=>simp_all
 | succ j ih =>
  by_cases s5:i=j+1
  ·simp_all
  ·rw[rO]
   omega
theorem bV1 (l:List Bool) (b:Bool) {j k n:Nat} (hj:j<n) (hb:jB l j=b) (hk:jG l b j=k):(Au n).countP (λi => !decide (k<jG l b (i+1)))=j:=by
 have hs:jG l b (j+1)=k+1:=by rw[rO,hk,hb];simp
 rw[zT _ j n (λi _=>?_)]
 ·omega
 ·by_cases hi:i<j
  ·have:=nE l b (show i+1<=j by omega)
   simp[hi];omega
  ·have:=nE l b (show j+1<=i+1 by omega)
   simp[hi];omega
end
end Go.Proofs.YthgklnohcmaopaaGreatDoor
