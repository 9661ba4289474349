/- The texts CrcP BitsP PackP PopP VecP RnkP SelP BvDP, one behind the other. -/
import Derived.Test.YthgklnohcmaopaaGreatDoorRows
open Nat renaming shiftRight_eq_div_pow → Aa,and_two_pow_sub_one_eq_mod → Ab,eq_of_testBit_eq → Ac,testBit_mod_two_pow → Ad,mod_two_eq_zero_or_one → Ae,mod_add_div → Af,pow_le_pow_right → Ag,le_refl → Ah,lt_of_lt_of_le → Ai,testBit_shiftRight → Aj,reducePow → Ak,testBit_two_pow_mul_add → Al,and_le_right → Am,lt_of_le_of_lt → An,testBit_lt_two_pow → Ao,or_lt_two_pow → Ap,zero_add → Aq,xor_assoc → As,testBit_xor → Au,testBit_div_two → Av,mul_comm → Aw,pow_succ → Ax,mod_lt → Ay,testBit_or → Az,mod_eq_of_lt → Bc,div_div_eq_div_mul → Bd,two_pow_pos → Bf,testBit_and → Bg,div_le_self → Bh,testBit_shiftLeft → Bi,testBit_two_pow → Bj,xor_lt_two_pow → Bn,lt_trans → Bo,zero_testBit → Br,shiftLeft_eq → Bt,add_le_add → Bv,add_lt_add → Bw,add_assoc → By,mul_assoc → Bz,xor_comm → Ca,add_comm → Cb,add_zero → Cc,pow_zero → Cd,mul_succ → Ce
open List renaming append_assoc → Ar,take_append_of_le_length → At,range → Ba,take_of_length_le → Be,map_cons → Bk,flatten_cons → Bp,cons_append → Bq,length_cons → Bs,range_succ → Bu
open UInt8 renaming ofNat → Bb
namespace Go.Proofs.YthgklnohcmaopaaGreatDoor
section
open Go
def wN0 (r:Nat):Nat:=if r%2=1 then r/2 ^^^ 3988292384 else r/2
def crc4 (r:Nat):Nat:=wN0 (wN0 (wN0 (wN0 r)))
def qI1 (r:Nat):Nat:=crc4 (crc4 r)
def kE0:Nat->List UInt8->Nat
 | r,[]=>r
 | r,c::l=>kE0 (qI1 (r ^^^ c.toNat)) l
def crcSum (l:List UInt8):Nat:=kE0 4294967295 l ^^^ 4294967295
theorem iW1 (a b:Nat):(a ^^^ b)%2=1↔(a%2+b%2)%2=1:=by
 have h:=Au a b 0;simp only[Nat.testBit_zero]at h;rcases Ae a with ha|ha<;>rcases Ae b with hb|hb<;>simp[ha,hb]at h ⊢ <;> omega
theorem iZ1 (a b:Nat):(a ^^^ b)/2=a/2 ^^^ b/2:=by
 apply Ac
 intro i;rw[Av,Au,Au,Av,Av]
theorem yS (a b:Nat):wN0 (a ^^^ b)=wN0 a ^^^ wN0 b:=by
 unfold wN0;rw[iZ1];have h:=iW1 a b;rcases Ae a with ha|ha<;>rcases Ae b with hb|hb
 ·rw[if_neg (by rw[h];omega),if_neg (by omega),if_neg (by omega)]
 ·rw[if_pos (by rw[h];omega),if_neg (by omega),if_pos (by omega),As]
 ·rw[if_pos (by rw[h];omega),if_pos (by omega),if_neg (by omega),As,As,Ca (b/2)]
 ·rw[if_neg (by rw[h];omega),if_pos (by omega),if_pos (by omega)]
  rw[As,Ca 3988292384,As (b/2),Nat.xor_self,Nat.xor_zero]
theorem yO (a:Nat):wN0 (2*a)=a:=by
 unfold wN0;rw[if_neg (by omega)];omega
theorem iX1 (a b:Nat):crc4 (a ^^^ b)=crc4 a ^^^ crc4 b:=by
 unfold crc4;rw[yS,yS,yS,yS]
theorem nP1 (a:Nat):crc4 (16*a)=a:=by
 unfold crc4;rw[show 16*a=2*(2*(2*(2*a))) by omega,yO,yO,yO,yO]
theorem lI1 (r:Nat):r=16*(r/16) ^^^ r%16:=by
 apply Ac
 intro i;rw[Au,show 16=2^4 from rfl,Ad,Nat.testBit_two_pow_mul,Nat.testBit_div_two_pow]
 by_cases h:i<4
 ·have h2:¬4<=i:=by omega
  simp[h,h2]
 ·have h2:4<=i:=by omega
  rw[show i-4+4=i by omega]
  simp[h,h2]
def kG:List Nat:=[0,498536548,997073096,651767980,1994146192,1802195444,1303535960,1342533948,3988292384,4027552580,3604390888,3412177804,2607071920,2262029012,2685067896,3183342108]
theorem tR0:∀i:Fin 16,kG[i.val]?=some (crc4 i.val):=by decide +kernel
theorem dL0 (r:Nat):∃q,kG[r%16]?=some q/\crc4 r=r/16 ^^^ q:=by
 refine⟨_,tR0 ⟨r%16,Ay _ (by decide)⟩,?_⟩;have h:crc4 r=crc4 (16*(r/16) ^^^ r%16):=congrArg crc4 (lI1 r);rw[h,iX1,nP1]
theorem fC0 {r:Nat} (h:r<4294967296):wN0 r<4294967296:=by
 unfold wN0;split
 ·exact Bn (n:=32) (by omega) (by decide)
 ·omega
theorem gB0 {r:Nat} (h:r<4294967296):crc4 r<4294967296:=fC0 (fC0 (fC0 (fC0 h)))
theorem sB0:∀(l:List UInt8) {r:Nat},r<4294967296->kE0 r l<4294967296
 | [],_,h=>h
 | c::l,r,h=>sB0 l (gB0 (gB0 (Bn (n:=32) h (by have:=c.toNat_lt;omega))))
theorem eO0:∀(l:List UInt8) (r:Nat) (c:UInt8),kE0 r (l++[c])=qI1 (kE0 r l ^^^ c.toNat)
 | [],_,_=>rfl
 | a::l,r,c=>by
  rw[Bq];exact eO0 l _ c
def fU (f:Nat->Bool) (base:Nat):Nat->Nat
 | 0=>0
 | k+1=>fU f base k+(if f (base+k) then 2^k else 0)
theorem kJ (f:Nat->Bool) (base:Nat):∀k,fU f base k<2^k
 | 0=>by simp[fU]
 | k+1=>by
  have:=kJ f base k
  grind [fU]
theorem dK (f:Nat->Bool) (base:Nat):∀k t,(fU f base k).testBit t=(decide (t<k)&&f (base+t))
 | 0,t=>by simp[fU]
 | k+1,t=>by
  have ae:=kJ f base k;unfold fU;by_cases hf:f (base+k)=true
  ·rw[if_pos hf,Cb,<-Nat.one_mul (2^k),Aw 1,Nat.two_pow_add_eq_or_of_lt ae,Az,dK f base k t,Nat.mul_one,Bj]
   grind
  ·have hf2:f (base+k)=false:=by simpa using hf
   rw[if_neg hf,Cc,dK f base k t];grind
theorem iM {f:Nat->Bool} {base k n:Nat} (hn:n<2^k) (h:∀t,t<k->n.testBit t=f (base+t)):n=fU f base k:=by
 apply Ac
 intro t;rw[dK];by_cases ht:t<k
 ·rw[h t ht];simp[ht]
 ·simp only[ht,decide_false,Bool.false_and]
  grind [Ao,Ai,Ag]
theorem lI {f g:Nat->Bool} {base base' k:Nat} (h:∀t,t<k->f (base+t)=g (base'+t)):fU f base k=fU g base' k:=by
 apply iM (kJ _ _ _)
 grind [dK]
def leB (k n:Nat):List UInt8:=(Ba k).map λi=>Bb (n/256^i)
theorem bN (k n:Nat):(leB k n).length=k:=by simp[leB]
theorem jI1 (k n:Nat):leB (k+1) n=Bb n::leB k (n/256):=by
 unfold leB;rw[List.range_succ_eq_map,Bk,List.map_map];simp only[Cd,Nat.div_one,List.cons.injEq,true_and];grind [List.map_congr_left,Bd]
theorem fM1 (k n:Nat):leB (k+1) n=leB k n++[Bb (n/256^k)]:=by
 unfold leB;rw[Bu,List.map_append];rfl
def bitLen (n:Nat):Nat:=if n=0 then 0 else n.log2+1
theorem jF0 {n w:Nat}:bitLen n<=w↔n<2^w:=by
 unfold bitLen;by_cases h:n=0
 ·grind
 ·rw[if_neg h]
  grind [Nat.log2_lt]
theorem qZ1 {a b w:Nat}:a|||b<2^w↔a<2^w/\b<2^w :=
 (by grind [Nat.right_le_or,Ap])
def cL0 (l:List Nat):Nat:=l.foldl (· ||| ·) 0
def oV (l:List Nat):Nat:=bitLen (cL0 l)
theorem sP0 (l:List Nat) (n:Nat):cL0 (l++[n])=cL0 l|||n:=by simp[cL0]
theorem pZ0 {w:Nat}:∀ {l:List Nat},cL0 l<2^w↔∀n∈l,n<2^w:=by
 have key:∀(l:List Nat) (a:Nat),l.foldl (· ||| ·) a<2^w↔a<2^w/\∀n∈l,n<2^w:=by
  intro l
  induction l with
  | nil=>intro a;simp
  | cons b l ih =>
   intro a;rw[List.foldl_cons,ih,qZ1];grind
 grind [cL0]
theorem yD0 {l:List Nat} {n:Nat} (h:n∈l):n<2^oV l:=pZ0.1 (jF0.1 (Ah _)) n h
theorem oE {l:List Nat} {w:Nat}:oV l<=w↔∀n∈l,n<2^w:=by unfold oV; rw[jF0,pZ0]
def bitAt (l:List Nat) (w pos:Nat):Bool:=(l.getD (pos/w) 0).testBit (pos%w)
theorem zZ {l:List Nat} {w pos:Nat} (hw:0<w) (h:l.length*w<=pos):bitAt l w pos=false:=by
 unfold bitAt
 have:l.length<=pos/w:=(Nat.le_div_iff_mul_le hw).2 h
 simp_all
theorem uW {l:List Nat} {w v:Nat} (hw:0<w) (hv:v<2^w) (pos:Nat) :
  bitAt (l++[v]) w pos=(bitAt l w pos||(decide (l.length*w<=pos)&&v.testBit (pos-l.length*w))):=by
 by_cases h:pos<l.length*w
 ·have h1:pos/w<l.length:=(Nat.div_lt_iff_lt_mul hw).2 h
  grind [bitAt]
 ·have h0:l.length*w<=pos:=by omega
  rw[zZ hw h0];simp only[h0,decide_true,Bool.true_and,Bool.false_or];by_cases h2:pos<(l.length+1)*w
  ·have h3:pos/w=l.length:=by
    apply Nat.div_eq_of_lt_le
    ·exact h0
    ·exact h2
   have h4:pos%w=pos-l.length*w:=by
    have:=Nat.div_add_mod pos w
    rw[h3,Aw]at this;omega
   grind [bitAt]
  grind [zZ,Ao,Ai,Ag]
def cN0 (l:List Nat):List UInt8:=(Ba ((l.length*oV l+7)/8)).map λj=>Bb (fU (bitAt l (oV l)) (8*j) 8)
def packE (l:List Nat):List UInt8:=leB 4 l.length++[Bb (oV l)]++cN0 l
def gZ (l:List Nat) (w q:Nat):Nat:=fU (bitAt l w) (64*q) 64
theorem bI1 (w q:Nat):gZ [] w q=0:=by
 symm
 exact iM (Bf _) (by grind [bitAt])
theorem nT (l:List Nat) (w q:Nat):gZ l w q<18446744073709551616:=kJ _ _ 64
theorem gY0 {v s t:Nat} (ht:t<64):((v<<<s)%18446744073709551616).testBit t=(decide (s<=t)&&v.testBit (t-s)):=by
 rw[show 18446744073709551616=2^64 from rfl,Ad,Bi]
 simp[ht]
theorem iS0 {l:List Nat} {w v q s:Nat} (hw:0<w) (hv:v<2^w) (hq:l.length*w=64*q+s) :
  gZ (l++[v]) w q=gZ l w q|||(v<<<s)%18446744073709551616:=by
 symm
 apply iM
 ·exact Ap (nT l w q) (by omega)
 ·intro t ht
  rw[Az,gY0 ht,uW hw hv,gZ,dK,hq];grind
theorem tP0 {l:List Nat} {w v q s:Nat} (hw:0<w) (hv:v<2^w) (acj:w<=64) (hs:s<64) (hq:l.length*w=64*q+s) :
  gZ (l++[v]) w (q+1)=gZ l w (q+1)|||v>>>(64-s):=by
 symm
 apply iM
 ·refine Ap (nT l w (q+1)) ?_
  refine An (Nat.shiftRight_le v _) (Ai hv (Ag (by decide) acj))
 ·intro t ht
  rw[Az,Aj,uW hw hv,gZ,dK,hq];grind
theorem eF0 {l:List Nat} {w v q s r:Nat} (hw:0<w) (hv:v<2^w) (hs:s<64) (hq:l.length*w=64*q+s)
  (hr:r≠q) (cr:r=q+1->s+w<=64) (acj:w<=64):gZ (l++[v]) w r=gZ l w r:=by
 grind [lI,uW,Ao,Ai,Ag,gZ]
theorem eQ0 (l:List Nat) (q:Nat) (h:∀n∈l,n<2^0):gZ l 0 q=0:=by
 symm
 refine iM (Bf _) (λt _=>?_);unfold bitAt;simp only[Nat.div_zero,Nat.mod_zero,Br]
 cases l with
 | nil=>simp
 | cons a l =>
  simp_all
theorem vX0 (l:List Nat) (w i:Nat):(gZ l w (i/8)>>>(i%8*8))%256=fU (bitAt l w) (8*i) 8:=by
 apply iM
 ·omega
 ·intro t ht
  rw[show 256=2^8 from rfl,Ad,Aj,gZ,dK]
  grind
theorem aY0 (l:List Nat):(packE l).length=5+(l.length*oV l+7)/8:=by
 unfold packE cN0;simp[bN];omega
def zG (B:Nat):Nat->Nat->Nat
 | 0,_=>0
 | n+1,x=>x%B+zG B n (x/B)
def hS1 (B M:Nat):Nat->Nat->Prop
 | 0,_=>True
 | n+1,x=>x%B<=M/\hS1 B M n (x/B)
def iG (B d:Nat):Nat->Nat
 | 0=>0
 | n+1=>B*iG B d n+d
theorem pT {k a b r s:Nat} (hr:r<2^k) (hs:s<2^k):(2^k*a+r)&&&(2^k*b+s)=2^k*(a&&&b)+(r&&&s):=by
 apply Ac
 intro i;have hrs:r&&&s<2^k:=An Nat.and_le_left hr;rw[Bg,Al a hr,Al b hs,Al _ hrs,Bg];by_cases h:i<k
 ·simp[h]
 ·simp[h]
theorem rJ1 (r:Nat):r&&&1=r%2:=Ab r 1
theorem rH1 (r:Nat):r&&&3=r%4:=Ab r 2
theorem qR1 (r:Nat):r&&&15=r%16:=Ab r 4
theorem kJ1 (r:Nat):r&&&127=r%128:=Ab r 7
def dU1 (m x:Nat):Nat:=((x>>>1)&&&m)+(x&&&m)
theorem zC0 (m x:Nat):dU1 (4*m+1) x=4*dU1 m (x/4)+(x%2+x/2%2):=by
 unfold dU1;have h1:=pT (k:=2) (a:=x/4) (b:=m) (r:=x%4) (s:=1) (Ay _ (by decide)) (by decide);have h2:=pT (k:=2) (a:=x/2/4) (b:=m) (r:=x/2%4) (s:=1) (Ay _ (by decide)) (by decide);rw[rJ1]at h1 h2;simp only[Ak]at h1 h2;rw[show 4*(x/4)+x%4=x by omega]at h1
 rw[show 4*(x/2/4)+x/2%4=x/2 by omega]at h2
 rw[Aa,Aa,Nat.pow_one,h1,h2,show x/2/4=x/4/2 by omega]
 omega
theorem dB1:∀n x,zG 4 n (dU1 (iG 4 1 n) x)=zG 2 (2*n) x/\hS1 4 2 n (dU1 (iG 4 1 n) x)
 | 0,x=>⟨rfl,trivial⟩
 | n+1,x=>by
  have ih:=dB1 n (x/4);have hs:=zC0 (iG 4 1 n) x;rw[show 4*iG 4 1 n+1=iG 4 1 (n+1) from rfl]at hs
  refine⟨?_,?_⟩
  ·rw[hs,show 2*(n+1)=2*n+1+1 by omega]
   simp only[zG];rw[show (4*dU1 (iG 4 1 n) (x/4)+(x%2+x/2%2))/4=dU1 (iG 4 1 n) (x/4) by omega,ih.1,show x/2/2=x/4 by omega]
   omega
  ·rw[hs]
   refine⟨by omega,?_⟩;rw[show (4*dU1 (iG 4 1 n) (x/4)+(x%2+x/2%2))/4=dU1 (iG 4 1 n) (x/4) by omega]
   exact ih.2
def dW1 (m x:Nat):Nat:=((x>>>2)&&&m)+(x&&&m)
theorem xM0 (m x:Nat):dW1 (16*m+3) x=16*dW1 m (x/16)+(x%4+x/4%4):=by
 unfold dW1;have h1:=pT (k:=4) (a:=x/16) (b:=m) (r:=x%16) (s:=3) (Ay _ (by decide)) (by decide);have h2:=pT (k:=4) (a:=x/4/16) (b:=m) (r:=x/4%16) (s:=3) (Ay _ (by decide)) (by decide);rw[rH1]at h1 h2;simp only[Ak]at h1 h2;rw[show 16*(x/16)+x%16=x by omega]at h1
 rw[show 16*(x/4/16)+x/4%16=x/4 by omega]at h2
 simp only[Aa,Ak];rw[h1,h2,show x/4/16=x/16/4 by omega]
 omega
theorem yQ0:∀n x,hS1 4 2 (2*n) x->zG 16 n (dW1 (iG 16 3 n) x)=zG 4 (2*n) x/\hS1 16 4 n (dW1 (iG 16 3 n) x)
 | 0,x,_=>⟨rfl,trivial⟩
 | n+1,x,h=>by
  rw[show 2*(n+1)=2*n+1+1 by omega]at h ⊢
  simp only[hS1]at h;rw[show x/4/4=x/16 by omega]at h
  have ih:=yQ0 n (x/16) h.2.2;have hs:=xM0 (iG 16 3 n) x;rw[show 16*iG 16 3 n+3=iG 16 3 (n+1) from rfl]at hs
  refine⟨?_,?_⟩
  ·rw[hs]
   simp only[zG];rw[show (16*dW1 (iG 16 3 n) (x/16)+(x%4+x/4%4))/16=dW1 (iG 16 3 n) (x/16) by omega,ih.1,show x/4/4=x/16 by omega]
   omega
  ·rw[hs]
   refine⟨by omega,?_⟩;rw[show (16*dW1 (iG 16 3 n) (x/16)+(x%4+x/4%4))/16=dW1 (iG 16 3 n) (x/16) by omega]
   exact ih.2
def dY1 (m x:Nat):Nat:=(x>>>4+x)&&&m
theorem xO0 (m x:Nat) (h0:x%16<=4) (h1:x/16%16<=4) (h2:x/256%16<=4):dY1 (256*m+15) x=256*dY1 m (x/256)+(x%16+x/16%16):=by
 unfold dY1
 have e1:x>>>4+x=256*((x/256)>>>4+x/256)+(16*(x/256%16)+x%256/16+x%256):=by
  simp only[Aa,Ak];omega
 have h:=pT (k:=8) (a:=(x/256)>>>4+x/256) (b:=m) (r:=16*(x/256%16)+x%256/16+x%256) (s:=15) (by simp only[Ak];omega) (by decide);rw[qR1]at h;simp only[Ak]at h;rw[<-e1]at h;rw[h];omega
theorem yO0:∀n x,hS1 16 4 (2*n) x->x<256^n->zG 256 n (dY1 (iG 256 15 n) x)=zG 16 (2*n) x/\hS1 256 8 n (dY1 (iG 256 15 n) x)
 | 0,x,_,_=>⟨rfl,trivial⟩
 | n+1,x,h,hx=>by
  rw[show 2*(n+1)=2*n+1+1 by omega]at h ⊢
  simp only[hS1]at h;rw[show x/16/16=x/256 by omega]at h
  have ie:x/256<256^n:=by rw[Ax]at hx;omega
  have ih:=yO0 n (x/256) h.2.2 ie
  have h3:x/256%16<=4:=by
   cases n with
   | zero=>simp only[Cd]at ie;omega
   | succ k =>
    have h4:=h.2.2;rw[show 2*(k+1)=2*k+1+1 by omega]at h4
    exact h4.1
  have hs:=xO0 (iG 256 15 n) x h.1 h.2.1 h3;rw[show 256*iG 256 15 n+15=iG 256 15 (n+1) from rfl]at hs
  refine⟨?_,?_⟩
  ·rw[hs]
   simp only[zG];rw[show (256*dY1 (iG 256 15 n) (x/256)+(x%16+x/16%16))/256=dY1 (iG 256 15 n) (x/256) by omega,ih.1,show x/16/16=x/256 by omega]
   omega
  ·rw[hs]
   refine⟨by omega,?_⟩;rw[show (256*dY1 (iG 256 15 n) (x/256)+(x%16+x/16%16))/256=dY1 (iG 256 15 n) (x/256) by omega]
   exact ih.2
theorem qW1:iG 4 1 32=6148914691236517205:=by decide +kernel
theorem qV1:iG 16 3 16=3689348814741910323:=by decide +kernel
theorem qY1:iG 256 15 8=1085102592571150095:=by decide +kernel
theorem yL0 {lo B hi:Nat} (h:lo<B):(lo+B*hi)/B=hi:=by
 rw[Nat.add_mul_div_left _ _ (by omega),Nat.div_eq_of_lt h,Aq]
theorem lA1 {x b0 b1 b2 b3 b4 b5 b6 b7:Nat} (h0:b0<=8) (h1:b1<=8) (h2:b2<=8) (h3:b3<=8) (h4:b4<=8) (h5:b5<=8) (h6:b6<=8) (h7:b7<=8)
  (hX:x=b0+256*(b1+256*(b2+256*(b3+256*(b4+256*(b5+256*(b6+256*b7))))))) :
  ∃Y Z,x+x/256=Y/\Y+Y/65536=Z/\Y<18446744073709551616/\Z<18446744073709551616/\Z+Z/4294967296<18446744073709551616 /\
  (Z+Z/4294967296)%128=b0+(b1+(b2+(b3+(b4+(b5+(b6+b7)))))):=by
 have m8:x<1152921504606846976:=by omega
 have q1:x/256=b1+256*(b2+256*(b3+256*(b4+256*(b5+256*(b6+256*b7))))):=by rw[hX];exact yL0 (by omega)
 have hY:x+x/256=((b0+b1)+256*(b1+b2))+65536*((b2+b3)+256*(b3+b4)+65536*((b4+b5)+256*(b5+b6)+65536*((b6+b7)+256*b7))):=by rw[q1,hX];omega
 have hY0:x+x/256<2305843009213693952:=by
  have:=Bh x 256
  omega
 rw[hY]at hY0;refine⟨_,_,hY,rfl,?_⟩;clear hY q1 hX m8 x;have q2:(((b0+b1)+256*(b1+b2))+65536*((b2+b3)+256*(b3+b4)+65536*((b4+b5)+256*(b5+b6)+65536*((b6+b7)+256*b7))))/65536=(b2+b3)+256*(b3+b4)+65536*((b4+b5)+256*(b5+b6)+65536*((b6+b7)+256*b7)):=yL0 (by omega);have hZ0:=Bh ((((b0+b1)+256*(b1+b2))+65536*((b2+b3)+256*(b3+b4)+65536*((b4+b5)+256*(b5+b6)+65536*((b6+b7)+256*b7))))) 65536;rw[q2]at hZ0 ⊢;refine⟨Bo hY0 (by decide),?_⟩;have hZ1:=An (Bv (Ah _) hZ0) (Bw hY0 hY0);clear hZ0 hY0;have hZ:(((b0+b1)+256*(b1+b2))+65536*((b2+b3)+256*(b3+b4)+65536*((b4+b5)+256*(b5+b6)+65536*((b6+b7)+256*b7))))+((b2+b3)+256*(b3+b4)+65536*((b4+b5)+256*(b5+b6)+65536*((b6+b7)+256*b7)))=((b0+b1+b2+b3)+128*(2*(b1+b2+b3+b4)+512*((b2+b3+b4+b5)+256*(b3+b4+b5+b6))))+4294967296*((b4+b5+b6+b7)+128*(2*(b5+b6+b7)+512*((b6+b7)+256*b7))):=by omega
 rw[hZ]at hZ1 ⊢;clear hZ q2;refine⟨Bo hZ1 (by decide),?_⟩;have q3:(((b0+b1+b2+b3)+128*(2*(b1+b2+b3+b4)+512*((b2+b3+b4+b5)+256*(b3+b4+b5+b6))))+4294967296*((b4+b5+b6+b7)+128*(2*(b5+b6+b7)+512*((b6+b7)+256*b7))))/4294967296=(b4+b5+b6+b7)+128*(2*(b5+b6+b7)+512*((b6+b7)+256*b7)):=yL0 (by omega);generalize hK:2*(b1+b2+b3+b4)+512*((b2+b3+b4+b5)+256*(b3+b4+b5+b6))=K at *;generalize hM:2*(b5+b6+b7)+512*((b6+b7)+256*b7)=M at *;refine⟨?_,?_⟩
 ·have:=Bh (b0+b1+b2+b3+128*K+4294967296*(b4+b5+b6+b7+128*M)) 4294967296
  exact An (Bv (Ah _) this) (Bo (Bw hZ1 hZ1) (by decide))
 ·rw[q3]
  clear q3 hZ1 hK hM;have e:b0+b1+b2+b3+128*K+4294967296*(b4+b5+b6+b7+128*M)+(b4+b5+b6+b7+128*M)=(b0+(b1+(b2+(b3+(b4+(b5+(b6+b7)))))))+128*(K+33554432*(b4+b5+b6+b7+128*M)+M):=by omega
  have hS:b0+(b1+(b2+(b3+(b4+(b5+(b6+b7))))))<128:=by omega
  rw[e,Nat.add_mul_mod_self_left];exact Bc hS
theorem qS1 {x x1 x2 x3:Nat} (h1:x1=((x>>>1)&&&6148914691236517205)+(x&&&6148914691236517205))
  (h2:x2=((x1>>>2)&&&3689348814741910323)+(x1&&&3689348814741910323)) (h3:x3=(x2>>>4+x2)&&&1085102592571150095) :
  x1<18446744073709551616/\x2<18446744073709551616/\x2>>>4+x2<18446744073709551616/\x3<18446744073709551616 /\
  ∃Y Z,x3+x3>>>8=Y/\Y+Y>>>16=Z/\Y<18446744073709551616/\Z<18446744073709551616/\Z+Z>>>32<18446744073709551616 /\
  (Z+Z>>>32)&&&127=zG 2 64 x:=by
 have b1:(x>>>1)&&&6148914691236517205<=6148914691236517205:=Am;have b2:x&&&6148914691236517205<=6148914691236517205:=Am;have b3:(x1>>>2)&&&3689348814741910323<=3689348814741910323:=Am;have b4:x1&&&3689348814741910323<=3689348814741910323:=Am;have b5:x3<=1085102592571150095:=by rw[h3];exact Am
 have b6:x2>>>4<=x2/16:=by rw[Aa];exact Ah _
 have a1:=dB1 32 x;rw[qW1,show dU1 6148914691236517205 x=x1 from h1.symm]at a1
 have a2:=yQ0 16 x1 a1.2;rw[qV1,show dW1 3689348814741910323 x1=x2 from h2.symm]at a2
 have ie:x2<18446744073709551616:=by omega
 have a3:=yO0 8 x2 a2.2 ie;rw[qY1,show dY1 1085102592571150095 x2=x3 from h3.symm]at a3
 obtain⟨s3,d3⟩:=a3;have hs:zG 256 8 x3=zG 2 64 x:=by rw[s3];exact a2.1.trans a1.1
 rw[<-hs];clear s3 a1 a2 hs;refine⟨by omega,ie,by omega,by omega,?_⟩;simp only[hS1,and_true]at d3;obtain⟨c0,c1,c2,c3,c4,c5,c6,c7⟩:=d3;simp only[zG,Cc,kJ1,Aa,Ak]
 have e7:x3/256/256/256/256/256/256/256%256=x3/256/256/256/256/256/256/256:=by
  apply Bc
  simp only[Bd];exact Nat.div_lt_of_lt_mul (by omega)
 have hX:x3=x3%256+256*(x3/256%256+256*(x3/256/256%256+256*(x3/256/256/256%256+256*(x3/256/256/256/256%256+256*(x3/256/256/256/256/256%256+256*(x3/256/256/256/256/256/256%256+256*(x3/256/256/256/256/256/256/256%256))))))):=by
  rw[e7,Af,Af,Af,Af,Af,Af,Af]
 exact lA1 c0 c1 c2 c3 c4 c5 c6 c7 hX
def sG (f:Nat->Bool) (base:Nat):Nat->Nat
 | 0=>0
 | k+1=>sG f base k+(if f (base+k) then 1 else 0)
theorem dR0 (f:Nat->Bool) (base:Nat):∀k,sG f base (k+1)=(if f base then 1 else 0)+sG f (base+1) k
 | 0=>by simp[sG]
 | k+1=>by
  rw[sG,dR0 f base k,sG,show base+1+k=base+(k+1) by omega]
  omega
theorem yY (f:Nat->Bool) (base a:Nat):∀b,sG f base (a+b)=sG f base a+sG f (base+a) b
 | 0=>by simp[sG]
 | b+1=>by rw[show a+(b+1)=a+b+1 by omega,sG,yY f base a b,sG,By base];omega
theorem aU0 (f:Nat->Bool) (base:Nat):∀k,fU f base (k+1)=(if f base then 1 else 0)+2*fU f (base+1) k
 | 0=>by simp[fU]
 | k+1=>by
  rw[fU,aU0 f base k,fU,show base+1+k=base+(k+1) by omega,Ax]
  by_cases h:f (base+(k+1))=true
  ·rw[if_pos h,if_pos h];omega
  ·rw[if_neg h,if_neg h];omega
theorem aW0 (f:Nat->Bool):∀k base,zG 2 k (fU f base k)=sG f base k
 | 0,_=>rfl
 | k+1,base=>by
  rw[dR0,<-aW0 f k (base+1),zG,aU0];by_cases h:f base=true
  ·rw[if_pos h,show (1+2*fU f (base+1) k)%2=1 by omega,show (1+2*fU f (base+1) k)/2=fU f (base+1) k by omega]
  ·rw[if_neg h,show (0+2*fU f (base+1) k)%2=0 by omega,show (0+2*fU f (base+1) k)/2=fU f (base+1) k by omega]
def bitOf (l:List Bool) (i:Nat):Bool:=l.getD i false
theorem kM0 {l:List Bool} {i:Nat} (h:l.length<=i):bitOf l i=false:=by
 grind [bitOf]
theorem uY (l:List Bool) (b:Bool) (i:Nat):bitOf (l++[b]) i=(bitOf l i||(decide (i=l.length)&&b)):=by
 grind [bitOf]
def nH (l:List Bool) (q:Nat):Nat:=fU (bitOf l) (64*q) 64
theorem pM (l:List Bool) (q:Nat):nH l q<18446744073709551616:=kJ _ _ 64
theorem iD1 (q:Nat):nH [] q=0:=by
 symm
 exact iM (Bf _) (by grind [bitOf])
theorem sZ0 (l:List Bool) (q:Nat):nH (l++[false]) q=nH l q:=by
 grind [lI,uY,nH]
theorem yW0 {l:List Bool} {q s:Nat} (hq:l.length=64*q+s) :
  nH (l++[true]) q=nH l q|||(1<<<s)%18446744073709551616:=by
 symm
 apply iM
 ·exact Ap (pM l q) (by omega)
 ·intro t ht
  rw[Az,uY,nH,dK,hq,show 18446744073709551616=2^64 from rfl,Ad,Nat.one_shiftLeft,Bj]
  grind
theorem cA1 {l:List Bool} {b:Bool} {q s r:Nat} (hs:s<64) (hq:l.length=64*q+s) (hr:r≠q):nH (l++[b]) r=nH l r:=by
 grind [lI,uY,nH]
def eC (l:List Bool) (i:Nat):Nat:=sG (bitOf l) 0 i
theorem dN0 (l:List Bool) (q:Nat):eC l (64*(q+1))=eC l (64*q)+zG 2 64 (nH l q):=by
 unfold eC nH;rw[aW0,show 64*(q+1)=64*q+64 by omega,yY,Aq]
theorem gN (l:List Bool) (i:Nat):eC l (i+1)=eC l i+(if bitOf l i then 1 else 0):=by
 unfold eC;rw[sG,Aq]
theorem yG0 (f:Nat->Bool) (base:Nat):∀k,sG f base k<=k
 | 0=>Ah _
 | k+1=>by
  have:=yG0 f base k
  grind [sG]
theorem oB (l:List Bool) (i:Nat):eC l i<=i:=yG0 _ _ _
theorem jL0 (f:Nat->Bool) (base:Nat):∀k,(∀t,t<k->f (base+t)=false)->sG f base k=0
 | 0,_=>rfl
 | k+1,h=>by rw[sG,jL0 f base k (by grind),h k (by omega)];simp
def mQ (l:List Bool):List Nat:=(Ba ((l.length+63)/64)).map (nH l)
def uJ (l:List Bool):List Nat:=(Ba ((l.length+511)/512)).map λg=>eC l (512*g)
def oT (l:List Bool):List UInt8:=leB 4 l.length++((mQ l).map (leB 8)).flatten++((uJ l).map (leB 4)).flatten
theorem pD (k:Nat):∀(l:List Nat),((l.map (leB k)).flatten).length=k*l.length
 | []=>by simp
 | a::l=>by
  have:=pD k l
  grind [leB]
theorem nX (l:List Bool):(oT l).length=4+8*((l.length+63)/64)+4*((l.length+511)/512):=by
 unfold oT mQ uJ;grind [pD,leB]
theorem vV0 {v s t:Nat} (ht:t<64):((v<<<s)%18446744073709551616).testBit t=(decide (s<=t)&&v.testBit (t-s)):=by
 rw[show 18446744073709551616=2^64 from rfl,Ad,Bi]
 simp[ht]
theorem eP0 {f g:Nat->Bool} {a b:Nat}:∀k,(∀t,t<k->f (a+t)=g (b+t))->sG f a k=sG g b k
 | 0,_=>rfl
 | k+1,h=>by rw[sG,sG,eP0 k (λt ht=>h t (by omega)),h k (by omega)]
theorem yX0 (l:List Bool) (q s:Nat) (hs:s<64):eC l (64*q)+zG 2 64 ((nH l q<<<(63-s))%18446744073709551616)=eC l (64*q+s+1):=by
 have h1:(nH l q<<<(63-s))%18446744073709551616=fU (λj=>decide (63-s<=j)&&bitOf l (64*q+(j-(63-s)))) 0 64:=by
  apply iM
  ·exact Ay _ (by decide)
  ·intro t ht
   rw[vV0 ht,nH,dK,Aq];by_cases h:63-s<=t
   ·simp[h,show t-(63-s)<64 by omega]
   ·simp[h]
 obtain⟨f,hf⟩:∃f:Nat->Bool,f=λj=>decide (63-s<=j)&&bitOf l (64*q+(j-(63-s))):=⟨_,rfl⟩;rw[h1,<-hf,aW0];have h2:sG f 0 64=sG f 0 ((63-s)+(s+1)):=congrArg (sG f 0) (by omega);have h3:=yY f 0 (63-s) (s+1);have h4:sG f 0 (63-s)=0:=jL0 _ 0 (63-s) (λt ht=>by rw[hf];simp;omega)
 have h5:sG f (0+(63-s)) (s+1)=sG (bitOf l) (64*q) (s+1):=by
  apply eP0
  intro t _;rw[hf];simp
 have h6:=yY (bitOf l) 0 (64*q) (s+1);unfold eC;rw[Aq]at h6;rw[h2,h3,h4,h5,Aq,show 64*q+s+1=64*q+(s+1) by omega,h6]
def jU (l:List Bool) (b:Bool) (i:Nat):Nat:=if b then eC l i else i-eC l i
theorem qP (p:Nat->Bool) (j:Nat):∀n,(∀i,i<n->p i=decide (i<j))->(Ba n).countP p=min j n
 | 0,_=>by simp
 | n+1,h=>by
  rw[Bu,List.countP_append,qP p j n (by grind),List.countP_singleton,h n (by omega)];grind
theorem uX (l:List Bool) (b:Bool) (i:Nat):jU l b (i+1)=jU l b i+(if bitOf l i=b then 1 else 0):=by
 grind [gN,oB,jU]
theorem qS (l:List Bool) (b:Bool) {i j:Nat} (h:i<=j):jU l b i<=jU l b j:=by
 induction j with
 | zero=>simp_all
 | succ j ih =>
  by_cases kw:i=j+1
  ·simp_all
  ·rw[uX]
   omega
theorem oI1 (l:List Bool) (b:Bool) {j k n:Nat} (hj:j<n) (hb:bitOf l j=b) (hk:jU l b j=k):(Ba n).countP (λi => !decide (k<jU l b (i+1)))=j:=by
 have hs:jU l b (j+1)=k+1:=by rw[uX,hk,hb];simp
 rw[qP _ j n (λi _=>?_)]
 ·omega
 ·by_cases hi:i<j
  ·have:=qS l b (show i+1<=j by omega)
   simp[hi];omega
  ·have:=qS l b (show j+1<=i+1 by omega)
   simp[hi];omega
def zH:List UInt8->Nat
 | []=>0
 | c::b=>c.toNat+256*zH b
theorem bJ0:∀(b:List UInt8) (c:UInt8),zH (b++[c])=zH b+c.toNat*256^b.length
 | [],c=>by simp[zH]
 | d::b,c=>by
  rw[Bq,zH,zH,bJ0 b c,Bs,Ax,Nat.mul_add,By];congr 2
  rw[<-Bz,Aw 256,Bz,Aw 256]
theorem pF0:∀(b:List UInt8),zH b<256^b.length
 | []=>by simp[zH]
 | c::b=>by
  have h:=pF0 b;have hc:=c.toNat_lt;rw[zH,Bs,Ax];omega
theorem sK0 {b:List UInt8} (h:b.length<=8):zH b<18446744073709551616 :=
 Ai (pF0 b) (by
  have:256^b.length<=256^8:=Ag (by decide) h
  exact this)
theorem fU0:∀(k n:Nat),zH (leB k n)=n%256^k
 | 0,n=>by simp[leB,zH,Nat.mod_one]
 | k+1,n=>by
  rw[jI1,zH,fU0 k (n/256),Ax,Aw (256^k) 256,Nat.mod_mul];simp
theorem mG1 {b:List UInt8} {c:UInt8} (h:b.length<8):zH b|||(c.toNat<<<(8*b.length))%18446744073709551616=zH (b++[c]):=by
 have h1:=pF0 b;have e:256^b.length=2^(8*b.length):=by rw[Nat.pow_mul]
 rw[e]at h1;have hs:=sK0 (b:=b++[c]) (by simp;omega);rw[bJ0,e]at hs;rw[bJ0,e,<-Bt,Bc (by rw[Bt];omega),Nat.or_comm,<-Nat.shiftLeft_add_eq_or_of_lt h1,Cb]
theorem dY0 (s:Nat):∀(l:List Nat) (k n:Nat) (t:List UInt8),l[k]?=some n->(((l.map (leB s)).flatten++t).drop (s*k)).take s=leB s n
 | [],k,n,t,h=>by simp at h
 | m::l,0,n,t,h=>by
  obtain rfl:m=n:=by simpa using h
  rw[Nat.mul_zero,List.drop_zero,Bk,Bp,Ar,At (by rw[bN];exact Ah _),Be (by rw[bN];exact Ah _)]
 | m::l,k+1,n,t,h=>by
  rw[Bk,Bp,Ar,List.drop_append,bN,show s*(k+1)-s=s*k by rw[Ce];omega,List.drop_eq_nil_of_le (by rw[bN,Ce];omega),List.nil_append]
  exact dY0 s l k n t (by simpa using h)
theorem bQ1 (l:List Bool):(oT l).take 4=leB 4 l.length:=by
 unfold oT;rw[Ar,At (by rw[bN];exact Ah _),Be (by rw[bN];exact Ah _)]
theorem bK1 {l:List Bool} {k:Nat} (h:k<(l.length+63)/64):((oT l).drop (4+8*k)).take 8=leB 8 (nH l k):=by
 unfold oT;rw[Ar,<-List.drop_drop,List.drop_left' (bN 4 _)];exact dY0 8 (mQ l) k _ _ (by unfold mQ;rw[List.getElem?_map,List.getElem?_range h];rfl)
theorem gO1 {l:List Bool} {q:Nat} (h:l.length<=64*q+64) (h2:64*q<l.length) (h3:l.length%64≠0):nH l q/2^(l.length%64)=0:=by
 rw[<-Aa];apply Ac
 intro t;rw[Aj,nH,dK,Br];by_cases ht:l.length%64+t<64
 ·rw[kM0 (by omega)];simp
 ·simp[ht]
theorem iE1 (l:List Bool) (i:Nat):(nH l (i/64)>>>(i%64))&&&1=if bitOf l i then 1 else 0:=by
 apply Ac
 intro t;rw[Bg,Aj,nH,dK]
 cases t with
 | zero =>
  rw[show 64*(i/64)+(i%64+0)=i by omega]
  cases bitOf l i<;>simp<;>omega
 | succ t =>
  have h1:Nat.testBit 1 (t+1)=false:=by rw[Nat.testBit_succ];simp
  cases bitOf l i<;>simp[h1]
end
end Go.Proofs.YthgklnohcmaopaaGreatDoor
