/- The texts BitsP PackP PopP VecP RnkP SelP CrcP BvDP, one behind the other. -/
import Derived.Test.YthgklnohcmaopaaGreatDoorRows
open Nat renaming shiftRight_eq_div_pow → Aa,and_two_pow_sub_one_eq_mod → Ab,eq_of_testBit_eq → Ac,testBit_mod_two_pow → Ad,mod_two_eq_zero_or_one → Ae,mod_add_div → Af,pow_le_pow_right → Ag,le_refl → Ah,lt_of_lt_of_le → Ai,testBit_shiftRight → Aj,reducePow → Ak,testBit_two_pow_mul_add → Al,and_le_right → Am,lt_of_le_of_lt → An,testBit_lt_two_pow → Ao,or_lt_two_pow → Ap,zero_add → Aq,xor_assoc → As,testBit_xor → Au,testBit_div_two → Av,mul_comm → Aw,pow_succ → Ax,testBit_or → Ay,mod_lt → Ba,mod_eq_of_lt → Bc,div_div_eq_div_mul → Bd,two_pow_pos → Bf,testBit_and → Bg,div_le_self → Bh,testBit_shiftLeft → Bi,testBit_two_pow → Bj,xor_lt_two_pow → Bn,lt_trans → Bo,zero_testBit → Bq,shiftLeft_eq → Bt,add_le_add → Bv,add_lt_add → Bw,add_assoc → By,mul_assoc → Bz,add_comm → Ca,add_zero → Cb,pow_zero → Cc,xor_comm → Cd,mul_succ → Ce
open List renaming append_assoc → Ar,take_append_of_le_length → At,range → Az,take_of_length_le → Be,map_cons → Bk,flatten_cons → Bp,cons_append → Br,length_cons → Bs,range_succ → Bu
open UInt8 renaming ofNat → Bb
namespace Go.Proofs.YthgklnohcmaopaaGreatDoor
section
open Go
def dX (f:Nat->Bool) (base:Nat):Nat->Nat
 | 0=>0
 | k+1=>dX f base k+(if f (base+k) then 2^k else 0)
theorem gN (f:Nat->Bool) (base:Nat):∀k,dX f base k<2^k
 | 0=>by simp[dX]
 | k+1=>by
  have:=gN f base k
  grind [dX]
theorem cJ (f:Nat->Bool) (base:Nat):∀k t,(dX f base k).testBit t=(decide (t<k)&&f (base+t))
 | 0,t=>by simp[dX]
 | k+1,t=>by
  have ae:=gN f base k;unfold dX;by_cases hf:f (base+k)=true
  ·rw[if_pos hf,Ca,<-Nat.one_mul (2^k),Aw 1,Nat.two_pow_add_eq_or_of_lt ae,Ay,cJ f base k t,Nat.mul_one,Bj]
   grind
  ·have hf2:f (base+k)=false:=by simpa using hf
   rw[if_neg hf,Cb,cJ f base k t];grind
theorem fM {f:Nat->Bool} {base k n:Nat} (hn:n<2^k) (h:∀t,t<k->n.testBit t=f (base+t)):n=dX f base k:=by
 apply Ac
 intro t;rw[cJ];by_cases ht:t<k
 ·rw[h t ht];simp[ht]
 ·simp only[ht,decide_false,Bool.false_and]
  grind [Ao,Ai,Ag]
theorem gY {f g:Nat->Bool} {base base' k:Nat} (h:∀t,t<k->f (base+t)=g (base'+t)):dX f base k=dX g base' k:=by
 apply fM (gN _ _ _)
 grind [cJ]
def leB (k n:Nat):List UInt8:=(Az k).map λi=>Bb (n/256^i)
theorem bD (k n:Nat):(leB k n).length=k:=by simp[leB]
theorem tO0 (k n:Nat):leB (k+1) n=Bb n::leB k (n/256):=by
 unfold leB;rw[List.range_succ_eq_map,Bk,List.map_map];simp only[Cc,Nat.div_one,List.cons.injEq,true_and];grind [List.map_congr_left,Bd]
theorem rO0 (k n:Nat):leB (k+1) n=leB k n++[Bb (n/256^k)]:=by
 unfold leB;rw[Bu,List.map_append];rfl
def bitLen (n:Nat):Nat:=if n=0 then 0 else n.log2+1
theorem bZ0 {n w:Nat}:bitLen n<=w↔n<2^w:=by
 unfold bitLen;by_cases h:n=0
 ·grind
 ·rw[if_neg h]
  grind [Nat.log2_lt]
theorem zO0 {a b w:Nat}:a|||b<2^w↔a<2^w/\b<2^w :=
 (by grind [Nat.right_le_or,Ap])
def uP (l:List Nat):Nat:=l.foldl (· ||| ·) 0
def lD (l:List Nat):Nat:=bitLen (uP l)
theorem iR0 (l:List Nat) (n:Nat):uP (l++[n])=uP l|||n:=by simp[uP]
theorem fU0 {w:Nat}:∀ {l:List Nat},uP l<2^w↔∀n∈l,n<2^w:=by
 have key:∀(l:List Nat) (a:Nat),l.foldl (· ||| ·) a<2^w↔a<2^w/\∀n∈l,n<2^w:=by
  intro l
  induction l with
  | nil=>intro a;simp
  | cons b l ih =>
   intro a;rw[List.foldl_cons,ih,zO0];grind
 grind [uP]
theorem oE0 {l:List Nat} {n:Nat} (h:n∈l):n<2^lD l:=fU0.1 (bZ0.1 (Ah _)) n h
theorem mA {l:List Nat} {w:Nat}:lD l<=w↔∀n∈l,n<2^w:=by unfold lD; rw[bZ0,fU0]
def bitAt (l:List Nat) (w pos:Nat):Bool:=(l.getD (pos/w) 0).testBit (pos%w)
theorem sV {l:List Nat} {w pos:Nat} (hw:0<w) (h:l.length*w<=pos):bitAt l w pos=false:=by
 unfold bitAt
 have:l.length<=pos/w:=(Nat.le_div_iff_mul_le hw).2 h
 simp_all
theorem qE {l:List Nat} {w v:Nat} (hw:0<w) (hv:v<2^w) (pos:Nat) :
  bitAt (l++[v]) w pos=(bitAt l w pos||(decide (l.length*w<=pos)&&v.testBit (pos-l.length*w))):=by
 by_cases h:pos<l.length*w
 ·have h1:pos/w<l.length:=(Nat.div_lt_iff_lt_mul hw).2 h
  grind [bitAt]
 ·have h0:l.length*w<=pos:=by omega
  rw[sV hw h0];simp only[h0,decide_true,Bool.true_and,Bool.false_or];by_cases h2:pos<(l.length+1)*w
  ·have h3:pos/w=l.length:=by
    apply Nat.div_eq_of_lt_le
    ·exact h0
    ·exact h2
   have h4:pos%w=pos-l.length*w:=by
    have:=Nat.div_add_mod pos w
    rw[h3,Aw]at this;omega
   grind [bitAt]
  grind [sV,Ao,Ai,Ag]
def uU (l:List Nat):List UInt8:=(Az ((l.length*lD l+7)/8)).map λj=>Bb (dX (bitAt l (lD l)) (8*j) 8)
def bV (l:List Nat):List UInt8:=leB 4 l.length++[Bb (lD l)]++uU l
def eX (l:List Nat) (w q:Nat):Nat:=dX (bitAt l w) (64*q) 64
theorem pI0 (w q:Nat):eX [] w q=0:=by
 symm
 exact fM (Bf _) (by grind [bitAt])
theorem kF (l:List Nat) (w q:Nat):eX l w q<18446744073709551616:=gN _ _ 64
theorem yM {v s t:Nat} (ht:t<64):((v<<<s)%18446744073709551616).testBit t=(decide (s<=t)&&v.testBit (t-s)):=by
 rw[show 18446744073709551616=2^64 from rfl,Ad,Bi]
 simp[ht]
theorem aG0 {l:List Nat} {w v q s:Nat} (hw:0<w) (hv:v<2^w) (hq:l.length*w=64*q+s) :
  eX (l++[v]) w q=eX l w q|||(v<<<s)%18446744073709551616:=by
 symm
 apply fM
 ·exact Ap (kF l w q) (by omega)
 ·intro t ht
  rw[Ay,yM ht,qE hw hv,eX,cJ,hq];grind
theorem iM0 {l:List Nat} {w v q s:Nat} (hw:0<w) (hv:v<2^w) (yo:w<=64) (hs:s<64) (hq:l.length*w=64*q+s) :
  eX (l++[v]) w (q+1)=eX l w (q+1)|||v>>>(64-s):=by
 symm
 apply fM
 ·refine Ap (kF l w (q+1)) ?_
  refine An (Nat.shiftRight_le v _) (Ai hv (Ag (by decide) yo))
 ·intro t ht
  rw[Ay,Aj,qE hw hv,eX,cJ,hq];grind
theorem vQ {l:List Nat} {w v q s r:Nat} (hw:0<w) (hv:v<2^w) (hs:s<64) (hq:l.length*w=64*q+s)
  (hr:r≠q) (cd:r=q+1->s+w<=64) (yo:w<=64):eX (l++[v]) w r=eX l w r:=by
 grind [gY,qE,Ao,Ai,Ag,eX]
theorem xC (l:List Nat) (q:Nat) (h:∀n∈l,n<2^0):eX l 0 q=0:=by
 symm
 refine fM (Bf _) (λt _=>?_);unfold bitAt;simp only[Nat.div_zero,Nat.mod_zero,Bq]
 cases l with
 | nil=>simp
 | cons a l =>
  simp_all
theorem kJ0 (l:List Nat) (w i:Nat):(eX l w (i/8)>>>(i%8*8))%256=dX (bitAt l w) (8*i) 8:=by
 apply fM
 ·omega
 ·intro t ht
  rw[show 256=2^8 from rfl,Ad,Aj,eX,cJ]
  grind
theorem pA (l:List Nat):(bV l).length=5+(l.length*lD l+7)/8:=by
 unfold bV uU;simp[bD];omega
def sU (B:Nat):Nat->Nat->Nat
 | 0,_=>0
 | n+1,x=>x%B+sU B n (x/B)
def rB0 (B M:Nat):Nat->Nat->Prop
 | 0,_=>True
 | n+1,x=>x%B<=M/\rB0 B M n (x/B)
def fD (B d:Nat):Nat->Nat
 | 0=>0
 | n+1=>B*fD B d n+d
theorem mC {k a b r s:Nat} (hr:r<2^k) (hs:s<2^k):(2^k*a+r)&&&(2^k*b+s)=2^k*(a&&&b)+(r&&&s):=by
 apply Ac
 intro i;have hrs:r&&&s<2^k:=An Nat.and_le_left hr;rw[Bg,Al a hr,Al b hs,Al _ hrs,Bg];by_cases h:i<k
 ·simp[h]
 ·simp[h]
theorem aB1 (r:Nat):r&&&1=r%2:=Ab r 1
theorem zW0 (r:Nat):r&&&3=r%4:=Ab r 2
theorem zJ0 (r:Nat):r&&&15=r%16:=Ab r 4
theorem uJ0 (r:Nat):r&&&127=r%128:=Ab r 7
def pY0 (m x:Nat):Nat:=((x>>>1)&&&m)+(x&&&m)
theorem mD0 (m x:Nat):pY0 (4*m+1) x=4*pY0 m (x/4)+(x%2+x/2%2):=by
 unfold pY0;have h1:=mC (k:=2) (a:=x/4) (b:=m) (r:=x%4) (s:=1) (Ba _ (by decide)) (by decide);have h2:=mC (k:=2) (a:=x/2/4) (b:=m) (r:=x/2%4) (s:=1) (Ba _ (by decide)) (by decide);rw[aB1]at h1 h2;simp only[Ak]at h1 h2;rw[show 4*(x/4)+x%4=x by omega]at h1
 rw[show 4*(x/2/4)+x/2%4=x/2 by omega]at h2
 rw[Aa,Aa,Nat.pow_one,h1,h2,show x/2/4=x/4/2 by omega]
 omega
theorem nM0:∀n x,sU 4 n (pY0 (fD 4 1 n) x)=sU 2 (2*n) x/\rB0 4 2 n (pY0 (fD 4 1 n) x)
 | 0,x=>⟨rfl,trivial⟩
 | n+1,x=>by
  have ih:=nM0 n (x/4);have hs:=mD0 (fD 4 1 n) x;rw[show 4*fD 4 1 n+1=fD 4 1 (n+1) from rfl]at hs
  refine⟨?_,?_⟩
  ·rw[hs,show 2*(n+1)=2*n+1+1 by omega]
   simp only[sU];rw[show (4*pY0 (fD 4 1 n) (x/4)+(x%2+x/2%2))/4=pY0 (fD 4 1 n) (x/4) by omega,ih.1,show x/2/2=x/4 by omega]
   omega
  ·rw[hs]
   refine⟨by omega,?_⟩;rw[show (4*pY0 (fD 4 1 n) (x/4)+(x%2+x/2%2))/4=pY0 (fD 4 1 n) (x/4) by omega]
   exact ih.2
def qA0 (m x:Nat):Nat:=((x>>>2)&&&m)+(x&&&m)
theorem mJ0 (m x:Nat):qA0 (16*m+3) x=16*qA0 m (x/16)+(x%4+x/4%4):=by
 unfold qA0;have h1:=mC (k:=4) (a:=x/16) (b:=m) (r:=x%16) (s:=3) (Ba _ (by decide)) (by decide);have h2:=mC (k:=4) (a:=x/4/16) (b:=m) (r:=x/4%16) (s:=3) (Ba _ (by decide)) (by decide);rw[zW0]at h1 h2;simp only[Ak]at h1 h2;rw[show 16*(x/16)+x%16=x by omega]at h1
 rw[show 16*(x/4/16)+x/4%16=x/4 by omega]at h2
 simp only[Aa,Ak];rw[h1,h2,show x/4/16=x/16/4 by omega]
 omega
theorem mS0:∀n x,rB0 4 2 (2*n) x->sU 16 n (qA0 (fD 16 3 n) x)=sU 4 (2*n) x/\rB0 16 4 n (qA0 (fD 16 3 n) x)
 | 0,x,_=>⟨rfl,trivial⟩
 | n+1,x,h=>by
  rw[show 2*(n+1)=2*n+1+1 by omega]at h ⊢
  simp only[rB0]at h;rw[show x/4/4=x/16 by omega]at h
  have ih:=mS0 n (x/16) h.2.2;have hs:=mJ0 (fD 16 3 n) x;rw[show 16*fD 16 3 n+3=fD 16 3 (n+1) from rfl]at hs
  refine⟨?_,?_⟩
  ·rw[hs]
   simp only[sU];rw[show (16*qA0 (fD 16 3 n) (x/16)+(x%4+x/4%4))/16=qA0 (fD 16 3 n) (x/16) by omega,ih.1,show x/4/4=x/16 by omega]
   omega
  ·rw[hs]
   refine⟨by omega,?_⟩;rw[show (16*qA0 (fD 16 3 n) (x/16)+(x%4+x/4%4))/16=qA0 (fD 16 3 n) (x/16) by omega]
   exact ih.2
def qB0 (m x:Nat):Nat:=(x>>>4+x)&&&m
theorem pL0 (m x:Nat) (h0:x%16<=4) (h1:x/16%16<=4) (h2:x/256%16<=4):qB0 (256*m+15) x=256*qB0 m (x/256)+(x%16+x/16%16):=by
 unfold qB0
 have e1:x>>>4+x=256*((x/256)>>>4+x/256)+(16*(x/256%16)+x%256/16+x%256):=by
  simp only[Aa,Ak];omega
 have h:=mC (k:=8) (a:=(x/256)>>>4+x/256) (b:=m) (r:=16*(x/256%16)+x%256/16+x%256) (s:=15) (by simp only[Ak];omega) (by decide);rw[zJ0]at h;simp only[Ak]at h;rw[<-e1]at h;rw[h];omega
theorem lE0:∀n x,rB0 16 4 (2*n) x->x<256^n->sU 256 n (qB0 (fD 256 15 n) x)=sU 16 (2*n) x/\rB0 256 8 n (qB0 (fD 256 15 n) x)
 | 0,x,_,_=>⟨rfl,trivial⟩
 | n+1,x,h,hx=>by
  rw[show 2*(n+1)=2*n+1+1 by omega]at h ⊢
  simp only[rB0]at h;rw[show x/16/16=x/256 by omega]at h
  have jy:x/256<256^n:=by rw[Ax]at hx;omega
  have ih:=lE0 n (x/256) h.2.2 jy
  have h3:x/256%16<=4:=by
   cases n with
   | zero=>simp only[Cc]at jy;omega
   | succ k =>
    have h4:=h.2.2;rw[show 2*(k+1)=2*k+1+1 by omega]at h4
    exact h4.1
  have hs:=pL0 (fD 256 15 n) x h.1 h.2.1 h3;rw[show 256*fD 256 15 n+15=fD 256 15 (n+1) from rfl]at hs
  refine⟨?_,?_⟩
  ·rw[hs]
   simp only[sU];rw[show (256*qB0 (fD 256 15 n) (x/256)+(x%16+x/16%16))/256=qB0 (fD 256 15 n) (x/256) by omega,ih.1,show x/16/16=x/256 by omega]
   omega
  ·rw[hs]
   refine⟨by omega,?_⟩;rw[show (256*qB0 (fD 256 15 n) (x/256)+(x%16+x/16%16))/256=qB0 (fD 256 15 n) (x/256) by omega]
   exact ih.2
theorem zQ0:fD 4 1 32=6148914691236517205:=by decide +kernel
theorem zF0:fD 16 3 16=3689348814741910323:=by decide +kernel
theorem zH0:fD 256 15 8=1085102592571150095:=by decide +kernel
theorem lM0 {lo B hi:Nat} (h:lo<B):(lo+B*hi)/B=hi:=by
 rw[Nat.add_mul_div_left _ _ (by omega),Nat.div_eq_of_lt h,Aq]
theorem wF0 {x b0 b1 b2 b3 b4 b5 b6 b7:Nat} (h0:b0<=8) (h1:b1<=8) (h2:b2<=8) (h3:b3<=8) (h4:b4<=8) (h5:b5<=8) (h6:b6<=8) (h7:b7<=8)
  (hX:x=b0+256*(b1+256*(b2+256*(b3+256*(b4+256*(b5+256*(b6+256*b7))))))) :
  ∃Y Z,x+x/256=Y/\Y+Y/65536=Z/\Y<18446744073709551616/\Z<18446744073709551616/\Z+Z/4294967296<18446744073709551616 /\
  (Z+Z/4294967296)%128=b0+(b1+(b2+(b3+(b4+(b5+(b6+b7)))))):=by
 have kw:x<1152921504606846976:=by omega
 have q1:x/256=b1+256*(b2+256*(b3+256*(b4+256*(b5+256*(b6+256*b7))))):=by rw[hX];exact lM0 (by omega)
 have hY:x+x/256=((b0+b1)+256*(b1+b2))+65536*((b2+b3)+256*(b3+b4)+65536*((b4+b5)+256*(b5+b6)+65536*((b6+b7)+256*b7))):=by rw[q1,hX];omega
 have hY0:x+x/256<2305843009213693952:=by
  have:=Bh x 256
  omega
 rw[hY]at hY0;refine⟨_,_,hY,rfl,?_⟩;clear hY q1 hX kw x;have q2:(((b0+b1)+256*(b1+b2))+65536*((b2+b3)+256*(b3+b4)+65536*((b4+b5)+256*(b5+b6)+65536*((b6+b7)+256*b7))))/65536=(b2+b3)+256*(b3+b4)+65536*((b4+b5)+256*(b5+b6)+65536*((b6+b7)+256*b7)):=lM0 (by omega);have hZ0:=Bh ((((b0+b1)+256*(b1+b2))+65536*((b2+b3)+256*(b3+b4)+65536*((b4+b5)+256*(b5+b6)+65536*((b6+b7)+256*b7))))) 65536;rw[q2]at hZ0 ⊢;refine⟨Bo hY0 (by decide),?_⟩;have hZ1:=An (Bv (Ah _) hZ0) (Bw hY0 hY0);clear hZ0 hY0;have hZ:(((b0+b1)+256*(b1+b2))+65536*((b2+b3)+256*(b3+b4)+65536*((b4+b5)+256*(b5+b6)+65536*((b6+b7)+256*b7))))+((b2+b3)+256*(b3+b4)+65536*((b4+b5)+256*(b5+b6)+65536*((b6+b7)+256*b7)))=((b0+b1+b2+b3)+128*(2*(b1+b2+b3+b4)+512*((b2+b3+b4+b5)+256*(b3+b4+b5+b6))))+4294967296*((b4+b5+b6+b7)+128*(2*(b5+b6+b7)+512*((b6+b7)+256*b7))):=by omega
 rw[hZ]at hZ1 ⊢;clear hZ q2;refine⟨Bo hZ1 (by decide),?_⟩;have q3:(((b0+b1+b2+b3)+128*(2*(b1+b2+b3+b4)+512*((b2+b3+b4+b5)+256*(b3+b4+b5+b6))))+4294967296*((b4+b5+b6+b7)+128*(2*(b5+b6+b7)+512*((b6+b7)+256*b7))))/4294967296=(b4+b5+b6+b7)+128*(2*(b5+b6+b7)+512*((b6+b7)+256*b7)):=lM0 (by omega);generalize hK:2*(b1+b2+b3+b4)+512*((b2+b3+b4+b5)+256*(b3+b4+b5+b6))=K at *;generalize hM:2*(b5+b6+b7)+512*((b6+b7)+256*b7)=M at *;refine⟨?_,?_⟩
 ·have:=Bh (b0+b1+b2+b3+128*K+4294967296*(b4+b5+b6+b7+128*M)) 4294967296
  exact An (Bv (Ah _) this) (Bo (Bw hZ1 hZ1) (by decide))
 ·rw[q3]
  clear q3 hZ1 hK hM;have e:b0+b1+b2+b3+128*K+4294967296*(b4+b5+b6+b7+128*M)+(b4+b5+b6+b7+128*M)=(b0+(b1+(b2+(b3+(b4+(b5+(b6+b7)))))))+128*(K+33554432*(b4+b5+b6+b7+128*M)+M):=by omega
  have hS:b0+(b1+(b2+(b3+(b4+(b5+(b6+b7))))))<128:=by omega
  rw[e,Nat.add_mul_mod_self_left];exact Bc hS
theorem zG0 {x x1 x2 x3:Nat} (h1:x1=((x>>>1)&&&6148914691236517205)+(x&&&6148914691236517205))
  (h2:x2=((x1>>>2)&&&3689348814741910323)+(x1&&&3689348814741910323)) (h3:x3=(x2>>>4+x2)&&&1085102592571150095) :
  x1<18446744073709551616/\x2<18446744073709551616/\x2>>>4+x2<18446744073709551616/\x3<18446744073709551616 /\
  ∃Y Z,x3+x3>>>8=Y/\Y+Y>>>16=Z/\Y<18446744073709551616/\Z<18446744073709551616/\Z+Z>>>32<18446744073709551616 /\
  (Z+Z>>>32)&&&127=sU 2 64 x:=by
 have b1:(x>>>1)&&&6148914691236517205<=6148914691236517205:=Am;have b2:x&&&6148914691236517205<=6148914691236517205:=Am;have b3:(x1>>>2)&&&3689348814741910323<=3689348814741910323:=Am;have b4:x1&&&3689348814741910323<=3689348814741910323:=Am;have b5:x3<=1085102592571150095:=by rw[h3];exact Am
 have b6:x2>>>4<=x2/16:=by rw[Aa];exact Ah _
 have a1:=nM0 32 x;rw[zQ0,show pY0 6148914691236517205 x=x1 from h1.symm]at a1
 have a2:=mS0 16 x1 a1.2;rw[zF0,show qA0 3689348814741910323 x1=x2 from h2.symm]at a2
 have jy:x2<18446744073709551616:=by omega
 have a3:=lE0 8 x2 a2.2 jy;rw[zH0,show qB0 1085102592571150095 x2=x3 from h3.symm]at a3
 obtain⟨s3,d3⟩:=a3;have hs:sU 256 8 x3=sU 2 64 x:=by rw[s3];exact a2.1.trans a1.1
 rw[<-hs];clear s3 a1 a2 hs;refine⟨by omega,jy,by omega,by omega,?_⟩;simp only[rB0,and_true]at d3;obtain⟨c0,c1,c2,c3,c4,c5,c6,c7⟩:=d3;simp only[sU,Cb,uJ0,Aa,Ak]
 have e7:x3/256/256/256/256/256/256/256%256=x3/256/256/256/256/256/256/256:=by
  apply Bc
  simp only[Bd];exact Nat.div_lt_of_lt_mul (by omega)
 have hX:x3=x3%256+256*(x3/256%256+256*(x3/256/256%256+256*(x3/256/256/256%256+256*(x3/256/256/256/256%256+256*(x3/256/256/256/256/256%256+256*(x3/256/256/256/256/256/256%256+256*(x3/256/256/256/256/256/256/256%256))))))):=by
  rw[e7,Af,Af,Af,Af,Af,Af,Af]
 exact wF0 c0 c1 c2 c3 c4 c5 c6 c7 hX
def oG (f:Nat->Bool) (base:Nat):Nat->Nat
 | 0=>0
 | k+1=>oG f base k+(if f (base+k) then 1 else 0)
theorem wU (f:Nat->Bool) (base:Nat):∀k,oG f base (k+1)=(if f base then 1 else 0)+oG f (base+1) k
 | 0=>by simp[oG]
 | k+1=>by
  rw[oG,wU f base k,oG,show base+1+k=base+(k+1) by omega]
  omega
theorem rN (f:Nat->Bool) (base a:Nat):∀b,oG f base (a+b)=oG f base a+oG f (base+a) b
 | 0=>by simp[oG]
 | b+1=>by rw[show a+(b+1)=a+b+1 by omega,oG,rN f base a b,oG,By base];omega
theorem tJ (f:Nat->Bool) (base:Nat):∀k,dX f base (k+1)=(if f base then 1 else 0)+2*dX f (base+1) k
 | 0=>by simp[dX]
 | k+1=>by
  rw[dX,tJ f base k,dX,show base+1+k=base+(k+1) by omega,Ax]
  by_cases h:f (base+(k+1))=true
  ·rw[if_pos h,if_pos h];omega
  ·rw[if_neg h,if_neg h];omega
theorem sA (f:Nat->Bool):∀k base,sU 2 k (dX f base k)=oG f base k
 | 0,_=>rfl
 | k+1,base=>by
  rw[wU,<-sA f k (base+1),sU,tJ];by_cases h:f base=true
  ·rw[if_pos h,show (1+2*dX f (base+1) k)%2=1 by omega,show (1+2*dX f (base+1) k)/2=dX f (base+1) k by omega]
  ·rw[if_neg h,show (0+2*dX f (base+1) k)%2=0 by omega,show (0+2*dX f (base+1) k)/2=dX f (base+1) k by omega]
def bitOf (l:List Bool) (i:Nat):Bool:=l.getD i false
theorem bY0 {l:List Bool} {i:Nat} (h:l.length<=i):bitOf l i=false:=by
 grind [bitOf]
theorem pI (l:List Bool) (b:Bool) (i:Nat):bitOf (l++[b]) i=(bitOf l i||(decide (i=l.length)&&b)):=by
 grind [bitOf]
def kD (l:List Bool) (q:Nat):Nat:=dX (bitOf l) (64*q) 64
theorem lN (l:List Bool) (q:Nat):kD l q<18446744073709551616:=gN _ _ 64
theorem rP0 (q:Nat):kD [] q=0:=by
 symm
 exact fM (Bf _) (by grind [bitOf])
theorem jF0 (l:List Bool) (q:Nat):kD (l++[false]) q=kD l q:=by
 grind [gY,pI,kD]
theorem mP0 {l:List Bool} {q s:Nat} (hq:l.length=64*q+s) :
  kD (l++[true]) q=kD l q|||(1<<<s)%18446744073709551616:=by
 symm
 apply fM
 ·exact Ap (lN l q) (by omega)
 ·intro t ht
  rw[Ay,pI,kD,cJ,hq,show 18446744073709551616=2^64 from rfl,Ad,Nat.one_shiftLeft,Bj]
  grind
theorem lW0 {l:List Bool} {b:Bool} {q s r:Nat} (hs:s<64) (hq:l.length=64*q+s) (hr:r≠q):kD (l++[b]) r=kD l r:=by
 grind [gY,pI,kD]
def cZ (l:List Bool) (i:Nat):Nat:=oG (bitOf l) 0 i
theorem xB (l:List Bool) (q:Nat):cZ l (64*(q+1))=cZ l (64*q)+sU 2 64 (kD l q):=by
 unfold cZ kD;rw[sA,show 64*(q+1)=64*q+64 by omega,rN,Aq]
theorem eO (l:List Bool) (i:Nat):cZ l (i+1)=cZ l i+(if bitOf l i then 1 else 0):=by
 unfold cZ;rw[oG,Aq]
theorem oB0 (f:Nat->Bool) (base:Nat):∀k,oG f base k<=k
 | 0=>Ah _
 | k+1=>by
  have:=oB0 f base k
  grind [oG]
theorem kM (l:List Bool) (i:Nat):cZ l i<=i:=oB0 _ _ _
theorem aP0 (f:Nat->Bool) (base:Nat):∀k,(∀t,t<k->f (base+t)=false)->oG f base k=0
 | 0,_=>rfl
 | k+1,h=>by rw[oG,aP0 f base k (by grind),h k (by omega)];simp
def jT (l:List Bool):List Nat:=(Az ((l.length+63)/64)).map (kD l)
def pK (l:List Bool):List Nat:=(Az ((l.length+511)/512)).map λg=>cZ l (512*g)
def kZ (l:List Bool):List UInt8:=leB 4 l.length++((jT l).map (leB 8)).flatten++((pK l).map (leB 4)).flatten
theorem lO (k:Nat):∀(l:List Nat),((l.map (leB k)).flatten).length=k*l.length
 | []=>by simp
 | a::l=>by
  have:=lO k l
  grind [leB]
theorem kV (l:List Bool):(kZ l).length=4+8*((l.length+63)/64)+4*((l.length+511)/512):=by
 unfold kZ jT pK;grind [lO,leB]
theorem kO0 {v s t:Nat} (ht:t<64):((v<<<s)%18446744073709551616).testBit t=(decide (s<=t)&&v.testBit (t-s)):=by
 rw[show 18446744073709551616=2^64 from rfl,Ad,Bi]
 simp[ht]
theorem xN {f g:Nat->Bool} {a b:Nat}:∀k,(∀t,t<k->f (a+t)=g (b+t))->oG f a k=oG g b k
 | 0,_=>rfl
 | k+1,h=>by rw[oG,oG,xN k (λt ht=>h t (by omega)),h k (by omega)]
theorem pS0 (l:List Bool) (q s:Nat) (hs:s<64):cZ l (64*q)+sU 2 64 ((kD l q<<<(63-s))%18446744073709551616)=cZ l (64*q+s+1):=by
 have h1:(kD l q<<<(63-s))%18446744073709551616=dX (λj=>decide (63-s<=j)&&bitOf l (64*q+(j-(63-s)))) 0 64:=by
  apply fM
  ·exact Ba _ (by decide)
  ·intro t ht
   rw[kO0 ht,kD,cJ,Aq];by_cases h:63-s<=t
   ·simp[h,show t-(63-s)<64 by omega]
   ·simp[h]
 obtain⟨f,hf⟩:∃f:Nat->Bool,f=λj=>decide (63-s<=j)&&bitOf l (64*q+(j-(63-s))):=⟨_,rfl⟩;rw[h1,<-hf,sA];have h2:oG f 0 64=oG f 0 ((63-s)+(s+1)):=congrArg (oG f 0) (by omega);have h3:=rN f 0 (63-s) (s+1);have h4:oG f 0 (63-s)=0:=aP0 _ 0 (63-s) (λt ht=>by rw[hf];simp;omega)
 have h5:oG f (0+(63-s)) (s+1)=oG (bitOf l) (64*q) (s+1):=by
  apply xN
  intro t _;rw[hf];simp
 have h6:=rN (bitOf l) 0 (64*q) (s+1);unfold cZ;rw[Aq]at h6;rw[h2,h3,h4,h5,Aq,show 64*q+s+1=64*q+(s+1) by omega,h6]
def gG (l:List Bool) (b:Bool) (i:Nat):Nat:=if b then cZ l i else i-cZ l i
theorem qD (p:Nat->Bool) (j:Nat):∀n,(∀i,i<n->p i=decide (i<j))->(Az n).countP p=min j n
 | 0,_=>by simp
 | n+1,h=>by
  rw[Bu,List.countP_append,qD p j n (by grind),List.countP_singleton,h n (by omega)];grind
theorem pR (l:List Bool) (b:Bool) (i:Nat):gG l b (i+1)=gG l b i+(if bitOf l i=b then 1 else 0):=by
 grind [eO,kM,gG]
theorem mN (l:List Bool) (b:Bool) {i j:Nat} (h:i<=j):gG l b i<=gG l b j:=by
 induction j with
 | zero=>simp_all
 | succ j ih =>
  by_cases rp:i=j+1
  ·simp_all
  ·rw[pR]
   omega
theorem xQ0 (l:List Bool) (b:Bool) {j k n:Nat} (hj:j<n) (hb:bitOf l j=b) (hk:gG l b j=k):(Az n).countP (λi => !decide (k<gG l b (i+1)))=j:=by
 have hs:gG l b (j+1)=k+1:=by rw[pR,hk,hb];simp
 rw[qD _ j n (λi _=>?_)]
 ·omega
 ·by_cases hi:i<j
  ·have:=mN l b (show i+1<=j by omega)
   simp[hi];omega
  ·have:=mN l b (show j+1<=i+1 by omega)
   simp[hi];omega
def kW0 (r:Nat):Nat:=if r%2=1 then r/2 ^^^ 3988292384 else r/2
def crc4 (r:Nat):Nat:=kW0 (kW0 (kW0 (kW0 r)))
def yY0 (r:Nat):Nat:=crc4 (crc4 r)
def aL0:Nat->List UInt8->Nat
 | r,[]=>r
 | r,c::l=>aL0 (yY0 (r ^^^ c.toNat)) l
def crcSum (l:List UInt8):Nat:=aL0 4294967295 l ^^^ 4294967295
theorem qZ0 (a b:Nat):(a ^^^ b)%2=1↔(a%2+b%2)%2=1:=by
 have h:=Au a b 0;simp only[Nat.testBit_zero]at h;rcases Ae a with ha|ha<;>rcases Ae b with hb|hb<;>simp[ha,hb]at h ⊢ <;> omega
theorem rG0 (a b:Nat):(a ^^^ b)/2=a/2 ^^^ b/2:=by
 apply Ac
 intro i;rw[Av,Au,Au,Av,Av]
theorem rP (a b:Nat):kW0 (a ^^^ b)=kW0 a ^^^ kW0 b:=by
 unfold kW0;rw[rG0];have h:=qZ0 a b;rcases Ae a with ha|ha<;>rcases Ae b with hb|hb
 ·rw[if_neg (by rw[h];omega),if_neg (by omega),if_neg (by omega)]
 ·rw[if_pos (by rw[h];omega),if_neg (by omega),if_pos (by omega),As]
 ·rw[if_pos (by rw[h];omega),if_pos (by omega),if_neg (by omega),As,As,Cd (b/2)]
 ·rw[if_neg (by rw[h];omega),if_pos (by omega),if_pos (by omega)]
  rw[As,Cd 3988292384,As (b/2),Nat.xor_self,Nat.xor_zero]
theorem rM (a:Nat):kW0 (2*a)=a:=by
 unfold kW0;rw[if_neg (by omega)];omega
theorem sQ0 (a b:Nat):crc4 (a ^^^ b)=crc4 a ^^^ crc4 b:=by
 unfold crc4;rw[rP,rP,rP,rP]
theorem vO0 (a:Nat):crc4 (16*a)=a:=by
 unfold crc4;rw[show 16*a=2*(2*(2*(2*a))) by omega,rM,rM,rM,rM]
theorem vV0 (r:Nat):r=16*(r/16) ^^^ r%16:=by
 apply Ac
 intro i;rw[Au,show 16=2^4 from rfl,Ad,Nat.testBit_two_pow_mul,Nat.testBit_div_two_pow]
 by_cases h:i<4
 ·have h2:¬4<=i:=by omega
  simp[h,h2]
 ·have h2:4<=i:=by omega
  rw[show i-4+4=i by omega]
  simp[h,h2]
def gR:List Nat:=[0,498536548,997073096,651767980,1994146192,1802195444,1303535960,1342533948,3988292384,4027552580,3604390888,3412177804,2607071920,2262029012,2685067896,3183342108]
theorem jU0:∀i:Fin 16,gR[i.val]?=some (crc4 i.val):=by decide +kernel
theorem vF (r:Nat):∃q,gR[r%16]?=some q/\crc4 r=r/16 ^^^ q:=by
 refine⟨_,jU0 ⟨r%16,Ba _ (by decide)⟩,?_⟩;have h:crc4 r=crc4 (16*(r/16) ^^^ r%16):=congrArg crc4 (vV0 r);rw[h,sQ0,vO0]
theorem xX {r:Nat} (h:r<4294967296):kW0 r<4294967296:=by
 unfold kW0;split
 ·exact Bn (n:=32) (by omega) (by decide)
 ·omega
theorem xP {r:Nat} (h:r<4294967296):crc4 r<4294967296:=xX (xX (xX (xX h)))
theorem gY0:∀(l:List UInt8) {r:Nat},r<4294967296->aL0 r l<4294967296
 | [],_,h=>h
 | c::l,r,h=>gY0 l (xP (xP (Bn (n:=32) h (by have:=c.toNat_lt;omega))))
theorem vT:∀(l:List UInt8) (r:Nat) (c:UInt8),aL0 r (l++[c])=yY0 (aL0 r l ^^^ c.toNat)
 | [],_,_=>rfl
 | a::l,r,c=>by
  rw[Br];exact vT l _ c
def uA:List UInt8->Nat
 | []=>0
 | c::b=>c.toNat+256*uA b
theorem tI:∀(b:List UInt8) (c:UInt8),uA (b++[c])=uA b+c.toNat*256^b.length
 | [],c=>by simp[uA]
 | d::b,c=>by
  rw[Br,uA,uA,tI b c,Bs,Ax,Nat.mul_add,By];congr 2
  rw[<-Bz,Aw 256,Bz,Aw 256]
theorem eB0:∀(b:List UInt8),uA b<256^b.length
 | []=>by simp[uA]
 | c::b=>by
  have h:=eB0 b;have hc:=c.toNat_lt;rw[uA,Bs,Ax];omega
theorem gX0 {b:List UInt8} (h:b.length<=8):uA b<18446744073709551616 :=
 Ai (eB0 b) (by
  have:256^b.length<=256^8:=Ag (by decide) h
  exact this)
theorem xW:∀(k n:Nat),uA (leB k n)=n%256^k
 | 0,n=>by simp[leB,uA,Nat.mod_one]
 | k+1,n=>by
  rw[tO0,uA,xW k (n/256),Ax,Aw (256^k) 256,Nat.mod_mul];simp
theorem vK0 {b:List UInt8} {c:UInt8} (h:b.length<8):uA b|||(c.toNat<<<(8*b.length))%18446744073709551616=uA (b++[c]):=by
 have h1:=eB0 b;have e:256^b.length=2^(8*b.length):=by rw[Nat.pow_mul]
 rw[e]at h1;have hs:=gX0 (b:=b++[c]) (by simp;omega);rw[tI,e]at hs;rw[tI,e,<-Bt,Bc (by rw[Bt];omega),Nat.or_comm,<-Nat.shiftLeft_add_eq_or_of_lt h1,Ca]
theorem xO (s:Nat):∀(l:List Nat) (k n:Nat) (t:List UInt8),l[k]?=some n->(((l.map (leB s)).flatten++t).drop (s*k)).take s=leB s n
 | [],k,n,t,h=>by simp at h
 | m::l,0,n,t,h=>by
  obtain rfl:m=n:=by simpa using h
  rw[Nat.mul_zero,List.drop_zero,Bk,Bp,Ar,At (by rw[bD];exact Ah _),Be (by rw[bD];exact Ah _)]
 | m::l,k+1,n,t,h=>by
  rw[Bk,Bp,Ar,List.drop_append,bD,show s*(k+1)-s=s*k by rw[Ce];omega,List.drop_eq_nil_of_le (by rw[bD,Ce];omega),List.nil_append]
  exact xO s l k n t (by simpa using h)
theorem lH0 (l:List Bool):(kZ l).take 4=leB 4 l.length:=by
 unfold kZ;rw[Ar,At (by rw[bD];exact Ah _),Be (by rw[bD];exact Ah _)]
theorem oS0 {l:List Bool} {k:Nat} (h:k<(l.length+63)/64):((kZ l).drop (4+8*k)).take 8=leB 8 (kD l k):=by
 unfold kZ;rw[Ar,<-List.drop_drop,List.drop_left' (bD 4 _)];exact xO 8 (jT l) k _ _ (by unfold jT;rw[List.getElem?_map,List.getElem?_range h];rfl)
theorem rF0 {l:List Bool} {q:Nat} (h:l.length<=64*q+64) (h2:64*q<l.length) (h3:l.length%64≠0):kD l q/2^(l.length%64)=0:=by
 rw[<-Aa];apply Ac
 intro t;rw[Aj,kD,cJ,Bq];by_cases ht:l.length%64+t<64
 ·rw[bY0 (by omega)];simp
 ·simp[ht]
theorem qU0 (l:List Bool) (i:Nat):(kD l (i/64)>>>(i%64))&&&1=if bitOf l i then 1 else 0:=by
 apply Ac
 intro t;rw[Bg,Aj,kD,cJ]
 cases t with
 | zero =>
  rw[show 64*(i/64)+(i%64+0)=i by omega]
  cases bitOf l i<;>simp<;>omega
 | succ t =>
  have h1:Nat.testBit 1 (t+1)=false:=by rw[Nat.testBit_succ];simp
  cases bitOf l i<;>simp[h1]
end
end Go.Proofs.YthgklnohcmaopaaGreatDoor
