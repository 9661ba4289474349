/- The texts CrcP BitsP PackP PopP VecP RnkP SelP BvDP, one behind the other. -/
import Derived.Test.YtjhajgffmnkocaaGreatDoorRows
open Nat renaming shiftRight_eq_div_pow → Aa,and_two_pow_sub_one_eq_mod → Ab,eq_of_testBit_eq → Ac,testBit_mod_two_pow → Ad,le_refl → Ae,mod_two_eq_zero_or_one → Af,mod_add_div → Ag,pow_le_pow_right → Ah,lt_of_lt_of_le → Ai,testBit_shiftRight → Aj,reducePow → Ak,testBit_two_pow_mul_add → Al,and_le_right → Am,lt_of_le_of_lt → An,testBit_lt_two_pow → Ao,or_lt_two_pow → Ap,zero_add → Aq,xor_assoc → As,testBit_xor → Au,testBit_div_two → Av,mul_comm → Aw,pow_succ → Ax,mod_lt → Ay,testBit_or → Az,mod_eq_of_lt → Bc,div_div_eq_div_mul → Bd,two_pow_pos → Bf,testBit_and → Bg,div_le_self → Bh,testBit_shiftLeft → Bi,testBit_two_pow → Bj,xor_lt_two_pow → Bn,lt_trans → Bo,zero_testBit → Br,shiftLeft_eq → Bt,add_le_add → Bv,add_lt_add → Bw,add_assoc → By,mul_assoc → Bz,xor_comm → Ca,add_comm → Cb,add_zero → Cc,pow_zero → Cd,mul_succ → Ce
open List renaming append_assoc → Ar,take_append_of_le_length → At,range → Ba,take_of_length_le → Be,map_cons → Bk,flatten_cons → Bp,cons_append → Bq,length_cons → Bs,range_succ → Bu
open UInt8 renaming ofNat → Bb
namespace Go.Proofs.YtjhajgffmnkocaaGreatDoor
section
open Go
def vK0 (r:Nat):Nat:=if r%2=1 then r/2 ^^^ 3988292384 else r/2
def crc4 (r:Nat):Nat:=vK0 (vK0 (vK0 (vK0 r)))
def oP1 (r:Nat):Nat:=crc4 (crc4 r)
def hE0:Nat->List UInt8->Nat
 | r,[]=>r
 | r,c::l=>hE0 (oP1 (r ^^^ c.toNat)) l
def crcSum (l:List UInt8):Nat:=hE0 4294967295 l ^^^ 4294967295
theorem dF1 (a b:Nat):(a ^^^ b)%2=1↔(a%2+b%2)%2=1:=by
 have h:=Au a b 0;simp only[Nat.testBit_zero]at h;rcases Af a with ha|ha<;>rcases Af b with hb|hb<;>simp[ha,hb]at h ⊢ <;> omega
theorem fM1 (a b:Nat):(a ^^^ b)/2=a/2 ^^^ b/2:=by
 apply Ac
 intro i;rw[Av,Au,Au,Av,Av]
theorem yH (a b:Nat):vK0 (a ^^^ b)=vK0 a ^^^ vK0 b:=by
 unfold vK0;rw[fM1];have h:=dF1 a b;rcases Af a with ha|ha<;>rcases Af b with hb|hb
 ·rw[if_neg (by rw[h];omega),if_neg (by omega),if_neg (by omega)]
 ·rw[if_pos (by rw[h];omega),if_neg (by omega),if_pos (by omega),As]
 ·rw[if_pos (by rw[h];omega),if_pos (by omega),if_neg (by omega),As,As,Ca (b/2)]
 ·rw[if_neg (by rw[h];omega),if_pos (by omega),if_pos (by omega)]
  rw[As,Ca 3988292384,As (b/2),Nat.xor_self,Nat.xor_zero]
theorem xT (a:Nat):vK0 (2*a)=a:=by
 unfold vK0;rw[if_neg (by omega)];omega
theorem dR1 (a b:Nat):crc4 (a ^^^ b)=crc4 a ^^^ crc4 b:=by
 unfold crc4;rw[yH,yH,yH,yH]
theorem lV1 (a:Nat):crc4 (16*a)=a:=by
 unfold crc4;rw[show 16*a=2*(2*(2*(2*a))) by omega,xT,xT,xT,xT]
theorem jS1 (r:Nat):r=16*(r/16) ^^^ r%16:=by
 apply Ac
 intro i;rw[Au,show 16=2^4 from rfl,Ad,Nat.testBit_two_pow_mul,Nat.testBit_div_two_pow]
 by_cases h:i<4
 ·have h2:¬4<=i:=by omega
  simp[h,h2]
 ·have h2:4<=i:=by omega
  rw[show i-4+4=i by omega]
  simp[h,h2]
def jX:List Nat:=[0,498536548,997073096,651767980,1994146192,1802195444,1303535960,1342533948,3988292384,4027552580,3604390888,3412177804,2607071920,2262029012,2685067896,3183342108]
theorem sZ0:∀i:Fin 16,jX[i.val]?=some (crc4 i.val):=by decide +kernel
theorem cH0 (r:Nat):∃q,jX[r%16]?=some q/\crc4 r=r/16 ^^^ q:=by
 refine⟨_,sZ0 ⟨r%16,Ay _ (by decide)⟩,?_⟩;have h:crc4 r=crc4 (16*(r/16) ^^^ r%16):=congrArg crc4 (jS1 r);rw[h,dR1,lV1]
theorem fV0 {r:Nat} (h:r<4294967296):vK0 r<4294967296:=by
 unfold vK0;split
 ·exact Bn (n:=32) (by omega) (by decide)
 ·omega
theorem gC0 {r:Nat} (h:r<4294967296):crc4 r<4294967296:=fV0 (fV0 (fV0 (fV0 h)))
theorem oZ0:∀(l:List UInt8) {r:Nat},r<4294967296->hE0 r l<4294967296
 | [],_,h=>h
 | c::l,r,h=>oZ0 l (gC0 (gC0 (Bn (n:=32) h (by have:=c.toNat_lt;omega))))
theorem cV0:∀(l:List UInt8) (r:Nat) (c:UInt8),hE0 r (l++[c])=oP1 (hE0 r l ^^^ c.toNat)
 | [],_,_=>rfl
 | a::l,r,c=>by
  rw[Bq];exact cV0 l _ c
def fE (f:Nat->Bool) (base:Nat):Nat->Nat
 | 0=>0
 | k+1=>fE f base k+(if f (base+k) then 2^k else 0)
theorem jU (f:Nat->Bool) (base:Nat):∀k,fE f base k<2^k
 | 0=>by simp[fE]
 | k+1=>by
  have:=jU f base k
  grind [fE]
theorem dE (f:Nat->Bool) (base:Nat):∀k t,(fE f base k).testBit t=(decide (t<k)&&f (base+t))
 | 0,t=>by simp[fE]
 | k+1,t=>by
  have af:=jU f base k;unfold fE;by_cases hf:f (base+k)=true
  ·rw[if_pos hf,Cb,<-Nat.one_mul (2^k),Aw 1,Nat.two_pow_add_eq_or_of_lt af,Az,dE f base k t,Nat.mul_one,Bj]
   grind
  ·have hf2:f (base+k)=false:=by simpa using hf
   rw[if_neg hf,Cc,dE f base k t];grind
theorem iJ {f:Nat->Bool} {base k n:Nat} (hn:n<2^k) (h:∀t,t<k->n.testBit t=f (base+t)):n=fE f base k:=by
 apply Ac
 intro t;rw[dE];by_cases ht:t<k
 ·rw[h t ht];simp[ht]
 ·simp only[ht,decide_false,Bool.false_and]
  grind [Ao,Ai,Ah]
theorem kQ {f g:Nat->Bool} {base base' k:Nat} (h:∀t,t<k->f (base+t)=g (base'+t)):fE f base k=fE g base' k:=by
 apply iJ (jU _ _ _)
 grind [dE]
def leB (k n:Nat):List UInt8:=(Ba k).map λi=>Bb (n/256^i)
theorem bM (k n:Nat):(leB k n).length=k:=by simp[leB]
theorem fP1 (k n:Nat):leB (k+1) n=Bb n::leB k (n/256):=by
 unfold leB;rw[List.range_succ_eq_map,Bk,List.map_map];simp only[Cd,Nat.div_one,List.cons.injEq,true_and];grind [List.map_congr_left,Bd]
theorem fQ1 (k n:Nat):leB (k+1) n=leB k n++[Bb (n/256^k)]:=by
 unfold leB;rw[Bu,List.map_append];rfl
def bitLen (n:Nat):Nat:=if n=0 then 0 else n.log2+1
theorem iE0 {n w:Nat}:bitLen n<=w↔n<2^w:=by
 unfold bitLen;by_cases h:n=0
 ·grind
 ·rw[if_neg h]
  grind [Nat.log2_lt]
theorem oG1 {a b w:Nat}:a|||b<2^w↔a<2^w/\b<2^w :=
 (by grind [Nat.right_le_or,Ap])
def bX0 (l:List Nat):Nat:=l.foldl (· ||| ·) 0
def nZ (l:List Nat):Nat:=bitLen (bX0 l)
theorem rS0 (l:List Nat) (n:Nat):bX0 (l++[n])=bX0 l|||n:=by simp[bX0]
theorem qZ0 {w:Nat}:∀ {l:List Nat},bX0 l<2^w↔∀n∈l,n<2^w:=by
 have key:∀(l:List Nat) (a:Nat),l.foldl (· ||| ·) a<2^w↔a<2^w/\∀n∈l,n<2^w:=by
  intro l
  induction l with
  | nil=>intro a;simp
  | cons b l ih =>
   intro a;rw[List.foldl_cons,ih,oG1];grind
 grind [bX0]
theorem yQ0 {l:List Nat} {n:Nat} (h:n∈l):n<2^nZ l:=qZ0.1 (iE0.1 (Ae _)) n h
theorem nF {l:List Nat} {w:Nat}:nZ l<=w↔∀n∈l,n<2^w:=by unfold nZ; rw[iE0,qZ0]
def bitAt (l:List Nat) (w pos:Nat):Bool:=(l.getD (pos/w) 0).testBit (pos%w)
theorem yR {l:List Nat} {w pos:Nat} (hw:0<w) (h:l.length*w<=pos):bitAt l w pos=false:=by
 unfold bitAt
 have:l.length<=pos/w:=(Nat.le_div_iff_mul_le hw).2 h
 simp_all
theorem vE {l:List Nat} {w v:Nat} (hw:0<w) (hv:v<2^w) (pos:Nat) :
  bitAt (l++[v]) w pos=(bitAt l w pos||(decide (l.length*w<=pos)&&v.testBit (pos-l.length*w))):=by
 by_cases h:pos<l.length*w
 ·have h1:pos/w<l.length:=(Nat.div_lt_iff_lt_mul hw).2 h
  grind [bitAt]
 ·have h0:l.length*w<=pos:=by omega
  rw[yR hw h0];simp only[h0,decide_true,Bool.true_and,Bool.false_or];by_cases h2:pos<(l.length+1)*w
  ·have h3:pos/w=l.length:=by
    apply Nat.div_eq_of_lt_le
    ·exact h0
    ·exact h2
   have h4:pos%w=pos-l.length*w:=by
    have:=Nat.div_add_mod pos w
    rw[h3,Aw]at this;omega
   grind [bitAt]
  grind [yR,Ao,Ai,Ah]
def bY0 (l:List Nat):List UInt8:=(Ba ((l.length*nZ l+7)/8)).map λj=>Bb (fE (bitAt l (nZ l)) (8*j) 8)
def packE (l:List Nat):List UInt8:=leB 4 l.length++[Bb (nZ l)]++bY0 l
def gQ (l:List Nat) (w q:Nat):Nat:=fE (bitAt l w) (64*q) 64
theorem bW1 (w q:Nat):gQ [] w q=0:=by
 symm
 exact iJ (Bf _) (by grind [bitAt])
theorem nD (l:List Nat) (w q:Nat):gQ l w q<18446744073709551616:=jU _ _ 64
theorem eA0 {v s t:Nat} (ht:t<64):((v<<<s)%18446744073709551616).testBit t=(decide (s<=t)&&v.testBit (t-s)):=by
 rw[show 18446744073709551616=2^64 from rfl,Ad,Bi]
 simp[ht]
theorem kG0 {l:List Nat} {w v q s:Nat} (hw:0<w) (hv:v<2^w) (hq:l.length*w=64*q+s) :
  gQ (l++[v]) w q=gQ l w q|||(v<<<s)%18446744073709551616:=by
 symm
 apply iJ
 ·exact Ap (nD l w q) (by omega)
 ·intro t ht
  rw[Az,eA0 ht,vE hw hv,gQ,dE,hq];grind
theorem sT0 {l:List Nat} {w v q s:Nat} (hw:0<w) (hv:v<2^w) (acg:w<=64) (hs:s<64) (hq:l.length*w=64*q+s) :
  gQ (l++[v]) w (q+1)=gQ l w (q+1)|||v>>>(64-s):=by
 symm
 apply iJ
 ·refine Ap (nD l w (q+1)) ?_
  refine An (Nat.shiftRight_le v _) (Ai hv (Ah (by decide) acg))
 ·intro t ht
  rw[Az,Aj,vE hw hv,gQ,dE,hq];grind
theorem cJ0 {l:List Nat} {w v q s r:Nat} (hw:0<w) (hv:v<2^w) (hs:s<64) (hq:l.length*w=64*q+s)
  (hr:r≠q) (cy:r=q+1->s+w<=64) (acg:w<=64):gQ (l++[v]) w r=gQ l w r:=by
 grind [kQ,vE,Ao,Ai,Ah,gQ]
theorem cA0 (l:List Nat) (q:Nat) (h:∀n∈l,n<2^0):gQ l 0 q=0:=by
 symm
 refine iJ (Bf _) (λt _=>?_);unfold bitAt;simp only[Nat.div_zero,Nat.mod_zero,Br]
 cases l with
 | nil=>simp
 | cons a l =>
  simp_all
theorem rG0 (l:List Nat) (w i:Nat):(gQ l w (i/8)>>>(i%8*8))%256=fE (bitAt l w) (8*i) 8:=by
 apply iJ
 ·omega
 ·intro t ht
  rw[show 256=2^8 from rfl,Ad,Aj,gQ,dE]
  grind
theorem zH (l:List Nat):(packE l).length=5+(l.length*nZ l+7)/8:=by
 unfold packE bY0;simp[bM];omega
def zT (B:Nat):Nat->Nat->Nat
 | 0,_=>0
 | n+1,x=>x%B+zT B n (x/B)
def eW1 (B M:Nat):Nat->Nat->Prop
 | 0,_=>True
 | n+1,x=>x%B<=M/\eW1 B M n (x/B)
def iB (B d:Nat):Nat->Nat
 | 0=>0
 | n+1=>B*iB B d n+d
theorem oK {k a b r s:Nat} (hr:r<2^k) (hs:s<2^k):(2^k*a+r)&&&(2^k*b+s)=2^k*(a&&&b)+(r&&&s):=by
 apply Ac
 intro i;have hrs:r&&&s<2^k:=An Nat.and_le_left hr;rw[Bg,Al a hr,Al b hs,Al _ hrs,Bg];by_cases h:i<k
 ·simp[h]
 ·simp[h]
theorem oZ1 (r:Nat):r&&&1=r%2:=Ab r 1
theorem oX1 (r:Nat):r&&&3=r%4:=Ab r 2
theorem oA1 (r:Nat):r&&&15=r%16:=Ab r 4
theorem iP1 (r:Nat):r&&&127=r%128:=Ab r 7
def cM1 (m x:Nat):Nat:=((x>>>1)&&&m)+(x&&&m)
theorem wS0 (m x:Nat):cM1 (4*m+1) x=4*cM1 m (x/4)+(x%2+x/2%2):=by
 unfold cM1;have h1:=oK (k:=2) (a:=x/4) (b:=m) (r:=x%4) (s:=1) (Ay _ (by decide)) (by decide);have h2:=oK (k:=2) (a:=x/2/4) (b:=m) (r:=x/2%4) (s:=1) (Ay _ (by decide)) (by decide);rw[oZ1]at h1 h2;simp only[Ak]at h1 h2;rw[show 4*(x/4)+x%4=x by omega]at h1
 rw[show 4*(x/2/4)+x/2%4=x/2 by omega]at h2
 rw[Aa,Aa,Nat.pow_one,h1,h2,show x/2/4=x/4/2 by omega]
 omega
theorem zC0:∀n x,zT 4 n (cM1 (iB 4 1 n) x)=zT 2 (2*n) x/\eW1 4 2 n (cM1 (iB 4 1 n) x)
 | 0,x=>⟨rfl,trivial⟩
 | n+1,x=>by
  have ih:=zC0 n (x/4);have hs:=wS0 (iB 4 1 n) x;rw[show 4*iB 4 1 n+1=iB 4 1 (n+1) from rfl]at hs
  refine⟨?_,?_⟩
  ·rw[hs,show 2*(n+1)=2*n+1+1 by omega]
   simp only[zT];rw[show (4*cM1 (iB 4 1 n) (x/4)+(x%2+x/2%2))/4=cM1 (iB 4 1 n) (x/4) by omega,ih.1,show x/2/2=x/4 by omega]
   omega
  ·rw[hs]
   refine⟨by omega,?_⟩;rw[show (4*cM1 (iB 4 1 n) (x/4)+(x%2+x/2%2))/4=cM1 (iB 4 1 n) (x/4) by omega]
   exact ih.2
def cJ1 (m x:Nat):Nat:=((x>>>2)&&&m)+(x&&&m)
theorem zJ0 (m x:Nat):cJ1 (16*m+3) x=16*cJ1 m (x/16)+(x%4+x/4%4):=by
 unfold cJ1;have h1:=oK (k:=4) (a:=x/16) (b:=m) (r:=x%16) (s:=3) (Ay _ (by decide)) (by decide);have h2:=oK (k:=4) (a:=x/4/16) (b:=m) (r:=x/4%16) (s:=3) (Ay _ (by decide)) (by decide);rw[oX1]at h1 h2;simp only[Ak]at h1 h2;rw[show 16*(x/16)+x%16=x by omega]at h1
 rw[show 16*(x/4/16)+x/4%16=x/4 by omega]at h2
 simp only[Aa,Ak];rw[h1,h2,show x/4/16=x/16/4 by omega]
 omega
theorem aR1:∀n x,eW1 4 2 (2*n) x->zT 16 n (cJ1 (iB 16 3 n) x)=zT 4 (2*n) x/\eW1 16 4 n (cJ1 (iB 16 3 n) x)
 | 0,x,_=>⟨rfl,trivial⟩
 | n+1,x,h=>by
  rw[show 2*(n+1)=2*n+1+1 by omega]at h ⊢
  simp only[eW1]at h;rw[show x/4/4=x/16 by omega]at h
  have ih:=aR1 n (x/16) h.2.2;have hs:=zJ0 (iB 16 3 n) x;rw[show 16*iB 16 3 n+3=iB 16 3 (n+1) from rfl]at hs
  refine⟨?_,?_⟩
  ·rw[hs]
   simp only[zT];rw[show (16*cJ1 (iB 16 3 n) (x/16)+(x%4+x/4%4))/16=cJ1 (iB 16 3 n) (x/16) by omega,ih.1,show x/4/4=x/16 by omega]
   omega
  ·rw[hs]
   refine⟨by omega,?_⟩;rw[show (16*cJ1 (iB 16 3 n) (x/16)+(x%4+x/4%4))/16=cJ1 (iB 16 3 n) (x/16) by omega]
   exact ih.2
def cL1 (m x:Nat):Nat:=(x>>>4+x)&&&m
theorem aO1 (m x:Nat) (h0:x%16<=4) (h1:x/16%16<=4) (h2:x/256%16<=4):cL1 (256*m+15) x=256*cL1 m (x/256)+(x%16+x/16%16):=by
 unfold cL1
 have e1:x>>>4+x=256*((x/256)>>>4+x/256)+(16*(x/256%16)+x%256/16+x%256):=by
  simp only[Aa,Ak];omega
 have h:=oK (k:=8) (a:=(x/256)>>>4+x/256) (b:=m) (r:=16*(x/256%16)+x%256/16+x%256) (s:=15) (by simp only[Ak];omega) (by decide);rw[oA1]at h;simp only[Ak]at h;rw[<-e1]at h;rw[h];omega
theorem xY0:∀n x,eW1 16 4 (2*n) x->x<256^n->zT 256 n (cL1 (iB 256 15 n) x)=zT 16 (2*n) x/\eW1 256 8 n (cL1 (iB 256 15 n) x)
 | 0,x,_,_=>⟨rfl,trivial⟩
 | n+1,x,h,hx=>by
  rw[show 2*(n+1)=2*n+1+1 by omega]at h ⊢
  simp only[eW1]at h;rw[show x/16/16=x/256 by omega]at h
  have i5:x/256<256^n:=by rw[Ax]at hx;omega
  have ih:=xY0 n (x/256) h.2.2 i5
  have h3:x/256%16<=4:=by
   cases n with
   | zero=>simp only[Cd]at i5;omega
   | succ k =>
    have h4:=h.2.2;rw[show 2*(k+1)=2*k+1+1 by omega]at h4
    exact h4.1
  have hs:=aO1 (iB 256 15 n) x h.1 h.2.1 h3;rw[show 256*iB 256 15 n+15=iB 256 15 (n+1) from rfl]at hs
  refine⟨?_,?_⟩
  ·rw[hs]
   simp only[zT];rw[show (256*cL1 (iB 256 15 n) (x/256)+(x%16+x/16%16))/256=cL1 (iB 256 15 n) (x/256) by omega,ih.1,show x/16/16=x/256 by omega]
   omega
  ·rw[hs]
   refine⟨by omega,?_⟩;rw[show (256*cL1 (iB 256 15 n) (x/256)+(x%16+x/16%16))/256=cL1 (iB 256 15 n) (x/256) by omega]
   exact ih.2
theorem oJ1:iB 4 1 32=6148914691236517205:=by decide +kernel
theorem nZ1:iB 16 3 16=3689348814741910323:=by decide +kernel
theorem oD1:iB 256 15 8=1085102592571150095:=by decide +kernel
theorem zE0 {lo B hi:Nat} (h:lo<B):(lo+B*hi)/B=hi:=by
 rw[Nat.add_mul_div_left _ _ (by omega),Nat.div_eq_of_lt h,Aq]
theorem lY1 {x b0 b1 b2 b3 b4 b5 b6 b7:Nat} (h0:b0<=8) (h1:b1<=8) (h2:b2<=8) (h3:b3<=8) (h4:b4<=8) (h5:b5<=8) (h6:b6<=8) (h7:b7<=8)
  (hX:x=b0+256*(b1+256*(b2+256*(b3+256*(b4+256*(b5+256*(b6+256*b7))))))) :
  ∃Y Z,x+x/256=Y/\Y+Y/65536=Z/\Y<18446744073709551616/\Z<18446744073709551616/\Z+Z/4294967296<18446744073709551616 /\
  (Z+Z/4294967296)%128=b0+(b1+(b2+(b3+(b4+(b5+(b6+b7)))))):=by
 have j4:x<1152921504606846976:=by omega
 have q1:x/256=b1+256*(b2+256*(b3+256*(b4+256*(b5+256*(b6+256*b7))))):=by rw[hX];exact zE0 (by omega)
 have hY:x+x/256=((b0+b1)+256*(b1+b2))+65536*((b2+b3)+256*(b3+b4)+65536*((b4+b5)+256*(b5+b6)+65536*((b6+b7)+256*b7))):=by rw[q1,hX];omega
 have hY0:x+x/256<2305843009213693952:=by
  have:=Bh x 256
  omega
 rw[hY]at hY0;refine⟨_,_,hY,rfl,?_⟩;clear hY q1 hX j4 x;have q2:(((b0+b1)+256*(b1+b2))+65536*((b2+b3)+256*(b3+b4)+65536*((b4+b5)+256*(b5+b6)+65536*((b6+b7)+256*b7))))/65536=(b2+b3)+256*(b3+b4)+65536*((b4+b5)+256*(b5+b6)+65536*((b6+b7)+256*b7)):=zE0 (by omega);have hZ0:=Bh ((((b0+b1)+256*(b1+b2))+65536*((b2+b3)+256*(b3+b4)+65536*((b4+b5)+256*(b5+b6)+65536*((b6+b7)+256*b7))))) 65536;rw[q2]at hZ0 ⊢;refine⟨Bo hY0 (by decide),?_⟩;have hZ1:=An (Bv (Ae _) hZ0) (Bw hY0 hY0);clear hZ0 hY0;have hZ:(((b0+b1)+256*(b1+b2))+65536*((b2+b3)+256*(b3+b4)+65536*((b4+b5)+256*(b5+b6)+65536*((b6+b7)+256*b7))))+((b2+b3)+256*(b3+b4)+65536*((b4+b5)+256*(b5+b6)+65536*((b6+b7)+256*b7)))=((b0+b1+b2+b3)+128*(2*(b1+b2+b3+b4)+512*((b2+b3+b4+b5)+256*(b3+b4+b5+b6))))+4294967296*((b4+b5+b6+b7)+128*(2*(b5+b6+b7)+512*((b6+b7)+256*b7))):=by omega
 rw[hZ]at hZ1 ⊢;clear hZ q2;refine⟨Bo hZ1 (by decide),?_⟩;have q3:(((b0+b1+b2+b3)+128*(2*(b1+b2+b3+b4)+512*((b2+b3+b4+b5)+256*(b3+b4+b5+b6))))+4294967296*((b4+b5+b6+b7)+128*(2*(b5+b6+b7)+512*((b6+b7)+256*b7))))/4294967296=(b4+b5+b6+b7)+128*(2*(b5+b6+b7)+512*((b6+b7)+256*b7)):=zE0 (by omega);generalize hK:2*(b1+b2+b3+b4)+512*((b2+b3+b4+b5)+256*(b3+b4+b5+b6))=K at *;generalize hM:2*(b5+b6+b7)+512*((b6+b7)+256*b7)=M at *;refine⟨?_,?_⟩
 ·have:=Bh (b0+b1+b2+b3+128*K+4294967296*(b4+b5+b6+b7+128*M)) 4294967296
  exact An (Bv (Ae _) this) (Bo (Bw hZ1 hZ1) (by decide))
 ·rw[q3]
  clear q3 hZ1 hK hM;have e:b0+b1+b2+b3+128*K+4294967296*(b4+b5+b6+b7+128*M)+(b4+b5+b6+b7+128*M)=(b0+(b1+(b2+(b3+(b4+(b5+(b6+b7)))))))+128*(K+33554432*(b4+b5+b6+b7+128*M)+M):=by omega
  have hS:b0+(b1+(b2+(b3+(b4+(b5+(b6+b7))))))<128:=by omega
  rw[e,Nat.add_mul_mod_self_left];exact Bc hS
theorem oS1 {x x1 x2 x3:Nat} (h1:x1=((x>>>1)&&&6148914691236517205)+(x&&&6148914691236517205))
  (h2:x2=((x1>>>2)&&&3689348814741910323)+(x1&&&3689348814741910323)) (h3:x3=(x2>>>4+x2)&&&1085102592571150095) :
  x1<18446744073709551616/\x2<18446744073709551616/\x2>>>4+x2<18446744073709551616/\x3<18446744073709551616 /\
  ∃Y Z,x3+x3>>>8=Y/\Y+Y>>>16=Z/\Y<18446744073709551616/\Z<18446744073709551616/\Z+Z>>>32<18446744073709551616 /\
  (Z+Z>>>32)&&&127=zT 2 64 x:=by
 have b1:(x>>>1)&&&6148914691236517205<=6148914691236517205:=Am;have b2:x&&&6148914691236517205<=6148914691236517205:=Am;have b3:(x1>>>2)&&&3689348814741910323<=3689348814741910323:=Am;have b4:x1&&&3689348814741910323<=3689348814741910323:=Am;have b5:x3<=1085102592571150095:=by rw[h3];exact Am
 have b6:x2>>>4<=x2/16:=by rw[Aa];exact Ae _
 have a1:=zC0 32 x;rw[oJ1,show cM1 6148914691236517205 x=x1 from h1.symm]at a1
 have a2:=aR1 16 x1 a1.2;rw[nZ1,show cJ1 3689348814741910323 x1=x2 from h2.symm]at a2
 have i5:x2<18446744073709551616:=by omega
 have a3:=xY0 8 x2 a2.2 i5;rw[oD1,show cL1 1085102592571150095 x2=x3 from h3.symm]at a3
 obtain⟨s3,d3⟩:=a3;have hs:zT 256 8 x3=zT 2 64 x:=by rw[s3];exact a2.1.trans a1.1
 rw[<-hs];clear s3 a1 a2 hs;refine⟨by omega,i5,by omega,by omega,?_⟩;simp only[eW1,and_true]at d3;obtain⟨c0,c1,c2,c3,c4,c5,c6,c7⟩:=d3;simp only[zT,Cc,iP1,Aa,Ak]
 have e7:x3/256/256/256/256/256/256/256%256=x3/256/256/256/256/256/256/256:=by
  apply Bc
  simp only[Bd];exact Nat.div_lt_of_lt_mul (by omega)
 have hX:x3=x3%256+256*(x3/256%256+256*(x3/256/256%256+256*(x3/256/256/256%256+256*(x3/256/256/256/256%256+256*(x3/256/256/256/256/256%256+256*(x3/256/256/256/256/256/256%256+256*(x3/256/256/256/256/256/256/256%256))))))):=by
  rw[e7,Ag,Ag,Ag,Ag,Ag,Ag,Ag]
 exact lY1 c0 c1 c2 c3 c4 c5 c6 c7 hX
def tE (f:Nat->Bool) (base:Nat):Nat->Nat
 | 0=>0
 | k+1=>tE f base k+(if f (base+k) then 1 else 0)
theorem dB0 (f:Nat->Bool) (base:Nat):∀k,tE f base (k+1)=(if f base then 1 else 0)+tE f (base+1) k
 | 0=>by simp[tE]
 | k+1=>by
  rw[tE,dB0 f base k,tE,show base+1+k=base+(k+1) by omega]
  omega
theorem xV (f:Nat->Bool) (base a:Nat):∀b,tE f base (a+b)=tE f base a+tE f (base+a) b
 | 0=>by simp[tE]
 | b+1=>by rw[show a+(b+1)=a+b+1 by omega,tE,xV f base a b,tE,By base];omega
theorem aW0 (f:Nat->Bool) (base:Nat):∀k,fE f base (k+1)=(if f base then 1 else 0)+2*fE f (base+1) k
 | 0=>by simp[fE]
 | k+1=>by
  rw[fE,aW0 f base k,fE,show base+1+k=base+(k+1) by omega,Ax]
  by_cases h:f (base+(k+1))=true
  ·rw[if_pos h,if_pos h];omega
  ·rw[if_neg h,if_neg h];omega
theorem aT0 (f:Nat->Bool):∀k base,zT 2 k (fE f base k)=tE f base k
 | 0,_=>rfl
 | k+1,base=>by
  rw[dB0,<-aT0 f k (base+1),zT,aW0];by_cases h:f base=true
  ·rw[if_pos h,show (1+2*fE f (base+1) k)%2=1 by omega,show (1+2*fE f (base+1) k)/2=fE f (base+1) k by omega]
  ·rw[if_neg h,show (0+2*fE f (base+1) k)%2=0 by omega,show (0+2*fE f (base+1) k)/2=fE f (base+1) k by omega]
def bitOf (l:List Bool) (i:Nat):Bool:=l.getD i false
theorem jB0 {l:List Bool} {i:Nat} (h:l.length<=i):bitOf l i=false:=by
 grind [bitOf]
theorem uF (l:List Bool) (b:Bool) (i:Nat):bitOf (l++[b]) i=(bitOf l i||(decide (i=l.length)&&b)):=by
 grind [bitOf]
def mY (l:List Bool) (q:Nat):Nat:=fE (bitOf l) (64*q) 64
theorem oR (l:List Bool) (q:Nat):mY l q<18446744073709551616:=jU _ _ 64
theorem eH1 (q:Nat):mY [] q=0:=by
 symm
 exact iJ (Bf _) (by grind [bitOf])
theorem tO0 (l:List Bool) (q:Nat):mY (l++[false]) q=mY l q:=by
 grind [kQ,uF,mY]
theorem yV0 {l:List Bool} {q s:Nat} (hq:l.length=64*q+s) :
  mY (l++[true]) q=mY l q|||(1<<<s)%18446744073709551616:=by
 symm
 apply iJ
 ·exact Ap (oR l q) (by omega)
 ·intro t ht
  rw[Az,uF,mY,dE,hq,show 18446744073709551616=2^64 from rfl,Ad,Nat.one_shiftLeft,Bj]
  grind
theorem zR0 {l:List Bool} {b:Bool} {q s r:Nat} (hs:s<64) (hq:l.length=64*q+s) (hr:r≠q):mY (l++[b]) r=mY l r:=by
 grind [kQ,uF,mY]
def dT (l:List Bool) (i:Nat):Nat:=tE (bitOf l) 0 i
theorem dP0 (l:List Bool) (q:Nat):dT l (64*(q+1))=dT l (64*q)+zT 2 64 (mY l q):=by
 unfold dT mY;rw[aT0,show 64*(q+1)=64*q+64 by omega,xV,Aq]
theorem gD (l:List Bool) (i:Nat):dT l (i+1)=dT l i+(if bitOf l i then 1 else 0):=by
 unfold dT;rw[tE,Aq]
theorem vR0 (f:Nat->Bool) (base:Nat):∀k,tE f base k<=k
 | 0=>Ae _
 | k+1=>by
  have:=vR0 f base k
  grind [tE]
theorem nM (l:List Bool) (i:Nat):dT l i<=i:=vR0 _ _ _
theorem jH0 (f:Nat->Bool) (base:Nat):∀k,(∀t,t<k->f (base+t)=false)->tE f base k=0
 | 0,_=>rfl
 | k+1,h=>by rw[tE,jH0 f base k (by grind),h k (by omega)];simp
def mO (l:List Bool):List Nat:=(Ba ((l.length+63)/64)).map (mY l)
def tV (l:List Bool):List Nat:=(Ba ((l.length+511)/512)).map λg=>dT l (512*g)
def oB (l:List Bool):List UInt8:=leB 4 l.length++((mO l).map (leB 8)).flatten++((tV l).map (leB 4)).flatten
theorem oO (k:Nat):∀(l:List Nat),((l.map (leB k)).flatten).length=k*l.length
 | []=>by simp
 | a::l=>by
  have:=oO k l
  grind [leB]
theorem nI (l:List Bool):(oB l).length=4+8*((l.length+63)/64)+4*((l.length+511)/512):=by
 unfold oB mO tV;grind [oO,leB]
theorem sR0 {v s t:Nat} (ht:t<64):((v<<<s)%18446744073709551616).testBit t=(decide (s<=t)&&v.testBit (t-s)):=by
 rw[show 18446744073709551616=2^64 from rfl,Ad,Bi]
 simp[ht]
theorem cX0 {f g:Nat->Bool} {a b:Nat}:∀k,(∀t,t<k->f (a+t)=g (b+t))->tE f a k=tE g b k
 | 0,_=>rfl
 | k+1,h=>by rw[tE,tE,cX0 k (λt ht=>h t (by omega)),h k (by omega)]
theorem xH0 (l:List Bool) (q s:Nat) (hs:s<64):dT l (64*q)+zT 2 64 ((mY l q<<<(63-s))%18446744073709551616)=dT l (64*q+s+1):=by
 have h1:(mY l q<<<(63-s))%18446744073709551616=fE (λj=>decide (63-s<=j)&&bitOf l (64*q+(j-(63-s)))) 0 64:=by
  apply iJ
  ·exact Ay _ (by decide)
  ·intro t ht
   rw[sR0 ht,mY,dE,Aq];by_cases h:63-s<=t
   ·simp[h,show t-(63-s)<64 by omega]
   ·simp[h]
 obtain⟨f,hf⟩:∃f:Nat->Bool,f=λj=>decide (63-s<=j)&&bitOf l (64*q+(j-(63-s))):=⟨_,rfl⟩;rw[h1,<-hf,aT0];have h2:tE f 0 64=tE f 0 ((63-s)+(s+1)):=congrArg (tE f 0) (by omega);have h3:=xV f 0 (63-s) (s+1);have h4:tE f 0 (63-s)=0:=jH0 _ 0 (63-s) (λt ht=>by rw[hf];simp;omega)
 have h5:tE f (0+(63-s)) (s+1)=tE (bitOf l) (64*q) (s+1):=by
  apply cX0
  intro t _;rw[hf];simp
 have h6:=xV (bitOf l) 0 (64*q) (s+1);unfold dT;rw[Aq]at h6;rw[h2,h3,h4,h5,Aq,show 64*q+s+1=64*q+(s+1) by omega,h6]
def jK (l:List Bool) (b:Bool) (i:Nat):Nat:=if b then dT l i else i-dT l i
theorem qP (p:Nat->Bool) (j:Nat):∀n,(∀i,i<n->p i=decide (i<j))->(Ba n).countP p=min j n
 | 0,_=>by simp
 | n+1,h=>by
  rw[Bu,List.countP_append,qP p j n (λi hi=>h i (by omega)),List.countP_singleton,h n (by omega)];by_cases hn:n<j
  ·simp[hn];omega
  ·simp[hn];omega
theorem uE (l:List Bool) (b:Bool) (i:Nat):jK l b (i+1)=jK l b i+(if bitOf l i=b then 1 else 0):=by
 have h1:=gD l i;have h2:=nM l i;cases b<;>cases h:bitOf l i<;>simp[jK,h]at h1 ⊢ <;> omega
theorem qH (l:List Bool) (b:Bool) {i j:Nat} (h:i<=j):jK l b i<=jK l b j:=by
 induction j with
 | zero=>rw[show i=0 by omega];exact Ae _
 | succ j ih =>
  by_cases r9:i=j+1
  ·rw[r9];exact Ae _
  ·rw[uE]
   exact Nat.le_trans (ih (by omega)) (Nat.le_add_right _ _)
theorem mI1 (l:List Bool) (b:Bool) {j k n:Nat} (hj:j<n) (hb:bitOf l j=b) (hk:jK l b j=k):(Ba n).countP (λi => !decide (k<jK l b (i+1)))=j:=by
 have hs:jK l b (j+1)=k+1:=by rw[uE,hk,hb];simp
 rw[qP _ j n (λi _=>?_)]
 ·omega
 ·by_cases hi:i<j
  ·have:=qH l b (show i+1<=j by omega)
   simp[hi];omega
  ·have:=qH l b (show j+1<=i+1 by omega)
   simp[hi];omega
def yP:List UInt8->Nat
 | []=>0
 | c::b=>c.toNat+256*yP b
theorem aL0:∀(b:List UInt8) (c:UInt8),yP (b++[c])=yP b+c.toNat*256^b.length
 | [],c=>by simp[yP]
 | d::b,c=>by
  rw[Bq,yP,yP,aL0 b c,Bs,Ax,Nat.mul_add,By];congr 2
  rw[<-Bz,Aw 256,Bz,Aw 256]
theorem lR0:∀(b:List UInt8),yP b<256^b.length
 | []=>by simp[yP]
 | c::b=>by
  have h:=lR0 b;have hc:=c.toNat_lt;rw[yP,Bs,Ax];omega
theorem pR0 {b:List UInt8} (h:b.length<=8):yP b<18446744073709551616 :=
 Ai (lR0 b) (by
  have:256^b.length<=256^8:=Ah (by decide) h
  exact this)
theorem fB0:∀(k n:Nat),yP (leB k n)=n%256^k
 | 0,n=>by simp[leB,yP,Nat.mod_one]
 | k+1,n=>by
  rw[fP1,yP,fB0 k (n/256),Ax,Aw (256^k) 256,Nat.mod_mul];simp
theorem jD1 {b:List UInt8} {c:UInt8} (h:b.length<8):yP b|||(c.toNat<<<(8*b.length))%18446744073709551616=yP (b++[c]):=by
 have h1:=lR0 b;have e:256^b.length=2^(8*b.length):=by rw[Nat.pow_mul]
 rw[e]at h1;have hs:=pR0 (b:=b++[c]) (by simp;omega);rw[aL0,e]at hs;rw[aL0,e,<-Bt,Bc (by rw[Bt];omega),Nat.or_comm,<-Nat.shiftLeft_add_eq_or_of_lt h1,Cb]
theorem dU0 (s:Nat):∀(l:List Nat) (k n:Nat) (t:List UInt8),l[k]?=some n->(((l.map (leB s)).flatten++t).drop (s*k)).take s=leB s n
 | [],k,n,t,h=>by simp at h
 | m::l,0,n,t,h=>by
  obtain rfl:m=n:=by simpa using h
  rw[Nat.mul_zero,List.drop_zero,Bk,Bp,Ar,At (by rw[bM];exact Ae _),Be (by rw[bM];exact Ae _)]
 | m::l,k+1,n,t,h=>by
  rw[Bk,Bp,Ar,List.drop_append,bM,show s*(k+1)-s=s*k by rw[Ce];omega,List.drop_eq_nil_of_le (by rw[bM,Ce];omega),List.nil_append]
  exact dU0 s l k n t (by simpa using h)
theorem aB1 (l:List Bool):(oB l).take 4=leB 4 l.length:=by
 unfold oB;rw[Ar,At (by rw[bM];exact Ae _),Be (by rw[bM];exact Ae _)]
theorem zL0 {l:List Bool} {k:Nat} (h:k<(l.length+63)/64):((oB l).drop (4+8*k)).take 8=leB 8 (mY l k):=by
 unfold oB;rw[Ar,<-List.drop_drop,List.drop_left' (bM 4 _)];exact dU0 8 (mO l) k _ _ (by unfold mO;rw[List.getElem?_map,List.getElem?_range h];rfl)
theorem eO1 {l:List Bool} {q:Nat} (h:l.length<=64*q+64) (h2:64*q<l.length) (h3:l.length%64≠0):mY l q/2^(l.length%64)=0:=by
 rw[<-Aa];apply Ac
 intro t;rw[Aj,mY,dE,Br];by_cases ht:l.length%64+t<64
 ·rw[jB0 (by omega)];simp
 ·simp[ht]
theorem eJ1 (l:List Bool) (i:Nat):(mY l (i/64)>>>(i%64))&&&1=if bitOf l i then 1 else 0:=by
 apply Ac
 intro t;rw[Bg,Aj,mY,dE]
 cases t with
 | zero =>
  rw[show 64*(i/64)+(i%64+0)=i by omega]
  cases bitOf l i<;>simp<;>omega
 | succ t =>
  have h1:Nat.testBit 1 (t+1)=false:=by rw[Nat.testBit_succ];simp
  cases bitOf l i<;>simp[h1]
end
end Go.Proofs.YtjhajgffmnkocaaGreatDoor
