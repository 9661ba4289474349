/- The texts CrcP BitsP PackP PopP VecP RnkP SelP, one behind the other. -/
import Derived.Test.YtiopheoljccmpaaGreatDoorRows
open Nat renaming shiftRight_eq_div_pow → Aa,and_two_pow_sub_one_eq_mod → Ab,testBit_mod_two_pow → Ac,mod_two_eq_zero_or_one → Ad,mod_add_div → Ae,reducePow → Af,testBit_two_pow_mul_add → Ag,eq_of_testBit_eq → Ah,pow_le_pow_right → Ai,and_le_right → Ak,lt_of_lt_of_le → Al,lt_of_le_of_lt → Am,testBit_lt_two_pow → An,or_lt_two_pow → Ao,zero_add → Ap,xor_assoc → Ar,le_refl → As,testBit_xor → At,two_pow_pos → Av,testBit_div_two → Aw,mod_lt → Ax,testBit_or → Ay,div_div_eq_div_mul → Az,testBit_shiftRight → Ba,div_le_self → Bc,testBit_shiftLeft → Bd,testBit_two_pow → Be,xor_lt_two_pow → Bf,lt_trans → Bg,mod_eq_of_lt → Bh,testBit_and → Bi,add_le_add → Bj,add_lt_add → Bk,xor_comm → Bo,mul_comm → Bp,add_zero → Bq,pow_zero → Br,pow_succ → Bs
open UInt8 renaming ofNat → Aj
open List renaming range → Aq,range_succ → Au,map_append → Bb,map_cons → Bn
namespace Go.Proofs.YtiopheoljccmpaaGreatDoor
section
open Go
def cD0 (r:Nat):Nat:=if r%2=1 then r/2 ^^^ 3988292384 else r/2
def crc4 (r:Nat):Nat:=cD0 (cD0 (cD0 (cD0 r)))
def iQ1 (r:Nat):Nat:=crc4 (crc4 r)
def bU0:Nat->List UInt8->Nat
 | r,[]=>r
 | r,c::l=>bU0 (iQ1 (r ^^^ c.toNat)) l
def crcSum (l:List UInt8):Nat:=bU0 4294967295 l ^^^ 4294967295
theorem bU1 (a b:Nat):(a ^^^ b)%2=1↔(a%2+b%2)%2=1:=by
 have h:=At a b 0;simp only[Nat.testBit_zero]at h;rcases Ad a with ha|ha<;>rcases Ad b with hb|hb<;>simp[ha,hb]at h ⊢ <;> omega
theorem dO1 (a b:Nat):(a ^^^ b)/2=a/2 ^^^ b/2:=by
 apply Ah
 intro i;rw[Aw,At,At,Aw,Aw]
theorem xU (a b:Nat):cD0 (a ^^^ b)=cD0 a ^^^ cD0 b:=by
 unfold cD0;rw[dO1];have h:=bU1 a b;rcases Ad a with ha|ha<;>rcases Ad b with hb|hb
 ·rw[if_neg (by rw[h];omega),if_neg (by omega),if_neg (by omega)]
 ·rw[if_pos (by rw[h];omega),if_neg (by omega),if_pos (by omega),Ar]
 ·rw[if_pos (by rw[h];omega),if_pos (by omega),if_neg (by omega),Ar,Ar,Bo (b/2)]
 ·rw[if_neg (by rw[h];omega),if_pos (by omega),if_pos (by omega)]
  rw[Ar,Bo 3988292384,Ar (b/2),Nat.xor_self,Nat.xor_zero]
theorem xT (a:Nat):cD0 (2*a)=a:=by
 unfold cD0;rw[if_neg (by omega)];omega
theorem aX1 (a b:Nat):crc4 (a ^^^ b)=crc4 a ^^^ crc4 b:=by
 unfold crc4;rw[xU,xU,xU,xU]
theorem gT1 (a:Nat):crc4 (16*a)=a:=by
 unfold crc4;rw[show 16*a=2*(2*(2*(2*a))) by omega,xT,xT,xT,xT]
theorem fR1 (r:Nat):r=16*(r/16) ^^^ r%16:=by
 apply Ah
 intro i;rw[At,show 16=2^4 from rfl,Ac,Nat.testBit_two_pow_mul,Nat.testBit_div_two_pow]
 by_cases h:i<4
 ·have h2:¬4<=i:=by omega
  simp[h,h2]
 ·have h2:4<=i:=by omega
  rw[show i-4+4=i by omega]
  simp[h,h2]
def jY:List Nat:=[0,498536548,997073096,651767980,1994146192,1802195444,1303535960,1342533948,3988292384,4027552580,3604390888,3412177804,2607071920,2262029012,2685067896,3183342108]
theorem rE0:∀i:Fin 16,jY[i.val]?=some (crc4 i.val):=by decide +kernel
theorem eA0 (r:Nat):∃q,jY[r%16]?=some q/\crc4 r=r/16 ^^^ q:=by
 refine⟨_,rE0 ⟨r%16,Ax _ (by decide)⟩,?_⟩;have h:crc4 r=crc4 (16*(r/16) ^^^ r%16):=congrArg crc4 (fR1 r);rw[h,aX1,gT1]
theorem aM0 {r:Nat} (h:r<4294967296):cD0 r<4294967296:=by
 unfold cD0;split
 ·exact Bf (n:=32) (by omega) (by decide)
 ·omega
theorem vO {r:Nat} (h:r<4294967296):crc4 r<4294967296:=aM0 (aM0 (aM0 (aM0 h)))
theorem eW0:∀(l:List UInt8) {r:Nat},r<4294967296->bU0 r l<4294967296
 | [],_,h=>h
 | c::l,r,h=>eW0 l (vO (vO (Bf (n:=32) h (by have:=c.toNat_lt;omega))))
theorem uP:∀(l:List UInt8) (r:Nat) (c:UInt8),bU0 r (l++[c])=iQ1 (bU0 r l ^^^ c.toNat)
 | [],_,_=>rfl
 | a::l,r,c=>by
  rw[List.cons_append];exact uP l _ c
def dG (f:Nat->Bool) (base:Nat):Nat->Nat
 | 0=>0
 | k+1=>dG f base k+(if f (base+k) then 2^k else 0)
theorem gV (f:Nat->Bool) (base:Nat):∀k,dG f base k<2^k
 | 0=>by simp[dG]
 | k+1=>by
  have:=gV f base k
  grind [dG]
theorem dT (f:Nat->Bool) (base:Nat):∀k t,(dG f base k).testBit t=(decide (t<k)&&f (base+t))
 | 0,t=>by simp[dG]
 | k+1,t=>by
  have af:=gV f base k;unfold dG;by_cases hf:f (base+k)=true
  ·rw[if_pos hf,Nat.add_comm,<-Nat.one_mul (2^k),Bp 1,Nat.two_pow_add_eq_or_of_lt af,Ay,dT f base k t,Nat.mul_one,Be]
   grind
  ·have hf2:f (base+k)=false:=by simpa using hf
   rw[if_neg hf,Bq,dT f base k t];grind
theorem iC {f:Nat->Bool} {base k n:Nat} (hn:n<2^k) (h:∀t,t<k->n.testBit t=f (base+t)):n=dG f base k:=by
 apply Ah
 intro t;rw[dT];by_cases ht:t<k
 ·rw[h t ht];simp[ht]
 ·simp only[ht,decide_false,Bool.false_and]
  grind [An,Al,Ai]
theorem kF {f g:Nat->Bool} {base base' k:Nat} (h:∀t,t<k->f (base+t)=g (base'+t)):dG f base k=dG g base' k:=by
 apply iC (gV _ _ _)
 grind [dT]
def leB (k n:Nat):List UInt8:=(Aq k).map λi=>Aj (n/256^i)
theorem cE (k n:Nat):(leB k n).length=k:=by simp[leB]
theorem cT1 (k n:Nat):leB (k+1) n=Aj n::leB k (n/256):=by
 unfold leB;rw[List.range_succ_eq_map,Bn,List.map_map];simp only[Br,Nat.div_one,List.cons.injEq,true_and];grind [List.map_congr_left,Az]
theorem cF1 (k n:Nat):leB (k+1) n=leB k n++[Aj (n/256^k)]:=by
 unfold leB;rw[Au,Bb];rfl
def bitLen (n:Nat):Nat:=if n=0 then 0 else n.log2+1
theorem gF {n w:Nat}:bitLen n<=w↔n<2^w:=by
 unfold bitLen;by_cases h:n=0
 ·grind
 ·rw[if_neg h]
  grind [Nat.log2_lt]
theorem hX1 {a b w:Nat}:a|||b<2^w↔a<2^w/\b<2^w :=
 (by grind [Nat.right_le_or,Ao])
def bQ0 (l:List Nat):Nat:=l.foldl (· ||| ·) 0
def gU (l:List Nat):Nat:=bitLen (bQ0 l)
theorem dX0 (l:List Nat) (n:Nat):bQ0 (l++[n])=bQ0 l|||n:=by simp[bQ0]
theorem oW0 {w:Nat}:∀ {l:List Nat},bQ0 l<2^w↔∀n∈l,n<2^w:=by
 have key:∀(l:List Nat) (a:Nat),l.foldl (· ||| ·) a<2^w↔a<2^w/\∀n∈l,n<2^w:=by
  intro l
  induction l with
  | nil=>intro a;simp
  | cons b l ih =>
   intro a;rw[List.foldl_cons,ih,hX1];grind
 grind [bQ0]
theorem wE0 {l:List Nat} {n:Nat} (h:n∈l):n<2^gU l:=oW0.1 (gF.1 (As _)) n h
theorem lP {l:List Nat} {w:Nat}:gU l<=w↔∀n∈l,n<2^w:=by unfold gU; rw[gF,oW0]
def bitAt (l:List Nat) (w pos:Nat):Bool:=(l.getD (pos/w) 0).testBit (pos%w)
theorem sE {l:List Nat} {w pos:Nat} (hw:0<w) (h:l.length*w<=pos):bitAt l w pos=false:=by
 unfold bitAt
 have:l.length<=pos/w:=(Nat.le_div_iff_mul_le hw).2 h
 simp_all
theorem uA {l:List Nat} {w v:Nat} (hw:0<w) (hv:v<2^w) (pos:Nat) :
  bitAt (l++[v]) w pos=(bitAt l w pos||(decide (l.length*w<=pos)&&v.testBit (pos-l.length*w))):=by
 by_cases h:pos<l.length*w
 ·have h1:pos/w<l.length:=(Nat.div_lt_iff_lt_mul hw).2 h
  grind [bitAt]
 ·have h0:l.length*w<=pos:=by omega
  rw[sE hw h0];simp only[h0,decide_true,Bool.true_and,Bool.false_or];by_cases h2:pos<(l.length+1)*w
  ·have h3:pos/w=l.length:=by
    apply Nat.div_eq_of_lt_le
    ·exact h0
    ·exact h2
   have h4:pos%w=pos-l.length*w:=by
    have:=Nat.div_add_mod pos w
    rw[h3,Bp]at this;omega
   grind [bitAt]
  grind [sE,An,Al,Ai]
def xP (l:List Nat):List UInt8:=(Aq ((l.length*gU l+7)/8)).map λj=>Aj (dG (bitAt l (gU l)) (8*j) 8)
def cG (l:List Nat):List UInt8:=leB 4 l.length++[Aj (gU l)]++xP l
def gI (l:List Nat) (w q:Nat):Nat:=dG (bitAt l w) (64*q) 64
theorem zY0 (w q:Nat):gI [] w q=0:=by
 symm
 exact iC (Av _) (by grind [bitAt])
theorem nB (l:List Nat) (w q:Nat):gI l w q<18446744073709551616:=gV _ _ 64
theorem fU0 {v s t:Nat} (ht:t<64):((v<<<s)%18446744073709551616).testBit t=(decide (s<=t)&&v.testBit (t-s)):=by
 rw[show 18446744073709551616=2^64 from rfl,Ac,Bd]
 simp[ht]
theorem iP0 {l:List Nat} {w v q s:Nat} (hw:0<w) (hv:v<2^w) (hq:l.length*w=64*q+s) :
  gI (l++[v]) w q=gI l w q|||(v<<<s)%18446744073709551616:=by
 symm
 apply iC
 ·exact Ao (nB l w q) (by omega)
 ·intro t ht
  rw[Ay,fU0 ht,uA hw hv,gI,dT,hq];grind
theorem tK0 {l:List Nat} {w v q s:Nat} (hw:0<w) (hv:v<2^w) (acv:w<=64) (hs:s<64) (hq:l.length*w=64*q+s) :
  gI (l++[v]) w (q+1)=gI l w (q+1)|||v>>>(64-s):=by
 symm
 apply iC
 ·refine Ao (nB l w (q+1)) ?_
  refine Am (Nat.shiftRight_le v _) (Al hv (Ai (by decide) acv))
 ·intro t ht
  rw[Ay,Ba,uA hw hv,gI,dT,hq];grind
theorem cA0 {l:List Nat} {w v q s r:Nat} (hw:0<w) (hv:v<2^w) (hs:s<64) (hq:l.length*w=64*q+s)
  (hr:r≠q) (dd:r=q+1->s+w<=64) (acv:w<=64):gI (l++[v]) w r=gI l w r:=by
 grind [kF,uA,An,Al,Ai,gI]
theorem dW0 (l:List Nat) (q:Nat) (h:∀n∈l,n<2^0):gI l 0 q=0:=by
 symm
 refine iC (Av _) (λt _=>?_);unfold bitAt;simp only[Nat.div_zero,Nat.mod_zero,Nat.zero_testBit]
 cases l with
 | nil=>simp
 | cons a l =>
  simp_all
theorem sN0 (l:List Nat) (w i:Nat):(gI l w (i/8)>>>(i%8*8))%256=dG (bitAt l w) (8*i) 8:=by
 apply iC
 ·omega
 ·intro t ht
  rw[show 256=2^8 from rfl,Ac,Ba,gI,dT]
  grind
theorem bZ0 (f:Nat->Bool) (pos:Nat):dG f (8*(pos/8)) (pos%8)+(if f pos then 2^(pos%8) else 0)=dG f (8*(pos/8)) (pos%8+1):=by
 grind [dG]
def yM (f:Nat->Bool) (pos:Nat):List UInt8:=(Aq (pos/8)).map λj=>Aj (dG f (8*j) 8)
theorem qH0 {f:Nat->Bool} {pos:Nat} (h:pos%8=7):yM f (pos+1)=yM f pos++[Aj (dG f (8*(pos/8)) 8)]:=by
 unfold yM;rw[show (pos+1)/8=pos/8+1 by omega,Au,Bb]
 rfl
theorem rO0 {f:Nat->Bool} {pos:Nat} (h:pos%8≠7):yM f (pos+1)=yM f pos:=by
 grind [yM]
theorem xX0 {f:Nat->Bool} {base k:Nat}:∀ {n:Nat},k<=n->(∀t,k<=t->t<n->f (base+t)=false)->dG f base n=dG f base k:=by
 intro n
 induction n with
 | zero=>simp_all
 | succ n ih =>
  grind [dG]
theorem iS0 (l:List Nat):xP l=yM (bitAt l (gU l)) (l.length*gU l) ++
  (if l.length*gU l%8=0 then [] else [Aj (dG (bitAt l (gU l)) (8*(l.length*gU l/8)) (l.length*gU l%8))]):=by
 unfold xP yM;by_cases h:l.length*gU l%8=0
 ·grind
 ·rw[if_neg h,show (l.length*gU l+7)/8=l.length*gU l/8+1 by omega,Au,Bb]
  congr 1
  simp only[Bn,List.map_nil,List.cons.injEq,and_true];grind [xX0,sE]
theorem yR0 (a b:Nat):bitLen (a|||b)=max (bitLen a) (bitLen b):=by
 apply Nat.le_antisymm
 ·rw[gF,hX1]
  exact⟨gF.1 (Nat.le_max_left _ _),gF.1 (Nat.le_max_right _ _)⟩
 ·have h:=hX1.1 (gF.1 (As (bitLen (a|||b))))
  exact Nat.max_le.2 ⟨gF.2 h.1,gF.2 h.2⟩
theorem yB0 (l:List Nat) (n:Nat):gU (l++[n])=max (gU l) (bitLen n):=by unfold gU; rw[dX0,yR0]
theorem kP0 {n w:Nat}:n>>>w=0↔bitLen n<=w:=by
 rw[gF,Aa,Nat.div_eq_zero_iff_lt (Av w)]
theorem sZ (l:List Nat):(cG l).length=5+(l.length*gU l+7)/8:=by
 unfold cG xP;simp[cE];omega
def yV (B:Nat):Nat->Nat->Nat
 | 0,_=>0
 | n+1,x=>x%B+yV B n (x/B)
def dN1 (B M:Nat):Nat->Nat->Prop
 | 0,_=>True
 | n+1,x=>x%B<=M/\dN1 B M n (x/B)
def gN (B d:Nat):Nat->Nat
 | 0=>0
 | n+1=>B*gN B d n+d
theorem pP {k a b r s:Nat} (hr:r<2^k) (hs:s<2^k):(2^k*a+r)&&&(2^k*b+s)=2^k*(a&&&b)+(r&&&s):=by
 apply Ah
 intro i;have hrs:r&&&s<2^k:=Am Nat.and_le_left hr;rw[Bi,Ag a hr,Ag b hs,Ag _ hrs,Bi];by_cases h:i<k
 ·simp[h]
 ·simp[h]
theorem lG1 (r:Nat):r&&&1=r%2:=Ab r 1
theorem lB1 (r:Nat):r&&&3=r%4:=Ab r 2
theorem kU1 (r:Nat):r&&&15=r%16:=Ab r 4
theorem fD1 (r:Nat):r&&&127=r%128:=Ab r 7
def aH1 (m x:Nat):Nat:=((x>>>1)&&&m)+(x&&&m)
theorem xK0 (m x:Nat):aH1 (4*m+1) x=4*aH1 m (x/4)+(x%2+x/2%2):=by
 unfold aH1;have h1:=pP (k:=2) (a:=x/4) (b:=m) (r:=x%4) (s:=1) (Ax _ (by decide)) (by decide);have h2:=pP (k:=2) (a:=x/2/4) (b:=m) (r:=x/2%4) (s:=1) (Ax _ (by decide)) (by decide);rw[lG1]at h1 h2;simp only[Af]at h1 h2;rw[show 4*(x/4)+x%4=x by omega]at h1
 rw[show 4*(x/2/4)+x/2%4=x/2 by omega]at h2
 rw[Aa,Aa,Nat.pow_one,h1,h2,show x/2/4=x/4/2 by omega]
 omega
theorem zO0:∀n x,yV 4 n (aH1 (gN 4 1 n) x)=yV 2 (2*n) x/\dN1 4 2 n (aH1 (gN 4 1 n) x)
 | 0,x=>⟨rfl,trivial⟩
 | n+1,x=>by
  have ih:=zO0 n (x/4);have hs:=xK0 (gN 4 1 n) x;rw[show 4*gN 4 1 n+1=gN 4 1 (n+1) from rfl]at hs
  refine⟨?_,?_⟩
  ·rw[hs,show 2*(n+1)=2*n+1+1 by omega]
   simp only[yV];rw[show (4*aH1 (gN 4 1 n) (x/4)+(x%2+x/2%2))/4=aH1 (gN 4 1 n) (x/4) by omega,ih.1,show x/2/2=x/4 by omega]
   omega
  ·rw[hs]
   refine⟨by omega,?_⟩;rw[show (4*aH1 (gN 4 1 n) (x/4)+(x%2+x/2%2))/4=aH1 (gN 4 1 n) (x/4) by omega]
   exact ih.2
def aN1 (m x:Nat):Nat:=((x>>>2)&&&m)+(x&&&m)
theorem wL0 (m x:Nat):aN1 (16*m+3) x=16*aN1 m (x/16)+(x%4+x/4%4):=by
 unfold aN1;have h1:=pP (k:=4) (a:=x/16) (b:=m) (r:=x%16) (s:=3) (Ax _ (by decide)) (by decide);have h2:=pP (k:=4) (a:=x/4/16) (b:=m) (r:=x/4%16) (s:=3) (Ax _ (by decide)) (by decide);rw[lB1]at h1 h2;simp only[Af]at h1 h2;rw[show 16*(x/16)+x%16=x by omega]at h1
 rw[show 16*(x/4/16)+x/4%16=x/4 by omega]at h2
 simp only[Aa,Af];rw[h1,h2,show x/4/16=x/16/4 by omega]
 omega
theorem uI0:∀n x,dN1 4 2 (2*n) x->yV 16 n (aN1 (gN 16 3 n) x)=yV 4 (2*n) x/\dN1 16 4 n (aN1 (gN 16 3 n) x)
 | 0,x,_=>⟨rfl,trivial⟩
 | n+1,x,h=>by
  rw[show 2*(n+1)=2*n+1+1 by omega]at h ⊢
  simp only[dN1]at h;rw[show x/4/4=x/16 by omega]at h
  have ih:=uI0 n (x/16) h.2.2;have hs:=wL0 (gN 16 3 n) x;rw[show 16*gN 16 3 n+3=gN 16 3 (n+1) from rfl]at hs
  refine⟨?_,?_⟩
  ·rw[hs]
   simp only[yV];rw[show (16*aN1 (gN 16 3 n) (x/16)+(x%4+x/4%4))/16=aN1 (gN 16 3 n) (x/16) by omega,ih.1,show x/4/4=x/16 by omega]
   omega
  ·rw[hs]
   refine⟨by omega,?_⟩;rw[show (16*aN1 (gN 16 3 n) (x/16)+(x%4+x/4%4))/16=aN1 (gN 16 3 n) (x/16) by omega]
   exact ih.2
def aJ1 (m x:Nat):Nat:=(x>>>4+x)&&&m
theorem zD0 (m x:Nat) (h0:x%16<=4) (h1:x/16%16<=4) (h2:x/256%16<=4):aJ1 (256*m+15) x=256*aJ1 m (x/256)+(x%16+x/16%16):=by
 unfold aJ1
 have e1:x>>>4+x=256*((x/256)>>>4+x/256)+(16*(x/256%16)+x%256/16+x%256):=by
  simp only[Aa,Af];omega
 have h:=pP (k:=8) (a:=(x/256)>>>4+x/256) (b:=m) (r:=16*(x/256%16)+x%256/16+x%256) (s:=15) (by simp only[Af];omega) (by decide);rw[kU1]at h;simp only[Af]at h;rw[<-e1]at h;rw[h];omega
theorem yN0:∀n x,dN1 16 4 (2*n) x->x<256^n->yV 256 n (aJ1 (gN 256 15 n) x)=yV 16 (2*n) x/\dN1 256 8 n (aJ1 (gN 256 15 n) x)
 | 0,x,_,_=>⟨rfl,trivial⟩
 | n+1,x,h,hx=>by
  rw[show 2*(n+1)=2*n+1+1 by omega]at h ⊢
  simp only[dN1]at h;rw[show x/16/16=x/256 by omega]at h
  have ik:x/256<256^n:=by rw[Bs]at hx;omega
  have ih:=yN0 n (x/256) h.2.2 ik
  have h3:x/256%16<=4:=by
   cases n with
   | zero=>simp only[Br]at ik;omega
   | succ k =>
    have h4:=h.2.2;rw[show 2*(k+1)=2*k+1+1 by omega]at h4
    exact h4.1
  have hs:=zD0 (gN 256 15 n) x h.1 h.2.1 h3;rw[show 256*gN 256 15 n+15=gN 256 15 (n+1) from rfl]at hs
  refine⟨?_,?_⟩
  ·rw[hs]
   simp only[yV];rw[show (256*aJ1 (gN 256 15 n) (x/256)+(x%16+x/16%16))/256=aJ1 (gN 256 15 n) (x/256) by omega,ih.1,show x/16/16=x/256 by omega]
   omega
  ·rw[hs]
   refine⟨by omega,?_⟩;rw[show (256*aJ1 (gN 256 15 n) (x/256)+(x%16+x/16%16))/256=aJ1 (gN 256 15 n) (x/256) by omega]
   exact ih.2
theorem kO1:gN 4 1 32=6148914691236517205:=by decide +kernel
theorem kK1:gN 16 3 16=3689348814741910323:=by decide +kernel
theorem kJ1:gN 256 15 8=1085102592571150095:=by decide +kernel
theorem aA1 {lo B hi:Nat} (h:lo<B):(lo+B*hi)/B=hi:=by
 rw[Nat.add_mul_div_left _ _ (by omega),Nat.div_eq_of_lt h,Ap]
theorem fK1 {x b0 b1 b2 b3 b4 b5 b6 b7:Nat} (h0:b0<=8) (h1:b1<=8) (h2:b2<=8) (h3:b3<=8) (h4:b4<=8) (h5:b5<=8) (h6:b6<=8) (h7:b7<=8)
  (hX:x=b0+256*(b1+256*(b2+256*(b3+256*(b4+256*(b5+256*(b6+256*b7))))))) :
  ∃Y Z,x+x/256=Y/\Y+Y/65536=Z/\Y<18446744073709551616/\Z<18446744073709551616/\Z+Z/4294967296<18446744073709551616 /\
  (Z+Z/4294967296)%128=b0+(b1+(b2+(b3+(b4+(b5+(b6+b7)))))):=by
 have ti:x<1152921504606846976:=by omega
 have q1:x/256=b1+256*(b2+256*(b3+256*(b4+256*(b5+256*(b6+256*b7))))):=by rw[hX];exact aA1 (by omega)
 have hY:x+x/256=((b0+b1)+256*(b1+b2))+65536*((b2+b3)+256*(b3+b4)+65536*((b4+b5)+256*(b5+b6)+65536*((b6+b7)+256*b7))):=by rw[q1,hX];omega
 have hY0:x+x/256<2305843009213693952:=by
  have:=Bc x 256
  omega
 rw[hY]at hY0;refine⟨_,_,hY,rfl,?_⟩;clear hY q1 hX ti x;have q2:(((b0+b1)+256*(b1+b2))+65536*((b2+b3)+256*(b3+b4)+65536*((b4+b5)+256*(b5+b6)+65536*((b6+b7)+256*b7))))/65536=(b2+b3)+256*(b3+b4)+65536*((b4+b5)+256*(b5+b6)+65536*((b6+b7)+256*b7)):=aA1 (by omega);have hZ0:=Bc ((((b0+b1)+256*(b1+b2))+65536*((b2+b3)+256*(b3+b4)+65536*((b4+b5)+256*(b5+b6)+65536*((b6+b7)+256*b7))))) 65536;rw[q2]at hZ0 ⊢;refine⟨Bg hY0 (by decide),?_⟩;have hZ1:=Am (Bj (As _) hZ0) (Bk hY0 hY0);clear hZ0 hY0;have hZ:(((b0+b1)+256*(b1+b2))+65536*((b2+b3)+256*(b3+b4)+65536*((b4+b5)+256*(b5+b6)+65536*((b6+b7)+256*b7))))+((b2+b3)+256*(b3+b4)+65536*((b4+b5)+256*(b5+b6)+65536*((b6+b7)+256*b7)))=((b0+b1+b2+b3)+128*(2*(b1+b2+b3+b4)+512*((b2+b3+b4+b5)+256*(b3+b4+b5+b6))))+4294967296*((b4+b5+b6+b7)+128*(2*(b5+b6+b7)+512*((b6+b7)+256*b7))):=by omega
 rw[hZ]at hZ1 ⊢;clear hZ q2;refine⟨Bg hZ1 (by decide),?_⟩;have q3:(((b0+b1+b2+b3)+128*(2*(b1+b2+b3+b4)+512*((b2+b3+b4+b5)+256*(b3+b4+b5+b6))))+4294967296*((b4+b5+b6+b7)+128*(2*(b5+b6+b7)+512*((b6+b7)+256*b7))))/4294967296=(b4+b5+b6+b7)+128*(2*(b5+b6+b7)+512*((b6+b7)+256*b7)):=aA1 (by omega);generalize hK:2*(b1+b2+b3+b4)+512*((b2+b3+b4+b5)+256*(b3+b4+b5+b6))=K at *;generalize hM:2*(b5+b6+b7)+512*((b6+b7)+256*b7)=M at *;refine⟨?_,?_⟩
 ·have:=Bc (b0+b1+b2+b3+128*K+4294967296*(b4+b5+b6+b7+128*M)) 4294967296
  exact Am (Bj (As _) this) (Bg (Bk hZ1 hZ1) (by decide))
 ·rw[q3]
  clear q3 hZ1 hK hM;have e:b0+b1+b2+b3+128*K+4294967296*(b4+b5+b6+b7+128*M)+(b4+b5+b6+b7+128*M)=(b0+(b1+(b2+(b3+(b4+(b5+(b6+b7)))))))+128*(K+33554432*(b4+b5+b6+b7+128*M)+M):=by omega
  have hS:b0+(b1+(b2+(b3+(b4+(b5+(b6+b7))))))<128:=by omega
  rw[e,Nat.add_mul_mod_self_left];exact Bh hS
theorem kB1 {x x1 x2 x3:Nat} (h1:x1=((x>>>1)&&&6148914691236517205)+(x&&&6148914691236517205))
  (h2:x2=((x1>>>2)&&&3689348814741910323)+(x1&&&3689348814741910323)) (h3:x3=(x2>>>4+x2)&&&1085102592571150095) :
  x1<18446744073709551616/\x2<18446744073709551616/\x2>>>4+x2<18446744073709551616/\x3<18446744073709551616 /\
  ∃Y Z,x3+x3>>>8=Y/\Y+Y>>>16=Z/\Y<18446744073709551616/\Z<18446744073709551616/\Z+Z>>>32<18446744073709551616 /\
  (Z+Z>>>32)&&&127=yV 2 64 x:=by
 have b1:(x>>>1)&&&6148914691236517205<=6148914691236517205:=Ak;have b2:x&&&6148914691236517205<=6148914691236517205:=Ak;have b3:(x1>>>2)&&&3689348814741910323<=3689348814741910323:=Ak;have b4:x1&&&3689348814741910323<=3689348814741910323:=Ak;have b5:x3<=1085102592571150095:=by rw[h3];exact Ak
 have b6:x2>>>4<=x2/16:=by rw[Aa];exact As _
 have a1:=zO0 32 x;rw[kO1,show aH1 6148914691236517205 x=x1 from h1.symm]at a1
 have a2:=uI0 16 x1 a1.2;rw[kK1,show aN1 3689348814741910323 x1=x2 from h2.symm]at a2
 have ik:x2<18446744073709551616:=by omega
 have a3:=yN0 8 x2 a2.2 ik;rw[kJ1,show aJ1 1085102592571150095 x2=x3 from h3.symm]at a3
 obtain⟨s3,d3⟩:=a3;have hs:yV 256 8 x3=yV 2 64 x:=by rw[s3];exact a2.1.trans a1.1
 rw[<-hs];clear s3 a1 a2 hs;refine⟨by omega,ik,by omega,by omega,?_⟩;simp only[dN1,and_true]at d3;obtain⟨c0,c1,c2,c3,c4,c5,c6,c7⟩:=d3;simp only[yV,Bq,fD1,Aa,Af]
 have e7:x3/256/256/256/256/256/256/256%256=x3/256/256/256/256/256/256/256:=by
  apply Bh
  simp only[Az];exact Nat.div_lt_of_lt_mul (by omega)
 have hX:x3=x3%256+256*(x3/256%256+256*(x3/256/256%256+256*(x3/256/256/256%256+256*(x3/256/256/256/256%256+256*(x3/256/256/256/256/256%256+256*(x3/256/256/256/256/256/256%256+256*(x3/256/256/256/256/256/256/256%256))))))):=by
  rw[e7,Ae,Ae,Ae,Ae,Ae,Ae,Ae]
 exact fK1 c0 c1 c2 c3 c4 c5 c6 c7 hX
def tR (f:Nat->Bool) (base:Nat):Nat->Nat
 | 0=>0
 | k+1=>tR f base k+(if f (base+k) then 1 else 0)
theorem dZ0 (f:Nat->Bool) (base:Nat):∀k,tR f base (k+1)=(if f base then 1 else 0)+tR f (base+1) k
 | 0=>by simp[tR]
 | k+1=>by
  rw[tR,dZ0 f base k,tR,show base+1+k=base+(k+1) by omega]
  omega
theorem xY (f:Nat->Bool) (base a:Nat):∀b,tR f base (a+b)=tR f base a+tR f (base+a) b
 | 0=>by simp[tR]
 | b+1=>by rw[show a+(b+1)=a+b+1 by omega,tR,xY f base a b,tR,Nat.add_assoc base];omega
theorem rW (f:Nat->Bool) (base:Nat):∀k,dG f base (k+1)=(if f base then 1 else 0)+2*dG f (base+1) k
 | 0=>by simp[dG]
 | k+1=>by
  rw[dG,rW f base k,dG,show base+1+k=base+(k+1) by omega,Bs]
  by_cases h:f (base+(k+1))=true
  ·rw[if_pos h,if_pos h];omega
  ·rw[if_neg h,if_neg h];omega
theorem aV0 (f:Nat->Bool):∀k base,yV 2 k (dG f base k)=tR f base k
 | 0,_=>rfl
 | k+1,base=>by
  rw[dZ0,<-aV0 f k (base+1),yV,rW];by_cases h:f base=true
  ·rw[if_pos h,show (1+2*dG f (base+1) k)%2=1 by omega,show (1+2*dG f (base+1) k)/2=dG f (base+1) k by omega]
  ·rw[if_neg h,show (0+2*dG f (base+1) k)%2=0 by omega,show (0+2*dG f (base+1) k)/2=dG f (base+1) k by omega]
def fQ (l:List Bool) (i:Nat):Bool:=l.getD i false
theorem wR0 {l:List Bool} {i:Nat} (h:l.length<=i):fQ l i=false:=by
 grind [fQ]
theorem uZ (l:List Bool) (b:Bool) (i:Nat):fQ (l++[b]) i=(fQ l i||(decide (i=l.length)&&b)):=by
 grind [fQ]
def tF (l:List Bool) (q:Nat):Nat:=dG (fQ l) (64*q) 64
theorem uR (l:List Bool) (q:Nat):tF l q<18446744073709551616:=gV _ _ 64
theorem bZ1 (q:Nat):tF [] q=0:=by
 symm
 exact iC (Av _) (by grind [fQ])
theorem tM0 (l:List Bool) (q:Nat):tF (l++[false]) q=tF l q:=by
 grind [kF,uZ,tF]
theorem yJ0 {l:List Bool} {q s:Nat} (hq:l.length=64*q+s) :
  tF (l++[true]) q=tF l q|||(1<<<s)%18446744073709551616:=by
 symm
 apply iC
 ·exact Ao (uR l q) (by omega)
 ·intro t ht
  rw[Ay,uZ,tF,dT,hq,show 18446744073709551616=2^64 from rfl,Ac,Nat.one_shiftLeft,Be]
  grind
theorem uJ0 {l:List Bool} {b:Bool} {q s r:Nat} (hs:s<64) (hq:l.length=64*q+s) (hr:r≠q):tF (l++[b]) r=tF l r:=by
 grind [kF,uZ,tF]
def fE (l:List Bool) (i:Nat):Nat:=tR (fQ l) 0 i
theorem dK0 (l:List Bool) (q:Nat):fE l (64*(q+1))=fE l (64*q)+yV 2 64 (tF l q):=by
 unfold fE tF;rw[aV0,show 64*(q+1)=64*q+64 by omega,xY,Ap]
theorem iS (l:List Bool) (i:Nat):fE l (i+1)=fE l i+(if fQ l i then 1 else 0):=by
 unfold fE;rw[tR,Ap]
theorem xM0 (f:Nat->Bool) (base:Nat):∀k,tR f base k<=k
 | 0=>As _
 | k+1=>by
  have:=xM0 f base k
  grind [tR]
theorem nC (l:List Bool) (i:Nat):fE l i<=i:=xM0 _ _ _
theorem jF0 (f:Nat->Bool) (base:Nat):∀k,(∀t,t<k->f (base+t)=false)->tR f base k=0
 | 0,_=>rfl
 | k+1,h=>by rw[tR,jF0 f base k (by grind),h k (by omega)];simp
def xR (l:List Bool):List Nat:=(Aq ((l.length+63)/64)).map (tF l)
def uH (l:List Bool):List Nat:=(Aq ((l.length+511)/512)).map λg=>fE l (512*g)
def fE0 (l:List Bool):List UInt8:=leB 4 l.length++((xR l).map (leB 8)).flatten++((uH l).map (leB 4)).flatten
theorem sP0 (f:Nat->Bool) (base:Nat) {k m v:Nat} (hv:v=dG f (base+(k+1)) m):(2*v+(if f (base+k) then 1 else 0))=dG f (base+k) (m+1):=by
 grind [rW]
theorem jF (k:Nat):∀(l:List Nat),((l.map (leB k)).flatten).length=k*l.length
 | []=>by simp
 | a::l=>by
  have:=jF k l
  grind [leB]
theorem yE (l:List Bool):(fE0 l).length=4+8*((l.length+63)/64)+4*((l.length+511)/512):=by
 unfold fE0 xR uH;grind [jF,leB]
theorem rK0 {v s t:Nat} (ht:t<64):((v<<<s)%18446744073709551616).testBit t=(decide (s<=t)&&v.testBit (t-s)):=by
 rw[show 18446744073709551616=2^64 from rfl,Ac,Bd]
 simp[ht]
theorem dU0 {f g:Nat->Bool} {a b:Nat}:∀k,(∀t,t<k->f (a+t)=g (b+t))->tR f a k=tR g b k
 | 0,_=>rfl
 | k+1,h=>by rw[tR,tR,dU0 k (λt ht=>h t (by omega)),h k (by omega)]
theorem uW0 (l:List Bool) (q s:Nat) (hs:s<64):fE l (64*q)+yV 2 64 ((tF l q<<<(63-s))%18446744073709551616)=fE l (64*q+s+1):=by
 have h1:(tF l q<<<(63-s))%18446744073709551616=dG (λj=>decide (63-s<=j)&&fQ l (64*q+(j-(63-s)))) 0 64:=by
  apply iC
  ·exact Ax _ (by decide)
  ·intro t ht
   rw[rK0 ht,tF,dT,Ap];by_cases h:63-s<=t
   ·simp[h,show t-(63-s)<64 by omega]
   ·simp[h]
 obtain⟨f,hf⟩:∃f:Nat->Bool,f=λj=>decide (63-s<=j)&&fQ l (64*q+(j-(63-s))):=⟨_,rfl⟩;rw[h1,<-hf,aV0];have h2:tR f 0 64=tR f 0 ((63-s)+(s+1)):=congrArg (tR f 0) (by omega);have h3:=xY f 0 (63-s) (s+1);have h4:tR f 0 (63-s)=0:=jF0 _ 0 (63-s) (λt ht=>by rw[hf];simp;omega)
 have h5:tR f (0+(63-s)) (s+1)=tR (fQ l) (64*q) (s+1):=by
  apply dU0
  intro t _;rw[hf];simp
 have h6:=xY (fQ l) 0 (64*q) (s+1);unfold fE;rw[Ap]at h6;rw[h2,h3,h4,h5,Ap,show 64*q+s+1=64*q+(s+1) by omega,h6]
def kS (l:List Bool) (b:Bool) (i:Nat):Nat:=if b then fE l i else i-fE l i
theorem eC0 (p:Nat->Bool) (j:Nat):∀n,(∀i,i<n->p i=decide (i<j))->(Aq n).countP p=min j n
 | 0,_=>by simp
 | n+1,h=>by
  rw[Au,List.countP_append,eC0 p j n (by grind),List.countP_singleton,h n (by omega)];grind
theorem uG (l:List Bool) (b:Bool) (i:Nat):kS l b (i+1)=kS l b i+(if fQ l i=b then 1 else 0):=by
 grind [iS,nC,kS]
theorem pY (l:List Bool) (b:Bool) {i j:Nat} (h:i<=j):kS l b i<=kS l b j:=by
 induction j with
 | zero=>simp_all
 | succ j ih =>
  by_cases hij:i=j+1
  ·simp_all
  ·rw[uG]
   omega
theorem jW1 (l:List Bool) (b:Bool) {j k n:Nat} (hj:j<n) (hb:fQ l j=b) (hk:kS l b j=k):(Aq n).countP (λi => !decide (k<kS l b (i+1)))=j:=by
 have hs:kS l b (j+1)=k+1:=by rw[uG,hk,hb];simp
 rw[eC0 _ j n (λi _=>?_)]
 ·omega
 ·by_cases hi:i<j
  ·have:=pY l b (show i+1<=j by omega)
   simp[hi];omega
  ·have:=pY l b (show j+1<=i+1 by omega)
   simp[hi];omega
end
end Go.Proofs.YtiopheoljccmpaaGreatDoor
