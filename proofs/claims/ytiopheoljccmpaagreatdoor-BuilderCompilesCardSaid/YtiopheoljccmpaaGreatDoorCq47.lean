/- The texts RefC16 RefL16 RefLw RefPar, one behind the other. -/
import Derived.Test.YtiopheoljccmpaaGreatDoorCq18
import Derived.Test.YtiopheoljccmpaaGreatDoorCq46
import Derived.Test.YtiopheoljccmpaaGreatDoorCq34
import Derived.Test.YtiopheoljccmpaaGreatDoorCq12
import Derived.Test.YtiopheoljccmpaaGreatDoorCq35
import Derived.Test.YtiopheoljccmpaaGreatDoorCq42
import Derived.Test.YtiopheoljccmpaaGreatDoorCq20
import Derived.OneCell
import Derived.Test.YtiopheoljccmpaaGreatDoorCq22
open Go.Lib renaming hid → Aa,size_eq → Ad,toList_data → Ak
open Go.World renaming cell?_setCell_other → Ab
open List renaming getElem?_eq_getElem → Ac
open Go.IntKind renaming signed → Ae,wrap → Ag,bits → Ah
open Nat renaming lt_of_lt_of_le → Af,div_eq_of_lt → Ai,mul_add_div → Aj,mul_le_mul → Al,mul_comm → Am,add_zero → An,zero_le → Ao,mul_pos → Ap
set_option maxHeartbeats 8000000
namespace Go.Proofs.YtiopheoljccmpaaGreatDoor
set_option maxRecDepth 100000
section
open Go Go.RowKit Go.Shelf
attribute [local go_sem] aM
def rcS (s:ByteArray):Int:=if numMb s then (decVal s.data.toList:Int) else -1
theorem hF1 {s:ByteArray} {k:Nat} (h:k<s.size) (hb:dW s[k]=false):rcS s = -1:=by
 unfold rcS numMb qO
 have:s.data.toList.all dW=false:=by
  rw[List.all_eq_false]
  exact⟨s[k],by
   have h2:k<s.data.toList.length:=by simpa using h
   have:=List.getElem_mem h2
   exact this,by rw[hb];simp⟩
 rw[this];simp
theorem lC1 {l:List UInt8} (h:l.all dW=true) (hl:l.length<=5):decVal l<100000:=by
 have h1:=fG0 l 0 0 h (by decide);rw[Nat.zero_add]at h1;have h2:10^l.length<=10^5:=Nat.pow_le_pow_right (by decide) hl;exact Af h1 h2
theorem oZ0 (s:ByteArray) (w:World):Calls Tryz.prog 60 #[.string s] w λe w'=>e=.returned (.int .i64 (rcS s))/\w=w':=by
 by_cases h1:s.size<1
 ·have hr:rcS s = -1:=by
   have:s.data.toList=[]:=List.eq_nil_of_length_eq_zero (by rw[<-Ad];omega)
   unfold rcS numMb qO;rw[this];rfl
  rw[hr];have g1:(s.size:Int)<1:=by omega
  go_enter Tryz.func60,Tryz.ntmps60
  go_wp2
  go_ret;exact⟨rfl,rfl⟩
 ·by_cases h5:5<s.size
  ·have hr:rcS s = -1:=by
    unfold rcS numMb qO;rw[<-Ad,show decide (s.size<=5)=false by simp;omega]
    simp
   rw[hr];have g1:¬(s.size:Int)<1:=by omega
   have g5:(5:Int)<s.size:=by omega
   go_enter Tryz.func60,Tryz.ntmps60
   go_wp2
   go_ret;exact⟨rfl,rfl⟩
  ·have g1:¬(s.size:Int)<1:=by omega
   have g5:¬(5:Int)<s.size:=by omega
   obtain⟨R,hR⟩:=exq (rcS s);rw[<-hR];have HR:=Aa hR;clear hR;go_enter Tryz.func60,Tryz.ntmps60
   go_wp2_with fail
   go_loop [3,4] (λn i=>∃k v:Nat,k<=s.size/\i=.int .i64 k/\n=.int .i64 v/\v<1000000/\Hid (v=decVal (s.data.toList.take k)/\(s.data.toList.take k).all dW=true)) (λ_ i=>s.size-(intOf i).toNat)
   case atStart=>exact⟨0,0,Ao _,rfl,rfl,by omega,rfl,rfl⟩
   case round =>
    obtain⟨k,v,hk,rfl,rfl,hv,ak⟩:=hrel;by_cases af:k<s.size
    ·have hs5:s.size<=5:=by omega
     cases hd:dW s[k]
     ·have hr:=hF1 af hd
      have hR2:R = -1:=HR.out.trans hr;subst hR2;have HD:=Aa hd
      have hor:(s[k].toNat:Int)<48\/(¬(s[k].toNat:Int)<48/\(57:Int)<s[k].toNat):=by
       unfold dW at hd;simp at hd;omega
      clear hd hr ak HR;rcases hor with q|⟨q,q2⟩
      ·go_wp2
       go_ret;exact⟨rfl,rfl⟩
      ·go_wp2
       go_ret;exact⟨rfl,rfl⟩
     ·have hb:48<=s[k].toNat/\s[k].toNat<=57:=by
       unfold dW at hd;simpa using hd
      have q1:¬(s[k].toNat:Int)<48:=by omega
      have q2:¬(57:Int)<s[k].toNat:=by omega
      have j7:k<s.data.toList.length:=by rw[<-Ad];exact af
      have te:s.data.toList.take (k+1)=s.data.toList.take k++[s[k]]:=by
       rw[List.take_succ_eq_append_getElem j7];rfl
      have d5:(s.data.toList.take (k+1)).all dW=true:=by
       rw[te,List.all_append,ak.out.2];simp[hd]
      have my:v*10+(s[k].toNat-48)=decVal (s.data.toList.take (k+1)):=by rw[te,mH0,<-ak.out.1]
      have oe:=lC1 d5 (by rw[List.length_take];omega);have HN:Hid (v*10+(s[k].toNat-48)=decVal (s.data.toList.take (k+1))/\(s.data.toList.take (k+1)).all dW=true):=⟨my,d5⟩;have hvb:v*10+(s[k].toNat-48)<1000000:=by omega
      clear te d5 my oe hd ak;go_wp2
      go_round
      case rel=>exact⟨k+1,v*10+(s[k].toNat-48),af,by go_num,by first|(congr 1;omega)|go_num,hvb,HN.out⟩
      case measure=>simp[intOf];omega
    ·obtain rfl:k=s.size:=by omega
     obtain⟨lf,ji⟩:=ak.out;rw[Ad,List.take_length]at lf ji
     have hdo:qO s.data.toList=true:=by
      unfold qO;rw[ji,<-Ad,show decide (s.size<=5)=true by simp;omega]
      have:s.data.toList.isEmpty=false:=by
       cases hh:s.data.toList with
       | nil=>rw[Ad,hh]at h1;simp at h1
       | cons _ _=>rfl
      rw[this];rfl
     have hr:rcS s=if isC (v:Int) then (v:Int) else -1:=by
      unfold rcS numMb;rw[hdo,Bool.true_and,zW0,lf]
     have HR2:=Aa (HR.out.trans hr);clear hr hdo lf ji ak HR;cases hC:isC (v:Int)
     ·have hR2:R = -1:=by rw[HR2.out,hC];rfl
      subst hR2;go_wp2_with (go_at_call 108;refine(gL0 _ _).mono ?_;rintro e w1 ⟨rfl,rfl⟩)
      go_ret;exact⟨rfl,rfl⟩
     ·have hR2:R=v:=by rw[HR2.out,hC];rfl
      subst hR2;go_wp2_with (go_at_call 108;refine(gL0 _ _).mono ?_;rintro e w1 ⟨rfl,rfl⟩)
      go_ret;exact⟨rfl,rfl⟩
end
section
open Go Go.RowKit Go.Shelf
attribute [local go_sem] aM aP
structure iO (w:World) (sb n:Nat) (seen:List (Nat×Nat)):Prop where
 lt:sb<w.heap.size
 c:∀a b:Nat,a<n->b<n->w.cell? ⟨sb,a*n+b,none⟩=some (.bool (decide ((a,b)∈seen)))
 f:∀j,w.frozen? ⟨sb,j,none⟩=false
theorem iO.grows {w w':World} {sb n:Nat} {seen:List (Nat×Nat)} (h:iO w sb n seen) (hg:aB w w'):iO w' sb n seen :=
 ⟨hg.lt h.lt,λa b ha hb=>hg.cell (h.c a b ha hb),λj=>(hg.froz (p:=⟨sb,j,none⟩) h.lt).trans (h.f j)⟩
theorem mM0 {n a b a' b':Nat} (hb:b<n) (hb':b'<n) (h:a*n+b=a'*n+b'):a=a'/\b=b':=by
 have h1:(a*n+b)/n=a:=by rw[Am,Aj (by omega),Ai hb,An]
 have h2:(a'*n+b')/n=a':=by rw[Am,Aj (by omega),Ai hb',An]
 have h3:a=a':=by rw[<-h1,<-h2,h]
 subst h3;exact⟨rfl,by omega⟩
theorem iO.put {w:World} {sb n:Nat} {seen:List (Nat×Nat)} (h:iO w sb n seen) {a b:Nat} (ha:a<n) (hb:b<n):iO (w.setCell ⟨sb,a*n+b,none⟩ (.bool true)) sb n ((a,b)::seen):=by
 refine⟨by simpa using h.lt,λa' b' ha' hb'=>?_,λj=>by rw[World.frozen?_setCell];exact h.f j⟩;by_cases e:a'*n+b'=a*n+b
 ·obtain⟨rfl,rfl⟩:=mM0 hb' hb e
  rw[World.cell?_setCell_same _ _ _ (h.c a' b' ha' hb')];simp
 ·rw[Ab _ _ _ _ (λe2=>e (congrArg Addr.off e2).symm),h.c a' b' ha' hb']
  have aw:(a',b')≠(a,b):=λh=>e (by rw[(Prod.mk.inj h).1,(Prod.mk.inj h).2]);simp[aw]
theorem iO.kept {w w':World} {sb n:Nat} {seen:List (Nat×Nat)} {row:Option Nat} (h:iO w sb n seen) (hg:w.grownBy w' row) (aw:some sb≠row):iO w' sb n seen :=
 ⟨Af h.lt hg.size,λa b ha hb=>bB hg (h.c a b ha hb) aw,λj=>(lB hg (p:=⟨sb,j,none⟩) h.lt aw).trans (h.f j)⟩
theorem zQ0 {s:ByteArray}:(rcS s<0)↔numMb s=false:=by
 unfold rcS;cases numMb s
 ·simp
 ·simp
theorem yT0 {s:ByteArray} (h:numMb s=true):rcS s=numMv s:=by
 unfold rcS numMv;rw[h];unfold numMb at h;simp only[Bool.and_eq_true]at h;rw[h.1];simp
theorem iO.zero {w:World} {sb n:Nat} {seen:List (Nat×Nat)} (h:iO w sb n seen) (hn:1<=n):∃t,w.cell? ⟨sb,0,none⟩=some (.bool t):=by
 have:=h.c 0 0 (by omega) (by omega)
 rw[Nat.zero_mul]at this;exact⟨_,this⟩
theorem iQ.mark {w:World} {rb sb n:Nat} {m:Mx} {seen:List (Nat×Nat)} (h:iQ w rb m) (hs:iO w sb n seen) (hn:1<=n) (aw:rb≠sb) (j:Nat) (v:Value):iQ (w.setCell ⟨sb,j,none⟩ v) rb m:=by
 obtain⟨g,cap,c2,_,_,cj,_,_⟩:=h.costs;obtain⟨t,ht⟩:=hs.zero hn
 have hgs:g≠sb:=by
  rintro rfl;have j6:=h.ok.n1;have hl:=h.ok.len;have h0:0<m.cs.length:=by rw[hl];exact Ap (by omega) (by omega)
  rw[cj 0 _ (Ac h0)]at ht;simp at ht
 have hd:∀i,(⟨sb,j,none⟩:Addr)≠⟨rb,i,none⟩:=λi e=>aw (congrArg Addr.block e).symm;obtain⟨v0,vm,ho⟩:=h.own;refine⟨h.ok,by rw[Ab _ _ _ _ (hd 0)];exact h.c0,by rw[Ab _ _ _ _ (hd 1)];exact h.c1,v0,by rw[Ab _ _ _ _ (hd 2)];exact vm,?_⟩;refine ownsRow_setCell_other ho (λe=>?_) v;rw[c2]at vm;obtain rfl:=Option.some.inj vm;exact hgs (Option.some.inj e)
def yO0 (rb sb:Nat) (m:Mx) (x:Int×Int) (c:Int) (seen:List (Nat×Nat)) (w:World) (e:Ending) (w':World):Prop :=
 e=.returned (.bool true)/\iQ w' rb (m.setIf x c)/\iO w' sb m.n seen/\EB (rb+1) w w'
theorem zR0 (w:World) (rb sb:Nat) (m:Mx) (h:iQ w rb m) (seen:List (Nat×Nat)) (hs:iO w sb m.n seen) (r l c:Int) (hb:m.setB (r,l) c=true):Calls Tryz.prog 109 #[.pointer (some ⟨rb,0,none⟩),.int .i64 r,.int .i64 l,.int .i64 c] w (yO0 rb sb m (r,l) c seen w):=by
 refine(rN0 w rb m h r l c hb).mono λe w' hp=>?_;obtain⟨he,hr,g,hg,ld,c0,t9⟩:=hp;obtain⟨t,ht⟩:=hs.zero h.ok.n1
 have aw:some sb≠some g:=by
  intro e2;obtain rfl:=Option.some.inj e2;rw[t9]at ht;simp at ht
 refine⟨he,by rw[hU0 hb];exact hr,hs.kept ld aw,?_,ld.size⟩;exact Below.grown (Below.refl _ _) ld (by have:=h.lt;omega) (λq hq=>by cases hq;omega)
def pB (p:List bT) (m:Mx) (seen:List (Nat×Nat)) (f:List ByteArray) (rb sb:Nat) (w:World) (e:Ending) (w':World):Prop :=
 e=.returned (.int .i64 (lineM p (some (m,seen)) f).2)/\(∀m' f8,(lineM p (some (m,seen)) f).1=some (m',f8)->iQ w' rb m'/\iO w' sb m.n f8)/\EB (rb+1) w w'
theorem zA0 (w:World) (rb:Nat) (m:Mx) (hr:iQ w rb m) (p:List bT) (pa:Option Addr) (pc:Nat) (hp:aF w pa 2 (p.map bI)) (jd:p.length<=64) (hn:m.n=p.length)
  (f:List ByteArray) (fa:Option Addr) (fc:Nat) (hf:aF w fa 1 (f.map tG0)) (zj:f.length<=4294967290) (sb:Nat) (seen:List (Nat×Nat)) (hs:iO w sb m.n seen) (wj:rb<sb) :
  Calls Tryz.prog 62 #[.pointer (some ⟨rb,0,none⟩),.slice fa f.length fc,.slice pa p.length pc,.slice (some ⟨sb,0,none⟩) (m.n*m.n) (m.n*m.n)] w (pB p m seen f rb sb w):=by
 have HR:=Aa hr;have HS:=Aa hs;by_cases h3:f.length=3
 ·match f,h3 with
  | [x,y,z],_ =>
   obtain⟨fb,fo,rfl,lk⟩:=hf.get (by simp);have f0:w.cell? ⟨fb,fo,none⟩=some (.string x):=lk 0 x rfl 0 _ rfl;have f1:w.cell? ⟨fb,fo+1,none⟩=some (.string y):=lk 1 y rfl 0 _ rfl;have f2:w.cell? ⟨fb,fo+2,none⟩=some (.string z):=lk 2 z rfl 0 _ rfl;have CX:=λW (hW:w=W)=>Aa (oF p x pa pc W (by omega) (hW▸hp));have CY:=λW (hW:w=W)=>Aa (oF p y pa pc W (by omega) (hW▸hp));have CZ:=λW=>Aa (oZ0 z W);cases hz:numMb z
   ·have hl:lineM p (some (m,seen)) [x,y,z]=(some (m,seen),5):=by
     unfold lineM;simp only;rw[if_neg (λh=>by have h2:=h.2;rw[show iE [x,y,z] 2=z from rfl,hz]at h2;cases h2)]
    have aey:=zQ0.2 hz;unfold pB;rw[hl];generalize rcS z=Z at CZ aey;clear hl hf hr hs lk CX CY;go_enter Tryz.func62,Tryz.ntmps62
    go_wp2_with fail
    refine(CZ _).out.mono ?_;rintro e w1 ⟨rfl,rfl⟩;go_wp2_with fail
    go_ret;refine⟨rfl,λm' f8 e=>?_,EB.refl _ _⟩;simp only[Option.some.injEq,Prod.mk.injEq]at e;obtain⟨rfl,rfl⟩:=e;exact⟨HR.out,HS.out⟩
   ·have hl:lineM p (some (m,seen)) [x,y,z]=(match posFind p x,posFind p y with
      | some a,some b=>if (a,b)∈seen then (some (m,seen),4) else (some (m.setIf ((a:Int),(b:Int)) (numMv z),(a,b)::seen),0)
      | _,_=>(some (m,seen),150)):=by
     unfold lineM;simp only;rw[if_pos ⟨rfl,hz⟩];rfl
    have my:=yT0 hz;have n9:=oZ hz;rw[my]at CZ;generalize numMv z=Z at CZ n9 hl;have lw:¬Z<0:=by omega
    unfold pB;rw[hl];clear hl hf hr hs lk my hz
    cases hx:posFind p x with
    | none =>
     rw[hx]at CX;generalize posFind p y=oy at CY
     cases oy with
     | none =>
      go_enter Tryz.func62,Tryz.ntmps62
      go_wp2_with fail
      refine(CZ _).out.mono ?_;rintro e w1 ⟨rfl,rfl⟩;go_wp2_with fail
      refine(CX _ rfl).out.mono ?_;rintro e w2 ⟨rfl,rfl⟩;go_wp2_with fail
      refine(CY _ rfl).out.mono ?_;rintro e w3 ⟨rfl,rfl⟩;go_wp2_with fail
      go_ret;refine⟨rfl,λm' f8 e=>?_,EB.refl _ _⟩;simp only[Option.some.injEq,Prod.mk.injEq]at e;obtain⟨rfl,rfl⟩:=e;exact⟨HR.out,HS.out⟩
     | some b =>
      go_enter Tryz.func62,Tryz.ntmps62
      go_wp2_with fail
      refine(CZ _).out.mono ?_;rintro e w1 ⟨rfl,rfl⟩;go_wp2_with fail
      refine(CX _ rfl).out.mono ?_;rintro e w2 ⟨rfl,rfl⟩;go_wp2_with fail
      refine(CY _ rfl).out.mono ?_;rintro e w3 ⟨rfl,rfl⟩;go_wp2_with fail
      go_ret;refine⟨rfl,λm' f8 e=>?_,EB.refl _ _⟩;simp only[Option.some.injEq,Prod.mk.injEq]at e;obtain⟨rfl,rfl⟩:=e;exact⟨HR.out,HS.out⟩
    | some a =>
     have hax:=uJ hx;rw[hx,show findI (some a)=(a:Int) from rfl]at CX
     cases hy:posFind p y with
     | none =>
      rw[hy]at CY;clear hx hy hax;go_enter Tryz.func62,Tryz.ntmps62
      go_wp2_with fail
      refine(CZ _).out.mono ?_;rintro e w1 ⟨rfl,rfl⟩;go_wp2_with fail
      refine(CX _ rfl).out.mono ?_;rintro e w2 ⟨rfl,rfl⟩;go_wp2_with fail
      refine(CY _ rfl).out.mono ?_;rintro e w3 ⟨rfl,rfl⟩;go_wp2_with fail
      go_ret;refine⟨rfl,λm' f8 e=>?_,EB.refl _ _⟩;simp only[Option.some.injEq,Prod.mk.injEq]at e;obtain⟨rfl,rfl⟩:=e;exact⟨HR.out,HS.out⟩
     | some b =>
      have mq:=uJ hy;rw[hy,show findI (some b)=(b:Int) from rfl]at CY
      have c0:=HR.out.c0;have j6:=HR.out.ok.n1;have ham:a<m.n:=by omega
      have hbm:b<m.n:=by omega
      have ads:m.n<=64:=by omega
      have dz:=HS.out.c a b ham hbm;have vn:=HS.out.f (a*m.n+b);have jg:inP m.n ((a:Int),(b:Int))=true:=lJ.2 ⟨⟨by omega,by simp only;omega⟩,by omega,by simp only;omega⟩;have hI:a*m.n+b<m.n*m.n:=sC jg
      have tg:m.setB ((a:Int),(b:Int)) Z=true:=by
       unfold Mx.setB;rw[jg,pI.2 n9];rfl
      have j9:=HS.out.put ham hbm;have xj:=HR.out.mark HS.out j6 (Nat.ne_of_lt wj) (a*m.n+b) (.bool true);obtain⟨AN,hAN⟩:=exq (a*m.n);rw[<-hAN]at dz vn hI j9 xj;obtain⟨N2,hN2⟩:=exq (m.n*m.n);have qq:m.n*m.n<=4096:=Al ads ads;rw[<-hN2]at hI ⊢;have aig:N2<=4096:=by omega
      have wAN:IntKind.i64.wrap ((a:Int)*m.n)=AN:=by
       rw[show ((a:Int)*m.n)=((a*m.n:Nat):Int) by push_cast;rfl,<-hAN]
       simp[Ag,Ah,Ae];omega
      have wI:IntKind.i64.wrap ((AN:Int)+b)=(AN+b:Nat):=by
       rw[show ((AN:Int)+b)=((AN+b:Nat):Int) by push_cast;rfl]
       simp only[Ag,Ah,Ae];simp;omega
      obtain⟨I,hIe⟩:=exq (AN+b);rw[<-hIe]at wI dz vn hI j9 xj;have HSB:=Aa tg;have HPUT:=Aa j9;have HMARK:=Aa xj;clear hAN hN2 qq hIe jg tg j9 xj hx hy hax mq ham hbm hn;by_cases ew:(a,b)∈seen
      ·rw[show decide ((a,b)∈seen)=true by simpa using ew]at dz
       simp only[if_pos ew];go_enter Tryz.func62,Tryz.ntmps62
       go_wp2_with fail
       refine(CZ _).out.mono ?_;rintro e w1 ⟨rfl,rfl⟩;go_wp2_with fail
       refine(CX _ rfl).out.mono ?_;rintro e w2 ⟨rfl,rfl⟩;go_wp2_with fail
       refine(CY _ rfl).out.mono ?_;rintro e w3 ⟨rfl,rfl⟩;go_wp2_with fail
       go_ret;refine⟨rfl,λm' f8 e=>?_,EB.refl _ _⟩;simp only[Option.some.injEq,Prod.mk.injEq]at e;obtain⟨rfl,rfl⟩:=e;exact⟨HR.out,HS.out⟩
      ·rw[show decide ((a,b)∈seen)=false by simpa using ew]at dz
       simp only[if_neg ew];have ig:(⟨sb,I,none⟩:Addr)≠⟨fb,fo+2,none⟩:=λe=>by rw[e,f2]at dz;simp at dz
       have f2':(w.setCell ⟨sb,I,none⟩ (.bool true)).cell? ⟨fb,fo+2,none⟩=some (.string z):=by rw[Ab _ _ _ _ ig];exact f2
       clear ew;go_enter Tryz.func62,Tryz.ntmps62
       go_wp2_with fail
       refine(CZ _).out.mono ?_;rintro e w1 ⟨rfl,rfl⟩;go_wp2_with fail
       refine(CX _ rfl).out.mono ?_;rintro e w2 ⟨rfl,rfl⟩;go_wp2_with fail
       refine(CY _ rfl).out.mono ?_;rintro e w3 ⟨rfl,rfl⟩;go_wp2_with fail
       refine(CZ _).out.mono ?_;rintro e w4 ⟨rfl,rfl⟩;go_wp2_with fail
       refine(zR0 _ rb sb m HMARK.out _ HPUT.out a b Z HSB.out).mono ?_;rintro e w5 ⟨rfl,hr5,hs5,he5⟩;go_wp2
       go_ret;refine⟨rfl,λm' f8 e=>?_,EB.trans _ _ _ _ ⟨(Below.refl _ _).setCell (by simp only;omega) _,by simp⟩ he5⟩;simp only[Option.some.injEq,Prod.mk.injEq]at e;obtain⟨rfl,rfl⟩:=e;exact⟨hr5,hs5⟩
 ·have hl:lineM p (some (m,seen)) f=(some (m,seen),5):=by
   unfold lineM;simp only;rw[if_neg (λh=>h3 h.1)]
  have g3:¬(f.length:Int)=3:=by omega
  unfold pB;rw[hl];clear hl hf hr hs;go_enter Tryz.func62,Tryz.ntmps62
  go_wp2
  go_ret;refine⟨rfl,λm' f8 e=>?_,EB.refl _ _⟩;simp only[Option.some.injEq,Prod.mk.injEq]at e;obtain⟨rfl,rfl⟩:=e;exact⟨HR.out,HS.out⟩
theorem sJ (c:UInt8) (s:ByteArray):splitS c s=(splitL c s.data.toList).map mkB:=fY0 c s
theorem aV1 {a b c:World} {B:Nat} (h:aB a b) (k:EB B b c) (hB:a.heap.size<=B):aB a c:=Below.trans h (Below.mono k.1 hB)
theorem yL0 {w:World} {base n g:Nat} (h:w.ownsRow base 4 1 (.slice (some ⟨g,0,none⟩) (n*n) (n*n)) (n*n) (madeCells #[.bool false] (n*n*1)).toList) (hn:1<=n):iO w g n []:=by
 have cu:0<n*n:=Ap (by omega) (by omega);rcases h.2 with ⟨h1,_⟩|⟨g',cap,ei,hv,hb,hh,ii,hc,hs,ht⟩
 ·cases h1
 ·have e1:=(Value.slice.inj hv).1
  simp only[Option.some.injEq,Addr.mk.injEq,and_true]at e1;subst e1
  have acw:g<w.heap.size:=by
   rcases Nat.lt_or_ge g w.heap.size with h|h
   ·exact h
   ·rw[Array.getElem?_eq_none h]at hh;cases hh
  refine⟨acw,λa b ha fp=>?_,λj=>by simp[World.frozen?,hh]⟩
  have hi:a*n+b<n*n:=by
   have h1:(a+1)*n<=n*n:=Nat.mul_le_mul_right n ha;rw[Nat.add_mul]at h1;omega
  have h1:(madeCells #[Value.bool false] (n*n*1)).toList[a*n+b]?=some (.bool false):=by
   rw[toList_madeCells_one,Nat.mul_one,List.getElem?_replicate,if_pos hi]
  rw[<-ht,List.getElem?_take]at h1;split at h1
  ·simp[World.cell?,hh];simpa using h1
  ·cases h1
theorem tC (c:UInt8) (s:ByteArray):(splitS c s).length<=s.size+1:=by
 rw[sJ,List.length_map,Ad]
 have key:∀l:List UInt8,(splitL c l).length<=l.length+1:=by
  intro l
  induction l with
  | nil=>simp[splitL]
  | cons b l ih =>
   obtain⟨x,r,hx⟩:=nG c l;unfold splitL;rw[hx]at ih ⊢;split<;>simp at ih ⊢ <;> omega
 exact key _
theorem bE1:∃i,Tryz.prog.info? 4=some i/\i.zero=some (.bool false)/\i.size=1/\i.bytes=1:=by
 have h:(Tryz.prog.info? 4).map (λi=>(i.zero,i.size,i.bytes))=some (some (.bool false),1,1):=by kernel_rfl
 cases hi:Tryz.prog.info? 4 with
 | none=>rw[hi]at h;cases h
 | some i =>
  rw[hi]at h;simp only[Option.map_some,Option.some.injEq,Prod.mk.injEq]at h;exact⟨i,rfl,h.1,h.2.1,h.2.2⟩
def kC1 (r:Option Mx×Int×Int) (w:World) (e:Ending) (w':World):Prop :=
 ∃v,e=.returned (.tuple #[v,.int .i64 r.2.1,.int .i64 r.2.2])/\(r.1=none->v=.pointer none)/\(∀m,r.1=some m->∃rb,v=.pointer (some ⟨rb,0,none⟩)/\w.heap.size<=rb/\iQ w' rb m)/\aB w w'
def RSt (B:Nat) (st:nY) (mv sv:Value) (wx:World):Prop :=
 (st=none->mv=.pointer none/\sv=.slice none 0 0) /\
 ∀m seen,st=some (m,seen)->∃rb sb,mv=.pointer (some ⟨rb,0,none⟩)/\sv=.slice (some ⟨sb,0,none⟩) (m.n*m.n) (m.n*m.n)/\iQ wx rb m/\iO wx sb m.n seen/\rb<sb/\B<=rb
theorem rparse_any (text:ByteArray) (p:List bT) (pa:Option Addr) (pc:Nat) (w:World) (jd:p.length<=4611686018427387904) (ga:∀x∈p,x.name.size<=9223372036854775807) (hp:aF w pa 2 (p.map bI)) :
  Calls Tryz.prog 12 #[.string text,.slice pa p.length pc] w (kC1 (xN text p) w):=by
 have CV:=Aa (pW p pa pc w hp jd ga);have HP:=Aa hp;clear hp ga;by_cases da:1048576<text.size
 ·have hr:xN text p=(none,0,2):=by unfold xN;rw[if_pos da]
  have g:(1048576:Int)<text.size:=by omega
  rw[hr];clear hr CV;go_enter Tryz.func12,Tryz.ntmps12
  go_wp2
  go_ret3;exact⟨_,rfl,λ_=>rfl,λm h=>(by cases h),aB.refl _⟩
 ·have g:¬(1048576:Int)<text.size:=by omega
  cases hv:bP p
  ·have hr:xN text p=(none,0,5):=by unfold xN;rw[if_neg da,hv];rfl
   rw[hr];rw[hv]at CV;clear hr hv;go_enter Tryz.func12,Tryz.ntmps12
   go_wp2_with fail
   refine CV.out.mono ?_;rintro e w1 ⟨rfl,aq⟩;go_wp2
   go_ret3;exact⟨_,rfl,λ_=>rfl,λm h=>(by cases h),aq⟩
  ·have hr:xN text p=kZ p (splitS 10 text) 0 none:=by unfold xN;rw[if_neg da,hv];rfl
   have ay:=oY hv;have ajl:(p.length:Int)<=64:=by omega
   have CS:=λW=>Aa (yK 10 text W (by omega));unfold kU at CS;rw[<-sJ]at CS;have dm:∀x∈splitS 10 text,x.size<=1048576:=λx hx=>by have:=dN hx;omega
   have hll:(splitS 10 text).length<=1048577:=by have:=tC 10 text;omega
   rw[hr];rw[hv]at CV;have HSZ:=Aa dm;have HV:=Aa hv;clear hr dm da hv;generalize splitS 10 text=ls at *;obtain⟨PR,hPR⟩:=exq (kZ p ls 0 none);rw[<-hPR];have HPR:=Aa hPR;clear hPR;go_enter Tryz.func12,Tryz.ntmps12
   go_wp2_with fail
   refine CV.out.mono ?_;rintro e w1 ⟨rfl,aq⟩;go_wp2_with fail
   refine(CS w1).out.mono ?_;rintro e w2 ⟨la,lc,rfl,m0,an⟩;have HLS:=Aa m0;have ej:=aq.tr an;clear m0 CV CS;go_wp2_with fail
   go_loopw [7,8,10] (λmv sv i wx=>∃(k:Nat) (st:nY),k<=ls.length/\i=.int .i64 k/\Hid (RSt w2.heap.size st mv sv wx)/\Hid (PR=kZ p (ls.drop k) k st)/\Hid (jS1 p st)/\aB w2 wx) (λ_ _ i _=>ls.length-(intOf i).toNat)
   case atStart=>exact⟨0,none,Ao _,rfl,⟨λ_=>⟨rfl,rfl⟩,λm seen h=>(by cases h)⟩,HPR.out,λm seen h=>(by cases h),aB.refl _⟩
   case round =>
    obtain⟨k,st,hk,rfl,d9,gu,be,hg⟩:=hrel;by_cases af:k<ls.length
    ·obtain⟨x,hx⟩:∃x,ls[k]?=some x:=⟨_,Ac af⟩
     have hxz:=HSZ.out x (List.mem_of_getElem? hx)
     have fj:ls.drop k=x::ls.drop (k+1):=by
      rw[List.drop_eq_getElem_cons af];rw[Ac af]at hx;rw[Option.some.inj hx]
     have cz:=gu.out;rw[fj,rS]at cz;obtain⟨lb,lo,rfl,hlc⟩:=(HLS.out.grows hg).get (aH af);have l0:wr.cell? ⟨lb,lo+k,none⟩=some (.string x):=by simpa using hlc k x hx 0 _ rfl
     clear fj hx hlc gu;by_cases l5:x.toList=[]
     ·rw[if_pos (mQ l5)]at cz
      have HP2:=Aa cz;have ajm:(x.toList==[])=true:=by simpa using l5
      clear cz;go_wp2_with fail
      go_roundw
      case rel=>exact⟨k+1,st,af,by go_num,d9,HP2.out,be,hg⟩
      case measure=>simp[intOf];omega
     ·have h0:=gZ l5
      have tj:(0:Int)<x.size:=by omega
      by_cases kw:(x[0].toNat:Int)=35
      ·rw[if_pos (pR h0 kw)]at cz
       have HP2:=Aa cz;clear cz;go_wp2_with fail
       go_roundw
       case rel=>exact⟨k+1,st,af,by go_num,d9,HP2.out,be,hg⟩
       case measure=>simp[intOf];omega
      ·have acy:((x[0].toNat:Int)==35)=false:=by rw[beq_eq_false_iff_ne];exact kw
       have acx:(x.toList==[])=false:=by rw[beq_eq_false_iff_ne];exact l5
       rw[sW h0 kw]at cz;simp only[Bool.false_eq_true,if_false]at cz;have HP2:=Aa cz;have CS9:=λW=>Aa (yK 9 x W (by omega));unfold kU at CS9;rw[<-sJ]at CS9;have zj:=tC 9 x;have HOK2:=Aa (nL0 HV.out be.out (splitS 9 x));have HMN:Hid (∀m seen,st=some (m,seen)->m.n=p.length):=λm seen h=>(be.out m seen h).2.1;obtain⟨F,hF⟩:=exq (splitS 9 x);rw[<-hF]at HP2 CS9 HOK2 zj;clear cz hF be;go_wp2_with fail
       refine(CS9 wr).out.mono ?_;rintro e w4 ⟨fa,fc,rfl,hf,cd⟩;clear CS9
       cases st with
       | none =>
        obtain⟨rfl,rfl⟩:=d9.out.1 rfl;clear d9;by_cases h2:F.length=2
        ·match F,h2 with
         | [a,b],_ =>
         obtain⟨fb,fo,rfl,lk⟩:=hf.get (by simp);have f0:w4.cell? ⟨fb,fo,none⟩=some (.string a):=lk 0 a rfl 0 _ rfl;have f1:w4.cell? ⟨fb,fo+1,none⟩=some (.string b):=lk 1 b rfl 0 _ rfl;have CZ:=λW=>Aa (oZ0 b W);clear hf lk;by_cases ha:a=gA1
         ·have ha2:a.toList=[100,101,102,97,117,108,116]:=by rw[ha,Ak];rfl
          cases hb:numMb b
          ·have aey:=zQ0.2 hb
           have au:PR=(none,(k:Int)+1,5):=by
            have h1:=HP2.out;rw[lW (λh=>by have h3:=h.2.2;rw[show iE [a,b] 1=b from rfl,hb]at h3;cases h3)]at h1
            exact h1
           subst au;generalize rcS b=Z at CZ aey;clear HP2 HPR hb ha;go_wp2_with fail
           refine(CZ _).out.mono ?_;rintro e w5 ⟨rfl,rfl⟩;go_wp2_with fail
           go_ret3;exact⟨_,rfl,λ_=>rfl,λm h=>(by cases h),ej.tr (hg.tr cd)⟩
          ·have my:=yT0 hb
           have n9:=oZ hb;have hL:lineM p none [a,b]=_:=kH0 ha hb;rw[hL]at HP2 HOK2;rw[my]at CZ;generalize numMv b=Z at *;have ko:uD0 (p.length:Int) Z=true:=lD.2 ⟨by omega,by omega,n9.1,n9.2⟩;have HNB:=Aa ko;obtain⟨N,hN⟩:=exq (p.length*p.length);have qq:p.length*p.length<=4096:=Al ay.2 ay.2
           have wNN:IntKind.i64.wrap ((p.length:Int)*p.length)=N:=by
            rw[show ((p.length:Int)*p.length)=((p.length*p.length:Nat):Int) by push_cast;rfl,<-hN]
            simp[Ag,Ah,Ae];omega
           have hNb:N<=4096:=by omega
           have HN:=Aa hN;have lw:¬Z<0:=by omega
           obtain⟨iu,hiu,hzu,hsu,hbu⟩:=bE1;have HBU:=Aa hbu;clear hN qq hL my hb ha ko hbu;go_wp2_with fail
           refine(CZ _).out.mono ?_;rintro e w5 ⟨rfl,rfl⟩;go_wp2_with fail
           refine(CZ _).out.mono ?_;rintro e w6 ⟨rfl,rfl⟩;go_wp2_with fail
           refine(bW1 _ _ _ HNB.out).mono ?_;rintro e w7 ⟨rfl,hr7,ck⟩;go_wp2_with (at_make;refine wpList_make_full _ rfl _ _ 121 rfl w7.heap.size 4 iu (.bool false) 1 Tryz.underlying121 hiu hzu hsu .i64 .i64 _ _ N rfl rfl (by first|rfl|exact wNN) (by first|rfl|exact wNN) (by rw[HBU.out];omega) (by unfold maxLen;omega) (Nat.le_refl _) ?_;intro w8 f9 ya)
           have eo:aB w7 w8:=(aB.refl w7).grown ya (λq hq=>by cases hq);obtain rfl:=HN.out;have ajn:=hr7.lt;have hB:=(hg.tr cd).size
           have au:Hid (RSt w2.heap.size (some (newM p.length Z,[])) (.pointer (some ⟨w4.heap.size,0,none⟩)) (.slice (some ⟨w7.heap.size,0,none⟩) (p.length*p.length) (p.length*p.length)) w8) :=
            ⟨λh=>(by cases h),λm seen h=>by
             cases h
             exact⟨_,_,rfl,rfl,hr7.grows eo,yL0 f9 ay.1,ajn,hB⟩⟩
           clear f9 ya;go_roundw
           case rel=>exact⟨k+1,_,af,by go_num,au,HP2.out,HOK2.out,((hg.tr cd).tr ck).tr eo⟩
           case measure=>simp[intOf];omega
         ·have ha2:¬a.toList=[100,101,102,97,117,108,116]:=λh=>ha (by
           have h3:a.toList=gA1.toList:=by rw[h,Ak];rfl
           exact rK.1 (by unfold seq;rw[h3];simp))
          have au:PR=(none,(k:Int)+1,5):=by
           have h1:=HP2.out;rw[lW (f:=[a,b]) (λh=>ha h.2.1)]at h1;exact h1
          subst au;clear HP2 HPR ha;go_wp2_with fail
          go_ret3;exact⟨_,rfl,λ_=>rfl,λm h=>(by cases h),ej.tr (hg.tr cd)⟩
        ·have h2i:¬(F.length:Int)=2:=by omega
         have au:PR=(none,(k:Int)+1,5):=by
          have h1:=HP2.out;rw[lW (λh=>h2 h.1)]at h1;exact h1
         subst au;clear HP2 HPR hf;go_wp2_with fail
         go_ret3;exact⟨_,rfl,λ_=>rfl,λm h=>(by cases h),ej.tr (hg.tr cd)⟩
       | some ms =>
        obtain⟨m,seen⟩:=ms;obtain⟨rb,sb,rfl,rfl,hrA,hsA,hrs,hB⟩:=d9.out.2 m seen rfl;have vk:=HMN.out m seen rfl;have CL:=Aa (zA0 w4 rb m (hrA.grows cd) p pa pc (HP.out.grows (ej.tr (hg.tr cd))) ay.2 vk F fa fc hf (by omega) sb seen (hsA.grows cd) hrs);unfold pB at CL;obtain⟨m',f8,ahe,hn'⟩:=rM0 p m seen F;rw[ahe]at CL HP2 HOK2;generalize (lineM p (some (m,seen)) F).2=E at *;have HN':=Aa hn';clear d9 hrA hsA hf ahe hn' vk;go_wp2_with fail
        refine CL.out.mono ?_;rintro e w5 ⟨rfl,yz,uw⟩;obtain⟨hr5,hs5⟩:=yz m' f8 rfl;have bg:aB w2 w5:=aV1 (hg.tr cd) uw (by omega);clear yz uw CL;by_cases hE:E=0
        ·subst hE
         have il:=HP2.out;rw[if_pos rfl]at il;have HP3:=Aa il
         have au:Hid (RSt w2.heap.size (some (m',f8)) (.pointer (some ⟨rb,0,none⟩)) (.slice (some ⟨sb,0,none⟩) (m.n*m.n) (m.n*m.n)) w5) :=
          ⟨λh=>(by cases h),λm2 aju h=>by
           cases h
           rw[HN'.out];exact⟨_,_,rfl,rfl,hr5,hs5,hrs,hB⟩⟩
         clear il HP2;go_wp2_with fail
         go_roundw
         case rel=>exact⟨k+1,_,af,by go_num,au,HP3.out,HOK2.out,bg⟩
         case measure=>simp[intOf];omega
        ·have il:=HP2.out
         rw[if_neg hE]at il;subst il;clear HP2 HPR;go_wp2_with fail
         go_ret3;exact⟨_,rfl,λ_=>rfl,λm h=>(by cases h),ej.tr bg⟩
    ·obtain rfl:k=ls.length:=by omega
     have cz:=gu.out;rw[List.drop_length]at cz
     cases st with
     | none =>
      obtain⟨rfl,rfl⟩:=d9.out.1 rfl;have au:PR=(none,0,5):=cz;subst au;clear cz d9 gu HPR;go_wp2_with fail
      go_ret3;exact⟨_,rfl,λ_=>rfl,λm h=>(by cases h),ej.tr hg⟩
     | some ms =>
      obtain⟨m,seen⟩:=ms;obtain⟨rb,sb,rfl,rfl,hrA,_,_,hB⟩:=d9.out.2 m seen rfl;have au:PR=(some m,0,0):=cz;subst au;have hw2:=ej.size;clear cz d9 gu HPR;go_wp2_with fail
      go_ret3;exact⟨_,rfl,λh=>(by cases h),λm' h=>(by cases h;exact⟨rb,rfl,by omega,hrA⟩),ej.tr hg⟩
end
end Go.Proofs.YtiopheoljccmpaaGreatDoor
