/- The texts Named Chk Bld1 Stab Stab2 Stab3 Stab4 Stab5 Stab6 Stab7 Stab8 Stab9, one behind the other. -/
import Derived.Test.YtiopheoljccmpaaGreatDoorCq2
import Derived.Test.YtiopheoljccmpaaGreatDoorShelf
import Derived.Test.YtiopheoljccmpaaGreatDoorCq1
import Derived.Shelf.SlSortCmp.Kit1
import Derived.Sort.WalkA
import Derived.Deep.LoopGhost
open Go.Lib renaming hid → Aa,toList_data → Al,idxFunc → Ao
open Go.IntKind renaming signed → Ab,wrap → Ac,bits → Ad
open Nat renaming le_refl → Ae,zero_add → Af,mul_le_mul_right → Ag,lt_or_ge → Ah,succ_mul → Ai,mul_assoc → Aj,mul_comm → Ak,lt_trichotomy → Am,zero_mul → An,zero_le → Ap
set_option maxHeartbeats 16000000
namespace Go.Proofs.YtiopheoljccmpaaGreatDoor
set_option maxRecDepth 100000
section
open Go Go.RowKit Go.Shelf
attribute [local go_sem] aM
def nameBad (c:Nat):Bool:=(decide (c<65)||decide (90<c))&&(decide (c<97)||decide (122<c))&&(decide (c<48)||decide (57<c)) && !(c==95) && !(c==45)
theorem sV0 (w:World):PredAt Tryz.prog 79 #[] encR nameBad w:=λW x _=>by
 unfold FnGives;show Calls Tryz.prog 79 #[.int .i32 (x:Int)] W _
 go_enter Tryz.func79,Tryz.ntmps79
 go_wp2
 all_goals (go_ret;refine⟨aZ ?_,0,rfl⟩;rw[Bool.eq_iff_iff];simp[nameBad];try omega)
def iI (s:ByteArray):Bool := !s.toList.isEmpty&&decide (s.size<=16) && !decide (0<=Ao nameBad true s)
theorem hO0 (s:ByteArray) (w:World) :
  Calls Tryz.prog 24 #[.string s] w λe w'=>e=.returned (.bool (iI s))/\aB w w':=by
 have fm:=Aa (Tryz.strings_ContainsFunc 79 #[] (enters_of Tryz.func79 (by kernel_rfl) rfl) nameBad s w (sV0 w));unfold iI;generalize decide (0<=Ao nameBad true s)=r at fm ⊢;cases he:s.toList.isEmpty
 ·have h1:(!s.toList.isEmpty)=true:=by rw[he];rfl
  by_cases hz:s.size<=16
  ·have hz':(s.size:Int)<=16:=by omega
   go_enter Tryz.func24,Tryz.ntmps24
   go_wp2_with (go_at_call 78;refine fm.out.mono ?_;rintro e w' ⟨rfl,an⟩)
   go_ret;exact⟨aZ (by simp[hz]),an⟩
  ·go_enter Tryz.func24,Tryz.ntmps24
   go_wp2
   go_ret;exact⟨rfl,aB.refl _⟩
 ·go_enter Tryz.func24,Tryz.ntmps24
  go_wp2
  go_ret;exact⟨rfl,aB.refl _⟩
def sB (L:List bT) (i:Nat) (p:bT):Bool:=findI (posFind L p.name)==(i:Int)&&iI p.name&&decide (0<=p.kind)&&decide (p.kind<=2)
def iN (L:List bT):List bT->Nat->Bool
 | [],_=>true
 | p::r,i=>sB L i p&&iN L r (i+1)
def lK (p:bT):Bool:=seq p.name bos&&p.kind==0
def bP (l:List bT):Bool:=match l with
 | []=>false
 | p::_=>decide (l.length<=64)&&lK p&&iN l l 0
def jZ1 (b:Bool):Int:=if b then 0 else 5
theorem rB (L:List bT):∀(l:List bT) (i k:Nat),(∀j p,j<k->l[j]?=some p->sB L (i+j) p=true)->iN L l i=iN L (l.drop k) (i+k)
 | [],i,k,_=>by simp[iN]
 | p::l,i,0,_=>by simp
 | p::l,i,k+1,h=>by
  have h0:sB L i p=true:=by simpa using h 0 p (by omega) rfl
  rw[iN,h0,Bool.true_and,List.drop_succ_cons,rB L l (i+1) k λj q hj hq=>by
   have:=h (j+1) q (by omega) (by simpa using hq)
   rwa [show i+(j+1)=i+1+j by omega]at this]
  congr 1;omega
theorem gR {L:List bT} {k:Nat} {p:bT} (hk:L[k]?=some p) (h:∀j q,j<k->L[j]?=some q->sB L j q=true) (hp:sB L k p=false):iN L L 0=false:=by
 have af:k<L.length:=(List.getElem?_eq_some_iff.1 hk).1;have hp':L[k]=p:=(List.getElem?_eq_some_iff.1 hk).2;rw[rB L L 0 k (λj q hj hq=>by simpa using h j q hj hq),List.drop_eq_getElem_cons af,iN,hp',Af,hp,Bool.false_and]
theorem dO0 {L:List bT} (h:∀j q,j<L.length->L[j]?=some q->sB L j q=true):iN L L 0=true:=by
 rw[rB L L 0 L.length (λj q hj hq=>by simpa using h j q hj hq)];simp[iN]
theorem sN (l:List bT) (a:Option Addr) (cap:Nat) (w:World) (hs:aF w a 2 (l.map bI)) (hl:l.length<=4611686018427387904) :
  Calls Tryz.prog 25 #[.slice a l.length cap] w λe w'=>e=.returned (.int .i64 (jZ1 (bP l)))/\aB w w':=by
 have HS:=Aa hs;clear hs
 cases l with
 | nil =>
  go_enter Tryz.func25,Tryz.ntmps25
  go_wp2
  go_ret;exact⟨rfl,aB.refl _⟩
 | cons p0 r =>
  obtain⟨L,hL⟩:=exq (p0::r);have aw:L≠[]:=by rw[hL];simp
  have h0:L[0]?=some p0:=by rw[hL];rfl
  have hv:bP L=(decide (L.length<=64)&&lK p0&&iN L L 0):=by rw[hL];rfl
  rw[<-hL]at HS hl ⊢;clear hL;obtain⟨b,off,rfl,bj⟩:=HS.out.get aw;have c0:w.cell? ⟨b,off,none⟩=some (.string p0.name):=by simpa using bj 0 p0 h0 0 _ rfl
  have c1:w.cell? ⟨b,off+1,none⟩=some (.int .i64 p0.kind):=by simpa using bj 0 p0 h0 1 _ rfl
  have HC:=Aa bj;have cu:0<L.length:=by cases L with|nil=>exact absurd rfl aw|cons _ _=>simp
  have HV:=Aa hv;clear bj aw h0 hv;have hz:((L.length:Int)==0)=false:=by rw[beq_eq_false_iff_ne];omega
  have hz':¬L=[]:=by rintro rfl;simp at cu
  by_cases ky:L.length<=64
  ·have adj:(L.length:Int)<=64:=by omega
   by_cases hn:p0.name.toList=[66,79,83]
   ·by_cases jt:p0.kind=0
    ·have kz:lK p0=true:=by simp[lK,seq,hn,jt,bos,Al]
     have ji:bP L=iN L L 0:=by rw[HV.out,kz];simp[ky]
     have HV2:=Aa ji
     have HC2:Hid (∀W,aB w W->∀k p,L[k]?=some p->W.cell? ⟨b,off+k*2,none⟩=some (.string p.name)/\W.cell? ⟨b,off+k*2+1,none⟩=some (.int .i64 p.kind)) :=
      λW hW k p hp=>⟨hW.cell (HC.out k p hp 0 _ rfl),hW.cell (HC.out k p hp 1 _ rfl)⟩
     rw[ji];clear kz ji HV HC;go_enter Tryz.func25,Tryz.ntmps25
     go_wp2_with fail
     clear c0 c1 hn jt;go_loopw [24] (λi wr=>∃k:Nat,k<=L.length/\i=.int .i64 k/\Hid (∀j q,j<k->L[j]?=some q->sB L j q=true)/\aB w wr) (λi _=>L.length-(intOf i).toNat)
     case atStart=>exact⟨0,Ap _,rfl,λj q hj=>by omega,aB.refl _⟩
     case round =>
      obtain⟨k,hk,rfl,hz,hg⟩:=hrel;by_cases af:k<L.length
      ·obtain⟨p,hp⟩:∃p,L[k]?=some p:=⟨_,List.getElem?_eq_getElem af⟩
       obtain⟨d0,d1⟩:=HC2.out wr hg k p hp;have HP:=Aa hp;clear hp;go_wp2_with fail
       refine(iR L p.name (some ⟨b,off,none⟩) cap _ hl (HS.out.grows (hg.al _))).mono ?_;rintro e w1 ⟨rfl,aq⟩;have b0:w1.cell? ⟨wr.heap.size,0,none⟩=some (.string p.name):=aq.cell (aX _ _ _ _ 0 _ rfl);have b1:w1.cell? ⟨wr.heap.size,1,none⟩=some (.int .i64 p.kind):=aq.cell (aX _ _ _ _ 1 _ rfl);have ee:aB w w1:=(hg.al _).tr aq;obtain⟨f,hf⟩:=exq (findI (posFind L p.name));obtain⟨nm,i7⟩:=exq (iI p.name);have fm:=hO0 p.name w1;have be:sB L k p=(f==(k:Int)&&nm&&decide (0<=p.kind)&&decide (p.kind<=2)):=by rw[hf,i7];rfl
       rw[<-hf];rw[<-i7]at fm;have HCON:=Aa fm;have HOK:=Aa be;clear hf i7 fm be d0 d1;cases hfk:(f==(k:Int))
       ·have h1:(f != (k:Int))=true:=by rw[bne,hfk];rfl
        have au:=Aa (gR HP.out hz.out (by rw[HOK.out,hfk];rfl));clear hfk;go_wp2
        go_ret;exact⟨by rw[au.out];rfl,ee⟩
       ·have h1:(f != (k:Int))=false:=by rw[bne,hfk];rfl
        cases nm
        ·have au:=Aa (gR HP.out hz.out (by rw[HOK.out];simp))
         clear hfk;go_wp2_with (go_at_call 24;refine HCON.out.mono ?_;rintro e w2 ⟨rfl,an⟩)
         go_ret;exact⟨by rw[au.out];rfl,ee.tr an⟩
        ·by_cases jt:p.kind<0
         ·have au:=Aa (gR HP.out hz.out (by rw[HOK.out];simp;omega))
          clear hfk;go_wp2_with (go_at_call 24;refine HCON.out.mono ?_;rintro e w2 ⟨rfl,an⟩;have b0':=an.cell b0;have b1':=an.cell b1)
          go_ret;exact⟨by rw[au.out];rfl,ee.tr an⟩
         ·by_cases j7:2<p.kind
          ·have au:=Aa (gR HP.out hz.out (by rw[HOK.out];simp;omega))
           clear hfk;go_wp2_with (go_at_call 24;refine HCON.out.mono ?_;rintro e w2 ⟨rfl,an⟩;have b0':=an.cell b0;have b1':=an.cell b1)
           go_ret;exact⟨by rw[au.out];rfl,ee.tr an⟩
          ·have be:sB L k p=true:=by rw[HOK.out,hfk];simp;omega
           have HOK2:=Aa be;clear hfk be;go_wp2_with (go_at_call 24;refine HCON.out.mono ?_;rintro e w2 ⟨rfl,an⟩;have b0':=an.cell b0;have b1':=an.cell b1)
           go_roundw
           case rel=>exact⟨k+1,by omega,by go_num,λj q hj hq=>by
            rcases Nat.lt_succ_iff_lt_or_eq.1 hj with h|rfl
            ·exact hz.out j q h hq
            ·rw[HP.out]at hq;obtain rfl:=Option.some.inj hq;exact HOK2.out,ee.tr an⟩
           case measure=>simp[intOf];omega
      ·obtain rfl:k=L.length:=by omega
       have au:=Aa (dO0 hz.out);go_wp2
       go_ret;exact⟨by rw[au.out];rfl,hg⟩
    ·have au:bP L=false:=by rw[HV.out];simp[lK,jt]
     have HF:=Aa au;clear au HV;go_enter Tryz.func25,Tryz.ntmps25
     go_wp2
     go_ret;exact⟨by rw[HF.out];rfl,aB.refl _⟩
   ·have au:bP L=false:=by rw[HV.out];simp[lK,seq,bos,Al];intro _ h;exact absurd (by rw[Al];exact h) hn
    have HF:=Aa au;clear au HV;go_enter Tryz.func25,Tryz.ntmps25
    go_wp2
    go_ret;exact⟨by rw[HF.out];rfl,aB.refl _⟩
  ·have adj:(64:Int)<L.length:=by omega
   have au:bP L=false:=by rw[HV.out];simp[ky]
   have HF:=Aa au;clear au HV;go_enter Tryz.func25,Tryz.ntmps25
   go_wp2
   go_ret;exact⟨by rw[HF.out];rfl,aB.refl _⟩
end
section
open Go Go.Shelf Go.RowKit Go.Lib
theorem cR0 (x y:ByteArray):(x.toList==y.toList)=decide (x=y):=by
 by_cases h:x=y
 ·subst h;simp
 ·rw[decide_eq_false h]
  simpa using λe=>h (dR e)
theorem cB1 (x:En) (w:World):Calls Tryz.prog 36 #[x.agg] w λe w'=>e=.returned (.string x.r)/\aB w w':=by
 obtain⟨xr,xs,xl,xt,xc⟩:=x;unfold En.agg;go_enter Tryz.func36,Tryz.ntmps36
 go_wp2
 go_ret;exact⟨rfl,aB.alloc _ _⟩
theorem gI1:∀args w,(callFunc 36 args).run Tryz.prog w=.ok (.enter 36 args) w:=enters_of Tryz.func36 (by kernel_rfl) rfl
theorem cM1 (x:En) (w:World):Calls Tryz.prog 37 #[x.agg] w λe w'=>e=.returned (.string x.s)/\aB w w':=by
 obtain⟨xr,xs,xl,xt,xc⟩:=x;unfold En.agg;go_enter Tryz.func37,Tryz.ntmps37
 go_wp2
 go_ret;exact⟨rfl,aB.alloc _ _⟩
theorem gL1:∀args w,(callFunc 37 args).run Tryz.prog w=.ok (.enter 37 args) w:=enters_of Tryz.func37 (by kernel_rfl) rfl
theorem bY1 (x:En) (w:World):Calls Tryz.prog 52 #[x.agg] w λe w'=>e=.returned (.int .i64 x.l)/\aB w w':=by
 obtain⟨xr,xs,xl,xt,xc⟩:=x;unfold En.agg;go_enter Tryz.func52,Tryz.ntmps52
 go_wp2
 go_ret;exact⟨rfl,aB.alloc _ _⟩
theorem fP1:∀args w,(callFunc 52 args).run Tryz.prog w=.ok (.enter 52 args) w:=enters_of Tryz.func52 (by kernel_rfl) rfl
theorem dV1 (x:En) (w:World):Calls Tryz.prog 53 #[x.agg] w λe w'=>e=.returned (.int .i64 x.t)/\aB w w':=by
 obtain⟨xr,xs,xl,xt,xc⟩:=x;unfold En.agg;go_enter Tryz.func53,Tryz.ntmps53
 go_wp2
 go_ret;exact⟨rfl,aB.alloc _ _⟩
theorem fZ1:∀args w,(callFunc 53 args).run Tryz.prog w=.ok (.enter 53 args) w:=enters_of Tryz.func53 (by kernel_rfl) rfl
theorem wJ0 (x:En) (w:World):Calls Tryz.prog 54 #[x.agg] w λe w'=>e=.returned (.int .i64 x.c)/\aB w w':=by
 obtain⟨xr,xs,xl,xt,xc⟩:=x;unfold En.agg;go_enter Tryz.func54,Tryz.ntmps54
 go_wp2
 go_ret;exact⟨rfl,aB.alloc _ _⟩
theorem cH1:∀args w,(callFunc 54 args).run Tryz.prog w=.ok (.enter 54 args) w:=enters_of Tryz.func54 (by kernel_rfl) rfl
theorem bF1 (x y:En) (w:World):Calls Tryz.prog 42 #[x.agg,y.agg] w λe w'=>e=.returned (.bool (!decide (x.r=y.r)))/\aB w w':=by
 obtain⟨xr,xs,xl,xt,xc⟩:=x;obtain⟨yr,ys,yl,yt,yc⟩:=y;unfold En.agg;go_enter Tryz.func42,Tryz.ntmps42
 go_wp2
 go_ret;exact⟨by rw[<-cR0];rfl,(aB.alloc _ _).al _⟩
theorem gS1:∀args w,(callFunc 42 args).run Tryz.prog w=.ok (.enter 42 args) w:=enters_of Tryz.func42 (by kernel_rfl) rfl
theorem aT1 (x y:En) (w:World):Calls Tryz.prog 45 #[x.agg,y.agg] w λe w'=>e=.returned (.bool (!decide (x.s=y.s)))/\aB w w':=by
 obtain⟨xr,xs,xl,xt,xc⟩:=x;obtain⟨yr,ys,yl,yt,yc⟩:=y;unfold En.agg;go_enter Tryz.func45,Tryz.ntmps45
 go_wp2
 go_ret;exact⟨by rw[<-cR0];rfl,(aB.alloc _ _).al _⟩
theorem iF1:∀args w,(callFunc 45 args).run Tryz.prog w=.ok (.enter 45 args) w:=enters_of Tryz.func45 (by kernel_rfl) rfl
end
section
open Go Go.Shelf Go.RowKit Go.Lib Go.Sort
abbrev nv (n:Nat):Value := .int .i64 n
def Fd (d:Array Nat) (i:Nat):Nat:=d[i]!
theorem pT0 {d:Array Nat} {i j:Nat} (hi:i<d.size) (hj:j<d.size):Fd (swp d i j)=uB0 (uB0 (Fd d) i (Fd d j)) j (Fd d i):=by
 funext x
 unfold Fd uB0;by_cases h1:x=j
 ·subst h1;rw[if_pos rfl,swp_right _ _ _ hj]
 ·rw[if_neg h1]
  by_cases h2:x=i
  ·subst h2;rw[if_pos rfl,swp_left _ _ _ hi h1]
  ·rw[if_neg h2,swp_other _ _ _ _ h2 h1]
theorem dV0:Tryz.prog.follows .mixedOrders=true:=by kernel_rfl
structure fS (k:Nat->Nat) (n bh g:Nat) (cb:Array Value) (d0:Array Nat) (w0:World):Prop where
 row:Row1 nv w0 bh 0 d0
 size:d0.size=n
 small:n<=1048576
 eg:∀args w,(callFunc g args).run Tryz.prog w=.ok (.enter g args) w
 cmp:∀(m:Nat) (os:Array Obj) (dk:Array Nat),dk.size=n->∀x y,x<n->y<n ->
  Calls Tryz.prog g (#[.int .i64 x,.int .i64 y]++cb) (sortWorld nv w0 bh 0 m dk os) λe w'=>e=.returned (.int .i64 ((k x:Int)-k y))/\∃q os',w'=grow ((sortWorld nv w0 bh 0 m dk os).drewN q) os'
abbrev SWn (w0:World) (bh:Nat) (dk:Array Nat) (w:World):Prop:=SW nv w0 bh 0 dk w
section
variable {k:Nat->Nat} {n bh g:Nat} {cb:Array Value} {d0:Array Nat} {w0:World}
theorem fS.cellG (H:fS k n bh g cb d0 w0) {dk:Array Nat} {w:World} (hs:dk.size=n) (S:SWn w0 bh dk w) {p:Nat} (hp:p<n):∀(m:Nat) (os:Array Obj),(grow (w.drewN m) os).cell? ⟨bh,p,none⟩=some (.int .i64 (dk[p]! : Nat)):=λm os=>by
 have h:=S.cl H.row (hs.trans H.size.symm) p (by omega) m os;rwa [Af]at h
theorem fS.cell (H:fS k n bh g cb d0 w0) {dk:Array Nat} {w:World} (hs:dk.size=n) (S:SWn w0 bh dk w) {p:Nat} (hp:p<n):w.cell? ⟨bh,p,none⟩=some (.int .i64 (dk[p]! : Nat)):=by
 have h:=S.c1 H.row (hs.trans H.size.symm) p (by omega);rwa [Af]at h
theorem fS.froz (H:fS k n bh g cb d0 w0) {dk:Array Nat} {w:World} (hs:dk.size=n) (S:SWn w0 bh dk w) {p:Nat} (hp:p<n):w.frozen? ⟨bh,p,none⟩=false:=by
 have h:=S.f1 H.row (hs.trans H.size.symm) p (by omega);rwa [Af]at h
theorem fS.second (H:fS k n bh g cb d0 w0) {dk:Array Nat} {w:World} (hs:dk.size=n) (S:SWn w0 bh dk w) {p q:Nat} (hp:p<n) (hq:q<n) (v:Value):∃u,(w.setCell ⟨bh,p,none⟩ v).cell? ⟨bh,q,none⟩=some u:=by
 have h:=S.c2 H.row (hs.trans H.size.symm) p q (by omega) (by omega) v;rwa [Af,Af]at h
theorem fS.swapped (H:fS k n bh g cb d0 w0) {dk:Array Nat} {w:World} (hs:dk.size=n) (S:SWn w0 bh dk w) {p q:Nat} (hp:p<n) (hq:q<n) :
  SWn w0 bh (swp dk p q) ((w.setCell ⟨bh,p,none⟩ (.int .i64 (dk[q]! : Nat))).setCell ⟨bh,q,none⟩ (.int .i64 (dk[p]! : Nat))).drew:=by
 have h:=S.swapped H.row p q (by omega) (by omega);rwa [Af,Af]at h
theorem fS.calls (H:fS k n bh g cb d0 w0) {dk:Array Nat} {w:World} (hs:dk.size=n) (S:SWn w0 bh dk w) {x y:Nat} (hx:x<n) (hy:y<n) (m:Nat) (os:Array Obj) :
  Calls Tryz.prog g (#[.int .i64 x,.int .i64 y]++cb) (grow (w.drewN m) os) λe w'=>e=.returned (.int .i64 ((k x:Int)-k y))/\∃q os',w'=grow ((grow (w.drewN m) os).drewN q) os':=by
 obtain⟨m',os0,hw⟩:=S.grown m os;rw[hw];exact H.cmp m' os0 dk hs x y hx hy
theorem eJ0 (H:fS k n bh g cb d0 w0) (a b m c:Nat) (fv:Value) (dk:Array Nat) (w:World) (hs:dk.size=n) (h1:a+m<=b) (h2:b+m<=n) (S:SWn w0 bh dk w) :
  Calls Tryz.prog 264 #[.slice (some ⟨bh,0,none⟩) n c,.int .i64 a,.int .i64 b,.int .i64 m,fv] w λe w'=>e=.returned (.tuple #[])/\∃mu,mu.size=n/\Fd mu=kQ0 (Fd dk) a b m/\SWn w0 bh mu w':=by
 have hn:=H.small;have mixed:=dV0;have HH:=Aa H;have S0:=Aa S;clear H S;go_enter Tryz.func264,Tryz.ntmps264
 go_wp2_with fail
 go_loopw [10] (λi wr=>∃(I:Nat) (dj:Array Nat),i=.int .i64 I/\I<=m/\Hid (dj.size=n/\Fd dj=kQ0 (Fd dk) a b I/\SWn w0 bh dj wr)) (λi _=>m-(intOf i).toNat)
 case atStart=>exact⟨0,dk,by go_num,Ap _,hs,(wY0 _ _ _).symm,S0.out⟩
 case round =>
  obtain⟨I,dj,rfl,hI,SJ⟩:=hrel;by_cases af:I<m
  ·obtain⟨e1,e2,S1⟩:=SJ.out
   obtain⟨p,hp⟩:=exq (a+I);obtain⟨q,hq⟩:=exq (b+I);have ga:p<n:=by omega
   have mw:q<n:=by omega
   obtain⟨x,hx⟩:=exq (dj[p]!);obtain⟨y,hy⟩:=exq (dj[q]!);have ca:=HH.out.cell e1 S1 ga;have z8:=HH.out.cell e1 S1 mw;have fa:=HH.out.froz e1 S1 ga;have fb:=HH.out.froz e1 S1 mw;obtain⟨u,cc⟩:=HH.out.second e1 S1 ga mw (.int .i64 y);have S3:=HH.out.swapped e1 S1 ga mw;rw[<-hx]at ca S3;rw[<-hy]at z8 S3;have S3:=Aa S3;have E3:Hid ((swp dj p q).size=n/\Fd (swp dj p q)=kQ0 (Fd dk) a b (I+1)):=⟨by rw[size_swp];exact e1,by rw[pT0 (by omega) (by omega),e2,hp,hq,vR0 (by omega)]⟩;have hIi:(I:Int)<m:=by omega
   have wp:IntKind.i64.wrap ((a:Int)+I)=p:=by simp[Ac,Ad,Ab];omega
   have wq:IntKind.i64.wrap ((b:Int)+I)=q:=by simp[Ac,Ad,Ab];omega
   have bp:(p:Int)<n:=by omega
   have bq:(q:Int)<n:=by omega
   clear SJ e1 e2 S1 hx hy hp hq;go_wp2_with fail
   go_big_region_o
   clear ca z8 fa fb cc;generalize ((wr.setCell ⟨bh,p,none⟩ (.int .i64 y)).setCell ⟨bh,q,none⟩ (.int .i64 x)).drew=w3 at S3 ⊢;go_wp2_with fail
   go_roundw
   case rel=>exact⟨I+1,swp dj p q,by go_num,af,E3.out.1,E3.out.2,S3.out⟩
   case measure=>simp[intOf];omega
  ·have hIi:¬(I:Int)<m:=by omega
   obtain rfl:I=m:=by omega
   go_wp2_with fail
   refine bodyPost_end (v:=.tuple #[]) (by simp[results,Tryz.results264,go_sem]) rfl ⟨rfl,dj,SJ.out⟩
end
end
section
open Go Go.Shelf Go.RowKit Go.Lib Go.Sort
section
variable {k:Nat->Nat} {n bh g:Nat} {cb:Array Value} {d0:Array Nat} {w0:World}
theorem vZ0 (H:fS k n bh g cb d0 w0) (a m b c:Nat) (fv:Value) (dk:Array Nat) (w:World) (hs:dk.size=n) (h1:a<m) (h2:m<b) (h3:b<=n) (S:SWn w0 bh dk w) :
  Calls Tryz.prog 231 #[.slice (some ⟨bh,0,none⟩) n c,.int .i64 a,.int .i64 m,.int .i64 b,fv] w λe w'=>e=.returned (.tuple #[])/\∃mu,mu.size=n/\Fd mu=fG (Fd dk) a m b/\SWn w0 bh mu w':=by
 have hn:=H.small;have HH:=Aa H;have S0:=Aa S;obtain⟨i0,hi0⟩:=exq (m-a);obtain⟨j0,ow⟩:=exq (b-m);have wi0:IntKind.i64.wrap ((m:Int)-a)=i0:=by simp[Ac,Ad,Ab];omega
 have wj0:IntKind.i64.wrap ((b:Int)-m)=j0:=by simp[Ac,Ad,Ab];omega
 have j8:Hid (0<i0/\0<j0/\i0<=m/\m+j0<=n/\fG (Fd dk) (m-i0) m (m+j0)=fG (Fd dk) a m b):=by
  refine⟨by omega,by omega,by omega,by omega,?_⟩;rw[show m-i0=a by omega,show m+j0=b by omega]
 clear H S hi0 ow;go_enter Tryz.func231,Tryz.ntmps231
 go_wp2_with fail
 go_loopw [10,11] (λi j wr=>∃(I J:Nat) (dj:Array Nat),i=.int .i64 I/\j=.int .i64 J/\0<I/\0<J/\I<=m/\m+J<=n/\Hid (dj.size=n/\fG (Fd dj) (m-I) m (m+J)=fG (Fd dk) a m b/\SWn w0 bh dj wr)) (λi j _=>(intOf i).toNat+(intOf j).toNat)
 case atStart=>exact⟨i0,j0,dk,by go_num,by go_num,j8.out.1,j8.out.2.1,j8.out.2.2.1,j8.out.2.2.2.1,hs,j8.out.2.2.2.2,S0.out⟩
 case round =>
  clear wi0 wj0 j8 S0;obtain⟨I,J,dj,rfl,rfl,hI,hJ,hIm,hJn,SJ⟩:=hrel;obtain⟨p,hp⟩:=exq (m-I);have wmi:IntKind.i64.wrap ((m:Int)-I)=p:=by simp[Ac,Ad,Ab];omega
  rcases Am I J with af|mj|hgt
  ·have c1:¬(I:Int)=J:=by omega
   have c2:¬(J:Int)<I:=by omega
   obtain⟨s,gk⟩:=exq (m+J);obtain⟨q,hq⟩:=exq (s-I);obtain⟨J',hJ'⟩:=exq (J-I);have wmj:IntKind.i64.wrap ((m:Int)+J)=s:=by simp[Ac,Ad,Ab];omega
   have ajw:IntKind.i64.wrap ((s:Int)-I)=q:=by simp[Ac,Ad,Ab];omega
   have wji:IntKind.i64.wrap ((J:Int)-I)=J':=by simp[Ac,Ad,Ab];omega
   have CS:=Aa (eJ0 HH.out p q I c fv dj wr SJ.out.1 (by omega) (by omega) SJ.out.2.2);have HP:=Aa hp;have HQ:Hid (q=m+J-I):=by show _=_;omega
   have HJ':=Aa hJ';clear hp gk hq hJ';go_wp2_with fail
   refine CS.out.mono ?_;rintro e w3 ⟨rfl,d2,f1,f2,S3⟩
   have E3:Hid (fG (Fd d2) (m-I) m (m+(J-I))=fG (Fd dk) a m b):=by
    show _=_;rw[f2,HP.out,HQ.out,aC1 hIm af];exact SJ.out.2.1
   have S3:=Aa S3;have F1:=Aa f1;clear CS f1 f2 SJ;go_wp2_with fail
   go_roundw
   case rel=>exact⟨I,J',d2,by go_num,by go_num,hI,by have:=HJ'.out;omega,hIm,by have:=HJ'.out;omega,F1.out,by rw[HJ'.out];exact E3.out,S3.out⟩
   case measure=>have:=HJ'.out;simp[intOf];omega
  ·subst mj
   have CS:=Aa (eJ0 HH.out p m I c fv dj wr SJ.out.1 (by omega) (by omega) SJ.out.2.2);have HP:=Aa hp;clear hp;go_wp2_with fail
   refine CS.out.mono ?_;rintro e w3 ⟨rfl,d2,f1,f2,S3⟩;go_wp2_with fail
   refine bodyPost_end (v:=.tuple #[]) (by simp[results,Tryz.results231,go_sem]) rfl ⟨rfl,d2,f1,?_,S3⟩
   rw[f2,HP.out,eG1 hIm,SJ.out.2.1]
  ·have c1:¬(I:Int)=J:=by omega
   have c2:(J:Int)<I:=by omega
   obtain⟨I',hI'⟩:=exq (I-J);have wij:IntKind.i64.wrap ((I:Int)-J)=I':=by simp[Ac,Ad,Ab];omega
   have CS:=Aa (eJ0 HH.out p m J c fv dj wr SJ.out.1 (by omega) (by omega) SJ.out.2.2);have HP:=Aa hp;have HI':=Aa hI';clear hp hI';go_wp2_with fail
   refine CS.out.mono ?_;rintro e w3 ⟨rfl,d2,f1,f2,S3⟩
   have E3:Hid (fG (Fd d2) (m-(I-J)) m (m+J)=fG (Fd dk) a m b):=by
    show _=_;rw[f2,HP.out,iP1 hIm hgt];exact SJ.out.2.1
   have S3:=Aa S3;have F1:=Aa f1;clear CS f1 f2 SJ;go_wp2_with fail
   go_roundw
   case rel=>exact⟨I',J,d2,by go_num,by go_num,by have:=HI'.out;omega,hJ,by have:=HI'.out;omega,hJn,F1.out,by rw[HI'.out];exact E3.out,S3.out⟩
   case measure=>have:=HI'.out;simp[intOf];omega
end
end
section
open Go Go.Shelf Go.RowKit Go.Lib Go.Sort
theorem eB.bnd {D D':Nat->Nat} {a b n:Nat} (h:eB D D' a b) (hb:b<=n) (hD:∀i,i<n->D i<n):∀i,i<n->D' i<n:=λi hi=>by
 by_cases hw:a<=i/\i<b
 ·obtain⟨j,_,j2,e⟩:=h.fro i hw.1 hw.2
  rw[e];exact hD j (by omega)
 ·rw[h.out i (by omega)];exact hD i hi
section
variable {k:Nat->Nat} {n bh g:Nat} {cb:Array Value} {d0:Array Nat} {w0:World}
theorem aB1 (H:fS k n bh g cb d0 w0) (a b c:Nat) (dk:Array Nat) (w:World) (hs:dk.size=n) (hb:b<=n) (ha:a<=n) (oe:∀i,i<n->Fd dk i<n) (hid:∀i,a<=i->i<b->Fd dk i=i) (S:SWn w0 bh dk w) :
  Calls Tryz.prog 163 #[.slice (some ⟨bh,0,none⟩) n c,.int .i64 a,.int .i64 b,.func (.func g) #[] cb] w λe w'=>e=.returned (.tuple #[])/\∃mu,mu.size=n/\eB (Fd dk) (Fd mu) a b/\Srt k (Fd mu) a b/\SWn w0 bh mu w':=by
 have hn:=H.small;have mixed:=dV0;have eg:=H.eg;have HH:=Aa H;have S0:=Aa S;have HID:=Aa hid;have HBD:=Aa oe;have wa1:IntKind.i64.wrap ((a:Int)+1)=(a+1:Nat):=by simp[Ac,Ad,Ab];omega
 clear H S hid oe;go_enter Tryz.func163,Tryz.ntmps163
 go_wp2_with fail
 go_loopw [8] (λi wr=>∃(I:Nat) (dj:Array Nat),i=.int .i64 I/\a<I/\Hid (dj.size=n/\(a<b->I<=b/\eB (Fd dk) (Fd dj) a I/\Srt k (Fd dj) a I)/\(¬a<b->dj=dk)/\SWn w0 bh dj wr)) (λi _=>b-(intOf i).toNat)
 case atStart=>exact⟨a+1,dk,by go_num,by omega,hs,λh=>⟨h,eB.refl _ _ _,λi j i1 i2 i3=>by omega⟩,λ_=>rfl,S0.out⟩
 case round =>
  clear S0 wa1;obtain⟨I,dj,rfl,y7,SJ⟩:=hrel;by_cases af:I<b
  ·have hIi:(I:Int)<b:=by omega
   obtain⟨e1,e2,_,S1⟩:=SJ.out;obtain⟨_,e3,e4⟩:=e2 (by omega);have E3:=Aa e3;have E4:=Aa e4;have HX:Hid (Fd dj I=I):=by show _=_;rw[e3.out I (Or.inr (Ae _))];exact HID.out I (by omega) af
   have HL:Hid (∀j,a<=j->j<I->Fd dj j<I):=λj j1 j2=>by
    obtain⟨j',p1,p2,p3⟩:=E3.out.fro j j1 j2;rw[p3,HID.out j' p1 (by omega)];exact p2
   have S1:=Aa S1;have wI1:IntKind.i64.wrap ((I:Int)+1)=(I+1:Nat):=by simp[Ac,Ad,Ab];omega
   clear SJ e2 e3 e4;go_wp2_with fail
   go_loopw [9] (λj wq=>∃(J:Nat) (dq:Array Nat),j=.int .i64 J/\a<=J/\J<=I/\Hid (dq.size=n/\Fd dq=fG (Fd dj) J I (I+1)/\(∀c,J<=c->c<I->ltK k (Fd dj I) (Fd dj c))/\SWn w0 bh dq wq)) (λj _=>(intOf j).toNat)
   case atStart=>exact⟨I,dj,rfl,by omega,Ae _,e1,(by rw[show fG (Fd dj) I I (I+1)=Fd dj from yP (by omega)]),λc c1 c2=>by omega,S1.out⟩
   case round =>
    clear S1;obtain⟨J,dq,rfl,haJ,hJI,SQ⟩:=hrel;by_cases hja:a<J
    ·have ahn:(a:Int)<J:=by omega
     obtain⟨q1,q2,q3,SW1⟩:=SQ.out;obtain⟨p,hp⟩:=exq (J-1);have ga:p<n:=by omega
     have hJn:J<n:=by omega
     have hpi:(p:Int)<n:=by omega
     have hJi:(J:Int)<n:=by omega
     have wp:IntKind.i64.wrap ((J:Int)-1)=p:=by simp[Ac,Ad,Ab];omega
     obtain⟨x,hx⟩:=exq (dq[J]!);obtain⟨y,hy⟩:=exq (dq[p]!)
     have ex:x=Fd dj I:=by
      rw[hx];show Fd dq J=_;rw[q2,iV1 (Ae _) (by omega)];congr 1;omega
     have ey:y=Fd dj p:=by
      rw[hy];show Fd dq p=_;rw[q2,wF0 (by omega)]
     have hyx:y<x:=by rw[ex,ey,HX.out];exact HL.out p (by omega) (by omega)
     have hxn:x<n:=by rw[ex,HX.out];omega
     have la:=HH.out.cellG q1 SW1 hJn;have lb:=HH.out.cellG q1 SW1 ga;rw[<-hx]at la;rw[<-hy]at lb;have hc:=HH.out.calls q1 SW1 hxn (show y<n by omega)
     obtain⟨C,hC⟩:∃C:Int,C=(k x:Int)-k y:=⟨_,rfl⟩;rw[<-hC]at hc;by_cases ci:k x<k y
     ·have hv:C<0:=by omega
      have hd:decide (C<0)=true:=decide_eq_true hv;have LT:Hid (ltK k (Fd dj I) (Fd dj p)):=by show ltK _ _ _;rw[<-ex,<-ey];exact(lN hyx).2 ci
      have HXY:Hid (x=dq[J]!/\y=dq[p]!):=⟨hx,hy⟩;have SS:=Aa SW1;have HPJ:=Aa hp;clear hx hy ex ey hC ci q2 q3 hp SW1 hyx;go_wp2_with fail
      go_quiet_grown (first|(go_at_fn g;refine Calls.grown_of (hc _ _)))
      have S2:Hid (SWn w0 bh dq (grow (wr.drewN nq) osq)):=SS.out.grown nq osq;clear la lb hc SS;generalize grow (wr.drewN nq) osq=w2 at S2 ⊢;clear nq osq;go_wp2_with fail
      have ca:=HH.out.cell q1 S2.out hJn;have z8:=HH.out.cell q1 S2.out ga;have fa:=HH.out.froz q1 S2.out hJn;have fb:=HH.out.froz q1 S2.out ga;obtain⟨u,cc⟩:=HH.out.second q1 S2.out hJn ga (.int .i64 y);have S3:=HH.out.swapped q1 S2.out hJn ga;rw[<-HXY.out.1]at ca S3;rw[<-HXY.out.2]at z8 S3;replace S3:=Aa S3
      have E5:Hid ((swp dq J p).size=n/\Fd (swp dq J p)=fG (Fd dj) p I (I+1)/\(∀c,p<=c->c<I->ltK k (Fd dj I) (Fd dj c))):=by
       obtain⟨_,q2,q3,_⟩:=SQ.out;refine⟨by rw[size_swp];exact q1,?_,λc c1 c2=>?_⟩
       ·have hp:=HPJ.out
        rw[pT0 (by omega) (by omega),q2,hp];exact oU0 (by omega) hJI
       ·rcases Ah c J with h|h
        ·rw[show c=p by have:=HPJ.out;omega];exact LT.out
        ·exact q3 c h c2
      clear S2 HXY SQ;go_wp2_with fail
      go_big_region_o
      clear ca z8 fa fb cc;generalize ((w2.setCell ⟨bh,J,none⟩ (.int .i64 y)).setCell ⟨bh,p,none⟩ (.int .i64 x)).drew=w3 at S3 ⊢;go_wp2_with fail
      go_roundw
      case rel=>exact⟨p,swp dq J p,by go_num,by have:=HPJ.out;omega,by have:=HPJ.out;omega,E5.out.1,E5.out.2.1,E5.out.2.2,S3.out⟩
      case measure=>have:=HPJ.out;simp[intOf];omega
     ·have hv:¬C<0:=by omega
      have hd:decide (C<0)=false:=decide_eq_false hv;have LT:Hid (ltK k (Fd dj p) (Fd dj I)):=by show ltK _ _ _;rw[<-ex,<-ey];exact(xX hyx).2 ci
      have SS:=Aa SW1;have HPJ:=Aa hp;clear hx hy ex ey hC ci q2 q3 hp SW1 hyx;go_wp2_with fail
      go_quiet_grown (first|(go_at_fn g;refine Calls.grown_of (hc _ _)))
      have S2:Hid (SWn w0 bh dq (grow (wr.drewN nq) osq)):=SS.out.grown nq osq;clear la lb hc SS;generalize grow (wr.drewN nq) osq=w2 at S2 ⊢;clear nq osq
      have FIN:Hid (eB (Fd dk) (Fd dq) a (I+1)/\Srt k (Fd dq) a (I+1)):=by
       obtain⟨_,q2,q3,_⟩:=SQ.out;rw[q2];refine⟨(E3.out.wide (Ae _) (by omega)).trans ((cK hJI (by omega)).wide haJ (Ae _)),eP0 E4.out haJ hJI (λc c1 c2=>?_) q3⟩;exact E4.out.ge c1 (by have:=HPJ.out;omega) (by have:=HPJ.out;omega) LT.out
      go_wp2_with fail
      go_roundw
      case rel=>exact⟨I+1,dq,by go_num,by omega,q1,λ_=>⟨af,FIN.out.1,FIN.out.2⟩,λh=>by omega,S2.out⟩
      case measure=>simp[intOf];omega
    ·have ahn:¬(a:Int)<J:=by omega
     obtain⟨q1,q2,q3,SW1⟩:=SQ.out
     have FIN:Hid (eB (Fd dk) (Fd dq) a (I+1)/\Srt k (Fd dq) a (I+1)):=by
      rw[q2];refine⟨(E3.out.wide (Ae _) (by omega)).trans ((cK hJI (by omega)).wide haJ (Ae _)),eP0 E4.out haJ hJI (λc c1 c2=>by omega) q3⟩
     have ajx:decide ((J:Int)>(a:Int))=false:=decide_eq_false (by omega);have S3:Hid (SWn w0 bh dq wr.drew):=SW1.drew;clear SQ q2 q3 SW1;go_wp2_with fail
     go_big_region_o
     generalize wr.drew=w2 at S3 ⊢;go_wp2_with fail
     go_roundw
     case rel=>exact⟨I+1,dq,by go_num,by omega,q1,λ_=>⟨af,FIN.out.1,FIN.out.2⟩,λh=>by omega,S3.out⟩
     case measure=>simp[intOf];omega
  ·have hIi:¬(I:Int)<b:=by omega
   obtain⟨e1,e2,e3,S1⟩:=SJ.out
   have FIN:Hid (eB (Fd dk) (Fd dj) a b/\Srt k (Fd dj) a b):=by
    by_cases qd:a<b
    ·obtain⟨e4,e5,e6⟩:=e2 qd
     rw[show b=I by omega];exact⟨e5,e6⟩
    ·rw[e3 qd];exact⟨eB.refl _ _ _,λi j i1 i2 i3=>by omega⟩
   clear SJ e2 e3;go_wp2_with fail
   refine bodyPost_end (v:=.tuple #[]) (by simp[results,Tryz.results163,go_sem]) rfl ⟨rfl,dj,e1,FIN.out.1,FIN.out.2,S1⟩
end
end
section
open Go Go.Shelf Go.RowKit Go.Lib Go.Sort
section
variable {k:Nat->Nat} {n bh g:Nat} {cb:Array Value} {d0:Array Nat} {w0:World}
structure xA (k:Nat->Nat) (D:Nat->Nat) (a m b n:Nat):Prop where
 am:a<m
 mb:m<b
 bn:b<=n
 bnd:∀i,i<n->D i<n
 s1:Srt k D a m
 s2:Srt k D m b
 ap:Apt D a m b
def fI (k:Nat->Nat) (n bh:Nat) (w0:World) (dk:Array Nat) (a b:Nat) (e:Ending) (w':World):Prop :=
 e=.returned (.tuple #[])/\∃mu,mu.size=n/\eB (Fd dk) (Fd mu) a b/\Srt k (Fd mu) a b/\SWn w0 bh mu w'
theorem cQ1 (H:fS k n bh g cb d0 w0) (a m b c:Nat) (dk:Array Nat) (w:World) (hs:dk.size=n) (hp:xA k (Fd dk) a m b n) (h1:m-a=1) (S:SWn w0 bh dk w) :
  Calls Tryz.prog 164 #[.slice (some ⟨bh,0,none⟩) n c,.int .i64 a,.int .i64 m,.int .i64 b,.func (.func g) #[] cb] w (fI k n bh w0 dk a b):=by
 have hn:=H.small;have mixed:=dV0;have eg:=H.eg;have HH:=Aa H;have S0:=Aa S;obtain⟨h2,h3,h4,oe,s1,s2,ap⟩:=hp;have HBD:=Aa oe;have HS2:=Aa s2;have HAP:=Aa ap;have wm:IntKind.i64.wrap ((m:Int)-a)=1:=by simp[Ac,Ad,Ab];omega
 have HM:Hid (m=a+1):=by show _=_;omega
 clear H S oe s1 s2 ap h1;have han:a<n:=by omega
 have hai:(a:Int)<n:=by omega
 go_enter Tryz.func164,Tryz.ntmps164
 go_wp2_with fail
 go_loopw [10,11] (λi j wr=>∃(I J:Nat),i=.int .i64 I/\j=.int .i64 J/\m<=I/\I<=J/\J<=b/\Hid ((∀c,m<=c->c<I->k (Fd dk c)<k (Fd dk a))/\(∀c,J<=c->c<b->¬k (Fd dk c)<k (Fd dk a))/\SWn w0 bh dk wr)) (λi j _=>(intOf j).toNat-(intOf i).toNat)
 case atStart=>exact⟨m,b,rfl,rfl,Ae _,by omega,Ae _,λc c1 c2=>by omega,λc c1 c2=>by omega,S0.out⟩
 case round =>
  clear S0 wm;obtain⟨I,J,rfl,rfl,y7,hIJ,xk,SJ⟩:=hrel;by_cases af:I<J
  ·have jk:(I:Int)<J:=by omega
   obtain⟨h,hh⟩:=exq ((I+J)/2);have eh:((I:Int)+J)/2=h:=by omega
   have z9:h<n:=by omega
   have y6:(h:Int)<n:=by omega
   have wh:IntKind.i64.wrap ((h:Int)+1)=(h+1:Nat):=by simp[Ac,Ad,Ab];omega
   obtain⟨x,hx⟩:=exq (dk[h]!);obtain⟨y,hy⟩:=exq (dk[a]!);obtain⟨q1,q2,SW1⟩:=SJ.out;have la:=HH.out.cellG hs SW1 z9;have lb:=HH.out.cellG hs SW1 han;rw[<-hx]at la;rw[<-hy]at lb;have hc:=HH.out.calls hs SW1 (show x<n by rw[hx];exact HBD.out h z9) (show y<n by rw[hy];exact HBD.out a han)
   obtain⟨C,hC⟩:∃C:Int,C=(k x:Int)-k y:=⟨_,rfl⟩;rw[<-hC]at hc;have SS:=Aa SW1
   have MONO:Hid (∀c c',m<=c->c<=c'->c'<b->k (Fd dk c')<k (Fd dk a)->k (Fd dk c)<k (Fd dk a)):=λc c' c1 c2 c3 c4=>by
    rw[<-lN (HAP.out a c' (Ae _) (by omega) (by omega) c3)]at c4;rw[<-lN (HAP.out a c (Ae _) (by omega) (by omega) (by omega))];exact HS2.out.ge c1 c2 c3 c4
   by_cases ci:k x<k y
   ·have hv:C<0:=by omega
    have hd:decide (C<0)=true:=decide_eq_true hv;have Q1:Hid (∀c,m<=c->c<h+1->k (Fd dk c)<k (Fd dk a)):=λc c1 c2=>MONO.out c h c1 (by omega) (by omega) (by rw[hx,hy]at ci;exact ci);have Q2:=Aa q2;have hHb:I<=h/\h<J:=by omega
    clear SJ q1 q2 hx hy hC ci SW1 MONO hh;go_wp2_with fail
    go_quiet_grown (first|(go_at_fn g;refine Calls.grown_of (hc _ _)))
    have S2:Hid (SWn w0 bh dk (grow (wr.drewN nq) osq)):=SS.out.grown nq osq;clear la lb hc SS;generalize grow (wr.drewN nq) osq=w2 at S2 ⊢;clear nq osq;go_wp2_with fail
    go_roundw
    case rel=>exact⟨h+1,J,by go_num,rfl,by omega,by omega,xk,Q1.out,Q2.out,S2.out⟩
    case measure=>simp[intOf];omega
   ·have hv:¬C<0:=by omega
    have hd:decide (C<0)=false:=decide_eq_false hv
    have Q2:Hid (∀c,h<=c->c<b->¬k (Fd dk c)<k (Fd dk a)):=λc c1 c2 h2=>by
     have:=MONO.out h c (by omega) c1 c2 h2
     rw[hx,hy]at ci;exact ci this
    have Q1:=Aa q1;have hHb:I<=h/\h<J:=by omega
    clear SJ q1 q2 hx hy hC ci SW1 MONO hh;go_wp2_with fail
    go_quiet_grown (first|(go_at_fn g;refine Calls.grown_of (hc _ _)))
    have S2:Hid (SWn w0 bh dk (grow (wr.drewN nq) osq)):=SS.out.grown nq osq;clear la lb hc SS;generalize grow (wr.drewN nq) osq=w2 at S2 ⊢;clear nq osq;go_wp2_with fail
    go_roundw
    case rel=>exact⟨I,h,rfl,by go_num,y7,by omega,by omega,Q1.out,Q2.out,S2.out⟩
    case measure=>simp[intOf];omega
  ·have jk:¬(I:Int)<J:=by omega
   obtain rfl:I=J:=by omega
   have wI:IntKind.i64.wrap ((I:Int)-1)=(I-1:Nat):=by simp[Ac,Ad,Ab];omega
   obtain⟨I1,hI1⟩:=exq (I-1);rw[<-hI1]at wI;obtain⟨q1,q2,SW1⟩:=SJ.out;have S2:=Aa SW1;have aff:a<I:=by omega
   have FIN:Hid (Srt k (fG (Fd dk) a (a+1) I) a b):=jG1 (HM.out▸HS2.out) aff xk
    (λc c1 c2=>(lN (HAP.out a c (Ae _) (by omega) (by have:=HM.out;omega) (by omega))).2 (q1 c (by have:=HM.out;omega) c2))
    (λc c1 c2=>(xX (HAP.out a c (Ae _) (by omega) (by omega) c2)).2 (q2 c c1 c2))
   have HI1:=Aa hI1;clear SJ q1 q2 SW1 hI1;go_wp2_with fail
   go_loopw [13] (λv wr=>∃(K:Nat) (dj:Array Nat),v=.int .i64 K/\a<=K/\K<=I1/\Hid (dj.size=n/\Fd dj=fG (Fd dk) a (a+1) (K+1)/\SWn w0 bh dj wr)) (λv _=>I-(intOf v).toNat)
   case atStart=>exact⟨a,dk,rfl,Ae _,by have:=HI1.out;omega,hs,cL0.symm,S2.out⟩
   case round =>
    clear S2;obtain⟨K,dj,rfl,haK,hKI,SQ⟩:=hrel;by_cases hk:K<I1
    ·have di:(K:Int)<I1:=by omega
     obtain⟨e1,e2,S1⟩:=SQ.out;have hI1:=HI1.out;obtain⟨q,hq⟩:=exq (K+1);have ga:K<n:=by omega
     have mw:q<n:=by omega
     obtain⟨x,hx⟩:=exq (dj[K]!);obtain⟨y,hy⟩:=exq (dj[q]!);have ca:=HH.out.cell e1 S1 ga;have z8:=HH.out.cell e1 S1 mw;have fa:=HH.out.froz e1 S1 ga;have fb:=HH.out.froz e1 S1 mw;obtain⟨u,cc⟩:=HH.out.second e1 S1 ga mw (.int .i64 y);have S3:=HH.out.swapped e1 S1 ga mw;rw[<-hx]at ca S3;rw[<-hy]at z8 S3;replace S3:=Aa S3;have E3:Hid ((swp dj K q).size=n/\Fd (swp dj K q)=fG (Fd dk) a (a+1) (K+1+1)):=⟨by rw[size_swp];exact e1,by rw[pT0 (by omega) (by omega),e2,hq];exact jQ1 haK⟩;have wq:IntKind.i64.wrap ((K:Int)+1)=q:=by simp[Ac,Ad,Ab];omega
     have bp:(K:Int)<n:=by omega
     have bq:(q:Int)<n:=by omega
     have HQ:=Aa hq;clear SQ e1 e2 S1 hx hy hq hI1;go_wp2_with fail
     go_big_region_o
     clear ca z8 fa fb cc;generalize ((wr.setCell ⟨bh,K,none⟩ (.int .i64 y)).setCell ⟨bh,q,none⟩ (.int .i64 x)).drew=w3 at S3 ⊢;go_wp2_with fail
     go_roundw
     case rel=>exact⟨q,swp dj K q,by go_num,by have:=HQ.out;omega,by have:=HQ.out;omega,E3.out.1,by rw[HQ.out];exact HQ.out▸E3.out.2,S3.out⟩
     case measure=>have:=HQ.out;have:=HI1.out;simp[intOf];omega
    ·have di:¬(K:Int)<I1:=by omega
     obtain⟨e1,e2,S1⟩:=SQ.out;have hKe:K+1=I:=by have:=HI1.out;omega
     rw[hKe]at e2
     have FIN2:Hid (eB (Fd dk) (Fd dj) a b/\Srt k (Fd dj) a b):=by
      rw[e2];exact⟨(cK (by omega) aff).wide (Ae _) xk,FIN.out⟩
     clear SQ e2 FIN hKe;go_wp2_with fail
     refine bodyPost_ret (v:=.tuple #[]) (by simp[results,Tryz.results164,go_sem]) rfl ⟨rfl,dj,e1,FIN2.out.1,FIN2.out.2,S1⟩
end
end
section
open Go Go.Shelf Go.RowKit Go.Lib Go.Sort
section
variable {k:Nat->Nat} {n bh g:Nat} {cb:Array Value} {d0:Array Nat} {w0:World}
theorem cZ1 (H:fS k n bh g cb d0 w0) (a m b c:Nat) (dk:Array Nat) (w:World) (hs:dk.size=n) (hp:xA k (Fd dk) a m b n) (h0:m-a≠1) (h1:b-m=1) (S:SWn w0 bh dk w) :
  Calls Tryz.prog 164 #[.slice (some ⟨bh,0,none⟩) n c,.int .i64 a,.int .i64 m,.int .i64 b,.func (.func g) #[] cb] w (fI k n bh w0 dk a b):=by
 have hn:=H.small;have mixed:=dV0;have eg:=H.eg;have HH:=Aa H;have S0:=Aa S;obtain⟨h2,h3,h4,oe,s1,s2,ap⟩:=hp;have HBD:=Aa oe;have HS1:=Aa s1;have HAP:=Aa ap;obtain⟨d,hd⟩:=exq (m-a);have wma:IntKind.i64.wrap ((m:Int)-a)=d:=by simp[Ac,Ad,Ab];omega
 have ie:¬(d:Int)=1:=by omega
 have wm:IntKind.i64.wrap ((b:Int)-m)=1:=by simp[Ac,Ad,Ab];omega
 have HM:Hid (b=m+1):=by show _=_;omega
 clear H S oe s1 s2 ap h1 h0 hd;have vk:m<n:=by omega
 have hmi:(m:Int)<n:=by omega
 go_enter Tryz.func164,Tryz.ntmps164
 go_wp2_with fail
 have hz:((d:Int)==1)=false:=by simpa using ie
 rw[hz];clear hz;go_loopw [14,15] (λi j wr=>∃(I J:Nat),i=.int .i64 I/\j=.int .i64 J/\a<=I/\I<=J/\J<=m/\Hid ((∀c,a<=c->c<I->¬k (Fd dk m)<k (Fd dk c))/\(∀c,J<=c->c<m->k (Fd dk m)<k (Fd dk c))/\SWn w0 bh dk wr)) (λi j _=>(intOf j).toNat-(intOf i).toNat)
 case atStart=>exact⟨a,m,rfl,rfl,Ae _,by omega,Ae _,λc c1 c2=>by omega,λc c1 c2=>by omega,S0.out⟩
 case round =>
  clear S0 wm wma ie;obtain⟨I,J,rfl,rfl,y7,hIJ,xk,SJ⟩:=hrel;by_cases af:I<J
  ·have jk:(I:Int)<J:=by omega
   obtain⟨h,hh⟩:=exq ((I+J)/2);have eh:((I:Int)+J)/2=h:=by omega
   have z9:h<n:=by omega
   have y6:(h:Int)<n:=by omega
   have wh:IntKind.i64.wrap ((h:Int)+1)=(h+1:Nat):=by simp[Ac,Ad,Ab];omega
   obtain⟨x,hx⟩:=exq (dk[m]!);obtain⟨y,hy⟩:=exq (dk[h]!);obtain⟨q1,q2,SW1⟩:=SJ.out;have la:=HH.out.cellG hs SW1 vk;have lb:=HH.out.cellG hs SW1 z9;rw[<-hx]at la;rw[<-hy]at lb;have hc:=HH.out.calls hs SW1 (show x<n by rw[hx];exact HBD.out m vk) (show y<n by rw[hy];exact HBD.out h z9)
   obtain⟨C,hC⟩:∃C:Int,C=(k x:Int)-k y:=⟨_,rfl⟩;rw[<-hC]at hc;have SS:=Aa SW1
   have MONO:Hid (∀c c',a<=c->c<=c'->c'<m->k (Fd dk m)<k (Fd dk c)->k (Fd dk m)<k (Fd dk c')):=λc c' c1 c2 c3 c4=>by
    have tu:=HM.out;rw[<-lN (HAP.out c m c1 (by omega) (Ae _) (by omega))]at c4;rw[<-lN (HAP.out c' m (by omega) c3 (Ae _) (by omega))];exact HS1.out.le c1 c2 c3 c4
   by_cases ci:k x<k y
   ·have hv:C<0:=by omega
    have hd:decide (C<0)=true:=decide_eq_true hv;have Q2:Hid (∀c,h<=c->c<m->k (Fd dk m)<k (Fd dk c)):=λc c1 c2=>MONO.out h c (by omega) c1 c2 (by rw[hx,hy]at ci;exact ci);have Q1:=Aa q1;have hHb:I<=h/\h<J:=by omega
    clear SJ q1 q2 hx hy hC ci SW1 MONO hh;go_wp2_with fail
    go_quiet_grown (first|(go_at_fn g;refine Calls.grown_of (hc _ _)))
    have S2:Hid (SWn w0 bh dk (grow (wr.drewN nq) osq)):=SS.out.grown nq osq;clear la lb hc SS;generalize grow (wr.drewN nq) osq=w2 at S2 ⊢;clear nq osq;go_wp2_with fail
    go_roundw
    case rel=>exact⟨I,h,rfl,by go_num,y7,by omega,by omega,Q1.out,Q2.out,S2.out⟩
    case measure=>simp[intOf];omega
   ·have hv:¬C<0:=by omega
    have hd:decide (C<0)=false:=decide_eq_false hv
    have Q1:Hid (∀c,a<=c->c<h+1->¬k (Fd dk m)<k (Fd dk c)):=λc c1 c2 h2=>by
     have:=MONO.out c h c1 (by omega) (by omega) h2
     rw[hx,hy]at ci;exact ci this
    have Q2:=Aa q2;have hHb:I<=h/\h<J:=by omega
    clear SJ q1 q2 hx hy hC ci SW1 MONO hh;go_wp2_with fail
    go_quiet_grown (first|(go_at_fn g;refine Calls.grown_of (hc _ _)))
    have S2:Hid (SWn w0 bh dk (grow (wr.drewN nq) osq)):=SS.out.grown nq osq;clear la lb hc SS;generalize grow (wr.drewN nq) osq=w2 at S2 ⊢;clear nq osq;go_wp2_with fail
    go_roundw
    case rel=>exact⟨h+1,J,by go_num,rfl,by omega,by omega,xk,Q1.out,Q2.out,S2.out⟩
    case measure=>simp[intOf];omega
  ·have jk:¬(I:Int)<J:=by omega
   obtain rfl:I=J:=by omega
   obtain⟨q1,q2,SW1⟩:=SJ.out;have S2:=Aa SW1
   have FIN:Hid (Srt k (fG (Fd dk) I m (m+1)) a b):=by
    rw[HM.out];have tu:=HM.out
    exact eP0 HS1.out y7 xk
     (λc c1 c2=>(xX (HAP.out c m c1 (by omega) (Ae _) (by omega))).2 (q1 c c1 c2))
     (λc c1 c2=>(lN (HAP.out c m (by omega) c2 (Ae _) (by omega))).2 (q2 c c1 c2))
   clear SJ q1 q2 SW1;go_wp2_with fail
   go_loopw [17] (λv wr=>∃(K:Nat) (dj:Array Nat),v=.int .i64 K/\I<=K/\K<=m/\Hid (dj.size=n/\Fd dj=fG (Fd dk) K m (m+1)/\SWn w0 bh dj wr)) (λv _=>(intOf v).toNat)
   case atStart=>exact⟨m,dk,rfl,xk,Ae _,hs,(yP (by omega)).symm,S2.out⟩
   case round =>
    clear S2;obtain⟨K,dj,rfl,haK,hKI,SQ⟩:=hrel;by_cases hk:I<K
    ·have di:(I:Int)<K:=by omega
     obtain⟨e1,e2,S1⟩:=SQ.out;obtain⟨q,hq⟩:=exq (K-1);have ga:K<n:=by omega
     have mw:q<n:=by omega
     obtain⟨x,hx⟩:=exq (dj[K]!);obtain⟨y,hy⟩:=exq (dj[q]!);have ca:=HH.out.cell e1 S1 ga;have z8:=HH.out.cell e1 S1 mw;have fa:=HH.out.froz e1 S1 ga;have fb:=HH.out.froz e1 S1 mw;obtain⟨u,cc⟩:=HH.out.second e1 S1 ga mw (.int .i64 y);have S3:=HH.out.swapped e1 S1 ga mw;rw[<-hx]at ca S3;rw[<-hy]at z8 S3;replace S3:=Aa S3;have E3:Hid ((swp dj K q).size=n/\Fd (swp dj K q)=fG (Fd dk) q m (m+1)):=⟨by rw[size_swp];exact e1,by rw[pT0 (by omega) (by omega),e2,hq];exact oU0 (by omega) hKI⟩;have wq:IntKind.i64.wrap ((K:Int)-1)=q:=by simp[Ac,Ad,Ab];omega
     have bp:(K:Int)<n:=by omega
     have bq:(q:Int)<n:=by omega
     have HQ:=Aa hq;clear SQ e1 e2 S1 hx hy hq;go_wp2_with fail
     go_big_region_o
     clear ca z8 fa fb cc;generalize ((wr.setCell ⟨bh,K,none⟩ (.int .i64 y)).setCell ⟨bh,q,none⟩ (.int .i64 x)).drew=w3 at S3 ⊢;go_wp2_with fail
     go_roundw
     case rel=>exact⟨q,swp dj K q,by go_num,by have:=HQ.out;omega,by have:=HQ.out;omega,E3.out.1,E3.out.2,S3.out⟩
     case measure=>have:=HQ.out;simp[intOf];omega
    ·have di:¬(I:Int)<K:=by omega
     obtain⟨e1,e2,S1⟩:=SQ.out;have hKe:K=I:=by omega
     rw[hKe]at e2
     have FIN2:Hid (eB (Fd dk) (Fd dj) a b/\Srt k (Fd dj) a b):=by
      rw[e2];exact⟨(cK (by omega) (by omega)).wide y7 (by have:=HM.out;omega),FIN.out⟩
     clear SQ e2 FIN hKe;go_wp2_with fail
     refine bodyPost_ret (v:=.tuple #[]) (by simp[results,Tryz.results164,go_sem]) rfl ⟨rfl,dj,e1,FIN2.out.1,FIN2.out.2,S1⟩
end
end
section
open Go Go.Shelf Go.RowKit Go.Lib Go.Sort
section
variable {k:Nat->Nat} {n bh g:Nat} {cb:Array Value} {d0:Array Nat} {w0:World}
theorem xR0 (H:fS k n bh g cb d0 w0) (N:Nat)
  (IH:∀(a m b c:Nat) (dk:Array Nat) (w:World),b-a<N->dk.size=n->xA k (Fd dk) a m b n->SWn w0 bh dk w ->
   Calls Tryz.prog 164 #[.slice (some ⟨bh,0,none⟩) n c,.int .i64 a,.int .i64 m,.int .i64 b,.func (.func g) #[] cb] w (fI k n bh w0 dk a b))
  (a m b c az:Nat) (dk:Array Nat) (w:World) (hN:b-a<N+1) (hs:dk.size=n) (hp:xA k (Fd dk) a m b n) (_h0:m-a≠1) (h1:b-m≠1) (aas:az=(a+b)/2) (hm:az<m) (S:SWn w0 bh dk w) :
  Calls Tryz.prog 164 #[.slice (some ⟨bh,0,none⟩) n c,.int .i64 a,.int .i64 m,.int .i64 b,.func (.func g) #[] cb] w (fI k n bh w0 dk a b):=by
 have hn:=H.small;have mixed:=dV0;have eg:=H.eg;have HH:=Aa H;have S0:=Aa S;have HPRE:=Aa hp;obtain⟨h2,h3,h4,oe,s1,s2,ap⟩:=hp;have HBD:=Aa oe;have HS1:=Aa s1;have HS2:=Aa s2;have HAP:=Aa ap;have HIH:=Aa IH;obtain⟨d,hd⟩:=exq (m-a);obtain⟨d2,ig⟩:=exq (b-m);obtain⟨nn,qq⟩:=exq (az+m);obtain⟨pp,hpp⟩:=exq (nn-1);obtain⟨lo,qe⟩:=exq (nn-b);obtain⟨hi,y6⟩:=exq az;have ah:Hid (jC0 a m b az lo hi):=⟨h2,h3,by omega,by omega,λ_=>by omega,λ_=>by omega⟩;have wma:IntKind.i64.wrap ((m:Int)-a)=d:=by simp[Ac,Ad,Ab];omega
 have wbm:IntKind.i64.wrap ((b:Int)-m)=d2:=by simp[Ac,Ad,Ab];omega
 have ie:¬(d:Int)=1:=by omega
 have tv:¬(d2:Int)=1:=by omega
 have em:((a:Int)+b)/2=az:=by omega
 have wnn:IntKind.i64.wrap ((az:Int)+m)=nn:=by simp[Ac,Ad,Ab];omega
 have wpp:IntKind.i64.wrap ((nn:Int)-1)=pp:=by simp[Ac,Ad,Ab];omega
 have wlo:IntKind.i64.wrap ((nn:Int)-b)=lo:=by simp[Ac,Ad,Ab];omega
 have hmi:(az:Int)<m:=by omega
 have HNN:=Aa qq;have HPP:Hid (pp=az+m-1):=by show _=_;omega
 obtain⟨js,ja,hl3⟩:lo<=hi/\hi<=m/\hi<=az:=by have:=ah.out.rng;omega
 have aho:nn<=2*n/\m<=nn:=by omega
 clear H S oe s1 s2 ap h1 _h0 hd ig qq hpp IH HPRE;have HLO:=Aa qe;have HHI:=Aa y6;clear qe y6;have HMD:=Aa aas;clear aas;go_enter Tryz.func164,Tryz.ntmps164
 go_wp2_with fail
 have hz:((d:Int)==1)=false:=by simpa using ie
 have ju:((d2:Int)==1)=false:=by simpa using tv
 try rw[hz]
 try rw[ju]
 clear hz ju;go_loopw [20,21] (λi j wr=>∃(I J:Nat),i=.int .i64 I/\j=.int .i64 J/\lo<=I/\I<=J/\J<=hi/\Hid ((∀c,lo<=c->c<I->¬k (Fd dk (az+m-1-c))<k (Fd dk c))/\(∀c,J<=c->c<hi->k (Fd dk (az+m-1-c))<k (Fd dk c))/\SWn w0 bh dk wr)) (λi j _=>(intOf j).toNat-(intOf i).toNat)
 case atStart=>exact⟨lo,hi,by first|rfl|(rw[HLO.out]),by first|rfl|(rw[HHI.out]),Ae _,js,Ae _,λc c1 c2=>by omega,λc c1 c2=>by omega,S0.out⟩
 case round =>
  clear S0 wma wbm ie tv em wnn wpp wlo;obtain⟨I,J,rfl,rfl,y7,hIJ,xk,SJ⟩:=hrel;by_cases af:I<J
  ·have jk:(I:Int)<J:=by omega
   obtain⟨h,hh⟩:=exq ((I+J)/2);have eh:((I:Int)+J)/2=h:=by omega
   obtain⟨r1,r2,r3,r4,r5⟩:=ah.out.in (c:=h) (by omega) (by omega);obtain⟨ph,hph⟩:=exq (az+m-1-h);have wph:IntKind.i64.wrap ((pp:Int)-h)=ph:=by have:=HPP.out;simp[Ac,Ad,Ab];omega
   have z9:h<n:=by omega
   have ga:ph<n:=by omega
   have ahp:(h:Int)<n:=by omega
   have ahq:(ph:Int)<n:=by omega
   have wh:IntKind.i64.wrap ((h:Int)+1)=(h+1:Nat):=by simp[Ac,Ad,Ab];omega
   obtain⟨x,hx⟩:=exq (dk[ph]!);obtain⟨y,hy⟩:=exq (dk[h]!);obtain⟨q1,q2,SW1⟩:=SJ.out;have la:=HH.out.cellG hs SW1 ga;have lb:=HH.out.cellG hs SW1 z9;rw[<-hx]at la;rw[<-hy]at lb;have hc:=HH.out.calls hs SW1 (show x<n by rw[hx];exact HBD.out ph ga) (show y<n by rw[hy];exact HBD.out h z9)
   obtain⟨C,hC⟩:∃C:Int,C=(k x:Int)-k y:=⟨_,rfl⟩;rw[<-hC]at hc;have SS:=Aa SW1;have hHb:I<=h/\h<J:=by omega
   have HXY:Hid (k x<k y↔k (Fd dk (az+m-1-h))<k (Fd dk h)):=by show _↔_;rw[hx,hy,hph];exact Iff.rfl
   have MONO:Hid (∀c c',lo<=c->c<=c'->c'<hi->k (Fd dk (az+m-1-c))<k (Fd dk c)->k (Fd dk (az+m-1-c'))<k (Fd dk c')):=λc c' c1 c2 c3 c4=>pL0 ah.out HS1.out HS2.out HAP.out c1 c2 c3 c4;by_cases ci:k x<k y
   ·have hv:C<0:=by omega
    have hdd:decide (C<0)=true:=decide_eq_true hv;have Q2:Hid (∀c,h<=c->c<hi->k (Fd dk (az+m-1-c))<k (Fd dk c)):=λc c1 c2=>MONO.out h c (by omega) c1 c2 (HXY.out.1 ci);have Q1:=Aa q1;clear SJ q1 q2 hx hy hC ci SW1 MONO hh hph r1 r2 r3 r4 r5 HXY;go_wp2_with fail
    go_quiet_grown (first|(go_at_fn g;refine Calls.grown_of (hc _ _)))
    have S2:Hid (SWn w0 bh dk (grow (wr.drewN nq) osq)):=SS.out.grown nq osq;clear la lb hc SS;generalize grow (wr.drewN nq) osq=w2 at S2 ⊢;clear nq osq;go_wp2_with fail
    go_roundw
    case rel=>exact⟨I,h,rfl,by go_num,y7,by omega,by omega,Q1.out,Q2.out,S2.out⟩
    case measure=>simp[intOf];omega
   ·have hv:¬C<0:=by omega
    have hdd:decide (C<0)=false:=decide_eq_false hv
    have Q1:Hid (∀c,lo<=c->c<h+1->¬k (Fd dk (az+m-1-c))<k (Fd dk c)):=λc c1 c2 h2=>by
     have:=MONO.out c h c1 (by omega) (by omega) h2
     exact ci (HXY.out.2 this)
    have Q2:=Aa q2;clear SJ q1 q2 hx hy hC ci SW1 MONO hh hph r1 r2 r3 r4 r5 HXY;go_wp2_with fail
    go_quiet_grown (first|(go_at_fn g;refine Calls.grown_of (hc _ _)))
    have S2:Hid (SWn w0 bh dk (grow (wr.drewN nq) osq)):=SS.out.grown nq osq;clear la lb hc SS;generalize grow (wr.drewN nq) osq=w2 at S2 ⊢;clear nq osq;go_wp2_with fail
    go_roundw
    case rel=>exact⟨h+1,J,by go_num,rfl,by omega,by omega,xk,Q1.out,Q2.out,S2.out⟩
    case measure=>simp[intOf];omega
  ·have jk:¬(I:Int)<J:=by omega
   obtain rfl:I=J:=by omega
   obtain⟨q1,q2,SW1⟩:=SJ.out;obtain⟨E,hE⟩:=exq (az+m-I);have wE:IntKind.i64.wrap ((nn:Int)-I)=E:=by have:=HNN.out;simp[Ac,Ad,Ab];omega
   have RNG:Hid (E=az+m-I/\a<=I/\I<=m/\I<=az/\m<=E/\az<=E/\E<=b/\a<az/\az<b):=by
    have:=ah.out.rng
    have:=ah.out.mid1
    have:=ah.out.mid2
    show _/\_;omega
   have CUT:=Aa (yU0 ah.out HS1.out HS2.out HAP.out y7 xk q1 q2);rw[<-hE]at CUT;have S2:=Aa SW1;clear SJ q1 q2 SW1 hE;rcases (show (I<m/\m<E)\/(I<m/\E=m) by have:=RNG.out;omega) with hA|hA
   ·have a1:(I:Int)<m:=by omega
    have a2:(m:Int)<E:=by omega
    have CR:=Aa (vZ0 HH.out I m E c (.func (.func g) #[] cb) dk wr hs hA.1 hA.2 (by have:=RNG.out;omega) S2.out);go_wp2_with fail
    refine CR.out.mono ?_;rintro e w1 ⟨rfl,d1,t1,t2,t3⟩;have T1:Hid (d1.size=n/\Fd d1=fG (Fd dk) I m E/\SWn w0 bh d1 w1):=⟨t1,t2,t3⟩;clear t1 t2 t3 CR S2;have HA:=Aa hA;rcases (show (a<I/\I<az)\/(I=a) by have:=RNG.out;have:=HA.out;omega) with hB|hB
    ·have b1:(a:Int)<I:=by omega
     have b2:(I:Int)<az:=by omega
     have CS:Hid (Calls Tryz.prog 164 #[.slice (some ⟨bh,0,none⟩) n c,.int .i64 a,.int .i64 I,.int .i64 az,.func (.func g) #[] cb] w1 (fI k n bh w0 d1 a az)):=by
      obtain⟨t1,t2,t3⟩:=T1.out;obtain⟨u1,u2,_,_,u5,_⟩:=CUT.out;have hr:=RNG.out;exact HIH.out a I az c d1 w1 (by omega) t1 ⟨hB.1,hB.2,by omega,by rw[t2];exact(cK (by omega) (by omega)).bnd (by omega) HBD.out,by rw[t2];exact u1,by rw[t2];exact u2,by rw[t2];exact u5⟩ t3
     go_wp2_with fail
     refine CS.out.mono ?_;rintro e w2 ⟨rfl,e2,t1,t2,t3,t4⟩;have T2:Hid (e2.size=n/\eB (Fd d1) (Fd e2) a az/\Srt k (Fd e2) a az/\SWn w0 bh e2 w2):=⟨t1,t2,t3,t4⟩;clear t1 t2 t3 t4 CS;have HB:=Aa hB;rcases (show (az<E/\E<b)\/(az<E/\E=b) by have:=RNG.out;have:=HA.out;have:=HB.out;omega) with hC|hC
     ·have c1:(az:Int)<E:=by omega
      have c2:(E:Int)<b:=by omega
      have CS:Hid (Calls Tryz.prog 164 #[.slice (some ⟨bh,0,none⟩) n c,.int .i64 az,.int .i64 E,.int .i64 b,.func (.func g) #[] cb] w2 (fI k n bh w0 e2 az b)):=by
       obtain⟨t1,t2,t3⟩:=T1.out;obtain⟨_,_,u3,u4,_,u6,_⟩:=CUT.out;obtain⟨v1,v2,v3,v4⟩:=T2.out;have hr:=RNG.out;rw[<-t2]at u3 u4 u6
       exact HIH.out az E b c e2 w2 (by omega) v1 ⟨hC.1,hC.2,by omega,v2.bnd (by omega) (by rw[t2];exact(cK (by omega) (by omega)).bnd (by omega) HBD.out),
        u3.of_eq (λi i1 i2=>v2.out i (Or.inr i1)),u4.of_eq (λi i1 i2=>v2.out i (Or.inr (by omega))),λi j i1 i2 j1 j2=>by rw[v2.out i (Or.inr i1),v2.out j (Or.inr (by omega))];exact u6 i j i1 i2 j1 j2⟩ v4
      go_wp2_with fail
      refine CS.out.mono ?_;rintro e w3 ⟨rfl,e3,t1,t2,t3,t4⟩;have T3:Hid (e3.size=n/\eB (Fd e2) (Fd e3) az b/\Srt k (Fd e3) az b/\SWn w0 bh e3 w3):=⟨t1,t2,t3,t4⟩;clear t1 t2 t3 t4 CS;go_wp2_with fail
      have FIN:Hid (eB (Fd dk) (Fd e3) a b/\Srt k (Fd e3) a b):=by
       obtain⟨t1,t2,t3⟩:=T1.out;obtain⟨u1,u2,u3,u4⟩:=T2.out;obtain⟨v1,v2,v3,v4⟩:=T3.out;have hr:=RNG.out;have hx:=CUT.out.2.2.2.2.2.2;rw[<-t2]at hx;obtain⟨j1,j2⟩:=iA (by omega) (by omega) hx u2 u3 v2 v3;refine⟨eB.trans ?_ j2,j1⟩;rw[t2];exact(cK (by omega) (by omega)).wide (by omega) (by omega)
      refine bodyPost_end (v:=.tuple #[]) (by simp[results,Tryz.results164,go_sem]) rfl ⟨rfl,e3,T3.out.1,FIN.out.1,FIN.out.2,T3.out.2.2.2⟩
     ·obtain⟨e3,w3,_,rfl,T3⟩:∃e3 w3,e3=e2/\w3=w2/\Hid (e3.size=n/\eB (Fd e2) (Fd e3) az b/\Srt k (Fd e3) az b/\SWn w0 bh e3 w3):=⟨e2,w2,rfl,rfl,T2.out.1,eB.refl _ _ _,by
       have h3:=CUT.out.2.2.1;rw[<-T1.out.2.1,hC.2]at h3;exact h3.of_eq (λi i1 i2=>T2.out.2.1.out i (Or.inr i1)),T2.out.2.2.2⟩
      have c1:(az:Int)<E:=by omega
      have c2:¬(E:Int)<b:=by omega
      clear hC;go_wp2_with fail
      have FIN:Hid (eB (Fd dk) (Fd e3) a b/\Srt k (Fd e3) a b):=by
       obtain⟨t1,t2,t3⟩:=T1.out;obtain⟨u1,u2,u3,u4⟩:=T2.out;obtain⟨v1,v2,v3,v4⟩:=T3.out;have hr:=RNG.out;have hx:=CUT.out.2.2.2.2.2.2;rw[<-t2]at hx;obtain⟨j1,j2⟩:=iA (by omega) (by omega) hx u2 u3 v2 v3;refine⟨eB.trans ?_ j2,j1⟩;rw[t2];exact(cK (by omega) (by omega)).wide (by omega) (by omega)
      refine bodyPost_end (v:=.tuple #[]) (by simp[results,Tryz.results164,go_sem]) rfl ⟨rfl,e3,T3.out.1,FIN.out.1,FIN.out.2,T3.out.2.2.2⟩
    ·obtain⟨e2,w2,_,rfl,T2⟩:∃e2 w2,e2=d1/\w2=w1/\Hid (e2.size=n/\eB (Fd d1) (Fd e2) a az/\Srt k (Fd e2) a az/\SWn w0 bh e2 w2):=⟨d1,w1,rfl,rfl,T1.out.1,eB.refl _ _ _,by rw[T1.out.2.1,<-hB];exact CUT.out.2.1,T1.out.2.2⟩
     have b1:¬(a:Int)<I:=by omega
     have HB:=Aa hB;clear hB;rcases (show (az<E/\E<b)\/(az<E/\E=b) by have:=RNG.out;have:=HA.out;have:=HB.out;omega) with hC|hC
     ·have c1:(az:Int)<E:=by omega
      have c2:(E:Int)<b:=by omega
      have CS:Hid (Calls Tryz.prog 164 #[.slice (some ⟨bh,0,none⟩) n c,.int .i64 az,.int .i64 E,.int .i64 b,.func (.func g) #[] cb] w2 (fI k n bh w0 e2 az b)):=by
       obtain⟨t1,t2,t3⟩:=T1.out;obtain⟨_,_,u3,u4,_,u6,_⟩:=CUT.out;obtain⟨v1,v2,v3,v4⟩:=T2.out;have hr:=RNG.out;rw[<-t2]at u3 u4 u6
       exact HIH.out az E b c e2 w2 (by omega) v1 ⟨hC.1,hC.2,by omega,v2.bnd (by omega) (by rw[t2];exact(cK (by omega) (by omega)).bnd (by omega) HBD.out),
        u3.of_eq (λi i1 i2=>v2.out i (Or.inr i1)),u4.of_eq (λi i1 i2=>v2.out i (Or.inr (by omega))),λi j i1 i2 j1 j2=>by rw[v2.out i (Or.inr i1),v2.out j (Or.inr (by omega))];exact u6 i j i1 i2 j1 j2⟩ v4
      go_wp2_with fail
      refine CS.out.mono ?_;rintro e w3 ⟨rfl,e3,t1,t2,t3,t4⟩;have T3:Hid (e3.size=n/\eB (Fd e2) (Fd e3) az b/\Srt k (Fd e3) az b/\SWn w0 bh e3 w3):=⟨t1,t2,t3,t4⟩;clear t1 t2 t3 t4 CS;go_wp2_with fail
      have FIN:Hid (eB (Fd dk) (Fd e3) a b/\Srt k (Fd e3) a b):=by
       obtain⟨t1,t2,t3⟩:=T1.out;obtain⟨u1,u2,u3,u4⟩:=T2.out;obtain⟨v1,v2,v3,v4⟩:=T3.out;have hr:=RNG.out;have hx:=CUT.out.2.2.2.2.2.2;rw[<-t2]at hx;obtain⟨j1,j2⟩:=iA (by omega) (by omega) hx u2 u3 v2 v3;refine⟨eB.trans ?_ j2,j1⟩;rw[t2];exact(cK (by omega) (by omega)).wide (by omega) (by omega)
      refine bodyPost_end (v:=.tuple #[]) (by simp[results,Tryz.results164,go_sem]) rfl ⟨rfl,e3,T3.out.1,FIN.out.1,FIN.out.2,T3.out.2.2.2⟩
     ·obtain⟨e3,w3,_,rfl,T3⟩:∃e3 w3,e3=e2/\w3=w2/\Hid (e3.size=n/\eB (Fd e2) (Fd e3) az b/\Srt k (Fd e3) az b/\SWn w0 bh e3 w3):=⟨e2,w2,rfl,rfl,T2.out.1,eB.refl _ _ _,by
       have h3:=CUT.out.2.2.1;rw[<-T1.out.2.1,hC.2]at h3;exact h3.of_eq (λi i1 i2=>T2.out.2.1.out i (Or.inr i1)),T2.out.2.2.2⟩
      have c1:(az:Int)<E:=by omega
      have c2:¬(E:Int)<b:=by omega
      clear hC;go_wp2_with fail
      have FIN:Hid (eB (Fd dk) (Fd e3) a b/\Srt k (Fd e3) a b):=by
       obtain⟨t1,t2,t3⟩:=T1.out;obtain⟨u1,u2,u3,u4⟩:=T2.out;obtain⟨v1,v2,v3,v4⟩:=T3.out;have hr:=RNG.out;have hx:=CUT.out.2.2.2.2.2.2;rw[<-t2]at hx;obtain⟨j1,j2⟩:=iA (by omega) (by omega) hx u2 u3 v2 v3;refine⟨eB.trans ?_ j2,j1⟩;rw[t2];exact(cK (by omega) (by omega)).wide (by omega) (by omega)
      refine bodyPost_end (v:=.tuple #[]) (by simp[results,Tryz.results164,go_sem]) rfl ⟨rfl,e3,T3.out.1,FIN.out.1,FIN.out.2,T3.out.2.2.2⟩
   ·obtain⟨d1,w1,_,rfl,T1⟩:∃d1 w1,d1=dk/\w1=wr/\Hid (d1.size=n/\Fd d1=fG (Fd dk) I m E/\SWn w0 bh d1 w1):=⟨dk,wr,rfl,rfl,hs,by rw[hA.2];exact cL0.symm,S2.out⟩
    have a1:(I:Int)<m:=by omega
    have a2:¬(m:Int)<E:=by omega
    have HA:=Aa hA;clear hA;have hB:a<I/\I=az:=by have:=RNG.out;have:=HA.out;omega
    obtain⟨e2,w2,_,rfl,T2⟩:∃e2 w2,e2=d1/\w2=w1/\Hid (e2.size=n/\eB (Fd d1) (Fd e2) a az/\Srt k (Fd e2) a az/\SWn w0 bh e2 w2):=⟨d1,w1,rfl,rfl,T1.out.1,eB.refl _ _ _,by rw[T1.out.2.1,<-hB.2];exact CUT.out.1,T1.out.2.2⟩;have b1:(a:Int)<I:=by omega
    have b2:¬(I:Int)<az:=by omega
    have HB:=Aa hB;clear hB;have hC:az<E/\E<b:=by have:=RNG.out;have:=HA.out;have:=HB.out;omega
    have c1:(az:Int)<E:=by omega
    have c2:(E:Int)<b:=by omega
    have CS:Hid (Calls Tryz.prog 164 #[.slice (some ⟨bh,0,none⟩) n c,.int .i64 az,.int .i64 E,.int .i64 b,.func (.func g) #[] cb] w2 (fI k n bh w0 e2 az b)):=by
     obtain⟨t1,t2,t3⟩:=T1.out;obtain⟨_,_,u3,u4,_,u6,_⟩:=CUT.out;obtain⟨v1,v2,v3,v4⟩:=T2.out;have hr:=RNG.out;rw[<-t2]at u3 u4 u6
     exact HIH.out az E b c e2 w2 (by omega) v1 ⟨hC.1,hC.2,by omega,v2.bnd (by omega) (by rw[t2];exact(cK (by omega) (by omega)).bnd (by omega) HBD.out),
      u3.of_eq (λi i1 i2=>v2.out i (Or.inr i1)),u4.of_eq (λi i1 i2=>v2.out i (Or.inr (by omega))),λi j i1 i2 j1 j2=>by rw[v2.out i (Or.inr i1),v2.out j (Or.inr (by omega))];exact u6 i j i1 i2 j1 j2⟩ v4
    go_wp2_with fail
    refine CS.out.mono ?_;rintro e w3 ⟨rfl,e3,t1,t2,t3,t4⟩;have T3:Hid (e3.size=n/\eB (Fd e2) (Fd e3) az b/\Srt k (Fd e3) az b/\SWn w0 bh e3 w3):=⟨t1,t2,t3,t4⟩;clear t1 t2 t3 t4 CS;go_wp2_with fail
    have FIN:Hid (eB (Fd dk) (Fd e3) a b/\Srt k (Fd e3) a b):=by
     obtain⟨t1,t2,t3⟩:=T1.out;obtain⟨u1,u2,u3,u4⟩:=T2.out;obtain⟨v1,v2,v3,v4⟩:=T3.out;have hr:=RNG.out;have hx:=CUT.out.2.2.2.2.2.2;rw[<-t2]at hx;obtain⟨j1,j2⟩:=iA (by omega) (by omega) hx u2 u3 v2 v3;refine⟨eB.trans ?_ j2,j1⟩;rw[t2];exact(cK (by omega) (by omega)).wide (by omega) (by omega)
    refine bodyPost_end (v:=.tuple #[]) (by simp[results,Tryz.results164,go_sem]) rfl ⟨rfl,e3,T3.out.1,FIN.out.1,FIN.out.2,T3.out.2.2.2⟩
end
end
section
open Go Go.Shelf Go.RowKit Go.Lib Go.Sort
section
variable {k:Nat->Nat} {n bh g:Nat} {cb:Array Value} {d0:Array Nat} {w0:World}
theorem vY0 (H:fS k n bh g cb d0 w0) (N:Nat)
  (IH:∀(a m b c:Nat) (dk:Array Nat) (w:World),b-a<N->dk.size=n->xA k (Fd dk) a m b n->SWn w0 bh dk w ->
   Calls Tryz.prog 164 #[.slice (some ⟨bh,0,none⟩) n c,.int .i64 a,.int .i64 m,.int .i64 b,.func (.func g) #[] cb] w (fI k n bh w0 dk a b))
  (a m b c az:Nat) (dk:Array Nat) (w:World) (hN:b-a<N+1) (hs:dk.size=n) (hp:xA k (Fd dk) a m b n) (h0:m-a≠1) (h1:b-m≠1) (aas:az=(a+b)/2) (hm:m<=az) (S:SWn w0 bh dk w) :
  Calls Tryz.prog 164 #[.slice (some ⟨bh,0,none⟩) n c,.int .i64 a,.int .i64 m,.int .i64 b,.func (.func g) #[] cb] w (fI k n bh w0 dk a b):=by
 have hn:=H.small;have mixed:=dV0;have eg:=H.eg;have HH:=Aa H;have S0:=Aa S;have HPRE:=Aa hp;obtain⟨h2,h3,h4,oe,s1,s2,ap⟩:=hp;have HBD:=Aa oe;have HS1:=Aa s1;have HS2:=Aa s2;have HAP:=Aa ap;have HIH:=Aa IH;obtain⟨d,hd⟩:=exq (m-a);obtain⟨d2,ig⟩:=exq (b-m);obtain⟨nn,qq⟩:=exq (az+m);obtain⟨pp,hpp⟩:=exq (nn-1);obtain⟨lo,qe⟩:=exq a;obtain⟨hi,y6⟩:=exq m;have ah:Hid (jC0 a m b az lo hi):=⟨h2,h3,by omega,by omega,λ_=>by omega,λ_=>by omega⟩;have wma:IntKind.i64.wrap ((m:Int)-a)=d:=by simp[Ac,Ad,Ab];omega
 have wbm:IntKind.i64.wrap ((b:Int)-m)=d2:=by simp[Ac,Ad,Ab];omega
 have ie:¬(d:Int)=1:=by omega
 have tv:¬(d2:Int)=1:=by omega
 have em:((a:Int)+b)/2=az:=by omega
 have wnn:IntKind.i64.wrap ((az:Int)+m)=nn:=by simp[Ac,Ad,Ab];omega
 have wpp:IntKind.i64.wrap ((nn:Int)-1)=pp:=by simp[Ac,Ad,Ab];omega
 have hmi:¬(az:Int)<m:=by omega
 have HNN:=Aa qq;have HPP:Hid (pp=az+m-1):=by show _=_;omega
 obtain⟨js,ja,hl3⟩:lo<=hi/\hi<=m/\hi<=az:=by have:=ah.out.rng;omega
 have aho:nn<=2*n/\m<=nn:=by omega
 clear H S oe s1 s2 ap h1 h0 hd ig qq hpp IH HPRE;have HLO:=Aa qe;have HHI:=Aa y6;clear qe y6;have HMD:=Aa aas;clear aas;go_enter Tryz.func164,Tryz.ntmps164
 go_wp2_with fail
 have hz:((d:Int)==1)=false:=by simpa using ie
 have ju:((d2:Int)==1)=false:=by simpa using tv
 try rw[hz]
 try rw[ju]
 clear hz ju;go_loopw [20,21] (λi j wr=>∃(I J:Nat),i=.int .i64 I/\j=.int .i64 J/\lo<=I/\I<=J/\J<=hi/\Hid ((∀c,lo<=c->c<I->¬k (Fd dk (az+m-1-c))<k (Fd dk c))/\(∀c,J<=c->c<hi->k (Fd dk (az+m-1-c))<k (Fd dk c))/\SWn w0 bh dk wr)) (λi j _=>(intOf j).toNat-(intOf i).toNat)
 case atStart=>exact⟨lo,hi,by first|rfl|(rw[HLO.out]),by first|rfl|(rw[HHI.out]),Ae _,js,Ae _,λc c1 c2=>by omega,λc c1 c2=>by omega,S0.out⟩
 case round =>
  clear S0 wma wbm ie tv em wnn wpp js;obtain⟨I,J,rfl,rfl,y7,hIJ,xk,SJ⟩:=hrel;by_cases af:I<J
  ·have jk:(I:Int)<J:=by omega
   obtain⟨h,hh⟩:=exq ((I+J)/2);have eh:((I:Int)+J)/2=h:=by omega
   obtain⟨r1,r2,r3,r4,r5⟩:=ah.out.in (c:=h) (by omega) (by omega);obtain⟨ph,hph⟩:=exq (az+m-1-h);have wph:IntKind.i64.wrap ((pp:Int)-h)=ph:=by have:=HPP.out;simp[Ac,Ad,Ab];omega
   have z9:h<n:=by omega
   have ga:ph<n:=by omega
   have ahp:(h:Int)<n:=by omega
   have ahq:(ph:Int)<n:=by omega
   have wh:IntKind.i64.wrap ((h:Int)+1)=(h+1:Nat):=by simp[Ac,Ad,Ab];omega
   obtain⟨x,hx⟩:=exq (dk[ph]!);obtain⟨y,hy⟩:=exq (dk[h]!);obtain⟨q1,q2,SW1⟩:=SJ.out;have la:=HH.out.cellG hs SW1 ga;have lb:=HH.out.cellG hs SW1 z9;rw[<-hx]at la;rw[<-hy]at lb;have hc:=HH.out.calls hs SW1 (show x<n by rw[hx];exact HBD.out ph ga) (show y<n by rw[hy];exact HBD.out h z9)
   obtain⟨C,hC⟩:∃C:Int,C=(k x:Int)-k y:=⟨_,rfl⟩;rw[<-hC]at hc;have SS:=Aa SW1;have hHb:I<=h/\h<J:=by omega
   have HXY:Hid (k x<k y↔k (Fd dk (az+m-1-h))<k (Fd dk h)):=by show _↔_;rw[hx,hy,hph];exact Iff.rfl
   have MONO:Hid (∀c c',lo<=c->c<=c'->c'<hi->k (Fd dk (az+m-1-c))<k (Fd dk c)->k (Fd dk (az+m-1-c'))<k (Fd dk c')):=λc c' c1 c2 c3 c4=>pL0 ah.out HS1.out HS2.out HAP.out c1 c2 c3 c4;by_cases ci:k x<k y
   ·have hv:C<0:=by omega
    have hdd:decide (C<0)=true:=decide_eq_true hv;have Q2:Hid (∀c,h<=c->c<hi->k (Fd dk (az+m-1-c))<k (Fd dk c)):=λc c1 c2=>MONO.out h c (by omega) c1 c2 (HXY.out.1 ci);have Q1:=Aa q1;clear SJ q1 q2 hx hy hC ci SW1 MONO hh hph r1 r2 r3 r4 r5 HXY;go_wp2_with fail
    go_quiet_grown (first|(go_at_fn g;refine Calls.grown_of (hc _ _)))
    have S2:Hid (SWn w0 bh dk (grow (wr.drewN nq) osq)):=SS.out.grown nq osq;clear la lb hc SS;generalize grow (wr.drewN nq) osq=w2 at S2 ⊢;clear nq osq;go_wp2_with fail
    go_roundw
    case rel=>exact⟨I,h,rfl,by go_num,y7,by omega,by omega,Q1.out,Q2.out,S2.out⟩
    case measure=>simp[intOf];omega
   ·have hv:¬C<0:=by omega
    have hdd:decide (C<0)=false:=decide_eq_false hv
    have Q1:Hid (∀c,lo<=c->c<h+1->¬k (Fd dk (az+m-1-c))<k (Fd dk c)):=λc c1 c2 h2=>by
     have:=MONO.out c h c1 (by omega) (by omega) h2
     exact ci (HXY.out.2 this)
    have Q2:=Aa q2;clear SJ q1 q2 hx hy hC ci SW1 MONO hh hph r1 r2 r3 r4 r5 HXY;go_wp2_with fail
    go_quiet_grown (first|(go_at_fn g;refine Calls.grown_of (hc _ _)))
    have S2:Hid (SWn w0 bh dk (grow (wr.drewN nq) osq)):=SS.out.grown nq osq;clear la lb hc SS;generalize grow (wr.drewN nq) osq=w2 at S2 ⊢;clear nq osq;go_wp2_with fail
    go_roundw
    case rel=>exact⟨h+1,J,by go_num,rfl,by omega,by omega,xk,Q1.out,Q2.out,S2.out⟩
    case measure=>simp[intOf];omega
  ·have jk:¬(I:Int)<J:=by omega
   obtain rfl:I=J:=by omega
   obtain⟨q1,q2,SW1⟩:=SJ.out;obtain⟨E,hE⟩:=exq (az+m-I);have wE:IntKind.i64.wrap ((nn:Int)-I)=E:=by have:=HNN.out;simp[Ac,Ad,Ab];omega
   have RNG:Hid (E=az+m-I/\a<=I/\I<=m/\I<=az/\m<=E/\az<=E/\E<=b/\a<az/\az<b):=by
    have:=ah.out.rng
    have:=ah.out.mid1
    have:=ah.out.mid2
    show _/\_;omega
   have CUT:=Aa (yU0 ah.out HS1.out HS2.out HAP.out y7 xk q1 q2);rw[<-hE]at CUT;have S2:=Aa SW1;clear SJ q1 q2 SW1 hE;rcases (show (I<m/\m<E)\/(I=m) by have:=RNG.out;omega) with hA|hA
   ·have a1:(I:Int)<m:=by omega
    have a2:(m:Int)<E:=by omega
    have CR:=Aa (vZ0 HH.out I m E c (.func (.func g) #[] cb) dk wr hs hA.1 hA.2 (by have:=RNG.out;omega) S2.out);go_wp2_with fail
    refine CR.out.mono ?_;rintro e w1 ⟨rfl,d1,t1,t2,t3⟩;have T1:Hid (d1.size=n/\Fd d1=fG (Fd dk) I m E/\SWn w0 bh d1 w1):=⟨t1,t2,t3⟩;clear t1 t2 t3 CR S2;have HA:=Aa hA;rcases (show (a<I/\I<az)\/(I=a) by have:=RNG.out;have:=HA.out;omega) with hB|hB
    ·have b1:(a:Int)<I:=by omega
     have b2:(I:Int)<az:=by omega
     have CS:Hid (Calls Tryz.prog 164 #[.slice (some ⟨bh,0,none⟩) n c,.int .i64 a,.int .i64 I,.int .i64 az,.func (.func g) #[] cb] w1 (fI k n bh w0 d1 a az)):=by
      obtain⟨t1,t2,t3⟩:=T1.out;obtain⟨u1,u2,_,_,u5,_⟩:=CUT.out;have hr:=RNG.out;exact HIH.out a I az c d1 w1 (by omega) t1 ⟨hB.1,hB.2,by omega,by rw[t2];exact(cK (by omega) (by omega)).bnd (by omega) HBD.out,by rw[t2];exact u1,by rw[t2];exact u2,by rw[t2];exact u5⟩ t3
     go_wp2_with fail
     refine CS.out.mono ?_;rintro e w2 ⟨rfl,e2,t1,t2,t3,t4⟩;have T2:Hid (e2.size=n/\eB (Fd d1) (Fd e2) a az/\Srt k (Fd e2) a az/\SWn w0 bh e2 w2):=⟨t1,t2,t3,t4⟩;clear t1 t2 t3 t4 CS;have HB:=Aa hB;rcases (show (az<E/\E<b)\/(az<E/\E=b) by have:=RNG.out;have:=HA.out;have:=HB.out;omega) with hC|hC
     ·have c1:(az:Int)<E:=by omega
      have c2:(E:Int)<b:=by omega
      have CS:Hid (Calls Tryz.prog 164 #[.slice (some ⟨bh,0,none⟩) n c,.int .i64 az,.int .i64 E,.int .i64 b,.func (.func g) #[] cb] w2 (fI k n bh w0 e2 az b)):=by
       obtain⟨t1,t2,t3⟩:=T1.out;obtain⟨_,_,u3,u4,_,u6,_⟩:=CUT.out;obtain⟨v1,v2,v3,v4⟩:=T2.out;have hr:=RNG.out;rw[<-t2]at u3 u4 u6
       exact HIH.out az E b c e2 w2 (by omega) v1 ⟨hC.1,hC.2,by omega,v2.bnd (by omega) (by rw[t2];exact(cK (by omega) (by omega)).bnd (by omega) HBD.out),
        u3.of_eq (λi i1 i2=>v2.out i (Or.inr i1)),u4.of_eq (λi i1 i2=>v2.out i (Or.inr (by omega))),λi j i1 i2 j1 j2=>by rw[v2.out i (Or.inr i1),v2.out j (Or.inr (by omega))];exact u6 i j i1 i2 j1 j2⟩ v4
      go_wp2_with fail
      refine CS.out.mono ?_;rintro e w3 ⟨rfl,e3,t1,t2,t3,t4⟩;have T3:Hid (e3.size=n/\eB (Fd e2) (Fd e3) az b/\Srt k (Fd e3) az b/\SWn w0 bh e3 w3):=⟨t1,t2,t3,t4⟩;clear t1 t2 t3 t4 CS;go_wp2_with fail
      have FIN:Hid (eB (Fd dk) (Fd e3) a b/\Srt k (Fd e3) a b):=by
       obtain⟨t1,t2,t3⟩:=T1.out;obtain⟨u1,u2,u3,u4⟩:=T2.out;obtain⟨v1,v2,v3,v4⟩:=T3.out;have hr:=RNG.out;have hx:=CUT.out.2.2.2.2.2.2;rw[<-t2]at hx;obtain⟨j1,j2⟩:=iA (by omega) (by omega) hx u2 u3 v2 v3;refine⟨eB.trans ?_ j2,j1⟩;rw[t2];exact(cK (by omega) (by omega)).wide (by omega) (by omega)
      refine bodyPost_end (v:=.tuple #[]) (by simp[results,Tryz.results164,go_sem]) rfl ⟨rfl,e3,T3.out.1,FIN.out.1,FIN.out.2,T3.out.2.2.2⟩
     ·obtain⟨e3,w3,_,rfl,T3⟩:∃e3 w3,e3=e2/\w3=w2/\Hid (e3.size=n/\eB (Fd e2) (Fd e3) az b/\Srt k (Fd e3) az b/\SWn w0 bh e3 w3):=⟨e2,w2,rfl,rfl,T2.out.1,eB.refl _ _ _,by
       have h3:=CUT.out.2.2.1;rw[<-T1.out.2.1,hC.2]at h3;exact h3.of_eq (λi i1 i2=>T2.out.2.1.out i (Or.inr i1)),T2.out.2.2.2⟩
      have c1:(az:Int)<E:=by omega
      have c2:¬(E:Int)<b:=by omega
      clear hC;go_wp2_with fail
      have FIN:Hid (eB (Fd dk) (Fd e3) a b/\Srt k (Fd e3) a b):=by
       obtain⟨t1,t2,t3⟩:=T1.out;obtain⟨u1,u2,u3,u4⟩:=T2.out;obtain⟨v1,v2,v3,v4⟩:=T3.out;have hr:=RNG.out;have hx:=CUT.out.2.2.2.2.2.2;rw[<-t2]at hx;obtain⟨j1,j2⟩:=iA (by omega) (by omega) hx u2 u3 v2 v3;refine⟨eB.trans ?_ j2,j1⟩;rw[t2];exact(cK (by omega) (by omega)).wide (by omega) (by omega)
      refine bodyPost_end (v:=.tuple #[]) (by simp[results,Tryz.results164,go_sem]) rfl ⟨rfl,e3,T3.out.1,FIN.out.1,FIN.out.2,T3.out.2.2.2⟩
    ·obtain⟨e2,w2,_,rfl,T2⟩:∃e2 w2,e2=d1/\w2=w1/\Hid (e2.size=n/\eB (Fd d1) (Fd e2) a az/\Srt k (Fd e2) a az/\SWn w0 bh e2 w2):=⟨d1,w1,rfl,rfl,T1.out.1,eB.refl _ _ _,by rw[T1.out.2.1,<-hB];exact CUT.out.2.1,T1.out.2.2⟩
     have b1:¬(a:Int)<I:=by omega
     have HB:=Aa hB;clear hB;rcases (show (az<E/\E<b)\/(az<E/\E=b) by have:=RNG.out;have:=HA.out;have:=HB.out;omega) with hC|hC
     ·have c1:(az:Int)<E:=by omega
      have c2:(E:Int)<b:=by omega
      have CS:Hid (Calls Tryz.prog 164 #[.slice (some ⟨bh,0,none⟩) n c,.int .i64 az,.int .i64 E,.int .i64 b,.func (.func g) #[] cb] w2 (fI k n bh w0 e2 az b)):=by
       obtain⟨t1,t2,t3⟩:=T1.out;obtain⟨_,_,u3,u4,_,u6,_⟩:=CUT.out;obtain⟨v1,v2,v3,v4⟩:=T2.out;have hr:=RNG.out;rw[<-t2]at u3 u4 u6
       exact HIH.out az E b c e2 w2 (by omega) v1 ⟨hC.1,hC.2,by omega,v2.bnd (by omega) (by rw[t2];exact(cK (by omega) (by omega)).bnd (by omega) HBD.out),
        u3.of_eq (λi i1 i2=>v2.out i (Or.inr i1)),u4.of_eq (λi i1 i2=>v2.out i (Or.inr (by omega))),λi j i1 i2 j1 j2=>by rw[v2.out i (Or.inr i1),v2.out j (Or.inr (by omega))];exact u6 i j i1 i2 j1 j2⟩ v4
      go_wp2_with fail
      refine CS.out.mono ?_;rintro e w3 ⟨rfl,e3,t1,t2,t3,t4⟩;have T3:Hid (e3.size=n/\eB (Fd e2) (Fd e3) az b/\Srt k (Fd e3) az b/\SWn w0 bh e3 w3):=⟨t1,t2,t3,t4⟩;clear t1 t2 t3 t4 CS;go_wp2_with fail
      have FIN:Hid (eB (Fd dk) (Fd e3) a b/\Srt k (Fd e3) a b):=by
       obtain⟨t1,t2,t3⟩:=T1.out;obtain⟨u1,u2,u3,u4⟩:=T2.out;obtain⟨v1,v2,v3,v4⟩:=T3.out;have hr:=RNG.out;have hx:=CUT.out.2.2.2.2.2.2;rw[<-t2]at hx;obtain⟨j1,j2⟩:=iA (by omega) (by omega) hx u2 u3 v2 v3;refine⟨eB.trans ?_ j2,j1⟩;rw[t2];exact(cK (by omega) (by omega)).wide (by omega) (by omega)
      refine bodyPost_end (v:=.tuple #[]) (by simp[results,Tryz.results164,go_sem]) rfl ⟨rfl,e3,T3.out.1,FIN.out.1,FIN.out.2,T3.out.2.2.2⟩
     ·obtain⟨e3,w3,_,rfl,T3⟩:∃e3 w3,e3=e2/\w3=w2/\Hid (e3.size=n/\eB (Fd e2) (Fd e3) az b/\Srt k (Fd e3) az b/\SWn w0 bh e3 w3):=⟨e2,w2,rfl,rfl,T2.out.1,eB.refl _ _ _,by
       have h3:=CUT.out.2.2.1;rw[<-T1.out.2.1,hC.2]at h3;exact h3.of_eq (λi i1 i2=>T2.out.2.1.out i (Or.inr i1)),T2.out.2.2.2⟩
      have c1:(az:Int)<E:=by omega
      have c2:¬(E:Int)<b:=by omega
      clear hC;go_wp2_with fail
      have FIN:Hid (eB (Fd dk) (Fd e3) a b/\Srt k (Fd e3) a b):=by
       obtain⟨t1,t2,t3⟩:=T1.out;obtain⟨u1,u2,u3,u4⟩:=T2.out;obtain⟨v1,v2,v3,v4⟩:=T3.out;have hr:=RNG.out;have hx:=CUT.out.2.2.2.2.2.2;rw[<-t2]at hx;obtain⟨j1,j2⟩:=iA (by omega) (by omega) hx u2 u3 v2 v3;refine⟨eB.trans ?_ j2,j1⟩;rw[t2];exact(cK (by omega) (by omega)).wide (by omega) (by omega)
      refine bodyPost_end (v:=.tuple #[]) (by simp[results,Tryz.results164,go_sem]) rfl ⟨rfl,e3,T3.out.1,FIN.out.1,FIN.out.2,T3.out.2.2.2⟩
   ·obtain⟨d1,w1,_,rfl,T1⟩:∃d1 w1,d1=dk/\w1=wr/\Hid (d1.size=n/\Fd d1=fG (Fd dk) I m E/\SWn w0 bh d1 w1):=⟨dk,wr,rfl,rfl,hs,by rw[hA];exact(yP (by have:=RNG.out;omega)).symm,S2.out⟩
    have a1:¬(I:Int)<m:=by omega
    have HA:=Aa hA;clear hA;rcases (show (a<I/\I<az)\/(a<I/\I=az) by have:=RNG.out;have:=HA.out;omega) with hB|hB
    ·have b1:(a:Int)<I:=by omega
     have b2:(I:Int)<az:=by omega
     have CS:Hid (Calls Tryz.prog 164 #[.slice (some ⟨bh,0,none⟩) n c,.int .i64 a,.int .i64 I,.int .i64 az,.func (.func g) #[] cb] w1 (fI k n bh w0 d1 a az)):=by
      obtain⟨t1,t2,t3⟩:=T1.out;obtain⟨u1,u2,_,_,u5,_⟩:=CUT.out;have hr:=RNG.out;exact HIH.out a I az c d1 w1 (by omega) t1 ⟨hB.1,hB.2,by omega,by rw[t2];exact(cK (by omega) (by omega)).bnd (by omega) HBD.out,by rw[t2];exact u1,by rw[t2];exact u2,by rw[t2];exact u5⟩ t3
     go_wp2_with fail
     refine CS.out.mono ?_;rintro e w2 ⟨rfl,e2,t1,t2,t3,t4⟩;have T2:Hid (e2.size=n/\eB (Fd d1) (Fd e2) a az/\Srt k (Fd e2) a az/\SWn w0 bh e2 w2):=⟨t1,t2,t3,t4⟩;clear t1 t2 t3 t4 CS;have HB:=Aa hB;have hC:E=az:=by have:=RNG.out;have:=HA.out;have:=HB.out;omega
     obtain⟨e3,w3,_,rfl,T3⟩:∃e3 w3,e3=e2/\w3=w2/\Hid (e3.size=n/\eB (Fd e2) (Fd e3) az b/\Srt k (Fd e3) az b/\SWn w0 bh e3 w3):=⟨e2,w2,rfl,rfl,T2.out.1,eB.refl _ _ _,by
      have h4:=CUT.out.2.2.2.1;rw[<-T1.out.2.1,hC]at h4;exact h4.of_eq (λi i1 i2=>T2.out.2.1.out i (Or.inr i1)),T2.out.2.2.2⟩
     have c1:¬(az:Int)<E:=by omega
     clear hC;go_wp2_with fail
     have FIN:Hid (eB (Fd dk) (Fd e3) a b/\Srt k (Fd e3) a b):=by
      obtain⟨t1,t2,t3⟩:=T1.out;obtain⟨u1,u2,u3,u4⟩:=T2.out;obtain⟨v1,v2,v3,v4⟩:=T3.out;have hr:=RNG.out;have hx:=CUT.out.2.2.2.2.2.2;rw[<-t2]at hx;obtain⟨j1,j2⟩:=iA (by omega) (by omega) hx u2 u3 v2 v3;refine⟨eB.trans ?_ j2,j1⟩;rw[t2];exact(cK (by omega) (by omega)).wide (by omega) (by omega)
     refine bodyPost_end (v:=.tuple #[]) (by simp[results,Tryz.results164,go_sem]) rfl ⟨rfl,e3,T3.out.1,FIN.out.1,FIN.out.2,T3.out.2.2.2⟩
    ·obtain⟨e2,w2,_,rfl,T2⟩:∃e2 w2,e2=d1/\w2=w1/\Hid (e2.size=n/\eB (Fd d1) (Fd e2) a az/\Srt k (Fd e2) a az/\SWn w0 bh e2 w2):=⟨d1,w1,rfl,rfl,T1.out.1,eB.refl _ _ _,by rw[T1.out.2.1,<-hB.2];exact CUT.out.1,T1.out.2.2⟩
     have b1:(a:Int)<I:=by omega
     have b2:¬(I:Int)<az:=by omega
     have HB:=Aa hB;clear hB;have hC:E=az:=by have:=RNG.out;have:=HA.out;have:=HB.out;omega
     obtain⟨e3,w3,_,rfl,T3⟩:∃e3 w3,e3=e2/\w3=w2/\Hid (e3.size=n/\eB (Fd e2) (Fd e3) az b/\Srt k (Fd e3) az b/\SWn w0 bh e3 w3):=⟨e2,w2,rfl,rfl,T2.out.1,eB.refl _ _ _,by
      have h4:=CUT.out.2.2.2.1;rw[<-T1.out.2.1,hC]at h4;exact h4.of_eq (λi i1 i2=>T2.out.2.1.out i (Or.inr i1)),T2.out.2.2.2⟩
     have c1:¬(az:Int)<E:=by omega
     clear hC;go_wp2_with fail
     have FIN:Hid (eB (Fd dk) (Fd e3) a b/\Srt k (Fd e3) a b):=by
      obtain⟨t1,t2,t3⟩:=T1.out;obtain⟨u1,u2,u3,u4⟩:=T2.out;obtain⟨v1,v2,v3,v4⟩:=T3.out;have hr:=RNG.out;have hx:=CUT.out.2.2.2.2.2.2;rw[<-t2]at hx;obtain⟨j1,j2⟩:=iA (by omega) (by omega) hx u2 u3 v2 v3;refine⟨eB.trans ?_ j2,j1⟩;rw[t2];exact(cK (by omega) (by omega)).wide (by omega) (by omega)
     refine bodyPost_end (v:=.tuple #[]) (by simp[results,Tryz.results164,go_sem]) rfl ⟨rfl,e3,T3.out.1,FIN.out.1,FIN.out.2,T3.out.2.2.2⟩
end
end
section
open Go Go.Shelf Go.RowKit Go.Lib Go.Sort
section
variable {k:Nat->Nat} {n bh g:Nat} {cb:Array Value} {d0:Array Nat} {w0:World}
theorem eZ0 (H:fS k n bh g cb d0 w0):∀(N a m b c:Nat) (dk:Array Nat) (w:World),b-a<N->dk.size=n->xA k (Fd dk) a m b n->SWn w0 bh dk w ->
  Calls Tryz.prog 164 #[.slice (some ⟨bh,0,none⟩) n c,.int .i64 a,.int .i64 m,.int .i64 b,.func (.func g) #[] cb] w (fI k n bh w0 dk a b)
 | 0,_,_,_,_,_,_,h,_,_,_=>by omega
 | N+1,a,m,b,c,dk,w,h,hs,hp,S=>by
  by_cases h0:m-a=1
  ·exact cQ1 H a m b c dk w hs hp h0 S
  by_cases h1:b-m=1
  ·exact cZ1 H a m b c dk w hs hp h0 h1 S
  rcases Ah ((a+b)/2) m with hm|hm
  ·exact xR0 H N (eZ0 H N) a m b c _ dk w h hs hp h0 h1 rfl hm S
  ·exact vY0 H N (eZ0 H N) a m b c _ dk w h hs hp h0 h1 rfl hm S
theorem zX {D D':Nat->Nat} {a b:Nat} (hid:∀i,a<=i->i<b->D i=i) (h:eB D D' a b) (hs:Srt k D' a b):Win k D' a b where
 srt:=hs
 inn i h1 h2:=by
  obtain⟨j,j1,j2,e⟩:=h.fro i h1 h2;rw[e,hid j j1 j2];omega
 all v h1 h2:=by
  obtain⟨i,i1,i2,e⟩:=h.to v h1 h2;exact⟨i,i1,i2,by rw[e,hid v h1 h2]⟩
structure eS0 (k D:Nat->Nat) (n T:Nat):Prop where
 le:T*20<=n
 done:∀t,t<T->Win k D (t*20) (t*20+20)
 rest:∀i,T*20<=i->D i=i\/n<=i
 bnd:∀i,i<n->D i<n
theorem eS0.next {D D':Nat->Nat} {n T:Nat} (h:eS0 k D n T) (hb:T*20+20<=n) (hs:eB D D' (T*20) (T*20+20)) (h':Srt k D' (T*20) (T*20+20)):eS0 k D' n (T+1) where
 le:=by omega
 done t ht:=by
  rcases Ah t T with h1|h1
  ·exact(h.done t h1).of_eq λi i1 i2=>hs.out i (Or.inl (by omega))
  ·rw[show t=T by omega]
   exact zX (λi i1 i2=>by rcases h.rest i i1 with e|e<;>omega) hs h'
 rest i hi:=by
  rw[hs.out i (Or.inr (by omega))];exact h.rest i (by omega)
 bnd:=hs.bnd hb h.bnd
theorem eS0.last {D D':Nat->Nat} {n T:Nat} (h:eS0 k D n T) (hb:n<T*20+20) (hs:eB D D' (T*20) n) (h':Srt k D' (T*20) n):eP1 k D' 20 n/\∀i,i<n->D' i<n:=by
 refine⟨λt ht=>?_,hs.bnd (Ae _) h.bnd⟩;rcases Ah t T with h1|h1
 ·rw[show min (t*20+20) n=t*20+20 by have:=h.le;omega]
  exact(h.done t h1).of_eq λi i1 i2=>hs.out i (Or.inl (by omega))
 ·have:t=T:=by omega
  subst this;rw[show min (t*20+20) n=n by omega]
  exact zX (λi i1 i2=>by rcases h.rest i i1 with e|e<;>omega) hs h'
structure kI (k D:Nat->Nat) (B n T a:Nat):Prop where
 a_eq:a=T*(2*B)
 le:a<=n
 done:∀t,t<T->Win k D (t*(2*B)) (t*(2*B)+2*B)
 rest:∀t,2*T<=t->t*B<n->Win k D (t*B) (min (t*B+B) n)
 bnd:∀i,i<n->D i<n
theorem kI.at1 {D:Nat->Nat} {B n T a:Nat} (h:kI k D B n T a) (hn:a<n):Win k D a (min (a+B) n):=by
 have:=h.rest (2*T) (Ae _) (by rw[show 2*T*B=T*(2*B) by rw[Ak 2 T,Aj],<-h.a_eq];exact hn)
 rwa [show 2*T*B=T*(2*B) by rw[Ak 2 T,Aj],<-h.a_eq]at this
theorem kI.at2 {D:Nat->Nat} {B n T a:Nat} (h:kI k D B n T a) (hn:a+B<n):Win k D (a+B) (min (a+B+B) n):=by
 have e:(2*T+1)*B=a+B:=by rw[Ai,show 2*T*B=T*(2*B) by rw[Ak 2 T,Aj],<-h.a_eq]
 have:=h.rest (2*T+1) (by omega) (by rw[e];exact hn)
 rwa [e]at this
theorem kI.next {D D':Nat->Nat} {B n T a:Nat} (h:kI k D B n T a) (hb:a+2*B<=n) (hB:0<B) (hs:eB D D' a (a+2*B)) (h':Srt k D' a (a+2*B)):kI k D' B n (T+1) (a+2*B):=by
 have ha:=h.a_eq;have w1:=h.at1 (by omega);rw[show min (a+B) n=a+B by omega]at w1
 have w2:=h.at2 (by omega);rw[show min (a+B+B) n=a+2*B by omega]at w2
 refine⟨by rw[Ai T (2*B),<-ha],hb,λt ht=>?_,λt h1 h2=>?_,hs.bnd hb h.bnd⟩
 ·rcases Ah t T with h1|h1
  ·have h3:=Ag (2*B) h1
   rw[Ai,<-ha]at h3;exact(h.done t h1).of_eq λi i1 i2=>hs.out i (Or.inl (by omega))
  ·rw[show t=T by omega,<-ha]
   exact Win.merge w1 w2 (by omega) (by omega) hs h'
 ·have h3:=Ag B h1
  rw[show 2*(T+1)*B=T*(2*B)+2*B by rw[Nat.mul_add,Nat.add_mul,Ak 2 T,Aj],<-ha]at h3
  exact(h.rest t (by omega) h2).of_eq λi i1 i2=>hs.out i (Or.inr (by omega))
theorem kI.fin {D D':Nat->Nat} {B n T a:Nat} (h:kI k D B n T a) (hb:n<a+2*B) (_:0<B) (ahr:∀i,i<a->D' i=D i) (hw:a<n->Win k D' a n):eP1 k D' (2*B) n:=λt ht=>by
 have ha:=h.a_eq;have o4:=h.le;rcases Am t T with h1|h1|h1
 ·have h3:=Ag (2*B) h1
  rw[Ai t (2*B),<-ha]at h3;rw[show min (t*(2*B)+2*B) n=t*(2*B)+2*B by omega]
  exact(h.done t h1).of_eq λi i1 i2=>ahr i (by omega)
 ·subst h1
  rw[<-ha]at ht ⊢;rw[show min (a+2*B) n=n by omega]
  exact hw ht
 ·have h3:=Ag (2*B) h1
  rw[Ai T (2*B),<-ha]at h3;omega
theorem kI.pre {D:Nat->Nat} {B n T a b:Nat} (h:kI k D B n T a) (_hB:0<B) (hm:a+B<b) (hb:b<=n) (fp:b=n\/b=a+2*B) (kn:b<=a+2*B):xA k D a (a+B) b n:=by
 have w1:=h.at1 (by omega);rw[show min (a+B) n=a+B by omega]at w1
 have w2:=h.at2 (by omega);rw[show min (a+B+B) n=b by omega]at w2
 exact⟨by omega,hm,hb,h.bnd,w1.srt,w2.srt,w1.apt w2⟩
end
end
section
open Go Go.Shelf Go.RowKit Go.Lib Go.Sort
section
variable {k:Nat->Nat} {n bh g:Nat} {cb:Array Value} {d0:Array Nat} {w0:World}
def nW0 (k:Nat->Nat) (n bh:Nat) (w0:World) (e:Ending) (w':World):Prop :=
 e=.returned (.tuple #[])/\∃mu,mu.size=n/\Win k (Fd mu) 0 n/\SWn w0 bh mu w'
theorem qY0 (H:fS k n bh g cb d0 w0) (c:Nat) (dk:Array Nat) (w:World) (hs:dk.size=n) (hid:∀i,i<n->Fd dk i=i) (S:SWn w0 bh dk w) :
  Calls Tryz.prog 100 #[.slice (some ⟨bh,0,none⟩) n c,.int .i64 n,.func (.func g) #[] cb] w (nW0 k n bh w0):=by
 have hn:=H.small;have HH:=Aa H;have S0:=Aa S
 have HSTART:Hid (eS0 k (Fd dk) n 0):=⟨by omega,λt ht=>by omega,λi _=>by
  rcases Ah i n with h|h
  ·exact Or.inl (hid i h)
  ·exact Or.inr h,λi hi=>by rw[hid i hi];exact hi⟩
 clear H S hid;go_enter Tryz.func100,Tryz.ntmps100
 go_wp2_with fail
 go_loopw [7,8] (λx y wr=>∃(T a b:Nat) (dj:Array Nat),x=.int .i64 a/\y=.int .i64 b/\a<=n/\b=a+20/\Hid (a=T*20/\dj.size=n/\eS0 k (Fd dj) n T/\SWn w0 bh dj wr)) (λx _ _=>n-(intOf x).toNat)
 case atStart=>exact⟨0,0,20,dk,by go_num,by go_num,by omega,rfl,rfl,hs,HSTART.out,S0.out⟩
 case round =>
  clear S0 HSTART;obtain⟨T,a,b,dj,rfl,rfl,han,hb,SJ⟩:=hrel;by_cases af:b<=n
  ·have jk:(b:Int)<=n:=by omega
   obtain⟨ha,e1,e2,S1⟩:=SJ.out;have CI:=Aa (aB1 HH.out a b c dj wr e1 af han e2.bnd (λi i1 i2=>by rcases e2.rest i (by omega) with h|h<;>omega) S1)
   have wb:IntKind.i64.wrap ((b:Int)+20)=(b+20:Nat):=by simp[Ac,Ad,Ab];omega
   have NXT:Hid (∀d':Array Nat,eB (Fd dj) (Fd d') a b->Srt k (Fd d') a b->b=(T+1)*20/\eS0 k (Fd d') n (T+1)):=λd' h1 h2=>by
    subst ha;rw[hb]at h1 h2;exact⟨by omega,e2.next (by omega) h1 h2⟩
   have HB:=Aa hb;clear SJ ha e1 e2 S1 hb;go_wp2_with fail
   refine CI.out.mono ?_;rintro e w2 ⟨rfl,d2,f1,f2,f3,f4⟩;obtain⟨n1,n2⟩:=NXT.out d2 f2 f3;have RES:Hid (b=(T+1)*20/\d2.size=n/\eS0 k (Fd d2) n (T+1)/\SWn w0 bh d2 w2):=⟨n1,f1,n2,f4⟩;clear CI f1 f2 f3 f4 n1 n2 NXT;go_wp2_with fail
   go_roundw
   case rel=>exact⟨T+1,b,b+20,d2,rfl,by go_num,af,rfl,RES.out⟩
   case measure=>have:=HB.out;simp[intOf];omega
  ·have jk:¬(b:Int)<=n:=by omega
   obtain⟨ha,e1,e2,S1⟩:=SJ.out;have CI:=Aa (aB1 HH.out a n c dj wr e1 (Ae _) han e2.bnd (λi i1 i2=>by rcases e2.rest i (by omega) with h|h<;>omega) S1)
   have NXT:Hid (∀d':Array Nat,eB (Fd dj) (Fd d') a n->Srt k (Fd d') a n->eP1 k (Fd d') 20 n/\∀i,i<n->Fd d' i<n):=λd' h1 h2=>by
    subst ha;exact e2.last (by omega) h1 h2
   clear SJ ha e1 e2 S1 hb;go_wp2_with fail
   refine CI.out.mono ?_;rintro e w2 ⟨rfl,d2,f1,f2,f3,f4⟩;obtain⟨n1,n2⟩:=NXT.out d2 f2 f3;have RES:Hid (d2.size=n/\eP1 k (Fd d2) 20 n/\(∀i,i<n->Fd d2 i<n)/\SWn w0 bh d2 w2):=⟨f1,n1,n2,f4⟩;clear CI f1 f2 f3 f4 n1 n2 NXT;go_wp2_with fail
   go_loopw [6] (λx wq=>∃(B:Nat) (dq:Array Nat),x=.int .i64 B/\20<=B/\B<=2*n+20/\Hid (dq.size=n/\eP1 k (Fd dq) B n/\(∀i,i<n->Fd dq i<n)/\SWn w0 bh dq wq)) (λx _=>n-(intOf x).toNat)
   case atStart=>exact⟨20,d2,by go_num,Ae _,by omega,RES.out⟩
   case round =>
    clear RES;obtain⟨B,dq,rfl,hB,hB2,SQ⟩:=hrel;by_cases hbn:B<n
    ·have ahs:(B:Int)<n:=by omega
     obtain⟨B2,afg⟩:=exq (2*B);have wB2:IntKind.i64.wrap (2*(B:Int))=B2:=by simp[Ac,Ad,Ab];omega
     have PST:Hid (kI k (Fd dq) B n 0 0):=by
      obtain⟨_,q2,q3,_⟩:=SQ.out;exact⟨by rw[An],by omega,λt ht=>by omega,λt _ h=>q2 t h,q3⟩
     have SQ2:Hid (dq.size=n/\SWn w0 bh dq wr):=⟨SQ.out.1,SQ.out.2.2.2⟩;have HB2:=Aa afg;have ajy:B2<=2*n:=by omega
     clear SQ afg;go_wp2_with fail
     go_loopw [7,8] (λx y wt=>∃(T a b:Nat) (dt:Array Nat),x=.int .i64 a/\y=.int .i64 b/\a<=n/\b<=a+2*n/\Hid (b=a+2*B/\dt.size=n/\kI k (Fd dt) B n T a/\SWn w0 bh dt wt)) (λx _ _=>n-(intOf x).toNat)
     case atStart=>exact⟨0,0,B2,dq,by go_num,rfl,by omega,by omega,by have:=HB2.out;omega,SQ2.out.1,PST.out,SQ2.out.2⟩
     case round =>
      clear SQ2 PST;obtain⟨T2,a2,b2,dt,rfl,rfl,ajz,aj0,ST⟩:=hrel;obtain⟨m2,zw⟩:=exq (a2+B);have wm2:IntKind.i64.wrap ((a2:Int)+B)=m2:=by simp[Ac,Ad,Ab];omega
      by_cases ci:b2<=n
      ·have qt:(b2:Int)<=n:=by omega
       obtain⟨fp,t1,t2,t3⟩:=ST.out
       have CM:Hid (Calls Tryz.prog 164 #[.slice (some ⟨bh,0,none⟩) n c,.int .i64 a2,.int .i64 m2,.int .i64 b2,.func (.func g) #[] cb] wr (fI k n bh w0 dt a2 b2)):=by
        have hp:=t2.pre (b:=b2) (by omega) (by omega) ci (Or.inr fp) (by omega);rw[<-zw]at hp;exact eZ0 HH.out (b2-a2+1) a2 m2 b2 c dt wr (by omega) t1 hp t3
       obtain⟨b3,kn⟩:=exq (b2+B2);have wb3:IntKind.i64.wrap ((b2:Int)+B2)=b3:=by simp[Ac,Ad,Ab];omega
       have NXT:Hid (∀d':Array Nat,eB (Fd dt) (Fd d') a2 b2->Srt k (Fd d') a2 b2->kI k (Fd d') B n (T2+1) b2):=λd' h1 h2=>by
        rw[fp]at h1 h2 ⊢;exact t2.next (by omega) (by omega) h1 h2
       have HAB:Hid (a2<b2/\b3=b2+2*B/\b3<=b2+2*n):=by have:=HB2.out;exact⟨by omega,by omega,by omega⟩
       clear ST fp t1 t2 t3 zw kn;go_wp2_with fail
       refine CM.out.mono ?_;rintro e w3 ⟨rfl,d3,f1,f2,f3,f4⟩;have n1:=NXT.out d3 f2 f3;have RES:Hid (d3.size=n/\kI k (Fd d3) B n (T2+1) b2/\SWn w0 bh d3 w3):=⟨f1,n1,f4⟩;clear CM f1 f2 f3 f4 n1 NXT;go_wp2_with fail
       go_roundw
       case rel=>exact⟨T2+1,b2,b3,d3,rfl,by go_num,ci,HAB.out.2.2,HAB.out.2.1,RES.out⟩
       case measure=>have:=HAB.out.1;simp[intOf];omega
      ·have qt:¬(b2:Int)<=n:=by omega
       obtain⟨fp,t1,t2,t3⟩:=ST.out;have wB3:IntKind.i64.wrap ((B:Int)*2)=B2:=by have:=HB2.out;simp[Ac,Ad,Ab];omega
       by_cases vk:m2<n
       ·have aht:(m2:Int)<n:=by omega
        have CM:Hid (Calls Tryz.prog 164 #[.slice (some ⟨bh,0,none⟩) n c,.int .i64 a2,.int .i64 m2,.int .i64 n,.func (.func g) #[] cb] wr (fI k n bh w0 dt a2 n)):=by
         have hp:=t2.pre (b:=n) (by omega) (by omega) (Ae _) (Or.inl rfl) (by omega);rw[<-zw]at hp;exact eZ0 HH.out (n-a2+1) a2 m2 n c dt wr (by omega) t1 hp t3
        have NXT:Hid (∀d':Array Nat,eB (Fd dt) (Fd d') a2 n->Srt k (Fd d') a2 n->eP1 k (Fd d') B2 n/\∀i,i<n->Fd d' i<n):=λd' h1 h2=>by
         rw[HB2.out];have w1:=t2.at1 (by omega);rw[show min (a2+B) n=m2 by omega]at w1
         have w2:=t2.at2 (by omega);rw[<-zw,show min (m2+B) n=n by omega]at w2
         exact⟨t2.fin (by omega) (by omega) (λi hi=>h1.out i (Or.inl hi)) (λ_=>Win.merge w1 w2 (by omega) (by omega) h1 h2),h1.bnd (Ae _) t2.bnd⟩
        clear ST fp t1 t2 t3 zw;go_wp2_with fail
        refine CM.out.mono ?_;rintro e w3 ⟨rfl,d3,f1,f2,f3,f4⟩;obtain⟨n1,n2⟩:=NXT.out d3 f2 f3;have RES:Hid (d3.size=n/\eP1 k (Fd d3) B2 n/\(∀i,i<n->Fd d3 i<n)/\SWn w0 bh d3 w3):=⟨f1,n1,n2,f4⟩;clear CM f1 f2 f3 f4 n1 n2 NXT;go_wp2_with fail
        go_roundw
        case rel=>exact⟨B2,d3,by go_num,by have:=HB2.out;omega,by have:=HB2.out;omega,RES.out⟩
        case measure=>have:=HB2.out;simp[intOf];omega
       ·have aht:¬(m2:Int)<n:=by omega
        have RES:Hid (dt.size=n/\eP1 k (Fd dt) B2 n/\(∀i,i<n->Fd dt i<n)/\SWn w0 bh dt wr):=by
         refine⟨t1,?_,t2.bnd,t3⟩;rw[HB2.out];refine t2.fin (by omega) (by omega) (λi hi=>rfl) (λh=>?_);have w1:=t2.at1 h;rwa [show min (a2+B) n=n by omega]at w1
        clear ST fp t1 t2 t3 zw;go_wp2_with fail
        go_roundw
        case rel=>exact⟨B2,dt,by go_num,by have:=HB2.out;omega,by have:=HB2.out;omega,RES.out⟩
        case measure=>have:=HB2.out;simp[intOf];omega
    ·have ahs:¬(B:Int)<n:=by omega
     obtain⟨q1,q2,q3,q4⟩:=SQ.out
     have FIN:Hid (Win k (Fd dq) 0 n):=by
      rcases Nat.eq_zero_or_pos n with h|h
      ·rw[h];exact Win.none _ _ _
      ·have h1:=q2 0 (by rw[An];exact h)
       rwa [An,show min (0+B) n=n by omega]at h1
     clear SQ q2 q3;go_wp2_with fail
     refine bodyPost_end (v:=.tuple #[]) (by simp[results,Tryz.results100,go_sem]) rfl ⟨rfl,dq,q1,FIN.out,q4⟩
theorem bV0 (H:fS k n bh g cb d0 w0) (c:Nat) (dk:Array Nat) (w:World) (hs:dk.size=n) (hid:∀i,i<n->Fd dk i=i) (S:SWn w0 bh dk w) :
  Calls Tryz.prog 43 #[.slice (some ⟨bh,0,none⟩) n c,.func (.func g) #[] cb] w (nW0 k n bh w0):=by
 have hn:=H.small;have CS:=Aa (qY0 H c dk w hs hid S);clear H hid S;go_enter Tryz.func43,Tryz.ntmps43
 go_wp2_with fail
 refine CS.out.mono ?_;rintro e w3 ⟨rfl,d3,f1,f2,f3⟩;go_wp2_with fail
 refine bodyPost_end (v:=.tuple #[]) (by simp[results,Tryz.results43,go_sem]) rfl ⟨rfl,d3,f1,f2,f3⟩
end
end
end Go.Proofs.YtiopheoljccmpaaGreatDoor
