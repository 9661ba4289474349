/- The texts Bld1 Named Chk Stab Stab2 Stab3 Stab4 Stab5 Stab6, one behind the other. -/
import Derived.Test.YtheiocndipepaaaGreatDoorKq3
import Derived.Test.YtheiocndipepaaaGreatDoorKq2
import Derived.Shelf.SlSortCmp.Kit1
import Derived.Test.YtheiocndipepaaaGreatDoorShelf
import Derived.Sort.WalkA
import Derived.Deep.LoopGhost
open Go.Lib renaming hid → Aa,toList_data → Ag,idxFunc → Ah
open Go.IntKind renaming signed → Ab,wrap → Ac,bits → Ad
open Nat renaming le_refl → Ae,zero_add → Af,zero_le → Ai
set_option maxHeartbeats 16000000
namespace Go.Proofs.YtheiocndipepaaaGreatDoor
set_option maxRecDepth 100000
section
open Go Go.Shelf Go.RowKit Go.Lib
theorem eI0 (x y:ByteArray):(x.toList==y.toList)=decide (x=y):=by
 by_cases h:x=y
 ·subst h;simp
 ·rw[decide_eq_false h]
  simpa using λe=>h (dV e)
theorem hS1 (x:En) (w:World):Calls Tryz.prog 37 #[x.agg] w λe w'=>e=.returned (.string x.r)/\Grows w w':=by
 obtain⟨xr,xs,xl,xt,xc⟩:=x;unfold En.agg;go_enter Tryz.func37,Tryz.ntmps37
 go_wp2
 go_ret;exact⟨rfl,Grows.alloc _ _⟩
theorem nS1:∀args w,(callFunc 37 args).run Tryz.prog w=.ok (.enter 37 args) w:=enters_of Tryz.func37 (by kernel_rfl) rfl
theorem gR1 (x:En) (w:World):Calls Tryz.prog 38 #[x.agg] w λe w'=>e=.returned (.string x.s)/\Grows w w':=by
 obtain⟨xr,xs,xl,xt,xc⟩:=x;unfold En.agg;go_enter Tryz.func38,Tryz.ntmps38
 go_wp2
 go_ret;exact⟨rfl,Grows.alloc _ _⟩
theorem oE1:∀args w,(callFunc 38 args).run Tryz.prog w=.ok (.enter 38 args) w:=enters_of Tryz.func38 (by kernel_rfl) rfl
theorem kC1 (x:En) (w:World):Calls Tryz.prog 53 #[x.agg] w λe w'=>e=.returned (.int .i64 x.l)/\Grows w w':=by
 obtain⟨xr,xs,xl,xt,xc⟩:=x;unfold En.agg;go_enter Tryz.func53,Tryz.ntmps53
 go_wp2
 go_ret;exact⟨rfl,Grows.alloc _ _⟩
theorem mP1:∀args w,(callFunc 53 args).run Tryz.prog w=.ok (.enter 53 args) w:=enters_of Tryz.func53 (by kernel_rfl) rfl
theorem iY1 (x:En) (w:World):Calls Tryz.prog 54 #[x.agg] w λe w'=>e=.returned (.int .i64 x.t)/\Grows w w':=by
 obtain⟨xr,xs,xl,xt,xc⟩:=x;unfold En.agg;go_enter Tryz.func54,Tryz.ntmps54
 go_wp2
 go_ret;exact⟨rfl,Grows.alloc _ _⟩
theorem lK1:∀args w,(callFunc 54 args).run Tryz.prog w=.ok (.enter 54 args) w:=enters_of Tryz.func54 (by kernel_rfl) rfl
theorem yI0 (x:En) (w:World):Calls Tryz.prog 55 #[x.agg] w λe w'=>e=.returned (.int .i64 x.c)/\Grows w w':=by
 obtain⟨xr,xs,xl,xt,xc⟩:=x;unfold En.agg;go_enter Tryz.func55,Tryz.ntmps55
 go_wp2
 go_ret;exact⟨rfl,Grows.alloc _ _⟩
theorem iC1:∀args w,(callFunc 55 args).run Tryz.prog w=.ok (.enter 55 args) w:=enters_of Tryz.func55 (by kernel_rfl) rfl
theorem kB1 (x y:En) (w:World):Calls Tryz.prog 43 #[x.agg,y.agg] w λe w'=>e=.returned (.bool (!decide (x.r=y.r)))/\Grows w w':=by
 obtain⟨xr,xs,xl,xt,xc⟩:=x;obtain⟨yr,ys,yl,yt,yc⟩:=y;unfold En.agg;go_enter Tryz.func43,Tryz.ntmps43
 go_wp2
 go_ret;exact⟨by rw[<-eI0];rfl,(Grows.alloc _ _).al _⟩
theorem lI1:∀args w,(callFunc 43 args).run Tryz.prog w=.ok (.enter 43 args) w:=enters_of Tryz.func43 (by kernel_rfl) rfl
theorem kK1 (x y:En) (w:World):Calls Tryz.prog 46 #[x.agg,y.agg] w λe w'=>e=.returned (.bool (!decide (x.s=y.s)))/\Grows w w':=by
 obtain⟨xr,xs,xl,xt,xc⟩:=x;obtain⟨yr,ys,yl,yt,yc⟩:=y;unfold En.agg;go_enter Tryz.func46,Tryz.ntmps46
 go_wp2
 go_ret;exact⟨by rw[<-eI0];rfl,(Grows.alloc _ _).al _⟩
theorem lY1:∀args w,(callFunc 46 args).run Tryz.prog w=.ok (.enter 46 args) w:=enters_of Tryz.func46 (by kernel_rfl) rfl
end
section
open Go Go.RowKit Go.Shelf
attribute [local go_sem] aM
def nameBad (c:Nat):Bool:=(decide (c<65)||decide (90<c))&&(decide (c<97)||decide (122<c))&&(decide (c<48)||decide (57<c)) && !(c==95) && !(c==45)
theorem vM0 (w:World):PredAt Tryz.prog 191 #[] encR nameBad w:=λW x _=>by
 unfold FnGives;show Calls Tryz.prog 191 #[.int .i32 (x:Int)] W _
 go_enter Tryz.func191,Tryz.ntmps191
 go_wp2
 all_goals (go_ret;refine⟨bD ?_,0,rfl⟩;rw[Bool.eq_iff_iff];simp[nameBad];try omega)
def rY (s:ByteArray):Bool := !s.toList.isEmpty&&decide (s.size<=16) && !decide (0<=Ah nameBad true s)
theorem cR1 (s:ByteArray) (w:World) :
  Calls Tryz.prog 135 #[.string s] w λe w'=>e=.returned (.bool (rY s))/\Grows w w':=by
 have il:=Aa (Tryz.strings_ContainsFunc 191 #[] (enters_of Tryz.func191 (by kernel_rfl) rfl) nameBad s w (vM0 w));unfold rY;generalize decide (0<=Ah nameBad true s)=r at il ⊢;cases he:s.toList.isEmpty
 ·have h1:(!s.toList.isEmpty)=true:=by rw[he];rfl
  by_cases hz:s.size<=16
  ·have hz':(s.size:Int)<=16:=by omega
   go_enter Tryz.func135,Tryz.ntmps135
   go_wp2_with (go_at_call 190;refine il.out.mono ?_;rintro e w' ⟨rfl,af⟩)
   go_ret;exact⟨bD (by simp[hz]),af⟩
  ·go_enter Tryz.func135,Tryz.ntmps135
   go_wp2
   go_ret;exact⟨rfl,Grows.refl _⟩
 ·go_enter Tryz.func135,Tryz.ntmps135
  go_wp2
  go_ret;exact⟨rfl,Grows.refl _⟩
def tX (L:List cH) (i:Nat) (p:cH):Bool:=yP0 (posFind L p.name)==(i:Int)&&rY p.name&&decide (0<=p.kind)&&decide (p.kind<=2)
def jS (L:List cH):List cH->Nat->Bool
 | [],_=>true
 | p::r,i=>tX L i p&&jS L r (i+1)
def bL0 (p:cH):Bool:=seq p.name bos&&p.kind==0
def dF (l:List cH):Bool:=match l with
 | []=>false
 | p::_=>decide (l.length<=64)&&bL0 p&&jS l l 0
def qH1 (b:Bool):Int:=if b then 0 else 5
theorem sV (L:List cH):∀(l:List cH) (i k:Nat),(∀j p,j<k->l[j]?=some p->tX L (i+j) p=true)->jS L l i=jS L (l.drop k) (i+k)
 | [],i,k,_=>by simp[jS]
 | p::l,i,0,_=>by simp
 | p::l,i,k+1,h=>by
  have h0:tX L i p=true:=by simpa using h 0 p (by omega) rfl
  rw[jS,h0,Bool.true_and,List.drop_succ_cons,sV L l (i+1) k λj q hj hq=>by
   have:=h (j+1) q (by omega) (by simpa using hq)
   rwa [show i+(j+1)=i+1+j by omega]at this]
  congr 1;omega
theorem iI {L:List cH} {k:Nat} {p:cH} (hk:L[k]?=some p) (h:∀j q,j<k->L[j]?=some q->tX L j q=true) (hp:tX L k p=false):jS L L 0=false:=by
 have ae:k<L.length:=(List.getElem?_eq_some_iff.1 hk).1;have hp':L[k]=p:=(List.getElem?_eq_some_iff.1 hk).2;rw[sV L L 0 k (λj q hj hq=>by simpa using h j q hj hq),List.drop_eq_getElem_cons ae,jS,hp',Af,hp,Bool.false_and]
theorem fO0 {L:List cH} (h:∀j q,j<L.length->L[j]?=some q->tX L j q=true):jS L L 0=true:=by
 rw[sV L L 0 L.length (λj q hj hq=>by simpa using h j q hj hq)];simp[jS]
theorem cD0 (l:List cH) (a:Option Addr) (cap:Nat) (w:World) (hs:aF w a 2 (l.map bG)) (hl:l.length<=4611686018427387904) :
  Calls Tryz.prog 81 #[.slice a l.length cap] w λe w'=>e=.returned (.int .i64 (qH1 (dF l)))/\Grows w w':=by
 have HS:=Aa hs;clear hs
 cases l with
 | nil =>
  go_enter Tryz.func81,Tryz.ntmps81
  go_wp2
  go_ret;exact⟨rfl,Grows.refl _⟩
 | cons p0 r =>
  obtain⟨L,hL⟩:=exq (p0::r);have ai:L≠[]:=by rw[hL];simp
  have h0:L[0]?=some p0:=by rw[hL];rfl
  have hv:dF L=(decide (L.length<=64)&&bL0 p0&&jS L L 0):=by rw[hL];rfl
  rw[<-hL]at HS hl ⊢;clear hL;obtain⟨b,off,rfl,bv⟩:=HS.out.get ai;have c0:w.cell? ⟨b,off,none⟩=some (.string p0.name):=by simpa using bv 0 p0 h0 0 _ rfl
  have c1:w.cell? ⟨b,off+1,none⟩=some (.int .i64 p0.kind):=by simpa using bv 0 p0 h0 1 _ rfl
  have HC:=Aa bv;have dm:0<L.length:=by cases L with|nil=>exact absurd rfl ai|cons _ _=>simp
  have HV:=Aa hv;clear bv ai h0 hv;have hz:((L.length:Int)==0)=false:=by rw[beq_eq_false_iff_ne];omega
  have hz':¬L=[]:=by rintro rfl;simp at dm
  by_cases ww:L.length<=64
  ·have ac7:(L.length:Int)<=64:=by omega
   by_cases hn:p0.name.toList=[66,79,83]
   ·by_cases j8:p0.kind=0
    ·have yo:bL0 p0=true:=by simp[bL0,seq,hn,j8,bos,Ag]
     have ii:dF L=jS L L 0:=by rw[HV.out,yo];simp[ww]
     have HV2:=Aa ii
     have HC2:Hid (∀W,Grows w W->∀k p,L[k]?=some p->W.cell? ⟨b,off+k*2,none⟩=some (.string p.name)/\W.cell? ⟨b,off+k*2+1,none⟩=some (.int .i64 p.kind)) :=
      λW hW k p hp=>⟨hW.cell (HC.out k p hp 0 _ rfl),hW.cell (HC.out k p hp 1 _ rfl)⟩
     rw[ii];clear yo ii HV HC;go_enter Tryz.func81,Tryz.ntmps81
     go_wp2_with fail
     clear c0 c1 hn j8;go_loopw [24] (λi wr=>∃k:Nat,k<=L.length/\i=.int .i64 k/\Hid (∀j q,j<k->L[j]?=some q->tX L j q=true)/\Grows w wr) (λi _=>L.length-(intOf i).toNat)
     case atStart=>exact⟨0,Ai _,rfl,λj q hj=>by omega,Grows.refl _⟩
     case round =>
      obtain⟨k,hk,rfl,hz,hg⟩:=hrel;by_cases ae:k<L.length
      ·obtain⟨p,hp⟩:∃p,L[k]?=some p:=⟨_,List.getElem?_eq_getElem ae⟩
       obtain⟨d0,d1⟩:=HC2.out wr hg k p hp;have HP:=Aa hp;clear hp;go_wp2_with fail
       refine(pP0 L p.name (some ⟨b,off,none⟩) cap _ hl (HS.out.grows (hg.al _))).mono ?_;rintro e w1 ⟨rfl,ag⟩;have b0:w1.cell? ⟨wr.heap.size,0,none⟩=some (.string p.name):=ag.cell (aT _ _ _ _ 0 _ rfl);have b1:w1.cell? ⟨wr.heap.size,1,none⟩=some (.int .i64 p.kind):=ag.cell (aT _ _ _ _ 1 _ rfl);have dg:Grows w w1:=(hg.al _).tr ag;obtain⟨f,hf⟩:=exq (yP0 (posFind L p.name));obtain⟨nm,qd⟩:=exq (rY p.name);have il:=cR1 p.name w1;have ah:tX L k p=(f==(k:Int)&&nm&&decide (0<=p.kind)&&decide (p.kind<=2)):=by rw[hf,qd];rfl
       rw[<-hf];rw[<-qd]at il;have HCON:=Aa il;have HOK:=Aa ah;clear hf qd il ah d0 d1;cases pj:(f==(k:Int))
       ·have h1:(f != (k:Int))=true:=by rw[bne,pj];rfl
        have au:=Aa (iI HP.out hz.out (by rw[HOK.out,pj];rfl));clear pj;go_wp2
        go_ret;exact⟨by rw[au.out];rfl,dg⟩
       ·have h1:(f != (k:Int))=false:=by rw[bne,pj];rfl
        cases nm
        ·have au:=Aa (iI HP.out hz.out (by rw[HOK.out];simp))
         clear pj;go_wp2_with (go_at_call 135;refine HCON.out.mono ?_;rintro e w2 ⟨rfl,af⟩)
         go_ret;exact⟨by rw[au.out];rfl,dg.tr af⟩
        ·by_cases j8:p.kind<0
         ·have au:=Aa (iI HP.out hz.out (by rw[HOK.out];simp;omega))
          clear pj;go_wp2_with (go_at_call 135;refine HCON.out.mono ?_;rintro e w2 ⟨rfl,af⟩;have b0':=af.cell b0;have b1':=af.cell b1)
          go_ret;exact⟨by rw[au.out];rfl,dg.tr af⟩
         ·by_cases fj:2<p.kind
          ·have au:=Aa (iI HP.out hz.out (by rw[HOK.out];simp;omega))
           clear pj;go_wp2_with (go_at_call 135;refine HCON.out.mono ?_;rintro e w2 ⟨rfl,af⟩;have b0':=af.cell b0;have b1':=af.cell b1)
           go_ret;exact⟨by rw[au.out];rfl,dg.tr af⟩
          ·have ah:tX L k p=true:=by rw[HOK.out,pj];simp;omega
           have HOK2:=Aa ah;clear pj ah;go_wp2_with (go_at_call 135;refine HCON.out.mono ?_;rintro e w2 ⟨rfl,af⟩;have b0':=af.cell b0;have b1':=af.cell b1)
           go_roundw
           case rel=>exact⟨k+1,by omega,by go_num,λj q hj hq=>by
            rcases Nat.lt_succ_iff_lt_or_eq.1 hj with h|rfl
            ·exact hz.out j q h hq
            ·rw[HP.out]at hq;obtain rfl:=Option.some.inj hq;exact HOK2.out,dg.tr af⟩
           case measure=>simp[intOf];omega
      ·obtain rfl:k=L.length:=by omega
       have au:=Aa (fO0 hz.out);go_wp2
       go_ret;exact⟨by rw[au.out];rfl,hg⟩
    ·have au:dF L=false:=by rw[HV.out];simp[bL0,j8]
     have HF:=Aa au;clear au HV;go_enter Tryz.func81,Tryz.ntmps81
     go_wp2
     go_ret;exact⟨by rw[HF.out];rfl,Grows.refl _⟩
   ·have au:dF L=false:=by rw[HV.out];simp[bL0,seq,bos,Ag];intro _ h;exact absurd (by rw[Ag];exact h) hn
    have HF:=Aa au;clear au HV;go_enter Tryz.func81,Tryz.ntmps81
    go_wp2
    go_ret;exact⟨by rw[HF.out];rfl,Grows.refl _⟩
  ·have ac7:(64:Int)<L.length:=by omega
   have au:dF L=false:=by rw[HV.out];simp[ww]
   have HF:=Aa au;clear au HV;go_enter Tryz.func81,Tryz.ntmps81
   go_wp2
   go_ret;exact⟨by rw[HF.out];rfl,Grows.refl _⟩
end
section
open Go Go.Shelf Go.RowKit Go.Lib Go.Sort
abbrev nv (n:Nat):Value := .int .i64 n
def Fd (d:Array Nat) (i:Nat):Nat:=d[i]!
theorem rA0 {d:Array Nat} {i j:Nat} (hi:i<d.size) (hj:j<d.size):Fd (swp d i j)=yC0 (yC0 (Fd d) i (Fd d j)) j (Fd d i):=by
 funext x
 unfold Fd yC0;by_cases h1:x=j
 ·subst h1;rw[if_pos rfl,swp_right _ _ _ hj]
 ·rw[if_neg h1]
  by_cases h2:x=i
  ·subst h2;rw[if_pos rfl,swp_left _ _ _ hi h1]
  ·rw[if_neg h2,swp_other _ _ _ _ h2 h1]
theorem fC0:Tryz.prog.follows .mixedOrders=true:=by kernel_rfl
structure gH (k:Nat->Nat) (n blk g:Nat) (cb:Array Value) (d0:Array Nat) (w0:World):Prop where
 row:Row1 nv w0 blk 0 d0
 size:d0.size=n
 small:n<=1048576
 eg:∀args w,(callFunc g args).run Tryz.prog w=.ok (.enter g args) w
 cmp:∀(m:Nat) (os:Array Obj) (dk:Array Nat),dk.size=n->∀x y,x<n->y<n ->
  Calls Tryz.prog g (#[.int .i64 x,.int .i64 y]++cb) (sortWorld nv w0 blk 0 m dk os) λe w'=>e=.returned (.int .i64 ((k x:Int)-k y))/\∃q os',w'=grow ((sortWorld nv w0 blk 0 m dk os).drewN q) os'
abbrev SWn (w0:World) (blk:Nat) (dk:Array Nat) (w:World):Prop:=SW nv w0 blk 0 dk w
section
variable {k:Nat->Nat} {n blk g:Nat} {cb:Array Value} {d0:Array Nat} {w0:World}
theorem gH.cellG (H:gH k n blk g cb d0 w0) {dk:Array Nat} {w:World} (hs:dk.size=n) (S:SWn w0 blk dk w) {p:Nat} (hp:p<n):∀(m:Nat) (os:Array Obj),(grow (w.drewN m) os).cell? ⟨blk,p,none⟩=some (.int .i64 (dk[p]! : Nat)):=λm os=>by
 have h:=S.cl H.row (hs.trans H.size.symm) p (by omega) m os;rwa [Af]at h
theorem gH.cell (H:gH k n blk g cb d0 w0) {dk:Array Nat} {w:World} (hs:dk.size=n) (S:SWn w0 blk dk w) {p:Nat} (hp:p<n):w.cell? ⟨blk,p,none⟩=some (.int .i64 (dk[p]! : Nat)):=by
 have h:=S.c1 H.row (hs.trans H.size.symm) p (by omega);rwa [Af]at h
theorem gH.froz (H:gH k n blk g cb d0 w0) {dk:Array Nat} {w:World} (hs:dk.size=n) (S:SWn w0 blk dk w) {p:Nat} (hp:p<n):w.frozen? ⟨blk,p,none⟩=false:=by
 have h:=S.f1 H.row (hs.trans H.size.symm) p (by omega);rwa [Af]at h
theorem gH.second (H:gH k n blk g cb d0 w0) {dk:Array Nat} {w:World} (hs:dk.size=n) (S:SWn w0 blk dk w) {p q:Nat} (hp:p<n) (hq:q<n) (v:Value):∃u,(w.setCell ⟨blk,p,none⟩ v).cell? ⟨blk,q,none⟩=some u:=by
 have h:=S.c2 H.row (hs.trans H.size.symm) p q (by omega) (by omega) v;rwa [Af,Af]at h
theorem gH.swapped (H:gH k n blk g cb d0 w0) {dk:Array Nat} {w:World} (hs:dk.size=n) (S:SWn w0 blk dk w) {p q:Nat} (hp:p<n) (hq:q<n) :
  SWn w0 blk (swp dk p q) ((w.setCell ⟨blk,p,none⟩ (.int .i64 (dk[q]! : Nat))).setCell ⟨blk,q,none⟩ (.int .i64 (dk[p]! : Nat))).drew:=by
 have h:=S.swapped H.row p q (by omega) (by omega);rwa [Af,Af]at h
theorem gH.calls (H:gH k n blk g cb d0 w0) {dk:Array Nat} {w:World} (hs:dk.size=n) (S:SWn w0 blk dk w) {x y:Nat} (hx:x<n) (hy:y<n) (m:Nat) (os:Array Obj) :
  Calls Tryz.prog g (#[.int .i64 x,.int .i64 y]++cb) (grow (w.drewN m) os) λe w'=>e=.returned (.int .i64 ((k x:Int)-k y))/\∃q os',w'=grow ((grow (w.drewN m) os).drewN q) os':=by
 obtain⟨m',os0,hw⟩:=S.grown m os;rw[hw];exact H.cmp m' os0 dk hs x y hx hy
theorem iB0 (H:gH k n blk g cb d0 w0) (a b m c:Nat) (fv:Value) (dk:Array Nat) (w:World) (hs:dk.size=n) (h1:a+m<=b) (h2:b+m<=n) (S:SWn w0 blk dk w) :
  Calls Tryz.prog 229 #[.slice (some ⟨blk,0,none⟩) n c,.int .i64 a,.int .i64 b,.int .i64 m,fv] w λe w'=>e=.returned (.tuple #[])/\∃m5,m5.size=n/\Fd m5=nO0 (Fd dk) a b m/\SWn w0 blk m5 w':=by
 have hn:=H.small;have mixed:=fC0;have HH:=Aa H;have S0:=Aa S;clear H S;go_enter Tryz.func229,Tryz.ntmps229
 go_wp2_with fail
 go_loopw [10] (λi wr=>∃(I:Nat) (dj:Array Nat),i=.int .i64 I/\I<=m/\Hid (dj.size=n/\Fd dj=nO0 (Fd dk) a b I/\SWn w0 blk dj wr)) (λi _=>m-(intOf i).toNat)
 case atStart=>exact⟨0,dk,by go_num,Ai _,hs,(bQ1 _ _ _).symm,S0.out⟩
 case round =>
  obtain⟨I,dj,rfl,hI,SJ⟩:=hrel;by_cases ae:I<m
  ·obtain⟨e1,e2,S1⟩:=SJ.out
   obtain⟨p,hp⟩:=exq (a+I);obtain⟨q,hq⟩:=exq (b+I);have ft:p<n:=by omega
   have qe:q<n:=by omega
   obtain⟨x,hx⟩:=exq (dj[p]!);obtain⟨y,hy⟩:=exq (dj[q]!);have ca:=HH.out.cell e1 S1 ft;have yq:=HH.out.cell e1 S1 qe;have fa:=HH.out.froz e1 S1 ft;have fb:=HH.out.froz e1 S1 qe;obtain⟨u,cc⟩:=HH.out.second e1 S1 ft qe (.int .i64 y);have S3:=HH.out.swapped e1 S1 ft qe;rw[<-hx]at ca S3;rw[<-hy]at yq S3;have S3:=Aa S3;have E3:Hid ((swp dj p q).size=n/\Fd (swp dj p q)=nO0 (Fd dk) a b (I+1)):=⟨by rw[size_swp];exact e1,by rw[rA0 (by omega) (by omega),e2,hp,hq,zB0 (by omega)]⟩;have hIi:(I:Int)<m:=by omega
   have wp:IntKind.i64.wrap ((a:Int)+I)=p:=by simp[Ac,Ad,Ab];omega
   have wq:IntKind.i64.wrap ((b:Int)+I)=q:=by simp[Ac,Ad,Ab];omega
   have bp:(p:Int)<n:=by omega
   have bq:(q:Int)<n:=by omega
   clear SJ e1 e2 S1 hx hy hp hq;go_wp2_with fail
   go_big_region_o
   clear ca yq fa fb cc;generalize ((wr.setCell ⟨blk,p,none⟩ (.int .i64 y)).setCell ⟨blk,q,none⟩ (.int .i64 x)).drew=w3 at S3 ⊢;go_wp2_with fail
   go_roundw
   case rel=>exact⟨I+1,swp dj p q,by go_num,ae,E3.out.1,E3.out.2,S3.out⟩
   case measure=>simp[intOf];omega
  ·have hIi:¬(I:Int)<m:=by omega
   obtain rfl:I=m:=by omega
   go_wp2_with fail
   refine bodyPost_end (v:=.tuple #[]) (by simp[results,Tryz.results229,go_sem]) rfl ⟨rfl,dj,SJ.out⟩
end
end
section
open Go Go.Shelf Go.RowKit Go.Lib Go.Sort
section
variable {k:Nat->Nat} {n blk g:Nat} {cb:Array Value} {d0:Array Nat} {w0:World}
theorem aJ1 (H:gH k n blk g cb d0 w0) (a m b c:Nat) (fv:Value) (dk:Array Nat) (w:World) (hs:dk.size=n) (h1:a<m) (h2:m<b) (h3:b<=n) (S:SWn w0 blk dk w) :
  Calls Tryz.prog 205 #[.slice (some ⟨blk,0,none⟩) n c,.int .i64 a,.int .i64 m,.int .i64 b,fv] w λe w'=>e=.returned (.tuple #[])/\∃m5,m5.size=n/\Fd m5=gB (Fd dk) a m b/\SWn w0 blk m5 w':=by
 have hn:=H.small;have HH:=Aa H;have S0:=Aa S;obtain⟨i0,hi0⟩:=exq (m-a);obtain⟨j0,re⟩:=exq (b-m);have wi0:IntKind.i64.wrap ((m:Int)-a)=i0:=by simp[Ac,Ad,Ab];omega
 have wj0:IntKind.i64.wrap ((b:Int)-m)=j0:=by simp[Ac,Ad,Ab];omega
 have jz:Hid (0<i0/\0<j0/\i0<=m/\m+j0<=n/\gB (Fd dk) (m-i0) m (m+j0)=gB (Fd dk) a m b):=by
  refine⟨by omega,by omega,by omega,by omega,?_⟩;rw[show m-i0=a by omega,show m+j0=b by omega]
 clear H S hi0 re;go_enter Tryz.func205,Tryz.ntmps205
 go_wp2_with fail
 go_loopw [10,11] (λi j wr=>∃(I J:Nat) (dj:Array Nat),i=.int .i64 I/\j=.int .i64 J/\0<I/\0<J/\I<=m/\m+J<=n/\Hid (dj.size=n/\gB (Fd dj) (m-I) m (m+J)=gB (Fd dk) a m b/\SWn w0 blk dj wr)) (λi j _=>(intOf i).toNat+(intOf j).toNat)
 case atStart=>exact⟨i0,j0,dk,by go_num,by go_num,jz.out.1,jz.out.2.1,jz.out.2.2.1,jz.out.2.2.2.1,hs,jz.out.2.2.2.2,S0.out⟩
 case round =>
  clear wi0 wj0 jz S0;obtain⟨I,J,dj,rfl,rfl,hI,hJ,hIm,hJn,SJ⟩:=hrel;obtain⟨p,hp⟩:=exq (m-I);have wmi:IntKind.i64.wrap ((m:Int)-I)=p:=by simp[Ac,Ad,Ab];omega
  rcases Nat.lt_trichotomy I J with ae|wl|hgt
  ·have c1:¬(I:Int)=J:=by omega
   have c2:¬(J:Int)<I:=by omega
   obtain⟨s,ei⟩:=exq (m+J);obtain⟨q,hq⟩:=exq (s-I);obtain⟨J',hJ'⟩:=exq (J-I);have wmj:IntKind.i64.wrap ((m:Int)+J)=s:=by simp[Ac,Ad,Ab];omega
   have ajz:IntKind.i64.wrap ((s:Int)-I)=q:=by simp[Ac,Ad,Ab];omega
   have wji:IntKind.i64.wrap ((J:Int)-I)=J':=by simp[Ac,Ad,Ab];omega
   have CS:=Aa (iB0 HH.out p q I c fv dj wr SJ.out.1 (by omega) (by omega) SJ.out.2.2);have HP:=Aa hp;have HQ:Hid (q=m+J-I):=by show _=_;omega
   have HJ':=Aa hJ';clear hp ei hq hJ';go_wp2_with fail
   refine CS.out.mono ?_;rintro e w3 ⟨rfl,d2,f1,f2,S3⟩
   have E3:Hid (gB (Fd d2) (m-I) m (m+(J-I))=gB (Fd dk) a m b):=by
    show _=_;rw[f2,HP.out,HQ.out,cN1 hIm ae];exact SJ.out.2.1
   have S3:=Aa S3;have F1:=Aa f1;clear CS f1 f2 SJ;go_wp2_with fail
   go_roundw
   case rel=>exact⟨I,J',d2,by go_num,by go_num,hI,by have:=HJ'.out;omega,hIm,by have:=HJ'.out;omega,F1.out,by rw[HJ'.out];exact E3.out,S3.out⟩
   case measure=>have:=HJ'.out;simp[intOf];omega
  ·subst wl
   have CS:=Aa (iB0 HH.out p m I c fv dj wr SJ.out.1 (by omega) (by omega) SJ.out.2.2);have HP:=Aa hp;clear hp;go_wp2_with fail
   refine CS.out.mono ?_;rintro e w3 ⟨rfl,d2,f1,f2,S3⟩;go_wp2_with fail
   refine bodyPost_end (v:=.tuple #[]) (by simp[results,Tryz.results205,go_sem]) rfl ⟨rfl,d2,f1,?_,S3⟩
   rw[f2,HP.out,iN1 hIm,SJ.out.2.1]
  ·have c1:¬(I:Int)=J:=by omega
   have c2:(J:Int)<I:=by omega
   obtain⟨I',hI'⟩:=exq (I-J);have wij:IntKind.i64.wrap ((I:Int)-J)=I':=by simp[Ac,Ad,Ab];omega
   have CS:=Aa (iB0 HH.out p m J c fv dj wr SJ.out.1 (by omega) (by omega) SJ.out.2.2);have HP:=Aa hp;have HI':=Aa hI';clear hp hI';go_wp2_with fail
   refine CS.out.mono ?_;rintro e w3 ⟨rfl,d2,f1,f2,S3⟩
   have E3:Hid (gB (Fd d2) (m-(I-J)) m (m+J)=gB (Fd dk) a m b):=by
    show _=_;rw[f2,HP.out,nJ1 hIm hgt];exact SJ.out.2.1
   have S3:=Aa S3;have F1:=Aa f1;clear CS f1 f2 SJ;go_wp2_with fail
   go_roundw
   case rel=>exact⟨I',J,d2,by go_num,by go_num,by have:=HI'.out;omega,hJ,by have:=HI'.out;omega,hJn,F1.out,by rw[HI'.out];exact E3.out,S3.out⟩
   case measure=>have:=HI'.out;simp[intOf];omega
end
end
section
open Go Go.Shelf Go.RowKit Go.Lib Go.Sort
theorem fB.bnd {D D':Nat->Nat} {a b n:Nat} (h:fB D D' a b) (hb:b<=n) (hD:∀i,i<n->D i<n):∀i,i<n->D' i<n:=λi hi=>by
 by_cases hw:a<=i/\i<b
 ·obtain⟨j,_,j2,e⟩:=h.fro i hw.1 hw.2
  rw[e];exact hD j (by omega)
 ·rw[h.out i (by omega)];exact hD i hi
section
variable {k:Nat->Nat} {n blk g:Nat} {cb:Array Value} {d0:Array Nat} {w0:World}
theorem yW0 (H:gH k n blk g cb d0 w0) (a b c:Nat) (dk:Array Nat) (w:World) (hs:dk.size=n) (hb:b<=n) (ha:a<=n) (pm:∀i,i<n->Fd dk i<n) (hid:∀i,a<=i->i<b->Fd dk i=i) (S:SWn w0 blk dk w) :
  Calls Tryz.prog 149 #[.slice (some ⟨blk,0,none⟩) n c,.int .i64 a,.int .i64 b,.func (.func g) #[] cb] w λe w'=>e=.returned (.tuple #[])/\∃m5,m5.size=n/\fB (Fd dk) (Fd m5) a b/\Srt k (Fd m5) a b/\SWn w0 blk m5 w':=by
 have hn:=H.small;have mixed:=fC0;have eg:=H.eg;have HH:=Aa H;have S0:=Aa S;have HID:=Aa hid;have HBD:=Aa pm;have wa1:IntKind.i64.wrap ((a:Int)+1)=(a+1:Nat):=by simp[Ac,Ad,Ab];omega
 clear H S hid pm;go_enter Tryz.func149,Tryz.ntmps149
 go_wp2_with fail
 go_loopw [8] (λi wr=>∃(I:Nat) (dj:Array Nat),i=.int .i64 I/\a<I/\Hid (dj.size=n/\(a<b->I<=b/\fB (Fd dk) (Fd dj) a I/\Srt k (Fd dj) a I)/\(¬a<b->dj=dk)/\SWn w0 blk dj wr)) (λi _=>b-(intOf i).toNat)
 case atStart=>exact⟨a+1,dk,by go_num,by omega,hs,λh=>⟨h,fB.refl _ _ _,λi j i1 i2 i3=>by omega⟩,λ_=>rfl,S0.out⟩
 case round =>
  clear S0 wa1;obtain⟨I,dj,rfl,xa,SJ⟩:=hrel;by_cases ae:I<b
  ·have hIi:(I:Int)<b:=by omega
   obtain⟨e1,e2,_,S1⟩:=SJ.out;obtain⟨_,e3,e4⟩:=e2 (by omega);have E3:=Aa e3;have E4:=Aa e4;have HX:Hid (Fd dj I=I):=by show _=_;rw[e3.out I (Or.inr (Ae _))];exact HID.out I (by omega) ae
   have HL:Hid (∀j,a<=j->j<I->Fd dj j<I):=λj j1 j2=>by
    obtain⟨j',p1,p2,p3⟩:=E3.out.fro j j1 j2;rw[p3,HID.out j' p1 (by omega)];exact p2
   have S1:=Aa S1;have wI1:IntKind.i64.wrap ((I:Int)+1)=(I+1:Nat):=by simp[Ac,Ad,Ab];omega
   clear SJ e2 e3 e4;go_wp2_with fail
   go_loopw [9] (λj wq=>∃(J:Nat) (dq:Array Nat),j=.int .i64 J/\a<=J/\J<=I/\Hid (dq.size=n/\Fd dq=gB (Fd dj) J I (I+1)/\(∀c,J<=c->c<I->ltK k (Fd dj I) (Fd dj c))/\SWn w0 blk dq wq)) (λj _=>(intOf j).toNat)
   case atStart=>exact⟨I,dj,rfl,by omega,Ae _,e1,(by rw[show gB (Fd dj) I I (I+1)=Fd dj from dK0 (by omega)]),λc c1 c2=>by omega,S1.out⟩
   case round =>
    clear S1;obtain⟨J,dq,rfl,haJ,hJI,SQ⟩:=hrel;by_cases hja:a<J
    ·have ahw:(a:Int)<J:=by omega
     obtain⟨q1,q2,q3,SW1⟩:=SQ.out;obtain⟨p,hp⟩:=exq (J-1);have ft:p<n:=by omega
     have hJn:J<n:=by omega
     have hpi:(p:Int)<n:=by omega
     have hJi:(J:Int)<n:=by omega
     have wp:IntKind.i64.wrap ((J:Int)-1)=p:=by simp[Ac,Ad,Ab];omega
     obtain⟨x,hx⟩:=exq (dq[J]!);obtain⟨y,hy⟩:=exq (dq[p]!)
     have ex:x=Fd dj I:=by
      rw[hx];show Fd dq J=_;rw[q2,pD1 (Ae _) (by omega)];congr 1;omega
     have ey:y=Fd dj p:=by
      rw[hy];show Fd dq p=_;rw[q2,dL1 (by omega)]
     have hyx:y<x:=by rw[ex,ey,HX.out];exact HL.out p (by omega) (by omega)
     have hxn:x<n:=by rw[ex,HX.out];omega
     have la:=HH.out.cellG q1 SW1 hJn;have lb:=HH.out.cellG q1 SW1 ft;rw[<-hx]at la;rw[<-hy]at lb;have hc:=HH.out.calls q1 SW1 hxn (show y<n by omega)
     obtain⟨C,hC⟩:∃C:Int,C=(k x:Int)-k y:=⟨_,rfl⟩;rw[<-hC]at hc;by_cases bz:k x<k y
     ·have hv:C<0:=by omega
      have hd:decide (C<0)=true:=decide_eq_true hv;have LT:Hid (ltK k (Fd dj I) (Fd dj p)):=by show ltK _ _ _;rw[<-ex,<-ey];exact(mT hyx).2 bz
      have HXY:Hid (x=dq[J]!/\y=dq[p]!):=⟨hx,hy⟩;have SS:=Aa SW1;have HPJ:=Aa hp;clear hx hy ex ey hC bz q2 q3 hp SW1 hyx;go_wp2_with fail
      go_quiet_grown (first|(go_at_fn g;refine Calls.grown_of (hc _ _)))
      have S2:Hid (SWn w0 blk dq (grow (wr.drewN nq) osq)):=SS.out.grown nq osq;clear la lb hc SS;generalize grow (wr.drewN nq) osq=w2 at S2 ⊢;clear nq osq;go_wp2_with fail
      have ca:=HH.out.cell q1 S2.out hJn;have yq:=HH.out.cell q1 S2.out ft;have fa:=HH.out.froz q1 S2.out hJn;have fb:=HH.out.froz q1 S2.out ft;obtain⟨u,cc⟩:=HH.out.second q1 S2.out hJn ft (.int .i64 y);have S3:=HH.out.swapped q1 S2.out hJn ft;rw[<-HXY.out.1]at ca S3;rw[<-HXY.out.2]at yq S3;replace S3:=Aa S3
      have E5:Hid ((swp dq J p).size=n/\Fd (swp dq J p)=gB (Fd dj) p I (I+1)/\(∀c,p<=c->c<I->ltK k (Fd dj I) (Fd dj c))):=by
       obtain⟨_,q2,q3,_⟩:=SQ.out;refine⟨by rw[size_swp];exact q1,?_,λc c1 c2=>?_⟩
       ·have hp:=HPJ.out
        rw[rA0 (by omega) (by omega),q2,hp];exact sK0 (by omega) hJI
       ·rcases Nat.lt_or_ge c J with h|h
        ·rw[show c=p by have:=HPJ.out;omega];exact LT.out
        ·exact q3 c h c2
      clear S2 HXY SQ;go_wp2_with fail
      go_big_region_o
      clear ca yq fa fb cc;generalize ((w2.setCell ⟨blk,J,none⟩ (.int .i64 y)).setCell ⟨blk,p,none⟩ (.int .i64 x)).drew=w3 at S3 ⊢;go_wp2_with fail
      go_roundw
      case rel=>exact⟨p,swp dq J p,by go_num,by have:=HPJ.out;omega,by have:=HPJ.out;omega,E5.out.1,E5.out.2.1,E5.out.2.2,S3.out⟩
      case measure=>have:=HPJ.out;simp[intOf];omega
     ·have hv:¬C<0:=by omega
      have hd:decide (C<0)=false:=decide_eq_false hv;have LT:Hid (ltK k (Fd dj p) (Fd dj I)):=by show ltK _ _ _;rw[<-ex,<-ey];exact(zV hyx).2 bz
      have SS:=Aa SW1;have HPJ:=Aa hp;clear hx hy ex ey hC bz q2 q3 hp SW1 hyx;go_wp2_with fail
      go_quiet_grown (first|(go_at_fn g;refine Calls.grown_of (hc _ _)))
      have S2:Hid (SWn w0 blk dq (grow (wr.drewN nq) osq)):=SS.out.grown nq osq;clear la lb hc SS;generalize grow (wr.drewN nq) osq=w2 at S2 ⊢;clear nq osq
      have FIN:Hid (fB (Fd dk) (Fd dq) a (I+1)/\Srt k (Fd dq) a (I+1)):=by
       obtain⟨_,q2,q3,_⟩:=SQ.out;rw[q2];refine⟨(E3.out.wide (Ae _) (by omega)).trans ((dD hJI (by omega)).wide haJ (Ae _)),gC0 E4.out haJ hJI (λc c1 c2=>?_) q3⟩;exact E4.out.ge c1 (by have:=HPJ.out;omega) (by have:=HPJ.out;omega) LT.out
      go_wp2_with fail
      go_roundw
      case rel=>exact⟨I+1,dq,by go_num,by omega,q1,λ_=>⟨ae,FIN.out.1,FIN.out.2⟩,λh=>by omega,S2.out⟩
      case measure=>simp[intOf];omega
    ·have ahw:¬(a:Int)<J:=by omega
     obtain⟨q1,q2,q3,SW1⟩:=SQ.out
     have FIN:Hid (fB (Fd dk) (Fd dq) a (I+1)/\Srt k (Fd dq) a (I+1)):=by
      rw[q2];refine⟨(E3.out.wide (Ae _) (by omega)).trans ((dD hJI (by omega)).wide haJ (Ae _)),gC0 E4.out haJ hJI (λc c1 c2=>by omega) q3⟩
     have aj0:decide ((J:Int)>(a:Int))=false:=decide_eq_false (by omega);have S3:Hid (SWn w0 blk dq wr.drew):=SW1.drew;clear SQ q2 q3 SW1;go_wp2_with fail
     go_big_region_o
     generalize wr.drew=w2 at S3 ⊢;go_wp2_with fail
     go_roundw
     case rel=>exact⟨I+1,dq,by go_num,by omega,q1,λ_=>⟨ae,FIN.out.1,FIN.out.2⟩,λh=>by omega,S3.out⟩
     case measure=>simp[intOf];omega
  ·have hIi:¬(I:Int)<b:=by omega
   obtain⟨e1,e2,e3,S1⟩:=SJ.out
   have FIN:Hid (fB (Fd dk) (Fd dj) a b/\Srt k (Fd dj) a b):=by
    by_cases fi:a<b
    ·obtain⟨e4,e5,e6⟩:=e2 fi
     rw[show b=I by omega];exact⟨e5,e6⟩
    ·rw[e3 fi];exact⟨fB.refl _ _ _,λi j i1 i2 i3=>by omega⟩
   clear SJ e2 e3;go_wp2_with fail
   refine bodyPost_end (v:=.tuple #[]) (by simp[results,Tryz.results149,go_sem]) rfl ⟨rfl,dj,e1,FIN.out.1,FIN.out.2,S1⟩
end
end
section
open Go Go.Shelf Go.RowKit Go.Lib Go.Sort
section
variable {k:Nat->Nat} {n blk g:Nat} {cb:Array Value} {d0:Array Nat} {w0:World}
structure xY (k:Nat->Nat) (D:Nat->Nat) (a m b n:Nat):Prop where
 am:a<m
 mb:m<b
 bn:b<=n
 bnd:∀i,i<n->D i<n
 s1:Srt k D a m
 s2:Srt k D m b
 ap:Apt D a m b
def gD (k:Nat->Nat) (n blk:Nat) (w0:World) (dk:Array Nat) (a b:Nat) (e:Ending) (w':World):Prop :=
 e=.returned (.tuple #[])/\∃m5,m5.size=n/\fB (Fd dk) (Fd m5) a b/\Srt k (Fd m5) a b/\SWn w0 blk m5 w'
theorem hY1 (H:gH k n blk g cb d0 w0) (a m b c:Nat) (dk:Array Nat) (w:World) (hs:dk.size=n) (hp:xY k (Fd dk) a m b n) (h1:m-a=1) (S:SWn w0 blk dk w) :
  Calls Tryz.prog 150 #[.slice (some ⟨blk,0,none⟩) n c,.int .i64 a,.int .i64 m,.int .i64 b,.func (.func g) #[] cb] w (gD k n blk w0 dk a b):=by
 have hn:=H.small;have mixed:=fC0;have eg:=H.eg;have HH:=Aa H;have S0:=Aa S;obtain⟨h2,h3,h4,pm,s1,s2,ap⟩:=hp;have HBD:=Aa pm;have HS2:=Aa s2;have HAP:=Aa ap;have wm:IntKind.i64.wrap ((m:Int)-a)=1:=by simp[Ac,Ad,Ab];omega
 have HM:Hid (m=a+1):=by show _=_;omega
 clear H S pm s1 s2 ap h1;have han:a<n:=by omega
 have hai:(a:Int)<n:=by omega
 go_enter Tryz.func150,Tryz.ntmps150
 go_wp2_with fail
 go_loopw [10,11] (λi j wr=>∃(I J:Nat),i=.int .i64 I/\j=.int .i64 J/\m<=I/\I<=J/\J<=b/\Hid ((∀c,m<=c->c<I->k (Fd dk c)<k (Fd dk a))/\(∀c,J<=c->c<b->¬k (Fd dk c)<k (Fd dk a))/\SWn w0 blk dk wr)) (λi j _=>(intOf j).toNat-(intOf i).toNat)
 case atStart=>exact⟨m,b,rfl,rfl,Ae _,by omega,Ae _,λc c1 c2=>by omega,λc c1 c2=>by omega,S0.out⟩
 case round =>
  clear S0 wm;obtain⟨I,J,rfl,rfl,xa,hIJ,uy,SJ⟩:=hrel;by_cases ae:I<J
  ·have et:(I:Int)<J:=by omega
   obtain⟨h,hh⟩:=exq ((I+J)/2);have eh:((I:Int)+J)/2=h:=by omega
   have yu:h<n:=by omega
   have ws:(h:Int)<n:=by omega
   have wh:IntKind.i64.wrap ((h:Int)+1)=(h+1:Nat):=by simp[Ac,Ad,Ab];omega
   obtain⟨x,hx⟩:=exq (dk[h]!);obtain⟨y,hy⟩:=exq (dk[a]!);obtain⟨q1,q2,SW1⟩:=SJ.out;have la:=HH.out.cellG hs SW1 yu;have lb:=HH.out.cellG hs SW1 han;rw[<-hx]at la;rw[<-hy]at lb;have hc:=HH.out.calls hs SW1 (show x<n by rw[hx];exact HBD.out h yu) (show y<n by rw[hy];exact HBD.out a han)
   obtain⟨C,hC⟩:∃C:Int,C=(k x:Int)-k y:=⟨_,rfl⟩;rw[<-hC]at hc;have SS:=Aa SW1
   have MONO:Hid (∀c c',m<=c->c<=c'->c'<b->k (Fd dk c')<k (Fd dk a)->k (Fd dk c)<k (Fd dk a)):=λc c' c1 c2 c3 c4=>by
    rw[<-mT (HAP.out a c' (Ae _) (by omega) (by omega) c3)]at c4;rw[<-mT (HAP.out a c (Ae _) (by omega) (by omega) (by omega))];exact HS2.out.ge c1 c2 c3 c4
   by_cases bz:k x<k y
   ·have hv:C<0:=by omega
    have hd:decide (C<0)=true:=decide_eq_true hv;have Q1:Hid (∀c,m<=c->c<h+1->k (Fd dk c)<k (Fd dk a)):=λc c1 c2=>MONO.out c h c1 (by omega) (by omega) (by rw[hx,hy]at bz;exact bz);have Q2:=Aa q2;have hHb:I<=h/\h<J:=by omega
    clear SJ q1 q2 hx hy hC bz SW1 MONO hh;go_wp2_with fail
    go_quiet_grown (first|(go_at_fn g;refine Calls.grown_of (hc _ _)))
    have S2:Hid (SWn w0 blk dk (grow (wr.drewN nq) osq)):=SS.out.grown nq osq;clear la lb hc SS;generalize grow (wr.drewN nq) osq=w2 at S2 ⊢;clear nq osq;go_wp2_with fail
    go_roundw
    case rel=>exact⟨h+1,J,by go_num,rfl,by omega,by omega,uy,Q1.out,Q2.out,S2.out⟩
    case measure=>simp[intOf];omega
   ·have hv:¬C<0:=by omega
    have hd:decide (C<0)=false:=decide_eq_false hv
    have Q2:Hid (∀c,h<=c->c<b->¬k (Fd dk c)<k (Fd dk a)):=λc c1 c2 h2=>by
     have:=MONO.out h c (by omega) c1 c2 h2
     rw[hx,hy]at bz;exact bz this
    have Q1:=Aa q1;have hHb:I<=h/\h<J:=by omega
    clear SJ q1 q2 hx hy hC bz SW1 MONO hh;go_wp2_with fail
    go_quiet_grown (first|(go_at_fn g;refine Calls.grown_of (hc _ _)))
    have S2:Hid (SWn w0 blk dk (grow (wr.drewN nq) osq)):=SS.out.grown nq osq;clear la lb hc SS;generalize grow (wr.drewN nq) osq=w2 at S2 ⊢;clear nq osq;go_wp2_with fail
    go_roundw
    case rel=>exact⟨I,h,rfl,by go_num,xa,by omega,by omega,Q1.out,Q2.out,S2.out⟩
    case measure=>simp[intOf];omega
  ·have et:¬(I:Int)<J:=by omega
   obtain rfl:I=J:=by omega
   have wI:IntKind.i64.wrap ((I:Int)-1)=(I-1:Nat):=by simp[Ac,Ad,Ab];omega
   obtain⟨I1,yv⟩:=exq (I-1);rw[<-yv]at wI;obtain⟨q1,q2,SW1⟩:=SJ.out;have S2:=Aa SW1;have afa:a<I:=by omega
   have FIN:Hid (Srt k (gB (Fd dk) a (a+1) I) a b):=oS1 (HM.out▸HS2.out) afa uy
    (λc c1 c2=>(mT (HAP.out a c (Ae _) (by omega) (by have:=HM.out;omega) (by omega))).2 (q1 c (by have:=HM.out;omega) c2))
    (λc c1 c2=>(zV (HAP.out a c (Ae _) (by omega) (by omega) c2)).2 (q2 c c1 c2))
   have HI1:=Aa yv;clear SJ q1 q2 SW1 yv;go_wp2_with fail
   go_loopw [13] (λv wr=>∃(K:Nat) (dj:Array Nat),v=.int .i64 K/\a<=K/\K<=I1/\Hid (dj.size=n/\Fd dj=gB (Fd dk) a (a+1) (K+1)/\SWn w0 blk dj wr)) (λv _=>I-(intOf v).toNat)
   case atStart=>exact⟨a,dk,rfl,Ae _,by have:=HI1.out;omega,hs,eH0.symm,S2.out⟩
   case round =>
    clear S2;obtain⟨K,dj,rfl,haK,hKI,SQ⟩:=hrel;by_cases hk:K<I1
    ·have cy:(K:Int)<I1:=by omega
     obtain⟨e1,e2,S1⟩:=SQ.out;have yv:=HI1.out;obtain⟨q,hq⟩:=exq (K+1);have ft:K<n:=by omega
     have qe:q<n:=by omega
     obtain⟨x,hx⟩:=exq (dj[K]!);obtain⟨y,hy⟩:=exq (dj[q]!);have ca:=HH.out.cell e1 S1 ft;have yq:=HH.out.cell e1 S1 qe;have fa:=HH.out.froz e1 S1 ft;have fb:=HH.out.froz e1 S1 qe;obtain⟨u,cc⟩:=HH.out.second e1 S1 ft qe (.int .i64 y);have S3:=HH.out.swapped e1 S1 ft qe;rw[<-hx]at ca S3;rw[<-hy]at yq S3;replace S3:=Aa S3;have E3:Hid ((swp dj K q).size=n/\Fd (swp dj K q)=gB (Fd dk) a (a+1) (K+1+1)):=⟨by rw[size_swp];exact e1,by rw[rA0 (by omega) (by omega),e2,hq];exact oN1 haK⟩;have wq:IntKind.i64.wrap ((K:Int)+1)=q:=by simp[Ac,Ad,Ab];omega
     have bp:(K:Int)<n:=by omega
     have bq:(q:Int)<n:=by omega
     have HQ:=Aa hq;clear SQ e1 e2 S1 hx hy hq yv;go_wp2_with fail
     go_big_region_o
     clear ca yq fa fb cc;generalize ((wr.setCell ⟨blk,K,none⟩ (.int .i64 y)).setCell ⟨blk,q,none⟩ (.int .i64 x)).drew=w3 at S3 ⊢;go_wp2_with fail
     go_roundw
     case rel=>exact⟨q,swp dj K q,by go_num,by have:=HQ.out;omega,by have:=HQ.out;omega,E3.out.1,by rw[HQ.out];exact HQ.out▸E3.out.2,S3.out⟩
     case measure=>have:=HQ.out;have:=HI1.out;simp[intOf];omega
    ·have cy:¬(K:Int)<I1:=by omega
     obtain⟨e1,e2,S1⟩:=SQ.out;have hKe:K+1=I:=by have:=HI1.out;omega
     rw[hKe]at e2
     have FIN2:Hid (fB (Fd dk) (Fd dj) a b/\Srt k (Fd dj) a b):=by
      rw[e2];exact⟨(dD (by omega) afa).wide (Ae _) uy,FIN.out⟩
     clear SQ e2 FIN hKe;go_wp2_with fail
     refine bodyPost_ret (v:=.tuple #[]) (by simp[results,Tryz.results150,go_sem]) rfl ⟨rfl,dj,e1,FIN2.out.1,FIN2.out.2,S1⟩
end
end
section
open Go Go.Shelf Go.RowKit Go.Lib Go.Sort
section
variable {k:Nat->Nat} {n blk g:Nat} {cb:Array Value} {d0:Array Nat} {w0:World}
theorem kF1 (H:gH k n blk g cb d0 w0) (a m b c:Nat) (dk:Array Nat) (w:World) (hs:dk.size=n) (hp:xY k (Fd dk) a m b n) (h0:m-a≠1) (h1:b-m=1) (S:SWn w0 blk dk w) :
  Calls Tryz.prog 150 #[.slice (some ⟨blk,0,none⟩) n c,.int .i64 a,.int .i64 m,.int .i64 b,.func (.func g) #[] cb] w (gD k n blk w0 dk a b):=by
 have hn:=H.small;have mixed:=fC0;have eg:=H.eg;have HH:=Aa H;have S0:=Aa S;obtain⟨h2,h3,h4,pm,s1,s2,ap⟩:=hp;have HBD:=Aa pm;have HS1:=Aa s1;have HAP:=Aa ap;obtain⟨d,hd⟩:=exq (m-a);have wma:IntKind.i64.wrap ((m:Int)-a)=d:=by simp[Ac,Ad,Ab];omega
 have fe:¬(d:Int)=1:=by omega
 have wm:IntKind.i64.wrap ((b:Int)-m)=1:=by simp[Ac,Ad,Ab];omega
 have HM:Hid (b=m+1):=by show _=_;omega
 clear H S pm s1 s2 ap h1 h0 hd;have uz:m<n:=by omega
 have hmi:(m:Int)<n:=by omega
 go_enter Tryz.func150,Tryz.ntmps150
 go_wp2_with fail
 have hz:((d:Int)==1)=false:=by simpa using fe
 rw[hz];clear hz;go_loopw [14,15] (λi j wr=>∃(I J:Nat),i=.int .i64 I/\j=.int .i64 J/\a<=I/\I<=J/\J<=m/\Hid ((∀c,a<=c->c<I->¬k (Fd dk m)<k (Fd dk c))/\(∀c,J<=c->c<m->k (Fd dk m)<k (Fd dk c))/\SWn w0 blk dk wr)) (λi j _=>(intOf j).toNat-(intOf i).toNat)
 case atStart=>exact⟨a,m,rfl,rfl,Ae _,by omega,Ae _,λc c1 c2=>by omega,λc c1 c2=>by omega,S0.out⟩
 case round =>
  clear S0 wm wma fe;obtain⟨I,J,rfl,rfl,xa,hIJ,uy,SJ⟩:=hrel;by_cases ae:I<J
  ·have et:(I:Int)<J:=by omega
   obtain⟨h,hh⟩:=exq ((I+J)/2);have eh:((I:Int)+J)/2=h:=by omega
   have yu:h<n:=by omega
   have ws:(h:Int)<n:=by omega
   have wh:IntKind.i64.wrap ((h:Int)+1)=(h+1:Nat):=by simp[Ac,Ad,Ab];omega
   obtain⟨x,hx⟩:=exq (dk[m]!);obtain⟨y,hy⟩:=exq (dk[h]!);obtain⟨q1,q2,SW1⟩:=SJ.out;have la:=HH.out.cellG hs SW1 uz;have lb:=HH.out.cellG hs SW1 yu;rw[<-hx]at la;rw[<-hy]at lb;have hc:=HH.out.calls hs SW1 (show x<n by rw[hx];exact HBD.out m uz) (show y<n by rw[hy];exact HBD.out h yu)
   obtain⟨C,hC⟩:∃C:Int,C=(k x:Int)-k y:=⟨_,rfl⟩;rw[<-hC]at hc;have SS:=Aa SW1
   have MONO:Hid (∀c c',a<=c->c<=c'->c'<m->k (Fd dk m)<k (Fd dk c)->k (Fd dk m)<k (Fd dk c')):=λc c' c1 c2 c3 c4=>by
    have oc:=HM.out;rw[<-mT (HAP.out c m c1 (by omega) (Ae _) (by omega))]at c4;rw[<-mT (HAP.out c' m (by omega) c3 (Ae _) (by omega))];exact HS1.out.le c1 c2 c3 c4
   by_cases bz:k x<k y
   ·have hv:C<0:=by omega
    have hd:decide (C<0)=true:=decide_eq_true hv;have Q2:Hid (∀c,h<=c->c<m->k (Fd dk m)<k (Fd dk c)):=λc c1 c2=>MONO.out h c (by omega) c1 c2 (by rw[hx,hy]at bz;exact bz);have Q1:=Aa q1;have hHb:I<=h/\h<J:=by omega
    clear SJ q1 q2 hx hy hC bz SW1 MONO hh;go_wp2_with fail
    go_quiet_grown (first|(go_at_fn g;refine Calls.grown_of (hc _ _)))
    have S2:Hid (SWn w0 blk dk (grow (wr.drewN nq) osq)):=SS.out.grown nq osq;clear la lb hc SS;generalize grow (wr.drewN nq) osq=w2 at S2 ⊢;clear nq osq;go_wp2_with fail
    go_roundw
    case rel=>exact⟨I,h,rfl,by go_num,xa,by omega,by omega,Q1.out,Q2.out,S2.out⟩
    case measure=>simp[intOf];omega
   ·have hv:¬C<0:=by omega
    have hd:decide (C<0)=false:=decide_eq_false hv
    have Q1:Hid (∀c,a<=c->c<h+1->¬k (Fd dk m)<k (Fd dk c)):=λc c1 c2 h2=>by
     have:=MONO.out c h c1 (by omega) (by omega) h2
     rw[hx,hy]at bz;exact bz this
    have Q2:=Aa q2;have hHb:I<=h/\h<J:=by omega
    clear SJ q1 q2 hx hy hC bz SW1 MONO hh;go_wp2_with fail
    go_quiet_grown (first|(go_at_fn g;refine Calls.grown_of (hc _ _)))
    have S2:Hid (SWn w0 blk dk (grow (wr.drewN nq) osq)):=SS.out.grown nq osq;clear la lb hc SS;generalize grow (wr.drewN nq) osq=w2 at S2 ⊢;clear nq osq;go_wp2_with fail
    go_roundw
    case rel=>exact⟨h+1,J,by go_num,rfl,by omega,by omega,uy,Q1.out,Q2.out,S2.out⟩
    case measure=>simp[intOf];omega
  ·have et:¬(I:Int)<J:=by omega
   obtain rfl:I=J:=by omega
   obtain⟨q1,q2,SW1⟩:=SJ.out;have S2:=Aa SW1
   have FIN:Hid (Srt k (gB (Fd dk) I m (m+1)) a b):=by
    rw[HM.out];have oc:=HM.out
    exact gC0 HS1.out xa uy
     (λc c1 c2=>(zV (HAP.out c m c1 (by omega) (Ae _) (by omega))).2 (q1 c c1 c2))
     (λc c1 c2=>(mT (HAP.out c m (by omega) c2 (Ae _) (by omega))).2 (q2 c c1 c2))
   clear SJ q1 q2 SW1;go_wp2_with fail
   go_loopw [17] (λv wr=>∃(K:Nat) (dj:Array Nat),v=.int .i64 K/\I<=K/\K<=m/\Hid (dj.size=n/\Fd dj=gB (Fd dk) K m (m+1)/\SWn w0 blk dj wr)) (λv _=>(intOf v).toNat)
   case atStart=>exact⟨m,dk,rfl,uy,Ae _,hs,(dK0 (by omega)).symm,S2.out⟩
   case round =>
    clear S2;obtain⟨K,dj,rfl,haK,hKI,SQ⟩:=hrel;by_cases hk:I<K
    ·have cy:(I:Int)<K:=by omega
     obtain⟨e1,e2,S1⟩:=SQ.out;obtain⟨q,hq⟩:=exq (K-1);have ft:K<n:=by omega
     have qe:q<n:=by omega
     obtain⟨x,hx⟩:=exq (dj[K]!);obtain⟨y,hy⟩:=exq (dj[q]!);have ca:=HH.out.cell e1 S1 ft;have yq:=HH.out.cell e1 S1 qe;have fa:=HH.out.froz e1 S1 ft;have fb:=HH.out.froz e1 S1 qe;obtain⟨u,cc⟩:=HH.out.second e1 S1 ft qe (.int .i64 y);have S3:=HH.out.swapped e1 S1 ft qe;rw[<-hx]at ca S3;rw[<-hy]at yq S3;replace S3:=Aa S3;have E3:Hid ((swp dj K q).size=n/\Fd (swp dj K q)=gB (Fd dk) q m (m+1)):=⟨by rw[size_swp];exact e1,by rw[rA0 (by omega) (by omega),e2,hq];exact sK0 (by omega) hKI⟩;have wq:IntKind.i64.wrap ((K:Int)-1)=q:=by simp[Ac,Ad,Ab];omega
     have bp:(K:Int)<n:=by omega
     have bq:(q:Int)<n:=by omega
     have HQ:=Aa hq;clear SQ e1 e2 S1 hx hy hq;go_wp2_with fail
     go_big_region_o
     clear ca yq fa fb cc;generalize ((wr.setCell ⟨blk,K,none⟩ (.int .i64 y)).setCell ⟨blk,q,none⟩ (.int .i64 x)).drew=w3 at S3 ⊢;go_wp2_with fail
     go_roundw
     case rel=>exact⟨q,swp dj K q,by go_num,by have:=HQ.out;omega,by have:=HQ.out;omega,E3.out.1,E3.out.2,S3.out⟩
     case measure=>have:=HQ.out;simp[intOf];omega
    ·have cy:¬(I:Int)<K:=by omega
     obtain⟨e1,e2,S1⟩:=SQ.out;have hKe:K=I:=by omega
     rw[hKe]at e2
     have FIN2:Hid (fB (Fd dk) (Fd dj) a b/\Srt k (Fd dj) a b):=by
      rw[e2];exact⟨(dD (by omega) (by omega)).wide xa (by have:=HM.out;omega),FIN.out⟩
     clear SQ e2 FIN hKe;go_wp2_with fail
     refine bodyPost_ret (v:=.tuple #[]) (by simp[results,Tryz.results150,go_sem]) rfl ⟨rfl,dj,e1,FIN2.out.1,FIN2.out.2,S1⟩
end
end
section
open Go Go.Shelf Go.RowKit Go.Lib Go.Sort
section
variable {k:Nat->Nat} {n blk g:Nat} {cb:Array Value} {d0:Array Nat} {w0:World}
theorem dB1 (H:gH k n blk g cb d0 w0) (N:Nat)
  (IH:∀(a m b c:Nat) (dk:Array Nat) (w:World),b-a<N->dk.size=n->xY k (Fd dk) a m b n->SWn w0 blk dk w ->
   Calls Tryz.prog 150 #[.slice (some ⟨blk,0,none⟩) n c,.int .i64 a,.int .i64 m,.int .i64 b,.func (.func g) #[] cb] w (gD k n blk w0 dk a b))
  (a m b c ar:Nat) (dk:Array Nat) (w:World) (hN:b-a<N+1) (hs:dk.size=n) (hp:xY k (Fd dk) a m b n) (_h0:m-a≠1) (h1:b-m≠1) (yw:ar=(a+b)/2) (hm:ar<m) (S:SWn w0 blk dk w) :
  Calls Tryz.prog 150 #[.slice (some ⟨blk,0,none⟩) n c,.int .i64 a,.int .i64 m,.int .i64 b,.func (.func g) #[] cb] w (gD k n blk w0 dk a b):=by
 have hn:=H.small;have mixed:=fC0;have eg:=H.eg;have HH:=Aa H;have S0:=Aa S;have HPRE:=Aa hp;obtain⟨h2,h3,h4,pm,s1,s2,ap⟩:=hp;have HBD:=Aa pm;have HS1:=Aa s1;have HS2:=Aa s2;have HAP:=Aa ap;have HIH:=Aa IH;obtain⟨d,hd⟩:=exq (m-a);obtain⟨d2,jb⟩:=exq (b-m);obtain⟨nn,t7⟩:=exq (ar+m);obtain⟨pp,hpp⟩:=exq (nn-1);obtain⟨lo,gw⟩:=exq (nn-b);obtain⟨hi,ws⟩:=exq ar;have ac:Hid (nJ0 a m b ar lo hi):=⟨h2,h3,by omega,by omega,λ_=>by omega,λ_=>by omega⟩;have wma:IntKind.i64.wrap ((m:Int)-a)=d:=by simp[Ac,Ad,Ab];omega
 have wbm:IntKind.i64.wrap ((b:Int)-m)=d2:=by simp[Ac,Ad,Ab];omega
 have fe:¬(d:Int)=1:=by omega
 have m6:¬(d2:Int)=1:=by omega
 have em:((a:Int)+b)/2=ar:=by omega
 have wnn:IntKind.i64.wrap ((ar:Int)+m)=nn:=by simp[Ac,Ad,Ab];omega
 have wpp:IntKind.i64.wrap ((nn:Int)-1)=pp:=by simp[Ac,Ad,Ab];omega
 have wlo:IntKind.i64.wrap ((nn:Int)-b)=lo:=by simp[Ac,Ad,Ab];omega
 have hmi:(ar:Int)<m:=by omega
 have HNN:=Aa t7;have HPP:Hid (pp=ar+m-1):=by show _=_;omega
 obtain⟨lj,jn,hl3⟩:lo<=hi/\hi<=m/\hi<=ar:=by have:=ac.out.rng;omega
 have ahx:nn<=2*n/\m<=nn:=by omega
 clear H S pm s1 s2 ap h1 _h0 hd jb t7 hpp IH HPRE;have HLO:=Aa gw;have HHI:=Aa ws;clear gw ws;have HMD:=Aa yw;clear yw;go_enter Tryz.func150,Tryz.ntmps150
 go_wp2_with fail
 have hz:((d:Int)==1)=false:=by simpa using fe
 have ng:((d2:Int)==1)=false:=by simpa using m6
 try rw[hz]
 try rw[ng]
 clear hz ng;go_loopw [20,21] (λi j wr=>∃(I J:Nat),i=.int .i64 I/\j=.int .i64 J/\lo<=I/\I<=J/\J<=hi/\Hid ((∀c,lo<=c->c<I->¬k (Fd dk (ar+m-1-c))<k (Fd dk c))/\(∀c,J<=c->c<hi->k (Fd dk (ar+m-1-c))<k (Fd dk c))/\SWn w0 blk dk wr)) (λi j _=>(intOf j).toNat-(intOf i).toNat)
 case atStart=>exact⟨lo,hi,by first|rfl|(rw[HLO.out]),by first|rfl|(rw[HHI.out]),Ae _,lj,Ae _,λc c1 c2=>by omega,λc c1 c2=>by omega,S0.out⟩
 case round =>
  clear S0 wma wbm fe m6 em wnn wpp wlo;obtain⟨I,J,rfl,rfl,xa,hIJ,uy,SJ⟩:=hrel;by_cases ae:I<J
  ·have et:(I:Int)<J:=by omega
   obtain⟨h,hh⟩:=exq ((I+J)/2);have eh:((I:Int)+J)/2=h:=by omega
   obtain⟨r1,r2,r3,r4,r5⟩:=ac.out.in (c:=h) (by omega) (by omega);obtain⟨ph,hph⟩:=exq (ar+m-1-h);have wph:IntKind.i64.wrap ((pp:Int)-h)=ph:=by have:=HPP.out;simp[Ac,Ad,Ab];omega
   have yu:h<n:=by omega
   have ft:ph<n:=by omega
   have ahy:(h:Int)<n:=by omega
   have ahz:(ph:Int)<n:=by omega
   have wh:IntKind.i64.wrap ((h:Int)+1)=(h+1:Nat):=by simp[Ac,Ad,Ab];omega
   obtain⟨x,hx⟩:=exq (dk[ph]!);obtain⟨y,hy⟩:=exq (dk[h]!);obtain⟨q1,q2,SW1⟩:=SJ.out;have la:=HH.out.cellG hs SW1 ft;have lb:=HH.out.cellG hs SW1 yu;rw[<-hx]at la;rw[<-hy]at lb;have hc:=HH.out.calls hs SW1 (show x<n by rw[hx];exact HBD.out ph ft) (show y<n by rw[hy];exact HBD.out h yu)
   obtain⟨C,hC⟩:∃C:Int,C=(k x:Int)-k y:=⟨_,rfl⟩;rw[<-hC]at hc;have SS:=Aa SW1;have hHb:I<=h/\h<J:=by omega
   have HXY:Hid (k x<k y↔k (Fd dk (ar+m-1-h))<k (Fd dk h)):=by show _↔_;rw[hx,hy,hph];exact Iff.rfl
   have MONO:Hid (∀c c',lo<=c->c<=c'->c'<hi->k (Fd dk (ar+m-1-c))<k (Fd dk c)->k (Fd dk (ar+m-1-c'))<k (Fd dk c')):=λc c' c1 c2 c3 c4=>rW0 ac.out HS1.out HS2.out HAP.out c1 c2 c3 c4;by_cases bz:k x<k y
   ·have hv:C<0:=by omega
    have hdd:decide (C<0)=true:=decide_eq_true hv;have Q2:Hid (∀c,h<=c->c<hi->k (Fd dk (ar+m-1-c))<k (Fd dk c)):=λc c1 c2=>MONO.out h c (by omega) c1 c2 (HXY.out.1 bz);have Q1:=Aa q1;clear SJ q1 q2 hx hy hC bz SW1 MONO hh hph r1 r2 r3 r4 r5 HXY;go_wp2_with fail
    go_quiet_grown (first|(go_at_fn g;refine Calls.grown_of (hc _ _)))
    have S2:Hid (SWn w0 blk dk (grow (wr.drewN nq) osq)):=SS.out.grown nq osq;clear la lb hc SS;generalize grow (wr.drewN nq) osq=w2 at S2 ⊢;clear nq osq;go_wp2_with fail
    go_roundw
    case rel=>exact⟨I,h,rfl,by go_num,xa,by omega,by omega,Q1.out,Q2.out,S2.out⟩
    case measure=>simp[intOf];omega
   ·have hv:¬C<0:=by omega
    have hdd:decide (C<0)=false:=decide_eq_false hv
    have Q1:Hid (∀c,lo<=c->c<h+1->¬k (Fd dk (ar+m-1-c))<k (Fd dk c)):=λc c1 c2 h2=>by
     have:=MONO.out c h c1 (by omega) (by omega) h2
     exact bz (HXY.out.2 this)
    have Q2:=Aa q2;clear SJ q1 q2 hx hy hC bz SW1 MONO hh hph r1 r2 r3 r4 r5 HXY;go_wp2_with fail
    go_quiet_grown (first|(go_at_fn g;refine Calls.grown_of (hc _ _)))
    have S2:Hid (SWn w0 blk dk (grow (wr.drewN nq) osq)):=SS.out.grown nq osq;clear la lb hc SS;generalize grow (wr.drewN nq) osq=w2 at S2 ⊢;clear nq osq;go_wp2_with fail
    go_roundw
    case rel=>exact⟨h+1,J,by go_num,rfl,by omega,by omega,uy,Q1.out,Q2.out,S2.out⟩
    case measure=>simp[intOf];omega
  ·have et:¬(I:Int)<J:=by omega
   obtain rfl:I=J:=by omega
   obtain⟨q1,q2,SW1⟩:=SJ.out;obtain⟨E,hE⟩:=exq (ar+m-I);have wE:IntKind.i64.wrap ((nn:Int)-I)=E:=by have:=HNN.out;simp[Ac,Ad,Ab];omega
   have RNG:Hid (E=ar+m-I/\a<=I/\I<=m/\I<=ar/\m<=E/\ar<=E/\E<=b/\a<ar/\ar<b):=by
    have:=ac.out.rng
    have:=ac.out.mid1
    have:=ac.out.mid2
    show _/\_;omega
   have CUT:=Aa (eA1 ac.out HS1.out HS2.out HAP.out xa uy q1 q2);rw[<-hE]at CUT;have S2:=Aa SW1;clear SJ q1 q2 SW1 hE;rcases (show (I<m/\m<E)\/(I<m/\E=m) by have:=RNG.out;omega) with hA|hA
   ·have a1:(I:Int)<m:=by omega
    have a2:(m:Int)<E:=by omega
    have CR:=Aa (aJ1 HH.out I m E c (.func (.func g) #[] cb) dk wr hs hA.1 hA.2 (by have:=RNG.out;omega) S2.out);go_wp2_with fail
    refine CR.out.mono ?_;rintro e w1 ⟨rfl,d1,t1,t2,t3⟩;have T1:Hid (d1.size=n/\Fd d1=gB (Fd dk) I m E/\SWn w0 blk d1 w1):=⟨t1,t2,t3⟩;clear t1 t2 t3 CR S2;have HA:=Aa hA;rcases (show (a<I/\I<ar)\/(I=a) by have:=RNG.out;have:=HA.out;omega) with hB|hB
    ·have b1:(a:Int)<I:=by omega
     have b2:(I:Int)<ar:=by omega
     have CS:Hid (Calls Tryz.prog 150 #[.slice (some ⟨blk,0,none⟩) n c,.int .i64 a,.int .i64 I,.int .i64 ar,.func (.func g) #[] cb] w1 (gD k n blk w0 d1 a ar)):=by
      obtain⟨t1,t2,t3⟩:=T1.out;obtain⟨u1,u2,_,_,u5,_⟩:=CUT.out;have hr:=RNG.out;exact HIH.out a I ar c d1 w1 (by omega) t1 ⟨hB.1,hB.2,by omega,by rw[t2];exact(dD (by omega) (by omega)).bnd (by omega) HBD.out,by rw[t2];exact u1,by rw[t2];exact u2,by rw[t2];exact u5⟩ t3
     go_wp2_with fail
     refine CS.out.mono ?_;rintro e w2 ⟨rfl,e2,t1,t2,t3,t4⟩;have T2:Hid (e2.size=n/\fB (Fd d1) (Fd e2) a ar/\Srt k (Fd e2) a ar/\SWn w0 blk e2 w2):=⟨t1,t2,t3,t4⟩;clear t1 t2 t3 t4 CS;have HB:=Aa hB;rcases (show (ar<E/\E<b)\/(ar<E/\E=b) by have:=RNG.out;have:=HA.out;have:=HB.out;omega) with hC|hC
     ·have c1:(ar:Int)<E:=by omega
      have c2:(E:Int)<b:=by omega
      have CS:Hid (Calls Tryz.prog 150 #[.slice (some ⟨blk,0,none⟩) n c,.int .i64 ar,.int .i64 E,.int .i64 b,.func (.func g) #[] cb] w2 (gD k n blk w0 e2 ar b)):=by
       obtain⟨t1,t2,t3⟩:=T1.out;obtain⟨_,_,u3,u4,_,u6,_⟩:=CUT.out;obtain⟨v1,v2,v3,v4⟩:=T2.out;have hr:=RNG.out;rw[<-t2]at u3 u4 u6
       exact HIH.out ar E b c e2 w2 (by omega) v1 ⟨hC.1,hC.2,by omega,v2.bnd (by omega) (by rw[t2];exact(dD (by omega) (by omega)).bnd (by omega) HBD.out),
        u3.of_eq (λi i1 i2=>v2.out i (Or.inr i1)),u4.of_eq (λi i1 i2=>v2.out i (Or.inr (by omega))),λi j i1 i2 j1 j2=>by rw[v2.out i (Or.inr i1),v2.out j (Or.inr (by omega))];exact u6 i j i1 i2 j1 j2⟩ v4
      go_wp2_with fail
      refine CS.out.mono ?_;rintro e w3 ⟨rfl,e3,t1,t2,t3,t4⟩;have T3:Hid (e3.size=n/\fB (Fd e2) (Fd e3) ar b/\Srt k (Fd e3) ar b/\SWn w0 blk e3 w3):=⟨t1,t2,t3,t4⟩;clear t1 t2 t3 t4 CS;go_wp2_with fail
      have FIN:Hid (fB (Fd dk) (Fd e3) a b/\Srt k (Fd e3) a b):=by
       obtain⟨t1,t2,t3⟩:=T1.out;obtain⟨u1,u2,u3,u4⟩:=T2.out;obtain⟨v1,v2,v3,v4⟩:=T3.out;have hr:=RNG.out;have hx:=CUT.out.2.2.2.2.2.2;rw[<-t2]at hx;obtain⟨j1,j2⟩:=iW (by omega) (by omega) hx u2 u3 v2 v3;refine⟨fB.trans ?_ j2,j1⟩;rw[t2];exact(dD (by omega) (by omega)).wide (by omega) (by omega)
      refine bodyPost_end (v:=.tuple #[]) (by simp[results,Tryz.results150,go_sem]) rfl ⟨rfl,e3,T3.out.1,FIN.out.1,FIN.out.2,T3.out.2.2.2⟩
     ·obtain⟨e3,w3,_,rfl,T3⟩:∃e3 w3,e3=e2/\w3=w2/\Hid (e3.size=n/\fB (Fd e2) (Fd e3) ar b/\Srt k (Fd e3) ar b/\SWn w0 blk e3 w3):=⟨e2,w2,rfl,rfl,T2.out.1,fB.refl _ _ _,by
       have h3:=CUT.out.2.2.1;rw[<-T1.out.2.1,hC.2]at h3;exact h3.of_eq (λi i1 i2=>T2.out.2.1.out i (Or.inr i1)),T2.out.2.2.2⟩
      have c1:(ar:Int)<E:=by omega
      have c2:¬(E:Int)<b:=by omega
      clear hC;go_wp2_with fail
      have FIN:Hid (fB (Fd dk) (Fd e3) a b/\Srt k (Fd e3) a b):=by
       obtain⟨t1,t2,t3⟩:=T1.out;obtain⟨u1,u2,u3,u4⟩:=T2.out;obtain⟨v1,v2,v3,v4⟩:=T3.out;have hr:=RNG.out;have hx:=CUT.out.2.2.2.2.2.2;rw[<-t2]at hx;obtain⟨j1,j2⟩:=iW (by omega) (by omega) hx u2 u3 v2 v3;refine⟨fB.trans ?_ j2,j1⟩;rw[t2];exact(dD (by omega) (by omega)).wide (by omega) (by omega)
      refine bodyPost_end (v:=.tuple #[]) (by simp[results,Tryz.results150,go_sem]) rfl ⟨rfl,e3,T3.out.1,FIN.out.1,FIN.out.2,T3.out.2.2.2⟩
    ·obtain⟨e2,w2,_,rfl,T2⟩:∃e2 w2,e2=d1/\w2=w1/\Hid (e2.size=n/\fB (Fd d1) (Fd e2) a ar/\Srt k (Fd e2) a ar/\SWn w0 blk e2 w2):=⟨d1,w1,rfl,rfl,T1.out.1,fB.refl _ _ _,by rw[T1.out.2.1,<-hB];exact CUT.out.2.1,T1.out.2.2⟩
     have b1:¬(a:Int)<I:=by omega
     have HB:=Aa hB;clear hB;rcases (show (ar<E/\E<b)\/(ar<E/\E=b) by have:=RNG.out;have:=HA.out;have:=HB.out;omega) with hC|hC
     ·have c1:(ar:Int)<E:=by omega
      have c2:(E:Int)<b:=by omega
      have CS:Hid (Calls Tryz.prog 150 #[.slice (some ⟨blk,0,none⟩) n c,.int .i64 ar,.int .i64 E,.int .i64 b,.func (.func g) #[] cb] w2 (gD k n blk w0 e2 ar b)):=by
       obtain⟨t1,t2,t3⟩:=T1.out;obtain⟨_,_,u3,u4,_,u6,_⟩:=CUT.out;obtain⟨v1,v2,v3,v4⟩:=T2.out;have hr:=RNG.out;rw[<-t2]at u3 u4 u6
       exact HIH.out ar E b c e2 w2 (by omega) v1 ⟨hC.1,hC.2,by omega,v2.bnd (by omega) (by rw[t2];exact(dD (by omega) (by omega)).bnd (by omega) HBD.out),
        u3.of_eq (λi i1 i2=>v2.out i (Or.inr i1)),u4.of_eq (λi i1 i2=>v2.out i (Or.inr (by omega))),λi j i1 i2 j1 j2=>by rw[v2.out i (Or.inr i1),v2.out j (Or.inr (by omega))];exact u6 i j i1 i2 j1 j2⟩ v4
      go_wp2_with fail
      refine CS.out.mono ?_;rintro e w3 ⟨rfl,e3,t1,t2,t3,t4⟩;have T3:Hid (e3.size=n/\fB (Fd e2) (Fd e3) ar b/\Srt k (Fd e3) ar b/\SWn w0 blk e3 w3):=⟨t1,t2,t3,t4⟩;clear t1 t2 t3 t4 CS;go_wp2_with fail
      have FIN:Hid (fB (Fd dk) (Fd e3) a b/\Srt k (Fd e3) a b):=by
       obtain⟨t1,t2,t3⟩:=T1.out;obtain⟨u1,u2,u3,u4⟩:=T2.out;obtain⟨v1,v2,v3,v4⟩:=T3.out;have hr:=RNG.out;have hx:=CUT.out.2.2.2.2.2.2;rw[<-t2]at hx;obtain⟨j1,j2⟩:=iW (by omega) (by omega) hx u2 u3 v2 v3;refine⟨fB.trans ?_ j2,j1⟩;rw[t2];exact(dD (by omega) (by omega)).wide (by omega) (by omega)
      refine bodyPost_end (v:=.tuple #[]) (by simp[results,Tryz.results150,go_sem]) rfl ⟨rfl,e3,T3.out.1,FIN.out.1,FIN.out.2,T3.out.2.2.2⟩
     ·obtain⟨e3,w3,_,rfl,T3⟩:∃e3 w3,e3=e2/\w3=w2/\Hid (e3.size=n/\fB (Fd e2) (Fd e3) ar b/\Srt k (Fd e3) ar b/\SWn w0 blk e3 w3):=⟨e2,w2,rfl,rfl,T2.out.1,fB.refl _ _ _,by
       have h3:=CUT.out.2.2.1;rw[<-T1.out.2.1,hC.2]at h3;exact h3.of_eq (λi i1 i2=>T2.out.2.1.out i (Or.inr i1)),T2.out.2.2.2⟩
      have c1:(ar:Int)<E:=by omega
      have c2:¬(E:Int)<b:=by omega
      clear hC;go_wp2_with fail
      have FIN:Hid (fB (Fd dk) (Fd e3) a b/\Srt k (Fd e3) a b):=by
       obtain⟨t1,t2,t3⟩:=T1.out;obtain⟨u1,u2,u3,u4⟩:=T2.out;obtain⟨v1,v2,v3,v4⟩:=T3.out;have hr:=RNG.out;have hx:=CUT.out.2.2.2.2.2.2;rw[<-t2]at hx;obtain⟨j1,j2⟩:=iW (by omega) (by omega) hx u2 u3 v2 v3;refine⟨fB.trans ?_ j2,j1⟩;rw[t2];exact(dD (by omega) (by omega)).wide (by omega) (by omega)
      refine bodyPost_end (v:=.tuple #[]) (by simp[results,Tryz.results150,go_sem]) rfl ⟨rfl,e3,T3.out.1,FIN.out.1,FIN.out.2,T3.out.2.2.2⟩
   ·obtain⟨d1,w1,_,rfl,T1⟩:∃d1 w1,d1=dk/\w1=wr/\Hid (d1.size=n/\Fd d1=gB (Fd dk) I m E/\SWn w0 blk d1 w1):=⟨dk,wr,rfl,rfl,hs,by rw[hA.2];exact eH0.symm,S2.out⟩
    have a1:(I:Int)<m:=by omega
    have a2:¬(m:Int)<E:=by omega
    have HA:=Aa hA;clear hA;have hB:a<I/\I=ar:=by have:=RNG.out;have:=HA.out;omega
    obtain⟨e2,w2,_,rfl,T2⟩:∃e2 w2,e2=d1/\w2=w1/\Hid (e2.size=n/\fB (Fd d1) (Fd e2) a ar/\Srt k (Fd e2) a ar/\SWn w0 blk e2 w2):=⟨d1,w1,rfl,rfl,T1.out.1,fB.refl _ _ _,by rw[T1.out.2.1,<-hB.2];exact CUT.out.1,T1.out.2.2⟩;have b1:(a:Int)<I:=by omega
    have b2:¬(I:Int)<ar:=by omega
    have HB:=Aa hB;clear hB;have hC:ar<E/\E<b:=by have:=RNG.out;have:=HA.out;have:=HB.out;omega
    have c1:(ar:Int)<E:=by omega
    have c2:(E:Int)<b:=by omega
    have CS:Hid (Calls Tryz.prog 150 #[.slice (some ⟨blk,0,none⟩) n c,.int .i64 ar,.int .i64 E,.int .i64 b,.func (.func g) #[] cb] w2 (gD k n blk w0 e2 ar b)):=by
     obtain⟨t1,t2,t3⟩:=T1.out;obtain⟨_,_,u3,u4,_,u6,_⟩:=CUT.out;obtain⟨v1,v2,v3,v4⟩:=T2.out;have hr:=RNG.out;rw[<-t2]at u3 u4 u6
     exact HIH.out ar E b c e2 w2 (by omega) v1 ⟨hC.1,hC.2,by omega,v2.bnd (by omega) (by rw[t2];exact(dD (by omega) (by omega)).bnd (by omega) HBD.out),
      u3.of_eq (λi i1 i2=>v2.out i (Or.inr i1)),u4.of_eq (λi i1 i2=>v2.out i (Or.inr (by omega))),λi j i1 i2 j1 j2=>by rw[v2.out i (Or.inr i1),v2.out j (Or.inr (by omega))];exact u6 i j i1 i2 j1 j2⟩ v4
    go_wp2_with fail
    refine CS.out.mono ?_;rintro e w3 ⟨rfl,e3,t1,t2,t3,t4⟩;have T3:Hid (e3.size=n/\fB (Fd e2) (Fd e3) ar b/\Srt k (Fd e3) ar b/\SWn w0 blk e3 w3):=⟨t1,t2,t3,t4⟩;clear t1 t2 t3 t4 CS;go_wp2_with fail
    have FIN:Hid (fB (Fd dk) (Fd e3) a b/\Srt k (Fd e3) a b):=by
     obtain⟨t1,t2,t3⟩:=T1.out;obtain⟨u1,u2,u3,u4⟩:=T2.out;obtain⟨v1,v2,v3,v4⟩:=T3.out;have hr:=RNG.out;have hx:=CUT.out.2.2.2.2.2.2;rw[<-t2]at hx;obtain⟨j1,j2⟩:=iW (by omega) (by omega) hx u2 u3 v2 v3;refine⟨fB.trans ?_ j2,j1⟩;rw[t2];exact(dD (by omega) (by omega)).wide (by omega) (by omega)
    refine bodyPost_end (v:=.tuple #[]) (by simp[results,Tryz.results150,go_sem]) rfl ⟨rfl,e3,T3.out.1,FIN.out.1,FIN.out.2,T3.out.2.2.2⟩
end
end
end Go.Proofs.YtheiocndipepaaaGreatDoor
