/- The texts Kid Lb1 Lb0 Lb3 Lb4 Pps Pps2 Bcol, one behind the other. -/
import Derived.Test.YtiopheoljccmpaaGreatDoorCq36
import Derived.Test.YtiopheoljccmpaaGreatDoorCq30
import Derived.Shelf.Abstract
import Derived.OwnWalkIn
import Derived.LoopNIn
import Derived.LoopIn
import Derived.Test.YtiopheoljccmpaaGreatDoorCq6
import Derived.Test.YtiopheoljccmpaaGreatDoorCq27
import Derived.Test.YtiopheoljccmpaaGreatDoorCq22
import Derived.Test.YtiopheoljccmpaaGreatDoorShelf
import Derived.Test.YtiopheoljccmpaaGreatDoorCq7
import Derived.Test.YtiopheoljccmpaaGreatDoorCq13
import Derived.Lib.IndexMore
import Derived.Shelf.Strings.Split
import Derived.Shelf.Strings.Cut
import Derived.Test.YtiopheoljccmpaaGreatDoorCq23
import Derived.Test.YtiopheoljccmpaaGreatDoorCq3
open Go.Lib renaming hid → Aa,toList_data → Ak,splitB_all → Av,countB → Bh,countB_le → Bi,idxFromS → Bn,cut → Bo
open Go.World renaming size_alloc → Ab,grownBy_alloc → Ai,putObj_heap_other → Aj,cell? → At
open Nat renaming le_refl → Ac,le_trans → Ae,zero_le → Au,mul_one → Bd,reduceAdd → Bj,reduceSub → Bk
open List renaming getElem?_eq_getElem → Ad,append_assoc → Al,mem_of_getElem? → Am,map_append → An,replicate → Ao,drop_eq_getElem_cons → Ap,length_cons → Aq,length_singleton → As,append_toArray → Ay,length_append → Az,size_toArray → Ba,push_toArray → Bb,cons_append → Bc,append_nil → Be,length_nil → Bf,nil_append → Bg
open Go.IntKind renaming signed → Af,wrap → Ag,bits → Ah
open Bool renaming not_eq_true → Ar
open Array renaming replicate_succ → Aw,replicate_zero → Ax
set_option maxHeartbeats 8000000
namespace Go.Proofs.YtiopheoljccmpaaGreatDoor
set_option maxRecDepth 100000
section
open Go Go.RowKit Go.Shelf
attribute [local go_sem] aM aP
abbrev aE0 (L:List (List UInt8)) (x:eA):={ y:eA // y∈fH L x }
def hX0 (y:eA):Value := .agg #[.int .i64 y.i,.int .i64 y.t,.int .i64 y.d]
def bV (S:Nat->Prop) (W W':World):Prop:=∀b,S b->W'.heap[b]?=W.heap[b]?
theorem bV.refl (S:Nat->Prop) (W:World):bV S W W:=λ_ _=>rfl
theorem bV.tr {S:Nat->Prop} {A B C:World} (h:bV S A B) (k:bV S B C):bV S A C:=λb hb=>(k b hb).trans (h b hb)
theorem bV.cell {S:Nat->Prop} {W W':World} (h:bV S W W') {p:Addr} {v:Value} (hp:S p.block) (hc:W.cell? p=some v):W'.cell? p=some v:=by
 unfold At at *;rw[h _ hp];exact hc
theorem bV.at_ {S:Nat->Prop} {W W':World} (h:bV S W W') {a:Option Addr} {k:Nat} {rows:List (List Value)} (ha:∀q,a=some q->S q.block) (ah:aF W a k rows):aF W' a k rows:=λhn=>by
 obtain⟨b,off,e,hc⟩:=ah hn;exact⟨b,off,e,λi cs hi j v hj=>h.cell (p:=⟨b,off+i*k+j,none⟩) (ha ⟨b,off,none⟩ e) (hc i cs hi j v hj)⟩
theorem bV.of_below {S:Nat->Prop} {n:Nat} {W W':World} (h:Below n W W') (hS:∀b,S b->b<n):bV S W W':=λb hb=>Below.block h b (hS b hb)
theorem bV.drew (S:Nat->Prop) (W:World):bV S W W.drew:=λ_ _=>rfl
theorem yP0 (n:Nat) (B:List ByteArray) (a:Option Addr) (c bx bL:Nat) (x:eA) (S:Nat->Prop) (w:World) (hB:B.length<=20000) (dm:∀s∈B,s.size<=256) (af3:Asc (bls B)) (g:vK (bls B) x)
  (hSx:S bx) (hSL:S bL) (hSa:∀q,a=some q->S q.block) (af:∀b,S b->b<w.heap.size)
  (ti:w.cell? ⟨bx,0,none⟩=some (.int .i64 x.i)) (lg:w.cell? ⟨bx,1,none⟩=some (.int .i64 x.t)) (ik:w.cell? ⟨bx,2,none⟩=some (.int .i64 x.d))
  (hL:w.cell? ⟨bL,0,none⟩=some (.slice a B.length c)) (ah:aF w a 1 (B.map stC)) :
  SeqStopsK Fence.wide n Tryz.prog 152 #[.pointer (some ⟨bx,0,none⟩),.pointer (some ⟨bL,0,none⟩)] (λy:aE0 (bls B) x => #[hX0 y.1]) (bV S) (λys=>ys.map (·.1)=fH (bls B) x) (λ_=>True) (fH (bls B) x).length w:=by
 intro l J Jx W hW hJ _ hY h0;have hK0:bV S w W:=bV.of_below hW af;have HY:=Aa hY;have HJ:=Aa hJ;have hJd:Hid (∀pre V,J pre V->J pre V.drew):=λpre V h=>hJ pre V V.drew none h ⟨rfl,rfl,rfl,Ac _,λ_ _ _=>rfl⟩ (λr e=>by cases e);obtain⟨c0,t9⟩:∃f:World->Prop,f=λV=>V.cell? ⟨bx,0,none⟩=some (.int .i64 x.i)/\V.cell? ⟨bx,1,none⟩=some (.int .i64 x.t)/\V.cell? ⟨bx,2,none⟩=some (.int .i64 x.d)/\V.cell? ⟨bL,0,none⟩=some (.slice a B.length c)/\aF V a 1 (B.map stC):=⟨_,rfl⟩
 have CEL:Hid (∀V,bV S w V->c0 V):=λV hV=>by
  rw[t9];exact⟨hV.cell hSx ti,hV.cell hSx lg,hV.cell hSx ik,hV.cell hSL hL,hV.at_ hSa ah⟩
 have HC0:=Aa t9;have HG:=Aa g;have HASC:=Aa af3;obtain⟨le1,le2⟩:=g.le;rw[cX]at le2;obtain⟨xi,xt,xd⟩:=x;simp only at le1 le2 ti lg ik
 have aci:xd<=256\/xi=xt:=by
  rcases Nat.lt_or_ge xi xt with h|h
  ·refine Or.inl ?_
   have h1:=g.len xi (Ac _) h;obtain⟨s,hs⟩:∃s,B[xi]?=some s:=⟨_,Ad (by omega)⟩;rw[dK hs,cJ]at h1
   have:=dm s (Am hs)
   simp only at h1;omega
  ·exact Or.inr (by omega)
 have HSZ:=Aa dm;have HD:=Aa aci;have ST:Hid (J [] W):=h0;clear hY hJ t9 ti lg ik hL ah g af3 dm aci h0 af hW;refine callsIn_wide.2 ?_
 obtain⟨d0,d1,d2,dL,dA⟩:W.cell? ⟨bx,0,none⟩=some (.int .i64 xi)/\W.cell? ⟨bx,1,none⟩=some (.int .i64 xt)/\W.cell? ⟨bx,2,none⟩=some (.int .i64 xd)/\W.cell? ⟨bL,0,none⟩=some (.slice a B.length c)/\aF W a 1 (B.map stC):=by
  have:=CEL.out W hK0;rw[HC0.out]at this;exact this
 have z0:∀y:Ext aB W.drew,y.u.cell? ⟨bx,0,none⟩=some (.int .i64 xi):=aG ((aB.drew W).cell d0);have z1:∀y:Ext aB W.drew,y.u.cell? ⟨bx,1,none⟩=some (.int .i64 xt):=aG ((aB.drew W).cell d1);have z2:∀y:Ext aB W.drew,y.u.cell? ⟨bx,2,none⟩=some (.int .i64 xd):=aG ((aB.drew W).cell d2);have zL:∀y:Ext aB W.drew,y.u.cell? ⟨bL,0,none⟩=some (.slice a B.length c):=aG ((aB.drew W).cell dL);by_cases aw:xi<xt
 case neg =>
  have hni:¬(xi:Int)<xt:=by omega
  have mz:fH (bls B) ⟨xi,xt,xd⟩=[]:=by
   unfold fH;exact iY (by unfold cM;simp only;split<;>omega)
  have FIN:Hid (∃xs:List (aE0 (bls B) ⟨xi,xt,xd⟩),xs.map (·.1)=fH (bls B) ⟨xi,xt,xd⟩/\J xs W.drew):=⟨[],mz.symm,hJd.out _ _ ST.out⟩;clear mz;have e1:=(aB.drew W).cell d1;go_enter Tryz.func152,Tryz.ntmps152
  go_wp2_with fail
  refine bH (aT 14 []) (by kernel_rfl) (λd _ _ _ _ h=>by cases d<;>exact h) ?_
  iterate 14 (refine aJ rfl (λK hK=>?_);go_simp;refine hK _ ?_;clear hK K)
  refine bN ?_;clear z0 z1 z2 zL;go_wp2_with fail
  go_loopw [4] (λu wr=>u=.int .i64 xi/\Hid (wr=W.drew)) (λ_ _=>0)
  case atStart=>exact⟨rfl,rfl⟩
  case round =>
   obtain⟨rfl,hw⟩:=hrel;obtain rfl:=hw.out;go_wp2_with fail
   refine bodyPost_end (results_none rfl _ _ _) rfl ⟨⟨_,rfl⟩,.inl FIN.out⟩
 case pos =>
  have hB0:0<B.length:=by omega
  obtain⟨sb,so,rfl,dz⟩:=at1 (f:=λs:ByteArray=>Value.string s) dA (aH (k:=0) hB0);have hxd:xd<=256:=by rcases HD.out with h|h<;>omega
  have CELL:Hid (∀V,bV S w V->V.cell? ⟨bx,1,none⟩=some (.int .i64 xt)/\V.cell? ⟨bx,2,none⟩=some (.int .i64 xd)/\V.cell? ⟨bL,0,none⟩=some (.slice (some ⟨sb,so,none⟩) B.length c)/\∀j s,B[j]?=some s->V.cell? ⟨sb,so+j,none⟩=some (.string s)):=λV hV=>by
   have h:=CEL.out V hV;rw[HC0.out]at h;obtain⟨_,h1,h2,h3,h4⟩:=h;obtain⟨b',o',e,h5⟩:=at1 (f:=λs:ByteArray=>Value.string s) h4 (aH (k:=0) hB0);have e1:sb=b'/\so=o':=by simpa using e
   rw[<-e1.1,<-e1.2]at h5;exact⟨h1,h2,h3,h5⟩
  obtain⟨s0,m4⟩:∃s,B[xi]?=some s:=⟨_,Ad (by omega)⟩;have hn0:=dK m4;have y0:∀y:Ext aB W.drew,y.u.cell? ⟨sb,so+xi,none⟩=some (.string s0):=aG ((aB.drew W).cell (dz xi s0 m4));have akv:(xi:Int)<B.length:=by omega
  have hni:(xi:Int)<xt:=by omega
  have KD:Hid (bV S w W.drew):=hK0.tr (bV.drew S W);obtain⟨I0,hI0⟩:=exq (cM (bls B) ⟨xi,xt,xd⟩);have START:Hid (I0<=xt/\I0=cM (bls B) ⟨xi,xt,xd⟩/\J [] W.drew):=⟨by rw[hI0];unfold cM;simp only;split<;>omega,hI0,hJd.out _ _ ST.out⟩
  clear hK0 d1 d2 dL dA dz;have LOOP:Hid (xi<=I0):=by show _<=_;rw[hI0];unfold cM;simp only;split<;>omega
  by_cases hh:s0.size=xd
  ·have hI1:I0=xi+1:=by
    rw[hI0];unfold cM lQ;rw[if_pos];simp[aw,hn0,cJ,hh]
   have y6:((s0.size:Int)==xd)=true:=by rw[hh];simp
   have wI:IntKind.i64.wrap ((xi:Int)+1)=I0:=by simp[Ag,Ah,Af];omega
   have HI1:=Aa hI1;clear hI0 hI1 hh hn0 m4;go_enter Tryz.func152,Tryz.ntmps152
   go_wp2_with fail
   refine bH (aT 14 []) (by kernel_rfl) (λd _ _ _ _ h=>by cases d<;>exact h) ?_
   iterate 14 (refine aJ rfl (λK hK=>?_);go_simp;refine hK _ ?_;clear hK K)
   refine bN ?_;clear z0 z1 z2 zL y0 d0;go_wp2_with fail
   go_loopw [4] (λu wr=>∃(I:Nat) (pre:List (aE0 (bls B) ⟨xi,xt,xd⟩)),u=.int .i64 I/\xi<=I/\I<=xt/\Hid (cM (bls B) ⟨xi,xt,xd⟩<=I/\pre.map (·.1)++fU (bls B) xd xt I=fH (bls B) ⟨xi,xt,xd⟩)/\Hid (bV S w wr)/\Hid (J pre wr)) (λu _=>xt-(intOf u).toNat)
   case atStart =>
    refine⟨I0,[],by first|go_num|(rw[HI1.out]),LOOP.out,START.out.1,⟨by rw[START.out.2.1];exact Ac _,?_⟩,KD.out,START.out.2.2⟩
    rw[START.out.2.1];rfl
   case round =>
    clear START KD LOOP ST;obtain⟨I,pre,rfl,hxI,hIt,hP,hK,ml⟩:=hrel;obtain⟨d1,d2,dL,dS⟩:=CELL.out wr hK.out;by_cases af:I<xt
    ·have jk:(I:Int)<xt:=by omega
     obtain⟨sI,yj⟩:∃s,B[I]?=some s:=⟨_,Ad (by omega)⟩;have hdI:xd<(nth (bls B) I).length:=HG.out.start HASC.out (j:=I) hP.out.1 af;rw[dK yj,cJ]at hdI;have wK:IntKind.i64.wrap ((I:Int)+1)=(I+1:Nat):=by simp[Ag,Ah,Af];omega
     have KI:=Aa hK.out;have JI:=Aa ml.out;have HSI:=Aa yj;clear dL dS d2 hK ml yj;go_wp2_with fail
     go_loopw [5] (λu wq=>∃(K:Nat),u=.int .i64 K/\I+1<=K/\K<=xt/\Hid (eU (bls B) xd xt I=tX (jO (bls B) xd I) xt K)/\Hid (bV S w wq)/\Hid (J pre wq)) (λu _=>xt-(intOf u).toNat)
     case atStart=>exact⟨I+1,by go_num,Ac _,af,rfl,KI.out,JI.out⟩
     case round =>
      clear KI JI;obtain⟨K,rfl,hIK,hKt,hE,hK,ml⟩:=hrel;obtain⟨d1,d2,dL,dS⟩:=CELL.out wr hK.out;have x1:∀y:Ext aB wr.drew,y.u.cell? ⟨bx,1,none⟩=some (.int .i64 xt):=aG ((aB.drew wr).cell d1);have x2:∀y:Ext aB wr.drew,y.u.cell? ⟨bx,2,none⟩=some (.int .i64 xd):=aG ((aB.drew wr).cell d2);have xL:∀y:Ext aB wr.drew,y.u.cell? ⟨bL,0,none⟩=some (.slice (some ⟨sb,so,none⟩) B.length c):=aG ((aB.drew wr).cell dL);have xI:∀y:Ext aB wr.drew,y.u.cell? ⟨sb,so+I,none⟩=some (.string sI):=aG ((aB.drew wr).cell (dS I sI HSI.out));have hIl:(I:Int)<B.length:=by omega
      have K2:=Aa (hK.out.tr (bV.drew S wr));have J2:=Aa (hJd.out _ _ ml.out);by_cases ci:K<xt
      ·have qt:(K:Int)<xt:=by omega
       obtain⟨sK,yk⟩:∃s,B[K]?=some s:=⟨_,Ad (by omega)⟩;have hdK:xd<(nth (bls B) K).length:=HG.out.start HASC.out (j:=K) (by have:=hP.out.1;omega) ci;rw[dK yk,cJ]at hdK;have air:(xd:Int)<sI.size:=by omega
       have ais:(xd:Int)<sK.size:=by omega
       have hKl:(K:Int)<B.length:=by omega
       have xK:∀y:Ext aB wr.drew,y.u.cell? ⟨sb,so+K,none⟩=some (.string sK):=aG ((aB.drew wr).cell (dS K sK yk));have wK2:IntKind.i64.wrap ((K:Int)+1)=(K+1:Nat):=by simp[Ag,Ah,Af];omega
       by_cases he:sK[xd]=sI[xd]
       ·have hb:((sK[xd].toNat:Int)==sI[xd].toNat)=true:=by rw[he];simp
        have SM:Hid (jO (bls B) xd I K=true):=by
         show _=_
         unfold jO;rw[dK yk,dK HSI.out,nR hdK,nR hdI,he];simp
        clear d1 d2 dL dS yk he hK ml;go_wp2_with fail
        refine bH (aT 21 []) (by kernel_rfl) (λd _ _ _ _ h=>by cases d<;>exact h) ?_
        iterate 21 (refine aJ rfl (λK hK=>?_);go_simp;refine hK _ ?_;clear hK K)
        refine bN ?_;clear x1 x2 xL xI xK;go_wp2_with fail
        go_roundw
        case rel=>exact⟨K+1,by go_num,by omega,ci,by rw[hE.out,uK ci SM.out];exact rfl,K2.out,J2.out⟩
        case measure=>simp[intOf];omega
       ·have hb:((sK[xd].toNat:Int)==sI[xd].toNat)=false:=by
         rw[beq_eq_false_iff_ne];intro h;exact he (UInt8.toNat_inj.1 (by omega))
        have SM:Hid (eU (bls B) xd xt I=K):=by
         show _=_
         rw[hE.out,jZ];rintro⟨_,h⟩;unfold jO at h;rw[dK yk,dK HSI.out,nR hdK,nR hdI]at h;simp at h;exact he h
        clear d1 d2 dL dS yk he hK ml;go_wp2_with fail
        refine bH (aT 21 []) (by kernel_rfl) (λd _ _ _ _ h=>by cases d<;>exact h) ?_
        iterate 21 (refine aJ rfl (λK hK=>?_);go_simp;refine hK _ ?_;clear hK K)
        refine bN ?_;clear x1 x2 xL xI xK;have e2:=K2.out;have d9:=iH (L:=bls B) (d:=xd) (t:=xt) (i:=I) af;rw[SM.out]at d9
        have ew:(⟨I,K,xd+1⟩:eA)∈fH (bls B) ⟨xi,xt,xd⟩:=by
         rw[<-hP.out.2,d9];simp
        have ay:pre.length<(fH (bls B) ⟨xi,xt,xd⟩).length:=by
         rw[<-hP.out.2,d9];simp
        have PN:Hid ((pre++[(⟨⟨I,K,xd+1⟩,ew⟩:aE0 (bls B) ⟨xi,xt,xd⟩)]).map (λy=>y.1)++fU (bls B) xd xt K=fH (bls B) ⟨xi,xt,xd⟩):=by
         have h2:=hP.out.2;rw[d9]at h2;show _=_
         rw[An,Al];exact h2
        obtain⟨fn,tmps,assign,body,hy,hR⟩:=HY.out pre ⟨⟨I,K,xd+1⟩,ew⟩ wr.drew J2.out ay;dsimp only[hX0]at hy
        have iy:((xd+1:Nat):Int)=(xd:Int)+1:=by omega
        rw[iy]at hy;have uz:=Aa hR;have PS:Hid (cM (bls B) ⟨xi,xt,xd⟩<=K):=by have:=hP.out.1;show _<=_;omega
        have d2:=(CELL.out _ K2.out).2.1;have wd:IntKind.i64.wrap ((xd:Int)+1)=(xd+1:Nat):=by simp[Ag,Ah,Af];omega
        clear d9 hR ay e2 hP iy wd;iterate 10 go_step
        refine fI0 7 n ?_;gi_wp2
        refine⟨λh=>(by cases h),?_⟩;refine uz.out.mono ?_;rintro e W3 (⟨rfl,qz,o6⟩|⟨rfl,jm⟩)
        ·gi_wp2
         have K3:=Aa (K2.out.tr o6);have J3:=Aa qz;clear uz hy qz o6;go_wp2_with fail
         go_roundw
         case rel=>exact⟨K,_,by go_num,by omega,hKt,⟨PS.out,PN.out⟩,K3.out,J3.out⟩
         case measure=>simp[intOf];omega
        ·have JX:=Aa jm
         clear uz hy jm;gi_wp2
         go_wp2_with fail
         exact bodyPost_ret (results_none rfl _ _ _) rfl ⟨⟨_,rfl⟩,.inr ⟨_,trivial,JX.out⟩⟩
      ·have qt:¬(K:Int)<xt:=by omega
       have SM:Hid (eU (bls B) xd xt I=K):=by
        show _=_
        rw[hE.out,jZ (by omega)]
       clear d1 d2 dL dS hK ml;go_wp2_with fail
       refine bH (aT 21 []) (by kernel_rfl) (λd _ _ _ _ h=>by cases d<;>exact h) ?_
       iterate 21 (refine aJ rfl (λK hK=>?_);go_simp;refine hK _ ?_;clear hK K)
       refine bN ?_;clear x1 x2 xL xI;have e2:=K2.out;have d9:=iH (L:=bls B) (d:=xd) (t:=xt) (i:=I) af;rw[SM.out]at d9
       have ew:(⟨I,K,xd+1⟩:eA)∈fH (bls B) ⟨xi,xt,xd⟩:=by
        rw[<-hP.out.2,d9];simp
       have ay:pre.length<(fH (bls B) ⟨xi,xt,xd⟩).length:=by
        rw[<-hP.out.2,d9];simp
       have PN:Hid ((pre++[(⟨⟨I,K,xd+1⟩,ew⟩:aE0 (bls B) ⟨xi,xt,xd⟩)]).map (λy=>y.1)++fU (bls B) xd xt K=fH (bls B) ⟨xi,xt,xd⟩):=by
        have h2:=hP.out.2;rw[d9]at h2;show _=_
        rw[An,Al];exact h2
       obtain⟨fn,tmps,assign,body,hy,hR⟩:=HY.out pre ⟨⟨I,K,xd+1⟩,ew⟩ wr.drew J2.out ay;dsimp only[hX0]at hy
       have iy:((xd+1:Nat):Int)=(xd:Int)+1:=by omega
       rw[iy]at hy;have uz:=Aa hR;have PS:Hid (cM (bls B) ⟨xi,xt,xd⟩<=K):=by have:=hP.out.1;show _<=_;omega
       have d2:=(CELL.out _ K2.out).2.1;have wd:IntKind.i64.wrap ((xd:Int)+1)=(xd+1:Nat):=by simp[Ag,Ah,Af];omega
       clear d9 hR ay e2 hP iy wd;iterate 10 go_step
       refine fI0 7 n ?_;gi_wp2
       refine⟨λh=>(by cases h),?_⟩;refine uz.out.mono ?_;rintro e W3 (⟨rfl,qz,o6⟩|⟨rfl,jm⟩)
       ·gi_wp2
        have K3:=Aa (K2.out.tr o6);have J3:=Aa qz;clear uz hy qz o6;go_wp2_with fail
        go_roundw
        case rel=>exact⟨K,_,by go_num,by omega,hKt,⟨PS.out,PN.out⟩,K3.out,J3.out⟩
        case measure=>simp[intOf];omega
       ·have JX:=Aa jm
        clear uz hy jm;gi_wp2
        go_wp2_with fail
        exact bodyPost_ret (results_none rfl _ _ _) rfl ⟨⟨_,rfl⟩,.inr ⟨_,trivial,JX.out⟩⟩
    ·have jk:¬(I:Int)<xt:=by omega
     have FIN:Hid (∃xs:List (aE0 (bls B) ⟨xi,xt,xd⟩),xs.map (·.1)=fH (bls B) ⟨xi,xt,xd⟩/\J xs wr):=by
      refine⟨pre,?_,ml.out⟩;have h:=hP.out.2;rw[iY af,Be]at h;exact h
     clear dL dS d2 hK ml hP;go_wp2_with fail
     exact bodyPost_end (results_none rfl _ _ _) rfl ⟨⟨_,rfl⟩,.inl FIN.out⟩
  ·have hI1:I0=xi:=by
    rw[hI0];unfold cM lQ;rw[if_neg];simp[aw,hn0,cJ,hh]
   have y6:((s0.size:Int)==xd)=false:=by
    rw[beq_eq_false_iff_ne];omega
   have HI1:=Aa hI1;clear hI0 hI1 hh hn0 m4;go_enter Tryz.func152,Tryz.ntmps152
   go_wp2_with fail
   refine bH (aT 14 []) (by kernel_rfl) (λd _ _ _ _ h=>by cases d<;>exact h) ?_
   iterate 14 (refine aJ rfl (λK hK=>?_);go_simp;refine hK _ ?_;clear hK K)
   refine bN ?_;clear z0 z1 z2 zL y0 d0;go_wp2_with fail
   go_loopw [4] (λu wr=>∃(I:Nat) (pre:List (aE0 (bls B) ⟨xi,xt,xd⟩)),u=.int .i64 I/\xi<=I/\I<=xt/\Hid (cM (bls B) ⟨xi,xt,xd⟩<=I/\pre.map (·.1)++fU (bls B) xd xt I=fH (bls B) ⟨xi,xt,xd⟩)/\Hid (bV S w wr)/\Hid (J pre wr)) (λu _=>xt-(intOf u).toNat)
   case atStart =>
    refine⟨I0,[],by first|go_num|(rw[HI1.out]),LOOP.out,START.out.1,⟨by rw[START.out.2.1];exact Ac _,?_⟩,KD.out,START.out.2.2⟩
    rw[START.out.2.1];rfl
   case round =>
    clear START KD LOOP ST;obtain⟨I,pre,rfl,hxI,hIt,hP,hK,ml⟩:=hrel;obtain⟨d1,d2,dL,dS⟩:=CELL.out wr hK.out;by_cases af:I<xt
    ·have jk:(I:Int)<xt:=by omega
     obtain⟨sI,yj⟩:∃s,B[I]?=some s:=⟨_,Ad (by omega)⟩;have hdI:xd<(nth (bls B) I).length:=HG.out.start HASC.out (j:=I) hP.out.1 af;rw[dK yj,cJ]at hdI;have wK:IntKind.i64.wrap ((I:Int)+1)=(I+1:Nat):=by simp[Ag,Ah,Af];omega
     have KI:=Aa hK.out;have JI:=Aa ml.out;have HSI:=Aa yj;clear dL dS d2 hK ml yj;go_wp2_with fail
     go_loopw [5] (λu wq=>∃(K:Nat),u=.int .i64 K/\I+1<=K/\K<=xt/\Hid (eU (bls B) xd xt I=tX (jO (bls B) xd I) xt K)/\Hid (bV S w wq)/\Hid (J pre wq)) (λu _=>xt-(intOf u).toNat)
     case atStart=>exact⟨I+1,by go_num,Ac _,af,rfl,KI.out,JI.out⟩
     case round =>
      clear KI JI;obtain⟨K,rfl,hIK,hKt,hE,hK,ml⟩:=hrel;obtain⟨d1,d2,dL,dS⟩:=CELL.out wr hK.out;have x1:∀y:Ext aB wr.drew,y.u.cell? ⟨bx,1,none⟩=some (.int .i64 xt):=aG ((aB.drew wr).cell d1);have x2:∀y:Ext aB wr.drew,y.u.cell? ⟨bx,2,none⟩=some (.int .i64 xd):=aG ((aB.drew wr).cell d2);have xL:∀y:Ext aB wr.drew,y.u.cell? ⟨bL,0,none⟩=some (.slice (some ⟨sb,so,none⟩) B.length c):=aG ((aB.drew wr).cell dL);have xI:∀y:Ext aB wr.drew,y.u.cell? ⟨sb,so+I,none⟩=some (.string sI):=aG ((aB.drew wr).cell (dS I sI HSI.out));have hIl:(I:Int)<B.length:=by omega
      have K2:=Aa (hK.out.tr (bV.drew S wr));have J2:=Aa (hJd.out _ _ ml.out);by_cases ci:K<xt
      ·have qt:(K:Int)<xt:=by omega
       obtain⟨sK,yk⟩:∃s,B[K]?=some s:=⟨_,Ad (by omega)⟩;have hdK:xd<(nth (bls B) K).length:=HG.out.start HASC.out (j:=K) (by have:=hP.out.1;omega) ci;rw[dK yk,cJ]at hdK;have air:(xd:Int)<sI.size:=by omega
       have ais:(xd:Int)<sK.size:=by omega
       have hKl:(K:Int)<B.length:=by omega
       have xK:∀y:Ext aB wr.drew,y.u.cell? ⟨sb,so+K,none⟩=some (.string sK):=aG ((aB.drew wr).cell (dS K sK yk));have wK2:IntKind.i64.wrap ((K:Int)+1)=(K+1:Nat):=by simp[Ag,Ah,Af];omega
       by_cases he:sK[xd]=sI[xd]
       ·have hb:((sK[xd].toNat:Int)==sI[xd].toNat)=true:=by rw[he];simp
        have SM:Hid (jO (bls B) xd I K=true):=by
         show _=_
         unfold jO;rw[dK yk,dK HSI.out,nR hdK,nR hdI,he];simp
        clear d1 d2 dL dS yk he hK ml;go_wp2_with fail
        refine bH (aT 21 []) (by kernel_rfl) (λd _ _ _ _ h=>by cases d<;>exact h) ?_
        iterate 21 (refine aJ rfl (λK hK=>?_);go_simp;refine hK _ ?_;clear hK K)
        refine bN ?_;clear x1 x2 xL xI xK;go_wp2_with fail
        go_roundw
        case rel=>exact⟨K+1,by go_num,by omega,ci,by rw[hE.out,uK ci SM.out];exact rfl,K2.out,J2.out⟩
        case measure=>simp[intOf];omega
       ·have hb:((sK[xd].toNat:Int)==sI[xd].toNat)=false:=by
         rw[beq_eq_false_iff_ne];intro h;exact he (UInt8.toNat_inj.1 (by omega))
        have SM:Hid (eU (bls B) xd xt I=K):=by
         show _=_
         rw[hE.out,jZ];rintro⟨_,h⟩;unfold jO at h;rw[dK yk,dK HSI.out,nR hdK,nR hdI]at h;simp at h;exact he h
        clear d1 d2 dL dS yk he hK ml;go_wp2_with fail
        refine bH (aT 21 []) (by kernel_rfl) (λd _ _ _ _ h=>by cases d<;>exact h) ?_
        iterate 21 (refine aJ rfl (λK hK=>?_);go_simp;refine hK _ ?_;clear hK K)
        refine bN ?_;clear x1 x2 xL xI xK;have e2:=K2.out;have d9:=iH (L:=bls B) (d:=xd) (t:=xt) (i:=I) af;rw[SM.out]at d9
        have ew:(⟨I,K,xd+1⟩:eA)∈fH (bls B) ⟨xi,xt,xd⟩:=by
         rw[<-hP.out.2,d9];simp
        have ay:pre.length<(fH (bls B) ⟨xi,xt,xd⟩).length:=by
         rw[<-hP.out.2,d9];simp
        have PN:Hid ((pre++[(⟨⟨I,K,xd+1⟩,ew⟩:aE0 (bls B) ⟨xi,xt,xd⟩)]).map (λy=>y.1)++fU (bls B) xd xt K=fH (bls B) ⟨xi,xt,xd⟩):=by
         have h2:=hP.out.2;rw[d9]at h2;show _=_
         rw[An,Al];exact h2
        obtain⟨fn,tmps,assign,body,hy,hR⟩:=HY.out pre ⟨⟨I,K,xd+1⟩,ew⟩ wr.drew J2.out ay;dsimp only[hX0]at hy
        have iy:((xd+1:Nat):Int)=(xd:Int)+1:=by omega
        rw[iy]at hy;have uz:=Aa hR;have PS:Hid (cM (bls B) ⟨xi,xt,xd⟩<=K):=by have:=hP.out.1;show _<=_;omega
        have d2:=(CELL.out _ K2.out).2.1;have wd:IntKind.i64.wrap ((xd:Int)+1)=(xd+1:Nat):=by simp[Ag,Ah,Af];omega
        clear d9 hR ay e2 hP iy wd;iterate 10 go_step
        refine fI0 7 n ?_;gi_wp2
        refine⟨λh=>(by cases h),?_⟩;refine uz.out.mono ?_;rintro e W3 (⟨rfl,qz,o6⟩|⟨rfl,jm⟩)
        ·gi_wp2
         have K3:=Aa (K2.out.tr o6);have J3:=Aa qz;clear uz hy qz o6;go_wp2_with fail
         go_roundw
         case rel=>exact⟨K,_,by go_num,by omega,hKt,⟨PS.out,PN.out⟩,K3.out,J3.out⟩
         case measure=>simp[intOf];omega
        ·have JX:=Aa jm
         clear uz hy jm;gi_wp2
         go_wp2_with fail
         exact bodyPost_ret (results_none rfl _ _ _) rfl ⟨⟨_,rfl⟩,.inr ⟨_,trivial,JX.out⟩⟩
      ·have qt:¬(K:Int)<xt:=by omega
       have SM:Hid (eU (bls B) xd xt I=K):=by
        show _=_
        rw[hE.out,jZ (by omega)]
       clear d1 d2 dL dS hK ml;go_wp2_with fail
       refine bH (aT 21 []) (by kernel_rfl) (λd _ _ _ _ h=>by cases d<;>exact h) ?_
       iterate 21 (refine aJ rfl (λK hK=>?_);go_simp;refine hK _ ?_;clear hK K)
       refine bN ?_;clear x1 x2 xL xI;have e2:=K2.out;have d9:=iH (L:=bls B) (d:=xd) (t:=xt) (i:=I) af;rw[SM.out]at d9
       have ew:(⟨I,K,xd+1⟩:eA)∈fH (bls B) ⟨xi,xt,xd⟩:=by
        rw[<-hP.out.2,d9];simp
       have ay:pre.length<(fH (bls B) ⟨xi,xt,xd⟩).length:=by
        rw[<-hP.out.2,d9];simp
       have PN:Hid ((pre++[(⟨⟨I,K,xd+1⟩,ew⟩:aE0 (bls B) ⟨xi,xt,xd⟩)]).map (λy=>y.1)++fU (bls B) xd xt K=fH (bls B) ⟨xi,xt,xd⟩):=by
        have h2:=hP.out.2;rw[d9]at h2;show _=_
        rw[An,Al];exact h2
       obtain⟨fn,tmps,assign,body,hy,hR⟩:=HY.out pre ⟨⟨I,K,xd+1⟩,ew⟩ wr.drew J2.out ay;dsimp only[hX0]at hy
       have iy:((xd+1:Nat):Int)=(xd:Int)+1:=by omega
       rw[iy]at hy;have uz:=Aa hR;have PS:Hid (cM (bls B) ⟨xi,xt,xd⟩<=K):=by have:=hP.out.1;show _<=_;omega
       have d2:=(CELL.out _ K2.out).2.1;have wd:IntKind.i64.wrap ((xd:Int)+1)=(xd+1:Nat):=by simp[Ag,Ah,Af];omega
       clear d9 hR ay e2 hP iy wd;iterate 10 go_step
       refine fI0 7 n ?_;gi_wp2
       refine⟨λh=>(by cases h),?_⟩;refine uz.out.mono ?_;rintro e W3 (⟨rfl,qz,o6⟩|⟨rfl,jm⟩)
       ·gi_wp2
        have K3:=Aa (K2.out.tr o6);have J3:=Aa qz;clear uz hy qz o6;go_wp2_with fail
        go_roundw
        case rel=>exact⟨K,_,by go_num,by omega,hKt,⟨PS.out,PN.out⟩,K3.out,J3.out⟩
        case measure=>simp[intOf];omega
       ·have JX:=Aa jm
        clear uz hy jm;gi_wp2
        go_wp2_with fail
        exact bodyPost_ret (results_none rfl _ _ _) rfl ⟨⟨_,rfl⟩,.inr ⟨_,trivial,JX.out⟩⟩
    ·have jk:¬(I:Int)<xt:=by omega
     have FIN:Hid (∃xs:List (aE0 (bls B) ⟨xi,xt,xd⟩),xs.map (·.1)=fH (bls B) ⟨xi,xt,xd⟩/\J xs wr):=by
      refine⟨pre,?_,ml.out⟩;have h:=hP.out.2;rw[iY af,Be]at h;exact h
     clear dL dS d2 hK ml hP;go_wp2_with fail
     exact bodyPost_end (results_none rfl _ _ _) rfl ⟨⟨_,rfl⟩,.inl FIN.out⟩
end
section
open Go Go.RowKit Go.Shelf
def bT0 (y:eA):List Value:=[.int .i64 y.i,.int .i64 y.t,.int .i64 y.d]
theorem mV0:eG Tryz.prog 171 170 3 24 bT0 where
 sl:=Tryz.underlying171
 info:=eY (z:=.agg #[.int .i64 0,.int .i64 0,.int .i64 0]) (by kernel_rfl) rfl
 pos:=by decide
 by1:=by decide
 len _:=rfl
 one x u hu:=by
  simp[bT0]at hu;rcases hu with rfl|rfl|rfl<;>rfl
theorem gG1:∃i,Tryz.prog.info? 3=some i/\i.zero=some (.int .i64 0)/\i.size=1/\i.bytes=8:=by
 have h:(Tryz.prog.info? 3).map (λi=>(i.zero,i.size,i.bytes))=some (some (.int .i64 0),1,8):=by kernel_rfl
 cases hi:Tryz.prog.info? 3 with
 | none=>rw[hi]at h;cases h
 | some i =>
  rw[hi]at h;simp only[Option.map_some,Option.some.injEq,Prod.mk.injEq]at h;exact⟨i,rfl,h.1,h.2.1,h.2.2⟩
theorem bL1 (n:Nat) (W:World) (hn:n<=1048576):(Instr.makeSlice 63 (.int .i64 n) (.int .i64 n)).run Tryz.prog W=.ok (.slice (some ⟨W.heap.size,0,none⟩) n n) (W.alloc (.cells (madeCells #[.int .i64 0] (n*1)) 3)):=by
 obtain⟨i,h1,h2,h3,h4⟩:=gG1;have h:=run_make (P:=Tryz.prog) W 63 3 i (.int .i64 0) Tryz.underlying63 h1 h2 .i64 .i64 n n (by omega) (Int.le_refl _) (by rw[h4];omega) (by omega);rw[Int.toNat_natCast,h3]at h;exact h
theorem eF0 {w:World} {n:Nat} (hn:n<=1048576):aO (w.alloc (.cells (madeCells #[.int .i64 0] (n*1)) 3)) w.heap.size 3 1 jP (.slice (some ⟨w.heap.size,0,none⟩) n n) (Ao n 0) :=
 fY (enc:=jP) (λ_=>rfl) (Ac _) (Ao n 0) (by
  rw[toList_madeCells_one,Bd];unfold jP;rw[tB,List.map_replicate];rfl) (by simp) (by unfold maxLen;omega)
def kJ0:Obj->Option TypeId
 | .cells _ t _=>some t
 | _=>none
def RT (w:World) (row:Option Nat) (τ:Option TypeId):Prop:=∀q,row=some q->∃o,w.heap[q]?=some o/\kJ0 o=τ
theorem RT.none (w:World) (τ:Option TypeId):RT w none τ:=λq h=>by cases h
theorem RT.own {α:Type} {w:World} {base:Nat} {e:TypeId} {k:Nat} {enc:α->List Value} {v:Value} {xs:List α} (h:aO w base e k enc v xs):RT w v.ownBlock (some e):=λq hq=>by
 rcases h.2 with ⟨rfl,_⟩|⟨g,cap,ei,rfl,_,hh,_⟩
 ·cases hq
 ·have:g=q:=Option.some.inj hq
  subst this;exact⟨_,hh,rfl⟩
def TB (w:World) (b:Nat) (cs:Array Value) (t:TypeId):Prop:=w.heap[b]?=some (.cells cs t (0,0))
theorem TB.lt {w:World} {b:Nat} {cs:Array Value} {t:TypeId} (h:TB w b cs t):b<w.heap.size:=(Array.getElem?_eq_some_iff.1 h).1
theorem TB.rt {w:World} {b:Nat} {cs:Array Value} {t:TypeId} (h:TB w b cs t):RT w (some b) (some t):=λq hq=>by cases hq; exact⟨_,h,rfl⟩
theorem TB.cell {w:World} {b:Nat} {cs:Array Value} {t:TypeId} (h:TB w b cs t) {o:Nat} {v:Value} (hv:cs[o]?=some v):w.cell? ⟨b,o,none⟩=some v:=by
 unfold TB at h;simp[At,h,hv]
theorem TB.froz {w:World} {b:Nat} {cs:Array Value} {t:TypeId} (h:TB w b cs t) (o:Nat):w.frozen? ⟨b,o,none⟩=false:=by
 unfold TB at h;simp[World.frozen?,h]
theorem TB.keep {w w':World} {b:Nat} {cs:Array Value} {t:TypeId} {row:Option Nat} {τ:Option TypeId} (h:TB w b cs t) (hg:w.grownBy w' row) (hr:RT w row τ) (aw:τ≠some t):TB w' b cs t:=by
 unfold TB at *;rw[hg.block b (TB.lt h) (λe=>?_)]
 ·exact h
 ·obtain⟨o,h1,h2⟩:=hr b e.symm
  rw[h]at h1;cases h1
  exact aw h2.symm
theorem TB.set {w:World} {b:Nat} {cs:Array Value} {t:TypeId} (h:TB w b cs t) (o:Nat) (v:Value):TB (w.setCell ⟨b,o,none⟩ v) b (cs.setIfInBounds o v) t:=heap_setCell_same w b o cs t v h
theorem TB.alloc (w:World) (cs:Array Value) (t:TypeId):TB (w.alloc (.cells cs t)) w.heap.size cs t:=by
 show (w.heap.push _)[w.heap.size]?=_
 simp
theorem aU (W:World) (b o:Nat) (v:Value):W.grownBy (W.setCell ⟨b,o,none⟩ v) (some b) :=
 ⟨rfl,rfl,rfl,by simp,λk _ hk=>Below.heap_setCell _ _ _ k (λe=>hk (by rw[e]))⟩
theorem aK {α:Type} {w w':World} {base:Nat} {e:TypeId} {k:Nat} {enc:α->List Value} {u:Value} {ys:List α} {row:Option Nat} {τ:Option TypeId} (h:aO w base e k enc u ys) (hg:w.grownBy w' row) (hr:RT w row τ) (aw:τ≠some e):aO w' base e k enc u ys:=by
 refine bC0 h hg ?_
 cases hu:u.ownBlock with
 | none=>exact Or.inl rfl
 | some q =>
  refine Or.inr λhv=>?_;obtain⟨o,h1,h2⟩:=hr q hv.symm;obtain⟨o',h3,h4⟩:=RT.own h q hu;rw[h1]at h3;cases h3
  exact aw (h2.symm.trans h4)
structure BD where
 vS:Value
 vA:Value
 vL:Value
 vI:Value
 vD:Value
 sh:List Bool
 al:List eA
 lab:List UInt8
 isl:List Bool
 idl:List Nat
 nd:List Nat
structure Bst (w0 wr:World) (s n:Nat) (lv:Value) (d:BD):Prop where
 b1:TB wr s #[lv] 71
 b4:TB wr (s+3) #[.pointer (some ⟨s+2,0,none⟩)] 94
 b2:TB wr (s+2) #[.pointer none,.pointer none,d.vL,.pointer none,.slice (some ⟨s+1,0,none⟩) n n] 167
 b6:TB wr (s+5) #[d.vS] 121
 b8:TB wr (s+7) #[d.vA] 171
 oL:aO wr s 5 1 aQ d.vL d.lab
 oN:aO wr s 3 1 jP (.slice (some ⟨s+1,0,none⟩) n n) d.nd
 oS:aO wr s 4 1 jJ d.vS d.sh
 oA:aO wr s 170 3 bT0 d.vA d.al
 oI:aO wr s 4 1 jJ d.vI d.isl
 oD:aO wr s 142 1 jR d.vD d.idl
 ap:qN d.vS d.vI
 gr:aB w0 wr
 s0:s=w0.heap.size
theorem Bst.keep {w0 wr w':World} {s n:Nat} {lv:Value} {d:BD} (h:Bst w0 wr s n lv d) {row:Option Nat} {τ:Option TypeId} (hg:wr.grownBy w' row) (hr:RT wr row τ) (hs:∀q,row=some q->s<=q)
  (hτ:∀t∈[71,94,167,121,171,5,3,4,142],τ≠some t) (hA:aO w' s 170 3 bT0 d.vA d.al):Bst w0 w' s n lv d where
 b1:=h.b1.keep hg hr (hτ _ (by simp))
 b4:=h.b4.keep hg hr (hτ _ (by simp))
 b2:=h.b2.keep hg hr (hτ _ (by simp))
 b6:=h.b6.keep hg hr (hτ _ (by simp))
 b8:=h.b8.keep hg hr (hτ _ (by simp))
 oL:=aK h.oL hg hr (hτ _ (by simp))
 oN:=aK h.oN hg hr (hτ _ (by simp))
 oS:=aK h.oS hg hr (hτ _ (by simp))
 oA:=hA
 oI:=aK h.oI hg hr (hτ _ (by simp))
 oD:=aK h.oD hg hr (hτ _ (by simp))
 ap:=h.ap
 gr:=h.gr.grown hg (λq hq=>by rw[<-h.s0];exact hs q hq)
 s0:=h.s0
theorem Bst.other {w0 wr w':World} {s n:Nat} {lv:Value} {d:BD} (h:Bst w0 wr s n lv d) {row:Option Nat} (hg:wr.grownBy w' row) (hr:RT wr row none) (hs:∀q,row=some q->s<=q):Bst w0 w' s n lv d :=
 h.keep hg hr hs (λt _=>by simp) (aK h.oA hg hr (by simp))
theorem Bst.al {w0 wr:World} {s n:Nat} {lv:Value} {d:BD} (h:Bst w0 wr s n lv d) (o:Obj):Bst w0 (wr.alloc o) s n lv d:=h.other (Ai _ _ none) (RT.none _ _) (λq e=>by cases e)
theorem Bst.dr {w0 wr:World} {s n:Nat} {lv:Value} {d:BD} (h:Bst w0 wr s n lv d):Bst w0 wr.drew s n lv d:=h.other (row:=none) ⟨rfl,rfl,rfl,Ac _,λ_ _ _=>rfl⟩ (RT.none _ _) (λq e=>by cases e)
theorem Bst.pushS {w0 wr w':World} {s n:Nat} {lv:Value} {d:BD} (h:Bst w0 wr s n lv d) {v:Value} {sh:List Bool} (ho:aO w' s 4 1 jJ v sh) (hg:wr.grownBy w' d.vS.ownBlock) (hf:xS wr d.vS v) :
  Bst w0 (w'.setCell ⟨s+5,0,none⟩ v) s n lv { d with vS:=v,sh:=sh }:=by
 have hr:=RT.own h.oS;have hsr:∀q,d.vS.ownBlock=some q->s<=q:=λq hq=>bF h.oS q hq;have k6:=h.b6.keep hg hr (by decide);have an:=aU w' (s+5) 0 v;have dd:=k6.rt
 refine⟨(h.b1.keep hg hr (by decide)).keep an dd (by decide),(h.b4.keep hg hr (by decide)).keep an dd (by decide),(h.b2.keep hg hr (by decide)).keep an dd (by decide),?_,(h.b8.keep hg hr (by decide)).keep an dd (by decide),
  aK (aK h.oL hg hr (by decide)) an dd (by decide),aK (aK h.oN hg hr (by decide)) an dd (by decide),aK ho an dd (by decide),aK (aK h.oA hg hr (by decide)) an dd (by decide),
  aK (mF h.oI hg h.ap) an dd (by decide),aK (aK h.oD hg hr (by decide)) an dd (by decide),h.ap.fresh (gP h.oI) hf,(h.gr.grown hg (λq hq=>by rw[<-h.s0];exact hsr q hq)).set (by rw[<-h.s0];simp) _,h.s0⟩
 have:=k6.set 0 v
 simpa using this
theorem Bst.pushL {w0 wr w':World} {s n:Nat} {lv:Value} {d:BD} (h:Bst w0 wr s n lv d) {v:Value} {l:List UInt8} (ho:aO w' s 5 1 aQ v l) (hg:wr.grownBy w' d.vL.ownBlock) :
  Bst w0 (w'.setCell ⟨s+2,2,none⟩ v) s n lv { d with vL:=v,lab:=l }:=by
 have hr:=RT.own h.oL;have hsr:∀q,d.vL.ownBlock=some q->s<=q:=λq hq=>bF h.oL q hq;have k2:=h.b2.keep hg hr (by decide);have an:=aU w' (s+2) 2 v;have dd:=k2.rt
 refine⟨(h.b1.keep hg hr (by decide)).keep an dd (by decide),(h.b4.keep hg hr (by decide)).keep an dd (by decide),?_,(h.b6.keep hg hr (by decide)).keep an dd (by decide),(h.b8.keep hg hr (by decide)).keep an dd (by decide),
  aK ho an dd (by decide),aK (aK h.oN hg hr (by decide)) an dd (by decide),aK (aK h.oS hg hr (by decide)) an dd (by decide),aK (aK h.oA hg hr (by decide)) an dd (by decide),
  aK (aK h.oI hg hr (by decide)) an dd (by decide),aK (aK h.oD hg hr (by decide)) an dd (by decide),h.ap,(h.gr.grown hg (λq hq=>by rw[<-h.s0];exact hsr q hq)).set (by rw[<-h.s0];simp) _,h.s0⟩
 have:=k2.set 2 v
 simpa using this
theorem Bst.pushA {w0 wr w':World} {s n:Nat} {lv:Value} {d:BD} (h:Bst w0 wr s n lv d) {v:Value} {l:List eA} (ho:aO w' s 170 3 bT0 v l) (hg:wr.grownBy w' d.vA.ownBlock) :
  Bst w0 (w'.setCell ⟨s+7,0,none⟩ v) s n lv { d with vA:=v,al:=l }:=by
 have hr:=RT.own h.oA;have hsr:∀q,d.vA.ownBlock=some q->s<=q:=λq hq=>bF h.oA q hq;have k8:=h.b8.keep hg hr (by decide);have an:=aU w' (s+7) 0 v;have dd:=k8.rt
 refine⟨(h.b1.keep hg hr (by decide)).keep an dd (by decide),(h.b4.keep hg hr (by decide)).keep an dd (by decide),(h.b2.keep hg hr (by decide)).keep an dd (by decide),(h.b6.keep hg hr (by decide)).keep an dd (by decide),?_,
  aK (aK h.oL hg hr (by decide)) an dd (by decide),aK (aK h.oN hg hr (by decide)) an dd (by decide),aK (aK h.oS hg hr (by decide)) an dd (by decide),aK ho an dd (by decide),
  aK (aK h.oI hg hr (by decide)) an dd (by decide),aK (aK h.oD hg hr (by decide)) an dd (by decide),h.ap,(h.gr.grown hg (λq hq=>by rw[<-h.s0];exact hsr q hq)).set (by rw[<-h.s0];simp) _,h.s0⟩
 have:=k8.set 0 v
 simpa using this
theorem Bst.pushI {w0 wr w':World} {s n:Nat} {lv:Value} {d:BD} (h:Bst w0 wr s n lv d) {v:Value} {l:List Bool} (ho:aO w' s 4 1 jJ v l) (hg:wr.grownBy w' d.vI.ownBlock) (hf:xS wr d.vI v) :
  Bst w0 w' s n lv { d with vI:=v,isl:=l }:=by
 have hr:=RT.own h.oI
 exact⟨h.b1.keep hg hr (by decide),h.b4.keep hg hr (by decide),h.b2.keep hg hr (by decide),h.b6.keep hg hr (by decide),h.b8.keep hg hr (by decide),aK h.oL hg hr (by decide),aK h.oN hg hr (by decide),mF h.oS hg h.ap.symm,aK h.oA hg hr (by decide),
  ho,aK h.oD hg hr (by decide),(h.ap.symm.fresh (gP h.oS) hf).symm,h.gr.grown hg (λq hq=>by rw[<-h.s0];exact bF h.oI q hq),h.s0⟩
theorem Bst.pushD {w0 wr w':World} {s n:Nat} {lv:Value} {d:BD} (h:Bst w0 wr s n lv d) {v:Value} {l:List Nat} (ho:aO w' s 142 1 jR v l) (hg:wr.grownBy w' d.vD.ownBlock) :
  Bst w0 w' s n lv { d with vD:=v,idl:=l }:=by
 have hr:=RT.own h.oD
 exact⟨h.b1.keep hg hr (by decide),h.b4.keep hg hr (by decide),h.b2.keep hg hr (by decide),h.b6.keep hg hr (by decide),h.b8.keep hg hr (by decide),aK h.oL hg hr (by decide),aK h.oN hg hr (by decide),aK h.oS hg hr (by decide),aK h.oA hg hr (by decide),
  aK h.oI hg hr (by decide),ho,h.ap,h.gr.grown hg (λq hq=>by rw[<-h.s0];exact bF h.oD q hq),h.s0⟩
theorem Bst.setN {w0 wr:World} {s n:Nat} {lv:Value} {d:BD} (h:Bst w0 wr s n lv d) {j:Nat} (hj:j<d.nd.length) (y:Nat) :
  wr.frozen? ⟨s+1,j,none⟩=false/\Bst w0 (wr.setCell ⟨s+1,j,none⟩ (.int .i64 y)) s n lv { d with nd:=d.nd.set j y }:=by
 obtain⟨h1,_,h3⟩:=fM (f:=λn:Nat=>Value.int .i64 n) h.oN hj y;have hg:=aU wr (s+1) j (.int .i64 y);have hr:RT wr (some (s+1)) (some 3):=RT.own h.oN
 refine⟨h1,h.b1.keep hg hr (by decide),h.b4.keep hg hr (by decide),h.b2.keep hg hr (by decide),h.b6.keep hg hr (by decide),h.b8.keep hg hr (by decide),aK h.oL hg hr (by decide),h3,aK h.oS hg hr (by decide),aK h.oA hg hr (by decide),
  aK h.oI hg hr (by decide),aK h.oD hg hr (by decide),h.ap,h.gr.set (by rw[<-h.s0];simp) _,h.s0⟩
instance extKeep (S:Nat->Prop) (w:World):Nonempty (Ext (bV S) w):=⟨⟨w,bV.refl S w⟩⟩
theorem gH {S:Nat->Prop} {w:World} {p:Addr} {v:Value} (hp:S p.block) (hc:w.cell? p=some v) (x:Ext (bV S) w):x.u.cell? p=some v:=x.h.cell hp hc
theorem mV (S:Nat->Prop):∀a b c:World,bV S a b->bV S b c->bV S a c:=λ_ _ _ h k=>h.tr k
theorem bV.alloc {S:Nat->Prop} {w:World} (h:∀b,S b->b<w.heap.size) (o:Obj):bV S w (w.alloc o):=λb hb=>(aB.alloc w o).block b (h b hb)
theorem bV.grown {S:Nat->Prop} {w w':World} {row:Option Nat} (hg:w.grownBy w' row) (h:∀b,S b->b<w.heap.size) (hr:∀b,S b->row≠some b):bV S w w':=λb hb=>hg.block b (h b hb) (λe=>hr b hb e.symm)
theorem bV.set {S:Nat->Prop} {w:World} {b:Nat} (h:¬S b) (o:Nat) (v:Value):bV S w (w.setCell ⟨b,o,none⟩ v):=λq hq=>Below.heap_setCell _ _ _ q (λe=>h (by have:q=b:=e; rw[<-this]; exact hq))
theorem wV0 {α:Type} {P:Program} {t e:TypeId} {k bytes:Nat} {enc:α->List Value} (L:eG P t e k bytes enc) {o:Oper} {a:Act} {K:Act->World->Prop} {Q:Exit->Act->World->Prop} {W:World}
  (s x:Operand) (lr:o.op=.call { callee:=.builtin .append,args:=#[s,x],argTypes:=#[t,t] })
  (base:Nat) (v:Value) (xs:List α) (y:α) (hs:a.eval s=v) (ae:aO W base e k enc v xs) (n c:Nat) (hn:n=W.heap.size) (cs:Array Value) (dz:cs.toList=enc y)
  (hx:a.eval x=.slice (some ⟨n,0,none⟩) 1 c) (ay:(xs.length+1)*bytes<=140737488355328) (dl:base<=W.heap.size)
  (h:∀v' w',aO w' base e k enc v' (xs++[y])->W.grownBy w' v.ownBlock->xS W v v'->K (a.put o.dst v') w'):o.wp P a (W.alloc (.cells cs e)) K Q:=by
 obtain⟨i,z,hi,hz,fg,mq,qb⟩:=L.info;have js:xs.length+1<=140737488355328:=Ae (Nat.le_mul_of_pos_right _ L.by1) ay;have lu:aB W (W.alloc (.cells cs e)):=aB.alloc _ _;have aj:=dJ ae lu
 obtain⟨v',w',hr,h2,h3,h4⟩:=nV (P:=P) (W.alloc (.cells cs e)) base t o.type e i z k bytes L.sl hi hz fg mq qb L.pos v xs.length (xs.flatMap enc) aj ⟨n,0,none⟩ 1 c (enc y) (by rw[L.len,Nat.one_mul])
  (λj u hu=>eN hn j u (by rw[dz];exact hu)) (L.one y) (by unfold maxLen;omega) ay (Ae dl lu.size)
 unfold Oper.wp execOp;simp only[lr,resolve,invoke,builtin,Sem.run_bind,Sem.run_pure,Result.andThen_ok,List.map_toArray,List.map_cons,List.map_nil,hs,hx,hr];refine h v' w' ?_ ?_ ?_
 ·unfold aO
  rw[Az,As,List.flatMap_append];simpa using h2
 ·have h5:=Ai W (.cells cs e) v.ownBlock
  exact⟨h3.os.trans h5.os,h3.tape.trans h5.tape,h3.output.trans h5.output,Ae h5.size h3.size,λk hk aw=>(h3.block k (Nat.lt_of_lt_of_le hk h5.size) aw).trans (h5.block k hk aw)⟩
 ·rcases h4 with h4|⟨q,hq,o4⟩
  ·exact Or.inl h4
  ·exact Or.inr ⟨q,hq,Ae lu.size o4⟩
theorem jL.grown {w w':World} {lo:Nat} {ds:List Nat} {row:Option Nat} (h:jL w lo ds) (hg:w.grownBy w' row) (hr:∀D∈ds,row≠some D):jL w' lo ds :=
 ⟨λD hD=>⟨(h.at_ D hD).1,(hg.block D (Array.getElem?_eq_some_iff.1 (h.at_ D hD).2).1 (λe=>hr D hD e.symm)).trans (h.at_ D hD).2⟩,h.nodup⟩
theorem jL.not_row {w:World} {lo:Nat} {ds:List Nat} (h:jL w lo ds) {row:Option Nat} {t:TypeId} (hr:RT w row (some t)):∀D∈ds,row≠some D:=λD hD e=>by
 obtain⟨o,h1,h2⟩:=hr D e;rw[(h.at_ D hD).2]at h1;cases h1
 cases h2
theorem RT.of_not {w:World} {row:Option Nat} (h:∀q,row=some q->∃o:Obj,w.heap[q]?=some o/\o.isCells=false):RT w row (Option.none:Option TypeId):=λq hq=>by
 obtain⟨o,h1,h2⟩:=h q hq;refine⟨o,h1,?_⟩;cases o<;>first|rfl|cases h2
end
section
open Go Go.RowKit Go.Shelf
theorem fV {W W':World} {B:Nat} {row:Option Nat} {t:TypeId} (hg:W.grownBy W' row) (hr:RT W row (some t)):KeepsFrom B W W':=⟨hg.size,λk o _ hk ho=>by
 rw[hg.block k (Array.getElem?_eq_some_iff.1 hk).1 (λe=>?_)]
 ·exact hk
 ·obtain⟨o',h1,h2⟩:=hr k e.symm
  rw[hk]at h1;cases h1
  cases o<;>simp[Obj.isCells,kJ0]at ho h2⟩
theorem mW {W:World} {B:Nat} {b:Nat} {cs:Array Value} {t:TypeId} (h:TB W b cs t) (o:Nat) (v:Value):KeepsFrom B W (W.setCell ⟨b,o,none⟩ v):=fV (aU W b o v) h.rt
theorem TB.ne_row {w:World} {b:Nat} {cs:Array Value} {t e:TypeId} {row:Option Nat} (h:TB w b cs t) (hr:RT w row (some e)) (aw:e≠t):row≠some b:=λeu=>by
 obtain⟨o,h1,h2⟩:=hr b eu;rw[show w.heap[b]?=_ from h]at h1
 cases h1
 exact aw (Option.some.inj h2).symm
theorem mN {α:Type} {w:World} {base:Nat} {e:TypeId} {k:Nat} {enc:α->List Value} {v:Value} {xs:List α} {y:α} (h:aO w base e k enc v (xs++[y])):∃g cap,v=.slice (some ⟨g,0,none⟩) (xs.length+1) cap:=by
 unfold aO at h;rw[Az,As]at h;exact ownsRow_succ h
structure LbJ (w:World) (s n:Nat) (lv:Value) (ds:List Nat) (xb kb lb size:Nat) (x:eA) (d:BD) (W:World):Prop where
 st:Bst w W s n lv d
 tx:TB W xb #[.int .i64 x.i,.int .i64 x.t,.int .i64 x.d] 170
 tk:TB W kb #[.int .i64 x.i,.int .i64 x.t,.int .i64 x.d] 170
 tl:TB W lb #[lv] 71
 nx:d.vA.ownBlock≠some xb
 nk:d.vA.ownBlock≠some kb
 mks:jL W s ds
 sz:size<=W.heap.size
variable {w W w':World} {s n xb kb lb size:Nat} {lv:Value} {ds:List Nat} {x:eA} {d:BD}
theorem LbJ.other (h:LbJ w s n lv ds xb kb lb size x d W) {row:Option Nat} (hg:W.grownBy w' row) (hr:RT W row none) (hs:∀q,row=some q->s<=q) (hm:∀D∈ds,row≠some D):LbJ w s n lv ds xb kb lb size x d w' :=
 ⟨h.st.other hg hr hs,h.tx.keep hg hr (by decide),h.tk.keep hg hr (by decide),h.tl.keep hg hr (by decide),h.nx,h.nk,h.mks.grown hg hm,Ae h.sz hg.size⟩
theorem LbJ.al (h:LbJ w s n lv ds xb kb lb size x d W) (o:Obj):LbJ w s n lv ds xb kb lb size x d (W.alloc o) :=
 h.other (Ai _ _ none) (RT.none _ _) (λq e=>by cases e) (λ_ _ e=>by cases e)
theorem LbJ.dr (h:LbJ w s n lv ds xb kb lb size x d W):LbJ w s n lv ds xb kb lb size x d W.drew :=
 h.other (row:=none) ⟨rfl,rfl,rfl,Ac _,λ_ _ _=>rfl⟩ (RT.none _ _) (λq e=>by cases e) (λ_ _ e=>by cases e)
theorem LbJ.pushS (h:LbJ w s n lv ds xb kb lb size x d W) {v:Value} {sh:List Bool} (ho:aO w' s 4 1 jJ v sh) (hg:W.grownBy w' d.vS.ownBlock) (hf:xS W d.vS v) :
  LbJ w s n lv ds xb kb lb size x { d with vS:=v,sh:=sh } (w'.setCell ⟨s+5,0,none⟩ v)/\KeepsFrom size W (w'.setCell ⟨s+5,0,none⟩ v)/\(∀b cs,TB W b cs 170->TB (w'.setCell ⟨s+5,0,none⟩ v) b cs 170)/\TB w' (s+5) #[d.vS] 121:=by
 have hr:=RT.own h.st.oS;have k6:=h.st.b6.keep hg hr (by decide);have an:=aU w' (s+5) 0 v;have dd:=k6.rt;have tu:=h.mks.grown hg (h.mks.not_row hr)
 exact⟨⟨h.st.pushS ho hg hf,(h.tx.keep hg hr (by decide)).keep an dd (by decide),(h.tk.keep hg hr (by decide)).keep an dd (by decide),(h.tl.keep hg hr (by decide)).keep an dd (by decide),h.nx,h.nk,tu.grown an (tu.not_row dd),Ae h.sz (Ae hg.size an.size)⟩,
  (fV hg hr).trans (mW k6 0 v),λb cs hb=>(hb.keep hg hr (by decide)).keep an dd (by decide),k6⟩
theorem LbJ.pushL (h:LbJ w s n lv ds xb kb lb size x d W) {v:Value} {l:List UInt8} (ho:aO w' s 5 1 aQ v l) (hg:W.grownBy w' d.vL.ownBlock) :
  LbJ w s n lv ds xb kb lb size x { d with vL:=v,lab:=l } (w'.setCell ⟨s+2,2,none⟩ v)/\KeepsFrom size W (w'.setCell ⟨s+2,2,none⟩ v)/\(∀b cs,TB W b cs 170->TB (w'.setCell ⟨s+2,2,none⟩ v) b cs 170) /\
   TB w' (s+2) #[.pointer none,.pointer none,d.vL,.pointer none,.slice (some ⟨s+1,0,none⟩) n n] 167:=by
 have hr:=RT.own h.st.oL;have k2:=h.st.b2.keep hg hr (by decide);have an:=aU w' (s+2) 2 v;have dd:=k2.rt;have tu:=h.mks.grown hg (h.mks.not_row hr)
 exact⟨⟨h.st.pushL ho hg,(h.tx.keep hg hr (by decide)).keep an dd (by decide),(h.tk.keep hg hr (by decide)).keep an dd (by decide),(h.tl.keep hg hr (by decide)).keep an dd (by decide),h.nx,h.nk,tu.grown an (tu.not_row dd),Ae h.sz (Ae hg.size an.size)⟩,
  (fV hg hr).trans (mW k2 2 v),λb cs hb=>(hb.keep hg hr (by decide)).keep an dd (by decide),k2⟩
theorem TB.keepN {w w':World} {b:Nat} {cs:Array Value} {t:TypeId} {row:Option Nat} (h:TB w b cs t) (hg:w.grownBy w' row) (aw:row≠some b):TB w' b cs t:=(hg.block b h.lt (λe=>aw e.symm)).trans h
theorem LbJ.pushA (h:LbJ w s n lv ds xb kb lb size x d W) {v:Value} {l:List eA} (ho:aO w' s 170 3 bT0 v l) (hg:W.grownBy w' d.vA.ownBlock) (hf:xS W d.vA v) :
  LbJ w s n lv ds xb kb lb size x { d with vA:=v,al:=l } (w'.setCell ⟨s+7,0,none⟩ v)/\KeepsFrom size W (w'.setCell ⟨s+7,0,none⟩ v)/\TB w' (s+7) #[d.vA] 171:=by
 have hr:=RT.own h.st.oA;have k8:=h.st.b8.keep hg hr (by decide);have an:=aU w' (s+7) 0 v;have dd:=k8.rt;have tu:=h.mks.grown hg (h.mks.not_row hr)
 have fr:∀b,b<W.heap.size->d.vA.ownBlock≠some b->v.ownBlock≠some b:=λb hb aw e=>by
  rcases hf with hf|⟨q,hq,o4⟩
  ·exact aw (hf▸e)
  ·have:q=b:=Option.some.inj (hq.symm.trans e)
   omega
 exact⟨⟨h.st.pushA ho hg,(h.tx.keepN hg h.nx).keep an dd (by decide),(h.tk.keepN hg h.nk).keep an dd (by decide),(h.tl.keep hg hr (by decide)).keep an dd (by decide),fr xb h.tx.lt h.nx,fr kb h.tk.lt h.nk,tu.grown an (tu.not_row dd),Ae h.sz (Ae hg.size an.size)⟩,
  (fV hg hr).trans (mW k8 0 v),k8⟩
theorem LbJ.keepB {d':BD} {W':World} (h:LbJ w s n lv ds xb kb lb size x d W) (h':LbJ w s n lv ds xb kb lb size x d' W'):bV (λb=>b<s\/b=kb\/b=lb) W W':=λb hb=>by
 rcases hb with hb|hb|hb
 ·have fp:b<w.heap.size:=by rw[<-h.st.s0];exact hb
  rw[Below.block h.st.gr b fp,Below.block h'.st.gr b fp]
 ·rw[hb,h.tk,h'.tk]
 ·rw[hb,h.tl,h'.tl]
def jP1 (K:Act->World->Prop):Exit->Act->World->Prop
 | .normal,a,w=>K a w
 | _,_,_=>False
theorem fJ (K:Act->World->Prop) (a:Act) (w:World):jP1 K .normal a w=K a w:=rfl
theorem nH {P:Program} {c:Code} {K:Act->World->Prop} {Q:Exit->Act->World->Prop} {a:Act} {w:World} (h:c.wp P (jP1 K) a w):c.wp P (Exit.then K Q) a w:=λb k cs=>by
 obtain⟨e,a',w',q,r⟩:=h b k cs;refine⟨e,a',w',?_,r⟩;cases e<;>first|exact q|exact q.elim
end
section
open Go Go.RowKit Go.Shelf
def iT1 (V w':World) (X:Nat->Prop):Prop:=∀k,k<V.heap.size->¬X k->w'.heap[k]?=V.heap[k]?
variable {V w':World} {X:Nat->Prop}
theorem nK {p:Addr} {v:Value} (hc:V.cell? p=some v) (ho:iT1 V w' X) (hx:¬X p.block):w'.cell? p=some v:=by
 have hb:=World.block_lt_of_cell? _ _ hc;unfold At at *;rw[ho _ hb hx];exact hc
theorem zK {α:Type} {base:Nat} {e:TypeId} {k:Nat} {enc:α->List Value} {v:Value} {xs:List α} (h:aO V base e k enc v xs) (ho:iT1 V w' X) (hx:∀q,X q->∃o,V.heap[q]?=some o/\kJ0 o≠some e):aO w' base e k enc v xs:=by
 refine⟨h.1,?_⟩;rcases h.2 with h1|⟨g,cap,ei,hv,hb,hh,r⟩
 ·exact Or.inl h1
 ·refine Or.inr ⟨g,cap,ei,hv,hb,?_,r⟩
  rw[ho g (Array.getElem?_eq_some_iff.1 hh).1 (λhX=>?_)]
  ·exact hh
  ·obtain⟨o,h1,h2⟩:=hx g hX
   rw[hh]at h1;cases h1
   exact h2 rfl
theorem kM {vb:Nat} {l:List Bool} (h:mZ V vb l) (ho:iT1 V w' X) (lg:¬X vb) (hx:∀q,X q->∃o,V.heap[q]?=some o/\kJ0 o≠some 142/\kJ0 o≠some 3):mZ w' vb l:=by
 obtain⟨wb,h1,h2⟩:=h.c1;obtain⟨vC,h3,h4⟩:=h.c2;exact⟨nK h.c0 ho lg,⟨wb,nK h1 ho lg,zK h2 ho λq hq=>by obtain⟨o,a,b,c⟩:=hx q hq;exact⟨o,a,b⟩⟩,vC,nK h3 ho lg,zK h4 ho λq hq=>by obtain⟨o,a,b,c⟩:=hx q hq;exact⟨o,a,c⟩⟩
theorem nS0 {pb:Nat} {l:List Nat} (h:kR0 V pb l) (ho:iT1 V w' X) (lg:¬X pb) (hx:∀q,X q->∃o,V.heap[q]?=some o/\kJ0 o≠some 142/\kJ0 o≠some 3):kR0 w' pb l:=by
 obtain⟨wb,h1,h2,h3⟩:=h.c2;exact⟨nK h.c0 ho lg,nK h.c1 ho lg,wb,h1,nK h2 ho lg,zK h3 ho λq hq=>by obtain⟨o,a,b,c⟩:=hx q hq;exact⟨o,a,b⟩⟩
theorem uX (V:World) (b o:Nat) (v:Value):iT1 V (V.setCell ⟨b,o,none⟩ v) (λk=>k=b):=λk _ hk=>Below.heap_setCell _ _ _ k (λe=>hk e)
theorem TB.al {w:World} {b:Nat} {cs:Array Value} {t:TypeId} (h:TB w b cs t) (o:Obj):TB (w.alloc o) b cs t:=h.keep (τ:=Option.none) (Ai _ _ none) (RT.none _ _) (by simp)
theorem TB.gr {w w':World} {b:Nat} {cs:Array Value} {t:TypeId} (h:TB w b cs t) (hg:aB w w'):TB w' b cs t:=(Below.block hg b h.lt).trans h
structure LbE (w V:World) (s:Nat) (cs:Array Value) (vL nv vI vD:Value) (lab:List UInt8) (nd:List Nat) (isl:List Bool) (idl:List Nat) (ds:List Nat):Prop where
 b4:TB V (s+3) #[.pointer (some ⟨s+2,0,none⟩)] 94
 b3:TB V (s+2) cs 167
 oL:aO V s 5 1 aQ vL lab
 oN:aO V s 3 1 jP nv nd
 oI:aO V s 4 1 jJ vI isl
 oD:aO V s 142 1 jR vD idl
 mks:jL V s ds
 gr:aB w V
theorem LbE.grows {w V V':World} {s:Nat} {cs:Array Value} {vL nv vI vD:Value} {lab:List UInt8} {nd:List Nat} {isl:List Bool} {idl:List Nat} {ds:List Nat} (h:LbE w V s cs vL nv vI vD lab nd isl idl ds) (hg:aB V V'):LbE w V' s cs vL nv vI vD lab nd isl idl ds :=
 ⟨h.b4.gr hg,h.b3.gr hg,h.oL.grows hg,h.oN.grows hg,h.oI.grows hg,h.oD.grows hg,⟨λD hD=>⟨(h.mks.at_ D hD).1,(Below.block hg D (Array.getElem?_eq_some_iff.1 (h.mks.at_ D hD).2).1).trans (h.mks.at_ D hD).2⟩,h.mks.nodup⟩,h.gr.tr hg⟩
theorem LbE.set {w V:World} {s:Nat} {cs:Array Value} {vL nv vI vD:Value} {lab:List UInt8} {nd:List Nat} {isl:List Bool} {idl:List Nat} {ds:List Nat} (h:LbE w V s cs vL nv vI vD lab nd isl idl ds) (hs:w.heap.size<=s) (o:Nat) (v:Value) :
  LbE w (V.setCell ⟨s+2,o,none⟩ v) s (cs.setIfInBounds o v) vL nv vI vD lab nd isl idl ds:=by
 have hg:=aU V (s+2) o v;have hr:=h.b3.rt;exact⟨h.b4.keep hg hr (by decide),h.b3.set o v,aK h.oL hg hr (by decide),aK h.oN hg hr (by decide),aK h.oI hg hr (by decide),aK h.oD hg hr (by decide),h.mks.grown hg (h.mks.not_row hr),h.gr.set (show w.heap.size<=s+2 by omega) _⟩
theorem cO0 {V:World} {lo:Nat} {ds:List Nat} (h:jL V lo ds) (e:TypeId):∀q,(λk=>k∈ds) q->∃o,V.heap[q]?=some o/\kJ0 o≠some e:=λq hq=>⟨_,(h.at_ q hq).2,by simp[kJ0]⟩
theorem lT {V:World} {b:Nat} {cs:Array Value} (h:TB V b cs 167):∀q,(λk=>k=b) q->∃o,V.heap[q]?=some o/\kJ0 o≠some 142/\kJ0 o≠some 3:=λq hq=>by
 have:q=b:=hq
 subst this;exact⟨_,h,by simp[kJ0],by simp[kJ0]⟩
theorem rR {V:World} {lo:Nat} {ds:List Nat} (h:jL V lo ds):∀q,(λk=>k∈ds) q->∃o,V.heap[q]?=some o/\kJ0 o≠some 142/\kJ0 o≠some 3:=λq hq=>⟨_,(h.at_ q hq).2,by simp[kJ0],by simp[kJ0]⟩
theorem sY {V:World} {lo:Nat} {ds:List Nat} (h:jL V lo ds) {p:Addr} {v:Value} (hc:V.cell? p=some v):¬p.block∈ds:=λjg=>by
 have h1:=(h.at_ _ jg).2;unfold At at hc;simp[h1]at hc
theorem zN0 (w:World) (n:Nat) (lv:Value) (hn:n<=20000) {b2 b3 b5 b7:Nat} (h2:b2=w.heap.size+1) (h3:b3=w.heap.size+2) (h5:b5=w.heap.size+4) (h7:b7=w.heap.size+6) :
  Bst w ((((((((w.alloc (.cells #[lv] 71)).alloc (.cells (madeCells #[.int .i64 0] n) 3)).alloc (.cells #[.pointer none,.pointer none,.slice none 0 0,.pointer none,.slice (some ⟨b2,0,none⟩) n n] 167)).alloc
   (.cells #[.pointer (some ⟨b3,0,none⟩)] 94)).alloc (.cells #[.bool true,.bool false] 4)).alloc (.cells #[.slice (some ⟨b5,0,none⟩) 2 2] 121)).alloc (.cells #[.int .i64 0,.int .i64 n,.int .i64 0] 170)).alloc (.cells #[.slice (some ⟨b7,0,none⟩) 1 1] 171))
   w.heap.size n lv { vS:=.slice (some ⟨b5,0,none⟩) 2 2,vA:=.slice (some ⟨b7,0,none⟩) 1 1,vL:=.slice none 0 0,vI:=.slice none 0 0,vD:=.slice none 0 0,sh:=[true,false],al:=[⟨0,n,0⟩],lab:=[],isl:=[],idl:=[],nd:=Ao n 0 }:=by
 obtain⟨s,hs⟩:=exq w.heap.size;obtain⟨W1,e1⟩:=exq (w.alloc (.cells #[lv] 71));obtain⟨W2,e2⟩:=exq (W1.alloc (.cells (madeCells #[.int .i64 0] n) 3));obtain⟨W3,e3⟩:=exq (W2.alloc (.cells #[.pointer none,.pointer none,.slice none 0 0,.pointer none,.slice (some ⟨b2,0,none⟩) n n] 167));obtain⟨W4,e4⟩:=exq (W3.alloc (.cells #[.pointer (some ⟨b3,0,none⟩)] 94));obtain⟨W5,e5⟩:=exq (W4.alloc (.cells #[.bool true,.bool false] 4));obtain⟨W6,e6⟩:=exq (W5.alloc (.cells #[.slice (some ⟨b5,0,none⟩) 2 2] 121));obtain⟨W7,e7⟩:=exq (W6.alloc (.cells #[.int .i64 0,.int .i64 n,.int .i64 0] 170));obtain⟨W8,e8⟩:=exq (W7.alloc (.cells #[.slice (some ⟨b7,0,none⟩) 1 1] 171));have z1:W1.heap.size=s+1:=by rw[e1,hs];simp
 have z2:W2.heap.size=s+2:=by rw[e2,Ab,z1]
 have z3:W3.heap.size=s+3:=by rw[e3,Ab,z2]
 have z4:W4.heap.size=s+4:=by rw[e4,Ab,z3]
 have z5:W5.heap.size=s+5:=by rw[e5,Ab,z4]
 have z6:W6.heap.size=s+6:=by rw[e6,Ab,z5]
 have z7:W7.heap.size=s+7:=by rw[e7,Ab,z6]
 have g2:aB W1 W2:=by rw[e2];exact aB.alloc _ _
 have g3:aB W2 W3:=by rw[e3];exact aB.alloc _ _
 have g4:aB W3 W4:=by rw[e4];exact aB.alloc _ _
 have g5:aB W4 W5:=by rw[e5];exact aB.alloc _ _
 have g6:aB W5 W6:=by rw[e6];exact aB.alloc _ _
 have g7:aB W6 W7:=by rw[e7];exact aB.alloc _ _
 have g8:aB W7 W8:=by rw[e8];exact aB.alloc _ _
 have g1:aB w W1:=by rw[e1];exact aB.alloc _ _
 have t1:TB W1 s #[lv] 71:=by rw[e1,hs];exact TB.alloc _ _ _
 have t3:TB W3 (s+2) #[.pointer none,.pointer none,.slice none 0 0,.pointer none,.slice (some ⟨b2,0,none⟩) n n] 167:=by rw[e3,<-z2];exact TB.alloc _ _ _
 have t4:TB W4 (s+3) #[.pointer (some ⟨b3,0,none⟩)] 94:=by rw[e4,<-z3];exact TB.alloc _ _ _
 have t6:TB W6 (s+5) #[.slice (some ⟨b5,0,none⟩) 2 2] 121:=by rw[e6,<-z5];exact TB.alloc _ _ _
 have t8:TB W8 (s+7) #[.slice (some ⟨b7,0,none⟩) 1 1] 171:=by rw[e8,<-z7];exact TB.alloc _ _ _
 have oN:aO W2 s 3 1 jP (.slice (some ⟨s+1,0,none⟩) n n) (Ao n 0):=by
  have h:=eF0 (w:=W1) (n:=n) (by omega);rw[Bd,<-e2,z1]at h;exact h.base (by omega)
 have oS:aO W5 s 4 1 jJ (.slice (some ⟨s+4,0,none⟩) 2 2) [true,false]:=by
  have h:=fY (w:=W4) (e:=4) (enc:=jJ) (λ_=>rfl) (base:=s) (n:=2) (by omega) [true,false] (cs:=#[.bool true,.bool false]) rfl rfl (by unfold maxLen;omega);rw[<-e5,z4]at h;exact h
 have oA:aO W7 s 170 3 bT0 (.slice (some ⟨s+6,0,none⟩) 1 1) [⟨0,n,0⟩]:=by
  have h:=fY (w:=W6) (e:=170) (enc:=bT0) (k:=3) (λ_=>rfl) (base:=s) (n:=1) (by omega) [⟨0,n,0⟩] (cs:=#[.int .i64 0,.int .i64 n,.int .i64 0]) rfl rfl (by unfold maxLen;omega);rw[<-e7,z6]at h;exact h
 rw[<-e1,<-e2,<-e3,<-e4,<-e5,<-e6,<-e7,<-e8,<-hs];rw[<-hs]at h2 h3 h5 h7;subst h2;subst h3;subst h5;subst h7
 exact⟨(((((((t1.gr g2).gr g3).gr g4).gr g5).gr g6).gr g7).gr g8),((((t4.gr g5).gr g6).gr g7).gr g8),(((((t3.gr g4).gr g5).gr g6).gr g7).gr g8),((t6.gr g7).gr g8),t8,
  aO.nil _ _ _ _ _,((((((oN.grows g3).grows g4).grows g5).grows g6).grows g7).grows g8),(((oS.grows g6).grows g7).grows g8),oA.grows g8,aO.nil _ _ _ _ _,aO.nil _ _ _ _ _,λq _ h=>by simp[Value.ownBlock]at h,
  ((((((g1.tr g2).tr g3).tr g4).tr g5).tr g6).tr g7).tr g8,hs⟩
end
section
open Go Go.RowKit Go.Shelf
attribute [local go_sem] aM aP Oper.semAt_some
theorem rP0 (s:ByteArray) (w:World) (he:pA0 w) :
  Calls Tryz.prog 22 #[.slice (some ⟨0,0,none⟩) 3 3,.string s] w λe w'=>e=.returned (.int .i64 (bM0 s))/\w'=w:=by
 have HK:=Aa he.kin;clear he;go_enter Tryz.func22,Tryz.ntmps22
 go_wp2_with fail
 go_loopw [5,8] (λ_ i wr=>∃k:Nat,k<=3/\i=.int .i64 k/\Hid (bM0 s=Bn (iM.drop k) s k)/\wr=w) (λ_ i _=>3-(intOf i).toNat)
 case atStart=>exact⟨0,Au _,rfl,rfl,rfl⟩
 case round =>
  obtain⟨k,hk,rfl,hz,rfl⟩:=hrel;by_cases af:k<3
  ·obtain⟨q,hq⟩:∃q,iM[k]?=some q:=⟨_,Ad af⟩
   have c0:=HK.out k q hq
   have hd:iM.drop k=q::iM.drop (k+1):=by
    rw[Ap (show k<iM.length from af),(List.getElem?_eq_some_iff.1 hq).2]
   have ju:=hz.out;rw[hd,Bn]at ju;have di:(k:Int)<3:=by omega
   clear hz hq hd;by_cases he:q=s
   ·subst he
    rw[if_pos rfl]at ju;have e2:(q.toList==q.toList)=true:=by simp
    have HZ:=Aa ju;clear ju;go_wp2_with fail
    go_ret;exact⟨(by rw[HZ.out];rfl),rfl⟩
   ·rw[if_neg he]at ju
    have hsn:¬s.toList=q.toList:=λe=>he (jD (by rw[Ak,Ak]at e;exact e.symm));have e2:(s.toList==q.toList)=false:=by rw[beq_eq_false_iff_ne];exact hsn
    have HZ:=Aa ju;clear ju;go_wp2_with fail
    go_roundw
    case rel=>first|exact⟨k+1,af,by go_num,HZ.out,rfl⟩|exact⟨k+1,af,by go_num,HZ.out,trivial⟩
    case measure=>simp[intOf];omega
  ·obtain rfl:k=3:=by omega
   have HZ:Hid (bM0 s = -1):=hz.out;clear hz;go_wp2_with fail
   go_ret;exact⟨(by rw[HZ.out];rfl),rfl⟩
def jW (W W':World):Prop:=∀b cs,TB W b cs 9->TB W' b cs 9
theorem jW.refl (W:World):jW W W:=λ_ _ h=>h
theorem jW.tr {A B C:World} (h:jW A B) (k:jW B C):jW A C:=λb cs t=>k b cs (h b cs t)
theorem jW.grown {W W':World} {row:Option Nat} {τ:Option TypeId} (hg:W.grownBy W' row) (hr:RT W row τ) (aw:τ≠some 9):jW W W':=λ_ _ h=>h.keep hg hr aw
theorem jW.gr {W W':World} (h:aB W W'):jW W W':=λ_ _ t=>t.gr h
theorem jW.put (W:World) (l:Nat) (o o':Obj) (h:W.heap[l]?=some o) (hc:o.isCells=false):jW W (W.putObj l o'):=λb cs t=>by
 have aw:b≠l:=λe=>by
  subst e
  have:W.heap[b]?=some (.cells cs 9 (0,0)):=t
  rw[this]at h;cases h
  cases hc
 exact(Aj aw).trans t
theorem cR1 (c:UInt8) (s:ByteArray) (w:World) (hs:s.size<4294967281) (he:Env w) :
  Calls Tryz.prog 30 #[.string s,.string ⟨#[c]⟩] w λe w'=>e=.returned (.slice (some ⟨w.heap.size,0,none⟩) (splitS c s).length (splitS c s).length)/\w'=w.alloc (.cells ((splitS c s).map Value.string).toArray 9):=by
 obtain⟨m,hm⟩:=he.mx;have hl:=Av ⟨#[c]⟩ (Ac 1) 0 _ s rfl;have zz:(splitS c s).length=Bh s ⟨#[c]⟩+1:=hl;refine Calls.mono (Any.strings_Split Tryz.laysSplit vF0 s ⟨#[c]⟩ m w hs hm (Ac 1)) ?_;rintro e w' ⟨rfl,rfl⟩;exact⟨by rw[zz],rfl⟩
theorem dM0:∀(l:List ByteArray) (i:Nat),(gD l i).length<=l.length
 | [],_=>Ac _
 | s::r,i=>by
  rw[gD]
  have:=dM0 r (i+1)
  split
  ·exact Ae this (Nat.le_succ _)
  ·simp only[Aq];omega
abbrev eV1:={ x:Nat×ByteArray // x.2.size<=1048576 }
theorem dH1 (n l:Nat) (hn:1<=n) (s:ByteArray) (bt:Nat) (hs:s.size<=1048576) (J Jx:List eV1->World->Prop)
  (hY:∀pre x W,J pre W->pre.length<(gD (splitS 10 s) 0).length->YieldAt Fence.wide (n-1) Tryz.prog l #[.int .i64 (x.1.1:Nat),.string x.1.2] W λe W' =>
   (e=.returned (.bool true)/\J (pre++[x]) W'/\jW W W')\/(e=.returned (.bool false)/\Jx (pre++[x]) W'))
  (W:World) (he:Env W) (hJ:AbidesFrom W.heap.size J) (c1:TB W bt #[.string s] 9) (h0:J [] W) :
  CallsIn Fence.wide n Tryz.prog 74 #[.func (.yield l) #[] #[],.pointer (some ⟨bt,0,none⟩)] W λe W'=>(∃v,e=.returned v) /\
   ((∃xs:List eV1,xs.map (·.1)=gD (splitS 10 s) 0/\J xs W')\/(∃pre:List eV1,pre.map (·.1) <+: gD (splitS 10 s) 0/\Jx pre W')):=by
 have CS:=(callsIn_wide (n:=n-1)).2 (cR1 10 s W (by omega) he);have h1:=hJ [] W (W.alloc (.cells ((splitS 10 s).map Value.string).toArray 9)) none h0 (Ai _ _ none) (λr h=>by cases h);have T1:TB (W.alloc (.cells ((splitS 10 s).map Value.string).toArray 9)) W.heap.size ((splitS 10 s).map Value.string).toArray 9:=TB.alloc _ _ _;have c2:=c1.cell (o:=0) rfl
 have ay:(splitS 10 s).length<=1048577:=by
  have h1:(splitS 10 s).length=Bh s ⟨#[10]⟩+1:=Av ⟨#[10]⟩ (Ac 1) 0 _ s rfl;have h2:=Bi ⟨#[10]⟩ (Ac 1) s.size s (Ac _);omega
 have hlz:∀q∈splitS 10 s,q.size<=1048576:=λq hq=>Ae (dN hq) hs;clear he hJ h0 c1;generalize W.alloc (.cells ((splitS 10 s).map Value.string).toArray 9)=W1 at *;generalize W.heap.size=sb at *;generalize splitS 10 s=ls at *;have HY:=Aa hY;clear hY;refine callsIn_of_wp Tryz.func74 rfl trivial ?_ rfl;simp only[Tryz.ntmps74,Ba,Aq,Bf,Bj,Bk,Aw,Ax,Bb,Ay,Bg,Bc];gi_wp2
 refine⟨trivial,CS.mono ?_⟩;rintro e w1 ⟨rfl,rfl⟩;gi_wp2
 clear CS c2;gi_loopw [3,4,8] (λ_ _ i wr=>∃(k:Nat) (pre:List eV1),i=.int .i64 k/\k<=ls.length/\Hid (gD ls 0=pre.map (·.1)++gD (ls.drop k) k)/\J pre wr/\TB wr sb (ls.map Value.string).toArray 9) (λ_ _ i _=>ls.length-(intOf i).toNat)
 case atStart=>exact⟨0,[],rfl,Au _,rfl,h1,T1⟩
 case round =>
  obtain⟨k,pre,rfl,hk,hp,hJ,hT⟩:=hrel;clear h1 T1;by_cases af:k<ls.length
  ·have di:(k:Int)<ls.length:=by omega
   obtain⟨q,hq⟩:∃q,ls[k]?=some q:=⟨_,Ad af⟩;have c0:wr.cell? ⟨sb,k,none⟩=some (.string q):=hT.cell (by simp[hq]);have hqz:=hlz q (Am hq);have cz:=hp.out;rw[show ls.drop k=q::ls.drop (k+1) by rw[Ap af,(List.getElem?_eq_some_iff.1 hq).2],gD]at cz
   clear hp hq;by_cases l5:q.toList=[]
   ·rw[mQ l5]at cz
    have HP:=Aa cz;clear cz;gi_wp2
    refine⟨λf h=>(by cases h),?_⟩;gi_wp2
    go_roundw
    case rel=>exact⟨k+1,pre,by go_num,af,HP.out,hJ,hT⟩
    case measure=>simp[intOf];omega
   ·have cu:=gZ l5
    have acx:(q.toList==[])=false:=by simpa using l5
    by_cases kw:(q[0].toNat:Int)=35
    ·rw[pR cu kw]at cz
     have HP:=Aa cz;clear cz;gi_wp2
     refine⟨λf h=>(by cases h),?_⟩;gi_wp2
     go_roundw
     case rel=>exact⟨k+1,pre,by go_num,af,HP.out,hJ,hT⟩
     case measure=>simp[intOf];omega
    ·rw[sW cu kw]at cz
     simp only[Bool.false_eq_true,if_false]at cz;have acy:((q[0].toNat:Int)==35)=false:=by simpa using kw
     obtain⟨fn,tmps,assign,body,hy,hR⟩:=HY.out pre ⟨(k+1,q),hqz⟩ wr hJ (by rw[cz];simp);dsimp only at hy
     rw[show ((k+1:Nat):Int)=(k:Int)+1 by omega]at hy
     have HP:Hid (gD ls 0=(pre++[(⟨(k+1,q),hqz⟩:eV1)]).map (·.1)++gD (ls.drop (k+1)) (k+1)):=by show _=_;rw[cz];simp
     clear cz hJ;gi_wp2
     refine hR.mono ?_;rintro e W3 (⟨rfl,qz,o6⟩|⟨rfl,jm⟩)
     ·gi_wp2
      go_roundw
      case rel=>exact⟨k+1,_,by go_num,af,HP.out,qz,o6 _ _ hT⟩
      case measure=>simp[intOf];omega
     ·gi_wp2
      refine bodyPost_ret (v:=.tuple #[]) (by simp[results,Tryz.results74,go_sem]) rfl ?_
      exact⟨⟨_,rfl⟩,.inr ⟨_,⟨_,HP.out.symm⟩,jm⟩⟩
  ·obtain rfl:k=ls.length:=by omega
   have hpe:pre.map (·.1)=gD ls 0:=by rw[hp.out];simp[gD]
   have HPE:=Aa hpe;clear hpe hp;gi_wp2
   go_end0;exact⟨⟨_,rfl⟩,.inl ⟨pre,HPE.out,hJ⟩⟩
theorem mD0 (n:Nat) (s:ByteArray) (bt:Nat) (w:World) (hn:1<=n) (hs:s.size<=1048576) (he:Env w) (c1:TB w bt #[.string s] 9) :
  SeqStopsK Fence.wide n Tryz.prog 74 #[.pointer (some ⟨bt,0,none⟩)] (λx:eV1 => #[.int .i64 (x.1.1:Nat),.string x.1.2]) jW (λxs=>xs.map (·.1)=gD (splitS 10 s) 0) (λpre=>pre.map (·.1) <+: gD (splitS 10 s) 0) (gD (splitS 10 s) 0).length w:=by
 intro l J Jx W hW hJ _ hY h0;exact dH1 n l hn s bt hs J Jx hY W (he.grows hW) hJ (c1.gr hW) h0
theorem lN0 (s:ByteArray) (w:World) :
  Calls Tryz.prog 20 #[.string s] w λe w'=>e=.returned (.func (.func 74) #[] #[.pointer (some ⟨w.heap.size,0,none⟩)])/\w'=w.alloc (.cells #[.string s] 9):=by
 have hmf:∀(fn:Fn) (first cap:Array Value) (w:World),(Instr.makeFunc fn first cap).run Tryz.prog w=.ok (.func fn first cap) w:=λ_ _ _ _=>rfl
 go_enter Tryz.func20,Tryz.ntmps20
 go_wp2_with fail
 go_ret;exact⟨rfl,rfl⟩
theorem rC:eG Tryz.prog 35 74 2 24 bI where
 sl:=Tryz.underlying35
 info:=eY (z:=.agg #[.string ⟨#[]⟩,.int .i64 0]) (by kernel_rfl) rfl
 pos:=by decide
 by1:=by decide
 len _:=rfl
 one x u hu:=by
  simp only[bI,List.mem_cons,List.not_mem_nil,or_false]at hu;rcases hu with rfl|rfl<;>rfl
theorem bB1 (s:ByteArray) (w:World) (hs:s.size<4294967281) (he:Env w) :
  Calls Tryz.prog 21 #[.string s,.string ⟨#[9]⟩] w λe w'=>(∃b,e=.returned (.tuple #[.string (mkB (Bo s.data.toList [9]).1),.string (mkB (Bo s.data.toList [9]).2.1),.bool b]))/\aB w w':=by
 obtain⟨m,hm⟩:=he.mx;have h:Calls Tryz.prog 21 #[.string s,.string ⟨#[9]⟩] w _:=Any.strings_Cut Tryz.laysCut s ⟨#[9]⟩ m w hs hm;refine h.mono λe w' ⟨h1,n,h2⟩=>⟨⟨_,h1⟩,?_⟩;rw[h2];exact(Below.refl _ w).trans ⟨rfl,rfl,rfl,Ac _,λ_ _=>rfl⟩
def qI (res:List bT×Int×Int) (w:World) (e:Ending) (w':World):Prop :=
 ∃v,e=.returned (.tuple #[v,.int .i64 res.2.1,.int .i64 res.2.2])/\aO w' w.heap.size 74 2 bI v res.1/\aB w w'
structure nI0 (w:World) (B:Nat) (out:List bT) (v:Value) (W:World):Prop where
 r0:TB W B #[.slice none 0 0] 35
 r1:TB W (B+1) #[.int .i64 0] 3
 r2:TB W (B+1+1) #[.int .i64 0] 27
 bl:TB W (B+1+1+1) #[v] 35
 own:aO W w.heap.size 74 2 bI v out
 gr:aB w W
 s0:B=w.heap.size
 sz:B+5<=W.heap.size
theorem nI0.other {w W W':World} {B:Nat} {out:List bT} {v:Value} (h:nI0 w B out v W) {row:Option Nat} (hg:W.grownBy W' row) (hr:RT W row none) (hs:∀q,row=some q->B<=q):nI0 w B out v W' :=
 ⟨h.r0.keep hg hr (by simp),h.r1.keep hg hr (by simp),h.r2.keep hg hr (by simp),h.bl.keep hg hr (by simp),aK h.own hg hr (by simp),h.gr.grown hg (λq hq=>by rw[<-h.s0];exact hs q hq),h.s0,Ae h.sz hg.size⟩
theorem nI0.grows {w W W':World} {B:Nat} {out:List bT} {v:Value} (h:nI0 w B out v W) (hg:aB W W'):nI0 w B out v W' :=
 ⟨h.r0.gr hg,h.r1.gr hg,h.r2.gr hg,h.bl.gr hg,h.own.grows hg,h.gr.tr hg,h.s0,Ae h.sz hg.size⟩
def kY1 (w:World) (B:Nat) (pre:List (Nat×ByteArray)) (W:World):Prop :=
 ∃aa8 x out e,pre=aa8++[x]/\okP aa8 []=some out/\eE out (bO0 x.2)=e/\e≠0/\TB W B #[.slice none 0 0] 35/\TB W (B+1) #[.int .i64 (x.1:Nat)] 3/\TB W (B+1+1) #[.int .i64 e] 27/\aB w W/\B=w.heap.size
theorem kfg {W W':World} (B:Nat) (h:aB W W'):KeepsFrom B W W':=⟨h.size,λk _o _ hk _=>(Below.block h k (Array.getElem?_eq_some_iff.1 hk).1).trans hk⟩
theorem nI0.sets {w W:World} {B:Nat} {out:List bT} {v:Value} (h:nI0 w B out v W) (v0 v1 v2:Value) :
  (TB (((W.setCell ⟨B,0,none⟩ v0).setCell ⟨B+1,0,none⟩ v1).setCell ⟨B+1+1,0,none⟩ v2) B #[v0] 35/\TB (((W.setCell ⟨B,0,none⟩ v0).setCell ⟨B+1,0,none⟩ v1).setCell ⟨B+1+1,0,none⟩ v2) (B+1) #[v1] 3 /\
   TB (((W.setCell ⟨B,0,none⟩ v0).setCell ⟨B+1,0,none⟩ v1).setCell ⟨B+1+1,0,none⟩ v2) (B+1+1) #[v2] 27) /\
  aO (((W.setCell ⟨B,0,none⟩ v0).setCell ⟨B+1,0,none⟩ v1).setCell ⟨B+1+1,0,none⟩ v2) w.heap.size 74 2 bI v out /\
  aB w (((W.setCell ⟨B,0,none⟩ v0).setCell ⟨B+1,0,none⟩ v1).setCell ⟨B+1+1,0,none⟩ v2)/\KeepsOthers W (((W.setCell ⟨B,0,none⟩ v0).setCell ⟨B+1,0,none⟩ v1).setCell ⟨B+1+1,0,none⟩ v2):=by
 have hs:=h.s0;have a1:=h.r0.set 0 v0;have b1:=h.r1.keepN (aU W B 0 v0) (by simp);have c1:=h.r2.keepN (aU W B 0 v0) (by simp;omega);have o1:=aK h.own (aU W B 0 v0) h.r0.rt (by decide);have g1:=h.gr.set (p:=⟨B,0,none⟩) (Nat.le_of_eq hs.symm) v0;have k1:=(KeepsOthers.setCell W ⟨B,0,none⟩ v0);generalize W.setCell ⟨B,0,none⟩ v0=W1 at *;have a2:=a1.keepN (aU W1 (B+1) 0 v1) (by simp);have b2:=b1.set 0 v1;have c2:=c1.keepN (aU W1 (B+1) 0 v1) (by simp);have o2:=aK o1 (aU W1 (B+1) 0 v1) b1.rt (by decide);have g2:=g1.set (p:=⟨B+1,0,none⟩) (show w.heap.size<=B+1 by omega) v1
 have k2:=k1.trans (KeepsOthers.setCell W1 ⟨B+1,0,none⟩ v1);generalize W1.setCell ⟨B+1,0,none⟩ v1=W2 at *;have a3:=a2.keepN (aU W2 (B+1+1) 0 v2) (by simp;omega);have b3:=b2.keepN (aU W2 (B+1+1) 0 v2) (by simp);have c3:=c2.set 0 v2;have o3:=aK o2 (aU W2 (B+1+1) 0 v2) c2.rt (by decide);have g3:=g2.set (p:=⟨B+1+1,0,none⟩) (show w.heap.size<=B+1+1 by omega) v2
 exact⟨⟨a3,b3,c3⟩,o3,g3,k2.trans (KeepsOthers.setCell W2 ⟨B+1+1,0,none⟩ v2)⟩
theorem nI0.bad {w W:World} {B:Nat} {out:List bT} {v:Value} {pre:List (Nat×ByteArray)} {x:Nat×ByteArray} {e:Int} (h:nI0 w B out v W) (ho:okP pre []=some out) (he:eE out (bO0 x.2)=e) (h0:e≠0) :
  kY1 w B (pre++[x]) (((W.setCell ⟨B,0,none⟩ (.slice none 0 0)).setCell ⟨B+1,0,none⟩ (.int .i64 (x.1:Nat))).setCell ⟨B+1+1,0,none⟩ (.int .i64 e)) /\
   KeepsOthers W (((W.setCell ⟨B,0,none⟩ (.slice none 0 0)).setCell ⟨B+1,0,none⟩ (.int .i64 (x.1:Nat))).setCell ⟨B+1+1,0,none⟩ (.int .i64 e)):=by
 obtain⟨⟨a3,b3,c3⟩,_,g3,k3⟩:=h.sets (.slice none 0 0) (.int .i64 (x.1:Nat)) (.int .i64 e);exact⟨⟨pre,x,out,e,rfl,ho,he,h0,a3,b3,c3,g3,h.s0⟩,k3⟩
theorem qG (s:ByteArray) (w:World) (he:pA0 w) (hs:s.size<9223372036854775807) :
  Calls Tryz.prog 7 #[.string s] w (qI (iZ s) w):=by
 by_cases da:1048576<s.size
 ·have hp:iZ s=([],0,2):=by unfold iZ;rw[if_pos da]
  have hb:(1048576:Int)<s.size:=by omega
  have HP:∀u,aB w u->qI (iZ s) w (.returned (.tuple #[.slice none 0 0,.int .i64 0,.int .i64 2])) u:=λu hu=>⟨_,by rw[hp],by rw[hp];exact aO.nil _ _ _ _ _,hu⟩;have HPP:=Aa HP;clear hp HP;go_enter Tryz.func7,Tryz.ntmps7
  go_wp2_with fail
  refine bodyPost_ret (v:=.tuple #[.slice none 0 0,.int .i64 0,.int .i64 2]) (by simp[results,Tryz.results7,go_sem]) rfl ?_
  exact HPP.out _ (((aB.alloc _ _).al _).al _)
 ·have hp:iZ s=uB (gD (splitS 10 s) 0) []:=by unfold iZ;rw[if_neg da]
  have hb:¬(1048576:Int)<s.size:=by omega
  rw[hp];clear hp;have HE:=Aa he;clear he;refine(callsIn_wide (n:=8)).1 (callsIn_of_wp_marks Tryz.func7 rfl trivial ?_);simp only[Tryz.ntmps7,Ba,Aq,Bf,Bj,Bk,Aw,Ax,Bb,Ay,Bg,Bc];gi_wp2
  refine⟨trivial,((callsIn_wide (n:=7)).2 (lN0 s _)).mono ?_⟩;rintro e w1 ⟨rfl,rfl⟩;simp only[Ab];gi_wp2
  obtain⟨B,hB⟩:=exq w.heap.size
  have J0:nI0 w B [] (.slice none 0 0) (((((w.alloc (.cells #[.slice none 0 0] 35)).alloc (.cells #[.int .i64 0] 3)).alloc (.cells #[.int .i64 0] 27)).alloc (.cells #[.slice none 0 0] 35)).alloc (.cells #[.string s] 9)):=by
   refine⟨?_,?_,?_,?_,aO.nil _ _ _ _ _,((((aB.alloc _ _).al _).al _).al _).al _,hB,by simp;omega⟩
   ·have:=TB.alloc w #[.slice none 0 0] 35
    rw[<-hB]at this;exact(((this.al _).al _).al _).al _
   ·have:=TB.alloc (w.alloc (.cells #[.slice none 0 0] 35)) #[.int .i64 0] 3
    rw[Ab,<-hB]at this;exact((this.al _).al _).al _
   ·have:=TB.alloc ((w.alloc (.cells #[.slice none 0 0] 35)).alloc (.cells #[.int .i64 0] 3)) #[.int .i64 0] 27
    rw[Ab,Ab,<-hB]at this;exact(this.al _).al _
   ·have:=TB.alloc (((w.alloc (.cells #[.slice none 0 0] 35)).alloc (.cells #[.int .i64 0] 3)).alloc (.cells #[.int .i64 0] 27)) #[.slice none 0 0] 35
    rw[Ab,Ab,Ab,<-hB]at this;exact this.al _
  have TS:TB (((((w.alloc (.cells #[.slice none 0 0] 35)).alloc (.cells #[.int .i64 0] 3)).alloc (.cells #[.int .i64 0] 27)).alloc (.cells #[.slice none 0 0] 35)).alloc (.cells #[.string s] 9)) (B+1+1+1+1) #[.string s] 9:=by
   have:=TB.alloc ((((w.alloc (.cells #[.slice none 0 0] 35)).alloc (.cells #[.int .i64 0] 3)).alloc (.cells #[.int .i64 0] 27)).alloc (.cells #[.slice none 0 0] 35)) #[.string s] 9
   rw[Ab,Ab,Ab,Ab,<-hB]at this;exact this
  rw[<-hB];generalize (((((w.alloc (.cells #[.slice none 0 0] 35)).alloc (.cells #[.int .i64 0] 3)).alloc (.cells #[.int .i64 0] 27)).alloc (.cells #[.slice none 0 0] 35)).alloc (.cells #[.string s] 9))=W0 at J0 TS ⊢;have HBB:=Aa hB;clear hB;have KS:=mD0 7 s (B+1+1+1+1) W0 (by decide) (by omega) (HE.out.toEnv.grows J0.gr) TS;have hBW:w.heap.size<=W0.heap.size:=J0.gr.size
  have ahk:(gD (splitS 10 s) 0).length<=1048577:=by
   have h1:(splitS 10 s).length=Bh s ⟨#[10]⟩+1:=Av ⟨#[10]⟩ (Ac 1) 0 _ s rfl;have h2:=Bi ⟨#[10]⟩ (Ac 1) s.size s (Ac _);have h3:=dM0 (splitS 10 s) 0;omega
  clear da hb
  refine wpIn_rangeFunc_ownH (F:=Fence.wide) (n:=8) (α:=eV1) rfl (by decide) (gf:=74) (lb:=#[.pointer (some ⟨B+1+1+1+1,0,none⟩)]) rfl trivial (enters_of Tryz.func74 (by kernel_rfl) rfl) KS
   (λh k=>h.tr k) (λW l o o' hl ho hc hw=>jW.put W l o o' ho hc) (Below.refl _ _) (λ_=>rfl)
   (λpre W=>∃out v,okP (pre.map (·.1)) []=some out/\nI0 w B out v W)
   (λc pre W=>c=.ret/\kY1 w B (pre.map (·.1)) W) ?hI ?hIx ⟨[],_,rfl,J0⟩
   (λx a' W=>a'={ tmps:=#[.string s,undef,.pointer (some ⟨B,0,none⟩),.pointer (some ⟨B+1,0,none⟩),.pointer (some ⟨B+1+1,0,none⟩),.pointer (some ⟨B+1+1+1,0,none⟩),.int .i64 (x.1.1:Nat),.string x.1.2,undef,undef,undef,undef,undef,undef,.string s,.int .i64 s.size,.bool false,.string s,.func (.func 74) #[] #[.pointer (some ⟨B+1+1+1+1,0,none⟩)],.int .i64 (x.1.1:Nat),.string x.1.2,undef,undef,undef,undef,undef,undef,undef,undef,undef,undef,undef,undef,undef,undef,undef,undef,undef,undef,undef,undef,undef,undef,undef,undef,undef,undef,undef,undef,undef,undef,undef,undef,undef,undef,undef,undef,undef,undef,undef,undef,undef,undef,undef,undef,undef,undef,undef,undef,undef,undef,undef,undef,undef],defers:=[] })
   ?hAx ?assign ?body ?done ?stop
  case hI =>
   rintro pre V V' row ⟨out,v,ho,h⟩ hg hr;exact⟨out,v,ho,h.other hg (RT.of_not λq e=>(hr q e).2) (λq e=>by have:=(hr q e).1;have:=h.s0;omega)⟩
  case hIx =>
   rintro c pre V V' row ⟨hc,aa8,x,out,e,h1,h2,h3,h4,h5,h6,h7,h8,h9⟩ hg hr;have hrt:=RT.of_not λq e=>(hr q e).2;exact⟨hc,aa8,x,out,e,h1,h2,h3,h4,h5.keep hg hrt (by simp),h6.keep hg hrt (by simp),h7.keep hg hrt (by simp),h8.grown hg (λq hq=>by have:=(hr q hq).1;omega),h9⟩
  case hAx =>
   rintro x a' _ V V' row h hg hr;exact h
  case assign =>
   rintro l pre x V K2 ⟨out,v,ho,h⟩ qp;gi_wp2
   exact qp _ _ (KeepsFrom.refl _ _) (jW.refl _) ⟨out,v,ho,h⟩ rfl
  case body =>
   rintro l pre ⟨⟨ln,q⟩,hq⟩ a' V hl af4 ⟨out,v,ho,h⟩ rfl ay;simp only at hq;have uj:=wI0 (Au _) ho;have CC:=λ(u:World) (hu:aB V u)=>Aa (bB1 q u (by omega) (HE.out.toEnv.grows (h.gr.tr hu)));have CK:=λ(s':ByteArray) (u:World) (hu:aB V u)=>Aa (rP0 s' u (HE.out.grows (h.gr.tr hu)));have CN:=λ(s':ByteArray) (u:World)=>Aa (hO0 s' u);have HERR:=λ(e:Int) (he:eE out (bO0 q)=e) (h0:e≠0) (W:World) (hJ:nI0 w B out v W)=>Aa (hJ.bad (x:=(ln,q)) ho he h0);have HOK:=Aa (λ(h0:eE out (bO0 q)=0)=>pW0 (x:=(ln,q)) ho h0);have HPE:Hid ((pre++[(⟨(ln,q),hq⟩:eV1)]).map (·.1)=pre.map (·.1)++[(ln,q)]):=by show _=_;simp
   obtain⟨nm,i7⟩:=exq (mkB (Bo q.data.toList [9]).1);obtain⟨wd,zn⟩:=exq (mkB (Bo q.data.toList [9]).2.1);obtain⟨kd,hkd⟩:=exq (bM0 wd);have af5:bO0 q=⟨nm,kd⟩:=by unfold bO0;rw[<-i7,<-zn,<-hkd]
   have CC1:=CC V (aB.refl V);have CK1:=λ(u:World) (hu:aB V u)=>CK wd u hu;rw[<-i7,<-zn]at CC1;rw[<-hkd]at CK1;rw[af5]at HERR HOK;obtain⟨a1,c1',rfl,fu,hcm,ah⟩:=h.own.at_ rC.len;have HJ:=Aa h;have HAT:=Aa ah;clear CC CK i7 zn hkd af5 ah h;refine wpIn_block ?_;gi_wp2
   refine⟨trivial,((callsIn_wide.2 CC1.out).inRound l).mono ?_⟩;rintro e w3 ⟨⟨bb,rfl⟩,bu⟩;gi_wp2
   refine⟨trivial,((callsIn_wide.2 (CK1 w3 bu).out).inRound l).mono ?_⟩;rintro e w4 ⟨rfl,rfl⟩;have c5:=(HJ.out.grows (bu.tr (aB.alloc w4 (.cells #[.string nm,.int .i64 kd] 74)))).bl.cell (o:=0) rfl;have TP:=TB.alloc w4 #[.string nm,.int .i64 kd] 74;have CF:=Aa (iR out nm a1 c1' (w4.alloc (.cells #[.string nm,.int .i64 kd] 74)) (by omega) (HAT.out.grows (bu.tr (aB.alloc _ _))));gi_wp2
   refine⟨trivial,((callsIn_wide.2 CF.out).inRound l).mono ?_⟩;rintro e w5 ⟨rfl,bg⟩;obtain⟨fi,qj⟩:=exq (findI (posFind out nm));obtain⟨tw,htw⟩:=exq ((posFind out nm).isSome);rw[<-qj,<-htw];have hgV:aB V w5:=bu.tr ((aB.alloc _ _).tr bg);have J6:=HJ.out.grows hgV;have TP6:=TP.gr bg;obtain⟨pb,ma⟩:=exq w4.heap.size;rw[<-ma]at TP6 ⊢;have HTW:Hid (tw=(posFind out nm).isSome):=htw;clear c5 TP CF qj htw ma CC1 CK1 af4;have p0:=TP6.cell (o:=0) rfl;have p1:=TP6.cell (o:=1) rfl;by_cases hk:kd<0
   ·have HE1:=HERR 5 (by unfold eE;rw[if_pos (Or.inl hk)]) (by decide) _ J6
    have z0:=J6.r0.cell (o:=0) rfl;have z1:=J6.r1.cell (o:=0) rfl;have z2:=J6.r2.cell (o:=0) rfl;have y0:=J6.r0.froz 0;have y1:=J6.r1.froz 0;have y2:=J6.r2.froz 0;gi_wp2
    refine⟨trivial,?_⟩;iterate 6 (try gi_wp2)
    exact⟨(kfg _ hgV).trans (HE1.out.2.from _),rfl,by rw[HPE.out];exact HE1.out.1⟩
   ·have CN6:=CN nm w5
    gi_wp2
    refine⟨trivial,((callsIn_wide.2 CN6.out).inRound l).mono ?_⟩;rintro e w6 ⟨rfl,de⟩;have nf:=hgV.tr de;have J7:=J6.grows de;have p0:=de.cell p0;have p1:=de.cell p1;have q5:=J7.bl.cell (o:=0) rfl;clear CN6 CN;by_cases hn:iI nm=true
    ·rw[hn]
     by_cases h0:out=[]
     ·have tj:((out.length:Int)==0)=true:=by rw[h0];rfl
      have H0:=Aa h0;clear h0;by_cases gh:nm.toList=[66,79,83]
      ·by_cases fp:kd=0
       ·subst fp
        have kz:lK ⟨nm,0⟩=true:=by simp[lK,seq,gh,bos,Ak]
        have gj:¬((⟨nm,0⟩:bT).kind<0\/iI (⟨nm,0⟩:bT).name=false\/(out=[]/\lK ⟨nm,0⟩=false)):=by rw[kz];simp[hn]
        clear kz;by_cases htw:tw=true
        ·subst htw
         have HE1:=HERR 4 (by unfold eE;rw[if_neg gj,if_pos HTW.out.symm]) (by decide) _ J7;have z0:=J7.r0.cell (o:=0) rfl;have z1:=J7.r1.cell (o:=0) rfl;have z2:=J7.r2.cell (o:=0) rfl;have y0:=J7.r0.froz 0;have y1:=J7.r1.froz 0;have y2:=J7.r2.froz 0;gi_wp2
         gi_wp2
         exact⟨(kfg _ nf).trans (HE1.out.2.from _),rfl,by rw[HPE.out];exact HE1.out.1⟩
        ·rw[Ar]at htw
         subst htw;by_cases ky:out.length=64
         ·rw[H0.out]at ky;cases ky
         ·have m5:¬(out.length:Int)=64:=by omega
          have HK1:=Aa (HOK.out (by unfold eE;rw[if_neg gj,if_neg (by rw[<-HTW.out];decide),if_neg ky]));have y5:=J7.bl.froz 0;have hbw:w.heap.size<=w6.heap.size:=J7.gr.size;gi_wp2_with (gi_at_builtin;go_loud (refine mH (by rintro⟨_,_,h⟩;exact h) _ (by kernel_rfl) ?_);go_loud (refine aV rC rfl _ _ rfl w.heap.size (.slice a1 out.length c1') out ⟨nm,0⟩ rfl J7.own (aB.refl _) _ 1 rfl #[.string nm,.int .i64 0] rfl rfl (by omega) hbw ?_);intro v7 w7 we ck i9 lj;obtain⟨g7,p7,rfl⟩:=mN we;have u9:=J7.bl.keep ck (RT.own J7.own) (by decide);have c7:=u9.cell (o:=0) rfl;have f7:=u9.froz 0)
          have hb8:=u9.set 0 (.slice (some ⟨g7,0,none⟩) (out.length+1) p7);have gr8:=(lj w J7.gr (Ac _)).set (p:=⟨B+1+1+1,0,none⟩) (show w.heap.size<=B+1+1+1 by rw[J7.s0];omega) (.slice (some ⟨g7,0,none⟩) (out.length+1) p7)
          have eu:RT w7 (some (B+1+1+1)) (some 35):=u9.rt;have rm:=aU w7 (B+1+1+1) 0 (.slice (some ⟨g7,0,none⟩) (out.length+1) p7)
          have hJ8:nI0 w B (out++[⟨nm,0⟩]) (.slice (some ⟨g7,0,none⟩) (out.length+1) p7) (w7.setCell ⟨B+1+1+1,0,none⟩ (.slice (some ⟨g7,0,none⟩) (out.length+1) p7)) :=
           ⟨(J7.r0.keep ck (RT.own J7.own) (by decide)).keepN rm (by simp;omega),(J7.r1.keep ck (RT.own J7.own) (by decide)).keep rm eu (by decide),(J7.r2.keep ck (RT.own J7.own) (by decide)).keep rm eu (by decide),hb8,aK we rm eu (by decide),gr8,J7.s0,Ae J7.sz (Ae ck.size rm.size)⟩
          have hKS:jW V (w7.setCell ⟨B+1+1+1,0,none⟩ (.slice (some ⟨g7,0,none⟩) (out.length+1) p7)):=((jW.gr nf).tr (jW.grown ck (RT.own J7.own) (by decide))).tr (jW.grown rm eu (by decide));have hKF:KeepsFrom W0.heap.size V (w7.setCell ⟨B+1+1+1,0,none⟩ (.slice (some ⟨g7,0,none⟩) (out.length+1) p7)):=((kfg _ nf).trans (fV ck (RT.own J7.own))).trans ((KeepsOthers.setCell w7 ⟨B+1+1+1,0,none⟩ _).from _)
          go_wp2
          gi_wp2
          exact⟨hKF,hKS,_,_,by rw[HPE.out];exact HK1.out,hJ8⟩
       ·have kz:lK ⟨nm,kd⟩=false:=by simp[lK,fp]
        have HE1:=HERR 5 (by unfold eE;rw[if_pos (Or.inr (Or.inr ⟨H0.out,kz⟩))]) (by decide) _ J7;have z0:=J7.r0.cell (o:=0) rfl;have z1:=J7.r1.cell (o:=0) rfl;have z2:=J7.r2.cell (o:=0) rfl;have y0:=J7.r0.froz 0;have y1:=J7.r1.froz 0;have y2:=J7.r2.froz 0;gi_wp2
        gi_wp2
        exact⟨(kfg _ nf).trans (HE1.out.2.from _),rfl,by rw[HPE.out];exact HE1.out.1⟩
      ·have kz:lK ⟨nm,kd⟩=false:=by simp[lK,seq,bos,Ak];intro h;exact absurd (by rw[Ak];exact h) gh
       have HE1:=HERR 5 (by unfold eE;rw[if_pos (Or.inr (Or.inr ⟨H0.out,kz⟩))]) (by decide) _ J7;have z0:=J7.r0.cell (o:=0) rfl;have z1:=J7.r1.cell (o:=0) rfl;have z2:=J7.r2.cell (o:=0) rfl;have y0:=J7.r0.froz 0;have y1:=J7.r1.froz 0;have y2:=J7.r2.froz 0;gi_wp2
       gi_wp2
       exact⟨(kfg _ nf).trans (HE1.out.2.from _),rfl,by rw[HPE.out];exact HE1.out.1⟩
     ·have tj:¬(out.length:Int)=0:=by have:=List.length_pos_iff.2 h0;omega
      have gj:¬(kd<0\/iI nm=false\/(out=[]/\lK ⟨nm,kd⟩=false)):=by rw[hn];simp[h0];omega
      by_cases htw:tw=true
      ·subst htw
       have HE1:=HERR 4 (by unfold eE;rw[if_neg gj,if_pos HTW.out.symm]) (by decide) _ J7;have z0:=J7.r0.cell (o:=0) rfl;have z1:=J7.r1.cell (o:=0) rfl;have z2:=J7.r2.cell (o:=0) rfl;have y0:=J7.r0.froz 0;have y1:=J7.r1.froz 0;have y2:=J7.r2.froz 0;gi_wp2
       gi_wp2
       exact⟨(kfg _ nf).trans (HE1.out.2.from _),rfl,by rw[HPE.out];exact HE1.out.1⟩
      ·rw[Ar]at htw
       subst htw;by_cases ky:out.length=64
       ·have m5:(out.length:Int)=64:=by omega
        have HE1:=HERR 2 (by unfold eE;rw[if_neg gj,if_neg (by rw[<-HTW.out];decide),if_pos ky]) (by decide) _ J7;have z0:=J7.r0.cell (o:=0) rfl;have z1:=J7.r1.cell (o:=0) rfl;have z2:=J7.r2.cell (o:=0) rfl;have y0:=J7.r0.froz 0;have y1:=J7.r1.froz 0;have y2:=J7.r2.froz 0;gi_wp2
        gi_wp2
        exact⟨(kfg _ nf).trans (HE1.out.2.from _),rfl,by rw[HPE.out];exact HE1.out.1⟩
       ·have m5:¬(out.length:Int)=64:=by omega
        have HK1:=Aa (HOK.out (by unfold eE;rw[if_neg gj,if_neg (by rw[<-HTW.out];decide),if_neg ky]));have y5:=J7.bl.froz 0;have hbw:w.heap.size<=w6.heap.size:=J7.gr.size;gi_wp2_with (gi_at_builtin;go_loud (refine mH (by rintro⟨_,_,h⟩;exact h) _ (by kernel_rfl) ?_);go_loud (refine aV rC rfl _ _ rfl w.heap.size (.slice a1 out.length c1') out ⟨nm,kd⟩ rfl J7.own (aB.refl _) _ 1 rfl #[.string nm,.int .i64 kd] rfl rfl (by omega) hbw ?_);intro v7 w7 we ck i9 lj;obtain⟨g7,p7,rfl⟩:=mN we;have u9:=J7.bl.keep ck (RT.own J7.own) (by decide);have c7:=u9.cell (o:=0) rfl;have f7:=u9.froz 0)
        have hb8:=u9.set 0 (.slice (some ⟨g7,0,none⟩) (out.length+1) p7);have gr8:=(lj w J7.gr (Ac _)).set (p:=⟨B+1+1+1,0,none⟩) (show w.heap.size<=B+1+1+1 by rw[J7.s0];omega) (.slice (some ⟨g7,0,none⟩) (out.length+1) p7)
        have eu:RT w7 (some (B+1+1+1)) (some 35):=u9.rt;have rm:=aU w7 (B+1+1+1) 0 (.slice (some ⟨g7,0,none⟩) (out.length+1) p7)
        have hJ8:nI0 w B (out++[⟨nm,kd⟩]) (.slice (some ⟨g7,0,none⟩) (out.length+1) p7) (w7.setCell ⟨B+1+1+1,0,none⟩ (.slice (some ⟨g7,0,none⟩) (out.length+1) p7)) :=
         ⟨(J7.r0.keep ck (RT.own J7.own) (by decide)).keepN rm (by simp;omega),(J7.r1.keep ck (RT.own J7.own) (by decide)).keep rm eu (by decide),(J7.r2.keep ck (RT.own J7.own) (by decide)).keep rm eu (by decide),hb8,aK we rm eu (by decide),gr8,J7.s0,Ae J7.sz (Ae ck.size rm.size)⟩
        have hKS:jW V (w7.setCell ⟨B+1+1+1,0,none⟩ (.slice (some ⟨g7,0,none⟩) (out.length+1) p7)):=((jW.gr nf).tr (jW.grown ck (RT.own J7.own) (by decide))).tr (jW.grown rm eu (by decide));have hKF:KeepsFrom W0.heap.size V (w7.setCell ⟨B+1+1+1,0,none⟩ (.slice (some ⟨g7,0,none⟩) (out.length+1) p7)):=((kfg _ nf).trans (fV ck (RT.own J7.own))).trans ((KeepsOthers.setCell w7 ⟨B+1+1+1,0,none⟩ _).from _)
        go_wp2
        gi_wp2
        exact⟨hKF,hKS,_,_,by rw[HPE.out];exact HK1.out,hJ8⟩
    ·rw[Ar]at hn
     rw[hn];have HE1:=HERR 5 (by unfold eE;rw[if_pos (Or.inr (Or.inl hn))]) (by decide) _ J7;have z0:=J7.r0.cell (o:=0) rfl;have z1:=J7.r1.cell (o:=0) rfl;have z2:=J7.r2.cell (o:=0) rfl;have y0:=J7.r0.froz 0;have y1:=J7.r1.froz 0;have y2:=J7.r2.froz 0;gi_wp2
     gi_wp2
     exact⟨(kfg _ nf).trans (HE1.out.2.from _),rfl,by rw[HPE.out];exact HE1.out.1⟩
  case stop =>
   rintro D c pre V hD af6 ⟨rfl,aa8,x,out,e,h1,h2,h3,h4,h5,h6,h7,h8,h9⟩ hKD;clear h9;have aw:B≠D/\B+1≠D/\B+1+1≠D:=by have:=J0.sz;omega
   have tb:∀(b:Nat) (cs:Array Value) (t:TypeId) (o':Obj),b≠D->TB V b cs t->TB (V.putObj D o') b cs t:=λb cs t o' hb h=>(Aj hb).trans h;gi_wp2
   refine⟨by simp,.inl ⟨_,_,rfl,run_takeDeferred hKD,?_⟩⟩;have d0:=(tb _ _ _ (.deferred none) aw.1 h5).cell (o:=0) rfl;have d1:=(tb _ _ _ (.deferred none) aw.2.1 h6).cell (o:=0) rfl;have d2:=(tb _ _ _ (.deferred none) aw.2.2 h7).cell (o:=0) rfl;have HR:=sY0 (by rw[h1]at af6;exact af6) h2 h3 h4;refine⟨.tuple #[.slice none 0 0,.int .i64 (x.1:Nat),.int .i64 e],by simp[results,Tryz.results7,go_sem,d0,d1,d2],?_⟩
   rw[HR];exact⟨_,rfl,aO.nil _ _ _ _ _,Below.trans h8 (belowK_b (w:=w) (Ac _) V D _ _ (by omega) hKD rfl rfl)⟩
  case done =>
   rintro D xs V hD hxs ⟨out,v,ho,h⟩ hKD;obtain⟨a1,c1',rfl,fu,hcm,ah⟩:=h.own.at_ rC.len;have c1:=h.bl.cell (o:=0) rfl;have z0:=h.r0.cell (o:=0) rfl;have z1:=h.r1.cell (o:=0) rfl;have z2:=h.r2.cell (o:=0) rfl;have y0:=h.r0.froz 0;have y1:=h.r1.froz 0;have y2:=h.r2.froz 0;have HR:=sQ0 (all:=gD (splitS 10 s) 0) (out:=out) (by rw[<-hxs];exact ho);have HRR:=Aa HR;have aeg:=J0.sz;have HJ:=Aa h;clear HR h ho hxs ah;by_cases h0:out=[]
   ·subst h0
    have tj:(([]:List bT).length:Int)=0:=rfl;gi_wp2
    obtain⟨⟨t0,t1,t2⟩,t3,t4,t5⟩:=HJ.out.sets (.slice none 0 0) (.int .i64 0) (.int .i64 5);have k0:(((V.setCell ⟨B,0,none⟩ (.slice none 0 0)).setCell ⟨B+1,0,none⟩ (.int .i64 0)).setCell ⟨B+1+1,0,none⟩ (.int .i64 5)).heap[D]?=some (.deferred (some [])):=by rw[heap_setCell_other _ _ _ _ (show D≠B+1+1 by omega),heap_setCell_other _ _ _ _ (show D≠B+1 by omega),heap_setCell_other _ _ _ _ (show D≠B by omega)];exact hKD
    generalize (((V.setCell ⟨B,0,none⟩ (.slice none 0 0)).setCell ⟨B+1,0,none⟩ (.int .i64 0)).setCell ⟨B+1+1,0,none⟩ (.int .i64 5))=X at *;have tb:∀(b:Nat) (cs:Array Value) (t:TypeId) (o':Obj),b≠D->TB X b cs t->TB (X.putObj D o') b cs t:=λb cs t o' hb h=>(Aj hb).trans h;refine⟨by simp,.inl ⟨_,_,rfl,run_takeDeferred k0,?_⟩⟩;have d0:=(tb _ _ _ (.deferred none) (by omega) t0).cell (o:=0) rfl;have d1:=(tb _ _ _ (.deferred none) (by omega) t1).cell (o:=0) rfl;have d2:=(tb _ _ _ (.deferred none) (by omega) t2).cell (o:=0) rfl;refine⟨.tuple #[.slice none 0 0,.int .i64 0,.int .i64 5],by simp[results,Tryz.results7,go_sem,d0,d1,d2],?_⟩
    rw[HRR.out];exact⟨_,rfl,aO.nil _ _ _ _ _,Below.trans t4 (belowK_b (w:=w) (Ac _) X D _ _ (by omega) k0 rfl rfl)⟩
   ·have tj:¬(out.length:Int)=0:=by have:=List.length_pos_iff.2 h0;omega
    gi_wp2
    obtain⟨⟨t0,t1,t2⟩,t3,t4,t5⟩:=HJ.out.sets (.slice a1 out.length c1') (.int .i64 0) (.int .i64 0);have k0:(((V.setCell ⟨B,0,none⟩ (.slice a1 out.length c1')).setCell ⟨B+1,0,none⟩ (.int .i64 0)).setCell ⟨B+1+1,0,none⟩ (.int .i64 0)).heap[D]?=some (.deferred (some [])):=by rw[heap_setCell_other _ _ _ _ (show D≠B+1+1 by omega),heap_setCell_other _ _ _ _ (show D≠B+1 by omega),heap_setCell_other _ _ _ _ (show D≠B by omega)];exact hKD
    generalize (((V.setCell ⟨B,0,none⟩ (.slice a1 out.length c1')).setCell ⟨B+1,0,none⟩ (.int .i64 0)).setCell ⟨B+1+1,0,none⟩ (.int .i64 0))=X at *;have tb:∀(b:Nat) (cs:Array Value) (t:TypeId) (o':Obj),b≠D->TB X b cs t->TB (X.putObj D o') b cs t:=λb cs t o' hb h=>(Aj hb).trans h;refine⟨by simp,.inl ⟨_,_,rfl,run_takeDeferred k0,?_⟩⟩;have d0:=(tb _ _ _ (.deferred none) (by omega) t0).cell (o:=0) rfl;have d1:=(tb _ _ _ (.deferred none) (by omega) t1).cell (o:=0) rfl;have d2:=(tb _ _ _ (.deferred none) (by omega) t2).cell (o:=0) rfl;refine⟨.tuple #[.slice a1 out.length c1',.int .i64 0,.int .i64 0],by simp[results,Tryz.results7,go_sem,d0,d1,d2],?_⟩
    rw[HRR.out];exact(by rw[if_neg h0];exact⟨_,rfl,ownsRow_putObj t3 _ k0 rfl,Below.trans t4 (belowK_b (w:=w) (Ac _) X D _ _ (by omega) k0 rfl rfl)⟩)
end
section
open Go Go.RowKit Go.Shelf
attribute [local go_sem] aM aP
theorem pZ (f:En->Nat) (g:Nat) (cb:Array Value) (eg:∀args w,(callFunc g args).run Tryz.prog w=.ok (.enter g args) w)
  (l:List En) (eb:Nat) (a:Option Addr) (c:Nat) (w:World) (hl:l.length<=1048576) (hf:∀x∈l,f x<9223372036854775808) (ah:aF w a 5 (l.map bE)) (hb:w.cell? ⟨eb,0,none⟩=some (.slice a l.length c))
  (HG:∀x∈l,∀W,aB w W->Calls Tryz.prog g (#[x.agg]++cb) W λe w'=>e=.returned (.int .i64 (f x))/\aB W w') :
  Calls Tryz.prog 46 #[.func (.func g) #[] cb,.pointer (some ⟨eb,0,none⟩)] w λe w'=>aB w w'/\∃v,e=.returned v/\aO w' w.heap.size 5 1 aQ v (cG (l.map f)):=by
 have HAT:=Aa ah;have HGG:=λx hx W hW=>Aa (HG x hx W hW);have HB:=Aa hb;have ke:=λ(Y:World)=>bL1 l.length Y hl;obtain⟨ns,x8⟩:=exq (l.map f);have ym:ns.length=l.length:=by rw[x8,List.length_map]
 rw[<-x8];have CN:=λ(W:World) (q c:Nat) (h:aF W (some ⟨q,0,none⟩) 1 (ns.map jP))=>Aa (nO ns (some ⟨q,0,none⟩) c W (by omega) (by rw[x8];intro n hn;obtain⟨x,hx,rfl⟩:=List.mem_map.1 hn;exact hf x hx) h);rw[ym]at CN;have HNS:=Aa x8;clear ah HG x8 hf;have gh:(w.alloc (.cells (madeCells #[.int .i64 0] l.length) 3)).cell? ⟨eb,0,none⟩=some (.slice a l.length c):=(aB.alloc _ _).cell hb;go_enter Tryz.func46,Tryz.ntmps46
 go_wp2_with fail
 have cg:=eF0 (w:=w) (n:=l.length) hl;rw[Bd,<-ym,<-qK ns 0,ym]at cg;obtain⟨W1,dv⟩:=exq (w.alloc (.cells (madeCells #[.int .i64 0] l.length) 3));have ep:aB w W1:=by rw[dv];exact aB.alloc _ _
 rw[<-dv]at cg ⊢;clear dv hb gh;go_loopw [12] (λi wr=>∃(k:Nat),k<=l.length/\i=.int .i64 k/\aO wr w.heap.size 3 1 jP (.slice (some ⟨w.heap.size,0,none⟩) l.length l.length) (lO ns 0 k)/\aB w wr) (λi _=>l.length-(intOf i).toNat)
 case atStart=>exact⟨0,Au _,rfl,cg,ep⟩
 case round =>
  clear cg ep;obtain⟨k,hk,rfl,ae,hg⟩:=hrel;by_cases af:k<l.length
  ·obtain⟨⟨xr,xs,xl,xt,xc⟩,hx⟩:∃x,l[k]?=some x:=⟨_,Ad af⟩
   obtain⟨ba,oa,rfl,cn⟩:=(HAT.out.grows hg).get (aH af);have c0:wr.cell? ⟨ba,oa+k*5,none⟩=some (.string xr):=cn k _ hx 0 _ rfl;have c1:wr.cell? ⟨ba,oa+k*5+1,none⟩=some (.string xs):=cn k _ hx 1 _ rfl;have c2:wr.cell? ⟨ba,oa+k*5+2,none⟩=some (.int .i64 xl):=cn k _ hx 2 _ rfl;have c3:wr.cell? ⟨ba,oa+k*5+3,none⟩=some (.int .i64 xt):=cn k _ hx 3 _ rfl;have c4:wr.cell? ⟨ba,oa+k*5+4,none⟩=some (.int .i64 xc):=cn k _ hx 4 _ rfl;obtain⟨y,hy⟩:=exq (f ⟨xr,xs,xl,xt,xc⟩);have hnk:ns[k]?=some y:=by rw[HNS.out,List.getElem?_map,hx,hy];rfl
   have CG:=HGG _ (Am hx) (wr.alloc (.cells #[.string xr,.string xs,.int .i64 xl,.int .i64 xt,.int .i64 xc] 89)) (hg.al _);rw[<-hy]at CG;have HNK:=Aa hnk;clear cn hx hy hnk;go_wp2_with fail
   refine CG.out.mono ?_;rintro e w2 ⟨rfl,an⟩;have fe:=aB.trans _ _ _ (aB.alloc wr _) an;have aj:=ae.grows fe;have gq:=aB.trans _ _ _ hg fe;have zj:=mK ns 0 (k:=k) (by omega);obtain⟨z,hz⟩:∃z,(lO ns 0 k)[k]?=some z:=⟨_,Ad (by omega)⟩;have e1:=eH (f:=λn:Nat=>Value.int .i64 n) aj hz;obtain⟨f1,_,bd⟩:=fM (f:=λn:Nat=>Value.int .i64 n) aj (k:=k) (by omega) y;rw[sR HNK.out]at bd;have HO:=Aa bd;clear ae aj bd hz zj an fe c0 c1 c2 c3 c4 CG;go_wp2_with fail
   go_roundw
   case rel=>exact⟨k+1,by omega,by go_num,HO.out,gq.set (Ac _) _⟩
   case measure=>simp[intOf];omega
  ·obtain rfl:k=l.length:=by omega
   rw[<-ym,sF,ym]at ae;obtain⟨a1,c1,e1,_,_,dw⟩:=ae.at_ (k:=1) (λx=>(rfl:(jP x).length=1));have e2:=(Value.slice.inj e1).1;subst e2;have CN1:=CN wr w.heap.size l.length dw;clear CN e1 dw ae;go_wp2_with fail
   refine CN1.out.mono ?_;rintro e w2 ⟨v,rfl,hv,an⟩;go_wp2_with fail
   go_ret;exact⟨aB.trans _ _ _ hg an,v,rfl,hv.base hg.size⟩
end
end Go.Proofs.YtiopheoljccmpaaGreatDoor
