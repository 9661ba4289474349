/- The texts Kid Lb1 Bcol Lb0 Lb3 Lb4, one behind the other. -/
import Derived.Test.YthgklnohcmaopaaGreatDoorTq38
import Derived.Test.YthgklnohcmaopaaGreatDoorTq27
import Derived.Shelf.Abstract
import Derived.OwnWalkIn
import Derived.LoopNIn
import Derived.LoopIn
import Derived.Test.YthgklnohcmaopaaGreatDoorTq5
import Derived.Test.YthgklnohcmaopaaGreatDoorTq22
import Derived.Test.YthgklnohcmaopaaGreatDoorTq3
import Derived.Test.YthgklnohcmaopaaGreatDoorTq26
open Go.Lib renaming hid → Aa
open List renaming getElem?_eq_getElem → Ab,append_assoc → Aj,map_append → Ak,replicate → Al,length_singleton → Am,mem_of_getElem? → Ao,length_append → Ap,append_nil → Ar
open Nat renaming le_trans → Ac,le_refl → Ae,mul_one → Aq
open Go.IntKind renaming signed → Ad,wrap → Af,bits → Ag
open Go.World renaming size_alloc → Ah,grownBy_alloc → Ai,cell? → An
set_option maxHeartbeats 4000000
namespace Go.Proofs.YthgklnohcmaopaaGreatDoor
set_option maxRecDepth 100000
section
open Go Go.RowKit Go.Shelf
attribute [local go_sem] aK aP
abbrev wH (L:List (List UInt8)) (x:dV):={ y:dV // y∈fA L x }
def cW0 (y:dV):Value := .agg #[.int .i64 y.i,.int .i64 y.t,.int .i64 y.d]
def bI (S:Nat->Prop) (W W':World):Prop:=∀b,S b->W'.heap[b]?=W.heap[b]?
theorem bI.refl (S:Nat->Prop) (W:World):bI S W W:=λ_ _=>rfl
theorem bI.tr {S:Nat->Prop} {A B C:World} (h:bI S A B) (k:bI S B C):bI S A C:=λb hb=>(k b hb).trans (h b hb)
theorem bI.cell {S:Nat->Prop} {W W':World} (h:bI S W W') {p:Addr} {v:Value} (hp:S p.block) (hc:W.cell? p=some v):W'.cell? p=some v:=by
 unfold An at *;rw[h _ hp];exact hc
theorem bI.at_ {S:Nat->Prop} {W W':World} (h:bI S W W') {a:Option Addr} {k:Nat} {rows:List (List Value)} (ha:∀q,a=some q->S q.block) (ac:aF W a k rows):aF W' a k rows:=λhn=>by
 obtain⟨b,off,e,hc⟩:=ac hn;exact⟨b,off,e,λi cs hi j v hj=>h.cell (p:=⟨b,off+i*k+j,none⟩) (ha ⟨b,off,none⟩ e) (hc i cs hi j v hj)⟩
theorem bI.of_below {S:Nat->Prop} {n:Nat} {W W':World} (h:Below n W W') (hS:∀b,S b->b<n):bI S W W':=λb hb=>Below.block h b (hS b hb)
theorem bI.drew (S:Nat->Prop) (W:World):bI S W W.drew:=λ_ _=>rfl
theorem oP0 (n:Nat) (B:List ByteArray) (a:Option Addr) (c bx bL:Nat) (x:dV) (S:Nat->Prop) (w:World) (hB:B.length<=20000) (cw:∀s∈B,s.size<=256) (ac8:Asc (bls B)) (g:qW (bls B) x)
  (hSx:S bx) (hSL:S bL) (hSa:∀q,a=some q->S q.block) (ae:∀b,S b->b<w.heap.size)
  (l5:w.cell? ⟨bx,0,none⟩=some (.int .i64 x.i)) (ga:w.cell? ⟨bx,1,none⟩=some (.int .i64 x.t)) (ig:w.cell? ⟨bx,2,none⟩=some (.int .i64 x.d))
  (hL:w.cell? ⟨bL,0,none⟩=some (.slice a B.length c)) (ac:aF w a 1 (B.map stC)) :
  SeqStopsK Fence.wide n Tryz.prog 182 #[.pointer (some ⟨bx,0,none⟩),.pointer (some ⟨bL,0,none⟩)] (λy:wH (bls B) x => #[cW0 y.1]) (bI S) (λys=>ys.map (·.1)=fA (bls B) x) (λ_=>True) (fA (bls B) x).length w:=by
 intro l J Jx W hW hJ _ hY h0;have hK0:bI S w W:=bI.of_below hW ae;have HY:=Aa hY;have HJ:=Aa hJ;have hJd:Hid (∀pre V,J pre V->J pre V.drew):=λpre V h=>hJ pre V V.drew none h ⟨rfl,rfl,rfl,Ae _,λ_ _ _=>rfl⟩ (λr e=>by cases e);obtain⟨c0,me⟩:∃f:World->Prop,f=λV=>V.cell? ⟨bx,0,none⟩=some (.int .i64 x.i)/\V.cell? ⟨bx,1,none⟩=some (.int .i64 x.t)/\V.cell? ⟨bx,2,none⟩=some (.int .i64 x.d)/\V.cell? ⟨bL,0,none⟩=some (.slice a B.length c)/\aF V a 1 (B.map stC):=⟨_,rfl⟩
 have CEL:Hid (∀V,bI S w V->c0 V):=λV hV=>by
  rw[me];exact⟨hV.cell hSx l5,hV.cell hSx ga,hV.cell hSx ig,hV.cell hSL hL,hV.at_ hSa ac⟩
 have HC0:=Aa me;have HG:=Aa g;have HASC:=Aa ac8;obtain⟨le1,le2⟩:=g.le;rw[gJ]at le2;obtain⟨xi,xt,xd⟩:=x;simp only at le1 le2 l5 ga ig
 have y7:xd<=256\/xi=xt:=by
  rcases Nat.lt_or_ge xi xt with h|h
  ·refine Or.inl ?_
   have h1:=g.len xi (Ae _) h;obtain⟨s,hs⟩:∃s,B[xi]?=some s:=⟨_,Ab (by omega)⟩;rw[dO hs,gS]at h1
   have:=cw s (Ao hs)
   simp only at h1;omega
  ·exact Or.inr (by omega)
 have HSZ:=Aa cw;have HD:=Aa y7;have ST:Hid (J [] W):=h0;clear hY hJ me l5 ga ig hL ac g ac8 cw y7 h0 ae hW;refine callsIn_wide.2 ?_
 obtain⟨d0,d1,d2,dL,dA⟩:W.cell? ⟨bx,0,none⟩=some (.int .i64 xi)/\W.cell? ⟨bx,1,none⟩=some (.int .i64 xt)/\W.cell? ⟨bx,2,none⟩=some (.int .i64 xd)/\W.cell? ⟨bL,0,none⟩=some (.slice a B.length c)/\aF W a 1 (B.map stC):=by
  have:=CEL.out W hK0;rw[HC0.out]at this;exact this
 have z0:∀y:Ext aB W.drew,y.u.cell? ⟨bx,0,none⟩=some (.int .i64 xi):=aG ((aB.drew W).cell d0);have z1:∀y:Ext aB W.drew,y.u.cell? ⟨bx,1,none⟩=some (.int .i64 xt):=aG ((aB.drew W).cell d1);have z2:∀y:Ext aB W.drew,y.u.cell? ⟨bx,2,none⟩=some (.int .i64 xd):=aG ((aB.drew W).cell d2);have zL:∀y:Ext aB W.drew,y.u.cell? ⟨bL,0,none⟩=some (.slice a B.length c):=aG ((aB.drew W).cell dL);by_cases ai:xi<xt
 case neg =>
  have hni:¬(xi:Int)<xt:=by omega
  have j9:fA (bls B) ⟨xi,xt,xd⟩=[]:=by
   unfold fA;exact gM (by unfold bM;simp only;split<;>omega)
  have FIN:Hid (∃xs:List (wH (bls B) ⟨xi,xt,xd⟩),xs.map (·.1)=fA (bls B) ⟨xi,xt,xd⟩/\J xs W.drew):=⟨[],j9.symm,hJd.out _ _ ST.out⟩;clear j9;have e1:=(aB.drew W).cell d1;go_enter Tryz.func182,Tryz.ntmps182
  go_wp2_with fail
  refine bP (bB 14 []) (by kernel_rfl) (λd _ _ _ _ h=>by cases d<;>exact h) ?_
  iterate 14 (refine aO rfl (λK hK=>?_);go_simp;refine hK _ ?_;clear hK K)
  refine bU ?_;clear z0 z1 z2 zL;go_wp2_with fail
  go_loopw [4] (λu wr=>u=.int .i64 xi/\Hid (wr=W.drew)) (λ_ _=>0)
  case atStart=>exact⟨rfl,rfl⟩
  case round =>
   obtain⟨rfl,hw⟩:=hrel;obtain rfl:=hw.out;go_wp2_with fail
   refine bodyPost_end (results_none rfl _ _ _) rfl ⟨⟨_,rfl⟩,.inl FIN.out⟩
 case pos =>
  have tz:0<B.length:=by omega
  obtain⟨sb,so,rfl,cn⟩:=at1 (f:=λs:ByteArray=>Value.string s) dA (aH (k:=0) tz);have hxd:xd<=256:=by rcases HD.out with h|h<;>omega
  have CELL:Hid (∀V,bI S w V->V.cell? ⟨bx,1,none⟩=some (.int .i64 xt)/\V.cell? ⟨bx,2,none⟩=some (.int .i64 xd)/\V.cell? ⟨bL,0,none⟩=some (.slice (some ⟨sb,so,none⟩) B.length c)/\∀j s,B[j]?=some s->V.cell? ⟨sb,so+j,none⟩=some (.string s)):=λV hV=>by
   have h:=CEL.out V hV;rw[HC0.out]at h;obtain⟨_,h1,h2,h3,h4⟩:=h;obtain⟨b',o',e,h5⟩:=at1 (f:=λs:ByteArray=>Value.string s) h4 (aH (k:=0) tz);have e1:sb=b'/\so=o':=by simpa using e
   rw[<-e1.1,<-e1.2]at h5;exact⟨h1,h2,h3,h5⟩
  obtain⟨s0,kv⟩:∃s,B[xi]?=some s:=⟨_,Ab (by omega)⟩;have hn0:=dO kv;have y0:∀y:Ext aB W.drew,y.u.cell? ⟨sb,so+xi,none⟩=some (.string s0):=aG ((aB.drew W).cell (cn xi s0 kv));have ah7:(xi:Int)<B.length:=by omega
  have hni:(xi:Int)<xt:=by omega
  have KD:Hid (bI S w W.drew):=hK0.tr (bI.drew S W);obtain⟨I0,hI0⟩:=exq (bM (bls B) ⟨xi,xt,xd⟩);have START:Hid (I0<=xt/\I0=bM (bls B) ⟨xi,xt,xd⟩/\J [] W.drew):=⟨by rw[hI0];unfold bM;simp only;split<;>omega,hI0,hJd.out _ _ ST.out⟩
  clear hK0 d1 d2 dL dA cn;have LOOP:Hid (xi<=I0):=by show _<=_;rw[hI0];unfold bM;simp only;split<;>omega
  by_cases hh:s0.size=xd
  ·have qq:I0=xi+1:=by
    rw[hI0];unfold bM nR;rw[if_pos];simp[ai,hn0,gS,hh]
   have pm:((s0.size:Int)==xd)=true:=by rw[hh];simp
   have wI:IntKind.i64.wrap ((xi:Int)+1)=I0:=by simp[Af,Ag,Ad];omega
   have HI1:=Aa qq;clear hI0 qq hh hn0 kv;go_enter Tryz.func182,Tryz.ntmps182
   go_wp2_with fail
   refine bP (bB 14 []) (by kernel_rfl) (λd _ _ _ _ h=>by cases d<;>exact h) ?_
   iterate 14 (refine aO rfl (λK hK=>?_);go_simp;refine hK _ ?_;clear hK K)
   refine bU ?_;clear z0 z1 z2 zL y0 d0;go_wp2_with fail
   go_loopw [4] (λu wr=>∃(I:Nat) (pre:List (wH (bls B) ⟨xi,xt,xd⟩)),u=.int .i64 I/\xi<=I/\I<=xt/\Hid (bM (bls B) ⟨xi,xt,xd⟩<=I/\pre.map (·.1)++eY (bls B) xd xt I=fA (bls B) ⟨xi,xt,xd⟩)/\Hid (bI S w wr)/\Hid (J pre wr)) (λu _=>xt-(intOf u).toNat)
   case atStart =>
    refine⟨I0,[],by first|go_num|(rw[HI1.out]),LOOP.out,START.out.1,⟨by rw[START.out.2.1];exact Ae _,?_⟩,KD.out,START.out.2.2⟩
    rw[START.out.2.1];rfl
   case round =>
    clear START KD LOOP ST;obtain⟨I,pre,rfl,hxI,hIt,hP,hK,ij⟩:=hrel;obtain⟨d1,d2,dL,dS⟩:=CELL.out wr hK.out;by_cases ae:I<xt
    ·have fh:(I:Int)<xt:=by omega
     obtain⟨sI,o0⟩:∃s,B[I]?=some s:=⟨_,Ab (by omega)⟩;have hdI:xd<(nth (bls B) I).length:=HG.out.start HASC.out (j:=I) hP.out.1 ae;rw[dO o0,gS]at hdI;have wK:IntKind.i64.wrap ((I:Int)+1)=(I+1:Nat):=by simp[Af,Ag,Ad];omega
     have KI:=Aa hK.out;have JI:=Aa ij.out;have HSI:=Aa o0;clear dL dS d2 hK ij o0;go_wp2_with fail
     go_loopw [5] (λu wq=>∃(K:Nat),u=.int .i64 K/\I+1<=K/\K<=xt/\Hid (dR (bls B) xd xt I=pJ (gT (bls B) xd I) xt K)/\Hid (bI S w wq)/\Hid (J pre wq)) (λu _=>xt-(intOf u).toNat)
     case atStart=>exact⟨I+1,by go_num,Ae _,ae,rfl,KI.out,JI.out⟩
     case round =>
      clear KI JI;obtain⟨K,rfl,hIK,hKt,hE,hK,ij⟩:=hrel;obtain⟨d1,d2,dL,dS⟩:=CELL.out wr hK.out;have x1:∀y:Ext aB wr.drew,y.u.cell? ⟨bx,1,none⟩=some (.int .i64 xt):=aG ((aB.drew wr).cell d1);have x2:∀y:Ext aB wr.drew,y.u.cell? ⟨bx,2,none⟩=some (.int .i64 xd):=aG ((aB.drew wr).cell d2);have xL:∀y:Ext aB wr.drew,y.u.cell? ⟨bL,0,none⟩=some (.slice (some ⟨sb,so,none⟩) B.length c):=aG ((aB.drew wr).cell dL);have xI:∀y:Ext aB wr.drew,y.u.cell? ⟨sb,so+I,none⟩=some (.string sI):=aG ((aB.drew wr).cell (dS I sI HSI.out));have hIl:(I:Int)<B.length:=by omega
      have K2:=Aa (hK.out.tr (bI.drew S wr));have J2:=Aa (hJd.out _ _ ij.out);by_cases az:K<xt
      ·have kt:(K:Int)<xt:=by omega
       obtain⟨sK,o7⟩:∃s,B[K]?=some s:=⟨_,Ab (by omega)⟩;have hdK:xd<(nth (bls B) K).length:=HG.out.start HASC.out (j:=K) (by have:=hP.out.1;omega) az;rw[dO o7,gS]at hdK;have agb:(xd:Int)<sI.size:=by omega
       have agc:(xd:Int)<sK.size:=by omega
       have hKl:(K:Int)<B.length:=by omega
       have xK:∀y:Ext aB wr.drew,y.u.cell? ⟨sb,so+K,none⟩=some (.string sK):=aG ((aB.drew wr).cell (dS K sK o7));have wK2:IntKind.i64.wrap ((K:Int)+1)=(K+1:Nat):=by simp[Af,Ag,Ad];omega
       by_cases he:sK[xd]=sI[xd]
       ·have hb:((sK[xd].toNat:Int)==sI[xd].toNat)=true:=by rw[he];simp
        have SM:Hid (gT (bls B) xd I K=true):=by
         show _=_
         unfold gT;rw[dO o7,dO HSI.out,qJ hdK,qJ hdI,he];simp
        clear d1 d2 dL dS o7 he hK ij;go_wp2_with fail
        refine bP (bB 21 []) (by kernel_rfl) (λd _ _ _ _ h=>by cases d<;>exact h) ?_
        iterate 21 (refine aO rfl (λK hK=>?_);go_simp;refine hK _ ?_;clear hK K)
        refine bU ?_;clear x1 x2 xL xI xK;go_wp2_with fail
        go_roundw
        case rel=>exact⟨K+1,by go_num,by omega,az,by rw[hE.out,sC az SM.out];exact rfl,K2.out,J2.out⟩
        case measure=>simp[intOf];omega
       ·have hb:((sK[xd].toNat:Int)==sI[xd].toNat)=false:=by
         rw[beq_eq_false_iff_ne];intro h;exact he (UInt8.toNat_inj.1 (by omega))
        have SM:Hid (dR (bls B) xd xt I=K):=by
         show _=_
         rw[hE.out,iG];rintro⟨_,h⟩;unfold gT at h;rw[dO o7,dO HSI.out,qJ hdK,qJ hdI]at h;simp at h;exact he h
        clear d1 d2 dL dS o7 he hK ij;go_wp2_with fail
        refine bP (bB 21 []) (by kernel_rfl) (λd _ _ _ _ h=>by cases d<;>exact h) ?_
        iterate 21 (refine aO rfl (λK hK=>?_);go_simp;refine hK _ ?_;clear hK K)
        refine bU ?_;clear x1 x2 xL xI xK;have e2:=K2.out;have cp:=fW (L:=bls B) (d:=xd) (t:=xt) (i:=I) ae;rw[SM.out]at cp
        have cz:(⟨I,K,xd+1⟩:dV)∈fA (bls B) ⟨xi,xt,xd⟩:=by
         rw[<-hP.out.2,cp];simp
        have an:pre.length<(fA (bls B) ⟨xi,xt,xd⟩).length:=by
         rw[<-hP.out.2,cp];simp
        have PN:Hid ((pre++[(⟨⟨I,K,xd+1⟩,cz⟩:wH (bls B) ⟨xi,xt,xd⟩)]).map (λy=>y.1)++eY (bls B) xd xt K=fA (bls B) ⟨xi,xt,xd⟩):=by
         have h2:=hP.out.2;rw[cp]at h2;show _=_
         rw[Ak,Aj];exact h2
        obtain⟨fn,tmps,assign,body,hy,hR⟩:=HY.out pre ⟨⟨I,K,xd+1⟩,cz⟩ wr.drew J2.out an;dsimp only[cW0]at hy
        have ek:((xd+1:Nat):Int)=(xd:Int)+1:=by omega
        rw[ek]at hy;have m4:=Aa hR;have PS:Hid (bM (bls B) ⟨xi,xt,xd⟩<=K):=by have:=hP.out.1;show _<=_;omega
        have d2:=(CELL.out _ K2.out).2.1;have wd:IntKind.i64.wrap ((xd:Int)+1)=(xd+1:Nat):=by simp[Af,Ag,Ad];omega
        clear cp hR an e2 hP ek wd;iterate 10 go_step
        refine cA0 7 n ?_;gi_wp2
        refine⟨λh=>(by cases h),?_⟩;refine m4.out.mono ?_;rintro e W3 (⟨rfl,kw,ky⟩|⟨rfl,fi⟩)
        ·gi_wp2
         have K3:=Aa (K2.out.tr ky);have J3:=Aa kw;clear m4 hy kw ky;go_wp2_with fail
         go_roundw
         case rel=>exact⟨K,_,by go_num,by omega,hKt,⟨PS.out,PN.out⟩,K3.out,J3.out⟩
         case measure=>simp[intOf];omega
        ·have JX:=Aa fi
         clear m4 hy fi;gi_wp2
         go_wp2_with fail
         exact bodyPost_ret (results_none rfl _ _ _) rfl ⟨⟨_,rfl⟩,.inr ⟨_,trivial,JX.out⟩⟩
      ·have kt:¬(K:Int)<xt:=by omega
       have SM:Hid (dR (bls B) xd xt I=K):=by
        show _=_
        rw[hE.out,iG (by omega)]
       clear d1 d2 dL dS hK ij;go_wp2_with fail
       refine bP (bB 21 []) (by kernel_rfl) (λd _ _ _ _ h=>by cases d<;>exact h) ?_
       iterate 21 (refine aO rfl (λK hK=>?_);go_simp;refine hK _ ?_;clear hK K)
       refine bU ?_;clear x1 x2 xL xI;have e2:=K2.out;have cp:=fW (L:=bls B) (d:=xd) (t:=xt) (i:=I) ae;rw[SM.out]at cp
       have cz:(⟨I,K,xd+1⟩:dV)∈fA (bls B) ⟨xi,xt,xd⟩:=by
        rw[<-hP.out.2,cp];simp
       have an:pre.length<(fA (bls B) ⟨xi,xt,xd⟩).length:=by
        rw[<-hP.out.2,cp];simp
       have PN:Hid ((pre++[(⟨⟨I,K,xd+1⟩,cz⟩:wH (bls B) ⟨xi,xt,xd⟩)]).map (λy=>y.1)++eY (bls B) xd xt K=fA (bls B) ⟨xi,xt,xd⟩):=by
        have h2:=hP.out.2;rw[cp]at h2;show _=_
        rw[Ak,Aj];exact h2
       obtain⟨fn,tmps,assign,body,hy,hR⟩:=HY.out pre ⟨⟨I,K,xd+1⟩,cz⟩ wr.drew J2.out an;dsimp only[cW0]at hy
       have ek:((xd+1:Nat):Int)=(xd:Int)+1:=by omega
       rw[ek]at hy;have m4:=Aa hR;have PS:Hid (bM (bls B) ⟨xi,xt,xd⟩<=K):=by have:=hP.out.1;show _<=_;omega
       have d2:=(CELL.out _ K2.out).2.1;have wd:IntKind.i64.wrap ((xd:Int)+1)=(xd+1:Nat):=by simp[Af,Ag,Ad];omega
       clear cp hR an e2 hP ek wd;iterate 10 go_step
       refine cA0 7 n ?_;gi_wp2
       refine⟨λh=>(by cases h),?_⟩;refine m4.out.mono ?_;rintro e W3 (⟨rfl,kw,ky⟩|⟨rfl,fi⟩)
       ·gi_wp2
        have K3:=Aa (K2.out.tr ky);have J3:=Aa kw;clear m4 hy kw ky;go_wp2_with fail
        go_roundw
        case rel=>exact⟨K,_,by go_num,by omega,hKt,⟨PS.out,PN.out⟩,K3.out,J3.out⟩
        case measure=>simp[intOf];omega
       ·have JX:=Aa fi
        clear m4 hy fi;gi_wp2
        go_wp2_with fail
        exact bodyPost_ret (results_none rfl _ _ _) rfl ⟨⟨_,rfl⟩,.inr ⟨_,trivial,JX.out⟩⟩
    ·have fh:¬(I:Int)<xt:=by omega
     have FIN:Hid (∃xs:List (wH (bls B) ⟨xi,xt,xd⟩),xs.map (·.1)=fA (bls B) ⟨xi,xt,xd⟩/\J xs wr):=by
      refine⟨pre,?_,ij.out⟩;have h:=hP.out.2;rw[gM ae,Ar]at h;exact h
     clear dL dS d2 hK ij hP;go_wp2_with fail
     exact bodyPost_end (results_none rfl _ _ _) rfl ⟨⟨_,rfl⟩,.inl FIN.out⟩
  ·have qq:I0=xi:=by
    rw[hI0];unfold bM nR;rw[if_neg];simp[ai,hn0,gS,hh]
   have pm:((s0.size:Int)==xd)=false:=by
    rw[beq_eq_false_iff_ne];omega
   have HI1:=Aa qq;clear hI0 qq hh hn0 kv;go_enter Tryz.func182,Tryz.ntmps182
   go_wp2_with fail
   refine bP (bB 14 []) (by kernel_rfl) (λd _ _ _ _ h=>by cases d<;>exact h) ?_
   iterate 14 (refine aO rfl (λK hK=>?_);go_simp;refine hK _ ?_;clear hK K)
   refine bU ?_;clear z0 z1 z2 zL y0 d0;go_wp2_with fail
   go_loopw [4] (λu wr=>∃(I:Nat) (pre:List (wH (bls B) ⟨xi,xt,xd⟩)),u=.int .i64 I/\xi<=I/\I<=xt/\Hid (bM (bls B) ⟨xi,xt,xd⟩<=I/\pre.map (·.1)++eY (bls B) xd xt I=fA (bls B) ⟨xi,xt,xd⟩)/\Hid (bI S w wr)/\Hid (J pre wr)) (λu _=>xt-(intOf u).toNat)
   case atStart =>
    refine⟨I0,[],by first|go_num|(rw[HI1.out]),LOOP.out,START.out.1,⟨by rw[START.out.2.1];exact Ae _,?_⟩,KD.out,START.out.2.2⟩
    rw[START.out.2.1];rfl
   case round =>
    clear START KD LOOP ST;obtain⟨I,pre,rfl,hxI,hIt,hP,hK,ij⟩:=hrel;obtain⟨d1,d2,dL,dS⟩:=CELL.out wr hK.out;by_cases ae:I<xt
    ·have fh:(I:Int)<xt:=by omega
     obtain⟨sI,o0⟩:∃s,B[I]?=some s:=⟨_,Ab (by omega)⟩;have hdI:xd<(nth (bls B) I).length:=HG.out.start HASC.out (j:=I) hP.out.1 ae;rw[dO o0,gS]at hdI;have wK:IntKind.i64.wrap ((I:Int)+1)=(I+1:Nat):=by simp[Af,Ag,Ad];omega
     have KI:=Aa hK.out;have JI:=Aa ij.out;have HSI:=Aa o0;clear dL dS d2 hK ij o0;go_wp2_with fail
     go_loopw [5] (λu wq=>∃(K:Nat),u=.int .i64 K/\I+1<=K/\K<=xt/\Hid (dR (bls B) xd xt I=pJ (gT (bls B) xd I) xt K)/\Hid (bI S w wq)/\Hid (J pre wq)) (λu _=>xt-(intOf u).toNat)
     case atStart=>exact⟨I+1,by go_num,Ae _,ae,rfl,KI.out,JI.out⟩
     case round =>
      clear KI JI;obtain⟨K,rfl,hIK,hKt,hE,hK,ij⟩:=hrel;obtain⟨d1,d2,dL,dS⟩:=CELL.out wr hK.out;have x1:∀y:Ext aB wr.drew,y.u.cell? ⟨bx,1,none⟩=some (.int .i64 xt):=aG ((aB.drew wr).cell d1);have x2:∀y:Ext aB wr.drew,y.u.cell? ⟨bx,2,none⟩=some (.int .i64 xd):=aG ((aB.drew wr).cell d2);have xL:∀y:Ext aB wr.drew,y.u.cell? ⟨bL,0,none⟩=some (.slice (some ⟨sb,so,none⟩) B.length c):=aG ((aB.drew wr).cell dL);have xI:∀y:Ext aB wr.drew,y.u.cell? ⟨sb,so+I,none⟩=some (.string sI):=aG ((aB.drew wr).cell (dS I sI HSI.out));have hIl:(I:Int)<B.length:=by omega
      have K2:=Aa (hK.out.tr (bI.drew S wr));have J2:=Aa (hJd.out _ _ ij.out);by_cases az:K<xt
      ·have kt:(K:Int)<xt:=by omega
       obtain⟨sK,o7⟩:∃s,B[K]?=some s:=⟨_,Ab (by omega)⟩;have hdK:xd<(nth (bls B) K).length:=HG.out.start HASC.out (j:=K) (by have:=hP.out.1;omega) az;rw[dO o7,gS]at hdK;have agb:(xd:Int)<sI.size:=by omega
       have agc:(xd:Int)<sK.size:=by omega
       have hKl:(K:Int)<B.length:=by omega
       have xK:∀y:Ext aB wr.drew,y.u.cell? ⟨sb,so+K,none⟩=some (.string sK):=aG ((aB.drew wr).cell (dS K sK o7));have wK2:IntKind.i64.wrap ((K:Int)+1)=(K+1:Nat):=by simp[Af,Ag,Ad];omega
       by_cases he:sK[xd]=sI[xd]
       ·have hb:((sK[xd].toNat:Int)==sI[xd].toNat)=true:=by rw[he];simp
        have SM:Hid (gT (bls B) xd I K=true):=by
         show _=_
         unfold gT;rw[dO o7,dO HSI.out,qJ hdK,qJ hdI,he];simp
        clear d1 d2 dL dS o7 he hK ij;go_wp2_with fail
        refine bP (bB 21 []) (by kernel_rfl) (λd _ _ _ _ h=>by cases d<;>exact h) ?_
        iterate 21 (refine aO rfl (λK hK=>?_);go_simp;refine hK _ ?_;clear hK K)
        refine bU ?_;clear x1 x2 xL xI xK;go_wp2_with fail
        go_roundw
        case rel=>exact⟨K+1,by go_num,by omega,az,by rw[hE.out,sC az SM.out];exact rfl,K2.out,J2.out⟩
        case measure=>simp[intOf];omega
       ·have hb:((sK[xd].toNat:Int)==sI[xd].toNat)=false:=by
         rw[beq_eq_false_iff_ne];intro h;exact he (UInt8.toNat_inj.1 (by omega))
        have SM:Hid (dR (bls B) xd xt I=K):=by
         show _=_
         rw[hE.out,iG];rintro⟨_,h⟩;unfold gT at h;rw[dO o7,dO HSI.out,qJ hdK,qJ hdI]at h;simp at h;exact he h
        clear d1 d2 dL dS o7 he hK ij;go_wp2_with fail
        refine bP (bB 21 []) (by kernel_rfl) (λd _ _ _ _ h=>by cases d<;>exact h) ?_
        iterate 21 (refine aO rfl (λK hK=>?_);go_simp;refine hK _ ?_;clear hK K)
        refine bU ?_;clear x1 x2 xL xI xK;have e2:=K2.out;have cp:=fW (L:=bls B) (d:=xd) (t:=xt) (i:=I) ae;rw[SM.out]at cp
        have cz:(⟨I,K,xd+1⟩:dV)∈fA (bls B) ⟨xi,xt,xd⟩:=by
         rw[<-hP.out.2,cp];simp
        have an:pre.length<(fA (bls B) ⟨xi,xt,xd⟩).length:=by
         rw[<-hP.out.2,cp];simp
        have PN:Hid ((pre++[(⟨⟨I,K,xd+1⟩,cz⟩:wH (bls B) ⟨xi,xt,xd⟩)]).map (λy=>y.1)++eY (bls B) xd xt K=fA (bls B) ⟨xi,xt,xd⟩):=by
         have h2:=hP.out.2;rw[cp]at h2;show _=_
         rw[Ak,Aj];exact h2
        obtain⟨fn,tmps,assign,body,hy,hR⟩:=HY.out pre ⟨⟨I,K,xd+1⟩,cz⟩ wr.drew J2.out an;dsimp only[cW0]at hy
        have ek:((xd+1:Nat):Int)=(xd:Int)+1:=by omega
        rw[ek]at hy;have m4:=Aa hR;have PS:Hid (bM (bls B) ⟨xi,xt,xd⟩<=K):=by have:=hP.out.1;show _<=_;omega
        have d2:=(CELL.out _ K2.out).2.1;have wd:IntKind.i64.wrap ((xd:Int)+1)=(xd+1:Nat):=by simp[Af,Ag,Ad];omega
        clear cp hR an e2 hP ek wd;iterate 10 go_step
        refine cA0 7 n ?_;gi_wp2
        refine⟨λh=>(by cases h),?_⟩;refine m4.out.mono ?_;rintro e W3 (⟨rfl,kw,ky⟩|⟨rfl,fi⟩)
        ·gi_wp2
         have K3:=Aa (K2.out.tr ky);have J3:=Aa kw;clear m4 hy kw ky;go_wp2_with fail
         go_roundw
         case rel=>exact⟨K,_,by go_num,by omega,hKt,⟨PS.out,PN.out⟩,K3.out,J3.out⟩
         case measure=>simp[intOf];omega
        ·have JX:=Aa fi
         clear m4 hy fi;gi_wp2
         go_wp2_with fail
         exact bodyPost_ret (results_none rfl _ _ _) rfl ⟨⟨_,rfl⟩,.inr ⟨_,trivial,JX.out⟩⟩
      ·have kt:¬(K:Int)<xt:=by omega
       have SM:Hid (dR (bls B) xd xt I=K):=by
        show _=_
        rw[hE.out,iG (by omega)]
       clear d1 d2 dL dS hK ij;go_wp2_with fail
       refine bP (bB 21 []) (by kernel_rfl) (λd _ _ _ _ h=>by cases d<;>exact h) ?_
       iterate 21 (refine aO rfl (λK hK=>?_);go_simp;refine hK _ ?_;clear hK K)
       refine bU ?_;clear x1 x2 xL xI;have e2:=K2.out;have cp:=fW (L:=bls B) (d:=xd) (t:=xt) (i:=I) ae;rw[SM.out]at cp
       have cz:(⟨I,K,xd+1⟩:dV)∈fA (bls B) ⟨xi,xt,xd⟩:=by
        rw[<-hP.out.2,cp];simp
       have an:pre.length<(fA (bls B) ⟨xi,xt,xd⟩).length:=by
        rw[<-hP.out.2,cp];simp
       have PN:Hid ((pre++[(⟨⟨I,K,xd+1⟩,cz⟩:wH (bls B) ⟨xi,xt,xd⟩)]).map (λy=>y.1)++eY (bls B) xd xt K=fA (bls B) ⟨xi,xt,xd⟩):=by
        have h2:=hP.out.2;rw[cp]at h2;show _=_
        rw[Ak,Aj];exact h2
       obtain⟨fn,tmps,assign,body,hy,hR⟩:=HY.out pre ⟨⟨I,K,xd+1⟩,cz⟩ wr.drew J2.out an;dsimp only[cW0]at hy
       have ek:((xd+1:Nat):Int)=(xd:Int)+1:=by omega
       rw[ek]at hy;have m4:=Aa hR;have PS:Hid (bM (bls B) ⟨xi,xt,xd⟩<=K):=by have:=hP.out.1;show _<=_;omega
       have d2:=(CELL.out _ K2.out).2.1;have wd:IntKind.i64.wrap ((xd:Int)+1)=(xd+1:Nat):=by simp[Af,Ag,Ad];omega
       clear cp hR an e2 hP ek wd;iterate 10 go_step
       refine cA0 7 n ?_;gi_wp2
       refine⟨λh=>(by cases h),?_⟩;refine m4.out.mono ?_;rintro e W3 (⟨rfl,kw,ky⟩|⟨rfl,fi⟩)
       ·gi_wp2
        have K3:=Aa (K2.out.tr ky);have J3:=Aa kw;clear m4 hy kw ky;go_wp2_with fail
        go_roundw
        case rel=>exact⟨K,_,by go_num,by omega,hKt,⟨PS.out,PN.out⟩,K3.out,J3.out⟩
        case measure=>simp[intOf];omega
       ·have JX:=Aa fi
        clear m4 hy fi;gi_wp2
        go_wp2_with fail
        exact bodyPost_ret (results_none rfl _ _ _) rfl ⟨⟨_,rfl⟩,.inr ⟨_,trivial,JX.out⟩⟩
    ·have fh:¬(I:Int)<xt:=by omega
     have FIN:Hid (∃xs:List (wH (bls B) ⟨xi,xt,xd⟩),xs.map (·.1)=fA (bls B) ⟨xi,xt,xd⟩/\J xs wr):=by
      refine⟨pre,?_,ij.out⟩;have h:=hP.out.2;rw[gM ae,Ar]at h;exact h
     clear dL dS d2 hK ij hP;go_wp2_with fail
     exact bodyPost_end (results_none rfl _ _ _) rfl ⟨⟨_,rfl⟩,.inl FIN.out⟩
end
section
open Go Go.RowKit Go.Shelf
def yE (y:dV):List Value:=[.int .i64 y.i,.int .i64 y.t,.int .i64 y.d]
theorem hP0:fZ Tryz.prog 209 208 3 24 yE where
 sl:=Tryz.underlying209
 info:=iL (z:=.agg #[.int .i64 0,.int .i64 0,.int .i64 0]) (by kernel_rfl) rfl
 pos:=by decide
 by1:=by decide
 len _:=rfl
 one x u hu:=by
  simp[yE]at hu;rcases hu with rfl|rfl|rfl<;>rfl
theorem aK1:∃i,Tryz.prog.info? 3=some i/\i.zero=some (.int .i64 0)/\i.size=1/\i.bytes=8:=by
 have h:(Tryz.prog.info? 3).map (λi=>(i.zero,i.size,i.bytes))=some (some (.int .i64 0),1,8):=by kernel_rfl
 cases hi:Tryz.prog.info? 3 with
 | none=>rw[hi]at h;cases h
 | some i =>
  rw[hi]at h;simp only[Option.map_some,Option.some.injEq,Prod.mk.injEq]at h;exact⟨i,rfl,h.1,h.2.1,h.2.2⟩
theorem vN0 (n:Nat) (W:World) (hn:n<=1048576):(Instr.makeSlice 109 (.int .i64 n) (.int .i64 n)).run Tryz.prog W=.ok (.slice (some ⟨W.heap.size,0,none⟩) n n) (W.alloc (.cells (madeCells #[.int .i64 0] (n*1)) 3)):=by
 obtain⟨i,h1,h2,h3,h4⟩:=aK1;have h:=run_make (P:=Tryz.prog) W 109 3 i (.int .i64 0) Tryz.underlying109 h1 h2 .i64 .i64 n n (by omega) (Int.le_refl _) (by rw[h4];omega) (by omega);rw[Int.toNat_natCast,h3]at h;exact h
theorem bL0 {w:World} {n:Nat} (hn:n<=1048576):aU (w.alloc (.cells (madeCells #[.int .i64 0] (n*1)) 3)) w.heap.size 3 1 gU (.slice (some ⟨w.heap.size,0,none⟩) n n) (Al n 0) :=
 jQ (enc:=gU) (λ_=>rfl) (Ae _) (Al n 0) (by
  rw[toList_madeCells_one,Aq];unfold gU;rw[qN,List.map_replicate];rfl) (by simp) (by unfold maxLen;omega)
def dQ0:Obj->Option TypeId
 | .cells _ t _=>some t
 | _=>none
def RT (w:World) (row:Option Nat) (τ:Option TypeId):Prop:=∀q,row=some q->∃o,w.heap[q]?=some o/\dQ0 o=τ
theorem RT.none (w:World) (τ:Option TypeId):RT w none τ:=λq h=>by cases h
theorem RT.own {α:Type} {w:World} {base:Nat} {e:TypeId} {k:Nat} {enc:α->List Value} {v:Value} {xs:List α} (h:aU w base e k enc v xs):RT w v.ownBlock (some e):=λq hq=>by
 rcases h.2 with ⟨rfl,_⟩|⟨g,cap,bv,rfl,_,hh,_⟩
 ·cases hq
 ·have:g=q:=Option.some.inj hq
  subst this;exact⟨_,hh,rfl⟩
def TB (w:World) (b:Nat) (cs:Array Value) (t:TypeId):Prop:=w.heap[b]?=some (.cells cs t (0,0))
theorem TB.lt {w:World} {b:Nat} {cs:Array Value} {t:TypeId} (h:TB w b cs t):b<w.heap.size:=(Array.getElem?_eq_some_iff.1 h).1
theorem TB.rt {w:World} {b:Nat} {cs:Array Value} {t:TypeId} (h:TB w b cs t):RT w (some b) (some t):=λq hq=>by cases hq; exact⟨_,h,rfl⟩
theorem TB.cell {w:World} {b:Nat} {cs:Array Value} {t:TypeId} (h:TB w b cs t) {o:Nat} {v:Value} (hv:cs[o]?=some v):w.cell? ⟨b,o,none⟩=some v:=by
 unfold TB at h;simp[An,h,hv]
theorem TB.froz {w:World} {b:Nat} {cs:Array Value} {t:TypeId} (h:TB w b cs t) (o:Nat):w.frozen? ⟨b,o,none⟩=false:=by
 unfold TB at h;simp[World.frozen?,h]
theorem TB.keep {w w':World} {b:Nat} {cs:Array Value} {t:TypeId} {row:Option Nat} {τ:Option TypeId} (h:TB w b cs t) (hg:w.grownBy w' row) (hr:RT w row τ) (ai:τ≠some t):TB w' b cs t:=by
 unfold TB at *;rw[hg.block b (TB.lt h) (λe=>?_)]
 ·exact h
 ·obtain⟨o,h1,h2⟩:=hr b e.symm
  rw[h]at h1;cases h1
  exact ai h2.symm
theorem TB.set {w:World} {b:Nat} {cs:Array Value} {t:TypeId} (h:TB w b cs t) (o:Nat) (v:Value):TB (w.setCell ⟨b,o,none⟩ v) b (cs.setIfInBounds o v) t:=heap_setCell_same w b o cs t v h
theorem TB.alloc (w:World) (cs:Array Value) (t:TypeId):TB (w.alloc (.cells cs t)) w.heap.size cs t:=by
 show (w.heap.push _)[w.heap.size]?=_
 simp
theorem bG (W:World) (b o:Nat) (v:Value):W.grownBy (W.setCell ⟨b,o,none⟩ v) (some b) :=
 ⟨rfl,rfl,rfl,by simp,λk _ hk=>Below.heap_setCell _ _ _ k (λe=>hk (by rw[e]))⟩
theorem aJ {α:Type} {w w':World} {base:Nat} {e:TypeId} {k:Nat} {enc:α->List Value} {u:Value} {ys:List α} {row:Option Nat} {τ:Option TypeId} (h:aU w base e k enc u ys) (hg:w.grownBy w' row) (hr:RT w row τ) (ai:τ≠some e):aU w' base e k enc u ys:=by
 refine uE h hg ?_
 cases hu:u.ownBlock with
 | none=>exact Or.inl rfl
 | some q =>
  refine Or.inr λhv=>?_;obtain⟨o,h1,h2⟩:=hr q hv.symm;obtain⟨o',h3,h4⟩:=RT.own h q hu;rw[h1]at h3;cases h3
  exact ai (h2.symm.trans h4)
structure BD where
 vS:Value
 vA:Value
 vL:Value
 vI:Value
 vD:Value
 sh:List Bool
 al:List dV
 lab:List UInt8
 isl:List Bool
 idl:List Nat
 nd:List Nat
structure Bst (w0 wr:World) (s n:Nat) (lv:Value) (d:BD):Prop where
 b1:TB wr s #[lv] 65
 b4:TB wr (s+3) #[.pointer (some ⟨s+2,0,none⟩)] 100
 b2:TB wr (s+2) #[.pointer none,.pointer none,d.vL,.pointer none,.slice (some ⟨s+1,0,none⟩) n n] 204
 b6:TB wr (s+5) #[d.vS] 205
 b8:TB wr (s+7) #[d.vA] 209
 oL:aU wr s 5 1 aV d.vL d.lab
 oN:aU wr s 3 1 gU (.slice (some ⟨s+1,0,none⟩) n n) d.nd
 oS:aU wr s 4 1 nP d.vS d.sh
 oA:aU wr s 208 3 yE d.vA d.al
 oI:aU wr s 4 1 nP d.vI d.isl
 oD:aU wr s 213 1 kH d.vD d.idl
 ap:dF0 d.vS d.vI
 gr:aB w0 wr
 s0:s=w0.heap.size
theorem Bst.keep {w0 wr w':World} {s n:Nat} {lv:Value} {d:BD} (h:Bst w0 wr s n lv d) {row:Option Nat} {τ:Option TypeId} (hg:wr.grownBy w' row) (hr:RT wr row τ) (hs:∀q,row=some q->s<=q)
  (hτ:∀t∈[65,100,204,205,209,5,3,4,213],τ≠some t) (hA:aU w' s 208 3 yE d.vA d.al):Bst w0 w' s n lv d where
 b1:=h.b1.keep hg hr (hτ _ (by simp))
 b4:=h.b4.keep hg hr (hτ _ (by simp))
 b2:=h.b2.keep hg hr (hτ _ (by simp))
 b6:=h.b6.keep hg hr (hτ _ (by simp))
 b8:=h.b8.keep hg hr (hτ _ (by simp))
 oL:=aJ h.oL hg hr (hτ _ (by simp))
 oN:=aJ h.oN hg hr (hτ _ (by simp))
 oS:=aJ h.oS hg hr (hτ _ (by simp))
 oA:=hA
 oI:=aJ h.oI hg hr (hτ _ (by simp))
 oD:=aJ h.oD hg hr (hτ _ (by simp))
 ap:=h.ap
 gr:=h.gr.grown hg (λq hq=>by rw[<-h.s0];exact hs q hq)
 s0:=h.s0
theorem Bst.other {w0 wr w':World} {s n:Nat} {lv:Value} {d:BD} (h:Bst w0 wr s n lv d) {row:Option Nat} (hg:wr.grownBy w' row) (hr:RT wr row none) (hs:∀q,row=some q->s<=q):Bst w0 w' s n lv d :=
 h.keep hg hr hs (λt _=>by simp) (aJ h.oA hg hr (by simp))
theorem Bst.al {w0 wr:World} {s n:Nat} {lv:Value} {d:BD} (h:Bst w0 wr s n lv d) (o:Obj):Bst w0 (wr.alloc o) s n lv d:=h.other (Ai _ _ none) (RT.none _ _) (λq e=>by cases e)
theorem Bst.dr {w0 wr:World} {s n:Nat} {lv:Value} {d:BD} (h:Bst w0 wr s n lv d):Bst w0 wr.drew s n lv d:=h.other (row:=none) ⟨rfl,rfl,rfl,Ae _,λ_ _ _=>rfl⟩ (RT.none _ _) (λq e=>by cases e)
theorem Bst.pushS {w0 wr w':World} {s n:Nat} {lv:Value} {d:BD} (h:Bst w0 wr s n lv d) {v:Value} {sh:List Bool} (ho:aU w' s 4 1 nP v sh) (hg:wr.grownBy w' d.vS.ownBlock) (hf:bU0 wr d.vS v) :
  Bst w0 (w'.setCell ⟨s+5,0,none⟩ v) s n lv { d with vS:=v,sh:=sh }:=by
 have hr:=RT.own h.oS;have hsr:∀q,d.vS.ownBlock=some q->s<=q:=λq hq=>bE h.oS q hq;have k6:=h.b6.keep hg hr (by decide);have af:=bG w' (s+5) 0 v;have bu:=k6.rt
 refine⟨(h.b1.keep hg hr (by decide)).keep af bu (by decide),(h.b4.keep hg hr (by decide)).keep af bu (by decide),(h.b2.keep hg hr (by decide)).keep af bu (by decide),?_,(h.b8.keep hg hr (by decide)).keep af bu (by decide),
  aJ (aJ h.oL hg hr (by decide)) af bu (by decide),aJ (aJ h.oN hg hr (by decide)) af bu (by decide),aJ ho af bu (by decide),aJ (aJ h.oA hg hr (by decide)) af bu (by decide),
  aJ (vR h.oI hg h.ap) af bu (by decide),aJ (aJ h.oD hg hr (by decide)) af bu (by decide),h.ap.fresh (lT h.oI) hf,(h.gr.grown hg (λq hq=>by rw[<-h.s0];exact hsr q hq)).set (by rw[<-h.s0];simp) _,h.s0⟩
 have:=k6.set 0 v
 simpa using this
theorem Bst.pushL {w0 wr w':World} {s n:Nat} {lv:Value} {d:BD} (h:Bst w0 wr s n lv d) {v:Value} {l:List UInt8} (ho:aU w' s 5 1 aV v l) (hg:wr.grownBy w' d.vL.ownBlock) :
  Bst w0 (w'.setCell ⟨s+2,2,none⟩ v) s n lv { d with vL:=v,lab:=l }:=by
 have hr:=RT.own h.oL;have hsr:∀q,d.vL.ownBlock=some q->s<=q:=λq hq=>bE h.oL q hq;have k2:=h.b2.keep hg hr (by decide);have af:=bG w' (s+2) 2 v;have bu:=k2.rt
 refine⟨(h.b1.keep hg hr (by decide)).keep af bu (by decide),(h.b4.keep hg hr (by decide)).keep af bu (by decide),?_,(h.b6.keep hg hr (by decide)).keep af bu (by decide),(h.b8.keep hg hr (by decide)).keep af bu (by decide),
  aJ ho af bu (by decide),aJ (aJ h.oN hg hr (by decide)) af bu (by decide),aJ (aJ h.oS hg hr (by decide)) af bu (by decide),aJ (aJ h.oA hg hr (by decide)) af bu (by decide),
  aJ (aJ h.oI hg hr (by decide)) af bu (by decide),aJ (aJ h.oD hg hr (by decide)) af bu (by decide),h.ap,(h.gr.grown hg (λq hq=>by rw[<-h.s0];exact hsr q hq)).set (by rw[<-h.s0];simp) _,h.s0⟩
 have:=k2.set 2 v
 simpa using this
theorem Bst.pushA {w0 wr w':World} {s n:Nat} {lv:Value} {d:BD} (h:Bst w0 wr s n lv d) {v:Value} {l:List dV} (ho:aU w' s 208 3 yE v l) (hg:wr.grownBy w' d.vA.ownBlock) :
  Bst w0 (w'.setCell ⟨s+7,0,none⟩ v) s n lv { d with vA:=v,al:=l }:=by
 have hr:=RT.own h.oA;have hsr:∀q,d.vA.ownBlock=some q->s<=q:=λq hq=>bE h.oA q hq;have k8:=h.b8.keep hg hr (by decide);have af:=bG w' (s+7) 0 v;have bu:=k8.rt
 refine⟨(h.b1.keep hg hr (by decide)).keep af bu (by decide),(h.b4.keep hg hr (by decide)).keep af bu (by decide),(h.b2.keep hg hr (by decide)).keep af bu (by decide),(h.b6.keep hg hr (by decide)).keep af bu (by decide),?_,
  aJ (aJ h.oL hg hr (by decide)) af bu (by decide),aJ (aJ h.oN hg hr (by decide)) af bu (by decide),aJ (aJ h.oS hg hr (by decide)) af bu (by decide),aJ ho af bu (by decide),
  aJ (aJ h.oI hg hr (by decide)) af bu (by decide),aJ (aJ h.oD hg hr (by decide)) af bu (by decide),h.ap,(h.gr.grown hg (λq hq=>by rw[<-h.s0];exact hsr q hq)).set (by rw[<-h.s0];simp) _,h.s0⟩
 have:=k8.set 0 v
 simpa using this
theorem Bst.pushI {w0 wr w':World} {s n:Nat} {lv:Value} {d:BD} (h:Bst w0 wr s n lv d) {v:Value} {l:List Bool} (ho:aU w' s 4 1 nP v l) (hg:wr.grownBy w' d.vI.ownBlock) (hf:bU0 wr d.vI v) :
  Bst w0 w' s n lv { d with vI:=v,isl:=l }:=by
 have hr:=RT.own h.oI
 exact⟨h.b1.keep hg hr (by decide),h.b4.keep hg hr (by decide),h.b2.keep hg hr (by decide),h.b6.keep hg hr (by decide),h.b8.keep hg hr (by decide),aJ h.oL hg hr (by decide),aJ h.oN hg hr (by decide),vR h.oS hg h.ap.symm,aJ h.oA hg hr (by decide),
  ho,aJ h.oD hg hr (by decide),(h.ap.symm.fresh (lT h.oS) hf).symm,h.gr.grown hg (λq hq=>by rw[<-h.s0];exact bE h.oI q hq),h.s0⟩
theorem Bst.pushD {w0 wr w':World} {s n:Nat} {lv:Value} {d:BD} (h:Bst w0 wr s n lv d) {v:Value} {l:List Nat} (ho:aU w' s 213 1 kH v l) (hg:wr.grownBy w' d.vD.ownBlock) :
  Bst w0 w' s n lv { d with vD:=v,idl:=l }:=by
 have hr:=RT.own h.oD
 exact⟨h.b1.keep hg hr (by decide),h.b4.keep hg hr (by decide),h.b2.keep hg hr (by decide),h.b6.keep hg hr (by decide),h.b8.keep hg hr (by decide),aJ h.oL hg hr (by decide),aJ h.oN hg hr (by decide),aJ h.oS hg hr (by decide),aJ h.oA hg hr (by decide),
  aJ h.oI hg hr (by decide),ho,h.ap,h.gr.grown hg (λq hq=>by rw[<-h.s0];exact bE h.oD q hq),h.s0⟩
theorem Bst.setN {w0 wr:World} {s n:Nat} {lv:Value} {d:BD} (h:Bst w0 wr s n lv d) {j:Nat} (hj:j<d.nd.length) (y:Nat) :
  wr.frozen? ⟨s+1,j,none⟩=false/\Bst w0 (wr.setCell ⟨s+1,j,none⟩ (.int .i64 y)) s n lv { d with nd:=d.nd.set j y }:=by
 obtain⟨h1,_,h3⟩:=eF (f:=λn:Nat=>Value.int .i64 n) h.oN hj y;have hg:=bG wr (s+1) j (.int .i64 y);have hr:RT wr (some (s+1)) (some 3):=RT.own h.oN
 refine⟨h1,h.b1.keep hg hr (by decide),h.b4.keep hg hr (by decide),h.b2.keep hg hr (by decide),h.b6.keep hg hr (by decide),h.b8.keep hg hr (by decide),aJ h.oL hg hr (by decide),h3,aJ h.oS hg hr (by decide),aJ h.oA hg hr (by decide),
  aJ h.oI hg hr (by decide),aJ h.oD hg hr (by decide),h.ap,h.gr.set (by rw[<-h.s0];simp) _,h.s0⟩
end
section
open Go Go.RowKit Go.Shelf
attribute [local go_sem] aK aP
theorem nH (f:En->Nat) (g:Nat) (cb:Array Value) (eg:∀args w,(callFunc g args).run Tryz.prog w=.ok (.enter g args) w)
  (l:List En) (eb:Nat) (a:Option Addr) (c:Nat) (w:World) (hl:l.length<=1048576) (hf:∀x∈l,f x<9223372036854775808) (ac:aF w a 5 (l.map aZ)) (hb:w.cell? ⟨eb,0,none⟩=some (.slice a l.length c))
  (HG:∀x∈l,∀W,aB w W->Calls Tryz.prog g (#[x.agg]++cb) W λe w'=>e=.returned (.int .i64 (f x))/\aB W w') :
  Calls Tryz.prog 62 #[.func (.func g) #[] cb,.pointer (some ⟨eb,0,none⟩)] w λe w'=>aB w w'/\∃v,e=.returned v/\aU w' w.heap.size 5 1 aV v (cG (l.map f)):=by
 have HAT:=Aa ac;have HGG:=λx hx W hW=>Aa (HG x hx W hW);have HB:=Aa hb;have ml:=λ(Y:World)=>vN0 l.length Y hl;obtain⟨ns,hns⟩:=exq (l.map f);have o8:ns.length=l.length:=by rw[hns,List.length_map]
 rw[<-hns];have CN:=λ(W:World) (q c:Nat) (h:aF W (some ⟨q,0,none⟩) 1 (ns.map gU))=>Aa (lD ns (some ⟨q,0,none⟩) c W (by omega) (by rw[hns];intro n hn;obtain⟨x,hx,rfl⟩:=List.mem_map.1 hn;exact hf x hx) h);rw[o8]at CN;have HNS:=Aa hns;clear ac HG hns hf;have ld:(w.alloc (.cells (madeCells #[.int .i64 0] l.length) 3)).cell? ⟨eb,0,none⟩=some (.slice a l.length c):=(aB.alloc _ _).cell hb;go_enter Tryz.func62,Tryz.ntmps62
 go_wp2_with fail
 have ax:=bL0 (w:=w) (n:=l.length) hl;rw[Aq,<-o8,<-nM ns 0,o8]at ax;obtain⟨W1,cq⟩:=exq (w.alloc (.cells (madeCells #[.int .i64 0] l.length) 3));have du:aB w W1:=by rw[cq];exact aB.alloc _ _
 rw[<-cq]at ax ⊢;clear cq hb ld;go_loopw [12] (λi wr=>∃(k:Nat),k<=l.length/\i=.int .i64 k/\aU wr w.heap.size 3 1 gU (.slice (some ⟨w.heap.size,0,none⟩) l.length l.length) (jT ns 0 k)/\aB w wr) (λi _=>l.length-(intOf i).toNat)
 case atStart=>exact⟨0,Nat.zero_le _,rfl,ax,du⟩
 case round =>
  clear ax du;obtain⟨k,hk,rfl,aa,hg⟩:=hrel;by_cases ae:k<l.length
  ·obtain⟨⟨xr,xs,xl,xt,xc⟩,hx⟩:∃x,l[k]?=some x:=⟨_,Ab ae⟩
   obtain⟨ba,oa,rfl,ci⟩:=(HAT.out.grows hg).get (aH ae);have c0:wr.cell? ⟨ba,oa+k*5,none⟩=some (.string xr):=ci k _ hx 0 _ rfl;have c1:wr.cell? ⟨ba,oa+k*5+1,none⟩=some (.string xs):=ci k _ hx 1 _ rfl;have c2:wr.cell? ⟨ba,oa+k*5+2,none⟩=some (.int .i64 xl):=ci k _ hx 2 _ rfl;have c3:wr.cell? ⟨ba,oa+k*5+3,none⟩=some (.int .i64 xt):=ci k _ hx 3 _ rfl;have c4:wr.cell? ⟨ba,oa+k*5+4,none⟩=some (.int .i64 xc):=ci k _ hx 4 _ rfl;obtain⟨y,hy⟩:=exq (f ⟨xr,xs,xl,xt,xc⟩);have hnk:ns[k]?=some y:=by rw[HNS.out,List.getElem?_map,hx,hy];rfl
   have CG:=HGG _ (Ao hx) (wr.alloc (.cells #[.string xr,.string xs,.int .i64 xl,.int .i64 xt,.int .i64 xc] 30)) (hg.al _);rw[<-hy]at CG;have HNK:=Aa hnk;clear ci hx hy hnk;go_wp2_with fail
   refine CG.out.mono ?_;rintro e w2 ⟨rfl,af⟩;have dn:=aB.trans _ _ _ (aB.alloc wr _) af;have ag:=aa.grows dn;have dh:=aB.trans _ _ _ hg dn;have uf:=kM ns 0 (k:=k) (by omega);obtain⟨z,hz⟩:∃z,(jT ns 0 k)[k]?=some z:=⟨_,Ab (by omega)⟩;have e1:=dN (f:=λn:Nat=>Value.int .i64 n) ag hz;obtain⟨f1,_,au⟩:=eF (f:=λn:Nat=>Value.int .i64 n) ag (k:=k) (by omega) y;rw[pM HNK.out]at au;have HO:=Aa au;clear aa ag au hz uf af dn c0 c1 c2 c3 c4 CG;go_wp2_with fail
   go_roundw
   case rel=>exact⟨k+1,by omega,by go_num,HO.out,dh.set (Ae _) _⟩
   case measure=>simp[intOf];omega
  ·obtain rfl:k=l.length:=by omega
   rw[<-o8,pG,o8]at aa;obtain⟨a1,c1,e1,_,_,dp⟩:=aa.at_ (k:=1) (λx=>(rfl:(gU x).length=1));have e2:=(Value.slice.inj e1).1;subst e2;have CN1:=CN wr w.heap.size l.length dp;clear CN e1 dp aa;go_wp2_with fail
   refine CN1.out.mono ?_;rintro e w2 ⟨v,rfl,hv,af⟩;go_wp2_with fail
   go_ret;exact⟨aB.trans _ _ _ hg af,v,rfl,hv.base hg.size⟩
end
section
open Go Go.RowKit Go.Shelf
instance extKeep (S:Nat->Prop) (w:World):Nonempty (Ext (bI S) w):=⟨⟨w,bI.refl S w⟩⟩
theorem fG {S:Nat->Prop} {w:World} {p:Addr} {v:Value} (hp:S p.block) (hc:w.cell? p=some v) (x:Ext (bI S) w):x.u.cell? p=some v:=x.h.cell hp hc
theorem kP (S:Nat->Prop):∀a b c:World,bI S a b->bI S b c->bI S a c:=λ_ _ _ h k=>h.tr k
theorem bI.alloc {S:Nat->Prop} {w:World} (h:∀b,S b->b<w.heap.size) (o:Obj):bI S w (w.alloc o):=λb hb=>(aB.alloc w o).block b (h b hb)
theorem bI.set {S:Nat->Prop} {w:World} {b:Nat} (h:¬S b) (o:Nat) (v:Value):bI S w (w.setCell ⟨b,o,none⟩ v):=λq hq=>Below.heap_setCell _ _ _ q (λe=>h (by have:q=b:=e; rw[<-this]; exact hq))
theorem pD0 {α:Type} {P:Program} {t e:TypeId} {k bytes:Nat} {enc:α->List Value} (L:fZ P t e k bytes enc) {o:Oper} {a:Act} {K:Act->World->Prop} {Q:Exit->Act->World->Prop} {W:World}
  (s x:Operand) (ja:o.op=.call { callee:=.builtin .append,args:=#[s,x],argTypes:=#[t,t] })
  (base:Nat) (v:Value) (xs:List α) (y:α) (hs:a.eval s=v) (aa:aU W base e k enc v xs) (n c:Nat) (hn:n=W.heap.size) (cs:Array Value) (cn:cs.toList=enc y)
  (hx:a.eval x=.slice (some ⟨n,0,none⟩) 1 c) (an:(xs.length+1)*bytes<=140737488355328) (bi:base<=W.heap.size)
  (h:∀v' w',aU w' base e k enc v' (xs++[y])->W.grownBy w' v.ownBlock->bU0 W v v'->K (a.put o.dst v') w'):o.wp P a (W.alloc (.cells cs e)) K Q:=by
 obtain⟨i,z,hi,hz,cv,kj,ly⟩:=L.info;have lz:xs.length+1<=140737488355328:=Ac (Nat.le_mul_of_pos_right _ L.by1) an;have gq:aB W (W.alloc (.cells cs e)):=aB.alloc _ _;have ag:=cZ aa gq
 obtain⟨v',w',hr,h2,h3,h4⟩:=lJ (P:=P) (W.alloc (.cells cs e)) base t o.type e i z k bytes L.sl hi hz cv kj ly L.pos v xs.length (xs.flatMap enc) ag ⟨n,0,none⟩ 1 c (enc y) (by rw[L.len,Nat.one_mul])
  (λj u hu=>dQ hn j u (by rw[cn];exact hu)) (L.one y) (by unfold maxLen;omega) an (Ac bi gq.size)
 unfold Oper.wp execOp;simp only[ja,resolve,invoke,builtin,Sem.run_bind,Sem.run_pure,Result.andThen_ok,List.map_toArray,List.map_cons,List.map_nil,hs,hx,hr];refine h v' w' ?_ ?_ ?_
 ·unfold aU
  rw[Ap,Am,List.flatMap_append];simpa using h2
 ·have h5:=Ai W (.cells cs e) v.ownBlock
  exact⟨h3.os.trans h5.os,h3.tape.trans h5.tape,h3.output.trans h5.output,Ac h5.size h3.size,λk hk ai=>(h3.block k (Nat.lt_of_lt_of_le hk h5.size) ai).trans (h5.block k hk ai)⟩
 ·rcases h4 with h4|⟨q,hq,jd⟩
  ·exact Or.inl h4
  ·exact Or.inr ⟨q,hq,Ac gq.size jd⟩
theorem jI.grown {w w':World} {lo:Nat} {ds:List Nat} {row:Option Nat} (h:jI w lo ds) (hg:w.grownBy w' row) (hr:∀D∈ds,row≠some D):jI w' lo ds :=
 ⟨λD hD=>⟨(h.at_ D hD).1,(hg.block D (Array.getElem?_eq_some_iff.1 (h.at_ D hD).2).1 (λe=>hr D hD e.symm)).trans (h.at_ D hD).2⟩,h.nodup⟩
theorem jI.not_row {w:World} {lo:Nat} {ds:List Nat} (h:jI w lo ds) {row:Option Nat} {t:TypeId} (hr:RT w row (some t)):∀D∈ds,row≠some D:=λD hD e=>by
 obtain⟨o,h1,h2⟩:=hr D e;rw[(h.at_ D hD).2]at h1;cases h1
 cases h2
theorem RT.of_not {w:World} {row:Option Nat} (h:∀q,row=some q->∃o:Obj,w.heap[q]?=some o/\o.isCells=false):RT w row (Option.none:Option TypeId):=λq hq=>by
 obtain⟨o,h1,h2⟩:=h q hq;refine⟨o,h1,?_⟩;cases o<;>first|rfl|cases h2
end
section
open Go Go.RowKit Go.Shelf
theorem gX {W W':World} {B:Nat} {row:Option Nat} {t:TypeId} (hg:W.grownBy W' row) (hr:RT W row (some t)):KeepsFrom B W W':=⟨hg.size,λk o _ hk ho=>by
 rw[hg.block k (Array.getElem?_eq_some_iff.1 hk).1 (λe=>?_)]
 ·exact hk
 ·obtain⟨o',h1,h2⟩:=hr k e.symm
  rw[hk]at h1;cases h1
  cases o<;>simp[Obj.isCells,dQ0]at ho h2⟩
theorem kW {W:World} {B:Nat} {b:Nat} {cs:Array Value} {t:TypeId} (h:TB W b cs t) (o:Nat) (v:Value):KeepsFrom B W (W.setCell ⟨b,o,none⟩ v):=gX (bG W b o v) h.rt
theorem TB.ne_row {w:World} {b:Nat} {cs:Array Value} {t e:TypeId} {row:Option Nat} (h:TB w b cs t) (hr:RT w row (some e)) (ai:e≠t):row≠some b:=λde=>by
 obtain⟨o,h1,h2⟩:=hr b de;rw[show w.heap[b]?=_ from h]at h1
 cases h1
 exact ai (Option.some.inj h2).symm
theorem qI {α:Type} {w:World} {base:Nat} {e:TypeId} {k:Nat} {enc:α->List Value} {v:Value} {xs:List α} {y:α} (h:aU w base e k enc v (xs++[y])):∃g cap,v=.slice (some ⟨g,0,none⟩) (xs.length+1) cap:=by
 unfold aU at h;rw[Ap,Am]at h;exact ownsRow_succ h
structure LbJ (w:World) (s n:Nat) (lv:Value) (ds:List Nat) (xb kb lb size:Nat) (x:dV) (d:BD) (W:World):Prop where
 st:Bst w W s n lv d
 tx:TB W xb #[.int .i64 x.i,.int .i64 x.t,.int .i64 x.d] 208
 tk:TB W kb #[.int .i64 x.i,.int .i64 x.t,.int .i64 x.d] 208
 tl:TB W lb #[lv] 65
 nx:d.vA.ownBlock≠some xb
 nk:d.vA.ownBlock≠some kb
 mks:jI W s ds
 sz:size<=W.heap.size
variable {w W w':World} {s n xb kb lb size:Nat} {lv:Value} {ds:List Nat} {x:dV} {d:BD}
theorem LbJ.other (h:LbJ w s n lv ds xb kb lb size x d W) {row:Option Nat} (hg:W.grownBy w' row) (hr:RT W row none) (hs:∀q,row=some q->s<=q) (hm:∀D∈ds,row≠some D):LbJ w s n lv ds xb kb lb size x d w' :=
 ⟨h.st.other hg hr hs,h.tx.keep hg hr (by decide),h.tk.keep hg hr (by decide),h.tl.keep hg hr (by decide),h.nx,h.nk,h.mks.grown hg hm,Ac h.sz hg.size⟩
theorem LbJ.al (h:LbJ w s n lv ds xb kb lb size x d W) (o:Obj):LbJ w s n lv ds xb kb lb size x d (W.alloc o) :=
 h.other (Ai _ _ none) (RT.none _ _) (λq e=>by cases e) (λ_ _ e=>by cases e)
theorem LbJ.dr (h:LbJ w s n lv ds xb kb lb size x d W):LbJ w s n lv ds xb kb lb size x d W.drew :=
 h.other (row:=none) ⟨rfl,rfl,rfl,Ae _,λ_ _ _=>rfl⟩ (RT.none _ _) (λq e=>by cases e) (λ_ _ e=>by cases e)
theorem LbJ.pushS (h:LbJ w s n lv ds xb kb lb size x d W) {v:Value} {sh:List Bool} (ho:aU w' s 4 1 nP v sh) (hg:W.grownBy w' d.vS.ownBlock) (hf:bU0 W d.vS v) :
  LbJ w s n lv ds xb kb lb size x { d with vS:=v,sh:=sh } (w'.setCell ⟨s+5,0,none⟩ v)/\KeepsFrom size W (w'.setCell ⟨s+5,0,none⟩ v)/\(∀b cs,TB W b cs 208->TB (w'.setCell ⟨s+5,0,none⟩ v) b cs 208)/\TB w' (s+5) #[d.vS] 205:=by
 have hr:=RT.own h.st.oS;have k6:=h.st.b6.keep hg hr (by decide);have af:=bG w' (s+5) 0 v;have bu:=k6.rt;have l8:=h.mks.grown hg (h.mks.not_row hr)
 exact⟨⟨h.st.pushS ho hg hf,(h.tx.keep hg hr (by decide)).keep af bu (by decide),(h.tk.keep hg hr (by decide)).keep af bu (by decide),(h.tl.keep hg hr (by decide)).keep af bu (by decide),h.nx,h.nk,l8.grown af (l8.not_row bu),Ac h.sz (Ac hg.size af.size)⟩,
  (gX hg hr).trans (kW k6 0 v),λb cs hb=>(hb.keep hg hr (by decide)).keep af bu (by decide),k6⟩
theorem LbJ.pushL (h:LbJ w s n lv ds xb kb lb size x d W) {v:Value} {l:List UInt8} (ho:aU w' s 5 1 aV v l) (hg:W.grownBy w' d.vL.ownBlock) :
  LbJ w s n lv ds xb kb lb size x { d with vL:=v,lab:=l } (w'.setCell ⟨s+2,2,none⟩ v)/\KeepsFrom size W (w'.setCell ⟨s+2,2,none⟩ v)/\(∀b cs,TB W b cs 208->TB (w'.setCell ⟨s+2,2,none⟩ v) b cs 208) /\
   TB w' (s+2) #[.pointer none,.pointer none,d.vL,.pointer none,.slice (some ⟨s+1,0,none⟩) n n] 204:=by
 have hr:=RT.own h.st.oL;have k2:=h.st.b2.keep hg hr (by decide);have af:=bG w' (s+2) 2 v;have bu:=k2.rt;have l8:=h.mks.grown hg (h.mks.not_row hr)
 exact⟨⟨h.st.pushL ho hg,(h.tx.keep hg hr (by decide)).keep af bu (by decide),(h.tk.keep hg hr (by decide)).keep af bu (by decide),(h.tl.keep hg hr (by decide)).keep af bu (by decide),h.nx,h.nk,l8.grown af (l8.not_row bu),Ac h.sz (Ac hg.size af.size)⟩,
  (gX hg hr).trans (kW k2 2 v),λb cs hb=>(hb.keep hg hr (by decide)).keep af bu (by decide),k2⟩
theorem TB.keepN {w w':World} {b:Nat} {cs:Array Value} {t:TypeId} {row:Option Nat} (h:TB w b cs t) (hg:w.grownBy w' row) (ai:row≠some b):TB w' b cs t:=(hg.block b h.lt (λe=>ai e.symm)).trans h
theorem LbJ.pushA (h:LbJ w s n lv ds xb kb lb size x d W) {v:Value} {l:List dV} (ho:aU w' s 208 3 yE v l) (hg:W.grownBy w' d.vA.ownBlock) (hf:bU0 W d.vA v) :
  LbJ w s n lv ds xb kb lb size x { d with vA:=v,al:=l } (w'.setCell ⟨s+7,0,none⟩ v)/\KeepsFrom size W (w'.setCell ⟨s+7,0,none⟩ v)/\TB w' (s+7) #[d.vA] 209:=by
 have hr:=RT.own h.st.oA;have k8:=h.st.b8.keep hg hr (by decide);have af:=bG w' (s+7) 0 v;have bu:=k8.rt;have l8:=h.mks.grown hg (h.mks.not_row hr)
 have fr:∀b,b<W.heap.size->d.vA.ownBlock≠some b->v.ownBlock≠some b:=λb hb ai e=>by
  rcases hf with hf|⟨q,hq,jd⟩
  ·exact ai (hf▸e)
  ·have:q=b:=Option.some.inj (hq.symm.trans e)
   omega
 exact⟨⟨h.st.pushA ho hg,(h.tx.keepN hg h.nx).keep af bu (by decide),(h.tk.keepN hg h.nk).keep af bu (by decide),(h.tl.keep hg hr (by decide)).keep af bu (by decide),fr xb h.tx.lt h.nx,fr kb h.tk.lt h.nk,l8.grown af (l8.not_row bu),Ac h.sz (Ac hg.size af.size)⟩,
  (gX hg hr).trans (kW k8 0 v),k8⟩
theorem LbJ.keepB {d':BD} {W':World} (h:LbJ w s n lv ds xb kb lb size x d W) (h':LbJ w s n lv ds xb kb lb size x d' W'):bI (λb=>b<s\/b=kb\/b=lb) W W':=λb hb=>by
 rcases hb with hb|hb|hb
 ·have dm:b<w.heap.size:=by rw[<-h.st.s0];exact hb
  rw[Below.block h.st.gr b dm,Below.block h'.st.gr b dm]
 ·rw[hb,h.tk,h'.tk]
 ·rw[hb,h.tl,h'.tl]
def cA1 (K:Act->World->Prop):Exit->Act->World->Prop
 | .normal,a,w=>K a w
 | _,_,_=>False
theorem eH (K:Act->World->Prop) (a:Act) (w:World):cA1 K .normal a w=K a w:=rfl
theorem lH {P:Program} {c:Code} {K:Act->World->Prop} {Q:Exit->Act->World->Prop} {a:Act} {w:World} (h:c.wp P (cA1 K) a w):c.wp P (Exit.then K Q) a w:=λb k cs=>by
 obtain⟨e,a',w',q,r⟩:=h b k cs;refine⟨e,a',w',?_,r⟩;cases e<;>first|exact q|exact q.elim
end
section
open Go Go.RowKit Go.Shelf
def bR1 (V w':World) (X:Nat->Prop):Prop:=∀k,k<V.heap.size->¬X k->w'.heap[k]?=V.heap[k]?
variable {V w':World} {X:Nat->Prop}
theorem kT {p:Addr} {v:Value} (hc:V.cell? p=some v) (ho:bR1 V w' X) (hx:¬X p.block):w'.cell? p=some v:=by
 have hb:=World.block_lt_of_cell? _ _ hc;unfold An at *;rw[ho _ hb hx];exact hc
theorem wY {α:Type} {base:Nat} {e:TypeId} {k:Nat} {enc:α->List Value} {v:Value} {xs:List α} (h:aU V base e k enc v xs) (ho:bR1 V w' X) (hx:∀q,X q->∃o,V.heap[q]?=some o/\dQ0 o≠some e):aU w' base e k enc v xs:=by
 refine⟨h.1,?_⟩;rcases h.2 with h1|⟨g,cap,bv,hv,hb,hh,r⟩
 ·exact Or.inl h1
 ·refine Or.inr ⟨g,cap,bv,hv,hb,?_,r⟩
  rw[ho g (Array.getElem?_eq_some_iff.1 hh).1 (λhX=>?_)]
  ·exact hh
  ·obtain⟨o,h1,h2⟩:=hx g hX
   rw[hh]at h1;cases h1
   exact h2 rfl
theorem iJ {vb:Nat} {l:List Bool} (h:lB V vb l) (ho:bR1 V w' X) (ga:¬X vb) (hx:∀q,X q->∃o,V.heap[q]?=some o/\dQ0 o≠some 213/\dQ0 o≠some 3):lB w' vb l:=by
 obtain⟨wb,h1,h2⟩:=h.c1;obtain⟨vC,h3,h4⟩:=h.c2;exact⟨kT h.c0 ho ga,⟨wb,kT h1 ho ga,wY h2 ho λq hq=>by obtain⟨o,a,b,c⟩:=hx q hq;exact⟨o,a,b⟩⟩,vC,kT h3 ho ga,wY h4 ho λq hq=>by obtain⟨o,a,b,c⟩:=hx q hq;exact⟨o,a,c⟩⟩
theorem kM0 {pb:Nat} {l:List Nat} (h:gA0 V pb l) (ho:bR1 V w' X) (ga:¬X pb) (hx:∀q,X q->∃o,V.heap[q]?=some o/\dQ0 o≠some 213/\dQ0 o≠some 3):gA0 w' pb l:=by
 obtain⟨wb,h1,h2,h3⟩:=h.c2;exact⟨kT h.c0 ho ga,kT h.c1 ho ga,wb,h1,kT h2 ho ga,wY h3 ho λq hq=>by obtain⟨o,a,b,c⟩:=hx q hq;exact⟨o,a,b⟩⟩
theorem rF (V:World) (b o:Nat) (v:Value):bR1 V (V.setCell ⟨b,o,none⟩ v) (λk=>k=b):=λk _ hk=>Below.heap_setCell _ _ _ k (λe=>hk e)
theorem TB.al {w:World} {b:Nat} {cs:Array Value} {t:TypeId} (h:TB w b cs t) (o:Obj):TB (w.alloc o) b cs t:=h.keep (τ:=Option.none) (Ai _ _ none) (RT.none _ _) (by simp)
theorem TB.gr {w w':World} {b:Nat} {cs:Array Value} {t:TypeId} (h:TB w b cs t) (hg:aB w w'):TB w' b cs t:=(Below.block hg b h.lt).trans h
structure LbE (w V:World) (s:Nat) (cs:Array Value) (vL nv vI vD:Value) (lab:List UInt8) (nd:List Nat) (isl:List Bool) (idl:List Nat) (ds:List Nat):Prop where
 b4:TB V (s+3) #[.pointer (some ⟨s+2,0,none⟩)] 100
 b3:TB V (s+2) cs 204
 oL:aU V s 5 1 aV vL lab
 oN:aU V s 3 1 gU nv nd
 oI:aU V s 4 1 nP vI isl
 oD:aU V s 213 1 kH vD idl
 mks:jI V s ds
 gr:aB w V
theorem LbE.grows {w V V':World} {s:Nat} {cs:Array Value} {vL nv vI vD:Value} {lab:List UInt8} {nd:List Nat} {isl:List Bool} {idl:List Nat} {ds:List Nat} (h:LbE w V s cs vL nv vI vD lab nd isl idl ds) (hg:aB V V'):LbE w V' s cs vL nv vI vD lab nd isl idl ds :=
 ⟨h.b4.gr hg,h.b3.gr hg,h.oL.grows hg,h.oN.grows hg,h.oI.grows hg,h.oD.grows hg,⟨λD hD=>⟨(h.mks.at_ D hD).1,(Below.block hg D (Array.getElem?_eq_some_iff.1 (h.mks.at_ D hD).2).1).trans (h.mks.at_ D hD).2⟩,h.mks.nodup⟩,h.gr.tr hg⟩
theorem LbE.set {w V:World} {s:Nat} {cs:Array Value} {vL nv vI vD:Value} {lab:List UInt8} {nd:List Nat} {isl:List Bool} {idl:List Nat} {ds:List Nat} (h:LbE w V s cs vL nv vI vD lab nd isl idl ds) (hs:w.heap.size<=s) (o:Nat) (v:Value) :
  LbE w (V.setCell ⟨s+2,o,none⟩ v) s (cs.setIfInBounds o v) vL nv vI vD lab nd isl idl ds:=by
 have hg:=bG V (s+2) o v;have hr:=h.b3.rt;exact⟨h.b4.keep hg hr (by decide),h.b3.set o v,aJ h.oL hg hr (by decide),aJ h.oN hg hr (by decide),aJ h.oI hg hr (by decide),aJ h.oD hg hr (by decide),h.mks.grown hg (h.mks.not_row hr),h.gr.set (show w.heap.size<=s+2 by omega) _⟩
theorem zI {V:World} {lo:Nat} {ds:List Nat} (h:jI V lo ds) (e:TypeId):∀q,(λk=>k∈ds) q->∃o,V.heap[q]?=some o/\dQ0 o≠some e:=λq hq=>⟨_,(h.at_ q hq).2,by simp[dQ0]⟩
theorem kK {V:World} {b:Nat} {cs:Array Value} (h:TB V b cs 204):∀q,(λk=>k=b) q->∃o,V.heap[q]?=some o/\dQ0 o≠some 213/\dQ0 o≠some 3:=λq hq=>by
 have:q=b:=hq
 subst this;exact⟨_,h,by simp[dQ0],by simp[dQ0]⟩
theorem oT {V:World} {lo:Nat} {ds:List Nat} (h:jI V lo ds):∀q,(λk=>k∈ds) q->∃o,V.heap[q]?=some o/\dQ0 o≠some 213/\dQ0 o≠some 3:=λq hq=>⟨_,(h.at_ q hq).2,by simp[dQ0],by simp[dQ0]⟩
theorem pH {V:World} {lo:Nat} {ds:List Nat} (h:jI V lo ds) {p:Addr} {v:Value} (hc:V.cell? p=some v):¬p.block∈ds:=λff=>by
 have h1:=(h.at_ _ ff).2;unfold An at hc;simp[h1]at hc
theorem sU0 (w:World) (n:Nat) (lv:Value) (hn:n<=20000) {b2 b3 b5 b7:Nat} (h2:b2=w.heap.size+1) (h3:b3=w.heap.size+2) (h5:b5=w.heap.size+4) (h7:b7=w.heap.size+6) :
  Bst w ((((((((w.alloc (.cells #[lv] 65)).alloc (.cells (madeCells #[.int .i64 0] n) 3)).alloc (.cells #[.pointer none,.pointer none,.slice none 0 0,.pointer none,.slice (some ⟨b2,0,none⟩) n n] 204)).alloc
   (.cells #[.pointer (some ⟨b3,0,none⟩)] 100)).alloc (.cells #[.bool true,.bool false] 4)).alloc (.cells #[.slice (some ⟨b5,0,none⟩) 2 2] 205)).alloc (.cells #[.int .i64 0,.int .i64 n,.int .i64 0] 208)).alloc (.cells #[.slice (some ⟨b7,0,none⟩) 1 1] 209))
   w.heap.size n lv { vS:=.slice (some ⟨b5,0,none⟩) 2 2,vA:=.slice (some ⟨b7,0,none⟩) 1 1,vL:=.slice none 0 0,vI:=.slice none 0 0,vD:=.slice none 0 0,sh:=[true,false],al:=[⟨0,n,0⟩],lab:=[],isl:=[],idl:=[],nd:=Al n 0 }:=by
 obtain⟨s,hs⟩:=exq w.heap.size;obtain⟨W1,e1⟩:=exq (w.alloc (.cells #[lv] 65));obtain⟨W2,e2⟩:=exq (W1.alloc (.cells (madeCells #[.int .i64 0] n) 3));obtain⟨W3,e3⟩:=exq (W2.alloc (.cells #[.pointer none,.pointer none,.slice none 0 0,.pointer none,.slice (some ⟨b2,0,none⟩) n n] 204));obtain⟨W4,e4⟩:=exq (W3.alloc (.cells #[.pointer (some ⟨b3,0,none⟩)] 100));obtain⟨W5,e5⟩:=exq (W4.alloc (.cells #[.bool true,.bool false] 4));obtain⟨W6,e6⟩:=exq (W5.alloc (.cells #[.slice (some ⟨b5,0,none⟩) 2 2] 205));obtain⟨W7,e7⟩:=exq (W6.alloc (.cells #[.int .i64 0,.int .i64 n,.int .i64 0] 208));obtain⟨W8,e8⟩:=exq (W7.alloc (.cells #[.slice (some ⟨b7,0,none⟩) 1 1] 209));have z1:W1.heap.size=s+1:=by rw[e1,hs];simp
 have z2:W2.heap.size=s+2:=by rw[e2,Ah,z1]
 have z3:W3.heap.size=s+3:=by rw[e3,Ah,z2]
 have z4:W4.heap.size=s+4:=by rw[e4,Ah,z3]
 have z5:W5.heap.size=s+5:=by rw[e5,Ah,z4]
 have z6:W6.heap.size=s+6:=by rw[e6,Ah,z5]
 have z7:W7.heap.size=s+7:=by rw[e7,Ah,z6]
 have g2:aB W1 W2:=by rw[e2];exact aB.alloc _ _
 have g3:aB W2 W3:=by rw[e3];exact aB.alloc _ _
 have g4:aB W3 W4:=by rw[e4];exact aB.alloc _ _
 have g5:aB W4 W5:=by rw[e5];exact aB.alloc _ _
 have g6:aB W5 W6:=by rw[e6];exact aB.alloc _ _
 have g7:aB W6 W7:=by rw[e7];exact aB.alloc _ _
 have g8:aB W7 W8:=by rw[e8];exact aB.alloc _ _
 have g1:aB w W1:=by rw[e1];exact aB.alloc _ _
 have t1:TB W1 s #[lv] 65:=by rw[e1,hs];exact TB.alloc _ _ _
 have t3:TB W3 (s+2) #[.pointer none,.pointer none,.slice none 0 0,.pointer none,.slice (some ⟨b2,0,none⟩) n n] 204:=by rw[e3,<-z2];exact TB.alloc _ _ _
 have t4:TB W4 (s+3) #[.pointer (some ⟨b3,0,none⟩)] 100:=by rw[e4,<-z3];exact TB.alloc _ _ _
 have t6:TB W6 (s+5) #[.slice (some ⟨b5,0,none⟩) 2 2] 205:=by rw[e6,<-z5];exact TB.alloc _ _ _
 have t8:TB W8 (s+7) #[.slice (some ⟨b7,0,none⟩) 1 1] 209:=by rw[e8,<-z7];exact TB.alloc _ _ _
 have oN:aU W2 s 3 1 gU (.slice (some ⟨s+1,0,none⟩) n n) (Al n 0):=by
  have h:=bL0 (w:=W1) (n:=n) (by omega);rw[Aq,<-e2,z1]at h;exact h.base (by omega)
 have oS:aU W5 s 4 1 nP (.slice (some ⟨s+4,0,none⟩) 2 2) [true,false]:=by
  have h:=jQ (w:=W4) (e:=4) (enc:=nP) (λ_=>rfl) (base:=s) (n:=2) (by omega) [true,false] (cs:=#[.bool true,.bool false]) rfl rfl (by unfold maxLen;omega);rw[<-e5,z4]at h;exact h
 have oA:aU W7 s 208 3 yE (.slice (some ⟨s+6,0,none⟩) 1 1) [⟨0,n,0⟩]:=by
  have h:=jQ (w:=W6) (e:=208) (enc:=yE) (k:=3) (λ_=>rfl) (base:=s) (n:=1) (by omega) [⟨0,n,0⟩] (cs:=#[.int .i64 0,.int .i64 n,.int .i64 0]) rfl rfl (by unfold maxLen;omega);rw[<-e7,z6]at h;exact h
 rw[<-e1,<-e2,<-e3,<-e4,<-e5,<-e6,<-e7,<-e8,<-hs];rw[<-hs]at h2 h3 h5 h7;subst h2;subst h3;subst h5;subst h7
 exact⟨(((((((t1.gr g2).gr g3).gr g4).gr g5).gr g6).gr g7).gr g8),((((t4.gr g5).gr g6).gr g7).gr g8),(((((t3.gr g4).gr g5).gr g6).gr g7).gr g8),((t6.gr g7).gr g8),t8,
  aU.nil _ _ _ _ _,((((((oN.grows g3).grows g4).grows g5).grows g6).grows g7).grows g8),(((oS.grows g6).grows g7).grows g8),oA.grows g8,aU.nil _ _ _ _ _,aU.nil _ _ _ _ _,λq _ h=>by simp[Value.ownBlock]at h,
  ((((((g1.tr g2).tr g3).tr g4).tr g5).tr g6).tr g7).tr g8,hs⟩
end
end Go.Proofs.YthgklnohcmaopaaGreatDoor
