/- The texts Kid Lb1 GroM Grow Lb0 Lb3 Lb4, one behind the other. -/
import Derived.Test.YthgklnohcmaopaaGreatDoorBq32
import Derived.Test.YthgklnohcmaopaaGreatDoorBq24
import Derived.Shelf.Abstract
import Derived.OwnWalkIn
import Derived.LoopNIn
import Derived.LoopIn
import Derived.Test.YthgklnohcmaopaaGreatDoorBq5
import Derived.Test.YthgklnohcmaopaaGreatDoorBq18
import Derived.Test.YthgklnohcmaopaaGreatDoorBq22
import Derived.Test.YthgklnohcmaopaaGreatDoorBq9
import Derived.Test.YthgklnohcmaopaaGreatDoorBq19
open Go.Lib renaming hid → Aa
open List renaming getElem?_eq_getElem → Ab,replicate → Ac,mem_of_getElem? → Aj,append_assoc → Am,foldl → Ao,map_append → Ap,append_nil → Aq,map_replicate → Ar,length_append → As,length_map → Au,length_replicate → Av,length_singleton → Aw,take_length → Ay
open Nat renaming le_refl → Ad,le_trans → Af,mul_one → Ak,lt_irrefl → Ba
open Go.IntKind renaming signed → Ae,wrap → Ag,bits → Ah
open Go.World renaming size_alloc → Ai,grownBy_alloc → Al,cell? → Ax
open Int renaming toNat_natCast → An,le_refl → Az
open Option renaming map_some → At
set_option maxHeartbeats 16000000
namespace Go.Proofs.YthgklnohcmaopaaGreatDoor
set_option maxRecDepth 100000
section
open Go Go.RowKit Go.Shelf
attribute [local go_sem] aM aO
abbrev uI (L:List (List UInt8)) (x:cY):={ y:cY // y∈eC L x }
def bD0 (y:cY):Value := .agg #[.int .i64 y.i,.int .i64 y.t,.int .i64 y.d]
def bH (S:Nat->Prop) (W W':World):Prop:=∀b,S b->W'.heap[b]?=W.heap[b]?
theorem bH.refl (S:Nat->Prop) (W:World):bH S W W:=λ_ _=>rfl
theorem bH.tr {S:Nat->Prop} {A B C:World} (h:bH S A B) (k:bH S B C):bH S A C:=λb hb=>(k b hb).trans (h b hb)
theorem bH.cell {S:Nat->Prop} {W W':World} (h:bH S W W') {p:Addr} {v:Value} (hp:S p.block) (hc:W.cell? p=some v):W'.cell? p=some v:=by
 unfold Ax at *;rw[h _ hp];exact hc
theorem bH.at_ {S:Nat->Prop} {W W':World} (h:bH S W W') {a:Option Addr} {k:Nat} {rows:List (List Value)} (ha:∀q,a=some q->S q.block) (ac:aF W a k rows):aF W' a k rows:=λhn=>by
 obtain⟨b,off,e,hc⟩:=ac hn;exact⟨b,off,e,λi cs hi j v hj=>h.cell (p:=⟨b,off+i*k+j,none⟩) (ha ⟨b,off,none⟩ e) (hc i cs hi j v hj)⟩
theorem bH.of_below {S:Nat->Prop} {n:Nat} {W W':World} (h:Below n W W') (hS:∀b,S b->b<n):bH S W W':=λb hb=>Below.block h b (hS b hb)
theorem bH.drew (S:Nat->Prop) (W:World):bH S W W.drew:=λ_ _=>rfl
theorem lG0 (n:Nat) (B:List ByteArray) (a:Option Addr) (c bx bL:Nat) (x:cY) (S:Nat->Prop) (w:World) (hB:B.length<=20000) (cz:∀s∈B,s.size<=256) (ab2:Asc (bls B)) (g:pU (bls B) x)
  (hSx:S bx) (hSL:S bL) (hSa:∀q,a=some q->S q.block) (ae:∀b,S b->b<w.heap.size)
  (kw:w.cell? ⟨bx,0,none⟩=some (.int .i64 x.i)) (fx:w.cell? ⟨bx,1,none⟩=some (.int .i64 x.t)) (jy:w.cell? ⟨bx,2,none⟩=some (.int .i64 x.d))
  (hL:w.cell? ⟨bL,0,none⟩=some (.slice a B.length c)) (ac:aF w a 1 (B.map stC)) :
  SeqStopsK Fence.wide n Tryz.prog 182 #[.pointer (some ⟨bx,0,none⟩),.pointer (some ⟨bL,0,none⟩)] (λy:uI (bls B) x => #[bD0 y.1]) (bH S) (λys=>ys.map (·.1)=eC (bls B) x) (λ_=>True) (eC (bls B) x).length w:=by
 intro l J Jx W hW hJ _ hY h0;have hK0:bH S w W:=bH.of_below hW ae;have HY:=Aa hY;have HJ:=Aa hJ;have hJd:Hid (∀pre V,J pre V->J pre V.drew):=λpre V h=>hJ pre V V.drew none h ⟨rfl,rfl,rfl,Ad _,λ_ _ _=>rfl⟩ (λr e=>by cases e);obtain⟨c0,ox⟩:∃f:World->Prop,f=λV=>V.cell? ⟨bx,0,none⟩=some (.int .i64 x.i)/\V.cell? ⟨bx,1,none⟩=some (.int .i64 x.t)/\V.cell? ⟨bx,2,none⟩=some (.int .i64 x.d)/\V.cell? ⟨bL,0,none⟩=some (.slice a B.length c)/\aF V a 1 (B.map stC):=⟨_,rfl⟩
 have CEL:Hid (∀V,bH S w V->c0 V):=λV hV=>by
  rw[ox];exact⟨hV.cell hSx kw,hV.cell hSx fx,hV.cell hSx jy,hV.cell hSL hL,hV.at_ hSa ac⟩
 have HC0:=Aa ox;have HG:=Aa g;have HASC:=Aa ab2;obtain⟨le1,le2⟩:=g.le;rw[fT]at le2;obtain⟨xi,xt,xd⟩:=x;simp only at le1 le2 kw fx jy
 have pu:xd<=256\/xi=xt:=by
  rcases Nat.lt_or_ge xi xt with h|h
  ·refine Or.inl ?_
   have h1:=g.len xi (Ad _) h;obtain⟨s,hs⟩:∃s,B[xi]?=some s:=⟨_,Ab (by omega)⟩;rw[dI hs,gJ]at h1
   have:=cz s (Aj hs)
   simp only at h1;omega
  ·exact Or.inr (by omega)
 have HSZ:=Aa cz;have HD:=Aa pu;have ST:Hid (J [] W):=h0;clear hY hJ ox kw fx jy hL ac g ab2 cz pu h0 ae hW;refine callsIn_wide.2 ?_
 obtain⟨d0,d1,d2,dL,dA⟩:W.cell? ⟨bx,0,none⟩=some (.int .i64 xi)/\W.cell? ⟨bx,1,none⟩=some (.int .i64 xt)/\W.cell? ⟨bx,2,none⟩=some (.int .i64 xd)/\W.cell? ⟨bL,0,none⟩=some (.slice a B.length c)/\aF W a 1 (B.map stC):=by
  have:=CEL.out W hK0;rw[HC0.out]at this;exact this
 have z0:∀y:Ext aB W.drew,y.u.cell? ⟨bx,0,none⟩=some (.int .i64 xi):=aG ((aB.drew W).cell d0);have z1:∀y:Ext aB W.drew,y.u.cell? ⟨bx,1,none⟩=some (.int .i64 xt):=aG ((aB.drew W).cell d1);have z2:∀y:Ext aB W.drew,y.u.cell? ⟨bx,2,none⟩=some (.int .i64 xd):=aG ((aB.drew W).cell d2);have zL:∀y:Ext aB W.drew,y.u.cell? ⟨bL,0,none⟩=some (.slice a B.length c):=aG ((aB.drew W).cell dL);by_cases aq:xi<xt
 case neg =>
  have u9:¬(xi:Int)<xt:=by omega
  have lk:eC (bls B) ⟨xi,xt,xd⟩=[]:=by
   unfold eC;exact gC (by unfold bQ;simp only;split<;>omega)
  have FIN:Hid (∃xs:List (uI (bls B) ⟨xi,xt,xd⟩),xs.map (·.1)=eC (bls B) ⟨xi,xt,xd⟩/\J xs W.drew):=⟨[],lk.symm,hJd.out _ _ ST.out⟩;clear lk;have e1:=(aB.drew W).cell d1;go_enter Tryz.func182,Tryz.ntmps182
  go_wp2_with fail
  refine bI (bB 14 []) (by kernel_rfl) (λd _ _ _ _ h=>by cases d<;>exact h) ?_
  iterate 14 (refine aK rfl (λK hK=>?_);go_simp;refine hK _ ?_;clear hK K)
  refine bT ?_;clear z0 z1 z2 zL;go_wp2_with fail
  go_loopw [4] (λu wr=>u=.int .i64 xi/\Hid (wr=W.drew)) (λ_ _=>0)
  case atStart=>exact⟨rfl,rfl⟩
  case round =>
   obtain⟨rfl,hw⟩:=hrel;obtain rfl:=hw.out;go_wp2_with fail
   refine bodyPost_end (results_none rfl _ _ _) rfl ⟨⟨_,rfl⟩,.inl FIN.out⟩
 case pos =>
  have rv:0<B.length:=by omega
  obtain⟨sb,so,rfl,ct⟩:=at1 (f:=λs:ByteArray=>Value.string s) dA (aH (k:=0) rv);have hxd:xd<=256:=by rcases HD.out with h|h<;>omega
  have CELL:Hid (∀V,bH S w V->V.cell? ⟨bx,1,none⟩=some (.int .i64 xt)/\V.cell? ⟨bx,2,none⟩=some (.int .i64 xd)/\V.cell? ⟨bL,0,none⟩=some (.slice (some ⟨sb,so,none⟩) B.length c)/\∀j s,B[j]?=some s->V.cell? ⟨sb,so+j,none⟩=some (.string s)):=λV hV=>by
   have h:=CEL.out V hV;rw[HC0.out]at h;obtain⟨_,h1,h2,h3,h4⟩:=h;obtain⟨b',o',e,h5⟩:=at1 (f:=λs:ByteArray=>Value.string s) h4 (aH (k:=0) rv);have e1:sb=b'/\so=o':=by simpa using e
   rw[<-e1.1,<-e1.2]at h5;exact⟨h1,h2,h3,h5⟩
  obtain⟨s0,i6⟩:∃s,B[xi]?=some s:=⟨_,Ab (by omega)⟩;have zv:=dI i6;have y0:∀y:Ext aB W.drew,y.u.cell? ⟨sb,so+xi,none⟩=some (.string s0):=aG ((aB.drew W).cell (ct xi s0 i6));have agj:(xi:Int)<B.length:=by omega
  have u9:(xi:Int)<xt:=by omega
  have KD:Hid (bH S w W.drew):=hK0.tr (bH.drew S W);obtain⟨I0,hI0⟩:=exq (bQ (bls B) ⟨xi,xt,xd⟩);have START:Hid (I0<=xt/\I0=bQ (bls B) ⟨xi,xt,xd⟩/\J [] W.drew):=⟨by rw[hI0];unfold bQ;simp only;split<;>omega,hI0,hJd.out _ _ ST.out⟩
  clear hK0 d1 d2 dL dA ct;have LOOP:Hid (xi<=I0):=by show _<=_;rw[hI0];unfold bQ;simp only;split<;>omega
  by_cases hh:s0.size=xd
  ·have om:I0=xi+1:=by
    rw[hI0];unfold bQ gE;rw[if_pos];simp[aq,zv,gJ,hh]
   have nj:((s0.size:Int)==xd)=true:=by rw[hh];simp
   have wI:IntKind.i64.wrap ((xi:Int)+1)=I0:=by simp[Ag,Ah,Ae];omega
   have HI1:=Aa om;clear hI0 om hh zv i6;go_enter Tryz.func182,Tryz.ntmps182
   go_wp2_with fail
   refine bI (bB 14 []) (by kernel_rfl) (λd _ _ _ _ h=>by cases d<;>exact h) ?_
   iterate 14 (refine aK rfl (λK hK=>?_);go_simp;refine hK _ ?_;clear hK K)
   refine bT ?_;clear z0 z1 z2 zL y0 d0;go_wp2_with fail
   go_loopw [4] (λu wr=>∃(I:Nat) (pre:List (uI (bls B) ⟨xi,xt,xd⟩)),u=.int .i64 I/\xi<=I/\I<=xt/\Hid (bQ (bls B) ⟨xi,xt,xd⟩<=I/\pre.map (·.1)++eN (bls B) xd xt I=eC (bls B) ⟨xi,xt,xd⟩)/\Hid (bH S w wr)/\Hid (J pre wr)) (λu _=>xt-(intOf u).toNat)
   case atStart =>
    refine⟨I0,[],by first|go_num|(rw[HI1.out]),LOOP.out,START.out.1,⟨by rw[START.out.2.1];exact Ad _,?_⟩,KD.out,START.out.2.2⟩
    rw[START.out.2.1];rfl
   case round =>
    clear START KD LOOP ST;obtain⟨I,pre,rfl,hxI,hIt,hP,hK,ij⟩:=hrel;obtain⟨d1,d2,dL,dS⟩:=CELL.out wr hK.out;by_cases ae:I<xt
    ·have el:(I:Int)<xt:=by omega
     obtain⟨sI,m7⟩:∃s,B[I]?=some s:=⟨_,Ab (by omega)⟩;have hdI:xd<(nth (bls B) I).length:=HG.out.start HASC.out (j:=I) hP.out.1 ae;rw[dI m7,gJ]at hdI;have wK:IntKind.i64.wrap ((I:Int)+1)=(I+1:Nat):=by simp[Ag,Ah,Ae];omega
     have KI:=Aa hK.out;have JI:=Aa ij.out;have HSI:=Aa m7;clear dL dS d2 hK ij m7;go_wp2_with fail
     go_loopw [5] (λu wq=>∃(K:Nat),u=.int .i64 K/\I+1<=K/\K<=xt/\Hid (dN (bls B) xd xt I=oX (gM (bls B) xd I) xt K)/\Hid (bH S w wq)/\Hid (J pre wq)) (λu _=>xt-(intOf u).toNat)
     case atStart=>exact⟨I+1,by go_num,Ad _,ae,rfl,KI.out,JI.out⟩
     case round =>
      clear KI JI;obtain⟨K,rfl,hIK,hKt,hE,hK,ij⟩:=hrel;obtain⟨d1,d2,dL,dS⟩:=CELL.out wr hK.out;have x1:∀y:Ext aB wr.drew,y.u.cell? ⟨bx,1,none⟩=some (.int .i64 xt):=aG ((aB.drew wr).cell d1);have x2:∀y:Ext aB wr.drew,y.u.cell? ⟨bx,2,none⟩=some (.int .i64 xd):=aG ((aB.drew wr).cell d2);have xL:∀y:Ext aB wr.drew,y.u.cell? ⟨bL,0,none⟩=some (.slice (some ⟨sb,so,none⟩) B.length c):=aG ((aB.drew wr).cell dL);have xI:∀y:Ext aB wr.drew,y.u.cell? ⟨sb,so+I,none⟩=some (.string sI):=aG ((aB.drew wr).cell (dS I sI HSI.out));have hIl:(I:Int)<B.length:=by omega
      have K2:=Aa (hK.out.tr (bH.drew S wr));have J2:=Aa (hJd.out _ _ ij.out);by_cases ay:K<xt
      ·have j9:(K:Int)<xt:=by omega
       obtain⟨sK,m8⟩:∃s,B[K]?=some s:=⟨_,Ab (by omega)⟩;have hdK:xd<(nth (bls B) K).length:=HG.out.start HASC.out (j:=K) (by have:=hP.out.1;omega) ay;rw[dI m8,gJ]at hdK;have aer:(xd:Int)<sI.size:=by omega
       have aes:(xd:Int)<sK.size:=by omega
       have hKl:(K:Int)<B.length:=by omega
       have xK:∀y:Ext aB wr.drew,y.u.cell? ⟨sb,so+K,none⟩=some (.string sK):=aG ((aB.drew wr).cell (dS K sK m8));have wK2:IntKind.i64.wrap ((K:Int)+1)=(K+1:Nat):=by simp[Ag,Ah,Ae];omega
       by_cases he:sK[xd]=sI[xd]
       ·have hb:((sK[xd].toNat:Int)==sI[xd].toNat)=true:=by rw[he];simp
        have SM:Hid (gM (bls B) xd I K=true):=by
         show _=_
         unfold gM;rw[dI m8,dI HSI.out,oV hdK,oV hdI,he];simp
        clear d1 d2 dL dS m8 he hK ij;go_wp2_with fail
        refine bI (bB 21 []) (by kernel_rfl) (λd _ _ _ _ h=>by cases d<;>exact h) ?_
        iterate 21 (refine aK rfl (λK hK=>?_);go_simp;refine hK _ ?_;clear hK K)
        refine bT ?_;clear x1 x2 xL xI xK;go_wp2_with fail
        go_roundw
        case rel=>exact⟨K+1,by go_num,by omega,ay,by rw[hE.out,pM ay SM.out];exact rfl,K2.out,J2.out⟩
        case measure=>simp[intOf];omega
       ·have hb:((sK[xd].toNat:Int)==sI[xd].toNat)=false:=by
         rw[beq_eq_false_iff_ne];intro h;exact he (UInt8.toNat_inj.1 (by omega))
        have SM:Hid (dN (bls B) xd xt I=K):=by
         show _=_
         rw[hE.out,gU];rintro⟨_,h⟩;unfold gM at h;rw[dI m8,dI HSI.out,oV hdK,oV hdI]at h;simp at h;exact he h
        clear d1 d2 dL dS m8 he hK ij;go_wp2_with fail
        refine bI (bB 21 []) (by kernel_rfl) (λd _ _ _ _ h=>by cases d<;>exact h) ?_
        iterate 21 (refine aK rfl (λK hK=>?_);go_simp;refine hK _ ?_;clear hK K)
        refine bT ?_;clear x1 x2 xL xI xK;have e2:=K2.out;have ic:=fK (L:=bls B) (d:=xd) (t:=xt) (i:=I) ae;rw[SM.out]at ic
        have dp:(⟨I,K,xd+1⟩:cY)∈eC (bls B) ⟨xi,xt,xd⟩:=by
         rw[<-hP.out.2,ic];simp
        have ak:pre.length<(eC (bls B) ⟨xi,xt,xd⟩).length:=by
         rw[<-hP.out.2,ic];simp
        have PN:Hid ((pre++[(⟨⟨I,K,xd+1⟩,dp⟩:uI (bls B) ⟨xi,xt,xd⟩)]).map (λy=>y.1)++eN (bls B) xd xt K=eC (bls B) ⟨xi,xt,xd⟩):=by
         have h2:=hP.out.2;rw[ic]at h2;show _=_
         rw[Ap,Am];exact h2
        obtain⟨fn,tmps,assign,body,hy,hR⟩:=HY.out pre ⟨⟨I,K,xd+1⟩,dp⟩ wr.drew J2.out ak;dsimp only[bD0]at hy
        have dz:((xd+1:Nat):Int)=(xd:Int)+1:=by omega
        rw[dz]at hy;have lx:=Aa hR;have PS:Hid (bQ (bls B) ⟨xi,xt,xd⟩<=K):=by have:=hP.out.1;show _<=_;omega
        have d2:=(CELL.out _ K2.out).2.1;have wd:IntKind.i64.wrap ((xd:Int)+1)=(xd+1:Nat):=by simp[Ag,Ah,Ae];omega
        clear ic hR ak e2 hP dz wd;iterate 10 go_step
        refine yB 7 n ?_;gi_wp2
        refine⟨λh=>(by cases h),?_⟩;refine lx.out.mono ?_;rintro e W3 (⟨rfl,ka,fc⟩|⟨rfl,en⟩)
        ·gi_wp2
         have K3:=Aa (K2.out.tr fc);have J3:=Aa ka;clear lx hy ka fc;go_wp2_with fail
         go_roundw
         case rel=>exact⟨K,_,by go_num,by omega,hKt,⟨PS.out,PN.out⟩,K3.out,J3.out⟩
         case measure=>simp[intOf];omega
        ·have JX:=Aa en
         clear lx hy en;gi_wp2
         go_wp2_with fail
         exact bodyPost_ret (results_none rfl _ _ _) rfl ⟨⟨_,rfl⟩,.inr ⟨_,trivial,JX.out⟩⟩
      ·have j9:¬(K:Int)<xt:=by omega
       have SM:Hid (dN (bls B) xd xt I=K):=by
        show _=_
        rw[hE.out,gU (by omega)]
       clear d1 d2 dL dS hK ij;go_wp2_with fail
       refine bI (bB 21 []) (by kernel_rfl) (λd _ _ _ _ h=>by cases d<;>exact h) ?_
       iterate 21 (refine aK rfl (λK hK=>?_);go_simp;refine hK _ ?_;clear hK K)
       refine bT ?_;clear x1 x2 xL xI;have e2:=K2.out;have ic:=fK (L:=bls B) (d:=xd) (t:=xt) (i:=I) ae;rw[SM.out]at ic
       have dp:(⟨I,K,xd+1⟩:cY)∈eC (bls B) ⟨xi,xt,xd⟩:=by
        rw[<-hP.out.2,ic];simp
       have ak:pre.length<(eC (bls B) ⟨xi,xt,xd⟩).length:=by
        rw[<-hP.out.2,ic];simp
       have PN:Hid ((pre++[(⟨⟨I,K,xd+1⟩,dp⟩:uI (bls B) ⟨xi,xt,xd⟩)]).map (λy=>y.1)++eN (bls B) xd xt K=eC (bls B) ⟨xi,xt,xd⟩):=by
        have h2:=hP.out.2;rw[ic]at h2;show _=_
        rw[Ap,Am];exact h2
       obtain⟨fn,tmps,assign,body,hy,hR⟩:=HY.out pre ⟨⟨I,K,xd+1⟩,dp⟩ wr.drew J2.out ak;dsimp only[bD0]at hy
       have dz:((xd+1:Nat):Int)=(xd:Int)+1:=by omega
       rw[dz]at hy;have lx:=Aa hR;have PS:Hid (bQ (bls B) ⟨xi,xt,xd⟩<=K):=by have:=hP.out.1;show _<=_;omega
       have d2:=(CELL.out _ K2.out).2.1;have wd:IntKind.i64.wrap ((xd:Int)+1)=(xd+1:Nat):=by simp[Ag,Ah,Ae];omega
       clear ic hR ak e2 hP dz wd;iterate 10 go_step
       refine yB 7 n ?_;gi_wp2
       refine⟨λh=>(by cases h),?_⟩;refine lx.out.mono ?_;rintro e W3 (⟨rfl,ka,fc⟩|⟨rfl,en⟩)
       ·gi_wp2
        have K3:=Aa (K2.out.tr fc);have J3:=Aa ka;clear lx hy ka fc;go_wp2_with fail
        go_roundw
        case rel=>exact⟨K,_,by go_num,by omega,hKt,⟨PS.out,PN.out⟩,K3.out,J3.out⟩
        case measure=>simp[intOf];omega
       ·have JX:=Aa en
        clear lx hy en;gi_wp2
        go_wp2_with fail
        exact bodyPost_ret (results_none rfl _ _ _) rfl ⟨⟨_,rfl⟩,.inr ⟨_,trivial,JX.out⟩⟩
    ·have el:¬(I:Int)<xt:=by omega
     have FIN:Hid (∃xs:List (uI (bls B) ⟨xi,xt,xd⟩),xs.map (·.1)=eC (bls B) ⟨xi,xt,xd⟩/\J xs wr):=by
      refine⟨pre,?_,ij.out⟩;have h:=hP.out.2;rw[gC ae,Aq]at h;exact h
     clear dL dS d2 hK ij hP;go_wp2_with fail
     exact bodyPost_end (results_none rfl _ _ _) rfl ⟨⟨_,rfl⟩,.inl FIN.out⟩
  ·have om:I0=xi:=by
    rw[hI0];unfold bQ gE;rw[if_neg];simp[aq,zv,gJ,hh]
   have nj:((s0.size:Int)==xd)=false:=by
    rw[beq_eq_false_iff_ne];omega
   have HI1:=Aa om;clear hI0 om hh zv i6;go_enter Tryz.func182,Tryz.ntmps182
   go_wp2_with fail
   refine bI (bB 14 []) (by kernel_rfl) (λd _ _ _ _ h=>by cases d<;>exact h) ?_
   iterate 14 (refine aK rfl (λK hK=>?_);go_simp;refine hK _ ?_;clear hK K)
   refine bT ?_;clear z0 z1 z2 zL y0 d0;go_wp2_with fail
   go_loopw [4] (λu wr=>∃(I:Nat) (pre:List (uI (bls B) ⟨xi,xt,xd⟩)),u=.int .i64 I/\xi<=I/\I<=xt/\Hid (bQ (bls B) ⟨xi,xt,xd⟩<=I/\pre.map (·.1)++eN (bls B) xd xt I=eC (bls B) ⟨xi,xt,xd⟩)/\Hid (bH S w wr)/\Hid (J pre wr)) (λu _=>xt-(intOf u).toNat)
   case atStart =>
    refine⟨I0,[],by first|go_num|(rw[HI1.out]),LOOP.out,START.out.1,⟨by rw[START.out.2.1];exact Ad _,?_⟩,KD.out,START.out.2.2⟩
    rw[START.out.2.1];rfl
   case round =>
    clear START KD LOOP ST;obtain⟨I,pre,rfl,hxI,hIt,hP,hK,ij⟩:=hrel;obtain⟨d1,d2,dL,dS⟩:=CELL.out wr hK.out;by_cases ae:I<xt
    ·have el:(I:Int)<xt:=by omega
     obtain⟨sI,m7⟩:∃s,B[I]?=some s:=⟨_,Ab (by omega)⟩;have hdI:xd<(nth (bls B) I).length:=HG.out.start HASC.out (j:=I) hP.out.1 ae;rw[dI m7,gJ]at hdI;have wK:IntKind.i64.wrap ((I:Int)+1)=(I+1:Nat):=by simp[Ag,Ah,Ae];omega
     have KI:=Aa hK.out;have JI:=Aa ij.out;have HSI:=Aa m7;clear dL dS d2 hK ij m7;go_wp2_with fail
     go_loopw [5] (λu wq=>∃(K:Nat),u=.int .i64 K/\I+1<=K/\K<=xt/\Hid (dN (bls B) xd xt I=oX (gM (bls B) xd I) xt K)/\Hid (bH S w wq)/\Hid (J pre wq)) (λu _=>xt-(intOf u).toNat)
     case atStart=>exact⟨I+1,by go_num,Ad _,ae,rfl,KI.out,JI.out⟩
     case round =>
      clear KI JI;obtain⟨K,rfl,hIK,hKt,hE,hK,ij⟩:=hrel;obtain⟨d1,d2,dL,dS⟩:=CELL.out wr hK.out;have x1:∀y:Ext aB wr.drew,y.u.cell? ⟨bx,1,none⟩=some (.int .i64 xt):=aG ((aB.drew wr).cell d1);have x2:∀y:Ext aB wr.drew,y.u.cell? ⟨bx,2,none⟩=some (.int .i64 xd):=aG ((aB.drew wr).cell d2);have xL:∀y:Ext aB wr.drew,y.u.cell? ⟨bL,0,none⟩=some (.slice (some ⟨sb,so,none⟩) B.length c):=aG ((aB.drew wr).cell dL);have xI:∀y:Ext aB wr.drew,y.u.cell? ⟨sb,so+I,none⟩=some (.string sI):=aG ((aB.drew wr).cell (dS I sI HSI.out));have hIl:(I:Int)<B.length:=by omega
      have K2:=Aa (hK.out.tr (bH.drew S wr));have J2:=Aa (hJd.out _ _ ij.out);by_cases ay:K<xt
      ·have j9:(K:Int)<xt:=by omega
       obtain⟨sK,m8⟩:∃s,B[K]?=some s:=⟨_,Ab (by omega)⟩;have hdK:xd<(nth (bls B) K).length:=HG.out.start HASC.out (j:=K) (by have:=hP.out.1;omega) ay;rw[dI m8,gJ]at hdK;have aer:(xd:Int)<sI.size:=by omega
       have aes:(xd:Int)<sK.size:=by omega
       have hKl:(K:Int)<B.length:=by omega
       have xK:∀y:Ext aB wr.drew,y.u.cell? ⟨sb,so+K,none⟩=some (.string sK):=aG ((aB.drew wr).cell (dS K sK m8));have wK2:IntKind.i64.wrap ((K:Int)+1)=(K+1:Nat):=by simp[Ag,Ah,Ae];omega
       by_cases he:sK[xd]=sI[xd]
       ·have hb:((sK[xd].toNat:Int)==sI[xd].toNat)=true:=by rw[he];simp
        have SM:Hid (gM (bls B) xd I K=true):=by
         show _=_
         unfold gM;rw[dI m8,dI HSI.out,oV hdK,oV hdI,he];simp
        clear d1 d2 dL dS m8 he hK ij;go_wp2_with fail
        refine bI (bB 21 []) (by kernel_rfl) (λd _ _ _ _ h=>by cases d<;>exact h) ?_
        iterate 21 (refine aK rfl (λK hK=>?_);go_simp;refine hK _ ?_;clear hK K)
        refine bT ?_;clear x1 x2 xL xI xK;go_wp2_with fail
        go_roundw
        case rel=>exact⟨K+1,by go_num,by omega,ay,by rw[hE.out,pM ay SM.out];exact rfl,K2.out,J2.out⟩
        case measure=>simp[intOf];omega
       ·have hb:((sK[xd].toNat:Int)==sI[xd].toNat)=false:=by
         rw[beq_eq_false_iff_ne];intro h;exact he (UInt8.toNat_inj.1 (by omega))
        have SM:Hid (dN (bls B) xd xt I=K):=by
         show _=_
         rw[hE.out,gU];rintro⟨_,h⟩;unfold gM at h;rw[dI m8,dI HSI.out,oV hdK,oV hdI]at h;simp at h;exact he h
        clear d1 d2 dL dS m8 he hK ij;go_wp2_with fail
        refine bI (bB 21 []) (by kernel_rfl) (λd _ _ _ _ h=>by cases d<;>exact h) ?_
        iterate 21 (refine aK rfl (λK hK=>?_);go_simp;refine hK _ ?_;clear hK K)
        refine bT ?_;clear x1 x2 xL xI xK;have e2:=K2.out;have ic:=fK (L:=bls B) (d:=xd) (t:=xt) (i:=I) ae;rw[SM.out]at ic
        have dp:(⟨I,K,xd+1⟩:cY)∈eC (bls B) ⟨xi,xt,xd⟩:=by
         rw[<-hP.out.2,ic];simp
        have ak:pre.length<(eC (bls B) ⟨xi,xt,xd⟩).length:=by
         rw[<-hP.out.2,ic];simp
        have PN:Hid ((pre++[(⟨⟨I,K,xd+1⟩,dp⟩:uI (bls B) ⟨xi,xt,xd⟩)]).map (λy=>y.1)++eN (bls B) xd xt K=eC (bls B) ⟨xi,xt,xd⟩):=by
         have h2:=hP.out.2;rw[ic]at h2;show _=_
         rw[Ap,Am];exact h2
        obtain⟨fn,tmps,assign,body,hy,hR⟩:=HY.out pre ⟨⟨I,K,xd+1⟩,dp⟩ wr.drew J2.out ak;dsimp only[bD0]at hy
        have dz:((xd+1:Nat):Int)=(xd:Int)+1:=by omega
        rw[dz]at hy;have lx:=Aa hR;have PS:Hid (bQ (bls B) ⟨xi,xt,xd⟩<=K):=by have:=hP.out.1;show _<=_;omega
        have d2:=(CELL.out _ K2.out).2.1;have wd:IntKind.i64.wrap ((xd:Int)+1)=(xd+1:Nat):=by simp[Ag,Ah,Ae];omega
        clear ic hR ak e2 hP dz wd;iterate 10 go_step
        refine yB 7 n ?_;gi_wp2
        refine⟨λh=>(by cases h),?_⟩;refine lx.out.mono ?_;rintro e W3 (⟨rfl,ka,fc⟩|⟨rfl,en⟩)
        ·gi_wp2
         have K3:=Aa (K2.out.tr fc);have J3:=Aa ka;clear lx hy ka fc;go_wp2_with fail
         go_roundw
         case rel=>exact⟨K,_,by go_num,by omega,hKt,⟨PS.out,PN.out⟩,K3.out,J3.out⟩
         case measure=>simp[intOf];omega
        ·have JX:=Aa en
         clear lx hy en;gi_wp2
         go_wp2_with fail
         exact bodyPost_ret (results_none rfl _ _ _) rfl ⟨⟨_,rfl⟩,.inr ⟨_,trivial,JX.out⟩⟩
      ·have j9:¬(K:Int)<xt:=by omega
       have SM:Hid (dN (bls B) xd xt I=K):=by
        show _=_
        rw[hE.out,gU (by omega)]
       clear d1 d2 dL dS hK ij;go_wp2_with fail
       refine bI (bB 21 []) (by kernel_rfl) (λd _ _ _ _ h=>by cases d<;>exact h) ?_
       iterate 21 (refine aK rfl (λK hK=>?_);go_simp;refine hK _ ?_;clear hK K)
       refine bT ?_;clear x1 x2 xL xI;have e2:=K2.out;have ic:=fK (L:=bls B) (d:=xd) (t:=xt) (i:=I) ae;rw[SM.out]at ic
       have dp:(⟨I,K,xd+1⟩:cY)∈eC (bls B) ⟨xi,xt,xd⟩:=by
        rw[<-hP.out.2,ic];simp
       have ak:pre.length<(eC (bls B) ⟨xi,xt,xd⟩).length:=by
        rw[<-hP.out.2,ic];simp
       have PN:Hid ((pre++[(⟨⟨I,K,xd+1⟩,dp⟩:uI (bls B) ⟨xi,xt,xd⟩)]).map (λy=>y.1)++eN (bls B) xd xt K=eC (bls B) ⟨xi,xt,xd⟩):=by
        have h2:=hP.out.2;rw[ic]at h2;show _=_
        rw[Ap,Am];exact h2
       obtain⟨fn,tmps,assign,body,hy,hR⟩:=HY.out pre ⟨⟨I,K,xd+1⟩,dp⟩ wr.drew J2.out ak;dsimp only[bD0]at hy
       have dz:((xd+1:Nat):Int)=(xd:Int)+1:=by omega
       rw[dz]at hy;have lx:=Aa hR;have PS:Hid (bQ (bls B) ⟨xi,xt,xd⟩<=K):=by have:=hP.out.1;show _<=_;omega
       have d2:=(CELL.out _ K2.out).2.1;have wd:IntKind.i64.wrap ((xd:Int)+1)=(xd+1:Nat):=by simp[Ag,Ah,Ae];omega
       clear ic hR ak e2 hP dz wd;iterate 10 go_step
       refine yB 7 n ?_;gi_wp2
       refine⟨λh=>(by cases h),?_⟩;refine lx.out.mono ?_;rintro e W3 (⟨rfl,ka,fc⟩|⟨rfl,en⟩)
       ·gi_wp2
        have K3:=Aa (K2.out.tr fc);have J3:=Aa ka;clear lx hy ka fc;go_wp2_with fail
        go_roundw
        case rel=>exact⟨K,_,by go_num,by omega,hKt,⟨PS.out,PN.out⟩,K3.out,J3.out⟩
        case measure=>simp[intOf];omega
       ·have JX:=Aa en
        clear lx hy en;gi_wp2
        go_wp2_with fail
        exact bodyPost_ret (results_none rfl _ _ _) rfl ⟨⟨_,rfl⟩,.inr ⟨_,trivial,JX.out⟩⟩
    ·have el:¬(I:Int)<xt:=by omega
     have FIN:Hid (∃xs:List (uI (bls B) ⟨xi,xt,xd⟩),xs.map (·.1)=eC (bls B) ⟨xi,xt,xd⟩/\J xs wr):=by
      refine⟨pre,?_,ij.out⟩;have h:=hP.out.2;rw[gC ae,Aq]at h;exact h
     clear dL dS d2 hK ij hP;go_wp2_with fail
     exact bodyPost_end (results_none rfl _ _ _) rfl ⟨⟨_,rfl⟩,.inl FIN.out⟩
end
section
open Go Go.RowKit Go.Shelf
def uN (y:cY):List Value:=[.int .i64 y.i,.int .i64 y.t,.int .i64 y.d]
theorem eY0:eV Tryz.prog 209 208 3 24 uN where
 sl:=Tryz.underlying209
 info:=iK (z:=.agg #[.int .i64 0,.int .i64 0,.int .i64 0]) (by kernel_rfl) rfl
 pos:=by decide
 by1:=by decide
 len _:=rfl
 one x u hu:=by
  simp[uN]at hu;rcases hu with rfl|rfl|rfl<;>rfl
theorem oD0:∃i,Tryz.prog.info? 3=some i/\i.zero=some (.int .i64 0)/\i.size=1/\i.bytes=8:=by
 have h:(Tryz.prog.info? 3).map (λi=>(i.zero,i.size,i.bytes))=some (some (.int .i64 0),1,8):=by kernel_rfl
 cases hi:Tryz.prog.info? 3 with
 | none=>rw[hi]at h;cases h
 | some i =>
  rw[hi]at h;simp only[At,Option.some.injEq,Prod.mk.injEq]at h;exact⟨i,rfl,h.1,h.2.1,h.2.2⟩
theorem rU0 (n:Nat) (W:World) (hn:n<=1048576):(Instr.makeSlice 109 (.int .i64 n) (.int .i64 n)).run Tryz.prog W=.ok (.slice (some ⟨W.heap.size,0,none⟩) n n) (W.alloc (.cells (madeCells #[.int .i64 0] (n*1)) 3)):=by
 obtain⟨i,h1,h2,h3,h4⟩:=oD0;have h:=run_make (P:=Tryz.prog) W 109 3 i (.int .i64 0) Tryz.underlying109 h1 h2 .i64 .i64 n n (by omega) (Az _) (by rw[h4];omega) (by omega);rw[An,h3]at h;exact h
theorem zF {w:World} {n:Nat} (hn:n<=1048576):aT (w.alloc (.cells (madeCells #[.int .i64 0] (n*1)) 3)) w.heap.size 3 1 fI (.slice (some ⟨w.heap.size,0,none⟩) n n) (Ac n 0) :=
 fZ (enc:=fI) (λ_=>rfl) (Ad _) (Ac n 0) (by
  rw[toList_madeCells_one,Ak];unfold fI;rw[kN,Ar];rfl) (by simp) (by unfold maxLen;omega)
def cP0:Obj->Option TypeId
 | .cells _ t _=>some t
 | _=>none
def RT (w:World) (row:Option Nat) (τ:Option TypeId):Prop:=∀q,row=some q->∃o,w.heap[q]?=some o/\cP0 o=τ
theorem RT.none (w:World) (τ:Option TypeId):RT w none τ:=λq h=>by cases h
theorem RT.own {α:Type} {w:World} {base:Nat} {e:TypeId} {k:Nat} {enc:α->List Value} {v:Value} {xs:List α} (h:aT w base e k enc v xs):RT w v.ownBlock (some e):=λq hq=>by
 rcases h.2 with ⟨rfl,_⟩|⟨g,cap,b9,rfl,_,hh,_⟩
 ·cases hq
 ·have:g=q:=Option.some.inj hq
  subst this;exact⟨_,hh,rfl⟩
def TB (w:World) (b:Nat) (cs:Array Value) (t:TypeId):Prop:=w.heap[b]?=some (.cells cs t (0,0))
theorem TB.lt {w:World} {b:Nat} {cs:Array Value} {t:TypeId} (h:TB w b cs t):b<w.heap.size:=(Array.getElem?_eq_some_iff.1 h).1
theorem TB.rt {w:World} {b:Nat} {cs:Array Value} {t:TypeId} (h:TB w b cs t):RT w (some b) (some t):=λq hq=>by cases hq; exact⟨_,h,rfl⟩
theorem TB.cell {w:World} {b:Nat} {cs:Array Value} {t:TypeId} (h:TB w b cs t) {o:Nat} {v:Value} (hv:cs[o]?=some v):w.cell? ⟨b,o,none⟩=some v:=by
 unfold TB at h;simp[Ax,h,hv]
theorem TB.froz {w:World} {b:Nat} {cs:Array Value} {t:TypeId} (h:TB w b cs t) (o:Nat):w.frozen? ⟨b,o,none⟩=false:=by
 unfold TB at h;simp[World.frozen?,h]
theorem TB.keep {w w':World} {b:Nat} {cs:Array Value} {t:TypeId} {row:Option Nat} {τ:Option TypeId} (h:TB w b cs t) (hg:w.grownBy w' row) (hr:RT w row τ) (aq:τ≠some t):TB w' b cs t:=by
 unfold TB at *;rw[hg.block b (TB.lt h) (λe=>?_)]
 ·exact h
 ·obtain⟨o,h1,h2⟩:=hr b e.symm
  rw[h]at h1;cases h1
  exact aq h2.symm
theorem TB.set {w:World} {b:Nat} {cs:Array Value} {t:TypeId} (h:TB w b cs t) (o:Nat) (v:Value):TB (w.setCell ⟨b,o,none⟩ v) b (cs.setIfInBounds o v) t:=heap_setCell_same w b o cs t v h
theorem TB.alloc (w:World) (cs:Array Value) (t:TypeId):TB (w.alloc (.cells cs t)) w.heap.size cs t:=by
 show (w.heap.push _)[w.heap.size]?=_
 simp
theorem bG (W:World) (b o:Nat) (v:Value):W.grownBy (W.setCell ⟨b,o,none⟩ v) (some b) :=
 ⟨rfl,rfl,rfl,by simp,λk _ hk=>Below.heap_setCell _ _ _ k (λe=>hk (by rw[e]))⟩
theorem aJ {α:Type} {w w':World} {base:Nat} {e:TypeId} {k:Nat} {enc:α->List Value} {u:Value} {ys:List α} {row:Option Nat} {τ:Option TypeId} (h:aT w base e k enc u ys) (hg:w.grownBy w' row) (hr:RT w row τ) (aq:τ≠some e):aT w' base e k enc u ys:=by
 refine tE h hg ?_
 cases hu:u.ownBlock with
 | none=>exact Or.inl rfl
 | some q =>
  refine Or.inr λhv=>?_;obtain⟨o,h1,h2⟩:=hr q hv.symm;obtain⟨o',h3,h4⟩:=RT.own h q hu;rw[h1]at h3;cases h3
  exact aq (h2.symm.trans h4)
structure BD where
 vS:Value
 vA:Value
 vL:Value
 vI:Value
 vD:Value
 sh:List Bool
 al:List cY
 lab:List UInt8
 isl:List Bool
 idl:List Nat
 nd:List Nat
structure Bst (w0 wr:World) (s n:Nat) (lv:Value) (d:BD):Prop where
 b1:TB wr s #[lv] 65
 b4:TB wr (s+3) #[.pointer (some ⟨s+2,0,none⟩)] 100
 b2:TB wr (s+2) #[.pointer none,.pointer none,d.vL,.pointer none,.slice (some ⟨s+1,0,none⟩) n n] 204
 b6:TB wr (s+5) #[d.vS] 205
 b8:TB wr (s+7) #[d.vA] 209
 oL:aT wr s 5 1 aQ d.vL d.lab
 oN:aT wr s 3 1 fI (.slice (some ⟨s+1,0,none⟩) n n) d.nd
 oS:aT wr s 4 1 mT d.vS d.sh
 oA:aT wr s 208 3 uN d.vA d.al
 oI:aT wr s 4 1 mT d.vI d.isl
 oD:aT wr s 213 1 gT d.vD d.idl
 ap:lG d.vS d.vI
 gr:aB w0 wr
 s0:s=w0.heap.size
theorem Bst.keep {w0 wr w':World} {s n:Nat} {lv:Value} {d:BD} (h:Bst w0 wr s n lv d) {row:Option Nat} {τ:Option TypeId} (hg:wr.grownBy w' row) (hr:RT wr row τ) (hs:∀q,row=some q->s<=q)
  (hτ:∀t∈[65,100,204,205,209,5,3,4,213],τ≠some t) (hA:aT w' s 208 3 uN d.vA d.al):Bst w0 w' s n lv d where
 b1:=h.b1.keep hg hr (hτ _ (by simp))
 b4:=h.b4.keep hg hr (hτ _ (by simp))
 b2:=h.b2.keep hg hr (hτ _ (by simp))
 b6:=h.b6.keep hg hr (hτ _ (by simp))
 b8:=h.b8.keep hg hr (hτ _ (by simp))
 oL:=aJ h.oL hg hr (hτ _ (by simp))
 oN:=aJ h.oN hg hr (hτ _ (by simp))
 oS:=aJ h.oS hg hr (hτ _ (by simp))
 oA:=hA
 oI:=aJ h.oI hg hr (hτ _ (by simp))
 oD:=aJ h.oD hg hr (hτ _ (by simp))
 ap:=h.ap
 gr:=h.gr.grown hg (λq hq=>by rw[<-h.s0];exact hs q hq)
 s0:=h.s0
theorem Bst.other {w0 wr w':World} {s n:Nat} {lv:Value} {d:BD} (h:Bst w0 wr s n lv d) {row:Option Nat} (hg:wr.grownBy w' row) (hr:RT wr row none) (hs:∀q,row=some q->s<=q):Bst w0 w' s n lv d :=
 h.keep hg hr hs (λt _=>by simp) (aJ h.oA hg hr (by simp))
theorem Bst.al {w0 wr:World} {s n:Nat} {lv:Value} {d:BD} (h:Bst w0 wr s n lv d) (o:Obj):Bst w0 (wr.alloc o) s n lv d:=h.other (Al _ _ none) (RT.none _ _) (λq e=>by cases e)
theorem Bst.dr {w0 wr:World} {s n:Nat} {lv:Value} {d:BD} (h:Bst w0 wr s n lv d):Bst w0 wr.drew s n lv d:=h.other (row:=none) ⟨rfl,rfl,rfl,Ad _,λ_ _ _=>rfl⟩ (RT.none _ _) (λq e=>by cases e)
theorem Bst.pushS {w0 wr w':World} {s n:Nat} {lv:Value} {d:BD} (h:Bst w0 wr s n lv d) {v:Value} {sh:List Bool} (ho:aT w' s 4 1 mT v sh) (hg:wr.grownBy w' d.vS.ownBlock) (hf:pZ wr d.vS v) :
  Bst w0 (w'.setCell ⟨s+5,0,none⟩ v) s n lv { d with vS:=v,sh:=sh }:=by
 have hr:=RT.own h.oS;have hsr:∀q,d.vS.ownBlock=some q->s<=q:=λq hq=>aV h.oS q hq;have k6:=h.b6.keep hg hr (by decide);have ah:=bG w' (s+5) 0 v;have cd:=k6.rt
 refine⟨(h.b1.keep hg hr (by decide)).keep ah cd (by decide),(h.b4.keep hg hr (by decide)).keep ah cd (by decide),(h.b2.keep hg hr (by decide)).keep ah cd (by decide),?_,(h.b8.keep hg hr (by decide)).keep ah cd (by decide),
  aJ (aJ h.oL hg hr (by decide)) ah cd (by decide),aJ (aJ h.oN hg hr (by decide)) ah cd (by decide),aJ ho ah cd (by decide),aJ (aJ h.oA hg hr (by decide)) ah cd (by decide),
  aJ (eW h.oI hg h.ap) ah cd (by decide),aJ (aJ h.oD hg hr (by decide)) ah cd (by decide),h.ap.fresh (eY h.oI) hf,(h.gr.grown hg (λq hq=>by rw[<-h.s0];exact hsr q hq)).set (by rw[<-h.s0];simp) _,h.s0⟩
 have:=k6.set 0 v
 simpa using this
theorem Bst.pushL {w0 wr w':World} {s n:Nat} {lv:Value} {d:BD} (h:Bst w0 wr s n lv d) {v:Value} {l:List UInt8} (ho:aT w' s 5 1 aQ v l) (hg:wr.grownBy w' d.vL.ownBlock) :
  Bst w0 (w'.setCell ⟨s+2,2,none⟩ v) s n lv { d with vL:=v,lab:=l }:=by
 have hr:=RT.own h.oL;have hsr:∀q,d.vL.ownBlock=some q->s<=q:=λq hq=>aV h.oL q hq;have k2:=h.b2.keep hg hr (by decide);have ah:=bG w' (s+2) 2 v;have cd:=k2.rt
 refine⟨(h.b1.keep hg hr (by decide)).keep ah cd (by decide),(h.b4.keep hg hr (by decide)).keep ah cd (by decide),?_,(h.b6.keep hg hr (by decide)).keep ah cd (by decide),(h.b8.keep hg hr (by decide)).keep ah cd (by decide),
  aJ ho ah cd (by decide),aJ (aJ h.oN hg hr (by decide)) ah cd (by decide),aJ (aJ h.oS hg hr (by decide)) ah cd (by decide),aJ (aJ h.oA hg hr (by decide)) ah cd (by decide),
  aJ (aJ h.oI hg hr (by decide)) ah cd (by decide),aJ (aJ h.oD hg hr (by decide)) ah cd (by decide),h.ap,(h.gr.grown hg (λq hq=>by rw[<-h.s0];exact hsr q hq)).set (by rw[<-h.s0];simp) _,h.s0⟩
 have:=k2.set 2 v
 simpa using this
theorem Bst.pushA {w0 wr w':World} {s n:Nat} {lv:Value} {d:BD} (h:Bst w0 wr s n lv d) {v:Value} {l:List cY} (ho:aT w' s 208 3 uN v l) (hg:wr.grownBy w' d.vA.ownBlock) :
  Bst w0 (w'.setCell ⟨s+7,0,none⟩ v) s n lv { d with vA:=v,al:=l }:=by
 have hr:=RT.own h.oA;have hsr:∀q,d.vA.ownBlock=some q->s<=q:=λq hq=>aV h.oA q hq;have k8:=h.b8.keep hg hr (by decide);have ah:=bG w' (s+7) 0 v;have cd:=k8.rt
 refine⟨(h.b1.keep hg hr (by decide)).keep ah cd (by decide),(h.b4.keep hg hr (by decide)).keep ah cd (by decide),(h.b2.keep hg hr (by decide)).keep ah cd (by decide),(h.b6.keep hg hr (by decide)).keep ah cd (by decide),?_,
  aJ (aJ h.oL hg hr (by decide)) ah cd (by decide),aJ (aJ h.oN hg hr (by decide)) ah cd (by decide),aJ (aJ h.oS hg hr (by decide)) ah cd (by decide),aJ ho ah cd (by decide),
  aJ (aJ h.oI hg hr (by decide)) ah cd (by decide),aJ (aJ h.oD hg hr (by decide)) ah cd (by decide),h.ap,(h.gr.grown hg (λq hq=>by rw[<-h.s0];exact hsr q hq)).set (by rw[<-h.s0];simp) _,h.s0⟩
 have:=k8.set 0 v
 simpa using this
theorem Bst.pushI {w0 wr w':World} {s n:Nat} {lv:Value} {d:BD} (h:Bst w0 wr s n lv d) {v:Value} {l:List Bool} (ho:aT w' s 4 1 mT v l) (hg:wr.grownBy w' d.vI.ownBlock) (hf:pZ wr d.vI v) :
  Bst w0 w' s n lv { d with vI:=v,isl:=l }:=by
 have hr:=RT.own h.oI
 exact⟨h.b1.keep hg hr (by decide),h.b4.keep hg hr (by decide),h.b2.keep hg hr (by decide),h.b6.keep hg hr (by decide),h.b8.keep hg hr (by decide),aJ h.oL hg hr (by decide),aJ h.oN hg hr (by decide),eW h.oS hg h.ap.symm,aJ h.oA hg hr (by decide),
  ho,aJ h.oD hg hr (by decide),(h.ap.symm.fresh (eY h.oS) hf).symm,h.gr.grown hg (λq hq=>by rw[<-h.s0];exact aV h.oI q hq),h.s0⟩
theorem Bst.pushD {w0 wr w':World} {s n:Nat} {lv:Value} {d:BD} (h:Bst w0 wr s n lv d) {v:Value} {l:List Nat} (ho:aT w' s 213 1 gT v l) (hg:wr.grownBy w' d.vD.ownBlock) :
  Bst w0 w' s n lv { d with vD:=v,idl:=l }:=by
 have hr:=RT.own h.oD
 exact⟨h.b1.keep hg hr (by decide),h.b4.keep hg hr (by decide),h.b2.keep hg hr (by decide),h.b6.keep hg hr (by decide),h.b8.keep hg hr (by decide),aJ h.oL hg hr (by decide),aJ h.oN hg hr (by decide),aJ h.oS hg hr (by decide),aJ h.oA hg hr (by decide),
  aJ h.oI hg hr (by decide),ho,h.ap,h.gr.grown hg (λq hq=>by rw[<-h.s0];exact aV h.oD q hq),h.s0⟩
theorem Bst.setN {w0 wr:World} {s n:Nat} {lv:Value} {d:BD} (h:Bst w0 wr s n lv d) {j:Nat} (hj:j<d.nd.length) (y:Nat) :
  wr.frozen? ⟨s+1,j,none⟩=false/\Bst w0 (wr.setCell ⟨s+1,j,none⟩ (.int .i64 y)) s n lv { d with nd:=d.nd.set j y }:=by
 obtain⟨h1,_,h3⟩:=dJ (f:=λn:Nat=>Value.int .i64 n) h.oN hj y;have hg:=bG wr (s+1) j (.int .i64 y);have hr:RT wr (some (s+1)) (some 3):=RT.own h.oN
 refine⟨h1,h.b1.keep hg hr (by decide),h.b4.keep hg hr (by decide),h.b2.keep hg hr (by decide),h.b6.keep hg hr (by decide),h.b8.keep hg hr (by decide),aJ h.oL hg hr (by decide),h3,aJ h.oS hg hr (by decide),aJ h.oA hg hr (by decide),
  aJ h.oI hg hr (by decide),aJ h.oD hg hr (by decide),h.ap,h.gr.set (by rw[<-h.s0];simp) _,h.s0⟩
end
section
open Go Go.RowKit Go.Shelf
attribute [local go_sem] aM aO
structure GB (w0 w:World) (vP vD vS:Value) (P D:List Nat) (S:List ByteArray):Prop where
 p:aT w w0.heap.size 3 1 fI vP P
 d:aT w w0.heap.size 3 1 fI vD D
 s:aT w w0.heap.size 9 1 stC vS S
 pd:lG vP vD
 ps:lG vP vS
 ds:lG vD vS
 g:aB w0 w
section
variable {w0 w w':World} {vP vD vS v':Value} {P D P' D':List Nat} {S:List ByteArray}
theorem GB.grows (h:GB w0 w vP vD vS P D S) (hg:aB w w'):GB w0 w' vP vD vS P D S:=⟨h.p.grows hg,h.d.grows hg,h.s.grows hg,h.pd,h.ps,h.ds,h.g.tr hg⟩
theorem GB.appP (h:GB w0 w vP vD vS P D S) (ho:aT w' w0.heap.size 3 1 fI v' P') (hk:w.grownBy w' vP.ownBlock) (hf:pZ w vP v'):GB w0 w' v' vD vS P' D S :=
 ⟨ho,eW h.d hk h.pd,eW h.s hk h.ps,h.pd.fresh (eY h.d) hf,h.ps.fresh (eY h.s) hf,h.ds,h.g.grown hk (aV h.p)⟩
theorem GB.appD (h:GB w0 w vP vD vS P D S) (ho:aT w' w0.heap.size 3 1 fI v' D') (hk:w.grownBy w' vD.ownBlock) (hf:pZ w vD v'):GB w0 w' vP v' vS P D' S :=
 ⟨eW h.p hk h.pd.symm,ho,eW h.s hk h.ds,(h.pd.symm.fresh (eY h.p) hf).symm,h.ps,h.ds.fresh (eY h.s) hf,h.g.grown hk (aV h.d)⟩
theorem GB.ebP (h:GB w0 w vP vD vS P D S) (hk:w.grownBy w' vP.ownBlock):EB w0.heap.size w w' :=
 ⟨Below.grown (Below.refl _ _) hk h.g.size (aV h.p),hk.size⟩
theorem GB.ebD (h:GB w0 w vP vD vS P D S) (hk:w.grownBy w' vD.ownBlock):EB w0.heap.size w w' :=
 ⟨Below.grown (Below.refl _ _) hk h.g.size (aV h.d),hk.size⟩
theorem GB.newD (h:GB w0 w vP vD vS P D S):some w.heap.size≠vD.ownBlock:=λe=>Ba _ (eY h.d _ e.symm)
theorem GB.newP (h:GB w0 w vP vD vS P D S):some w.heap.size≠vP.ownBlock:=λe=>Ba _ (eY h.p _ e.symm)
theorem GB.setS {lb n c k:Nat} (h:GB w0 w vP vD (.slice (some ⟨lb,0,none⟩) n c) P D S) (hk:k<S.length) (y:ByteArray):w.frozen? ⟨lb,k,none⟩=false/\GB w0 (w.setCell ⟨lb,k,none⟩ (.string y)) vP vD (.slice (some ⟨lb,0,none⟩) n c) P D (S.set k y):=by
 obtain⟨h1,h2,h3⟩:=dJ (f:=λs:ByteArray=>Value.string s) h.s hk y;have hg:=(aB.refl w).grownBy_set lb k (.string y);exact⟨h1,eW (v:=.slice (some ⟨lb,0,none⟩) n c) h.p hg h.ps.symm,eW (v:=.slice (some ⟨lb,0,none⟩) n c) h.d hg h.ds.symm,h3,h.pd,h.ps,h.ds,h.g.set (show w0.heap.size<=lb from h2) _⟩
end
theorem yM0 (n:Nat) (W:World) (h1:1<=n) (hn:n<=1048576):(Instr.makeSlice 109 (.int .i64 1) (.int .i64 n)).run Tryz.prog W=.ok (.slice (some ⟨W.heap.size,0,none⟩) 1 n) (W.alloc (.cells (madeCells #[.int .i64 0] (n*1)) 3)):=by
 obtain⟨i,h1,h2,h3,h4⟩:=oD0;have h:=run_make (P:=Tryz.prog) W 109 3 i (.int .i64 0) Tryz.underlying109 h1 h2 .i64 .i64 1 n (by omega) (by omega) (by rw[h4];omega) (by omega);rw[An,h3]at h;exact h
theorem rS0 {w:World} {n:Nat} (h1:1<=n) (hn:n<=1048576):aT (w.alloc (.cells (madeCells #[.int .i64 0] (n*1)) 3)) w.heap.size 3 1 fI (.slice (some ⟨w.heap.size,0,none⟩) 1 n) [0]:=by
 refine⟨rfl,Or.inr ⟨w.heap.size,n,madeCells #[.int .i64 0] (n*1),rfl,Ad _,?_,h1,by unfold maxLen;omega,by rw[size_madeCells],?_⟩⟩
 ·show (w.heap.push _)[w.heap.size]?=_
  simp
 ·rw[toList_madeCells_one,List.take_replicate,show min (([0]:List Nat).length*1) (n*1)=1 by simp;omega]
  rfl
theorem xB0:∃i,Tryz.prog.info? 9=some i/\i.zero=some (.string ⟨#[]⟩)/\i.size=1/\i.bytes=16:=by
 have h:(Tryz.prog.info? 9).map (λi=>(i.zero,i.size,i.bytes))=some (some (.string ⟨#[]⟩),1,16):=by kernel_rfl
 cases hi:Tryz.prog.info? 9 with
 | none=>rw[hi]at h;cases h
 | some i =>
  rw[hi]at h;simp only[At,Option.some.injEq,Prod.mk.injEq]at h;exact⟨i,rfl,h.1,h.2.1,h.2.2⟩
theorem zE0 (n:Nat) (W:World) (hn:n<=1048576):(Instr.makeSlice 65 (.int .i64 n) (.int .i64 n)).run Tryz.prog W=.ok (.slice (some ⟨W.heap.size,0,none⟩) n n) (W.alloc (.cells (madeCells #[.string ⟨#[]⟩] (n*1)) 9)):=by
 obtain⟨i,h1,h2,h3,h4⟩:=xB0;have h:=run_make (P:=Tryz.prog) W 65 9 i (.string ⟨#[]⟩) Tryz.underlying65 h1 h2 .i64 .i64 n n (by omega) (Az _) (by rw[h4];omega) (by omega);rw[An,h3]at h;exact h
theorem uO0 {w:World} {n:Nat} (hn:n<=1048576):aT (w.alloc (.cells (madeCells #[.string ⟨#[]⟩] (n*1)) 9)) w.heap.size 9 1 stC (.slice (some ⟨w.heap.size,0,none⟩) n n) (Ac n ⟨#[]⟩) :=
 fZ (enc:=stC) (λ_=>rfl) (Ad _) (Ac n ⟨#[]⟩) (by
  rw[toList_madeCells_one,Ak];unfold stC;rw[kN,Ar]) (by simp) (by unfold maxLen;omega)
theorem yO0:∃i,Tryz.prog.info? 5=some i/\i.zero=some (.int .u8 0)/\i.size=1/\i.bytes=1:=by
 have h:(Tryz.prog.info? 5).map (λi=>(i.zero,i.size,i.bytes))=some (some (.int .u8 0),1,1):=by kernel_rfl
 cases hi:Tryz.prog.info? 5 with
 | none=>rw[hi]at h;cases h
 | some i =>
  rw[hi]at h;simp only[At,Option.some.injEq,Prod.mk.injEq]at h;exact⟨i,rfl,h.1,h.2.1,h.2.2⟩
theorem zU0 (n:Nat) (W:World) (hn:n<=1048576):(Instr.makeSlice 28 (.int .i64 n) (.int .i64 n)).run Tryz.prog W=.ok (.slice (some ⟨W.heap.size,0,none⟩) n n) (W.alloc (.cells (madeCells #[.int .u8 0] (n*1)) 5)):=by
 obtain⟨i,h1,h2,h3,h4⟩:=yO0;have h:=run_make (P:=Tryz.prog) W 28 5 i (.int .u8 0) Tryz.underlying28 h1 h2 .i64 .i64 n n (by omega) (Az _) (by rw[h4];omega) (by omega);rw[An,h3]at h;exact h
theorem yH0 {w:World} {n:Nat} (hn:n<=1048576):aT (w.alloc (.cells (madeCells #[.int .u8 0] (n*1)) 5)) w.heap.size 5 1 aQ (.slice (some ⟨w.heap.size,0,none⟩) n n) (Ac n 0) :=
 fZ (enc:=aQ) (λ_=>rfl) (Ad _) (Ac n 0) (by
  rw[toList_madeCells_one,Ak];unfold aQ;rw[kN,Ar];rfl) (by simp) (by unfold maxLen;omega)
theorem OkL.ids_len {L:List (List UInt8)} (h:OkL L):(idsL L (nodesA L)).length=L.length:=by
 have hm:∀n∈idsL L (nodesA L),n<L.length:=λn hn=>by
  unfold idsL at hn;obtain⟨x,hx,rfl⟩:=List.mem_map.1 hn;have hh:=(List.mem_filter.1 hx).2;have hg:=kC h.asc (List.mem_filter.1 hx).1;unfold gE at hh;simp only[Bool.and_eq_true,decide_eq_true_eq]at hh
  have:=hg.le
  omega
 have hn:(idsL L (nodesA L)).Nodup:=by
  unfold idsL;rw[List.nodup_iff_pairwise_ne,List.pairwise_map]
  have hp:((nodesA L).filter (gE L)).Pairwise (λx y=>x∈nodesA L/\y∈nodesA L/\gE L x=true/\gE L y=true/\hH0 x y):=by
   have h1:=(jM h.asc).filter (gE L);refine List.Pairwise.imp_of_mem (λ{a b} ha hb j7=>?_) h1;exact⟨(List.mem_filter.1 ha).1,(List.mem_filter.1 hb).1,(List.mem_filter.1 ha).2,(List.mem_filter.1 hb).2,j7⟩
  refine hp.imp λ{x y} ⟨hx,hy,h1,h2,hb⟩ e=>?_;have gx:=kC h.asc hx;have gy:=kC h.asc hy;have a:=(mI h.asc gx h.pos x.i).2 ⟨h1,rfl⟩;have b:=(mI h.asc gy h.pos y.i).2 ⟨h2,rfl⟩;rw[e,b]at a
  have:=gy.inj h.asc gx (Option.some.inj a)
  subst this;rcases hb with hb|hb<;>omega
 have h1:=cE hn (l':=List.range L.length) λn hx=>List.mem_range.2 (hm n hx)
 have h2:=cE (List.nodup_range (n:=L.length)) (l':=idsL L (nodesA L)) λj hj=>by
  obtain⟨i,x,hx,hh,qq⟩:=h.node (List.mem_range.1 hj);unfold idsL;exact List.mem_map.2 ⟨x,List.mem_filter.2 ⟨Aj hx,hh⟩,qq⟩
 rw[List.length_range]at h1 h2;omega
end
section
open Go Go.RowKit Go.Shelf
attribute [local go_sem] aM aO
theorem rC0 (L:List (List UInt8)) (sb ib pb:Nat) (la:Option Addr) (lc:Nat) (w:World) (au:OkL L) (hl:L.length<=20000) (hc:fG L<=524287)
  (hs:gP w sb (shapeL L (nodesA L))) (hi:gP w ib (isL L (nodesA L))) (hd:cH0 w pb (idsL L (nodesA L))) (kp:aF w la 1 ((labelsL L (nodesA L)).map aQ)) :
  Calls Tryz.prog 151 #[.pointer (some ⟨sb,0,none⟩),.pointer (some ⟨ib,0,none⟩),.slice la (labelsL L (nodesA L)).length lc,.pointer (some ⟨pb,0,none⟩)] w λe w'=>∃v,e=.returned (.tuple #[v,.bool true])/\aT w' w.heap.size 9 1 stC v (L.map mkB)/\aB w w':=by
 obtain⟨z1,z2,z3,z4,z5⟩:=au.sizes hl hc;have u9:(isL L (nodesA L)).length=(nodesA L).length:=by unfold isL;rw[Au]
 have wc:(shapeL L (nodesA L)).length=2*(nodesA L).length+1:=by
  have h:=dU L (nodesA L).length (Ad _);rw[Ay,au.off_all]at h;omega
 have jc:1<=(nodesA L).length:=(List.getElem?_eq_some_iff.1 au.root0).1;have pv:(labelsL L (nodesA L)).length+1=(nodesA L).length:=by rw[au.labels,Au,List.length_drop];omega
 have hrk:cZ (isL L (nodesA L)) (nodesA L).length=L.length:=by
  rw[yO L _ _ (Ad _),Ay,<-au.ids_len];unfold idsL;rw[Au]
 have jo:(nodesA L).length<=524287:=by rw[fW au.asc au.len];exact hc
 have iy:∀m∈idsL L (nodesA L),m<18446744073709551616:=λm hm=>by have:=z5 m hm;omega
 obtain⟨n,hn⟩:=exq ((nodesA L).length);obtain⟨NL,hNL⟩:=exq L.length;obtain⟨M2,hM2⟩:=exq (2*n+1);obtain⟨LL,hLL⟩:=exq ((labelsL L (nodesA L)).length)
 have CIL:∀u,aB w u->Hid (Calls Tryz.prog 186 #[.pointer (some ⟨ib,0,none⟩)] u λe w'=>e=.returned (.int .i64 n)/\u=w'):=λu hu=>by
  have h:=nY _ ib u (hi.grows hu);rw[u9,<-hn]at h;exact h
 have CSL:∀u,aB w u->Hid (Calls Tryz.prog 186 #[.pointer (some ⟨sb,0,none⟩)] u λe w'=>e=.returned (.int .i64 M2)/\u=w'):=λu hu=>by
  have h:=nY _ sb u (hs.grows hu);rw[wc,<-hn,<-hM2]at h;exact h
 have CRK:∀u,aB w u->Hid (Calls Tryz.prog 123 #[.pointer (some ⟨ib,0,none⟩),.bool true,.int .i64 n] u λe w'=>e=.returned (.int .i64 NL)/\u=w'):=λu hu=>by
  have h:=rR (isL L (nodesA L)) ib true n u (by omega) (by omega) (hi.grows hu);rw[u9,<-hn,Nat.min_self,show gG (isL L (nodesA L)) true n=cZ (isL L (nodesA L)) n from rfl,hn,hrk,<-hn,<-hNL]at h;exact h
 have CDL:∀u,aB w u->Hid (Calls Tryz.prog 152 #[.pointer (some ⟨pb,0,none⟩)] u λe w'=>e=.returned (.int .i64 NL)/\u=w'):=λu hu=>by
  have h:=oR _ pb u (hd.grows hu);rw[au.ids_len,<-hNL]at h;exact h
 have CG:∀i u,aB w u->Hid (Calls Tryz.prog 213 #[.pointer (some ⟨sb,0,none⟩),.int .i64 (i:Nat)] u λe w'=>e=.returned (.bool (bitOf (shapeL L (nodesA L)) i))/\u=w'):=λi u hu=>gF0 _ sb i u (by omega) (hs.grows hu)
 have CI:∀i x u,(nodesA L)[i]?=some x->aB w u->Hid (Calls Tryz.prog 213 #[.pointer (some ⟨ib,0,none⟩),.int .i64 (i:Nat)] u λe w'=>e=.returned (.bool (gE L x))/\u=w'):=λi x u hx hu=>by
  have h:=gF0 _ ib i u (by omega) (hi.grows hu);rw[dK0 hx]at h;exact h
 have CP:∀k x u,(idsL L (nodesA L))[k]?=some x->aB w u->Hid (Calls Tryz.prog 153 #[.pointer (some ⟨pb,0,none⟩),.int .i64 (k:Nat)] u λe w'=>e=.returned (.tuple #[.int .u64 (x:Nat),.bool true])/\aB u w'):=λk x u hx hu=>aT0 _ pb k x u (hd.grows hu) (by omega) iy hx;have C0:Hid (Calls Tryz.prog 213 #[.pointer (some ⟨sb,0,none⟩),.int .i64 0] w λe w'=>e=.returned (.bool true)/\w=w'):=(CG 0 w (aB.refl w)).out;have C1:Hid (Calls Tryz.prog 213 #[.pointer (some ⟨sb,0,none⟩),.int .i64 1] w λe w'=>e=.returned (.bool false)/\w=w'):=(CG 1 w (aB.refl w)).out;have HOK:=Aa au;have HLAB:=Aa kp;have HN:=Aa hn;have HNL:=Aa hNL;have HLL:=Aa hLL;have hLn:LL+1=n:=by omega
 have agk:n<=524287:=by omega
 have ab3:1<=n:=by omega
 have agl:NL<=20000:=by omega
 have HCG:=Aa CG;have HCI:=Aa CI;have HCP:=Aa CP;have d1:¬(524287:Int)<n:=by omega
 have d2:IntKind.i64.wrap ((n:Int)*2)=((n:Int)*2):=by have:=mS (x:=n*2) (by omega);rw[Int.natCast_mul]at this;exact this
 have d3:((M2:Int) != 2*(n:Int)+1)=false:=by simp;omega
 have d4:IntKind.i64.wrap ((n:Int)-1)=LL:=by have:=mS (x:=LL) (by omega);rw[<-this];congr 1;omega
 have d6:((LL:Int) != LL)=false:=by simp
 have d7:((NL:Int) != NL)=false:=by simp
 have d5:¬(20000:Int)<NL:=by omega
 rw[<-hLL];clear au kp hn hNL hLL z1 z2 z3 z4 z5 u9 wc jc pv hrk jo iy hs hi hd CG CI CP hM2 hl hc;go_enter Tryz.func151,Tryz.ntmps151
 go_wp2_with fail
 refine(CIL w (aB.refl w)).out.mono ?_;rintro e w1 ⟨rfl,rfl⟩;go_wp2_with fail
 refine(CSL w (aB.refl w)).out.mono ?_;rintro e w2 ⟨rfl,rfl⟩;go_wp2_with fail
 refine(CRK w (aB.refl w)).out.mono ?_;rintro e w3 ⟨rfl,rfl⟩;go_wp2_with fail
 refine(CDL w (aB.refl w)).out.mono ?_;rintro e w4 ⟨rfl,rfl⟩;go_wp2_with fail
 refine(CDL w (aB.refl w)).out.mono ?_;rintro e w5 ⟨rfl,rfl⟩;go_wp2_with fail
 refine C0.out.mono ?_;rintro e w6 ⟨rfl,rfl⟩;go_wp2_with fail
 refine C1.out.mono ?_;rintro e w7 ⟨rfl,rfl⟩;clear C0 C1 CSL CIL CRK d1 d2 d3 d4 d5 d6 d7;go_wp2_with fail
 have iw:=λ(Y:World)=>yM0 n Y ab3 (by omega);refine tY0 (EB w.heap.size) (.quiet 0 (.quiet 2 (.alt (.late 1 (.quiet 4 (.late 3 (.quiet 5 .done)))) (.late 3 (.late 1 (.quiet 4 (.quiet 5 .done))))))) (λ(x:Nat×Nat)=>[(some 62,.int .i64 n),(some 63,.slice (some ⟨x.1,0,none⟩) 1 n),(some 64,.int .i64 n),(some 65,.slice (some ⟨x.2,0,none⟩) 1 n),(some 11,.slice (some ⟨x.1,0,none⟩) 1 n),(some 12,.slice (some ⟨x.2,0,none⟩) 1 n)]) (λ(x:Nat×Nat) w'=>GB w w' (.slice (some ⟨x.1,0,none⟩) 1 n) (.slice (some ⟨x.2,0,none⟩) 1 n) (.slice none 0 0) [0] [0] []) (EB.refl w.heap.size) (EB.trans w.heap.size) (by kernel_rfl) (by kernel_rfl) (λd _ _ _ _ h=>by cases d<;>exact h) ?_ ?_
 ·have io:=aB.drew w
  have mw:w.heap.size<=w.drew.heap.size:=Ad _;generalize w.drew=Wd at *;have m1:=λ(Y:World)=>(rS0 (w:=Y) ab3 (by omega):aT _ _ _ _ _ _ _);simp only[Ak]at m1;iterate 2 (refine lQ rfl (λK hK=>?_);go_simp;refine hK _ ?_;clear hK K)
  refine wA0 ?_ ?_
  ·refine iH rfl rfl (λK hK=>?_)
   go_simp;have o1:=m1 Wd;have g1:=aB.alloc Wd (.cells (madeCells #[.int .i64 0] n) 3);have s1:(Wd.alloc (.cells (madeCells #[.int .i64 0] n) 3)).heap.size=Wd.heap.size+1:=by simp
   refine⟨EB.of g1 mw,hK _ _ ?_⟩;clear hK K;generalize Wd.alloc (.cells (madeCells #[.int .i64 0] n) 3)=W1 at *;iterate 1 (refine lQ rfl (λK hK=>?_);go_simp;refine hK _ ?_;clear hK K)
   refine iH rfl rfl (λK hK=>?_);go_simp;have o2:=m1 W1;have g2:=aB.alloc W1 (.cells (madeCells #[.int .i64 0] n) 3);have de:w.heap.size<=W1.heap.size:=by omega
   refine⟨EB.of g2 de,hK _ _ ?_⟩;clear hK K;iterate 1 (refine lQ rfl (λK hK=>?_);go_simp;refine hK _ ?_;clear hK K)
   refine nQ0 ?_
   exact⟨(Wd.heap.size,W1.heap.size),⟨(o1.grows g2).base mw,o2.base de,aT.nil _ _ _ _ _,λq h1 h2=>by
    have a1:Wd.heap.size=q:=Option.some.inj h1;have a2:W1.heap.size=q:=Option.some.inj h2;omega,(lG.nil _ _ _).symm,(lG.nil _ _ _).symm,(io.tr g1).tr g2⟩,by simp only[pX0,Ao];go_simp⟩
  ·refine iH rfl rfl (λK hK=>?_)
   go_simp;have o1:=m1 Wd;have g1:=aB.alloc Wd (.cells (madeCells #[.int .i64 0] n) 3);have s1:(Wd.alloc (.cells (madeCells #[.int .i64 0] n) 3)).heap.size=Wd.heap.size+1:=by simp
   refine⟨EB.of g1 mw,hK _ _ ?_⟩;clear hK K;generalize Wd.alloc (.cells (madeCells #[.int .i64 0] n) 3)=W1 at *;refine iH rfl rfl (λK hK=>?_);go_simp;have o2:=m1 W1;have g2:=aB.alloc W1 (.cells (madeCells #[.int .i64 0] n) 3);have de:w.heap.size<=W1.heap.size:=by omega
   refine⟨EB.of g2 de,hK _ _ ?_⟩;clear hK K;iterate 2 (refine lQ rfl (λK hK=>?_);go_simp;refine hK _ ?_;clear hK K)
   refine nQ0 ?_
   exact⟨(W1.heap.size,Wd.heap.size),⟨o2.base de,(o1.grows g2).base mw,aT.nil _ _ _ _ _,λq h1 h2=>by
    have a1:W1.heap.size=q:=Option.some.inj h1;have a2:Wd.heap.size=q:=Option.some.inj h2;omega,(lG.nil _ _ _).symm,(lG.nil _ _ _).symm,(io.tr g1).tr g2⟩,by simp only[pX0,Ao];go_simp⟩
 ·clear iw
  rintro⟨b1,b2⟩ wA GA;simp only[pX0,Ao];try simp only at GA
  have iw:=λ(Y:World)=>zE0 NL Y (by omega);go_wp2_with fail
  refine(CDL wA GA.g).out.mono ?_;rintro e w8 ⟨rfl,rfl⟩;go_wp2_with fail
  obtain⟨lb,j3⟩:=exq wA.heap.size;obtain⟨WB,jl⟩:=exq (wA.alloc (.cells (madeCells #[.string ⟨#[]⟩] NL) 9));have gi:aB wA WB:=by rw[jl];exact aB.alloc _ _
  have hsO:aT WB w.heap.size 9 1 stC (.slice (some ⟨lb,0,none⟩) NL NL) (iS L 0):=by
   have h:=uO0 (w:=wA) (n:=NL) (by omega);rw[Ak,<-jl,<-j3]at h;rw[hO0,<-HNL.out];exact h.base (by rw[j3];exact GA.g.size)
  have ae:∀q,(Value.slice (some ⟨b1,0,none⟩) 1 n).ownBlock=some q->q<lb:=λq h=>by rw[j3];exact eY GA.p q h
  have ay:∀q,(Value.slice (some ⟨b2,0,none⟩) 1 n).ownBlock=some q->q<lb:=λq h=>by rw[j3];exact eY GA.d q h
  have GS:Hid (GB w WB (.slice (some ⟨b1,0,none⟩) 1 n) (.slice (some ⟨b2,0,none⟩) 1 n) (.slice (some ⟨lb,0,none⟩) NL NL) (cD0 L (fP L 0)) (rI L (fP L 0)) (iS L 0)):=by
   rw[uE,sA0,HOK.out.depT_one]
   exact⟨GA.p.grows gi,GA.d.grows gi,hsO,GA.pd,λq h1 h2=>by
    have a:=ae q h1;have b:lb=q:=Option.some.inj h2;omega,λq h1 h2=>by
    have a:=ay q h1;have b:lb=q:=Option.some.inj h2;omega,GA.g.tr gi⟩
  try rw[<-jl]
  try rw[<-j3]
  clear jl j3 gi hsO ae ay GA iw CDL;go_loopw [11,12,13,14,70] (λvP vD vA vK i wr=>∃I:Nat,I<=n/\i=.int .i64 I/\vA=.int .i64 (fP L I+I+1:Nat)/\vK=.int .i64 (cZ (isL L (nodesA L)) I:Nat)/\Hid (GB w wr vP vD (.slice (some ⟨lb,0,none⟩) NL NL) (cD0 L (fP L I)) (rI L (fP L I)) (iS L I))) (λ_ _ _ _ i _=>n-(intOf i).toNat)
  case atStart=>exact⟨0,Nat.zero_le _,rfl,rfl,rfl,GS.out⟩
  case round =>
   clear GS;obtain⟨I,hI,rfl,rfl,rfl,HG⟩:=hrel;have m9:=HOK.out.off_le I;obtain⟨O,hO⟩:=exq (fP L I);rw[<-hO]at HG m9 ⊢;obtain⟨aP,cP,hvP,_,_,_⟩:=HG.out.p.at_ (enc:=fI) (λ_=>rfl);rw[kL]at hvP;subst hvP;by_cases ae:I<n
   ·have hIi:(I:Int)<n:=by omega
    have hIO:(I:Int)<O:=by have:=HOK.out.off_gt (show I<(nodesA L).length by have:=HN.out;omega);omega
    obtain⟨x,hx⟩:∃x,(nodesA L)[I]?=some x:=⟨_,Ab (by have:=HN.out;omega)⟩;have HX:=Aa hx;have HO:=Aa hO;have hos:=jQ hx;have aac:=HOK.out.off_le (I+1);obtain⟨O2,we⟩:=exq (fP L (I+1));rw[<-we]at hos aac;have hOO:O<=O2:=by rw[hos,hO];omega
    have HO2:=Aa we;obtain⟨dx,hdx⟩:=exq x.d;have HDX:=Aa hdx
    have pu:dx<=256:=by
     obtain⟨k,hk1,ig⟩:=List.mem_flatMap.1 (Aj hx);have h1:=((iL HOK.out.asc k).mem x ig).2.1;have h2:=List.mem_range.1 hk1;omega
    have hnN:=HN.out;have agm:O2<=524287:=by omega
    clear hx hO we hdx hnN;go_wp2_with fail
    obtain⟨u0,rfl⟩:=exq wr;go_loopw [11,12,13] (λvP vD vA wx=>∃M:Nat,O<=M/\M<=O2/\vA=.int .i64 (M+I+1:Nat)/\Hid (GB w wx vP vD (.slice (some ⟨lb,0,none⟩) NL NL) (cD0 L M) (rI L M) (iS L I))) (λ_ _ vA _=>2000000-(intOf vA).toNat)
    case atStart=>exact⟨O,Ad _,hOO,rfl,HG.out⟩
    case round =>
     clear HG;obtain⟨M,hM1,hM2,rfl,HGM⟩:=hrel;have CGM:=HCG.out (M+I+1) wr HGM.out.g;by_cases hM:M<O2
     ·have s9:M<fP L (I+1):=by have:=HO2.out;omega
      have hOM:fP L I<=M:=by have:=HO.out;omega
      rw[(bP0 HX.out hOM s9).1]at CGM;obtain⟨y,hy⟩:∃y,(nodesA L)[M]?=some y:=⟨_,Ab (by omega)⟩;have hyd:y.d=dx+1:=by rw[HDX.out];exact lQ0 L x y (HOK.out.kid HX.out hOM s9 hy)
      obtain⟨d1,ii⟩:=exq (dx+1);have HP1:Hid (cD0 L M++[I]=cD0 L (M+1)):=by show _=_;rw[nT0,mI0 (by omega) hOM s9]
      have HD1:Hid (rI L M++[d1]=rI L (M+1)):=by show _=_;rw[bR0 hy,hyd,ii]
      have HDL:Hid ((rI L M).length=M):=fM0 (by omega);have hdp:(rI L M)[I]?=some dx:=by rw[yG (by omega) HX.out,HDX.out]
      obtain⟨qb,cQ,hvQ,_⟩:=yP HGM.out.d (by rw[HDL.out];omega);rw[HDL.out]at hvQ;subst hvQ;have hcd:wr.cell? ⟨qb,I,none⟩=some (.int .i64 dx):=bP (f:=λn:Nat=>Value.int .i64 n) HGM.out.d hdp
      have HFL:Hid (((rI L M).flatMap fI)[I]?=some (.int .i64 dx)):=by
       have h:=mP (enc:=fI) (k:=1) (λ_=>rfl) (rI L M) I 0 dx _ hdp rfl;rw[Ak,Nat.add_zero]at h;exact h
      have hIM:(I:Int)<M:=by omega
      have wd1:IntKind.i64.wrap ((dx:Int)+1)=d1:=by have:=mS (x:=d1) (by omega);rw[<-this];congr 1;omega
      have HG0:=HGM.out.grows (aB.drew wr);obtain⟨aR,cR,hvR,_,_,_⟩:=HGM.out.p.at_ (enc:=fI) (λ_=>rfl);rw[kL]at hvR;subst hvR;have hnP:some qb≠(Value.slice aR M cR).ownBlock:=λh=>HGM.out.pd qb h.symm rfl;clear hyd ii hy hdp hOM s9;go_wp2_with fail
      refine CGM.out.mono ?_;rintro e w9 ⟨rfl,rfl⟩;clear CGM;go_wp2_with fail
      have z0:∀y:Ext (EK w.heap.size ⟨qb,I,none⟩ (.int .i64 dx)) wr.drew,y.u.cell? ⟨qb,I,none⟩=some (.int .i64 dx):=mX0 ((aB.drew wr).cell hcd);refine tY0 (EK w.heap.size ⟨qb,I,none⟩ (.int .i64 dx)) (.quiet 0 (.quiet 1 (.quiet 4 (.quiet 5 (.quiet 6 (.quiet 7 (.quiet 8 (.quiet 9 (.alt (.late 2 (.alt (.late 3 (.late 10 (.late 11 (.quiet 12 (.quiet 13 .done))))) (.late 10 (.late 3 (.late 11 (.quiet 12 (.quiet 13 .done))))))) (.late 10 (.late 2 (.late 3 (.late 11 (.quiet 12 (.quiet 13 .done))))))))))))))) (λ(x:Value×Value×Nat×Nat)=>[(some 82,.slice aR M cR),(some 83,.int .i64 I),(some 84,.slice (some ⟨x.2.2.1,0,none⟩) 1 1),(some 85,x.1),(some 86,.slice (some ⟨qb,0,none⟩) M cQ),(some 87,.slice (some ⟨qb,0,none⟩) M cQ),(some 88,.int .i64 I),(some 89,.pointer (some ⟨qb,I,none⟩)),(some 90,.int .i64 dx),(some 91,.int .i64 d1),(some 92,.slice (some ⟨x.2.2.2,0,none⟩) 1 1),(some 93,x.2.1),(some 11,x.1),(some 12,x.2.1)]) (λ(x:Value×Value×Nat×Nat) w'=>GB w w' x.1 x.2.1 (.slice (some ⟨lb,0,none⟩) NL NL) (cD0 L (M+1)) (rI L (M+1)) (iS L I)) (EK.refl w.heap.size ⟨qb,I,none⟩ (.int .i64 dx)) (EK.trans w.heap.size ⟨qb,I,none⟩ (.int .i64 dx)) (by kernel_rfl) (by kernel_rfl) (λd _ _ _ _ h=>by cases d<;>exact h) ?_ ?_
      ·clear HGM hcd
       generalize wr.drew=Wd at *;iterate 8 (refine lQ rfl (λK hK=>?_);go_simp;refine hK _ ?_;clear hK K)
       clear z0;have G0:=HG0;clear HG0;refine wA0 ?_ ?_
       ·refine iH rfl rfl (λK hK=>?_)
        go_simp;have cA:=xM0 Wd (.int .i64 (I:Nat)) 3;have g1:=aB.alloc Wd (.cells #[.int .i64 (I:Nat)] 3);have nPA:=G0.newP;have nDA:=G0.newD;have G1:=G0.grows g1;have e1:EK w.heap.size ⟨qb,I,none⟩ (.int .i64 dx) _ _:=⟨EB.of g1 G0.g.size,λh=>g1.cell h⟩;generalize Wd.alloc (.cells #[.int .i64 (I:Nat)] 3)=u1 at *;obtain⟨bA,hbA⟩:∃b,b=Wd.heap.size:=⟨_,rfl⟩;rw[<-hbA]at cA nPA nDA ⊢;clear hbA;refine⟨e1,hK _ _ ?_⟩;clear hK K e1 g1;refine wA0 ?_ ?_
        ·refine iH rfl rfl (λK hK=>?_)
         refine nT mV _ _ rfl w.heap.size _ _ I rfl G1.p bA 1 rfl (xL0 cA) (by rw[kL];omega) G1.g.size ?_;intro v1 u2 ho2 ig hf2;have e2:EK w.heap.size ⟨qb,I,none⟩ (.int .i64 dx) _ _:=⟨G1.ebP ig,λh=>ig.cell h hnP⟩;have G2:=G1.appP ho2 ig hf2;refine⟨e2,hK _ _ ?_⟩;clear hK K e2 ho2 ig hf2;refine iH rfl rfl (λK hK=>?_);go_simp;have cC:=xM0 u2 (.int .i64 (d1:Nat)) 3;have g3:=aB.alloc u2 (.cells #[.int .i64 (d1:Nat)] 3);have nPC:=G2.newP;have nDC:=G2.newD;have G3:=G2.grows g3;have e3:EK w.heap.size ⟨qb,I,none⟩ (.int .i64 dx) _ _:=⟨EB.of g3 G2.g.size,λh=>g3.cell h⟩;generalize u2.alloc (.cells #[.int .i64 (d1:Nat)] 3)=u3 at *;obtain⟨bC,wg⟩:∃b,b=u2.heap.size:=⟨_,rfl⟩;rw[<-wg]at cC nPC nDC ⊢;clear wg;refine⟨e3,hK _ _ ?_⟩;clear hK K e3 g3;refine iH rfl rfl (λK hK=>?_);refine sM mV _ _ rfl w.heap.size qb cQ (rI L M) d1 (by rw[HDL.out];rfl) (by rw[HDL.out];exact G3.d) bC 1 rfl (xL0 cC) (by rw[HDL.out];omega) G3.g.size ?_;intro v2 u4 wj pw px wl;rw[HDL.out]at px;have e4:EK w.heap.size ⟨qb,I,none⟩ (.int .i64 dx) _ _:=⟨G3.ebD pw,λ_=>wl I _ HFL.out⟩;clear wl;have G4:=G3.appD wj pw px;refine⟨e4,hK _ _ ?_⟩;clear hK K e4 wj pw px;iterate 2 (refine lQ rfl (λK hK=>?_);go_simp;refine hK _ ?_;clear hK K)
         refine nQ0 ?_;rw[HP1.out,HD1.out]at G4;exact⟨(v1,v2,bA,bC),G4,by simp only[pX0,Ao];go_simp⟩
        ·refine iH rfl rfl (λK hK=>?_)
         go_simp;have cC:=xM0 u1 (.int .i64 (d1:Nat)) 3;have g2:=aB.alloc u1 (.cells #[.int .i64 (d1:Nat)] 3);have nPC:=G1.newP;have nDC:=G1.newD;have G2:=G1.grows g2;have e2:EK w.heap.size ⟨qb,I,none⟩ (.int .i64 dx) _ _:=⟨EB.of g2 G1.g.size,λh=>g2.cell h⟩;replace cA:=g2.cell cA;generalize u1.alloc (.cells #[.int .i64 (d1:Nat)] 3)=u2 at *;obtain⟨bC,wg⟩:∃b,b=u1.heap.size:=⟨_,rfl⟩;rw[<-wg]at cC nPC nDC ⊢;clear wg;refine⟨e2,hK _ _ ?_⟩;clear hK K e2 g2;refine iH rfl rfl (λK hK=>?_);refine nT mV _ _ rfl w.heap.size _ _ I rfl G2.p bA 1 rfl (xL0 cA) (by rw[kL];omega) G2.g.size ?_;intro v1 u3 ho3 fc hf3;have e3:EK w.heap.size ⟨qb,I,none⟩ (.int .i64 dx) _ _:=⟨G2.ebP fc,λh=>fc.cell h hnP⟩;replace cC:=fc.cell cC nPC;have G3:=G2.appP ho3 fc hf3;refine⟨e3,hK _ _ ?_⟩;clear hK K e3 ho3 fc hf3;refine iH rfl rfl (λK hK=>?_);refine sM mV _ _ rfl w.heap.size qb cQ (rI L M) d1 (by rw[HDL.out];rfl) (by rw[HDL.out];exact G3.d) bC 1 rfl (xL0 cC) (by rw[HDL.out];omega) G3.g.size ?_;intro v2 u4 wj pw px wl;rw[HDL.out]at px;have e4:EK w.heap.size ⟨qb,I,none⟩ (.int .i64 dx) _ _:=⟨G3.ebD pw,λ_=>wl I _ HFL.out⟩;clear wl;have G4:=G3.appD wj pw px;refine⟨e4,hK _ _ ?_⟩;clear hK K e4 wj pw px;iterate 2 (refine lQ rfl (λK hK=>?_);go_simp;refine hK _ ?_;clear hK K)
         refine nQ0 ?_;rw[HP1.out,HD1.out]at G4;exact⟨(v1,v2,bA,bC),G4,by simp only[pX0,Ao];go_simp⟩
       ·refine iH rfl rfl (λK hK=>?_)
        go_simp;have cC:=xM0 Wd (.int .i64 (d1:Nat)) 3;have g1:=aB.alloc Wd (.cells #[.int .i64 (d1:Nat)] 3);have nPC:=G0.newP;have nDC:=G0.newD;have G1:=G0.grows g1;have e1:EK w.heap.size ⟨qb,I,none⟩ (.int .i64 dx) _ _:=⟨EB.of g1 G0.g.size,λh=>g1.cell h⟩;generalize Wd.alloc (.cells #[.int .i64 (d1:Nat)] 3)=u1 at *;obtain⟨bC,wg⟩:∃b,b=Wd.heap.size:=⟨_,rfl⟩;rw[<-wg]at cC nPC nDC ⊢;clear wg;refine⟨e1,hK _ _ ?_⟩;clear hK K e1 g1;refine iH rfl rfl (λK hK=>?_);go_simp;have cA:=xM0 u1 (.int .i64 (I:Nat)) 3;have g2:=aB.alloc u1 (.cells #[.int .i64 (I:Nat)] 3);have nPA:=G1.newP;have nDA:=G1.newD;have G2:=G1.grows g2;have e2:EK w.heap.size ⟨qb,I,none⟩ (.int .i64 dx) _ _:=⟨EB.of g2 G1.g.size,λh=>g2.cell h⟩;replace cC:=g2.cell cC;generalize u1.alloc (.cells #[.int .i64 (I:Nat)] 3)=u2 at *;obtain⟨bA,hbA⟩:∃b,b=u1.heap.size:=⟨_,rfl⟩;rw[<-hbA]at cA nPA nDA ⊢;clear hbA;refine⟨e2,hK _ _ ?_⟩;clear hK K e2 g2;refine iH rfl rfl (λK hK=>?_);refine nT mV _ _ rfl w.heap.size _ _ I rfl G2.p bA 1 rfl (xL0 cA) (by rw[kL];omega) G2.g.size ?_;intro v1 u3 ho3 fc hf3;have e3:EK w.heap.size ⟨qb,I,none⟩ (.int .i64 dx) _ _:=⟨G2.ebP fc,λh=>fc.cell h hnP⟩;replace cC:=fc.cell cC nPC;have G3:=G2.appP ho3 fc hf3;refine⟨e3,hK _ _ ?_⟩;clear hK K e3 ho3 fc hf3;refine iH rfl rfl (λK hK=>?_);refine sM mV _ _ rfl w.heap.size qb cQ (rI L M) d1 (by rw[HDL.out];rfl) (by rw[HDL.out];exact G3.d) bC 1 rfl (xL0 cC) (by rw[HDL.out];omega) G3.g.size ?_;intro v2 u4 wj pw px wl;rw[HDL.out]at px;have e4:EK w.heap.size ⟨qb,I,none⟩ (.int .i64 dx) _ _:=⟨G3.ebD pw,λ_=>wl I _ HFL.out⟩;clear wl;have G4:=G3.appD wj pw px;refine⟨e4,hK _ _ ?_⟩;clear hK K e4 wj pw px;iterate 2 (refine lQ rfl (λK hK=>?_);go_simp;refine hK _ ?_;clear hK K)
        refine nQ0 ?_;rw[HP1.out,HD1.out]at G4;exact⟨(v1,v2,bA,bC),G4,by simp only[pX0,Ao];go_simp⟩
      ·rintro⟨v1,v2,b3,b4⟩ wC GC
       simp only[pX0,Ao];try simp only at GC
       clear z0 HG0 HGM hcd;go_wp2_with fail
       go_roundw
       case rel=>exact⟨M+1,by omega,by omega,by go_num,GC⟩
       case measure=>simp[intOf];omega
     ·obtain rfl:M=O2:=by omega
      have hz:bitOf (shapeL L (nodesA L)) (M+I+1)=false:=by
       rw[show M+I+1=fP L (I+1)+(I+1) by have:=HO2.out;omega]
       exact(jP0 (L:=L) (i:=I+1) (by have:=HN.out;omega)).1
      rw[hz]at CGM;have CIx:=HCI.out I x wr HX.out HGM.out.g;have hrk:cZ (isL L (nodesA L)) (I+1)=cZ (isL L (nodesA L)) I+(if gE L x=true then 1 else 0):=by rw[eO,dK0 HX.out]
      have hrl:cZ (isL L (nodesA L)) I<=I:=kM _ _;have aad:=λ(hh:gE L x=true)=>sV0 HX.out hh;obtain⟨K,hK⟩:=exq (cZ (isL L (nodesA L)) I);rw[<-hK]at hrk hrl aad ⊢;have HRK:=Aa hrk;have HIDR:=Aa aad;have HAT:Hid ((M+I+1+1:Nat)=fP L (I+1)+(I+1)+1):=by show _=_;have:=HO2.out;omega
      have HMN:Hid (M<=(nodesA L).length):=aac;clear hz hrk aad hK hos aac hOO hM2 hM;go_wp2_with fail
      refine CGM.out.mono ?_;rintro e w9 ⟨rfl,rfl⟩;clear CGM;go_wp2_with fail
      refine CIx.out.mono ?_;rintro e zr ⟨rfl,rfl⟩;clear CIx
      cases hh:gE L x with
      | false =>
       have HH:=Aa hh;clear hh;go_wp2_with fail
       go_roundw
       case rel=>exact⟨I+1,ae,by go_num,by rw[<-HAT.out];go_num,by rw[HRK.out,HH.out];go_num,by have h:=HGM.out;rw[HO2.out]at h;rw[HOK.out.strTo_no HX.out HH.out];exact h⟩
       case measure=>simp[intOf];omega
      | true =>
       have HH:=Aa hh;clear hh;have hid:=HIDR.out HH.out;have CPx:=HCP.out K x.i wr hid HGM.out.g;have hLx:L[x.i]?=some (spanS L x):=(HOK.out.here_at HX.out x.i).2 ⟨HH.out,rfl⟩;have qq:x.i<NL:=by rw[HNL.out];exact(List.getElem?_eq_some_iff.1 hLx).1
       obtain⟨X0,hX0⟩:=exq x.i;rw[<-hX0]at CPx qq;have HX0:=Aa hX0;have hxn:¬(NL:Int)<=X0:=by omega
       have agn:(X0:Int)<NL:=by omega
       have uNL:IntKind.u64.wrap (NL:Int)=NL:=by simp[Ag,Ah,Ae];omega
       have wX0:IntKind.i64.wrap (X0:Int)=X0:=mS (by omega);have hd6:¬(256:Int)<dx:=by omega
       have iw:=λ(Y:World)=>zU0 dx Y (by omega);clear hid hLx hX0;go_wp2_with fail
       refine CPx.out.mono ?_;rintro e na ⟨rfl,nc⟩;have HG11:=Aa (HGM.out.grows nc);clear CPx;have hdp:(rI L M)[I]?=some dx:=by rw[yG (by omega) HX.out,HDX.out]
       have HDL:Hid ((rI L M).length=M):=fM0 HMN.out;obtain⟨qb,cQ,hvQ,_⟩:=yP HG11.out.d (by rw[HDL.out];omega);rw[HDL.out]at hvQ;subst hvQ;have hcd:na.cell? ⟨qb,I,none⟩=some (.int .i64 dx):=bP (f:=λn:Nat=>Value.int .i64 n) HG11.out.d hdp;obtain⟨ab,cP2,hvP,_⟩:=yP HG11.out.p (by rw[kL];omega);rw[kL]at hvP;subst hvP;have hIM:(I:Int)<M:=by omega
       clear hdp;go_wp2_with fail
       obtain⟨bb,kz⟩:=exq na.heap.size;obtain⟨WU,hWU⟩:=exq (na.alloc (.cells (madeCells #[.int .u8 0] dx) 5));have hgU:aB na WU:=by rw[hWU];exact aB.alloc _ _
       have hbO:aT WU bb 5 1 aQ (.slice (some ⟨bb,0,none⟩) dx dx) (Ac dx 0):=by
        have h:=yH0 (w:=na) (n:=dx) (by omega);rw[Ak,<-hWU,<-kz]at h;exact h
       rw[<-hWU,<-kz];have hz1:decide (NL<=X0)=false:=by simp;omega
       have gj:decide ((NL:Int)<=X0)=false:=by simp;omega
       have hz3:decide ((256:Int)<dx)=false:=by simp;omega
       try rw[hz1]
       try rw[gj]
       try rw[hz3]
       try rw[show (false||false)=false from rfl]
       clear hz1 gj hz3;have HBB:Hid (na.heap.size<=bb):=Nat.le_of_eq kz.symm;have HAB:Hid (ab<na.heap.size):=eY HG11.out.p ab rfl;clear hWU kz hcd iw HGM;obtain⟨u1,rfl⟩:=exq wr;go_loopw [20] (λvX wx=>∃(X:Nat) (y:cY) (tl:List UInt8),vX=.int .i64 X/\X<=I/\Hid ((nodesA L)[X]?=some y/\spanS L y++tl=spanS L x)/\Hid (aT wx bb 5 1 aQ (.slice (some ⟨bb,0,none⟩) dx dx) (Ac y.d 0++tl))/\Hid (aB na wx)) (λvX _=>(intOf vX).toNat)
       case atStart=>exact⟨I,x,[],rfl,Ad _,⟨HX.out,Aq _⟩,by rw[Aq,<-HDX.out];exact hbO,hgU⟩
       case round =>
        clear hbO hgU;obtain⟨X,y,tl,rfl,hXI,hN,hB,hG⟩:=hrel;have HGX:=Aa (HG11.out.grows hG.out);by_cases hX:0<X
        ·obtain⟨z,c,hz,hpX,hc,hs,hd⟩:=HOK.out.climb hX hN.out.1
         have ago:(0:Int)<X:=by omega
         obtain⟨X1,hX1⟩:=exq (X-1);rw[<-hX1]at hc;have aet:X1<LL:=by rw[HLL.out];exact(List.getElem?_eq_some_iff.1 hc).1
         have hXl:(X:Int)<=LL:=by omega
         have agp:(X1:Int)<LL:=by omega
         obtain⟨lb2,lo,rfl,cj⟩:=at1 (f:=λb:UInt8=>Value.int .u8 b.toNat) (HLAB.out.grows HGX.out.g) (List.ne_nil_of_mem (Aj hc));have hcc:=cj X1 c hc;obtain⟨dy,hdy⟩:=exq y.d;obtain⟨pX,hpx⟩:=exq (pZ0 L X);have hdX:wr.cell? ⟨qb,X,none⟩=some (.int .i64 dy):=bP (f:=λn:Nat=>Value.int .i64 n) HGX.out.d (by rw[yG (show X<M by omega) hN.out.1,hdy])
         have hpc:wr.cell? ⟨ab,X,none⟩=some (.int .i64 pX):=bP (f:=λn:Nat=>Value.int .i64 n) HGX.out.p (by rw[qM0 (show X<M by omega),hpx])
         have hXM:(X:Int)<M:=by omega
         obtain⟨d2,lj⟩:=exq z.d;have hdd:dy=d2+1:=by rw[hdy,hd,lj]
         have wX1:IntKind.i64.wrap ((X:Int)-1)=X1:=by have:=mS (x:=X1) (by omega);rw[<-this];congr 1;omega
         have hrl:(Ac y.d (0:UInt8)++tl).length=dx:=by
          obtain⟨_,_,he,_⟩:=hB.out.at_ bE.len;injection he with _ h2 _
          exact h2.symm
         have ni:y.d<=dx:=by rw[<-hrl,As,Av];omega
         have wd2:IntKind.i64.wrap ((dy:Int)-1)=d2:=by have:=mS (x:=d2) (by omega);rw[<-this];congr 1;omega
         have agq:(d2:Int)<dx:=by omega
         have jx:=hB.out.grows (aB.drew wr);have ep:wr.drew.cell? ⟨bb,d2,none⟩=some (.int .u8 ((0:UInt8).toNat:Nat)):=bP (f:=λb:UInt8=>Value.int .u8 b.toNat) jx (by rw[List.getElem?_append_left (by rw[Av];omega),List.getElem?_replicate,if_pos (by omega)]);obtain⟨hfr,_,f8⟩:=dJ (f:=λb:UInt8=>Value.int .u8 b.toNat) jx (k:=d2) (by rw[hrl];omega) c
         have HSET:Hid (aT (wr.drew.setCell ⟨bb,d2,none⟩ (.int .u8 (c.toNat:Nat))) bb 5 1 aQ (.slice (some ⟨bb,0,none⟩) dx dx) (Ac z.d 0++(c::tl))):=by
          have e:(Ac y.d (0:UInt8)++tl).set d2 c=Ac z.d 0++(c::tl):=by rw[hd,lj];exact nH0
          rw[e]at f8;exact f8
         have aeu:(wr.setCell ⟨bb,d2,none⟩ (.int .u8 (c.toNat:Nat))).cell? ⟨ab,X,none⟩=some (.int .i64 pX):=(World.cell?_setCell_other _ _ _ _ (λh=>by have h1:=congrArg Addr.block h;simp only at h1;have h2:=HAB.out;have h3:=HBB.out;omega)).trans hpc;have HN2:Hid ((nodesA L)[pX]?=some z/\spanS L z++(c::tl)=spanS L x):=⟨by rw[hpx];exact hz,by rw[<-hN.out.2,hs];simp⟩;have agr:pX<X:=by rw[hpx];exact hpX
         have HG2:Hid (aB na (wr.drew.setCell ⟨bb,d2,none⟩ (.int .u8 (c.toNat:Nat)))):=hG.out.dr.set HBB.out _;have z0:∀q:Ext aB wr.drew,q.u.cell? ⟨qb,X,none⟩=some (.int .i64 dy):=aG ((aB.drew wr).cell hdX);have z1:∀q:Ext aB wr.drew,q.u.cell? ⟨lb2,lo+X1,none⟩=some (.int .u8 (c.toNat:Nat)):=aG ((aB.drew wr).cell hcc);obtain⟨cc,ab4⟩:∃q:Nat,q=c.toNat:=⟨_,rfl⟩;rw[<-ab4]at z1 HG2 aeu HSET;clear hz hpX hc hs hd hX1 cj hcc hdy hpx hdX hpc lj hdd hrl ni jx f8 hN hB hG aet ab4;go_wp2_with fail
         refine qB 12 (bB 12 []) (by kernel_rfl) (λd _ _ _ _ h=>by cases d<;>exact h) ?_
         iterate 12 (refine aK rfl (λK hK=>?_);go_simp;refine hK _ ?_;clear hK K)
         refine bT ?_;simp only[List.drop_succ_cons,List.drop_zero];clear z0 z1;go_wp2_with fail
         go_roundw
         case rel=>exact⟨pX,z,c::tl,by go_num,by omega,HN2.out,HSET.out,HG2.out⟩
         case measure=>simp[intOf];omega
        ·obtain rfl:X=0:=by omega
         have hy:y=rootS L:=by
          have h1:=hN.out.1;rw[HOK.out.root0]at h1;exact(Option.some.inj h1).symm
         have bj:Ac y.d (0:UInt8)++tl=spanS L x:=by
          rw[<-hN.out.2,hy];simp[spanS,rootS]
         have ik:=hB.out;rw[bj]at ik;have vx:=aK0 ik;have ff:X0<(iS L I).length:=by rw[pC,<-HNL.out];exact qq
         obtain⟨s0,i6⟩:∃s0,(iS L I)[X0]?=some s0:=⟨_,Ab ff⟩;have hsc:wr.cell? ⟨lb,X0,none⟩=some (.string s0):=bP (f:=λs:ByteArray=>Value.string s) HGX.out.s i6;obtain⟨hfr,hGS⟩:=HGX.out.setS ff (mkB (spanS L x));have e1:cD0 L M=cD0 L (fP L (I+1)):=by rw[<-HO2.out]
         have e2:rI L M=rI L (fP L (I+1)):=by rw[<-HO2.out]
         have e3:(iS L I).set X0 (mkB (spanS L x))=iS L (I+1):=by rw[HX0.out];exact(HOK.out.strTo_yes HX.out HH.out).symm
         rw[e1,e2,e3]at hGS;clear e1 e2 e3;have HGS:=Aa hGS;generalize mkB (spanS L x)=sx at vx HGS;clear hGS i6 ff ik bj hy hN hB hG;go_wp2_with fail
         go_roundw
         case rel=>exact⟨I+1,ae,by go_num,by rw[<-HAT.out];go_num,by rw[HRK.out,HH.out];go_num,HGS.out⟩
         case measure=>simp[intOf];omega
   ·obtain rfl:I=n:=by omega
    have hS:=HG.out.s;rw[HOK.out.strTo_all (m:=I) (by have:=HN.out;omega)]at hS;have hG:=HG.out.g;clear HG;go_wp2
    go_ret2;exact⟨_,rfl,hS,hG⟩
end
section
open Go Go.RowKit Go.Shelf
instance extKeep (S:Nat->Prop) (w:World):Nonempty (Ext (bH S) w):=⟨⟨w,bH.refl S w⟩⟩
theorem eZ {S:Nat->Prop} {w:World} {p:Addr} {v:Value} (hp:S p.block) (hc:w.cell? p=some v) (x:Ext (bH S) w):x.u.cell? p=some v:=x.h.cell hp hc
theorem kK (S:Nat->Prop):∀a b c:World,bH S a b->bH S b c->bH S a c:=λ_ _ _ h k=>h.tr k
theorem bH.alloc {S:Nat->Prop} {w:World} (h:∀b,S b->b<w.heap.size) (o:Obj):bH S w (w.alloc o):=λb hb=>(aB.alloc w o).block b (h b hb)
theorem bH.set {S:Nat->Prop} {w:World} {b:Nat} (h:¬S b) (o:Nat) (v:Value):bH S w (w.setCell ⟨b,o,none⟩ v):=λq hq=>Below.heap_setCell _ _ _ q (λe=>h (by have:q=b:=e; rw[<-this]; exact hq))
theorem mL0 {α:Type} {P:Program} {t e:TypeId} {k bytes:Nat} {enc:α->List Value} (L:eV P t e k bytes enc) {o:Oper} {a:Act} {K:Act->World->Prop} {Q:Exit->Act->World->Prop} {W:World}
  (s x:Operand) (f9:o.op=.call { callee:=.builtin .append,args:=#[s,x],argTypes:=#[t,t] })
  (base:Nat) (v:Value) (xs:List α) (y:α) (hs:a.eval s=v) (aa:aT W base e k enc v xs) (n c:Nat) (hn:n=W.heap.size) (cs:Array Value) (ct:cs.toList=enc y)
  (hx:a.eval x=.slice (some ⟨n,0,none⟩) 1 c) (ak:(xs.length+1)*bytes<=140737488355328) (be:base<=W.heap.size)
  (h:∀v' w',aT w' base e k enc v' (xs++[y])->W.grownBy w' v.ownBlock->pZ W v v'->K (a.put o.dst v') w'):o.wp P a (W.alloc (.cells cs e)) K Q:=by
 obtain⟨i,z,hi,hz,bu,ga,jv⟩:=L.info;have od:xs.length+1<=140737488355328:=Af (Nat.le_mul_of_pos_right _ L.by1) ak;have gk:aB W (W.alloc (.cells cs e)):=aB.alloc _ _;have af:=dR aa gk
 obtain⟨v',w',hr,h2,h3,h4⟩:=fB (P:=P) (W.alloc (.cells cs e)) base t o.type e i z k bytes L.sl hi hz bu ga jv L.pos v xs.length (xs.flatMap enc) af ⟨n,0,none⟩ 1 c (enc y) (by rw[L.len,Nat.one_mul])
  (λj u hu=>dK hn j u (by rw[ct];exact hu)) (L.one y) (by unfold maxLen;omega) ak (Af be gk.size)
 unfold Oper.wp execOp;simp only[f9,resolve,invoke,builtin,Sem.run_bind,Sem.run_pure,Result.andThen_ok,List.map_toArray,List.map_cons,List.map_nil,hs,hx,hr];refine h v' w' ?_ ?_ ?_
 ·unfold aT
  rw[As,Aw,List.flatMap_append];simpa using h2
 ·have h5:=Al W (.cells cs e) v.ownBlock
  exact⟨h3.os.trans h5.os,h3.tape.trans h5.tape,h3.output.trans h5.output,Af h5.size h3.size,λk hk aq=>(h3.block k (Nat.lt_of_lt_of_le hk h5.size) aq).trans (h5.block k hk aq)⟩
 ·rcases h4 with h4|⟨q,hq,np⟩
  ·exact Or.inl h4
  ·exact Or.inr ⟨q,hq,Af gk.size np⟩
theorem iU.grown {w w':World} {lo:Nat} {ds:List Nat} {row:Option Nat} (h:iU w lo ds) (hg:w.grownBy w' row) (hr:∀D∈ds,row≠some D):iU w' lo ds :=
 ⟨λD hD=>⟨(h.at_ D hD).1,(hg.block D (Array.getElem?_eq_some_iff.1 (h.at_ D hD).2).1 (λe=>hr D hD e.symm)).trans (h.at_ D hD).2⟩,h.nodup⟩
theorem iU.not_row {w:World} {lo:Nat} {ds:List Nat} (h:iU w lo ds) {row:Option Nat} {t:TypeId} (hr:RT w row (some t)):∀D∈ds,row≠some D:=λD hD e=>by
 obtain⟨o,h1,h2⟩:=hr D e;rw[(h.at_ D hD).2]at h1;cases h1
 cases h2
theorem RT.of_not {w:World} {row:Option Nat} (h:∀q,row=some q->∃o:Obj,w.heap[q]?=some o/\o.isCells=false):RT w row (Option.none:Option TypeId):=λq hq=>by
 obtain⟨o,h1,h2⟩:=h q hq;refine⟨o,h1,?_⟩;cases o<;>first|rfl|cases h2
end
section
open Go Go.RowKit Go.Shelf
theorem gQ {W W':World} {B:Nat} {row:Option Nat} {t:TypeId} (hg:W.grownBy W' row) (hr:RT W row (some t)):KeepsFrom B W W':=⟨hg.size,λk o _ hk ho=>by
 rw[hg.block k (Array.getElem?_eq_some_iff.1 hk).1 (λe=>?_)]
 ·exact hk
 ·obtain⟨o',h1,h2⟩:=hr k e.symm
  rw[hk]at h1;cases h1
  cases o<;>simp[Obj.isCells,cP0]at ho h2⟩
theorem kO {W:World} {B:Nat} {b:Nat} {cs:Array Value} {t:TypeId} (h:TB W b cs t) (o:Nat) (v:Value):KeepsFrom B W (W.setCell ⟨b,o,none⟩ v):=gQ (bG W b o v) h.rt
theorem TB.ne_row {w:World} {b:Nat} {cs:Array Value} {t e:TypeId} {row:Option Nat} (h:TB w b cs t) (hr:RT w row (some e)) (aq:e≠t):row≠some b:=λbj=>by
 obtain⟨o,h1,h2⟩:=hr b bj;rw[show w.heap[b]?=_ from h]at h1
 cases h1
 exact aq (Option.some.inj h2).symm
theorem oH {α:Type} {w:World} {base:Nat} {e:TypeId} {k:Nat} {enc:α->List Value} {v:Value} {xs:List α} {y:α} (h:aT w base e k enc v (xs++[y])):∃g cap,v=.slice (some ⟨g,0,none⟩) (xs.length+1) cap:=by
 unfold aT at h;rw[As,Aw]at h;exact ownsRow_succ h
structure LbJ (w:World) (s n:Nat) (lv:Value) (ds:List Nat) (xb kb lb size:Nat) (x:cY) (d:BD) (W:World):Prop where
 st:Bst w W s n lv d
 tx:TB W xb #[.int .i64 x.i,.int .i64 x.t,.int .i64 x.d] 208
 tk:TB W kb #[.int .i64 x.i,.int .i64 x.t,.int .i64 x.d] 208
 tl:TB W lb #[lv] 65
 nx:d.vA.ownBlock≠some xb
 nk:d.vA.ownBlock≠some kb
 mks:iU W s ds
 sz:size<=W.heap.size
variable {w W w':World} {s n xb kb lb size:Nat} {lv:Value} {ds:List Nat} {x:cY} {d:BD}
theorem LbJ.other (h:LbJ w s n lv ds xb kb lb size x d W) {row:Option Nat} (hg:W.grownBy w' row) (hr:RT W row none) (hs:∀q,row=some q->s<=q) (hm:∀D∈ds,row≠some D):LbJ w s n lv ds xb kb lb size x d w' :=
 ⟨h.st.other hg hr hs,h.tx.keep hg hr (by decide),h.tk.keep hg hr (by decide),h.tl.keep hg hr (by decide),h.nx,h.nk,h.mks.grown hg hm,Af h.sz hg.size⟩
theorem LbJ.al (h:LbJ w s n lv ds xb kb lb size x d W) (o:Obj):LbJ w s n lv ds xb kb lb size x d (W.alloc o) :=
 h.other (Al _ _ none) (RT.none _ _) (λq e=>by cases e) (λ_ _ e=>by cases e)
theorem LbJ.dr (h:LbJ w s n lv ds xb kb lb size x d W):LbJ w s n lv ds xb kb lb size x d W.drew :=
 h.other (row:=none) ⟨rfl,rfl,rfl,Ad _,λ_ _ _=>rfl⟩ (RT.none _ _) (λq e=>by cases e) (λ_ _ e=>by cases e)
theorem LbJ.pushS (h:LbJ w s n lv ds xb kb lb size x d W) {v:Value} {sh:List Bool} (ho:aT w' s 4 1 mT v sh) (hg:W.grownBy w' d.vS.ownBlock) (hf:pZ W d.vS v) :
  LbJ w s n lv ds xb kb lb size x { d with vS:=v,sh:=sh } (w'.setCell ⟨s+5,0,none⟩ v)/\KeepsFrom size W (w'.setCell ⟨s+5,0,none⟩ v)/\(∀b cs,TB W b cs 208->TB (w'.setCell ⟨s+5,0,none⟩ v) b cs 208)/\TB w' (s+5) #[d.vS] 205:=by
 have hr:=RT.own h.st.oS;have k6:=h.st.b6.keep hg hr (by decide);have ah:=bG w' (s+5) 0 v;have cd:=k6.rt;have lg:=h.mks.grown hg (h.mks.not_row hr)
 exact⟨⟨h.st.pushS ho hg hf,(h.tx.keep hg hr (by decide)).keep ah cd (by decide),(h.tk.keep hg hr (by decide)).keep ah cd (by decide),(h.tl.keep hg hr (by decide)).keep ah cd (by decide),h.nx,h.nk,lg.grown ah (lg.not_row cd),Af h.sz (Af hg.size ah.size)⟩,
  (gQ hg hr).trans (kO k6 0 v),λb cs hb=>(hb.keep hg hr (by decide)).keep ah cd (by decide),k6⟩
theorem LbJ.pushL (h:LbJ w s n lv ds xb kb lb size x d W) {v:Value} {l:List UInt8} (ho:aT w' s 5 1 aQ v l) (hg:W.grownBy w' d.vL.ownBlock) :
  LbJ w s n lv ds xb kb lb size x { d with vL:=v,lab:=l } (w'.setCell ⟨s+2,2,none⟩ v)/\KeepsFrom size W (w'.setCell ⟨s+2,2,none⟩ v)/\(∀b cs,TB W b cs 208->TB (w'.setCell ⟨s+2,2,none⟩ v) b cs 208) /\
   TB w' (s+2) #[.pointer none,.pointer none,d.vL,.pointer none,.slice (some ⟨s+1,0,none⟩) n n] 204:=by
 have hr:=RT.own h.st.oL;have k2:=h.st.b2.keep hg hr (by decide);have ah:=bG w' (s+2) 2 v;have cd:=k2.rt;have lg:=h.mks.grown hg (h.mks.not_row hr)
 exact⟨⟨h.st.pushL ho hg,(h.tx.keep hg hr (by decide)).keep ah cd (by decide),(h.tk.keep hg hr (by decide)).keep ah cd (by decide),(h.tl.keep hg hr (by decide)).keep ah cd (by decide),h.nx,h.nk,lg.grown ah (lg.not_row cd),Af h.sz (Af hg.size ah.size)⟩,
  (gQ hg hr).trans (kO k2 2 v),λb cs hb=>(hb.keep hg hr (by decide)).keep ah cd (by decide),k2⟩
theorem TB.keepN {w w':World} {b:Nat} {cs:Array Value} {t:TypeId} {row:Option Nat} (h:TB w b cs t) (hg:w.grownBy w' row) (aq:row≠some b):TB w' b cs t:=(hg.block b h.lt (λe=>aq e.symm)).trans h
theorem LbJ.pushA (h:LbJ w s n lv ds xb kb lb size x d W) {v:Value} {l:List cY} (ho:aT w' s 208 3 uN v l) (hg:W.grownBy w' d.vA.ownBlock) (hf:pZ W d.vA v) :
  LbJ w s n lv ds xb kb lb size x { d with vA:=v,al:=l } (w'.setCell ⟨s+7,0,none⟩ v)/\KeepsFrom size W (w'.setCell ⟨s+7,0,none⟩ v)/\TB w' (s+7) #[d.vA] 209:=by
 have hr:=RT.own h.st.oA;have k8:=h.st.b8.keep hg hr (by decide);have ah:=bG w' (s+7) 0 v;have cd:=k8.rt;have lg:=h.mks.grown hg (h.mks.not_row hr)
 have fr:∀b,b<W.heap.size->d.vA.ownBlock≠some b->v.ownBlock≠some b:=λb hb aq e=>by
  rcases hf with hf|⟨q,hq,np⟩
  ·exact aq (hf▸e)
  ·have:q=b:=Option.some.inj (hq.symm.trans e)
   omega
 exact⟨⟨h.st.pushA ho hg,(h.tx.keepN hg h.nx).keep ah cd (by decide),(h.tk.keepN hg h.nk).keep ah cd (by decide),(h.tl.keep hg hr (by decide)).keep ah cd (by decide),fr xb h.tx.lt h.nx,fr kb h.tk.lt h.nk,lg.grown ah (lg.not_row cd),Af h.sz (Af hg.size ah.size)⟩,
  (gQ hg hr).trans (kO k8 0 v),k8⟩
theorem LbJ.keepB {d':BD} {W':World} (h:LbJ w s n lv ds xb kb lb size x d W) (h':LbJ w s n lv ds xb kb lb size x d' W'):bH (λb=>b<s\/b=kb\/b=lb) W W':=λb hb=>by
 rcases hb with hb|hb|hb
 ·have ee:b<w.heap.size:=by rw[<-h.st.s0];exact hb
  rw[Below.block h.st.gr b ee,Below.block h'.st.gr b ee]
 ·rw[hb,h.tk,h'.tk]
 ·rw[hb,h.tl,h'.tl]
def xW0 (K:Act->World->Prop):Exit->Act->World->Prop
 | .normal,a,w=>K a w
 | _,_,_=>False
theorem eH (K:Act->World->Prop) (a:Act) (w:World):xW0 K .normal a w=K a w:=rfl
theorem kQ {P:Program} {c:Code} {K:Act->World->Prop} {Q:Exit->Act->World->Prop} {a:Act} {w:World} (h:c.wp P (xW0 K) a w):c.wp P (Exit.then K Q) a w:=λb k cs=>by
 obtain⟨e,a',w',q,r⟩:=h b k cs;refine⟨e,a',w',?_,r⟩;cases e<;>first|exact q|exact q.elim
end
section
open Go Go.RowKit Go.Shelf
def xK0 (V w':World) (X:Nat->Prop):Prop:=∀k,k<V.heap.size->¬X k->w'.heap[k]?=V.heap[k]?
variable {V w':World} {X:Nat->Prop}
theorem kE {p:Addr} {v:Value} (hc:V.cell? p=some v) (ho:xK0 V w' X) (hx:¬X p.block):w'.cell? p=some v:=by
 have hb:=World.block_lt_of_cell? _ _ hc;unfold Ax at *;rw[ho _ hb hx];exact hc
theorem uK {α:Type} {base:Nat} {e:TypeId} {k:Nat} {enc:α->List Value} {v:Value} {xs:List α} (h:aT V base e k enc v xs) (ho:xK0 V w' X) (hx:∀q,X q->∃o,V.heap[q]?=some o/\cP0 o≠some e):aT w' base e k enc v xs:=by
 refine⟨h.1,?_⟩;rcases h.2 with h1|⟨g,cap,b9,hv,hb,hh,r⟩
 ·exact Or.inl h1
 ·refine Or.inr ⟨g,cap,b9,hv,hb,?_,r⟩
  rw[ho g (Array.getElem?_eq_some_iff.1 hh).1 (λhX=>?_)]
  ·exact hh
  ·obtain⟨o,h1,h2⟩:=hx g hX
   rw[hh]at h1;cases h1
   exact h2 rfl
theorem iI {vb:Nat} {l:List Bool} (h:gP V vb l) (ho:xK0 V w' X) (fx:¬X vb) (hx:∀q,X q->∃o,V.heap[q]?=some o/\cP0 o≠some 213/\cP0 o≠some 3):gP w' vb l:=by
 obtain⟨wb,h1,h2⟩:=h.c1;obtain⟨vC,h3,h4⟩:=h.c2;exact⟨kE h.c0 ho fx,⟨wb,kE h1 ho fx,uK h2 ho λq hq=>by obtain⟨o,a,b,c⟩:=hx q hq;exact⟨o,a,b⟩⟩,vC,kE h3 ho fx,uK h4 ho λq hq=>by obtain⟨o,a,b,c⟩:=hx q hq;exact⟨o,a,c⟩⟩
theorem fL0 {pb:Nat} {l:List Nat} (h:cH0 V pb l) (ho:xK0 V w' X) (fx:¬X pb) (hx:∀q,X q->∃o,V.heap[q]?=some o/\cP0 o≠some 213/\cP0 o≠some 3):cH0 w' pb l:=by
 obtain⟨wb,h1,h2,h3⟩:=h.c2;exact⟨kE h.c0 ho fx,kE h.c1 ho fx,wb,h1,kE h2 ho fx,uK h3 ho λq hq=>by obtain⟨o,a,b,c⟩:=hx q hq;exact⟨o,a,b⟩⟩
theorem pW (V:World) (b o:Nat) (v:Value):xK0 V (V.setCell ⟨b,o,none⟩ v) (λk=>k=b):=λk _ hk=>Below.heap_setCell _ _ _ k (λe=>hk e)
theorem TB.al {w:World} {b:Nat} {cs:Array Value} {t:TypeId} (h:TB w b cs t) (o:Obj):TB (w.alloc o) b cs t:=h.keep (τ:=Option.none) (Al _ _ none) (RT.none _ _) (by simp)
theorem TB.gr {w w':World} {b:Nat} {cs:Array Value} {t:TypeId} (h:TB w b cs t) (hg:aB w w'):TB w' b cs t:=(Below.block hg b h.lt).trans h
structure LbE (w V:World) (s:Nat) (cs:Array Value) (vL nv vI vD:Value) (lab:List UInt8) (nd:List Nat) (isl:List Bool) (idl:List Nat) (ds:List Nat):Prop where
 b4:TB V (s+3) #[.pointer (some ⟨s+2,0,none⟩)] 100
 b3:TB V (s+2) cs 204
 oL:aT V s 5 1 aQ vL lab
 oN:aT V s 3 1 fI nv nd
 oI:aT V s 4 1 mT vI isl
 oD:aT V s 213 1 gT vD idl
 mks:iU V s ds
 gr:aB w V
theorem LbE.grows {w V V':World} {s:Nat} {cs:Array Value} {vL nv vI vD:Value} {lab:List UInt8} {nd:List Nat} {isl:List Bool} {idl:List Nat} {ds:List Nat} (h:LbE w V s cs vL nv vI vD lab nd isl idl ds) (hg:aB V V'):LbE w V' s cs vL nv vI vD lab nd isl idl ds :=
 ⟨h.b4.gr hg,h.b3.gr hg,h.oL.grows hg,h.oN.grows hg,h.oI.grows hg,h.oD.grows hg,⟨λD hD=>⟨(h.mks.at_ D hD).1,(Below.block hg D (Array.getElem?_eq_some_iff.1 (h.mks.at_ D hD).2).1).trans (h.mks.at_ D hD).2⟩,h.mks.nodup⟩,h.gr.tr hg⟩
theorem LbE.set {w V:World} {s:Nat} {cs:Array Value} {vL nv vI vD:Value} {lab:List UInt8} {nd:List Nat} {isl:List Bool} {idl:List Nat} {ds:List Nat} (h:LbE w V s cs vL nv vI vD lab nd isl idl ds) (hs:w.heap.size<=s) (o:Nat) (v:Value) :
  LbE w (V.setCell ⟨s+2,o,none⟩ v) s (cs.setIfInBounds o v) vL nv vI vD lab nd isl idl ds:=by
 have hg:=bG V (s+2) o v;have hr:=h.b3.rt;exact⟨h.b4.keep hg hr (by decide),h.b3.set o v,aJ h.oL hg hr (by decide),aJ h.oN hg hr (by decide),aJ h.oI hg hr (by decide),aJ h.oD hg hr (by decide),h.mks.grown hg (h.mks.not_row hr),h.gr.set (show w.heap.size<=s+2 by omega) _⟩
theorem xD {V:World} {lo:Nat} {ds:List Nat} (h:iU V lo ds) (e:TypeId):∀q,(λk=>k∈ds) q->∃o,V.heap[q]?=some o/\cP0 o≠some e:=λq hq=>⟨_,(h.at_ q hq).2,by simp[cP0]⟩
theorem jZ {V:World} {b:Nat} {cs:Array Value} (h:TB V b cs 204):∀q,(λk=>k=b) q->∃o,V.heap[q]?=some o/\cP0 o≠some 213/\cP0 o≠some 3:=λq hq=>by
 have:q=b:=hq
 subst this;exact⟨_,h,by simp[cP0],by simp[cP0]⟩
theorem nH {V:World} {lo:Nat} {ds:List Nat} (h:iU V lo ds):∀q,(λk=>k∈ds) q->∃o,V.heap[q]?=some o/\cP0 o≠some 213/\cP0 o≠some 3:=λq hq=>⟨_,(h.at_ q hq).2,by simp[cP0],by simp[cP0]⟩
theorem oT {V:World} {lo:Nat} {ds:List Nat} (h:iU V lo ds) {p:Addr} {v:Value} (hc:V.cell? p=some v):¬p.block∈ds:=λgb=>by
 have h1:=(h.at_ _ gb).2;unfold Ax at hc;simp[h1]at hc
theorem lX0 (w:World) (n:Nat) (lv:Value) (hn:n<=20000) {b2 b3 b5 b7:Nat} (h2:b2=w.heap.size+1) (h3:b3=w.heap.size+2) (h5:b5=w.heap.size+4) (h7:b7=w.heap.size+6) :
  Bst w ((((((((w.alloc (.cells #[lv] 65)).alloc (.cells (madeCells #[.int .i64 0] n) 3)).alloc (.cells #[.pointer none,.pointer none,.slice none 0 0,.pointer none,.slice (some ⟨b2,0,none⟩) n n] 204)).alloc
   (.cells #[.pointer (some ⟨b3,0,none⟩)] 100)).alloc (.cells #[.bool true,.bool false] 4)).alloc (.cells #[.slice (some ⟨b5,0,none⟩) 2 2] 205)).alloc (.cells #[.int .i64 0,.int .i64 n,.int .i64 0] 208)).alloc (.cells #[.slice (some ⟨b7,0,none⟩) 1 1] 209))
   w.heap.size n lv { vS:=.slice (some ⟨b5,0,none⟩) 2 2,vA:=.slice (some ⟨b7,0,none⟩) 1 1,vL:=.slice none 0 0,vI:=.slice none 0 0,vD:=.slice none 0 0,sh:=[true,false],al:=[⟨0,n,0⟩],lab:=[],isl:=[],idl:=[],nd:=Ac n 0 }:=by
 obtain⟨s,hs⟩:=exq w.heap.size;obtain⟨W1,e1⟩:=exq (w.alloc (.cells #[lv] 65));obtain⟨W2,e2⟩:=exq (W1.alloc (.cells (madeCells #[.int .i64 0] n) 3));obtain⟨W3,e3⟩:=exq (W2.alloc (.cells #[.pointer none,.pointer none,.slice none 0 0,.pointer none,.slice (some ⟨b2,0,none⟩) n n] 204));obtain⟨W4,e4⟩:=exq (W3.alloc (.cells #[.pointer (some ⟨b3,0,none⟩)] 100));obtain⟨W5,e5⟩:=exq (W4.alloc (.cells #[.bool true,.bool false] 4));obtain⟨W6,e6⟩:=exq (W5.alloc (.cells #[.slice (some ⟨b5,0,none⟩) 2 2] 205));obtain⟨W7,e7⟩:=exq (W6.alloc (.cells #[.int .i64 0,.int .i64 n,.int .i64 0] 208));obtain⟨W8,e8⟩:=exq (W7.alloc (.cells #[.slice (some ⟨b7,0,none⟩) 1 1] 209));have z1:W1.heap.size=s+1:=by rw[e1,hs];simp
 have z2:W2.heap.size=s+2:=by rw[e2,Ai,z1]
 have z3:W3.heap.size=s+3:=by rw[e3,Ai,z2]
 have z4:W4.heap.size=s+4:=by rw[e4,Ai,z3]
 have z5:W5.heap.size=s+5:=by rw[e5,Ai,z4]
 have z6:W6.heap.size=s+6:=by rw[e6,Ai,z5]
 have z7:W7.heap.size=s+7:=by rw[e7,Ai,z6]
 have g2:aB W1 W2:=by rw[e2];exact aB.alloc _ _
 have g3:aB W2 W3:=by rw[e3];exact aB.alloc _ _
 have g4:aB W3 W4:=by rw[e4];exact aB.alloc _ _
 have g5:aB W4 W5:=by rw[e5];exact aB.alloc _ _
 have g6:aB W5 W6:=by rw[e6];exact aB.alloc _ _
 have g7:aB W6 W7:=by rw[e7];exact aB.alloc _ _
 have g8:aB W7 W8:=by rw[e8];exact aB.alloc _ _
 have g1:aB w W1:=by rw[e1];exact aB.alloc _ _
 have t1:TB W1 s #[lv] 65:=by rw[e1,hs];exact TB.alloc _ _ _
 have t3:TB W3 (s+2) #[.pointer none,.pointer none,.slice none 0 0,.pointer none,.slice (some ⟨b2,0,none⟩) n n] 204:=by rw[e3,<-z2];exact TB.alloc _ _ _
 have t4:TB W4 (s+3) #[.pointer (some ⟨b3,0,none⟩)] 100:=by rw[e4,<-z3];exact TB.alloc _ _ _
 have t6:TB W6 (s+5) #[.slice (some ⟨b5,0,none⟩) 2 2] 205:=by rw[e6,<-z5];exact TB.alloc _ _ _
 have t8:TB W8 (s+7) #[.slice (some ⟨b7,0,none⟩) 1 1] 209:=by rw[e8,<-z7];exact TB.alloc _ _ _
 have oN:aT W2 s 3 1 fI (.slice (some ⟨s+1,0,none⟩) n n) (Ac n 0):=by
  have h:=zF (w:=W1) (n:=n) (by omega);rw[Ak,<-e2,z1]at h;exact h.base (by omega)
 have oS:aT W5 s 4 1 mT (.slice (some ⟨s+4,0,none⟩) 2 2) [true,false]:=by
  have h:=fZ (w:=W4) (e:=4) (enc:=mT) (λ_=>rfl) (base:=s) (n:=2) (by omega) [true,false] (cs:=#[.bool true,.bool false]) rfl rfl (by unfold maxLen;omega);rw[<-e5,z4]at h;exact h
 have oA:aT W7 s 208 3 uN (.slice (some ⟨s+6,0,none⟩) 1 1) [⟨0,n,0⟩]:=by
  have h:=fZ (w:=W6) (e:=208) (enc:=uN) (k:=3) (λ_=>rfl) (base:=s) (n:=1) (by omega) [⟨0,n,0⟩] (cs:=#[.int .i64 0,.int .i64 n,.int .i64 0]) rfl rfl (by unfold maxLen;omega);rw[<-e7,z6]at h;exact h
 rw[<-e1,<-e2,<-e3,<-e4,<-e5,<-e6,<-e7,<-e8,<-hs];rw[<-hs]at h2 h3 h5 h7;subst h2;subst h3;subst h5;subst h7
 exact⟨(((((((t1.gr g2).gr g3).gr g4).gr g5).gr g6).gr g7).gr g8),((((t4.gr g5).gr g6).gr g7).gr g8),(((((t3.gr g4).gr g5).gr g6).gr g7).gr g8),((t6.gr g7).gr g8),t8,
  aT.nil _ _ _ _ _,((((((oN.grows g3).grows g4).grows g5).grows g6).grows g7).grows g8),(((oS.grows g6).grows g7).grows g8),oA.grows g8,aT.nil _ _ _ _ _,aT.nil _ _ _ _ _,λq _ h=>by simp[Value.ownBlock]at h,
  ((((((g1.tr g2).tr g3).tr g4).tr g5).tr g6).tr g7).tr g8,hs⟩
end
end Go.Proofs.YthgklnohcmaopaaGreatDoor
