/- The texts Kid Lb1 Lb0 Lb3, one behind the other. -/
import Derived.Test.YtepoiefadjoabaaGreatDoorH37
import Derived.Test.YtepoiefadjoabaaGreatDoorH29
import Derived.Shelf.Abstract
import Derived.OwnWalkIn
import Derived.LoopNIn
import Derived.LoopIn
import Derived.Test.YtepoiefadjoabaaGreatDoorH7
namespace Go.Proofs.YtepoiefadjoabaaGreatDoor
open Go Go.RowKit Go.Shelf
attribute [local go_sem] quietE quietE2
abbrev KidOf (L : List (List UInt8)) (x : Span) := { y : Span // y ∈ kids L x }
def spanV (y : Span) : Value := .agg #[.int .i64 y.i, .int .i64 y.t, .int .i64 y.d]
def KeepB (S : Nat → Prop) (W W' : World) : Prop := ∀ b, S b → W'.heap[b]? = W.heap[b]?
theorem KeepB.refl (S : Nat → Prop) (W : World) : KeepB S W W := fun _ _ => rfl
theorem KeepB.tr {S : Nat → Prop} {A B C : World} (h : KeepB S A B) (k : KeepB S B C) : KeepB S A C := fun b hb => (k b hb).trans (h b hb)
theorem KeepB.cell {S : Nat → Prop} {W W' : World} (h : KeepB S W W') {p : Addr} {v : Value} (hp : S p.block) (hc : W.cell? p = some v) : W'.cell? p = some v := by
 unfold World.cell? at *
 rw [h _ hp];exact hc
theorem KeepB.at_ {S : Nat → Prop} {W W' : World} (h : KeepB S W W') {a : Option Addr} {k : Nat} {rows : List (List Value)} (ha : ∀ q, a = some q → S q.block) (hat : AtCells W a k rows) : AtCells W' a k rows := fun hn => by
 obtain ⟨b,off,e,hc⟩:=hat hn
 exact ⟨b,off,e,fun i cs hi j v hj => h.cell (p:=⟨b,off + i * k + j,none⟩) (ha ⟨b,off,none⟩ e) (hc i cs hi j v hj)⟩
theorem KeepB.of_below {S : Nat → Prop} {n : Nat} {W W' : World} (h : Below n W W') (hS : ∀ b, S b → b < n) : KeepB S W W' := fun b hb => Below.block h b (hS b hb)
theorem KeepB.drew (S : Nat → Prop) (W : World) : KeepB S W W.drew := fun _ _ => rfl
set_option maxHeartbeats 1000000 in
set_option maxRecDepth 100000 in
theorem kid_stops (n : Nat) (B : List ByteArray) (a : Option Addr) (c bx bL : Nat) (x : Span) (S : Nat → Prop) (w : World) (hB : B.length ≤ 20000) (hsz : ∀ s ∈ B, s.size ≤ 256) (hasc : Asc (bls B)) (g : Good (bls B) x)
  (hSx : S bx) (hSL : S bL) (hSa : ∀ q,a = some q → S q.block) (hlt : ∀ b,S b → b < w.heap.size)
  (hx0 : w.cell? ⟨bx,0,none⟩ = some (.int .i64 x.i)) (hx1 : w.cell? ⟨bx,1,none⟩ = some (.int .i64 x.t)) (hx2 : w.cell? ⟨bx,2,none⟩ = some (.int .i64 x.d))
  (hL : w.cell? ⟨bL,0,none⟩ = some (.slice a B.length c)) (hat : AtCells w a 1 (B.map stC)) :
  SeqStopsK Fence.wide n Tryz.prog 137 #[.pointer (some ⟨bx,0,none⟩),.pointer (some ⟨bL,0,none⟩)] (fun y : KidOf (bls B) x => #[spanV y.1]) (KeepB S) (fun ys => ys.map (·.1) = kids (bls B) x) (fun _ => True) (kids (bls B) x).length w:=by
 intro l J Jx W hW hJ _ hY h0
 have hK0 : KeepB S w W:=KeepB.of_below hW hlt
 have HY:=Lib.hid hY
 have HJ:=Lib.hid hJ
 have hJd : Hid (∀ pre V,J pre V → J pre V.drew):=fun pre V h => hJ pre V V.drew none h ⟨rfl,rfl,rfl,Nat.le_refl _,fun _ _ _ => rfl⟩ (fun r e => by cases e)
 obtain ⟨c0,hc0⟩ : ∃ f : World → Prop,f = fun V => V.cell? ⟨bx,0,none⟩ = some (.int .i64 x.i)∧V.cell? ⟨bx,1,none⟩ = some (.int .i64 x.t)∧V.cell? ⟨bx,2,none⟩ = some (.int .i64 x.d)∧V.cell? ⟨bL,0,none⟩ = some (.slice a B.length c)∧AtCells V a 1 (B.map stC):=⟨_,rfl⟩
 have CEL : Hid (∀ V,KeepB S w V → c0 V):=fun V hV => by
  rw [hc0]
  exact ⟨hV.cell hSx hx0,hV.cell hSx hx1,hV.cell hSx hx2,hV.cell hSL hL,hV.at_ hSa hat⟩
 have HC0:=Lib.hid hc0
 have HG:=Lib.hid g
 have HASC:=Lib.hid hasc
 obtain ⟨le1,le2⟩:=g.le
 rw [bls_len] at le2
 obtain ⟨xi,xt,xd⟩:=x
 simp only at le1 le2 hx0 hx1 hx2
 have hd256 : xd ≤ 256 ∨ xi = xt:=by
  rcases Nat.lt_or_ge xi xt with h | h
  ·refine Or.inl ?_
   have h1:=g.len xi (Nat.le_refl _) h
   obtain ⟨s,hs⟩ : ∃ s,B[xi]? = some s:=⟨_,List.getElem?_eq_getElem (by omega)⟩
   rw [nth_bls hs,bl_len] at h1
   have:=hsz s (List.mem_of_getElem? hs)
   simp only at h1;omega
  ·exact Or.inr (by omega)
 have HSZ:=Lib.hid hsz
 have HD:=Lib.hid hd256
 have ST : Hid (J [] W):=h0
 clear hY hJ hc0 hx0 hx1 hx2 hL hat g hasc hsz hd256 h0 hlt hW
 refine callsIn_wide.2 ?_
 obtain ⟨d0,d1,d2,dL,dA⟩ : W.cell? ⟨bx,0,none⟩ = some (.int .i64 xi)∧W.cell? ⟨bx,1,none⟩ = some (.int .i64 xt)∧W.cell? ⟨bx,2,none⟩ = some (.int .i64 xd)∧W.cell? ⟨bL,0,none⟩ = some (.slice a B.length c)∧AtCells W a 1 (B.map stC):=by
  have:=CEL.out W hK0;rw [HC0.out] at this;exact this
 have z0 : ∀ y : Ext Grows W.drew,y.u.cell? ⟨bx,0,none⟩ = some (.int .i64 xi):=ext_cell ((Grows.drew W).cell d0)
 have z1 : ∀ y : Ext Grows W.drew,y.u.cell? ⟨bx,1,none⟩ = some (.int .i64 xt):=ext_cell ((Grows.drew W).cell d1)
 have z2 : ∀ y : Ext Grows W.drew,y.u.cell? ⟨bx,2,none⟩ = some (.int .i64 xd):=ext_cell ((Grows.drew W).cell d2)
 have zL : ∀ y : Ext Grows W.drew,y.u.cell? ⟨bL,0,none⟩ = some (.slice a B.length c):=ext_cell ((Grows.drew W).cell dL)
 by_cases hne : xi < xt
 case neg =>
  have hni : ¬ (xi : Int) < xt:=by omega
  have hks : kids (bls B) ⟨xi,xt,xd⟩ = []:=by
   unfold kids
   exact kidsFrom_end (by unfold kidStart;simp only;split <;> omega)
  have FIN : Hid (∃ xs : List (KidOf (bls B) ⟨xi,xt,xd⟩),xs.map (·.1) = kids (bls B) ⟨xi,xt,xd⟩∧J xs W.drew):=⟨[],hks.symm,hJd.out _ _ ST.out⟩
  clear hks
  have e1:=(Grows.drew W).cell d1
  go_enter Tryz.func137,Tryz.ntmps137
  go_wp2_with fail
  refine t_region (Grows) [(0,false),(1,false),(2,false),(3,false),(4,false),(5,false),(6,false),(7,false),(8,false),(9,false),(10,false),(11,false),(12,false),(13,false)] Grows.refl Grows.trans (by kernel_rfl) (by kernel_rfl) (fun d _ _ _ _ h => by cases d <;> exact h) ?_
  iterate 14 (refine t_quiet rfl (fun K hK => ?_);go_simp;refine hK _ ?_;clear hK K)
  refine t_end ?_
  clear z0 z1 z2 zL
  go_wp2_with fail
  go_loopw [4] (fun u wr => u = .int .i64 xi∧Hid (wr = W.drew)) (fun _ _ => 0)
  case atStart => exact ⟨rfl,rfl⟩
  case round =>
   obtain ⟨rfl,hw⟩:=hrel
   obtain rfl:=hw.out
   go_wp2_with fail
   refine bodyPost_end (results_none rfl _ _ _) rfl ⟨⟨_,rfl⟩,.inl FIN.out⟩
 case pos =>
  have hB0 : 0 < B.length:=by omega
  obtain ⟨sb,so,rfl,hcs⟩:=at1 (f:=fun s : ByteArray => Value.string s) dA (ne_nil_of_lt (k:=0) hB0)
  have hxd : xd ≤ 256:=by rcases HD.out with h | h <;> omega
  have CELL : Hid (∀ V,KeepB S w V → V.cell? ⟨bx,1,none⟩ = some (.int .i64 xt)∧V.cell? ⟨bx,2,none⟩ = some (.int .i64 xd)∧V.cell? ⟨bL,0,none⟩ = some (.slice (some ⟨sb,so,none⟩) B.length c)∧∀ j s,B[j]? = some s → V.cell? ⟨sb,so + j,none⟩ = some (.string s)):=fun V hV => by
   have h:=CEL.out V hV
   rw [HC0.out] at h
   obtain ⟨_,h1,h2,h3,h4⟩:=h
   obtain ⟨b',o',e,h5⟩:=at1 (f:=fun s : ByteArray => Value.string s) h4 (ne_nil_of_lt (k:=0) hB0)
   have e1 : sb = b'∧so = o':=by simpa using e
   rw [← e1.1,← e1.2] at h5
   exact ⟨h1,h2,h3,h5⟩
  obtain ⟨s0,hs0⟩ : ∃ s,B[xi]? = some s:=⟨_,List.getElem?_eq_getElem (by omega)⟩
  have hn0:=nth_bls hs0
  have y0 : ∀ y : Ext Grows W.drew,y.u.cell? ⟨sb,so + xi,none⟩ = some (.string s0):=ext_cell ((Grows.drew W).cell (hcs xi s0 hs0))
  have hxli : (xi : Int) < B.length:=by omega
  have hni : (xi : Int) < xt:=by omega
  have KD : Hid (KeepB S w W.drew):=hK0.tr (KeepB.drew S W)
  obtain ⟨I0,hI0⟩ : ∃ I0,I0 = kidStart (bls B) ⟨xi,xt,xd⟩:=⟨_,rfl⟩
  have START : Hid (I0 ≤ xt∧I0 = kidStart (bls B) ⟨xi,xt,xd⟩∧J [] W.drew):=⟨by rw [hI0];unfold kidStart;simp only;split <;> omega,hI0,hJd.out _ _ ST.out⟩
  clear hK0 d1 d2 dL dA hcs
  have LOOP : Hid (xi ≤ I0):=by show _ ≤ _;rw [hI0];unfold kidStart;simp only;split <;> omega
  by_cases hh : s0.size = xd
  ·have hI1 : I0 = xi + 1:=by
    rw [hI0];unfold kidStart here;rw [if_pos]
    simp [hne,hn0,bl_len,hh]
   have hhi : ((s0.size : Int) == xd) = true:=by rw [hh];simp
   have wI : IntKind.i64.wrap ((xi : Int) + 1) = I0:=by simp [IntKind.wrap,IntKind.bits,IntKind.signed];omega
   have HI1:=Lib.hid hI1
   clear hI0 hI1 hh hn0 hs0
   go_enter Tryz.func137,Tryz.ntmps137
   go_wp2_with fail
   refine t_region (Grows) [(0,false),(1,false),(2,false),(3,false),(4,false),(5,false),(6,false),(7,false),(8,false),(9,false),(10,false),(11,false),(12,false),(13,false)] Grows.refl Grows.trans (by kernel_rfl) (by kernel_rfl) (fun d _ _ _ _ h => by cases d <;> exact h) ?_
   iterate 14 (refine t_quiet rfl (fun K hK => ?_);go_simp;refine hK _ ?_;clear hK K)
   refine t_end ?_
   clear z0 z1 z2 zL y0 d0
   go_wp2_with fail
   go_loopw [4] (fun u wr => ∃ (I : Nat) (pre : List (KidOf (bls B) ⟨xi,xt,xd⟩)),u = .int .i64 I∧xi ≤ I∧I ≤ xt∧Hid (kidStart (bls B) ⟨xi,xt,xd⟩ ≤ I∧pre.map (·.1) ++ kidsFrom (bls B) xd xt I = kids (bls B) ⟨xi,xt,xd⟩)∧Hid (KeepB S w wr)∧Hid (J pre wr)) (fun u _ => xt - (intOf u).toNat)
   case atStart =>
    refine ⟨I0,[],by first | go_num | (rw [HI1.out]),LOOP.out,START.out.1,⟨by rw [START.out.2.1];exact Nat.le_refl _, ?_⟩,KD.out,START.out.2.2⟩
    rw [START.out.2.1];rfl
   case round =>
    clear START KD LOOP ST
    obtain ⟨I,pre,rfl,hxI,hIt,hP,hK,hJs⟩:=hrel
    obtain ⟨d1,d2,dL,dS⟩:=CELL.out wr hK.out
    by_cases hlt : I < xt
    ·have hlti : (I : Int) < xt:=by omega
     obtain ⟨sI,hsI⟩ : ∃ s,B[I]? = some s:=⟨_,List.getElem?_eq_getElem (by omega)⟩
     have hdI : xd < (nth (bls B) I).length:=HG.out.start HASC.out (j:=I) hP.out.1 hlt
     rw [nth_bls hsI,bl_len] at hdI
     have wK : IntKind.i64.wrap ((I : Int) + 1) = (I + 1 : Nat):=by simp [IntKind.wrap,IntKind.bits,IntKind.signed];omega
     have KI:=Lib.hid hK.out
     have JI:=Lib.hid hJs.out
     have HSI:=Lib.hid hsI
     clear dL dS d2 hK hJs hsI
     go_wp2_with fail
     go_loopw [5] (fun u wq => ∃ (K : Nat),u = .int .i64 K∧I + 1 ≤ K∧K ≤ xt∧Hid (kidEnd (bls B) xd xt I = runTo (sameAt (bls B) xd I) xt K)∧Hid (KeepB S w wq)∧Hid (J pre wq)) (fun u _ => xt - (intOf u).toNat)
     case atStart => exact ⟨I + 1,by go_num,Nat.le_refl _,hlt,rfl,KI.out,JI.out⟩
     case round =>
      clear KI JI
      obtain ⟨K,rfl,hIK,hKt,hE,hK,hJs⟩:=hrel
      obtain ⟨d1,d2,dL,dS⟩:=CELL.out wr hK.out
      have x1 : ∀ y : Ext Grows wr.drew,y.u.cell? ⟨bx,1,none⟩ = some (.int .i64 xt):=ext_cell ((Grows.drew wr).cell d1)
      have x2 : ∀ y : Ext Grows wr.drew,y.u.cell? ⟨bx,2,none⟩ = some (.int .i64 xd):=ext_cell ((Grows.drew wr).cell d2)
      have xL : ∀ y : Ext Grows wr.drew,y.u.cell? ⟨bL,0,none⟩ = some (.slice (some ⟨sb,so,none⟩) B.length c):=ext_cell ((Grows.drew wr).cell dL)
      have xI : ∀ y : Ext Grows wr.drew,y.u.cell? ⟨sb,so + I,none⟩ = some (.string sI):=ext_cell ((Grows.drew wr).cell (dS I sI HSI.out))
      have hIl : (I : Int) < B.length:=by omega
      have K2:=Lib.hid (hK.out.tr (KeepB.drew S wr))
      have J2:=Lib.hid (hJd.out _ _ hJs.out)
      by_cases hlt2 : K < xt
      ·have hlt2i : (K : Int) < xt:=by omega
       obtain ⟨sK,hsK⟩ : ∃ s,B[K]? = some s:=⟨_,List.getElem?_eq_getElem (by omega)⟩
       have hdK : xd < (nth (bls B) K).length:=HG.out.start HASC.out (j:=K) (by have:=hP.out.1;omega) hlt2
       rw [nth_bls hsK,bl_len] at hdK
       have hdIi : (xd : Int) < sI.size:=by omega
       have hdKi : (xd : Int) < sK.size:=by omega
       have hKl : (K : Int) < B.length:=by omega
       have xK : ∀ y : Ext Grows wr.drew,y.u.cell? ⟨sb,so + K,none⟩ = some (.string sK):=ext_cell ((Grows.drew wr).cell (dS K sK hsK))
       have wK2 : IntKind.i64.wrap ((K : Int) + 1) = (K + 1 : Nat):=by simp [IntKind.wrap,IntKind.bits,IntKind.signed];omega
       by_cases he : sK[xd] = sI[xd]
       ·have hb : ((sK[xd].toNat : Int) == sI[xd].toNat) = true:=by rw [he];simp
        have SM : Hid (sameAt (bls B) xd I K = true):=by
         show _ = _
         unfold sameAt
         rw [nth_bls hsK,nth_bls HSI.out,bl_get hdK,bl_get hdI,he];simp
        clear d1 d2 dL dS hsK he hK hJs
        go_wp2_with fail
        refine t_region (Grows) [(0,false),(1,false),(2,false),(3,false),(4,false),(5,false),(6,false),(7,false),(8,false),(9,false),(10,false),(11,false),(12,false),(13,false),(14,false),(15,false),(16,false),(17,false),(18,false),(19,false),(20,false)] Grows.refl Grows.trans (by kernel_rfl) (by kernel_rfl) (fun d _ _ _ _ h => by cases d <;> exact h) ?_
        iterate 21 (refine t_quiet rfl (fun K hK => ?_);go_simp;refine hK _ ?_;clear hK K)
        refine t_end ?_
        clear x1 x2 xL xI xK
        go_wp2_with fail
        go_roundw
        case rel => exact ⟨K + 1,by go_num,by omega,hlt2,by rw [hE.out,runTo_step hlt2 SM.out];exact rfl,K2.out,J2.out⟩
        case measure => simp [intOf];omega
       ·have hb : ((sK[xd].toNat : Int) == sI[xd].toNat) = false:=by
         rw [beq_eq_false_iff_ne]
         intro h
         exact he (UInt8.toNat_inj.1 (by omega))
        have SM : Hid (kidEnd (bls B) xd xt I = K):=by
         show _ = _
         rw [hE.out,runTo_stop]
         rintro ⟨_,h⟩
         unfold sameAt at h
         rw [nth_bls hsK,nth_bls HSI.out,bl_get hdK,bl_get hdI] at h
         simp at h
         exact he h
        clear d1 d2 dL dS hsK he hK hJs
        go_wp2_with fail
        refine t_region (Grows) [(0,false),(1,false),(2,false),(3,false),(4,false),(5,false),(6,false),(7,false),(8,false),(9,false),(10,false),(11,false),(12,false),(13,false),(14,false),(15,false),(16,false),(17,false),(18,false),(19,false),(20,false)] Grows.refl Grows.trans (by kernel_rfl) (by kernel_rfl) (fun d _ _ _ _ h => by cases d <;> exact h) ?_
        iterate 21 (refine t_quiet rfl (fun K hK => ?_);go_simp;refine hK _ ?_;clear hK K)
        refine t_end ?_
        clear x1 x2 xL xI xK
        have e2:=K2.out
        have hst:=kidsFrom_step (L:=bls B) (d:=xd) (t:=xt) (i:=I) hlt
        rw [SM.out] at hst
        have hmem : (⟨I,K,xd + 1⟩ : Span) ∈ kids (bls B) ⟨xi,xt,xd⟩:=by
         rw [← hP.out.2,hst];simp
        have hlen : pre.length < (kids (bls B) ⟨xi,xt,xd⟩).length:=by
         rw [← hP.out.2,hst];simp
        have PN : Hid ((pre ++ [(⟨⟨I,K,xd + 1⟩,hmem⟩ : KidOf (bls B) ⟨xi,xt,xd⟩)]).map (fun y => y.1) ++ kidsFrom (bls B) xd xt K = kids (bls B) ⟨xi,xt,xd⟩):=by
         have h2:=hP.out.2
         rw [hst] at h2
         show _ = _
         rw [List.map_append,List.append_assoc]
         exact h2
        obtain ⟨fn,tmps,assign,body,hy,hR⟩:=HY.out pre ⟨⟨I,K,xd + 1⟩,hmem⟩ wr.drew J2.out hlen
        dsimp only [spanV] at hy
        have hcast : ((xd + 1 : Nat) : Int) = (xd : Int) + 1:=by omega
        rw [hcast] at hy
        have hRR:=Lib.hid hR
        have PS : Hid (kidStart (bls B) ⟨xi,xt,xd⟩ ≤ K):=by have:=hP.out.1;show _ ≤ _;omega
        have d2:=(CELL.out _ K2.out).2.1
        have wd : IntKind.i64.wrap ((xd : Int) + 1) = (xd + 1 : Nat):=by simp [IntKind.wrap,IntKind.bits,IntKind.signed];omega
        clear hst hR hlen e2 hP hcast wd
        iterate 10 go_step
        refine in_wide 7 n ?_
        gi_wp2
        refine ⟨fun h => (by cases h), ?_⟩
        refine hRR.out.mono ?_
        rintro e W3 (⟨rfl,hJ3,hk3⟩ | ⟨rfl,hJx3⟩)
        ·gi_wp2
         have K3:=Lib.hid (K2.out.tr hk3)
         have J3:=Lib.hid hJ3
         clear hRR hy hJ3 hk3
         go_wp2_with fail
         go_roundw
         case rel => exact ⟨K,_,by go_num,by omega,hKt,⟨PS.out,PN.out⟩,K3.out,J3.out⟩
         case measure => simp [intOf];omega
        ·have JX:=Lib.hid hJx3
         clear hRR hy hJx3
         gi_wp2
         go_wp2_with fail
         exact bodyPost_ret (results_none rfl _ _ _) rfl ⟨⟨_,rfl⟩,.inr ⟨_,trivial,JX.out⟩⟩
      ·have hlt2i : ¬ (K : Int) < xt:=by omega
       have SM : Hid (kidEnd (bls B) xd xt I = K):=by
        show _ = _
        rw [hE.out,runTo_stop (by omega)]
       clear d1 d2 dL dS hK hJs
       go_wp2_with fail
       refine t_region (Grows) [(0,false),(1,false),(2,false),(3,false),(4,false),(5,false),(6,false),(7,false),(8,false),(9,false),(10,false),(11,false),(12,false),(13,false),(14,false),(15,false),(16,false),(17,false),(18,false),(19,false),(20,false)] Grows.refl Grows.trans (by kernel_rfl) (by kernel_rfl) (fun d _ _ _ _ h => by cases d <;> exact h) ?_
       iterate 21 (refine t_quiet rfl (fun K hK => ?_);go_simp;refine hK _ ?_;clear hK K)
       refine t_end ?_
       clear x1 x2 xL xI
       have e2:=K2.out
       have hst:=kidsFrom_step (L:=bls B) (d:=xd) (t:=xt) (i:=I) hlt
       rw [SM.out] at hst
       have hmem : (⟨I,K,xd + 1⟩ : Span) ∈ kids (bls B) ⟨xi,xt,xd⟩:=by
        rw [← hP.out.2,hst];simp
       have hlen : pre.length < (kids (bls B) ⟨xi,xt,xd⟩).length:=by
        rw [← hP.out.2,hst];simp
       have PN : Hid ((pre ++ [(⟨⟨I,K,xd + 1⟩,hmem⟩ : KidOf (bls B) ⟨xi,xt,xd⟩)]).map (fun y => y.1) ++ kidsFrom (bls B) xd xt K = kids (bls B) ⟨xi,xt,xd⟩):=by
        have h2:=hP.out.2
        rw [hst] at h2
        show _ = _
        rw [List.map_append,List.append_assoc]
        exact h2
       obtain ⟨fn,tmps,assign,body,hy,hR⟩:=HY.out pre ⟨⟨I,K,xd + 1⟩,hmem⟩ wr.drew J2.out hlen
       dsimp only [spanV] at hy
       have hcast : ((xd + 1 : Nat) : Int) = (xd : Int) + 1:=by omega
       rw [hcast] at hy
       have hRR:=Lib.hid hR
       have PS : Hid (kidStart (bls B) ⟨xi,xt,xd⟩ ≤ K):=by have:=hP.out.1;show _ ≤ _;omega
       have d2:=(CELL.out _ K2.out).2.1
       have wd : IntKind.i64.wrap ((xd : Int) + 1) = (xd + 1 : Nat):=by simp [IntKind.wrap,IntKind.bits,IntKind.signed];omega
       clear hst hR hlen e2 hP hcast wd
       iterate 10 go_step
       refine in_wide 7 n ?_
       gi_wp2
       refine ⟨fun h => (by cases h), ?_⟩
       refine hRR.out.mono ?_
       rintro e W3 (⟨rfl,hJ3,hk3⟩ | ⟨rfl,hJx3⟩)
       ·gi_wp2
        have K3:=Lib.hid (K2.out.tr hk3)
        have J3:=Lib.hid hJ3
        clear hRR hy hJ3 hk3
        go_wp2_with fail
        go_roundw
        case rel => exact ⟨K,_,by go_num,by omega,hKt,⟨PS.out,PN.out⟩,K3.out,J3.out⟩
        case measure => simp [intOf];omega
       ·have JX:=Lib.hid hJx3
        clear hRR hy hJx3
        gi_wp2
        go_wp2_with fail
        exact bodyPost_ret (results_none rfl _ _ _) rfl ⟨⟨_,rfl⟩,.inr ⟨_,trivial,JX.out⟩⟩
    ·have hlti : ¬ (I : Int) < xt:=by omega
     have FIN : Hid (∃ xs : List (KidOf (bls B) ⟨xi,xt,xd⟩),xs.map (·.1) = kids (bls B) ⟨xi,xt,xd⟩∧J xs wr):=by
      refine ⟨pre, ?_,hJs.out⟩
      have h:=hP.out.2
      rw [kidsFrom_end hlt,List.append_nil] at h
      exact h
     clear dL dS d2 hK hJs hP
     go_wp2_with fail
     exact bodyPost_end (results_none rfl _ _ _) rfl ⟨⟨_,rfl⟩,.inl FIN.out⟩
  ·have hI1 : I0 = xi:=by
    rw [hI0];unfold kidStart here;rw [if_neg]
    simp [hne,hn0,bl_len,hh]
   have hhi : ((s0.size : Int) == xd) = false:=by
    rw [beq_eq_false_iff_ne];omega
   have HI1:=Lib.hid hI1
   clear hI0 hI1 hh hn0 hs0
   go_enter Tryz.func137,Tryz.ntmps137
   go_wp2_with fail
   refine t_region (Grows) [(0,false),(1,false),(2,false),(3,false),(4,false),(5,false),(6,false),(7,false),(8,false),(9,false),(10,false),(11,false),(12,false),(13,false)] Grows.refl Grows.trans (by kernel_rfl) (by kernel_rfl) (fun d _ _ _ _ h => by cases d <;> exact h) ?_
   iterate 14 (refine t_quiet rfl (fun K hK => ?_);go_simp;refine hK _ ?_;clear hK K)
   refine t_end ?_
   clear z0 z1 z2 zL y0 d0
   go_wp2_with fail
   go_loopw [4] (fun u wr => ∃ (I : Nat) (pre : List (KidOf (bls B) ⟨xi,xt,xd⟩)),u = .int .i64 I∧xi ≤ I∧I ≤ xt∧Hid (kidStart (bls B) ⟨xi,xt,xd⟩ ≤ I∧pre.map (·.1) ++ kidsFrom (bls B) xd xt I = kids (bls B) ⟨xi,xt,xd⟩)∧Hid (KeepB S w wr)∧Hid (J pre wr)) (fun u _ => xt - (intOf u).toNat)
   case atStart =>
    refine ⟨I0,[],by first | go_num | (rw [HI1.out]),LOOP.out,START.out.1,⟨by rw [START.out.2.1];exact Nat.le_refl _, ?_⟩,KD.out,START.out.2.2⟩
    rw [START.out.2.1];rfl
   case round =>
    clear START KD LOOP ST
    obtain ⟨I,pre,rfl,hxI,hIt,hP,hK,hJs⟩:=hrel
    obtain ⟨d1,d2,dL,dS⟩:=CELL.out wr hK.out
    by_cases hlt : I < xt
    ·have hlti : (I : Int) < xt:=by omega
     obtain ⟨sI,hsI⟩ : ∃ s,B[I]? = some s:=⟨_,List.getElem?_eq_getElem (by omega)⟩
     have hdI : xd < (nth (bls B) I).length:=HG.out.start HASC.out (j:=I) hP.out.1 hlt
     rw [nth_bls hsI,bl_len] at hdI
     have wK : IntKind.i64.wrap ((I : Int) + 1) = (I + 1 : Nat):=by simp [IntKind.wrap,IntKind.bits,IntKind.signed];omega
     have KI:=Lib.hid hK.out
     have JI:=Lib.hid hJs.out
     have HSI:=Lib.hid hsI
     clear dL dS d2 hK hJs hsI
     go_wp2_with fail
     go_loopw [5] (fun u wq => ∃ (K : Nat),u = .int .i64 K∧I + 1 ≤ K∧K ≤ xt∧Hid (kidEnd (bls B) xd xt I = runTo (sameAt (bls B) xd I) xt K)∧Hid (KeepB S w wq)∧Hid (J pre wq)) (fun u _ => xt - (intOf u).toNat)
     case atStart => exact ⟨I + 1,by go_num,Nat.le_refl _,hlt,rfl,KI.out,JI.out⟩
     case round =>
      clear KI JI
      obtain ⟨K,rfl,hIK,hKt,hE,hK,hJs⟩:=hrel
      obtain ⟨d1,d2,dL,dS⟩:=CELL.out wr hK.out
      have x1 : ∀ y : Ext Grows wr.drew,y.u.cell? ⟨bx,1,none⟩ = some (.int .i64 xt):=ext_cell ((Grows.drew wr).cell d1)
      have x2 : ∀ y : Ext Grows wr.drew,y.u.cell? ⟨bx,2,none⟩ = some (.int .i64 xd):=ext_cell ((Grows.drew wr).cell d2)
      have xL : ∀ y : Ext Grows wr.drew,y.u.cell? ⟨bL,0,none⟩ = some (.slice (some ⟨sb,so,none⟩) B.length c):=ext_cell ((Grows.drew wr).cell dL)
      have xI : ∀ y : Ext Grows wr.drew,y.u.cell? ⟨sb,so + I,none⟩ = some (.string sI):=ext_cell ((Grows.drew wr).cell (dS I sI HSI.out))
      have hIl : (I : Int) < B.length:=by omega
      have K2:=Lib.hid (hK.out.tr (KeepB.drew S wr))
      have J2:=Lib.hid (hJd.out _ _ hJs.out)
      by_cases hlt2 : K < xt
      ·have hlt2i : (K : Int) < xt:=by omega
       obtain ⟨sK,hsK⟩ : ∃ s,B[K]? = some s:=⟨_,List.getElem?_eq_getElem (by omega)⟩
       have hdK : xd < (nth (bls B) K).length:=HG.out.start HASC.out (j:=K) (by have:=hP.out.1;omega) hlt2
       rw [nth_bls hsK,bl_len] at hdK
       have hdIi : (xd : Int) < sI.size:=by omega
       have hdKi : (xd : Int) < sK.size:=by omega
       have hKl : (K : Int) < B.length:=by omega
       have xK : ∀ y : Ext Grows wr.drew,y.u.cell? ⟨sb,so + K,none⟩ = some (.string sK):=ext_cell ((Grows.drew wr).cell (dS K sK hsK))
       have wK2 : IntKind.i64.wrap ((K : Int) + 1) = (K + 1 : Nat):=by simp [IntKind.wrap,IntKind.bits,IntKind.signed];omega
       by_cases he : sK[xd] = sI[xd]
       ·have hb : ((sK[xd].toNat : Int) == sI[xd].toNat) = true:=by rw [he];simp
        have SM : Hid (sameAt (bls B) xd I K = true):=by
         show _ = _
         unfold sameAt
         rw [nth_bls hsK,nth_bls HSI.out,bl_get hdK,bl_get hdI,he];simp
        clear d1 d2 dL dS hsK he hK hJs
        go_wp2_with fail
        refine t_region (Grows) [(0,false),(1,false),(2,false),(3,false),(4,false),(5,false),(6,false),(7,false),(8,false),(9,false),(10,false),(11,false),(12,false),(13,false),(14,false),(15,false),(16,false),(17,false),(18,false),(19,false),(20,false)] Grows.refl Grows.trans (by kernel_rfl) (by kernel_rfl) (fun d _ _ _ _ h => by cases d <;> exact h) ?_
        iterate 21 (refine t_quiet rfl (fun K hK => ?_);go_simp;refine hK _ ?_;clear hK K)
        refine t_end ?_
        clear x1 x2 xL xI xK
        go_wp2_with fail
        go_roundw
        case rel => exact ⟨K + 1,by go_num,by omega,hlt2,by rw [hE.out,runTo_step hlt2 SM.out];exact rfl,K2.out,J2.out⟩
        case measure => simp [intOf];omega
       ·have hb : ((sK[xd].toNat : Int) == sI[xd].toNat) = false:=by
         rw [beq_eq_false_iff_ne]
         intro h
         exact he (UInt8.toNat_inj.1 (by omega))
        have SM : Hid (kidEnd (bls B) xd xt I = K):=by
         show _ = _
         rw [hE.out,runTo_stop]
         rintro ⟨_,h⟩
         unfold sameAt at h
         rw [nth_bls hsK,nth_bls HSI.out,bl_get hdK,bl_get hdI] at h
         simp at h
         exact he h
        clear d1 d2 dL dS hsK he hK hJs
        go_wp2_with fail
        refine t_region (Grows) [(0,false),(1,false),(2,false),(3,false),(4,false),(5,false),(6,false),(7,false),(8,false),(9,false),(10,false),(11,false),(12,false),(13,false),(14,false),(15,false),(16,false),(17,false),(18,false),(19,false),(20,false)] Grows.refl Grows.trans (by kernel_rfl) (by kernel_rfl) (fun d _ _ _ _ h => by cases d <;> exact h) ?_
        iterate 21 (refine t_quiet rfl (fun K hK => ?_);go_simp;refine hK _ ?_;clear hK K)
        refine t_end ?_
        clear x1 x2 xL xI xK
        have e2:=K2.out
        have hst:=kidsFrom_step (L:=bls B) (d:=xd) (t:=xt) (i:=I) hlt
        rw [SM.out] at hst
        have hmem : (⟨I,K,xd + 1⟩ : Span) ∈ kids (bls B) ⟨xi,xt,xd⟩:=by
         rw [← hP.out.2,hst];simp
        have hlen : pre.length < (kids (bls B) ⟨xi,xt,xd⟩).length:=by
         rw [← hP.out.2,hst];simp
        have PN : Hid ((pre ++ [(⟨⟨I,K,xd + 1⟩,hmem⟩ : KidOf (bls B) ⟨xi,xt,xd⟩)]).map (fun y => y.1) ++ kidsFrom (bls B) xd xt K = kids (bls B) ⟨xi,xt,xd⟩):=by
         have h2:=hP.out.2
         rw [hst] at h2
         show _ = _
         rw [List.map_append,List.append_assoc]
         exact h2
        obtain ⟨fn,tmps,assign,body,hy,hR⟩:=HY.out pre ⟨⟨I,K,xd + 1⟩,hmem⟩ wr.drew J2.out hlen
        dsimp only [spanV] at hy
        have hcast : ((xd + 1 : Nat) : Int) = (xd : Int) + 1:=by omega
        rw [hcast] at hy
        have hRR:=Lib.hid hR
        have PS : Hid (kidStart (bls B) ⟨xi,xt,xd⟩ ≤ K):=by have:=hP.out.1;show _ ≤ _;omega
        have d2:=(CELL.out _ K2.out).2.1
        have wd : IntKind.i64.wrap ((xd : Int) + 1) = (xd + 1 : Nat):=by simp [IntKind.wrap,IntKind.bits,IntKind.signed];omega
        clear hst hR hlen e2 hP hcast wd
        iterate 10 go_step
        refine in_wide 7 n ?_
        gi_wp2
        refine ⟨fun h => (by cases h), ?_⟩
        refine hRR.out.mono ?_
        rintro e W3 (⟨rfl,hJ3,hk3⟩ | ⟨rfl,hJx3⟩)
        ·gi_wp2
         have K3:=Lib.hid (K2.out.tr hk3)
         have J3:=Lib.hid hJ3
         clear hRR hy hJ3 hk3
         go_wp2_with fail
         go_roundw
         case rel => exact ⟨K,_,by go_num,by omega,hKt,⟨PS.out,PN.out⟩,K3.out,J3.out⟩
         case measure => simp [intOf];omega
        ·have JX:=Lib.hid hJx3
         clear hRR hy hJx3
         gi_wp2
         go_wp2_with fail
         exact bodyPost_ret (results_none rfl _ _ _) rfl ⟨⟨_,rfl⟩,.inr ⟨_,trivial,JX.out⟩⟩
      ·have hlt2i : ¬ (K : Int) < xt:=by omega
       have SM : Hid (kidEnd (bls B) xd xt I = K):=by
        show _ = _
        rw [hE.out,runTo_stop (by omega)]
       clear d1 d2 dL dS hK hJs
       go_wp2_with fail
       refine t_region (Grows) [(0,false),(1,false),(2,false),(3,false),(4,false),(5,false),(6,false),(7,false),(8,false),(9,false),(10,false),(11,false),(12,false),(13,false),(14,false),(15,false),(16,false),(17,false),(18,false),(19,false),(20,false)] Grows.refl Grows.trans (by kernel_rfl) (by kernel_rfl) (fun d _ _ _ _ h => by cases d <;> exact h) ?_
       iterate 21 (refine t_quiet rfl (fun K hK => ?_);go_simp;refine hK _ ?_;clear hK K)
       refine t_end ?_
       clear x1 x2 xL xI
       have e2:=K2.out
       have hst:=kidsFrom_step (L:=bls B) (d:=xd) (t:=xt) (i:=I) hlt
       rw [SM.out] at hst
       have hmem : (⟨I,K,xd + 1⟩ : Span) ∈ kids (bls B) ⟨xi,xt,xd⟩:=by
        rw [← hP.out.2,hst];simp
       have hlen : pre.length < (kids (bls B) ⟨xi,xt,xd⟩).length:=by
        rw [← hP.out.2,hst];simp
       have PN : Hid ((pre ++ [(⟨⟨I,K,xd + 1⟩,hmem⟩ : KidOf (bls B) ⟨xi,xt,xd⟩)]).map (fun y => y.1) ++ kidsFrom (bls B) xd xt K = kids (bls B) ⟨xi,xt,xd⟩):=by
        have h2:=hP.out.2
        rw [hst] at h2
        show _ = _
        rw [List.map_append,List.append_assoc]
        exact h2
       obtain ⟨fn,tmps,assign,body,hy,hR⟩:=HY.out pre ⟨⟨I,K,xd + 1⟩,hmem⟩ wr.drew J2.out hlen
       dsimp only [spanV] at hy
       have hcast : ((xd + 1 : Nat) : Int) = (xd : Int) + 1:=by omega
       rw [hcast] at hy
       have hRR:=Lib.hid hR
       have PS : Hid (kidStart (bls B) ⟨xi,xt,xd⟩ ≤ K):=by have:=hP.out.1;show _ ≤ _;omega
       have d2:=(CELL.out _ K2.out).2.1
       have wd : IntKind.i64.wrap ((xd : Int) + 1) = (xd + 1 : Nat):=by simp [IntKind.wrap,IntKind.bits,IntKind.signed];omega
       clear hst hR hlen e2 hP hcast wd
       iterate 10 go_step
       refine in_wide 7 n ?_
       gi_wp2
       refine ⟨fun h => (by cases h), ?_⟩
       refine hRR.out.mono ?_
       rintro e W3 (⟨rfl,hJ3,hk3⟩ | ⟨rfl,hJx3⟩)
       ·gi_wp2
        have K3:=Lib.hid (K2.out.tr hk3)
        have J3:=Lib.hid hJ3
        clear hRR hy hJ3 hk3
        go_wp2_with fail
        go_roundw
        case rel => exact ⟨K,_,by go_num,by omega,hKt,⟨PS.out,PN.out⟩,K3.out,J3.out⟩
        case measure => simp [intOf];omega
       ·have JX:=Lib.hid hJx3
        clear hRR hy hJx3
        gi_wp2
        go_wp2_with fail
        exact bodyPost_ret (results_none rfl _ _ _) rfl ⟨⟨_,rfl⟩,.inr ⟨_,trivial,JX.out⟩⟩
    ·have hlti : ¬ (I : Int) < xt:=by omega
     have FIN : Hid (∃ xs : List (KidOf (bls B) ⟨xi,xt,xd⟩),xs.map (·.1) = kids (bls B) ⟨xi,xt,xd⟩∧J xs wr):=by
      refine ⟨pre, ?_,hJs.out⟩
      have h:=hP.out.2
      rw [kidsFrom_end hlt,List.append_nil] at h
      exact h
     clear dL dS d2 hK hJs hP
     go_wp2_with fail
     exact bodyPost_end (results_none rfl _ _ _) rfl ⟨⟨_,rfl⟩,.inl FIN.out⟩
end Go.Proofs.YtepoiefadjoabaaGreatDoor
namespace Go.Proofs.YtepoiefadjoabaaGreatDoor
open Go Go.RowKit Go.Shelf
def spanC (y : Span) : List Value := [.int .i64 y.i, .int .i64 y.t, .int .i64 y.d]
theorem spanLay : ElemLay Tryz.prog 141 140 3 24 spanC where
 sl:=Tryz.underlying141
 info:=elem_info (z:=.agg #[.int .i64 0,.int .i64 0,.int .i64 0]) (by kernel_rfl) rfl
 pos:=by decide
 by1:=by decide
 len _:=rfl
 one x u hu:=by
  simp [spanC] at hu
  rcases hu with rfl | rfl | rfl <;> rfl
theorem natInfo : ∃ i, Tryz.prog.info? 3 = some i ∧ i.zero = some (.int .i64 0) ∧ i.size = 1 ∧ i.bytes = 8 := by
 have h : (Tryz.prog.info? 3).map (fun i => (i.zero,i.size,i.bytes)) = some (some (.int .i64 0),1,8):=by kernel_rfl
 cases hi : Tryz.prog.info? 3 with
 | none => rw [hi] at h;cases h
 | some i =>
  rw [hi] at h
  simp only [Option.map_some,Option.some.injEq,Prod.mk.injEq] at h
  exact ⟨i,rfl,h.1,h.2.1,h.2.2⟩
theorem mkInt (n : Nat) (W : World) (hn : n ≤ 1048576) : (Instr.makeSlice 53 (.int .i64 n) (.int .i64 n)).run Tryz.prog W = .ok (.slice (some ⟨W.heap.size, 0, none⟩) n n) (W.alloc (.cells (madeCells #[.int .i64 0] (n * 1)) 3)) := by
 obtain ⟨i,h1,h2,h3,h4⟩:=natInfo
 have h:=run_make (P:=Tryz.prog) W 53 3 i (.int .i64 0) Tryz.underlying53 h1 h2 .i64 .i64 n n (by omega) (Int.le_refl _) (by rw [h4];omega) (by omega)
 rw [Int.toNat_natCast,h3] at h
 exact h
theorem madeInt {w : World} {n : Nat} (hn : n ≤ 1048576) : Owns (w.alloc (.cells (madeCells #[.int .i64 0] (n * 1)) 3)) w.heap.size 3 1 natC (.slice (some ⟨w.heap.size, 0, none⟩) n n) (List.replicate n 0) :=
 owns_box (enc:=natC) (fun _ => rfl) (Nat.le_refl _) (List.replicate n 0) (by
  rw [toList_madeCells_one,Nat.mul_one]
  unfold natC
  rw [flat_one,List.map_replicate]
  rfl) (by simp) (by unfold maxLen;omega)
def tyOf : Obj → Option TypeId
 | .cells _ t _ => some t
 | _ => none
def RT (w : World) (row : Option Nat) (τ : Option TypeId) : Prop := ∀ q, row = some q → ∃ o, w.heap[q]? = some o ∧ tyOf o = τ
theorem RT.none (w : World) (τ : Option TypeId) : RT w none τ := fun q h => by cases h
theorem RT.own {α : Type} {w : World} {base : Nat} {e : TypeId} {k : Nat} {enc : α → List Value} {v : Value} {xs : List α} (h : Owns w base e k enc v xs) : RT w v.ownBlock (some e) := fun q hq => by
 rcases h.2 with ⟨rfl,_⟩ | ⟨g,cap,cur,rfl,_,hh,_⟩
 ·cases hq
 ·have : g = q:=Option.some.inj hq
  subst this
  exact ⟨_,hh,rfl⟩
def TB (w : World) (b : Nat) (cs : Array Value) (t : TypeId) : Prop := w.heap[b]? = some (.cells cs t (0, 0))
theorem TB.lt {w : World} {b : Nat} {cs : Array Value} {t : TypeId} (h : TB w b cs t) : b < w.heap.size := (Array.getElem?_eq_some_iff.1 h).1
theorem TB.rt {w : World} {b : Nat} {cs : Array Value} {t : TypeId} (h : TB w b cs t) : RT w (some b) (some t) := fun q hq => by cases hq; exact ⟨_, h, rfl⟩
theorem TB.cell {w : World} {b : Nat} {cs : Array Value} {t : TypeId} (h : TB w b cs t) {o : Nat} {v : Value} (hv : cs[o]? = some v) : w.cell? ⟨b, o, none⟩ = some v := by
 unfold TB at h
 simp [World.cell?,h,hv]
theorem TB.froz {w : World} {b : Nat} {cs : Array Value} {t : TypeId} (h : TB w b cs t) (o : Nat) : w.frozen? ⟨b, o, none⟩ = false := by
 unfold TB at h
 simp [World.frozen?,h]
theorem TB.keep {w w' : World} {b : Nat} {cs : Array Value} {t : TypeId} {row : Option Nat} {τ : Option TypeId} (h : TB w b cs t) (hg : w.grownBy w' row) (hr : RT w row τ) (hne : τ ≠ some t) : TB w' b cs t := by
 unfold TB at *
 rw [hg.block b (TB.lt h) (fun e => ?_)]
 ·exact h
 ·obtain ⟨o,h1,h2⟩:=hr b e.symm
  rw [h] at h1
  cases h1
  exact hne h2.symm
theorem TB.set {w : World} {b : Nat} {cs : Array Value} {t : TypeId} (h : TB w b cs t) (o : Nat) (v : Value) : TB (w.setCell ⟨b, o, none⟩ v) b (cs.setIfInBounds o v) t := heap_setCell_same w b o cs t v h
theorem TB.alloc (w : World) (cs : Array Value) (t : TypeId) : TB (w.alloc (.cells cs t)) w.heap.size cs t := by
 show (w.heap.push _)[w.heap.size]? = _
 simp
theorem grownBy_setAny (W : World) (b o : Nat) (v : Value) : W.grownBy (W.setCell ⟨b, o, none⟩ v) (some b) :=
 ⟨rfl,rfl,rfl,by simp,fun k _ hk => Below.heap_setCell _ _ _ k (fun e => hk (by rw [e]))⟩
theorem own_keepT {α : Type} {w w' : World} {base : Nat} {e : TypeId} {k : Nat} {enc : α → List Value} {u : Value} {ys : List α} {row : Option Nat} {τ : Option TypeId} (h : Owns w base e k enc u ys) (hg : w.grownBy w' row) (hr : RT w row τ) (hne : τ ≠ some e) : Owns w' base e k enc u ys := by
 refine owns_kept h hg ?_
 cases hu : u.ownBlock with
 | none => exact Or.inl rfl
 | some q =>
  refine Or.inr fun hv => ?_
  obtain ⟨o,h1,h2⟩:=hr q hv.symm
  obtain ⟨o',h3,h4⟩:=RT.own h q hu
  rw [h1] at h3
  cases h3
  exact hne (h2.symm.trans h4)
structure BD where
 vS : Value
 vA : Value
 vL : Value
 vI : Value
 vD : Value
 sh : List Bool
 al : List Span
 lab : List UInt8
 isl : List Bool
 idl : List Nat
 nd : List Nat
structure Bst (w0 wr : World) (s n : Nat) (lv : Value) (d : BD) : Prop where
 b1 : TB wr s #[lv] 51
 b4 : TB wr (s + 3) #[.pointer (some ⟨s + 2,0,none⟩)] 73
 b2 : TB wr (s + 2) #[.pointer none,.pointer none,d.vL,.pointer none,.slice (some ⟨s + 1,0,none⟩) n n] 137
 b6 : TB wr (s + 5) #[d.vS] 138
 b8 : TB wr (s + 7) #[d.vA] 141
 oL : Owns wr s 5 1 byteC d.vL d.lab
 oN : Owns wr s 3 1 natC (.slice (some ⟨s + 1,0,none⟩) n n) d.nd
 oS : Owns wr s 4 1 boolC d.vS d.sh
 oA : Owns wr s 140 3 spanC d.vA d.al
 oI : Owns wr s 4 1 boolC d.vI d.isl
 oD : Owns wr s 116 1 n64C d.vD d.idl
 ap : Apart d.vS d.vI
 gr : Grows w0 wr
 s0 : s = w0.heap.size
theorem Bst.keep {w0 wr w' : World} {s n : Nat} {lv : Value} {d : BD} (h : Bst w0 wr s n lv d) {row : Option Nat} {τ : Option TypeId} (hg : wr.grownBy w' row) (hr : RT wr row τ) (hs : ∀ q, row = some q → s ≤ q)
  (hτ : ∀ t ∈ [51,73,137,138,141,5,3,4,116],τ ≠ some t) (hA : Owns w' s 140 3 spanC d.vA d.al) : Bst w0 w' s n lv d where
 b1:=h.b1.keep hg hr (hτ _ (by simp))
 b4:=h.b4.keep hg hr (hτ _ (by simp))
 b2:=h.b2.keep hg hr (hτ _ (by simp))
 b6:=h.b6.keep hg hr (hτ _ (by simp))
 b8:=h.b8.keep hg hr (hτ _ (by simp))
 oL:=own_keepT h.oL hg hr (hτ _ (by simp))
 oN:=own_keepT h.oN hg hr (hτ _ (by simp))
 oS:=own_keepT h.oS hg hr (hτ _ (by simp))
 oA:=hA
 oI:=own_keepT h.oI hg hr (hτ _ (by simp))
 oD:=own_keepT h.oD hg hr (hτ _ (by simp))
 ap:=h.ap
 gr:=h.gr.grown hg (fun q hq => by rw [← h.s0];exact hs q hq)
 s0:=h.s0
theorem Bst.other {w0 wr w' : World} {s n : Nat} {lv : Value} {d : BD} (h : Bst w0 wr s n lv d) {row : Option Nat} (hg : wr.grownBy w' row) (hr : RT wr row none) (hs : ∀ q, row = some q → s ≤ q) : Bst w0 w' s n lv d :=
 h.keep hg hr hs (fun t _ => by simp) (own_keepT h.oA hg hr (by simp))
theorem Bst.al {w0 wr : World} {s n : Nat} {lv : Value} {d : BD} (h : Bst w0 wr s n lv d) (o : Obj) : Bst w0 (wr.alloc o) s n lv d := h.other (World.grownBy_alloc _ _ none) (RT.none _ _) (fun q e => by cases e)
theorem Bst.dr {w0 wr : World} {s n : Nat} {lv : Value} {d : BD} (h : Bst w0 wr s n lv d) : Bst w0 wr.drew s n lv d := h.other (row := none) ⟨rfl, rfl, rfl, Nat.le_refl _, fun _ _ _ => rfl⟩ (RT.none _ _) (fun q e => by cases e)
theorem Bst.pushS {w0 wr w' : World} {s n : Nat} {lv : Value} {d : BD} (h : Bst w0 wr s n lv d) {v : Value} {sh : List Bool} (ho : Owns w' s 4 1 boolC v sh) (hg : wr.grownBy w' d.vS.ownBlock) (hf : Fresh wr d.vS v) :
  Bst w0 (w'.setCell ⟨s + 5,0,none⟩ v) s n lv { d with vS:=v,sh:=sh }:=by
 have hr:=RT.own h.oS
 have hsr : ∀ q,d.vS.ownBlock = some q → s ≤ q:=fun q hq => ownBlock_ge h.oS q hq
 have k6:=h.b6.keep hg hr (by decide)
 have hg2:=grownBy_setAny w' (s + 5) 0 v
 have hr2:=k6.rt
 refine ⟨(h.b1.keep hg hr (by decide)).keep hg2 hr2 (by decide),(h.b4.keep hg hr (by decide)).keep hg2 hr2 (by decide),(h.b2.keep hg hr (by decide)).keep hg2 hr2 (by decide), ?_,(h.b8.keep hg hr (by decide)).keep hg2 hr2 (by decide),
  own_keepT (own_keepT h.oL hg hr (by decide)) hg2 hr2 (by decide),own_keepT (own_keepT h.oN hg hr (by decide)) hg2 hr2 (by decide),own_keepT ho hg2 hr2 (by decide),own_keepT (own_keepT h.oA hg hr (by decide)) hg2 hr2 (by decide),
  own_keepT (owns_keep h.oI hg h.ap) hg2 hr2 (by decide),own_keepT (own_keepT h.oD hg hr (by decide)) hg2 hr2 (by decide),h.ap.fresh (own_lt h.oI) hf,(h.gr.grown hg (fun q hq => by rw [← h.s0];exact hsr q hq)).set (by rw [← h.s0];simp) _,h.s0⟩
 have:=k6.set 0 v
 simpa using this
theorem Bst.pushL {w0 wr w' : World} {s n : Nat} {lv : Value} {d : BD} (h : Bst w0 wr s n lv d) {v : Value} {l : List UInt8} (ho : Owns w' s 5 1 byteC v l) (hg : wr.grownBy w' d.vL.ownBlock) :
  Bst w0 (w'.setCell ⟨s + 2,2,none⟩ v) s n lv { d with vL:=v,lab:=l }:=by
 have hr:=RT.own h.oL
 have hsr : ∀ q,d.vL.ownBlock = some q → s ≤ q:=fun q hq => ownBlock_ge h.oL q hq
 have k2:=h.b2.keep hg hr (by decide)
 have hg2:=grownBy_setAny w' (s + 2) 2 v
 have hr2:=k2.rt
 refine ⟨(h.b1.keep hg hr (by decide)).keep hg2 hr2 (by decide),(h.b4.keep hg hr (by decide)).keep hg2 hr2 (by decide), ?_,(h.b6.keep hg hr (by decide)).keep hg2 hr2 (by decide),(h.b8.keep hg hr (by decide)).keep hg2 hr2 (by decide),
  own_keepT ho hg2 hr2 (by decide),own_keepT (own_keepT h.oN hg hr (by decide)) hg2 hr2 (by decide),own_keepT (own_keepT h.oS hg hr (by decide)) hg2 hr2 (by decide),own_keepT (own_keepT h.oA hg hr (by decide)) hg2 hr2 (by decide),
  own_keepT (own_keepT h.oI hg hr (by decide)) hg2 hr2 (by decide),own_keepT (own_keepT h.oD hg hr (by decide)) hg2 hr2 (by decide),h.ap,(h.gr.grown hg (fun q hq => by rw [← h.s0];exact hsr q hq)).set (by rw [← h.s0];simp) _,h.s0⟩
 have:=k2.set 2 v
 simpa using this
theorem Bst.pushA {w0 wr w' : World} {s n : Nat} {lv : Value} {d : BD} (h : Bst w0 wr s n lv d) {v : Value} {l : List Span} (ho : Owns w' s 140 3 spanC v l) (hg : wr.grownBy w' d.vA.ownBlock) :
  Bst w0 (w'.setCell ⟨s + 7,0,none⟩ v) s n lv { d with vA:=v,al:=l }:=by
 have hr:=RT.own h.oA
 have hsr : ∀ q,d.vA.ownBlock = some q → s ≤ q:=fun q hq => ownBlock_ge h.oA q hq
 have k8:=h.b8.keep hg hr (by decide)
 have hg2:=grownBy_setAny w' (s + 7) 0 v
 have hr2:=k8.rt
 refine ⟨(h.b1.keep hg hr (by decide)).keep hg2 hr2 (by decide),(h.b4.keep hg hr (by decide)).keep hg2 hr2 (by decide),(h.b2.keep hg hr (by decide)).keep hg2 hr2 (by decide),(h.b6.keep hg hr (by decide)).keep hg2 hr2 (by decide), ?_,
  own_keepT (own_keepT h.oL hg hr (by decide)) hg2 hr2 (by decide),own_keepT (own_keepT h.oN hg hr (by decide)) hg2 hr2 (by decide),own_keepT (own_keepT h.oS hg hr (by decide)) hg2 hr2 (by decide),own_keepT ho hg2 hr2 (by decide),
  own_keepT (own_keepT h.oI hg hr (by decide)) hg2 hr2 (by decide),own_keepT (own_keepT h.oD hg hr (by decide)) hg2 hr2 (by decide),h.ap,(h.gr.grown hg (fun q hq => by rw [← h.s0];exact hsr q hq)).set (by rw [← h.s0];simp) _,h.s0⟩
 have:=k8.set 0 v
 simpa using this
theorem Bst.pushI {w0 wr w' : World} {s n : Nat} {lv : Value} {d : BD} (h : Bst w0 wr s n lv d) {v : Value} {l : List Bool} (ho : Owns w' s 4 1 boolC v l) (hg : wr.grownBy w' d.vI.ownBlock) (hf : Fresh wr d.vI v) :
  Bst w0 w' s n lv { d with vI:=v,isl:=l }:=by
 have hr:=RT.own h.oI
 exact ⟨h.b1.keep hg hr (by decide),h.b4.keep hg hr (by decide),h.b2.keep hg hr (by decide),h.b6.keep hg hr (by decide),h.b8.keep hg hr (by decide),own_keepT h.oL hg hr (by decide),own_keepT h.oN hg hr (by decide),owns_keep h.oS hg h.ap.symm,own_keepT h.oA hg hr (by decide),
  ho,own_keepT h.oD hg hr (by decide),(h.ap.symm.fresh (own_lt h.oS) hf).symm,h.gr.grown hg (fun q hq => by rw [← h.s0];exact ownBlock_ge h.oI q hq),h.s0⟩
theorem Bst.pushD {w0 wr w' : World} {s n : Nat} {lv : Value} {d : BD} (h : Bst w0 wr s n lv d) {v : Value} {l : List Nat} (ho : Owns w' s 116 1 n64C v l) (hg : wr.grownBy w' d.vD.ownBlock) :
  Bst w0 w' s n lv { d with vD:=v,idl:=l }:=by
 have hr:=RT.own h.oD
 exact ⟨h.b1.keep hg hr (by decide),h.b4.keep hg hr (by decide),h.b2.keep hg hr (by decide),h.b6.keep hg hr (by decide),h.b8.keep hg hr (by decide),own_keepT h.oL hg hr (by decide),own_keepT h.oN hg hr (by decide),own_keepT h.oS hg hr (by decide),own_keepT h.oA hg hr (by decide),
  own_keepT h.oI hg hr (by decide),ho,h.ap,h.gr.grown hg (fun q hq => by rw [← h.s0];exact ownBlock_ge h.oD q hq),h.s0⟩
theorem Bst.setN {w0 wr : World} {s n : Nat} {lv : Value} {d : BD} (h : Bst w0 wr s n lv d) {j : Nat} (hj : j < d.nd.length) (y : Nat) :
  wr.frozen? ⟨s + 1,j,none⟩ = false∧Bst w0 (wr.setCell ⟨s + 1,j,none⟩ (.int .i64 y)) s n lv { d with nd:=d.nd.set j y }:=by
 obtain ⟨h1,_,h3⟩:=owns_set1 (f:=fun n : Nat => Value.int .i64 n) h.oN hj y
 have hg:=grownBy_setAny wr (s + 1) j (.int .i64 y)
 have hr : RT wr (some (s + 1)) (some 3):=RT.own h.oN
 refine ⟨h1,h.b1.keep hg hr (by decide),h.b4.keep hg hr (by decide),h.b2.keep hg hr (by decide),h.b6.keep hg hr (by decide),h.b8.keep hg hr (by decide),own_keepT h.oL hg hr (by decide),h3,own_keepT h.oS hg hr (by decide),own_keepT h.oA hg hr (by decide),
  own_keepT h.oI hg hr (by decide),own_keepT h.oD hg hr (by decide),h.ap,h.gr.set (by rw [← h.s0];simp) _,h.s0⟩
end Go.Proofs.YtepoiefadjoabaaGreatDoor
namespace Go.Proofs.YtepoiefadjoabaaGreatDoor
open Go Go.RowKit Go.Shelf
instance extKeep (S : Nat → Prop) (w : World) : Nonempty (Ext (KeepB S) w) := ⟨⟨w, KeepB.refl S w⟩⟩
theorem ext_cellK {S : Nat → Prop} {w : World} {p : Addr} {v : Value} (hp : S p.block) (hc : w.cell? p = some v) (x : Ext (KeepB S) w) : x.u.cell? p = some v := x.h.cell hp hc
theorem keepB_trans (S : Nat → Prop) : ∀ a b c : World, KeepB S a b → KeepB S b c → KeepB S a c := fun _ _ _ h k => h.tr k
theorem KeepB.alloc {S : Nat → Prop} {w : World} (h : ∀ b, S b → b < w.heap.size) (o : Obj) : KeepB S w (w.alloc o) := fun b hb => (Grows.alloc w o).block b (h b hb)
theorem KeepB.set {S : Nat → Prop} {w : World} {b : Nat} (h : ¬ S b) (o : Nat) (v : Value) : KeepB S w (w.setCell ⟨b, o, none⟩ v) := fun q hq => Below.heap_setCell _ _ _ q (fun e => h (by have : q = b := e; rw [← this]; exact hq))
theorem app_late1 {α : Type} {P : Program} {t e : TypeId} {k bytes : Nat} {enc : α → List Value} (L : ElemLay P t e k bytes enc) {o : Oper} {a : Act} {K : Act → World → Prop} {Q : Exit → Act → World → Prop} {W : World}
  (s x : Operand) (hop : o.op = .call { callee:=.builtin .append,args:=#[s,x],argTypes:=#[t,t] })
  (base : Nat) (v : Value) (xs : List α) (y : α) (hs : a.eval s = v) (hown : Owns W base e k enc v xs) (n c : Nat) (hn : n = W.heap.size) (cs : Array Value) (hcs : cs.toList = enc y)
  (hx : a.eval x = .slice (some ⟨n,0,none⟩) 1 c) (hlen : (xs.length + 1) * bytes ≤ 140737488355328) (hbase : base ≤ W.heap.size)
  (h : ∀ v' w',Owns w' base e k enc v' (xs ++ [y]) → W.grownBy w' v.ownBlock → Fresh W v v' → K (a.put o.dst v') w') : o.wp P a (W.alloc (.cells cs e)) K Q:=by
 obtain ⟨i,z,hi,hz,hsize,hby,hzs⟩:=L.info
 have hl1 : xs.length + 1 ≤ 140737488355328:=Nat.le_trans (Nat.le_mul_of_pos_right _ L.by1) hlen
 have hgr2 : Grows W (W.alloc (.cells cs e)):=Grows.alloc _ _
 have hown2:=ownsRow_grows hown hgr2
 obtain ⟨v',w',hr,h2,h3,h4⟩:=run_append_fresh (P:=P) (W.alloc (.cells cs e)) base t o.type e i z k bytes L.sl hi hz hsize hby hzs L.pos v xs.length (xs.flatMap enc) hown2 ⟨n,0,none⟩ 1 c (enc y) (by rw [L.len,Nat.one_mul])
  (fun j u hu => alloc_new_at hn j u (by rw [hcs];exact hu)) (L.one y) (by unfold maxLen;omega) hlen (Nat.le_trans hbase hgr2.size)
 unfold Oper.wp execOp
 simp only [hop,resolve,invoke,builtin,Sem.run_bind,Sem.run_pure,Result.andThen_ok,List.map_toArray,List.map_cons,List.map_nil,hs,hx,hr]
 refine h v' w' ?_ ?_ ?_
 ·unfold Owns
  rw [List.length_append,List.length_singleton,List.flatMap_append]
  simpa using h2
 ·have h5:=World.grownBy_alloc W (.cells cs e) v.ownBlock
  exact ⟨h3.os.trans h5.os,h3.tape.trans h5.tape,h3.output.trans h5.output,Nat.le_trans h5.size h3.size,fun k hk hne => (h3.block k (Nat.lt_of_lt_of_le hk h5.size) hne).trans (h5.block k hk hne)⟩
 ·rcases h4 with h4 | ⟨q,hq,hle⟩
  ·exact Or.inl h4
  ·exact Or.inr ⟨q,hq,Nat.le_trans hgr2.size hle⟩
theorem Marks.grown {w w' : World} {lo : Nat} {ds : List Nat} {row : Option Nat} (h : Marks w lo ds) (hg : w.grownBy w' row) (hr : ∀ D ∈ ds, row ≠ some D) : Marks w' lo ds :=
 ⟨fun D hD => ⟨(h.at_ D hD).1,(hg.block D (Array.getElem?_eq_some_iff.1 (h.at_ D hD).2).1 (fun e => hr D hD e.symm)).trans (h.at_ D hD).2⟩,h.nodup⟩
theorem Marks.not_row {w : World} {lo : Nat} {ds : List Nat} (h : Marks w lo ds) {row : Option Nat} {t : TypeId} (hr : RT w row (some t)) : ∀ D ∈ ds, row ≠ some D := fun D hD e => by
 obtain ⟨o,h1,h2⟩:=hr D e
 rw [(h.at_ D hD).2] at h1
 cases h1
 cases h2
theorem RT.of_not {w : World} {row : Option Nat} (h : ∀ q, row = some q → ∃ o : Obj, w.heap[q]? = some o ∧ o.isCells = false) : RT w row (Option.none : Option TypeId) := fun q hq => by
 obtain ⟨o,h1,h2⟩:=h q hq
 refine ⟨o,h1, ?_⟩
 cases o <;> first | rfl | cases h2
end Go.Proofs.YtepoiefadjoabaaGreatDoor
namespace Go.Proofs.YtepoiefadjoabaaGreatDoor
open Go Go.RowKit Go.Shelf
theorem keepsFrom_row {W W' : World} {B : Nat} {row : Option Nat} {t : TypeId} (hg : W.grownBy W' row) (hr : RT W row (some t)) : KeepsFrom B W W' := ⟨hg.size, fun k o _ hk ho => by
 rw [hg.block k (Array.getElem?_eq_some_iff.1 hk).1 (fun e => ?_)]
 ·exact hk
 ·obtain ⟨o',h1,h2⟩:=hr k e.symm
  rw [hk] at h1
  cases h1
  cases o <;> simp [Obj.isCells,tyOf] at ho h2⟩
theorem keepsFrom_set {W : World} {B : Nat} {b : Nat} {cs : Array Value} {t : TypeId} (h : TB W b cs t) (o : Nat) (v : Value) : KeepsFrom B W (W.setCell ⟨b, o, none⟩ v) := keepsFrom_row (grownBy_setAny W b o v) h.rt
theorem TB.ne_row {w : World} {b : Nat} {cs : Array Value} {t e : TypeId} {row : Option Nat} (h : TB w b cs t) (hr : RT w row (some e)) (hne : e ≠ t) : row ≠ some b := fun hrow => by
 obtain ⟨o,h1,h2⟩:=hr b hrow
 rw [show w.heap[b]? = _ from h] at h1
 cases h1
 exact hne (Option.some.inj h2).symm
theorem owns_snoc {α : Type} {w : World} {base : Nat} {e : TypeId} {k : Nat} {enc : α → List Value} {v : Value} {xs : List α} {y : α} (h : Owns w base e k enc v (xs ++ [y])) : ∃ g cap, v = .slice (some ⟨g, 0, none⟩) (xs.length + 1) cap := by
 unfold Owns at h
 rw [List.length_append,List.length_singleton] at h
 exact ownsRow_succ h
structure LbJ (w : World) (s n : Nat) (lv : Value) (ds : List Nat) (xb kb lb size : Nat) (x : Span) (d : BD) (W : World) : Prop where
 st : Bst w W s n lv d
 tx : TB W xb #[.int .i64 x.i,.int .i64 x.t,.int .i64 x.d] 140
 tk : TB W kb #[.int .i64 x.i,.int .i64 x.t,.int .i64 x.d] 140
 tl : TB W lb #[lv] 51
 nx : d.vA.ownBlock ≠ some xb
 nk : d.vA.ownBlock ≠ some kb
 mks : Marks W s ds
 sz : size ≤ W.heap.size
variable {w W w' : World} {s n xb kb lb size : Nat} {lv : Value} {ds : List Nat} {x : Span} {d : BD}
theorem LbJ.other (h : LbJ w s n lv ds xb kb lb size x d W) {row : Option Nat} (hg : W.grownBy w' row) (hr : RT W row none) (hs : ∀ q, row = some q → s ≤ q) (hm : ∀ D ∈ ds, row ≠ some D) : LbJ w s n lv ds xb kb lb size x d w' :=
 ⟨h.st.other hg hr hs,h.tx.keep hg hr (by decide),h.tk.keep hg hr (by decide),h.tl.keep hg hr (by decide),h.nx,h.nk,h.mks.grown hg hm,Nat.le_trans h.sz hg.size⟩
theorem LbJ.al (h : LbJ w s n lv ds xb kb lb size x d W) (o : Obj) : LbJ w s n lv ds xb kb lb size x d (W.alloc o) :=
 h.other (World.grownBy_alloc _ _ none) (RT.none _ _) (fun q e => by cases e) (fun _ _ e => by cases e)
theorem LbJ.dr (h : LbJ w s n lv ds xb kb lb size x d W) : LbJ w s n lv ds xb kb lb size x d W.drew :=
 h.other (row:=none) ⟨rfl,rfl,rfl,Nat.le_refl _,fun _ _ _ => rfl⟩ (RT.none _ _) (fun q e => by cases e) (fun _ _ e => by cases e)
theorem LbJ.pushS (h : LbJ w s n lv ds xb kb lb size x d W) {v : Value} {sh : List Bool} (ho : Owns w' s 4 1 boolC v sh) (hg : W.grownBy w' d.vS.ownBlock) (hf : Fresh W d.vS v) :
  LbJ w s n lv ds xb kb lb size x { d with vS:=v,sh:=sh } (w'.setCell ⟨s + 5,0,none⟩ v)∧KeepsFrom size W (w'.setCell ⟨s + 5,0,none⟩ v)∧(∀ b cs,TB W b cs 140 → TB (w'.setCell ⟨s + 5,0,none⟩ v) b cs 140)∧TB w' (s + 5) #[d.vS] 138:=by
 have hr:=RT.own h.st.oS
 have k6:=h.st.b6.keep hg hr (by decide)
 have hg2:=grownBy_setAny w' (s + 5) 0 v
 have hr2:=k6.rt
 have hm1:=h.mks.grown hg (h.mks.not_row hr)
 exact ⟨⟨h.st.pushS ho hg hf,(h.tx.keep hg hr (by decide)).keep hg2 hr2 (by decide),(h.tk.keep hg hr (by decide)).keep hg2 hr2 (by decide),(h.tl.keep hg hr (by decide)).keep hg2 hr2 (by decide),h.nx,h.nk,hm1.grown hg2 (hm1.not_row hr2),Nat.le_trans h.sz (Nat.le_trans hg.size hg2.size)⟩,
  (keepsFrom_row hg hr).trans (keepsFrom_set k6 0 v),fun b cs hb => (hb.keep hg hr (by decide)).keep hg2 hr2 (by decide),k6⟩
theorem LbJ.pushL (h : LbJ w s n lv ds xb kb lb size x d W) {v : Value} {l : List UInt8} (ho : Owns w' s 5 1 byteC v l) (hg : W.grownBy w' d.vL.ownBlock) :
  LbJ w s n lv ds xb kb lb size x { d with vL:=v,lab:=l } (w'.setCell ⟨s + 2,2,none⟩ v)∧KeepsFrom size W (w'.setCell ⟨s + 2,2,none⟩ v)∧(∀ b cs,TB W b cs 140 → TB (w'.setCell ⟨s + 2,2,none⟩ v) b cs 140) ∧
   TB w' (s + 2) #[.pointer none,.pointer none,d.vL,.pointer none,.slice (some ⟨s + 1,0,none⟩) n n] 137:=by
 have hr:=RT.own h.st.oL
 have k2:=h.st.b2.keep hg hr (by decide)
 have hg2:=grownBy_setAny w' (s + 2) 2 v
 have hr2:=k2.rt
 have hm1:=h.mks.grown hg (h.mks.not_row hr)
 exact ⟨⟨h.st.pushL ho hg,(h.tx.keep hg hr (by decide)).keep hg2 hr2 (by decide),(h.tk.keep hg hr (by decide)).keep hg2 hr2 (by decide),(h.tl.keep hg hr (by decide)).keep hg2 hr2 (by decide),h.nx,h.nk,hm1.grown hg2 (hm1.not_row hr2),Nat.le_trans h.sz (Nat.le_trans hg.size hg2.size)⟩,
  (keepsFrom_row hg hr).trans (keepsFrom_set k2 2 v),fun b cs hb => (hb.keep hg hr (by decide)).keep hg2 hr2 (by decide),k2⟩
theorem TB.keepN {w w' : World} {b : Nat} {cs : Array Value} {t : TypeId} {row : Option Nat} (h : TB w b cs t) (hg : w.grownBy w' row) (hne : row ≠ some b) : TB w' b cs t := (hg.block b h.lt (fun e => hne e.symm)).trans h
theorem LbJ.pushA (h : LbJ w s n lv ds xb kb lb size x d W) {v : Value} {l : List Span} (ho : Owns w' s 140 3 spanC v l) (hg : W.grownBy w' d.vA.ownBlock) (hf : Fresh W d.vA v) :
  LbJ w s n lv ds xb kb lb size x { d with vA:=v,al:=l } (w'.setCell ⟨s + 7,0,none⟩ v)∧KeepsFrom size W (w'.setCell ⟨s + 7,0,none⟩ v)∧TB w' (s + 7) #[d.vA] 141:=by
 have hr:=RT.own h.st.oA
 have k8:=h.st.b8.keep hg hr (by decide)
 have hg2:=grownBy_setAny w' (s + 7) 0 v
 have hr2:=k8.rt
 have hm1:=h.mks.grown hg (h.mks.not_row hr)
 have fr : ∀ b,b < W.heap.size → d.vA.ownBlock ≠ some b → v.ownBlock ≠ some b:=fun b hb hne e => by
  rcases hf with hf | ⟨q,hq,hle⟩
  ·exact hne (hf ▸ e)
  ·have : q = b:=Option.some.inj (hq.symm.trans e)
   omega
 exact ⟨⟨h.st.pushA ho hg,(h.tx.keepN hg h.nx).keep hg2 hr2 (by decide),(h.tk.keepN hg h.nk).keep hg2 hr2 (by decide),(h.tl.keep hg hr (by decide)).keep hg2 hr2 (by decide),fr xb h.tx.lt h.nx,fr kb h.tk.lt h.nk,hm1.grown hg2 (hm1.not_row hr2),Nat.le_trans h.sz (Nat.le_trans hg.size hg2.size)⟩,
  (keepsFrom_row hg hr).trans (keepsFrom_set k8 0 v),k8⟩
theorem LbJ.keepB {d' : BD} {W' : World} (h : LbJ w s n lv ds xb kb lb size x d W) (h' : LbJ w s n lv ds xb kb lb size x d' W') : KeepB (fun b => b < s ∨ b = kb ∨ b = lb) W W' := fun b hb => by
 rcases hb with hb | hb | hb
 ·have hb2 : b < w.heap.size:=by rw [← h.st.s0];exact hb
  rw [Below.block h.st.gr b hb2,Below.block h'.st.gr b hb2]
 ·rw [hb,h.tk,h'.tk]
 ·rw [hb,h.tl,h'.tl]
def onlyM (K : Act → World → Prop) : Exit → Act → World → Prop
 | .normal,a,w => K a w
 | _,_,_ => False
theorem onlyM_normal (K : Act → World → Prop) (a : Act) (w : World) : onlyM K .normal a w = K a w := rfl
theorem wp_onlyM {P : Program} {c : Code} {K : Act → World → Prop} {Q : Exit → Act → World → Prop} {a : Act} {w : World} (h : c.wp P (onlyM K) a w) : c.wp P (Exit.then K Q) a w := fun b k cs => by
 obtain ⟨e,a',w',q,r⟩:=h b k cs
 refine ⟨e,a',w', ?_,r⟩
 cases e <;> first | exact q | exact q.elim
end Go.Proofs.YtepoiefadjoabaaGreatDoor
