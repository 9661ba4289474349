/- The texts Env EnvL OpenG Witness, one behind the other. -/
import Derived.Test.YtjhajgffmnkocaaGreatDoorPq1
import Derived.Test.YtjhajgffmnkocaaGreatDoorShelf
import Derived.WalkSmall
import Derived.Lib.LaidTab
import Derived.Test.YtjhajgffmnkocaaGreatDoorPq4
import Derived.Test.YtjhajgffmnkocaaGreatDoorCards
import Derived.Test.YtjhajgffmnkocaaGreatDoorTie
import Derived.WalkKit
import Derived.ProofKit
import Derived.OpenShut
import Derived.Deep.DeepHandedRow
import Derived.Deep.DeepWitnessRowRef
import Derived.Lib.LaidIn
import Derived.Lib.LaidU8T
import Derived.Shelf.Vars
import Derived.SizedLaws
import Derived.Carry
import Derived.ChangeSame
import Derived.ChangeMaps5
import Derived.Deep.Slices
open List renaming getElem?_eq_getElem → Aa,getElem?_map → Ab
open Nat renaming zero_mul → Ac,zero_le → Ad
open Go.Addr renaming add → Ae
namespace Go.Proofs.YtjhajgffmnkocaaGreatDoor
section
open Go Go.RowKit Go.Shelf
structure Env (w:World):Prop where
 utf:Lib.Utf8Tabs 0 1 w
 mx:∃m,w.cell? ⟨2,0,none⟩=some (.int .i64 m)
 crc:∀(i q:Nat),jX[i]?=some q->w.cell? ⟨3,i,none⟩=some (.int .u32 q)
theorem Env.grows {w w':World} (h:Env w) (hg:aB w w'):Env w' where
 utf:=⟨λc hc=>hg.cell (h.utf.1 c hc),λi hi=>⟨hg.cell (h.utf.2 i hi).1,hg.cell (h.utf.2 i hi).2⟩⟩
 mx:=let ⟨m,hm⟩:=h.mx;⟨m,hg.cell hm⟩
 crc:=λi q hq=>hg.cell (h.crc i q hq)
theorem rR0 (w:World) (s:ByteArray) (p:Nat):aB w (w.iter s p):=aB.alloc _ _
end
section
open Go Go.ChangeShapes Go.WideShapes Go.ChangeAt Go.RowKit Go.Shelf Go.Lib
theorem own:ownKnob Tryz.prog.godebug=none:=by kernel_rfl
theorem laidOut:laidOutB Tryz.prog=true:=by kernel_rfl
def lays : List (String × DataW Unit) := [("henkan/crc.quarter", Rows.laid_henkan_crc_quarter), ("unicode/utf8.acceptRanges", Rows.laid_unicode_utf8_acceptRanges), ("unicode/utf8.first", Rows.laid_unicode_utf8_first)]
theorem gK1 {W:World} (h:laidMetH Tryz.prog lays W):laidMet Tryz.prog lays W:=h
theorem e1:Rows.laid_unicode_utf8_first=Lib.firstData:=by kernel_rfl
theorem e2:(Rows.laid_unicode_utf8_acceptRanges:DataW Unit)=Lib.acceptData:=by kernel_rfl
theorem e4:(Rows.laid_henkan_crc_quarter:DataW Unit)=Lib.tabData .u32 (jX.map λn:Nat=>(n:Int)):=by kernel_rfl
theorem oT1 : Tryz.prog.globalNamed "henkan/crc.quarter" = some 3 := by kernel_rfl
theorem env_of {W:World} (h:laidMetH Tryz.prog lays W) (hS:W.ShapedOpen Tryz.prog):Env W:=by
 have hL:=gK1 h
 have r1 : VarReads Tryz.prog W "unicode/utf8.first" firstData := by
  rw[<-e1];exact laidMet.reads hL (.tail _ (.tail _ (.head _)))
 have r2 : VarReads Tryz.prog W "unicode/utf8.acceptRanges" acceptData := by
  rw[<-e2];exact laidMet.reads hL (.tail _ (.head _))
 have r4 : VarReads Tryz.prog W "henkan/crc.quarter" (tabData .u32 (jX.map fun n : Nat => (n : Int))) := by
  rw[<-e4];exact laidMet.reads hL (.head _)
 refine⟨utf8Tabs_of_readsT (U8Types.of196 Tryz.laysValid) ⟨by kernel_rfl,by kernel_rfl,by kernel_rfl,by kernel_rfl,by kernel_rfl,by kernel_rfl,by kernel_rfl⟩ r1 r2,cell_of_shapedOpen_int (P:=Tryz.prog) (g:=2) (t:=3) (zero:=#[.int .i64 0]) hS (of_decide_eq_true (by kernel_rfl)) (by kernel_rfl) rfl (by kernel_rfl) (by kernel_rfl) Tryz.underlying3,?_⟩;obtain⟨g,t,cs,bu,p,hg,hty,agv,hd⟩:=r4;have ht:(Tryz.prog.globals[3]?).map (·.type)=some 315:=by kernel_rfl
 obtain rfl:=Option.some.inj (oT1.symm.trans hg);obtain rfl:=Option.some.inj (ht.symm.trans hty);have dg:=cells_of_tab Tryz.underlying315 Tryz.underlying152 (by kernel_rfl) (by kernel_rfl) hd
 have T : TabIs Tryz.prog W "henkan/crc.quarter" .u32 (jX.map fun n : Nat => (n : Int)) := by
  unfold TabIs;rw[agv,<-dg]
 intro i q hq;have hi:=(List.getElem?_eq_some_iff.1 hq).1;have hc:=T.cell oT1 i (by rw[List.length_map];exact hi);rw[hc,List.getD_eq_getElem?_getD,Ab,hq];rfl
end
section
open Go Go.ChangeShapes Go.WideShapes Go.ChangeAt Go.RowKit Go.Shelf Go.Lib
open Go.ChangeMaps (open_string shut_string)
theorem uG {α:Type} {P:Nat->α->Prop}:∀(n:Nat),(∀i,i<n->∃x,P i x)->∃l:List α,l.length=n/\∀(i:Nat) (x:α),l[i]?=some x->P i x
 | 0,_=>⟨[],rfl,λi x h=>by simp at h⟩
 | n+1,h=>by
  obtain⟨l,hl,hp⟩:=uG n (λi hi=>h i (by omega));obtain⟨x,hx⟩:=h n (by omega);refine⟨l++[x],by simp[hl],λi y hy=>?_⟩;rcases Nat.lt_or_ge i l.length with af|yv
  ·rw[List.getElem?_append_left af]at hy;exact hp i y hy
  ·rw[List.getElem?_append_right yv]at hy
   have h0:i-l.length=0:=by
    rcases Nat.eq_zero_or_pos (i-l.length) with h|h
    ·exact h
    ·rw[List.getElem?_eq_none (by simp;omega)]at hy;cases hy
   rw[h0]at hy;obtain rfl:x=y:=by simpa using hy
   obtain rfl:i=n:=by omega
   exact hx
theorem kY0 {w:World} {a:Addr} {v:Value} (h:w.cell? a=some v):a.spot=none:=by
 obtain⟨b,o,s⟩:=a
 cases s with
 | none=>rfl
 | some s =>
  unfold World.cell? at h;simp at h;split at h<;>cases h
theorem iE {b o j:Nat}:(⟨b,o,none⟩:Addr).add j=⟨b,o+j,none⟩:=by
 unfold Ae;by_cases h0:j=0
 ·subst h0;simp
 ·simp[h0]
section
variable {H:Type} {enc:TypeId×Value->H} {P:Program} {w:World} {base:Nat} {spare:Nat->Bool} {held:Bool}
theorem gS0 {α:Type} {cells:α->List Value} {OK:α->Prop} {t e:TypeId} {k:Nat} {r:Reach} {b0:Nat} {v:Value} {d:DataW H} {ps:List MemPlace} (ht:P.underlying t=some (.slice e)) (hC:P.cellsOf e=k) (hk:0<k) (aj:∀y,(cells y).length=k)
  (zt:∀(n:Nat) (cs:List Value) (x:DataW H×List MemPlace),cs.length=k->DataW.trod enc P w base spare held n e cs=some x->∃y:α,cs=cells y/\OK y)
  (mn:Value.okWide P w r b0 t v) (h:DataW.Trod enc P w base spare held t v d ps) :
  ∃(a:Option Addr) (l:List α) (cap:Nat),v=.slice a l.length cap/\aG w a k (l.map cells)/\(∀x∈l,OK x)/\(d=.nil/\l=[]\/∃el sp,d=.slice el sp/\el.length=l.length):=by
 obtain⟨a,len,cap,rfl⟩:=okWide_slice ht mn;obtain⟨bu,hf⟩:=h;have hc:(Value.slice a len cap).cells.toList=[.slice a len cap]:=by rfl
 rcases Go.Deep.open_slice ht (by simpa [Value.cells] using hf) with ⟨h1,h2⟩|⟨a',zu,mo,m,n,D,Pl,h1,hb,gv,agw,hm,hx,hi⟩
 ·obtain⟨rfl,rfl,rfl⟩:a=none/\len=0/\cap=0:=by simpa using h1
  simp only[Prod.mk.injEq]at h2;exact⟨none,[],0,rfl,aG.nil _ _ _,by simp,Or.inl ⟨h2.1,rfl⟩⟩
 ·obtain⟨rfl,rfl,rfl⟩:a=some a'/\len=zu/\cap=mo:=by simpa using h1
  simp only[Prod.mk.injEq]at hx
  obtain⟨l,hl,hp⟩:=uG (P:=λi (y:α)=>OK y/\∀(j:Nat) (u:Value),(cells y)[j]?=some u->w.cell? (a'.add (i*k+j))=some u) len (λi af=>by
   have him:i<m:=by rw[hm];split<;>omega
   obtain⟨cs,dg,htr⟩:=hi i him;rw[hC]at dg;obtain⟨_,cr,ac⟩:=World.cells?_some dg;obtain⟨y,rfl,ag⟩:=zt _ _ _ cr htr;refine⟨y,ag,λj u hu=>?_⟩;have hj:j<k:=by rw[<-cr];exact(List.getElem?_eq_some_iff.1 hu).1
   rw[<-Go.Deep.add_add];exact(ac j hj).trans hu)
  subst hl;refine⟨some a',l,cap,rfl,λak=>?_,λx hx=>?_,Or.inr ⟨_,_,hx.1,by simp⟩⟩
  ·have hs:a'.spot=none:=by
    cases l with
    | nil=>simp at ak
    | cons y0 r =>
     have h0:0<(cells y0).length:=by rw[aj];exact hk
     have:=(hp 0 y0 rfl).2 0 _ (Aa h0)
     have h2:=kY0 this;rw[Ac,Nat.zero_add]at h2;simpa [Ae] using h2
   obtain⟨b,off,s⟩:=a';obtain rfl:s=none:=hs;refine⟨b,off,rfl,λi row j7 j u hj=>?_⟩;rw[Ab]at j7
   cases i5:l[i]? with
   | none=>rw[i5]at j7;cases j7
   | some y =>
    rw[i5]at j7;obtain rfl:=Option.some.inj j7
    have:=(hp i y i5).2 j u hj
    rw[iE]at this;rw[Nat.add_assoc];exact this
  ·obtain⟨i,af,rfl⟩:=List.getElem_of_mem hx
   exact(hp i _ (Aa af)).1
end
theorem slice_nil {H:Type} {enc:TypeId×Value->H} {P:Program} {w:World} {base:Nat} {spare:Nat->Bool} {held:Bool} {t e:TypeId} {a:Option Addr} {n c:Nat} {d:DataW H} {ps:List MemPlace} (ht:P.underlying t=some (.slice e)) (h:DataW.Trod enc P w base spare held t (.slice a n c) d ps):a=none->c=0:=by
 intro ha;subst ha;obtain⟨bu,hf⟩:=h;rcases Go.Deep.open_slice ht (by simpa [Value.cells] using hf) with ⟨h1,_⟩|⟨a',zu,mo,m,n',D,Pl,h1,_⟩
 ·have:n=0/\c=0:=by simpa using h1
  exact this.2
 ·simp at h1
theorem sD {H:Type} {P:Program} {ts:List TypeId} {ds:List (DataW H)} (h:(DataW.weightsEach P ts ds).all (· <= reachBytes)=true) {j:Nat} {t e:TypeId} {d:DataW H} {n:Nat} (ht:ts[j]?=some t) (hd:ds[j]?=some d) (hu:P.underlying t=some (.slice e)) (hb:1<=P.bytesOf e)
  (hn:d=.nil/\n=0\/∃el sp,d=.slice el sp/\el.length=n):n<=140737488355328:=by
 rcases hn with ⟨_,rfl⟩|⟨el,sp,rfl,rfl⟩
 ·exact Ad _
 ·have h1:=sized_slice h ht hd hu
  have h2:el.length+sp.length<=(el.length+sp.length)*P.bytesOf e:=Nat.le_mul_of_pos_right _ hb;have h3:reachBytes<2^47:=reachBytes_lt;omega
theorem slice_cap {H:Type} {enc:TypeId×Value->H} {P:Program} {w:World} {base:Nat} {spare:Nat->Bool} {held:Bool} {t e:TypeId} {a:Option Addr} {n c:Nat} {d:DataW H} {ps:List MemPlace} (ht:P.underlying t=some (.slice e)) (h:DataW.Trod enc P w base spare held t (.slice a n c) d ps):n<=c:=by
 obtain⟨bu,hf⟩:=h;rcases Go.Deep.open_slice ht (by simpa [Value.cells] using hf) with ⟨h1,_⟩|⟨a',zu,mo,m,n',D,Pl,h1,hb,gv,_⟩
 ·have:a=none/\n=0/\c=0:=by simpa using h1
  omega
 ·obtain⟨_,rfl,rfl⟩:a=some a'/\n=zu/\c=mo:=by simpa using h1
  exact gv
theorem reach_bytes {H:Type} {P:Program} {ts:List TypeId} {ds:List (DataW H)} (h:(DataW.weightsEach P ts ds).all (· <= reachBytes)=true) {j:Nat} {t e:TypeId} {d:DataW H} {n k:Nat} (ht:ts[j]?=some t) (hd:ds[j]?=some d) (hu:P.underlying t=some (.slice e)) (hb:P.bytesOf e=k)
  (hn:d=.nil/\n=0\/∃el sp,d=.slice el sp/\el.length=n):n*k<=140737488355328:=by
 rcases hn with ⟨_,rfl⟩|⟨el,sp,rfl,rfl⟩
 ·rw[Ac];exact Ad _
 ·have h1:=sized_slice h ht hd hu
  rw[hb]at h1;have h2:el.length*k<=(el.length+sp.length)*k:=Nat.mul_le_mul_right k (Nat.le_add_right _ _);have h3:reachBytes<2^47:=reachBytes_lt;omega
section
variable {H:Type} {enc:TypeId×Value->H} {P:Program} {w:World} {base:Nat} {spare:Nat->Bool} {held:Bool}
theorem trodAll_five {t0 t1 t2 t3 t4:TypeId} {args:Array Value} {ds:List (DataW H)} {ps:List MemPlace} (h:DataW.TrodAll enc P w base spare held [t0,t1,t2,t3,t4] args.toList ds ps) :
  ∃v0 v1 v2 v3 v4 d0 d1 d2 d3 d4 p0 p1 p2 p3 p4,args = #[v0,v1,v2,v3,v4]/\ds=[d0,d1,d2,d3,d4]/\ps=p0++p1++p2++p3++p4/\DataW.Trod enc P w base spare held t0 v0 d0 p0/\DataW.Trod enc P w base spare held t1 v1 d1 p1/\DataW.Trod enc P w base spare held t2 v2 d2 p2/\DataW.Trod enc P w base spare held t3 v3 d3 p3/\DataW.Trod enc P w base spare held t4 v4 d4 p4:=by
 obtain⟨v0,vs0,d0,ds0,p0,q0,aik,rfl,rfl,hd0,aa9⟩:=trodAll_cons h;obtain⟨v1,vs1,d1,ds1,p1,q1,rfl,rfl,rfl,fc,aba⟩:=trodAll_cons aa9;obtain⟨v2,vs2,d2,ds2,p2,q2,rfl,rfl,rfl,ja,abb⟩:=trodAll_cons aba;obtain⟨v3,vs3,d3,ds3,p3,q3,rfl,rfl,rfl,lf,abc⟩:=trodAll_cons abb;obtain⟨v4,vs4,d4,ds4,p4,q4,rfl,rfl,rfl,hd4,abd⟩:=trodAll_cons abc;obtain⟨rfl,rfl,rfl⟩:=trodAll_nil abd;exact⟨v0,v1,v2,v3,v4,d0,d1,d2,d3,d4,p0,p1,p2,p3,p4,by cases args;simp_all,rfl,by simp,hd0,fc,ja,lf,hd4⟩
theorem trodAll_mk5 {t0 t1 t2 t3 t4:TypeId} {v0 v1 v2 v3 v4:Value} {d0 d1 d2 d3 d4:DataW H} {p0 p1 p2 p3 p4:List MemPlace} (h0:DataW.Trod enc P w base spare held t0 v0 d0 p0) (h1:DataW.Trod enc P w base spare held t1 v1 d1 p1)
 (h2:DataW.Trod enc P w base spare held t2 v2 d2 p2) (h3:DataW.Trod enc P w base spare held t3 v3 d3 p3) (h4:DataW.Trod enc P w base spare held t4 v4 d4 p4):DataW.TrodAll enc P w base spare held [t0,t1,t2,t3,t4] [v0,v1,v2,v3,v4] [d0,d1,d2,d3,d4] (p0++(p1++(p2++(p3++p4)))):=⟨p0,p1++(p2++(p3++p4)),h0,trodAll_mk4 h1 h2 h3 h4,rfl⟩
end
end
section
open Go Go.ChangeShapes Go.WideShapes Go.ChangeAt Go.RowKit Go.Shelf Go.Lib
noncomputable def yU0 (os:Os):World :=
 let w0:=World.holding Tryz.prog os ⟨#[],#[],[]⟩
 let put (h:Array Obj) (g:Nat) (cs:Array Value):Array Obj:=h.modify g λ
  | .cells _ t frozen => .cells cs t frozen
  | o=>o
 let h1:=put w0.heap 0 (Lib.firstTab.map λz=>Value.int .u8 z).toArray
 let h2:=put h1 1 ((List.range 16).flatMap λi=>[Value.int .u8 (Lib.accLo i),Value.int .u8 (Lib.accHi i)]).toArray
 let h3:=put h2 3 (jX.map λn:Nat=>Value.int .u32 (n:Int)).toArray
 { w0 with heap:=h3 }
theorem laid_met (os:Os) (args:Array Value):laidMet Tryz.prog lays ((yU0 os).forCall (λ_ _=>0) ⟨#[],args,[]⟩).memory :=
 (LaidIn.of_run (l:=lays) [3,1,0] 10 (by kernel_rfl) (by kernel_rfl) (by kernel_rfl) (by kernel_rfl)).met
end
end Go.Proofs.YtjhajgffmnkocaaGreatDoor
