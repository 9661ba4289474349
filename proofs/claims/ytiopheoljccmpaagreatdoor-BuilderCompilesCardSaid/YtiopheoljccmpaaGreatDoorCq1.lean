/- The texts Ord Mem SkipP App eS1, one behind the other. -/
import Derived.Deep.QuietTactic
import Derived.OrdersHeld
import Derived.StillTail
import Derived.WalkKit
import Derived.Lib.Strings
import Derived.Lib.Hide
open Bool renaming and_eq_true → Aa,false_eq_true → Ab,or_eq_true → Ag
open Go.Lib renaming toList_data → Ac,mk_data → Ap,size_eq → Aq
open List renaming flatMap_cons → Ad,length_cons → Ae,length_append → Aj,range → Ar
open Nat renaming le_trans → Af,zero_add → Ak,succ_mul → Am,le_refl → An
open Array renaming replicate → Ah
open Option renaming isSome_none → Ai
open Go.World renaming ownsRow_nil → Al,cell? → Ao
open Go.Addr renaming add → As
namespace Go.Proofs.YtiopheoljccmpaaGreatDoor
section
open Go Go.RowKit
def oC (s l:List Nat):List (Nat×Bool):=s.map λk=>(k,l.contains k)
def aT (n:Nat) (l:List Nat):List (Nat×Bool):=oC (Ar n) l
structure Ext (E:World->World->Prop) (w:World) where
 u:World
 h:E w u
section
variable {P:Program} {ops:Array Oper} {Q:Exit->Act->World->Prop} {md:Region.Mode} {E:World->World->Prop} {fin:Act->World->Prop}
def aM (P:Program) (o:Oper) (a:Act) (E:World->World->Prop) (w:World) (next:Act->Prop):Prop :=
 ∃v,(∀w2,(∃x:Ext E w,w2=x.u)->o.quietAt P a (λw3=>∃y:Ext E w2,w3=y.u) w2 v)/\next (a.put o.dst v)
def nX (P:Program) (ops:Array Oper) (E:World->World->Prop) (Q:Exit->Act->World->Prop) (fin:Act->World->Prop):List (Nat×Bool)->Act->World->Prop
 | [],a,w=>∀x:Ext E w,fin a x.u
 | (i,late)::rest,a,w=>match ops[i]? with
  | none=>False
  | some o=>if Region.wanted o (yielded ops a.tmps) then
    (if late then ∀x:Ext E w,o.wp P a x.u (λa' w'=>E x.u w'/\nX P ops E Q fin rest a' w') Q else aM P o a E w (λa'=>nX P ops E Q fin rest a' w))
   else nX P ops E Q fin rest (a.put o.dst undef) w
def lC0 (md:Region.Mode) (ops:Array Oper):Nat->Nat->Nat->Bool
 | 0,_,_=>false
 | f+1,i,j=>match ops[i]? with
  | some o=>o.after.any λe=>Region.binds md e&&(e.on==j||lC0 md ops f e.on j)
  | none=>false
def dI1 (md:Region.Mode) (ops:Array Oper) (i:Nat):Bool :=
 (Ar ops.size).all λj=>j==i||lC0 md ops ops.size i j||lC0 md ops ops.size j i
def lM (md:Region.Mode) (ops:Array Oper) (ag:Array Bool):Prop :=
 ∀(j:Nat) (oj:Oper),ops[j]?=some oj->ag.getD j false=true->∀e∈oj.after,Region.binds md e=true->ag.getD e.on false=true
theorem wY {ag:Array Bool} (hc:lM md ops ag):∀(f i j:Nat),ag.getD i false=true->lC0 md ops f i j=true->ag.getD j false=true
 | 0,_,_,_,h=>by cases h
 | f+1,i,j,hi,h=>by
  unfold lC0 at h;split at h
  ·rename_i o ho
   obtain⟨e,he,hb⟩:=Array.any_eq_true'.1 h;simp only[Aa,Ag,beq_iff_eq]at hb;have hon:=hc i o ho hi e he hb.1;rcases hb.2 with h1|h1
   ·rw[<-h1];exact hon
   ·exact wY hc f e.on j hon h1
  ·cases h
theorem zW {ag:Array Bool} (hc:lM md ops ag) {f i j:Nat} (hi:i∈Region.ready md ops ag) (h:lC0 md ops f i j=true):ag.getD j false=true:=by
 obtain⟨_,oi,hoi,d5⟩:=mem_ready.1 hi
 cases f with
 | zero=>cases h
 | succ f =>
  unfold lC0 at h;simp only[hoi]at h;obtain⟨e,he,hb⟩:=Array.any_eq_true'.1 h;simp only[Aa,Ag,beq_iff_eq]at hb;have hon:=d5 e he hb.1;rcases hb.2 with h1|h1
  ·rw[<-h1];exact hon
  ·exact wY hc f e.on j hon h1
theorem dY {ag:Array Bool} (hc:lM md ops ag) {i:Nat} (hi:i∈Region.ready md ops ag):lM md ops (ag.setIfInBounds i true):=by
 obtain⟨_,oi,hoi,d5⟩:=mem_ready.1 hi;intro j oj hj hl e he hb;by_cases hij:i=j
 ·subst hij
  have:oj=oi:=Option.some.inj (hj.symm.trans hoi)
  subst this;exact getD_set_true (d5 e he hb)
 ·rw[getD_set_ne false hij]at hl
  exact getD_set_true (hc j oj hj hl e he hb)
theorem sQ {ag:Array Bool} (hc:lM md ops ag) {i j:Nat} (hi:i∈Region.ready md ops ag) (hj:j∈Region.ready md ops ag) (i6:j≠i) (ht:dI1 md ops j=true):False:=by
 obtain⟨hui,oi,hoi,_⟩:=mem_ready.1 hi;obtain⟨huj,oj,hoj,_⟩:=mem_ready.1 hj;have h1:=List.all_eq_true.1 ht i (List.mem_range.2 (Array.getElem?_eq_some_iff.1 hoi).1);simp only[Ag,beq_iff_eq]at h1;rcases h1 with (h1|h1)|h1
 ·exact i6 h1.symm
 ·have:=zW hc hj h1;rw[getD_both hui]at this;cases this
 ·have:=zW hc hi h1;rw[getD_both huj]at this;cases this
def wP (P:Program) (md:Region.Mode) (ops:Array Oper) (Q:Exit->Act->World->Prop) (E:World->World->Prop):Nat->Array Bool->Act->World->Prop
 | 0,ag,a,w=>Region.ready md ops ag=[]/\∀x:Ext E w,Q .normal a x.u
 | ct+1,ag,a,w =>
  (Region.ready md ops ag=[]->∀x:Ext E w,Q .normal a x.u) /\
  ∀i∈Region.ready md ops ag,∀x:Ext E w,wpOp P ops Q i (λa' w'=>(E x.u w'/\wP P md ops Q E ct (ag.setIfInBounds i true) a' w')\/(dI1 md ops i=true/\wpAny P md ops Q ct (ag.setIfInBounds i true) a' w')) a x.u
theorem vG (hr:∀w,E w w):∀(ct:Nat) (ag:Array Bool) (a:Act) (w:World),wP P md ops Q E ct ag a w->wpAny P md ops Q ct ag a w
 | 0,_,_,w,h=>⟨h.1,h.2 ⟨w,hr w⟩⟩
 | ct+1,_,_,w,h=>⟨λh0=>h.1 h0 ⟨w,hr w⟩,λi hi=>wpOp_mono (λa' w' h'=>h'.elim (λh'=>vG hr ct _ a' w' h'.2) (λh'=>h'.2)) (h.2 i hi ⟨w,hr w⟩)⟩
theorem oH (ht:∀a b c,E a b->E b c->E a c) {ct:Nat} {ag:Array Bool} {a:Act} {w w':World} (hw:E w w') (h:wP P md ops Q E ct ag a w):wP P md ops Q E ct ag a w':=by
 cases ct with
 | zero=>exact⟨h.1,λx=>h.2 ⟨x.u,ht _ _ _ hw x.h⟩⟩
 | succ ct=>exact⟨λh0 x=>h.1 h0 ⟨x.u,ht _ _ _ hw x.h⟩,λi hi x=>h.2 i hi ⟨x.u,ht _ _ _ hw x.h⟩⟩
def gK (P:Program) (ops:Array Oper) (E:World->World->Prop) (o:Oper) (v:Value) (a:Act) (w:World):Prop :=
 (Region.wanted o (yielded ops a.tmps)=true/\∀w2,(∃x:Ext E w,w2=x.u)->o.quietAt P a (λw3=>∃y:Ext E w2,w3=y.u) w2 v) \/
 (Region.wanted o (yielded ops a.tmps)=false/\v=undef)
theorem gK.later (ht:∀a b c,E a b->E b c->E a c) {o:Oper} {v:Value} {a:Act} {w w':World} (hw:E w w') (h:gK P ops E o v a w):gK P ops E o v a w' :=
 h.imp (λ⟨h1,h2⟩=>⟨h1,λw2 ⟨x,hx⟩=>h2 w2 ⟨⟨x.u,ht _ _ _ hw x.h⟩,hx⟩⟩) id
theorem gK.of_same {o:Oper} {v:Value} {a a':Act} {w:World} (hy:gK P ops E o v a w) (he:execOp a'.eval o=execOp a.eval o)
  (hw:Region.wanted o (yielded ops a'.tmps)=Region.wanted o (yielded ops a.tmps)):gK P ops E o v a' w:=by
 unfold gK Oper.quietAt at *;rw[he,hw];exact hy
theorem fV0 {o:Oper} {v:Value} {a:Act} {w:World} {K:Act->World->Prop} (hr:E w w) (h:o.quietAt P a (λw3=>∃y:Ext E w,w3=y.u) w v) (hk:∀w3,E w w3->K (a.put o.dst v) w3):o.wp P a w K Q:=by
 unfold Oper.quietAt at h;unfold Oper.wp;generalize (execOp a.eval o).run P w=r at *
 cases r with
 | ok n w' =>
  cases n<;>simp only[Oper.quietUpon]at h<;>simp only[Oper.upon]
  case value u =>
   obtain⟨e1,e2⟩:=h;rw[e1,e2];exact hk _ hr
  case skip =>
   obtain⟨e1,e2⟩:=h;rw[e1,<-e2];exact hk _ hr
  case enter f args =>
   obtain⟨e1,hc⟩:=h;rw[e1];exact hc.mono λe lq ⟨he,y,hy⟩=>by subst he;subst hy;exact hk _ y.h
 | halt x w'=>simp only[Oper.quietUpon]at h
theorem gK.wpOp {i:Nat} {o:Oper} {v:Value} {a:Act} {w:World} (hr:E w w) (hi:ops[i]?=some o) (hy:gK P ops E o v a w)
  {K:Act->World->Prop} (h:∀w3,E w w3->K (a.put o.dst v) w3):wpOp P ops Q i K a w:=by
 unfold Go.wpOp;simp only[hi];rcases hy with ⟨hw,hv⟩|⟨hw,rfl⟩
 ·simp only[hw,if_true];exact .inl (fV0 hr (hv w ⟨⟨w,hr⟩,rfl⟩) h)
 ·simp only[hw,Ab,if_false];exact h _ hr
theorem uF0 {j:Nat} {oi oj:Oper} {v:Value} (hj:ops[j]?=some oj) (hap:oi.apart ops oj=true)
  (mi:∀cs b,oi.op ≠ .select cs b) (hsj:∀cs b,oj.op ≠ .select cs b)
  (hQ:∀d v c a w,Q (.panic c) (a.put d v) w->Q (.panic c) a w) {K:Act->World->Prop} {a:Act} {w wb:World}
  (hy:gK P ops E oi v a wb) (h:wpOp P ops Q j K (a.put oi.dst v) w) :
  wpOp P ops Q j (λa' w'=>gK P ops E oi v a' wb/\K (a'.put oi.dst v) w') a w:=by
 obtain⟨h1,h2,h3⟩:=Oper.apart_spec hap
 have keep:∀(a:Act),gK P ops E oi v a wb->∀u,gK P ops E oi v (a.put oj.dst u) wb:=λa hy u =>
  hy.of_same (execOp_put oi mi a oj.dst u h3) (wanted_put oi a oj.dst u h3)
 have zp:∀d,gK P ops E oi v { a with defers:=d::a.defers } wb:=λd=>hy.of_same rfl rfl
 unfold wpOp at *;simp only[hj] at *;rw[wanted_put oj a oi.dst v h1]at h;split
 ·rename_i hw
  simp only[hw,if_true]at h;rcases h with h|⟨qm,zq⟩
  case inr=>exact .inr ⟨by unfold Oper.asks at *;rw[execOp_put oj hsj a oi.dst v h1]at qm;exact qm,zq⟩
  refine .inl ?_;unfold Oper.wp at *;rw[execOp_put oj hsj a oi.dst v h1]at h;generalize (execOp a.eval oj).run P w=r at *
  cases r with
  | ok n w' =>
   cases n<;>simp only[Oper.upon]at h ⊢
   case value u=>exact⟨keep a hy u,by rw[<-Act.put_comm a v u h2];exact h⟩
   case skip=>exact⟨keep a hy _,by rw[<-Act.put_comm a v undef h2];exact h⟩
   case defer d =>
    refine⟨keep _ (zp d) _,?_⟩;rw[<-Act.put_comm _ v undef h2,<-Act.put_defers];exact h
   case enter f args =>
    refine Calls.mono h λe lq he=>?_
    cases e with
    | returned u=>exact⟨keep a hy u,by rw[<-Act.put_comm a v u h2];exact he⟩
    | panicked c=>exact hQ _ _ _ _ _ he
    | outgrown=>exact he
   case row row args=>exact Rows.mono h λu lq he=>⟨keep a hy u,by rw[<-Act.put_comm a v u h2];exact he⟩
  | halt x w' =>
   cases x<;>simp only[Oper.upon]at h ⊢
   case panic u=>exact hQ _ _ _ _ _ h
 ·rename_i hw
  simp only[hw]at h;exact⟨keep a hy _,by rw[<-Act.put_comm a v undef h2];exact h⟩
theorem vY (hr:∀w,E w w) (ht:∀a b c,E a b->E b c->E a c) {i:Nat} {oi:Oper} {v:Value} (hi:ops[i]?=some oi) (zr:∀(j:Nat) (o:Oper) cs b,ops[j]?=some o->o.op ≠ .select cs b)
  (hQ:∀d v c a w,Q (.panic c) (a.put d v) w->Q (.panic c) a w) :
  ∀(ct:Nat) (ag:Array Bool) (a:Act) (w:World),lM md ops ag ->
   (∀j oj,ops[j]?=some oj->j≠i->ag.getD j true=false->(∀e∈oj.after,Region.binds md e=true->e.on≠i)->oi.apart ops oj=true) ->
   i∈Region.ready md ops ag->gK P ops E oi v a w ->
   wP P md ops Q E ct (ag.setIfInBounds i true) (a.put oi.dst v) w->wP P md ops Q E (ct+1) ag a w:=by
 intro ct
 induction ct with
 | zero =>
  intro ag a w _ _ ic hy H;refine⟨λh=>(by rw[h]at ic;cases ic),λj hj x=>?_⟩;by_cases i6:j=i
  ·subst i6;exact(hy.later ht x.h).wpOp (hr _) hi (λw3 h3 => .inl ⟨h3,oH ht (ht _ _ _ x.h h3) H⟩)
  ·have:=ready_mono hj i6
   rw[H.1]at this;cases this
 | succ ct ih =>
  intro ag a w fu qn ic hy H;refine⟨λh=>(by rw[h]at ic;cases ic),λj hj x=>?_⟩;by_cases i6:j=i
  ·subst i6;exact(hy.later ht x.h).wpOp (hr _) hi (λw3 h3 => .inl ⟨h3,oH ht (ht _ _ _ x.h h3) H⟩)
  ·have h1:=H.2 j (ready_mono hj i6) x
   obtain⟨zt,oj,hoj,d5⟩:=mem_ready.1 hj
   have adi:∀e∈oj.after,Region.binds md e=true->e.on≠i:=λe he hb mj=>by
    have h1:=d5 e he hb;have h0:=(mem_ready.1 ic).1;rw[mj]at h1;rcases Nat.lt_or_ge i ag.size with h'|h'
    ·simp[h']at h0 h1;rw[h0]at h1;cases h1
    ·simp[Array.getElem?_eq_none h']at h1
   have h2:=uF0 hoj (qn j oj hoj i6 zt adi) (λcs b=>zr i oi cs b hi) (λcs b=>zr j oj cs b hoj) hQ hy h1
   have tq:∀k ok,ops[k]?=some ok->k≠i->(ag.setIfInBounds j true).getD k true=false ->
     (∀e∈ok.after,Region.binds md e=true->e.on≠i)->oi.apart ops ok=true:=λk ok hk di hun gj=>by
    refine qn k ok hk di ?_ gj;by_cases jx:j=k
    ·subst jx;exact zt
    ·rw[getD_set_ne true jx]at hun;exact hun
   refine wpOp_mono (λa' w' h3=>?_) h2;rcases h3.2 with h4|h4
   ·refine .inl ⟨h4.1,ih (ag.setIfInBounds j true) a' w' (dY fu hj) tq (ready_mono ic (Ne.symm i6)) (h3.1.later ht (ht _ _ _ x.h h4.1)) ?_⟩
    rw[Array.setIfInBounds_comm _ _ i6];exact h4.2
   ·exact(sQ fu ic hj i6 h4.1).elim
def aK1 (md:Region.Mode) (ops:Array Oper) (g k:Nat):List (Nat×Bool)->Array Bool->Bool
 | [],ag=>Region.seqB md ops g k ag
 | (i,false)::rest,ag=>(Region.ready md ops ag).contains i&&Region.free md ops ag i&&aK1 md ops g k rest (ag.setIfInBounds i true)
 | (i,true)::rest,ag=>decide (Region.ready md ops ag=[i])&&aK1 md ops g k rest (ag.setIfInBounds i true)
theorem gB (hr:∀w,E w w) (ht:∀a b c,E a b->E b c->E a c) (hs:Region.noSelect ops=true)
  (hQ:∀d v c a w,Q (.panic c) (a.put d v) w->Q (.panic c) a w) {g k:Nat}
  (au:∀ag a w,Region.seqB md ops g k ag=true->(∀x:Ext E w,fin a x.u)->wP P md ops Q E g ag a w) :
  ∀(l:List (Nat×Bool)) (ag:Array Bool) (a:Act) (w:World),lM md ops ag->aK1 md ops g k l ag=true->nX P ops E Q fin l a w->wP P md ops Q E (l.length+g) ag a w
 | [],ag,a,w,_,hB,h=>by rw[List.length_nil,Ak];exact au ag a w hB h
 | (i,false)::rest,ag,a,w,fu,hB,h=>by
  simp only[aK1,Aa]at hB;obtain⟨⟨ic,hf⟩,zu⟩:=hB;have ou:i∈Region.ready md ops ag:=by simpa using ic
  unfold nX at h;rw[Ae,show rest.length+1+g=(rest.length+g)+1 by omega]
  split at h
  ·exact h.elim
  ·rename_i o ho
   split at h
   ·rename_i hw
    simp only[Ab,if_false]at h;obtain⟨v,hv,hk⟩:=h;exact vY hr ht ho (Region.noSelect_spec hs) hQ _ ag a w fu (Region.free_spec ho hf) ou (.inl ⟨hw,hv⟩) (gB hr ht hs hQ au rest _ _ _ (dY fu ou) zu hk)
   ·rename_i hw
    exact vY hr ht ho (Region.noSelect_spec hs) hQ _ ag a w fu (Region.free_spec ho hf) ou (.inr ⟨by simpa using hw,rfl⟩) (gB hr ht hs hQ au rest _ _ _ (dY fu ou) zu h)
 | (i,true)::rest,ag,a,w,fu,hB,h=>by
  simp only[aK1,Aa,decide_eq_true_eq]at hB;obtain⟨ic,zu⟩:=hB;rw[Ae,show rest.length+1+g=(rest.length+g)+1 by omega]
  refine⟨λh0=>(by rw[h0]at ic;cases ic),λj hj x=>?_⟩;have ow:=hj;rw[ic]at hj;have i6:j=i:=by simpa using hj
  subst i6;unfold nX at h;unfold wpOp;split at h
  ·exact h.elim
  ·rename_i o ho
   simp only[ho];split at h
   ·rename_i hw
    simp only[hw,if_true]at h ⊢;exact .inl (Oper.wp_mono (λa' w' h' => .inl ⟨h'.1,gB hr ht hs hQ au rest _ _ _ (dY fu ow) zu h'.2⟩) (h x))
   ·rename_i hw
    simp only[hw] at ⊢;exact .inl ⟨hr _,oH ht x.h (gB hr ht hs hQ au rest _ _ _ (dY fu ow) zu h)⟩
def rQ (ops:Array Oper) (l:List (Nat×Bool)):Bool :=
 Region.noSelect ops&&decide (l.length=ops.size)&&aK1 .any ops 0 0 l (Ah ops.size false)
def jX (ops:Array Oper) (k:Nat) (l:List (Nat×Bool)):Bool :=
 Region.noSelect ops&&decide (l.length=k)&&decide (k<ops.size)&&dI1 .any ops k&&aK1 .any ops (ops.size-k) k l (Ah ops.size false)
theorem jI (md:Region.Mode) (ops:Array Oper):lM md ops (Ah ops.size false):=λj oj _ hl=>by rw[getD_replicate_false]at hl; cases hl
theorem iD (E:World->World->Prop) (l:List (Nat×Bool)) {id:Nat} {a:Act} {w:World} (hr:∀w,E w w) (ht:∀a b c,E a b->E b c->E a c)
  (hm:P.follows .mixedOrders=true) (hB:rQ ops l=true)
  (hQ:∀d v c a w,Q (.panic c) (a.put d v) w->Q (.panic c) a w) (h:nX P ops E Q (Q .normal) l a w.drew):(Code.region id ops true).wp P Q a w:=by
 simp only[rQ,Aa,decide_eq_true_eq]at hB;obtain⟨⟨hs,hl⟩,hB⟩:=hB
 have:=gB (md:=.any) (g:=0) (k:=0) hr ht hs hQ (λag a w hB h=>⟨by simpa [Region.seqB] using hB,h⟩) l _ a w.drew (jI _ _) hB h
 rw[Nat.add_zero,hl]at this;exact wp_region_any hm (vG hr _ _ _ _ this)
theorem gE (E:World->World->Prop) (k:Nat) (l:List (Nat×Bool)) {id:Nat} {L:List Oper} {a:Act} {w:World} (hr:∀w,E w w) (ht:∀a b c,E a b->E b c->E a c)
  (hm:P.follows .mixedOrders=true) (hB:jX L.toArray k l=true)
  (hQ:∀d v c a w,Q (.panic c) (a.put d v) w->Q (.panic c) a w) (h:nX P L.toArray E Q (wpList P L.toArray Q (L.drop k)) l a w.drew):(Code.region id L.toArray true).wp P Q a w:=by
 simp only[jX,Aa,decide_eq_true_eq]at hB;obtain⟨⟨⟨⟨hs,hl⟩,hk⟩,zv⟩,hB⟩:=hB;have hdl:(L.drop k).length=L.toArray.size-k:=by simp
 have:=gB (P:=P) (Q:=Q) (md:=.any) (ops:=L.toArray) (fin:=wpList P L.toArray Q (L.drop k)) (g:=L.toArray.size-k) (k:=k) hr ht hs hQ (λag a w hB h=>by
  obtain⟨g,hg⟩:∃g,L.toArray.size-k=g+1:=⟨L.toArray.size-k-1,by omega⟩
  have ic:Region.ready .any L.toArray ag=[k]:=by
   rw[hg]at hB;simp only[Region.seqB,Aa,decide_eq_true_eq]at hB;exact hB.1
  have d5:=λx:Ext E w=>wpAny_of_seq (md:=.any) (Q':=Q) (L.drop k) k ag a x.u (λj=>by simp[List.getElem?_drop]) (by rw[hdl];exact hB) (h x);rw[hg];refine⟨λh0=>(by rw[h0]at ic;cases ic),λj hj x=>?_⟩;have h1:=d5 x;rw[hdl,hg]at h1;have jx:j=k:=by rw[ic]at hj;simpa using hj
  subst jx;exact wpOp_mono (λa' w' h' => .inr ⟨zv,h'⟩) (h1.2 j hj)) l _ a w.drew (jI _ _) hB h
 rw[hl,show k+(L.toArray.size-k)=L.toArray.size by omega]at this
 exact wp_region_any hm (vG hr _ _ _ _ this)
theorem iB {i:Nat} {rest:List (Nat×Bool)} {a:Act} {w:World} {o:Oper} (ho:ops[i]?=some o)
  (h:∀K:Act->Prop,(∀a,nX P ops E Q fin rest a w->K a)->if Region.wanted o (yielded ops a.tmps) then aM P o a E w K else K (a.put o.dst undef)):nX P ops E Q fin ((i,false)::rest) a w:=by
 unfold nX;simp only[ho];exact h _ (λ_ h=>h)
theorem eH1 {i:Nat} {rest:List (Nat×Bool)} {a:Act} {w:World} {o:Oper} (ho:ops[i]?=some o)
  (h:∀K:Act->World->Prop,(∀a w,nX P ops E Q fin rest a w->K a w)->if Region.wanted o (yielded ops a.tmps) then ∀x:Ext E w,o.wp P a x.u (λa' w'=>E x.u w'/\K a' w') Q else K (a.put o.dst undef) w):nX P ops E Q fin ((i,true)::rest) a w:=by
 unfold nX;simp only[ho];exact h _ (λ_ _ h=>h)
theorem gQ {i:Nat} {rest:List (Nat×Bool)} {a:Act} {w:World} {o:Oper} (ho:ops[i]?=some o) (hw:Region.wanted o (yielded ops a.tmps)=true)
  (h:∀K:Act->World->Prop,(∀a w,nX P ops E Q fin rest a w->K a w)->∀w2,E w w2->o.wp P a w2 (λa' w'=>E w2 w'/\K a' w') Q):nX P ops E Q fin ((i,true)::rest) a w :=
 eH1 ho λK hK=>by rw[if_pos hw];exact λx=>h K hK x.u x.h
theorem nL {a:Act} {w:World} (h:∀w2,E w w2->fin a w2):nX P ops E Q fin [] a w:=λx=>h x.u x.h
end
def aB (w w':World):Prop:=Below w.heap.size w w'
theorem aB.refl (w:World):aB w w:=Below.refl _ _
instance (w:World):Nonempty (Ext aB w):=⟨⟨w,aB.refl w⟩⟩
theorem aB.trans (a b c:World) (h:aB a b) (k:aB b c):aB a c:=Below.trans h (Below.mono k h.size)
theorem aB.cell {w w':World} (h:aB w w') {p:Addr} {v:Value} (hc:w.cell? p=some v):w'.cell? p=some v :=
 (Below.cell h (World.block_lt_of_cell? w _ hc)).trans hc
theorem aB.size {w w':World} (h:aB w w'):w.heap.size<=w'.heap.size:=Below.size h
theorem aB.alloc (w:World) (o:Obj):aB w (w.alloc o):=(Below.refl _ _).alloc (An _) _
theorem aB.drew (w:World):aB w w.drew:=(Below.refl _ _).drew
theorem aG {w:World} {p:Addr} {v:Value} (hc:w.cell? p=some v) (x:Ext aB w):x.u.cell? p=some v:=x.h.cell hc
theorem tY {P:Program} {f:FuncId} {args:Array Value} {w:World} {v:Value} (h:Calls P f args w λe w'=>e=.returned v/\Below w.heap.size w w') :
 Calls P f args w λe lq=>e=.returned v/\∃y:Ext aB w,lq=y.u:=h.mono λ_ w' ⟨he,hw⟩=>⟨he,⟨w',hw⟩,rfl⟩
theorem exq {α:Sort _} (a:α):∃x,x=a:=⟨_,rfl⟩
theorem aX (w:World) (cs:Array Value) (t:TypeId) (fr:Nat×Nat) (j:Nat) (v:Value) (h:cs[j]?=some v):(w.alloc (.cells cs t fr)).cell? ⟨w.heap.size,j,none⟩=some v:=by
 have hh:(w.alloc (.cells cs t fr)).heap[w.heap.size]?=some (.cells cs t fr):=by
  show (w.heap.push _)[w.heap.size]?=_
  simp
 unfold Ao;simp only[hh,Ai,Ab,if_false,h]
end
section
open Go Go.RowKit
theorem aB.tr {a b c:World} (h:aB a b) (k:aB b c):aB a c:=aB.trans _ _ _ h k
theorem aB.al {a b:World} (h:aB a b) (o:Obj):aB a (b.alloc o):=h.tr (aB.alloc _ _)
theorem aB.dr {a b:World} (h:aB a b):aB a b.drew:=h.tr (aB.drew _)
theorem aB.set {a b:World} (h:aB a b) {p:Addr} (hp:a.heap.size<=p.block) (v:Value):aB a (b.setCell p v):=Below.setCell h hp v
theorem aB.below {a b:World} (h:aB a b):Below a.heap.size a b:=h
theorem aB.lt {a b:World} (h:aB a b) {k:Nat} (hk:k<a.heap.size):k<b.heap.size:=Nat.lt_of_lt_of_le hk h.size
theorem aB.froz {w w':World} (h:aB w w') {p:Addr} (hb:p.block<w.heap.size):w'.frozen? p=w.frozen? p:=Below.frozen h hb
def seq (x y:ByteArray):Bool:=x.toList==y.toList
theorem rK {x y:ByteArray}:seq x y=true↔x=y:=by
 unfold seq;rw[Ac,Ac,beq_iff_eq];constructor
 ·intro h
  have:=congrArg (λl=>(⟨l.toArray⟩:ByteArray)) h
  rwa [Ap,Ap]at this
 ·rintro rfl;rfl
theorem mJ {x y:ByteArray}:seq x y=false↔x≠y:=by
 rw[Ne,<-rK (x:=x) (y:=y)];simp
def aF (w:World) (a:Option Addr) (k:Nat) (rows:List (List Value)):Prop :=
 rows≠[]->∃b off,a=some ⟨b,off,none⟩/\∀(i:Nat) (row:List Value),rows[i]?=some row->∀(j:Nat) (v:Value),row[j]?=some v->w.cell? ⟨b,off+i*k+j,none⟩=some v
theorem aF.grows {w w':World} {a:Option Addr} {k:Nat} {rows:List (List Value)} (h:aF w a k rows) (hg:aB w w'):aF w' a k rows:=λhn=>by
 obtain⟨b,off,ha,hc⟩:=h hn;exact⟨b,off,ha,λi row hi j v hj=>hg.cell (hc i row hi j v hj)⟩
theorem aF.drew {w:World} {a:Option Addr} {k:Nat} {rows:List (List Value)} (h:aF w a k rows):aF w.drew a k rows:=h.grows (aB.drew _)
theorem aF.nil (w:World) (a:Option Addr) (k:Nat):aF w a k []:=λh=>absurd rfl h
theorem aF.get {α:Type} {w:World} {a:Option Addr} {k:Nat} {xs:List α} {enc:α->List Value} (h:aF w a k (xs.map enc)) (hn:xs≠[]) :
  ∃b off,a=some ⟨b,off,none⟩/\∀(i:Nat) (x:α),xs[i]?=some x->∀(j:Nat) (v:Value),(enc x)[j]?=some v->w.cell? ⟨b,off+i*k+j,none⟩=some v:=by
 obtain⟨b,off,ha,hc⟩:=h (by simpa using hn);exact⟨b,off,ha,λi x hi j v hj=>hc i (enc x) (by simp[hi]) j v hj⟩
theorem aH {α:Type} {xs:List α} {k:Nat} (h:k<xs.length):xs≠[]:=by rintro rfl; simp at h
theorem lK0 {k:IntKind} {a b:Int} (h:a=b):Ending.returned (.int k a)=.returned (.int k b):=by rw[h]
theorem aZ {a b:Bool} (h:a=b):Ending.returned (.bool a)=.returned (.bool b):=by rw[h]
structure bT where
 name:ByteArray
 kind:Int
def bI (p:bT):List Value:=[.string p.name,.int .i64 p.kind]
def oB (name:ByteArray):List bT->Nat->Option Nat
 | [],_=>none
 | p::l,i=>if seq p.name name then some i else oB name l (i+1)
def posFind (l:List bT) (name:ByteArray):Option Nat:=oB name l 0
theorem rH (name:ByteArray):∀(l:List bT) (i k:Nat),(∀j p,j<k->l[j]?=some p->seq p.name name=false)->oB name l i=oB name (l.drop k) (i+k)
 | [],i,k,_=>by simp[oB]
 | p::l,i,0,_=>by simp
 | p::l,i,k+1,h=>by
  have h0:seq p.name name=false:=h 0 p (by omega) rfl;rw[oB,h0,List.drop_succ_cons];simp only[Ab,if_false];rw[rH name l (i+1) k λj q hj hq=>h (j+1) q (by omega) (by simpa using hq)];congr 1;omega
theorem yZ {l:List bT} {name:ByteArray} {k:Nat} {p:bT} (hk:l[k]?=some p) (h:∀j q,j<k->l[j]?=some q->seq q.name name=false) (hp:seq p.name name=true):posFind l name=some k:=by
 have af:k<l.length:=(List.getElem?_eq_some_iff.1 hk).1;have hp':l[k]=p:=(List.getElem?_eq_some_iff.1 hk).2;rw[posFind,rH name l 0 k h,List.drop_eq_getElem_cons af,oB,hp',hp];simp
theorem xG {l:List bT} {name:ByteArray} (h:∀j q,j<l.length->l[j]?=some q->seq q.name name=false):posFind l name=none:=by
 rw[posFind,rH name l 0 _ h];simp[oB]
theorem vJ {name:ByteArray}:∀ {l:List bT} {i k:Nat},oB name l i=some k->i<=k/\k<i+l.length
 | [],i,k,h=>by simp[oB]at h
 | p::l,i,k,h=>by
  rw[oB]at h;split at h
  ·obtain rfl:=Option.some.inj h;simp
  ·have:=vJ h;simp;omega
theorem dJ {w w':World} {base:Nat} {e:TypeId} {size:Nat} {v:Value} {n:Nat} {xs:List Value} (h:w.ownsRow base e size v n xs) (hg:aB w w'):w'.ownsRow base e size v n xs:=by
 obtain⟨h1,h2⟩:=h;refine⟨h1,?_⟩;rcases h2 with h2|⟨g,cap,ei,hv,hb,hh,r⟩
 ·exact Or.inl h2
 ·exact Or.inr ⟨g,cap,ei,hv,hb,by rw[hg.block g (Array.getElem?_eq_some_iff.1 hh).1];exact hh,r⟩
theorem lC {w:World} {base base':Nat} {e:TypeId} {size:Nat} {v:Value} {n:Nat} {xs:List Value} (h:w.ownsRow base e size v n xs) (hb:base'<=base):w.ownsRow base' e size v n xs:=by
 obtain⟨h1,h2⟩:=h;refine⟨h1,?_⟩;rcases h2 with h2|⟨g,cap,ei,hv,hg,r⟩
 ·exact Or.inl h2
 ·exact Or.inr ⟨g,cap,ei,hv,Af hb hg,r⟩
theorem bF {w:World} {base:Nat} {e:TypeId} {size:Nat} {v:Value} {n:Nat} {xs:List Value} (h:w.ownsRow base e size v n xs):∀k,v.ownBlock=some k->base<=k:=by
 intro k hk;rcases h.2 with ⟨rfl,_⟩|⟨g,cap,ei,rfl,hb,_⟩
 ·cases hk
 ·have:g=k:=Option.some.inj hk
  omega
theorem aB.grown {a w w':World} {row:Option Nat} (h:aB a w) (hg:w.grownBy w' row) (hr:∀k,row=some k->a.heap.size<=k):aB a w':=Below.grown h hg h.size hr
theorem eV (w:World) (base:Nat) (e:TypeId) (size:Nat):w.ownsRow base e size (.slice none 0 0) 0 []:=Al _ _ _ _
theorem yB {α:Type} {enc:α->List Value} {k:Nat} (hk:∀x,(enc x).length=k):∀(xs:List α) (i j:Nat) (x:α) (v:Value),xs[i]?=some x->(enc x)[j]?=some v->(xs.flatMap enc)[i*k+j]?=some v
 | [],i,j,x,v,h,_=>by simp at h
 | y::r,0,j,x,v,h,hj=>by
  obtain rfl:y=x:=by simpa using h
  have af:j<(enc y).length:=(List.getElem?_eq_some_iff.1 hj).1;rw[Ad,Nat.zero_mul,Ak,List.getElem?_append_left af];exact hj
 | y::r,i+1,j,x,v,h,hj=>by
  rw[Ad,List.getElem?_append_right (by rw[hk,Am];omega),hk,show (i+1)*k+j-k=i*k+j by rw[Am];omega]
  exact yB hk r i j x v (by simpa using h) hj
theorem fO {α:Type} {enc:α->List Value} {k:Nat} (hk:∀x,(enc x).length=k):∀(xs:List α),(xs.flatMap enc).length=xs.length*k
 | []=>by simp
 | y::r=>by rw[Ad,Aj,hk,fO hk r,Ae,Am];omega
theorem uD {α:Type} {enc:α->List Value} {k:Nat} (hk:∀x,(enc x).length=k) {w:World} {base:Nat} {e:TypeId} {v:Value} {xs:List α} (h:w.ownsRow base e k v xs.length (xs.flatMap enc)) :
  ∃a cap,v=.slice a xs.length cap/\xs.length<=cap/\cap<=maxLen/\aF w a k (xs.map enc):=by
 rcases h.2 with ⟨rfl,h0⟩|⟨g,cap,ei,rfl,hb,hh,hn,hc,hs,ht⟩
 ·have:xs=[]:=List.length_eq_zero_iff.1 h0
  subst this;exact⟨none,0,rfl,An _,Nat.zero_le _,aF.nil _ _ _⟩
 ·refine⟨_,cap,rfl,hn,hc,λ_=>⟨g,0,rfl,λi row hi j u hj=>?_⟩⟩
  rw[List.getElem?_map]at hi
  cases hx:xs[i]? with
  | none=>rw[hx]at hi;cases hi
  | some x =>
   rw[hx]at hi;obtain rfl:=Option.some.inj hi;have hf:=yB hk xs i j x u hx hj;rw[<-ht,List.getElem?_take]at hf;split at hf
   ·unfold Ao
    simp only[hh,Ai,Ab,if_false];rw[Ak];simpa using hf
   ·cases hf
def bos:ByteArray:=⟨#[66,79,83]⟩
def iK (s:ByteArray):Bool:=s.data.toList.isEmpty||(s.data.toList.head?==some 35)
theorem gZ {s:ByteArray} (h:¬s.toList=[]):0<s.size:=by
 rw[Ac]at h;rw[Aq];exact List.length_pos_iff.2 h
theorem oQ0 {s:ByteArray} (h:0<s.size):s.data.toList.head?=some s[0]:=by
 rw[List.head?_eq_getElem?,Array.getElem?_toList];exact Array.getElem?_eq_getElem (by exact h)
theorem mQ {s:ByteArray} (h:s.toList=[]):iK s=true:=by
 rw[Ac]at h;unfold iK;rw[h];rfl
theorem pR {s:ByteArray} (h:0<s.size) (kw:(s[0].toNat:Int)=35):iK s=true:=by
 unfold iK;rw[oQ0 h]
 have:s[0]=35:=by rw[<-UInt8.toNat_inj];simp;omega
 rw[this];simp
theorem sW {s:ByteArray} (h:0<s.size) (kw:¬(s[0].toNat:Int)=35):iK s=false:=by
 unfold iK
 have aw:s.data.toList.isEmpty=false:=by
  rw[Aq]at h
  cases hh:s.data.toList with
  | nil=>rw[hh]at h;simp at h
  | cons _ _=>rfl
 rw[oQ0 h,aw]
 have:¬s[0]=35:=by intro e;rw[e]at kw;exact kw rfl
 simp[this]
structure eG {α:Type} (P:Program) (t e:TypeId) (k bytes:Nat) (enc:α->List Value):Prop where
 sl:P.underlying t=some (.slice e)
 info:∃i z,P.info? e=some i/\i.zero=some z/\i.size=k/\i.bytes=bytes/\z.cells.size=k
 pos:0<k
 by1:1<=bytes
 len:∀x,(enc x).length=k
 one:∀x u,u∈enc x->u.oneCell'=true
theorem eY {P:Program} {e:TypeId} {z:Value} {k bytes:Nat} (h:(P.info? e).map (λi=>(i.zero,i.size,i.bytes))=some (some z,k,bytes)) (hz:z.cells.size=k) :
  ∃i z,P.info? e=some i/\i.zero=some z/\i.size=k/\i.bytes=bytes/\z.cells.size=k:=by
 cases hi:P.info? e with
 | none=>rw[hi]at h;cases h
 | some i =>
  rw[hi]at h;simp only[Option.map_some,Option.some.injEq,Prod.mk.injEq]at h;exact⟨i,z,rfl,h.1,h.2.1,h.2.2,hz⟩
def aO {α:Type} (w:World) (base:Nat) (e:TypeId) (k:Nat) (enc:α->List Value) (v:Value) (xs:List α):Prop:=w.ownsRow base e k v xs.length (xs.flatMap enc)
theorem aO.nil {α:Type} (w:World) (base:Nat) (e:TypeId) (k:Nat) (enc:α->List Value):aO w base e k enc (.slice none 0 0) []:=Al _ _ _ _
theorem aO.grows {α:Type} {w w':World} {base:Nat} {e:TypeId} {k:Nat} {enc:α->List Value} {v:Value} {xs:List α} (h:aO w base e k enc v xs) (hg:aB w w'):aO w' base e k enc v xs:=dJ h hg
theorem aO.base {α:Type} {w:World} {base base':Nat} {e:TypeId} {k:Nat} {enc:α->List Value} {v:Value} {xs:List α} (h:aO w base e k enc v xs) (hb:base'<=base):aO w base' e k enc v xs:=lC h hb
theorem aO.at_ {α:Type} {enc:α->List Value} {k:Nat} (hk:∀x,(enc x).length=k) {w:World} {base:Nat} {e:TypeId} {v:Value} {xs:List α} (h:aO w base e k enc v xs) :
 ∃a cap,v=.slice a xs.length cap/\xs.length<=cap/\cap<=maxLen/\aF w a k (xs.map enc):=uD hk h
theorem eN {w:World} {cs:Array Value} {t:TypeId} {n:Nat} (hn:n=w.heap.size) (j:Nat) (u:Value) (hj:cs.toList[j]?=some u):(w.alloc (.cells cs t)).cell? ((⟨n,0,none⟩:Addr).add j)=some u:=by
 subst hn;have h:=aX w cs t (0,0) j u (by simpa using hj);unfold As;by_cases h0:j=0
 ·subst h0;simpa using h
 ·simp[h0,h]
theorem eY0 {n j:Nat}:(⟨n,0,none⟩:Addr).add j=⟨n,j,none⟩:=by
 unfold As;by_cases h0:j=0
 ·subst h0;simp
 ·simp[h0]
theorem jT1 {α:Type} {P:Program} {t e:TypeId} {k bytes:Nat} {enc:α->List Value} (L:eG P t e k bytes enc) {ops:Array Oper} {rest:List Oper} {o:Oper} {a:Act} {Q:Exit->Act->World->Prop} {w W:World}
  (ll:o.guard=none) (s x:Operand) (lr:o.op=.call { callee:=.builtin .append,args:=#[s,x],argTypes:=#[t,t] })
  (base:Nat) (v:Value) (xs:List α) (y:α) (hs:a.eval s=v) (ae:aO w base e k enc v xs) (fx:aB w W) (n c:Nat) (hc:∀(j:Nat) (u:Value),(enc y)[j]?=some u->W.cell? ⟨n,j,none⟩=some u)
  (hx:a.eval x=.slice (some ⟨n,0,none⟩) 1 c) (ay:(xs.length+1)*bytes<=140737488355328) (dl:base<=w.heap.size)
  (h:∀v' w',aO w' base e k enc v' (xs++[y])->(∀a0,aB a0 w->a0.heap.size<=base->aB a0 w')->wpList P ops Q rest (a.put o.dst v') w') :
  wpList P ops Q (o::rest) a W:=by
 obtain⟨i,z,hi,hz,fg,mq,qb⟩:=L.info;have js:xs.length+1<=140737488355328:=Af (Nat.le_mul_of_pos_right _ L.by1) ay
 refine wpList_append_own _ ll s x t lr base e i z k bytes L.sl hi hz fg mq qb L.pos v xs.length (xs.flatMap enc) hs (dJ ae fx) ⟨n,0,none⟩ 1 c (enc y) hx (by rw[L.len,Nat.one_mul])
  (λj u hu=>by rw[eY0];exact hc j u hu) (L.one y) (by unfold maxLen;omega) ay (Af dl fx.size) ?_
 intro v' w' h1 h2 _;refine h v' w' ?_ (λa0 h0 hb=>(h0.tr fx).grown h2 (λq hq=>Af hb (bF ae q hq)));unfold aO;rw[Aj,List.length_singleton,List.flatMap_append];simpa using h1
theorem dQ {α:Type} {P:Program} {t e:TypeId} {k bytes:Nat} {enc:α->List Value} (L:eG P t e k bytes enc) {ops:Array Oper} {rest:List Oper} {o:Oper} {a:Act} {Q:Exit->Act->World->Prop} {w W:World}
  (ll:o.guard=none) (s x:Operand) (lr:o.op=.call { callee:=.builtin .append,args:=#[s,x],argTypes:=#[t,t] })
  (base:Nat) (v:Value) (xs:List α) (y:α) (hs:a.eval s=v) (ae:aO w base e k enc v xs) (fx:aB w W) (n c:Nat) (hn:n=W.heap.size) (cs:Array Value) (dz:cs.toList=enc y)
  (hx:a.eval x=.slice (some ⟨n,0,none⟩) 1 c) (ay:(xs.length+1)*bytes<=140737488355328) (dl:base<=w.heap.size)
  (h:∀v' w',aO w' base e k enc v' (xs++[y])->(∀a0,aB a0 w->a0.heap.size<=base->aB a0 w')->wpList P ops Q rest (a.put o.dst v') w') :
  wpList P ops Q (o::rest) a (W.alloc (.cells cs e)) :=
 jT1 L ll s x lr base v xs y hs ae (fx.al _) n c (λj u hu=>by
  have:=eN (w:=W) (cs:=cs) (t:=e) hn j u (by rw[dz];exact hu)
  rw[eY0]at this;exact this) hx ay dl h
theorem bI0 {w w':World} {cs:Array Value} {t:TypeId} (hg:aB (w.alloc (.cells cs t)) w') {l:List Value} (hl:cs.toList=l):∀(j:Nat) (u:Value),l[j]?=some u->w'.cell? ⟨w.heap.size,j,none⟩=some u:=λj u hu =>
 hg.cell (aX w cs t _ j u (by rw[<-hl]at hu;simpa using hu))
end
section
open Go Go.RowKit
structure eS1 (P:Program) (ops:Array Oper) (E:World->World->Prop) (Q:Exit->Act->World->Prop) (fin:Act->World->Prop) (l:List (Nat×Bool)) (a:Act) (w:World):Prop where
 out:nX P ops E Q fin l a w
section
variable {P:Program} {ops:Array Oper} {Q:Exit->Act->World->Prop} {E:World->World->Prop} {fin:Act->World->Prop}
theorem iX (E:World->World->Prop) (l:List (Nat×Bool)) {id:Nat} {a:Act} {w:World} (hr:∀w,E w w) (ht:∀a b c,E a b->E b c->E a c)
 (hm:P.follows .mixedOrders=true) (hB:rQ ops l=true)
 (hQ:∀d v c a w,Q (.panic c) (a.put d v) w->Q (.panic c) a w) (h:eS1 P ops E Q (Q .normal) l a w.drew):(Code.region id ops true).wp P Q a w:=iD E l hr ht hm hB hQ h.out
theorem cQ {i:Nat} {rest:List (Nat×Bool)} {a:Act} {w:World} {o:Oper} (ho:ops[i]?=some o)
  (h:∀K:Act->Prop,(∀a,eS1 P ops E Q fin rest a w->K a)->if Region.wanted o (yielded ops a.tmps) then aM P o a E w K else K (a.put o.dst undef)):eS1 P ops E Q fin ((i,false)::rest) a w :=
 ⟨iB ho λK hK=>h K λa ha=>hK a ha.out⟩
theorem nE {i:Nat} {rest:List (Nat×Bool)} {a:Act} {w:World} {o:Oper} (ho:ops[i]?=some o) (hw:Region.wanted o (yielded ops a.tmps)=true)
  (h:∀K:Act->World->Prop,(∀a w,eS1 P ops E Q fin rest a w->K a w)->∀w2,E w w2->o.wp P a w2 (λa' w'=>E w2 w'/\K a' w') Q):eS1 P ops E Q fin ((i,true)::rest) a w :=
 ⟨gQ ho hw λK hK=>h K λa w ha=>hK a w ha.out⟩
theorem sG {a:Act} {w:World} (h:∀w2,E w w2->fin a w2):eS1 P ops E Q fin [] a w:=⟨nL h⟩
end
theorem jD1 {P:Program} {Q:Exit->Act->World->Prop} (E:World->World->Prop) (k:Nat) (l:List (Nat×Bool)) {id:Nat} {L:List Oper} {a:Act} {w:World} (hr:∀w,E w w) (ht:∀a b c,E a b->E b c->E a c)
 (hm:P.follows .mixedOrders=true) (hB:jX L.toArray k l=true)
 (hQ:∀d v c a w,Q (.panic c) (a.put d v) w->Q (.panic c) a w) (h:eS1 P L.toArray E Q (wpList P L.toArray Q (L.drop k)) l a w.drew):(Code.region id L.toArray true).wp P Q a w:=gE E k l hr ht hm hB hQ h.out
end
end Go.Proofs.YtiopheoljccmpaaGreatDoor
