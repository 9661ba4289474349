/- The texts Ord Mem App mD1, one behind the other. -/
import Derived.Deep.QuietTactic
import Derived.OrdersHeld
import Derived.StillTail
import Derived.WalkKit
import Derived.Lib.Strings
import Derived.Lib.Hide
open Bool renaming and_eq_true → Aa,false_eq_true → Ab,or_eq_true → Af
open List renaming flatMap_cons → Ac,length_cons → Ad,length_append → Ai,range → Ap
open Nat renaming le_trans → Ae,zero_add → Aj,succ_mul → Ak,le_refl → Am
open Array renaming replicate → Ag
open Option renaming isSome_none → Ah
open Go.Lib renaming toList_data → Al,mk_data → Ao
open Go.World renaming cell? → An
open Go.Addr renaming add → Aq
namespace Go.Proofs.YthgklnohcmaopaaGreatDoor
section
open Go Go.RowKit
def oK (s l:List Nat):List (Nat×Bool):=s.map λk=>(k,l.contains k)
def bB (n:Nat) (l:List Nat):List (Nat×Bool):=oK (Ap n) l
structure Ext (E:World->World->Prop) (w:World) where
 u:World
 h:E w u
section
variable {P:Program} {ops:Array Oper} {Q:Exit->Act->World->Prop} {md:Region.Mode} {E:World->World->Prop} {fin:Act->World->Prop}
def aO (P:Program) (o:Oper) (a:Act) (E:World->World->Prop) (w:World) (next:Act->Prop):Prop :=
 ∃v,(∀w2,(∃x:Ext E w,w2=x.u)->o.quietAt P a (λw3=>∃y:Ext E w2,w3=y.u) w2 v)/\next (a.put o.dst v)
def oQ (P:Program) (ops:Array Oper) (E:World->World->Prop) (Q:Exit->Act->World->Prop) (fin:Act->World->Prop):List (Nat×Bool)->Act->World->Prop
 | [],a,w=>∀x:Ext E w,fin a x.u
 | (i,late)::rest,a,w=>match ops[i]? with
  | none=>False
  | some o=>if Region.wanted o (yielded ops a.tmps) then
    (if late then ∀x:Ext E w,o.wp P a x.u (λa' w'=>E x.u w'/\oQ P ops E Q fin rest a' w') Q else aO P o a E w (λa'=>oQ P ops E Q fin rest a' w))
   else oQ P ops E Q fin rest (a.put o.dst undef) w
def nV0 (md:Region.Mode) (ops:Array Oper):Nat->Nat->Nat->Bool
 | 0,_,_=>false
 | f+1,i,j=>match ops[i]? with
  | some o=>o.after.any λe=>Region.binds md e&&(e.on==j||nV0 md ops f e.on j)
  | none=>false
def mB0 (md:Region.Mode) (ops:Array Oper) (i:Nat):Bool :=
 (Ap ops.size).all λj=>j==i||nV0 md ops ops.size i j||nV0 md ops ops.size j i
def kR (md:Region.Mode) (ops:Array Oper) (listed:Array Bool):Prop :=
 ∀(j:Nat) (oj:Oper),ops[j]?=some oj->listed.getD j false=true->∀e∈oj.after,Region.binds md e=true->listed.getD e.on false=true
theorem wU {listed:Array Bool} (hc:kR md ops listed):∀(f i j:Nat),listed.getD i false=true->nV0 md ops f i j=true->listed.getD j false=true
 | 0,_,_,_,h=>by cases h
 | f+1,i,j,hi,h=>by
  unfold nV0 at h;split at h
  ·rename_i o ho
   obtain⟨e,he,hb⟩:=Array.any_eq_true'.1 h;simp only[Aa,Af,beq_iff_eq]at hb;have hon:=hc i o ho hi e he hb.1;rcases hb.2 with h1|h1
   ·rw[<-h1];exact hon
   ·exact wU hc f e.on j hon h1
  ·cases h
theorem aT0 {listed:Array Bool} (hc:kR md ops listed) {f i j:Nat} (hi:i∈Region.ready md ops listed) (h:nV0 md ops f i j=true):listed.getD j false=true:=by
 obtain⟨_,oi,hoi,aw⟩:=mem_ready.1 hi
 cases f with
 | zero=>cases h
 | succ f =>
  unfold nV0 at h;simp only[hoi]at h;obtain⟨e,he,hb⟩:=Array.any_eq_true'.1 h;simp only[Aa,Af,beq_iff_eq]at hb;have hon:=aw e he hb.1;rcases hb.2 with h1|h1
  ·rw[<-h1];exact hon
  ·exact wU hc f e.on j hon h1
theorem dH {listed:Array Bool} (hc:kR md ops listed) {i:Nat} (hi:i∈Region.ready md ops listed):kR md ops (listed.setIfInBounds i true):=by
 obtain⟨_,oi,hoi,aw⟩:=mem_ready.1 hi;intro j oj hj hl e he hb;by_cases kw:i=j
 ·subst kw
  have:oj=oi:=Option.some.inj (hj.symm.trans hoi)
  subst this;exact getD_set_true (aw e he hb)
 ·rw[getD_set_ne false kw]at hl
  exact getD_set_true (hc j oj hj hl e he hb)
theorem sV {listed:Array Bool} (hc:kR md ops listed) {i j:Nat} (hi:i∈Region.ready md ops listed) (hj:j∈Region.ready md ops listed) (gi:j≠i) (ht:mB0 md ops j=true):False:=by
 obtain⟨hui,oi,hoi,_⟩:=mem_ready.1 hi;obtain⟨huj,oj,hoj,_⟩:=mem_ready.1 hj;have h1:=List.all_eq_true.1 ht i (List.mem_range.2 (Array.getElem?_eq_some_iff.1 hoi).1);simp only[Af,beq_iff_eq]at h1;rcases h1 with (h1|h1)|h1
 ·exact gi h1.symm
 ·have:=aT0 hc hj h1;rw[getD_both hui]at this;cases this
 ·have:=aT0 hc hi h1;rw[getD_both huj]at this;cases this
def wY (P:Program) (md:Region.Mode) (ops:Array Oper) (Q:Exit->Act->World->Prop) (E:World->World->Prop):Nat->Array Bool->Act->World->Prop
 | 0,listed,a,w=>Region.ready md ops listed=[]/\∀x:Ext E w,Q .normal a x.u
 | bz+1,listed,a,w =>
  (Region.ready md ops listed=[]->∀x:Ext E w,Q .normal a x.u) /\
  ∀i∈Region.ready md ops listed,∀x:Ext E w,wpOp P ops Q i (λa' w'=>(E x.u w'/\wY P md ops Q E bz (listed.setIfInBounds i true) a' w')\/(mB0 md ops i=true/\wpAny P md ops Q bz (listed.setIfInBounds i true) a' w')) a x.u
theorem vU (hr:∀w,E w w):∀(bz:Nat) (listed:Array Bool) (a:Act) (w:World),wY P md ops Q E bz listed a w->wpAny P md ops Q bz listed a w
 | 0,_,_,w,h=>⟨h.1,h.2 ⟨w,hr w⟩⟩
 | bz+1,_,_,w,h=>⟨λh0=>h.1 h0 ⟨w,hr w⟩,λi hi=>wpOp_mono (λa' w' h'=>h'.elim (λh'=>vU hr bz _ a' w' h'.2) (λh'=>h'.2)) (h.2 i hi ⟨w,hr w⟩)⟩
theorem qB (ht:∀a b c,E a b->E b c->E a c) {bz:Nat} {listed:Array Bool} {a:Act} {w w':World} (hw:E w w') (h:wY P md ops Q E bz listed a w):wY P md ops Q E bz listed a w':=by
 cases bz with
 | zero=>exact⟨h.1,λx=>h.2 ⟨x.u,ht _ _ _ hw x.h⟩⟩
 | succ bz=>exact⟨λh0 x=>h.1 h0 ⟨x.u,ht _ _ _ hw x.h⟩,λi hi x=>h.2 i hi ⟨x.u,ht _ _ _ hw x.h⟩⟩
def iF (P:Program) (ops:Array Oper) (E:World->World->Prop) (o:Oper) (v:Value) (a:Act) (w:World):Prop :=
 (Region.wanted o (yielded ops a.tmps)=true/\∀w2,(∃x:Ext E w,w2=x.u)->o.quietAt P a (λw3=>∃y:Ext E w2,w3=y.u) w2 v) \/
 (Region.wanted o (yielded ops a.tmps)=false/\v=undef)
theorem iF.later (ht:∀a b c,E a b->E b c->E a c) {o:Oper} {v:Value} {a:Act} {w w':World} (hw:E w w') (h:iF P ops E o v a w):iF P ops E o v a w' :=
 h.imp (λ⟨h1,h2⟩=>⟨h1,λw2 ⟨x,hx⟩=>h2 w2 ⟨⟨x.u,ht _ _ _ hw x.h⟩,hx⟩⟩) id
theorem iF.of_same {o:Oper} {v:Value} {a a':Act} {w:World} (hy:iF P ops E o v a w) (he:execOp a'.eval o=execOp a.eval o)
  (hw:Region.wanted o (yielded ops a'.tmps)=Region.wanted o (yielded ops a.tmps)):iF P ops E o v a' w:=by
 unfold iF Oper.quietAt at *;rw[he,hw];exact hy
theorem gN0 {o:Oper} {v:Value} {a:Act} {w:World} {K:Act->World->Prop} (hr:E w w) (h:o.quietAt P a (λw3=>∃y:Ext E w,w3=y.u) w v) (hk:∀w3,E w w3->K (a.put o.dst v) w3):o.wp P a w K Q:=by
 unfold Oper.quietAt at h;unfold Oper.wp;generalize (execOp a.eval o).run P w=r at *
 cases r with
 | ok n w' =>
  cases n<;>simp only[Oper.quietUpon]at h<;>simp only[Oper.upon]
  case value u =>
   obtain⟨e1,e2⟩:=h;rw[e1,e2];exact hk _ hr
  case skip =>
   obtain⟨e1,e2⟩:=h;rw[e1,<-e2];exact hk _ hr
  case enter f args =>
   obtain⟨e1,hc⟩:=h;rw[e1];exact hc.mono λe q6 ⟨he,y,hy⟩=>by subst he;subst hy;exact hk _ y.h
 | halt x w'=>simp only[Oper.quietUpon]at h
theorem iF.wpOp {i:Nat} {o:Oper} {v:Value} {a:Act} {w:World} (hr:E w w) (hi:ops[i]?=some o) (hy:iF P ops E o v a w)
  {K:Act->World->Prop} (h:∀w3,E w w3->K (a.put o.dst v) w3):wpOp P ops Q i K a w:=by
 unfold Go.wpOp;simp only[hi];rcases hy with ⟨hw,hv⟩|⟨hw,rfl⟩
 ·simp only[hw,if_true];exact .inl (gN0 hr (hv w ⟨⟨w,hr⟩,rfl⟩) h)
 ·simp only[hw,Ab,if_false];exact h _ hr
theorem bU1 {j:Nat} {oi oj:Oper} {v:Value} (hj:ops[j]?=some oj) (hap:oi.apart ops oj=true)
  (hsi:∀cs b,oi.op ≠ .select cs b) (hsj:∀cs b,oj.op ≠ .select cs b)
  (hQ:∀d v c a w,Q (.panic c) (a.put d v) w->Q (.panic c) a w) {K:Act->World->Prop} {a:Act} {w wb:World}
  (hy:iF P ops E oi v a wb) (h:wpOp P ops Q j K (a.put oi.dst v) w) :
  wpOp P ops Q j (λa' w'=>iF P ops E oi v a' wb/\K (a'.put oi.dst v) w') a w:=by
 obtain⟨h1,h2,h3⟩:=Oper.apart_spec hap
 have keep:∀(a:Act),iF P ops E oi v a wb->∀u,iF P ops E oi v (a.put oj.dst u) wb:=λa hy u =>
  hy.of_same (execOp_put oi hsi a oj.dst u h3) (wanted_put oi a oj.dst u h3)
 have vx:∀d,iF P ops E oi v { a with defers:=d::a.defers } wb:=λd=>hy.of_same rfl rfl
 unfold wpOp at *;simp only[hj] at *;rw[wanted_put oj a oi.dst v h1]at h;split
 ·rename_i hw
  simp only[hw,if_true]at h;rcases h with h|⟨oo,vy⟩
  case inr=>exact .inr ⟨by unfold Oper.asks at *;rw[execOp_put oj hsj a oi.dst v h1]at oo;exact oo,vy⟩
  refine .inl ?_;unfold Oper.wp at *;rw[execOp_put oj hsj a oi.dst v h1]at h;generalize (execOp a.eval oj).run P w=r at *
  cases r with
  | ok n w' =>
   cases n<;>simp only[Oper.upon]at h ⊢
   case value u=>exact⟨keep a hy u,by rw[<-Act.put_comm a v u h2];exact h⟩
   case skip=>exact⟨keep a hy _,by rw[<-Act.put_comm a v undef h2];exact h⟩
   case defer d =>
    refine⟨keep _ (vx d) _,?_⟩;rw[<-Act.put_comm _ v undef h2,<-Act.put_defers];exact h
   case enter f args =>
    refine Calls.mono h λe q6 he=>?_
    cases e with
    | returned u=>exact⟨keep a hy u,by rw[<-Act.put_comm a v u h2];exact he⟩
    | panicked c=>exact hQ _ _ _ _ _ he
    | outgrown=>exact he
   case row row args=>exact Rows.mono h λu q6 he=>⟨keep a hy u,by rw[<-Act.put_comm a v u h2];exact he⟩
  | halt x w' =>
   cases x<;>simp only[Oper.upon]at h ⊢
   case panic u=>exact hQ _ _ _ _ _ h
 ·rename_i hw
  simp only[hw]at h;exact⟨keep a hy _,by rw[<-Act.put_comm a v undef h2];exact h⟩
theorem wH (hr:∀w,E w w) (ht:∀a b c,E a b->E b c->E a c) {i:Nat} {oi:Oper} {v:Value} (hi:ops[i]?=some oi) (vz:∀(j:Nat) (o:Oper) cs b,ops[j]?=some o->o.op ≠ .select cs b)
  (hQ:∀d v c a w,Q (.panic c) (a.put d v) w->Q (.panic c) a w) :
  ∀(bz:Nat) (listed:Array Bool) (a:Act) (w:World),kR md ops listed ->
   (∀j oj,ops[j]?=some oj->j≠i->listed.getD j true=false->(∀e∈oj.after,Region.binds md e=true->e.on≠i)->oi.apart ops oj=true) ->
   i∈Region.ready md ops listed->iF P ops E oi v a w ->
   wY P md ops Q E bz (listed.setIfInBounds i true) (a.put oi.dst v) w->wY P md ops Q E (bz+1) listed a w:=by
 intro bz
 induction bz with
 | zero =>
  intro listed a w _ _ dd hy H;refine⟨λh=>(by rw[h]at dd;cases dd),λj hj x=>?_⟩;by_cases gi:j=i
  ·subst gi;exact(hy.later ht x.h).wpOp (hr _) hi (λw3 h3 => .inl ⟨h3,qB ht (ht _ _ _ x.h h3) H⟩)
  ·have:=ready_mono hj gi
   rw[H.1]at this;cases this
 | succ bz ih =>
  intro listed a w ci oq dd hy H;refine⟨λh=>(by rw[h]at dd;cases dd),λj hj x=>?_⟩;by_cases gi:j=i
  ·subst gi;exact(hy.later ht x.h).wpOp (hr _) hi (λw3 h3 => .inl ⟨h3,qB ht (ht _ _ _ x.h h3) H⟩)
  ·have h1:=H.2 j (ready_mono hj gi) x
   obtain⟨we,oj,hoj,aw⟩:=mem_ready.1 hj
   have aci:∀e∈oj.after,Region.binds md e=true->e.on≠i:=λe he hb heq=>by
    have h1:=aw e he hb;have h0:=(mem_ready.1 dd).1;rw[heq]at h1;rcases Nat.lt_or_ge i listed.size with h'|h'
    ·simp[h']at h0 h1;rw[h0]at h1;cases h1
    ·simp[Array.getElem?_eq_none h']at h1
   have h2:=bU1 hoj (oq j oj hoj gi we aci) (λcs b=>vz i oi cs b hi) (λcs b=>vz j oj cs b hoj) hQ hy h1
   have q7:∀k ok,ops[k]?=some ok->k≠i->(listed.setIfInBounds j true).getD k true=false ->
     (∀e∈ok.after,Region.binds md e=true->e.on≠i)->oi.apart ops ok=true:=λk ok hk cn hun g9=>by
    refine oq k ok hk cn ?_ g9;by_cases mw:j=k
    ·subst mw;exact we
    ·rw[getD_set_ne true mw]at hun;exact hun
   refine wpOp_mono (λa' w' h3=>?_) h2;rcases h3.2 with h4|h4
   ·refine .inl ⟨h4.1,ih (listed.setIfInBounds j true) a' w' (dH ci hj) q7 (ready_mono dd (Ne.symm gi)) (h3.1.later ht (ht _ _ _ x.h h4.1)) ?_⟩
    rw[Array.setIfInBounds_comm _ _ gi];exact h4.2
   ·exact(sV ci dd hj gi h4.1).elim
def dV1 (md:Region.Mode) (ops:Array Oper) (g k:Nat):List (Nat×Bool)->Array Bool->Bool
 | [],listed=>Region.seqB md ops g k listed
 | (i,false)::rest,listed=>(Region.ready md ops listed).contains i&&Region.free md ops listed i&&dV1 md ops g k rest (listed.setIfInBounds i true)
 | (i,true)::rest,listed=>decide (Region.ready md ops listed=[i])&&dV1 md ops g k rest (listed.setIfInBounds i true)
theorem gQ (hr:∀w,E w w) (ht:∀a b c,E a b->E b c->E a c) (hs:Region.noSelect ops=true)
  (hQ:∀d v c a w,Q (.panic c) (a.put d v) w->Q (.panic c) a w) {g k:Nat}
  (av:∀listed a w,Region.seqB md ops g k listed=true->(∀x:Ext E w,fin a x.u)->wY P md ops Q E g listed a w) :
  ∀(l:List (Nat×Bool)) (listed:Array Bool) (a:Act) (w:World),kR md ops listed->dV1 md ops g k l listed=true->oQ P ops E Q fin l a w->wY P md ops Q E (l.length+g) listed a w
 | [],listed,a,w,_,hB,h=>by rw[List.length_nil,Aj];exact av listed a w hB h
 | (i,false)::rest,listed,a,w,ci,hB,h=>by
  simp only[dV1,Aa]at hB;obtain⟨⟨dd,hf⟩,qj⟩:=hB;have gj:i∈Region.ready md ops listed:=by simpa using dd
  unfold oQ at h;rw[Ad,show rest.length+1+g=(rest.length+g)+1 by omega]
  split at h
  ·exact h.elim
  ·rename_i o ho
   split at h
   ·rename_i hw
    simp only[Ab,if_false]at h;obtain⟨v,hv,hk⟩:=h;exact wH hr ht ho (Region.noSelect_spec hs) hQ _ listed a w ci (Region.free_spec ho hf) gj (.inl ⟨hw,hv⟩) (gQ hr ht hs hQ av rest _ _ _ (dH ci gj) qj hk)
   ·rename_i hw
    exact wH hr ht ho (Region.noSelect_spec hs) hQ _ listed a w ci (Region.free_spec ho hf) gj (.inr ⟨by simpa using hw,rfl⟩) (gQ hr ht hs hQ av rest _ _ _ (dH ci gj) qj h)
 | (i,true)::rest,listed,a,w,ci,hB,h=>by
  simp only[dV1,Aa,decide_eq_true_eq]at hB;obtain⟨dd,qj⟩:=hB;rw[Ad,show rest.length+1+g=(rest.length+g)+1 by omega]
  refine⟨λh0=>(by rw[h0]at dd;cases dd),λj hj x=>?_⟩;have qk:=hj;rw[dd]at hj;have gi:j=i:=by simpa using hj
  subst gi;unfold oQ at h;unfold wpOp;split at h
  ·exact h.elim
  ·rename_i o ho
   simp only[ho];split at h
   ·rename_i hw
    simp only[hw,if_true]at h ⊢;exact .inl (Oper.wp_mono (λa' w' h' => .inl ⟨h'.1,gQ hr ht hs hQ av rest _ _ _ (dH ci qk) qj h'.2⟩) (h x))
   ·rename_i hw
    simp only[hw] at ⊢;exact .inl ⟨hr _,qB ht x.h (gQ hr ht hs hQ av rest _ _ _ (dH ci qk) qj h)⟩
def rW (ops:Array Oper) (l:List (Nat×Bool)):Bool :=
 Region.noSelect ops&&decide (l.length=ops.size)&&dV1 .any ops 0 0 l (Ag ops.size false)
def lT (ops:Array Oper) (k:Nat) (l:List (Nat×Bool)):Bool :=
 Region.noSelect ops&&decide (l.length=k)&&decide (k<ops.size)&&mB0 .any ops k&&dV1 .any ops (ops.size-k) k l (Ag ops.size false)
theorem iK (md:Region.Mode) (ops:Array Oper):kR md ops (Ag ops.size false):=λj oj _ hl=>by rw[getD_replicate_false]at hl; cases hl
theorem kF (E:World->World->Prop) (l:List (Nat×Bool)) {id:Nat} {a:Act} {w:World} (hr:∀w,E w w) (ht:∀a b c,E a b->E b c->E a c)
  (hm:P.follows .mixedOrders=true) (hB:rW ops l=true)
  (hQ:∀d v c a w,Q (.panic c) (a.put d v) w->Q (.panic c) a w) (h:oQ P ops E Q (Q .normal) l a w.drew):(Code.region id ops true).wp P Q a w:=by
 simp only[rW,Aa,decide_eq_true_eq]at hB;obtain⟨⟨hs,hl⟩,hB⟩:=hB
 have:=gQ (md:=.any) (g:=0) (k:=0) hr ht hs hQ (λlisted a w hB h=>⟨by simpa [Region.seqB] using hB,h⟩) l _ a w.drew (iK _ _) hB h
 rw[Nat.add_zero,hl]at this;exact wp_region_any hm (vU hr _ _ _ _ this)
theorem rG (E:World->World->Prop) (k:Nat) (l:List (Nat×Bool)) {id:Nat} {L:List Oper} {a:Act} {w:World} (hr:∀w,E w w) (ht:∀a b c,E a b->E b c->E a c)
  (hm:P.follows .mixedOrders=true) (hB:lT L.toArray k l=true)
  (hQ:∀d v c a w,Q (.panic c) (a.put d v) w->Q (.panic c) a w) (h:oQ P L.toArray E Q (wpList P L.toArray Q (L.drop k)) l a w.drew):(Code.region id L.toArray true).wp P Q a w:=by
 simp only[lT,Aa,decide_eq_true_eq]at hB;obtain⟨⟨⟨⟨hs,hl⟩,hk⟩,mj⟩,hB⟩:=hB;have jn:(L.drop k).length=L.toArray.size-k:=by simp
 have:=gQ (P:=P) (Q:=Q) (md:=.any) (ops:=L.toArray) (fin:=wpList P L.toArray Q (L.drop k)) (g:=L.toArray.size-k) (k:=k) hr ht hs hQ (λlisted a w hB h=>by
  obtain⟨g,hg⟩:∃g,L.toArray.size-k=g+1:=⟨L.toArray.size-k-1,by omega⟩
  have dd:Region.ready .any L.toArray listed=[k]:=by
   rw[hg]at hB;simp only[Region.seqB,Aa,decide_eq_true_eq]at hB;exact hB.1
  have aw:=λx:Ext E w=>wpAny_of_seq (md:=.any) (Q':=Q) (L.drop k) k listed a x.u (λj=>by simp[List.getElem?_drop]) (by rw[jn];exact hB) (h x);rw[hg];refine⟨λh0=>(by rw[h0]at dd;cases dd),λj hj x=>?_⟩;have h1:=aw x;rw[jn,hg]at h1;have mw:j=k:=by rw[dd]at hj;simpa using hj
  subst mw;exact wpOp_mono (λa' w' h' => .inr ⟨mj,h'⟩) (h1.2 j hj)) l _ a w.drew (iK _ _) hB h
 rw[hl,show k+(L.toArray.size-k)=L.toArray.size by omega]at this
 exact wp_region_any hm (vU hr _ _ _ _ this)
theorem mN {i:Nat} {rest:List (Nat×Bool)} {a:Act} {w:World} {o:Oper} (ho:ops[i]?=some o)
  (h:∀K:Act->Prop,(∀a,oQ P ops E Q fin rest a w->K a)->if Region.wanted o (yielded ops a.tmps) then aO P o a E w K else K (a.put o.dst undef)):oQ P ops E Q fin ((i,false)::rest) a w:=by
 unfold oQ;simp only[ho];exact h _ (λ_ h=>h)
theorem fB1 {i:Nat} {rest:List (Nat×Bool)} {a:Act} {w:World} {o:Oper} (ho:ops[i]?=some o)
  (h:∀K:Act->World->Prop,(∀a w,oQ P ops E Q fin rest a w->K a w)->if Region.wanted o (yielded ops a.tmps) then ∀x:Ext E w,o.wp P a x.u (λa' w'=>E x.u w'/\K a' w') Q else K (a.put o.dst undef) w):oQ P ops E Q fin ((i,true)::rest) a w:=by
 unfold oQ;simp only[ho];exact h _ (λ_ _ h=>h)
theorem fS {i:Nat} {rest:List (Nat×Bool)} {a:Act} {w:World} {o:Oper} (ho:ops[i]?=some o) (hw:Region.wanted o (yielded ops a.tmps)=true)
  (h:∀K:Act->World->Prop,(∀a w,oQ P ops E Q fin rest a w->K a w)->∀w2,E w w2->o.wp P a w2 (λa' w'=>E w2 w'/\K a' w') Q):oQ P ops E Q fin ((i,true)::rest) a w :=
 fB1 ho λK hK=>by rw[if_pos hw];exact λx=>h K hK x.u x.h
theorem vT {a:Act} {w:World} (h:∀w2,E w w2->fin a w2):oQ P ops E Q fin [] a w:=λx=>h x.u x.h
end
def aB (w w':World):Prop:=Below w.heap.size w w'
theorem aB.refl (w:World):aB w w:=Below.refl _ _
instance (w:World):Nonempty (Ext aB w):=⟨⟨w,aB.refl w⟩⟩
theorem aB.trans (a b c:World) (h:aB a b) (k:aB b c):aB a c:=Below.trans h (Below.mono k h.size)
theorem aB.cell {w w':World} (h:aB w w') {p:Addr} {v:Value} (hc:w.cell? p=some v):w'.cell? p=some v :=
 (Below.cell h (World.block_lt_of_cell? w _ hc)).trans hc
theorem aB.size {w w':World} (h:aB w w'):w.heap.size<=w'.heap.size:=Below.size h
theorem aB.alloc (w:World) (o:Obj):aB w (w.alloc o):=(Below.refl _ _).alloc (Am _) _
theorem aB.drew (w:World):aB w w.drew:=(Below.refl _ _).drew
theorem aF {w:World} {p:Addr} {v:Value} (hc:w.cell? p=some v) (x:Ext aB w):x.u.cell? p=some v:=x.h.cell hc
theorem exq {α:Sort _} (a:α):∃x,x=a:=⟨_,rfl⟩
theorem aT (w:World) (cs:Array Value) (t:TypeId) (fr:Nat×Nat) (j:Nat) (v:Value) (h:cs[j]?=some v):(w.alloc (.cells cs t fr)).cell? ⟨w.heap.size,j,none⟩=some v:=by
 have hh:(w.alloc (.cells cs t fr)).heap[w.heap.size]?=some (.cells cs t fr):=by
  show (w.heap.push _)[w.heap.size]?=_
  simp
 unfold An;simp only[hh,Ah,Ab,if_false,h]
end
section
open Go Go.RowKit
theorem aB.tr {a b c:World} (h:aB a b) (k:aB b c):aB a c:=aB.trans _ _ _ h k
theorem aB.al {a b:World} (h:aB a b) (o:Obj):aB a (b.alloc o):=h.tr (aB.alloc _ _)
theorem aB.dr {a b:World} (h:aB a b):aB a b.drew:=h.tr (aB.drew _)
theorem aB.set {a b:World} (h:aB a b) {p:Addr} (hp:a.heap.size<=p.block) (v:Value):aB a (b.setCell p v):=Below.setCell h hp v
theorem aB.froz {w w':World} (h:aB w w') {p:Addr} (hb:p.block<w.heap.size):w'.frozen? p=w.frozen? p:=Below.frozen h hb
def seq (x y:ByteArray):Bool:=x.toList==y.toList
theorem nA0 {x y:ByteArray}:seq x y=true↔x=y:=by
 unfold seq;rw[Al,Al,beq_iff_eq];constructor
 ·intro h
  have:=congrArg (λl=>(⟨l.toArray⟩:ByteArray)) h
  rwa [Ao,Ao]at this
 ·rintro rfl;rfl
theorem lC0 {x y:ByteArray}:seq x y=false↔x≠y:=by
 rw[Ne,<-nA0 (x:=x) (y:=y)];simp
def aG (w:World) (a:Option Addr) (k:Nat) (rows:List (List Value)):Prop :=
 rows≠[]->∃b off,a=some ⟨b,off,none⟩/\∀(i:Nat) (row:List Value),rows[i]?=some row->∀(j:Nat) (v:Value),row[j]?=some v->w.cell? ⟨b,off+i*k+j,none⟩=some v
theorem aG.grows {w w':World} {a:Option Addr} {k:Nat} {rows:List (List Value)} (h:aG w a k rows) (hg:aB w w'):aG w' a k rows:=λhn=>by
 obtain⟨b,off,ha,hc⟩:=h hn;exact⟨b,off,ha,λi row hi j v hj=>hg.cell (hc i row hi j v hj)⟩
theorem aG.drew {w:World} {a:Option Addr} {k:Nat} {rows:List (List Value)} (h:aG w a k rows):aG w.drew a k rows:=h.grows (aB.drew _)
theorem aG.nil (w:World) (a:Option Addr) (k:Nat):aG w a k []:=λh=>absurd rfl h
theorem aG.get {α:Type} {w:World} {a:Option Addr} {k:Nat} {xs:List α} {enc:α->List Value} (h:aG w a k (xs.map enc)) (hn:xs≠[]) :
  ∃b off,a=some ⟨b,off,none⟩/\∀(i:Nat) (x:α),xs[i]?=some x->∀(j:Nat) (v:Value),(enc x)[j]?=some v->w.cell? ⟨b,off+i*k+j,none⟩=some v:=by
 obtain⟨b,off,ha,hc⟩:=h (by simpa using hn);exact⟨b,off,ha,λi x hi j v hj=>hc i (enc x) (by simp[hi]) j v hj⟩
theorem aK {α:Type} {xs:List α} {k:Nat} (h:k<xs.length):xs≠[]:=by rintro rfl; simp at h
theorem xC0 {k:IntKind} {a b:Int} (h:a=b):Ending.returned (.int k a)=.returned (.int k b):=by rw[h]
theorem dZ {a b:Bool} (h:a=b):Ending.returned (.bool a)=.returned (.bool b):=by rw[h]
structure dE where
 name:ByteArray
 kind:Int
def cX (p:dE):List Value:=[.string p.name,.int .i64 p.kind]
def xJ (name:ByteArray):List dE->Nat->Option Nat
 | [],_=>none
 | p::l,i=>if seq p.name name then some i else xJ name l (i+1)
def mC (l:List dE) (name:ByteArray):Option Nat:=xJ name l 0
theorem rM (name:ByteArray):∀(l:List dE) (i k:Nat),(∀j p,j<k->l[j]?=some p->seq p.name name=false)->xJ name l i=xJ name (l.drop k) (i+k)
 | [],i,k,_=>by simp[xJ]
 | p::l,i,0,_=>by simp
 | p::l,i,k+1,h=>by
  have h0:seq p.name name=false:=h 0 p (by omega) rfl;rw[xJ,h0,List.drop_succ_cons];simp only[Ab,if_false];rw[rM name l (i+1) k λj q hj hq=>h (j+1) q (by omega) (by simpa using hq)];congr 1;omega
theorem nF0 {l:List dE} {name:ByteArray} {k:Nat} {p:dE} (hk:l[k]?=some p) (h:∀j q,j<k->l[j]?=some q->seq q.name name=false) (hp:seq p.name name=true):mC l name=some k:=by
 have ae:k<l.length:=(List.getElem?_eq_some_iff.1 hk).1;have hp':l[k]=p:=(List.getElem?_eq_some_iff.1 hk).2;rw[mC,rM name l 0 k h,List.drop_eq_getElem_cons ae,xJ,hp',hp];simp
theorem kN0 {l:List dE} {name:ByteArray} (h:∀j q,j<l.length->l[j]?=some q->seq q.name name=false):mC l name=none:=by
 rw[mC,rM name l 0 _ h];simp[xJ]
theorem fI {w w':World} {base:Nat} {e:TypeId} {size:Nat} {v:Value} {n:Nat} {xs:List Value} (h:w.ownsRow base e size v n xs) (hg:aB w w'):w'.ownsRow base e size v n xs:=by
 obtain⟨h1,h2⟩:=h;refine⟨h1,?_⟩;rcases h2 with h2|⟨g,cap,cp,hv,hb,hh,r⟩
 ·exact Or.inl h2
 ·exact Or.inr ⟨g,cap,cp,hv,hb,by rw[hg.block g (Array.getElem?_eq_some_iff.1 hh).1];exact hh,r⟩
theorem xC {w:World} {base base':Nat} {e:TypeId} {size:Nat} {v:Value} {n:Nat} {xs:List Value} (h:w.ownsRow base e size v n xs) (hb:base'<=base):w.ownsRow base' e size v n xs:=by
 obtain⟨h1,h2⟩:=h;refine⟨h1,?_⟩;rcases h2 with h2|⟨g,cap,cp,hv,hg,r⟩
 ·exact Or.inl h2
 ·exact Or.inr ⟨g,cap,cp,hv,Ae hb hg,r⟩
theorem aZ {w:World} {base:Nat} {e:TypeId} {size:Nat} {v:Value} {n:Nat} {xs:List Value} (h:w.ownsRow base e size v n xs):∀k,v.ownBlock=some k->base<=k:=by
 intro k hk;rcases h.2 with ⟨rfl,_⟩|⟨g,cap,cp,rfl,hb,_⟩
 ·cases hk
 ·have:g=k:=Option.some.inj hk
  omega
theorem aB.grown {a w w':World} {row:Option Nat} (h:aB a w) (hg:w.grownBy w' row) (hr:∀k,row=some k->a.heap.size<=k):aB a w':=Below.grown h hg h.size hr
theorem rC {α:Type} {enc:α->List Value} {k:Nat} (hk:∀x,(enc x).length=k):∀(xs:List α) (i j:Nat) (x:α) (v:Value),xs[i]?=some x->(enc x)[j]?=some v->(xs.flatMap enc)[i*k+j]?=some v
 | [],i,j,x,v,h,_=>by simp at h
 | y::r,0,j,x,v,h,hj=>by
  obtain rfl:y=x:=by simpa using h
  have ae:j<(enc y).length:=(List.getElem?_eq_some_iff.1 hj).1;rw[Ac,Nat.zero_mul,Aj,List.getElem?_append_left ae];exact hj
 | y::r,i+1,j,x,v,h,hj=>by
  rw[Ac,List.getElem?_append_right (by rw[hk,Ak];omega),hk,show (i+1)*k+j-k=i*k+j by rw[Ak];omega]
  exact rC hk r i j x v (by simpa using h) hj
theorem gJ {α:Type} {enc:α->List Value} {k:Nat} (hk:∀x,(enc x).length=k):∀(xs:List α),(xs.flatMap enc).length=xs.length*k
 | []=>by simp
 | y::r=>by rw[Ac,Ai,hk,gJ hk r,Ad,Ak];omega
theorem tQ0 {α:Type} {enc:α->List Value} {k:Nat} (hk:∀x,(enc x).length=k) {w:World} {base:Nat} {e:TypeId} {v:Value} {xs:List α} (h:w.ownsRow base e k v xs.length (xs.flatMap enc)) :
  ∃a cap,v=.slice a xs.length cap/\xs.length<=cap/\cap<=maxLen/\aG w a k (xs.map enc):=by
 rcases h.2 with ⟨rfl,h0⟩|⟨g,cap,cp,rfl,hb,hh,hn,hc,hs,ht⟩
 ·have:xs=[]:=List.length_eq_zero_iff.1 h0
  subst this;exact⟨none,0,rfl,Am _,Nat.zero_le _,aG.nil _ _ _⟩
 ·refine⟨_,cap,rfl,hn,hc,λ_=>⟨g,0,rfl,λi row hi j u hj=>?_⟩⟩
  rw[List.getElem?_map]at hi
  cases hx:xs[i]? with
  | none=>rw[hx]at hi;cases hi
  | some x =>
   rw[hx]at hi;obtain rfl:=Option.some.inj hi;have hf:=rC hk xs i j x u hx hj;rw[<-ht,List.getElem?_take]at hf;split at hf
   ·unfold An
    simp only[hh,Ah,Ab,if_false];rw[Aj];simpa using hf
   ·cases hf
def bos:ByteArray:=⟨#[66,79,83]⟩
structure eG {α:Type} (P:Program) (t e:TypeId) (k bytes:Nat) (enc:α->List Value):Prop where
 sl:P.underlying t=some (.slice e)
 info:∃i z,P.info? e=some i/\i.zero=some z/\i.size=k/\i.bytes=bytes/\z.cells.size=k
 pos:0<k
 by1:1<=bytes
 len:∀x,(enc x).length=k
 one:∀x u,u∈enc x->u.oneCell'=true
theorem gV {P:Program} {e:TypeId} {z:Value} {k bytes:Nat} (h:(P.info? e).map (λi=>(i.zero,i.size,i.bytes))=some (some z,k,bytes)) (hz:z.cells.size=k) :
  ∃i z,P.info? e=some i/\i.zero=some z/\i.size=k/\i.bytes=bytes/\z.cells.size=k:=by
 cases hi:P.info? e with
 | none=>rw[hi]at h;cases h
 | some i =>
  rw[hi]at h;simp only[Option.map_some,Option.some.injEq,Prod.mk.injEq]at h;exact⟨i,z,rfl,h.1,h.2.1,h.2.2,hz⟩
def aX {α:Type} (w:World) (base:Nat) (e:TypeId) (k:Nat) (enc:α->List Value) (v:Value) (xs:List α):Prop:=w.ownsRow base e k v xs.length (xs.flatMap enc)
theorem aX.nil {α:Type} (w:World) (base:Nat) (e:TypeId) (k:Nat) (enc:α->List Value):aX w base e k enc (.slice none 0 0) []:=World.ownsRow_nil _ _ _ _
theorem aX.grows {α:Type} {w w':World} {base:Nat} {e:TypeId} {k:Nat} {enc:α->List Value} {v:Value} {xs:List α} (h:aX w base e k enc v xs) (hg:aB w w'):aX w' base e k enc v xs:=fI h hg
theorem aX.base {α:Type} {w:World} {base base':Nat} {e:TypeId} {k:Nat} {enc:α->List Value} {v:Value} {xs:List α} (h:aX w base e k enc v xs) (hb:base'<=base):aX w base' e k enc v xs:=xC h hb
theorem aX.at_ {α:Type} {enc:α->List Value} {k:Nat} (hk:∀x,(enc x).length=k) {w:World} {base:Nat} {e:TypeId} {v:Value} {xs:List α} (h:aX w base e k enc v xs) :
 ∃a cap,v=.slice a xs.length cap/\xs.length<=cap/\cap<=maxLen/\aG w a k (xs.map enc):=tQ0 hk h
theorem eZ {w:World} {cs:Array Value} {t:TypeId} {n:Nat} (hn:n=w.heap.size) (j:Nat) (u:Value) (hj:cs.toList[j]?=some u):(w.alloc (.cells cs t)).cell? ((⟨n,0,none⟩:Addr).add j)=some u:=by
 subst hn;have h:=aT w cs t (0,0) j u (by simpa using hj);unfold Aq;by_cases h0:j=0
 ·subst h0;simpa using h
 ·simp[h0,h]
theorem oH {n j:Nat}:(⟨n,0,none⟩:Addr).add j=⟨n,j,none⟩:=by
 unfold Aq;by_cases h0:j=0
 ·subst h0;simp
 ·simp[h0]
theorem oW1 {α:Type} {P:Program} {t e:TypeId} {k bytes:Nat} {enc:α->List Value} (L:eG P t e k bytes enc) {ops:Array Oper} {rest:List Oper} {o:Oper} {a:Act} {Q:Exit->Act->World->Prop} {w W:World}
  (lw:o.guard=none) (s x:Operand) (io:o.op=.call { callee:=.builtin .append,args:=#[s,x],argTypes:=#[t,t] })
  (base:Nat) (v:Value) (xs:List α) (y:α) (hs:a.eval s=v) (aa:aX w base e k enc v xs) (ia:aB w W) (n c:Nat) (hc:∀(j:Nat) (u:Value),(enc y)[j]?=some u->W.cell? ⟨n,j,none⟩=some u)
  (hx:a.eval x=.slice (some ⟨n,0,none⟩) 1 c) (ah:(xs.length+1)*bytes<=140737488355328) (bu:base<=w.heap.size)
  (h:∀v' w',aX w' base e k enc v' (xs++[y])->(∀a0,aB a0 w->a0.heap.size<=base->aB a0 w')->wpList P ops Q rest (a.put o.dst v') w') :
  wpList P ops Q (o::rest) a W:=by
 obtain⟨i,z,hi,hz,cg,i7,ml⟩:=L.info;have qm:xs.length+1<=140737488355328:=Ae (Nat.le_mul_of_pos_right _ L.by1) ah
 refine wpList_append_own _ lw s x t io base e i z k bytes L.sl hi hz cg i7 ml L.pos v xs.length (xs.flatMap enc) hs (fI aa ia) ⟨n,0,none⟩ 1 c (enc y) hx (by rw[L.len,Nat.one_mul])
  (λj u hu=>by rw[oH];exact hc j u hu) (L.one y) (by unfold maxLen;omega) ah (Ae bu ia.size) ?_
 intro v' w' h1 h2 _;refine h v' w' ?_ (λa0 h0 hb=>(h0.tr ia).grown h2 (λq hq=>Ae hb (aZ aa q hq)));unfold aX;rw[Ai,List.length_singleton,List.flatMap_append];simpa using h1
theorem yV0 {α:Type} {P:Program} {t e:TypeId} {k bytes:Nat} {enc:α->List Value} (L:eG P t e k bytes enc) {ops:Array Oper} {rest:List Oper} {o:Oper} {a:Act} {Q:Exit->Act->World->Prop} {w W:World}
  (lw:o.guard=none) (s x:Operand) (io:o.op=.call { callee:=.builtin .append,args:=#[s,x],argTypes:=#[t,t] })
  (base:Nat) (v:Value) (xs:List α) (y:α) (hs:a.eval s=v) (aa:aX w base e k enc v xs) (ia:aB w W) (n c:Nat) (hn:n=W.heap.size) (cs:Array Value) (cj:cs.toList=enc y)
  (hx:a.eval x=.slice (some ⟨n,0,none⟩) 1 c) (ah:(xs.length+1)*bytes<=140737488355328) (bu:base<=w.heap.size)
  (h:∀v' w',aX w' base e k enc v' (xs++[y])->(∀a0,aB a0 w->a0.heap.size<=base->aB a0 w')->wpList P ops Q rest (a.put o.dst v') w') :
  wpList P ops Q (o::rest) a (W.alloc (.cells cs e)) :=
 oW1 L lw s x io base v xs y hs aa (ia.al _) n c (λj u hu=>by
  have:=eZ (w:=W) (cs:=cs) (t:=e) hn j u (by rw[cj];exact hu)
  rw[oH]at this;exact this) hx ah bu h
theorem tL {w w':World} {cs:Array Value} {t:TypeId} (hg:aB (w.alloc (.cells cs t)) w') {l:List Value} (hl:cs.toList=l):∀(j:Nat) (u:Value),l[j]?=some u->w'.cell? ⟨w.heap.size,j,none⟩=some u:=λj u hu =>
 hg.cell (aT w cs t _ j u (by rw[<-hl]at hu;simpa using hu))
end
section
open Go Go.RowKit
structure mD1 (P:Program) (ops:Array Oper) (E:World->World->Prop) (Q:Exit->Act->World->Prop) (fin:Act->World->Prop) (l:List (Nat×Bool)) (a:Act) (w:World):Prop where
 out:oQ P ops E Q fin l a w
section
variable {P:Program} {ops:Array Oper} {Q:Exit->Act->World->Prop} {E:World->World->Prop} {fin:Act->World->Prop}
theorem hM0 (E:World->World->Prop) (l:List (Nat×Bool)) {id:Nat} {a:Act} {w:World} (hr:∀w,E w w) (ht:∀a b c,E a b->E b c->E a c)
 (hm:P.follows .mixedOrders=true) (hB:rW ops l=true)
 (hQ:∀d v c a w,Q (.panic c) (a.put d v) w->Q (.panic c) a w) (h:mD1 P ops E Q (Q .normal) l a w.drew):(Code.region id ops true).wp P Q a w:=kF E l hr ht hm hB hQ h.out
theorem bK0 {i:Nat} {rest:List (Nat×Bool)} {a:Act} {w:World} {o:Oper} (ho:ops[i]?=some o)
  (h:∀K:Act->Prop,(∀a,mD1 P ops E Q fin rest a w->K a)->if Region.wanted o (yielded ops a.tmps) then aO P o a E w K else K (a.put o.dst undef)):mD1 P ops E Q fin ((i,false)::rest) a w :=
 ⟨mN ho λK hK=>h K λa ha=>hK a ha.out⟩
theorem nW {i:Nat} {rest:List (Nat×Bool)} {a:Act} {w:World} {o:Oper} (ho:ops[i]?=some o) (hw:Region.wanted o (yielded ops a.tmps)=true)
  (h:∀K:Act->World->Prop,(∀a w,mD1 P ops E Q fin rest a w->K a w)->∀w2,E w w2->o.wp P a w2 (λa' w'=>E w2 w'/\K a' w') Q):mD1 P ops E Q fin ((i,true)::rest) a w :=
 ⟨fS ho hw λK hK=>h K λa w ha=>hK a w ha.out⟩
theorem nO1 {a:Act} {w:World} (h:∀w2,E w w2->fin a w2):mD1 P ops E Q fin [] a w:=⟨vT h⟩
end
end
end Go.Proofs.YthgklnohcmaopaaGreatDoor
