/- The texts Ord Mem App uQ0 SkipP, one behind the other. -/
import Derived.Deep.QuietTactic
import Derived.OrdersHeld
import Derived.StillTail
import Derived.WalkKit
import Derived.Lib.Strings
import Derived.Lib.Hide
open Bool renaming and_eq_true → Aa,false_eq_true → Ab,or_eq_true → Ag
open Go.Lib renaming toList_data → Ac,mk_data → Ao,size_eq → Ap
open List renaming flatMap_cons → Ad,length_cons → Ae,length_append → Aj,range → Aq
open Nat renaming le_trans → Af,zero_add → Ak,succ_mul → Al,le_refl → Am
open Array renaming replicate → Ah
open Option renaming isSome_none → Ai
open Go.World renaming cell? → An
open Go.Addr renaming add → Ar
namespace Go.Proofs.YthgklnohcmaopaaGreatDoor
section
open Go Go.RowKit
def nN (s l:List Nat):List (Nat×Bool):=s.map λk=>(k,l.contains k)
def bB (n:Nat) (l:List Nat):List (Nat×Bool):=nN (Aq n) l
structure Ext (E:World->World->Prop) (w:World) where
 u:World
 h:E w u
section
variable {P:Program} {ops:Array Oper} {Q:Exit->Act->World->Prop} {md:Region.Mode} {E:World->World->Prop} {fin:Act->World->Prop}
def aM (P:Program) (o:Oper) (a:Act) (E:World->World->Prop) (w:World) (next:Act->Prop):Prop :=
 ∃v,(∀w2,(∃x:Ext E w,w2=x.u)->o.quietAt P a (λw3=>∃y:Ext E w2,w3=y.u) w2 v)/\next (a.put o.dst v)
def lA (P:Program) (ops:Array Oper) (E:World->World->Prop) (Q:Exit->Act->World->Prop) (fin:Act->World->Prop):List (Nat×Bool)->Act->World->Prop
 | [],a,w=>∀x:Ext E w,fin a x.u
 | (i,late)::rest,a,w=>match ops[i]? with
  | none=>False
  | some o=>if Region.wanted o (yielded ops a.tmps) then
    (if late then ∀x:Ext E w,o.wp P a x.u (λa' w'=>E x.u w'/\lA P ops E Q fin rest a' w') Q else aM P o a E w (λa'=>lA P ops E Q fin rest a' w))
   else lA P ops E Q fin rest (a.put o.dst undef) w
def eK0 (md:Region.Mode) (ops:Array Oper):Nat->Nat->Nat->Bool
 | 0,_,_=>false
 | f+1,i,j=>match ops[i]? with
  | some o=>o.after.any λe=>Region.binds md e&&(e.on==j||eK0 md ops f e.on j)
  | none=>false
def aE0 (md:Region.Mode) (ops:Array Oper) (i:Nat):Bool :=
 (Aq ops.size).all λj=>j==i||eK0 md ops ops.size i j||eK0 md ops ops.size j i
def iB (md:Region.Mode) (ops:Array Oper) (listed:Array Bool):Prop :=
 ∀(j:Nat) (oj:Oper),ops[j]?=some oj->listed.getD j false=true->∀e∈oj.after,Region.binds md e=true->listed.getD e.on false=true
theorem qQ {listed:Array Bool} (hc:iB md ops listed):∀(f i j:Nat),listed.getD i false=true->eK0 md ops f i j=true->listed.getD j false=true
 | 0,_,_,_,h=>by cases h
 | f+1,i,j,hi,h=>by
  unfold eK0 at h;split at h
  ·rename_i o ho
   obtain⟨e,he,hb⟩:=Array.any_eq_true'.1 h;simp only[Aa,Ag,beq_iff_eq]at hb;have hon:=hc i o ho hi e he hb.1;rcases hb.2 with h1|h1
   ·rw[<-h1];exact hon
   ·exact qQ hc f e.on j hon h1
  ·cases h
theorem sW {listed:Array Bool} (hc:iB md ops listed) {f i j:Nat} (hi:i∈Region.ready md ops listed) (h:eK0 md ops f i j=true):listed.getD j false=true:=by
 obtain⟨_,oi,hoi,da⟩:=mem_ready.1 hi
 cases f with
 | zero=>cases h
 | succ f =>
  unfold eK0 at h;simp only[hoi]at h;obtain⟨e,he,hb⟩:=Array.any_eq_true'.1 h;simp only[Aa,Ag,beq_iff_eq]at hb;have hon:=da e he hb.1;rcases hb.2 with h1|h1
  ·rw[<-h1];exact hon
  ·exact qQ hc f e.on j hon h1
theorem cB {listed:Array Bool} (hc:iB md ops listed) {i:Nat} (hi:i∈Region.ready md ops listed):iB md ops (listed.setIfInBounds i true):=by
 obtain⟨_,oi,hoi,da⟩:=mem_ready.1 hi;intro j oj hj hl e he hb;by_cases rp:i=j
 ·subst rp
  have:oj=oi:=Option.some.inj (hj.symm.trans hoi)
  subst this;exact getD_set_true (da e he hb)
 ·rw[getD_set_ne false rp]at hl
  exact getD_set_true (hc j oj hj hl e he hb)
theorem oZ {listed:Array Bool} (hc:iB md ops listed) {i j:Nat} (hi:i∈Region.ready md ops listed) (hj:j∈Region.ready md ops listed) (ek:j≠i) (ht:aE0 md ops j=true):False:=by
 obtain⟨hui,oi,hoi,_⟩:=mem_ready.1 hi;obtain⟨huj,oj,um,_⟩:=mem_ready.1 hj;have h1:=List.all_eq_true.1 ht i (List.mem_range.2 (Array.getElem?_eq_some_iff.1 hoi).1);simp only[Ag,beq_iff_eq]at h1;rcases h1 with (h1|h1)|h1
 ·exact ek h1.symm
 ·have:=sW hc hj h1;rw[getD_both hui]at this;cases this
 ·have:=sW hc hi h1;rw[getD_both huj]at this;cases this
def rB (P:Program) (md:Region.Mode) (ops:Array Oper) (Q:Exit->Act->World->Prop) (E:World->World->Prop):Nat->Array Bool->Act->World->Prop
 | 0,listed,a,w=>Region.ready md ops listed=[]/\∀x:Ext E w,Q .normal a x.u
 | az+1,listed,a,w =>
  (Region.ready md ops listed=[]->∀x:Ext E w,Q .normal a x.u) /\
  ∀i∈Region.ready md ops listed,∀x:Ext E w,wpOp P ops Q i (λa' w'=>(E x.u w'/\rB P md ops Q E az (listed.setIfInBounds i true) a' w')\/(aE0 md ops i=true/\wpAny P md ops Q az (listed.setIfInBounds i true) a' w')) a x.u
theorem qF (hr:∀w,E w w):∀(az:Nat) (listed:Array Bool) (a:Act) (w:World),rB P md ops Q E az listed a w->wpAny P md ops Q az listed a w
 | 0,_,_,w,h=>⟨h.1,h.2 ⟨w,hr w⟩⟩
 | az+1,_,_,w,h=>⟨λh0=>h.1 h0 ⟨w,hr w⟩,λi hi=>wpOp_mono (λa' w' h'=>h'.elim (λh'=>qF hr az _ a' w' h'.2) (λh'=>h'.2)) (h.2 i hi ⟨w,hr w⟩)⟩
theorem lM (ht:∀a b c,E a b->E b c->E a c) {az:Nat} {listed:Array Bool} {a:Act} {w w':World} (hw:E w w') (h:rB P md ops Q E az listed a w):rB P md ops Q E az listed a w':=by
 cases az with
 | zero=>exact⟨h.1,λx=>h.2 ⟨x.u,ht _ _ _ hw x.h⟩⟩
 | succ az=>exact⟨λh0 x=>h.1 h0 ⟨x.u,ht _ _ _ hw x.h⟩,λi hi x=>h.2 i hi ⟨x.u,ht _ _ _ hw x.h⟩⟩
def fE (P:Program) (ops:Array Oper) (E:World->World->Prop) (o:Oper) (v:Value) (a:Act) (w:World):Prop :=
 (Region.wanted o (yielded ops a.tmps)=true/\∀w2,(∃x:Ext E w,w2=x.u)->o.quietAt P a (λw3=>∃y:Ext E w2,w3=y.u) w2 v) \/
 (Region.wanted o (yielded ops a.tmps)=false/\v=undef)
theorem fE.later (ht:∀a b c,E a b->E b c->E a c) {o:Oper} {v:Value} {a:Act} {w w':World} (hw:E w w') (h:fE P ops E o v a w):fE P ops E o v a w' :=
 h.imp (λ⟨h1,h2⟩=>⟨h1,λw2 ⟨x,hx⟩=>h2 w2 ⟨⟨x.u,ht _ _ _ hw x.h⟩,hx⟩⟩) id
theorem fE.of_same {o:Oper} {v:Value} {a a':Act} {w:World} (hy:fE P ops E o v a w) (he:execOp a'.eval o=execOp a.eval o)
  (hw:Region.wanted o (yielded ops a'.tmps)=Region.wanted o (yielded ops a.tmps)):fE P ops E o v a' w:=by
 unfold fE Oper.quietAt at *;rw[he,hw];exact hy
theorem zD {o:Oper} {v:Value} {a:Act} {w:World} {K:Act->World->Prop} (hr:E w w) (h:o.quietAt P a (λw3=>∃y:Ext E w,w3=y.u) w v) (hk:∀w3,E w w3->K (a.put o.dst v) w3):o.wp P a w K Q:=by
 unfold Oper.quietAt at h;unfold Oper.wp;generalize (execOp a.eval o).run P w=r at *
 cases r with
 | ok n w' =>
  cases n<;>simp only[Oper.quietUpon]at h<;>simp only[Oper.upon]
  case value u =>
   obtain⟨e1,e2⟩:=h;rw[e1,e2];exact hk _ hr
  case skip =>
   obtain⟨e1,e2⟩:=h;rw[e1,<-e2];exact hk _ hr
  case enter f args =>
   obtain⟨e1,hc⟩:=h;rw[e1];exact hc.mono λe ld ⟨he,y,hy⟩=>by subst he;subst hy;exact hk _ y.h
 | halt x w'=>simp only[Oper.quietUpon]at h
theorem fE.wpOp {i:Nat} {o:Oper} {v:Value} {a:Act} {w:World} (hr:E w w) (hi:ops[i]?=some o) (hy:fE P ops E o v a w)
  {K:Act->World->Prop} (h:∀w3,E w w3->K (a.put o.dst v) w3):wpOp P ops Q i K a w:=by
 unfold Go.wpOp;simp only[hi];rcases hy with ⟨hw,hv⟩|⟨hw,rfl⟩
 ·simp only[hw,if_true];exact .inl (zD hr (hv w ⟨⟨w,hr⟩,rfl⟩) h)
 ·simp only[hw,Ab,if_false];exact h _ hr
theorem lT0 {j:Nat} {oi oj:Oper} {v:Value} (hj:ops[j]?=some oj) (hap:oi.apart ops oj=true)
  (hsi:∀cs b,oi.op ≠ .select cs b) (hsj:∀cs b,oj.op ≠ .select cs b)
  (hQ:∀d v c a w,Q (.panic c) (a.put d v) w->Q (.panic c) a w) {K:Act->World->Prop} {a:Act} {w wb:World}
  (hy:fE P ops E oi v a wb) (h:wpOp P ops Q j K (a.put oi.dst v) w) :
  wpOp P ops Q j (λa' w'=>fE P ops E oi v a' wb/\K (a'.put oi.dst v) w') a w:=by
 obtain⟨h1,h2,h3⟩:=Oper.apart_spec hap
 have keep:∀(a:Act),fE P ops E oi v a wb->∀u,fE P ops E oi v (a.put oj.dst u) wb:=λa hy u =>
  hy.of_same (execOp_put oi hsi a oj.dst u h3) (wanted_put oi a oj.dst u h3)
 have n7:∀d,fE P ops E oi v { a with defers:=d::a.defers } wb:=λd=>hy.of_same rfl rfl
 unfold wpOp at *;simp only[hj] at *;rw[wanted_put oj a oi.dst v h1]at h;split
 ·rename_i hw
  simp only[hw,if_true]at h;rcases h with h|⟨j4,n8⟩
  case inr=>exact .inr ⟨by unfold Oper.asks at *;rw[execOp_put oj hsj a oi.dst v h1]at j4;exact j4,n8⟩
  refine .inl ?_;unfold Oper.wp at *;rw[execOp_put oj hsj a oi.dst v h1]at h;generalize (execOp a.eval oj).run P w=r at *
  cases r with
  | ok n w' =>
   cases n<;>simp only[Oper.upon]at h ⊢
   case value u=>exact⟨keep a hy u,by rw[<-Act.put_comm a v u h2];exact h⟩
   case skip=>exact⟨keep a hy _,by rw[<-Act.put_comm a v undef h2];exact h⟩
   case defer d =>
    refine⟨keep _ (n7 d) _,?_⟩;rw[<-Act.put_comm _ v undef h2,<-Act.put_defers];exact h
   case enter f args =>
    refine Calls.mono h λe ld he=>?_
    cases e with
    | returned u=>exact⟨keep a hy u,by rw[<-Act.put_comm a v u h2];exact he⟩
    | panicked c=>exact hQ _ _ _ _ _ he
    | outgrown=>exact he
   case row row args=>exact Rows.mono h λu ld he=>⟨keep a hy u,by rw[<-Act.put_comm a v u h2];exact he⟩
  | halt x w' =>
   cases x<;>simp only[Oper.upon]at h ⊢
   case panic u=>exact hQ _ _ _ _ _ h
 ·rename_i hw
  simp only[hw]at h;exact⟨keep a hy _,by rw[<-Act.put_comm a v undef h2];exact h⟩
theorem qP (hr:∀w,E w w) (ht:∀a b c,E a b->E b c->E a c) {i:Nat} {oi:Oper} {v:Value} (hi:ops[i]?=some oi) (n9:∀(j:Nat) (o:Oper) cs b,ops[j]?=some o->o.op ≠ .select cs b)
  (hQ:∀d v c a w,Q (.panic c) (a.put d v) w->Q (.panic c) a w) :
  ∀(az:Nat) (listed:Array Bool) (a:Act) (w:World),iB md ops listed ->
   (∀j oj,ops[j]?=some oj->j≠i->listed.getD j true=false->(∀e∈oj.after,Region.binds md e=true->e.on≠i)->oi.apart ops oj=true) ->
   i∈Region.ready md ops listed->fE P ops E oi v a w ->
   rB P md ops Q E az (listed.setIfInBounds i true) (a.put oi.dst v) w->rB P md ops Q E (az+1) listed a w:=by
 intro az
 induction az with
 | zero =>
  intro listed a w _ _ cq hy H;refine⟨λh=>(by rw[h]at cq;cases cq),λj hj x=>?_⟩;by_cases ek:j=i
  ·subst ek;exact(hy.later ht x.h).wpOp (hr _) hi (λw3 h3 => .inl ⟨h3,lM ht (ht _ _ _ x.h h3) H⟩)
  ·have:=ready_mono hj ek
   rw[H.1]at this;cases this
 | succ az ih =>
  intro listed a w cj j5 cq hy H;refine⟨λh=>(by rw[h]at cq;cases cq),λj hj x=>?_⟩;by_cases ek:j=i
  ·subst ek;exact(hy.later ht x.h).wpOp (hr _) hi (λw3 h3 => .inl ⟨h3,lM ht (ht _ _ _ x.h h3) H⟩)
  ·have h1:=H.2 j (ready_mono hj ek) x
   obtain⟨oc,oj,um,da⟩:=mem_ready.1 hj
   have yb:∀e∈oj.after,Region.binds md e=true->e.on≠i:=λe he hb ye=>by
    have h1:=da e he hb;have h0:=(mem_ready.1 cq).1;rw[ye]at h1;rcases Nat.lt_or_ge i listed.size with h'|h'
    ·simp[h']at h0 h1;rw[h0]at h1;cases h1
    ·simp[Array.getElem?_eq_none h']at h1
   have h2:=lT0 um (j5 j oj um ek oc yb) (λcs b=>n9 i oi cs b hi) (λcs b=>n9 j oj cs b um) hQ hy h1
   have lf:∀k ok,ops[k]?=some ok->k≠i->(listed.setIfInBounds j true).getD k true=false ->
     (∀e∈ok.after,Region.binds md e=true->e.on≠i)->oi.apart ops ok=true:=λk ok hk cp hun rq=>by
    refine j5 k ok hk cp ?_ rq;by_cases jb:j=k
    ·subst jb;exact oc
    ·rw[getD_set_ne true jb]at hun;exact hun
   refine wpOp_mono (λa' w' h3=>?_) h2;rcases h3.2 with h4|h4
   ·refine .inl ⟨h4.1,ih (listed.setIfInBounds j true) a' w' (cB cj hj) lf (ready_mono cq (Ne.symm ek)) (h3.1.later ht (ht _ _ _ x.h h4.1)) ?_⟩
    rw[Array.setIfInBounds_comm _ _ ek];exact h4.2
   ·exact(oZ cj cq hj ek h4.1).elim
def pU0 (md:Region.Mode) (ops:Array Oper) (g k:Nat):List (Nat×Bool)->Array Bool->Bool
 | [],listed=>Region.seqB md ops g k listed
 | (i,false)::rest,listed=>(Region.ready md ops listed).contains i&&Region.free md ops listed i&&pU0 md ops g k rest (listed.setIfInBounds i true)
 | (i,true)::rest,listed=>decide (Region.ready md ops listed=[i])&&pU0 md ops g k rest (listed.setIfInBounds i true)
theorem eK (hr:∀w,E w w) (ht:∀a b c,E a b->E b c->E a c) (hs:Region.noSelect ops=true)
  (hQ:∀d v c a w,Q (.panic c) (a.put d v) w->Q (.panic c) a w) {g k:Nat}
  (ax:∀listed a w,Region.seqB md ops g k listed=true->(∀x:Ext E w,fin a x.u)->rB P md ops Q E g listed a w) :
  ∀(l:List (Nat×Bool)) (listed:Array Bool) (a:Act) (w:World),iB md ops listed->pU0 md ops g k l listed=true->lA P ops E Q fin l a w->rB P md ops Q E (l.length+g) listed a w
 | [],listed,a,w,_,hB,h=>by rw[List.length_nil,Ak];exact ax listed a w hB h
 | (i,false)::rest,listed,a,w,cj,hB,h=>by
  simp only[pU0,Aa]at hB;obtain⟨⟨cq,hf⟩,kt⟩:=hB;have ed:i∈Region.ready md ops listed:=by simpa using cq
  unfold lA at h;rw[Ae,show rest.length+1+g=(rest.length+g)+1 by omega]
  split at h
  ·exact h.elim
  ·rename_i o ho
   split at h
   ·rename_i hw
    simp only[Ab,if_false]at h;obtain⟨v,hv,hk⟩:=h;exact qP hr ht ho (Region.noSelect_spec hs) hQ _ listed a w cj (Region.free_spec ho hf) ed (.inl ⟨hw,hv⟩) (eK hr ht hs hQ ax rest _ _ _ (cB cj ed) kt hk)
   ·rename_i hw
    exact qP hr ht ho (Region.noSelect_spec hs) hQ _ listed a w cj (Region.free_spec ho hf) ed (.inr ⟨by simpa using hw,rfl⟩) (eK hr ht hs hQ ax rest _ _ _ (cB cj ed) kt h)
 | (i,true)::rest,listed,a,w,cj,hB,h=>by
  simp only[pU0,Aa,decide_eq_true_eq]at hB;obtain⟨cq,kt⟩:=hB;rw[Ae,show rest.length+1+g=(rest.length+g)+1 by omega]
  refine⟨λh0=>(by rw[h0]at cq;cases cq),λj hj x=>?_⟩;have ku:=hj;rw[cq]at hj;have ek:j=i:=by simpa using hj
  subst ek;unfold lA at h;unfold wpOp;split at h
  ·exact h.elim
  ·rename_i o ho
   simp only[ho];split at h
   ·rename_i hw
    simp only[hw,if_true]at h ⊢;exact .inl (Oper.wp_mono (λa' w' h' => .inl ⟨h'.1,eK hr ht hs hQ ax rest _ _ _ (cB cj ku) kt h'.2⟩) (h x))
   ·rename_i hw
    simp only[hw] at ⊢;exact .inl ⟨hr _,lM ht x.h (eK hr ht hs hQ ax rest _ _ _ (cB cj ku) kt h)⟩
def nG (ops:Array Oper) (l:List (Nat×Bool)):Bool :=
 Region.noSelect ops&&decide (l.length=ops.size)&&pU0 .any ops 0 0 l (Ah ops.size false)
def jC (ops:Array Oper) (k:Nat) (l:List (Nat×Bool)):Bool :=
 Region.noSelect ops&&decide (l.length=k)&&decide (k<ops.size)&&aE0 .any ops k&&pU0 .any ops (ops.size-k) k l (Ah ops.size false)
theorem fF (md:Region.Mode) (ops:Array Oper):iB md ops (Ah ops.size false):=λj oj _ hl=>by rw[getD_replicate_false]at hl; cases hl
theorem kP (E:World->World->Prop) (l:List (Nat×Bool)) {id:Nat} {a:Act} {w:World} (hr:∀w,E w w) (ht:∀a b c,E a b->E b c->E a c)
  (hm:P.follows .mixedOrders=true) (hB:nG ops l=true)
  (hQ:∀d v c a w,Q (.panic c) (a.put d v) w->Q (.panic c) a w) (h:lA P ops E Q (Q .normal) l a w.drew):(Code.region id ops true).wp P Q a w:=by
 simp only[nG,Aa,decide_eq_true_eq]at hB;obtain⟨⟨hs,hl⟩,hB⟩:=hB
 have:=eK (md:=.any) (g:=0) (k:=0) hr ht hs hQ (λlisted a w hB h=>⟨by simpa [Region.seqB] using hB,h⟩) l _ a w.drew (fF _ _) hB h
 rw[Nat.add_zero,hl]at this;exact wp_region_any hm (qF hr _ _ _ _ this)
theorem mW (E:World->World->Prop) (k:Nat) (l:List (Nat×Bool)) {id:Nat} {L:List Oper} {a:Act} {w:World} (hr:∀w,E w w) (ht:∀a b c,E a b->E b c->E a c)
  (hm:P.follows .mixedOrders=true) (hB:jC L.toArray k l=true)
  (hQ:∀d v c a w,Q (.panic c) (a.put d v) w->Q (.panic c) a w) (h:lA P L.toArray E Q (wpList P L.toArray Q (L.drop k)) l a w.drew):(Code.region id L.toArray true).wp P Q a w:=by
 simp only[jC,Aa,decide_eq_true_eq]at hB;obtain⟨⟨⟨⟨hs,hl⟩,hk⟩,i5⟩,hB⟩:=hB;have ni:(L.drop k).length=L.toArray.size-k:=by simp
 have:=eK (P:=P) (Q:=Q) (md:=.any) (ops:=L.toArray) (fin:=wpList P L.toArray Q (L.drop k)) (g:=L.toArray.size-k) (k:=k) hr ht hs hQ (λlisted a w hB h=>by
  obtain⟨g,hg⟩:∃g,L.toArray.size-k=g+1:=⟨L.toArray.size-k-1,by omega⟩
  have cq:Region.ready .any L.toArray listed=[k]:=by
   rw[hg]at hB;simp only[Region.seqB,Aa,decide_eq_true_eq]at hB;exact hB.1
  have da:=λx:Ext E w=>wpAny_of_seq (md:=.any) (Q':=Q) (L.drop k) k listed a x.u (λj=>by simp[List.getElem?_drop]) (by rw[ni];exact hB) (h x);rw[hg];refine⟨λh0=>(by rw[h0]at cq;cases cq),λj hj x=>?_⟩;have h1:=da x;rw[ni,hg]at h1;have jb:j=k:=by rw[cq]at hj;simpa using hj
  subst jb;exact wpOp_mono (λa' w' h' => .inr ⟨i5,h'⟩) (h1.2 j hj)) l _ a w.drew (fF _ _) hB h
 rw[hl,show k+(L.toArray.size-k)=L.toArray.size by omega]at this
 exact wp_region_any hm (qF hr _ _ _ _ this)
theorem mB {i:Nat} {rest:List (Nat×Bool)} {a:Act} {w:World} {o:Oper} (ho:ops[i]?=some o)
  (h:∀K:Act->Prop,(∀a,lA P ops E Q fin rest a w->K a)->if Region.wanted o (yielded ops a.tmps) then aM P o a E w K else K (a.put o.dst undef)):lA P ops E Q fin ((i,false)::rest) a w:=by
 unfold lA;simp only[ho];exact h _ (λ_ h=>h)
theorem rT0 {i:Nat} {rest:List (Nat×Bool)} {a:Act} {w:World} {o:Oper} (ho:ops[i]?=some o)
  (h:∀K:Act->World->Prop,(∀a w,lA P ops E Q fin rest a w->K a w)->if Region.wanted o (yielded ops a.tmps) then ∀x:Ext E w,o.wp P a x.u (λa' w'=>E x.u w'/\K a' w') Q else K (a.put o.dst undef) w):lA P ops E Q fin ((i,true)::rest) a w:=by
 unfold lA;simp only[ho];exact h _ (λ_ _ h=>h)
theorem fX {i:Nat} {rest:List (Nat×Bool)} {a:Act} {w:World} {o:Oper} (ho:ops[i]?=some o) (hw:Region.wanted o (yielded ops a.tmps)=true)
  (h:∀K:Act->World->Prop,(∀a w,lA P ops E Q fin rest a w->K a w)->∀w2,E w w2->o.wp P a w2 (λa' w'=>E w2 w'/\K a' w') Q):lA P ops E Q fin ((i,true)::rest) a w :=
 rT0 ho λK hK=>by rw[if_pos hw];exact λx=>h K hK x.u x.h
theorem sP {a:Act} {w:World} (h:∀w2,E w w2->fin a w2):lA P ops E Q fin [] a w:=λx=>h x.u x.h
end
def aB (w w':World):Prop:=Below w.heap.size w w'
theorem aB.refl (w:World):aB w w:=Below.refl _ _
instance (w:World):Nonempty (Ext aB w):=⟨⟨w,aB.refl w⟩⟩
theorem aB.trans (a b c:World) (h:aB a b) (k:aB b c):aB a c:=Below.trans h (Below.mono k h.size)
theorem aB.cell {w w':World} (h:aB w w') {p:Addr} {v:Value} (hc:w.cell? p=some v):w'.cell? p=some v :=
 (Below.cell h (World.block_lt_of_cell? w _ hc)).trans hc
theorem aB.size {w w':World} (h:aB w w'):w.heap.size<=w'.heap.size:=Below.size h
theorem aB.alloc (w:World) (o:Obj):aB w (w.alloc o):=(Below.refl _ _).alloc (Am _) _
theorem aB.drew (w:World):aB w w.drew:=(Below.refl _ _).drew
theorem aG {w:World} {p:Addr} {v:Value} (hc:w.cell? p=some v) (x:Ext aB w):x.u.cell? p=some v:=x.h.cell hc
theorem exq {α:Sort _} (a:α):∃x,x=a:=⟨_,rfl⟩
theorem aU (w:World) (cs:Array Value) (t:TypeId) (fr:Nat×Nat) (j:Nat) (v:Value) (h:cs[j]?=some v):(w.alloc (.cells cs t fr)).cell? ⟨w.heap.size,j,none⟩=some v:=by
 have hh:(w.alloc (.cells cs t fr)).heap[w.heap.size]?=some (.cells cs t fr):=by
  show (w.heap.push _)[w.heap.size]?=_
  simp
 unfold An;simp only[hh,Ai,Ab,if_false,h]
end
section
open Go Go.RowKit
theorem aB.tr {a b c:World} (h:aB a b) (k:aB b c):aB a c:=aB.trans _ _ _ h k
theorem aB.al {a b:World} (h:aB a b) (o:Obj):aB a (b.alloc o):=h.tr (aB.alloc _ _)
theorem aB.dr {a b:World} (h:aB a b):aB a b.drew:=h.tr (aB.drew _)
theorem aB.set {a b:World} (h:aB a b) {p:Addr} (hp:a.heap.size<=p.block) (v:Value):aB a (b.setCell p v):=Below.setCell h hp v
theorem aB.below {a b:World} (h:aB a b):Below a.heap.size a b:=h
theorem aB.froz {w w':World} (h:aB w w') {p:Addr} (hb:p.block<w.heap.size):w'.frozen? p=w.frozen? p:=Below.frozen h hb
def seq (x y:ByteArray):Bool:=x.toList==y.toList
theorem eP0 {x y:ByteArray}:seq x y=true↔x=y:=by
 unfold seq;rw[Ac,Ac,beq_iff_eq];constructor
 ·intro h
  have:=congrArg (λl=>(⟨l.toArray⟩:ByteArray)) h
  rwa [Ao,Ao]at this
 ·rintro rfl;rfl
theorem lK0 {x y:ByteArray}:seq x y=false↔x≠y:=by
 rw[Ne,<-eP0 (x:=x) (y:=y)];simp
def aF (w:World) (a:Option Addr) (k:Nat) (rows:List (List Value)):Prop :=
 rows≠[]->∃b off,a=some ⟨b,off,none⟩/\∀(i:Nat) (row:List Value),rows[i]?=some row->∀(j:Nat) (v:Value),row[j]?=some v->w.cell? ⟨b,off+i*k+j,none⟩=some v
theorem aF.grows {w w':World} {a:Option Addr} {k:Nat} {rows:List (List Value)} (h:aF w a k rows) (hg:aB w w'):aF w' a k rows:=λhn=>by
 obtain⟨b,off,ha,hc⟩:=h hn;exact⟨b,off,ha,λi row hi j v hj=>hg.cell (hc i row hi j v hj)⟩
theorem aF.nil (w:World) (a:Option Addr) (k:Nat):aF w a k []:=λh=>absurd rfl h
theorem aF.get {α:Type} {w:World} {a:Option Addr} {k:Nat} {xs:List α} {enc:α->List Value} (h:aF w a k (xs.map enc)) (hn:xs≠[]) :
  ∃b off,a=some ⟨b,off,none⟩/\∀(i:Nat) (x:α),xs[i]?=some x->∀(j:Nat) (v:Value),(enc x)[j]?=some v->w.cell? ⟨b,off+i*k+j,none⟩=some v:=by
 obtain⟨b,off,ha,hc⟩:=h (by simpa using hn);exact⟨b,off,ha,λi x hi j v hj=>hc i (enc x) (by simp[hi]) j v hj⟩
theorem aH {α:Type} {xs:List α} {k:Nat} (h:k<xs.length):xs≠[]:=by rintro rfl; simp at h
theorem lJ0 {k:IntKind} {a b:Int} (h:a=b):Ending.returned (.int k a)=.returned (.int k b):=by rw[h]
theorem cX {a b:Bool} (h:a=b):Ending.returned (.bool a)=.returned (.bool b):=by rw[h]
structure eP where
 name:ByteArray
 kind:Int
def cG (p:eP):List Value:=[.string p.name,.int .i64 p.kind]
def rC (name:ByteArray):List eP->Nat->Option Nat
 | [],_=>none
 | p::l,i=>if seq p.name name then some i else rC name l (i+1)
def iN (l:List eP) (name:ByteArray):Option Nat:=rC name l 0
theorem nK (name:ByteArray):∀(l:List eP) (i k:Nat),(∀j p,j<k->l[j]?=some p->seq p.name name=false)->rC name l i=rC name (l.drop k) (i+k)
 | [],i,k,_=>by simp[rC]
 | p::l,i,0,_=>by simp
 | p::l,i,k+1,h=>by
  have h0:seq p.name name=false:=h 0 p (by omega) rfl;rw[rC,h0,List.drop_succ_cons];simp only[Ab,if_false];rw[nK name l (i+1) k λj q hj hq=>h (j+1) q (by omega) (by simpa using hq)];congr 1;omega
theorem cX0 {l:List eP} {name:ByteArray} {k:Nat} {p:eP} (hk:l[k]?=some p) (h:∀j q,j<k->l[j]?=some q->seq q.name name=false) (hp:seq p.name name=true):iN l name=some k:=by
 have ae:k<l.length:=(List.getElem?_eq_some_iff.1 hk).1;have hp':l[k]=p:=(List.getElem?_eq_some_iff.1 hk).2;rw[iN,nK name l 0 k h,List.drop_eq_getElem_cons ae,rC,hp',hp];simp
theorem aB0 {l:List eP} {name:ByteArray} (h:∀j q,j<l.length->l[j]?=some q->seq q.name name=false):iN l name=none:=by
 rw[iN,nK name l 0 _ h];simp[rC]
theorem dR {w w':World} {base:Nat} {e:TypeId} {size:Nat} {v:Value} {n:Nat} {xs:List Value} (h:w.ownsRow base e size v n xs) (hg:aB w w'):w'.ownsRow base e size v n xs:=by
 obtain⟨h1,h2⟩:=h;refine⟨h1,?_⟩;rcases h2 with h2|⟨g,cap,b9,hv,hb,hh,r⟩
 ·exact Or.inl h2
 ·exact Or.inr ⟨g,cap,b9,hv,hb,by rw[hg.block g (Array.getElem?_eq_some_iff.1 hh).1];exact hh,r⟩
theorem rF {w:World} {base base':Nat} {e:TypeId} {size:Nat} {v:Value} {n:Nat} {xs:List Value} (h:w.ownsRow base e size v n xs) (hb:base'<=base):w.ownsRow base' e size v n xs:=by
 obtain⟨h1,h2⟩:=h;refine⟨h1,?_⟩;rcases h2 with h2|⟨g,cap,b9,hv,hg,r⟩
 ·exact Or.inl h2
 ·exact Or.inr ⟨g,cap,b9,hv,Af hb hg,r⟩
theorem aV {w:World} {base:Nat} {e:TypeId} {size:Nat} {v:Value} {n:Nat} {xs:List Value} (h:w.ownsRow base e size v n xs):∀k,v.ownBlock=some k->base<=k:=by
 intro k hk;rcases h.2 with ⟨rfl,_⟩|⟨g,cap,b9,rfl,hb,_⟩
 ·cases hk
 ·have:g=k:=Option.some.inj hk
  omega
theorem aB.grown {a w w':World} {row:Option Nat} (h:aB a w) (hg:w.grownBy w' row) (hr:∀k,row=some k->a.heap.size<=k):aB a w':=Below.grown h hg h.size hr
theorem mP {α:Type} {enc:α->List Value} {k:Nat} (hk:∀x,(enc x).length=k):∀(xs:List α) (i j:Nat) (x:α) (v:Value),xs[i]?=some x->(enc x)[j]?=some v->(xs.flatMap enc)[i*k+j]?=some v
 | [],i,j,x,v,h,_=>by simp at h
 | y::r,0,j,x,v,h,hj=>by
  obtain rfl:y=x:=by simpa using h
  have ae:j<(enc y).length:=(List.getElem?_eq_some_iff.1 hj).1;rw[Ad,Nat.zero_mul,Ak,List.getElem?_append_left ae];exact hj
 | y::r,i+1,j,x,v,h,hj=>by
  rw[Ad,List.getElem?_append_right (by rw[hk,Al];omega),hk,show (i+1)*k+j-k=i*k+j by rw[Al];omega]
  exact mP hk r i j x v (by simpa using h) hj
theorem fC {α:Type} {enc:α->List Value} {k:Nat} (hk:∀x,(enc x).length=k):∀(xs:List α),(xs.flatMap enc).length=xs.length*k
 | []=>by simp
 | y::r=>by rw[Ad,Aj,hk,fC hk r,Ae,Al];omega
theorem iI0 {α:Type} {enc:α->List Value} {k:Nat} (hk:∀x,(enc x).length=k) {w:World} {base:Nat} {e:TypeId} {v:Value} {xs:List α} (h:w.ownsRow base e k v xs.length (xs.flatMap enc)) :
  ∃a cap,v=.slice a xs.length cap/\xs.length<=cap/\cap<=maxLen/\aF w a k (xs.map enc):=by
 rcases h.2 with ⟨rfl,h0⟩|⟨g,cap,b9,rfl,hb,hh,hn,hc,hs,ht⟩
 ·have:xs=[]:=List.length_eq_zero_iff.1 h0
  subst this;exact⟨none,0,rfl,Am _,Nat.zero_le _,aF.nil _ _ _⟩
 ·refine⟨_,cap,rfl,hn,hc,λ_=>⟨g,0,rfl,λi row hi j u hj=>?_⟩⟩
  rw[List.getElem?_map]at hi
  cases hx:xs[i]? with
  | none=>rw[hx]at hi;cases hi
  | some x =>
   rw[hx]at hi;obtain rfl:=Option.some.inj hi;have hf:=mP hk xs i j x u hx hj;rw[<-ht,List.getElem?_take]at hf;split at hf
   ·unfold An
    simp only[hh,Ai,Ab,if_false];rw[Ak];simpa using hf
   ·cases hf
def bos:ByteArray:=⟨#[66,79,83]⟩
structure eV {α:Type} (P:Program) (t e:TypeId) (k bytes:Nat) (enc:α->List Value):Prop where
 sl:P.underlying t=some (.slice e)
 info:∃i z,P.info? e=some i/\i.zero=some z/\i.size=k/\i.bytes=bytes/\z.cells.size=k
 pos:0<k
 by1:1<=bytes
 len:∀x,(enc x).length=k
 one:∀x u,u∈enc x->u.oneCell'=true
theorem iK {P:Program} {e:TypeId} {z:Value} {k bytes:Nat} (h:(P.info? e).map (λi=>(i.zero,i.size,i.bytes))=some (some z,k,bytes)) (hz:z.cells.size=k) :
  ∃i z,P.info? e=some i/\i.zero=some z/\i.size=k/\i.bytes=bytes/\z.cells.size=k:=by
 cases hi:P.info? e with
 | none=>rw[hi]at h;cases h
 | some i =>
  rw[hi]at h;simp only[Option.map_some,Option.some.injEq,Prod.mk.injEq]at h;exact⟨i,z,rfl,h.1,h.2.1,h.2.2,hz⟩
def aT {α:Type} (w:World) (base:Nat) (e:TypeId) (k:Nat) (enc:α->List Value) (v:Value) (xs:List α):Prop:=w.ownsRow base e k v xs.length (xs.flatMap enc)
theorem aT.nil {α:Type} (w:World) (base:Nat) (e:TypeId) (k:Nat) (enc:α->List Value):aT w base e k enc (.slice none 0 0) []:=World.ownsRow_nil _ _ _ _
theorem aT.grows {α:Type} {w w':World} {base:Nat} {e:TypeId} {k:Nat} {enc:α->List Value} {v:Value} {xs:List α} (h:aT w base e k enc v xs) (hg:aB w w'):aT w' base e k enc v xs:=dR h hg
theorem aT.base {α:Type} {w:World} {base base':Nat} {e:TypeId} {k:Nat} {enc:α->List Value} {v:Value} {xs:List α} (h:aT w base e k enc v xs) (hb:base'<=base):aT w base' e k enc v xs:=rF h hb
theorem aT.at_ {α:Type} {enc:α->List Value} {k:Nat} (hk:∀x,(enc x).length=k) {w:World} {base:Nat} {e:TypeId} {v:Value} {xs:List α} (h:aT w base e k enc v xs) :
 ∃a cap,v=.slice a xs.length cap/\xs.length<=cap/\cap<=maxLen/\aF w a k (xs.map enc):=iI0 hk h
theorem dK {w:World} {cs:Array Value} {t:TypeId} {n:Nat} (hn:n=w.heap.size) (j:Nat) (u:Value) (hj:cs.toList[j]?=some u):(w.alloc (.cells cs t)).cell? ((⟨n,0,none⟩:Addr).add j)=some u:=by
 subst hn;have h:=aU w cs t (0,0) j u (by simpa using hj);unfold Ar;by_cases h0:j=0
 ·subst h0;simpa using h
 ·simp[h0,h]
theorem kG {n j:Nat}:(⟨n,0,none⟩:Addr).add j=⟨n,j,none⟩:=by
 unfold Ar;by_cases h0:j=0
 ·subst h0;simp
 ·simp[h0]
theorem yL0 {α:Type} {P:Program} {t e:TypeId} {k bytes:Nat} {enc:α->List Value} (L:eV P t e k bytes enc) {ops:Array Oper} {rest:List Oper} {o:Oper} {a:Act} {Q:Exit->Act->World->Prop} {w W:World}
  (io:o.guard=none) (s x:Operand) (f9:o.op=.call { callee:=.builtin .append,args:=#[s,x],argTypes:=#[t,t] })
  (base:Nat) (v:Value) (xs:List α) (y:α) (hs:a.eval s=v) (aa:aT w base e k enc v xs) (et:aB w W) (n c:Nat) (hc:∀(j:Nat) (u:Value),(enc y)[j]?=some u->W.cell? ⟨n,j,none⟩=some u)
  (hx:a.eval x=.slice (some ⟨n,0,none⟩) 1 c) (ak:(xs.length+1)*bytes<=140737488355328) (be:base<=w.heap.size)
  (h:∀v' w',aT w' base e k enc v' (xs++[y])->(∀a0,aB a0 w->a0.heap.size<=base->aB a0 w')->wpList P ops Q rest (a.put o.dst v') w') :
  wpList P ops Q (o::rest) a W:=by
 obtain⟨i,z,hi,hz,bu,ga,jv⟩:=L.info;have od:xs.length+1<=140737488355328:=Af (Nat.le_mul_of_pos_right _ L.by1) ak
 refine wpList_append_own _ io s x t f9 base e i z k bytes L.sl hi hz bu ga jv L.pos v xs.length (xs.flatMap enc) hs (dR aa et) ⟨n,0,none⟩ 1 c (enc y) hx (by rw[L.len,Nat.one_mul])
  (λj u hu=>by rw[kG];exact hc j u hu) (L.one y) (by unfold maxLen;omega) ak (Af be et.size) ?_
 intro v' w' h1 h2 _;refine h v' w' ?_ (λa0 h0 hb=>(h0.tr et).grown h2 (λq hq=>Af hb (aV aa q hq)));unfold aT;rw[Aj,List.length_singleton,List.flatMap_append];simpa using h1
theorem oP0 {α:Type} {P:Program} {t e:TypeId} {k bytes:Nat} {enc:α->List Value} (L:eV P t e k bytes enc) {ops:Array Oper} {rest:List Oper} {o:Oper} {a:Act} {Q:Exit->Act->World->Prop} {w W:World}
  (io:o.guard=none) (s x:Operand) (f9:o.op=.call { callee:=.builtin .append,args:=#[s,x],argTypes:=#[t,t] })
  (base:Nat) (v:Value) (xs:List α) (y:α) (hs:a.eval s=v) (aa:aT w base e k enc v xs) (et:aB w W) (n c:Nat) (hn:n=W.heap.size) (cs:Array Value) (ct:cs.toList=enc y)
  (hx:a.eval x=.slice (some ⟨n,0,none⟩) 1 c) (ak:(xs.length+1)*bytes<=140737488355328) (be:base<=w.heap.size)
  (h:∀v' w',aT w' base e k enc v' (xs++[y])->(∀a0,aB a0 w->a0.heap.size<=base->aB a0 w')->wpList P ops Q rest (a.put o.dst v') w') :
  wpList P ops Q (o::rest) a (W.alloc (.cells cs e)) :=
 yL0 L io s x f9 base v xs y hs aa (et.al _) n c (λj u hu=>by
  have:=dK (w:=W) (cs:=cs) (t:=e) hn j u (by rw[ct];exact hu)
  rw[kG]at this;exact this) hx ak be h
theorem oR0 {w w':World} {cs:Array Value} {t:TypeId} (hg:aB (w.alloc (.cells cs t)) w') {l:List Value} (hl:cs.toList=l):∀(j:Nat) (u:Value),l[j]?=some u->w'.cell? ⟨w.heap.size,j,none⟩=some u:=λj u hu =>
 hg.cell (aU w cs t _ j u (by rw[<-hl]at hu;simpa using hu))
end
section
open Go Go.RowKit
structure uQ0 (P:Program) (ops:Array Oper) (E:World->World->Prop) (Q:Exit->Act->World->Prop) (fin:Act->World->Prop) (l:List (Nat×Bool)) (a:Act) (w:World):Prop where
 out:lA P ops E Q fin l a w
section
variable {P:Program} {ops:Array Oper} {Q:Exit->Act->World->Prop} {E:World->World->Prop} {fin:Act->World->Prop}
theorem xU (E:World->World->Prop) (l:List (Nat×Bool)) {id:Nat} {a:Act} {w:World} (hr:∀w,E w w) (ht:∀a b c,E a b->E b c->E a c)
 (hm:P.follows .mixedOrders=true) (hB:nG ops l=true)
 (hQ:∀d v c a w,Q (.panic c) (a.put d v) w->Q (.panic c) a w) (h:uQ0 P ops E Q (Q .normal) l a w.drew):(Code.region id ops true).wp P Q a w:=kP E l hr ht hm hB hQ h.out
theorem rX {i:Nat} {rest:List (Nat×Bool)} {a:Act} {w:World} {o:Oper} (ho:ops[i]?=some o)
  (h:∀K:Act->Prop,(∀a,uQ0 P ops E Q fin rest a w->K a)->if Region.wanted o (yielded ops a.tmps) then aM P o a E w K else K (a.put o.dst undef)):uQ0 P ops E Q fin ((i,false)::rest) a w :=
 ⟨mB ho λK hK=>h K λa ha=>hK a ha.out⟩
theorem kI {i:Nat} {rest:List (Nat×Bool)} {a:Act} {w:World} {o:Oper} (ho:ops[i]?=some o) (hw:Region.wanted o (yielded ops a.tmps)=true)
  (h:∀K:Act->World->Prop,(∀a w,uQ0 P ops E Q fin rest a w->K a w)->∀w2,E w w2->o.wp P a w2 (λa' w'=>E w2 w'/\K a' w') Q):uQ0 P ops E Q fin ((i,true)::rest) a w :=
 ⟨fX ho hw λK hK=>h K λa w ha=>hK a w ha.out⟩
theorem wE0 {a:Act} {w:World} (h:∀w2,E w w2->fin a w2):uQ0 P ops E Q fin [] a w:=⟨sP h⟩
end
end
section
open Go Go.RowKit
def kJ (s:ByteArray):Bool:=s.data.toList.isEmpty||(s.data.toList.head?==some 35)
theorem zP {s:ByteArray} (h:¬s.toList=[]):0<s.size:=by
 rw[Ac]at h;rw[Ap];exact List.length_pos_iff.2 h
theorem fK0 {s:ByteArray} (h:0<s.size):s.data.toList.head?=some s[0]:=by
 rw[List.head?_eq_getElem?,Array.getElem?_toList];exact Array.getElem?_eq_getElem (by exact h)
theorem kN0 {s:ByteArray} (h:s.toList=[]):kJ s=true:=by
 rw[Ac]at h;unfold kJ;rw[h];rfl
theorem mC0 {s:ByteArray} (h:0<s.size) (yf:(s[0].toNat:Int)=35):kJ s=true:=by
 unfold kJ;rw[fK0 h]
 have:s[0]=35:=by rw[<-UInt8.toNat_inj];simp;omega
 rw[this];simp
theorem tH0 {s:ByteArray} (h:0<s.size) (yf:¬(s[0].toNat:Int)=35):kJ s=false:=by
 unfold kJ
 have aq:s.data.toList.isEmpty=false:=by
  rw[Ap]at h
  cases hh:s.data.toList with
  | nil=>rw[hh]at h;simp at h
  | cons _ _=>rfl
 rw[fK0 h,aq]
 have:¬s[0]=35:=by intro e;rw[e]at yf;exact yf rfl
 simp[this]
end
end Go.Proofs.YthgklnohcmaopaaGreatDoor
