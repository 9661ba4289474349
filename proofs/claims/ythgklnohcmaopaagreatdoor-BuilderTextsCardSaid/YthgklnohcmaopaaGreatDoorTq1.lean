/- The texts Ord Mem App yQ0 SkipP, one behind the other. -/
import Derived.Deep.QuietTactic
import Derived.OrdersHeld
import Derived.StillTail
import Derived.WalkKit
import Derived.Lib.Strings
import Derived.Lib.Hide
open Bool renaming and_eq_true → Aa,false_eq_true → Ab,or_eq_true → Ag
open Go.Lib renaming toList_data → Ac,mk_data → Ap,size_eq → Aq
open List renaming flatMap_cons → Ad,length_cons → Ae,length_append → Aj,range → Ar
open Nat renaming le_trans → Af,zero_add → Ak,succ_mul → Am,le_refl → An
open Array renaming replicate → Ah
open Option renaming isSome_none → Ai
open Go.World renaming ownsRow_nil → Al,cell? → Ao
open Go.Addr renaming add → As
namespace Go.Proofs.YthgklnohcmaopaaGreatDoor
section
open Go Go.RowKit
def aK0 (s l:List Nat):List (Nat×Bool):=s.map λk=>(k,l.contains k)
def bB (n:Nat) (l:List Nat):List (Nat×Bool):=aK0 (Ar n) l
structure Ext (E:World->World->Prop) (w:World) where
 u:World
 h:E w u
section
variable {P:Program} {ops:Array Oper} {Q:Exit->Act->World->Prop} {md:Region.Mode} {E:World->World->Prop} {fin:Act->World->Prop}
def aK (P:Program) (o:Oper) (a:Act) (E:World->World->Prop) (w:World) (next:Act->Prop):Prop :=
 ∃v,(∀w2,(∃x:Ext E w,w2=x.u)->o.quietAt P a (λw3=>∃y:Ext E w2,w3=y.u) w2 v)/\next (a.put o.dst v)
def lL (P:Program) (ops:Array Oper) (E:World->World->Prop) (Q:Exit->Act->World->Prop) (fin:Act->World->Prop):List (Nat×Bool)->Act->World->Prop
 | [],a,w=>∀x:Ext E w,fin a x.u
 | (i,late)::rest,a,w=>match ops[i]? with
  | none=>False
  | some o=>if Region.wanted o (yielded ops a.tmps) then
    (if late then ∀x:Ext E w,o.wp P a x.u (λa' w'=>E x.u w'/\lL P ops E Q fin rest a' w') Q else aK P o a E w (λa'=>lL P ops E Q fin rest a' w))
   else lL P ops E Q fin rest (a.put o.dst undef) w
def gU0 (md:Region.Mode) (ops:Array Oper):Nat->Nat->Nat->Bool
 | 0,_,_=>false
 | f+1,i,j=>match ops[i]? with
  | some o=>o.after.any λe=>Region.binds md e&&(e.on==j||gU0 md ops f e.on j)
  | none=>false
def vV0 (md:Region.Mode) (ops:Array Oper) (i:Nat):Bool :=
 (Ar ops.size).all λj=>j==i||gU0 md ops ops.size i j||gU0 md ops ops.size j i
def jW (md:Region.Mode) (ops:Array Oper) (listed:Array Bool):Prop :=
 ∀(j:Nat) (oj:Oper),ops[j]?=some oj->listed.getD j false=true->∀e∈oj.after,Region.binds md e=true->listed.getD e.on false=true
theorem tF {listed:Array Bool} (hc:jW md ops listed):∀(f i j:Nat),listed.getD i false=true->gU0 md ops f i j=true->listed.getD j false=true
 | 0,_,_,_,h=>by cases h
 | f+1,i,j,hi,h=>by
  unfold gU0 at h;split at h
  ·rename_i o ho
   obtain⟨e,he,hb⟩:=Array.any_eq_true'.1 h;simp only[Aa,Ag,beq_iff_eq]at hb;have hon:=hc i o ho hi e he hb.1;rcases hb.2 with h1|h1
   ·rw[<-h1];exact hon
   ·exact tF hc f e.on j hon h1
  ·cases h
theorem vJ {listed:Array Bool} (hc:jW md ops listed) {f i j:Nat} (hi:i∈Region.ready md ops listed) (h:gU0 md ops f i j=true):listed.getD j false=true:=by
 obtain⟨_,oi,hoi,ay⟩:=mem_ready.1 hi
 cases f with
 | zero=>cases h
 | succ f =>
  unfold gU0 at h;simp only[hoi]at h;obtain⟨e,he,hb⟩:=Array.any_eq_true'.1 h;simp only[Aa,Ag,beq_iff_eq]at hb;have hon:=ay e he hb.1;rcases hb.2 with h1|h1
  ·rw[<-h1];exact hon
  ·exact tF hc f e.on j hon h1
theorem dD {listed:Array Bool} (hc:jW md ops listed) {i:Nat} (hi:i∈Region.ready md ops listed):jW md ops (listed.setIfInBounds i true):=by
 obtain⟨_,oi,hoi,ay⟩:=mem_ready.1 hi;intro j oj hj hl e he hb;by_cases s5:i=j
 ·subst s5
  have:oj=oi:=Option.some.inj (hj.symm.trans hoi)
  subst this;exact getD_set_true (ay e he hb)
 ·rw[getD_set_ne false s5]at hl
  exact getD_set_true (hc j oj hj hl e he hb)
theorem qE {listed:Array Bool} (hc:jW md ops listed) {i j:Nat} (hi:i∈Region.ready md ops listed) (hj:j∈Region.ready md ops listed) (ew:j≠i) (ht:vV0 md ops j=true):False:=by
 obtain⟨hui,oi,hoi,_⟩:=mem_ready.1 hi;obtain⟨huj,oj,wj,_⟩:=mem_ready.1 hj;have h1:=List.all_eq_true.1 ht i (List.mem_range.2 (Array.getElem?_eq_some_iff.1 hoi).1);simp only[Ag,beq_iff_eq]at h1;rcases h1 with (h1|h1)|h1
 ·exact ew h1.symm
 ·have:=vJ hc hj h1;rw[getD_both hui]at this;cases this
 ·have:=vJ hc hi h1;rw[getD_both huj]at this;cases this
def tH (P:Program) (md:Region.Mode) (ops:Array Oper) (Q:Exit->Act->World->Prop) (E:World->World->Prop):Nat->Array Bool->Act->World->Prop
 | 0,listed,a,w=>Region.ready md ops listed=[]/\∀x:Ext E w,Q .normal a x.u
 | bd+1,listed,a,w =>
  (Region.ready md ops listed=[]->∀x:Ext E w,Q .normal a x.u) /\
  ∀i∈Region.ready md ops listed,∀x:Ext E w,wpOp P ops Q i (λa' w'=>(E x.u w'/\tH P md ops Q E bd (listed.setIfInBounds i true) a' w')\/(vV0 md ops i=true/\wpAny P md ops Q bd (listed.setIfInBounds i true) a' w')) a x.u
theorem rG (hr:∀w,E w w):∀(bd:Nat) (listed:Array Bool) (a:Act) (w:World),tH P md ops Q E bd listed a w->wpAny P md ops Q bd listed a w
 | 0,_,_,w,h=>⟨h.1,h.2 ⟨w,hr w⟩⟩
 | bd+1,_,_,w,h=>⟨λh0=>h.1 h0 ⟨w,hr w⟩,λi hi=>wpOp_mono (λa' w' h'=>h'.elim (λh'=>rG hr bd _ a' w' h'.2) (λh'=>h'.2)) (h.2 i hi ⟨w,hr w⟩)⟩
theorem mD (ht:∀a b c,E a b->E b c->E a c) {bd:Nat} {listed:Array Bool} {a:Act} {w w':World} (hw:E w w') (h:tH P md ops Q E bd listed a w):tH P md ops Q E bd listed a w':=by
 cases bd with
 | zero=>exact⟨h.1,λx=>h.2 ⟨x.u,ht _ _ _ hw x.h⟩⟩
 | succ bd=>exact⟨λh0 x=>h.1 h0 ⟨x.u,ht _ _ _ hw x.h⟩,λi hi x=>h.2 i hi ⟨x.u,ht _ _ _ hw x.h⟩⟩
def fJ (P:Program) (ops:Array Oper) (E:World->World->Prop) (o:Oper) (v:Value) (a:Act) (w:World):Prop :=
 (Region.wanted o (yielded ops a.tmps)=true/\∀w2,(∃x:Ext E w,w2=x.u)->o.quietAt P a (λw3=>∃y:Ext E w2,w3=y.u) w2 v) \/
 (Region.wanted o (yielded ops a.tmps)=false/\v=undef)
theorem fJ.later (ht:∀a b c,E a b->E b c->E a c) {o:Oper} {v:Value} {a:Act} {w w':World} (hw:E w w') (h:fJ P ops E o v a w):fJ P ops E o v a w' :=
 h.imp (λ⟨h1,h2⟩=>⟨h1,λw2 ⟨x,hx⟩=>h2 w2 ⟨⟨x.u,ht _ _ _ hw x.h⟩,hx⟩⟩) id
theorem fJ.of_same {o:Oper} {v:Value} {a a':Act} {w:World} (hy:fJ P ops E o v a w) (he:execOp a'.eval o=execOp a.eval o)
  (hw:Region.wanted o (yielded ops a'.tmps)=Region.wanted o (yielded ops a.tmps)):fJ P ops E o v a' w:=by
 unfold fJ Oper.quietAt at *;rw[he,hw];exact hy
theorem bJ0 {o:Oper} {v:Value} {a:Act} {w:World} {K:Act->World->Prop} (hr:E w w) (h:o.quietAt P a (λw3=>∃y:Ext E w,w3=y.u) w v) (hk:∀w3,E w w3->K (a.put o.dst v) w3):o.wp P a w K Q:=by
 unfold Oper.quietAt at h;unfold Oper.wp;generalize (execOp a.eval o).run P w=r at *
 cases r with
 | ok n w' =>
  cases n<;>simp only[Oper.quietUpon]at h<;>simp only[Oper.upon]
  case value u =>
   obtain⟨e1,e2⟩:=h;rw[e1,e2];exact hk _ hr
  case skip =>
   obtain⟨e1,e2⟩:=h;rw[e1,<-e2];exact hk _ hr
  case enter f args =>
   obtain⟨e1,hc⟩:=h;rw[e1];exact hc.mono λe gl ⟨he,y,hy⟩=>by subst he;subst hy;exact hk _ y.h
 | halt x w'=>simp only[Oper.quietUpon]at h
theorem fJ.wpOp {i:Nat} {o:Oper} {v:Value} {a:Act} {w:World} (hr:E w w) (hi:ops[i]?=some o) (hy:fJ P ops E o v a w)
  {K:Act->World->Prop} (h:∀w3,E w w3->K (a.put o.dst v) w3):wpOp P ops Q i K a w:=by
 unfold Go.wpOp;simp only[hi];rcases hy with ⟨hw,hv⟩|⟨hw,rfl⟩
 ·simp only[hw,if_true];exact .inl (bJ0 hr (hv w ⟨⟨w,hr⟩,rfl⟩) h)
 ·simp only[hw,Ab,if_false];exact h _ hr
theorem tI0 {j:Nat} {oi oj:Oper} {v:Value} (hj:ops[j]?=some oj) (hap:oi.apart ops oj=true)
  (hsi:∀cs b,oi.op ≠ .select cs b) (hsj:∀cs b,oj.op ≠ .select cs b)
  (hQ:∀d v c a w,Q (.panic c) (a.put d v) w->Q (.panic c) a w) {K:Act->World->Prop} {a:Act} {w wb:World}
  (hy:fJ P ops E oi v a wb) (h:wpOp P ops Q j K (a.put oi.dst v) w) :
  wpOp P ops Q j (λa' w'=>fJ P ops E oi v a' wb/\K (a'.put oi.dst v) w') a w:=by
 obtain⟨h1,h2,h3⟩:=Oper.apart_spec hap
 have keep:∀(a:Act),fJ P ops E oi v a wb->∀u,fJ P ops E oi v (a.put oj.dst u) wb:=λa hy u =>
  hy.of_same (execOp_put oi hsi a oj.dst u h3) (wanted_put oi a oj.dst u h3)
 have p9:∀d,fJ P ops E oi v { a with defers:=d::a.defers } wb:=λd=>hy.of_same rfl rfl
 unfold wpOp at *;simp only[hj] at *;rw[wanted_put oj a oi.dst v h1]at h;split
 ·rename_i hw
  simp only[hw,if_true]at h;rcases h with h|⟨kh,qb⟩
  case inr=>exact .inr ⟨by unfold Oper.asks at *;rw[execOp_put oj hsj a oi.dst v h1]at kh;exact kh,qb⟩
  refine .inl ?_;unfold Oper.wp at *;rw[execOp_put oj hsj a oi.dst v h1]at h;generalize (execOp a.eval oj).run P w=r at *
  cases r with
  | ok n w' =>
   cases n<;>simp only[Oper.upon]at h ⊢
   case value u=>exact⟨keep a hy u,by rw[<-Act.put_comm a v u h2];exact h⟩
   case skip=>exact⟨keep a hy _,by rw[<-Act.put_comm a v undef h2];exact h⟩
   case defer d =>
    refine⟨keep _ (p9 d) _,?_⟩;rw[<-Act.put_comm _ v undef h2,<-Act.put_defers];exact h
   case enter f args =>
    refine Calls.mono h λe gl he=>?_
    cases e with
    | returned u=>exact⟨keep a hy u,by rw[<-Act.put_comm a v u h2];exact he⟩
    | panicked c=>exact hQ _ _ _ _ _ he
    | outgrown=>exact he
   case row row args=>exact Rows.mono h λu gl he=>⟨keep a hy u,by rw[<-Act.put_comm a v u h2];exact he⟩
  | halt x w' =>
   cases x<;>simp only[Oper.upon]at h ⊢
   case panic u=>exact hQ _ _ _ _ _ h
 ·rename_i hw
  simp only[hw]at h;exact⟨keep a hy _,by rw[<-Act.put_comm a v undef h2];exact h⟩
theorem sN (hr:∀w,E w w) (ht:∀a b c,E a b->E b c->E a c) {i:Nat} {oi:Oper} {v:Value} (hi:ops[i]?=some oi) (qd:∀(j:Nat) (o:Oper) cs b,ops[j]?=some o->o.op ≠ .select cs b)
  (hQ:∀d v c a w,Q (.panic c) (a.put d v) w->Q (.panic c) a w) :
  ∀(bd:Nat) (listed:Array Bool) (a:Act) (w:World),jW md ops listed ->
   (∀j oj,ops[j]?=some oj->j≠i->listed.getD j true=false->(∀e∈oj.after,Region.binds md e=true->e.on≠i)->oi.apart ops oj=true) ->
   i∈Region.ready md ops listed->fJ P ops E oi v a w ->
   tH P md ops Q E bd (listed.setIfInBounds i true) (a.put oi.dst v) w->tH P md ops Q E (bd+1) listed a w:=by
 intro bd
 induction bd with
 | zero =>
  intro listed a w _ _ dl hy H;refine⟨λh=>(by rw[h]at dl;cases dl),λj hj x=>?_⟩;by_cases ew:j=i
  ·subst ew;exact(hy.later ht x.h).wpOp (hr _) hi (λw3 h3 => .inl ⟨h3,mD ht (ht _ _ _ x.h h3) H⟩)
  ·have:=ready_mono hj ew
   rw[H.1]at this;cases this
 | succ bd ih =>
  intro listed a w cu ki dl hy H;refine⟨λh=>(by rw[h]at dl;cases dl),λj hj x=>?_⟩;by_cases ew:j=i
  ·subst ew;exact(hy.later ht x.h).wpOp (hr _) hi (λw3 h3 => .inl ⟨h3,mD ht (ht _ _ _ x.h h3) H⟩)
  ·have h1:=H.2 j (ready_mono hj ew) x
   obtain⟨qe,oj,wj,ay⟩:=mem_ready.1 hj
   have qg:∀e∈oj.after,Region.binds md e=true->e.on≠i:=λe he hb heq=>by
    have h1:=ay e he hb;have h0:=(mem_ready.1 dl).1;rw[heq]at h1;rcases Nat.lt_or_ge i listed.size with h'|h'
    ·simp[h']at h0 h1;rw[h0]at h1;cases h1
    ·simp[Array.getElem?_eq_none h']at h1
   have h2:=tI0 wj (ki j oj wj ew qe qg) (λcs b=>qd i oi cs b hi) (λcs b=>qd j oj cs b wj) hQ hy h1
   have l7:∀k ok,ops[k]?=some ok->k≠i->(listed.setIfInBounds j true).getD k true=false ->
     (∀e∈ok.after,Region.binds md e=true->e.on≠i)->oi.apart ops ok=true:=λk ok hk cy hun iq=>by
    refine ki k ok hk cy ?_ iq;by_cases lw:j=k
    ·subst lw;exact qe
    ·rw[getD_set_ne true lw]at hun;exact hun
   refine wpOp_mono (λa' w' h3=>?_) h2;rcases h3.2 with h4|h4
   ·refine .inl ⟨h4.1,ih (listed.setIfInBounds j true) a' w' (dD cu hj) l7 (ready_mono dl (Ne.symm ew)) (h3.1.later ht (ht _ _ _ x.h h4.1)) ?_⟩
    rw[Array.setIfInBounds_comm _ _ ew];exact h4.2
   ·exact(qE cu dl hj ew h4.1).elim
def uB0 (md:Region.Mode) (ops:Array Oper) (g k:Nat):List (Nat×Bool)->Array Bool->Bool
 | [],listed=>Region.seqB md ops g k listed
 | (i,false)::rest,listed=>(Region.ready md ops listed).contains i&&Region.free md ops listed i&&uB0 md ops g k rest (listed.setIfInBounds i true)
 | (i,true)::rest,listed=>decide (Region.ready md ops listed=[i])&&uB0 md ops g k rest (listed.setIfInBounds i true)
theorem eX (hr:∀w,E w w) (ht:∀a b c,E a b->E b c->E a c) (hs:Region.noSelect ops=true)
  (hQ:∀d v c a w,Q (.panic c) (a.put d v) w->Q (.panic c) a w) {g k:Nat}
  (aw:∀listed a w,Region.seqB md ops g k listed=true->(∀x:Ext E w,fin a x.u)->tH P md ops Q E g listed a w) :
  ∀(l:List (Nat×Bool)) (listed:Array Bool) (a:Act) (w:World),jW md ops listed->uB0 md ops g k l listed=true->lL P ops E Q fin l a w->tH P md ops Q E (l.length+g) listed a w
 | [],listed,a,w,_,hB,h=>by rw[List.length_nil,Ak];exact aw listed a w hB h
 | (i,false)::rest,listed,a,w,cu,hB,h=>by
  simp only[uB0,Aa]at hB;obtain⟨⟨dl,hf⟩,qh⟩:=hB;have jk:i∈Region.ready md ops listed:=by simpa using dl
  unfold lL at h;rw[Ae,show rest.length+1+g=(rest.length+g)+1 by omega]
  split at h
  ·exact h.elim
  ·rename_i o ho
   split at h
   ·rename_i hw
    simp only[Ab,if_false]at h;obtain⟨v,hv,hk⟩:=h;exact sN hr ht ho (Region.noSelect_spec hs) hQ _ listed a w cu (Region.free_spec ho hf) jk (.inl ⟨hw,hv⟩) (eX hr ht hs hQ aw rest _ _ _ (dD cu jk) qh hk)
   ·rename_i hw
    exact sN hr ht ho (Region.noSelect_spec hs) hQ _ listed a w cu (Region.free_spec ho hf) jk (.inr ⟨by simpa using hw,rfl⟩) (eX hr ht hs hQ aw rest _ _ _ (dD cu jk) qh h)
 | (i,true)::rest,listed,a,w,cu,hB,h=>by
  simp only[uB0,Aa,decide_eq_true_eq]at hB;obtain⟨dl,qh⟩:=hB;rw[Ae,show rest.length+1+g=(rest.length+g)+1 by omega]
  refine⟨λh0=>(by rw[h0]at dl;cases dl),λj hj x=>?_⟩;have lx:=hj;rw[dl]at hj;have ew:j=i:=by simpa using hj
  subst ew;unfold lL at h;unfold wpOp;split at h
  ·exact h.elim
  ·rename_i o ho
   simp only[ho];split at h
   ·rename_i hw
    simp only[hw,if_true]at h ⊢;exact .inl (Oper.wp_mono (λa' w' h' => .inl ⟨h'.1,eX hr ht hs hQ aw rest _ _ _ (dD cu lx) qh h'.2⟩) (h x))
   ·rename_i hw
    simp only[hw] at ⊢;exact .inl ⟨hr _,mD ht x.h (eX hr ht hs hQ aw rest _ _ _ (dD cu lx) qh h)⟩
def oY (ops:Array Oper) (l:List (Nat×Bool)):Bool :=
 Region.noSelect ops&&decide (l.length=ops.size)&&uB0 .any ops 0 0 l (Ah ops.size false)
def iC (ops:Array Oper) (k:Nat) (l:List (Nat×Bool)):Bool :=
 Region.noSelect ops&&decide (l.length=k)&&decide (k<ops.size)&&vV0 .any ops k&&uB0 .any ops (ops.size-k) k l (Ah ops.size false)
theorem gO (md:Region.Mode) (ops:Array Oper):jW md ops (Ah ops.size false):=λj oj _ hl=>by rw[getD_replicate_false]at hl; cases hl
theorem fU (E:World->World->Prop) (l:List (Nat×Bool)) {id:Nat} {a:Act} {w:World} (hr:∀w,E w w) (ht:∀a b c,E a b->E b c->E a c)
  (hm:P.follows .mixedOrders=true) (hB:oY ops l=true)
  (hQ:∀d v c a w,Q (.panic c) (a.put d v) w->Q (.panic c) a w) (h:lL P ops E Q (Q .normal) l a w.drew):(Code.region id ops true).wp P Q a w:=by
 simp only[oY,Aa,decide_eq_true_eq]at hB;obtain⟨⟨hs,hl⟩,hB⟩:=hB
 have:=eX (md:=.any) (g:=0) (k:=0) hr ht hs hQ (λlisted a w hB h=>⟨by simpa [Region.seqB] using hB,h⟩) l _ a w.drew (gO _ _) hB h
 rw[Nat.add_zero,hl]at this;exact wp_region_any hm (rG hr _ _ _ _ this)
theorem fE (E:World->World->Prop) (k:Nat) (l:List (Nat×Bool)) {id:Nat} {L:List Oper} {a:Act} {w:World} (hr:∀w,E w w) (ht:∀a b c,E a b->E b c->E a c)
  (hm:P.follows .mixedOrders=true) (hB:iC L.toArray k l=true)
  (hQ:∀d v c a w,Q (.panic c) (a.put d v) w->Q (.panic c) a w) (h:lL P L.toArray E Q (wpList P L.toArray Q (L.drop k)) l a w.drew):(Code.region id L.toArray true).wp P Q a w:=by
 simp only[iC,Aa,decide_eq_true_eq]at hB;obtain⟨⟨⟨⟨hs,hl⟩,hk⟩,qi⟩,hB⟩:=hB;have s6:(L.drop k).length=L.toArray.size-k:=by simp
 have:=eX (P:=P) (Q:=Q) (md:=.any) (ops:=L.toArray) (fin:=wpList P L.toArray Q (L.drop k)) (g:=L.toArray.size-k) (k:=k) hr ht hs hQ (λlisted a w hB h=>by
  obtain⟨g,hg⟩:∃g,L.toArray.size-k=g+1:=⟨L.toArray.size-k-1,by omega⟩
  have dl:Region.ready .any L.toArray listed=[k]:=by
   rw[hg]at hB;simp only[Region.seqB,Aa,decide_eq_true_eq]at hB;exact hB.1
  have ay:=λx:Ext E w=>wpAny_of_seq (md:=.any) (Q':=Q) (L.drop k) k listed a x.u (λj=>by simp[List.getElem?_drop]) (by rw[s6];exact hB) (h x);rw[hg];refine⟨λh0=>(by rw[h0]at dl;cases dl),λj hj x=>?_⟩;have h1:=ay x;rw[s6,hg]at h1;have lw:j=k:=by rw[dl]at hj;simpa using hj
  subst lw;exact wpOp_mono (λa' w' h' => .inr ⟨qi,h'⟩) (h1.2 j hj)) l _ a w.drew (gO _ _) hB h
 rw[hl,show k+(L.toArray.size-k)=L.toArray.size by omega]at this
 exact wp_region_any hm (rG hr _ _ _ _ this)
theorem fT {i:Nat} {rest:List (Nat×Bool)} {a:Act} {w:World} {o:Oper} (ho:ops[i]?=some o)
  (h:∀K:Act->Prop,(∀a,lL P ops E Q fin rest a w->K a)->if Region.wanted o (yielded ops a.tmps) then aK P o a E w K else K (a.put o.dst undef)):lL P ops E Q fin ((i,false)::rest) a w:=by
 unfold lL;simp only[ho];exact h _ (λ_ h=>h)
theorem vX0 {i:Nat} {rest:List (Nat×Bool)} {a:Act} {w:World} {o:Oper} (ho:ops[i]?=some o)
  (h:∀K:Act->World->Prop,(∀a w,lL P ops E Q fin rest a w->K a w)->if Region.wanted o (yielded ops a.tmps) then ∀x:Ext E w,o.wp P a x.u (λa' w'=>E x.u w'/\K a' w') Q else K (a.put o.dst undef) w):lL P ops E Q fin ((i,true)::rest) a w:=by
 unfold lL;simp only[ho];exact h _ (λ_ _ h=>h)
theorem fP {i:Nat} {rest:List (Nat×Bool)} {a:Act} {w:World} {o:Oper} (ho:ops[i]?=some o) (hw:Region.wanted o (yielded ops a.tmps)=true)
  (h:∀K:Act->World->Prop,(∀a w,lL P ops E Q fin rest a w->K a w)->∀w2,E w w2->o.wp P a w2 (λa' w'=>E w2 w'/\K a' w') Q):lL P ops E Q fin ((i,true)::rest) a w :=
 vX0 ho λK hK=>by rw[if_pos hw];exact λx=>h K hK x.u x.h
theorem kN {a:Act} {w:World} (h:∀w2,E w w2->fin a w2):lL P ops E Q fin [] a w:=λx=>h x.u x.h
end
def aB (w w':World):Prop:=Below w.heap.size w w'
theorem aB.refl (w:World):aB w w:=Below.refl _ _
instance (w:World):Nonempty (Ext aB w):=⟨⟨w,aB.refl w⟩⟩
theorem aB.trans (a b c:World) (h:aB a b) (k:aB b c):aB a c:=Below.trans h (Below.mono k h.size)
theorem aB.cell {w w':World} (h:aB w w') {p:Addr} {v:Value} (hc:w.cell? p=some v):w'.cell? p=some v :=
 (Below.cell h (World.block_lt_of_cell? w _ hc)).trans hc
theorem aB.size {w w':World} (h:aB w w'):w.heap.size<=w'.heap.size:=Below.size h
theorem aB.alloc (w:World) (o:Obj):aB w (w.alloc o):=(Below.refl _ _).alloc (An _) _
theorem aB.drew (w:World):aB w w.drew:=(Below.refl _ _).drew
theorem aG {w:World} {p:Addr} {v:Value} (hc:w.cell? p=some v) (x:Ext aB w):x.u.cell? p=some v:=x.h.cell hc
theorem dS0 {P:Program} {f:FuncId} {args:Array Value} {w:World} {v:Value} (h:Calls P f args w λe w'=>e=.returned v/\Below w.heap.size w w') :
 Calls P f args w λe gl=>e=.returned v/\∃y:Ext aB w,gl=y.u:=h.mono λ_ w' ⟨he,hw⟩=>⟨he,⟨w',hw⟩,rfl⟩
theorem exq {α:Sort _} (a:α):∃x,x=a:=⟨_,rfl⟩
theorem aM (w:World) (cs:Array Value) (t:TypeId) (fr:Nat×Nat) (j:Nat) (v:Value) (h:cs[j]?=some v):(w.alloc (.cells cs t fr)).cell? ⟨w.heap.size,j,none⟩=some v:=by
 have hh:(w.alloc (.cells cs t fr)).heap[w.heap.size]?=some (.cells cs t fr):=by
  show (w.heap.push _)[w.heap.size]?=_
  simp
 unfold Ao;simp only[hh,Ai,Ab,if_false,h]
end
section
open Go Go.RowKit
theorem aB.tr {a b c:World} (h:aB a b) (k:aB b c):aB a c:=aB.trans _ _ _ h k
theorem aB.al {a b:World} (h:aB a b) (o:Obj):aB a (b.alloc o):=h.tr (aB.alloc _ _)
theorem aB.dr {a b:World} (h:aB a b):aB a b.drew:=h.tr (aB.drew _)
theorem aB.set {a b:World} (h:aB a b) {p:Addr} (hp:a.heap.size<=p.block) (v:Value):aB a (b.setCell p v):=Below.setCell h hp v
theorem aB.below {a b:World} (h:aB a b):Below a.heap.size a b:=h
theorem aB.froz {w w':World} (h:aB w w') {p:Addr} (hb:p.block<w.heap.size):w'.frozen? p=w.frozen? p:=Below.frozen h hb
def seq (x y:ByteArray):Bool:=x.toList==y.toList
theorem rL {x y:ByteArray}:seq x y=true↔x=y:=by
 unfold seq;rw[Ac,Ac,beq_iff_eq];constructor
 ·intro h
  have:=congrArg (λl=>(⟨l.toArray⟩:ByteArray)) h
  rwa [Ap,Ap]at this
 ·rintro rfl;rfl
theorem oM0 {x y:ByteArray}:seq x y=false↔x≠y:=by
 rw[Ne,<-rL (x:=x) (y:=y)];simp
def aF (w:World) (a:Option Addr) (k:Nat) (rows:List (List Value)):Prop :=
 rows≠[]->∃b off,a=some ⟨b,off,none⟩/\∀(i:Nat) (row:List Value),rows[i]?=some row->∀(j:Nat) (v:Value),row[j]?=some v->w.cell? ⟨b,off+i*k+j,none⟩=some v
theorem aF.grows {w w':World} {a:Option Addr} {k:Nat} {rows:List (List Value)} (h:aF w a k rows) (hg:aB w w'):aF w' a k rows:=λhn=>by
 obtain⟨b,off,ha,hc⟩:=h hn;exact⟨b,off,ha,λi row hi j v hj=>hg.cell (hc i row hi j v hj)⟩
theorem aF.nil (w:World) (a:Option Addr) (k:Nat):aF w a k []:=λh=>absurd rfl h
theorem aF.get {α:Type} {w:World} {a:Option Addr} {k:Nat} {xs:List α} {enc:α->List Value} (h:aF w a k (xs.map enc)) (hn:xs≠[]) :
  ∃b off,a=some ⟨b,off,none⟩/\∀(i:Nat) (x:α),xs[i]?=some x->∀(j:Nat) (v:Value),(enc x)[j]?=some v->w.cell? ⟨b,off+i*k+j,none⟩=some v:=by
 obtain⟨b,off,ha,hc⟩:=h (by simpa using hn);exact⟨b,off,ha,λi x hi j v hj=>hc i (enc x) (by simp[hi]) j v hj⟩
theorem aH {α:Type} {xs:List α} {k:Nat} (h:k<xs.length):xs≠[]:=by rintro rfl; simp at h
theorem rY0 {k:IntKind} {a b:Int} (h:a=b):Ending.returned (.int k a)=.returned (.int k b):=by rw[h]
theorem cT {a b:Bool} (h:a=b):Ending.returned (.bool a)=.returned (.bool b):=by rw[h]
structure bD where
 name:ByteArray
 kind:Int
def bH (p:bD):List Value:=[.string p.name,.int .i64 p.kind]
def fO (name:ByteArray):List bD->Nat->Option Nat
 | [],_=>none
 | p::l,i=>if seq p.name name then some i else fO name l (i+1)
def posFind (l:List bD) (name:ByteArray):Option Nat:=fO name l 0
theorem oP (name:ByteArray):∀(l:List bD) (i k:Nat),(∀j p,j<k->l[j]?=some p->seq p.name name=false)->fO name l i=fO name (l.drop k) (i+k)
 | [],i,k,_=>by simp[fO]
 | p::l,i,0,_=>by simp
 | p::l,i,k+1,h=>by
  have h0:seq p.name name=false:=h 0 p (by omega) rfl;rw[fO,h0,List.drop_succ_cons];simp only[Ab,if_false];rw[oP name l (i+1) k λj q hj hq=>h (j+1) q (by omega) (by simpa using hq)];congr 1;omega
theorem hQ0 {l:List bD} {name:ByteArray} {k:Nat} {p:bD} (hk:l[k]?=some p) (h:∀j q,j<k->l[j]?=some q->seq q.name name=false) (hp:seq p.name name=true):posFind l name=some k:=by
 have ae:k<l.length:=(List.getElem?_eq_some_iff.1 hk).1;have hp':l[k]=p:=(List.getElem?_eq_some_iff.1 hk).2;rw[posFind,oP name l 0 k h,List.drop_eq_getElem_cons ae,fO,hp',hp];simp
theorem fI0 {l:List bD} {name:ByteArray} (h:∀j q,j<l.length->l[j]?=some q->seq q.name name=false):posFind l name=none:=by
 rw[posFind,oP name l 0 _ h];simp[fO]
theorem sD {name:ByteArray}:∀ {l:List bD} {i k:Nat},fO name l i=some k->i<=k/\k<i+l.length
 | [],i,k,h=>by simp[fO]at h
 | p::l,i,k,h=>by
  rw[fO]at h;split at h
  ·obtain rfl:=Option.some.inj h;simp
  ·have:=sD h;simp;omega
theorem cZ {w w':World} {base:Nat} {e:TypeId} {size:Nat} {v:Value} {n:Nat} {xs:List Value} (h:w.ownsRow base e size v n xs) (hg:aB w w'):w'.ownsRow base e size v n xs:=by
 obtain⟨h1,h2⟩:=h;refine⟨h1,?_⟩;rcases h2 with h2|⟨g,cap,bv,hv,hb,hh,r⟩
 ·exact Or.inl h2
 ·exact Or.inr ⟨g,cap,bv,hv,hb,by rw[hg.block g (Array.getElem?_eq_some_iff.1 hh).1];exact hh,r⟩
theorem mH {w:World} {base base':Nat} {e:TypeId} {size:Nat} {v:Value} {n:Nat} {xs:List Value} (h:w.ownsRow base e size v n xs) (hb:base'<=base):w.ownsRow base' e size v n xs:=by
 obtain⟨h1,h2⟩:=h;refine⟨h1,?_⟩;rcases h2 with h2|⟨g,cap,bv,hv,hg,r⟩
 ·exact Or.inl h2
 ·exact Or.inr ⟨g,cap,bv,hv,Af hb hg,r⟩
theorem bE {w:World} {base:Nat} {e:TypeId} {size:Nat} {v:Value} {n:Nat} {xs:List Value} (h:w.ownsRow base e size v n xs):∀k,v.ownBlock=some k->base<=k:=by
 intro k hk;rcases h.2 with ⟨rfl,_⟩|⟨g,cap,bv,rfl,hb,_⟩
 ·cases hk
 ·have:g=k:=Option.some.inj hk
  omega
theorem aB.grown {a w w':World} {row:Option Nat} (h:aB a w) (hg:w.grownBy w' row) (hr:∀k,row=some k->a.heap.size<=k):aB a w':=Below.grown h hg h.size hr
theorem iM (w:World) (base:Nat) (e:TypeId) (size:Nat):w.ownsRow base e size (.slice none 0 0) 0 []:=Al _ _ _ _
theorem pX {α:Type} {enc:α->List Value} {k:Nat} (hk:∀x,(enc x).length=k):∀(xs:List α) (i j:Nat) (x:α) (v:Value),xs[i]?=some x->(enc x)[j]?=some v->(xs.flatMap enc)[i*k+j]?=some v
 | [],i,j,x,v,h,_=>by simp at h
 | y::r,0,j,x,v,h,hj=>by
  obtain rfl:y=x:=by simpa using h
  have ae:j<(enc y).length:=(List.getElem?_eq_some_iff.1 hj).1;rw[Ad,Nat.zero_mul,Ak,List.getElem?_append_left ae];exact hj
 | y::r,i+1,j,x,v,h,hj=>by
  rw[Ad,List.getElem?_append_right (by rw[hk,Am];omega),hk,show (i+1)*k+j-k=i*k+j by rw[Am];omega]
  exact pX hk r i j x v (by simpa using h) hj
theorem fI {α:Type} {enc:α->List Value} {k:Nat} (hk:∀x,(enc x).length=k):∀(xs:List α),(xs.flatMap enc).length=xs.length*k
 | []=>by simp
 | y::r=>by rw[Ad,Aj,hk,fI hk r,Ae,Am];omega
theorem qZ {α:Type} {enc:α->List Value} {k:Nat} (hk:∀x,(enc x).length=k) {w:World} {base:Nat} {e:TypeId} {v:Value} {xs:List α} (h:w.ownsRow base e k v xs.length (xs.flatMap enc)) :
  ∃a cap,v=.slice a xs.length cap/\xs.length<=cap/\cap<=maxLen/\aF w a k (xs.map enc):=by
 rcases h.2 with ⟨rfl,h0⟩|⟨g,cap,bv,rfl,hb,hh,hn,hc,hs,ht⟩
 ·have:xs=[]:=List.length_eq_zero_iff.1 h0
  subst this;exact⟨none,0,rfl,An _,Nat.zero_le _,aF.nil _ _ _⟩
 ·refine⟨_,cap,rfl,hn,hc,λ_=>⟨g,0,rfl,λi row hi j u hj=>?_⟩⟩
  rw[List.getElem?_map]at hi
  cases hx:xs[i]? with
  | none=>rw[hx]at hi;cases hi
  | some x =>
   rw[hx]at hi;obtain rfl:=Option.some.inj hi;have hf:=pX hk xs i j x u hx hj;rw[<-ht,List.getElem?_take]at hf;split at hf
   ·unfold Ao
    simp only[hh,Ai,Ab,if_false];rw[Ak];simpa using hf
   ·cases hf
def bos:ByteArray:=⟨#[66,79,83]⟩
structure fZ {α:Type} (P:Program) (t e:TypeId) (k bytes:Nat) (enc:α->List Value):Prop where
 sl:P.underlying t=some (.slice e)
 info:∃i z,P.info? e=some i/\i.zero=some z/\i.size=k/\i.bytes=bytes/\z.cells.size=k
 pos:0<k
 by1:1<=bytes
 len:∀x,(enc x).length=k
 one:∀x u,u∈enc x->u.oneCell'=true
theorem iL {P:Program} {e:TypeId} {z:Value} {k bytes:Nat} (h:(P.info? e).map (λi=>(i.zero,i.size,i.bytes))=some (some z,k,bytes)) (hz:z.cells.size=k) :
  ∃i z,P.info? e=some i/\i.zero=some z/\i.size=k/\i.bytes=bytes/\z.cells.size=k:=by
 cases hi:P.info? e with
 | none=>rw[hi]at h;cases h
 | some i =>
  rw[hi]at h;simp only[Option.map_some,Option.some.injEq,Prod.mk.injEq]at h;exact⟨i,z,rfl,h.1,h.2.1,h.2.2,hz⟩
def aU {α:Type} (w:World) (base:Nat) (e:TypeId) (k:Nat) (enc:α->List Value) (v:Value) (xs:List α):Prop:=w.ownsRow base e k v xs.length (xs.flatMap enc)
theorem aU.nil {α:Type} (w:World) (base:Nat) (e:TypeId) (k:Nat) (enc:α->List Value):aU w base e k enc (.slice none 0 0) []:=Al _ _ _ _
theorem aU.grows {α:Type} {w w':World} {base:Nat} {e:TypeId} {k:Nat} {enc:α->List Value} {v:Value} {xs:List α} (h:aU w base e k enc v xs) (hg:aB w w'):aU w' base e k enc v xs:=cZ h hg
theorem aU.base {α:Type} {w:World} {base base':Nat} {e:TypeId} {k:Nat} {enc:α->List Value} {v:Value} {xs:List α} (h:aU w base e k enc v xs) (hb:base'<=base):aU w base' e k enc v xs:=mH h hb
theorem aU.at_ {α:Type} {enc:α->List Value} {k:Nat} (hk:∀x,(enc x).length=k) {w:World} {base:Nat} {e:TypeId} {v:Value} {xs:List α} (h:aU w base e k enc v xs) :
 ∃a cap,v=.slice a xs.length cap/\xs.length<=cap/\cap<=maxLen/\aF w a k (xs.map enc):=qZ hk h
theorem dQ {w:World} {cs:Array Value} {t:TypeId} {n:Nat} (hn:n=w.heap.size) (j:Nat) (u:Value) (hj:cs.toList[j]?=some u):(w.alloc (.cells cs t)).cell? ((⟨n,0,none⟩:Addr).add j)=some u:=by
 subst hn;have h:=aM w cs t (0,0) j u (by simpa using hj);unfold As;by_cases h0:j=0
 ·subst h0;simpa using h
 ·simp[h0,h]
theorem cR0 {n j:Nat}:(⟨n,0,none⟩:Addr).add j=⟨n,j,none⟩:=by
 unfold As;by_cases h0:j=0
 ·subst h0;simp
 ·simp[h0]
theorem cT1 {α:Type} {P:Program} {t e:TypeId} {k bytes:Nat} {enc:α->List Value} (L:fZ P t e k bytes enc) {ops:Array Oper} {rest:List Oper} {o:Oper} {a:Act} {Q:Exit->Act->World->Prop} {w W:World}
  (gi:o.guard=none) (s x:Operand) (ja:o.op=.call { callee:=.builtin .append,args:=#[s,x],argTypes:=#[t,t] })
  (base:Nat) (v:Value) (xs:List α) (y:α) (hs:a.eval s=v) (aa:aU w base e k enc v xs) (dw:aB w W) (n c:Nat) (hc:∀(j:Nat) (u:Value),(enc y)[j]?=some u->W.cell? ⟨n,j,none⟩=some u)
  (hx:a.eval x=.slice (some ⟨n,0,none⟩) 1 c) (an:(xs.length+1)*bytes<=140737488355328) (bi:base<=w.heap.size)
  (h:∀v' w',aU w' base e k enc v' (xs++[y])->(∀a0,aB a0 w->a0.heap.size<=base->aB a0 w')->wpList P ops Q rest (a.put o.dst v') w') :
  wpList P ops Q (o::rest) a W:=by
 obtain⟨i,z,hi,hz,cv,kj,ly⟩:=L.info;have lz:xs.length+1<=140737488355328:=Af (Nat.le_mul_of_pos_right _ L.by1) an
 refine wpList_append_own _ gi s x t ja base e i z k bytes L.sl hi hz cv kj ly L.pos v xs.length (xs.flatMap enc) hs (cZ aa dw) ⟨n,0,none⟩ 1 c (enc y) hx (by rw[L.len,Nat.one_mul])
  (λj u hu=>by rw[cR0];exact hc j u hu) (L.one y) (by unfold maxLen;omega) an (Af bi dw.size) ?_
 intro v' w' h1 h2 _;refine h v' w' ?_ (λa0 h0 hb=>(h0.tr dw).grown h2 (λq hq=>Af hb (bE aa q hq)));unfold aU;rw[Aj,List.length_singleton,List.flatMap_append];simpa using h1
theorem tG0 {α:Type} {P:Program} {t e:TypeId} {k bytes:Nat} {enc:α->List Value} (L:fZ P t e k bytes enc) {ops:Array Oper} {rest:List Oper} {o:Oper} {a:Act} {Q:Exit->Act->World->Prop} {w W:World}
  (gi:o.guard=none) (s x:Operand) (ja:o.op=.call { callee:=.builtin .append,args:=#[s,x],argTypes:=#[t,t] })
  (base:Nat) (v:Value) (xs:List α) (y:α) (hs:a.eval s=v) (aa:aU w base e k enc v xs) (dw:aB w W) (n c:Nat) (hn:n=W.heap.size) (cs:Array Value) (cn:cs.toList=enc y)
  (hx:a.eval x=.slice (some ⟨n,0,none⟩) 1 c) (an:(xs.length+1)*bytes<=140737488355328) (bi:base<=w.heap.size)
  (h:∀v' w',aU w' base e k enc v' (xs++[y])->(∀a0,aB a0 w->a0.heap.size<=base->aB a0 w')->wpList P ops Q rest (a.put o.dst v') w') :
  wpList P ops Q (o::rest) a (W.alloc (.cells cs e)) :=
 cT1 L gi s x ja base v xs y hs aa (dw.al _) n c (λj u hu=>by
  have:=dQ (w:=W) (cs:=cs) (t:=e) hn j u (by rw[cn];exact hu)
  rw[cR0]at this;exact this) hx an bi h
theorem oR0 {w w':World} {cs:Array Value} {t:TypeId} (hg:aB (w.alloc (.cells cs t)) w') {l:List Value} (hl:cs.toList=l):∀(j:Nat) (u:Value),l[j]?=some u->w'.cell? ⟨w.heap.size,j,none⟩=some u:=λj u hu =>
 hg.cell (aM w cs t _ j u (by rw[<-hl]at hu;simpa using hu))
end
section
open Go Go.RowKit
structure yQ0 (P:Program) (ops:Array Oper) (E:World->World->Prop) (Q:Exit->Act->World->Prop) (fin:Act->World->Prop) (l:List (Nat×Bool)) (a:Act) (w:World):Prop where
 out:lL P ops E Q fin l a w
section
variable {P:Program} {ops:Array Oper} {Q:Exit->Act->World->Prop} {E:World->World->Prop} {fin:Act->World->Prop}
theorem bZ0 (E:World->World->Prop) (l:List (Nat×Bool)) {id:Nat} {a:Act} {w:World} (hr:∀w,E w w) (ht:∀a b c,E a b->E b c->E a c)
 (hm:P.follows .mixedOrders=true) (hB:oY ops l=true)
 (hQ:∀d v c a w,Q (.panic c) (a.put d v) w->Q (.panic c) a w) (h:yQ0 P ops E Q (Q .normal) l a w.drew):(Code.region id ops true).wp P Q a w:=fU E l hr ht hm hB hQ h.out
theorem mI {i:Nat} {rest:List (Nat×Bool)} {a:Act} {w:World} {o:Oper} (ho:ops[i]?=some o)
  (h:∀K:Act->Prop,(∀a,yQ0 P ops E Q fin rest a w->K a)->if Region.wanted o (yielded ops a.tmps) then aK P o a E w K else K (a.put o.dst undef)):yQ0 P ops E Q fin ((i,false)::rest) a w :=
 ⟨fT ho λK hK=>h K λa ha=>hK a ha.out⟩
theorem kZ {i:Nat} {rest:List (Nat×Bool)} {a:Act} {w:World} {o:Oper} (ho:ops[i]?=some o) (hw:Region.wanted o (yielded ops a.tmps)=true)
  (h:∀K:Act->World->Prop,(∀a w,yQ0 P ops E Q fin rest a w->K a w)->∀w2,E w w2->o.wp P a w2 (λa' w'=>E w2 w'/\K a' w') Q):yQ0 P ops E Q fin ((i,true)::rest) a w :=
 ⟨fP ho hw λK hK=>h K λa w ha=>hK a w ha.out⟩
theorem wU0 {a:Act} {w:World} (h:∀w2,E w w2->fin a w2):yQ0 P ops E Q fin [] a w:=⟨kN h⟩
end
theorem cP1 {P:Program} {Q:Exit->Act->World->Prop} (E:World->World->Prop) (k:Nat) (l:List (Nat×Bool)) {id:Nat} {L:List Oper} {a:Act} {w:World} (hr:∀w,E w w) (ht:∀a b c,E a b->E b c->E a c)
 (hm:P.follows .mixedOrders=true) (hB:iC L.toArray k l=true)
 (hQ:∀d v c a w,Q (.panic c) (a.put d v) w->Q (.panic c) a w) (h:yQ0 P L.toArray E Q (wpList P L.toArray Q (L.drop k)) l a w.drew):(Code.region id L.toArray true).wp P Q a w:=fE E k l hr ht hm hB hQ h.out
end
section
open Go Go.RowKit
def cF (s:ByteArray):Bool:=s.data.toList.isEmpty||(s.data.toList.head?==some 35)
theorem kR {s:ByteArray} (h:¬s.toList=[]):0<s.size:=by
 rw[Ac]at h;rw[Aq];exact List.length_pos_iff.2 h
theorem kE0 {s:ByteArray} (h:0<s.size):s.data.toList.head?=some s[0]:=by
 rw[List.head?_eq_getElem?,Array.getElem?_toList];exact Array.getElem?_eq_getElem (by exact h)
theorem rI {s:ByteArray} (h:s.toList=[]):cF s=true:=by
 rw[Ac]at h;unfold cF;rw[h];rfl
theorem vM {s:ByteArray} (h:0<s.size) (jb:(s[0].toNat:Int)=35):cF s=true:=by
 unfold cF;rw[kE0 h]
 have:s[0]=35:=by rw[<-UInt8.toNat_inj];simp;omega
 rw[this];simp
theorem cI0 {s:ByteArray} (h:0<s.size) (jb:¬(s[0].toNat:Int)=35):cF s=false:=by
 unfold cF
 have ai:s.data.toList.isEmpty=false:=by
  rw[Aq]at h
  cases hh:s.data.toList with
  | nil=>rw[hh]at h;simp at h
  | cons _ _=>rfl
 rw[kE0 h,ai]
 have:¬s[0]=35:=by intro e;rw[e]at jb;exact jb rfl
 simp[this]
end
end Go.Proofs.YthgklnohcmaopaaGreatDoor
