/- The texts Bytes App2 App3 mL0 PutU RefU Bx W10 W09 W13 OrdF, one behind the other. -/
import Derived.Test.YthgklnohcmaopaaGreatDoorTq1
import Derived.Test.YthgklnohcmaopaaGreatDoorTq19
import Derived.Test.YthgklnohcmaopaaGreatDoorProg
import Derived.Lib.AppendStr
import Derived.Lib.BufferRead
import Derived.Lib.SlBytesRow
import Derived.Laws.AppendOwnNone
import Derived.ArgAppend
import Derived.Lib.SliceRun
import Derived.Test.YthgklnohcmaopaaGreatDoorTq4
import Derived.Laws.BitsAllLaws
open UInt8 renaming ofNat → Aa,toNat_ofNat' → Ac
open List renaming length_append → Ab,eq_nil_of_length_eq_zero → Ah,flatMap_append → Ai,append_assoc → Aj,length_cons → Ak,map_eq_nil_iff → Am,flatMap_cons → An,getElem?_map → Ao,append_nil → Ar,nil_append → As
open Nat renaming le_trans → Ad,le_refl → Ag,mul_comm → Ap,mod_eq_of_lt → Aq,zero_add → Au,lt_or_ge → Av,add_zero → Aw,mod_lt → Ay
open Bool renaming and_eq_true → Ae,false_eq_true → Af
open Go.Lib renaming run_eql_slice_nil → Al,hid → At,size_eq → Ax
open Go.Addr renaming add → Az
set_option maxHeartbeats 2000000
namespace Go.Proofs.YthgklnohcmaopaaGreatDoor
set_option maxRecDepth 100000
section
open Go Go.RowKit
def aV (b:UInt8):List Value:=[.int .u8 b.toNat]
theorem bF:fZ Tryz.prog 28 5 1 1 aV where
 sl:=Tryz.underlying28
 info:=iL (z:=.int .u8 0) (by kernel_rfl) rfl
 pos:=by decide
 by1:=by decide
 len _:=rfl
 one x u hu:=by
  simp[aV]at hu;subst hu;rfl
theorem uM0:∃i,Tryz.prog.info? 5=some i/\i.zero=some (.int .u8 0)/\i.size=1/\i.bytes=1:=by
 have h:(Tryz.prog.info? 5).map (λi=>(i.zero,i.size,i.bytes))=some (some (.int .u8 0),1,1):=by kernel_rfl
 cases hi:Tryz.prog.info? 5 with
 | none=>rw[hi]at h;cases h
 | some i =>
  rw[hi]at h;simp only[Option.map_some,Option.some.injEq,Prod.mk.injEq]at h;exact⟨i,rfl,h.1,h.2.1,h.2.2⟩
theorem nL (l:List UInt8):l.flatMap aV=l.map λb=>Value.int .u8 b.toNat:=by
 induction l with
 | nil=>rfl
 | cons b l ih=>rw[An,ih];rfl
theorem cB0 (s:ByteArray):Lib.strCells s=s.data.toList.flatMap aV:=by rw[nL]; rfl
theorem aU.other {α:Type} {w w':World} {base:Nat} {e e':TypeId} {k:Nat} {enc:α->List Value} {v v2:Value} {xs:List α} {n2 k2 b2:Nat} {ys:List Value} (h:aU w base e k enc v xs) (h2:w.ownsRow b2 e' k2 v2 n2 ys) (ai:e≠e') (hg:w.grownBy w' v2.ownBlock):aU w' base e k enc v xs:=by
 obtain⟨h1,h3⟩:=h;refine⟨h1,?_⟩;rcases h3 with h3|⟨g,cap,bv,rfl,hb,hh,r⟩
 ·exact Or.inl h3
 ·refine Or.inr ⟨g,cap,bv,rfl,hb,?_,r⟩
  rw[hg.block g (Array.getElem?_eq_some_iff.1 hh).1 ?_]
  ·exact hh
  ·rcases h2.2 with ⟨rfl,_⟩|⟨g',acb,ahl,rfl,_,hh',_⟩
   ·simp[Value.ownBlock]
   ·intro he
    have:g=g':=by simpa [Value.ownBlock] using he
    subst this;rw[hh]at hh';injection hh' with hh'
    injection hh' with _ ht
    exact ai ht
theorem zF0 {ops:Array Oper} {rest:List Oper} {o:Oper} {a:Act} {Q:Exit->Act->World->Prop} {w W:World}
  (gi:o.guard=none) (s x:Operand) (ja:o.op=.call { callee:=.builtin .append,args:=#[s,x],argTypes:=#[28,9] })
  (base:Nat) (v:Value) (xs:List UInt8) (y:ByteArray) (hs:a.eval s=v) (aa:aU w base 5 1 aV v xs) (dw:aB w W)
  (hx:a.eval x=.string y) (an:xs.length+y.size<=140737488355328) (bi:base<=w.heap.size)
  (h:∀v' w',aU w' base 5 1 aV v' (xs++y.data.toList)->(∀a0,aB a0 w->a0.heap.size<=base->aB a0 w')->(∀ {α:Type} {b2 k2:Nat} {e2:TypeId} {aci:α->List Value} {v2:Value} {ys:List α},e2≠5->aU w b2 e2 k2 aci v2 ys->aU w' b2 e2 k2 aci v2 ys)->wpList Tryz.prog ops Q rest (a.put o.dst v') w') :
  wpList Tryz.prog ops Q (o::rest) a W:=by
 obtain⟨i,hi,hz,cv,kj⟩:=uM0;have ag:=cZ aa dw;refine Lib.wpList_append_own_string W gi s x 28 9 ja base 5 i Tryz.underlying28 Tryz.underlying9 hi hz cv kj v xs.length (xs.flatMap aV) hs ag y hx (by unfold maxLen;omega) an (Ad bi dw.size) ?_;intro v' w' h1 h2 _;refine h v' w' ?_ (λa0 h0 hb=>(h0.tr dw).grown h2 (λq hq=>Ad hb (bE aa q hq))) (λai ho=>(ho.grows dw).other ag ai h2);unfold aU;rw[Ab,<-Ax,Ai,<-cB0];exact h1
theorem conv_owns {w:World} {base:Nat} {v:Value} {l:List UInt8} (h:aU w base 5 1 aV v l):(convert 28 9 v).run Tryz.prog w=.ok (.string (mkB l)) w:=by
 rcases h.2 with ⟨rfl,h0⟩|⟨g,cap,bv,rfl,hb,hh,hn,hc,hs,ht⟩
 ·obtain rfl:l=[]:=Ah h0
  exact Lib.run_convert_nil_bytes w _ _ 5 0 Tryz.underlying28 Tryz.underlying5 Tryz.underlying9
 ·have hz:(mkB l).size=l.length:=by rw[Ax,bQ]
  have hB:Lib.Bytes w g 0 (mkB l):=λi hi=>by
   rw[hz]at hi;have hf:=pX (enc:=aV) (k:=1) (λ_=>rfl) l i 0 l[i] (.int .u8 l[i].toNat) (List.getElem?_eq_getElem hi) rfl;rw[<-ht,List.getElem?_take]at hf;split at hf
   ·unfold World.cell?
    simp only[hh,Option.isSome_none,Af,if_false];rw[Au];have hg:(mkB l)[i]'(by rw[hz];exact hi)=l[i]:=rfl;rw[hg];simpa using hf
   ·cases hf
  have:=Lib.run_convert_whole (P:=Tryz.prog) w 28 5 9 Tryz.underlying28 Tryz.underlying5 Tryz.underlying9 g 0 (mkB l) hB cap
  rw[hz]at this;exact this
theorem nK {α:Type} {enc:α->List Value} {k:Nat} (hk:∀x,(enc x).length=k):∀(ys:List α) (j:Nat) (u:Value),(ys.flatMap enc)[j]?=some u->∃i jj y,j=i*k+jj/\ys[i]?=some y/\(enc y)[jj]?=some u
 | [],j,u,h=>by simp at h
 | y::r,j,u,h=>by
  rw[An]at h;rcases Av j (enc y).length with ae|jn
  ·rw[List.getElem?_append_left ae]at h
   exact⟨0,j,y,by omega,rfl,h⟩
  ·rw[List.getElem?_append_right jn]at h
   obtain⟨i,jj,z,h1,h2,h3⟩:=nK hk r _ u h;refine⟨i+1,jj,z,?_,by simpa using h2,h3⟩;rw[hk]at jn h1;rw[Nat.succ_mul];omega
theorem qM {α:Type} {P:Program} {t e:TypeId} {k bytes:Nat} {enc:α->List Value} (L:fZ P t e k bytes enc) {ops:Array Oper} {rest:List Oper} {o:Oper} {a:Act} {Q:Exit->Act->World->Prop} {w W:World}
  (gi:o.guard=none) (s x:Operand) (ja:o.op=.call { callee:=.builtin .append,args:=#[s,x],argTypes:=#[t,t] })
  (base:Nat) (v:Value) (xs ys:List α) (hs:a.eval s=v) (aa:aU w base e k enc v xs) (dw:aB w W) (sa:Option Addr) (sc:Nat)
  (hx:a.eval x=.slice sa ys.length sc) (gd:aF W sa k (ys.map enc)) (fp:sa=none->sc=0) (an:(xs.length+ys.length)*bytes<=140737488355328) (bi:base<=w.heap.size)
  (h:∀v' w',aU w' base e k enc v' (xs++ys)->(∀a0,aB a0 w->a0.heap.size<=base->aB a0 w')->wpList P ops Q rest (a.put o.dst v') w') :
  wpList P ops Q (o::rest) a W:=by
 obtain⟨i,z,hi,hz,cv,kj,ly⟩:=L.info;have lz:xs.length+ys.length<=140737488355328:=Ad (Nat.le_mul_of_pos_right _ L.by1) an;have ag:=cZ aa dw
 cases sa with
 | none =>
  obtain rfl:=fp rfl
  have hy:ys=[]:=Decidable.byContradiction λai=>by
   have aap:ys.map enc≠[]:=by simpa using ai
   obtain⟨b,off,ha,_⟩:=gd aap;cases ha
  subst hy;refine wpList_append_own_none gi s x t ja base e i k L.sl hi v xs.length (xs.flatMap enc) hs ag hx ?_;refine h v W ?_ (λa0 h0 _=>h0.tr dw);rw[Ar];exact ag
 | some ad =>
  refine wpList_append_own _ gi s x t ja base e i z k bytes L.sl hi hz cv kj ly L.pos v xs.length (xs.flatMap enc) hs ag ad ys.length sc (ys.flatMap enc) hx (fI L.len ys)
   (λj u hu=>?_) (λu hu=>by obtain⟨y,_,hy⟩:=List.mem_flatMap.1 hu;exact L.one y u hy) (by unfold maxLen;omega) an (Ad bi dw.size) ?_
  ·obtain⟨i',jj,y,h1,h2,h3⟩:=nK L.len ys j u hu
   have ai:ys.map enc≠[]:=by rintro e;rw[Am]at e;subst e;simp at h2
   obtain⟨b,off,ha,hc⟩:=gd ai;obtain rfl:=Option.some.inj ha;have bz:=hc i' (enc y) (by rw[Ao,h2];rfl) jj u h3;unfold Az;by_cases h0:j=0
   ·subst h0
    have ka:i'*k=0/\jj=0:=by omega
    rw[if_pos rfl];rw[ka.1,ka.2]at bz;simpa using bz
   ·rw[if_neg h0]
    subst h1;rw[<-Nat.add_assoc];exact bz
  ·intro v' w' h1 h2 _
   refine h v' w' ?_ (λa0 h0 hb=>(h0.tr dw).grown h2 (λq hq=>Ad hb (bE aa q hq)));unfold aU;rw[Ab,Ai];exact h1
theorem jZ0 {α:Type} {enc:α->List Value} {k:Nat} {w:World} {e:TypeId} (base:Nat) (hb:base<=w.heap.size):aU (w.alloc (.cells #[] e)) base e k enc (.slice (some ⟨w.heap.size,0,none⟩) 0 0) []:=by
 refine⟨by simp,Or.inr ⟨w.heap.size,0,#[],rfl,hb,?_,Ag _,Nat.zero_le _,by simp,by simp⟩⟩;show (w.heap.push _)[w.heap.size]?=_
 simp
def EB (B:Nat) (w w':World):Prop:=Below B w w'/\w.heap.size<=w'.heap.size
theorem EB.refl (B:Nat) (w:World):EB B w w:=⟨Below.refl _ _,Ag _⟩
theorem EB.trans (B:Nat) (a b c:World) (h:EB B a b) (k:EB B b c):EB B a c:=⟨Below.trans h.1 k.1,Ad h.2 k.2⟩
instance (B:Nat) (w:World):Nonempty (Ext (EB B) w):=⟨⟨w,EB.refl B w⟩⟩
theorem EB.of {B:Nat} {w w':World} (h:aB w w') (hB:B<=w.heap.size):EB B w w':=⟨Below.mono h hB,h.size⟩
theorem EB.grows {a w w':World} (h:aB a w) (k:EB a.heap.size w w'):aB a w':=Below.trans h k.1
end
section
open Go Go.RowKit
section
variable {P:Program} {ops:Array Oper} {Q:Exit->Act->World->Prop} {md:Region.Mode} {E:World->World->Prop} {fin:Act->World->Prop}
def aP (P:Program) (o:Oper) (a:Act) (E:World->World->Prop) (w:World) (next:Act->Prop):Prop :=
 ∃v,(∀w2,(∃x:Ext E w,w2=x.u)->o.quietAt P a (λw3=>w3=w2) w2 v)/\next (a.put o.dst v)
def fR (P:Program) (ops:Array Oper) (E:World->World->Prop) (Q:Exit->Act->World->Prop) (fin:Act->World->Prop):List (Nat×Bool)->Act->World->Prop
 | [],a,w=>fin a w
 | (i,late)::rest,a,w=>match ops[i]? with
  | none=>False
  | some o=>if Region.wanted o (yielded ops a.tmps) then
    (if late then o.wp P a w (λa' w'=>E w w'/\fR P ops E Q fin rest a' w') Q else aP P o a E w (λa'=>fR P ops E Q fin rest a' w))
   else fR P ops E Q fin rest (a.put o.dst undef) w
def rV (P:Program) (md:Region.Mode) (ops:Array Oper) (Q:Exit->Act->World->Prop) (E:World->World->Prop):Nat->Array Bool->Act->World->Prop
 | 0,listed,a,w=>Region.ready md ops listed=[]/\Q .normal a w
 | bd+1,listed,a,w =>
  (Region.ready md ops listed=[]->Q .normal a w) /\
  ∀i∈Region.ready md ops listed,wpOp P ops Q i (λa' w'=>(E w w'/\rV P md ops Q E bd (listed.setIfInBounds i true) a' w')\/(vV0 md ops i=true/\wpAny P md ops Q bd (listed.setIfInBounds i true) a' w')) a w
theorem kU:∀(bd:Nat) (listed:Array Bool) (a:Act) (w:World),rV P md ops Q E bd listed a w->wpAny P md ops Q bd listed a w
 | 0,_,_,_,h=>⟨h.1,h.2⟩
 | bd+1,_,_,_,h=>⟨λh0=>h.1 h0,λi hi=>wpOp_mono (λa' w' h'=>h'.elim (λh'=>kU bd _ a' w' h'.2) (λh'=>h'.2)) (h.2 i hi)⟩
def dT (P:Program) (ops:Array Oper) (E:World->World->Prop) (o:Oper) (v:Value) (a:Act) (w:World):Prop :=
 (Region.wanted o (yielded ops a.tmps)=true/\∀w2,(∃x:Ext E w,w2=x.u)->o.quietAt P a (λw3=>w3=w2) w2 v) \/
 (Region.wanted o (yielded ops a.tmps)=false/\v=undef)
theorem dT.later (ht:∀a b c,E a b->E b c->E a c) {o:Oper} {v:Value} {a:Act} {w w':World} (hw:E w w') (h:dT P ops E o v a w):dT P ops E o v a w' :=
 h.imp (λ⟨h1,h2⟩=>⟨h1,λw2 ⟨x,hx⟩=>h2 w2 ⟨⟨x.u,ht _ _ _ hw x.h⟩,hx⟩⟩) id
theorem dT.of_same {o:Oper} {v:Value} {a a':Act} {w:World} (hy:dT P ops E o v a w) (he:execOp a'.eval o=execOp a.eval o)
  (hw:Region.wanted o (yielded ops a'.tmps)=Region.wanted o (yielded ops a.tmps)):dT P ops E o v a' w:=by
 unfold dT Oper.quietAt at *;rw[he,hw];exact hy
theorem yA {o:Oper} {v:Value} {a:Act} {w:World} {K:Act->World->Prop} (h:o.quietAt P a (λw3=>w3=w) w v) (hk:K (a.put o.dst v) w):o.wp P a w K Q:=by
 unfold Oper.quietAt at h;unfold Oper.wp;generalize (execOp a.eval o).run P w=r at *
 cases r with
 | ok n w' =>
  cases n<;>simp only[Oper.quietUpon]at h<;>simp only[Oper.upon]
  case value u =>
   obtain⟨e1,e2⟩:=h;rw[e1,e2];exact hk
  case skip =>
   obtain⟨e1,e2⟩:=h;rw[e1,<-e2];exact hk
  case enter f args =>
   obtain⟨e1,hc⟩:=h;rw[e1];exact hc.mono λe gl ⟨he,hy⟩=>by subst he;subst hy;exact hk
 | halt x w'=>simp only[Oper.quietUpon]at h
theorem dT.wpOp {i:Nat} {o:Oper} {v:Value} {a:Act} {w:World} (hr:E w w) (hi:ops[i]?=some o) (hy:dT P ops E o v a w)
  {K:Act->World->Prop} (h:K (a.put o.dst v) w):wpOp P ops Q i K a w:=by
 unfold Go.wpOp;simp only[hi];rcases hy with ⟨hw,hv⟩|⟨hw,rfl⟩
 ·simp only[hw,if_true];exact .inl (yA (hv w ⟨⟨w,hr⟩,rfl⟩) h)
 ·simp only[hw,Af,if_false];exact h
theorem mQ0 {j:Nat} {oi oj:Oper} {v:Value} (hj:ops[j]?=some oj) (hap:oi.apart ops oj=true)
  (hsi:∀cs b,oi.op ≠ .select cs b) (hsj:∀cs b,oj.op ≠ .select cs b)
  (hQ:∀d v c a w,Q (.panic c) (a.put d v) w->Q (.panic c) a w) {K:Act->World->Prop} {a:Act} {w wb:World}
  (hy:dT P ops E oi v a wb) (h:wpOp P ops Q j K (a.put oi.dst v) w) :
  wpOp P ops Q j (λa' w'=>dT P ops E oi v a' wb/\K (a'.put oi.dst v) w') a w:=by
 obtain⟨h1,h2,h3⟩:=Oper.apart_spec hap
 have keep:∀(a:Act),dT P ops E oi v a wb->∀u,dT P ops E oi v (a.put oj.dst u) wb:=λa hy u =>
  hy.of_same (execOp_put oi hsi a oj.dst u h3) (wanted_put oi a oj.dst u h3)
 have p9:∀d,dT P ops E oi v { a with defers:=d::a.defers } wb:=λd=>hy.of_same rfl rfl
 unfold wpOp at *;simp only[hj] at *;rw[wanted_put oj a oi.dst v h1]at h;split
 ·rename_i hw
  simp only[hw,if_true]at h;rcases h with h|⟨kh,qb⟩
  case inr=>exact .inr ⟨by unfold Oper.asks at *;rw[execOp_put oj hsj a oi.dst v h1]at kh;exact kh,qb⟩
  refine .inl ?_;unfold Oper.wp at *;rw[execOp_put oj hsj a oi.dst v h1]at h;generalize (execOp a.eval oj).run P w=r at *
  cases r with
  | ok n w' =>
   cases n<;>simp only[Oper.upon]at h ⊢
   case value u=>exact⟨keep a hy u,by rw[<-Act.put_comm a v u h2];exact h⟩
   case skip=>exact⟨keep a hy _,by rw[<-Act.put_comm a v undef h2];exact h⟩
   case defer d =>
    refine⟨keep _ (p9 d) _,?_⟩;rw[<-Act.put_comm _ v undef h2,<-Act.put_defers];exact h
   case enter f args =>
    refine Calls.mono h λe gl he=>?_
    cases e with
    | returned u=>exact⟨keep a hy u,by rw[<-Act.put_comm a v u h2];exact he⟩
    | panicked c=>exact hQ _ _ _ _ _ he
    | outgrown=>exact he
   case row row args=>exact Rows.mono h λu gl he=>⟨keep a hy u,by rw[<-Act.put_comm a v u h2];exact he⟩
  | halt x w' =>
   cases x<;>simp only[Oper.upon]at h ⊢
   case panic u=>exact hQ _ _ _ _ _ h
 ·rename_i hw
  simp only[hw]at h;exact⟨keep a hy _,by rw[<-Act.put_comm a v undef h2];exact h⟩
theorem qD (hr:∀w,E w w) (ht:∀a b c,E a b->E b c->E a c) {i:Nat} {oi:Oper} {v:Value} (hi:ops[i]?=some oi) (qd:∀(j:Nat) (o:Oper) cs b,ops[j]?=some o->o.op ≠ .select cs b)
  (hQ:∀d v c a w,Q (.panic c) (a.put d v) w->Q (.panic c) a w) :
  ∀(bd:Nat) (listed:Array Bool) (a:Act) (w:World),jW md ops listed ->
   (∀j oj,ops[j]?=some oj->j≠i->listed.getD j true=false->(∀e∈oj.after,Region.binds md e=true->e.on≠i)->oi.apart ops oj=true) ->
   i∈Region.ready md ops listed->dT P ops E oi v a w ->
   rV P md ops Q E bd (listed.setIfInBounds i true) (a.put oi.dst v) w->rV P md ops Q E (bd+1) listed a w:=by
 intro bd
 induction bd with
 | zero =>
  intro listed a w _ _ dl hy H;refine⟨λh=>(by rw[h]at dl;cases dl),λj hj=>?_⟩;by_cases ew:j=i
  ·subst ew;exact hy.wpOp (hr _) hi (.inl ⟨hr _,H⟩)
  ·have:=ready_mono hj ew
   rw[H.1]at this;cases this
 | succ bd ih =>
  intro listed a w cu ki dl hy H;refine⟨λh=>(by rw[h]at dl;cases dl),λj hj=>?_⟩;by_cases ew:j=i
  ·subst ew;exact hy.wpOp (hr _) hi (.inl ⟨hr _,H⟩)
  ·have h1:=H.2 j (ready_mono hj ew)
   obtain⟨qe,oj,wj,ay⟩:=mem_ready.1 hj
   have qg:∀e∈oj.after,Region.binds md e=true->e.on≠i:=λe he hb heq=>by
    have h1:=ay e he hb;have h0:=(mem_ready.1 dl).1;rw[heq]at h1;rcases Av i listed.size with h'|h'
    ·simp[h']at h0 h1;rw[h0]at h1;cases h1
    ·simp[Array.getElem?_eq_none h']at h1
   have h2:=mQ0 wj (ki j oj wj ew qe qg) (λcs b=>qd i oi cs b hi) (λcs b=>qd j oj cs b wj) hQ hy h1
   have l7:∀k ok,ops[k]?=some ok->k≠i->(listed.setIfInBounds j true).getD k true=false ->
     (∀e∈ok.after,Region.binds md e=true->e.on≠i)->oi.apart ops ok=true:=λk ok hk cy hun iq=>by
    refine ki k ok hk cy ?_ iq;by_cases lw:j=k
    ·subst lw;exact qe
    ·rw[getD_set_ne true lw]at hun;exact hun
   refine wpOp_mono (λa' w' h3=>?_) h2;rcases h3.2 with h4|h4
   ·refine .inl ⟨h4.1,ih (listed.setIfInBounds j true) a' w' (dD cu hj) l7 (ready_mono dl (Ne.symm ew)) (h3.1.later ht h4.1) ?_⟩
    rw[Array.setIfInBounds_comm _ _ ew];exact h4.2
   ·exact(qE cu dl hj ew h4.1).elim
theorem dE (hr:∀w,E w w) (ht:∀a b c,E a b->E b c->E a c) (hs:Region.noSelect ops=true)
  (hQ:∀d v c a w,Q (.panic c) (a.put d v) w->Q (.panic c) a w) {g k:Nat}
  (aw:∀listed a w,Region.seqB md ops g k listed=true->fin a w->rV P md ops Q E g listed a w) :
  ∀(l:List (Nat×Bool)) (listed:Array Bool) (a:Act) (w:World),jW md ops listed->uB0 md ops g k l listed=true->fR P ops E Q fin l a w->rV P md ops Q E (l.length+g) listed a w
 | [],listed,a,w,_,hB,h=>by rw[List.length_nil,Au];exact aw listed a w hB h
 | (i,false)::rest,listed,a,w,cu,hB,h=>by
  simp only[uB0,Ae]at hB;obtain⟨⟨dl,hf⟩,qh⟩:=hB;have jk:i∈Region.ready md ops listed:=by simpa using dl
  unfold fR at h;rw[Ak,show rest.length+1+g=(rest.length+g)+1 by omega]
  split at h
  ·exact h.elim
  ·rename_i o ho
   split at h
   ·rename_i hw
    simp only[Af,if_false]at h;obtain⟨v,hv,hk⟩:=h;exact qD hr ht ho (Region.noSelect_spec hs) hQ _ listed a w cu (Region.free_spec ho hf) jk (.inl ⟨hw,hv⟩) (dE hr ht hs hQ aw rest _ _ _ (dD cu jk) qh hk)
   ·rename_i hw
    exact qD hr ht ho (Region.noSelect_spec hs) hQ _ listed a w cu (Region.free_spec ho hf) jk (.inr ⟨by simpa using hw,rfl⟩) (dE hr ht hs hQ aw rest _ _ _ (dD cu jk) qh h)
 | (i,true)::rest,listed,a,w,cu,hB,h=>by
  simp only[uB0,Ae,decide_eq_true_eq]at hB;obtain⟨dl,qh⟩:=hB;rw[Ak,show rest.length+1+g=(rest.length+g)+1 by omega]
  refine⟨λh0=>(by rw[h0]at dl;cases dl),λj hj=>?_⟩;have lx:=hj;rw[dl]at hj;have ew:j=i:=by simpa using hj
  subst ew;unfold fR at h;unfold wpOp;split at h
  ·exact h.elim
  ·rename_i o ho
   simp only[ho];split at h
   ·rename_i hw
    simp only[hw,if_true]at h ⊢;exact .inl (Oper.wp_mono (λa' w' h' => .inl ⟨h'.1,dE hr ht hs hQ aw rest _ _ _ (dD cu lx) qh h'.2⟩) h)
   ·rename_i hw
    simp only[hw] at ⊢;exact .inl ⟨hr _,dE hr ht hs hQ aw rest _ _ _ (dD cu lx) qh h⟩
theorem yH (E:World->World->Prop) (l:List (Nat×Bool)) {id:Nat} {a:Act} {w:World} (hr:∀w,E w w) (ht:∀a b c,E a b->E b c->E a c)
  (hm:P.follows .mixedOrders=true) (hB:oY ops l=true)
  (hQ:∀d v c a w,Q (.panic c) (a.put d v) w->Q (.panic c) a w) (h:fR P ops E Q (Q .normal) l a w.drew):(Code.region id ops true).wp P Q a w:=by
 simp only[oY,Ae,decide_eq_true_eq]at hB;obtain⟨⟨hs,hl⟩,hB⟩:=hB
 have:=dE (md:=.any) (g:=0) (k:=0) hr ht hs hQ (λlisted a w hB h=>⟨by simpa [Region.seqB] using hB,h⟩) l _ a w.drew (gO _ _) hB h
 rw[Aw,hl]at this;exact wp_region_any hm (kU _ _ _ _ this)
theorem vG (E:World->World->Prop) (k:Nat) (l:List (Nat×Bool)) {id:Nat} {L:List Oper} {a:Act} {w:World} (hr:∀w,E w w) (ht:∀a b c,E a b->E b c->E a c)
  (hm:P.follows .mixedOrders=true) (hB:iC L.toArray k l=true)
  (hQ:∀d v c a w,Q (.panic c) (a.put d v) w->Q (.panic c) a w) (h:fR P L.toArray E Q (wpList P L.toArray Q (L.drop k)) l a w.drew):(Code.region id L.toArray true).wp P Q a w:=by
 simp only[iC,Ae,decide_eq_true_eq]at hB;obtain⟨⟨⟨⟨hs,hl⟩,hk⟩,qi⟩,hB⟩:=hB;have s6:(L.drop k).length=L.toArray.size-k:=by simp
 have:=dE (P:=P) (Q:=Q) (md:=.any) (ops:=L.toArray) (fin:=wpList P L.toArray Q (L.drop k)) (g:=L.toArray.size-k) (k:=k) hr ht hs hQ (λlisted a w hB h=>by
  obtain⟨g,hg⟩:∃g,L.toArray.size-k=g+1:=⟨L.toArray.size-k-1,by omega⟩
  have dl:Region.ready .any L.toArray listed=[k]:=by
   rw[hg]at hB;simp only[Region.seqB,Ae,decide_eq_true_eq]at hB;exact hB.1
  have ay:=wpAny_of_seq (md:=.any) (Q':=Q) (L.drop k) k listed a w (λj=>by simp[List.getElem?_drop]) (by rw[s6];exact hB) h;rw[hg];refine⟨λh0=>(by rw[h0]at dl;cases dl),λj hj=>?_⟩;have h1:=ay;rw[s6,hg]at h1;have lw:j=k:=by rw[dl]at hj;simpa using hj
  subst lw;exact wpOp_mono (λa' w' h' => .inr ⟨qi,h'⟩) (h1.2 j hj)) l _ a w.drew (gO _ _) hB h
 rw[hl,show k+(L.toArray.size-k)=L.toArray.size by omega]at this
 exact wp_region_any hm (kU _ _ _ _ this)
theorem lV0 {i:Nat} {rest:List (Nat×Bool)} {a:Act} {w:World} {o:Oper} (ho:ops[i]?=some o)
  (h:∀K:Act->Prop,(∀a,fR P ops E Q fin rest a w->K a)->if Region.wanted o (yielded ops a.tmps) then aP P o a E w K else K (a.put o.dst undef)):fR P ops E Q fin ((i,false)::rest) a w:=by
 unfold fR;simp only[ho];exact h _ (λ_ h=>h)
theorem sK0 {i:Nat} {rest:List (Nat×Bool)} {a:Act} {w:World} {o:Oper} (ho:ops[i]?=some o)
  (h:∀K:Act->World->Prop,(∀a w,fR P ops E Q fin rest a w->K a w)->if Region.wanted o (yielded ops a.tmps) then o.wp P a w (λa' w'=>E w w'/\K a' w') Q else K (a.put o.dst undef) w):fR P ops E Q fin ((i,true)::rest) a w:=by
 unfold fR;simp only[ho];exact h _ (λ_ _ h=>h)
theorem iR0 {i:Nat} {rest:List (Nat×Bool)} {a:Act} {w:World} {o:Oper} (ho:ops[i]?=some o) (hw:Region.wanted o (yielded ops a.tmps)=true)
  (h:∀K:Act->World->Prop,(∀a w,fR P ops E Q fin rest a w->K a w)->o.wp P a w (λa' w'=>E w w'/\K a' w') Q):fR P ops E Q fin ((i,true)::rest) a w :=
 sK0 ho λK hK=>by rw[if_pos hw];exact h K hK
theorem sD0 {i:Nat} {b:Bool} {rest:List (Nat×Bool)} {a:Act} {w:World} {o:Oper} (ho:ops[i]?=some o) (hw:Region.wanted o (yielded ops a.tmps)=false)
  (h:fR P ops E Q fin rest (a.put o.dst undef) w):fR P ops E Q fin ((i,b)::rest) a w:=by
 unfold fR;simp only[ho,hw,Af,if_false];exact h
structure mL0 (P:Program) (ops:Array Oper) (E:World->World->Prop) (Q:Exit->Act->World->Prop) (fin:Act->World->Prop) (l:List (Nat×Bool)) (a:Act) (w:World):Prop where
 out:fR P ops E Q fin l a w
theorem qK (E:World->World->Prop) (l:List (Nat×Bool)) {id:Nat} {a:Act} {w:World} (hr:∀w,E w w) (ht:∀a b c,E a b->E b c->E a c)
 (hm:P.follows .mixedOrders=true) (hB:oY ops l=true)
 (hQ:∀d v c a w,Q (.panic c) (a.put d v) w->Q (.panic c) a w) (h:mL0 P ops E Q (Q .normal) l a w.drew):(Code.region id ops true).wp P Q a w:=yH E l hr ht hm hB hQ h.out
theorem eL0 {P:Program} {Q:Exit->Act->World->Prop} (E:World->World->Prop) (k:Nat) (l:List (Nat×Bool)) {id:Nat} {L:List Oper} {a:Act} {w:World} (hr:∀w,E w w) (ht:∀a b c,E a b->E b c->E a c)
 (hm:P.follows .mixedOrders=true) (hB:iC L.toArray k l=true)
 (hQ:∀d v c a w,Q (.panic c) (a.put d v) w->Q (.panic c) a w) (h:mL0 P L.toArray E Q (wpList P L.toArray Q (L.drop k)) l a w.drew):(Code.region id L.toArray true).wp P Q a w:=vG E k l hr ht hm hB hQ h.out
theorem bP (l:List (Nat×Bool)) {id:Nat} {a:Act} {w:World} (hB:(P.follows .mixedOrders&&oY ops l)=true)
  (hQ:∀d v c a w,Q (.panic c) (a.put d v) w->Q (.panic c) a w) (h:mL0 P ops aB Q (Q .normal) l a w.drew):(Code.region id ops true).wp P Q a w :=
 qK aB l aB.refl aB.trans (Bool.and_eq_true_iff.1 hB).1 (Bool.and_eq_true_iff.1 hB).2 hQ h
theorem rP {P:Program} {Q:Exit->Act->World->Prop} (k:Nat) (l:List (Nat×Bool)) {id:Nat} {L:List Oper} {a:Act} {w:World}
  (hB:(P.follows .mixedOrders&&iC L.toArray k l)=true)
  (hQ:∀d v c a w,Q (.panic c) (a.put d v) w->Q (.panic c) a w) (h:mL0 P L.toArray aB Q (wpList P L.toArray Q (L.drop k)) l a w.drew):(Code.region id L.toArray true).wp P Q a w :=
 eL0 aB k l aB.refl aB.trans (Bool.and_eq_true_iff.1 hB).1 (Bool.and_eq_true_iff.1 hB).2 hQ h
theorem aO {i:Nat} {rest:List (Nat×Bool)} {a:Act} {w:World} {o:Oper} (ho:ops[i]?=some o)
  (h:∀K:Act->Prop,(∀a,mL0 P ops E Q fin rest a w->K a)->if Region.wanted o (yielded ops a.tmps) then aP P o a E w K else K (a.put o.dst undef)):mL0 P ops E Q fin ((i,false)::rest) a w :=
 ⟨lV0 ho λK hK=>h K λa ha=>hK a ha.out⟩
theorem cH {i:Nat} {rest:List (Nat×Bool)} {a:Act} {w:World} {o:Oper} (ho:ops[i]?=some o) (hw:Region.wanted o (yielded ops a.tmps)=true)
  (h:∀K:Act->World->Prop,(∀a w,mL0 P ops E Q fin rest a w->K a w)->o.wp P a w (λa' w'=>E w w'/\K a' w') Q):mL0 P ops E Q fin ((i,true)::rest) a w :=
 ⟨iR0 ho hw λK hK=>h K λa w ha=>hK a w ha.out⟩
theorem t_skip {i:Nat} {b:Bool} {rest:List (Nat×Bool)} {a:Act} {w:World} {o:Oper} (ho:ops[i]?=some o) (hw:Region.wanted o (yielded ops a.tmps)=false)
 (h:mL0 P ops E Q fin rest (a.put o.dst undef) w):mL0 P ops E Q fin ((i,b)::rest) a w:=⟨sD0 ho hw h.out⟩
theorem bU {a:Act} {w:World} (h:fin a w):mL0 P ops E Q fin [] a w:=⟨h⟩
end
theorem yK {P:Program} {f:FuncId} {args:Array Value} {w:World} {v:Value} (h:Calls P f args w λe w'=>e=.returned v/\w=w'):Calls P f args w λe gl=>e=.returned v/\gl=w:=h.mono λ_ _ ⟨he,hw⟩=>⟨he,hw.symm⟩
theorem fO0 {B:Nat} {w:World} {p:Addr} {v:Value} (hb:p.block<B) (hc:w.cell? p=some v) (x:Ext (EB B) w):x.u.cell? p=some v:=by
 rw[Below.cell x.h.1 hb];exact hc
end
section
open Go Go.RowKit
attribute [local go_sem] aK
def pB:Nat->Nat->List UInt8
 | 0,_=>[]
 | f+1,n=>if n<128 then [Aa n] else Aa (n%128+128)::pB f (n/128)
def dJ (n:Nat):List UInt8:=pB 10 n
theorem rW:∀(f g n:Nat),n<128^f->f<=g->0<f->pB g n=pB f n
 | 0,_,_,_,_,h=>by omega
 | f+1,0,_,_,h,_=>by omega
 | f+1,g+1,n,h,jd,_=>by
  unfold pB;by_cases h1:n<128
  ·rw[if_pos h1,if_pos h1]
  ·rw[if_neg h1,if_neg h1]
   rw[Nat.pow_succ]at h;have h2:n/128<128^f:=Nat.div_lt_of_lt_mul (by rw[Ap];exact h);rcases Nat.eq_zero_or_pos f with h0|h0
   ·subst h0
    simp at h;omega
   ·rw[rW f g (n/128) h2 (by omega) h0]
theorem iD {n:Nat} (h:n<128):dJ n=[Aa n]:=by unfold dJ pB; rw[if_pos h]
theorem xR0 {n:Nat} (h:128<=n) (hn:n<128^9):dJ n=Aa (n%128+128)::dJ (n/128):=by
 have h1:dJ n=Aa (n%128+128)::pB 9 (n/128):=by
  show (if n<128 then [Aa n] else Aa (n%128+128)::pB 9 (n/128))=_
  rw[if_neg (by omega)]
 have h2:n/128<128^9:=Nat.lt_of_le_of_lt (Nat.div_le_self _ _) hn;rw[h1];unfold dJ;rw[rW 9 10 (n/128) h2 (by omega) (by omega)]
theorem cX0:∀(f n:Nat),(pB f n).length<=f
 | 0,_=>by simp[pB]
 | f+1,n=>by
  unfold pB;split
  ·simp
  ·have:=cX0 f (n/128)
   simp only[Ak];omega
theorem bK (n:Nat):(dJ n).length<=10:=cX0 10 n
theorem dO1:∀x:Fin 256,bits BinOp.or .u8 (x.val:Int) 128=((x.val%128+128:Nat):Int):=by decide +kernel
theorem dX0 (k:Nat):bits BinOp.or .u8 ((k:Int)%256) 128=((Aa (k%128+128)).toNat:Int):=by
 have h:=dO1 ⟨k%256,Ay _ (by decide)⟩;have e:(((⟨k%256,Ay _ (by decide)⟩:Fin 256).val:Nat):Int)=(k:Int)%256:=by simp
 rw[e]at h;rw[h,Ac];simp only;omega
theorem qH0 {k:Nat} (h:k<128):Value.int .u8 (k:Int)=.int .u8 ((Aa k).toNat:Int):=by
 rw[Ac];congr 1;omega
def Src (w:World) (base:Nat) (v:Value) (xs:List UInt8):Prop :=
 aU w base 5 1 aV v xs\/∃a,v=.slice a xs.length xs.length/\aF w a 1 (xs.map aV)/\(a=none->xs=[])
theorem aX0 {ops:Array Oper} {rest:List Oper} {o:Oper} {a:Act} {Q:Exit->Act->World->Prop} {w W:World}
  (gi:o.guard=none) (s x:Operand) (ja:o.op=.call { callee:=.builtin .append,args:=#[s,x],argTypes:=#[28,28] })
  (base:Nat) (v:Value) (xs:List UInt8) (y:UInt8) (hs:a.eval s=v) (aa:Src w base v xs) (dw:aB w W) (n c:Nat) (hn:n=W.heap.size) (cs:Array Value) (cn:cs.toList=aV y)
  (hx:a.eval x=.slice (some ⟨n,0,none⟩) 1 c) (an:xs.length+1<=140737488355328) (bi:base<=w.heap.size)
  (h:∀v' w',aU w' base 5 1 aV v' (xs++[y])->(∀a0,aB a0 w->a0.heap.size<=base->aB a0 w')->wpList Tryz.prog ops Q rest (a.put o.dst v') w') :
  wpList Tryz.prog ops Q (o::rest) a (W.alloc (.cells cs 5)):=by
 rcases aa with aa|⟨b,rfl,ac,fp⟩
 ·exact tG0 bF gi s x ja base v xs y hs aa dw n c hn cs cn hx (by omega) bi h
 ·obtain⟨i,z,hi,hz,cv,kj,ly⟩:=bF.info
  have gq:aB w (W.alloc (.cells cs 5)):=dw.al _
  refine wpList_append_grows _ gi s x _ ja 5 i z 1 1 bF.sl hi hz cv kj ly (by decide) b xs.length xs.length (xs.flatMap aV) hs (λhb=>by rw[fp hb];exact⟨rfl,rfl⟩) (fI bF.len xs) (λad had j u hu=>?_)
   ⟨n,0,none⟩ 1 c (aV y) hx rfl (λj u hu=>dQ hn j u (by rw[cn];exact hu)) (bF.one y) (by omega) (by unfold maxLen;omega) (by omega) ?_
  ·obtain⟨i',jj,y',h1,h2,h3⟩:=nK bF.len xs j u hu
   have ai:xs.map aV≠[]:=by rintro e;rw[Am]at e;subst e;simp at h2
   obtain⟨b',off,ha,hc⟩:=ac ai;rw[had]at ha;obtain rfl:=Option.some.inj ha;have bz:=hc i' (aV y') (by rw[Ao,h2];rfl) jj u h3
   have:(⟨b',off,none⟩:Addr).add j=⟨b',off+i'*1+jj,none⟩:=by
    unfold Az;by_cases h0:j=0
    ·subst h0
     have ka:i'=0/\jj=0:=by omega
     simp[ka.1,ka.2]
    ·simp[h0];omega
   rw[this];exact gq.cell bz
  ·intro v' w' h1 h2
   refine h v' w' ?_ (λa0 h0 hb=>(h0.tr gq).grown h2 (λq hq=>by cases hq))
   have h3:w'.ownsRow (W.alloc (.cells cs 5)).heap.size 5 1 v' (xs++[y]).length ((xs++[y]).flatMap aV):=by
    rw[Ab,List.length_singleton,Ai];simpa using h1
   exact mH h3 (Ad bi gq.size)
theorem bJ {α:Type} {w:World} {base:Nat} {e:TypeId} {k:Nat} {enc:α->List Value} {a:Option Addr} {n c:Nat} {xs:List α} (h:aU w base e k enc (.slice a n c) xs):a=none->c=0:=by
 intro ha;rcases h.2 with ⟨h1,_⟩|⟨g,cap,bv,h1,_⟩
 ·have:a=none/\n=0/\c=0:=by simpa using h1
  exact this.2.2
 ·rw[ha]at h1;simp at h1
theorem fJ0 (xs:List UInt8) (a:Option Addr) (c:Nat) (w:World) (hx:xs.length<=1099511627776) (ac:aF w a 1 (xs.map aV)) (hn:a=none->c=0) :
  Calls Tryz.prog 191 #[.slice a xs.length c] w λe w'=>∃v,e=.returned v/\aU w' w.heap.size 5 1 aV v xs/\aB w w':=by
 have HAT:=At ac
 cases a with
 | none =>
  obtain rfl:=hn rfl
  have l5:xs=[]:=Decidable.byContradiction λai=>by
   obtain⟨b,off,h,_⟩:=ac (by simpa using ai);cases h
  subst l5;have hq:=λw=>Al (P:=Tryz.prog) w 28 5 none 0 0 0 0 Tryz.underlying28;clear ac hn HAT;go_enter Tryz.func191,Tryz.ntmps191
  go_wp2_with fail
  go_ret;exact⟨_,rfl,aU.nil _ _ _ _ _,aB.refl _⟩
 | some ad =>
  have hq:=λw=>Al (P:=Tryz.prog) w 28 5 (some ad) xs.length c 0 0 Tryz.underlying28;clear ac hn;go_enter Tryz.func191,Tryz.ntmps191
  have HSRC:=At (HAT.out.grows (aB.alloc w (.cells #[] 5)));go_wp2_with (at_builtin;refine qM bF rfl _ _ rfl w.heap.size _ [] xs rfl (jZ0 w.heap.size (Ag _)) (aB.refl _) (some ad) c rfl HSRC.out (λh=>by cases h) (by simp;omega) (by simp) ?_;intro v' w3 au bg)
  go_ret;rw[As]at au;exact⟨_,rfl,au,bg w (aB.alloc _ _) (Ag _)⟩
theorem kK0 (xs:List UInt8) (a:Option Addr) (c:Nat) (w:World) (hc:xs.length<=c) :
  Calls Tryz.prog 190 #[.slice a xs.length c] w λe w'=>e=.returned (.slice a xs.length xs.length)/\w=w':=by
 go_enter Tryz.func190,Tryz.ntmps190
 go_wp2_with fail
 go_ret;exact⟨rfl,rfl⟩
theorem iH (xs:List UInt8) (a:Option Addr) (c n:Nat) (w:World) (hx:xs.length<=1099511627776) (hv:n<=1048576) (ac:aF w a 1 (xs.map aV)) (hn:a=none->c=0) :
  Calls Tryz.prog 125 #[.slice a xs.length c,.int .u64 n] w λe w'=>∃v,e=.returned v/\aU w' w.heap.size 5 1 aV v (xs++dJ n)/\aB w w':=by
 have CC:=At (fJ0 xs a c w hx ac hn);clear ac hn;go_enter Tryz.func125,Tryz.ntmps125
 go_wp2_with fail
 refine CC.out.mono ?_;rintro e w1 ⟨v1,rfl,av,aj⟩;obtain⟨a1,c1,rfl,tw,h12,dp⟩:=av.at_ bF.len;have jm:=bJ av;go_wp2_with fail
 refine(kK0 xs a1 c1 w1 tw).mono ?_;rintro e w2 ⟨rfl,rfl⟩;have gd:Src w1 w.heap.size (.slice a1 xs.length xs.length) xs:=Or.inr ⟨a1,rfl,dp,λh=>Ah (by have:=jm h;omega)⟩;clear av dp jm CC;go_wp2_with fail
 go_loopw [0,1] (λb v wr=>∃(k:Nat) (pre:List UInt8),v=.int .u64 k/\Src wr w.heap.size b (xs++pre)/\Hid (pre++dJ k=dJ n)/\k<=1048576/\aB w wr) (λ_ v _=>(intOf v).toNat)
 case atStart=>exact⟨n,[],rfl,by rw[Ar];exact gd,rfl,hv,aj⟩
 case round =>
  obtain⟨k,pre,rfl,hs,hp,hk,hg⟩:=hrel
  have ik:pre.length<=10:=by
   have h1:=congrArg List.length hp.out;have h2:=bK n;rw[Ab]at h1;omega
  by_cases aaq:128<=k
  ·have cy:(128:Int)<=k:=by omega
   have hb:=At (dX0 k);rw[xR0 aaq (by omega)]at hp;go_wp2_with (at_builtin;refine aX0 rfl _ _ rfl w.heap.size _ (xs++pre) (Aa (k%128+128)) rfl hs (aB.refl _) _ 1 rfl _ (by rw[hb.out];rfl) rfl (by rw[Ab];omega) hg.size ?_;intro v' w5 ak bk)
   go_roundw
   case rel=>exact⟨k/128,pre++[Aa (k%128+128)],by go_num,Or.inl (by rw[<-Aj];exact ak),by show (pre++[_])++dJ (k/128)=dJ n;rw[Aj];exact hp.out,by omega,bk w hg (Ag _)⟩
   case measure=>simp[intOf];omega
  ·have cy:¬(128:Int)<=k:=by omega
   have hb:=At (qH0 (k:=k) (by omega));rw[iD (by omega)]at hp;go_wp2_with (at_builtin;refine aX0 rfl _ _ rfl w.heap.size _ (xs++pre) (Aa k) rfl hs (aB.refl _) _ 1 rfl _ (by rw[hb.out];rfl) rfl (by rw[Ab];omega) hg.size ?_;intro v' w5 ak bk)
   go_ret;refine⟨_,rfl,?_,bk w hg (Ag _)⟩;rw[<-hp.out,<-Aj];exact ak
end
section
open Go Go.RowKit
theorem jQ {α:Type} {enc:α->List Value} {k:Nat} (hk:∀x,(enc x).length=k) {w:World} {e:TypeId} {base n:Nat} (hb:base<=w.heap.size) (xs:List α) {cs:Array Value} (cn:cs.toList=xs.flatMap enc) (hn:xs.length=n) (hl:n<=maxLen) :
  aU (w.alloc (.cells cs e)) base e k enc (.slice (some ⟨w.heap.size,0,none⟩) n n) xs:=by
 subst hn;have an:=fI hk xs;refine⟨an,Or.inr ⟨w.heap.size,xs.length,cs,rfl,hb,?_,Ag _,hl,?_,?_⟩⟩
 ·show (w.heap.push _)[w.heap.size]?=_
  simp
 ·rw[<-Array.length_toList,cn,an]
 ·rw[cn,<-an,List.take_length]
def kH (n:Nat):List Value:=[.int .u64 n]
def nP (b:Bool):List Value:=[.bool b]
def gU (n:Nat):List Value:=[.int .i64 n]
def stC (s:ByteArray):List Value:=[.string s]
theorem yO0:fZ Tryz.prog 206 213 1 8 kH where
 sl:=Tryz.underlying206
 info:=iL (z:=.int .u64 0) (by kernel_rfl) rfl
 pos:=by decide
 by1:=by decide
 len _:=rfl
 one x u hu:=by
  simp[kH]at hu;subst hu;rfl
theorem wP:fZ Tryz.prog 205 4 1 1 nP where
 sl:=Tryz.underlying205
 info:=iL (z:=.bool false) (by kernel_rfl) rfl
 pos:=by decide
 by1:=by decide
 len _:=rfl
 one x u hu:=by
  simp[nP]at hu;subst hu;rfl
theorem jK0:fZ Tryz.prog 109 3 1 8 gU where
 sl:=Tryz.underlying109
 info:=iL (z:=.int .i64 0) (by kernel_rfl) rfl
 pos:=by decide
 by1:=by decide
 len _:=rfl
 one x u hu:=by
  simp[gU]at hu;subst hu;rfl
theorem dB1:fZ Tryz.prog 65 9 1 16 stC where
 sl:=Tryz.underlying65
 info:=iL (z:=.string ByteArray.empty) (by kernel_rfl) rfl
 pos:=by decide
 by1:=by decide
 len _:=rfl
 one x u hu:=by
  simp[stC]at hu;subst hu;rfl
theorem at1 {α:Type} {w:World} {a:Option Addr} {xs:List α} {f:α->Value} (h:aF w a 1 (xs.map λx=>[f x])) (hn:xs≠[]):∃b o,a=some ⟨b,o,none⟩/\∀k x,xs[k]?=some x->w.cell? ⟨b,o+k,none⟩=some (f x):=by
 obtain⟨b,o,ha,hc⟩:=aF.get (enc:=λx=>[f x]) h hn;exact⟨b,o,ha,λk x hx=>by simpa using hc k x hx 0 _ rfl⟩
end
section
open Go Go.RowKit
attribute [local go_sem] aK aP
theorem aZ0 (x V:Nat):(x:Int)/2^V=((x>>>V:Nat):Int):=by rw[Nat.shiftRight_eq_div_pow]; push_cast; rfl
theorem eH0 (x:Nat):Aa (x%256)=Aa x:=by
 apply UInt8.toNat_inj.1
 rw[Ac,Ac];omega
theorem eX0 (x:Nat):[Value.int .u8 ((x:Int)%256)]=aV (Aa x):=by
 unfold aV;rw[Ac];congr 2
theorem tD0 (n w:Nat) (hw:w<=64):(#[Value.int .u8 ((n:Int)%256),.int .u8 ((n:Int)/256%256),.int .u8 ((n:Int)/65536%256),.int .u8 ((n:Int)/16777216%256),.int .u8 (w:Int)]:Array Value).toList=(leB 4 n++[Aa w]).flatMap aV:=by
 have h:leB 4 n=[Aa n,Aa (n/256),Aa (n/65536),Aa (n/16777216)]:=by
  unfold leB;simp[List.range_succ]
 rw[h,nL];simp only[List.cons_append,As,List.map_cons,List.map_nil,Ac];rw[Aq (show w<2^8 by omega)]
 congr 1
theorem cN0 {l:List Nat} {W k t x:Nat} (hx:l[k]?=some x) (ht:t<W):bitAt l W (k*W+t)=x.testBit t:=by
 unfold bitAt
 have h1:(k*W+t)/W=k:=by
  rw[Ap,Nat.mul_add_div (by omega),Nat.div_eq_of_lt ht,Aw]
 have h2:(k*W+t)%W=t:=by rw[Ap,Nat.mul_add_mod,Aq ht]
 rw[h1,h2,List.getD_eq_getElem?_getD,hx];rfl
end
section
open Go Go.RowKit
section
variable {P:Program} {ops:Array Oper} {Q:Exit->Act->World->Prop} {md:Region.Mode} {E:World->World->Prop} {fin:Act->World->Prop}
end
end
end Go.Proofs.YthgklnohcmaopaaGreatDoor
