/- The texts Bytes App2 App3 aZ1 PutU RefU Bx W10 W09 W13 eA1, one behind the other. -/
import Derived.Test.YthgklnohcmaopaaGreatDoorLq1
import Derived.Test.YthgklnohcmaopaaGreatDoorLq19
import Derived.Test.YthgklnohcmaopaaGreatDoorProg
import Derived.Lib.AppendStr
import Derived.Lib.BufferRead
import Derived.Lib.SlBytesRow
import Derived.Laws.AppendOwnNone
import Derived.ArgAppend
import Derived.Lib.SliceRun
import Derived.Test.YthgklnohcmaopaaGreatDoorLq4
import Derived.Laws.BitsAllLaws
open Bool renaming and_eq_true → Aa,false_eq_true → Ai,false_or → Au
open UInt8 renaming ofNat → Ab,toNat_ofNat' → Ad
open List renaming length_append → Ac,eq_nil_of_length_eq_zero → Ag,flatMap_append → Ah,append_assoc → Aj,length_cons → Ak,map_eq_nil_iff → Am,flatMap_cons → An,getElem?_map → Ao,append_nil → Ar,nil_append → As
open Nat renaming le_trans → Ae,le_refl → Af,mul_comm → Ap,mod_eq_of_lt → Aq,zero_add → Av,lt_or_ge → Aw,add_zero → Ax,mod_lt → Az
open Go.Lib renaming run_eql_slice_nil → Al,hid → At,size_eq → Ay
open Go.Addr renaming add → Ba
set_option maxHeartbeats 2000000
namespace Go.Proofs.YthgklnohcmaopaaGreatDoor
set_option maxRecDepth 100000
section
open Go Go.RowKit
def aY (b:UInt8):List Value:=[.int .u8 b.toNat]
theorem bJ:eG Tryz.prog 28 5 1 1 aY where
 sl:=Tryz.underlying28
 info:=gV (z:=.int .u8 0) (by kernel_rfl) rfl
 pos:=by decide
 by1:=by decide
 len _:=rfl
 one x u hu:=by
  simp[aY]at hu;subst hu;rfl
theorem gI1:∃i,Tryz.prog.info? 5=some i/\i.zero=some (.int .u8 0)/\i.size=1/\i.bytes=1:=by
 have h:(Tryz.prog.info? 5).map (λi=>(i.zero,i.size,i.bytes))=some (some (.int .u8 0),1,1):=by kernel_rfl
 cases hi:Tryz.prog.info? 5 with
 | none=>rw[hi]at h;cases h
 | some i =>
  rw[hi]at h;simp only[Option.map_some,Option.some.injEq,Prod.mk.injEq]at h;exact⟨i,rfl,h.1,h.2.1,h.2.2⟩
theorem qD (l:List UInt8):l.flatMap aY=l.map λb=>Value.int .u8 b.toNat:=by
 induction l with
 | nil=>rfl
 | cons b l ih=>rw[An,ih];rfl
theorem fX0 (s:ByteArray):Lib.strCells s=s.data.toList.flatMap aY:=by rw[qD]; rfl
theorem aX.other {α:Type} {w w':World} {base:Nat} {e e':TypeId} {k:Nat} {enc:α->List Value} {v v2:Value} {xs:List α} {n2 k2 b2:Nat} {ys:List Value} (h:aX w base e k enc v xs) (h2:w.ownsRow b2 e' k2 v2 n2 ys) (aj:e≠e') (hg:w.grownBy w' v2.ownBlock):aX w' base e k enc v xs:=by
 obtain⟨h1,h3⟩:=h;refine⟨h1,?_⟩;rcases h3 with h3|⟨g,cap,cp,rfl,hb,hh,r⟩
 ·exact Or.inl h3
 ·refine Or.inr ⟨g,cap,cp,rfl,hb,?_,r⟩
  rw[hg.block g (Array.getElem?_eq_some_iff.1 hh).1 ?_]
  ·exact hh
  ·rcases h2.2 with ⟨rfl,_⟩|⟨g',abj,ajh,rfl,_,hh',_⟩
   ·simp[Value.ownBlock]
   ·intro he
    have:g=g':=by simpa [Value.ownBlock] using he
    subst this;rw[hh]at hh';injection hh' with hh'
    injection hh' with _ ht
    exact aj ht
theorem mW1 {ops:Array Oper} {rest:List Oper} {o:Oper} {a:Act} {Q:Exit->Act->World->Prop} {w W:World}
  (lw:o.guard=none) (s x:Operand) (io:o.op=.call { callee:=.builtin .append,args:=#[s,x],argTypes:=#[28,9] })
  (base:Nat) (v:Value) (xs:List UInt8) (y:ByteArray) (hs:a.eval s=v) (aa:aX w base 5 1 aY v xs) (ia:aB w W)
  (hx:a.eval x=.string y) (ah:xs.length+y.size<=140737488355328) (bu:base<=w.heap.size)
  (h:∀v' w',aX w' base 5 1 aY v' (xs++y.data.toList)->(∀a0,aB a0 w->a0.heap.size<=base->aB a0 w')->(∀ {α:Type} {b2 k2:Nat} {e2:TypeId} {aev:α->List Value} {v2:Value} {ys:List α},e2≠5->aX w b2 e2 k2 aev v2 ys->aX w' b2 e2 k2 aev v2 ys)->wpList Tryz.prog ops Q rest (a.put o.dst v') w') :
  wpList Tryz.prog ops Q (o::rest) a W:=by
 obtain⟨i,hi,hz,cg,i7⟩:=gI1;have ai:=fI aa ia;refine Lib.wpList_append_own_string W lw s x 28 9 io base 5 i Tryz.underlying28 Tryz.underlying9 hi hz cg i7 v xs.length (xs.flatMap aY) hs ai y hx (by unfold maxLen;omega) ah (Ae bu ia.size) ?_;intro v' w' h1 h2 _;refine h v' w' ?_ (λa0 h0 hb=>(h0.tr ia).grown h2 (λq hq=>Ae hb (aZ aa q hq))) (λaj ho=>(ho.grows ia).other ai aj h2);unfold aX;rw[Ac,<-Ay,Ah,<-fX0];exact h1
theorem bZ0 {w:World} {base:Nat} {v:Value} {l:List UInt8} (h:aX w base 5 1 aY v l):(convert 28 9 v).run Tryz.prog w=.ok (.string (mkB l)) w:=by
 rcases h.2 with ⟨rfl,h0⟩|⟨g,cap,cp,rfl,hb,hh,hn,hc,hs,ht⟩
 ·obtain rfl:l=[]:=Ag h0
  exact Lib.run_convert_nil_bytes w _ _ 5 0 Tryz.underlying28 Tryz.underlying5 Tryz.underlying9
 ·have hz:(mkB l).size=l.length:=by rw[Ay,jM]
  have hB:Lib.Bytes w g 0 (mkB l):=λi hi=>by
   rw[hz]at hi;have hf:=rC (enc:=aY) (k:=1) (λ_=>rfl) l i 0 l[i] (.int .u8 l[i].toNat) (List.getElem?_eq_getElem hi) rfl;rw[<-ht,List.getElem?_take]at hf;split at hf
   ·unfold World.cell?
    simp only[hh,Option.isSome_none,Ai,if_false];rw[Av];have hg:(mkB l)[i]'(by rw[hz];exact hi)=l[i]:=rfl;rw[hg];simpa using hf
   ·cases hf
  have:=Lib.run_convert_whole (P:=Tryz.prog) w 28 5 9 Tryz.underlying28 Tryz.underlying5 Tryz.underlying9 g 0 (mkB l) hB cap
  rw[hz]at this;exact this
theorem mL {α:Type} {enc:α->List Value} {k:Nat} (hk:∀x,(enc x).length=k):∀(ys:List α) (j:Nat) (u:Value),(ys.flatMap enc)[j]?=some u->∃i jj y,j=i*k+jj/\ys[i]?=some y/\(enc y)[jj]?=some u
 | [],j,u,h=>by simp at h
 | y::r,j,u,h=>by
  rw[An]at h;rcases Aw j (enc y).length with ae|hge
  ·rw[List.getElem?_append_left ae]at h
   exact⟨0,j,y,by omega,rfl,h⟩
  ·rw[List.getElem?_append_right hge]at h
   obtain⟨i,jj,z,h1,h2,h3⟩:=mL hk r _ u h;refine⟨i+1,jj,z,?_,by simpa using h2,h3⟩;rw[hk]at hge h1;rw[Nat.succ_mul];omega
theorem tG {α:Type} {P:Program} {t e:TypeId} {k bytes:Nat} {enc:α->List Value} (L:eG P t e k bytes enc) {ops:Array Oper} {rest:List Oper} {o:Oper} {a:Act} {Q:Exit->Act->World->Prop} {w W:World}
  (lw:o.guard=none) (s x:Operand) (io:o.op=.call { callee:=.builtin .append,args:=#[s,x],argTypes:=#[t,t] })
  (base:Nat) (v:Value) (xs ys:List α) (hs:a.eval s=v) (aa:aX w base e k enc v xs) (ia:aB w W) (sa:Option Addr) (sc:Nat)
  (hx:a.eval x=.slice sa ys.length sc) (fw:aG W sa k (ys.map enc)) (di:sa=none->sc=0) (ah:(xs.length+ys.length)*bytes<=140737488355328) (bu:base<=w.heap.size)
  (h:∀v' w',aX w' base e k enc v' (xs++ys)->(∀a0,aB a0 w->a0.heap.size<=base->aB a0 w')->wpList P ops Q rest (a.put o.dst v') w') :
  wpList P ops Q (o::rest) a W:=by
 obtain⟨i,z,hi,hz,cg,i7,ml⟩:=L.info;have qm:xs.length+ys.length<=140737488355328:=Ae (Nat.le_mul_of_pos_right _ L.by1) ah;have ai:=fI aa ia
 cases sa with
 | none =>
  obtain rfl:=di rfl
  have hy:ys=[]:=Decidable.byContradiction λaj=>by
   have pe:ys.map enc≠[]:=by simpa using aj
   obtain⟨b,off,ha,_⟩:=fw pe;cases ha
  subst hy;refine wpList_append_own_none lw s x t io base e i k L.sl hi v xs.length (xs.flatMap enc) hs ai hx ?_;refine h v W ?_ (λa0 h0 _=>h0.tr ia);rw[Ar];exact ai
 | some ad =>
  refine wpList_append_own _ lw s x t io base e i z k bytes L.sl hi hz cg i7 ml L.pos v xs.length (xs.flatMap enc) hs ai ad ys.length sc (ys.flatMap enc) hx (gJ L.len ys)
   (λj u hu=>?_) (λu hu=>by obtain⟨y,_,hy⟩:=List.mem_flatMap.1 hu;exact L.one y u hy) (by unfold maxLen;omega) ah (Ae bu ia.size) ?_
  ·obtain⟨i',jj,y,h1,h2,h3⟩:=mL L.len ys j u hu
   have aj:ys.map enc≠[]:=by rintro e;rw[Am]at e;subst e;simp at h2
   obtain⟨b,off,ha,hc⟩:=fw aj;obtain rfl:=Option.some.inj ha;have bh:=hc i' (enc y) (by rw[Ao,h2];rfl) jj u h3;unfold Ba;by_cases h0:j=0
   ·subst h0
    have na:i'*k=0/\jj=0:=by omega
    rw[if_pos rfl];rw[na.1,na.2]at bh;simpa using bh
   ·rw[if_neg h0]
    subst h1;rw[<-Nat.add_assoc];exact bh
  ·intro v' w' h1 h2 _
   refine h v' w' ?_ (λa0 h0 hb=>(h0.tr ia).grown h2 (λq hq=>Ae hb (aZ aa q hq)));unfold aX;rw[Ac,Ah];exact h1
theorem yQ {α:Type} {enc:α->List Value} {k:Nat} {w:World} {e:TypeId} (base:Nat) (hb:base<=w.heap.size):aX (w.alloc (.cells #[] e)) base e k enc (.slice (some ⟨w.heap.size,0,none⟩) 0 0) []:=by
 refine⟨by simp,Or.inr ⟨w.heap.size,0,#[],rfl,hb,?_,Af _,Nat.zero_le _,by simp,by simp⟩⟩;show (w.heap.push _)[w.heap.size]?=_
 simp
def EB (B:Nat) (w w':World):Prop:=Below B w w'/\w.heap.size<=w'.heap.size
theorem EB.refl (B:Nat) (w:World):EB B w w:=⟨Below.refl _ _,Af _⟩
theorem EB.trans (B:Nat) (a b c:World) (h:EB B a b) (k:EB B b c):EB B a c:=⟨Below.trans h.1 k.1,Ae h.2 k.2⟩
instance (B:Nat) (w:World):Nonempty (Ext (EB B) w):=⟨⟨w,EB.refl B w⟩⟩
theorem EB.of {B:Nat} {w w':World} (h:aB w w') (hB:B<=w.heap.size):EB B w w':=⟨Below.mono h hB,h.size⟩
theorem EB.grows {a w w':World} (h:aB a w) (k:EB a.heap.size w w'):aB a w':=Below.trans h k.1
end
section
open Go Go.RowKit
section
variable {P:Program} {ops:Array Oper} {Q:Exit->Act->World->Prop} {md:Region.Mode} {E:World->World->Prop} {fin:Act->World->Prop}
def aM (P:Program) (o:Oper) (a:Act) (E:World->World->Prop) (w:World) (next:Act->Prop):Prop :=
 ∃v,(∀w2,(∃x:Ext E w,w2=x.u)->o.quietAt P a (λw3=>w3=w2) w2 v)/\next (a.put o.dst v)
def jR (P:Program) (ops:Array Oper) (E:World->World->Prop) (Q:Exit->Act->World->Prop) (fin:Act->World->Prop):List (Nat×Bool)->Act->World->Prop
 | [],a,w=>fin a w
 | (i,late)::rest,a,w=>match ops[i]? with
  | none=>False
  | some o=>if Region.wanted o (yielded ops a.tmps) then
    (if late then o.wp P a w (λa' w'=>E w w'/\jR P ops E Q fin rest a' w') Q else aM P o a E w (λa'=>jR P ops E Q fin rest a' w))
   else jR P ops E Q fin rest (a.put o.dst undef) w
def iT (P:Program) (md:Region.Mode) (ops:Array Oper) (Q:Exit->Act->World->Prop) (E:World->World->Prop):Nat->Array Bool->Act->World->Prop
 | 0,listed,a,w=>Region.ready md ops listed=[]/\Q .normal a w
 | bz+1,listed,a,w =>
  (Region.ready md ops listed=[]->Q .normal a w) /\
  ∀i∈Region.ready md ops listed,wpOp P ops Q i (λa' w'=>(E w w'/\iT P md ops Q E bz (listed.setIfInBounds i true) a' w')\/(mB0 md ops i=true/\wpAny P md ops Q bz (listed.setIfInBounds i true) a' w')) a w
theorem kS:∀(bz:Nat) (listed:Array Bool) (a:Act) (w:World),iT P md ops Q E bz listed a w->wpAny P md ops Q bz listed a w
 | 0,_,_,_,h=>⟨h.1,h.2⟩
 | bz+1,_,_,_,h=>⟨λh0=>h.1 h0,λi hi=>wpOp_mono (λa' w' h'=>h'.elim (λh'=>kS bz _ a' w' h'.2) (λh'=>h'.2)) (h.2 i hi)⟩
def fM (P:Program) (ops:Array Oper) (E:World->World->Prop) (o:Oper) (v:Value) (a:Act) (w:World):Prop :=
 (Region.wanted o (yielded ops a.tmps)=true/\∀w2,(∃x:Ext E w,w2=x.u)->o.quietAt P a (λw3=>w3=w2) w2 v) \/
 (Region.wanted o (yielded ops a.tmps)=false/\v=undef)
theorem fM.later (ht:∀a b c,E a b->E b c->E a c) {o:Oper} {v:Value} {a:Act} {w w':World} (hw:E w w') (h:fM P ops E o v a w):fM P ops E o v a w' :=
 h.imp (λ⟨h1,h2⟩=>⟨h1,λw2 ⟨x,hx⟩=>h2 w2 ⟨⟨x.u,ht _ _ _ hw x.h⟩,hx⟩⟩) id
theorem fM.of_same {o:Oper} {v:Value} {a a':Act} {w:World} (hy:fM P ops E o v a w) (he:execOp a'.eval o=execOp a.eval o)
  (hw:Region.wanted o (yielded ops a'.tmps)=Region.wanted o (yielded ops a.tmps)):fM P ops E o v a' w:=by
 unfold fM Oper.quietAt at *;rw[he,hw];exact hy
theorem cS0 {o:Oper} {v:Value} {a:Act} {w:World} {K:Act->World->Prop} (h:o.quietAt P a (λw3=>w3=w) w v) (hk:K (a.put o.dst v) w):o.wp P a w K Q:=by
 unfold Oper.quietAt at h;unfold Oper.wp;generalize (execOp a.eval o).run P w=r at *
 cases r with
 | ok n w' =>
  cases n<;>simp only[Oper.quietUpon]at h<;>simp only[Oper.upon]
  case value u =>
   obtain⟨e1,e2⟩:=h;rw[e1,e2];exact hk
  case skip =>
   obtain⟨e1,e2⟩:=h;rw[e1,<-e2];exact hk
  case enter f args =>
   obtain⟨e1,hc⟩:=h;rw[e1];exact hc.mono λe q6 ⟨he,hy⟩=>by subst he;subst hy;exact hk
 | halt x w'=>simp only[Oper.quietUpon]at h
theorem fM.wpOp {i:Nat} {o:Oper} {v:Value} {a:Act} {w:World} (hr:E w w) (hi:ops[i]?=some o) (hy:fM P ops E o v a w)
  {K:Act->World->Prop} (h:K (a.put o.dst v) w):wpOp P ops Q i K a w:=by
 unfold Go.wpOp;simp only[hi];rcases hy with ⟨hw,hv⟩|⟨hw,rfl⟩
 ·simp only[hw,if_true];exact .inl (cS0 (hv w ⟨⟨w,hr⟩,rfl⟩) h)
 ·simp only[hw,Ai,if_false];exact h
theorem tK0 {j:Nat} {oi oj:Oper} {v:Value} (hj:ops[j]?=some oj) (hap:oi.apart ops oj=true)
  (hsi:∀cs b,oi.op ≠ .select cs b) (hsj:∀cs b,oj.op ≠ .select cs b)
  (hQ:∀d v c a w,Q (.panic c) (a.put d v) w->Q (.panic c) a w) {K:Act->World->Prop} {a:Act} {w wb:World}
  (hy:fM P ops E oi v a wb) (h:wpOp P ops Q j K (a.put oi.dst v) w) :
  wpOp P ops Q j (λa' w'=>fM P ops E oi v a' wb/\K (a'.put oi.dst v) w') a w:=by
 obtain⟨h1,h2,h3⟩:=Oper.apart_spec hap
 have keep:∀(a:Act),fM P ops E oi v a wb->∀u,fM P ops E oi v (a.put oj.dst u) wb:=λa hy u =>
  hy.of_same (execOp_put oi hsi a oj.dst u h3) (wanted_put oi a oj.dst u h3)
 have vx:∀d,fM P ops E oi v { a with defers:=d::a.defers } wb:=λd=>hy.of_same rfl rfl
 unfold wpOp at *;simp only[hj] at *;rw[wanted_put oj a oi.dst v h1]at h;split
 ·rename_i hw
  simp only[hw,if_true]at h;rcases h with h|⟨oo,vy⟩
  case inr=>exact .inr ⟨by unfold Oper.asks at *;rw[execOp_put oj hsj a oi.dst v h1]at oo;exact oo,vy⟩
  refine .inl ?_;unfold Oper.wp at *;rw[execOp_put oj hsj a oi.dst v h1]at h;generalize (execOp a.eval oj).run P w=r at *
  cases r with
  | ok n w' =>
   cases n<;>simp only[Oper.upon]at h ⊢
   case value u=>exact⟨keep a hy u,by rw[<-Act.put_comm a v u h2];exact h⟩
   case skip=>exact⟨keep a hy _,by rw[<-Act.put_comm a v undef h2];exact h⟩
   case defer d =>
    refine⟨keep _ (vx d) _,?_⟩;rw[<-Act.put_comm _ v undef h2,<-Act.put_defers];exact h
   case enter f args =>
    refine Calls.mono h λe q6 he=>?_
    cases e with
    | returned u=>exact⟨keep a hy u,by rw[<-Act.put_comm a v u h2];exact he⟩
    | panicked c=>exact hQ _ _ _ _ _ he
    | outgrown=>exact he
   case row row args=>exact Rows.mono h λu q6 he=>⟨keep a hy u,by rw[<-Act.put_comm a v u h2];exact he⟩
  | halt x w' =>
   cases x<;>simp only[Oper.upon]at h ⊢
   case panic u=>exact hQ _ _ _ _ _ h
 ·rename_i hw
  simp only[hw]at h;exact⟨keep a hy _,by rw[<-Act.put_comm a v undef h2];exact h⟩
theorem kH (hr:∀w,E w w) (ht:∀a b c,E a b->E b c->E a c) {i:Nat} {oi:Oper} {v:Value} (hi:ops[i]?=some oi) (vz:∀(j:Nat) (o:Oper) cs b,ops[j]?=some o->o.op ≠ .select cs b)
  (hQ:∀d v c a w,Q (.panic c) (a.put d v) w->Q (.panic c) a w) :
  ∀(bz:Nat) (listed:Array Bool) (a:Act) (w:World),kR md ops listed ->
   (∀j oj,ops[j]?=some oj->j≠i->listed.getD j true=false->(∀e∈oj.after,Region.binds md e=true->e.on≠i)->oi.apart ops oj=true) ->
   i∈Region.ready md ops listed->fM P ops E oi v a w ->
   iT P md ops Q E bz (listed.setIfInBounds i true) (a.put oi.dst v) w->iT P md ops Q E (bz+1) listed a w:=by
 intro bz
 induction bz with
 | zero =>
  intro listed a w _ _ dd hy H;refine⟨λh=>(by rw[h]at dd;cases dd),λj hj=>?_⟩;by_cases gi:j=i
  ·subst gi;exact hy.wpOp (hr _) hi (.inl ⟨hr _,H⟩)
  ·have:=ready_mono hj gi
   rw[H.1]at this;cases this
 | succ bz ih =>
  intro listed a w ci oq dd hy H;refine⟨λh=>(by rw[h]at dd;cases dd),λj hj=>?_⟩;by_cases gi:j=i
  ·subst gi;exact hy.wpOp (hr _) hi (.inl ⟨hr _,H⟩)
  ·have h1:=H.2 j (ready_mono hj gi)
   obtain⟨we,oj,hoj,aw⟩:=mem_ready.1 hj
   have aci:∀e∈oj.after,Region.binds md e=true->e.on≠i:=λe he hb heq=>by
    have h1:=aw e he hb;have h0:=(mem_ready.1 dd).1;rw[heq]at h1;rcases Aw i listed.size with h'|h'
    ·simp[h']at h0 h1;rw[h0]at h1;cases h1
    ·simp[Array.getElem?_eq_none h']at h1
   have h2:=tK0 hoj (oq j oj hoj gi we aci) (λcs b=>vz i oi cs b hi) (λcs b=>vz j oj cs b hoj) hQ hy h1
   have q7:∀k ok,ops[k]?=some ok->k≠i->(listed.setIfInBounds j true).getD k true=false ->
     (∀e∈ok.after,Region.binds md e=true->e.on≠i)->oi.apart ops ok=true:=λk ok hk cn hun g9=>by
    refine oq k ok hk cn ?_ g9;by_cases mw:j=k
    ·subst mw;exact we
    ·rw[getD_set_ne true mw]at hun;exact hun
   refine wpOp_mono (λa' w' h3=>?_) h2;rcases h3.2 with h4|h4
   ·refine .inl ⟨h4.1,ih (listed.setIfInBounds j true) a' w' (dH ci hj) q7 (ready_mono dd (Ne.symm gi)) (h3.1.later ht h4.1) ?_⟩
    rw[Array.setIfInBounds_comm _ _ gi];exact h4.2
   ·exact(sV ci dd hj gi h4.1).elim
theorem eH (hr:∀w,E w w) (ht:∀a b c,E a b->E b c->E a c) (hs:Region.noSelect ops=true)
  (hQ:∀d v c a w,Q (.panic c) (a.put d v) w->Q (.panic c) a w) {g k:Nat}
  (av:∀listed a w,Region.seqB md ops g k listed=true->fin a w->iT P md ops Q E g listed a w) :
  ∀(l:List (Nat×Bool)) (listed:Array Bool) (a:Act) (w:World),kR md ops listed->dV1 md ops g k l listed=true->jR P ops E Q fin l a w->iT P md ops Q E (l.length+g) listed a w
 | [],listed,a,w,_,hB,h=>by rw[List.length_nil,Av];exact av listed a w hB h
 | (i,false)::rest,listed,a,w,ci,hB,h=>by
  simp only[dV1,Aa]at hB;obtain⟨⟨dd,hf⟩,qj⟩:=hB;have gj:i∈Region.ready md ops listed:=by simpa using dd
  unfold jR at h;rw[Ak,show rest.length+1+g=(rest.length+g)+1 by omega]
  split at h
  ·exact h.elim
  ·rename_i o ho
   split at h
   ·rename_i hw
    simp only[Ai,if_false]at h;obtain⟨v,hv,hk⟩:=h;exact kH hr ht ho (Region.noSelect_spec hs) hQ _ listed a w ci (Region.free_spec ho hf) gj (.inl ⟨hw,hv⟩) (eH hr ht hs hQ av rest _ _ _ (dH ci gj) qj hk)
   ·rename_i hw
    exact kH hr ht ho (Region.noSelect_spec hs) hQ _ listed a w ci (Region.free_spec ho hf) gj (.inr ⟨by simpa using hw,rfl⟩) (eH hr ht hs hQ av rest _ _ _ (dH ci gj) qj h)
 | (i,true)::rest,listed,a,w,ci,hB,h=>by
  simp only[dV1,Aa,decide_eq_true_eq]at hB;obtain⟨dd,qj⟩:=hB;rw[Ak,show rest.length+1+g=(rest.length+g)+1 by omega]
  refine⟨λh0=>(by rw[h0]at dd;cases dd),λj hj=>?_⟩;have qk:=hj;rw[dd]at hj;have gi:j=i:=by simpa using hj
  subst gi;unfold jR at h;unfold wpOp;split at h
  ·exact h.elim
  ·rename_i o ho
   simp only[ho];split at h
   ·rename_i hw
    simp only[hw,if_true]at h ⊢;exact .inl (Oper.wp_mono (λa' w' h' => .inl ⟨h'.1,eH hr ht hs hQ av rest _ _ _ (dH ci qk) qj h'.2⟩) h)
   ·rename_i hw
    simp only[hw] at ⊢;exact .inl ⟨hr _,eH hr ht hs hQ av rest _ _ _ (dH ci qk) qj h⟩
theorem cT0 (E:World->World->Prop) (l:List (Nat×Bool)) {id:Nat} {a:Act} {w:World} (hr:∀w,E w w) (ht:∀a b c,E a b->E b c->E a c)
  (hm:P.follows .mixedOrders=true) (hB:rW ops l=true)
  (hQ:∀d v c a w,Q (.panic c) (a.put d v) w->Q (.panic c) a w) (h:jR P ops E Q (Q .normal) l a w.drew):(Code.region id ops true).wp P Q a w:=by
 simp only[rW,Aa,decide_eq_true_eq]at hB;obtain⟨⟨hs,hl⟩,hB⟩:=hB
 have:=eH (md:=.any) (g:=0) (k:=0) hr ht hs hQ (λlisted a w hB h=>⟨by simpa [Region.seqB] using hB,h⟩) l _ a w.drew (iK _ _) hB h
 rw[Ax,hl]at this;exact wp_region_any hm (kS _ _ _ _ this)
theorem aG0 (E:World->World->Prop) (k:Nat) (l:List (Nat×Bool)) {id:Nat} {L:List Oper} {a:Act} {w:World} (hr:∀w,E w w) (ht:∀a b c,E a b->E b c->E a c)
  (hm:P.follows .mixedOrders=true) (hB:lT L.toArray k l=true)
  (hQ:∀d v c a w,Q (.panic c) (a.put d v) w->Q (.panic c) a w) (h:jR P L.toArray E Q (wpList P L.toArray Q (L.drop k)) l a w.drew):(Code.region id L.toArray true).wp P Q a w:=by
 simp only[lT,Aa,decide_eq_true_eq]at hB;obtain⟨⟨⟨⟨hs,hl⟩,hk⟩,mj⟩,hB⟩:=hB;have jn:(L.drop k).length=L.toArray.size-k:=by simp
 have:=eH (P:=P) (Q:=Q) (md:=.any) (ops:=L.toArray) (fin:=wpList P L.toArray Q (L.drop k)) (g:=L.toArray.size-k) (k:=k) hr ht hs hQ (λlisted a w hB h=>by
  obtain⟨g,hg⟩:∃g,L.toArray.size-k=g+1:=⟨L.toArray.size-k-1,by omega⟩
  have dd:Region.ready .any L.toArray listed=[k]:=by
   rw[hg]at hB;simp only[Region.seqB,Aa,decide_eq_true_eq]at hB;exact hB.1
  have aw:=wpAny_of_seq (md:=.any) (Q':=Q) (L.drop k) k listed a w (λj=>by simp[List.getElem?_drop]) (by rw[jn];exact hB) h;rw[hg];refine⟨λh0=>(by rw[h0]at dd;cases dd),λj hj=>?_⟩;have h1:=aw;rw[jn,hg]at h1;have mw:j=k:=by rw[dd]at hj;simpa using hj
  subst mw;exact wpOp_mono (λa' w' h' => .inr ⟨mj,h'⟩) (h1.2 j hj)) l _ a w.drew (iK _ _) hB h
 rw[hl,show k+(L.toArray.size-k)=L.toArray.size by omega]at this
 exact wp_region_any hm (kS _ _ _ _ this)
theorem vU0 {i:Nat} {rest:List (Nat×Bool)} {a:Act} {w:World} {o:Oper} (ho:ops[i]?=some o)
  (h:∀K:Act->Prop,(∀a,jR P ops E Q fin rest a w->K a)->if Region.wanted o (yielded ops a.tmps) then aM P o a E w K else K (a.put o.dst undef)):jR P ops E Q fin ((i,false)::rest) a w:=by
 unfold jR;simp only[ho];exact h _ (λ_ h=>h)
theorem xA0 {i:Nat} {rest:List (Nat×Bool)} {a:Act} {w:World} {o:Oper} (ho:ops[i]?=some o)
  (h:∀K:Act->World->Prop,(∀a w,jR P ops E Q fin rest a w->K a w)->if Region.wanted o (yielded ops a.tmps) then o.wp P a w (λa' w'=>E w w'/\K a' w') Q else K (a.put o.dst undef) w):jR P ops E Q fin ((i,true)::rest) a w:=by
 unfold jR;simp only[ho];exact h _ (λ_ _ h=>h)
theorem nP0 {i:Nat} {rest:List (Nat×Bool)} {a:Act} {w:World} {o:Oper} (ho:ops[i]?=some o) (hw:Region.wanted o (yielded ops a.tmps)=true)
  (h:∀K:Act->World->Prop,(∀a w,jR P ops E Q fin rest a w->K a w)->o.wp P a w (λa' w'=>E w w'/\K a' w') Q):jR P ops E Q fin ((i,true)::rest) a w :=
 xA0 ho λK hK=>by rw[if_pos hw];exact h K hK
structure aZ1 (P:Program) (ops:Array Oper) (E:World->World->Prop) (Q:Exit->Act->World->Prop) (fin:Act->World->Prop) (l:List (Nat×Bool)) (a:Act) (w:World):Prop where
 out:jR P ops E Q fin l a w
theorem lV (E:World->World->Prop) (l:List (Nat×Bool)) {id:Nat} {a:Act} {w:World} (hr:∀w,E w w) (ht:∀a b c,E a b->E b c->E a c)
 (hm:P.follows .mixedOrders=true) (hB:rW ops l=true)
 (hQ:∀d v c a w,Q (.panic c) (a.put d v) w->Q (.panic c) a w) (h:aZ1 P ops E Q (Q .normal) l a w.drew):(Code.region id ops true).wp P Q a w:=cT0 E l hr ht hm hB hQ h.out
theorem qB0 {P:Program} {Q:Exit->Act->World->Prop} (E:World->World->Prop) (k:Nat) (l:List (Nat×Bool)) {id:Nat} {L:List Oper} {a:Act} {w:World} (hr:∀w,E w w) (ht:∀a b c,E a b->E b c->E a c)
 (hm:P.follows .mixedOrders=true) (hB:lT L.toArray k l=true)
 (hQ:∀d v c a w,Q (.panic c) (a.put d v) w->Q (.panic c) a w) (h:aZ1 P L.toArray E Q (wpList P L.toArray Q (L.drop k)) l a w.drew):(Code.region id L.toArray true).wp P Q a w:=aG0 E k l hr ht hm hB hQ h.out
theorem bK (l:List (Nat×Bool)) {id:Nat} {a:Act} {w:World} (hB:(P.follows .mixedOrders&&rW ops l)=true)
  (hQ:∀d v c a w,Q (.panic c) (a.put d v) w->Q (.panic c) a w) (h:aZ1 P ops aB Q (Q .normal) l a w.drew):(Code.region id ops true).wp P Q a w :=
 lV aB l aB.refl aB.trans (Bool.and_eq_true_iff.1 hB).1 (Bool.and_eq_true_iff.1 hB).2 hQ h
theorem lC {P:Program} {Q:Exit->Act->World->Prop} (k:Nat) (l:List (Nat×Bool)) {id:Nat} {L:List Oper} {a:Act} {w:World}
  (hB:(P.follows .mixedOrders&&lT L.toArray k l)=true)
  (hQ:∀d v c a w,Q (.panic c) (a.put d v) w->Q (.panic c) a w) (h:aZ1 P L.toArray aB Q (wpList P L.toArray Q (L.drop k)) l a w.drew):(Code.region id L.toArray true).wp P Q a w :=
 qB0 aB k l aB.refl aB.trans (Bool.and_eq_true_iff.1 hB).1 (Bool.and_eq_true_iff.1 hB).2 hQ h
theorem aH {i:Nat} {rest:List (Nat×Bool)} {a:Act} {w:World} {o:Oper} (ho:ops[i]?=some o)
  (h:∀K:Act->Prop,(∀a,aZ1 P ops E Q fin rest a w->K a)->if Region.wanted o (yielded ops a.tmps) then aM P o a E w K else K (a.put o.dst undef)):aZ1 P ops E Q fin ((i,false)::rest) a w :=
 ⟨vU0 ho λK hK=>h K λa ha=>hK a ha.out⟩
theorem bH {i:Nat} {rest:List (Nat×Bool)} {a:Act} {w:World} {o:Oper} (ho:ops[i]?=some o) (hw:Region.wanted o (yielded ops a.tmps)=true)
  (h:∀K:Act->World->Prop,(∀a w,aZ1 P ops E Q fin rest a w->K a w)->o.wp P a w (λa' w'=>E w w'/\K a' w') Q):aZ1 P ops E Q fin ((i,true)::rest) a w :=
 ⟨nP0 ho hw λK hK=>h K λa w ha=>hK a w ha.out⟩
theorem cB {a:Act} {w:World} (h:fin a w):aZ1 P ops E Q fin [] a w:=⟨h⟩
end
theorem dU {P:Program} {f:FuncId} {args:Array Value} {w:World} {v:Value} (h:Calls P f args w λe w'=>e=.returned v/\w=w'):Calls P f args w λe q6=>e=.returned v/\q6=w:=h.mono λ_ _ ⟨he,hw⟩=>⟨he,hw.symm⟩
theorem cO {B:Nat} {w:World} {p:Addr} {v:Value} (hb:p.block<B) (hc:w.cell? p=some v) (x:Ext (EB B) w):x.u.cell? p=some v:=by
 rw[Below.cell x.h.1 hb];exact hc
end
section
open Go Go.RowKit
attribute [local go_sem] aO
def tM:Nat->Nat->List UInt8
 | 0,_=>[]
 | f+1,n=>if n<128 then [Ab n] else Ab (n%128+128)::tM f (n/128)
def putU (n:Nat):List UInt8:=tM 10 n
theorem uM:∀(f g n:Nat),n<128^f->f<=g->0<f->tM g n=tM f n
 | 0,_,_,_,_,h=>by omega
 | f+1,0,_,_,h,_=>by omega
 | f+1,g+1,n,h,gv,_=>by
  unfold tM;by_cases h1:n<128
  ·rw[if_pos h1,if_pos h1]
  ·rw[if_neg h1,if_neg h1]
   rw[Nat.pow_succ]at h;have h2:n/128<128^f:=Nat.div_lt_of_lt_mul (by rw[Ap];exact h);rcases Nat.eq_zero_or_pos f with h0|h0
   ·subst h0
    simp at h;omega
   ·rw[uM f g (n/128) h2 (by omega) h0]
theorem kN {n:Nat} (h:n<128):putU n=[Ab n]:=by unfold putU tM; rw[if_pos h]
theorem gE1 {n:Nat} (h:128<=n) (hn:n<128^9):putU n=Ab (n%128+128)::putU (n/128):=by
 have h1:putU n=Ab (n%128+128)::tM 9 (n/128):=by
  show (if n<128 then [Ab n] else Ab (n%128+128)::tM 9 (n/128))=_
  rw[if_neg (by omega)]
 have h2:n/128<128^9:=Nat.lt_of_le_of_lt (Nat.div_le_self _ _) hn;rw[h1];unfold putU;rw[uM 9 10 (n/128) h2 (by omega) (by omega)]
theorem mD0:∀(f n:Nat),(tM f n).length<=f
 | 0,_=>by simp[tM]
 | f+1,n=>by
  unfold tM;split
  ·simp
  ·have:=mD0 f (n/128)
   simp only[Ak];omega
theorem cY (n:Nat):(putU n).length<=10:=mD0 10 n
theorem qT1:∀x:Fin 256,bits BinOp.or .u8 (x.val:Int) 128=((x.val%128+128:Nat):Int):=by decide +kernel
theorem jB0 (k:Nat):bits BinOp.or .u8 ((k:Int)%256) 128=((Ab (k%128+128)).toNat:Int):=by
 have h:=qT1 ⟨k%256,Az _ (by decide)⟩;have e:(((⟨k%256,Az _ (by decide)⟩:Fin 256).val:Nat):Int)=(k:Int)%256:=by simp
 rw[e]at h;rw[h,Ad];simp only;omega
theorem bY1 {k:Nat} (h:k<128):Value.int .u8 (k:Int)=.int .u8 ((Ab k).toNat:Int):=by
 rw[Ad];congr 1;omega
def Src (w:World) (base:Nat) (v:Value) (xs:List UInt8):Prop :=
 aX w base 5 1 aY v xs\/∃a,v=.slice a xs.length xs.length/\aG w a 1 (xs.map aY)/\(a=none->xs=[])
theorem gA0 {ops:Array Oper} {rest:List Oper} {o:Oper} {a:Act} {Q:Exit->Act->World->Prop} {w W:World}
  (lw:o.guard=none) (s x:Operand) (io:o.op=.call { callee:=.builtin .append,args:=#[s,x],argTypes:=#[28,28] })
  (base:Nat) (v:Value) (xs:List UInt8) (y:UInt8) (hs:a.eval s=v) (aa:Src w base v xs) (ia:aB w W) (n c:Nat) (hn:n=W.heap.size) (cs:Array Value) (cj:cs.toList=aY y)
  (hx:a.eval x=.slice (some ⟨n,0,none⟩) 1 c) (ah:xs.length+1<=140737488355328) (bu:base<=w.heap.size)
  (h:∀v' w',aX w' base 5 1 aY v' (xs++[y])->(∀a0,aB a0 w->a0.heap.size<=base->aB a0 w')->wpList Tryz.prog ops Q rest (a.put o.dst v') w') :
  wpList Tryz.prog ops Q (o::rest) a (W.alloc (.cells cs 5)):=by
 rcases aa with aa|⟨b,rfl,ac,di⟩
 ·exact yV0 bJ lw s x io base v xs y hs aa ia n c hn cs cj hx (by omega) bu h
 ·obtain⟨i,z,hi,hz,cg,i7,ml⟩:=bJ.info
  have jv:aB w (W.alloc (.cells cs 5)):=ia.al _
  refine wpList_append_grows _ lw s x _ io 5 i z 1 1 bJ.sl hi hz cg i7 ml (by decide) b xs.length xs.length (xs.flatMap aY) hs (λhb=>by rw[di hb];exact⟨rfl,rfl⟩) (gJ bJ.len xs) (λad had j u hu=>?_)
   ⟨n,0,none⟩ 1 c (aY y) hx rfl (λj u hu=>eZ hn j u (by rw[cj];exact hu)) (bJ.one y) (by omega) (by unfold maxLen;omega) (by omega) ?_
  ·obtain⟨i',jj,y',h1,h2,h3⟩:=mL bJ.len xs j u hu
   have aj:xs.map aY≠[]:=by rintro e;rw[Am]at e;subst e;simp at h2
   obtain⟨b',off,ha,hc⟩:=ac aj;rw[had]at ha;obtain rfl:=Option.some.inj ha;have bh:=hc i' (aY y') (by rw[Ao,h2];rfl) jj u h3
   have:(⟨b',off,none⟩:Addr).add j=⟨b',off+i'*1+jj,none⟩:=by
    unfold Ba;by_cases h0:j=0
    ·subst h0
     have na:i'=0/\jj=0:=by omega
     simp[na.1,na.2]
    ·simp[h0];omega
   rw[this];exact jv.cell bh
  ·intro v' w' h1 h2
   refine h v' w' ?_ (λa0 h0 hb=>(h0.tr jv).grown h2 (λq hq=>by cases hq))
   have h3:w'.ownsRow (W.alloc (.cells cs 5)).heap.size 5 1 v' (xs++[y]).length ((xs++[y]).flatMap aY):=by
    rw[Ac,List.length_singleton,Ah];simpa using h1
   exact xC h3 (Ae bu jv.size)
theorem cM {α:Type} {w:World} {base:Nat} {e:TypeId} {k:Nat} {enc:α->List Value} {a:Option Addr} {n c:Nat} {xs:List α} (h:aX w base e k enc (.slice a n c) xs):a=none->c=0:=by
 intro ha;rcases h.2 with ⟨h1,_⟩|⟨g,cap,cp,h1,_⟩
 ·have:a=none/\n=0/\c=0:=by simpa using h1
  exact this.2.2
 ·rw[ha]at h1;simp at h1
theorem jE0 (xs:List UInt8) (a:Option Addr) (c:Nat) (w:World) (hx:xs.length<=1099511627776) (ac:aG w a 1 (xs.map aY)) (hn:a=none->c=0) :
  Calls Tryz.prog 191 #[.slice a xs.length c] w λe w'=>∃v,e=.returned v/\aX w' w.heap.size 5 1 aY v xs/\aB w w':=by
 have HAT:=At ac
 cases a with
 | none =>
  obtain rfl:=hn rfl
  have m8:xs=[]:=Decidable.byContradiction λaj=>by
   obtain⟨b,off,h,_⟩:=ac (by simpa using aj);cases h
  subst m8;have hq:=λw=>Al (P:=Tryz.prog) w 28 5 none 0 0 0 0 Tryz.underlying28;clear ac hn HAT;go_enter Tryz.func191,Tryz.ntmps191
  go_wp2_with fail
  go_ret;exact⟨_,rfl,aX.nil _ _ _ _ _,aB.refl _⟩
 | some ad =>
  have hq:=λw=>Al (P:=Tryz.prog) w 28 5 (some ad) xs.length c 0 0 Tryz.underlying28;clear ac hn;go_enter Tryz.func191,Tryz.ntmps191
  have HSRC:=At (HAT.out.grows (aB.alloc w (.cells #[] 5)));go_wp2_with (at_builtin;refine tG bJ rfl _ _ rfl w.heap.size _ [] xs rfl (yQ w.heap.size (Af _)) (aB.refl _) (some ad) c rfl HSRC.out (λh=>by cases h) (by simp;omega) (by simp) ?_;intro v' w3 au ax)
  go_ret;rw[As]at au;exact⟨_,rfl,au,ax w (aB.alloc _ _) (Af _)⟩
theorem sH0 (xs:List UInt8) (a:Option Addr) (c:Nat) (w:World) (hc:xs.length<=c) :
  Calls Tryz.prog 190 #[.slice a xs.length c] w λe w'=>e=.returned (.slice a xs.length xs.length)/\w=w':=by
 go_enter Tryz.func190,Tryz.ntmps190
 go_wp2_with fail
 go_ret;exact⟨rfl,rfl⟩
theorem lD (xs:List UInt8) (a:Option Addr) (c n:Nat) (w:World) (hx:xs.length<=1099511627776) (hv:n<=1048576) (ac:aG w a 1 (xs.map aY)) (hn:a=none->c=0) :
  Calls Tryz.prog 125 #[.slice a xs.length c,.int .u64 n] w λe w'=>∃v,e=.returned v/\aX w' w.heap.size 5 1 aY v (xs++putU n)/\aB w w':=by
 have CC:=At (jE0 xs a c w hx ac hn);clear ac hn;go_enter Tryz.func125,Tryz.ntmps125
 go_wp2_with fail
 refine CC.out.mono ?_;rintro e w1 ⟨v1,rfl,aq,an⟩;obtain⟨a1,c1,rfl,h11,h12,cm⟩:=aq.at_ bJ.len;have jf:=cM aq;go_wp2_with fail
 refine(sH0 xs a1 c1 w1 h11).mono ?_;rintro e w2 ⟨rfl,rfl⟩;have fw:Src w1 w.heap.size (.slice a1 xs.length xs.length) xs:=Or.inr ⟨a1,rfl,cm,λh=>Ag (by have:=jf h;omega)⟩;clear aq cm jf CC;go_wp2_with fail
 go_loopw [0,1] (λb v wr=>∃(k:Nat) (pre:List UInt8),v=.int .u64 k/\Src wr w.heap.size b (xs++pre)/\Hid (pre++putU k=putU n)/\k<=1048576/\aB w wr) (λ_ v _=>(intOf v).toNat)
 case atStart=>exact⟨n,[],rfl,by rw[Ar];exact fw,rfl,hv,an⟩
 case round =>
  obtain⟨k,pre,rfl,hs,hp,hk,hg⟩:=hrel
  have nc:pre.length<=10:=by
   have h1:=congrArg List.length hp.out;have h2:=cY n;rw[Ac]at h1;omega
  by_cases acq:128<=k
  ·have cn:(128:Int)<=k:=by omega
   have hb:=At (jB0 k);rw[gE1 acq (by omega)]at hp;go_wp2_with (at_builtin;refine gA0 rfl _ _ rfl w.heap.size _ (xs++pre) (Ab (k%128+128)) rfl hs (aB.refl _) _ 1 rfl _ (by rw[hb.out];rfl) rfl (by rw[Ac];omega) hg.size ?_;intro v' w5 ar bv)
   go_roundw
   case rel=>exact⟨k/128,pre++[Ab (k%128+128)],by go_num,Or.inl (by rw[<-Aj];exact ar),by show (pre++[_])++putU (k/128)=putU n;rw[Aj];exact hp.out,by omega,bv w hg (Af _)⟩
   case measure=>simp[intOf];omega
  ·have cn:¬(128:Int)<=k:=by omega
   have hb:=At (bY1 (k:=k) (by omega));rw[kN (by omega)]at hp;go_wp2_with (at_builtin;refine gA0 rfl _ _ rfl w.heap.size _ (xs++pre) (Ab k) rfl hs (aB.refl _) _ 1 rfl _ (by rw[hb.out];rfl) rfl (by rw[Ac];omega) hg.size ?_;intro v' w5 ar bv)
   go_ret;refine⟨_,rfl,?_,bv w hg (Af _)⟩;rw[<-hp.out,<-Aj];exact ar
end
section
open Go Go.RowKit
theorem jK {α:Type} {enc:α->List Value} {k:Nat} (hk:∀x,(enc x).length=k) {w:World} {e:TypeId} {base n:Nat} (hb:base<=w.heap.size) (xs:List α) {cs:Array Value} (cj:cs.toList=xs.flatMap enc) (hn:xs.length=n) (hl:n<=maxLen) :
  aX (w.alloc (.cells cs e)) base e k enc (.slice (some ⟨w.heap.size,0,none⟩) n n) xs:=by
 subst hn;have ah:=gJ hk xs;refine⟨ah,Or.inr ⟨w.heap.size,xs.length,cs,rfl,hb,?_,Af _,hl,?_,?_⟩⟩
 ·show (w.heap.push _)[w.heap.size]?=_
  simp
 ·rw[<-Array.length_toList,cj,ah]
 ·rw[cj,<-ah,List.take_length]
def kI (n:Nat):List Value:=[.int .u64 n]
def rD (b:Bool):List Value:=[.bool b]
def lK (n:Nat):List Value:=[.int .i64 n]
def stC (s:ByteArray):List Value:=[.string s]
theorem aQ1:eG Tryz.prog 206 213 1 8 kI where
 sl:=Tryz.underlying206
 info:=gV (z:=.int .u64 0) (by kernel_rfl) rfl
 pos:=by decide
 by1:=by decide
 len _:=rfl
 one x u hu:=by
  simp[kI]at hu;subst hu;rfl
theorem aD0:eG Tryz.prog 205 4 1 1 rD where
 sl:=Tryz.underlying205
 info:=gV (z:=.bool false) (by kernel_rfl) rfl
 pos:=by decide
 by1:=by decide
 len _:=rfl
 one x u hu:=by
  simp[rD]at hu;subst hu;rfl
theorem tJ:eG Tryz.prog 109 3 1 8 lK where
 sl:=Tryz.underlying109
 info:=gV (z:=.int .i64 0) (by kernel_rfl) rfl
 pos:=by decide
 by1:=by decide
 len _:=rfl
 one x u hu:=by
  simp[lK]at hu;subst hu;rfl
theorem qP1:eG Tryz.prog 65 9 1 16 stC where
 sl:=Tryz.underlying65
 info:=gV (z:=.string ByteArray.empty) (by kernel_rfl) rfl
 pos:=by decide
 by1:=by decide
 len _:=rfl
 one x u hu:=by
  simp[stC]at hu;subst hu;rfl
theorem at1 {α:Type} {w:World} {a:Option Addr} {xs:List α} {f:α->Value} (h:aG w a 1 (xs.map λx=>[f x])) (hn:xs≠[]):∃b o,a=some ⟨b,o,none⟩/\∀k x,xs[k]?=some x->w.cell? ⟨b,o+k,none⟩=some (f x):=by
 obtain⟨b,o,ha,hc⟩:=aG.get (enc:=λx=>[f x]) h hn;exact⟨b,o,ha,λk x hx=>by simpa using hc k x hx 0 _ rfl⟩
end
section
open Go Go.RowKit
attribute [local go_sem] aO aM
theorem zC (x V:Nat):(x:Int)/2^V=((x>>>V:Nat):Int):=by rw[Nat.shiftRight_eq_div_pow]; push_cast; rfl
theorem bT0 (x:Nat):Ab (x%256)=Ab x:=by
 apply UInt8.toNat_inj.1
 rw[Ad,Ad];omega
theorem iP0 (x:Nat):[Value.int .u8 ((x:Int)%256)]=aY (Ab x):=by
 unfold aY;rw[Ad];congr 2
theorem bL1 (n w:Nat) (hw:w<=64):(#[Value.int .u8 ((n:Int)%256),.int .u8 ((n:Int)/256%256),.int .u8 ((n:Int)/65536%256),.int .u8 ((n:Int)/16777216%256),.int .u8 (w:Int)]:Array Value).toList=(leB 4 n++[Ab w]).flatMap aY:=by
 have h:leB 4 n=[Ab n,Ab (n/256),Ab (n/65536),Ab (n/16777216)]:=by
  unfold leB;simp[List.range_succ]
 rw[h,qD];simp only[List.cons_append,As,List.map_cons,List.map_nil,Ad];rw[Aq (show w<2^8 by omega)]
 congr 1
theorem iA0 {l:List Nat} {W k t x:Nat} (hx:l[k]?=some x) (ht:t<W):bitAt l W (k*W+t)=x.testBit t:=by
 unfold bitAt
 have h1:(k*W+t)/W=k:=by
  rw[Ap,Nat.mul_add_div (by omega),Nat.div_eq_of_lt ht,Ax]
 have h2:(k*W+t)%W=t:=by rw[Ap,Nat.mul_add_mod,Aq ht]
 rw[h1,h2,List.getD_eq_getElem?_getD,hx];rfl
end
section
open Go Go.RowKit
inductive mO where
 | done
 | quiet (i:Nat) (t:mO)
 | late (i:Nat) (t:mO)
 | alt (s t:mO)
def mO.heads:mO->List Nat
 | .late i _=>[i]
 | .alt s t=>s.heads++t.heads
 | _=>[]
def mO.len:mO->Nat
 | .done=>0
 | .quiet _ t=>t.len+1
 | .late _ t=>t.len+1
 | .alt s _=>s.len
section
variable {P:Program} {ops:Array Oper} {Q:Exit->Act->World->Prop} {md:Region.Mode} {E:World->World->Prop} {fin:Act->World->Prop}
def jS (P:Program) (ops:Array Oper) (E:World->World->Prop) (Q:Exit->Act->World->Prop) (fin:Act->World->Prop):mO->Act->World->Prop
 | .done,a,w=>fin a w
 | .quiet i t,a,w=>match ops[i]? with
  | none=>False
  | some o=>if Region.wanted o (yielded ops a.tmps) then aM P o a E w (λa'=>jS P ops E Q fin t a' w) else jS P ops E Q fin t (a.put o.dst undef) w
 | .late i t,a,w=>match ops[i]? with
  | none=>False
  | some o=>if Region.wanted o (yielded ops a.tmps) then o.wp P a w (λa' w'=>E w w'/\jS P ops E Q fin t a' w') Q else jS P ops E Q fin t (a.put o.dst undef) w
 | .alt s t,a,w=>jS P ops E Q fin s a w/\jS P ops E Q fin t a w
def lL (md:Region.Mode) (ops:Array Oper):Bool->mO->Array Bool->Bool
 | b,.done,listed => !b&&decide (Region.ready md ops listed=[])
 | b,.quiet i t,listed => !b&&(Region.ready md ops listed).contains i&&Region.free md ops listed i&&lL md ops false t (listed.setIfInBounds i true)
 | b,.late i t,listed=>(Region.ready md ops listed).contains i&&(b||(Region.ready md ops listed).all λj=>j==i)&&lL md ops false t (listed.setIfInBounds i true)
 | b,.alt s t,listed=>decide (s.len=t.len)&&(b||(Region.ready md ops listed).all λj=>(s.heads++t.heads).contains j)&&lL md ops true s listed&&lL md ops true t listed
theorem oD0 (hr:∀w,E w w) {i:Nat} {t:mO} {a:Act} {w:World} {n:Nat} {listed:Array Bool} (h:jS P ops E Q fin (.late i t) a w) (hk:∀a' w',jS P ops E Q fin t a' w'->iT P md ops Q E n (listed.setIfInBounds i true) a' w') :
  wpOp P ops Q i (λa' w'=>(E w w'/\iT P md ops Q E n (listed.setIfInBounds i true) a' w')\/(mB0 md ops i=true/\wpAny P md ops Q n (listed.setIfInBounds i true) a' w')) a w:=by
 unfold jS at h;unfold wpOp;split at h
 ·exact h.elim
 ·rename_i o ho
  simp only[ho];split at h
  ·rename_i hw
   simp only[hw,if_true];exact .inl (Oper.wp_mono (λa' w' h' => .inl ⟨h'.1,hk _ _ h'.2⟩) h)
  ·rename_i hw
   simp only[hw] at ⊢;exact .inl ⟨hr _,hk _ _ h⟩
theorem eI0:∀(t:mO) (listed:Array Bool),lL md ops true t listed=true->(∃n,t.len=n+1)/\∃i,i∈Region.ready md ops listed
 | .done,_,h=>by simp[lL]at h
 | .quiet _ _,_,h=>by simp[lL]at h
 | .late i t,_,h=>by
  simp only[lL,Aa]at h;exact⟨⟨t.len,rfl⟩,i,by simpa using h.1.1⟩
 | .alt s t,listed,h=>by
  simp only[lL,Aa]at h;exact eI0 s listed h.1.2
theorem fT (hr:∀w,E w w) (ht:∀a b c,E a b->E b c->E a c) (hs:Region.noSelect ops=true)
  (hQ:∀d v c a w,Q (.panic c) (a.put d v) w->Q (.panic c) a w) (av:∀a w,fin a w->Q .normal a w):∀(t:mO) (listed:Array Bool),kR md ops listed ->
  (∀a w,lL md ops false t listed=true->jS P ops E Q fin t a w->iT P md ops Q E t.len listed a w) /\
  (∀a w,lL md ops true t listed=true->jS P ops E Q fin t a w->∀n,t.len=n+1->∀i∈t.heads,i∈Region.ready md ops listed ->
   wpOp P ops Q i (λa' w'=>(E w w'/\iT P md ops Q E n (listed.setIfInBounds i true) a' w')\/(mB0 md ops i=true/\wpAny P md ops Q n (listed.setIfInBounds i true) a' w')) a w)
 | .done,listed,ci=>by
  refine⟨λa w hB h=>?_,λa w hB=>by simp[lL]at hB⟩;simp only[lL,Bool.not_false,Bool.true_and,decide_eq_true_eq]at hB;exact⟨hB,av _ _ h⟩
 | .quiet i t,listed,ci=>by
  refine⟨λa w hB h=>?_,λa w hB=>by simp[lL]at hB⟩;simp only[lL,Aa]at hB;obtain⟨⟨⟨_,dd⟩,hf⟩,qj⟩:=hB;have gj:i∈Region.ready md ops listed:=by simpa using dd
  unfold jS at h;show iT P md ops Q E (t.len+1) listed a w
  split at h
  ·exact h.elim
  ·rename_i o ho
   split at h
   ·rename_i hw
    obtain⟨v,hv,hk⟩:=h;exact kH hr ht ho (Region.noSelect_spec hs) hQ _ listed a w ci (Region.free_spec ho hf) gj (.inl ⟨hw,hv⟩) ((fT hr ht hs hQ av t _ (dH ci gj)).1 _ _ qj hk)
   ·rename_i hw
    exact kH hr ht ho (Region.noSelect_spec hs) hQ _ listed a w ci (Region.free_spec ho hf) gj (.inr ⟨by simpa using hw,rfl⟩) ((fT hr ht hs hQ av t _ (dH ci gj)).1 _ _ qj h)
 | .late i t,listed,ci=>by
  have key:∀b a w,lL md ops b (.late i t) listed=true->jS P ops E Q fin (.late i t) a w->wpOp P ops Q i (λa' w'=>(E w w'/\iT P md ops Q E t.len (listed.setIfInBounds i true) a' w')\/(mB0 md ops i=true/\wpAny P md ops Q t.len (listed.setIfInBounds i true) a' w')) a w:=λb a w hB h=>by
   simp only[lL,Aa]at hB;obtain⟨⟨dd,_⟩,qj⟩:=hB;have gj:i∈Region.ready md ops listed:=by simpa using dd
   exact oD0 hr h λa' w' h'=>(fT hr ht hs hQ av t _ (dH ci gj)).1 _ _ qj h'
  refine⟨λa w hB h=>?_,λa w hB h n hn j hj _=>?_⟩
  ·have k7:=hB
   simp only[lL,Aa,Au]at k7;obtain⟨⟨dd,aw⟩,_⟩:=k7;refine⟨λh0=>(by rw[h0]at dd;simp at dd),λj hj=>?_⟩;obtain rfl:j=i:=by simpa using List.all_eq_true.1 aw j hj
   exact key false a w hB h
  ·obtain rfl:j=i:=by simpa [mO.heads] using hj
   obtain rfl:t.len=n:=by simpa [mO.len] using hn
   exact key true a w hB h
 | .alt s t,listed,ci=>by
  have both:∀b a w,lL md ops b (.alt s t) listed=true->jS P ops E Q fin (.alt s t) a w->∀n,s.len=n+1->∀i∈s.heads++t.heads,i∈Region.ready md ops listed ->
    wpOp P ops Q i (λa' w'=>(E w w'/\iT P md ops Q E n (listed.setIfInBounds i true) a' w')\/(mB0 md ops i=true/\wpAny P md ops Q n (listed.setIfInBounds i true) a' w')) a w:=λb a w hB h n hn i hi dd=>by
   simp only[lL,Aa,decide_eq_true_eq]at hB;obtain⟨⟨⟨hl,_⟩,dw⟩,ew⟩:=hB;rcases List.mem_append.1 hi with hi|hi
   ·exact(fT hr ht hs hQ av s listed ci).2 a w dw h.1 n hn i hi dd
   ·exact(fT hr ht hs hQ av t listed ci).2 a w ew h.2 n (by rw[<-hl];exact hn) i hi dd
  refine⟨λa w hB h=>?_,λa w hB h n hn i hi dd=>both true a w hB h n hn i hi dd⟩;have k7:=hB;simp only[lL,Aa,decide_eq_true_eq,Au]at k7;obtain⟨⟨⟨hl,aw⟩,dw⟩,ew⟩:=k7;show iT P md ops Q E s.len listed a w
  obtain⟨⟨n,hn⟩,i0,re⟩:=eI0 s listed dw;rw[hn];refine⟨λh0=>(by rw[h0]at re;cases re),λj hj=>both false a w hB h n hn j (by simpa using List.all_eq_true.1 aw j hj) hj⟩
def pT0 (ops:Array Oper) (t:mO):Bool:=Region.noSelect ops&&decide (t.len=ops.size)&&lL .any ops false t (Array.replicate ops.size false)
structure eA1 (P:Program) (ops:Array Oper) (E:World->World->Prop) (Q:Exit->Act->World->Prop) (fin:Act->World->Prop) (t:mO) (a:Act) (w:World):Prop where
 out:jS P ops E Q fin t a w
def iM0 (a:Act) (l:List (Option Nat×Value)):Act:=l.foldl (λa p=>a.put p.1 p.2) a
theorem pW0 {ι:Type} (E:World->World->Prop) (t:mO) (upd:ι->List (Option Nat×Value)) (F:ι->World->Prop) {id:Nat} {a:Act} {w:World} (hr:∀w,E w w) (ht:∀a b c,E a b->E b c->E a c)
  (hm:P.follows .mixedOrders=true) (hB:pT0 ops t=true)
  (hQ:∀d v c a w,Q (.panic c) (a.put d v) w->Q (.panic c) a w) (h:eA1 P ops E Q (λa' w'=>∃x,F x w'/\a'=iM0 a (upd x)) t a w.drew)
  (hk:∀x w',F x w'->Q .normal (iM0 a (upd x)) w'):(Code.region id ops true).wp P Q a w:=by
 simp only[pT0,Aa,decide_eq_true_eq]at hB;obtain⟨⟨hs,hl⟩,hB⟩:=hB
 have:=(fT (md:=.any) (Q:=Q) hr ht hs hQ (λa' w' (h:∃x,F x w'/\a'=iM0 a (upd x))=>by obtain⟨x,hF,rfl⟩:=h;exact hk x w' hF) t _ (iK _ _)).1 a w.drew hB h.out
 rw[hl]at this;exact wp_region_any hm (kS _ _ _ _ this)
theorem jJ {i:Nat} {t:mO} {a:Act} {w:World} {o:Oper} (ho:ops[i]?=some o)
  (h:∀K:Act->Prop,(∀a,eA1 P ops E Q fin t a w->K a)->if Region.wanted o (yielded ops a.tmps) then aM P o a E w K else K (a.put o.dst undef)):eA1 P ops E Q fin (.quiet i t) a w:=by
 refine⟨?_⟩;unfold jS;simp only[ho];exact h _ λ_ ha=>ha.out
theorem dF {i:Nat} {t:mO} {a:Act} {w:World} {o:Oper} (ho:ops[i]?=some o) (hw:Region.wanted o (yielded ops a.tmps)=true)
  (h:∀K:Act->World->Prop,(∀a w,eA1 P ops E Q fin t a w->K a w)->o.wp P a w (λa' w'=>E w w'/\K a' w') Q):eA1 P ops E Q fin (.late i t) a w:=by
 refine⟨?_⟩;unfold jS;simp only[ho,hw,if_true];exact h _ λ_ _ ha=>ha.out
theorem uH0 {s t:mO} {a:Act} {w:World} (h1:eA1 P ops E Q fin s a w) (h2:eA1 P ops E Q fin t a w):eA1 P ops E Q fin (.alt s t) a w:=⟨⟨h1.out,h2.out⟩⟩
theorem cK0 {a:Act} {w:World} (h:fin a w):eA1 P ops E Q fin .done a w:=⟨h⟩
end
end
end Go.Proofs.YthgklnohcmaopaaGreatDoor
