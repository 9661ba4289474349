/- The texts App5 Blk AppL, one behind the other. -/
import Derived.Test.YthgklnohcmaopaaGreatDoorTq11
import Derived.Test.YthgklnohcmaopaaGreatDoorTq20
open Nat renaming le_trans → Aa,le_refl → Ab
namespace Go.Proofs.YthgklnohcmaopaaGreatDoor
section
open Go Go.RowKit
def bU0 (w:World) (v v':Value):Prop:=v'.ownBlock=v.ownBlock\/∃q,v'.ownBlock=some q/\w.heap.size<=q
def dF0 (v u:Value):Prop:=∀q,v.ownBlock=some q->u.ownBlock≠some q
theorem dF0.symm {v u:Value} (h:dF0 v u):dF0 u v:=λq hu hv=>h q hv hu
theorem lT {α:Type} {w:World} {base:Nat} {e:TypeId} {k:Nat} {enc:α->List Value} {v:Value} {xs:List α} (h:aU w base e k enc v xs):∀q,v.ownBlock=some q->q<w.heap.size:=by
 intro q hq;rcases h.2 with ⟨rfl,_⟩|⟨g,cap,bv,rfl,_,hh,_⟩
 ·cases hq
 ·have:g=q:=Option.some.inj hq
  subst this;exact(Array.getElem?_eq_some_iff.1 hh).1
theorem dF0.fresh {w:World} {v v' u:Value} (h:dF0 v u) (hu:∀q,u.ownBlock=some q->q<w.heap.size) (hf:bU0 w v v'):dF0 v' u:=by
 intro q hq tg;rcases hf with hf|⟨r,hr,jd⟩
 ·exact h q (hf▸hq) tg
 ·have:r=q:=Option.some.inj (hr.symm.trans hq)
  have:=hu q tg
  omega
theorem vR {α:Type} {w w':World} {base:Nat} {e:TypeId} {k:Nat} {enc:α->List Value} {v u:Value} {ys:List α} (h:aU w base e k enc u ys) (hg:w.grownBy w' v.ownBlock) (ha:dF0 v u):aU w' base e k enc u ys:=by
 refine uE h hg ?_
 cases hu:u.ownBlock with
 | none=>exact Or.inl rfl
 | some q=>exact Or.inr (λhv=>ha q hv.symm hu)
theorem cE0 {w w':World} {a:Option Addr} {k:Nat} {rows:List (List Value)} {row:Option Nat} (h:aF w a k rows) (hg:w.grownBy w' row) (ai:∀q:Addr,a=some q->some q.block≠row):aF w' a k rows:=λhn=>by
 obtain⟨b,off,ha,hc⟩:=h hn;exact⟨b,off,ha,λi row hi j v hj=>hg.cell (hc i row hi j v hj) (ai ⟨b,off,none⟩ ha)⟩
theorem sW (w:World) (row:Option Nat):w.grownBy w row:=⟨rfl,rfl,rfl,Ab _,λ_ _ _=>rfl⟩
section
variable {P:Program} (w:World)
theorem lJ (base:Nat) (t ty e:TypeId) (i:TypeInfo) (z:Value) (size bytes:Nat) (ht:P.underlying t=some (.slice e)) (hi:P.info? e=some i) (hz:i.zero=some z)
  (cv:i.size=size) (kj:i.bytes=bytes) (ly:z.cells.size=size) (cw:0<size)
  (v:Value) (n:Nat) (xs:List Value) (aa:w.ownsRow base e size v n xs)
  (a:Addr) (m c:Nat) (news:List Value) (hl:news.length=m*size) (nu:∀j u,news[j]?=some u->w.cell? (a.add j)=some u) (h1:∀u∈news,u.oneCell'=true)
  (ug:n+m<=maxLen) (mu:(n+m)*bytes<=140737488355328) (bi:base<=w.heap.size) :
  ∃v' w',(Builtin.append_ #[t,t] ty #[v,.slice (some a) m c]).run P w=.ok v' w'/\w'.ownsRow base e size v' (n+m) (xs++news)/\w.grownBy w' v.ownBlock/\bU0 w v v':=by
 obtain⟨v',w',hr,h2,h3,_⟩:=run_append_own (P:=P) w base t ty e i z size bytes ht hi hz cv kj ly cw v n xs aa a m c news hl nu h1 ug mu bi;refine⟨v',w',hr,h2,h3,?_⟩;rcases aa.2 with ⟨rfl,rfl⟩|⟨g,cap,bv,rfl,x9,hg,l6,hcm,cn,ag5⟩
 ·have hx:xs=[]:=List.eq_nil_of_length_eq_zero (by simpa using aa.1)
  subst hx;obtain⟨v2,w2,bu,h22,_,_⟩:=run_append_own (P:=P) w w.heap.size t ty e i z size bytes ht hi hz cv kj ly cw (.slice none 0 0) 0 [] (World.ownsRow_nil w w.heap.size e size) a m c news hl nu h1 ug mu (Ab _)
  have hv:v'=v2:=by
   rw[hr]at bu;injection bu
  subst hv
  cases hv:v'.ownBlock with
  | none=>exact Or.inl (by rw[hv];rfl)
  | some q=>exact Or.inr ⟨q,hv,bE h22 q hv⟩
 ·subst cv
  subst kj;by_cases ye:n+m<=cap
  ·have eu:n*i.size+news.length<=bv.size:=by rw[hl,cn,<-Nat.add_mul];exact Nat.mul_le_mul_right _ ye
   have bu:=run_append_room (P:=P) w t ty e i ht hi g n cap bv hg a m c news hl nu h1 ye eu;rw[hr]at bu;injection bu with hv _
   exact Or.inl (by rw[hv];rfl)
  ·have aex:n+m<=9223372036854775807:=by simp only[maxLen]at ug;omega
   have holds:∀j u,xs[j]?=some u->w.cell? ((⟨g,0,none⟩:Addr).add j)=some u:=aa.cells (g:=g) rfl;have bu:=run_append_grow (P:=P) w t ty e i z ht hi hz ⟨g,0,none⟩ n cap xs aa.1 holds a m c news hl nu (by omega) (by omega) (growslice_fits (by omega) mu);rw[hr]at bu;injection bu with hv _
   exact Or.inr ⟨w.heap.size,by rw[hv];rfl,Ab _⟩
end
theorem cY0 {α:Type} {P:Program} {t e:TypeId} {k bytes:Nat} {enc:α->List Value} (L:fZ P t e k bytes enc) {ops:Array Oper} {rest:List Oper} {o:Oper} {a:Act} {Q:Exit->Act->World->Prop} {w W:World}
  (gi:o.guard=none) (s x:Operand) (ja:o.op=.call { callee:=.builtin .append,args:=#[s,x],argTypes:=#[t,t] })
  (base:Nat) (v:Value) (xs ys:List α) (hs:a.eval s=v) (aa:aU w base e k enc v xs) (dw:aB w W) (sa:Option Addr) (sc:Nat)
  (hx:a.eval x=.slice sa ys.length sc) (gd:aF W sa k (ys.map enc)) (fp:sa=none->sc=0) (an:(xs.length+ys.length)*bytes<=140737488355328) (bi:base<=w.heap.size)
  (h:∀v' w',aU w' base e k enc v' (xs++ys)->W.grownBy w' v.ownBlock->bU0 W v v'->(∀a0,aB a0 w->a0.heap.size<=base->aB a0 w')->wpList P ops Q rest (a.put o.dst v') w') :
  wpList P ops Q (o::rest) a W:=by
 obtain⟨i,z,hi,hz,cv,kj,ly⟩:=L.info;have lz:xs.length+ys.length<=140737488355328:=Aa (Nat.le_mul_of_pos_right _ L.by1) an;have ag:=cZ aa dw
 cases sa with
 | none =>
  obtain rfl:=fp rfl
  have hy:ys=[]:=Decidable.byContradiction λai=>by
   have aap:ys.map enc≠[]:=by simpa using ai
   obtain⟨b,off,ha,_⟩:=gd aap;cases ha
  subst hy;refine wpList_append_own_none gi s x t ja base e i k L.sl hi v xs.length (xs.flatMap enc) hs ag hx ?_;refine h v W ?_ (sW _ _) (Or.inl rfl) (λa0 h0 _=>h0.tr dw);rw[List.append_nil];exact ag
 | some ad =>
  have be:∀(j:Nat) (u:Value),(ys.flatMap enc)[j]?=some u->W.cell? (ad.add j)=some u:=by
   intro j u hu;obtain⟨i',jj,y,h1,h2,h3⟩:=nK L.len ys j u hu;have ai:ys.map enc≠[]:=by rintro e;rw[List.map_eq_nil_iff]at e;subst e;simp at h2
   obtain⟨b,off,ha,hc⟩:=gd ai;obtain rfl:=Option.some.inj ha;have bz:=hc i' (enc y) (by rw[List.getElem?_map,h2];rfl) jj u h3;unfold Addr.add;by_cases h0:j=0
   ·subst h0
    have ka:i'*k=0/\jj=0:=by omega
    rw[if_pos rfl];rw[ka.1,ka.2]at bz;simpa using bz
   ·rw[if_neg h0]
    subst h1;rw[<-Nat.add_assoc];exact bz
  obtain⟨v',w',hr,h2,h3,h4⟩:=lJ (P:=P) W base t o.type e i z k bytes L.sl hi hz cv kj ly L.pos v xs.length (xs.flatMap enc) ag ad ys.length sc (ys.flatMap enc) (fI L.len ys) be
   (λu hu=>by obtain⟨y,_,hy⟩:=List.mem_flatMap.1 hu;exact L.one y u hy) (by unfold maxLen;omega) an (Aa bi dw.size)
  refine wpList_plain gi λK hK=>?_;unfold Oper.wp execOp;simp only[ja,resolve,invoke,builtin,Sem.run_bind,Sem.run_pure,Result.andThen_ok,List.map_toArray,List.map_cons,List.map_nil,hs,hx,hr];refine hK _ _ (h v' w' ?_ h3 h4 (λa0 h0 hb=>(h0.tr dw).grown h3 (λq hq=>Aa hb (bE aa q hq))));unfold aU;rw[List.length_append,List.flatMap_append];exact h2
theorem eZ {α:Type} {P:Program} {t e:TypeId} {k bytes:Nat} {enc:α->List Value} (L:fZ P t e k bytes enc) {ops:Array Oper} {rest:List Oper} {o:Oper} {a:Act} {Q:Exit->Act->World->Prop} {w W:World}
  (gi:o.guard=none) (s x:Operand) (ja:o.op=.call { callee:=.builtin .append,args:=#[s,x],argTypes:=#[t,t] })
  (base:Nat) (v:Value) (xs:List α) (y:α) (hs:a.eval s=v) (aa:aU w base e k enc v xs) (dw:aB w W) (n c:Nat) (hn:n=W.heap.size) (cs:Array Value) (cn:cs.toList=enc y)
  (hx:a.eval x=.slice (some ⟨n,0,none⟩) 1 c) (an:(xs.length+1)*bytes<=140737488355328) (bi:base<=w.heap.size)
  (h:∀v' w',aU w' base e k enc v' (xs++[y])->W.grownBy w' v.ownBlock->bU0 W v v'->(∀a0,aB a0 w->a0.heap.size<=base->aB a0 w')->wpList P ops Q rest (a.put o.dst v') w') :
  wpList P ops Q (o::rest) a (W.alloc (.cells cs e)):=by
 subst hn
 have ac:aF (W.alloc (.cells cs e)) (some ⟨W.heap.size,0,none⟩) k ([y].map enc):=λ_=>⟨W.heap.size,0,rfl,λi row hi j u hj=>by
  match i,hi with
  | 0,hi =>
   obtain rfl:=Option.some.inj hi;simpa using aM W cs e (0,0) j u (by rw[<-cn]at hj;simpa using hj)⟩
 refine cY0 L gi s x ja base v xs [y] hs aa (dw.al _) (some ⟨W.heap.size,0,none⟩) c hx ac (λh=>by cases h) an bi (λv' w' h1 h2 h3 h4=>h v' w' h1 ?_ ?_ h4)
 ·have h5:=World.grownBy_alloc W (.cells cs e) v.ownBlock
  exact⟨h2.os.trans h5.os,h2.tape.trans h5.tape,h2.output.trans h5.output,Aa h5.size h2.size,λk hk ai=>(h2.block k (Nat.lt_of_lt_of_le hk h5.size) ai).trans (h5.block k hk ai)⟩
 ·rcases h3 with h3|⟨q,h3,h6⟩
  ·exact Or.inl h3
  ·exact Or.inr ⟨q,h3,by simp at h6;omega⟩
end
section
open Go Go.RowKit
theorem dJ0 {α:Type} {w:World} {base:Nat} {e:TypeId} {k:Nat} {enc:α->List Value} {v:Value} {xs:List α} {ab:Option Addr} (h:aU w base e k enc v xs) (hq:∀q:Addr,ab=some q->q.block<base):∀q:Addr,ab=some q->some q.block≠v.ownBlock:=λq ha hv=>by
 have h1:=bE h _ hv.symm;have h2:=hq q ha;omega
theorem pY0 {α:Type} {w:World} {base:Nat} {e:TypeId} {k:Nat} {enc:α->List Value} {v:Value} {xs:List α} {ab:Option Addr} (h:aU w base e k enc v xs) (hq:∀q:Addr,ab=some q->w.heap.size<=q.block):∀q:Addr,ab=some q->some q.block≠v.ownBlock:=λq ha hv=>by
 have h1:=lT h _ hv.symm;have h2:=hq q ha;omega
theorem kC0 {α:Type} {w:World} {base:Nat} {e:TypeId} {k:Nat} {enc:α->List Value} {a:Option Addr} {n c:Nat} {xs:List α} (hk:∀x,(enc x).length=k) (h:aU w base e k enc (.slice a n c) xs):aF w a k (xs.map enc):=by
 obtain⟨a',c',he,_,_,h2⟩:=h.at_ hk;injection he with h1
 rw[h1];exact h2
def EK (B:Nat) (p:Addr) (u:Value) (a b:World):Prop:=EB B a b/\(a.cell? p=some u->b.cell? p=some u)
theorem EK.refl (B:Nat) (p:Addr) (u:Value) (w:World):EK B p u w w:=⟨EB.refl B w,λh=>h⟩
instance extEK (B:Nat) (p:Addr) (u:Value) (w:World):Nonempty (Ext (EK B p u) w):=⟨⟨w,EK.refl B p u w⟩⟩
end
end Go.Proofs.YthgklnohcmaopaaGreatDoor
