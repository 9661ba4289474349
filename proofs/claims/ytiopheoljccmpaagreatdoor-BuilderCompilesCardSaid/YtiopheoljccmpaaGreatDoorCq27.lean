/- The texts App5 Blk AppL, one behind the other. -/
import Derived.Test.YtiopheoljccmpaaGreatDoorCq11
import Derived.Test.YtiopheoljccmpaaGreatDoorCq20
open Nat renaming le_trans → Aa,le_refl → Ab
namespace Go.Proofs.YtiopheoljccmpaaGreatDoor
section
open Go Go.RowKit
def xS (w:World) (v v':Value):Prop:=v'.ownBlock=v.ownBlock\/∃q,v'.ownBlock=some q/\w.heap.size<=q
def qN (v u:Value):Prop:=∀q,v.ownBlock=some q->u.ownBlock≠some q
theorem qN.symm {v u:Value} (h:qN v u):qN u v:=λq hu hv=>h q hv hu
theorem qN.nil (a b:Nat) (u:Value):qN (.slice none a b) u:=λq h=>by simp[Value.ownBlock]at h
theorem gP {α:Type} {w:World} {base:Nat} {e:TypeId} {k:Nat} {enc:α->List Value} {v:Value} {xs:List α} (h:aO w base e k enc v xs):∀q,v.ownBlock=some q->q<w.heap.size:=by
 intro q hq;rcases h.2 with ⟨rfl,_⟩|⟨g,cap,ei,rfl,_,hh,_⟩
 ·cases hq
 ·have:g=q:=Option.some.inj hq
  subst this;exact(Array.getElem?_eq_some_iff.1 hh).1
theorem qN.fresh {w:World} {v v' u:Value} (h:qN v u) (hu:∀q,u.ownBlock=some q->q<w.heap.size) (hf:xS w v v'):qN v' u:=by
 intro q hq b9;rcases hf with hf|⟨r,hr,o4⟩
 ·exact h q (hf▸hq) b9
 ·have:r=q:=Option.some.inj (hr.symm.trans hq)
  have:=hu q b9
  omega
theorem qN.later {α:Type} {w:World} {base:Nat} {e:TypeId} {k:Nat} {enc:α->List Value} {v u:Value} {xs:List α} (h:aO w base e k enc v xs) (hu:∀q,u.ownBlock=some q->w.heap.size<=q):qN v u:=λq hq b9=>by
 have:=gP h q hq
 have:=hu q b9
 omega
theorem mF {α:Type} {w w':World} {base:Nat} {e:TypeId} {k:Nat} {enc:α->List Value} {v u:Value} {ys:List α} (h:aO w base e k enc u ys) (hg:w.grownBy w' v.ownBlock) (ha:qN v u):aO w' base e k enc u ys:=by
 refine bC0 h hg ?_
 cases hu:u.ownBlock with
 | none=>exact Or.inl rfl
 | some q=>exact Or.inr (λhv=>ha q hv.symm hu)
theorem pK {w w':World} {a:Option Addr} {k:Nat} {rows:List (List Value)} {row:Option Nat} (h:aF w a k rows) (hg:w.grownBy w' row) (aw:∀q:Addr,a=some q->some q.block≠row):aF w' a k rows:=λhn=>by
 obtain⟨b,off,ha,hc⟩:=h hn;exact⟨b,off,ha,λi row hi j v hj=>hg.cell (hc i row hi j v hj) (aw ⟨b,off,none⟩ ha)⟩
theorem wU (w:World) (row:Option Nat):w.grownBy w row:=⟨rfl,rfl,rfl,Ab _,λ_ _ _=>rfl⟩
section
variable {P:Program} (w:World)
theorem nV (base:Nat) (t ty e:TypeId) (i:TypeInfo) (z:Value) (size bytes:Nat) (ht:P.underlying t=some (.slice e)) (hi:P.info? e=some i) (hz:i.zero=some z)
  (fg:i.size=size) (mq:i.bytes=bytes) (qb:z.cells.size=size) (dm:0<size)
  (v:Value) (n:Nat) (xs:List Value) (ae:w.ownsRow base e size v n xs)
  (a:Addr) (m c:Nat) (news:List Value) (hl:news.length=m*size) (vv:∀j u,news[j]?=some u->w.cell? (a.add j)=some u) (h1:∀u∈news,u.oneCell'=true)
  (h63:n+m<=maxLen) (ur:(n+m)*bytes<=140737488355328) (dl:base<=w.heap.size) :
  ∃v' w',(Builtin.append_ #[t,t] ty #[v,.slice (some a) m c]).run P w=.ok v' w'/\w'.ownsRow base e size v' (n+m) (xs++news)/\w.grownBy w' v.ownBlock/\xS w v v':=by
 obtain⟨v',w',hr,h2,h3,_⟩:=run_append_own (P:=P) w base t ty e i z size bytes ht hi hz fg mq qb dm v n xs ae a m c news hl vv h1 h63 ur dl;refine⟨v',w',hr,h2,h3,?_⟩;rcases ae.2 with ⟨rfl,rfl⟩|⟨g,cap,ei,rfl,hbg,hg,tp,hcm,dz,ajq⟩
 ·have hx:xs=[]:=List.eq_nil_of_length_eq_zero (by simpa using ae.1)
  subst hx;obtain⟨v2,w2,dd,h22,_,_⟩:=run_append_own (P:=P) w w.heap.size t ty e i z size bytes ht hi hz fg mq qb dm (.slice none 0 0) 0 [] (World.ownsRow_nil w w.heap.size e size) a m c news hl vv h1 h63 ur (Ab _)
  have hv:v'=v2:=by
   rw[hr]at dd;injection dd
  subst hv
  cases hv:v'.ownBlock with
  | none=>exact Or.inl (by rw[hv];rfl)
  | some q=>exact Or.inr ⟨q,hv,bF h22 q hv⟩
 ·subst fg
  subst mq;by_cases ab9:n+m<=cap
  ·have je:n*i.size+news.length<=ei.size:=by rw[hl,dz,<-Nat.add_mul];exact Nat.mul_le_mul_right _ ab9
   have dd:=run_append_room (P:=P) w t ty e i ht hi g n cap ei hg a m c news hl vv h1 ab9 je;rw[hr]at dd;injection dd with hv _
   exact Or.inl (by rw[hv];rfl)
  ·have ahj:n+m<=9223372036854775807:=by simp only[maxLen]at h63;omega
   have holds:∀j u,xs[j]?=some u->w.cell? ((⟨g,0,none⟩:Addr).add j)=some u:=ae.cells (g:=g) rfl;have dd:=run_append_grow (P:=P) w t ty e i z ht hi hz ⟨g,0,none⟩ n cap xs ae.1 holds a m c news hl vv (by omega) (by omega) (growslice_fits (by omega) ur);rw[hr]at dd;injection dd with hv _
   exact Or.inr ⟨w.heap.size,by rw[hv];rfl,Ab _⟩
end
theorem aL0 {α:Type} {P:Program} {t e:TypeId} {k bytes:Nat} {enc:α->List Value} (L:eG P t e k bytes enc) {ops:Array Oper} {rest:List Oper} {o:Oper} {a:Act} {Q:Exit->Act->World->Prop} {w W:World}
  (ll:o.guard=none) (s x:Operand) (lr:o.op=.call { callee:=.builtin .append,args:=#[s,x],argTypes:=#[t,t] })
  (base:Nat) (v:Value) (xs ys:List α) (hs:a.eval s=v) (ae:aO w base e k enc v xs) (fx:aB w W) (sa:Option Addr) (sc:Nat)
  (hx:a.eval x=.slice sa ys.length sc) (jn:aF W sa k (ys.map enc)) (iw:sa=none->sc=0) (ay:(xs.length+ys.length)*bytes<=140737488355328) (dl:base<=w.heap.size)
  (h:∀v' w',aO w' base e k enc v' (xs++ys)->W.grownBy w' v.ownBlock->xS W v v'->(∀a0,aB a0 w->a0.heap.size<=base->aB a0 w')->wpList P ops Q rest (a.put o.dst v') w') :
  wpList P ops Q (o::rest) a W:=by
 obtain⟨i,z,hi,hz,fg,mq,qb⟩:=L.info;have js:xs.length+ys.length<=140737488355328:=Aa (Nat.le_mul_of_pos_right _ L.by1) ay;have aj:=dJ ae fx
 cases sa with
 | none =>
  obtain rfl:=iw rfl
  have hy:ys=[]:=Decidable.byContradiction λaw=>by
   have xx:ys.map enc≠[]:=by simpa using aw
   obtain⟨b,off,ha,_⟩:=jn xx;cases ha
  subst hy;refine wpList_append_own_none ll s x t lr base e i k L.sl hi v xs.length (xs.flatMap enc) hs aj hx ?_;refine h v W ?_ (wU _ _) (Or.inl rfl) (λa0 h0 _=>h0.tr fx);rw[List.append_nil];exact aj
 | some ad =>
  have bj:∀(j:Nat) (u:Value),(ys.flatMap enc)[j]?=some u->W.cell? (ad.add j)=some u:=by
   intro j u hu;obtain⟨i',jj,y,h1,h2,h3⟩:=lX L.len ys j u hu;have aw:ys.map enc≠[]:=by rintro e;rw[List.map_eq_nil_iff]at e;subst e;simp at h2
   obtain⟨b,off,ha,hc⟩:=jn aw;obtain rfl:=Option.some.inj ha;have cj:=hc i' (enc y) (by rw[List.getElem?_map,h2];rfl) jj u h3;unfold Addr.add;by_cases h0:j=0
   ·subst h0
    have lw:i'*k=0/\jj=0:=by omega
    rw[if_pos rfl];rw[lw.1,lw.2]at cj;simpa using cj
   ·rw[if_neg h0]
    subst h1;rw[<-Nat.add_assoc];exact cj
  obtain⟨v',w',hr,h2,h3,h4⟩:=nV (P:=P) W base t o.type e i z k bytes L.sl hi hz fg mq qb L.pos v xs.length (xs.flatMap enc) aj ad ys.length sc (ys.flatMap enc) (fO L.len ys) bj
   (λu hu=>by obtain⟨y,_,hy⟩:=List.mem_flatMap.1 hu;exact L.one y u hy) (by unfold maxLen;omega) ay (Aa dl fx.size)
  refine wpList_plain ll λK hK=>?_;unfold Oper.wp execOp;simp only[lr,resolve,invoke,builtin,Sem.run_bind,Sem.run_pure,Result.andThen_ok,List.map_toArray,List.map_cons,List.map_nil,hs,hx,hr];refine hK _ _ (h v' w' ?_ h3 h4 (λa0 h0 hb=>(h0.tr fx).grown h3 (λq hq=>Aa hb (bF ae q hq))));unfold aO;rw[List.length_append,List.flatMap_append];exact h2
theorem aV {α:Type} {P:Program} {t e:TypeId} {k bytes:Nat} {enc:α->List Value} (L:eG P t e k bytes enc) {ops:Array Oper} {rest:List Oper} {o:Oper} {a:Act} {Q:Exit->Act->World->Prop} {w W:World}
  (ll:o.guard=none) (s x:Operand) (lr:o.op=.call { callee:=.builtin .append,args:=#[s,x],argTypes:=#[t,t] })
  (base:Nat) (v:Value) (xs:List α) (y:α) (hs:a.eval s=v) (ae:aO w base e k enc v xs) (fx:aB w W) (n c:Nat) (hn:n=W.heap.size) (cs:Array Value) (dz:cs.toList=enc y)
  (hx:a.eval x=.slice (some ⟨n,0,none⟩) 1 c) (ay:(xs.length+1)*bytes<=140737488355328) (dl:base<=w.heap.size)
  (h:∀v' w',aO w' base e k enc v' (xs++[y])->W.grownBy w' v.ownBlock->xS W v v'->(∀a0,aB a0 w->a0.heap.size<=base->aB a0 w')->wpList P ops Q rest (a.put o.dst v') w') :
  wpList P ops Q (o::rest) a (W.alloc (.cells cs e)):=by
 subst hn
 have ah:aF (W.alloc (.cells cs e)) (some ⟨W.heap.size,0,none⟩) k ([y].map enc):=λ_=>⟨W.heap.size,0,rfl,λi row hi j u hj=>by
  match i,hi with
  | 0,hi =>
   obtain rfl:=Option.some.inj hi;simpa using aX W cs e (0,0) j u (by rw[<-dz]at hj;simpa using hj)⟩
 refine aL0 L ll s x lr base v xs [y] hs ae (fx.al _) (some ⟨W.heap.size,0,none⟩) c hx ah (λh=>by cases h) ay dl (λv' w' h1 h2 h3 h4=>h v' w' h1 ?_ ?_ h4)
 ·have h5:=World.grownBy_alloc W (.cells cs e) v.ownBlock
  exact⟨h2.os.trans h5.os,h2.tape.trans h5.tape,h2.output.trans h5.output,Aa h5.size h2.size,λk hk aw=>(h2.block k (Nat.lt_of_lt_of_le hk h5.size) aw).trans (h5.block k hk aw)⟩
 ·rcases h3 with h3|⟨q,h3,h6⟩
  ·exact Or.inl h3
  ·exact Or.inr ⟨q,h3,by simp at h6;omega⟩
end
section
open Go Go.RowKit
theorem zJ {α:Type} {w:World} {base:Nat} {e:TypeId} {k:Nat} {enc:α->List Value} {v:Value} {xs:List α} {ab:Option Addr} (h:aO w base e k enc v xs) (hq:∀q:Addr,ab=some q->q.block<base):∀q:Addr,ab=some q->some q.block≠v.ownBlock:=λq ha hv=>by
 have h1:=bF h _ hv.symm;have h2:=hq q ha;omega
theorem vU0 {α:Type} {w:World} {base:Nat} {e:TypeId} {k:Nat} {enc:α->List Value} {v:Value} {xs:List α} {ab:Option Addr} (h:aO w base e k enc v xs) (hq:∀q:Addr,ab=some q->w.heap.size<=q.block):∀q:Addr,ab=some q->some q.block≠v.ownBlock:=λq ha hv=>by
 have h1:=gP h _ hv.symm;have h2:=hq q ha;omega
theorem EB.mono {B B':Nat} {w w':World} (h:EB B' w w') (hb:B<=B'):EB B w w':=⟨Below.mono h.1 hb,h.2⟩
theorem EB.own {α:Type} {w w':World} {base:Nat} {e:TypeId} {k:Nat} {enc:α->List Value} {v:Value} {xs:List α} (h:aO w base e k enc v xs) (hk:w.grownBy w' v.ownBlock) (hb:base<=w.heap.size):EB base w w' :=
 ⟨Below.grown (Below.refl _ _) hk hb (bF h),hk.size⟩
theorem oY0 {α:Type} {w:World} {base:Nat} {e:TypeId} {k:Nat} {enc:α->List Value} {a:Option Addr} {n c:Nat} {xs:List α} (hk:∀x,(enc x).length=k) (h:aO w base e k enc (.slice a n c) xs):aF w a k (xs.map enc):=by
 obtain⟨a',c',he,_,_,h2⟩:=h.at_ hk;injection he with h1
 rw[h1];exact h2
def EK (B:Nat) (p:Addr) (u:Value) (a b:World):Prop:=EB B a b/\(a.cell? p=some u->b.cell? p=some u)
theorem EK.refl (B:Nat) (p:Addr) (u:Value) (w:World):EK B p u w w:=⟨EB.refl B w,λh=>h⟩
theorem EK.trans (B:Nat) (p:Addr) (u:Value) (a b c:World) (h:EK B p u a b) (k:EK B p u b c):EK B p u a c:=⟨EB.trans B a b c h.1 k.1,λx=>k.2 (h.2 x)⟩
instance extEK (B:Nat) (p:Addr) (u:Value) (w:World):Nonempty (Ext (EK B p u) w):=⟨⟨w,EK.refl B p u w⟩⟩
end
end Go.Proofs.YtiopheoljccmpaaGreatDoor
