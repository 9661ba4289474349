/- The texts App5 Blk AppL, one behind the other. -/
import Derived.Test.YthgklnohcmaopaaGreatDoorBq8
import Derived.Test.YthgklnohcmaopaaGreatDoorBq18
open Nat renaming le_mul_of_pos_right → Aa,le_trans → Ab,mul_le_mul_right → Ag,le_refl → Aj,one_mul → Ak,add_mul → Al
open List renaming flatMap_append → Ac,length_append → Ad,map_toArray → Ae,length_singleton → Af,map_cons → Ah,map_nil → Ai
namespace Go.Proofs.YthgklnohcmaopaaGreatDoor
section
open Go Go.RowKit
def pZ (w:World) (v v':Value):Prop:=v'.ownBlock=v.ownBlock\/∃q,v'.ownBlock=some q/\w.heap.size<=q
def lG (v u:Value):Prop:=∀q,v.ownBlock=some q->u.ownBlock≠some q
theorem lG.symm {v u:Value} (h:lG v u):lG u v:=λq hu hv=>h q hv hu
theorem lG.nil (a b:Nat) (u:Value):lG (.slice none a b) u:=λq h=>by simp[Value.ownBlock]at h
theorem eY {α:Type} {w:World} {base:Nat} {e:TypeId} {k:Nat} {enc:α->List Value} {v:Value} {xs:List α} (h:aT w base e k enc v xs):∀q,v.ownBlock=some q->q<w.heap.size:=by
 intro q hq;rcases h.2 with ⟨rfl,_⟩|⟨g,cap,b9,rfl,_,hh,_⟩
 ·cases hq
 ·have:g=q:=Option.some.inj hq
  subst this;exact(Array.getElem?_eq_some_iff.1 hh).1
theorem lG.fresh {w:World} {v v' u:Value} (h:lG v u) (hu:∀q,u.ownBlock=some q->q<w.heap.size) (hf:pZ w v v'):lG v' u:=by
 intro q hq q6;rcases hf with hf|⟨r,hr,np⟩
 ·exact h q (hf▸hq) q6
 ·have:r=q:=Option.some.inj (hr.symm.trans hq)
  have:=hu q q6
  omega
theorem eW {α:Type} {w w':World} {base:Nat} {e:TypeId} {k:Nat} {enc:α->List Value} {v u:Value} {ys:List α} (h:aT w base e k enc u ys) (hg:w.grownBy w' v.ownBlock) (ha:lG v u):aT w' base e k enc u ys:=by
 refine tE h hg ?_
 cases hu:u.ownBlock with
 | none=>exact Or.inl rfl
 | some q=>exact Or.inr (λhv=>ha q hv.symm hu)
theorem xR {w w':World} {a:Option Addr} {k:Nat} {rows:List (List Value)} {row:Option Nat} (h:aF w a k rows) (hg:w.grownBy w' row) (aq:∀q:Addr,a=some q->some q.block≠row):aF w' a k rows:=λhn=>by
 obtain⟨b,off,ha,hc⟩:=h hn;exact⟨b,off,ha,λi row hi j v hj=>hg.cell (hc i row hi j v hj) (aq ⟨b,off,none⟩ ha)⟩
theorem qU (w:World) (row:Option Nat):w.grownBy w row:=⟨rfl,rfl,rfl,Aj _,λ_ _ _=>rfl⟩
section
variable {P:Program} (w:World)
theorem fB (base:Nat) (t ty e:TypeId) (i:TypeInfo) (z:Value) (size bytes:Nat) (ht:P.underlying t=some (.slice e)) (hi:P.info? e=some i) (hz:i.zero=some z)
  (bu:i.size=size) (ga:i.bytes=bytes) (jv:z.cells.size=size) (cz:0<size)
  (v:Value) (n:Nat) (xs:List Value) (aa:w.ownsRow base e size v n xs)
  (a:Addr) (m c:Nat) (news:List Value) (hl:news.length=m*size) (gv:∀j u,news[j]?=some u->w.cell? (a.add j)=some u) (h1:∀u∈news,u.oneCell'=true)
  (o6:n+m<=maxLen) (gw:(n+m)*bytes<=140737488355328) (be:base<=w.heap.size) :
  ∃v' w',(Builtin.append_ #[t,t] ty #[v,.slice (some a) m c]).run P w=.ok v' w'/\w'.ownsRow base e size v' (n+m) (xs++news)/\w.grownBy w' v.ownBlock/\pZ w v v':=by
 obtain⟨v',w',hr,h2,h3,_⟩:=run_append_own (P:=P) w base t ty e i z size bytes ht hi hz bu ga jv cz v n xs aa a m c news hl gv h1 o6 gw be;refine⟨v',w',hr,h2,h3,?_⟩;rcases aa.2 with ⟨rfl,rfl⟩|⟨g,cap,b9,rfl,zk,hg,jo,hcm,ct,aa1⟩
 ·have hx:xs=[]:=List.eq_nil_of_length_eq_zero (by simpa using aa.1)
  subst hx;obtain⟨v2,w2,cd,h22,_,_⟩:=run_append_own (P:=P) w w.heap.size t ty e i z size bytes ht hi hz bu ga jv cz (.slice none 0 0) 0 [] (World.ownsRow_nil w w.heap.size e size) a m c news hl gv h1 o6 gw (Aj _)
  have hv:v'=v2:=by
   rw[hr]at cd;injection cd
  subst hv
  cases hv:v'.ownBlock with
  | none=>exact Or.inl (by rw[hv];rfl)
  | some q=>exact Or.inr ⟨q,hv,aV h22 q hv⟩
 ·subst bu
  subst ga;by_cases km:n+m<=cap
  ·have dl:n*i.size+news.length<=b9.size:=by rw[hl,ct,<-Al];exact Ag _ km
   have cd:=run_append_room (P:=P) w t ty e i ht hi g n cap b9 hg a m c news hl gv h1 km dl;rw[hr]at cd;injection cd with hv _
   exact Or.inl (by rw[hv];rfl)
  ·have zm:n+m<=9223372036854775807:=by simp only[maxLen]at o6;omega
   have holds:∀j u,xs[j]?=some u->w.cell? ((⟨g,0,none⟩:Addr).add j)=some u:=aa.cells (g:=g) rfl;have cd:=run_append_grow (P:=P) w t ty e i z ht hi hz ⟨g,0,none⟩ n cap xs aa.1 holds a m c news hl gv (by omega) (by omega) (growslice_fits (by omega) gw);rw[hr]at cd;injection cd with hv _
   exact Or.inr ⟨w.heap.size,by rw[hv];rfl,Aj _⟩
end
theorem cF0 {α:Type} {P:Program} {t e:TypeId} {k bytes:Nat} {enc:α->List Value} (L:eV P t e k bytes enc) {ops:Array Oper} {rest:List Oper} {o:Oper} {a:Act} {Q:Exit->Act->World->Prop} {w W:World}
  (io:o.guard=none) (s x:Operand) (f9:o.op=.call { callee:=.builtin .append,args:=#[s,x],argTypes:=#[t,t] })
  (base:Nat) (v:Value) (xs ys:List α) (hs:a.eval s=v) (aa:aT w base e k enc v xs) (et:aB w W) (sa:Option Addr) (sc:Nat)
  (hx:a.eval x=.slice sa ys.length sc) (du:aF W sa k (ys.map enc)) (eu:sa=none->sc=0) (ak:(xs.length+ys.length)*bytes<=140737488355328) (be:base<=w.heap.size)
  (h:∀v' w',aT w' base e k enc v' (xs++ys)->W.grownBy w' v.ownBlock->pZ W v v'->(∀a0,aB a0 w->a0.heap.size<=base->aB a0 w')->wpList P ops Q rest (a.put o.dst v') w') :
  wpList P ops Q (o::rest) a W:=by
 obtain⟨i,z,hi,hz,bu,ga,jv⟩:=L.info;have od:xs.length+ys.length<=140737488355328:=Ab (Aa _ L.by1) ak;have af:=dR aa et
 cases sa with
 | none =>
  obtain rfl:=eu rfl
  have hy:ys=[]:=Decidable.byContradiction λaq=>by
   have y9:ys.map enc≠[]:=by simpa using aq
   obtain⟨b,off,ha,_⟩:=du y9;cases ha
  subst hy;refine wpList_append_own_none io s x t f9 base e i k L.sl hi v xs.length (xs.flatMap enc) hs af hx ?_;refine h v W ?_ (qU _ _) (Or.inl rfl) (λa0 h0 _=>h0.tr et);rw[List.append_nil];exact af
 | some ad =>
  have bg:∀(j:Nat) (u:Value),(ys.flatMap enc)[j]?=some u->W.cell? (ad.add j)=some u:=by
   intro j u hu;obtain⟨i',jj,y,h1,h2,h3⟩:=mE L.len ys j u hu;have aq:ys.map enc≠[]:=by rintro e;rw[List.map_eq_nil_iff]at e;subst e;simp at h2
   obtain⟨b,off,ha,hc⟩:=du aq;obtain rfl:=Option.some.inj ha;have bi:=hc i' (enc y) (by rw[List.getElem?_map,h2];rfl) jj u h3;unfold Addr.add;by_cases h0:j=0
   ·subst h0
    have ky:i'*k=0/\jj=0:=by omega
    rw[if_pos rfl];rw[ky.1,ky.2]at bi;simpa using bi
   ·rw[if_neg h0]
    subst h1;rw[<-Nat.add_assoc];exact bi
  obtain⟨v',w',hr,h2,h3,h4⟩:=fB (P:=P) W base t o.type e i z k bytes L.sl hi hz bu ga jv L.pos v xs.length (xs.flatMap enc) af ad ys.length sc (ys.flatMap enc) (fC L.len ys) bg
   (λu hu=>by obtain⟨y,_,hy⟩:=List.mem_flatMap.1 hu;exact L.one y u hy) (by unfold maxLen;omega) ak (Ab be et.size)
  refine wpList_plain io λK hK=>?_;unfold Oper.wp execOp;simp only[f9,resolve,invoke,builtin,Sem.run_bind,Sem.run_pure,Result.andThen_ok,Ae,Ah,Ai,hs,hx,hr];refine hK _ _ (h v' w' ?_ h3 h4 (λa0 h0 hb=>(h0.tr et).grown h3 (λq hq=>Ab hb (aV aa q hq))));unfold aT;rw[Ad,Ac];exact h2
theorem eA {α:Type} {P:Program} {t e:TypeId} {k bytes:Nat} {enc:α->List Value} (L:eV P t e k bytes enc) {ops:Array Oper} {rest:List Oper} {o:Oper} {a:Act} {Q:Exit->Act->World->Prop} {w W:World}
  (io:o.guard=none) (s x:Operand) (f9:o.op=.call { callee:=.builtin .append,args:=#[s,x],argTypes:=#[t,t] })
  (base:Nat) (v:Value) (xs:List α) (y:α) (hs:a.eval s=v) (aa:aT w base e k enc v xs) (et:aB w W) (n c:Nat) (hn:n=W.heap.size) (cs:Array Value) (ct:cs.toList=enc y)
  (hx:a.eval x=.slice (some ⟨n,0,none⟩) 1 c) (ak:(xs.length+1)*bytes<=140737488355328) (be:base<=w.heap.size)
  (h:∀v' w',aT w' base e k enc v' (xs++[y])->W.grownBy w' v.ownBlock->pZ W v v'->(∀a0,aB a0 w->a0.heap.size<=base->aB a0 w')->wpList P ops Q rest (a.put o.dst v') w') :
  wpList P ops Q (o::rest) a (W.alloc (.cells cs e)):=by
 subst hn
 have ac:aF (W.alloc (.cells cs e)) (some ⟨W.heap.size,0,none⟩) k ([y].map enc):=λ_=>⟨W.heap.size,0,rfl,λi row hi j u hj=>by
  match i,hi with
  | 0,hi =>
   obtain rfl:=Option.some.inj hi;simpa using aU W cs e (0,0) j u (by rw[<-ct]at hj;simpa using hj)⟩
 refine cF0 L io s x f9 base v xs [y] hs aa (et.al _) (some ⟨W.heap.size,0,none⟩) c hx ac (λh=>by cases h) ak be (λv' w' h1 h2 h3 h4=>h v' w' h1 ?_ ?_ h4)
 ·have h5:=World.grownBy_alloc W (.cells cs e) v.ownBlock
  exact⟨h2.os.trans h5.os,h2.tape.trans h5.tape,h2.output.trans h5.output,Ab h5.size h2.size,λk hk aq=>(h2.block k (Nat.lt_of_lt_of_le hk h5.size) aq).trans (h5.block k hk aq)⟩
 ·rcases h3 with h3|⟨q,h3,h6⟩
  ·exact Or.inl h3
  ·exact Or.inr ⟨q,h3,by simp at h6;omega⟩
end
section
open Go Go.RowKit
theorem zU {α:Type} {w:World} {base:Nat} {e:TypeId} {k:Nat} {enc:α->List Value} {v:Value} {xs:List α} {ab:Option Addr} (h:aT w base e k enc v xs) (hq:∀q:Addr,ab=some q->q.block<base):∀q:Addr,ab=some q->some q.block≠v.ownBlock:=λq ha hv=>by
 have h1:=aV h _ hv.symm;have h2:=hq q ha;omega
theorem pH0 {α:Type} {w:World} {base:Nat} {e:TypeId} {k:Nat} {enc:α->List Value} {v:Value} {xs:List α} {ab:Option Addr} (h:aT w base e k enc v xs) (hq:∀q:Addr,ab=some q->w.heap.size<=q.block):∀q:Addr,ab=some q->some q.block≠v.ownBlock:=λq ha hv=>by
 have h1:=eY h _ hv.symm;have h2:=hq q ha;omega
theorem nT {α:Type} {P:Program} {t e:TypeId} {k bytes:Nat} {enc:α->List Value} (L:eV P t e k bytes enc) {o:Oper} {a:Act} {K:Act->World->Prop} {Q:Exit->Act->World->Prop} {W:World}
  (s x:Operand) (f9:o.op=.call { callee:=.builtin .append,args:=#[s,x],argTypes:=#[t,t] })
  (base:Nat) (v:Value) (xs:List α) (y:α) (hs:a.eval s=v) (aa:aT W base e k enc v xs) (b c:Nat)
  (hx:a.eval x=.slice (some ⟨b,0,none⟩) 1 c) (du:∀j u,(enc y)[j]?=some u->W.cell? ⟨b,j,none⟩=some u) (ak:(xs.length+1)*bytes<=140737488355328) (be:base<=W.heap.size)
  (h:∀v' w',aT w' base e k enc v' (xs++[y])->W.grownBy w' v.ownBlock->pZ W v v'->K (a.put o.dst v') w'):o.wp P a W K Q:=by
 obtain⟨i,z,hi,hz,bu,ga,jv⟩:=L.info;have od:xs.length+1<=140737488355328:=Ab (Aa _ L.by1) ak
 obtain⟨v',w',hr,h2,h3,h4⟩:=fB (P:=P) W base t o.type e i z k bytes L.sl hi hz bu ga jv L.pos v xs.length (xs.flatMap enc) aa ⟨b,0,none⟩ 1 c (enc y) (by rw[L.len,Ak])
  (λj u hu=>by rw[kG];exact du j u hu) (L.one y) (by unfold maxLen;omega) ak be
 unfold Oper.wp execOp;simp only[f9,resolve,invoke,builtin,Sem.run_bind,Sem.run_pure,Result.andThen_ok,Ae,Ah,Ai,hs,hx,hr];refine h v' w' ?_ h3 h4;unfold aT;rw[Ad,Af,Ac];simpa using h2
theorem xL0 {W:World} {b x:Nat} (h:W.cell? ⟨b,0,none⟩=some (.int .i64 x)):∀j u,(fI x)[j]?=some u->W.cell? ⟨b,j,none⟩=some u:=λj u hu=>by
 cases j with
 | zero=>rw[h];exact hu
 | succ j=>simp[fI]at hu
theorem zB0 {W:World} {b x:Nat} (h:W.cell? ⟨b,0,none⟩=some (.int .u64 x)):∀j u,(gT x)[j]?=some u->W.cell? ⟨b,j,none⟩=some u:=λj u hu=>by
 cases j with
 | zero=>rw[h];exact hu
 | succ j=>simp[gT]at hu
theorem xM0 (W:World) (x:Value) (t:TypeId):(W.alloc (.cells #[x] t)).cell? ⟨W.heap.size,0,none⟩=some x:=aU W _ _ (0,0) 0 _ rfl
theorem EB.mono {B B':Nat} {w w':World} (h:EB B' w w') (hb:B<=B'):EB B w w':=⟨Below.mono h.1 hb,h.2⟩
theorem EB.own {α:Type} {w w':World} {base:Nat} {e:TypeId} {k:Nat} {enc:α->List Value} {v:Value} {xs:List α} (h:aT w base e k enc v xs) (hk:w.grownBy w' v.ownBlock) (hb:base<=w.heap.size):EB base w w' :=
 ⟨Below.grown (Below.refl _ _) hk hb (aV h),hk.size⟩
theorem zJ {α:Type} {w:World} {base:Nat} {e:TypeId} {k:Nat} {enc:α->List Value} {a:Option Addr} {n c:Nat} {xs:List α} (hk:∀x,(enc x).length=k) (h:aT w base e k enc (.slice a n c) xs):aF w a k (xs.map enc):=by
 obtain⟨a',c',he,_,_,h2⟩:=h.at_ hk;injection he with h1
 rw[h1];exact h2
theorem zR {P:Program} (w:World) (base:Nat) (t ty e:TypeId) (i:TypeInfo) (z:Value) (size bytes:Nat) (ht:P.underlying t=some (.slice e)) (hi:P.info? e=some i) (hz:i.zero=some z)
  (bu:i.size=size) (ga:i.bytes=bytes) (g n cap:Nat) (xs:List Value) (aa:w.ownsRow base e size (.slice (some ⟨g,0,none⟩) n cap) n xs)
  (a:Addr) (m c:Nat) (news:List Value) (hl:news.length=m*size) (gv:∀j u,news[j]?=some u->w.cell? (a.add j)=some u) (h1:∀u∈news,u.oneCell'=true)
  (o6:n+m<=maxLen) (gw:(n+m)*bytes<=140737488355328) {v':Value} {w':World} (hr:(Builtin.append_ #[t,t] ty #[.slice (some ⟨g,0,none⟩) n cap,.slice (some a) m c]).run P w=.ok v' w') (h2:w'.ownsRow base e size v' (n+m) (xs++news)) :
  ∀j u,xs[j]?=some u->w'.cell? ⟨g,j,none⟩=some u:=λj u hj=>by
 subst bu;subst ga;have holds:∀j u,xs[j]?=some u->w.cell? ((⟨g,0,none⟩:Addr).add j)=some u:=aa.cells (g:=g) rfl;by_cases km:n+m<=cap
 ·rcases aa.2 with ⟨hv,_⟩|⟨g',ry,b9,hv,zk,hg,jo,hcm,ct,aa1⟩
  ·cases hv
  ·obtain⟨rfl,rfl⟩:g=g'/\cap=ry:=by
    injection hv with h1 h2 h3
    exact⟨congrArg Addr.block (Option.some.inj h1),h3⟩
   have dl:n*i.size+news.length<=b9.size:=by rw[hl,ct,<-Al];exact Ag _ km
   have cd:=run_append_room (P:=P) w t ty e i ht hi g n cap b9 hg a m c news hl gv h1 km dl;rw[hr]at cd;injection cd with fh _
   have hc:=h2.cells (g:=g) (by rw[fh];rfl) j u (by rw[List.getElem?_append_left (List.getElem?_eq_some_iff.1 hj).1];exact hj);rw[kG]at hc;exact hc
 ·have zm:n+m<=9223372036854775807:=by simp only[maxLen]at o6;omega
  have cd:=run_append_grow (P:=P) w t ty e i z ht hi hz ⟨g,0,none⟩ n cap xs aa.1 holds a m c news hl gv (by omega) (by omega) (growslice_fits (by omega) gw);rw[hr]at cd;injection cd with _ hw2
  rw[hw2];have hc:=holds j u hj;rw[kG]at hc;exact(aB.alloc w.drew _).cell ((aB.drew w).cell hc)
theorem sM {α:Type} {P:Program} {t e:TypeId} {k bytes:Nat} {enc:α->List Value} (L:eV P t e k bytes enc) {o:Oper} {a:Act} {K:Act->World->Prop} {Q:Exit->Act->World->Prop} {W:World}
  (s x:Operand) (f9:o.op=.call { callee:=.builtin .append,args:=#[s,x],argTypes:=#[t,t] })
  (base g cap:Nat) (xs:List α) (y:α) (hs:a.eval s=.slice (some ⟨g,0,none⟩) xs.length cap) (aa:aT W base e k enc (.slice (some ⟨g,0,none⟩) xs.length cap) xs) (b c:Nat)
  (hx:a.eval x=.slice (some ⟨b,0,none⟩) 1 c) (du:∀j u,(enc y)[j]?=some u->W.cell? ⟨b,j,none⟩=some u) (ak:(xs.length+1)*bytes<=140737488355328) (be:base<=W.heap.size)
  (h:∀v' w',aT w' base e k enc v' (xs++[y])->W.grownBy w' (some g)->pZ W (.slice (some ⟨g,0,none⟩) xs.length cap) v'->(∀j u,(xs.flatMap enc)[j]?=some u->w'.cell? ⟨g,j,none⟩=some u)->K (a.put o.dst v') w'):o.wp P a W K Q:=by
 obtain⟨i,z,hi,hz,bu,ga,jv⟩:=L.info;have od:xs.length+1<=140737488355328:=Ab (Aa _ L.by1) ak
 obtain⟨v',w',hr,h2,h3,h4⟩:=fB (P:=P) W base t o.type e i z k bytes L.sl hi hz bu ga jv L.pos _ xs.length (xs.flatMap enc) aa ⟨b,0,none⟩ 1 c (enc y) (by rw[L.len,Ak])
  (λj u hu=>by rw[kG];exact du j u hu) (L.one y) (by unfold maxLen;omega) ak be
 have h5:=zR (P:=P) W base t o.type e i z k bytes L.sl hi hz bu ga g xs.length cap (xs.flatMap enc) aa ⟨b,0,none⟩ 1 c (enc y) (by rw[L.len,Ak])
  (λj u hu=>by rw[kG];exact du j u hu) (L.one y) (by unfold maxLen;omega) ak hr h2
 unfold Oper.wp execOp;simp only[f9,resolve,invoke,builtin,Sem.run_bind,Sem.run_pure,Result.andThen_ok,Ae,Ah,Ai,hs,hx,hr];refine h v' w' ?_ h3 h4 h5;unfold aT;rw[Ad,Af,Ac];simpa using h2
theorem yP {α:Type} {w:World} {base:Nat} {e:TypeId} {k:Nat} {enc:α->List Value} {v:Value} {xs:List α} (h:aT w base e k enc v xs) (hn:0<xs.length):∃g c,v=.slice (some ⟨g,0,none⟩) xs.length c/\base<=g:=by
 rcases h.2 with ⟨_,h0⟩|⟨g,cap,b9,hv,hb,_⟩
 ·omega
 ·exact⟨g,cap,hv,hb⟩
def EK (B:Nat) (p:Addr) (u:Value) (a b:World):Prop:=EB B a b/\(a.cell? p=some u->b.cell? p=some u)
theorem EK.refl (B:Nat) (p:Addr) (u:Value) (w:World):EK B p u w w:=⟨EB.refl B w,λh=>h⟩
theorem EK.trans (B:Nat) (p:Addr) (u:Value) (a b c:World) (h:EK B p u a b) (k:EK B p u b c):EK B p u a c:=⟨EB.trans B a b c h.1 k.1,λx=>k.2 (h.2 x)⟩
instance extEK (B:Nat) (p:Addr) (u:Value) (w:World):Nonempty (Ext (EK B p u) w):=⟨⟨w,EK.refl B p u w⟩⟩
theorem mX0 {B:Nat} {p:Addr} {u:Value} {w:World} (hc:w.cell? p=some u) (x:Ext (EK B p u) w):x.u.cell? p=some u:=x.h.2 hc
end
end Go.Proofs.YthgklnohcmaopaaGreatDoor
