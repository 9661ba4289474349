/- The texts Own2 aX, one behind the other. -/
import Derived.Test.YthgklnohcmaopaaGreatDoorTq1
import Derived.Maps.RangeWalk
import Derived.Maps.Views
import Derived.Sort.OwnSorted
import Derived.Sort.Grow
import Derived.Deep.Draws
open Nat renaming le_trans → Aa,le_refl → Ab
namespace Go.Proofs.YthgklnohcmaopaaGreatDoor
section
open Go Go.RowKit
theorem aB.grownBy {w w':World} (h:aB w w'):w.grownBy w' none:=⟨Below.os h,Below.tape h,Below.output h,Below.size h,λk hk _=>Below.block h k hk⟩
theorem bC {H:Type} {P:Program} {k:TypeId} {R:Value->Option (DataW H×List MemPlace)} {w w':World} {b n:Nat} {D:DataW H} (h:w.ownsMap P k R b n D) (hg:aB w w'):w'.ownsMap P k R b n D:=h.kept hg.grownBy (by simp)
theorem fN0 {H:Type} {P:Program} {k:TypeId} {R:Value->Option (DataW H×List MemPlace)} {w w':World} {b r n om:Nat} {left:Lit->Bool} {D:DataW H} (h:w.ranges P k R b r n D left om) (hg:aB w w'):w'.ranges P k R b r n D left om:=h.kept hg.grownBy (by simp) (by simp)
theorem xA0 {α:Type} {P:Program} {t e:TypeId} {k bytes:Nat} {enc:α->List Value} (L:fZ P t e k bytes enc) {ops:Array Oper} {rest:List Oper} {o:Oper} {a:Act} {Q:Exit->Act->World->Prop} {w W:World}
  (gi:o.guard=none) (s x:Operand) (ja:o.op=.call { callee:=.builtin .append,args:=#[s,x],argTypes:=#[t,t] })
  (base:Nat) (v:Value) (xs:List α) (y:α) (hs:a.eval s=v) (aa:aU w base e k enc v xs) (dw:aB w W) (n c:Nat) (hn:n=W.heap.size) (cs:Array Value) (cn:cs.toList=enc y)
  (hx:a.eval x=.slice (some ⟨n,0,none⟩) 1 c) (an:(xs.length+1)*bytes<=140737488355328) (bi:base<=w.heap.size)
  (h:∀v' w',aU w' base e k enc v' (xs++[y])->(W.alloc (.cells cs e)).grownBy w' v.ownBlock->(∀a0,aB a0 w->a0.heap.size<=base->aB a0 w')->wpList P ops Q rest (a.put o.dst v') w') :
  wpList P ops Q (o::rest) a (W.alloc (.cells cs e)):=by
 obtain⟨i,z,hi,hz,cv,kj,ly⟩:=L.info;have lz:xs.length+1<=140737488355328:=Aa (Nat.le_mul_of_pos_right _ L.by1) an;have gq:aB w (W.alloc (.cells cs e)):=dw.al _;have ag:=cZ aa gq
 refine wpList_append_own _ gi s x t ja base e i z k bytes L.sl hi hz cv kj ly L.pos v xs.length (xs.flatMap enc) hs ag ⟨n,0,none⟩ 1 c (enc y) hx (by rw[L.len,Nat.one_mul])
  (λj u hu=>dQ hn j u (by rw[cn];exact hu)) (L.one y) (by unfold maxLen;omega) an (Aa bi gq.size) ?_
 intro v' w' h1 h2 _;refine h v' w' ?_ h2 (λa0 h0 hb=>(h0.tr gq).grown h2 (λq hq=>Aa hb (bE aa q hq)));unfold aU;rw[List.length_append,List.length_singleton,List.flatMap_append];simpa using h1
theorem gI0 {α H:Type} {P:Program} {k0:TypeId} {R:Value->Option (DataW H×List MemPlace)} {w:World} {b n:Nat} {D:DataW H} {base:Nat} {e:TypeId} {k:Nat} {enc:α->List Value} {v:Value} {xs:List α} (h:aU w base e k enc v xs) (hm:w.ownsMap P k0 R b n D):some b≠v.ownBlock:=by
 obtain⟨es,clock,hb,_⟩:=hm;rcases h.2 with ⟨rfl,_⟩|⟨g,cap,bv,rfl,_,hh,_⟩
 ·simp[Value.ownBlock]
 ·intro e1
  have:b=g:=by simpa [Value.ownBlock] using e1
  subst this;rw[hh]at hb;cases hb
theorem fP0 {α H:Type} {P:Program} {k0:TypeId} {R:Value->Option (DataW H×List MemPlace)} {w:World} {b r n om:Nat} {left:Lit->Bool} {D:DataW H} {base:Nat} {e:TypeId} {k:Nat} {enc:α->List Value} {v:Value} {xs:List α} (h:aU w base e k enc v xs) (hr:w.ranges P k0 R b r n D left om):some r≠v.ownBlock:=row_ne_iter h hr
theorem uE {α:Type} {w w':World} {row:Option Nat} {base:Nat} {e:TypeId} {k:Nat} {enc:α->List Value} {v:Value} {xs:List α} (h:aU w base e k enc v xs) (hg:w.grownBy w' row) (ai:v.ownBlock=none\/v.ownBlock≠row):aU w' base e k enc v xs:=World.ownsRow.kept h hg ai
def aX (w w':World):Prop:=aB w w'/\w.drawn<=w'.drawn
theorem aX.refl (w:World):aX w w:=⟨aB.refl w,Ab _⟩
theorem aX.trans (a b c:World) (h:aX a b) (k:aX b c):aX a c:=⟨aB.trans _ _ _ h.1 k.1,Aa h.2 k.2⟩
theorem aX.tr {a b c:World} (h:aX a b) (k:aX b c):aX a c:=aX.trans _ _ _ h k
theorem aX.alloc (w:World) (o:Obj):aX w (w.alloc o):=⟨aB.alloc _ _,Ab _⟩
theorem aX.drew (w:World):aX w w.drew:=⟨aB.drew _,Nat.le_succ _⟩
instance (w:World):Nonempty (Ext aX w):=⟨⟨w,aX.refl w⟩⟩
theorem dC {w:World} {p:Addr} {v:Value} (hc:w.cell? p=some v) (x:Ext aX w):x.u.cell? p=some v:=x.h.1.cell hc
theorem iS {P:Program} {f:FuncId} {args:Array Value} {w:World} {v:Value} (h:Calls P f args w λe w'=>e=.returned v/\w=w') :
 Calls P f args w λe gl=>e=.returned v/\∃y:Ext aX w,gl=y.u:=h.mono λ_ _ ⟨he,hw⟩=>⟨he,⟨w,aX.refl w⟩,hw.symm⟩
theorem aX.grow {w w':World} (h:aX w w'):∃q os',w'=Sort.grow (w.drewN q) os':=by
 obtain⟨⟨h1,h2,h3,h4,h5⟩,h6⟩:=h;refine⟨w'.drawn-w.drawn,w'.heap.extract w.heap.size w'.heap.size,?_⟩
 have hh:w'.heap=w.heap++w'.heap.extract w.heap.size w'.heap.size:=by
  apply Array.ext_getElem?
  intro i;by_cases hi:i<w.heap.size
  ·rw[Array.getElem?_append_left hi];exact h5 i hi
  ·have hi':w.heap.size<=i:=Nat.le_of_not_lt hi
   rw[Array.getElem?_append_right hi',Array.getElem?_extract];by_cases jf:i<w'.heap.size
   ·rw[if_pos (by omega)];congr 1;omega
   ·rw[if_neg (by omega)];exact Array.getElem?_eq_none (by omega)
 obtain⟨a1,a2,a3,a4,a5⟩:=w;obtain⟨b1,b2,b3,b4,b5⟩:=w';simp only at h1 h2 h3 h6 hh;subst h1 h2 h3;unfold Sort.grow World.drewN;simp only[World.mk.injEq,true_and,and_true];exact⟨hh,by omega⟩
end
end Go.Proofs.YthgklnohcmaopaaGreatDoor
