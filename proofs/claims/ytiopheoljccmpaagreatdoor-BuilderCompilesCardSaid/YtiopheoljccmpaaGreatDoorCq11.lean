/- The texts Own2 bJ, one behind the other. -/
import Derived.Test.YtiopheoljccmpaaGreatDoorCq1
import Derived.Maps.RangeWalk
import Derived.Maps.Views
import Derived.Sort.OwnSorted
import Derived.Sort.Grow
import Derived.Deep.Draws
open Nat renaming le_trans → Aa,le_refl → Ab
namespace Go.Proofs.YtiopheoljccmpaaGreatDoor
section
open Go Go.RowKit
theorem aB.grownBy {w w':World} (h:aB w w'):w.grownBy w' none:=⟨Below.os h,Below.tape h,Below.output h,Below.size h,λk hk _=>Below.block h k hk⟩
theorem bQ {H:Type} {P:Program} {k:TypeId} {R:Value->Option (DataW H×List MemPlace)} {w w':World} {b n:Nat} {D:DataW H} (h:w.ownsMap P k R b n D) (hg:aB w w'):w'.ownsMap P k R b n D:=h.kept hg.grownBy (by simp)
theorem jJ0 {H:Type} {P:Program} {k:TypeId} {R:Value->Option (DataW H×List MemPlace)} {w w':World} {b r n kq:Nat} {left:Lit->Bool} {D:DataW H} (h:w.ranges P k R b r n D left kq) (hg:aB w w'):w'.ranges P k R b r n D left kq:=h.kept hg.grownBy (by simp) (by simp)
theorem nM0 {α:Type} {P:Program} {t e:TypeId} {k bytes:Nat} {enc:α->List Value} (L:eG P t e k bytes enc) {ops:Array Oper} {rest:List Oper} {o:Oper} {a:Act} {Q:Exit->Act->World->Prop} {w W:World}
  (ll:o.guard=none) (s x:Operand) (lr:o.op=.call { callee:=.builtin .append,args:=#[s,x],argTypes:=#[t,t] })
  (base:Nat) (v:Value) (xs:List α) (y:α) (hs:a.eval s=v) (ae:aO w base e k enc v xs) (fx:aB w W) (n c:Nat) (hn:n=W.heap.size) (cs:Array Value) (dz:cs.toList=enc y)
  (hx:a.eval x=.slice (some ⟨n,0,none⟩) 1 c) (ay:(xs.length+1)*bytes<=140737488355328) (dl:base<=w.heap.size)
  (h:∀v' w',aO w' base e k enc v' (xs++[y])->(W.alloc (.cells cs e)).grownBy w' v.ownBlock->(∀a0,aB a0 w->a0.heap.size<=base->aB a0 w')->wpList P ops Q rest (a.put o.dst v') w') :
  wpList P ops Q (o::rest) a (W.alloc (.cells cs e)):=by
 obtain⟨i,z,hi,hz,fg,mq,qb⟩:=L.info;have js:xs.length+1<=140737488355328:=Aa (Nat.le_mul_of_pos_right _ L.by1) ay;have lu:aB w (W.alloc (.cells cs e)):=fx.al _;have aj:=dJ ae lu
 refine wpList_append_own _ ll s x t lr base e i z k bytes L.sl hi hz fg mq qb L.pos v xs.length (xs.flatMap enc) hs aj ⟨n,0,none⟩ 1 c (enc y) hx (by rw[L.len,Nat.one_mul])
  (λj u hu=>eN hn j u (by rw[dz];exact hu)) (L.one y) (by unfold maxLen;omega) ay (Aa dl lu.size) ?_
 intro v' w' h1 h2 _;refine h v' w' ?_ h2 (λa0 h0 hb=>(h0.tr lu).grown h2 (λq hq=>Aa hb (bF ae q hq)));unfold aO;rw[List.length_append,List.length_singleton,List.flatMap_append];simpa using h1
theorem aG0 {α H:Type} {P:Program} {k0:TypeId} {R:Value->Option (DataW H×List MemPlace)} {w:World} {b n:Nat} {D:DataW H} {base:Nat} {e:TypeId} {k:Nat} {enc:α->List Value} {v:Value} {xs:List α} (h:aO w base e k enc v xs) (hm:w.ownsMap P k0 R b n D):some b≠v.ownBlock:=by
 obtain⟨es,clock,hb,_⟩:=hm;rcases h.2 with ⟨rfl,_⟩|⟨g,cap,ei,rfl,_,hh,_⟩
 ·simp[Value.ownBlock]
 ·intro e1
  have:b=g:=by simpa [Value.ownBlock] using e1
  subst this;rw[hh]at hb;cases hb
theorem kN0 {α H:Type} {P:Program} {k0:TypeId} {R:Value->Option (DataW H×List MemPlace)} {w:World} {b r n kq:Nat} {left:Lit->Bool} {D:DataW H} {base:Nat} {e:TypeId} {k:Nat} {enc:α->List Value} {v:Value} {xs:List α} (h:aO w base e k enc v xs) (hr:w.ranges P k0 R b r n D left kq):some r≠v.ownBlock:=row_ne_iter h hr
theorem bC0 {α:Type} {w w':World} {row:Option Nat} {base:Nat} {e:TypeId} {k:Nat} {enc:α->List Value} {v:Value} {xs:List α} (h:aO w base e k enc v xs) (hg:w.grownBy w' row) (aw:v.ownBlock=none\/v.ownBlock≠row):aO w' base e k enc v xs:=World.ownsRow.kept h hg aw
def bJ (w w':World):Prop:=aB w w'/\w.drawn<=w'.drawn
theorem bJ.refl (w:World):bJ w w:=⟨aB.refl w,Ab _⟩
theorem bJ.trans (a b c:World) (h:bJ a b) (k:bJ b c):bJ a c:=⟨aB.trans _ _ _ h.1 k.1,Aa h.2 k.2⟩
theorem bJ.tr {a b c:World} (h:bJ a b) (k:bJ b c):bJ a c:=bJ.trans _ _ _ h k
theorem bJ.alloc (w:World) (o:Obj):bJ w (w.alloc o):=⟨aB.alloc _ _,Ab _⟩
theorem bJ.drew (w:World):bJ w w.drew:=⟨aB.drew _,Nat.le_succ _⟩
instance (w:World):Nonempty (Ext bJ w):=⟨⟨w,bJ.refl w⟩⟩
theorem dU {w:World} {p:Addr} {v:Value} (hc:w.cell? p=some v) (x:Ext bJ w):x.u.cell? p=some v:=x.h.1.cell hc
theorem kD {P:Program} {f:FuncId} {args:Array Value} {w:World} {v:Value} (h:Calls P f args w λe w'=>e=.returned v/\w=w') :
 Calls P f args w λe lq=>e=.returned v/\∃y:Ext bJ w,lq=y.u:=h.mono λ_ _ ⟨he,hw⟩=>⟨he,⟨w,bJ.refl w⟩,hw.symm⟩
theorem bJ.grow {w w':World} (h:bJ w w'):∃q os',w'=Sort.grow (w.drewN q) os':=by
 obtain⟨⟨h1,h2,h3,h4,h5⟩,h6⟩:=h;refine⟨w'.drawn-w.drawn,w'.heap.extract w.heap.size w'.heap.size,?_⟩
 have hh:w'.heap=w.heap++w'.heap.extract w.heap.size w'.heap.size:=by
  apply Array.ext_getElem?
  intro i;by_cases hi:i<w.heap.size
  ·rw[Array.getElem?_append_left hi];exact h5 i hi
  ·have hi':w.heap.size<=i:=Nat.le_of_not_lt hi
   rw[Array.getElem?_append_right hi',Array.getElem?_extract];by_cases gb:i<w'.heap.size
   ·rw[if_pos (by omega)];congr 1;omega
   ·rw[if_neg (by omega)];exact Array.getElem?_eq_none (by omega)
 obtain⟨a1,a2,a3,a4,a5⟩:=w;obtain⟨b1,b2,b3,b4,b5⟩:=w';simp only at h1 h2 h3 h6 hh;subst h1 h2 h3;unfold Sort.grow World.drewN;simp only[World.mk.injEq,true_and,and_true];exact⟨hh,by omega⟩
end
end Go.Proofs.YtiopheoljccmpaaGreatDoor
