/- The texts Own2 GrowsD, one behind the other. -/
import Derived.Test.YtepoiefadjoabaaGreatDoorH2
import Derived.Maps.RangeWalk
import Derived.Maps.Views
import Derived.Sort.OwnSorted
import Derived.Sort.Grow
import Derived.Deep.Draws
namespace Go.Proofs.YtepoiefadjoabaaGreatDoor
open Go Go.RowKit
theorem Grows.grownBy {w w' : World} (h : Grows w w') : w.grownBy w' none := ⟨Below.os h, Below.tape h, Below.output h, Below.size h, fun k hk _ => Below.block h k hk⟩
theorem ownsMap_grows {H : Type} {P : Program} {k : TypeId} {R : Value → Option (DataW H × List MemPlace)} {w w' : World} {b n : Nat} {D : DataW H} (h : w.ownsMap P k R b n D) (hg : Grows w w') : w'.ownsMap P k R b n D := h.kept hg.grownBy (by simp)
theorem ranges_grows {H : Type} {P : Program} {k : TypeId} {R : Value → Option (DataW H × List MemPlace)} {w w' : World} {b r n cnt : Nat} {left : Lit → Bool} {D : DataW H} (h : w.ranges P k R b r n D left cnt) (hg : Grows w w') : w'.ranges P k R b r n D left cnt := h.kept hg.grownBy (by simp) (by simp)
theorem app_one3 {α : Type} {P : Program} {t e : TypeId} {k bytes : Nat} {enc : α → List Value} (L : ElemLay P t e k bytes enc) {ops : Array Oper} {rest : List Oper} {o : Oper} {a : Act} {Q : Exit → Act → World → Prop} {w W : World}
  (hgd : o.guard = none) (s x : Operand) (hop : o.op = .call { callee:=.builtin .append,args:=#[s,x],argTypes:=#[t,t] })
  (base : Nat) (v : Value) (xs : List α) (y : α) (hs : a.eval s = v) (hown : Owns w base e k enc v xs) (hgr : Grows w W) (n c : Nat) (hn : n = W.heap.size) (cs : Array Value) (hcs : cs.toList = enc y)
  (hx : a.eval x = .slice (some ⟨n,0,none⟩) 1 c) (hlen : (xs.length + 1) * bytes ≤ 140737488355328) (hbase : base ≤ w.heap.size)
  (h : ∀ v' w',Owns w' base e k enc v' (xs ++ [y]) → (W.alloc (.cells cs e)).grownBy w' v.ownBlock → (∀ a0,Grows a0 w → a0.heap.size ≤ base → Grows a0 w') → wpList P ops Q rest (a.put o.dst v') w') :
  wpList P ops Q (o :: rest) a (W.alloc (.cells cs e)):=by
 obtain ⟨i,z,hi,hz,hsize,hby,hzs⟩:=L.info
 have hl1 : xs.length + 1 ≤ 140737488355328:=Nat.le_trans (Nat.le_mul_of_pos_right _ L.by1) hlen
 have hgr2 : Grows w (W.alloc (.cells cs e)):=hgr.al _
 have hown2:=ownsRow_grows hown hgr2
 refine wpList_append_own _ hgd s x t hop base e i z k bytes L.sl hi hz hsize hby hzs L.pos v xs.length (xs.flatMap enc) hs hown2 ⟨n,0,none⟩ 1 c (enc y) hx (by rw [L.len,Nat.one_mul])
  (fun j u hu => alloc_new_at hn j u (by rw [hcs];exact hu)) (L.one y) (by unfold maxLen;omega) hlen (Nat.le_trans hbase hgr2.size) ?_
 intro v' w' h1 h2 _
 refine h v' w' ?_ h2 (fun a0 h0 hb => (h0.tr hgr2).grown h2 (fun q hq => Nat.le_trans hb (ownBlock_ge hown q hq)))
 unfold Owns
 rw [List.length_append,List.length_singleton,List.flatMap_append]
 simpa using h1
theorem owns_ne_map {α H : Type} {P : Program} {k0 : TypeId} {R : Value → Option (DataW H × List MemPlace)} {w : World} {b n : Nat} {D : DataW H} {base : Nat} {e : TypeId} {k : Nat} {enc : α → List Value} {v : Value} {xs : List α} (h : Owns w base e k enc v xs) (hm : w.ownsMap P k0 R b n D) : some b ≠ v.ownBlock := by
 obtain ⟨es,clock,hb,_⟩:=hm
 rcases h.2 with ⟨rfl,_⟩ | ⟨g,cap,cur,rfl,_,hh,_⟩
 ·simp [Value.ownBlock]
 ·intro e1
  have : b = g:=by simpa [Value.ownBlock] using e1
  subst this
  rw [hh] at hb;cases hb
theorem owns_ne_iter {α H : Type} {P : Program} {k0 : TypeId} {R : Value → Option (DataW H × List MemPlace)} {w : World} {b r n cnt : Nat} {left : Lit → Bool} {D : DataW H} {base : Nat} {e : TypeId} {k : Nat} {enc : α → List Value} {v : Value} {xs : List α} (h : Owns w base e k enc v xs) (hr : w.ranges P k0 R b r n D left cnt) : some r ≠ v.ownBlock := row_ne_iter h hr
theorem owns_kept {α : Type} {w w' : World} {row : Option Nat} {base : Nat} {e : TypeId} {k : Nat} {enc : α → List Value} {v : Value} {xs : List α} (h : Owns w base e k enc v xs) (hg : w.grownBy w' row) (hne : v.ownBlock = none ∨ v.ownBlock ≠ row) : Owns w' base e k enc v xs := World.ownsRow.kept h hg hne
end Go.Proofs.YtepoiefadjoabaaGreatDoor
namespace Go.Proofs.YtepoiefadjoabaaGreatDoor
open Go Go.RowKit
def GrowsD (w w' : World) : Prop := Grows w w' ∧ w.drawn ≤ w'.drawn
theorem GrowsD.refl (w : World) : GrowsD w w := ⟨Grows.refl w, Nat.le_refl _⟩
theorem GrowsD.trans (a b c : World) (h : GrowsD a b) (k : GrowsD b c) : GrowsD a c := ⟨Grows.trans _ _ _ h.1 k.1, Nat.le_trans h.2 k.2⟩
theorem GrowsD.tr {a b c : World} (h : GrowsD a b) (k : GrowsD b c) : GrowsD a c := GrowsD.trans _ _ _ h k
theorem GrowsD.alloc (w : World) (o : Obj) : GrowsD w (w.alloc o) := ⟨Grows.alloc _ _, Nat.le_refl _⟩
theorem GrowsD.drew (w : World) : GrowsD w w.drew := ⟨Grows.drew _, Nat.le_succ _⟩
instance (w : World) : Nonempty (Ext GrowsD w) := ⟨⟨w, GrowsD.refl w⟩⟩
theorem ext_cellD {w : World} {p : Addr} {v : Value} (hc : w.cell? p = some v) (x : Ext GrowsD w) : x.u.cell? p = some v := x.h.1.cell hc
theorem calls_ext_sameD {P : Program} {f : FuncId} {args : Array Value} {w : World} {v : Value} (h : Calls P f args w fun e w' => e = .returned v ∧ w = w') :
  Calls P f args w fun e w'' => e = .returned v∧∃ y : Ext GrowsD w,w'' = y.u:=h.mono fun _ _ ⟨he,hw⟩ => ⟨he,⟨w,GrowsD.refl w⟩,hw.symm⟩
theorem GrowsD.grow {w w' : World} (h : GrowsD w w') : ∃ q os', w' = Sort.grow (w.drewN q) os' := by
 obtain ⟨⟨h1,h2,h3,h4,h5⟩,h6⟩:=h
 refine ⟨w'.drawn - w.drawn,w'.heap.extract w.heap.size w'.heap.size, ?_⟩
 have hh : w'.heap = w.heap ++ w'.heap.extract w.heap.size w'.heap.size:=by
  apply Array.ext_getElem?
  intro i
  by_cases hi : i < w.heap.size
  ·rw [Array.getElem?_append_left hi];exact h5 i hi
  ·have hi' : w.heap.size ≤ i:=Nat.le_of_not_lt hi
   rw [Array.getElem?_append_right hi',Array.getElem?_extract]
   by_cases hi2 : i < w'.heap.size
   ·rw [if_pos (by omega)];congr 1;omega
   ·rw [if_neg (by omega)];exact Array.getElem?_eq_none (by omega)
 obtain ⟨a1,a2,a3,a4,a5⟩:=w
 obtain ⟨b1,b2,b3,b4,b5⟩:=w'
 simp only at h1 h2 h3 h6 hh
 subst h1 h2 h3
 unfold Sort.grow World.drewN
 simp only [World.mk.injEq,true_and,and_true]
 exact ⟨hh,by omega⟩
end Go.Proofs.YtepoiefadjoabaaGreatDoor
