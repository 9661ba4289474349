/- The texts Lb3 Lb4, one behind the other. -/
import Derived.Test.YtepoiefadjoabaaGreatDoorQ41
namespace Go.Proofs.YtepoiefadjoabaaGreatDoor
open Go Go.RowKit Go.Shelf
theorem keepsFrom_row {W W' : World} {B : Nat} {row : Option Nat} {t : TypeId} (hg : W.grownBy W' row) (hr : RT W row (some t)) : KeepsFrom B W W' := ⟨hg.size, fun k o _ hk ho => by
 rw [hg.block k (Array.getElem?_eq_some_iff.1 hk).1 (fun e => ?_)]
 ·exact hk
 ·obtain ⟨o',h1,h2⟩:=hr k e.symm
  rw [hk] at h1
  cases h1
  cases o <;> simp [Obj.isCells,tyOf] at ho h2⟩
theorem keepsFrom_set {W : World} {B : Nat} {b : Nat} {cs : Array Value} {t : TypeId} (h : TB W b cs t) (o : Nat) (v : Value) : KeepsFrom B W (W.setCell ⟨b, o, none⟩ v) := keepsFrom_row (grownBy_setAny W b o v) h.rt
theorem TB.ne_row {w : World} {b : Nat} {cs : Array Value} {t e : TypeId} {row : Option Nat} (h : TB w b cs t) (hr : RT w row (some e)) (hne : e ≠ t) : row ≠ some b := fun hrow => by
 obtain ⟨o,h1,h2⟩:=hr b hrow
 rw [show w.heap[b]? = _ from h] at h1
 cases h1
 exact hne (Option.some.inj h2).symm
theorem owns_snoc {α : Type} {w : World} {base : Nat} {e : TypeId} {k : Nat} {enc : α → List Value} {v : Value} {xs : List α} {y : α} (h : Owns w base e k enc v (xs ++ [y])) : ∃ g cap, v = .slice (some ⟨g, 0, none⟩) (xs.length + 1) cap := by
 unfold Owns at h
 rw [List.length_append,List.length_singleton] at h
 exact ownsRow_succ h
structure LbJ (w : World) (s n : Nat) (lv : Value) (ds : List Nat) (xb kb lb size : Nat) (x : Span) (d : BD) (W : World) : Prop where
 st : Bst w W s n lv d
 tx : TB W xb #[.int .i64 x.i,.int .i64 x.t,.int .i64 x.d] 140
 tk : TB W kb #[.int .i64 x.i,.int .i64 x.t,.int .i64 x.d] 140
 tl : TB W lb #[lv] 51
 nx : d.vA.ownBlock ≠ some xb
 nk : d.vA.ownBlock ≠ some kb
 mks : Marks W s ds
 sz : size ≤ W.heap.size
variable {w W w' : World} {s n xb kb lb size : Nat} {lv : Value} {ds : List Nat} {x : Span} {d : BD}
theorem LbJ.other (h : LbJ w s n lv ds xb kb lb size x d W) {row : Option Nat} (hg : W.grownBy w' row) (hr : RT W row none) (hs : ∀ q, row = some q → s ≤ q) (hm : ∀ D ∈ ds, row ≠ some D) : LbJ w s n lv ds xb kb lb size x d w' :=
 ⟨h.st.other hg hr hs,h.tx.keep hg hr (by decide),h.tk.keep hg hr (by decide),h.tl.keep hg hr (by decide),h.nx,h.nk,h.mks.grown hg hm,Nat.le_trans h.sz hg.size⟩
theorem LbJ.al (h : LbJ w s n lv ds xb kb lb size x d W) (o : Obj) : LbJ w s n lv ds xb kb lb size x d (W.alloc o) :=
 h.other (World.grownBy_alloc _ _ none) (RT.none _ _) (fun q e => by cases e) (fun _ _ e => by cases e)
theorem LbJ.dr (h : LbJ w s n lv ds xb kb lb size x d W) : LbJ w s n lv ds xb kb lb size x d W.drew :=
 h.other (row:=none) ⟨rfl,rfl,rfl,Nat.le_refl _,fun _ _ _ => rfl⟩ (RT.none _ _) (fun q e => by cases e) (fun _ _ e => by cases e)
theorem LbJ.pushS (h : LbJ w s n lv ds xb kb lb size x d W) {v : Value} {sh : List Bool} (ho : Owns w' s 4 1 boolC v sh) (hg : W.grownBy w' d.vS.ownBlock) (hf : Fresh W d.vS v) :
  LbJ w s n lv ds xb kb lb size x { d with vS:=v,sh:=sh } (w'.setCell ⟨s + 5,0,none⟩ v)∧KeepsFrom size W (w'.setCell ⟨s + 5,0,none⟩ v)∧(∀ b cs,TB W b cs 140 → TB (w'.setCell ⟨s + 5,0,none⟩ v) b cs 140)∧TB w' (s + 5) #[d.vS] 138:=by
 have hr:=RT.own h.st.oS
 have k6:=h.st.b6.keep hg hr (by decide)
 have hg2:=grownBy_setAny w' (s + 5) 0 v
 have hr2:=k6.rt
 have hm1:=h.mks.grown hg (h.mks.not_row hr)
 exact ⟨⟨h.st.pushS ho hg hf,(h.tx.keep hg hr (by decide)).keep hg2 hr2 (by decide),(h.tk.keep hg hr (by decide)).keep hg2 hr2 (by decide),(h.tl.keep hg hr (by decide)).keep hg2 hr2 (by decide),h.nx,h.nk,hm1.grown hg2 (hm1.not_row hr2),Nat.le_trans h.sz (Nat.le_trans hg.size hg2.size)⟩,
  (keepsFrom_row hg hr).trans (keepsFrom_set k6 0 v),fun b cs hb => (hb.keep hg hr (by decide)).keep hg2 hr2 (by decide),k6⟩
theorem LbJ.pushL (h : LbJ w s n lv ds xb kb lb size x d W) {v : Value} {l : List UInt8} (ho : Owns w' s 5 1 byteC v l) (hg : W.grownBy w' d.vL.ownBlock) :
  LbJ w s n lv ds xb kb lb size x { d with vL:=v,lab:=l } (w'.setCell ⟨s + 2,2,none⟩ v)∧KeepsFrom size W (w'.setCell ⟨s + 2,2,none⟩ v)∧(∀ b cs,TB W b cs 140 → TB (w'.setCell ⟨s + 2,2,none⟩ v) b cs 140) ∧
   TB w' (s + 2) #[.pointer none,.pointer none,d.vL,.pointer none,.slice (some ⟨s + 1,0,none⟩) n n] 137:=by
 have hr:=RT.own h.st.oL
 have k2:=h.st.b2.keep hg hr (by decide)
 have hg2:=grownBy_setAny w' (s + 2) 2 v
 have hr2:=k2.rt
 have hm1:=h.mks.grown hg (h.mks.not_row hr)
 exact ⟨⟨h.st.pushL ho hg,(h.tx.keep hg hr (by decide)).keep hg2 hr2 (by decide),(h.tk.keep hg hr (by decide)).keep hg2 hr2 (by decide),(h.tl.keep hg hr (by decide)).keep hg2 hr2 (by decide),h.nx,h.nk,hm1.grown hg2 (hm1.not_row hr2),Nat.le_trans h.sz (Nat.le_trans hg.size hg2.size)⟩,
  (keepsFrom_row hg hr).trans (keepsFrom_set k2 2 v),fun b cs hb => (hb.keep hg hr (by decide)).keep hg2 hr2 (by decide),k2⟩
theorem TB.keepN {w w' : World} {b : Nat} {cs : Array Value} {t : TypeId} {row : Option Nat} (h : TB w b cs t) (hg : w.grownBy w' row) (hne : row ≠ some b) : TB w' b cs t := (hg.block b h.lt (fun e => hne e.symm)).trans h
theorem LbJ.pushA (h : LbJ w s n lv ds xb kb lb size x d W) {v : Value} {l : List Span} (ho : Owns w' s 140 3 spanC v l) (hg : W.grownBy w' d.vA.ownBlock) (hf : Fresh W d.vA v) :
  LbJ w s n lv ds xb kb lb size x { d with vA:=v,al:=l } (w'.setCell ⟨s + 7,0,none⟩ v)∧KeepsFrom size W (w'.setCell ⟨s + 7,0,none⟩ v)∧TB w' (s + 7) #[d.vA] 141:=by
 have hr:=RT.own h.st.oA
 have k8:=h.st.b8.keep hg hr (by decide)
 have hg2:=grownBy_setAny w' (s + 7) 0 v
 have hr2:=k8.rt
 have hm1:=h.mks.grown hg (h.mks.not_row hr)
 have fr : ∀ b,b < W.heap.size → d.vA.ownBlock ≠ some b → v.ownBlock ≠ some b:=fun b hb hne e => by
  rcases hf with hf | ⟨q,hq,hle⟩
  ·exact hne (hf ▸ e)
  ·have : q = b:=Option.some.inj (hq.symm.trans e)
   omega
 exact ⟨⟨h.st.pushA ho hg,(h.tx.keepN hg h.nx).keep hg2 hr2 (by decide),(h.tk.keepN hg h.nk).keep hg2 hr2 (by decide),(h.tl.keep hg hr (by decide)).keep hg2 hr2 (by decide),fr xb h.tx.lt h.nx,fr kb h.tk.lt h.nk,hm1.grown hg2 (hm1.not_row hr2),Nat.le_trans h.sz (Nat.le_trans hg.size hg2.size)⟩,
  (keepsFrom_row hg hr).trans (keepsFrom_set k8 0 v),k8⟩
theorem LbJ.keepB {d' : BD} {W' : World} (h : LbJ w s n lv ds xb kb lb size x d W) (h' : LbJ w s n lv ds xb kb lb size x d' W') : KeepB (fun b => b < s ∨ b = kb ∨ b = lb) W W' := fun b hb => by
 rcases hb with hb | hb | hb
 ·have hb2 : b < w.heap.size:=by rw [← h.st.s0];exact hb
  rw [Below.block h.st.gr b hb2,Below.block h'.st.gr b hb2]
 ·rw [hb,h.tk,h'.tk]
 ·rw [hb,h.tl,h'.tl]
def onlyM (K : Act → World → Prop) : Exit → Act → World → Prop
 | .normal,a,w => K a w
 | _,_,_ => False
theorem onlyM_normal (K : Act → World → Prop) (a : Act) (w : World) : onlyM K .normal a w = K a w := rfl
theorem wp_onlyM {P : Program} {c : Code} {K : Act → World → Prop} {Q : Exit → Act → World → Prop} {a : Act} {w : World} (h : c.wp P (onlyM K) a w) : c.wp P (Exit.then K Q) a w := fun b k cs => by
 obtain ⟨e,a',w',q,r⟩:=h b k cs
 refine ⟨e,a',w', ?_,r⟩
 cases e <;> first | exact q | exact q.elim
end Go.Proofs.YtepoiefadjoabaaGreatDoor
namespace Go.Proofs.YtepoiefadjoabaaGreatDoor
open Go Go.RowKit Go.Shelf
def OutS (V w' : World) (X : Nat → Prop) : Prop := ∀ k, k < V.heap.size → ¬ X k → w'.heap[k]? = V.heap[k]?
variable {V w' : World} {X : Nat → Prop}
theorem cell_out {p : Addr} {v : Value} (hc : V.cell? p = some v) (ho : OutS V w' X) (hx : ¬ X p.block) : w'.cell? p = some v := by
 have hb:=World.block_lt_of_cell? _ _ hc
 unfold World.cell? at *
 rw [ho _ hb hx];exact hc
theorem own_out {α : Type} {base : Nat} {e : TypeId} {k : Nat} {enc : α → List Value} {v : Value} {xs : List α} (h : Owns V base e k enc v xs) (ho : OutS V w' X) (hx : ∀ q, X q → ∃ o, V.heap[q]? = some o ∧ tyOf o ≠ some e) : Owns w' base e k enc v xs := by
 refine ⟨h.1, ?_⟩
 rcases h.2 with h1 | ⟨g,cap,cur,hv,hb,hh,r⟩
 ·exact Or.inl h1
 ·refine Or.inr ⟨g,cap,cur,hv,hb, ?_,r⟩
  rw [ho g (Array.getElem?_eq_some_iff.1 hh).1 (fun hX => ?_)]
  ·exact hh
  ·obtain ⟨o,h1,h2⟩:=hx g hX
   rw [hh] at h1
   cases h1
   exact h2 rfl
theorem vecAt_out {vb : Nat} {l : List Bool} (h : VecAt V vb l) (ho : OutS V w' X) (hx1 : ¬ X vb) (hx : ∀ q, X q → ∃ o, V.heap[q]? = some o ∧ tyOf o ≠ some 116 ∧ tyOf o ≠ some 3) : VecAt w' vb l := by
 obtain ⟨wb,h1,h2⟩:=h.c1
 obtain ⟨vC,h3,h4⟩:=h.c2
 exact ⟨cell_out h.c0 ho hx1,⟨wb,cell_out h1 ho hx1,own_out h2 ho fun q hq => by obtain ⟨o,a,b,c⟩:=hx q hq;exact ⟨o,a,b⟩⟩,vC,cell_out h3 ho hx1,own_out h4 ho fun q hq => by obtain ⟨o,a,b,c⟩:=hx q hq;exact ⟨o,a,c⟩⟩
theorem pkAt_out {pb : Nat} {l : List Nat} (h : PkAt V pb l) (ho : OutS V w' X) (hx1 : ¬ X pb) (hx : ∀ q, X q → ∃ o, V.heap[q]? = some o ∧ tyOf o ≠ some 116 ∧ tyOf o ≠ some 3) : PkAt w' pb l := by
 obtain ⟨wb,h1,h2,h3⟩:=h.c2
 exact ⟨cell_out h.c0 ho hx1,cell_out h.c1 ho hx1,wb,h1,cell_out h2 ho hx1,own_out h3 ho fun q hq => by obtain ⟨o,a,b,c⟩:=hx q hq;exact ⟨o,a,b⟩⟩
theorem out_set (V : World) (b o : Nat) (v : Value) : OutS V (V.setCell ⟨b, o, none⟩ v) (fun k => k = b) := fun k _ hk => Below.heap_setCell _ _ _ k (fun e => hk e)
theorem TB.gr {w w' : World} {b : Nat} {cs : Array Value} {t : TypeId} (h : TB w b cs t) (hg : Grows w w') : TB w' b cs t := (Below.block hg b h.lt).trans h
structure LbE (w V : World) (s : Nat) (cs : Array Value) (vL nv vI vD : Value) (lab : List UInt8) (nd : List Nat) (isl : List Bool) (idl : List Nat) (ds : List Nat) : Prop where
 b4 : TB V (s + 3) #[.pointer (some ⟨s + 2,0,none⟩)] 73
 b3 : TB V (s + 2) cs 137
 oL : Owns V s 5 1 byteC vL lab
 oN : Owns V s 3 1 natC nv nd
 oI : Owns V s 4 1 boolC vI isl
 oD : Owns V s 116 1 n64C vD idl
 mks : Marks V s ds
 gr : Grows w V
theorem LbE.grows {w V V' : World} {s : Nat} {cs : Array Value} {vL nv vI vD : Value} {lab : List UInt8} {nd : List Nat} {isl : List Bool} {idl : List Nat} {ds : List Nat} (h : LbE w V s cs vL nv vI vD lab nd isl idl ds) (hg : Grows V V') : LbE w V' s cs vL nv vI vD lab nd isl idl ds :=
 ⟨h.b4.gr hg,h.b3.gr hg,h.oL.grows hg,h.oN.grows hg,h.oI.grows hg,h.oD.grows hg,⟨fun D hD => ⟨(h.mks.at_ D hD).1,(Below.block hg D (Array.getElem?_eq_some_iff.1 (h.mks.at_ D hD).2).1).trans (h.mks.at_ D hD).2⟩,h.mks.nodup⟩,h.gr.tr hg⟩
theorem LbE.set {w V : World} {s : Nat} {cs : Array Value} {vL nv vI vD : Value} {lab : List UInt8} {nd : List Nat} {isl : List Bool} {idl : List Nat} {ds : List Nat} (h : LbE w V s cs vL nv vI vD lab nd isl idl ds) (hs : w.heap.size ≤ s) (o : Nat) (v : Value) :
  LbE w (V.setCell ⟨s + 2,o,none⟩ v) s (cs.setIfInBounds o v) vL nv vI vD lab nd isl idl ds:=by
 have hg:=grownBy_setAny V (s + 2) o v
 have hr:=h.b3.rt
 exact ⟨h.b4.keep hg hr (by decide),h.b3.set o v,own_keepT h.oL hg hr (by decide),own_keepT h.oN hg hr (by decide),own_keepT h.oI hg hr (by decide),own_keepT h.oD hg hr (by decide),h.mks.grown hg (h.mks.not_row hr),h.gr.set (show w.heap.size ≤ s + 2 by omega) _⟩
theorem marks_outs {V : World} {lo : Nat} {ds : List Nat} (h : Marks V lo ds) (e : TypeId) : ∀ q, (fun k => k ∈ ds) q → ∃ o, V.heap[q]? = some o ∧ tyOf o ≠ some e := fun q hq => ⟨_, (h.at_ q hq).2, by simp [tyOf]⟩
theorem set_outs2 {V : World} {b : Nat} {cs : Array Value} (h : TB V b cs 137) : ∀ q, (fun k => k = b) q → ∃ o, V.heap[q]? = some o ∧ tyOf o ≠ some 116 ∧ tyOf o ≠ some 3 := fun q hq => by
 have : q = b:=hq
 subst this
 exact ⟨_,h,by simp [tyOf],by simp [tyOf]⟩
theorem marks_outs2 {V : World} {lo : Nat} {ds : List Nat} (h : Marks V lo ds) : ∀ q, (fun k => k ∈ ds) q → ∃ o, V.heap[q]? = some o ∧ tyOf o ≠ some 116 ∧ tyOf o ≠ some 3 := fun q hq => ⟨_, (h.at_ q hq).2, by simp [tyOf], by simp [tyOf]⟩
theorem owns_atc {α : Type} {w : World} {base : Nat} {e : TypeId} {k : Nat} {enc : α → List Value} {a : Option Addr} {n c : Nat} {xs : List α} (hk : ∀ x, (enc x).length = k) (h : Owns w base e k enc (.slice a n c) xs) : AtCells w a k (xs.map enc) := by
 obtain ⟨a',c',he,_,_,h2⟩:=h.at_ hk
 injection he with h1
 rw [h1];exact h2
theorem marks_not {V : World} {lo : Nat} {ds : List Nat} (h : Marks V lo ds) {p : Addr} {v : Value} (hc : V.cell? p = some v) : ¬ p.block ∈ ds := fun hin => by
 have h1:=(h.at_ _ hin).2
 unfold World.cell? at hc
 simp [h1] at hc
theorem bst_start (w : World) (n : Nat) (lv : Value) (hn : n ≤ 20000) {b2 b3 b5 b7 : Nat} (h2 : b2 = w.heap.size + 1) (h3 : b3 = w.heap.size + 2) (h5 : b5 = w.heap.size + 4) (h7 : b7 = w.heap.size + 6) :
  Bst w ((((((((w.alloc (.cells #[lv] 51)).alloc (.cells (madeCells #[.int .i64 0] n) 3)).alloc (.cells #[.pointer none,.pointer none,.slice none 0 0,.pointer none,.slice (some ⟨b2,0,none⟩) n n] 137)).alloc
   (.cells #[.pointer (some ⟨b3,0,none⟩)] 73)).alloc (.cells #[.bool true,.bool false] 4)).alloc (.cells #[.slice (some ⟨b5,0,none⟩) 2 2] 138)).alloc (.cells #[.int .i64 0,.int .i64 n,.int .i64 0] 140)).alloc (.cells #[.slice (some ⟨b7,0,none⟩) 1 1] 141))
   w.heap.size n lv { vS:=.slice (some ⟨b5,0,none⟩) 2 2,vA:=.slice (some ⟨b7,0,none⟩) 1 1,vL:=.slice none 0 0,vI:=.slice none 0 0,vD:=.slice none 0 0,sh:=[true,false],al:=[⟨0,n,0⟩],lab:=[],isl:=[],idl:=[],nd:=List.replicate n 0 }:=by
 obtain ⟨s,hs⟩ : ∃ s,s = w.heap.size:=⟨_,rfl⟩
 obtain ⟨W1,e1⟩ : ∃ W,W = w.alloc (.cells #[lv] 51):=⟨_,rfl⟩
 obtain ⟨W2,e2⟩ : ∃ W,W = W1.alloc (.cells (madeCells #[.int .i64 0] n) 3):=⟨_,rfl⟩
 obtain ⟨W3,e3⟩ : ∃ W,W = W2.alloc (.cells #[.pointer none,.pointer none,.slice none 0 0,.pointer none,.slice (some ⟨b2,0,none⟩) n n] 137):=⟨_,rfl⟩
 obtain ⟨W4,e4⟩ : ∃ W,W = W3.alloc (.cells #[.pointer (some ⟨b3,0,none⟩)] 73):=⟨_,rfl⟩
 obtain ⟨W5,e5⟩ : ∃ W,W = W4.alloc (.cells #[.bool true,.bool false] 4):=⟨_,rfl⟩
 obtain ⟨W6,e6⟩ : ∃ W,W = W5.alloc (.cells #[.slice (some ⟨b5,0,none⟩) 2 2] 138):=⟨_,rfl⟩
 obtain ⟨W7,e7⟩ : ∃ W,W = W6.alloc (.cells #[.int .i64 0,.int .i64 n,.int .i64 0] 140):=⟨_,rfl⟩
 obtain ⟨W8,e8⟩ : ∃ W,W = W7.alloc (.cells #[.slice (some ⟨b7,0,none⟩) 1 1] 141):=⟨_,rfl⟩
 have z1 : W1.heap.size = s + 1:=by rw [e1,hs];simp
 have z2 : W2.heap.size = s + 2:=by rw [e2,World.size_alloc,z1]
 have z3 : W3.heap.size = s + 3:=by rw [e3,World.size_alloc,z2]
 have z4 : W4.heap.size = s + 4:=by rw [e4,World.size_alloc,z3]
 have z5 : W5.heap.size = s + 5:=by rw [e5,World.size_alloc,z4]
 have z6 : W6.heap.size = s + 6:=by rw [e6,World.size_alloc,z5]
 have z7 : W7.heap.size = s + 7:=by rw [e7,World.size_alloc,z6]
 have g2 : Grows W1 W2:=by rw [e2];exact Grows.alloc _ _
 have g3 : Grows W2 W3:=by rw [e3];exact Grows.alloc _ _
 have g4 : Grows W3 W4:=by rw [e4];exact Grows.alloc _ _
 have g5 : Grows W4 W5:=by rw [e5];exact Grows.alloc _ _
 have g6 : Grows W5 W6:=by rw [e6];exact Grows.alloc _ _
 have g7 : Grows W6 W7:=by rw [e7];exact Grows.alloc _ _
 have g8 : Grows W7 W8:=by rw [e8];exact Grows.alloc _ _
 have g1 : Grows w W1:=by rw [e1];exact Grows.alloc _ _
 have t1 : TB W1 s #[lv] 51:=by rw [e1,hs];exact TB.alloc _ _ _
 have t3 : TB W3 (s + 2) #[.pointer none,.pointer none,.slice none 0 0,.pointer none,.slice (some ⟨b2,0,none⟩) n n] 137:=by rw [e3,← z2];exact TB.alloc _ _ _
 have t4 : TB W4 (s + 3) #[.pointer (some ⟨b3,0,none⟩)] 73:=by rw [e4,← z3];exact TB.alloc _ _ _
 have t6 : TB W6 (s + 5) #[.slice (some ⟨b5,0,none⟩) 2 2] 138:=by rw [e6,← z5];exact TB.alloc _ _ _
 have t8 : TB W8 (s + 7) #[.slice (some ⟨b7,0,none⟩) 1 1] 141:=by rw [e8,← z7];exact TB.alloc _ _ _
 have oN : Owns W2 s 3 1 natC (.slice (some ⟨s + 1,0,none⟩) n n) (List.replicate n 0):=by
  have h:=madeInt (w:=W1) (n:=n) (by omega)
  rw [Nat.mul_one,← e2,z1] at h
  exact h.base (by omega)
 have oS : Owns W5 s 4 1 boolC (.slice (some ⟨s + 4,0,none⟩) 2 2) [true,false]:=by
  have h:=owns_box (w:=W4) (e:=4) (enc:=boolC) (fun _ => rfl) (base:=s) (n:=2) (by omega) [true,false] (cs:=#[.bool true,.bool false]) rfl rfl (by unfold maxLen;omega)
  rw [← e5,z4] at h
  exact h
 have oA : Owns W7 s 140 3 spanC (.slice (some ⟨s + 6,0,none⟩) 1 1) [⟨0,n,0⟩]:=by
  have h:=owns_box (w:=W6) (e:=140) (enc:=spanC) (k:=3) (fun _ => rfl) (base:=s) (n:=1) (by omega) [⟨0,n,0⟩] (cs:=#[.int .i64 0,.int .i64 n,.int .i64 0]) rfl rfl (by unfold maxLen;omega)
  rw [← e7,z6] at h
  exact h
 rw [← e1,← e2,← e3,← e4,← e5,← e6,← e7,← e8,← hs]
 rw [← hs] at h2 h3 h5 h7
 subst h2
 subst h3
 subst h5
 subst h7
 exact ⟨(((((((t1.gr g2).gr g3).gr g4).gr g5).gr g6).gr g7).gr g8),((((t4.gr g5).gr g6).gr g7).gr g8),(((((t3.gr g4).gr g5).gr g6).gr g7).gr g8),((t6.gr g7).gr g8),t8,
  Owns.nil _ _ _ _ _,((((((oN.grows g3).grows g4).grows g5).grows g6).grows g7).grows g8),(((oS.grows g6).grows g7).grows g8),oA.grows g8,Owns.nil _ _ _ _ _,Owns.nil _ _ _ _ _,fun q _ h => by simp [Value.ownBlock] at h,
  ((((((g1.tr g2).tr g3).tr g4).tr g5).tr g6).tr g7).tr g8,hs⟩
end Go.Proofs.YtepoiefadjoabaaGreatDoor
