/- The texts Bytes App2 App3 OrdT PutU RefU Bx W10 W09 W13 OrdF, one behind the other. -/
import Derived.Test.YtepoiefadjoabaaGreatDoorH2
import Derived.Test.YtepoiefadjoabaaGreatDoorH20
import Derived.Test.YtepoiefadjoabaaGreatDoorProg
import Derived.Lib.AppendStr
import Derived.Lib.BufferRead
import Derived.Lib.SlBytesRow
import Derived.Laws.AppendOwnNone
import Derived.ArgAppend
import Derived.Lib.SliceRun
import Derived.Test.YtepoiefadjoabaaGreatDoorH1
import Derived.Laws.BitsAllLaws
namespace Go.Proofs.YtepoiefadjoabaaGreatDoor
open Go Go.RowKit
def byteC (b : UInt8) : List Value := [.int .u8 b.toNat]
theorem byteLay : ElemLay Tryz.prog 28 5 1 1 byteC where
 sl:=Tryz.underlying28
 info:=elem_info (z:=.int .u8 0) (by kernel_rfl) rfl
 pos:=by decide
 by1:=by decide
 len _:=rfl
 one x u hu:=by
  simp [byteC] at hu
  subst hu;rfl
theorem byteInfo : ∃ i, Tryz.prog.info? 5 = some i ∧ i.zero = some (.int .u8 0) ∧ i.size = 1 ∧ i.bytes = 1 := by
 have h : (Tryz.prog.info? 5).map (fun i => (i.zero,i.size,i.bytes)) = some (some (.int .u8 0),1,1):=by kernel_rfl
 cases hi : Tryz.prog.info? 5 with
 | none => rw [hi] at h;cases h
 | some i =>
  rw [hi] at h
  simp only [Option.map_some,Option.some.injEq,Prod.mk.injEq] at h
  exact ⟨i,rfl,h.1,h.2.1,h.2.2⟩
theorem flat_bytes (l : List UInt8) : l.flatMap byteC = l.map fun b => Value.int .u8 b.toNat := by
 induction l with
 | nil => rfl
 | cons b l ih => rw [List.flatMap_cons,ih];rfl
theorem strCells_flat (s : ByteArray) : Lib.strCells s = s.data.toList.flatMap byteC := by rw [flat_bytes]; rfl
theorem Owns.other {α : Type} {w w' : World} {base : Nat} {e e' : TypeId} {k : Nat} {enc : α → List Value} {v v2 : Value} {xs : List α} {n2 k2 b2 : Nat} {ys : List Value} (h : Owns w base e k enc v xs) (h2 : w.ownsRow b2 e' k2 v2 n2 ys) (hne : e ≠ e') (hg : w.grownBy w' v2.ownBlock) : Owns w' base e k enc v xs := by
 obtain ⟨h1,h3⟩:=h
 refine ⟨h1, ?_⟩
 rcases h3 with h3 | ⟨g,cap,cur,rfl,hb,hh,r⟩
 ·exact Or.inl h3
 ·refine Or.inr ⟨g,cap,cur,rfl,hb, ?_,r⟩
  rw [hg.block g (Array.getElem?_eq_some_iff.1 hh).1 ?_]
  ·exact hh
  ·rcases h2.2 with ⟨rfl,_⟩ | ⟨g',cap',cur',rfl,_,hh',_⟩
   ·simp [Value.ownBlock]
   ·intro he
    have : g = g':=by simpa [Value.ownBlock] using he
    subst this
    rw [hh] at hh'
    injection hh' with hh'
    injection hh' with _ ht
    exact hne ht
theorem app_str {ops : Array Oper} {rest : List Oper} {o : Oper} {a : Act} {Q : Exit → Act → World → Prop} {w W : World}
  (hgd : o.guard = none) (s x : Operand) (hop : o.op = .call { callee:=.builtin .append,args:=#[s,x],argTypes:=#[28,9] })
  (base : Nat) (v : Value) (xs : List UInt8) (y : ByteArray) (hs : a.eval s = v) (hown : Owns w base 5 1 byteC v xs) (hgr : Grows w W)
  (hx : a.eval x = .string y) (hlen : xs.length + y.size ≤ 140737488355328) (hbase : base ≤ w.heap.size)
  (h : ∀ v' w',Owns w' base 5 1 byteC v' (xs ++ y.data.toList) → (∀ a0,Grows a0 w → a0.heap.size ≤ base → Grows a0 w') → (∀ {α : Type} {b2 k2 : Nat} {e2 : TypeId} {enc2 : α → List Value} {v2 : Value} {ys : List α},e2 ≠ 5 → Owns w b2 e2 k2 enc2 v2 ys → Owns w' b2 e2 k2 enc2 v2 ys) → wpList Tryz.prog ops Q rest (a.put o.dst v') w') :
  wpList Tryz.prog ops Q (o :: rest) a W:=by
 obtain ⟨i,hi,hz,hsize,hby⟩:=byteInfo
 have hown2:=ownsRow_grows hown hgr
 refine Lib.wpList_append_own_string W hgd s x 28 9 hop base 5 i Tryz.underlying28 Tryz.underlying9 hi hz hsize hby v xs.length (xs.flatMap byteC) hs hown2 y hx (by unfold maxLen;omega) hlen (Nat.le_trans hbase hgr.size) ?_
 intro v' w' h1 h2 _
 refine h v' w' ?_ (fun a0 h0 hb => (h0.tr hgr).grown h2 (fun q hq => Nat.le_trans hb (ownBlock_ge hown q hq))) (fun hne ho => (ho.grows hgr).other hown2 hne h2)
 unfold Owns
 rw [List.length_append,← Lib.size_eq,List.flatMap_append,← strCells_flat]
 exact h1
theorem conv_owns {w : World} {base : Nat} {v : Value} {l : List UInt8} (h : Owns w base 5 1 byteC v l) : (convert 28 9 v).run Tryz.prog w = .ok (.string (mkB l)) w := by
 rcases h.2 with ⟨rfl,h0⟩ | ⟨g,cap,cur,rfl,hb,hh,hn,hc,hs,ht⟩
 ·obtain rfl : l = []:=List.eq_nil_of_length_eq_zero h0
  exact Lib.run_convert_nil_bytes w _ _ 5 0 Tryz.underlying28 Tryz.underlying5 Tryz.underlying9
 ·have hz : (mkB l).size = l.length:=by rw [Lib.size_eq,mkB_data]
  have hB : Lib.Bytes w g 0 (mkB l):=fun i hi => by
   rw [hz] at hi
   have hf:=flat_get (enc:=byteC) (k:=1) (fun _ => rfl) l i 0 l[i] (.int .u8 l[i].toNat) (List.getElem?_eq_getElem hi) rfl
   rw [← ht,List.getElem?_take] at hf
   split at hf
   ·unfold World.cell?
    simp only [hh,Option.isSome_none,Bool.false_eq_true,if_false]
    rw [Nat.zero_add]
    have hg : (mkB l)[i]'(by rw [hz];exact hi) = l[i]:=rfl
    rw [hg]
    simpa using hf
   ·cases hf
  have:=Lib.run_convert_whole (P:=Tryz.prog) w 28 5 9 Tryz.underlying28 Tryz.underlying5 Tryz.underlying9 g 0 (mkB l) hB cap
  rw [hz] at this
  exact this
end Go.Proofs.YtepoiefadjoabaaGreatDoor
namespace Go.Proofs.YtepoiefadjoabaaGreatDoor
open Go Go.RowKit
theorem flat_split {α : Type} {enc : α → List Value} {k : Nat} (hk : ∀ x, (enc x).length = k) : ∀ (ys : List α) (j : Nat) (u : Value), (ys.flatMap enc)[j]? = some u → ∃ i jj y, j = i * k + jj ∧ ys[i]? = some y ∧ (enc y)[jj]? = some u
 | [],j,u,h => by simp at h
 | y :: r,j,u,h => by
  rw [List.flatMap_cons] at h
  rcases Nat.lt_or_ge j (enc y).length with hlt | hge
  ·rw [List.getElem?_append_left hlt] at h
   exact ⟨0,j,y,by omega,rfl,h⟩
  ·rw [List.getElem?_append_right hge] at h
   obtain ⟨i,jj,z,h1,h2,h3⟩:=flat_split hk r _ u h
   refine ⟨i + 1,jj,z, ?_,by simpa using h2,h3⟩
   rw [hk] at hge h1
   rw [Nat.succ_mul];omega
theorem app_many {α : Type} {P : Program} {t e : TypeId} {k bytes : Nat} {enc : α → List Value} (L : ElemLay P t e k bytes enc) {ops : Array Oper} {rest : List Oper} {o : Oper} {a : Act} {Q : Exit → Act → World → Prop} {w W : World}
  (hgd : o.guard = none) (s x : Operand) (hop : o.op = .call { callee:=.builtin .append,args:=#[s,x],argTypes:=#[t,t] })
  (base : Nat) (v : Value) (xs ys : List α) (hs : a.eval s = v) (hown : Owns w base e k enc v xs) (hgr : Grows w W) (sa : Option Addr) (sc : Nat)
  (hx : a.eval x = .slice sa ys.length sc) (hsrc : AtCells W sa k (ys.map enc)) (hnone : sa = none → sc = 0) (hlen : (xs.length + ys.length) * bytes ≤ 140737488355328) (hbase : base ≤ w.heap.size)
  (h : ∀ v' w',Owns w' base e k enc v' (xs ++ ys) → (∀ a0,Grows a0 w → a0.heap.size ≤ base → Grows a0 w') → wpList P ops Q rest (a.put o.dst v') w') :
  wpList P ops Q (o :: rest) a W:=by
 obtain ⟨i,z,hi,hz,hsize,hby,hzs⟩:=L.info
 have hl1 : xs.length + ys.length ≤ 140737488355328:=Nat.le_trans (Nat.le_mul_of_pos_right _ L.by1) hlen
 have hown2:=ownsRow_grows hown hgr
 cases sa with
 | none =>
  obtain rfl:=hnone rfl
  have hy : ys = []:=Decidable.byContradiction fun hne => by
   have hne2 : ys.map enc ≠ []:=by simpa using hne
   obtain ⟨b,off,ha,_⟩:=hsrc hne2
   cases ha
  subst hy
  refine wpList_append_own_none hgd s x t hop base e i k L.sl hi v xs.length (xs.flatMap enc) hs hown2 hx ?_
  refine h v W ?_ (fun a0 h0 _ => h0.tr hgr)
  rw [List.append_nil];exact hown2
 | some ad =>
  refine wpList_append_own _ hgd s x t hop base e i z k bytes L.sl hi hz hsize hby hzs L.pos v xs.length (xs.flatMap enc) hs hown2 ad ys.length sc (ys.flatMap enc) hx (flat_length L.len ys)
   (fun j u hu => ?_) (fun u hu => by obtain ⟨y,_,hy⟩:=List.mem_flatMap.1 hu;exact L.one y u hy) (by unfold maxLen;omega) hlen (Nat.le_trans hbase hgr.size) ?_
  ·obtain ⟨i',jj,y,h1,h2,h3⟩:=flat_split L.len ys j u hu
   have hne : ys.map enc ≠ []:=by rintro e;rw [List.map_eq_nil_iff] at e;subst e;simp at h2
   obtain ⟨b,off,ha,hc⟩:=hsrc hne
   obtain rfl:=Option.some.inj ha
   have hcell:=hc i' (enc y) (by rw [List.getElem?_map,h2];rfl) jj u h3
   unfold Addr.add
   by_cases h0 : j = 0
   ·subst h0
    have hz0 : i' * k = 0∧jj = 0:=by omega
    rw [if_pos rfl]
    rw [hz0.1,hz0.2] at hcell
    simpa using hcell
   ·rw [if_neg h0]
    subst h1
    rw [← Nat.add_assoc];exact hcell
  ·intro v' w' h1 h2 _
   refine h v' w' ?_ (fun a0 h0 hb => (h0.tr hgr).grown h2 (fun q hq => Nat.le_trans hb (ownBlock_ge hown q hq)))
   unfold Owns
   rw [List.length_append,List.flatMap_append]
   exact h1
theorem owns_lit {α : Type} {enc : α → List Value} {k : Nat} {w : World} {e : TypeId} (base : Nat) (hb : base ≤ w.heap.size) : Owns (w.alloc (.cells #[] e)) base e k enc (.slice (some ⟨w.heap.size, 0, none⟩) 0 0) [] := by
 refine ⟨by simp,Or.inr ⟨w.heap.size,0,#[],rfl,hb, ?_,Nat.le_refl _,Nat.zero_le _,by simp,by simp⟩⟩
 show (w.heap.push _)[w.heap.size]? = _
 simp
end Go.Proofs.YtepoiefadjoabaaGreatDoor
namespace Go.Proofs.YtepoiefadjoabaaGreatDoor
open Go Go.RowKit
def EB (B : Nat) (w w' : World) : Prop := Below B w w' ∧ w.heap.size ≤ w'.heap.size
theorem EB.refl (B : Nat) (w : World) : EB B w w := ⟨Below.refl _ _, Nat.le_refl _⟩
theorem EB.trans (B : Nat) (a b c : World) (h : EB B a b) (k : EB B b c) : EB B a c := ⟨Below.trans h.1 k.1, Nat.le_trans h.2 k.2⟩
instance (B : Nat) (w : World) : Nonempty (Ext (EB B) w) := ⟨⟨w, EB.refl B w⟩⟩
theorem EB.of {B : Nat} {w w' : World} (h : Grows w w') (hB : B ≤ w.heap.size) : EB B w w' := ⟨Below.mono h hB, h.size⟩
theorem EB.grows {a w w' : World} (h : Grows a w) (k : EB a.heap.size w w') : Grows a w' := Below.trans h k.1
end Go.Proofs.YtepoiefadjoabaaGreatDoor
namespace Go.Proofs.YtepoiefadjoabaaGreatDoor
open Go Go.RowKit
section
variable {P : Program} {ops : Array Oper} {Q : Exit → Act → World → Prop} {md : Region.Mode} {E : World → World → Prop} {fin : Act → World → Prop}
def quietE2 (P : Program) (o : Oper) (a : Act) (E : World → World → Prop) (w : World) (next : Act → Prop) : Prop :=
 ∃ v,(∀ w2,(∃ x : Ext E w,w2 = x.u) → o.quietAt P a (fun w3 => w3 = w2) w2 v)∧next (a.put o.dst v)
def wpOrd2 (P : Program) (ops : Array Oper) (E : World → World → Prop) (Q : Exit → Act → World → Prop) (fin : Act → World → Prop) : List (Nat × Bool) → Act → World → Prop
 | [],a,w => fin a w
 | (i,late) :: rest,a,w => match ops[i]? with
  | none => False
  | some o => if Region.wanted o (yielded ops a.tmps) then
    (if late then o.wp P a w (fun a' w' => E w w'∧wpOrd2 P ops E Q fin rest a' w') Q else quietE2 P o a E w (fun a' => wpOrd2 P ops E Q fin rest a' w))
   else wpOrd2 P ops E Q fin rest (a.put o.dst undef) w
def wpAnyE2 (P : Program) (md : Region.Mode) (ops : Array Oper) (Q : Exit → Act → World → Prop) (E : World → World → Prop) : Nat → Array Bool → Act → World → Prop
 | 0,listed,a,w => Region.ready md ops listed = []∧Q .normal a w
 | fuel + 1,listed,a,w =>
  (Region.ready md ops listed = [] → Q .normal a w) ∧
  ∀ i ∈ Region.ready md ops listed,wpOp P ops Q i (fun a' w' => (E w w'∧wpAnyE2 P md ops Q E fuel (listed.setIfInBounds i true) a' w') ∨ (tailB md ops i = true∧wpAny P md ops Q fuel (listed.setIfInBounds i true) a' w')) a w
theorem wpAny_of_E2 : ∀ (fuel : Nat) (listed : Array Bool) (a : Act) (w : World), wpAnyE2 P md ops Q E fuel listed a w → wpAny P md ops Q fuel listed a w
 | 0,_,_,_,h => ⟨h.1,h.2⟩
 | fuel + 1,_,_,_,h => ⟨fun h0 => h.1 h0,fun i hi => wpOp_mono (fun a' w' h' => h'.elim (fun h' => wpAny_of_E2 fuel _ a' w' h'.2) (fun h' => h'.2)) (h.2 i hi)⟩
def YieldsE2 (P : Program) (ops : Array Oper) (E : World → World → Prop) (o : Oper) (v : Value) (a : Act) (w : World) : Prop :=
 (Region.wanted o (yielded ops a.tmps) = true∧∀ w2,(∃ x : Ext E w,w2 = x.u) → o.quietAt P a (fun w3 => w3 = w2) w2 v) ∨
 (Region.wanted o (yielded ops a.tmps) = false∧v = undef)
theorem YieldsE2.later (ht : ∀ a b c, E a b → E b c → E a c) {o : Oper} {v : Value} {a : Act} {w w' : World} (hw : E w w') (h : YieldsE2 P ops E o v a w) : YieldsE2 P ops E o v a w' :=
 h.imp (fun ⟨h1,h2⟩ => ⟨h1,fun w2 ⟨x,hx⟩ => h2 w2 ⟨⟨x.u,ht _ _ _ hw x.h⟩,hx⟩⟩) id
theorem YieldsE2.of_same {o : Oper} {v : Value} {a a' : Act} {w : World} (hy : YieldsE2 P ops E o v a w) (he : execOp a'.eval o = execOp a.eval o)
  (hw : Region.wanted o (yielded ops a'.tmps) = Region.wanted o (yielded ops a.tmps)) : YieldsE2 P ops E o v a' w:=by
 unfold YieldsE2 Oper.quietAt at *
 rw [he,hw]
 exact hy
theorem wp_of_quietAt2 {o : Oper} {v : Value} {a : Act} {w : World} {K : Act → World → Prop} (h : o.quietAt P a (fun w3 => w3 = w) w v) (hk : K (a.put o.dst v) w) : o.wp P a w K Q := by
 unfold Oper.quietAt at h
 unfold Oper.wp
 generalize (execOp a.eval o).run P w = r at *
 cases r with
 | ok n w' =>
  cases n <;> simp only [Oper.quietUpon] at h <;> simp only [Oper.upon]
  case value u =>
   obtain ⟨e1,e2⟩:=h
   rw [e1,e2]
   exact hk
  case skip =>
   obtain ⟨e1,e2⟩:=h
   rw [e1,← e2]
   exact hk
  case enter f args =>
   obtain ⟨e1,hc⟩:=h
   rw [e1]
   exact hc.mono fun e w'' ⟨he,hy⟩ => by subst he;subst hy;exact hk
 | halt x w' => simp only [Oper.quietUpon] at h
theorem YieldsE2.wpOp {i : Nat} {o : Oper} {v : Value} {a : Act} {w : World} (hr : E w w) (hi : ops[i]? = some o) (hy : YieldsE2 P ops E o v a w)
  {K : Act → World → Prop} (h : K (a.put o.dst v) w) : wpOp P ops Q i K a w:=by
 unfold Go.wpOp
 simp only [hi]
 rcases hy with ⟨hw,hv⟩ | ⟨hw,rfl⟩
 ·simp only [hw,if_true];exact .inl (wp_of_quietAt2 (hv w ⟨⟨w,hr⟩,rfl⟩) h)
 ·simp only [hw,Bool.false_eq_true,if_false];exact h
theorem wpOp_putE2 {j : Nat} {oi oj : Oper} {v : Value} (hj : ops[j]? = some oj) (hap : oi.apart ops oj = true)
  (hsi : ∀ cs b,oi.op ≠ .select cs b) (hsj : ∀ cs b,oj.op ≠ .select cs b)
  (hQ : ∀ d v c a w,Q (.panic c) (a.put d v) w → Q (.panic c) a w) {K : Act → World → Prop} {a : Act} {w wb : World}
  (hy : YieldsE2 P ops E oi v a wb) (h : wpOp P ops Q j K (a.put oi.dst v) w) :
  wpOp P ops Q j (fun a' w' => YieldsE2 P ops E oi v a' wb∧K (a'.put oi.dst v) w') a w:=by
 obtain ⟨h1,h2,h3⟩:=Oper.apart_spec hap
 have keep : ∀ (a : Act),YieldsE2 P ops E oi v a wb → ∀ u,YieldsE2 P ops E oi v (a.put oj.dst u) wb:=fun a hy u =>
  hy.of_same (execOp_put oi hsi a oj.dst u h3) (wanted_put oi a oj.dst u h3)
 have keepD : ∀ d,YieldsE2 P ops E oi v { a with defers:=d :: a.defers } wb:=fun d => hy.of_same rfl rfl
 unfold wpOp at *
 simp only [hj] at *
 rw [wanted_put oj a oi.dst v h1] at h
 split
 ·rename_i hw
  simp only [hw,if_true] at h
  rcases h with h | ⟨hasks,hlets⟩
  case inr => exact .inr ⟨by unfold Oper.asks at *;rw [execOp_put oj hsj a oi.dst v h1] at hasks;exact hasks,hlets⟩
  refine .inl ?_
  unfold Oper.wp at *
  rw [execOp_put oj hsj a oi.dst v h1] at h
  generalize (execOp a.eval oj).run P w = r at *
  cases r with
  | ok n w' =>
   cases n <;> simp only [Oper.upon] at h ⊢
   case value u => exact ⟨keep a hy u,by rw [← Act.put_comm a v u h2];exact h⟩
   case skip => exact ⟨keep a hy _,by rw [← Act.put_comm a v undef h2];exact h⟩
   case defer d =>
    refine ⟨keep _ (keepD d) _, ?_⟩
    rw [← Act.put_comm _ v undef h2,← Act.put_defers]
    exact h
   case enter f args =>
    refine Calls.mono h fun e w'' he => ?_
    cases e with
    | returned u => exact ⟨keep a hy u,by rw [← Act.put_comm a v u h2];exact he⟩
    | panicked c => exact hQ _ _ _ _ _ he
    | outgrown => exact he
   case row row args => exact Rows.mono h fun u w'' he => ⟨keep a hy u,by rw [← Act.put_comm a v u h2];exact he⟩
  | halt x w' =>
   cases x <;> simp only [Oper.upon] at h ⊢
   case panic u => exact hQ _ _ _ _ _ h
 ·rename_i hw
  simp only [hw] at h
  exact ⟨keep a hy _,by rw [← Act.put_comm a v undef h2];exact h⟩
theorem wpAnyE_first2 (hr : ∀ w, E w w) (ht : ∀ a b c, E a b → E b c → E a c) {i : Nat} {oi : Oper} {v : Value} (hi : ops[i]? = some oi) (hsel : ∀ (j : Nat) (o : Oper) cs b, ops[j]? = some o → o.op ≠ .select cs b)
  (hQ : ∀ d v c a w,Q (.panic c) (a.put d v) w → Q (.panic c) a w) :
  ∀ (fuel : Nat) (listed : Array Bool) (a : Act) (w : World),ClosedL md ops listed →
   (∀ j oj,ops[j]? = some oj → j ≠ i → listed.getD j true = false → (∀ e ∈ oj.after,Region.binds md e = true → e.on ≠ i) → oi.apart ops oj = true) →
   i ∈ Region.ready md ops listed → YieldsE2 P ops E oi v a w →
   wpAnyE2 P md ops Q E fuel (listed.setIfInBounds i true) (a.put oi.dst v) w → wpAnyE2 P md ops Q E (fuel + 1) listed a w:=by
 intro fuel
 induction fuel with
 | zero =>
  intro listed a w _ _ hrd hy H
  refine ⟨fun h => (by rw [h] at hrd;cases hrd),fun j hj => ?_⟩
  by_cases hji : j = i
  ·subst hji;exact hy.wpOp (hr _) hi (.inl ⟨hr _,H⟩)
  ·have:=ready_mono hj hji
   rw [H.1] at this
   cases this
 | succ fuel ih =>
  intro listed a w hcl hfree hrd hy H
  refine ⟨fun h => (by rw [h] at hrd;cases hrd),fun j hj => ?_⟩
  by_cases hji : j = i
  ·subst hji;exact hy.wpOp (hr _) hi (.inl ⟨hr _,H⟩)
  ·have h1:=H.2 j (ready_mono hj hji)
   obtain ⟨hjun,oj,hoj,hall⟩:=mem_ready.1 hj
   have hnot : ∀ e ∈ oj.after,Region.binds md e = true → e.on ≠ i:=fun e he hb heq => by
    have h1:=hall e he hb
    have h0:=(mem_ready.1 hrd).1
    rw [heq] at h1
    rcases Nat.lt_or_ge i listed.size with h' | h'
    ·simp [h'] at h0 h1;rw [h0] at h1;cases h1
    ·simp [Array.getElem?_eq_none h'] at h1
   have h2:=wpOp_putE2 hoj (hfree j oj hoj hji hjun hnot) (fun cs b => hsel i oi cs b hi) (fun cs b => hsel j oj cs b hoj) hQ hy h1
   have hfree' : ∀ k ok,ops[k]? = some ok → k ≠ i → (listed.setIfInBounds j true).getD k true = false →
     (∀ e ∈ ok.after,Region.binds md e = true → e.on ≠ i) → oi.apart ops ok = true:=fun k ok hk hki hun hno => by
    refine hfree k ok hk hki ?_ hno
    by_cases hjk : j = k
    ·subst hjk;exact hjun
    ·rw [getD_set_ne true hjk] at hun;exact hun
   refine wpOp_mono (fun a' w' h3 => ?_) h2
   rcases h3.2 with h4 | h4
   ·refine .inl ⟨h4.1,ih (listed.setIfInBounds j true) a' w' (closedL_set hcl hj) hfree' (ready_mono hrd (Ne.symm hji)) (h3.1.later ht h4.1) ?_⟩
    rw [Array.setIfInBounds_comm _ _ hji]
    exact h4.2
   ·exact (tail_excludes hcl hrd hj hji h4.1).elim
theorem wpAnyE_of_ord2 (hr : ∀ w, E w w) (ht : ∀ a b c, E a b → E b c → E a c) (hs : Region.noSelect ops = true)
  (hQ : ∀ d v c a w,Q (.panic c) (a.put d v) w → Q (.panic c) a w) {g k : Nat}
  (hfin : ∀ listed a w,Region.seqB md ops g k listed = true → fin a w → wpAnyE2 P md ops Q E g listed a w) :
  ∀ (l : List (Nat × Bool)) (listed : Array Bool) (a : Act) (w : World),ClosedL md ops listed → ordB md ops g k l listed = true → wpOrd2 P ops E Q fin l a w → wpAnyE2 P md ops Q E (l.length + g) listed a w
 | [],listed,a,w,_,hB,h => by rw [List.length_nil,Nat.zero_add];exact hfin listed a w hB h
 | (i,false) :: rest,listed,a,w,hcl,hB,h => by
  simp only [ordB,Bool.and_eq_true] at hB
  obtain ⟨⟨hrd,hf⟩,hB'⟩:=hB
  have hrd' : i ∈ Region.ready md ops listed:=by simpa using hrd
  unfold wpOrd2 at h
  rw [List.length_cons,show rest.length + 1 + g = (rest.length + g) + 1 by omega]
  split at h
  ·exact h.elim
  ·rename_i o ho
   split at h
   ·rename_i hw
    simp only [Bool.false_eq_true,if_false] at h
    obtain ⟨v,hv,hk⟩:=h
    exact wpAnyE_first2 hr ht ho (Region.noSelect_spec hs) hQ _ listed a w hcl (Region.free_spec ho hf) hrd' (.inl ⟨hw,hv⟩) (wpAnyE_of_ord2 hr ht hs hQ hfin rest _ _ _ (closedL_set hcl hrd') hB' hk)
   ·rename_i hw
    exact wpAnyE_first2 hr ht ho (Region.noSelect_spec hs) hQ _ listed a w hcl (Region.free_spec ho hf) hrd' (.inr ⟨by simpa using hw,rfl⟩) (wpAnyE_of_ord2 hr ht hs hQ hfin rest _ _ _ (closedL_set hcl hrd') hB' h)
 | (i,true) :: rest,listed,a,w,hcl,hB,h => by
  simp only [ordB,Bool.and_eq_true,decide_eq_true_eq] at hB
  obtain ⟨hrd,hB'⟩:=hB
  rw [List.length_cons,show rest.length + 1 + g = (rest.length + g) + 1 by omega]
  refine ⟨fun h0 => (by rw [h0] at hrd;cases hrd),fun j hj => ?_⟩
  have hj0:=hj
  rw [hrd] at hj
  have hji : j = i:=by simpa using hj
  subst hji
  unfold wpOrd2 at h
  unfold wpOp
  split at h
  ·exact h.elim
  ·rename_i o ho
   simp only [ho]
   split at h
   ·rename_i hw
    simp only [hw,if_true] at h ⊢
    exact .inl (Oper.wp_mono (fun a' w' h' => .inl ⟨h'.1,wpAnyE_of_ord2 hr ht hs hQ hfin rest _ _ _ (closedL_set hcl hj0) hB' h'.2⟩) h)
   ·rename_i hw
    simp only [hw] at ⊢
    exact .inl ⟨hr _,wpAnyE_of_ord2 hr ht hs hQ hfin rest _ _ _ (closedL_set hcl hj0) hB' h⟩
theorem wp_region_ord2 (E : World → World → Prop) (l : List (Nat × Bool)) {id : Nat} {a : Act} {w : World} (hr : ∀ w, E w w) (ht : ∀ a b c, E a b → E b c → E a c)
  (hm : P.follows .mixedOrders = true) (hB : ordAllB ops l = true)
  (hQ : ∀ d v c a w,Q (.panic c) (a.put d v) w → Q (.panic c) a w) (h : wpOrd2 P ops E Q (Q .normal) l a w.drew) : (Code.region id ops true).wp P Q a w:=by
 simp only [ordAllB,Bool.and_eq_true,decide_eq_true_eq] at hB
 obtain ⟨⟨hs,hl⟩,hB⟩:=hB
 have:=wpAnyE_of_ord2 (md:=.any) (g:=0) (k:=0) hr ht hs hQ (fun listed a w hB h => ⟨by simpa [Region.seqB] using hB,h⟩) l _ a w.drew (closedL_none _ _) hB h
 rw [Nat.add_zero,hl] at this
 exact wp_region_any hm (wpAny_of_E2 _ _ _ _ this)
theorem wp_region_tail2 (E : World → World → Prop) (k : Nat) (l : List (Nat × Bool)) {id : Nat} {L : List Oper} {a : Act} {w : World} (hr : ∀ w, E w w) (ht : ∀ a b c, E a b → E b c → E a c)
  (hm : P.follows .mixedOrders = true) (hB : ordTailB L.toArray k l = true)
  (hQ : ∀ d v c a w,Q (.panic c) (a.put d v) w → Q (.panic c) a w) (h : wpOrd2 P L.toArray E Q (wpList P L.toArray Q (L.drop k)) l a w.drew) : (Code.region id L.toArray true).wp P Q a w:=by
 simp only [ordTailB,Bool.and_eq_true,decide_eq_true_eq] at hB
 obtain ⟨⟨⟨⟨hs,hl⟩,hk⟩,htl⟩,hB⟩:=hB
 have hdl : (L.drop k).length = L.toArray.size - k:=by simp
 have:=wpAnyE_of_ord2 (P:=P) (Q:=Q) (md:=.any) (ops:=L.toArray) (fin:=wpList P L.toArray Q (L.drop k)) (g:=L.toArray.size - k) (k:=k) hr ht hs hQ (fun listed a w hB h => by
  obtain ⟨g,hg⟩ : ∃ g,L.toArray.size - k = g + 1:=⟨L.toArray.size - k - 1,by omega⟩
  have hrd : Region.ready .any L.toArray listed = [k]:=by
   rw [hg] at hB;simp only [Region.seqB,Bool.and_eq_true,decide_eq_true_eq] at hB;exact hB.1
  have hall:=wpAny_of_seq (md:=.any) (Q':=Q) (L.drop k) k listed a w (fun j => by simp [List.getElem?_drop]) (by rw [hdl];exact hB) h
  rw [hg]
  refine ⟨fun h0 => (by rw [h0] at hrd;cases hrd),fun j hj => ?_⟩
  have h1:=hall
  rw [hdl,hg] at h1
  have hjk : j = k:=by rw [hrd] at hj;simpa using hj
  subst hjk
  exact wpOp_mono (fun a' w' h' => .inr ⟨htl,h'⟩) (h1.2 j hj)) l _ a w.drew (closedL_none _ _) hB h
 rw [hl,show k + (L.toArray.size - k) = L.toArray.size by omega] at this
 exact wp_region_any hm (wpAny_of_E2 _ _ _ _ this)
theorem ord_quiet2 {i : Nat} {rest : List (Nat × Bool)} {a : Act} {w : World} {o : Oper} (ho : ops[i]? = some o)
  (h : ∀ K : Act → Prop,(∀ a,wpOrd2 P ops E Q fin rest a w → K a) → if Region.wanted o (yielded ops a.tmps) then quietE2 P o a E w K else K (a.put o.dst undef)) : wpOrd2 P ops E Q fin ((i,false) :: rest) a w:=by
 unfold wpOrd2
 simp only [ho]
 exact h _ (fun _ h => h)
theorem ord_late2 {i : Nat} {rest : List (Nat × Bool)} {a : Act} {w : World} {o : Oper} (ho : ops[i]? = some o)
  (h : ∀ K : Act → World → Prop,(∀ a w,wpOrd2 P ops E Q fin rest a w → K a w) → if Region.wanted o (yielded ops a.tmps) then o.wp P a w (fun a' w' => E w w'∧K a' w') Q else K (a.put o.dst undef) w) : wpOrd2 P ops E Q fin ((i,true) :: rest) a w:=by
 unfold wpOrd2
 simp only [ho]
 exact h _ (fun _ _ h => h)
theorem ord_late_w2 {i : Nat} {rest : List (Nat × Bool)} {a : Act} {w : World} {o : Oper} (ho : ops[i]? = some o) (hw : Region.wanted o (yielded ops a.tmps) = true)
  (h : ∀ K : Act → World → Prop,(∀ a w,wpOrd2 P ops E Q fin rest a w → K a w) → o.wp P a w (fun a' w' => E w w'∧K a' w') Q) : wpOrd2 P ops E Q fin ((i,true) :: rest) a w :=
 ord_late2 ho fun K hK => by rw [if_pos hw];exact h K hK
structure OrdT (P : Program) (ops : Array Oper) (E : World → World → Prop) (Q : Exit → Act → World → Prop) (fin : Act → World → Prop) (l : List (Nat × Bool)) (a : Act) (w : World) : Prop where
 out : wpOrd2 P ops E Q fin l a w
theorem t_region (E : World → World → Prop) (l : List (Nat × Bool)) {id : Nat} {a : Act} {w : World} (hr : ∀ w, E w w) (ht : ∀ a b c, E a b → E b c → E a c)
  (hm : P.follows .mixedOrders = true) (hB : ordAllB ops l = true)
  (hQ : ∀ d v c a w,Q (.panic c) (a.put d v) w → Q (.panic c) a w) (h : OrdT P ops E Q (Q .normal) l a w.drew) : (Code.region id ops true).wp P Q a w:=wp_region_ord2 E l hr ht hm hB hQ h.out
theorem t_tail {P : Program} {Q : Exit → Act → World → Prop} (E : World → World → Prop) (k : Nat) (l : List (Nat × Bool)) {id : Nat} {L : List Oper} {a : Act} {w : World} (hr : ∀ w, E w w) (ht : ∀ a b c, E a b → E b c → E a c)
  (hm : P.follows .mixedOrders = true) (hB : ordTailB L.toArray k l = true)
  (hQ : ∀ d v c a w,Q (.panic c) (a.put d v) w → Q (.panic c) a w) (h : OrdT P L.toArray E Q (wpList P L.toArray Q (L.drop k)) l a w.drew) : (Code.region id L.toArray true).wp P Q a w:=wp_region_tail2 E k l hr ht hm hB hQ h.out
theorem t_quiet {i : Nat} {rest : List (Nat × Bool)} {a : Act} {w : World} {o : Oper} (ho : ops[i]? = some o)
  (h : ∀ K : Act → Prop,(∀ a,OrdT P ops E Q fin rest a w → K a) → if Region.wanted o (yielded ops a.tmps) then quietE2 P o a E w K else K (a.put o.dst undef)) : OrdT P ops E Q fin ((i,false) :: rest) a w :=
 ⟨ord_quiet2 ho fun K hK => h K fun a ha => hK a ha.out⟩
theorem t_late {i : Nat} {rest : List (Nat × Bool)} {a : Act} {w : World} {o : Oper} (ho : ops[i]? = some o) (hw : Region.wanted o (yielded ops a.tmps) = true)
  (h : ∀ K : Act → World → Prop,(∀ a w,OrdT P ops E Q fin rest a w → K a w) → o.wp P a w (fun a' w' => E w w'∧K a' w') Q) : OrdT P ops E Q fin ((i,true) :: rest) a w :=
 ⟨ord_late_w2 ho hw fun K hK => h K fun a w ha => hK a w ha.out⟩
theorem t_end {a : Act} {w : World} (h : fin a w) : OrdT P ops E Q fin [] a w := ⟨h⟩
end
theorem calls_same {P : Program} {f : FuncId} {args : Array Value} {w : World} {v : Value} (h : Calls P f args w fun e w' => e = .returned v ∧ w = w') : Calls P f args w fun e w'' => e = .returned v ∧ w'' = w := h.mono fun _ _ ⟨he, hw⟩ => ⟨he, hw.symm⟩
theorem ext_cellB {B : Nat} {w : World} {p : Addr} {v : Value} (hb : p.block < B) (hc : w.cell? p = some v) (x : Ext (EB B) w) : x.u.cell? p = some v := by
 rw [Below.cell x.h.1 hb];exact hc
end Go.Proofs.YtepoiefadjoabaaGreatDoor
namespace Go.Proofs.YtepoiefadjoabaaGreatDoor
open Go Go.RowKit
attribute [local go_sem] quietE
def putUF : Nat → Nat → List UInt8
 | 0,_ => []
 | f + 1,n => if n < 128 then [UInt8.ofNat n] else UInt8.ofNat (n % 128 + 128) :: putUF f (n / 128)
def putU (n : Nat) : List UInt8 := putUF 10 n
theorem putUF_fuel : ∀ (f g n : Nat), n < 128 ^ f → f ≤ g → 0 < f → putUF g n = putUF f n
 | 0,_,_,_,_,h => by omega
 | f + 1,0,_,_,h,_ => by omega
 | f + 1,g + 1,n,h,hle,_ => by
  unfold putUF
  by_cases h1 : n < 128
  ·rw [if_pos h1,if_pos h1]
  ·rw [if_neg h1,if_neg h1]
   rw [Nat.pow_succ] at h
   have h2 : n / 128 < 128 ^ f:=Nat.div_lt_of_lt_mul (by rw [Nat.mul_comm];exact h)
   rcases Nat.eq_zero_or_pos f with h0 | h0
   ·subst h0
    simp at h
    omega
   ·rw [putUF_fuel f g (n / 128) h2 (by omega) h0]
theorem putU_small {n : Nat} (h : n < 128) : putU n = [UInt8.ofNat n] := by unfold putU putUF; rw [if_pos h]
theorem putU_big {n : Nat} (h : 128 ≤ n) (hn : n < 128 ^ 9) : putU n = UInt8.ofNat (n % 128 + 128) :: putU (n / 128) := by
 have h1 : putU n = UInt8.ofNat (n % 128 + 128) :: putUF 9 (n / 128):=by
  show (if n < 128 then [UInt8.ofNat n] else UInt8.ofNat (n % 128 + 128) :: putUF 9 (n / 128)) = _
  rw [if_neg (by omega)]
 have h2 : n / 128 < 128 ^ 9:=Nat.lt_of_le_of_lt (Nat.div_le_self _ _) hn
 rw [h1]
 unfold putU
 rw [putUF_fuel 9 10 (n / 128) h2 (by omega) (by omega)]
theorem putUF_len : ∀ (f n : Nat), (putUF f n).length ≤ f
 | 0,_ => by simp [putUF]
 | f + 1,n => by
  unfold putUF
  split
  ·simp
  ·have:=putUF_len f (n / 128)
   simp only [List.length_cons];omega
theorem putU_len (n : Nat) : (putU n).length ≤ 10 := putUF_len 10 n
theorem or128 : ∀ x : Fin 256, bits BinOp.or .u8 (x.val : Int) 128 = ((x.val % 128 + 128 : Nat) : Int) := by decide +kernel
theorem or128_nat (k : Nat) : bits BinOp.or .u8 ((k : Int) % 256) 128 = ((UInt8.ofNat (k % 128 + 128)).toNat : Int) := by
 have h:=or128 ⟨k % 256,Nat.mod_lt _ (by decide)⟩
 have e : (((⟨k % 256,Nat.mod_lt _ (by decide)⟩ : Fin 256).val : Nat) : Int) = (k : Int) % 256:=by simp
 rw [e] at h
 rw [h,UInt8.toNat_ofNat']
 simp only
 omega
theorem low_nat {k : Nat} (h : k < 128) : Value.int .u8 (k : Int) = .int .u8 ((UInt8.ofNat k).toNat : Int) := by
 rw [UInt8.toNat_ofNat'];congr 1;omega
def Src (w : World) (base : Nat) (v : Value) (xs : List UInt8) : Prop :=
 Owns w base 5 1 byteC v xs ∨ ∃ a,v = .slice a xs.length xs.length∧AtCells w a 1 (xs.map byteC)∧(a = none → xs = [])
theorem app_src {ops : Array Oper} {rest : List Oper} {o : Oper} {a : Act} {Q : Exit → Act → World → Prop} {w W : World}
  (hgd : o.guard = none) (s x : Operand) (hop : o.op = .call { callee:=.builtin .append,args:=#[s,x],argTypes:=#[28,28] })
  (base : Nat) (v : Value) (xs : List UInt8) (y : UInt8) (hs : a.eval s = v) (hown : Src w base v xs) (hgr : Grows w W) (n c : Nat) (hn : n = W.heap.size) (cs : Array Value) (hcs : cs.toList = byteC y)
  (hx : a.eval x = .slice (some ⟨n,0,none⟩) 1 c) (hlen : xs.length + 1 ≤ 140737488355328) (hbase : base ≤ w.heap.size)
  (h : ∀ v' w',Owns w' base 5 1 byteC v' (xs ++ [y]) → (∀ a0,Grows a0 w → a0.heap.size ≤ base → Grows a0 w') → wpList Tryz.prog ops Q rest (a.put o.dst v') w') :
  wpList Tryz.prog ops Q (o :: rest) a (W.alloc (.cells cs 5)):=by
 rcases hown with hown | ⟨b,rfl,hat,hnone⟩
 ·exact app_one byteLay hgd s x hop base v xs y hs hown hgr n c hn cs hcs hx (by omega) hbase h
 ·obtain ⟨i,z,hi,hz,hsize,hby,hzs⟩:=byteLay.info
  have hgr2 : Grows w (W.alloc (.cells cs 5)):=hgr.al _
  refine wpList_append_grows _ hgd s x _ hop 5 i z 1 1 byteLay.sl hi hz hsize hby hzs (by decide) b xs.length xs.length (xs.flatMap byteC) hs (fun hb => by rw [hnone hb];exact ⟨rfl,rfl⟩) (flat_length byteLay.len xs) (fun ad had j u hu => ?_)
   ⟨n,0,none⟩ 1 c (byteC y) hx rfl (fun j u hu => alloc_new_at hn j u (by rw [hcs];exact hu)) (byteLay.one y) (by omega) (by unfold maxLen;omega) (by omega) ?_
  ·obtain ⟨i',jj,y',h1,h2,h3⟩:=flat_split byteLay.len xs j u hu
   have hne : xs.map byteC ≠ []:=by rintro e;rw [List.map_eq_nil_iff] at e;subst e;simp at h2
   obtain ⟨b',off,ha,hc⟩:=hat hne
   rw [had] at ha
   obtain rfl:=Option.some.inj ha
   have hcell:=hc i' (byteC y') (by rw [List.getElem?_map,h2];rfl) jj u h3
   have : (⟨b',off,none⟩ : Addr).add j = ⟨b',off + i' * 1 + jj,none⟩:=by
    unfold Addr.add
    by_cases h0 : j = 0
    ·subst h0
     have hz0 : i' = 0∧jj = 0:=by omega
     simp [hz0.1,hz0.2]
    ·simp [h0];omega
   rw [this]
   exact hgr2.cell hcell
  ·intro v' w' h1 h2
   refine h v' w' ?_ (fun a0 h0 hb => (h0.tr hgr2).grown h2 (fun q hq => by cases hq))
   have h3 : w'.ownsRow (W.alloc (.cells cs 5)).heap.size 5 1 v' (xs ++ [y]).length ((xs ++ [y]).flatMap byteC):=by
    rw [List.length_append,List.length_singleton,List.flatMap_append]
    simpa using h1
   exact ownsRow_base h3 (Nat.le_trans hbase hgr2.size)
theorem owns_none2 {α : Type} {w : World} {base : Nat} {e : TypeId} {k : Nat} {enc : α → List Value} {a : Option Addr} {n c : Nat} {xs : List α} (h : Owns w base e k enc (.slice a n c) xs) : a = none → c = 0 := by
 intro ha
 rcases h.2 with ⟨h1,_⟩ | ⟨g,cap,cur,h1,_⟩
 ·have : a = none∧n = 0∧c = 0:=by simpa using h1
  exact this.2.2
 ·rw [ha] at h1;simp at h1
set_option maxHeartbeats 1000000 in
set_option maxRecDepth 100000 in
theorem clone_any (xs : List UInt8) (a : Option Addr) (c : Nat) (w : World) (hx : xs.length ≤ 1099511627776) (hat : AtCells w a 1 (xs.map byteC)) (hn : a = none → c = 0) :
  Calls Tryz.prog 147 #[.slice a xs.length c] w fun e w' => ∃ v,e = .returned v∧Owns w' w.heap.size 5 1 byteC v xs∧Grows w w':=by
 have HAT:=Lib.hid hat
 cases a with
 | none =>
  obtain rfl:=hn rfl
  have hx0 : xs = []:=Decidable.byContradiction fun hne => by
   obtain ⟨b,off,h,_⟩:=hat (by simpa using hne)
   cases h
  subst hx0
  have hq:=fun w => Lib.run_eql_slice_nil (P:=Tryz.prog) w 28 5 none 0 0 0 0 Tryz.underlying28
  clear hat hn HAT
  go_enter Tryz.func147,Tryz.ntmps147
  go_wp2_with fail
  go_ret
  exact ⟨_,rfl,Owns.nil _ _ _ _ _,Grows.refl _⟩
 | some ad =>
  have hq:=fun w => Lib.run_eql_slice_nil (P:=Tryz.prog) w 28 5 (some ad) xs.length c 0 0 Tryz.underlying28
  clear hat hn
  go_enter Tryz.func147,Tryz.ntmps147
  have HSRC:=Lib.hid (HAT.out.grows (Grows.alloc w (.cells #[] 5)))
  go_wp2_with (at_builtin;refine app_many byteLay rfl _ _ rfl w.heap.size _ [] xs rfl (owns_lit w.heap.size (Nat.le_refl _)) (Grows.refl _) (some ad) c rfl HSRC.out (fun h => by cases h) (by simp;omega) (by simp) ?_;intro v' w3 hown3 hg3)
  go_ret
  rw [List.nil_append] at hown3
  exact ⟨_,rfl,hown3,hg3 w (Grows.alloc _ _) (Nat.le_refl _)⟩
set_option maxHeartbeats 1000000 in
theorem clip_any (xs : List UInt8) (a : Option Addr) (c : Nat) (w : World) (hc : xs.length ≤ c) :
  Calls Tryz.prog 146 #[.slice a xs.length c] w fun e w' => e = .returned (.slice a xs.length xs.length)∧w = w':=by
 go_enter Tryz.func146,Tryz.ntmps146
 go_wp2_with fail
 go_ret
 exact ⟨rfl,rfl⟩
set_option maxHeartbeats 2000000 in
set_option maxRecDepth 100000 in
theorem putUint_any (xs : List UInt8) (a : Option Addr) (c n : Nat) (w : World) (hx : xs.length ≤ 1099511627776) (hv : n ≤ 1048576) (hat : AtCells w a 1 (xs.map byteC)) (hn : a = none → c = 0) :
  Calls Tryz.prog 92 #[.slice a xs.length c,.int .u64 n] w fun e w' => ∃ v,e = .returned v∧Owns w' w.heap.size 5 1 byteC v (xs ++ putU n)∧Grows w w':=by
 have CC:=Lib.hid (clone_any xs a c w hx hat hn)
 clear hat hn
 go_enter Tryz.func92,Tryz.ntmps92
 go_wp2_with fail
 refine CC.out.mono ?_
 rintro e w1 ⟨v1,rfl,hown1,hg1⟩
 obtain ⟨a1,c1,rfl,h11,h12,hat1⟩:=hown1.at_ byteLay.len
 have hn1:=owns_none2 hown1
 go_wp2_with fail
 refine (clip_any xs a1 c1 w1 h11).mono ?_
 rintro e w2 ⟨rfl,rfl⟩
 have hsrc : Src w1 w.heap.size (.slice a1 xs.length xs.length) xs:=Or.inr ⟨a1,rfl,hat1,fun h => List.eq_nil_of_length_eq_zero (by have:=hn1 h;omega)⟩
 clear hown1 hat1 hn1 CC
 go_wp2_with fail
 go_loopw [0,1] (fun b v wr => ∃ (k : Nat) (pre : List UInt8),v = .int .u64 k∧Src wr w.heap.size b (xs ++ pre)∧Hid (pre ++ putU k = putU n)∧k ≤ 1048576∧Grows w wr) (fun _ v _ => (intOf v).toNat)
 case atStart => exact ⟨n,[],rfl,by rw [List.append_nil];exact hsrc,rfl,hv,hg1⟩
 case round =>
  obtain ⟨k,pre,rfl,hs,hp,hk,hg⟩:=hrel
  have hpl : pre.length ≤ 10:=by
   have h1:=congrArg List.length hp.out
   have h2:=putU_len n
   rw [List.length_append] at h1
   omega
  by_cases h128 : 128 ≤ k
  ·have hki : (128 : Int) ≤ k:=by omega
   have hb:=Lib.hid (or128_nat k)
   rw [putU_big h128 (by omega)] at hp
   go_wp2_with (at_builtin;refine app_src rfl _ _ rfl w.heap.size _ (xs ++ pre) (UInt8.ofNat (k % 128 + 128)) rfl hs (Grows.refl _) _ 1 rfl _ (by rw [hb.out];rfl) rfl (by rw [List.length_append];omega) hg.size ?_;intro v' w5 hown5 hg5)
   go_roundw
   case rel => exact ⟨k / 128,pre ++ [UInt8.ofNat (k % 128 + 128)],by go_num,Or.inl (by rw [← List.append_assoc];exact hown5),by show (pre ++ [_]) ++ putU (k / 128) = putU n;rw [List.append_assoc];exact hp.out,by omega,hg5 w hg (Nat.le_refl _)⟩
   case measure => simp [intOf];omega
  ·have hki : ¬ (128 : Int) ≤ k:=by omega
   have hb:=Lib.hid (low_nat (k:=k) (by omega))
   rw [putU_small (by omega)] at hp
   go_wp2_with (at_builtin;refine app_src rfl _ _ rfl w.heap.size _ (xs ++ pre) (UInt8.ofNat k) rfl hs (Grows.refl _) _ 1 rfl _ (by rw [hb.out];rfl) rfl (by rw [List.length_append];omega) hg.size ?_;intro v' w5 hown5 hg5)
   go_ret
   refine ⟨_,rfl, ?_,hg5 w hg (Nat.le_refl _)⟩
   rw [← hp.out,← List.append_assoc];exact hown5
end Go.Proofs.YtepoiefadjoabaaGreatDoor
namespace Go.Proofs.YtepoiefadjoabaaGreatDoor
open Go Go.RowKit
attribute [local go_sem] quietE
end Go.Proofs.YtepoiefadjoabaaGreatDoor
namespace Go.Proofs.YtepoiefadjoabaaGreatDoor
open Go Go.RowKit
theorem owns_box {α : Type} {enc : α → List Value} {k : Nat} (hk : ∀ x, (enc x).length = k) {w : World} {e : TypeId} {base n : Nat} (hb : base ≤ w.heap.size) (xs : List α) {cs : Array Value} (hcs : cs.toList = xs.flatMap enc) (hn : xs.length = n) (hl : n ≤ maxLen) :
  Owns (w.alloc (.cells cs e)) base e k enc (.slice (some ⟨w.heap.size,0,none⟩) n n) xs:=by
 subst hn
 have hlen:=flat_length hk xs
 refine ⟨hlen,Or.inr ⟨w.heap.size,xs.length,cs,rfl,hb, ?_,Nat.le_refl _,hl, ?_, ?_⟩⟩
 ·show (w.heap.push _)[w.heap.size]? = _
  simp
 ·rw [← Array.length_toList,hcs,hlen]
 ·rw [hcs,← hlen,List.take_length]
def n64C (n : Nat) : List Value := [.int .u64 n]
def boolC (b : Bool) : List Value := [.bool b]
def natC (n : Nat) : List Value := [.int .i64 n]
def stC (s : ByteArray) : List Value := [.string s]
def bl (s : ByteArray) : List UInt8 := s.data.toList
theorem bl_len (s : ByteArray) : (bl s).length = s.size := (Lib.size_eq s).symm
theorem bl_get {s : ByteArray} {k : Nat} (h : k < s.size) : (bl s)[k]? = some s[k] := by
 unfold bl
 rw [List.getElem?_eq_getElem (by rw [← Lib.size_eq];exact h)]
 rfl
theorem n64Lay : ElemLay Tryz.prog 125 116 1 8 n64C where
 sl:=Tryz.underlying125
 info:=elem_info (z:=.int .u64 0) (by kernel_rfl) rfl
 pos:=by decide
 by1:=by decide
 len _:=rfl
 one x u hu:=by
  simp [n64C] at hu
  subst hu;rfl
theorem boolLay : ElemLay Tryz.prog 138 4 1 1 boolC where
 sl:=Tryz.underlying138
 info:=elem_info (z:=.bool false) (by kernel_rfl) rfl
 pos:=by decide
 by1:=by decide
 len _:=rfl
 one x u hu:=by
  simp [boolC] at hu
  subst hu;rfl
theorem natLay : ElemLay Tryz.prog 53 3 1 8 natC where
 sl:=Tryz.underlying53
 info:=elem_info (z:=.int .i64 0) (by kernel_rfl) rfl
 pos:=by decide
 by1:=by decide
 len _:=rfl
 one x u hu:=by
  simp [natC] at hu
  subst hu;rfl
theorem stLay : ElemLay Tryz.prog 51 9 1 16 stC where
 sl:=Tryz.underlying51
 info:=elem_info (z:=.string ByteArray.empty) (by kernel_rfl) rfl
 pos:=by decide
 by1:=by decide
 len _:=rfl
 one x u hu:=by
  simp [stC] at hu
  subst hu;rfl
theorem takeSnoc {α : Type} {l : List α} {k : Nat} {x : α} (h : l[k]? = some x) : l.take (k + 1) = l.take k ++ [x] := by
 rw [List.take_add_one,h];rfl
theorem at1 {α : Type} {w : World} {a : Option Addr} {xs : List α} {f : α → Value} (h : AtCells w a 1 (xs.map fun x => [f x])) (hn : xs ≠ []) : ∃ b o, a = some ⟨b, o, none⟩ ∧ ∀ k x, xs[k]? = some x → w.cell? ⟨b, o + k, none⟩ = some (f x) := by
 obtain ⟨b,o,ha,hc⟩:=AtCells.get (enc:=fun x => [f x]) h hn
 exact ⟨b,o,ha,fun k x hx => by simpa using hc k x hx 0 _ rfl⟩
end Go.Proofs.YtepoiefadjoabaaGreatDoor
namespace Go.Proofs.YtepoiefadjoabaaGreatDoor
open Go Go.RowKit
attribute [local go_sem] quietE quietE2
theorem int_shr (x V : Nat) : (x : Int) / 2 ^ V = ((x >>> V : Nat) : Int) := by rw [Nat.shiftRight_eq_div_pow]; push_cast; rfl
theorem ofNat_mod (x : Nat) : UInt8.ofNat (x % 256) = UInt8.ofNat x := by
 apply UInt8.toNat_inj.1
 rw [UInt8.toNat_ofNat',UInt8.toNat_ofNat']
 omega
theorem byte_cell (x : Nat) : [Value.int .u8 ((x : Int) % 256)] = byteC (UInt8.ofNat x) := by
 unfold byteC
 rw [UInt8.toNat_ofNat']
 congr 2
theorem pack_head (n w : Nat) (hw : w ≤ 64) : (#[Value.int .u8 ((n : Int) % 256), .int .u8 ((n : Int) / 256 % 256), .int .u8 ((n : Int) / 65536 % 256), .int .u8 ((n : Int) / 16777216 % 256), .int .u8 (w : Int)] : Array Value).toList = (leB 4 n ++ [UInt8.ofNat w]).flatMap byteC := by
 have h : leB 4 n = [UInt8.ofNat n,UInt8.ofNat (n / 256),UInt8.ofNat (n / 65536),UInt8.ofNat (n / 16777216)]:=by
  unfold leB
  simp [List.range_succ]
 rw [h,flat_bytes]
 simp only [List.cons_append,List.nil_append,List.map_cons,List.map_nil,UInt8.toNat_ofNat']
 rw [Nat.mod_eq_of_lt (show w < 2 ^ 8 by omega)]
 congr 1
theorem bitAt_at {l : List Nat} {W k t x : Nat} (hx : l[k]? = some x) (ht : t < W) : bitAt l W (k * W + t) = x.testBit t := by
 unfold bitAt
 have h1 : (k * W + t) / W = k:=by
  rw [Nat.mul_comm,Nat.mul_add_div (by omega),Nat.div_eq_of_lt ht,Nat.add_zero]
 have h2 : (k * W + t) % W = t:=by rw [Nat.mul_comm,Nat.mul_add_mod,Nat.mod_eq_of_lt ht]
 rw [h1,h2,List.getD_eq_getElem?_getD,hx]
 rfl
end Go.Proofs.YtepoiefadjoabaaGreatDoor
namespace Go.Proofs.YtepoiefadjoabaaGreatDoor
open Go Go.RowKit
attribute [local go_sem] quietE quietE2
end Go.Proofs.YtepoiefadjoabaaGreatDoor
namespace Go.Proofs.YtepoiefadjoabaaGreatDoor
open Go Go.RowKit
attribute [local go_sem] quietE quietE2
end Go.Proofs.YtepoiefadjoabaaGreatDoor
namespace Go.Proofs.YtepoiefadjoabaaGreatDoor
open Go Go.RowKit
inductive OTree where
 | done
 | quiet (i : Nat) (t : OTree)
 | late (i : Nat) (t : OTree)
 | alt (s t : OTree)
def OTree.heads : OTree → List Nat
 | .late i _ => [i]
 | .alt s t => s.heads ++ t.heads
 | _ => []
def OTree.len : OTree → Nat
 | .done => 0
 | .quiet _ t => t.len + 1
 | .late _ t => t.len + 1
 | .alt s _ => s.len
section
variable {P : Program} {ops : Array Oper} {Q : Exit → Act → World → Prop} {md : Region.Mode} {E : World → World → Prop} {fin : Act → World → Prop}
def wpTree (P : Program) (ops : Array Oper) (E : World → World → Prop) (Q : Exit → Act → World → Prop) (fin : Act → World → Prop) : OTree → Act → World → Prop
 | .done,a,w => fin a w
 | .quiet i t,a,w => match ops[i]? with
  | none => False
  | some o => if Region.wanted o (yielded ops a.tmps) then quietE2 P o a E w (fun a' => wpTree P ops E Q fin t a' w) else wpTree P ops E Q fin t (a.put o.dst undef) w
 | .late i t,a,w => match ops[i]? with
  | none => False
  | some o => if Region.wanted o (yielded ops a.tmps) then o.wp P a w (fun a' w' => E w w'∧wpTree P ops E Q fin t a' w') Q else wpTree P ops E Q fin t (a.put o.dst undef) w
 | .alt s t,a,w => wpTree P ops E Q fin s a w∧wpTree P ops E Q fin t a w
def treeB (md : Region.Mode) (ops : Array Oper) : Bool → OTree → Array Bool → Bool
 | b,.done,listed => !b && decide (Region.ready md ops listed = [])
 | b,.quiet i t,listed => !b && (Region.ready md ops listed).contains i && Region.free md ops listed i && treeB md ops false t (listed.setIfInBounds i true)
 | b,.late i t,listed => (Region.ready md ops listed).contains i && (b || (Region.ready md ops listed).all fun j => j == i) && treeB md ops false t (listed.setIfInBounds i true)
 | b,.alt s t,listed => decide (s.len = t.len) && (b || (Region.ready md ops listed).all fun j => (s.heads ++ t.heads).contains j) && treeB md ops true s listed && treeB md ops true t listed
theorem wpTree_late (hr : ∀ w, E w w) {i : Nat} {t : OTree} {a : Act} {w : World} {n : Nat} {listed : Array Bool} (h : wpTree P ops E Q fin (.late i t) a w) (hk : ∀ a' w', wpTree P ops E Q fin t a' w' → wpAnyE2 P md ops Q E n (listed.setIfInBounds i true) a' w') :
  wpOp P ops Q i (fun a' w' => (E w w'∧wpAnyE2 P md ops Q E n (listed.setIfInBounds i true) a' w') ∨ (tailB md ops i = true∧wpAny P md ops Q n (listed.setIfInBounds i true) a' w')) a w:=by
 unfold wpTree at h
 unfold wpOp
 split at h
 ·exact h.elim
 ·rename_i o ho
  simp only [ho]
  split at h
  ·rename_i hw
   simp only [hw,if_true]
   exact .inl (Oper.wp_mono (fun a' w' h' => .inl ⟨h'.1,hk _ _ h'.2⟩) h)
  ·rename_i hw
   simp only [hw] at ⊢
   exact .inl ⟨hr _,hk _ _ h⟩
theorem treeB_head : ∀ (t : OTree) (listed : Array Bool), treeB md ops true t listed = true → (∃ n, t.len = n + 1) ∧ ∃ i, i ∈ Region.ready md ops listed
 | .done,_,h => by simp [treeB] at h
 | .quiet _ _,_,h => by simp [treeB] at h
 | .late i t,_,h => by
  simp only [treeB,Bool.and_eq_true] at h
  exact ⟨⟨t.len,rfl⟩,i,by simpa using h.1.1⟩
 | .alt s t,listed,h => by
  simp only [treeB,Bool.and_eq_true] at h
  exact treeB_head s listed h.1.2
theorem wpAnyE_of_tree (hr : ∀ w, E w w) (ht : ∀ a b c, E a b → E b c → E a c) (hs : Region.noSelect ops = true)
  (hQ : ∀ d v c a w,Q (.panic c) (a.put d v) w → Q (.panic c) a w) (hfin : ∀ a w,fin a w → Q .normal a w) : ∀ (t : OTree) (listed : Array Bool),ClosedL md ops listed →
  (∀ a w,treeB md ops false t listed = true → wpTree P ops E Q fin t a w → wpAnyE2 P md ops Q E t.len listed a w) ∧
  (∀ a w,treeB md ops true t listed = true → wpTree P ops E Q fin t a w → ∀ n,t.len = n + 1 → ∀ i ∈ t.heads,i ∈ Region.ready md ops listed →
   wpOp P ops Q i (fun a' w' => (E w w'∧wpAnyE2 P md ops Q E n (listed.setIfInBounds i true) a' w') ∨ (tailB md ops i = true∧wpAny P md ops Q n (listed.setIfInBounds i true) a' w')) a w)
 | .done,listed,hcl => by
  refine ⟨fun a w hB h => ?_,fun a w hB => by simp [treeB] at hB⟩
  simp only [treeB,Bool.not_false,Bool.true_and,decide_eq_true_eq] at hB
  exact ⟨hB,hfin _ _ h⟩
 | .quiet i t,listed,hcl => by
  refine ⟨fun a w hB h => ?_,fun a w hB => by simp [treeB] at hB⟩
  simp only [treeB,Bool.and_eq_true] at hB
  obtain ⟨⟨⟨_,hrd⟩,hf⟩,hB'⟩:=hB
  have hrd' : i ∈ Region.ready md ops listed:=by simpa using hrd
  unfold wpTree at h
  show wpAnyE2 P md ops Q E (t.len + 1) listed a w
  split at h
  ·exact h.elim
  ·rename_i o ho
   split at h
   ·rename_i hw
    obtain ⟨v,hv,hk⟩:=h
    exact wpAnyE_first2 hr ht ho (Region.noSelect_spec hs) hQ _ listed a w hcl (Region.free_spec ho hf) hrd' (.inl ⟨hw,hv⟩) ((wpAnyE_of_tree hr ht hs hQ hfin t _ (closedL_set hcl hrd')).1 _ _ hB' hk)
   ·rename_i hw
    exact wpAnyE_first2 hr ht ho (Region.noSelect_spec hs) hQ _ listed a w hcl (Region.free_spec ho hf) hrd' (.inr ⟨by simpa using hw,rfl⟩) ((wpAnyE_of_tree hr ht hs hQ hfin t _ (closedL_set hcl hrd')).1 _ _ hB' h)
 | .late i t,listed,hcl => by
  have key : ∀ b a w,treeB md ops b (.late i t) listed = true → wpTree P ops E Q fin (.late i t) a w → wpOp P ops Q i (fun a' w' => (E w w'∧wpAnyE2 P md ops Q E t.len (listed.setIfInBounds i true) a' w') ∨ (tailB md ops i = true∧wpAny P md ops Q t.len (listed.setIfInBounds i true) a' w')) a w:=fun b a w hB h => by
   simp only [treeB,Bool.and_eq_true] at hB
   obtain ⟨⟨hrd,_⟩,hB'⟩:=hB
   have hrd' : i ∈ Region.ready md ops listed:=by simpa using hrd
   exact wpTree_late hr h fun a' w' h' => (wpAnyE_of_tree hr ht hs hQ hfin t _ (closedL_set hcl hrd')).1 _ _ hB' h'
  refine ⟨fun a w hB h => ?_,fun a w hB h n hn j hj _ => ?_⟩
  ·have hB2:=hB
   simp only [treeB,Bool.and_eq_true,Bool.false_or] at hB2
   obtain ⟨⟨hrd,hall⟩,_⟩:=hB2
   refine ⟨fun h0 => (by rw [h0] at hrd;simp at hrd),fun j hj => ?_⟩
   obtain rfl : j = i:=by simpa using List.all_eq_true.1 hall j hj
   exact key false a w hB h
  ·obtain rfl : j = i:=by simpa [OTree.heads] using hj
   obtain rfl : t.len = n:=by simpa [OTree.len] using hn
   exact key true a w hB h
 | .alt s t,listed,hcl => by
  have both : ∀ b a w,treeB md ops b (.alt s t) listed = true → wpTree P ops E Q fin (.alt s t) a w → ∀ n,s.len = n + 1 → ∀ i ∈ s.heads ++ t.heads,i ∈ Region.ready md ops listed →
    wpOp P ops Q i (fun a' w' => (E w w'∧wpAnyE2 P md ops Q E n (listed.setIfInBounds i true) a' w') ∨ (tailB md ops i = true∧wpAny P md ops Q n (listed.setIfInBounds i true) a' w')) a w:=fun b a w hB h n hn i hi hrd => by
   simp only [treeB,Bool.and_eq_true,decide_eq_true_eq] at hB
   obtain ⟨⟨⟨hl,_⟩,hs1⟩,hs2⟩:=hB
   rcases List.mem_append.1 hi with hi | hi
   ·exact (wpAnyE_of_tree hr ht hs hQ hfin s listed hcl).2 a w hs1 h.1 n hn i hi hrd
   ·exact (wpAnyE_of_tree hr ht hs hQ hfin t listed hcl).2 a w hs2 h.2 n (by rw [← hl];exact hn) i hi hrd
  refine ⟨fun a w hB h => ?_,fun a w hB h n hn i hi hrd => both true a w hB h n hn i hi hrd⟩
  have hB2:=hB
  simp only [treeB,Bool.and_eq_true,decide_eq_true_eq,Bool.false_or] at hB2
  obtain ⟨⟨⟨hl,hall⟩,hs1⟩,hs2⟩:=hB2
  show wpAnyE2 P md ops Q E s.len listed a w
  obtain ⟨⟨n,hn⟩,i0,hi0⟩:=treeB_head s listed hs1
  rw [hn]
  refine ⟨fun h0 => (by rw [h0] at hi0;cases hi0),fun j hj => both false a w hB h n hn j (by simpa using List.all_eq_true.1 hall j hj) hj⟩
def treeAllB (ops : Array Oper) (t : OTree) : Bool := Region.noSelect ops && decide (t.len = ops.size) && treeB .any ops false t (Array.replicate ops.size false)
structure OrdF (P : Program) (ops : Array Oper) (E : World → World → Prop) (Q : Exit → Act → World → Prop) (fin : Act → World → Prop) (t : OTree) (a : Act) (w : World) : Prop where
 out : wpTree P ops E Q fin t a w
def puts (a : Act) (l : List (Option Nat × Value)) : Act := l.foldl (fun a p => a.put p.1 p.2) a
theorem f_meet {ι : Type} (E : World → World → Prop) (t : OTree) (upd : ι → List (Option Nat × Value)) (F : ι → World → Prop) {id : Nat} {a : Act} {w : World} (hr : ∀ w, E w w) (ht : ∀ a b c, E a b → E b c → E a c)
  (hm : P.follows .mixedOrders = true) (hB : treeAllB ops t = true)
  (hQ : ∀ d v c a w,Q (.panic c) (a.put d v) w → Q (.panic c) a w) (h : OrdF P ops E Q (fun a' w' => ∃ x,F x w'∧a' = puts a (upd x)) t a w.drew)
  (hk : ∀ x w',F x w' → Q .normal (puts a (upd x)) w') : (Code.region id ops true).wp P Q a w:=by
 simp only [treeAllB,Bool.and_eq_true,decide_eq_true_eq] at hB
 obtain ⟨⟨hs,hl⟩,hB⟩:=hB
 have:=(wpAnyE_of_tree (md:=.any) (Q:=Q) hr ht hs hQ (fun a' w' (h : ∃ x,F x w'∧a' = puts a (upd x)) => by obtain ⟨x,hF,rfl⟩:=h;exact hk x w' hF) t _ (closedL_none _ _)).1 a w.drew hB h.out
 rw [hl] at this
 exact wp_region_any hm (wpAny_of_E2 _ _ _ _ this)
theorem f_quiet {i : Nat} {t : OTree} {a : Act} {w : World} {o : Oper} (ho : ops[i]? = some o)
  (h : ∀ K : Act → Prop,(∀ a,OrdF P ops E Q fin t a w → K a) → if Region.wanted o (yielded ops a.tmps) then quietE2 P o a E w K else K (a.put o.dst undef)) : OrdF P ops E Q fin (.quiet i t) a w:=by
 refine ⟨?_⟩
 unfold wpTree
 simp only [ho]
 exact h _ fun _ ha => ha.out
theorem f_late {i : Nat} {t : OTree} {a : Act} {w : World} {o : Oper} (ho : ops[i]? = some o) (hw : Region.wanted o (yielded ops a.tmps) = true)
  (h : ∀ K : Act → World → Prop,(∀ a w,OrdF P ops E Q fin t a w → K a w) → o.wp P a w (fun a' w' => E w w'∧K a' w') Q) : OrdF P ops E Q fin (.late i t) a w:=by
 refine ⟨?_⟩
 unfold wpTree
 simp only [ho,hw,if_true]
 exact h _ fun _ _ ha => ha.out
theorem f_alt {s t : OTree} {a : Act} {w : World} (h1 : OrdF P ops E Q fin s a w) (h2 : OrdF P ops E Q fin t a w) : OrdF P ops E Q fin (.alt s t) a w := ⟨⟨h1.out, h2.out⟩⟩
theorem f_end {a : Act} {w : World} (h : fin a w) : OrdF P ops E Q fin .done a w := ⟨h⟩
end
end Go.Proofs.YtepoiefadjoabaaGreatDoor
