/- The texts IterP IterP2 IterP3, one behind the other. -/
import Derived.Test.YtepoiefadjoabaaGreatDoorH13
import Derived.RangeFuncBox
import Derived.RangeFuncNested
import Derived.RangeFuncLeaves
import Derived.RangeFuncStops
import Derived.Shelf.Abstract
import Derived.WalkKit
import Derived.OwnWalkIn
import Derived.TacticsInMore
import Derived.RegionIn
import Derived.LoopNIn
import Derived.LoopIn
import Derived.Maps.AppendAt
import Derived.Sort.MapsRangeIn
import Derived.Sort.KeysCollected
namespace Go.Proofs.YtepoiefadjoabaaGreatDoor
open Go Go.RowKit Go.Shelf Go.Maps Go.Sort
attribute [local go_sem] Oper.semAt_some
abbrev PW := { x : Int × Int // WfI x.1 ∧ WfI x.2 }
def cellsPW (x : PW) : List Value := [.int .i64 x.1.1, .int .i64 x.1.2]
def CollP (D0 : DataW Unit) (left : Lit → Bool) (ss : List PW) : Prop := ss.Nodup ∧ ∀ x : PW, x ∈ ss ↔ (has D0 (klP x.1) = true ∧ left (klP x.1) = false)
theorem collP_start (D0 : DataW Unit) : CollP D0 (has D0) [] := ⟨List.nodup_nil, fun x => by cases has D0 (klP x.1) <;> simp⟩
theorem CollP.step {D0 : DataW Unit} {left : Lit → Bool} {ss : List PW} (h : CollP D0 left ss) {x : PW} {y : DataW Unit} (hl : left (klP x.1) = true) (hat : ∀ zd, D0.atKey (klP x.1) zd = y) : CollP D0 (fun z => left z && !z.sameKey (klP x.1)) (ss ++ [x]) := by
 have hhas:=has_true_of_atKey hat
 refine ⟨List.nodup_append.2 ⟨h.1,by simp,fun a ha b hb e => ?_⟩,fun z => ?_⟩
 ·obtain rfl : b = x:=by simpa using hb
  subst e
  have:=((h.2 a).1 ha).2
  rw [hl] at this;cases this
 ·constructor
  ·intro hz
   rcases List.mem_append.1 hz with hz | hz
   ·obtain ⟨k1,k2⟩:=(h.2 z).1 hz
    exact ⟨k1,by simp [k2]⟩
   ·obtain rfl : z = x:=by simpa using hz
    exact ⟨hhas,by simp [klP_same]⟩
  ·rintro ⟨k1,k2⟩
   by_cases e : z = x
   ·rw [e];simp
   ·have hne : klP z.1 ≠ klP x.1:=fun h => e (Subtype.ext (klP_inj z.2.1 z.2.2 x.2.1 x.2.2 h))
    have k3 : (left (klP z.1) && !(klP z.1).sameKey (klP x.1)) = false:=k2
    rw [sameKey_ne hne] at k3
    exact List.mem_append_left _ ((h.2 z).2 ⟨k1,by simpa using k3⟩)
set_option maxRecDepth 100000 in
set_option maxHeartbeats 1000000 in
theorem keysP1_in (F : Fence) (n : Nat) (h10 : F.fn 202) (hro : F.round = none) (hn : 1 ≤ n) (l Bm b nn : Nat) (D0 : DataW Unit) (J Jx : List PW → World → Prop)
  (hY : ∀ pre x W,J pre W → pre.length < Maps.size D0 → YieldAt F (n - 1) Tryz.prog l #[.agg #[.int .i64 x.1.1,.int .i64 x.1.2]] W fun e W' =>
   (e = .returned (.bool true)∧J (pre ++ [x]) W'∧KeepsWalks W W') ∨ (e = .returned (.bool false)∧Jx (pre ++ [x]) W'))
  (W : World) (hJ : AbidesFrom W.heap.size J) (hm : W.cell? ⟨Bm,0,none⟩ = some (.map (some b))) (hown : W.ownsMap Tryz.prog 162 (plainElem Tryz.prog 3) b nn D0) (h0 : J [] W) :
  CallsIn F n Tryz.prog 202 #[.func (.yield l) #[] #[],.pointer (some ⟨Bm,0,none⟩)] W fun e W' => (∃ v,e = .returned v) ∧
   ((∃ ss : List PW,(ss.Nodup∧∀ x : PW,x ∈ ss ↔ has D0 (klP x.1) = true)∧J ss W') ∨ (∃ pre : List PW,True∧Jx pre W')):=by
 refine callsIn_of_wp Tryz.func202 rfl h10 ?_ hro
 simp only [Tryz.ntmps202,List.size_toArray,List.length_cons,List.length_nil,Nat.reduceAdd,Nat.reduceSub,Array.replicate_succ,Array.replicate_zero,List.push_toArray,List.append_toArray,List.nil_append,List.cons_append]
 gi_wp2_with (first
  | (gi_at_range;refine wpListIn_range_own _ rfl _ 158 rfl 162 3 keyedP Tryz.underlying158 _ b nn _ rfl hown ?_;intro w0 hrg0 hg0 hs0)
  | gi_in)
 go_frame
 gi_loopw [3] (fun _ wr => ∃ (left : Lit → Bool) (cnt : Nat) (ss : List PW),wr.ranges Tryz.prog 162 (plainElem Tryz.prog 3) b W.heap.size nn D0 left cnt∧ss.length + cnt ≤ Maps.size D0∧CollP D0 left ss∧J ss wr)
  (fun _ wr => wr.rangeLeft b W.heap.size)
 case atStart =>
  exact ⟨_,_,[],hrg0,by simp,collP_start D0,hJ [] W w0 none h0 hg0 (fun r e => by cases e)⟩
 case round =>
  obtain ⟨left,cnt,ss,hrg,hcs,hC,hJs⟩:=hrel
  gi_wp2_with (first
   | (gi_at_next;refine wpListIn_next_ranges _ rfl _ rfl 162 keyedP (plainElem Tryz.prog 3) (fun x : Int × Int => .agg #[.int .i64 x.1,.int .i64 x.2]) id (fun key kl hk => by obtain ⟨x,_,_,hx,_⟩:=keyP_inv hk;exact ⟨x,hx⟩) (fun v _ _ => ⟨v,rfl⟩) b W.heap.size nn _ _ _ rfl hrg ?_ ?_)
   | gi_in)
  ·intro hc0 hl0
   gi_wp2
   go_end0
   exact ⟨⟨_,rfl⟩,.inl ⟨ss,⟨hC.1,fun x => by rw [hC.2 x,hl0];simp⟩,hJs⟩⟩
  ·intro x0 x1 c kl yd yp w2 cnt2 hkey hlk hv hat hrg2 hlt hg2 hs2 hen
   obtain ⟨x',hx1,hx2,ex,rfl⟩:=keyP_inv hkey
   obtain rfl : x' = (x0,x1):=by
    obtain ⟨a',b'⟩:=x'
    simp [pairV] at ex
    rw [ex.1,ex.2]
   have hC2:=CollP.step (x:=⟨(x0,x1),hx1,hx2⟩) hC hlk hat
   have hJ2 : J ss w2:=hJ ss wr w2 (some W.heap.size) hJs hg2 (fun r e => by cases e;exact ⟨Nat.le_refl _,hrg.iter_walk⟩)
   have hJ3 : J ss (w2.alloc (.cells #[.int .i64 x0,.int .i64 x1] 162)):=hJ ss w2 _ none hJ2 (World.grownBy_alloc _ _ _) (fun r e => by cases e)
   have hrg3:=hrg2.alloc (.cells #[.int .i64 x0,.int .i64 x1] 162)
   obtain ⟨fn,tmps,assign,body,hy,hR⟩:=hY ss ⟨(x0,x1),hx1,hx2⟩ _ hJ3 (by omega)
   dsimp only at hen hy hC2
   clear hs2 ex hkey hv hat hlk
   gi_wp2
   refine hR.mono ?_
   rintro e W3 (⟨rfl,hJ3,hk3⟩ | ⟨rfl,hJx3⟩)
   ·gi_wp2
    have hrg4:=hrg3.of_walks hk3
    go_roundw
    case rel => exact ⟨_,cnt2,ss ++ [⟨(x0,x1),hx1,hx2⟩],hrg4,by simp;omega,hC2,hJ3⟩
    case measure => rw [hrg4.left_eq,hrg.left_eq];exact hlt
   ·gi_wp2
    refine bodyPost_ret (results_none rfl _ _ _) rfl ?_
    exact ⟨⟨_,rfl⟩,.inr ⟨ss ++ [⟨(x0,x1),hx1,hx2⟩],trivial,hJx3⟩⟩
end Go.Proofs.YtepoiefadjoabaaGreatDoor
namespace Go.Proofs.YtepoiefadjoabaaGreatDoor
open Go Go.RowKit Go.Shelf Go.Maps Go.Sort
attribute [local go_sem] Oper.semAt_some
def AllKeys (D0 : DataW Unit) (ss : List PW) : Prop := ss.Nodup ∧ ∀ x : PW, x ∈ ss ↔ has D0 (klP x.1) = true
theorem keysP_stops (F : Fence) (n : Nat) (h10 : F.fn 202) (hro : F.round = none) (hn : 1 ≤ n) (Bm b nn : Nat) (D0 : DataW Unit) (w : World) (hBm : Bm < w.heap.size)
  (hm : w.cell? ⟨Bm,0,none⟩ = some (.map (some b))) (hown : w.ownsMap Tryz.prog 162 (plainElem Tryz.prog 3) b nn D0) :
  SeqStopsK F n Tryz.prog 202 #[.pointer (some ⟨Bm,0,none⟩)] (fun x : PW => #[.agg #[.int .i64 x.1.1,.int .i64 x.1.2]]) KeepsWalks (AllKeys D0) (fun _ => True) (Maps.size D0) w:=fun l J Jx W hW hJ _ hY h0 => by
 have hown' : W.ownsMap Tryz.prog 162 (plainElem Tryz.prog 3) b nn D0:=by
  have hbl:=hown.lt
  obtain ⟨es,clock,hb,Ft,hs,hD⟩:=hown
  exact ⟨es,clock,(hW.block b hbl).trans hb,Ft,hs,hD⟩
 exact keysP1_in F n h10 hro hn l Bm b nn D0 J Jx hY W hJ ((hW.cell (p:=⟨Bm,0,none⟩) hBm).trans hm) hown' h0
set_option maxHeartbeats 1000000 in
theorem keysP_in (F : Fence) (n : Nat) (h7 : F.fn 152) (hro : F.round = none) (mb : Option Nat) (w : World) :
  CallsIn F n Tryz.prog 152 #[.map mb] w fun e w' => e = .returned (.func (.func 202) #[] #[.pointer (some ⟨w.heap.size,0,none⟩)])∧w' = w.alloc (.cells #[.map mb] 158):=by
 refine callsIn_of_wp Tryz.func152 rfl h7 ?_ hro
 simp only [Tryz.ntmps152,List.size_toArray,List.length_cons,List.length_nil,Nat.reduceAdd,Nat.reduceSub,Array.replicate_succ,Array.replicate_zero,List.push_toArray,List.append_toArray,List.nil_append,List.cons_append]
 gi_wp2
 go_ret
 exact ⟨rfl,rfl⟩
theorem blk_own {β : Type} (B : Nat) (cs : Array Value) (t : TypeId) : Own (fun (_ : β) W => W.heap[B]? = some (.cells cs t (0, 0))) := fun s X Y row hs hg hrow =>
 (hg.block B (Array.getElem?_eq_some_iff.1 hs).1 (fun e' => by obtain ⟨o,ho,hc⟩:=hrow B e'.symm;rw [hs] at ho;cases ho;cases hc)).trans hs
theorem row_no_walk {W : World} {base : Nat} {e : TypeId} {size : Nat} {v : Value} {k : Nat} {xs : List Value} (h : W.ownsRow base e size v k xs) : ∀ (j : Nat) (o : Obj), v.ownBlock = some j → W.heap[j]? = some o → o.isWalk = false := by
 intro j o hj ho
 rcases h.2 with ⟨rfl,_⟩ | ⟨g,cap,cur,rfl,_,hgb,_⟩
 ·simp [Value.ownBlock] at hj
 ·have : g = j:=by simpa [Value.ownBlock] using hj
  subst this;rw [hgb] at ho;cases ho;rfl
theorem pairInfo : (Tryz.prog.info? 162).map (fun i => (i.zero, i.size, i.bytes)) = some (some (.agg #[.int .i64 0, .int .i64 0]), 2, 16) := by kernel_rfl
set_option maxRecDepth 100000 in
set_option maxHeartbeats 2000000 in
theorem appendSeqP_in (F : Fence) (n : Nat) (h11 : F.fn 221) (hro : F.round = none) (hn : 2 ≤ n) (g : Nat) (lb : Array Value) (hFg : F.fn g) (eg : ∀ args w, (callFunc g args).run Tryz.prog w = .ok (.enter g args) w)
  (S : List PW → Prop) (N : Nat) (hN : N ≤ 4096) (w : World) (hseq : SeqStopsK F (n - 1) Tryz.prog g lb (fun x : PW => #[.agg #[.int .i64 x.1.1,.int .i64 x.1.2]]) KeepsWalks S (fun _ => True) N w) :
  CallsIn F n Tryz.prog 221 #[.slice none 0 0,.func (.func g) #[] lb] w fun e w' => ∃ (v : Value) (ss : List PW),e = .returned v∧S ss∧w'.ownsRow w.heap.size 162 2 v ss.length (ss.flatMap cellsPW)∧Below w.heap.size w w':=by
 have h1 : 1 ≤ n:=by omega
 obtain ⟨i0,hi,hz0,hz1,hz2⟩:=info_parts pairInfo
 refine callsIn_of_wp_marks Tryz.func221 rfl h11 ?_ hro
 simp only [Tryz.ntmps221,List.size_toArray,List.length_cons,List.length_nil,Nat.reduceAdd,Nat.reduceSub,Array.replicate_succ,Array.replicate_zero,List.push_toArray,List.append_toArray,List.nil_append,List.cons_append]
 gi_wp2
 have bO:=Boxed.new w 156 (.slice none 0 0)
 have hB0 : Below w.heap.size w (w.alloc (.cells #[.slice none 0 0] 156)):=(Below.refl _ w).alloc (Nat.le_refl _) _
 refine wpIn_rangeFunc_ownH hro h1 (gf:=g) (lb:=lb) rfl hFg eg hseq walksK_t walksK_b hB0 (fun _ => rfl)
  (fun pre W => (∃ v,Boxed W w.heap.size 156 v∧W.ownsRow w.heap.size 162 2 v pre.length (pre.flatMap cellsPW)∧True)∧Below w.heap.size w W)
  (fun _ _ _ => False)
  (OwnFrom.and (Own.from (holdsRow_own w.heap.size w.heap.size 156 162 2 (fun pre : List PW => pre.length) (fun pre => pre.flatMap cellsPW) (fun _ _ => True)) _) (ownFrom_below (Nat.le_refl _) (by simp)))
  (fun _ _ _ _ _ hs _ _ => hs)
  ⟨⟨_,bO,World.ownsRow_nil _ _ _ _,trivial⟩,hB0⟩
  (fun x a' W => ∃ Bx,w.heap.size < Bx∧W.heap[Bx]? = some (.cells #[.int .i64 x.1.1,.int .i64 x.1.2] 162 (0,0))∧a' = { tmps:=#[.slice none 0 0,.func (.func g) #[] lb,.pointer (some ⟨w.heap.size,0,none⟩),undef,.slice none 0 0,.pointer (some ⟨Bx,0,none⟩),.func (.func g) #[] lb,.agg #[.int .i64 x.1.1,.int .i64 x.1.2],undef,undef,undef,undef,undef],defers:=[] })
  (fun x a' _ X Y row hs hg hr => by obtain ⟨Bx,h1,h2,h3⟩:=hs;exact ⟨Bx,h1,blk_own (β:=Unit) Bx _ _ () X Y row h2 hg (fun r e => (hr r e).2),h3⟩)
  ?assign ?body ?done ?stop
 case assign =>
  rintro l pre x W K ⟨⟨v,hv,hrow,_⟩,hB⟩ hK
  gi_wp2
  exact hK _ _ ((KeepsOthers.alloc _ _).from _) (KeepsWalks.alloc _ _) ⟨⟨v,hv.alloc _,hrow.alloc _,trivial⟩,hB.alloc hB.size _⟩ ⟨W.heap.size,hv.lt,World.alloc_heap_new W _,rfl⟩
 case body =>
  rintro l pre x a' W hl _ ⟨⟨v,hv,hrow,_⟩,hB⟩ ⟨Bx,hBx,bX,rfl⟩ hlt
  have hc:=hv.cell
  have x0 : W.cell? ⟨Bx,0,none⟩ = some (.int .i64 x.1.1):=by simp [World.cell?,bX]
  have x1 : W.cell? ⟨Bx,1,none⟩ = some (.int .i64 x.1.2):=by simp [World.cell?,bX]
  gi_wp2_with (gi_at_builtin;refine wpListIn_append_own _ rfl _ _ 156 rfl w.heap.size 162 i0 (.agg #[.int .i64 0,.int .i64 0]) 2 16 Tryz.underlying156 hi hz0 hz1 hz2 rfl (by decide) _ _ _ rfl (hrow.alloc _) ⟨W.heap.size,0,none⟩ 1 1 (cellsPW x) rfl rfl (fun j u hu => alloc_new_at rfl j u hu) (fun u hu => by simp [cellsPW] at hu;rcases hu with rfl | rfl <;> rfl) (by unfold maxLen;omega) (by omega) (by have:=hB.size;simp;omega) ?_;intro v' w1 hown' hgrow _;obtain ⟨g',cap',rfl⟩:=ownsRow_succ hown';obtain ⟨hv1,hv2,hr2,hk2,hb2⟩:=hv.appended (by decide) hrow hB.size (Nat.le_refl _) hown' hgrow;have hc1:=hv1.cell;have hf1:=hv1.frozen)
  refine ⟨hk2.from _,((KeepsWalks.alloc W _).trans (KeepsWalks.of_grownBy hgrow (row_no_walk (hrow.alloc _)))).trans (KeepsWalks.setCell _ _ _),⟨⟨_,hv2, ?_,trivial⟩,hB.trans hb2⟩⟩
  rw [List.length_append,List.length_singleton,List.flatMap_append]
  simpa using hr2
 case done =>
  rintro D ys W hD hS ⟨⟨v,hv,hrow,_⟩,hB⟩ hK
  have hc:=hv.cell
  gi_wp2
  refine ⟨by simp,.inl ⟨_,_,rfl,run_takeDeferred hK, ?_⟩⟩
  exact ⟨_,results_tmp rfl _ _ _,v,ys,rfl,hS,ownsRow_putObj hrow _ hK rfl,hB.trans (belowK_b (w:=w) (Nat.le_refl _) W D _ _ (by simp at hD;omega) hK rfl rfl)⟩
 case stop =>
  rintro D c pre W _ _ h _
  exact h.elim
end Go.Proofs.YtepoiefadjoabaaGreatDoor
namespace Go.Proofs.YtepoiefadjoabaaGreatDoor
open Go Go.RowKit Go.Shelf Go.Maps Go.Sort
set_option maxHeartbeats 1000000 in
theorem collectP_in (F : Fence) (n : Nat) (h8 : F.fn 200) (h11 : F.fn 221) (hro : F.round = none) (hn : 3 ≤ n) (g : Nat) (lb : Array Value) (hFg : F.fn g) (eg : ∀ args w, (callFunc g args).run Tryz.prog w = .ok (.enter g args) w)
  (S : List PW → Prop) (N : Nat) (hN : N ≤ 4096) (w : World) (hseq : SeqStopsK F (n - 1 - 1) Tryz.prog g lb (fun x : PW => #[.agg #[.int .i64 x.1.1,.int .i64 x.1.2]]) KeepsWalks S (fun _ => True) N w) :
  CallsIn F n Tryz.prog 200 #[.func (.func g) #[] lb] w fun e w' => ∃ (v : Value) (ss : List PW),e = .returned v∧S ss∧w'.ownsRow w.heap.size 162 2 v ss.length (ss.flatMap cellsPW)∧Below w.heap.size w w':=by
 have h1 : 1 ≤ n:=by omega
 refine callsIn_of_wp Tryz.func200 rfl h8 ?_ hro
 simp only [Tryz.ntmps200,List.size_toArray,List.length_cons,List.length_nil,Nat.reduceAdd,Nat.reduceSub,Array.replicate_succ,Array.replicate_zero,List.push_toArray,List.append_toArray,List.nil_append,List.cons_append]
 gi_wp2_with (gi_at_call 221;refine (appendSeqP_in F (n - 1) h11 hro (by omega) g lb hFg eg S N hN _ hseq).mono ?_;rintro e w' ⟨v,ss,rfl,hS,hrow,hb⟩)
 go_ret
 exact ⟨v,ss,rfl,hS,hrow,hb⟩
theorem collectP_any (w : World) (Bm b nn : Nat) (D0 : DataW Unit) (hsz : Maps.size D0 ≤ 4096) (hm : w.cell? ⟨Bm, 0, none⟩ = some (.map (some b))) (hown : w.ownsMap Tryz.prog 162 (plainElem Tryz.prog 3) b nn D0) :
  Calls Tryz.prog 200 #[.func (.func 202) #[] #[.pointer (some ⟨Bm,0,none⟩)]] w fun e w' => ∃ (v : Value) (ss : List PW),e = .returned v∧AllKeys D0 ss∧w'.ownsRow w.heap.size 162 2 v ss.length (ss.flatMap cellsPW)∧Below w.heap.size w w' :=
 callsIn_wide.1 (collectP_in Fence.wide 6 trivial trivial rfl (by decide) 202 #[.pointer (some ⟨Bm,0,none⟩)] trivial (enters_of Tryz.func202 (by kernel_rfl) rfl) (AllKeys D0) (Maps.size D0) hsz w
  (keysP_stops Fence.wide (6 - 1 - 1) trivial rfl (by decide) Bm b nn D0 w (World.block_lt_of_cell? w _ hm) hm hown))
theorem keysP_any (mb : Option Nat) (w : World) :
  Calls Tryz.prog 152 #[.map mb] w fun e w' => e = .returned (.func (.func 202) #[] #[.pointer (some ⟨w.heap.size,0,none⟩)])∧w' = w.alloc (.cells #[.map mb] 158) :=
 callsIn_wide.1 (keysP_in Fence.wide 2 trivial rfl mb w)
end Go.Proofs.YtepoiefadjoabaaGreatDoor
