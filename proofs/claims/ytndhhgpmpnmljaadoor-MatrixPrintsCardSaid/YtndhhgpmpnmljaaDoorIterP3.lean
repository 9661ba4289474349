import Derived.Test.YtndhhgpmpnmljaaDoorIterP2
namespace Go.Proofs.YtndhhgpmpnmljaaDoor
open Go Go.RowKit Go.Shelf Go.Maps Go.Sort

set_option maxHeartbeats 1000000 in
theorem collectP_in (F : Fence) (n : Nat) (h8 : F.fn 62) (h11 : F.fn 74) (hro : F.round = none) (hn : 3 ≤ n) (g : Nat) (lb : Array Value) (hFg : F.fn g) (eg : ∀ args w, (callFunc g args).run Tryd.prog w = .ok (.enter g args) w)
    (S : List PW → Prop) (N : Nat) (hN : N ≤ 4096) (w : World) (hseq : SeqStopsK F (n - 1 - 1) Tryd.prog g lb (fun x : PW => #[.agg #[.int .i64 x.1.1, .int .i64 x.1.2]]) KeepsWalks S (fun _ => True) N w) :
    CallsIn F n Tryd.prog 62 #[.func (.func g) #[] lb] w fun e w' => ∃ (v : Value) (ss : List PW), e = .returned v ∧ S ss ∧ w'.ownsRow w.heap.size 71 2 v ss.length (ss.flatMap cellsPW) ∧ Below w.heap.size w w' := by
  have h1 : 1 ≤ n := by omega
  refine callsIn_of_wp Tryd.func62 rfl h8 ?_ hro
  simp only [Tryd.ntmps62, List.size_toArray, List.length_cons, List.length_nil, Nat.reduceAdd, Nat.reduceSub, Array.replicate_succ, Array.replicate_zero, List.push_toArray, List.append_toArray, List.nil_append, List.cons_append]
  gi_wp2_with (gi_at_call 74; refine (appendSeqP_in F (n - 1) h11 hro (by omega) g lb hFg eg S N hN _ hseq).mono ?_; rintro e w' ⟨v, ss, rfl, hS, hrow, hb⟩)
  go_ret
  exact ⟨v, ss, rfl, hS, hrow, hb⟩
/-- Collect at the keys of a map. -/
theorem collectP_any (w : World) (Bm b nn : Nat) (D0 : DataW Unit) (hsz : Maps.size D0 ≤ 4096) (hm : w.cell? ⟨Bm, 0, none⟩ = some (.map (some b))) (hown : w.ownsMap Tryd.prog 71 (plainElem Tryd.prog 3) b nn D0) :
    Calls Tryd.prog 62 #[.func (.func 64) #[] #[.pointer (some ⟨Bm, 0, none⟩)]] w fun e w' => ∃ (v : Value) (ss : List PW), e = .returned v ∧ AllKeys D0 ss ∧ w'.ownsRow w.heap.size 71 2 v ss.length (ss.flatMap cellsPW) ∧ Below w.heap.size w w' :=
  callsIn_wide.1 (collectP_in Fence.wide 6 trivial trivial rfl (by decide) 64 #[.pointer (some ⟨Bm, 0, none⟩)] trivial (enters_of Tryd.func64 (by kernel_rfl) rfl) (AllKeys D0) (Maps.size D0) hsz w
    (keysP_stops Fence.wide (6 - 1 - 1) trivial rfl (by decide) Bm b nn D0 w (World.block_lt_of_cell? w _ hm) hm hown))
theorem keysP_any (mb : Option Nat) (w : World) :
    Calls Tryd.prog 46 #[.map mb] w fun e w' => e = .returned (.func (.func 64) #[] #[.pointer (some ⟨w.heap.size, 0, none⟩)]) ∧ w' = w.alloc (.cells #[.map mb] 53) :=
  callsIn_wide.1 (keysP_in Fence.wide 2 trivial rfl mb w)
end Go.Proofs.YtndhhgpmpnmljaaDoor
