import Derived.Test.YtndhhgpmpnmljaaGreatDoorEcmp2
import Derived.Test.YtndhhgpmpnmljaaGreatDoorMapE
import Derived.Test.YtndhhgpmpnmljaaGreatDoorSortR
import Derived.Test.YtndhhgpmpnmljaaGreatDoorOwn2
import Derived.Test.YtndhhgpmpnmljaaGreatDoorShelf2
import Derived.Test.YtndhhgpmpnmljaaGreatDoorSortWP
namespace Go.Proofs.YtndhhgpmpnmljaaGreatDoor
open Go Go.RowKit Go.Shelf
attribute [local go_sem] quietE

theorem zeroI (w : World) : (zeroValue 3).run Tryz.prog w = .ok (.int .i64 0) w := by kernel_rfl
theorem esf_agg (w : World) : (isAgg 54).run Tryz.prog w = .ok true w := by kernel_rfl
theorem esf_size (w : World) : (Go.sizeOf 54).run Tryz.prog w = .ok 5 w := by kernel_rfl
def SortPost (w : World) (l : List En) (v : Value) (e : Ending) (w' : World) : Prop := e = .returned (.tuple #[]) ∧ ∃ l', l'.Perm l ∧ l'.Pairwise (fun x y => ltOf enCmp y x = false) ∧ Owns w' w.heap.size 54 5 enCells v l' ∧ w.grownBy w' v.ownBlock
theorem esortf_any (w : World) (base : Nat) (v : Value) (l : List En) (hown : Owns w base 54 5 enCells v l) (hl : l.length < 4611686018427387904) :
    Calls Tryz.prog 58 #[v, .func (.func 59) #[] #[]] w fun e w' => e = .returned (.tuple #[]) ∧ ∃ l', l'.Perm l ∧ l'.Pairwise (fun x y => ltOf enCmp y x = false) ∧ Owns w' base 54 5 enCells v l' ∧ w.grownBy w' v.ownBlock := by
  have h := sortFunc_owns Tryz.sortE esf_agg esf_size (fun _ => rfl) (by decide) enCells_one enCmp swoE 59 #[] (enters_of Tryz.func59 (by kernel_rfl) rfl) cmpLaysE w base 54 v l hown hl
  exact h

set_option maxHeartbeats 4000000 in
set_option maxRecDepth 100000 in
theorem esort_any (l : List En) (la : Option Addr) (cap : Nat) (w : World) (hl : l.length ≤ 1048576) (hok : ∀ x ∈ l, EnOK x) (hat : AtCells w la 5 (l.map enCells)) :
    Calls Tryz.prog 25 #[.slice la l.length cap] w (ESortPost l w) := by
  have HAT := Lib.hid hat
  have HOK := Lib.hid hok
  clear hat hok
  have hmm := @run_makeMap Tryz.prog
  go_enter Tryz.func25, Tryz.ntmps25
  go_wp2_with fail
  go_loopw [15] (fun i wr => ∃ (k : Nat) (D : DataW Unit), k ≤ l.length ∧ i = .int .i64 k ∧ wr.ownsMap Tryz.prog 54 (plainElem Tryz.prog 3) w.heap.size k D ∧ Hid (MapD (l.take k) D) ∧ Grows w wr) (fun i _ => l.length - (intOf i).toNat)
  case atStart => exact ⟨0, _, Nat.zero_le _, rfl, World.ownsMap_made _ _ _ _, mapD_nil, Grows.alloc _ _⟩
  case round =>
    obtain ⟨k, D, hk, rfl, hown, hM, hg⟩ := hrel
    by_cases hlt : k < l.length
    · obtain ⟨⟨xr, xs, xl, xt, xc⟩, hx⟩ : ∃ x, l[k]? = some x := ⟨_, List.getElem?_eq_getElem hlt⟩
      obtain ⟨ba, oa, rfl, hca⟩ := (HAT.out.grows hg).get (ne_nil_of_lt hlt)
      have c0 : wr.cell? ⟨ba, oa + k * 5, none⟩ = some (.string xr) := hca k _ hx 0 _ rfl
      have c1 : wr.cell? ⟨ba, oa + k * 5 + 1, none⟩ = some (.string xs) := hca k _ hx 1 _ rfl
      have c2 : wr.cell? ⟨ba, oa + k * 5 + 2, none⟩ = some (.int .i64 xl) := hca k _ hx 2 _ rfl
      have c3 : wr.cell? ⟨ba, oa + k * 5 + 3, none⟩ = some (.int .i64 xt) := hca k _ hx 3 _ rfl
      have c4 : wr.cell? ⟨ba, oa + k * 5 + 4, none⟩ = some (.int .i64 xc) := hca k _ hx 4 _ rfl
      have hxok : EnOK ⟨xr, xs, xl, xt, xc⟩ := HOK.out _ (List.mem_of_getElem? hx)
      have hkok : EnOK ⟨xr, xs, xl, xt, 0⟩ := hxok.key
      have HK := Lib.hid hkok
      have hwc0 : (Lit.int .i64 xc).wf = true := hxok.c
      obtain ⟨o, _, hA⟩ := (hM.out _ hkok).2 rfl
      have HT := Lib.hid (take_snoc hx)
      have HX := Lib.hid hxok
      clear hca hx hxok
      cases o with
      | none =>
        have hh : Maps.has D (klE ⟨xr, xs, xl, xt, 0⟩) = false := hA
        have HS : Hid (MapD (l.take k ++ [⟨xr, xs, xl, xt, xc⟩]) (D.put (klE ⟨xr, xs, xl, xt, 0⟩) (.lit (.int .i64 xc)))) := hM.out.store hown.isMap HX.out (o := none) hA (fun c hc => by cases hc)
        clear hA hkok
        go_wp2_with (first | (at_lookup; refine wpList_lookup_own_ok_int _ rfl _ _ 108 rfl 54 3 .i64 keyedE Tryz.underlying108 Tryz.underlying3 (zeroI _) w.heap.size k D rfl ((hown.alloc _).alloc _) _ (klE ⟨xr, xs, xl, xt, 0⟩) rfl (keyE HK.out) ?_; intro c hat hwc; rw [hh]; clear hat) | (at_mapUpdate; refine wpList_mapUpdate_own _ rfl _ _ _ 108 rfl 54 3 keyedE Tryz.underlying108 _ w.heap.size k D rfl ((hown.alloc _).alloc _) (by unfold maxLen; omega) _ _ (klE ⟨xr, xs, xl, xt, 0⟩) rfl rfl (keyE HK.out) _ [] (plainElem_int Tryz.underlying3 hwc0) ?_; intro w1 hown1 hgrow1))
        go_roundw
        case rel => exact ⟨k + 1, _, hlt, by go_num, hown1, by rw [HT.out]; exact HS.out, (((hg.al _).al _).grown hgrow1 (fun q hq => by cases hq; exact Nat.le_refl _))⟩
        case measure => simp [intOf]; omega
      | some c0 =>
        have hh : Maps.has D (klE ⟨xr, xs, xl, xt, 0⟩) = true := hA.1
        have HA := Lib.hid hA
        by_cases hc : xc < c0
        · have HS : Hid (MapD (l.take k ++ [⟨xr, xs, xl, xt, xc⟩]) (D.put (klE ⟨xr, xs, xl, xt, 0⟩) (.lit (.int .i64 xc)))) := hM.out.store hown.isMap HX.out (o := some c0) hA (fun c hc2 => by cases hc2; exact hc)
          clear hA hkok
          go_wp2_with (first | (at_lookup; refine wpList_lookup_own_ok_int _ rfl _ _ 108 rfl 54 3 .i64 keyedE Tryz.underlying108 Tryz.underlying3 (zeroI _) w.heap.size k D rfl ((hown.alloc _).alloc _) _ (klE ⟨xr, xs, xl, xt, 0⟩) rfl (keyE HK.out) ?_; intro c hat hwc; rw [hh]; have hcc : c = c0 := (by have h1 := HA.out.2 (.lit (.int .i64 0)); rw [hat] at h1; simpa using h1); have hlt2 : xc < c := (by omega); clear hat hcc) | (at_mapUpdate; refine wpList_mapUpdate_own _ rfl _ _ _ 108 rfl 54 3 keyedE Tryz.underlying108 _ w.heap.size k D rfl ((hown.alloc _).alloc _) (by unfold maxLen; omega) _ _ (klE ⟨xr, xs, xl, xt, 0⟩) rfl rfl (keyE HK.out) _ [] (plainElem_int Tryz.underlying3 hwc0) ?_; intro w1 hown1 hgrow1))
          go_roundw
          case rel => exact ⟨k + 1, _, hlt, by go_num, hown1, by rw [HT.out]; exact HS.out, (((hg.al _).al _).grown hgrow1 (fun q hq => by cases hq; exact Nat.le_refl _))⟩
          case measure => simp [intOf]; omega
        · have HS : Hid (MapD (l.take k ++ [⟨xr, xs, xl, xt, xc⟩]) D) := hM.out.skip (z := ⟨xr, xs, xl, xt, xc⟩) hA (by simp only; omega)
          clear hA hkok
          go_wp2_with (first | (at_lookup; refine wpList_lookup_own_ok_int _ rfl _ _ 108 rfl 54 3 .i64 keyedE Tryz.underlying108 Tryz.underlying3 (zeroI _) w.heap.size k D rfl ((hown.alloc _).alloc _) _ (klE ⟨xr, xs, xl, xt, 0⟩) rfl (keyE HK.out) ?_; intro c hat hwc; rw [hh]; have hcc : c = c0 := (by have h1 := HA.out.2 (.lit (.int .i64 0)); rw [hat] at h1; simpa using h1); have hlt2 : ¬ xc < c := (by omega); clear hat hcc) | (at_mapUpdate; refine wpList_mapUpdate_own _ rfl _ _ _ 108 rfl 54 3 keyedE Tryz.underlying108 _ w.heap.size k D rfl ((hown.alloc _).alloc _) (by unfold maxLen; omega) _ _ (klE ⟨xr, xs, xl, xt, 0⟩) rfl rfl (keyE HK.out) _ [] (plainElem_int Tryz.underlying3 hwc0) ?_; intro w1 hown1 hgrow1))
          go_roundw
          case rel => exact ⟨k + 1, D, hlt, by go_num, ((hown.alloc _).alloc _).mono (Nat.le_succ _), by rw [HT.out]; exact HS.out, (hg.al _).al _⟩
          case measure => simp [intOf]; omega
    · obtain rfl : k = l.length := by omega
      rw [List.take_length] at hM
      obtain ⟨u0, rfl⟩ : ∃ u0, u0 = wr := ⟨_, rfl⟩
      have hszD := hown.size_le
      go_wp2_with (first | (at_range; refine wpList_range_own _ rfl _ 108 rfl 54 3 keyedE Tryz.underlying108 _ w.heap.size l.length D rfl hown ?_; intro w0 hrg0 hg0 hs0))
      go_frame
      go_loopw [9] (fun v wx => ∃ (left : Lit → Bool) (cnt : Nat) (ys : List En), wx.ranges Tryz.prog 54 (plainElem Tryz.prog 3) w.heap.size u0.heap.size l.length D left cnt ∧ ys.length + cnt ≤ l.length ∧ Hid (CollE D left ys) ∧ Owns wx w.heap.size 54 5 enCells v ys ∧ Grows w wx) (fun _ wx => wx.rangeLeft w.heap.size u0.heap.size)
      case atStart => exact ⟨_, _, [], hrg0, by simpa using hszD, collE_start D, Owns.nil _ _ _ _ _, hg.grown hg0 (fun q hq => by cases hq)⟩
      case round =>
        obtain ⟨left, cnt, ys, hrg, hcs, hC, hown9, hg9⟩ := hrel
        go_wp2_with (first | (at_next; refine wpList_next_ranges _ rfl _ rfl 54 keyedE (plainElem Tryz.prog 3) (fun x : En => .agg #[.string x.r, .string x.s, .int .i64 x.l, .int .i64 x.t, .int .i64 x.c]) (Value.int .i64) (fun key kl hk => by obtain ⟨x, _, hx, _⟩ := keyE_inv hk; exact ⟨x, hx⟩) (fun v y hv => by obtain ⟨c, hc, _⟩ := plainElem_int_inv Tryz.underlying3 hv; exact ⟨c, hc⟩) w.heap.size u0.heap.size l.length D left cnt rfl hrg ?_ ?_))
        · intro hc0 hl0
          have hmem := fun y => hC.out.least hM.out HOK.out hl0 y
          have HMEM := Lib.hid hmem
          clear hmem hc0 hl0
          go_wp2_with (first | (go_at_call 58; refine (esortf_any _ w.heap.size _ ys hown9 (by omega)).mono ?_; rintro e w9 ⟨rfl, l', hp, hsd, hown10, hgr10⟩))
          go_ret
          have hS : IsSort l l' := ⟨sorted_strict (hp.nodup_iff.2 hC.out.1) hsd, fun y => (hp.mem_iff).trans (HMEM.out y)⟩
          rw [hS.unique (sortS_spec l)] at hown10
          exact ⟨_, rfl, hown10, hg9.grown hgr10 (fun q hq => ownBlock_ge hown9 q hq)⟩
        · intro x c kl yd yp w2 cnt2 hkey hlk hv hat hrg2 hlt2 hg2 hs2 hen
          obtain ⟨x', hxok, ex, rfl⟩ := keyE_inv hkey
          obtain rfl : x = x' := by
            obtain ⟨a, b, c, d, e⟩ := x
            obtain ⟨a', b', c', d', e'⟩ := x'
            simpa [En.agg] using ex
          obtain ⟨c', ec, ez, hwc⟩ := plainElem_int_inv Tryz.underlying3 hv
          obtain rfl : c = c' := by simpa using ec
          obtain rfl : yd = .lit (.int .i64 c) := (Prod.mk.inj ez).1
          have HC := Lib.hid (hC.out.step hM.out hxok hwc hlk hat)
          have hnm := owns_ne_map hown9 hrg.owns
          have hni := owns_ne_iter hown9 hrg
          have hown10 := owns_kept hown9 hg2 (Or.inr (Ne.symm hni))
          have hgw2 := hg9.grown hg2 (fun q hq => by cases hq; exact hg.size)
          obtain ⟨xr, xs, xl, xt, xc⟩ := x
          dsimp only at hen HC
          clear hkey ex hat hv ec ez hlk hs2 hxok
          go_wp2_with (first | (at_builtin; refine app_one3 entLay rfl _ _ rfl w.heap.size _ ys ⟨xr, xs, xl, xt, c⟩ rfl hown10 (Grows.alloc _ _) _ 1 (by simp) _ rfl rfl (by omega) hgw2.size ?_; intro v5 w5 hown5 hg5a hg5b))
          have hrg5 := (ranges_grows hrg2 ((Grows.alloc _ _).al _)).kept hg5a hnm hni
          have hgw5 := hg5b w hgw2 (Nat.le_refl _)
          go_roundw
          case rel => exact ⟨_, cnt2, ys ++ [⟨xr, xs, xl, xt, c⟩], hrg5, by simp; omega, HC, hown5, hgw5⟩
          case measure => rw [hrg5.left_eq, hrg.left_eq]; exact hlt2
end Go.Proofs.YtndhhgpmpnmljaaGreatDoor
