import Derived.Test.YthgklnohcmaopaaGreatDoorPps2
import Derived.Test.YthgklnohcmaopaaGreatDoorTq24
import Derived.Test.YthgklnohcmaopaaGreatDoorTq18
import Derived.Test.YthgklnohcmaopaaGreatDoorTq46
import Derived.Test.YthgklnohcmaopaaGreatDoorTq42
namespace Go.Proofs.YthgklnohcmaopaaGreatDoor
open Go Go.RowKit Go.Shelf
attribute [local go_sem] aK aP

set_option maxHeartbeats 4000000 in
set_option maxRecDepth 100000 in
theorem compile_ok (t1 t2 t3 : ByteArray) (w : World) (he : uF0 w) (hs1 : t1.size ≤ 1048576) (hs2 : t2.size ≤ 1048576) (hs3 : t3.size ≤ 1048576) (L : List bD) (m : Mx) (xs : List En) (h1 : cX1 t1 = (L, 0, 0)) (h2 : xB0 t2 L = (some m, 0, 0)) (h3 : pK t3 L = (xs, 0, 0))
    (hL : L.length ≤ 64) (hxl : xs.length ≤ 20000) (hx : ∀ y ∈ xs, tL y ∧ y.r.size ≤ 1099511627776 ∧ y.s.size ≤ 1099511627776) :
    Calls Tryz.prog 17 #[.string t1, .string t2, .string t3] w fun en w' => ∃ v, en = .returned (.tuple #[v, .agg #[.int .i64 0, .int .i64 0], .int .i64 (lW L (some m) xs).1]) ∧ aU w' w.heap.size 5 1 aV v (lW L (some m) xs).2 ∧ aB w w' := by
  have HE := Lib.hid he
  have CP := Lib.hid (pparse_any t1 (w.alloc (.cells #[.int .i64 0, .int .i64 0] 58)) (he.grows (aB.alloc _ _)) (by omega))
  unfold PposPost at CP
  rw [h1] at CP
  have T0 := TB.alloc w #[.int .i64 0, .int .i64 0] 58
  have g0 := aB.alloc w (.cells #[.int .i64 0, .int .i64 0] 58)
  obtain ⟨E, hE⟩ : ∃ E, (lW L (some m) xs).1 = E := ⟨_, rfl⟩
  obtain ⟨D, hD⟩ : ∃ D, (lW L (some m) xs).2 = D := ⟨_, rfl⟩
  rw [hE, hD]
  replace hE := Lib.hid hE
  replace hD := Lib.hid hD
  clear h1 he
  go_enter Tryz.func17, Tryz.ntmps17
  go_wp2_with fail
  refine CP.out.mono ?_
  rintro en w1 ⟨v1, rfl, ho1, hg1⟩
  obtain ⟨a1, c1, rfl, _, _, hat1⟩ := ho1.at_ posLay2.len
  have gw1 := g0.tr hg1
  have T1 := T0.gr hg1
  have C2 := parse16_any t2 L a1 c1 w1 (HE.out.env.grows gw1) (by omega) (by omega) hat1
  unfold gW0 at C2
  rw [h2] at C2
  have C2 := Lib.hid C2
  clear CP ho1 hg1 T0 g0 h2
  go_wp2_with fail
  refine C2.out.mono ?_
  rintro en w2 ⟨v2, rfl, _, hm, hg2⟩
  obtain ⟨mb, bm, rfl, _, _, hmat⟩ := hm m rfl
  have gw2 := gw1.tr hg2
  have hat2 := hat1.grows hg2
  have T2 := T1.gr hg2
  have C3 := parse_any t3 L a1 c1 w2 (by omega) (by omega) (HE.out.env.grows gw2) hat2
  unfold bB1 at C3
  rw [h3] at C3
  have C3 := Lib.hid C3
  clear C2 hm hat1 T1 h3
  go_wp2_with fail
  refine C3.out.mono ?_
  rintro en w3 ⟨v3, rfl, ho3, hg3⟩
  have ho3' : aU w3 w2.heap.size 30 5 aZ v3 xs := ho3
  obtain ⟨a3, c3, rfl, _, _, hat3⟩ := ho3'.at_ cL1.len
  have gw3 := gw2.tr hg3
  have T3 := T2.gr hg3
  have CB := Lib.hid (mT0 L (.pointer (some ⟨mb, 0, none⟩)) (some m) xs a1 a3 c1 c3 w3 (HE.out.env.grows gw3) (by omega) (by omega) (fun y hy => (hx y hy).1) (fun y hy => (hx y hy).2) (hat2.grows hg3) ⟨mb, bm, rfl, hmat.grows hg3⟩ hat3)
  unfold bV at CB
  replace CB := CB.out
  rw [hE.out, hD.out] at CB
  replace CB := Lib.hid CB
  clear hE hD
  clear C3 ho3 ho3' hat3 hmat T2 hg3 hat2
  go_wp2_with fail
  refine CB.out.mono ?_
  rintro en w4 ⟨hg4, v4, rfl, ho4⟩
  have gw4 := gw3.tr hg4
  have T4 := T3.gr hg4
  have d0 := T4.cell (o := 0) rfl
  have d1 := T4.cell (o := 1) rfl
  have f0 := T4.froz 0
  have f1 := T4.froz 1
  have T5 := (T4.set 0 (.int .i64 0)).set 1 (.int .i64 0)
  have e0 := T5.cell (o := 0) rfl
  have e1 := T5.cell (o := 1) rfl
  have ho5 := aJ (aJ ho4 (bG w4 w.heap.size 0 (.int .i64 0)) T4.rt (by decide)) (bG _ w.heap.size 1 (.int .i64 0)) (T4.set 0 (.int .i64 0)).rt (by decide)
  have hg5 := (gw4.set (p := ⟨w.heap.size, 0, none⟩) (Nat.le_refl _) (.int .i64 0)).set (p := ⟨w.heap.size, 1, none⟩) (Nat.le_refl _) (.int .i64 0)
  have hb := gw3.size
  clear CB T3 T4 T5 ho4
  go_wp2_with fail
  refine bodyPost_ret (v := .tuple #[v4, .agg #[.int .i64 0, .int .i64 0], .int .i64 E]) (by simp [results, Tryz.results17, go_sem, e0, e1]) rfl ?_
  exact ⟨v4, rfl, ho5.base hb, hg5⟩
end Go.Proofs.YthgklnohcmaopaaGreatDoor
