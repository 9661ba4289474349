import Derived.Test.YtndhhgpmpnmljaaGreatDoorEnAt
namespace Go.Proofs.YtndhhgpmpnmljaaGreatDoor
open Go Go.RowKit Go.Shelf
attribute [local go_sem] quietE quietE2

set_option maxHeartbeats 8000000 in
set_option maxRecDepth 100000 in
theorem known_any (w : World) (he : Env w) : Calls Tryz.prog 8 #[] w fun e w' => e = .returned (.bool true) ∧ Grows w w' := by
  have HE := Lib.hid he
  clear he
  go_enter Tryz.func8, Tryz.ntmps8
  go_wp2_with fail
  have hX := EnAt.box w kX 54
  have hg1 := Grows.alloc w (.cells (enCells kX).toArray 54)
  have hb1 : w.heap.size < (w.alloc (.cells (enCells kX).toArray 54)).heap.size := by simp
  have hW1 : w.alloc (.cells (enCells kX).toArray 54) = w.alloc (.cells #[.string ⟨#[227, 129, 139]⟩, .string ⟨#[232, 154, 138]⟩, .int .i64 1, .int .i64 1, .int .i64 30001] 54) := rfl
  rw [← hW1]
  clear hW1
  generalize w.alloc (.cells (enCells kX).toArray 54) = W1 at *
  obtain ⟨b1, hb⟩ : ∃ b1, b1 = w.heap.size := ⟨_, rfl⟩
  rw [← hb] at hX hb1 ⊢
  clear hb
  have z0 : ∀ x : Ext (EB W1.heap.size) W1.drew, x.u.cell? ⟨b1, 0, none⟩ = some (.string kaB) := ext_cellB hb1 (hX.c 0 _ rfl)
  have z1 : ∀ x : Ext (EB W1.heap.size) W1.drew, x.u.cell? ⟨b1, 1, none⟩ = some (.string kaK) := ext_cellB hb1 (hX.c 1 _ rfl)
  have z2 : ∀ x : Ext (EB W1.heap.size) W1.drew, x.u.cell? ⟨b1, 2, none⟩ = some (.int .i64 1) := ext_cellB hb1 (hX.c 2 _ rfl)
  have z3 : ∀ x : Ext (EB W1.heap.size) W1.drew, x.u.cell? ⟨b1, 3, none⟩ = some (.int .i64 1) := ext_cellB hb1 (hX.c 3 _ rfl)
  have z4 : ∀ x : Ext (EB W1.heap.size) W1.drew, x.u.cell? ⟨b1, 4, none⟩ = some (.int .i64 30001) := ext_cellB hb1 (hX.c 4 _ rfl)
  refine f_meet (EB W1.heap.size) (.quiet 0 (.quiet 1 (.alt (.late 2 (.late 3 (.late 4 (.late 5 .done)))) (.late 3 (.late 2 (.late 4 (.late 5 .done))))))) (fun (x : Nat × Nat) => [(some 25, .agg #[.string kaB, .string kaK, .int .i64 1, .int .i64 1, .int .i64 30001]), (some 26, .agg #[.string kaB, .string kaK, .int .i64 1, .int .i64 1, .int .i64 30001]), (some 2, .pointer (some ⟨x.1, 0, none⟩)), (some 3, .pointer (some ⟨x.2, 0, none⟩))]) (fun (x : Nat × Nat) w' => EnAt w' x.1 kX ∧ EnAt w' x.2 kX ∧ x.1 ≠ x.2 ∧ W1.heap.size ≤ x.1 ∧ W1.heap.size ≤ x.2 ∧ Grows W1 w') (EB.refl W1.heap.size) (EB.trans W1.heap.size) (by kernel_rfl) (by kernel_rfl) (fun d _ _ _ _ h => by cases d <;> exact h) ?_ ?_
  · have hgd := Grows.drew W1
    have hsd : W1.heap.size ≤ W1.drew.heap.size := Nat.le_refl _
    generalize W1.drew = Wd at *
    iterate 2 (refine f_quiet rfl (fun K hK => ?_); go_simp; refine hK _ ?_; clear hK K)
    clear z0 z1 z2 z3 z4
    refine f_alt ?_ ?_
    · refine f_late rfl rfl (fun K hK => ?_)
      go_simp
      have eP : EnAt (Wd.alloc (.cells #[.string ⟨#[]⟩, .string ⟨#[]⟩, .int .i64 0, .int .i64 0, .int .i64 0] 54)) Wd.heap.size enZero := EnAt.box Wd enZero _
      have geP := Grows.alloc Wd (.cells #[.string ⟨#[]⟩, .string ⟨#[]⟩, .int .i64 0, .int .i64 0, .int .i64 0] 54)
      generalize Wd.alloc (.cells #[.string ⟨#[]⟩, .string ⟨#[]⟩, .int .i64 0, .int .i64 0, .int .i64 0] 54) = w2 at *
      obtain ⟨bP, hbP⟩ : ∃ b, b = Wd.heap.size := ⟨_, rfl⟩
      rw [← hbP] at eP ⊢
      have qbP := Nat.le_of_eq hbP.symm
      clear hbP
      refine ⟨EB.of geP (by omega), hK _ _ ?_⟩
      clear hK K
      have seP := geP.size
      have leP := eP.lt
      refine f_late rfl rfl (fun K hK => ?_)
      go_simp
      have eQ : EnAt (w2.alloc (.cells #[.string ⟨#[]⟩, .string ⟨#[]⟩, .int .i64 0, .int .i64 0, .int .i64 0] 54)) w2.heap.size enZero := EnAt.box w2 enZero _
      have geQ := Grows.alloc w2 (.cells #[.string ⟨#[]⟩, .string ⟨#[]⟩, .int .i64 0, .int .i64 0, .int .i64 0] 54)
      generalize w2.alloc (.cells #[.string ⟨#[]⟩, .string ⟨#[]⟩, .int .i64 0, .int .i64 0, .int .i64 0] 54) = w3 at *
      obtain ⟨bQ, hbQ⟩ : ∃ b, b = w2.heap.size := ⟨_, rfl⟩
      rw [← hbQ] at eQ ⊢
      have qbQ := Nat.le_of_eq hbQ.symm
      clear hbQ
      refine ⟨EB.of geQ (by omega), hK _ _ ?_⟩
      clear hK K
      have seQ := geQ.size
      have leQ := eQ.lt
      replace eP := eP.grows geQ
      have hgw3 : Grows W1 w3 := (hgd.tr geP).tr geQ
      have hne : bP ≠ bQ := by omega
      have p0 := eP.c 0 _ rfl
      have p1 := eP.c 1 _ rfl
      have p2 := eP.c 2 _ rfl
      have p3 := eP.c 3 _ rfl
      have p4 := eP.c 4 _ rfl
      have pf := eP.f
      refine f_late rfl rfl (fun K hK => ?_)
      go_simp
      have neP : EnAt (((((w3.setCell ⟨bP, 0, none⟩ (.string kaB)).setCell ⟨bP, 1, none⟩ (.string kaK)).setCell ⟨bP, 2, none⟩ (.int .i64 1)).setCell ⟨bP, 3, none⟩ (.int .i64 1)).setCell ⟨bP, 4, none⟩ (.int .i64 30001)) bP kX := eP.all (y := kX)
      have neQ : EnAt (((((w3.setCell ⟨bP, 0, none⟩ (.string kaB)).setCell ⟨bP, 1, none⟩ (.string kaK)).setCell ⟨bP, 2, none⟩ (.int .i64 1)).setCell ⟨bP, 3, none⟩ (.int .i64 1)).setCell ⟨bP, 4, none⟩ (.int .i64 30001)) _ _ := eQ.other5 hne _ _ _ _ _
      have geb : EB W1.heap.size w3 (((((w3.setCell ⟨bP, 0, none⟩ (.string kaB)).setCell ⟨bP, 1, none⟩ (.string kaK)).setCell ⟨bP, 2, none⟩ (.int .i64 1)).setCell ⟨bP, 3, none⟩ (.int .i64 1)).setCell ⟨bP, 4, none⟩ (.int .i64 30001)) := EB.set5 (by omega) _ _ _ _ _
      clear p0 p1 p2 p3 p4 pf eP eQ
      generalize (((((w3.setCell ⟨bP, 0, none⟩ (.string kaB)).setCell ⟨bP, 1, none⟩ (.string kaK)).setCell ⟨bP, 2, none⟩ (.int .i64 1)).setCell ⟨bP, 3, none⟩ (.int .i64 1)).setCell ⟨bP, 4, none⟩ (.int .i64 30001)) = w4 at *
      refine ⟨geb, hK _ _ ?_⟩
      clear hK K
      have hgw4 : Grows W1 w4 := EB.grows hgw3 geb
      clear geb
      have eP := neP; clear neP
      have eQ := neQ; clear neQ
      have p0 := eQ.c 0 _ rfl
      have p1 := eQ.c 1 _ rfl
      have p2 := eQ.c 2 _ rfl
      have p3 := eQ.c 3 _ rfl
      have p4 := eQ.c 4 _ rfl
      have pf := eQ.f
      refine f_late rfl rfl (fun K hK => ?_)
      go_simp
      have neQ : EnAt (((((w4.setCell ⟨bQ, 0, none⟩ (.string kaB)).setCell ⟨bQ, 1, none⟩ (.string kaK)).setCell ⟨bQ, 2, none⟩ (.int .i64 1)).setCell ⟨bQ, 3, none⟩ (.int .i64 1)).setCell ⟨bQ, 4, none⟩ (.int .i64 30001)) bQ kX := eQ.all (y := kX)
      have neP : EnAt (((((w4.setCell ⟨bQ, 0, none⟩ (.string kaB)).setCell ⟨bQ, 1, none⟩ (.string kaK)).setCell ⟨bQ, 2, none⟩ (.int .i64 1)).setCell ⟨bQ, 3, none⟩ (.int .i64 1)).setCell ⟨bQ, 4, none⟩ (.int .i64 30001)) _ _ := eP.other5 (Ne.symm hne) _ _ _ _ _
      have geb : EB W1.heap.size w4 (((((w4.setCell ⟨bQ, 0, none⟩ (.string kaB)).setCell ⟨bQ, 1, none⟩ (.string kaK)).setCell ⟨bQ, 2, none⟩ (.int .i64 1)).setCell ⟨bQ, 3, none⟩ (.int .i64 1)).setCell ⟨bQ, 4, none⟩ (.int .i64 30001)) := EB.set5 (by omega) _ _ _ _ _
      clear p0 p1 p2 p3 p4 pf eQ eP
      generalize (((((w4.setCell ⟨bQ, 0, none⟩ (.string kaB)).setCell ⟨bQ, 1, none⟩ (.string kaK)).setCell ⟨bQ, 2, none⟩ (.int .i64 1)).setCell ⟨bQ, 3, none⟩ (.int .i64 1)).setCell ⟨bQ, 4, none⟩ (.int .i64 30001)) = w5 at *
      refine ⟨geb, hK _ _ ?_⟩
      clear hK K
      have hgw5 : Grows W1 w5 := EB.grows hgw4 geb
      clear geb
      have eQ := neQ; clear neQ
      have eP := neP; clear neP
      refine f_end ?_
      exact ⟨(bP, bQ), ⟨eP, eQ, hne, by omega, by omega, hgw5⟩, by simp only [puts, List.foldl]; go_simp⟩
    · refine f_late rfl rfl (fun K hK => ?_)
      go_simp
      have eQ : EnAt (Wd.alloc (.cells #[.string ⟨#[]⟩, .string ⟨#[]⟩, .int .i64 0, .int .i64 0, .int .i64 0] 54)) Wd.heap.size enZero := EnAt.box Wd enZero _
      have geQ := Grows.alloc Wd (.cells #[.string ⟨#[]⟩, .string ⟨#[]⟩, .int .i64 0, .int .i64 0, .int .i64 0] 54)
      generalize Wd.alloc (.cells #[.string ⟨#[]⟩, .string ⟨#[]⟩, .int .i64 0, .int .i64 0, .int .i64 0] 54) = w2 at *
      obtain ⟨bQ, hbQ⟩ : ∃ b, b = Wd.heap.size := ⟨_, rfl⟩
      rw [← hbQ] at eQ ⊢
      have qbQ := Nat.le_of_eq hbQ.symm
      clear hbQ
      refine ⟨EB.of geQ (by omega), hK _ _ ?_⟩
      clear hK K
      have seQ := geQ.size
      have leQ := eQ.lt
      refine f_late rfl rfl (fun K hK => ?_)
      go_simp
      have eP : EnAt (w2.alloc (.cells #[.string ⟨#[]⟩, .string ⟨#[]⟩, .int .i64 0, .int .i64 0, .int .i64 0] 54)) w2.heap.size enZero := EnAt.box w2 enZero _
      have geP := Grows.alloc w2 (.cells #[.string ⟨#[]⟩, .string ⟨#[]⟩, .int .i64 0, .int .i64 0, .int .i64 0] 54)
      generalize w2.alloc (.cells #[.string ⟨#[]⟩, .string ⟨#[]⟩, .int .i64 0, .int .i64 0, .int .i64 0] 54) = w3 at *
      obtain ⟨bP, hbP⟩ : ∃ b, b = w2.heap.size := ⟨_, rfl⟩
      rw [← hbP] at eP ⊢
      have qbP := Nat.le_of_eq hbP.symm
      clear hbP
      refine ⟨EB.of geP (by omega), hK _ _ ?_⟩
      clear hK K
      have seP := geP.size
      have leP := eP.lt
      replace eQ := eQ.grows geP
      have hgw3 : Grows W1 w3 := (hgd.tr geQ).tr geP
      have hne : bP ≠ bQ := by omega
      have p0 := eP.c 0 _ rfl
      have p1 := eP.c 1 _ rfl
      have p2 := eP.c 2 _ rfl
      have p3 := eP.c 3 _ rfl
      have p4 := eP.c 4 _ rfl
      have pf := eP.f
      refine f_late rfl rfl (fun K hK => ?_)
      go_simp
      have neP : EnAt (((((w3.setCell ⟨bP, 0, none⟩ (.string kaB)).setCell ⟨bP, 1, none⟩ (.string kaK)).setCell ⟨bP, 2, none⟩ (.int .i64 1)).setCell ⟨bP, 3, none⟩ (.int .i64 1)).setCell ⟨bP, 4, none⟩ (.int .i64 30001)) bP kX := eP.all (y := kX)
      have neQ : EnAt (((((w3.setCell ⟨bP, 0, none⟩ (.string kaB)).setCell ⟨bP, 1, none⟩ (.string kaK)).setCell ⟨bP, 2, none⟩ (.int .i64 1)).setCell ⟨bP, 3, none⟩ (.int .i64 1)).setCell ⟨bP, 4, none⟩ (.int .i64 30001)) _ _ := eQ.other5 hne _ _ _ _ _
      have geb : EB W1.heap.size w3 (((((w3.setCell ⟨bP, 0, none⟩ (.string kaB)).setCell ⟨bP, 1, none⟩ (.string kaK)).setCell ⟨bP, 2, none⟩ (.int .i64 1)).setCell ⟨bP, 3, none⟩ (.int .i64 1)).setCell ⟨bP, 4, none⟩ (.int .i64 30001)) := EB.set5 (by omega) _ _ _ _ _
      clear p0 p1 p2 p3 p4 pf eP eQ
      generalize (((((w3.setCell ⟨bP, 0, none⟩ (.string kaB)).setCell ⟨bP, 1, none⟩ (.string kaK)).setCell ⟨bP, 2, none⟩ (.int .i64 1)).setCell ⟨bP, 3, none⟩ (.int .i64 1)).setCell ⟨bP, 4, none⟩ (.int .i64 30001)) = w4 at *
      refine ⟨geb, hK _ _ ?_⟩
      clear hK K
      have hgw4 : Grows W1 w4 := EB.grows hgw3 geb
      clear geb
      have eP := neP; clear neP
      have eQ := neQ; clear neQ
      have p0 := eQ.c 0 _ rfl
      have p1 := eQ.c 1 _ rfl
      have p2 := eQ.c 2 _ rfl
      have p3 := eQ.c 3 _ rfl
      have p4 := eQ.c 4 _ rfl
      have pf := eQ.f
      refine f_late rfl rfl (fun K hK => ?_)
      go_simp
      have neQ : EnAt (((((w4.setCell ⟨bQ, 0, none⟩ (.string kaB)).setCell ⟨bQ, 1, none⟩ (.string kaK)).setCell ⟨bQ, 2, none⟩ (.int .i64 1)).setCell ⟨bQ, 3, none⟩ (.int .i64 1)).setCell ⟨bQ, 4, none⟩ (.int .i64 30001)) bQ kX := eQ.all (y := kX)
      have neP : EnAt (((((w4.setCell ⟨bQ, 0, none⟩ (.string kaB)).setCell ⟨bQ, 1, none⟩ (.string kaK)).setCell ⟨bQ, 2, none⟩ (.int .i64 1)).setCell ⟨bQ, 3, none⟩ (.int .i64 1)).setCell ⟨bQ, 4, none⟩ (.int .i64 30001)) _ _ := eP.other5 (Ne.symm hne) _ _ _ _ _
      have geb : EB W1.heap.size w4 (((((w4.setCell ⟨bQ, 0, none⟩ (.string kaB)).setCell ⟨bQ, 1, none⟩ (.string kaK)).setCell ⟨bQ, 2, none⟩ (.int .i64 1)).setCell ⟨bQ, 3, none⟩ (.int .i64 1)).setCell ⟨bQ, 4, none⟩ (.int .i64 30001)) := EB.set5 (by omega) _ _ _ _ _
      clear p0 p1 p2 p3 p4 pf eQ eP
      generalize (((((w4.setCell ⟨bQ, 0, none⟩ (.string kaB)).setCell ⟨bQ, 1, none⟩ (.string kaK)).setCell ⟨bQ, 2, none⟩ (.int .i64 1)).setCell ⟨bQ, 3, none⟩ (.int .i64 1)).setCell ⟨bQ, 4, none⟩ (.int .i64 30001)) = w5 at *
      refine ⟨geb, hK _ _ ?_⟩
      clear hK K
      have hgw5 : Grows W1 w5 := EB.grows hgw4 geb
      clear geb
      have eQ := neQ; clear neQ
      have eP := neP; clear neP
      refine f_end ?_
      exact ⟨(bP, bQ), ⟨eP, eQ, hne, by omega, by omega, hgw5⟩, by simp only [puts, List.foldl]; go_simp⟩
  · clear z0 z1 z2 z3 z4
    rintro ⟨bY, bZ⟩ w2 ⟨eY, eZ, hne, lY, lZ, hg2⟩
    simp only at eY eZ hne lY lZ
    simp only [puts, List.foldl]
    have eX := hX.grows hg2
    replace hg2 := hg1.tr hg2
    have nXY : b1 ≠ bY := by omega
    have nXZ : b1 ≠ bZ := by omega
    clear hX
    have nYX : bY ≠ b1 := Ne.symm nXY
    have nZX : bZ ≠ b1 := Ne.symm nXZ
    have nZY : bZ ≠ bY := Ne.symm hne
    have x0 : w2.cell? ⟨b1, 0, none⟩ = some (.string kaB) := eX.c 0 _ rfl
    have x1 : w2.cell? ⟨b1, 1, none⟩ = some (.string kaK) := eX.c 1 _ rfl
    have x2 : w2.cell? ⟨b1, 2, none⟩ = some (.int .i64 1) := eX.c 2 _ rfl
    have x3 : w2.cell? ⟨b1, 3, none⟩ = some (.int .i64 1) := eX.c 3 _ rfl
    have x4 : w2.cell? ⟨b1, 4, none⟩ = some (.int .i64 30001) := eX.c 4 _ rfl
    have y0 : w2.cell? ⟨bY, 0, none⟩ = some (.string kaB) := eY.c 0 _ rfl
    have y1 : w2.cell? ⟨bY, 1, none⟩ = some (.string kaK) := eY.c 1 _ rfl
    have y2 : w2.cell? ⟨bY, 2, none⟩ = some (.int .i64 1) := eY.c 2 _ rfl
    have y3 : w2.cell? ⟨bY, 3, none⟩ = some (.int .i64 1) := eY.c 3 _ rfl
    have y4 : w2.cell? ⟨bY, 4, none⟩ = some (.int .i64 30001) := eY.c 4 _ rfl
    have z0 : w2.cell? ⟨bZ, 0, none⟩ = some (.string kaB) := eZ.c 0 _ rfl
    have z1 : w2.cell? ⟨bZ, 1, none⟩ = some (.string kaK) := eZ.c 1 _ rfl
    have z2 : w2.cell? ⟨bZ, 2, none⟩ = some (.int .i64 1) := eZ.c 2 _ rfl
    have z3 : w2.cell? ⟨bZ, 3, none⟩ = some (.int .i64 1) := eZ.c 3 _ rfl
    have z4 : w2.cell? ⟨bZ, 4, none⟩ = some (.int .i64 30001) := eZ.c 4 _ rfl
    have yf := eY.f
    have zf := eZ.f
    have lw := hg1.size
    have lwY : w.heap.size ≤ bY := by omega
    have lwZ : w.heap.size ≤ bZ := by omega
    go_wp2_with fail
    clear x0 x1 x2 x3 x4 y0 y1 y2 y3 y4 z0 z1 z2 z3 z4 yf zf
    have pX := ((eX.other nYX 0 (.string ⟨#[227, 130, 171]⟩)).other nZX 1 (.string ⟨#[10]⟩)).other nZX 4 (.int .i64 0)
    have pY := ((eY.put (y := kY) 0 (.string ⟨#[227, 130, 171]⟩) (by decide) rfl).other nZY 1 (.string ⟨#[10]⟩)).other nZY 4 (.int .i64 0)
    have pZ := ((eZ.other hne 0 (.string ⟨#[227, 130, 171]⟩)).put (y := ⟨kaB, ⟨#[10]⟩, 1, 1, 30001⟩) 1 (.string ⟨#[10]⟩) (by decide) rfl).put (y := kZ ⟨#[10]⟩) 4 (.int .i64 0) (by decide) rfl
    have pg := ((hg2.set (p := ⟨bY, 0, none⟩) lwY (.string ⟨#[227, 130, 171]⟩)).set (p := ⟨bZ, 1, none⟩) lwZ (.string ⟨#[10]⟩)).set (p := ⟨bZ, 4, none⟩) lwZ (.int .i64 0)
    generalize ((w2.setCell ⟨bY, 0, none⟩ (.string ⟨#[227, 130, 171]⟩)).setCell ⟨bZ, 1, none⟩ (.string ⟨#[10]⟩)).setCell ⟨bZ, 4, none⟩ (.int .i64 0) = w3 at *
    clear eX eY eZ hg2
    have eX := pX
    have eY := pY
    have eZ := pZ
    have hg2 := pg
    clear pX pY pZ pg
    refine (ck ev_k1 (by decide) (by decide) w3 (HE.out.grows hg2)).mono ?_
    rintro e w4 ⟨rfl, hgk⟩
    replace eX := eX.grows hgk
    replace eY := eY.grows hgk
    replace eZ := eZ.grows hgk
    replace hg2 := hg2.tr hgk
    clear hgk
    have c0 : w4.cell? ⟨bY, 0, none⟩ = some (.string ⟨#[227, 130, 171]⟩) := eY.c 0 _ rfl
    have c1 : w4.cell? ⟨bY, 1, none⟩ = some (.string kaK) := eY.c 1 _ rfl
    have c2 : w4.cell? ⟨bY, 2, none⟩ = some (.int .i64 1) := eY.c 2 _ rfl
    have c3 : w4.cell? ⟨bY, 3, none⟩ = some (.int .i64 1) := eY.c 3 _ rfl
    have c4 : w4.cell? ⟨bY, 4, none⟩ = some (.int .i64 30001) := eY.c 4 _ rfl
    have zf := eZ.f
    go_wp2_with fail
    clear c0 c1 c2 c3 c4 zf
    refine (ck ev_k2 (by decide) (by decide) w4 (HE.out.grows hg2)).mono ?_
    rintro e w5 ⟨rfl, hgk⟩
    replace eX := eX.grows hgk
    replace eY := eY.grows hgk
    replace eZ := eZ.grows hgk
    replace hg2 := hg2.tr hgk
    clear hgk
    have c0 : w5.cell? ⟨bZ, 0, none⟩ = some (.string kaB) := eZ.c 0 _ rfl
    have c1 : w5.cell? ⟨bZ, 1, none⟩ = some (.string ⟨#[10]⟩) := eZ.c 1 _ rfl
    have c2 : w5.cell? ⟨bZ, 2, none⟩ = some (.int .i64 1) := eZ.c 2 _ rfl
    have c3 : w5.cell? ⟨bZ, 3, none⟩ = some (.int .i64 1) := eZ.c 3 _ rfl
    have c4 : w5.cell? ⟨bZ, 4, none⟩ = some (.int .i64 0) := eZ.c 4 _ rfl
    have zf := eZ.f
    go_wp2_with fail
    clear c0 c1 c2 c3 c4 zf
    refine (ck ev_k3 (by decide) (by decide) w5 (HE.out.grows hg2)).mono ?_
    rintro e w6 ⟨rfl, hgk⟩
    replace eX := eX.grows hgk
    replace eY := eY.grows hgk
    replace eZ := eZ.grows hgk
    replace hg2 := hg2.tr hgk
    clear hgk
    have c0 : w6.cell? ⟨b1, 0, none⟩ = some (.string kaB) := eX.c 0 _ rfl
    have c1 : w6.cell? ⟨b1, 1, none⟩ = some (.string kaK) := eX.c 1 _ rfl
    have c2 : w6.cell? ⟨b1, 2, none⟩ = some (.int .i64 1) := eX.c 2 _ rfl
    have c3 : w6.cell? ⟨b1, 3, none⟩ = some (.int .i64 1) := eX.c 3 _ rfl
    have c4 : w6.cell? ⟨b1, 4, none⟩ = some (.int .i64 30001) := eX.c 4 _ rfl
    have zf := eZ.f
    go_wp2_with fail
    clear c0 c1 c2 c3 c4 zf
    refine (ck ev_k4 (by decide) (by decide) w6 (HE.out.grows hg2)).mono ?_
    rintro e w7 ⟨rfl, hgk⟩
    replace eX := eX.grows hgk
    replace eY := eY.grows hgk
    replace eZ := eZ.grows hgk
    replace hg2 := hg2.tr hgk
    clear hgk
    have c0 : w7.cell? ⟨bZ, 0, none⟩ = some (.string kaB) := eZ.c 0 _ rfl
    have c1 : w7.cell? ⟨bZ, 1, none⟩ = some (.string ⟨#[10]⟩) := eZ.c 1 _ rfl
    have c2 : w7.cell? ⟨bZ, 2, none⟩ = some (.int .i64 1) := eZ.c 2 _ rfl
    have c3 : w7.cell? ⟨bZ, 3, none⟩ = some (.int .i64 1) := eZ.c 3 _ rfl
    have c4 : w7.cell? ⟨bZ, 4, none⟩ = some (.int .i64 0) := eZ.c 4 _ rfl
    have zf := eZ.f
    go_wp2_with fail
    clear c0 c1 c2 c3 c4 zf
    have pY : EnAt (w7.setCell ⟨bZ, 1, none⟩ (.string ⟨#[194, 128]⟩)) bY kY := eY.other nZY _ _
    have pX : EnAt (w7.setCell ⟨bZ, 1, none⟩ (.string ⟨#[194, 128]⟩)) b1 kX := eX.other nZX _ _
    have pZ : EnAt (w7.setCell ⟨bZ, 1, none⟩ (.string ⟨#[194, 128]⟩)) bZ (kZ ⟨#[194, 128]⟩) := eZ.put 1 _ (by decide) rfl
    have pg : Grows w (w7.setCell ⟨bZ, 1, none⟩ (.string ⟨#[194, 128]⟩)) := hg2.set lwZ _
    generalize w7.setCell ⟨bZ, 1, none⟩ (.string ⟨#[194, 128]⟩) = w8 at *
    clear eX eY eZ hg2
    have eX := pX
    have eY := pY
    have eZ := pZ
    have hg2 := pg
    clear pX pY pZ pg
    refine (ck ev_k5 (by decide) (by decide) w8 (HE.out.grows hg2)).mono ?_
    rintro e w9 ⟨rfl, hgk⟩
    replace eX := eX.grows hgk
    replace eY := eY.grows hgk
    replace eZ := eZ.grows hgk
    replace hg2 := hg2.tr hgk
    clear hgk
    have c0 : w9.cell? ⟨bZ, 0, none⟩ = some (.string kaB) := eZ.c 0 _ rfl
    have c1 : w9.cell? ⟨bZ, 1, none⟩ = some (.string ⟨#[194, 128]⟩) := eZ.c 1 _ rfl
    have c2 : w9.cell? ⟨bZ, 2, none⟩ = some (.int .i64 1) := eZ.c 2 _ rfl
    have c3 : w9.cell? ⟨bZ, 3, none⟩ = some (.int .i64 1) := eZ.c 3 _ rfl
    have c4 : w9.cell? ⟨bZ, 4, none⟩ = some (.int .i64 0) := eZ.c 4 _ rfl
    have zf := eZ.f
    go_wp2_with fail
    clear c0 c1 c2 c3 c4 zf
    have pY : EnAt (w9.setCell ⟨bZ, 1, none⟩ (.string ⟨#[194, 160]⟩)) bY kY := eY.other nZY _ _
    have pX : EnAt (w9.setCell ⟨bZ, 1, none⟩ (.string ⟨#[194, 160]⟩)) b1 kX := eX.other nZX _ _
    have pZ : EnAt (w9.setCell ⟨bZ, 1, none⟩ (.string ⟨#[194, 160]⟩)) bZ (kZ ⟨#[194, 160]⟩) := eZ.put 1 _ (by decide) rfl
    have pg : Grows w (w9.setCell ⟨bZ, 1, none⟩ (.string ⟨#[194, 160]⟩)) := hg2.set lwZ _
    generalize w9.setCell ⟨bZ, 1, none⟩ (.string ⟨#[194, 160]⟩) = w10 at *
    clear eX eY eZ hg2
    have eX := pX
    have eY := pY
    have eZ := pZ
    have hg2 := pg
    clear pX pY pZ pg
    refine (ck ev_k6 (by decide) (by decide) w10 (HE.out.grows hg2)).mono ?_
    rintro e w11 ⟨rfl, hgk⟩
    replace eX := eX.grows hgk
    replace hg2 := hg2.tr hgk
    clear hgk eY eZ hne lY lZ nXY nXZ nYX nZX nZY lwY lwZ
    go_wp2_with fail
    refine (wrong_any _ 1 5 w11 (HE.out.grows hg2) (by decide +kernel) (by kernel_rfl)).mono ?_
    rintro e w12 ⟨rfl, hgk⟩
    replace eX := eX.grows hgk
    replace hg2 := hg2.tr hgk
    clear hgk
    go_wp2_with fail
    refine (wrong_any _ 1 5 w12 (HE.out.grows hg2) (by decide +kernel) (by kernel_rfl)).mono ?_
    rintro e w13 ⟨rfl, hgk⟩
    replace eX := eX.grows hgk
    replace hg2 := hg2.tr hgk
    clear hgk
    go_wp2_with fail
    refine (wrong_any _ 1 6 w13 (HE.out.grows hg2) (by decide +kernel) (by kernel_rfl)).mono ?_
    rintro e w14 ⟨rfl, hgk⟩
    replace eX := eX.grows hgk
    replace hg2 := hg2.tr hgk
    clear hgk
    go_wp2_with fail
    refine (wrong_any _ 1 5 w14 (HE.out.grows hg2) (by decide +kernel) (by kernel_rfl)).mono ?_
    rintro e w15 ⟨rfl, hgk⟩
    replace eX := eX.grows hgk
    replace hg2 := hg2.tr hgk
    clear hgk
    go_wp2_with fail
    refine (wrong_any _ 2 150 w15 (HE.out.grows hg2) (by decide +kernel) (by kernel_rfl)).mono ?_
    rintro e w16 ⟨rfl, hgk⟩
    replace eX := eX.grows hgk
    replace hg2 := hg2.tr hgk
    clear hgk
    go_wp2_with fail
    refine (wrong_any _ 1 5 w16 (HE.out.grows hg2) (by decide +kernel) (by kernel_rfl)).mono ?_
    rintro e w17 ⟨rfl, hgk⟩
    replace eX := eX.grows hgk
    replace hg2 := hg2.tr hgk
    clear hgk
    go_wp2_with fail
    refine (wrong_any _ 1 5 w17 (HE.out.grows hg2) (by decide +kernel) (by kernel_rfl)).mono ?_
    rintro e w18 ⟨rfl, hgk⟩
    replace eX := eX.grows hgk
    replace hg2 := hg2.tr hgk
    clear hgk
    go_wp2_with fail
    refine (wrong_any _ 1 5 w18 (HE.out.grows hg2) (by decide +kernel) (by kernel_rfl)).mono ?_
    rintro e w19 ⟨rfl, hgk⟩
    replace eX := eX.grows hgk
    replace hg2 := hg2.tr hgk
    clear hgk
    go_wp2_with fail
    refine (plain_any w19).mono ?_
    rintro e w20 ⟨rfl, hp20, hg20⟩
    go_wp2_with fail
    refine (parse_is ev_none (by decide +kernel) _ 2 2 rfl (by omega) w20 (HE.out.grows (hg2.tr hg20)) hp20).mono ?_
    rintro e w21 ⟨a21, c21, rfl, hg21⟩
    clear hp20
    go_wp2_with fail
    refine (parse_is (L := []) (n := 0) (e := 5) (by kernel_rfl) (by decide +kernel) none 0 0 rfl (by omega) w21 (HE.out.grows ((hg2.tr hg20).tr hg21)) (AtCells.nil _ _ _)).mono ?_
    rintro e w22 ⟨a22, c22, rfl, hg22⟩
    have hg3 := ((hg2.tr hg20).tr hg21).tr hg22
    replace eX := ((eX.grows hg20).grows hg21).grows hg22
    clear hg2 hg20 hg21 hg22
    go_wp2_with fail
    refine (print_zero w22 (HE.out.grows hg3) _ rfl).mono ?_
    rintro e w23 ⟨rfl, hg23⟩
    replace eX := eX.grows hg23
    replace hg3 := hg3.tr hg23
    clear hg23
    go_wp2_with fail
    have hbX : b1 < w23.heap.size := eX.lt
    have z0 : ∀ x : Ext (EB w23.heap.size) w23.drew, x.u.cell? ⟨b1, 0, none⟩ = some (.string kaB) := ext_cellB hbX (eX.c 0 _ rfl)
    have z1 : ∀ x : Ext (EB w23.heap.size) w23.drew, x.u.cell? ⟨b1, 1, none⟩ = some (.string kaK) := ext_cellB hbX (eX.c 1 _ rfl)
    have z2 : ∀ x : Ext (EB w23.heap.size) w23.drew, x.u.cell? ⟨b1, 2, none⟩ = some (.int .i64 1) := ext_cellB hbX (eX.c 2 _ rfl)
    have z3 : ∀ x : Ext (EB w23.heap.size) w23.drew, x.u.cell? ⟨b1, 3, none⟩ = some (.int .i64 1) := ext_cellB hbX (eX.c 3 _ rfl)
    have z4 : ∀ x : Ext (EB w23.heap.size) w23.drew, x.u.cell? ⟨b1, 4, none⟩ = some (.int .i64 30001) := ext_cellB hbX (eX.c 4 _ rfl)
    refine f_meet (EB w23.heap.size) (.quiet 0 (.quiet 1 (.quiet 2 (.alt (.late 3 (.alt (.late 4 (.late 5 (.late 6 (.late 7 (.late 8 .done))))) (.late 5 (.late 4 (.late 6 (.late 7 (.late 8 .done))))))) (.alt (.late 4 (.alt (.late 3 (.late 5 (.late 6 (.late 7 (.late 8 .done))))) (.late 5 (.late 3 (.late 6 (.late 7 (.late 8 .done))))))) (.late 5 (.alt (.late 3 (.late 4 (.late 6 (.late 7 (.late 8 .done))))) (.late 4 (.late 3 (.late 6 (.late 7 (.late 8 .done)))))))))))) (fun (x : Nat × Nat × Nat) => [(some 114, .agg #[.string kaB, .string kaK, .int .i64 1, .int .i64 1, .int .i64 30001]), (some 115, .agg #[.string kaB, .string kaK, .int .i64 1, .int .i64 1, .int .i64 30001]), (some 116, .agg #[.string kaB, .string kaK, .int .i64 1, .int .i64 1, .int .i64 30001]), (some 15, .pointer (some ⟨x.1, 0, none⟩)), (some 16, .pointer (some ⟨x.2.1, 0, none⟩)), (some 17, .pointer (some ⟨x.2.2, 0, none⟩))]) (fun (x : Nat × Nat × Nat) w' => EnAt w' x.1 kX ∧ EnAt w' x.2.1 kX ∧ EnAt w' x.2.2 kX ∧ x.1 ≠ x.2.1 ∧ x.1 ≠ x.2.2 ∧ x.2.1 ≠ x.2.2 ∧ w23.heap.size ≤ x.1 ∧ w23.heap.size ≤ x.2.1 ∧ w23.heap.size ≤ x.2.2 ∧ Grows w23 w') (EB.refl w23.heap.size) (EB.trans w23.heap.size) (by kernel_rfl) (by kernel_rfl) (fun d _ _ _ _ h => by cases d <;> exact h) ?_ ?_
    · have hgd := Grows.drew w23
      have hsd : w23.heap.size ≤ w23.drew.heap.size := Nat.le_refl _
      clear eX hg3
      generalize w23.drew = wd at *
      iterate 3 (refine f_quiet rfl (fun K hK => ?_); go_simp; refine hK _ ?_; clear hK K)
      clear z0 z1 z2 z3 z4
      refine f_alt ?_ (f_alt ?_ ?_)
      · refine f_late rfl rfl (fun K hK => ?_)
        go_simp
        have eA : EnAt (wd.alloc (.cells #[.string ⟨#[]⟩, .string ⟨#[]⟩, .int .i64 0, .int .i64 0, .int .i64 0] 54)) wd.heap.size enZero := EnAt.box wd enZero _
        have geA := Grows.alloc wd (.cells #[.string ⟨#[]⟩, .string ⟨#[]⟩, .int .i64 0, .int .i64 0, .int .i64 0] 54)
        generalize wd.alloc (.cells #[.string ⟨#[]⟩, .string ⟨#[]⟩, .int .i64 0, .int .i64 0, .int .i64 0] 54) = u1 at *
        obtain ⟨bA, hbA⟩ : ∃ b, b = wd.heap.size := ⟨_, rfl⟩
        rw [← hbA] at eA ⊢
        have qbA := Nat.le_of_eq hbA.symm
        clear hbA
        refine ⟨EB.of geA (by omega), hK _ _ ?_⟩
        clear hK K
        have seA := geA.size
        have leA := eA.lt
        refine f_alt ?_ ?_
        · refine f_late rfl rfl (fun K hK => ?_)
          go_simp
          have eB : EnAt (u1.alloc (.cells #[.string ⟨#[]⟩, .string ⟨#[]⟩, .int .i64 0, .int .i64 0, .int .i64 0] 54)) u1.heap.size enZero := EnAt.box u1 enZero _
          have geB := Grows.alloc u1 (.cells #[.string ⟨#[]⟩, .string ⟨#[]⟩, .int .i64 0, .int .i64 0, .int .i64 0] 54)
          generalize u1.alloc (.cells #[.string ⟨#[]⟩, .string ⟨#[]⟩, .int .i64 0, .int .i64 0, .int .i64 0] 54) = u2 at *
          obtain ⟨bB, hbB⟩ : ∃ b, b = u1.heap.size := ⟨_, rfl⟩
          rw [← hbB] at eB ⊢
          have qbB := Nat.le_of_eq hbB.symm
          clear hbB
          refine ⟨EB.of geB (by omega), hK _ _ ?_⟩
          clear hK K
          have seB := geB.size
          have leB := eB.lt
          replace eA := eA.grows geB
          refine f_late rfl rfl (fun K hK => ?_)
          go_simp
          have eC : EnAt (u2.alloc (.cells #[.string ⟨#[]⟩, .string ⟨#[]⟩, .int .i64 0, .int .i64 0, .int .i64 0] 54)) u2.heap.size enZero := EnAt.box u2 enZero _
          have geC := Grows.alloc u2 (.cells #[.string ⟨#[]⟩, .string ⟨#[]⟩, .int .i64 0, .int .i64 0, .int .i64 0] 54)
          generalize u2.alloc (.cells #[.string ⟨#[]⟩, .string ⟨#[]⟩, .int .i64 0, .int .i64 0, .int .i64 0] 54) = u3 at *
          obtain ⟨bC, hbC⟩ : ∃ b, b = u2.heap.size := ⟨_, rfl⟩
          rw [← hbC] at eC ⊢
          have qbC := Nat.le_of_eq hbC.symm
          clear hbC
          refine ⟨EB.of geC (by omega), hK _ _ ?_⟩
          clear hK K
          have seC := geC.size
          have leC := eC.lt
          replace eA := eA.grows geC
          replace eB := eB.grows geC
          have hgu3 : Grows w23 u3 := ((hgd.tr geA).tr geB).tr geC
          have hAB : bA ≠ bB := by omega
          have hAC : bA ≠ bC := by omega
          have hBC : bB ≠ bC := by omega
          have p0 := eA.c 0 _ rfl
          have p1 := eA.c 1 _ rfl
          have p2 := eA.c 2 _ rfl
          have p3 := eA.c 3 _ rfl
          have p4 := eA.c 4 _ rfl
          have pf := eA.f
          refine f_late rfl rfl (fun K hK => ?_)
          go_simp
          have neA : EnAt (((((u3.setCell ⟨bA, 0, none⟩ (.string kaB)).setCell ⟨bA, 1, none⟩ (.string kaK)).setCell ⟨bA, 2, none⟩ (.int .i64 1)).setCell ⟨bA, 3, none⟩ (.int .i64 1)).setCell ⟨bA, 4, none⟩ (.int .i64 30001)) bA kX := eA.all (y := kX)
          have neB : EnAt (((((u3.setCell ⟨bA, 0, none⟩ (.string kaB)).setCell ⟨bA, 1, none⟩ (.string kaK)).setCell ⟨bA, 2, none⟩ (.int .i64 1)).setCell ⟨bA, 3, none⟩ (.int .i64 1)).setCell ⟨bA, 4, none⟩ (.int .i64 30001)) _ _ := eB.other5 hAB _ _ _ _ _
          have neC : EnAt (((((u3.setCell ⟨bA, 0, none⟩ (.string kaB)).setCell ⟨bA, 1, none⟩ (.string kaK)).setCell ⟨bA, 2, none⟩ (.int .i64 1)).setCell ⟨bA, 3, none⟩ (.int .i64 1)).setCell ⟨bA, 4, none⟩ (.int .i64 30001)) _ _ := eC.other5 hAC _ _ _ _ _
          have geb : EB w23.heap.size u3 (((((u3.setCell ⟨bA, 0, none⟩ (.string kaB)).setCell ⟨bA, 1, none⟩ (.string kaK)).setCell ⟨bA, 2, none⟩ (.int .i64 1)).setCell ⟨bA, 3, none⟩ (.int .i64 1)).setCell ⟨bA, 4, none⟩ (.int .i64 30001)) := EB.set5 (by omega) _ _ _ _ _
          clear p0 p1 p2 p3 p4 pf eA eB eC
          generalize (((((u3.setCell ⟨bA, 0, none⟩ (.string kaB)).setCell ⟨bA, 1, none⟩ (.string kaK)).setCell ⟨bA, 2, none⟩ (.int .i64 1)).setCell ⟨bA, 3, none⟩ (.int .i64 1)).setCell ⟨bA, 4, none⟩ (.int .i64 30001)) = u4 at *
          refine ⟨geb, hK _ _ ?_⟩
          clear hK K
          have hgu4 : Grows w23 u4 := EB.grows hgu3 geb
          clear geb
          have eA := neA
          clear neA
          have eB := neB
          clear neB
          have eC := neC
          clear neC
          have p0 := eB.c 0 _ rfl
          have p1 := eB.c 1 _ rfl
          have p2 := eB.c 2 _ rfl
          have p3 := eB.c 3 _ rfl
          have p4 := eB.c 4 _ rfl
          have pf := eB.f
          refine f_late rfl rfl (fun K hK => ?_)
          go_simp
          have neB : EnAt (((((u4.setCell ⟨bB, 0, none⟩ (.string kaB)).setCell ⟨bB, 1, none⟩ (.string kaK)).setCell ⟨bB, 2, none⟩ (.int .i64 1)).setCell ⟨bB, 3, none⟩ (.int .i64 1)).setCell ⟨bB, 4, none⟩ (.int .i64 30001)) bB kX := eB.all (y := kX)
          have neA : EnAt (((((u4.setCell ⟨bB, 0, none⟩ (.string kaB)).setCell ⟨bB, 1, none⟩ (.string kaK)).setCell ⟨bB, 2, none⟩ (.int .i64 1)).setCell ⟨bB, 3, none⟩ (.int .i64 1)).setCell ⟨bB, 4, none⟩ (.int .i64 30001)) _ _ := eA.other5 (Ne.symm hAB) _ _ _ _ _
          have neC : EnAt (((((u4.setCell ⟨bB, 0, none⟩ (.string kaB)).setCell ⟨bB, 1, none⟩ (.string kaK)).setCell ⟨bB, 2, none⟩ (.int .i64 1)).setCell ⟨bB, 3, none⟩ (.int .i64 1)).setCell ⟨bB, 4, none⟩ (.int .i64 30001)) _ _ := eC.other5 hBC _ _ _ _ _
          have geb : EB w23.heap.size u4 (((((u4.setCell ⟨bB, 0, none⟩ (.string kaB)).setCell ⟨bB, 1, none⟩ (.string kaK)).setCell ⟨bB, 2, none⟩ (.int .i64 1)).setCell ⟨bB, 3, none⟩ (.int .i64 1)).setCell ⟨bB, 4, none⟩ (.int .i64 30001)) := EB.set5 (by omega) _ _ _ _ _
          clear p0 p1 p2 p3 p4 pf eB eA eC
          generalize (((((u4.setCell ⟨bB, 0, none⟩ (.string kaB)).setCell ⟨bB, 1, none⟩ (.string kaK)).setCell ⟨bB, 2, none⟩ (.int .i64 1)).setCell ⟨bB, 3, none⟩ (.int .i64 1)).setCell ⟨bB, 4, none⟩ (.int .i64 30001)) = u5 at *
          refine ⟨geb, hK _ _ ?_⟩
          clear hK K
          have hgu5 : Grows w23 u5 := EB.grows hgu4 geb
          clear geb
          have eB := neB
          clear neB
          have eA := neA
          clear neA
          have eC := neC
          clear neC
          have p0 := eC.c 0 _ rfl
          have p1 := eC.c 1 _ rfl
          have p2 := eC.c 2 _ rfl
          have p3 := eC.c 3 _ rfl
          have p4 := eC.c 4 _ rfl
          have pf := eC.f
          refine f_late rfl rfl (fun K hK => ?_)
          go_simp
          have neC : EnAt (((((u5.setCell ⟨bC, 0, none⟩ (.string kaB)).setCell ⟨bC, 1, none⟩ (.string kaK)).setCell ⟨bC, 2, none⟩ (.int .i64 1)).setCell ⟨bC, 3, none⟩ (.int .i64 1)).setCell ⟨bC, 4, none⟩ (.int .i64 30001)) bC kX := eC.all (y := kX)
          have neA : EnAt (((((u5.setCell ⟨bC, 0, none⟩ (.string kaB)).setCell ⟨bC, 1, none⟩ (.string kaK)).setCell ⟨bC, 2, none⟩ (.int .i64 1)).setCell ⟨bC, 3, none⟩ (.int .i64 1)).setCell ⟨bC, 4, none⟩ (.int .i64 30001)) _ _ := eA.other5 (Ne.symm hAC) _ _ _ _ _
          have neB : EnAt (((((u5.setCell ⟨bC, 0, none⟩ (.string kaB)).setCell ⟨bC, 1, none⟩ (.string kaK)).setCell ⟨bC, 2, none⟩ (.int .i64 1)).setCell ⟨bC, 3, none⟩ (.int .i64 1)).setCell ⟨bC, 4, none⟩ (.int .i64 30001)) _ _ := eB.other5 (Ne.symm hBC) _ _ _ _ _
          have geb : EB w23.heap.size u5 (((((u5.setCell ⟨bC, 0, none⟩ (.string kaB)).setCell ⟨bC, 1, none⟩ (.string kaK)).setCell ⟨bC, 2, none⟩ (.int .i64 1)).setCell ⟨bC, 3, none⟩ (.int .i64 1)).setCell ⟨bC, 4, none⟩ (.int .i64 30001)) := EB.set5 (by omega) _ _ _ _ _
          clear p0 p1 p2 p3 p4 pf eC eA eB
          generalize (((((u5.setCell ⟨bC, 0, none⟩ (.string kaB)).setCell ⟨bC, 1, none⟩ (.string kaK)).setCell ⟨bC, 2, none⟩ (.int .i64 1)).setCell ⟨bC, 3, none⟩ (.int .i64 1)).setCell ⟨bC, 4, none⟩ (.int .i64 30001)) = u6 at *
          refine ⟨geb, hK _ _ ?_⟩
          clear hK K
          have hgu6 : Grows w23 u6 := EB.grows hgu5 geb
          clear geb
          have eC := neC
          clear neC
          have eA := neA
          clear neA
          have eB := neB
          clear neB
          have oA : w23.heap.size ≤ bA := by omega
          have oB : w23.heap.size ≤ bB := by omega
          have oC : w23.heap.size ≤ bC := by omega
          refine f_end ?_
          exact ⟨(bA, bB, bC), ⟨eA, eB, eC, hAB, hAC, hBC, oA, oB, oC, hgu6⟩, by simp only [puts, List.foldl]; go_simp⟩
        · refine f_late rfl rfl (fun K hK => ?_)
          go_simp
          have eC : EnAt (u1.alloc (.cells #[.string ⟨#[]⟩, .string ⟨#[]⟩, .int .i64 0, .int .i64 0, .int .i64 0] 54)) u1.heap.size enZero := EnAt.box u1 enZero _
          have geC := Grows.alloc u1 (.cells #[.string ⟨#[]⟩, .string ⟨#[]⟩, .int .i64 0, .int .i64 0, .int .i64 0] 54)
          generalize u1.alloc (.cells #[.string ⟨#[]⟩, .string ⟨#[]⟩, .int .i64 0, .int .i64 0, .int .i64 0] 54) = u2 at *
          obtain ⟨bC, hbC⟩ : ∃ b, b = u1.heap.size := ⟨_, rfl⟩
          rw [← hbC] at eC ⊢
          have qbC := Nat.le_of_eq hbC.symm
          clear hbC
          refine ⟨EB.of geC (by omega), hK _ _ ?_⟩
          clear hK K
          have seC := geC.size
          have leC := eC.lt
          replace eA := eA.grows geC
          refine f_late rfl rfl (fun K hK => ?_)
          go_simp
          have eB : EnAt (u2.alloc (.cells #[.string ⟨#[]⟩, .string ⟨#[]⟩, .int .i64 0, .int .i64 0, .int .i64 0] 54)) u2.heap.size enZero := EnAt.box u2 enZero _
          have geB := Grows.alloc u2 (.cells #[.string ⟨#[]⟩, .string ⟨#[]⟩, .int .i64 0, .int .i64 0, .int .i64 0] 54)
          generalize u2.alloc (.cells #[.string ⟨#[]⟩, .string ⟨#[]⟩, .int .i64 0, .int .i64 0, .int .i64 0] 54) = u3 at *
          obtain ⟨bB, hbB⟩ : ∃ b, b = u2.heap.size := ⟨_, rfl⟩
          rw [← hbB] at eB ⊢
          have qbB := Nat.le_of_eq hbB.symm
          clear hbB
          refine ⟨EB.of geB (by omega), hK _ _ ?_⟩
          clear hK K
          have seB := geB.size
          have leB := eB.lt
          replace eA := eA.grows geB
          replace eC := eC.grows geB
          have hgu3 : Grows w23 u3 := ((hgd.tr geA).tr geC).tr geB
          have hAB : bA ≠ bB := by omega
          have hAC : bA ≠ bC := by omega
          have hBC : bB ≠ bC := by omega
          have p0 := eA.c 0 _ rfl
          have p1 := eA.c 1 _ rfl
          have p2 := eA.c 2 _ rfl
          have p3 := eA.c 3 _ rfl
          have p4 := eA.c 4 _ rfl
          have pf := eA.f
          refine f_late rfl rfl (fun K hK => ?_)
          go_simp
          have neA : EnAt (((((u3.setCell ⟨bA, 0, none⟩ (.string kaB)).setCell ⟨bA, 1, none⟩ (.string kaK)).setCell ⟨bA, 2, none⟩ (.int .i64 1)).setCell ⟨bA, 3, none⟩ (.int .i64 1)).setCell ⟨bA, 4, none⟩ (.int .i64 30001)) bA kX := eA.all (y := kX)
          have neB : EnAt (((((u3.setCell ⟨bA, 0, none⟩ (.string kaB)).setCell ⟨bA, 1, none⟩ (.string kaK)).setCell ⟨bA, 2, none⟩ (.int .i64 1)).setCell ⟨bA, 3, none⟩ (.int .i64 1)).setCell ⟨bA, 4, none⟩ (.int .i64 30001)) _ _ := eB.other5 hAB _ _ _ _ _
          have neC : EnAt (((((u3.setCell ⟨bA, 0, none⟩ (.string kaB)).setCell ⟨bA, 1, none⟩ (.string kaK)).setCell ⟨bA, 2, none⟩ (.int .i64 1)).setCell ⟨bA, 3, none⟩ (.int .i64 1)).setCell ⟨bA, 4, none⟩ (.int .i64 30001)) _ _ := eC.other5 hAC _ _ _ _ _
          have geb : EB w23.heap.size u3 (((((u3.setCell ⟨bA, 0, none⟩ (.string kaB)).setCell ⟨bA, 1, none⟩ (.string kaK)).setCell ⟨bA, 2, none⟩ (.int .i64 1)).setCell ⟨bA, 3, none⟩ (.int .i64 1)).setCell ⟨bA, 4, none⟩ (.int .i64 30001)) := EB.set5 (by omega) _ _ _ _ _
          clear p0 p1 p2 p3 p4 pf eA eB eC
          generalize (((((u3.setCell ⟨bA, 0, none⟩ (.string kaB)).setCell ⟨bA, 1, none⟩ (.string kaK)).setCell ⟨bA, 2, none⟩ (.int .i64 1)).setCell ⟨bA, 3, none⟩ (.int .i64 1)).setCell ⟨bA, 4, none⟩ (.int .i64 30001)) = u4 at *
          refine ⟨geb, hK _ _ ?_⟩
          clear hK K
          have hgu4 : Grows w23 u4 := EB.grows hgu3 geb
          clear geb
          have eA := neA
          clear neA
          have eB := neB
          clear neB
          have eC := neC
          clear neC
          have p0 := eB.c 0 _ rfl
          have p1 := eB.c 1 _ rfl
          have p2 := eB.c 2 _ rfl
          have p3 := eB.c 3 _ rfl
          have p4 := eB.c 4 _ rfl
          have pf := eB.f
          refine f_late rfl rfl (fun K hK => ?_)
          go_simp
          have neB : EnAt (((((u4.setCell ⟨bB, 0, none⟩ (.string kaB)).setCell ⟨bB, 1, none⟩ (.string kaK)).setCell ⟨bB, 2, none⟩ (.int .i64 1)).setCell ⟨bB, 3, none⟩ (.int .i64 1)).setCell ⟨bB, 4, none⟩ (.int .i64 30001)) bB kX := eB.all (y := kX)
          have neA : EnAt (((((u4.setCell ⟨bB, 0, none⟩ (.string kaB)).setCell ⟨bB, 1, none⟩ (.string kaK)).setCell ⟨bB, 2, none⟩ (.int .i64 1)).setCell ⟨bB, 3, none⟩ (.int .i64 1)).setCell ⟨bB, 4, none⟩ (.int .i64 30001)) _ _ := eA.other5 (Ne.symm hAB) _ _ _ _ _
          have neC : EnAt (((((u4.setCell ⟨bB, 0, none⟩ (.string kaB)).setCell ⟨bB, 1, none⟩ (.string kaK)).setCell ⟨bB, 2, none⟩ (.int .i64 1)).setCell ⟨bB, 3, none⟩ (.int .i64 1)).setCell ⟨bB, 4, none⟩ (.int .i64 30001)) _ _ := eC.other5 hBC _ _ _ _ _
          have geb : EB w23.heap.size u4 (((((u4.setCell ⟨bB, 0, none⟩ (.string kaB)).setCell ⟨bB, 1, none⟩ (.string kaK)).setCell ⟨bB, 2, none⟩ (.int .i64 1)).setCell ⟨bB, 3, none⟩ (.int .i64 1)).setCell ⟨bB, 4, none⟩ (.int .i64 30001)) := EB.set5 (by omega) _ _ _ _ _
          clear p0 p1 p2 p3 p4 pf eB eA eC
          generalize (((((u4.setCell ⟨bB, 0, none⟩ (.string kaB)).setCell ⟨bB, 1, none⟩ (.string kaK)).setCell ⟨bB, 2, none⟩ (.int .i64 1)).setCell ⟨bB, 3, none⟩ (.int .i64 1)).setCell ⟨bB, 4, none⟩ (.int .i64 30001)) = u5 at *
          refine ⟨geb, hK _ _ ?_⟩
          clear hK K
          have hgu5 : Grows w23 u5 := EB.grows hgu4 geb
          clear geb
          have eB := neB
          clear neB
          have eA := neA
          clear neA
          have eC := neC
          clear neC
          have p0 := eC.c 0 _ rfl
          have p1 := eC.c 1 _ rfl
          have p2 := eC.c 2 _ rfl
          have p3 := eC.c 3 _ rfl
          have p4 := eC.c 4 _ rfl
          have pf := eC.f
          refine f_late rfl rfl (fun K hK => ?_)
          go_simp
          have neC : EnAt (((((u5.setCell ⟨bC, 0, none⟩ (.string kaB)).setCell ⟨bC, 1, none⟩ (.string kaK)).setCell ⟨bC, 2, none⟩ (.int .i64 1)).setCell ⟨bC, 3, none⟩ (.int .i64 1)).setCell ⟨bC, 4, none⟩ (.int .i64 30001)) bC kX := eC.all (y := kX)
          have neA : EnAt (((((u5.setCell ⟨bC, 0, none⟩ (.string kaB)).setCell ⟨bC, 1, none⟩ (.string kaK)).setCell ⟨bC, 2, none⟩ (.int .i64 1)).setCell ⟨bC, 3, none⟩ (.int .i64 1)).setCell ⟨bC, 4, none⟩ (.int .i64 30001)) _ _ := eA.other5 (Ne.symm hAC) _ _ _ _ _
          have neB : EnAt (((((u5.setCell ⟨bC, 0, none⟩ (.string kaB)).setCell ⟨bC, 1, none⟩ (.string kaK)).setCell ⟨bC, 2, none⟩ (.int .i64 1)).setCell ⟨bC, 3, none⟩ (.int .i64 1)).setCell ⟨bC, 4, none⟩ (.int .i64 30001)) _ _ := eB.other5 (Ne.symm hBC) _ _ _ _ _
          have geb : EB w23.heap.size u5 (((((u5.setCell ⟨bC, 0, none⟩ (.string kaB)).setCell ⟨bC, 1, none⟩ (.string kaK)).setCell ⟨bC, 2, none⟩ (.int .i64 1)).setCell ⟨bC, 3, none⟩ (.int .i64 1)).setCell ⟨bC, 4, none⟩ (.int .i64 30001)) := EB.set5 (by omega) _ _ _ _ _
          clear p0 p1 p2 p3 p4 pf eC eA eB
          generalize (((((u5.setCell ⟨bC, 0, none⟩ (.string kaB)).setCell ⟨bC, 1, none⟩ (.string kaK)).setCell ⟨bC, 2, none⟩ (.int .i64 1)).setCell ⟨bC, 3, none⟩ (.int .i64 1)).setCell ⟨bC, 4, none⟩ (.int .i64 30001)) = u6 at *
          refine ⟨geb, hK _ _ ?_⟩
          clear hK K
          have hgu6 : Grows w23 u6 := EB.grows hgu5 geb
          clear geb
          have eC := neC
          clear neC
          have eA := neA
          clear neA
          have eB := neB
          clear neB
          have oA : w23.heap.size ≤ bA := by omega
          have oB : w23.heap.size ≤ bB := by omega
          have oC : w23.heap.size ≤ bC := by omega
          refine f_end ?_
          exact ⟨(bA, bB, bC), ⟨eA, eB, eC, hAB, hAC, hBC, oA, oB, oC, hgu6⟩, by simp only [puts, List.foldl]; go_simp⟩
      · refine f_late rfl rfl (fun K hK => ?_)
        go_simp
        have eB : EnAt (wd.alloc (.cells #[.string ⟨#[]⟩, .string ⟨#[]⟩, .int .i64 0, .int .i64 0, .int .i64 0] 54)) wd.heap.size enZero := EnAt.box wd enZero _
        have geB := Grows.alloc wd (.cells #[.string ⟨#[]⟩, .string ⟨#[]⟩, .int .i64 0, .int .i64 0, .int .i64 0] 54)
        generalize wd.alloc (.cells #[.string ⟨#[]⟩, .string ⟨#[]⟩, .int .i64 0, .int .i64 0, .int .i64 0] 54) = u1 at *
        obtain ⟨bB, hbB⟩ : ∃ b, b = wd.heap.size := ⟨_, rfl⟩
        rw [← hbB] at eB ⊢
        have qbB := Nat.le_of_eq hbB.symm
        clear hbB
        refine ⟨EB.of geB (by omega), hK _ _ ?_⟩
        clear hK K
        have seB := geB.size
        have leB := eB.lt
        refine f_alt ?_ ?_
        · refine f_late rfl rfl (fun K hK => ?_)
          go_simp
          have eA : EnAt (u1.alloc (.cells #[.string ⟨#[]⟩, .string ⟨#[]⟩, .int .i64 0, .int .i64 0, .int .i64 0] 54)) u1.heap.size enZero := EnAt.box u1 enZero _
          have geA := Grows.alloc u1 (.cells #[.string ⟨#[]⟩, .string ⟨#[]⟩, .int .i64 0, .int .i64 0, .int .i64 0] 54)
          generalize u1.alloc (.cells #[.string ⟨#[]⟩, .string ⟨#[]⟩, .int .i64 0, .int .i64 0, .int .i64 0] 54) = u2 at *
          obtain ⟨bA, hbA⟩ : ∃ b, b = u1.heap.size := ⟨_, rfl⟩
          rw [← hbA] at eA ⊢
          have qbA := Nat.le_of_eq hbA.symm
          clear hbA
          refine ⟨EB.of geA (by omega), hK _ _ ?_⟩
          clear hK K
          have seA := geA.size
          have leA := eA.lt
          replace eB := eB.grows geA
          refine f_late rfl rfl (fun K hK => ?_)
          go_simp
          have eC : EnAt (u2.alloc (.cells #[.string ⟨#[]⟩, .string ⟨#[]⟩, .int .i64 0, .int .i64 0, .int .i64 0] 54)) u2.heap.size enZero := EnAt.box u2 enZero _
          have geC := Grows.alloc u2 (.cells #[.string ⟨#[]⟩, .string ⟨#[]⟩, .int .i64 0, .int .i64 0, .int .i64 0] 54)
          generalize u2.alloc (.cells #[.string ⟨#[]⟩, .string ⟨#[]⟩, .int .i64 0, .int .i64 0, .int .i64 0] 54) = u3 at *
          obtain ⟨bC, hbC⟩ : ∃ b, b = u2.heap.size := ⟨_, rfl⟩
          rw [← hbC] at eC ⊢
          have qbC := Nat.le_of_eq hbC.symm
          clear hbC
          refine ⟨EB.of geC (by omega), hK _ _ ?_⟩
          clear hK K
          have seC := geC.size
          have leC := eC.lt
          replace eB := eB.grows geC
          replace eA := eA.grows geC
          have hgu3 : Grows w23 u3 := ((hgd.tr geB).tr geA).tr geC
          have hAB : bA ≠ bB := by omega
          have hAC : bA ≠ bC := by omega
          have hBC : bB ≠ bC := by omega
          have p0 := eA.c 0 _ rfl
          have p1 := eA.c 1 _ rfl
          have p2 := eA.c 2 _ rfl
          have p3 := eA.c 3 _ rfl
          have p4 := eA.c 4 _ rfl
          have pf := eA.f
          refine f_late rfl rfl (fun K hK => ?_)
          go_simp
          have neA : EnAt (((((u3.setCell ⟨bA, 0, none⟩ (.string kaB)).setCell ⟨bA, 1, none⟩ (.string kaK)).setCell ⟨bA, 2, none⟩ (.int .i64 1)).setCell ⟨bA, 3, none⟩ (.int .i64 1)).setCell ⟨bA, 4, none⟩ (.int .i64 30001)) bA kX := eA.all (y := kX)
          have neB : EnAt (((((u3.setCell ⟨bA, 0, none⟩ (.string kaB)).setCell ⟨bA, 1, none⟩ (.string kaK)).setCell ⟨bA, 2, none⟩ (.int .i64 1)).setCell ⟨bA, 3, none⟩ (.int .i64 1)).setCell ⟨bA, 4, none⟩ (.int .i64 30001)) _ _ := eB.other5 hAB _ _ _ _ _
          have neC : EnAt (((((u3.setCell ⟨bA, 0, none⟩ (.string kaB)).setCell ⟨bA, 1, none⟩ (.string kaK)).setCell ⟨bA, 2, none⟩ (.int .i64 1)).setCell ⟨bA, 3, none⟩ (.int .i64 1)).setCell ⟨bA, 4, none⟩ (.int .i64 30001)) _ _ := eC.other5 hAC _ _ _ _ _
          have geb : EB w23.heap.size u3 (((((u3.setCell ⟨bA, 0, none⟩ (.string kaB)).setCell ⟨bA, 1, none⟩ (.string kaK)).setCell ⟨bA, 2, none⟩ (.int .i64 1)).setCell ⟨bA, 3, none⟩ (.int .i64 1)).setCell ⟨bA, 4, none⟩ (.int .i64 30001)) := EB.set5 (by omega) _ _ _ _ _
          clear p0 p1 p2 p3 p4 pf eA eB eC
          generalize (((((u3.setCell ⟨bA, 0, none⟩ (.string kaB)).setCell ⟨bA, 1, none⟩ (.string kaK)).setCell ⟨bA, 2, none⟩ (.int .i64 1)).setCell ⟨bA, 3, none⟩ (.int .i64 1)).setCell ⟨bA, 4, none⟩ (.int .i64 30001)) = u4 at *
          refine ⟨geb, hK _ _ ?_⟩
          clear hK K
          have hgu4 : Grows w23 u4 := EB.grows hgu3 geb
          clear geb
          have eA := neA
          clear neA
          have eB := neB
          clear neB
          have eC := neC
          clear neC
          have p0 := eB.c 0 _ rfl
          have p1 := eB.c 1 _ rfl
          have p2 := eB.c 2 _ rfl
          have p3 := eB.c 3 _ rfl
          have p4 := eB.c 4 _ rfl
          have pf := eB.f
          refine f_late rfl rfl (fun K hK => ?_)
          go_simp
          have neB : EnAt (((((u4.setCell ⟨bB, 0, none⟩ (.string kaB)).setCell ⟨bB, 1, none⟩ (.string kaK)).setCell ⟨bB, 2, none⟩ (.int .i64 1)).setCell ⟨bB, 3, none⟩ (.int .i64 1)).setCell ⟨bB, 4, none⟩ (.int .i64 30001)) bB kX := eB.all (y := kX)
          have neA : EnAt (((((u4.setCell ⟨bB, 0, none⟩ (.string kaB)).setCell ⟨bB, 1, none⟩ (.string kaK)).setCell ⟨bB, 2, none⟩ (.int .i64 1)).setCell ⟨bB, 3, none⟩ (.int .i64 1)).setCell ⟨bB, 4, none⟩ (.int .i64 30001)) _ _ := eA.other5 (Ne.symm hAB) _ _ _ _ _
          have neC : EnAt (((((u4.setCell ⟨bB, 0, none⟩ (.string kaB)).setCell ⟨bB, 1, none⟩ (.string kaK)).setCell ⟨bB, 2, none⟩ (.int .i64 1)).setCell ⟨bB, 3, none⟩ (.int .i64 1)).setCell ⟨bB, 4, none⟩ (.int .i64 30001)) _ _ := eC.other5 hBC _ _ _ _ _
          have geb : EB w23.heap.size u4 (((((u4.setCell ⟨bB, 0, none⟩ (.string kaB)).setCell ⟨bB, 1, none⟩ (.string kaK)).setCell ⟨bB, 2, none⟩ (.int .i64 1)).setCell ⟨bB, 3, none⟩ (.int .i64 1)).setCell ⟨bB, 4, none⟩ (.int .i64 30001)) := EB.set5 (by omega) _ _ _ _ _
          clear p0 p1 p2 p3 p4 pf eB eA eC
          generalize (((((u4.setCell ⟨bB, 0, none⟩ (.string kaB)).setCell ⟨bB, 1, none⟩ (.string kaK)).setCell ⟨bB, 2, none⟩ (.int .i64 1)).setCell ⟨bB, 3, none⟩ (.int .i64 1)).setCell ⟨bB, 4, none⟩ (.int .i64 30001)) = u5 at *
          refine ⟨geb, hK _ _ ?_⟩
          clear hK K
          have hgu5 : Grows w23 u5 := EB.grows hgu4 geb
          clear geb
          have eB := neB
          clear neB
          have eA := neA
          clear neA
          have eC := neC
          clear neC
          have p0 := eC.c 0 _ rfl
          have p1 := eC.c 1 _ rfl
          have p2 := eC.c 2 _ rfl
          have p3 := eC.c 3 _ rfl
          have p4 := eC.c 4 _ rfl
          have pf := eC.f
          refine f_late rfl rfl (fun K hK => ?_)
          go_simp
          have neC : EnAt (((((u5.setCell ⟨bC, 0, none⟩ (.string kaB)).setCell ⟨bC, 1, none⟩ (.string kaK)).setCell ⟨bC, 2, none⟩ (.int .i64 1)).setCell ⟨bC, 3, none⟩ (.int .i64 1)).setCell ⟨bC, 4, none⟩ (.int .i64 30001)) bC kX := eC.all (y := kX)
          have neA : EnAt (((((u5.setCell ⟨bC, 0, none⟩ (.string kaB)).setCell ⟨bC, 1, none⟩ (.string kaK)).setCell ⟨bC, 2, none⟩ (.int .i64 1)).setCell ⟨bC, 3, none⟩ (.int .i64 1)).setCell ⟨bC, 4, none⟩ (.int .i64 30001)) _ _ := eA.other5 (Ne.symm hAC) _ _ _ _ _
          have neB : EnAt (((((u5.setCell ⟨bC, 0, none⟩ (.string kaB)).setCell ⟨bC, 1, none⟩ (.string kaK)).setCell ⟨bC, 2, none⟩ (.int .i64 1)).setCell ⟨bC, 3, none⟩ (.int .i64 1)).setCell ⟨bC, 4, none⟩ (.int .i64 30001)) _ _ := eB.other5 (Ne.symm hBC) _ _ _ _ _
          have geb : EB w23.heap.size u5 (((((u5.setCell ⟨bC, 0, none⟩ (.string kaB)).setCell ⟨bC, 1, none⟩ (.string kaK)).setCell ⟨bC, 2, none⟩ (.int .i64 1)).setCell ⟨bC, 3, none⟩ (.int .i64 1)).setCell ⟨bC, 4, none⟩ (.int .i64 30001)) := EB.set5 (by omega) _ _ _ _ _
          clear p0 p1 p2 p3 p4 pf eC eA eB
          generalize (((((u5.setCell ⟨bC, 0, none⟩ (.string kaB)).setCell ⟨bC, 1, none⟩ (.string kaK)).setCell ⟨bC, 2, none⟩ (.int .i64 1)).setCell ⟨bC, 3, none⟩ (.int .i64 1)).setCell ⟨bC, 4, none⟩ (.int .i64 30001)) = u6 at *
          refine ⟨geb, hK _ _ ?_⟩
          clear hK K
          have hgu6 : Grows w23 u6 := EB.grows hgu5 geb
          clear geb
          have eC := neC
          clear neC
          have eA := neA
          clear neA
          have eB := neB
          clear neB
          have oA : w23.heap.size ≤ bA := by omega
          have oB : w23.heap.size ≤ bB := by omega
          have oC : w23.heap.size ≤ bC := by omega
          refine f_end ?_
          exact ⟨(bA, bB, bC), ⟨eA, eB, eC, hAB, hAC, hBC, oA, oB, oC, hgu6⟩, by simp only [puts, List.foldl]; go_simp⟩
        · refine f_late rfl rfl (fun K hK => ?_)
          go_simp
          have eC : EnAt (u1.alloc (.cells #[.string ⟨#[]⟩, .string ⟨#[]⟩, .int .i64 0, .int .i64 0, .int .i64 0] 54)) u1.heap.size enZero := EnAt.box u1 enZero _
          have geC := Grows.alloc u1 (.cells #[.string ⟨#[]⟩, .string ⟨#[]⟩, .int .i64 0, .int .i64 0, .int .i64 0] 54)
          generalize u1.alloc (.cells #[.string ⟨#[]⟩, .string ⟨#[]⟩, .int .i64 0, .int .i64 0, .int .i64 0] 54) = u2 at *
          obtain ⟨bC, hbC⟩ : ∃ b, b = u1.heap.size := ⟨_, rfl⟩
          rw [← hbC] at eC ⊢
          have qbC := Nat.le_of_eq hbC.symm
          clear hbC
          refine ⟨EB.of geC (by omega), hK _ _ ?_⟩
          clear hK K
          have seC := geC.size
          have leC := eC.lt
          replace eB := eB.grows geC
          refine f_late rfl rfl (fun K hK => ?_)
          go_simp
          have eA : EnAt (u2.alloc (.cells #[.string ⟨#[]⟩, .string ⟨#[]⟩, .int .i64 0, .int .i64 0, .int .i64 0] 54)) u2.heap.size enZero := EnAt.box u2 enZero _
          have geA := Grows.alloc u2 (.cells #[.string ⟨#[]⟩, .string ⟨#[]⟩, .int .i64 0, .int .i64 0, .int .i64 0] 54)
          generalize u2.alloc (.cells #[.string ⟨#[]⟩, .string ⟨#[]⟩, .int .i64 0, .int .i64 0, .int .i64 0] 54) = u3 at *
          obtain ⟨bA, hbA⟩ : ∃ b, b = u2.heap.size := ⟨_, rfl⟩
          rw [← hbA] at eA ⊢
          have qbA := Nat.le_of_eq hbA.symm
          clear hbA
          refine ⟨EB.of geA (by omega), hK _ _ ?_⟩
          clear hK K
          have seA := geA.size
          have leA := eA.lt
          replace eB := eB.grows geA
          replace eC := eC.grows geA
          have hgu3 : Grows w23 u3 := ((hgd.tr geB).tr geC).tr geA
          have hAB : bA ≠ bB := by omega
          have hAC : bA ≠ bC := by omega
          have hBC : bB ≠ bC := by omega
          have p0 := eA.c 0 _ rfl
          have p1 := eA.c 1 _ rfl
          have p2 := eA.c 2 _ rfl
          have p3 := eA.c 3 _ rfl
          have p4 := eA.c 4 _ rfl
          have pf := eA.f
          refine f_late rfl rfl (fun K hK => ?_)
          go_simp
          have neA : EnAt (((((u3.setCell ⟨bA, 0, none⟩ (.string kaB)).setCell ⟨bA, 1, none⟩ (.string kaK)).setCell ⟨bA, 2, none⟩ (.int .i64 1)).setCell ⟨bA, 3, none⟩ (.int .i64 1)).setCell ⟨bA, 4, none⟩ (.int .i64 30001)) bA kX := eA.all (y := kX)
          have neB : EnAt (((((u3.setCell ⟨bA, 0, none⟩ (.string kaB)).setCell ⟨bA, 1, none⟩ (.string kaK)).setCell ⟨bA, 2, none⟩ (.int .i64 1)).setCell ⟨bA, 3, none⟩ (.int .i64 1)).setCell ⟨bA, 4, none⟩ (.int .i64 30001)) _ _ := eB.other5 hAB _ _ _ _ _
          have neC : EnAt (((((u3.setCell ⟨bA, 0, none⟩ (.string kaB)).setCell ⟨bA, 1, none⟩ (.string kaK)).setCell ⟨bA, 2, none⟩ (.int .i64 1)).setCell ⟨bA, 3, none⟩ (.int .i64 1)).setCell ⟨bA, 4, none⟩ (.int .i64 30001)) _ _ := eC.other5 hAC _ _ _ _ _
          have geb : EB w23.heap.size u3 (((((u3.setCell ⟨bA, 0, none⟩ (.string kaB)).setCell ⟨bA, 1, none⟩ (.string kaK)).setCell ⟨bA, 2, none⟩ (.int .i64 1)).setCell ⟨bA, 3, none⟩ (.int .i64 1)).setCell ⟨bA, 4, none⟩ (.int .i64 30001)) := EB.set5 (by omega) _ _ _ _ _
          clear p0 p1 p2 p3 p4 pf eA eB eC
          generalize (((((u3.setCell ⟨bA, 0, none⟩ (.string kaB)).setCell ⟨bA, 1, none⟩ (.string kaK)).setCell ⟨bA, 2, none⟩ (.int .i64 1)).setCell ⟨bA, 3, none⟩ (.int .i64 1)).setCell ⟨bA, 4, none⟩ (.int .i64 30001)) = u4 at *
          refine ⟨geb, hK _ _ ?_⟩
          clear hK K
          have hgu4 : Grows w23 u4 := EB.grows hgu3 geb
          clear geb
          have eA := neA
          clear neA
          have eB := neB
          clear neB
          have eC := neC
          clear neC
          have p0 := eB.c 0 _ rfl
          have p1 := eB.c 1 _ rfl
          have p2 := eB.c 2 _ rfl
          have p3 := eB.c 3 _ rfl
          have p4 := eB.c 4 _ rfl
          have pf := eB.f
          refine f_late rfl rfl (fun K hK => ?_)
          go_simp
          have neB : EnAt (((((u4.setCell ⟨bB, 0, none⟩ (.string kaB)).setCell ⟨bB, 1, none⟩ (.string kaK)).setCell ⟨bB, 2, none⟩ (.int .i64 1)).setCell ⟨bB, 3, none⟩ (.int .i64 1)).setCell ⟨bB, 4, none⟩ (.int .i64 30001)) bB kX := eB.all (y := kX)
          have neA : EnAt (((((u4.setCell ⟨bB, 0, none⟩ (.string kaB)).setCell ⟨bB, 1, none⟩ (.string kaK)).setCell ⟨bB, 2, none⟩ (.int .i64 1)).setCell ⟨bB, 3, none⟩ (.int .i64 1)).setCell ⟨bB, 4, none⟩ (.int .i64 30001)) _ _ := eA.other5 (Ne.symm hAB) _ _ _ _ _
          have neC : EnAt (((((u4.setCell ⟨bB, 0, none⟩ (.string kaB)).setCell ⟨bB, 1, none⟩ (.string kaK)).setCell ⟨bB, 2, none⟩ (.int .i64 1)).setCell ⟨bB, 3, none⟩ (.int .i64 1)).setCell ⟨bB, 4, none⟩ (.int .i64 30001)) _ _ := eC.other5 hBC _ _ _ _ _
          have geb : EB w23.heap.size u4 (((((u4.setCell ⟨bB, 0, none⟩ (.string kaB)).setCell ⟨bB, 1, none⟩ (.string kaK)).setCell ⟨bB, 2, none⟩ (.int .i64 1)).setCell ⟨bB, 3, none⟩ (.int .i64 1)).setCell ⟨bB, 4, none⟩ (.int .i64 30001)) := EB.set5 (by omega) _ _ _ _ _
          clear p0 p1 p2 p3 p4 pf eB eA eC
          generalize (((((u4.setCell ⟨bB, 0, none⟩ (.string kaB)).setCell ⟨bB, 1, none⟩ (.string kaK)).setCell ⟨bB, 2, none⟩ (.int .i64 1)).setCell ⟨bB, 3, none⟩ (.int .i64 1)).setCell ⟨bB, 4, none⟩ (.int .i64 30001)) = u5 at *
          refine ⟨geb, hK _ _ ?_⟩
          clear hK K
          have hgu5 : Grows w23 u5 := EB.grows hgu4 geb
          clear geb
          have eB := neB
          clear neB
          have eA := neA
          clear neA
          have eC := neC
          clear neC
          have p0 := eC.c 0 _ rfl
          have p1 := eC.c 1 _ rfl
          have p2 := eC.c 2 _ rfl
          have p3 := eC.c 3 _ rfl
          have p4 := eC.c 4 _ rfl
          have pf := eC.f
          refine f_late rfl rfl (fun K hK => ?_)
          go_simp
          have neC : EnAt (((((u5.setCell ⟨bC, 0, none⟩ (.string kaB)).setCell ⟨bC, 1, none⟩ (.string kaK)).setCell ⟨bC, 2, none⟩ (.int .i64 1)).setCell ⟨bC, 3, none⟩ (.int .i64 1)).setCell ⟨bC, 4, none⟩ (.int .i64 30001)) bC kX := eC.all (y := kX)
          have neA : EnAt (((((u5.setCell ⟨bC, 0, none⟩ (.string kaB)).setCell ⟨bC, 1, none⟩ (.string kaK)).setCell ⟨bC, 2, none⟩ (.int .i64 1)).setCell ⟨bC, 3, none⟩ (.int .i64 1)).setCell ⟨bC, 4, none⟩ (.int .i64 30001)) _ _ := eA.other5 (Ne.symm hAC) _ _ _ _ _
          have neB : EnAt (((((u5.setCell ⟨bC, 0, none⟩ (.string kaB)).setCell ⟨bC, 1, none⟩ (.string kaK)).setCell ⟨bC, 2, none⟩ (.int .i64 1)).setCell ⟨bC, 3, none⟩ (.int .i64 1)).setCell ⟨bC, 4, none⟩ (.int .i64 30001)) _ _ := eB.other5 (Ne.symm hBC) _ _ _ _ _
          have geb : EB w23.heap.size u5 (((((u5.setCell ⟨bC, 0, none⟩ (.string kaB)).setCell ⟨bC, 1, none⟩ (.string kaK)).setCell ⟨bC, 2, none⟩ (.int .i64 1)).setCell ⟨bC, 3, none⟩ (.int .i64 1)).setCell ⟨bC, 4, none⟩ (.int .i64 30001)) := EB.set5 (by omega) _ _ _ _ _
          clear p0 p1 p2 p3 p4 pf eC eA eB
          generalize (((((u5.setCell ⟨bC, 0, none⟩ (.string kaB)).setCell ⟨bC, 1, none⟩ (.string kaK)).setCell ⟨bC, 2, none⟩ (.int .i64 1)).setCell ⟨bC, 3, none⟩ (.int .i64 1)).setCell ⟨bC, 4, none⟩ (.int .i64 30001)) = u6 at *
          refine ⟨geb, hK _ _ ?_⟩
          clear hK K
          have hgu6 : Grows w23 u6 := EB.grows hgu5 geb
          clear geb
          have eC := neC
          clear neC
          have eA := neA
          clear neA
          have eB := neB
          clear neB
          have oA : w23.heap.size ≤ bA := by omega
          have oB : w23.heap.size ≤ bB := by omega
          have oC : w23.heap.size ≤ bC := by omega
          refine f_end ?_
          exact ⟨(bA, bB, bC), ⟨eA, eB, eC, hAB, hAC, hBC, oA, oB, oC, hgu6⟩, by simp only [puts, List.foldl]; go_simp⟩
      · refine f_late rfl rfl (fun K hK => ?_)
        go_simp
        have eC : EnAt (wd.alloc (.cells #[.string ⟨#[]⟩, .string ⟨#[]⟩, .int .i64 0, .int .i64 0, .int .i64 0] 54)) wd.heap.size enZero := EnAt.box wd enZero _
        have geC := Grows.alloc wd (.cells #[.string ⟨#[]⟩, .string ⟨#[]⟩, .int .i64 0, .int .i64 0, .int .i64 0] 54)
        generalize wd.alloc (.cells #[.string ⟨#[]⟩, .string ⟨#[]⟩, .int .i64 0, .int .i64 0, .int .i64 0] 54) = u1 at *
        obtain ⟨bC, hbC⟩ : ∃ b, b = wd.heap.size := ⟨_, rfl⟩
        rw [← hbC] at eC ⊢
        have qbC := Nat.le_of_eq hbC.symm
        clear hbC
        refine ⟨EB.of geC (by omega), hK _ _ ?_⟩
        clear hK K
        have seC := geC.size
        have leC := eC.lt
        refine f_alt ?_ ?_
        · refine f_late rfl rfl (fun K hK => ?_)
          go_simp
          have eA : EnAt (u1.alloc (.cells #[.string ⟨#[]⟩, .string ⟨#[]⟩, .int .i64 0, .int .i64 0, .int .i64 0] 54)) u1.heap.size enZero := EnAt.box u1 enZero _
          have geA := Grows.alloc u1 (.cells #[.string ⟨#[]⟩, .string ⟨#[]⟩, .int .i64 0, .int .i64 0, .int .i64 0] 54)
          generalize u1.alloc (.cells #[.string ⟨#[]⟩, .string ⟨#[]⟩, .int .i64 0, .int .i64 0, .int .i64 0] 54) = u2 at *
          obtain ⟨bA, hbA⟩ : ∃ b, b = u1.heap.size := ⟨_, rfl⟩
          rw [← hbA] at eA ⊢
          have qbA := Nat.le_of_eq hbA.symm
          clear hbA
          refine ⟨EB.of geA (by omega), hK _ _ ?_⟩
          clear hK K
          have seA := geA.size
          have leA := eA.lt
          replace eC := eC.grows geA
          refine f_late rfl rfl (fun K hK => ?_)
          go_simp
          have eB : EnAt (u2.alloc (.cells #[.string ⟨#[]⟩, .string ⟨#[]⟩, .int .i64 0, .int .i64 0, .int .i64 0] 54)) u2.heap.size enZero := EnAt.box u2 enZero _
          have geB := Grows.alloc u2 (.cells #[.string ⟨#[]⟩, .string ⟨#[]⟩, .int .i64 0, .int .i64 0, .int .i64 0] 54)
          generalize u2.alloc (.cells #[.string ⟨#[]⟩, .string ⟨#[]⟩, .int .i64 0, .int .i64 0, .int .i64 0] 54) = u3 at *
          obtain ⟨bB, hbB⟩ : ∃ b, b = u2.heap.size := ⟨_, rfl⟩
          rw [← hbB] at eB ⊢
          have qbB := Nat.le_of_eq hbB.symm
          clear hbB
          refine ⟨EB.of geB (by omega), hK _ _ ?_⟩
          clear hK K
          have seB := geB.size
          have leB := eB.lt
          replace eC := eC.grows geB
          replace eA := eA.grows geB
          have hgu3 : Grows w23 u3 := ((hgd.tr geC).tr geA).tr geB
          have hAB : bA ≠ bB := by omega
          have hAC : bA ≠ bC := by omega
          have hBC : bB ≠ bC := by omega
          have p0 := eA.c 0 _ rfl
          have p1 := eA.c 1 _ rfl
          have p2 := eA.c 2 _ rfl
          have p3 := eA.c 3 _ rfl
          have p4 := eA.c 4 _ rfl
          have pf := eA.f
          refine f_late rfl rfl (fun K hK => ?_)
          go_simp
          have neA : EnAt (((((u3.setCell ⟨bA, 0, none⟩ (.string kaB)).setCell ⟨bA, 1, none⟩ (.string kaK)).setCell ⟨bA, 2, none⟩ (.int .i64 1)).setCell ⟨bA, 3, none⟩ (.int .i64 1)).setCell ⟨bA, 4, none⟩ (.int .i64 30001)) bA kX := eA.all (y := kX)
          have neB : EnAt (((((u3.setCell ⟨bA, 0, none⟩ (.string kaB)).setCell ⟨bA, 1, none⟩ (.string kaK)).setCell ⟨bA, 2, none⟩ (.int .i64 1)).setCell ⟨bA, 3, none⟩ (.int .i64 1)).setCell ⟨bA, 4, none⟩ (.int .i64 30001)) _ _ := eB.other5 hAB _ _ _ _ _
          have neC : EnAt (((((u3.setCell ⟨bA, 0, none⟩ (.string kaB)).setCell ⟨bA, 1, none⟩ (.string kaK)).setCell ⟨bA, 2, none⟩ (.int .i64 1)).setCell ⟨bA, 3, none⟩ (.int .i64 1)).setCell ⟨bA, 4, none⟩ (.int .i64 30001)) _ _ := eC.other5 hAC _ _ _ _ _
          have geb : EB w23.heap.size u3 (((((u3.setCell ⟨bA, 0, none⟩ (.string kaB)).setCell ⟨bA, 1, none⟩ (.string kaK)).setCell ⟨bA, 2, none⟩ (.int .i64 1)).setCell ⟨bA, 3, none⟩ (.int .i64 1)).setCell ⟨bA, 4, none⟩ (.int .i64 30001)) := EB.set5 (by omega) _ _ _ _ _
          clear p0 p1 p2 p3 p4 pf eA eB eC
          generalize (((((u3.setCell ⟨bA, 0, none⟩ (.string kaB)).setCell ⟨bA, 1, none⟩ (.string kaK)).setCell ⟨bA, 2, none⟩ (.int .i64 1)).setCell ⟨bA, 3, none⟩ (.int .i64 1)).setCell ⟨bA, 4, none⟩ (.int .i64 30001)) = u4 at *
          refine ⟨geb, hK _ _ ?_⟩
          clear hK K
          have hgu4 : Grows w23 u4 := EB.grows hgu3 geb
          clear geb
          have eA := neA
          clear neA
          have eB := neB
          clear neB
          have eC := neC
          clear neC
          have p0 := eB.c 0 _ rfl
          have p1 := eB.c 1 _ rfl
          have p2 := eB.c 2 _ rfl
          have p3 := eB.c 3 _ rfl
          have p4 := eB.c 4 _ rfl
          have pf := eB.f
          refine f_late rfl rfl (fun K hK => ?_)
          go_simp
          have neB : EnAt (((((u4.setCell ⟨bB, 0, none⟩ (.string kaB)).setCell ⟨bB, 1, none⟩ (.string kaK)).setCell ⟨bB, 2, none⟩ (.int .i64 1)).setCell ⟨bB, 3, none⟩ (.int .i64 1)).setCell ⟨bB, 4, none⟩ (.int .i64 30001)) bB kX := eB.all (y := kX)
          have neA : EnAt (((((u4.setCell ⟨bB, 0, none⟩ (.string kaB)).setCell ⟨bB, 1, none⟩ (.string kaK)).setCell ⟨bB, 2, none⟩ (.int .i64 1)).setCell ⟨bB, 3, none⟩ (.int .i64 1)).setCell ⟨bB, 4, none⟩ (.int .i64 30001)) _ _ := eA.other5 (Ne.symm hAB) _ _ _ _ _
          have neC : EnAt (((((u4.setCell ⟨bB, 0, none⟩ (.string kaB)).setCell ⟨bB, 1, none⟩ (.string kaK)).setCell ⟨bB, 2, none⟩ (.int .i64 1)).setCell ⟨bB, 3, none⟩ (.int .i64 1)).setCell ⟨bB, 4, none⟩ (.int .i64 30001)) _ _ := eC.other5 hBC _ _ _ _ _
          have geb : EB w23.heap.size u4 (((((u4.setCell ⟨bB, 0, none⟩ (.string kaB)).setCell ⟨bB, 1, none⟩ (.string kaK)).setCell ⟨bB, 2, none⟩ (.int .i64 1)).setCell ⟨bB, 3, none⟩ (.int .i64 1)).setCell ⟨bB, 4, none⟩ (.int .i64 30001)) := EB.set5 (by omega) _ _ _ _ _
          clear p0 p1 p2 p3 p4 pf eB eA eC
          generalize (((((u4.setCell ⟨bB, 0, none⟩ (.string kaB)).setCell ⟨bB, 1, none⟩ (.string kaK)).setCell ⟨bB, 2, none⟩ (.int .i64 1)).setCell ⟨bB, 3, none⟩ (.int .i64 1)).setCell ⟨bB, 4, none⟩ (.int .i64 30001)) = u5 at *
          refine ⟨geb, hK _ _ ?_⟩
          clear hK K
          have hgu5 : Grows w23 u5 := EB.grows hgu4 geb
          clear geb
          have eB := neB
          clear neB
          have eA := neA
          clear neA
          have eC := neC
          clear neC
          have p0 := eC.c 0 _ rfl
          have p1 := eC.c 1 _ rfl
          have p2 := eC.c 2 _ rfl
          have p3 := eC.c 3 _ rfl
          have p4 := eC.c 4 _ rfl
          have pf := eC.f
          refine f_late rfl rfl (fun K hK => ?_)
          go_simp
          have neC : EnAt (((((u5.setCell ⟨bC, 0, none⟩ (.string kaB)).setCell ⟨bC, 1, none⟩ (.string kaK)).setCell ⟨bC, 2, none⟩ (.int .i64 1)).setCell ⟨bC, 3, none⟩ (.int .i64 1)).setCell ⟨bC, 4, none⟩ (.int .i64 30001)) bC kX := eC.all (y := kX)
          have neA : EnAt (((((u5.setCell ⟨bC, 0, none⟩ (.string kaB)).setCell ⟨bC, 1, none⟩ (.string kaK)).setCell ⟨bC, 2, none⟩ (.int .i64 1)).setCell ⟨bC, 3, none⟩ (.int .i64 1)).setCell ⟨bC, 4, none⟩ (.int .i64 30001)) _ _ := eA.other5 (Ne.symm hAC) _ _ _ _ _
          have neB : EnAt (((((u5.setCell ⟨bC, 0, none⟩ (.string kaB)).setCell ⟨bC, 1, none⟩ (.string kaK)).setCell ⟨bC, 2, none⟩ (.int .i64 1)).setCell ⟨bC, 3, none⟩ (.int .i64 1)).setCell ⟨bC, 4, none⟩ (.int .i64 30001)) _ _ := eB.other5 (Ne.symm hBC) _ _ _ _ _
          have geb : EB w23.heap.size u5 (((((u5.setCell ⟨bC, 0, none⟩ (.string kaB)).setCell ⟨bC, 1, none⟩ (.string kaK)).setCell ⟨bC, 2, none⟩ (.int .i64 1)).setCell ⟨bC, 3, none⟩ (.int .i64 1)).setCell ⟨bC, 4, none⟩ (.int .i64 30001)) := EB.set5 (by omega) _ _ _ _ _
          clear p0 p1 p2 p3 p4 pf eC eA eB
          generalize (((((u5.setCell ⟨bC, 0, none⟩ (.string kaB)).setCell ⟨bC, 1, none⟩ (.string kaK)).setCell ⟨bC, 2, none⟩ (.int .i64 1)).setCell ⟨bC, 3, none⟩ (.int .i64 1)).setCell ⟨bC, 4, none⟩ (.int .i64 30001)) = u6 at *
          refine ⟨geb, hK _ _ ?_⟩
          clear hK K
          have hgu6 : Grows w23 u6 := EB.grows hgu5 geb
          clear geb
          have eC := neC
          clear neC
          have eA := neA
          clear neA
          have eB := neB
          clear neB
          have oA : w23.heap.size ≤ bA := by omega
          have oB : w23.heap.size ≤ bB := by omega
          have oC : w23.heap.size ≤ bC := by omega
          refine f_end ?_
          exact ⟨(bA, bB, bC), ⟨eA, eB, eC, hAB, hAC, hBC, oA, oB, oC, hgu6⟩, by simp only [puts, List.foldl]; go_simp⟩
        · refine f_late rfl rfl (fun K hK => ?_)
          go_simp
          have eB : EnAt (u1.alloc (.cells #[.string ⟨#[]⟩, .string ⟨#[]⟩, .int .i64 0, .int .i64 0, .int .i64 0] 54)) u1.heap.size enZero := EnAt.box u1 enZero _
          have geB := Grows.alloc u1 (.cells #[.string ⟨#[]⟩, .string ⟨#[]⟩, .int .i64 0, .int .i64 0, .int .i64 0] 54)
          generalize u1.alloc (.cells #[.string ⟨#[]⟩, .string ⟨#[]⟩, .int .i64 0, .int .i64 0, .int .i64 0] 54) = u2 at *
          obtain ⟨bB, hbB⟩ : ∃ b, b = u1.heap.size := ⟨_, rfl⟩
          rw [← hbB] at eB ⊢
          have qbB := Nat.le_of_eq hbB.symm
          clear hbB
          refine ⟨EB.of geB (by omega), hK _ _ ?_⟩
          clear hK K
          have seB := geB.size
          have leB := eB.lt
          replace eC := eC.grows geB
          refine f_late rfl rfl (fun K hK => ?_)
          go_simp
          have eA : EnAt (u2.alloc (.cells #[.string ⟨#[]⟩, .string ⟨#[]⟩, .int .i64 0, .int .i64 0, .int .i64 0] 54)) u2.heap.size enZero := EnAt.box u2 enZero _
          have geA := Grows.alloc u2 (.cells #[.string ⟨#[]⟩, .string ⟨#[]⟩, .int .i64 0, .int .i64 0, .int .i64 0] 54)
          generalize u2.alloc (.cells #[.string ⟨#[]⟩, .string ⟨#[]⟩, .int .i64 0, .int .i64 0, .int .i64 0] 54) = u3 at *
          obtain ⟨bA, hbA⟩ : ∃ b, b = u2.heap.size := ⟨_, rfl⟩
          rw [← hbA] at eA ⊢
          have qbA := Nat.le_of_eq hbA.symm
          clear hbA
          refine ⟨EB.of geA (by omega), hK _ _ ?_⟩
          clear hK K
          have seA := geA.size
          have leA := eA.lt
          replace eC := eC.grows geA
          replace eB := eB.grows geA
          have hgu3 : Grows w23 u3 := ((hgd.tr geC).tr geB).tr geA
          have hAB : bA ≠ bB := by omega
          have hAC : bA ≠ bC := by omega
          have hBC : bB ≠ bC := by omega
          have p0 := eA.c 0 _ rfl
          have p1 := eA.c 1 _ rfl
          have p2 := eA.c 2 _ rfl
          have p3 := eA.c 3 _ rfl
          have p4 := eA.c 4 _ rfl
          have pf := eA.f
          refine f_late rfl rfl (fun K hK => ?_)
          go_simp
          have neA : EnAt (((((u3.setCell ⟨bA, 0, none⟩ (.string kaB)).setCell ⟨bA, 1, none⟩ (.string kaK)).setCell ⟨bA, 2, none⟩ (.int .i64 1)).setCell ⟨bA, 3, none⟩ (.int .i64 1)).setCell ⟨bA, 4, none⟩ (.int .i64 30001)) bA kX := eA.all (y := kX)
          have neB : EnAt (((((u3.setCell ⟨bA, 0, none⟩ (.string kaB)).setCell ⟨bA, 1, none⟩ (.string kaK)).setCell ⟨bA, 2, none⟩ (.int .i64 1)).setCell ⟨bA, 3, none⟩ (.int .i64 1)).setCell ⟨bA, 4, none⟩ (.int .i64 30001)) _ _ := eB.other5 hAB _ _ _ _ _
          have neC : EnAt (((((u3.setCell ⟨bA, 0, none⟩ (.string kaB)).setCell ⟨bA, 1, none⟩ (.string kaK)).setCell ⟨bA, 2, none⟩ (.int .i64 1)).setCell ⟨bA, 3, none⟩ (.int .i64 1)).setCell ⟨bA, 4, none⟩ (.int .i64 30001)) _ _ := eC.other5 hAC _ _ _ _ _
          have geb : EB w23.heap.size u3 (((((u3.setCell ⟨bA, 0, none⟩ (.string kaB)).setCell ⟨bA, 1, none⟩ (.string kaK)).setCell ⟨bA, 2, none⟩ (.int .i64 1)).setCell ⟨bA, 3, none⟩ (.int .i64 1)).setCell ⟨bA, 4, none⟩ (.int .i64 30001)) := EB.set5 (by omega) _ _ _ _ _
          clear p0 p1 p2 p3 p4 pf eA eB eC
          generalize (((((u3.setCell ⟨bA, 0, none⟩ (.string kaB)).setCell ⟨bA, 1, none⟩ (.string kaK)).setCell ⟨bA, 2, none⟩ (.int .i64 1)).setCell ⟨bA, 3, none⟩ (.int .i64 1)).setCell ⟨bA, 4, none⟩ (.int .i64 30001)) = u4 at *
          refine ⟨geb, hK _ _ ?_⟩
          clear hK K
          have hgu4 : Grows w23 u4 := EB.grows hgu3 geb
          clear geb
          have eA := neA
          clear neA
          have eB := neB
          clear neB
          have eC := neC
          clear neC
          have p0 := eB.c 0 _ rfl
          have p1 := eB.c 1 _ rfl
          have p2 := eB.c 2 _ rfl
          have p3 := eB.c 3 _ rfl
          have p4 := eB.c 4 _ rfl
          have pf := eB.f
          refine f_late rfl rfl (fun K hK => ?_)
          go_simp
          have neB : EnAt (((((u4.setCell ⟨bB, 0, none⟩ (.string kaB)).setCell ⟨bB, 1, none⟩ (.string kaK)).setCell ⟨bB, 2, none⟩ (.int .i64 1)).setCell ⟨bB, 3, none⟩ (.int .i64 1)).setCell ⟨bB, 4, none⟩ (.int .i64 30001)) bB kX := eB.all (y := kX)
          have neA : EnAt (((((u4.setCell ⟨bB, 0, none⟩ (.string kaB)).setCell ⟨bB, 1, none⟩ (.string kaK)).setCell ⟨bB, 2, none⟩ (.int .i64 1)).setCell ⟨bB, 3, none⟩ (.int .i64 1)).setCell ⟨bB, 4, none⟩ (.int .i64 30001)) _ _ := eA.other5 (Ne.symm hAB) _ _ _ _ _
          have neC : EnAt (((((u4.setCell ⟨bB, 0, none⟩ (.string kaB)).setCell ⟨bB, 1, none⟩ (.string kaK)).setCell ⟨bB, 2, none⟩ (.int .i64 1)).setCell ⟨bB, 3, none⟩ (.int .i64 1)).setCell ⟨bB, 4, none⟩ (.int .i64 30001)) _ _ := eC.other5 hBC _ _ _ _ _
          have geb : EB w23.heap.size u4 (((((u4.setCell ⟨bB, 0, none⟩ (.string kaB)).setCell ⟨bB, 1, none⟩ (.string kaK)).setCell ⟨bB, 2, none⟩ (.int .i64 1)).setCell ⟨bB, 3, none⟩ (.int .i64 1)).setCell ⟨bB, 4, none⟩ (.int .i64 30001)) := EB.set5 (by omega) _ _ _ _ _
          clear p0 p1 p2 p3 p4 pf eB eA eC
          generalize (((((u4.setCell ⟨bB, 0, none⟩ (.string kaB)).setCell ⟨bB, 1, none⟩ (.string kaK)).setCell ⟨bB, 2, none⟩ (.int .i64 1)).setCell ⟨bB, 3, none⟩ (.int .i64 1)).setCell ⟨bB, 4, none⟩ (.int .i64 30001)) = u5 at *
          refine ⟨geb, hK _ _ ?_⟩
          clear hK K
          have hgu5 : Grows w23 u5 := EB.grows hgu4 geb
          clear geb
          have eB := neB
          clear neB
          have eA := neA
          clear neA
          have eC := neC
          clear neC
          have p0 := eC.c 0 _ rfl
          have p1 := eC.c 1 _ rfl
          have p2 := eC.c 2 _ rfl
          have p3 := eC.c 3 _ rfl
          have p4 := eC.c 4 _ rfl
          have pf := eC.f
          refine f_late rfl rfl (fun K hK => ?_)
          go_simp
          have neC : EnAt (((((u5.setCell ⟨bC, 0, none⟩ (.string kaB)).setCell ⟨bC, 1, none⟩ (.string kaK)).setCell ⟨bC, 2, none⟩ (.int .i64 1)).setCell ⟨bC, 3, none⟩ (.int .i64 1)).setCell ⟨bC, 4, none⟩ (.int .i64 30001)) bC kX := eC.all (y := kX)
          have neA : EnAt (((((u5.setCell ⟨bC, 0, none⟩ (.string kaB)).setCell ⟨bC, 1, none⟩ (.string kaK)).setCell ⟨bC, 2, none⟩ (.int .i64 1)).setCell ⟨bC, 3, none⟩ (.int .i64 1)).setCell ⟨bC, 4, none⟩ (.int .i64 30001)) _ _ := eA.other5 (Ne.symm hAC) _ _ _ _ _
          have neB : EnAt (((((u5.setCell ⟨bC, 0, none⟩ (.string kaB)).setCell ⟨bC, 1, none⟩ (.string kaK)).setCell ⟨bC, 2, none⟩ (.int .i64 1)).setCell ⟨bC, 3, none⟩ (.int .i64 1)).setCell ⟨bC, 4, none⟩ (.int .i64 30001)) _ _ := eB.other5 (Ne.symm hBC) _ _ _ _ _
          have geb : EB w23.heap.size u5 (((((u5.setCell ⟨bC, 0, none⟩ (.string kaB)).setCell ⟨bC, 1, none⟩ (.string kaK)).setCell ⟨bC, 2, none⟩ (.int .i64 1)).setCell ⟨bC, 3, none⟩ (.int .i64 1)).setCell ⟨bC, 4, none⟩ (.int .i64 30001)) := EB.set5 (by omega) _ _ _ _ _
          clear p0 p1 p2 p3 p4 pf eC eA eB
          generalize (((((u5.setCell ⟨bC, 0, none⟩ (.string kaB)).setCell ⟨bC, 1, none⟩ (.string kaK)).setCell ⟨bC, 2, none⟩ (.int .i64 1)).setCell ⟨bC, 3, none⟩ (.int .i64 1)).setCell ⟨bC, 4, none⟩ (.int .i64 30001)) = u6 at *
          refine ⟨geb, hK _ _ ?_⟩
          clear hK K
          have hgu6 : Grows w23 u6 := EB.grows hgu5 geb
          clear geb
          have eC := neC
          clear neC
          have eA := neA
          clear neA
          have eB := neB
          clear neB
          have oA : w23.heap.size ≤ bA := by omega
          have oB : w23.heap.size ≤ bB := by omega
          have oC : w23.heap.size ≤ bC := by omega
          refine f_end ?_
          exact ⟨(bA, bB, bC), ⟨eA, eB, eC, hAB, hAC, hBC, oA, oB, oC, hgu6⟩, by simp only [puts, List.foldl]; go_simp⟩
    · clear z0 z1 z2 z3 z4
      rintro ⟨bA, bB, bC⟩ w24 ⟨eA, eB, eC, hAB, hAC, hBC, lA, lB, lC, hg24⟩
      simp only at eA eB eC hAB hAC hBC lA lB lC
      simp only [puts, List.foldl]
      have hs23 := hg3.size
      replace hg3 := hg3.tr hg24
      have hs3 := hg3.size
      have mA : w.heap.size ≤ bA := by omega
      have mB : w.heap.size ≤ bB := by omega
      have mC : w.heap.size ≤ bC := by omega
      have hBA := Ne.symm hAB
      have hCA := Ne.symm hAC
      have hCB := Ne.symm hBC
      have a4 : w24.cell? ⟨bA, 4, none⟩ = some (.int .i64 30001) := eA.c 4 _ rfl
      have b4 : w24.cell? ⟨bB, 4, none⟩ = some (.int .i64 30001) := eB.c 4 _ rfl
      have c4 : w24.cell? ⟨bC, 4, none⟩ = some (.int .i64 30001) := eC.c 4 _ rfl
      have c1 : w24.cell? ⟨bC, 1, none⟩ = some (.string kaK) := eC.c 1 _ rfl
      have af := eA.f
      have bf := eB.f
      have cf := eC.f
      go_wp2_with fail
      clear a4 b4 c4 c1 af bf cf
      have pA : EnAt ((((w24.setCell ⟨bA, 4, none⟩ (.int .i64 200)).setCell ⟨bB, 4, none⟩ (.int .i64 50)).setCell ⟨bC, 4, none⟩ (.int .i64 100)).setCell ⟨bC, 1, none⟩ (.string ⟨#[232, 170, 178]⟩)) bA kA := (((eA.put (y := kA) 4 (.int .i64 200) (by decide) rfl).other hBA 4 (.int .i64 50)).other hCA 4 (.int .i64 100)).other hCA 1 (.string ⟨#[232, 170, 178]⟩)
      have pB : EnAt ((((w24.setCell ⟨bA, 4, none⟩ (.int .i64 200)).setCell ⟨bB, 4, none⟩ (.int .i64 50)).setCell ⟨bC, 4, none⟩ (.int .i64 100)).setCell ⟨bC, 1, none⟩ (.string ⟨#[232, 170, 178]⟩)) bB kB2 := (((eB.other hAB 4 (.int .i64 200)).put (y := kB2) 4 (.int .i64 50) (by decide) rfl).other hCB 4 (.int .i64 100)).other hCB 1 (.string ⟨#[232, 170, 178]⟩)
      have pC : EnAt ((((w24.setCell ⟨bA, 4, none⟩ (.int .i64 200)).setCell ⟨bB, 4, none⟩ (.int .i64 50)).setCell ⟨bC, 4, none⟩ (.int .i64 100)).setCell ⟨bC, 1, none⟩ (.string ⟨#[232, 170, 178]⟩)) bC kC := (((eC.other hAC 4 (.int .i64 200)).other hBC 4 (.int .i64 50)).put (y := ⟨kaB, kaK, 1, 1, 100⟩) 4 (.int .i64 100) (by decide) rfl).put (y := kC) 1 (.string ⟨#[232, 170, 178]⟩) (by decide) rfl
      have pg := (((hg3.set (p := ⟨bA, 4, none⟩) mA (.int .i64 200)).set (p := ⟨bB, 4, none⟩) mB (.int .i64 50)).set (p := ⟨bC, 4, none⟩) mC (.int .i64 100)).set (p := ⟨bC, 1, none⟩) mC (.string ⟨#[232, 170, 178]⟩)
      generalize (((w24.setCell ⟨bA, 4, none⟩ (.int .i64 200)).setCell ⟨bB, 4, none⟩ (.int .i64 50)).setCell ⟨bC, 4, none⟩ (.int .i64 100)).setCell ⟨bC, 1, none⟩ (.string ⟨#[232, 170, 178]⟩) = w25 at *
      clear eA eB eC hg3 hg24 hAB hAC hBC hBA hCA hCB mA mB mC lA lB lC hs3 hs23 eX hbX
      have za0 : ∀ x : Ext Grows w25.drew, x.u.cell? ⟨bA, 0, none⟩ = some (.string kaB) := ext_cell ((Grows.drew w25).cell (pA.c 0 _ rfl))
      have za1 : ∀ x : Ext Grows w25.drew, x.u.cell? ⟨bA, 1, none⟩ = some (.string kaK) := ext_cell ((Grows.drew w25).cell (pA.c 1 _ rfl))
      have za2 : ∀ x : Ext Grows w25.drew, x.u.cell? ⟨bA, 2, none⟩ = some (.int .i64 1) := ext_cell ((Grows.drew w25).cell (pA.c 2 _ rfl))
      have za3 : ∀ x : Ext Grows w25.drew, x.u.cell? ⟨bA, 3, none⟩ = some (.int .i64 1) := ext_cell ((Grows.drew w25).cell (pA.c 3 _ rfl))
      have za4 : ∀ x : Ext Grows w25.drew, x.u.cell? ⟨bA, 4, none⟩ = some (.int .i64 200) := ext_cell ((Grows.drew w25).cell (pA.c 4 _ rfl))
      have zb0 : ∀ x : Ext Grows w25.drew, x.u.cell? ⟨bB, 0, none⟩ = some (.string kaB) := ext_cell ((Grows.drew w25).cell (pB.c 0 _ rfl))
      have zb1 : ∀ x : Ext Grows w25.drew, x.u.cell? ⟨bB, 1, none⟩ = some (.string kaK) := ext_cell ((Grows.drew w25).cell (pB.c 1 _ rfl))
      have zb2 : ∀ x : Ext Grows w25.drew, x.u.cell? ⟨bB, 2, none⟩ = some (.int .i64 1) := ext_cell ((Grows.drew w25).cell (pB.c 2 _ rfl))
      have zb3 : ∀ x : Ext Grows w25.drew, x.u.cell? ⟨bB, 3, none⟩ = some (.int .i64 1) := ext_cell ((Grows.drew w25).cell (pB.c 3 _ rfl))
      have zb4 : ∀ x : Ext Grows w25.drew, x.u.cell? ⟨bB, 4, none⟩ = some (.int .i64 50) := ext_cell ((Grows.drew w25).cell (pB.c 4 _ rfl))
      have zc0 : ∀ x : Ext Grows w25.drew, x.u.cell? ⟨bC, 0, none⟩ = some (.string kaB) := ext_cell ((Grows.drew w25).cell (pC.c 0 _ rfl))
      have zc1 : ∀ x : Ext Grows w25.drew, x.u.cell? ⟨bC, 1, none⟩ = some (.string ⟨#[232, 170, 178]⟩) := ext_cell ((Grows.drew w25).cell (pC.c 1 _ rfl))
      have zc2 : ∀ x : Ext Grows w25.drew, x.u.cell? ⟨bC, 2, none⟩ = some (.int .i64 1) := ext_cell ((Grows.drew w25).cell (pC.c 2 _ rfl))
      have zc3 : ∀ x : Ext Grows w25.drew, x.u.cell? ⟨bC, 3, none⟩ = some (.int .i64 1) := ext_cell ((Grows.drew w25).cell (pC.c 3 _ rfl))
      have zc4 : ∀ x : Ext Grows w25.drew, x.u.cell? ⟨bC, 4, none⟩ = some (.int .i64 100) := ext_cell ((Grows.drew w25).cell (pC.c 4 _ rfl))
      refine f_meet (Grows) (.quiet 0 (.quiet 1 (.quiet 2 (.quiet 5 (.quiet 6 (.alt (.late 7 (.late 3 (.late 4 (.late 8 (.late 9 .done))))) (.late 3 (.alt (.late 7 (.late 4 (.late 8 (.late 9 .done)))) (.late 4 (.late 7 (.late 8 (.late 9 .done)))))))))))) (fun (x : Value × Value × Value) => [(some 121, .agg #[.string kaB, .string kaK, .int .i64 1, .int .i64 1, .int .i64 200]), (some 122, .agg #[.string kaB, .string ⟨#[232, 170, 178]⟩, .int .i64 1, .int .i64 1, .int .i64 100]), (some 123, .agg #[.string kaB, .string kaK, .int .i64 1, .int .i64 1, .int .i64 50]), (some 124, x.1), (some 125, x.2.1), (some 126, .agg #[.string kaB, .string kaK, .int .i64 1, .int .i64 1, .int .i64 50]), (some 127, .agg #[.string kaB, .string ⟨#[232, 170, 178]⟩, .int .i64 1, .int .i64 1, .int .i64 100]), (some 128, x.2.2), (some 129, .bool true), (some 18, .bool true)]) (fun (_ : Value × Value × Value) w' => Grows w25 w') Grows.refl Grows.trans (by kernel_rfl) (by kernel_rfl) (fun d _ _ _ _ h => by cases d <;> exact h) ?_ ?_
      · have hgd := Grows.drew w25
        generalize w25.drew = wd at *
        iterate 5 (refine f_quiet rfl (fun K hK => ?_); go_simp; refine hK _ ?_; clear hK K)
        clear za0 za1 za2 za3 za4 zb0 zb1 zb2 zb3 zb4 zc0 zc1 zc2 zc3 zc4
        refine f_alt ?_ ?_
        · refine f_late rfl rfl (fun K hK => ?_)
          go_simp
          have hB2 : AtCells (wd.alloc (.cells #[.string kaB, .string kaK, .int .i64 1, .int .i64 1, .int .i64 50, .string kaB, .string ⟨#[232, 170, 178]⟩, .int .i64 1, .int .i64 1, .int .i64 100] 54)) (some ⟨wd.heap.size, 0, none⟩) 5 ([kB2, kC].map enCells) := box_rows enCells_len [kB2, kC] wd _ _ rfl _ rfl
          have g1 := Grows.alloc wd (.cells #[.string kaB, .string kaK, .int .i64 1, .int .i64 1, .int .i64 50, .string kaB, .string ⟨#[232, 170, 178]⟩, .int .i64 1, .int .i64 1, .int .i64 100] 54)
          generalize wd.alloc (.cells #[.string kaB, .string kaK, .int .i64 1, .int .i64 1, .int .i64 50, .string kaB, .string ⟨#[232, 170, 178]⟩, .int .i64 1, .int .i64 1, .int .i64 100] 54) = u1 at *
          generalize wd.heap.size = nB2 at *
          refine ⟨g1, hK _ _ ?_⟩
          clear hK K
          replace hgd := hgd.tr g1
          clear g1
          refine f_late rfl rfl (fun K hK => ?_)
          go_simp
          have hB3 : AtCells (u1.alloc (.cells #[.string kaB, .string kaK, .int .i64 1, .int .i64 1, .int .i64 200, .string kaB, .string ⟨#[232, 170, 178]⟩, .int .i64 1, .int .i64 1, .int .i64 100, .string kaB, .string kaK, .int .i64 1, .int .i64 1, .int .i64 50] 54)) (some ⟨u1.heap.size, 0, none⟩) 5 ([kA, kC, kB2].map enCells) := box_rows enCells_len [kA, kC, kB2] u1 _ _ rfl _ rfl
          have g2 := Grows.alloc u1 (.cells #[.string kaB, .string kaK, .int .i64 1, .int .i64 1, .int .i64 200, .string kaB, .string ⟨#[232, 170, 178]⟩, .int .i64 1, .int .i64 1, .int .i64 100, .string kaB, .string kaK, .int .i64 1, .int .i64 1, .int .i64 50] 54)
          generalize u1.alloc (.cells #[.string kaB, .string kaK, .int .i64 1, .int .i64 1, .int .i64 200, .string kaB, .string ⟨#[232, 170, 178]⟩, .int .i64 1, .int .i64 1, .int .i64 100, .string kaB, .string kaK, .int .i64 1, .int .i64 1, .int .i64 50] 54) = u2 at *
          generalize u1.heap.size = nB3 at *
          replace hB2 := hB2.grows g2
          refine ⟨g2, hK _ _ ?_⟩
          clear hK K
          replace hgd := hgd.tr g2
          clear g2
          refine f_late rfl rfl (fun K hK => ?_)
          go_simp
          refine (sort_at _ u2 hB3).mono ?_
          rintro e u3 ⟨sa, sc, rfl, hS, g3⟩
          clear hB3
          replace hB2 := hB2.grows g3
          refine ⟨g3, hK _ _ ?_⟩
          clear hK K
          replace hgd := hgd.tr g3
          clear g3
          refine f_late rfl rfl (fun K hK => ?_)
          go_simp
          refine (same_two _ _ _ _ u3 hS hB2).mono ?_
          rintro e u9 ⟨rfl, g9⟩
          refine ⟨g9, hK _ _ ?_⟩
          clear hK K
          replace hgd := hgd.tr g9
          refine f_late rfl rfl (fun K hK => ?_)
          go_simp
          refine ⟨Grows.refl _, hK _ _ ?_⟩
          clear hK K
          refine f_end ?_
          exact ⟨(.slice (some ⟨nB3, 0, none⟩) 3 3, .slice sa 2 sc, .slice (some ⟨nB2, 0, none⟩) 2 2), hgd, by simp only [puts, List.foldl]; go_simp⟩
        · refine f_late rfl rfl (fun K hK => ?_)
          go_simp
          have hB3 : AtCells (wd.alloc (.cells #[.string kaB, .string kaK, .int .i64 1, .int .i64 1, .int .i64 200, .string kaB, .string ⟨#[232, 170, 178]⟩, .int .i64 1, .int .i64 1, .int .i64 100, .string kaB, .string kaK, .int .i64 1, .int .i64 1, .int .i64 50] 54)) (some ⟨wd.heap.size, 0, none⟩) 5 ([kA, kC, kB2].map enCells) := box_rows enCells_len [kA, kC, kB2] wd _ _ rfl _ rfl
          have g1 := Grows.alloc wd (.cells #[.string kaB, .string kaK, .int .i64 1, .int .i64 1, .int .i64 200, .string kaB, .string ⟨#[232, 170, 178]⟩, .int .i64 1, .int .i64 1, .int .i64 100, .string kaB, .string kaK, .int .i64 1, .int .i64 1, .int .i64 50] 54)
          generalize wd.alloc (.cells #[.string kaB, .string kaK, .int .i64 1, .int .i64 1, .int .i64 200, .string kaB, .string ⟨#[232, 170, 178]⟩, .int .i64 1, .int .i64 1, .int .i64 100, .string kaB, .string kaK, .int .i64 1, .int .i64 1, .int .i64 50] 54) = u1 at *
          generalize wd.heap.size = nB3 at *
          refine ⟨g1, hK _ _ ?_⟩
          clear hK K
          replace hgd := hgd.tr g1
          clear g1
          refine f_alt ?_ ?_
          · refine f_late rfl rfl (fun K hK => ?_)
            go_simp
            have hB2 : AtCells (u1.alloc (.cells #[.string kaB, .string kaK, .int .i64 1, .int .i64 1, .int .i64 50, .string kaB, .string ⟨#[232, 170, 178]⟩, .int .i64 1, .int .i64 1, .int .i64 100] 54)) (some ⟨u1.heap.size, 0, none⟩) 5 ([kB2, kC].map enCells) := box_rows enCells_len [kB2, kC] u1 _ _ rfl _ rfl
            have g2 := Grows.alloc u1 (.cells #[.string kaB, .string kaK, .int .i64 1, .int .i64 1, .int .i64 50, .string kaB, .string ⟨#[232, 170, 178]⟩, .int .i64 1, .int .i64 1, .int .i64 100] 54)
            generalize u1.alloc (.cells #[.string kaB, .string kaK, .int .i64 1, .int .i64 1, .int .i64 50, .string kaB, .string ⟨#[232, 170, 178]⟩, .int .i64 1, .int .i64 1, .int .i64 100] 54) = u2 at *
            generalize u1.heap.size = nB2 at *
            replace hB3 := hB3.grows g2
            refine ⟨g2, hK _ _ ?_⟩
            clear hK K
            replace hgd := hgd.tr g2
            clear g2
            refine f_late rfl rfl (fun K hK => ?_)
            go_simp
            refine (sort_at _ u2 hB3).mono ?_
            rintro e u3 ⟨sa, sc, rfl, hS, g3⟩
            clear hB3
            replace hB2 := hB2.grows g3
            refine ⟨g3, hK _ _ ?_⟩
            clear hK K
            replace hgd := hgd.tr g3
            clear g3
            refine f_late rfl rfl (fun K hK => ?_)
            go_simp
            refine (same_two _ _ _ _ u3 hS hB2).mono ?_
            rintro e u9 ⟨rfl, g9⟩
            refine ⟨g9, hK _ _ ?_⟩
            clear hK K
            replace hgd := hgd.tr g9
            refine f_late rfl rfl (fun K hK => ?_)
            go_simp
            refine ⟨Grows.refl _, hK _ _ ?_⟩
            clear hK K
            refine f_end ?_
            exact ⟨(.slice (some ⟨nB3, 0, none⟩) 3 3, .slice sa 2 sc, .slice (some ⟨nB2, 0, none⟩) 2 2), hgd, by simp only [puts, List.foldl]; go_simp⟩
          · refine f_late rfl rfl (fun K hK => ?_)
            go_simp
            refine (sort_at _ u1 hB3).mono ?_
            rintro e u2 ⟨sa, sc, rfl, hS, g2⟩
            clear hB3
            refine ⟨g2, hK _ _ ?_⟩
            clear hK K
            replace hgd := hgd.tr g2
            clear g2
            refine f_late rfl rfl (fun K hK => ?_)
            go_simp
            have hB2 : AtCells (u2.alloc (.cells #[.string kaB, .string kaK, .int .i64 1, .int .i64 1, .int .i64 50, .string kaB, .string ⟨#[232, 170, 178]⟩, .int .i64 1, .int .i64 1, .int .i64 100] 54)) (some ⟨u2.heap.size, 0, none⟩) 5 ([kB2, kC].map enCells) := box_rows enCells_len [kB2, kC] u2 _ _ rfl _ rfl
            have g3 := Grows.alloc u2 (.cells #[.string kaB, .string kaK, .int .i64 1, .int .i64 1, .int .i64 50, .string kaB, .string ⟨#[232, 170, 178]⟩, .int .i64 1, .int .i64 1, .int .i64 100] 54)
            generalize u2.alloc (.cells #[.string kaB, .string kaK, .int .i64 1, .int .i64 1, .int .i64 50, .string kaB, .string ⟨#[232, 170, 178]⟩, .int .i64 1, .int .i64 1, .int .i64 100] 54) = u3 at *
            generalize u2.heap.size = nB2 at *
            replace hS := hS.grows g3
            refine ⟨g3, hK _ _ ?_⟩
            clear hK K
            replace hgd := hgd.tr g3
            clear g3
            refine f_late rfl rfl (fun K hK => ?_)
            go_simp
            refine (same_two _ _ _ _ u3 hS hB2).mono ?_
            rintro e u9 ⟨rfl, g9⟩
            refine ⟨g9, hK _ _ ?_⟩
            clear hK K
            replace hgd := hgd.tr g9
            refine f_late rfl rfl (fun K hK => ?_)
            go_simp
            refine ⟨Grows.refl _, hK _ _ ?_⟩
            clear hK K
            refine f_end ?_
            exact ⟨(.slice (some ⟨nB3, 0, none⟩) 3 3, .slice sa 2 sc, .slice (some ⟨nB2, 0, none⟩) 2 2), hgd, by simp only [puts, List.foldl]; go_simp⟩
      · clear za0 za1 za2 za3 za4 zb0 zb1 zb2 zb3 zb4 zc0 zc1 zc2 zc3 zc4
        rintro ⟨v1, v2, v3⟩ w26 hg26
        simp only [puts, List.foldl]
        replace pg := pg.tr hg26
        clear hg26 pA pB pC
        obtain ⟨N, hN⟩ : ∃ N : Nat, N = 1048577 := ⟨_, rfl⟩
        have HN := Lib.hid hN
        have hNi : (1048577 : Int) = N := by omega
        have HNI := Lib.hid hNi
        clear hN hNi
        obtain ⟨iu, zu, hiu, hzu, hsu, hbu⟩ : ∃ i z, Tryz.prog.info? 5 = some i ∧ i.zero = some z ∧ i.size = 1 ∧ i.bytes = 1 := by
          obtain ⟨i, h1, h2, h3, h4⟩ := byteInfo
          exact ⟨i, _, h1, h2, h3, h4⟩
        obtain rfl : zu = .int .u8 0 := by
          obtain ⟨i, h1, h2, h3, h4⟩ := byteInfo
          rw [hiu] at h1
          obtain rfl := Option.some.inj h1
          rw [h2] at hzu
          exact (Option.some.inj hzu).symm
        go_wp2_with (at_make; refine wpList_make_full _ rfl _ _ 40 rfl w26.heap.size 5 iu (.int .u8 0) 1 Tryz.underlying40 hiu hzu hsu .i64 .i64 _ _ N rfl rfl HNI.out HNI.out (by rw [hbu]; have := HN.out; omega) (by have := HN.out; unfold maxLen; omega) (Nat.le_refl _) ?_; intro w27 hown27 hgr27)
        have ho27 := owns_zeros hown27
        have hg27 : Grows w w27 := pg.grown hgr27 (fun q hq => by cases hq)
        have hsz := pg.size
        have hNb : N ≤ 1048577 := by have := HN.out; omega
        generalize w26.heap.size = g at *
        clear hown27 hgr27 hbu hsu hzu hiu
        go_loopw [20] (fun i wx => ∃ (k : Nat) (xs : List UInt8), k ≤ N ∧ i = .int .i64 k ∧ xs.length = N ∧ Owns wx g 5 1 byteC (.slice (some ⟨g, 0, none⟩) N N) xs ∧ Grows w wx) (fun i _ => N - (intOf i).toNat)
        case atStart => exact ⟨0, _, Nat.zero_le _, rfl, List.length_replicate, ho27, hg27⟩
        case round =>
          obtain ⟨k, xs, hk, rfl, hxs, hown, hg⟩ := hrel
          by_cases hlt : k < N
          · obtain ⟨⟨u, hu⟩, hf, _, hset⟩ := owns_byte hown (show k < xs.length by rw [hxs]; exact hlt) 35
            have HS := Lib.hid hset
            have hki : (k : Int) < N := by omega
            clear hset
            go_wp2_with fail
            go_roundw
            case rel => exact ⟨k + 1, xs.set k 35, hlt, by go_num, by rw [List.length_set]; exact hxs, HS.out, hg.set hsz _⟩
            case measure => simp [intOf]; omega
          · obtain rfl : k = N := by omega
            have hxb : 1048576 < xs.length := by have := HN.out; omega
            have HEV := Lib.hid (ev_big2 hxb)
            have hsx : (mkB xs).size < 9223372036854775807 := by rw [Lib.size_eq, mkB_data]; omega
            have HCV : Hid (∀ W, Grows wr W → (convert 40 9 (.slice (some ⟨g, 0, none⟩) k k)).run Tryz.prog W = .ok (.string (mkB xs)) W) := fun W hW => conv_owns (hown.grows hW)
            clear hown
            generalize mkB xs = T at *
            go_wp2_with fail
            have hcv : ∀ x : Ext Grows wr.drew, (convert 40 9 (.slice (some ⟨g, 0, none⟩) k k)).run Tryz.prog x.u = .ok (.string T) x.u := fun x => HCV.out x.u ((Grows.drew wr).tr x.h)
            refine t_region (Grows) [(0, false), (1, false), (2, true), (3, true), (4, false), (5, false), (6, false), (7, false), (8, false), (9, false), (10, false)] Grows.refl Grows.trans (by kernel_rfl) (by kernel_rfl) (fun d _ _ _ _ h => by cases d <;> exact h) ?_
            iterate 2 (refine t_quiet rfl (fun K hK => ?_); go_simp; refine hK _ ?_; clear hK K)
            clear hcv
            refine t_late rfl rfl (fun K hK => ?_)
            go_simp
            refine (plain_any wr.drew).mono ?_
            rintro e w28 ⟨rfl, hp28, hg28⟩
            refine ⟨hg28, hK _ _ ?_⟩
            clear hK K
            have hgw28 := hg.dr.tr hg28
            refine t_late rfl rfl (fun K hK => ?_)
            go_simp
            refine (parse_is HEV.out hsx _ 2 2 rfl (by omega) w28 (HE.out.grows hgw28) hp28).mono ?_
            rintro e w29 ⟨a29, c29, rfl, hg29⟩
            refine ⟨hg29, hK _ _ ?_⟩
            clear hK K hp28
            have hgw29 := hgw28.tr hg29
            iterate 7 (refine t_quiet rfl (fun K hK => ?_); go_simp; refine hK _ ?_; clear hK K)
            refine t_end ?_
            go_wp2_with fail
            refine (sort_none w29).mono ?_
            rintro e w30 ⟨v30, rfl, hown30, hg30⟩
            obtain ⟨a30, c30, rfl, _, _, _⟩ := hown30.at_ enCells_len
            clear hown30
            have hgw30 := hgw29.tr hg30
            go_wp2_with fail
            refine (works_any w30 (HE.out.grows hgw30)).mono ?_
            rintro e w31 ⟨rfl, hg31⟩
            go_wp2
            go_ret
            exact ⟨rfl, hgw30.tr hg31⟩
end Go.Proofs.YtndhhgpmpnmljaaGreatDoor
