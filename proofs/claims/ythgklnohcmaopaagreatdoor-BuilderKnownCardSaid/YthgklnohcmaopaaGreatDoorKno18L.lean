import Derived.Test.YthgklnohcmaopaaGreatDoorPps2
import Derived.Test.YthgklnohcmaopaaGreatDoorBq36
import Derived.Test.YthgklnohcmaopaaGreatDoorBq35
namespace Go.Proofs.YthgklnohcmaopaaGreatDoor
open Go Go.RowKit Go.Shelf
attribute [local go_sem] aM aO

set_option maxHeartbeats 4000000 in
set_option maxRecDepth 100000 in
theorem compile_pos (s m x : ByteArray) (w : World) (he : uA0 w) (hs : s.size < 9223372036854775807) (ln e : Int) (hp : pposS s = ([], ln, e)) (h0 : e ≠ 0) :
    Calls Tryz.prog 17 #[.string s, .string m, .string x] w fun en w' => en = .returned (.tuple #[.slice none 0 0, .agg #[.int .i64 1, .int .i64 ln], .int .i64 e]) ∧ aB w w' := by
  have CP := Lib.hid (pparse_any s (w.alloc (.cells #[.int .i64 0, .int .i64 0] 58)) (he.grows (aB.alloc _ _)) hs)
  unfold PposPost at CP
  rw [hp] at CP
  have T0 := TB.alloc w #[.int .i64 0, .int .i64 0] 58
  have eb : (e != 0) = true := by simpa using h0
  clear hp h0 he
  go_enter Tryz.func17, Tryz.ntmps17
  go_wp2_with fail
  refine CP.out.mono ?_
  rintro en w1 ⟨v, rfl, ho, hg⟩
  have T1 := T0.gr hg
  have c0 := T1.cell (o := 0) rfl
  have c1 := T1.cell (o := 1) rfl
  have f0 := T1.froz 0
  have f1 := T1.froz 1
  have T2 := (T1.set 0 (.int .i64 1)).set 1 (.int .i64 ln)
  have d0 := T2.cell (o := 0) rfl
  have d1 := T2.cell (o := 1) rfl
  have hgw := (aB.alloc w (.cells #[.int .i64 0, .int .i64 0] 58)).tr hg
  have hg2 := (hgw.set (p := ⟨w.heap.size, 0, none⟩) (Nat.le_refl _) (.int .i64 1)).set (p := ⟨w.heap.size, 1, none⟩) (Nat.le_refl _) (.int .i64 ln)
  clear CP ho T0 T1 T2
  go_wp2_with fail
  refine bodyPost_ret (v := .tuple #[.slice none 0 0, .agg #[.int .i64 1, .int .i64 ln], .int .i64 e]) (by simp [results, Tryz.results17, go_sem, d0, d1]) rfl ?_
  exact ⟨rfl, hg2⟩
theorem build_err (p : List eP) (mv : Value) (m : Option Mx) (l : List En) (pa a : Option Addr) (pc c : Nat) (w : World) (f : Int) (he : Env w) (hp : p.length ≤ 4611686018427387904) (hl : l.length ≤ 140737488355328) (hs : ∀ x ∈ l, uL x ∧ x.r.size ≤ 1099511627776 ∧ x.s.size ≤ 1099511627776)
    (hpt : aF w pa 2 (p.map cG)) (hm : sF0 w mv m) (hat : aF w a 5 (l.map aZ)) (hf : (oM p m l).1 = f) :
    Calls Tryz.prog 15 #[.slice pa p.length pc, mv, .slice a l.length c] w fun e w' => (∃ v, e = .returned (.tuple #[v, .int .i64 f])) ∧ aB w w' := by
  refine (jA0 p mv m l pa a pc c w he hp hl (fun x hx => (hs x hx).1) (fun x hx => (hs x hx).2) hpt hm hat).mono ?_
  rintro e w' ⟨hg, v, rfl, _⟩
  exact ⟨⟨v, by rw [hf]⟩, hg⟩
theorem enZero_ok : uL dY ∧ dY.r.size ≤ 1099511627776 ∧ dY.s.size ≤ 1099511627776 := ⟨⟨by decide, by decide, by decide, by decide, by decide⟩, by decide, by decide⟩
theorem noun_pos : pposS ⟨#[110, 111, 117, 110, 9, 99, 111, 110, 116, 101, 110, 116]⟩ = ([], 1, 5) := by kernel_rfl
theorem chap_read : bls (rK chapX) = [[227, 129, 139], [227, 129, 139, 227, 129, 141]] := by decide +kernel
theorem chap_surf : bls (iX chapX) = [[230, 159, 191], [231, 167, 145], [232, 154, 138]] := by decide +kernel
theorem chkB_long (p : List eP) (m : Mx) (n : Nat) (h1 : dQ p = true) (h2 : (m.n : Int) = p.length) (h3 : 20000 < n) : (oM p (some m) (List.replicate n dY)).1 = 2 := by
  have h : cS0 p (some m) (List.replicate n dY) = 2 := by
    unfold cS0
    rw [if_neg (by rw [h1]; decide)]
    simp only
    rw [if_pos h2, if_pos (by rw [List.length_replicate]; exact h3)]
  unfold oM
  rw [h, if_neg (by decide)]
set_option maxHeartbeats 16000000 in
set_option maxRecDepth 100000 in
theorem known18_any (w : World) (he : uA0 w) :
    Calls Tryz.prog 5 #[] w fun e w' => e = .returned (.bool true) ∧ aB w w' := by
  have HE := Lib.hid he
  have CW := fun u (hu : aB w u) => Lib.hid (works18_any u (HE.out.env.grows hu))
  have hsrc0 := sO0
  obtain ⟨F0, hF0⟩ := exq ((oM [] (pN0 tH) []).1)
  obtain ⟨F3, hF3⟩ := exq ((oM chapP (pN0 ⟨List.replicate 3 (⟨⟨#[]⟩, 0⟩ : eP), 10, [], []⟩) []).1)
  obtain ⟨F9, hF9⟩ := exq ((oM chapP none []).1)
  obtain ⟨F20001, hF20001⟩ := exq ((oM chapP (pN0 tH) (List.replicate 20001 dY)).1)
  obtain ⟨F1, hF1⟩ := exq ((oM chapP (pN0 tH) (List.replicate 1 dY)).1)
  have e0 : F0 = 5 := by rw [hF0]; decide +kernel
  have e3 : F3 = 5 := by rw [hF3]; decide +kernel
  have e9 : F9 = 9 := by rw [hF9]; decide +kernel
  have e20001 : F20001 = 2 := by rw [hF20001, sO0]; exact chkB_long chapP chapM 20001 (by decide +kernel) (by decide) (by decide)
  have e1 : ¬ F1 = 0 := by rw [hF1]; decide +kernel
  have HF0 : Hid ((oM [] (pN0 tH) []).1 = F0) := hF0.symm
  have HF3 : Hid ((oM chapP (pN0 ⟨List.replicate 3 (⟨⟨#[]⟩, 0⟩ : eP), 10, [], []⟩) []).1 = F3) := hF3.symm
  have HF9 : Hid ((oM chapP none []).1 = F9) := hF9.symm
  have HF20001 : Hid ((oM chapP (pN0 tH) (List.replicate 20001 dY)).1 = F20001) := hF20001.symm
  have HF1 : Hid ((oM chapP (pN0 tH) (List.replicate 1 dY)).1 = F1) := hF1.symm
  have HE0 := Lib.hid e0
  have HE3 := Lib.hid e3
  have HE9 := Lib.hid e9
  have HE20001 := Lib.hid e20001
  have HE1 := Lib.hid e1
  clear hF0 hF3 hF9 hF20001 hF1 e0 e3 e9 e20001 e1 hsrc0 he
  go_enter Tryz.func5, Tryz.ntmps5
  go_wp2_with fail
  refine (dV0 w).mono ?_
  rintro e w1 ⟨⟨pa, pc, sa, sc, ea, ec⟩, rfl, hsrc1, hg1⟩
  rw [show kY0.agg ⟨pa, pc, sa, sc, ea, ec⟩ tH = .agg #[.slice pa 2 pc, .int .i64 10, .slice sa 0 sc, .slice ea 3 ec] from rfl]
  go_wp2_with fail
  have T1 := TB.alloc w1 #[.slice pa 2 pc, .int .i64 10, .slice sa 0 sc, .slice ea 3 ec] 26
  have hgX := aB.alloc w1 (.cells #[.slice pa 2 pc, .int .i64 10, .slice sa 0 sc, .slice ea 3 ec] 26)
  obtain ⟨b1, hb1⟩ := exq w1.heap.size
  obtain ⟨X, hX⟩ := exq (w1.alloc (.cells #[.slice pa 2 pc, .int .i64 10, .slice sa 0 sc, .slice ea 3 ec] 26))
  rw [← hX] at T1 hgX ⊢
  rw [← hb1] at T1 ⊢
  have q0 := T1.cell (o := 0) rfl
  have q1 := T1.cell (o := 1) rfl
  have q2 := T1.cell (o := 2) rfl
  have q3 := T1.cell (o := 3) rfl
  have hgw := hg1.tr hgX
  have hsrc := hsrc1.grows hgX
  have CM := fun (u : World) (hu : aB X u) => Lib.hid (show Calls Tryz.prog 16 #[.agg #[.slice pa 2 pc, .int .i64 10, .slice sa 0 sc, .slice ea 3 ec]] u _ from iG0 tH ⟨pa, pc, sa, sc, ea, ec⟩ u kD0 (hsrc.grows hu))
  clear hX hb1 hg1 hgX hsrc1 T1
  refine (CM X (aB.refl X)).out.mono ?_
  rintro e w2 ⟨mv2, rfl, hmv2, hx2⟩
  have CB2 := Lib.hid (build_err [] mv2 (pN0 tH) [] none none 0 0 w2 F0 (HE.out.env.grows (hgw.tr hx2)) (by decide) (by decide) (fun y hy => by cases hy) (aF.nil _ _ _) hmv2 (aF.nil _ _ _) HF0.out)
  go_wp2_with fail
  refine CB2.out.mono ?_
  rintro e w3 ⟨⟨v3, rfl⟩, hg3⟩
  have hx3 := hx2.tr hg3
  have p0 := hx3.cell q0
  clear CB2 hmv2 hg3 hx2
  have hmk : ∀ Y : World, (Instr.makeSlice 22 (.int .i64 3) (.int .i64 3)).run Tryz.prog Y = .ok (.slice (some ⟨Y.heap.size, 0, none⟩) 3 3) (Y.alloc (.cells (madeCells #[.string ⟨#[]⟩, .int .i64 0] 6) 73)) := fun Y => mkPos 3 Y (by decide)
  go_wp2_with fail
  have z0 : ∀ x : Ext aB w3.drew, x.u.cell? ⟨b1, 0, none⟩ = some (.slice pa 2 pc) := aG ((aB.drew _).cell p0)
  refine bI [(0, false), (1, false), (2, true), (3, false), (4, true), (5, true), (6, false), (7, false), (8, false), (9, false), (10, false)] (by kernel_rfl) (fun d _ _ _ _ h => by cases d <;> exact h) ?_
  iterate 2 (refine aK rfl (fun K hK => ?_); go_simp; refine hK _ ?_; clear hK K)
  clear z0 p0
  refine bU rfl rfl (fun K hK => ?_)
  go_simp
  refine ⟨aB.alloc _ _, hK _ _ ?_⟩
  clear hK K hmk
  obtain ⟨W2, hW2⟩ := exq (w3.drew.alloc (.cells (madeCells #[.string ⟨#[]⟩, .int .i64 0] 6) 73))
  obtain ⟨nb, hnb⟩ := exq w3.drew.heap.size
  have hgz : aB w3.drew W2 := by rw [hW2]; exact aB.alloc _ _
  have hmp : aF W2 (some ⟨nb, 0, none⟩) 2 ((List.replicate 3 (⟨⟨#[]⟩, 0⟩ : eP)).map cG) := by rw [hW2, hnb]; exact made_pos _ 3
  have hEE : W2 = (w3.alloc (.cells (madeCells #[.string ⟨#[]⟩, .int .i64 0] 6) 73)).drew := hW2
  have hnb2 : nb = w3.heap.size := hnb
  try rw [← hEE]
  try rw [← hW2]
  try rw [← hnb2]
  have hx4 := (hx3.tr (aB.drew w3)).tr hgz
  clear hW2 hnb hEE hnb2 hgz hx3
  obtain ⟨LP, hLP⟩ := exq (List.replicate 3 (⟨⟨#[]⟩, 0⟩ : eP))
  have hLl : LP.length = 3 := by rw [hLP]; rfl
  have hLz : ∀ y ∈ LP, y.name.size ≤ maxLen := fun y hy => by rw [hLP] at hy; rw [List.eq_of_mem_replicate hy]; decide
  have HF3' : Hid ((oM chapP (pN0 ⟨LP, 10, [], []⟩) []).1 = F3) := by rw [hLP]; exact HF3
  rw [← hLP] at hmp
  clear hLP
  obtain ⟨SM, hSM⟩ := exq (pN0 ⟨LP, 10, [], []⟩)
  have CM3 := Lib.hid (iG0 ⟨LP, 10, [], []⟩ ⟨some ⟨nb, 0, none⟩, 3, none, 0, none, 0⟩ W2 ⟨hLz, fun y hy => by (cases hy), fun y hy => by (cases hy), (show (Lit.int .i64 10).wf = true by kernel_rfl), by simp only [hLl]; omega, by simp, by simp⟩ ⟨hmp, aF.nil _ _ _, aF.nil _ _ _⟩)
  rw [← hSM] at CM3 HF3'
  unfold kY0.agg kY0.cells at CM3
  simp only [hLl, List.length_nil] at CM3
  clear hSM
  iterate 1 (refine aK rfl (fun K hK => ?_); go_simp; refine hK _ ?_; clear hK K)
  refine bU rfl rfl (fun K hK => ?_)
  go_simp
  refine CM3.out.mono ?_
  rintro e w4 ⟨mv4, rfl, hmv4, hg4⟩
  refine ⟨hg4, hK _ _ ?_⟩
  clear hK K CM3
  have hx5 := hx4.tr hg4
  have CB4 := Lib.hid (show Calls Tryz.prog 15 #[.slice pa 2 pc, mv4, .slice none 0 0] w4 _ from build_err chapP mv4 SM [] pa none pc 0 w4 F3 (HE.out.env.grows (hgw.tr hx5)) (by decide) (by decide) (fun y hy => by cases hy) (hsrc.p.grows hx5) hmv4 (aF.nil _ _ _) HF3'.out)
  refine bU rfl rfl (fun K hK => ?_)
  go_simp
  refine CB4.out.mono ?_
  rintro e w5 ⟨⟨v5, rfl⟩, hg5⟩
  refine ⟨hg5, hK _ _ ?_⟩
  clear hK K CB4
  have hx6 := hx5.tr hg5
  clear hmp hmv4 hg4 hg5 hx4 hx5
  iterate 5 (refine aK rfl (fun K hK => ?_); go_simp; refine hK _ ?_; clear hK K)
  refine bT ?_
  have p0 := hx6.cell q0
  have CB5 := Lib.hid (show Calls Tryz.prog 15 #[.slice pa 2 pc, .pointer none, .slice none 0 0] w5 _ from build_err chapP (.pointer none) none [] pa none pc 0 w5 F9 (HE.out.env.grows (hgw.tr hx6)) (by decide) (by decide) (fun y hy => by cases hy) (hsrc.p.grows hx6) rfl (aF.nil _ _ _) HF9.out)
  go_wp2_with fail
  refine CB5.out.mono ?_
  rintro e w6 ⟨⟨v6, rfl⟩, hg6⟩
  have hx7' := hx6.tr hg6
  clear CB5 hg6 hx6 p0
  have CC6 := Lib.hid (compile_pos ⟨#[110, 111, 117, 110, 9, 99, 111, 110, 116, 101, 110, 116]⟩ ⟨#[]⟩ ⟨#[]⟩ w6 (HE.out.grows (hgw.tr hx7')) (by decide) 1 5 noun_pos (by decide))
  go_wp2_with fail
  refine CC6.out.mono ?_
  rintro e wc ⟨rfl, hgc⟩
  clear CC6
  go_wp2_with fail
  have T9 := TB.alloc wc #[.int .i64 1, .int .i64 1] 58
  have hx7 := (hx7'.tr hgc).tr (aB.alloc wc (.cells #[.int .i64 1, .int .i64 1] 58))
  obtain ⟨b9, hb9⟩ := exq wc.heap.size
  obtain ⟨w7, hw7⟩ := exq (wc.alloc (.cells #[.int .i64 1, .int .i64 1] 58))
  rw [← hw7] at T9 hx7 ⊢
  rw [← hb9] at T9 ⊢
  have r0 := T9.cell (o := 0) rfl
  have r1 := T9.cell (o := 1) rfl
  have HT9 := Lib.hid T9
  clear hw7 hb9 hgc hx7' T9 r0 r1
  have hmk20001 : ∀ Y : World, (Instr.makeSlice 24 (.int .i64 20001) (.int .i64 20001)).run Tryz.prog Y = .ok (.slice (some ⟨Y.heap.size, 0, none⟩) 20001 20001) (Y.alloc (.cells (madeCells #[.string ⟨#[]⟩, .string ⟨#[]⟩, .int .i64 0, .int .i64 0, .int .i64 0] 100005) 30)) := fun Y => mkEnt 20001 Y (by decide)
  have z0 : ∀ x : Ext aB w7.drew, x.u.cell? ⟨b1, 0, none⟩ = some (.slice pa 2 pc) := aG ((aB.drew _).cell (hx7.cell q0))
  have z1 : ∀ x : Ext aB w7.drew, x.u.cell? ⟨b1, 1, none⟩ = some (.int .i64 10) := aG ((aB.drew _).cell (hx7.cell q1))
  have z2 : ∀ x : Ext aB w7.drew, x.u.cell? ⟨b1, 2, none⟩ = some (.slice sa 0 sc) := aG ((aB.drew _).cell (hx7.cell q2))
  have z3 : ∀ x : Ext aB w7.drew, x.u.cell? ⟨b1, 3, none⟩ = some (.slice ea 3 ec) := aG ((aB.drew _).cell (hx7.cell q3))
  have gd0 : aB w w7.drew := (hgw.tr hx7).tr (aB.drew _)
  have hgs0 : aB X w7.drew := hx7.tr (aB.drew _)
  have gWd : aB w7 w7.drew := aB.drew _
  refine tY0 (aB) (.quiet 0 (.quiet 1 (.quiet 2 (.alt (.late 3 (.late 4 (.late 5 (.quiet 6 (.quiet 7 (.quiet 8 (.quiet 9 (.quiet 10 .done)))))))) (.late 4 (.late 3 (.late 5 (.quiet 6 (.quiet 7 (.quiet 8 (.quiet 9 (.quiet 10 .done)))))))))))) (fun (x0 : Value × Nat × Value) => [(some 49, .pointer (some ⟨b1, 0, none⟩)), (some 50, .slice pa 2 pc), (some 51, .agg #[.slice pa 2 pc, .int .i64 10, .slice sa 0 sc, .slice ea 3 ec]), (some 52, x0.1), (some 53, .slice (some ⟨x0.2.1, 0, none⟩) 20001 20001), (some 54, .tuple #[x0.2.2, .int .i64 F20001]), (some 48, .tuple #[x0.2.2, .int .i64 F20001]), (some 55, x0.2.2), (some 56, .int .i64 F20001), (some 11, x0.2.2), (some 12, .int .i64 F20001)]) (fun (x0 : Value × Nat × Value) w' => aB w7 w') aB.refl aB.trans (by kernel_rfl) (by kernel_rfl) (fun d _ _ _ _ h => by cases d <;> exact h) ?_ ?_
  · iterate 3 (refine lQ rfl (fun K hK => ?_); go_simp; refine hK _ ?_; clear hK K)
    generalize hWd : w7.drew = Wd at *
    clear z0 z1 z2 z3
    refine wA0 ?_ ?_
    · refine iH rfl rfl (fun K hK => ?_)
      go_simp
      refine (CM _ (hgs0)).out.mono ?_
      rintro e wm ⟨mv, rfl, hmv, hgm⟩
      refine ⟨hgm, hK _ _ ?_⟩
      clear hK K
      refine iH rfl rfl (fun K hK => ?_)
      go_simp
      obtain ⟨wz, hWz⟩ := exq (wm.alloc (.cells (madeCells #[.string ⟨#[]⟩, .string ⟨#[]⟩, .int .i64 0, .int .i64 0, .int .i64 0] 100005) 30))
      obtain ⟨zb, hzb⟩ := exq wm.heap.size
      have hgz : aB wm wz := by rw [hWz]; exact aB.alloc _ _
      have hzat : aF wz (some ⟨zb, 0, none⟩) 5 ((List.replicate 20001 dY).map aZ) := by rw [hWz, hzb]; exact made_ent _ 20001
      rw [← hWz, ← hzb]
      clear hWz hzb
      refine ⟨hgz, hK _ _ ?_⟩
      clear hK K
      have CB6 := Lib.hid (build_err chapP mv (pN0 tH) (List.replicate 20001 dY) pa (some ⟨zb, 0, none⟩) pc 20001 wz F20001 (HE.out.env.grows ((gd0.tr hgm).tr hgz)) (by decide) (by simp) (fun y hy => by rw [List.eq_of_mem_replicate hy]; exact enZero_ok) (hsrc.p.grows (((hgs0.tr hgm).tr hgz))) (hmv.grows hgz) (hzat) HF20001.out)
      simp only [List.length_replicate] at CB6
      refine iH rfl rfl (fun K hK => ?_)
      go_simp
      refine CB6.out.mono ?_
      rintro e w9 ⟨⟨rv, rfl⟩, hg9⟩
      refine ⟨hg9, hK _ _ ?_⟩
      clear hK K CB6
      iterate 5 (refine lQ rfl (fun K hK => ?_); go_simp; refine hK _ ?_; clear hK K)
      refine nQ0 ?_
      exact ⟨(mv, zb, rv), ((gWd.tr hgm).tr hgz).tr hg9, by simp only [pX0, List.foldl]; go_simp⟩
    · refine iH rfl rfl (fun K hK => ?_)
      go_simp
      obtain ⟨wz, hWz⟩ := exq (Wd.alloc (.cells (madeCells #[.string ⟨#[]⟩, .string ⟨#[]⟩, .int .i64 0, .int .i64 0, .int .i64 0] 100005) 30))
      obtain ⟨zb, hzb⟩ := exq Wd.heap.size
      have hgz : aB Wd wz := by rw [hWz]; exact aB.alloc _ _
      have hzat : aF wz (some ⟨zb, 0, none⟩) 5 ((List.replicate 20001 dY).map aZ) := by rw [hWz, hzb]; exact made_ent _ 20001
      rw [← hWz, ← hzb]
      clear hWz hzb
      refine ⟨hgz, hK _ _ ?_⟩
      clear hK K
      refine iH rfl rfl (fun K hK => ?_)
      go_simp
      refine (CM _ (hgs0.tr hgz)).out.mono ?_
      rintro e wm ⟨mv, rfl, hmv, hgm⟩
      refine ⟨hgm, hK _ _ ?_⟩
      clear hK K
      have CB6 := Lib.hid (build_err chapP mv (pN0 tH) (List.replicate 20001 dY) pa (some ⟨zb, 0, none⟩) pc 20001 wm F20001 (HE.out.env.grows ((gd0.tr hgz).tr hgm)) (by decide) (by simp) (fun y hy => by rw [List.eq_of_mem_replicate hy]; exact enZero_ok) (hsrc.p.grows (((hgs0.tr hgz).tr hgm))) (hmv) (hzat.grows hgm) HF20001.out)
      simp only [List.length_replicate] at CB6
      refine iH rfl rfl (fun K hK => ?_)
      go_simp
      refine CB6.out.mono ?_
      rintro e w9 ⟨⟨rv, rfl⟩, hg9⟩
      refine ⟨hg9, hK _ _ ?_⟩
      clear hK K CB6
      iterate 5 (refine lQ rfl (fun K hK => ?_); go_simp; refine hK _ ?_; clear hK K)
      refine nQ0 ?_
      exact ⟨(mv, zb, rv), ((gWd.tr hgz).tr hgm).tr hg9, by simp only [pX0, List.foldl]; go_simp⟩
  · rintro ⟨mv, zb, rv⟩ w8 hgn
    have hx8 : aB X w8 := hx7.tr hgn
    clear z0 z1 z2 z3 gd0 hgs0 gWd
    have h78 := Lib.hid hgn
    clear hgn hmk20001
    simp only [pX0, List.foldl]
    go_simp
    have hmk1 : ∀ Y : World, (Instr.makeSlice 24 (.int .i64 1) (.int .i64 1)).run Tryz.prog Y = .ok (.slice (some ⟨Y.heap.size, 0, none⟩) 1 1) (Y.alloc (.cells (madeCells #[.string ⟨#[]⟩, .string ⟨#[]⟩, .int .i64 0, .int .i64 0, .int .i64 0] 5) 30)) := fun Y => mkEnt 1 Y (by decide)
    go_wp2_with fail
    have z0 : ∀ x : Ext aB w8.drew, x.u.cell? ⟨b1, 0, none⟩ = some (.slice pa 2 pc) := aG ((aB.drew _).cell (hx8.cell q0))
    have z1 : ∀ x : Ext aB w8.drew, x.u.cell? ⟨b1, 1, none⟩ = some (.int .i64 10) := aG ((aB.drew _).cell (hx8.cell q1))
    have z2 : ∀ x : Ext aB w8.drew, x.u.cell? ⟨b1, 2, none⟩ = some (.slice sa 0 sc) := aG ((aB.drew _).cell (hx8.cell q2))
    have z3 : ∀ x : Ext aB w8.drew, x.u.cell? ⟨b1, 3, none⟩ = some (.slice ea 3 ec) := aG ((aB.drew _).cell (hx8.cell q3))
    have gd0 : aB w w8.drew := (hgw.tr hx8).tr (aB.drew _)
    have hgs0 : aB X w8.drew := hx8.tr (aB.drew _)
    have gWd : aB w8 w8.drew := aB.drew _
    refine tY0 (aB) (.quiet 0 (.quiet 1 (.quiet 2 (.alt (.late 3 (.late 4 (.late 5 (.quiet 6 (.quiet 7 (.quiet 8 (.quiet 9 (.quiet 10 .done)))))))) (.late 4 (.late 3 (.late 5 (.quiet 6 (.quiet 7 (.quiet 8 (.quiet 9 (.quiet 10 .done)))))))))))) (fun (x0 : Value × Nat × Value) => [(some 58, .pointer (some ⟨b1, 0, none⟩)), (some 59, .slice pa 2 pc), (some 60, .agg #[.slice pa 2 pc, .int .i64 10, .slice sa 0 sc, .slice ea 3 ec]), (some 61, x0.1), (some 62, .slice (some ⟨x0.2.1, 0, none⟩) 1 1), (some 63, .tuple #[x0.2.2, .int .i64 F1]), (some 57, .tuple #[x0.2.2, .int .i64 F1]), (some 64, x0.2.2), (some 65, .int .i64 F1), (some 13, x0.2.2), (some 14, .int .i64 F1)]) (fun (x0 : Value × Nat × Value) w' => aB w8 w') aB.refl aB.trans (by kernel_rfl) (by kernel_rfl) (fun d _ _ _ _ h => by cases d <;> exact h) ?_ ?_
    · iterate 3 (refine lQ rfl (fun K hK => ?_); go_simp; refine hK _ ?_; clear hK K)
      generalize hWd : w8.drew = Wd at *
      clear z0 z1 z2 z3
      refine wA0 ?_ ?_
      · refine iH rfl rfl (fun K hK => ?_)
        go_simp
        refine (CM _ (hgs0)).out.mono ?_
        rintro e wm ⟨mv, rfl, hmv, hgm⟩
        refine ⟨hgm, hK _ _ ?_⟩
        clear hK K
        refine iH rfl rfl (fun K hK => ?_)
        go_simp
        obtain ⟨wz, hWz⟩ := exq (wm.alloc (.cells (madeCells #[.string ⟨#[]⟩, .string ⟨#[]⟩, .int .i64 0, .int .i64 0, .int .i64 0] 5) 30))
        obtain ⟨zb, hzb⟩ := exq wm.heap.size
        have hgz : aB wm wz := by rw [hWz]; exact aB.alloc _ _
        have hzat : aF wz (some ⟨zb, 0, none⟩) 5 ((List.replicate 1 dY).map aZ) := by rw [hWz, hzb]; exact made_ent _ 1
        rw [← hWz, ← hzb]
        clear hWz hzb
        refine ⟨hgz, hK _ _ ?_⟩
        clear hK K
        have CB6 := Lib.hid (build_err chapP mv (pN0 tH) (List.replicate 1 dY) pa (some ⟨zb, 0, none⟩) pc 1 wz F1 (HE.out.env.grows ((gd0.tr hgm).tr hgz)) (by decide) (by simp) (fun y hy => by rw [List.eq_of_mem_replicate hy]; exact enZero_ok) (hsrc.p.grows (((hgs0.tr hgm).tr hgz))) (hmv.grows hgz) (hzat) HF1.out)
        simp only [List.length_replicate] at CB6
        refine iH rfl rfl (fun K hK => ?_)
        go_simp
        refine CB6.out.mono ?_
        rintro e w9 ⟨⟨rv, rfl⟩, hg9⟩
        refine ⟨hg9, hK _ _ ?_⟩
        clear hK K CB6
        iterate 5 (refine lQ rfl (fun K hK => ?_); go_simp; refine hK _ ?_; clear hK K)
        refine nQ0 ?_
        exact ⟨(mv, zb, rv), ((gWd.tr hgm).tr hgz).tr hg9, by simp only [pX0, List.foldl]; go_simp⟩
      · refine iH rfl rfl (fun K hK => ?_)
        go_simp
        obtain ⟨wz, hWz⟩ := exq (Wd.alloc (.cells (madeCells #[.string ⟨#[]⟩, .string ⟨#[]⟩, .int .i64 0, .int .i64 0, .int .i64 0] 5) 30))
        obtain ⟨zb, hzb⟩ := exq Wd.heap.size
        have hgz : aB Wd wz := by rw [hWz]; exact aB.alloc _ _
        have hzat : aF wz (some ⟨zb, 0, none⟩) 5 ((List.replicate 1 dY).map aZ) := by rw [hWz, hzb]; exact made_ent _ 1
        rw [← hWz, ← hzb]
        clear hWz hzb
        refine ⟨hgz, hK _ _ ?_⟩
        clear hK K
        refine iH rfl rfl (fun K hK => ?_)
        go_simp
        refine (CM _ (hgs0.tr hgz)).out.mono ?_
        rintro e wm ⟨mv, rfl, hmv, hgm⟩
        refine ⟨hgm, hK _ _ ?_⟩
        clear hK K
        have CB6 := Lib.hid (build_err chapP mv (pN0 tH) (List.replicate 1 dY) pa (some ⟨zb, 0, none⟩) pc 1 wm F1 (HE.out.env.grows ((gd0.tr hgz).tr hgm)) (by decide) (by simp) (fun y hy => by rw [List.eq_of_mem_replicate hy]; exact enZero_ok) (hsrc.p.grows (((hgs0.tr hgz).tr hgm))) (hmv) (hzat.grows hgm) HF1.out)
        simp only [List.length_replicate] at CB6
        refine iH rfl rfl (fun K hK => ?_)
        go_simp
        refine CB6.out.mono ?_
        rintro e w9 ⟨⟨rv, rfl⟩, hg9⟩
        refine ⟨hg9, hK _ _ ?_⟩
        clear hK K CB6
        iterate 5 (refine lQ rfl (fun K hK => ?_); go_simp; refine hK _ ?_; clear hK K)
        refine nQ0 ?_
        exact ⟨(mv, zb, rv), ((gWd.tr hgz).tr hgm).tr hg9, by simp only [pX0, List.foldl]; go_simp⟩
    · rintro ⟨mv, zb, rv⟩ w10 hgn
      have hx10 : aB X w10 := hx8.tr hgn
      clear z0 z1 z2 z3 gd0 hgs0 gWd
      have h710 := Lib.hid (h78.out.tr hgn)
      clear hgn hmk1 h78
      simp only [pX0, List.foldl]
      go_simp
      have CI8 := Lib.hid (show Calls Tryz.prog 18 #[.agg #[.slice pa 2 pc, .int .i64 10, .slice sa 0 sc, .slice ea 3 ec]] w10 _ from mF0 tH ⟨pa, pc, sa, sc, ea, ec⟩ w10 (HE.out.env.grows (hgw.tr hx10)) kD0 (by decide) (hsrc.grows hx10))
      unfold cF at CI8
      rw [show oM tH.p (pN0 tH) tH.e = (0, fR (imgP chapP chapM chapX)) by rw [sO0]; exact jM0] at CI8
      have h14 := lY0
      have HNE := Lib.hid (fun (j k : Nat) (a b : aX) => xZ0 (p := chapP) (m := chapM) (es := chapX) (j := j) (k := k) (a := a) (b := b))
      have HP2 : Hid (∃ p, (imgP chapP chapM chapX)[2]? = some p ∧ p.name = ⟨#[114, 101, 97, 100, 105, 110, 103, 115]⟩ ∧ p.data = iT (bls (rK chapX))) := ⟨_, rfl, rfl, rfl⟩
      have HP4 : Hid (∃ p, (imgP chapP chapM chapX)[4]? = some p ∧ p.name = ⟨#[115, 117, 114, 102, 97, 99, 101, 115]⟩ ∧ p.data = iT (bls (iX chapX))) := ⟨_, rfl, rfl, rfl⟩
      rw [chap_read] at HP2
      rw [chap_surf] at HP4
      have hPl : (imgP chapP chapM chapX).length = 11 := rfl
      generalize imgP chapP chapM chapX = P at *
      have HPL := Lib.hid hPl
      clear hPl
      obtain ⟨FL, hFL⟩ := exq ((fR P).length)
      have CS := fun (ba : Option Addr) (bc : Nat) (W : World) (hW : aB w W) h1 h2 h3 h4 => Lib.hid (fG0 P ba bc W (HE.out.env.grows hW) h14 h1 h2 h3 h4)
      have p0 := hx10.cell q0
      have p1 := hx10.cell q1
      have p2 := hx10.cell q2
      have p3 := hx10.cell q3
      clear h14 q0 q1 q2 q3
      go_wp2_with fail
      refine CI8.out.mono ?_
      rintro e w11 ⟨hg11, v11, rfl, hv11⟩
      try simp only at hv11
      have hx11 := hx10.tr hg11
      have hg11' := hg11
      obtain ⟨a2, c2, rfl, h2c, h2m, hat2⟩ := hv11.at_ bE.len
      have hn2 := bJ hv11
      have CS2 := CS a2 c2 w11 (hgw.tr hx11) h2c h2m hn2 hat2
      rw [← hFL] at CS2 ⊢
      clear CI8 CS hv11 hat2 hn2 h2c hFL p0 p1 p2 p3 hx10 hg11
      go_wp2_with fail
      refine CS2.out.mono ?_
      rintro e w12 ⟨hg12, Q, qa, qc, rfl, hbr, hqat, hqp⟩
      have hx12 := hx11.tr hg12
      have hg12' := hg12
      have hQl : Q.length = 11 := by
        have := congrArg List.length hbr
        rw [List.length_map, List.length_map, HPL.out] at this
        exact this
      have CN : ∀ (k : Nat) (nm : ByteArray) (l : List (List UInt8)) (W : World), aB w12 W → (∃ p, P[k]? = some p ∧ p.name = nm ∧ p.data = iT l) → fQ l = 0 →
          Hid (Calls Tryz.prog 20 #[.slice qa 11 qc, .string nm] W fun e w' => ∃ v, e = .returned v ∧ aT w' W.heap.size 9 1 stC v (l.map mkB) ∧ aB W w') := fun k nm l W hW ⟨p, hp, hnm, hd⟩ hl => by
        obtain ⟨q, hq, e1, e2⟩ := gB0 hbr hp
        have h := lstrings_any Q k q l qa qc W (by omega) (hqat.grows hW) (hqp.grows hW) hq (fun j p' hj hp' => by
          have h1 : ∃ p2, P[j]? = some p2 := ⟨_, List.getElem?_eq_getElem (by have := (List.getElem?_eq_some_iff.1 hp).1; omega)⟩
          obtain ⟨p2, hp2⟩ := h1
          obtain ⟨q2, hq2, e3, _⟩ := gB0 hbr hp2
          rw [hp'] at hq2
          rw [Option.some.inj hq2, e3, e1]
          exact HNE.out j k p2 p hp2 hp hj) (by rw [e2, hd]) hl
        rw [hQl, e1, hnm] at h
        exact h
      rw [hQl]
      have CR := CN 2 ⟨#[114, 101, 97, 100, 105, 110, 103, 115]⟩ _ w12 (aB.refl _) HP2.out (by decide +kernel)
      have CF := fun (u : World) (hu : aB w12 u) => CN 4 ⟨#[115, 117, 114, 102, 97, 99, 101, 115]⟩ _ u hu HP4.out (by decide +kernel)
      clear CS2 hg12 hbr hqat hqp hQl CN HNE HPL HP2 HP4 hx11
      go_wp2_with fail
      refine CR.out.mono ?_
      rintro e w13 ⟨v13, rfl, hv13, hg13⟩
      have CF13 := CF w13 hg13
      clear CR CF
      go_wp2_with fail
      refine CF13.out.mono ?_
      rintro e w14 ⟨v14, rfl, hv14, hg14⟩
      obtain ⟨a3, c3, rfl, _, _, hat3⟩ := hv13.at_ xO0.len
      obtain ⟨a4, c4, rfl, _, _, hat4⟩ := hv14.at_ xO0.len
      have hat3 := hat3.grows hg14
      obtain ⟨b3, o3, rfl, hc3⟩ := hat3.get (by simp)
      obtain ⟨b4, o4, rfl, hc4⟩ := hat4.get (by simp)
      have s0 : w14.cell? ⟨b3, o3, none⟩ = some (.string ⟨#[227, 129, 139]⟩) := hc3 0 _ rfl 0 _ rfl
      have s1 : w14.cell? ⟨b3, o3 + 1, none⟩ = some (.string ⟨#[227, 129, 139, 227, 129, 141]⟩) := hc3 1 _ rfl 0 _ rfl
      have t0 : w14.cell? ⟨b4, o4, none⟩ = some (.string ⟨#[230, 159, 191]⟩) := hc4 0 _ rfl 0 _ rfl
      have t1 : w14.cell? ⟨b4, o4 + 1, none⟩ = some (.string ⟨#[231, 167, 145]⟩) := hc4 1 _ rfl 0 _ rfl
      have t2 : w14.cell? ⟨b4, o4 + 2, none⟩ = some (.string ⟨#[232, 154, 138]⟩) := hc4 2 _ rfl 0 _ rfl
      have hx14 := (hx12.tr hg13).tr hg14
      have hg79 := Lib.hid ((((h710.out.tr hg11').tr hg12').tr hg13).tr hg14)
      have r0 := hg79.out.cell (HT9.out.cell (o := 0) rfl)
      have r1 := hg79.out.cell (HT9.out.cell (o := 1) rfl)
      have CW14 := CW w14 (hgw.tr hx14)
      have e0 := HE0.out
      have e3 := HE3.out
      have e9 := HE9.out
      have e20001 := HE20001.out
      have e1 : (F1 != 0) = true := by have := HE1.out; simpa using this
      subst e0 e3 e9 e20001
      clear hv13 hv14 hat3 hat4 hc3 hc4 CF13
      go_wp2_with fail
      refine CW14.out.mono ?_
      rintro e w15 ⟨rfl, hg15⟩
      go_wp2_with fail
      go_ret
      exact ⟨rfl, (hgw.tr hx14).tr hg15⟩
end Go.Proofs.YthgklnohcmaopaaGreatDoor
