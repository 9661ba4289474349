import Derived.Test.YthgklnohcmaopaaGreatDoorTq41
import Derived.OwnWalkIn
namespace Go.Proofs.YthgklnohcmaopaaGreatDoor
open Go Go.RowKit Go.Shelf
attribute [local go_sem] aK aP Oper.semAt_some

theorem posLay2 : fZ Tryz.prog 22 73 2 24 bH where
  sl := Tryz.underlying22
  info := iL (z := .agg #[.string ⟨#[]⟩, .int .i64 0]) (by kernel_rfl) rfl
  pos := by decide
  by1 := by decide
  len _ := rfl
  one x u hu := by
    simp only [bH, List.mem_cons, List.not_mem_nil, or_false] at hu
    rcases hu with rfl | rfl <;> rfl
theorem pcut_any (s : ByteArray) (w : World) (hs : s.size < 4294967281) (he : Env w) :
    Calls Tryz.prog 135 #[.string s, .string ⟨#[9]⟩] w fun e w' => (∃ b, e = .returned (.tuple #[.string (mkB (Lib.cut s.data.toList [9]).1), .string (mkB (Lib.cut s.data.toList [9]).2.1), .bool b])) ∧ aB w w' := by
  obtain ⟨m, hm⟩ := he.mx
  have h : Calls Tryz.prog 135 #[.string s, .string ⟨#[9]⟩] w _ := Any.strings_Cut Tryz.laysCut s ⟨#[9]⟩ m w hs hm
  refine h.mono fun e w' ⟨h1, n, h2⟩ => ⟨⟨_, h1⟩, ?_⟩
  rw [h2]
  exact (Below.refl _ w).trans ⟨rfl, rfl, rfl, Nat.le_refl _, fun _ _ => rfl⟩
def PposPost (res : List bD × Int × Int) (w : World) (e : Ending) (w' : World) : Prop :=
  ∃ v, e = .returned (.tuple #[v, .int .i64 res.2.1, .int .i64 res.2.2]) ∧ aU w' w.heap.size 73 2 bH v res.1 ∧ aB w w'
/-- What the rounds of Parse keep. -/
structure PpsJ (w : World) (B : Nat) (out : List bD) (v : Value) (W : World) : Prop where
  r0 : TB W B #[.slice none 0 0] 22
  r1 : TB W (B + 1) #[.int .i64 0] 3
  r2 : TB W (B + 1 + 1) #[.int .i64 0] 32
  bl : TB W (B + 1 + 1 + 1) #[v] 22
  own : aU W w.heap.size 73 2 bH v out
  gr : aB w W
  s0 : B = w.heap.size
  sz : B + 5 ≤ W.heap.size
theorem PpsJ.other {w W W' : World} {B : Nat} {out : List bD} {v : Value} (h : PpsJ w B out v W) {row : Option Nat} (hg : W.grownBy W' row) (hr : RT W row none) (hs : ∀ q, row = some q → B ≤ q) : PpsJ w B out v W' :=
  ⟨h.r0.keep hg hr (by simp), h.r1.keep hg hr (by simp), h.r2.keep hg hr (by simp), h.bl.keep hg hr (by simp), aJ h.own hg hr (by simp), h.gr.grown hg (fun q hq => by rw [← h.s0]; exact hs q hq), h.s0, Nat.le_trans h.sz hg.size⟩
theorem PpsJ.grows {w W W' : World} {B : Nat} {out : List bD} {v : Value} (h : PpsJ w B out v W) (hg : aB W W') : PpsJ w B out v W' :=
  ⟨h.r0.gr hg, h.r1.gr hg, h.r2.gr hg, h.bl.gr hg, h.own.grows hg, h.gr.tr hg, h.s0, Nat.le_trans h.sz hg.size⟩
/-- A line with an error. -/
def PpsX (w : World) (B : Nat) (pre : List (Nat × ByteArray)) (W : World) : Prop :=
  ∃ pre' x out e, pre = pre' ++ [x] ∧ okP pre' [] = some out ∧ mT out (uJ0 x.2) = e ∧ e ≠ 0 ∧ TB W B #[.slice none 0 0] 22 ∧ TB W (B + 1) #[.int .i64 (x.1 : Nat)] 3 ∧ TB W (B + 1 + 1) #[.int .i64 e] 32 ∧ aB w W ∧ B = w.heap.size
theorem kfg {W W' : World} (B : Nat) (h : aB W W') : KeepsFrom B W W' := ⟨h.size, fun k _o _ hk _ => (Below.block h k (Array.getElem?_eq_some_iff.1 hk).1).trans hk⟩
theorem PpsJ.sets {w W : World} {B : Nat} {out : List bD} {v : Value} (h : PpsJ w B out v W) (v0 v1 v2 : Value) :
    (TB (((W.setCell ⟨B, 0, none⟩ v0).setCell ⟨B + 1, 0, none⟩ v1).setCell ⟨B + 1 + 1, 0, none⟩ v2) B #[v0] 22 ∧ TB (((W.setCell ⟨B, 0, none⟩ v0).setCell ⟨B + 1, 0, none⟩ v1).setCell ⟨B + 1 + 1, 0, none⟩ v2) (B + 1) #[v1] 3 ∧
      TB (((W.setCell ⟨B, 0, none⟩ v0).setCell ⟨B + 1, 0, none⟩ v1).setCell ⟨B + 1 + 1, 0, none⟩ v2) (B + 1 + 1) #[v2] 32) ∧
    aU (((W.setCell ⟨B, 0, none⟩ v0).setCell ⟨B + 1, 0, none⟩ v1).setCell ⟨B + 1 + 1, 0, none⟩ v2) w.heap.size 73 2 bH v out ∧
    aB w (((W.setCell ⟨B, 0, none⟩ v0).setCell ⟨B + 1, 0, none⟩ v1).setCell ⟨B + 1 + 1, 0, none⟩ v2) ∧ KeepsOthers W (((W.setCell ⟨B, 0, none⟩ v0).setCell ⟨B + 1, 0, none⟩ v1).setCell ⟨B + 1 + 1, 0, none⟩ v2) := by
  have hs := h.s0
  have a1 := h.r0.set 0 v0
  have b1 := h.r1.keepN (bG W B 0 v0) (by simp)
  have c1 := h.r2.keepN (bG W B 0 v0) (by simp; omega)
  have o1 := aJ h.own (bG W B 0 v0) h.r0.rt (by decide)
  have g1 := h.gr.set (p := ⟨B, 0, none⟩) (Nat.le_of_eq hs.symm) v0
  have k1 := (KeepsOthers.setCell W ⟨B, 0, none⟩ v0)
  generalize W.setCell ⟨B, 0, none⟩ v0 = W1 at *
  have a2 := a1.keepN (bG W1 (B + 1) 0 v1) (by simp)
  have b2 := b1.set 0 v1
  have c2 := c1.keepN (bG W1 (B + 1) 0 v1) (by simp)
  have o2 := aJ o1 (bG W1 (B + 1) 0 v1) b1.rt (by decide)
  have g2 := g1.set (p := ⟨B + 1, 0, none⟩) (show w.heap.size ≤ B + 1 by omega) v1
  have k2 := k1.trans (KeepsOthers.setCell W1 ⟨B + 1, 0, none⟩ v1)
  generalize W1.setCell ⟨B + 1, 0, none⟩ v1 = W2 at *
  have a3 := a2.keepN (bG W2 (B + 1 + 1) 0 v2) (by simp; omega)
  have b3 := b2.keepN (bG W2 (B + 1 + 1) 0 v2) (by simp)
  have c3 := c2.set 0 v2
  have o3 := aJ o2 (bG W2 (B + 1 + 1) 0 v2) c2.rt (by decide)
  have g3 := g2.set (p := ⟨B + 1 + 1, 0, none⟩) (show w.heap.size ≤ B + 1 + 1 by omega) v2
  exact ⟨⟨a3, b3, c3⟩, o3, g3, k2.trans (KeepsOthers.setCell W2 ⟨B + 1 + 1, 0, none⟩ v2)⟩
theorem PpsJ.bad {w W : World} {B : Nat} {out : List bD} {v : Value} {pre : List (Nat × ByteArray)} {x : Nat × ByteArray} {e : Int} (h : PpsJ w B out v W) (ho : okP pre [] = some out) (he : mT out (uJ0 x.2) = e) (h0 : e ≠ 0) :
    PpsX w B (pre ++ [x]) (((W.setCell ⟨B, 0, none⟩ (.slice none 0 0)).setCell ⟨B + 1, 0, none⟩ (.int .i64 (x.1 : Nat))).setCell ⟨B + 1 + 1, 0, none⟩ (.int .i64 e)) ∧
      KeepsOthers W (((W.setCell ⟨B, 0, none⟩ (.slice none 0 0)).setCell ⟨B + 1, 0, none⟩ (.int .i64 (x.1 : Nat))).setCell ⟨B + 1 + 1, 0, none⟩ (.int .i64 e)) := by
  obtain ⟨⟨a3, b3, c3⟩, _, g3, k3⟩ := h.sets (.slice none 0 0) (.int .i64 (x.1 : Nat)) (.int .i64 e)
  exact ⟨⟨pre, x, out, e, rfl, ho, he, h0, a3, b3, c3, g3, h.s0⟩, k3⟩
set_option maxHeartbeats 8000000 in
set_option maxRecDepth 100000 in
theorem pparse_any (s : ByteArray) (w : World) (he : uF0 w) (hs : s.size < 9223372036854775807) :
    Calls Tryz.prog 73 #[.string s] w (PposPost (cX1 s) w) := by
  by_cases hbig : 1048576 < s.size
  · have hp : cX1 s = ([], 0, 2) := by unfold cX1; rw [if_pos hbig]
    have hb : (1048576 : Int) < s.size := by omega
    have HP : ∀ u, aB w u → PposPost (cX1 s) w (.returned (.tuple #[.slice none 0 0, .int .i64 0, .int .i64 2])) u := fun u hu => ⟨_, by rw [hp], by rw [hp]; exact aU.nil _ _ _ _ _, hu⟩
    have HPP := Lib.hid HP
    clear hp HP
    go_enter Tryz.func73, Tryz.ntmps73
    go_wp2_with fail
    refine bodyPost_ret (v := .tuple #[.slice none 0 0, .int .i64 0, .int .i64 2]) (by simp [results, Tryz.results73, go_sem]) rfl ?_
    exact HPP.out _ (((aB.alloc _ _).al _).al _)
  · have hp : cX1 s = yD (fQ (splitS 10 s) 0) [] := by unfold cX1; rw [if_neg hbig]
    have hb : ¬ (1048576 : Int) < s.size := by omega
    rw [hp]
    clear hp
    have HE := Lib.hid he
    clear he
    refine (callsIn_wide (n := 8)).1 (callsIn_of_wp_marks Tryz.func73 rfl trivial ?_)
    simp only [Tryz.ntmps73, List.size_toArray, List.length_cons, List.length_nil, Nat.reduceAdd, Nat.reduceSub, Array.replicate_succ, Array.replicate_zero, List.push_toArray, List.append_toArray, List.nil_append, List.cons_append]
    gi_wp2
    refine ⟨trivial, ((callsIn_wide (n := 7)).2 (lines_any s _)).mono ?_⟩
    rintro e w1 ⟨rfl, rfl⟩
    simp only [World.size_alloc]
    gi_wp2
    obtain ⟨B, hB⟩ := exq w.heap.size
    have J0 : PpsJ w B [] (.slice none 0 0) (((((w.alloc (.cells #[.slice none 0 0] 22)).alloc (.cells #[.int .i64 0] 3)).alloc (.cells #[.int .i64 0] 32)).alloc (.cells #[.slice none 0 0] 22)).alloc (.cells #[.string s] 9)) := by
      refine ⟨?_, ?_, ?_, ?_, aU.nil _ _ _ _ _, ((((aB.alloc _ _).al _).al _).al _).al _, hB, by simp; omega⟩
      · have := TB.alloc w #[.slice none 0 0] 22
        rw [← hB] at this
        exact (((this.al _).al _).al _).al _
      · have := TB.alloc (w.alloc (.cells #[.slice none 0 0] 22)) #[.int .i64 0] 3
        rw [World.size_alloc, ← hB] at this
        exact ((this.al _).al _).al _
      · have := TB.alloc ((w.alloc (.cells #[.slice none 0 0] 22)).alloc (.cells #[.int .i64 0] 3)) #[.int .i64 0] 32
        rw [World.size_alloc, World.size_alloc, ← hB] at this
        exact (this.al _).al _
      · have := TB.alloc (((w.alloc (.cells #[.slice none 0 0] 22)).alloc (.cells #[.int .i64 0] 3)).alloc (.cells #[.int .i64 0] 32)) #[.slice none 0 0] 22
        rw [World.size_alloc, World.size_alloc, World.size_alloc, ← hB] at this
        exact this.al _
    have TS : TB (((((w.alloc (.cells #[.slice none 0 0] 22)).alloc (.cells #[.int .i64 0] 3)).alloc (.cells #[.int .i64 0] 32)).alloc (.cells #[.slice none 0 0] 22)).alloc (.cells #[.string s] 9)) (B + 1 + 1 + 1 + 1) #[.string s] 9 := by
      have := TB.alloc ((((w.alloc (.cells #[.slice none 0 0] 22)).alloc (.cells #[.int .i64 0] 3)).alloc (.cells #[.int .i64 0] 32)).alloc (.cells #[.slice none 0 0] 22)) #[.string s] 9
      rw [World.size_alloc, World.size_alloc, World.size_alloc, World.size_alloc, ← hB] at this
      exact this
    rw [← hB]
    generalize (((((w.alloc (.cells #[.slice none 0 0] 22)).alloc (.cells #[.int .i64 0] 3)).alloc (.cells #[.int .i64 0] 32)).alloc (.cells #[.slice none 0 0] 22)).alloc (.cells #[.string s] 9)) = W0 at J0 TS ⊢
    have HBB := Lib.hid hB
    clear hB
    have KS := lines_stops 7 s (B + 1 + 1 + 1 + 1) W0 (by decide) (by omega) (HE.out.toEnv.grows J0.gr) TS
    have hBW : w.heap.size ≤ W0.heap.size := J0.gr.size
    have hlines : (fQ (splitS 10 s) 0).length ≤ 1048577 := by
      have h1 : (splitS 10 s).length = Lib.countB s ⟨#[10]⟩ + 1 := Lib.splitB_all ⟨#[10]⟩ (Nat.le_refl 1) 0 _ s rfl
      have h2 := Lib.countB_le ⟨#[10]⟩ (Nat.le_refl 1) s.size s (Nat.le_refl _)
      have h3 := lH0 (splitS 10 s) 0
      omega
    clear hbig hb
    refine wpIn_rangeFunc_ownH (F := Fence.wide) (n := 8) (α := bP1) rfl (by decide) (gf := 196) (lb := #[.pointer (some ⟨B + 1 + 1 + 1 + 1, 0, none⟩)]) rfl trivial (enters_of Tryz.func196 (by kernel_rfl) rfl) KS
      (fun h k => h.tr k) (fun W l o o' hl ho hc hw => pI.put W l o o' ho hc) (Below.refl _ _) (fun _ => rfl)
      (fun pre W => ∃ out v, okP (pre.map (·.1)) [] = some out ∧ PpsJ w B out v W)
      (fun c pre W => c = .ret ∧ PpsX w B (pre.map (·.1)) W) ?hI ?hIx ⟨[], _, rfl, J0⟩
      (fun x a' W => a' = { tmps := #[.string s, undef, .pointer (some ⟨B, 0, none⟩), .pointer (some ⟨B + 1, 0, none⟩), .pointer (some ⟨B + 1 + 1, 0, none⟩), .pointer (some ⟨B + 1 + 1 + 1, 0, none⟩), .int .i64 (x.1.1 : Nat), .string x.1.2, undef, undef, undef, undef, undef, undef, .string s, .int .i64 s.size, .bool false, .string s, .func (.func 196) #[] #[.pointer (some ⟨B + 1 + 1 + 1 + 1, 0, none⟩)], .int .i64 (x.1.1 : Nat), .string x.1.2, undef, undef, undef, undef, undef, undef, undef, undef, undef, undef, undef, undef, undef, undef, undef, undef, undef, undef, undef, undef, undef, undef, undef, undef, undef, undef, undef, undef, undef, undef, undef, undef, undef, undef, undef, undef, undef, undef, undef, undef, undef, undef, undef, undef, undef, undef, undef, undef, undef, undef, undef, undef, undef], defers := [] })
      ?hAx ?assign ?body ?done ?stop
    case hI =>
      rintro pre V V' row ⟨out, v, ho, h⟩ hg hr
      exact ⟨out, v, ho, h.other hg (RT.of_not fun q e => (hr q e).2) (fun q e => by have := (hr q e).1; have := h.s0; omega)⟩
    case hIx =>
      rintro c pre V V' row ⟨hc, pre', x, out, e, h1, h2, h3, h4, h5, h6, h7, h8, h9⟩ hg hr
      have hrt := RT.of_not fun q e => (hr q e).2
      exact ⟨hc, pre', x, out, e, h1, h2, h3, h4, h5.keep hg hrt (by simp), h6.keep hg hrt (by simp), h7.keep hg hrt (by simp), h8.grown hg (fun q hq => by have := (hr q hq).1; omega), h9⟩
    case hAx =>
      rintro x a' _ V V' row h hg hr
      exact h
    case assign =>
      rintro l pre x V K2 ⟨out, v, ho, h⟩ hK2
      gi_wp2
      exact hK2 _ _ (KeepsFrom.refl _ _) (pI.refl _) ⟨out, v, ho, h⟩ rfl
    case body =>
      rintro l pre ⟨⟨ln, q⟩, hq⟩ a' V hl hrec ⟨out, v, ho, h⟩ rfl hlen
      simp only at hq
      have hol := zS0 (Nat.zero_le _) ho
      have CC := fun (u : World) (hu : aB V u) => Lib.hid (pcut_any q u (by omega) (HE.out.toEnv.grows (h.gr.tr hu)))
      have CK := fun (s' : ByteArray) (u : World) (hu : aB V u) => Lib.hid (kindIx_any s' u (HE.out.grows (h.gr.tr hu)))
      have CN := fun (s' : ByteArray) (u : World) => Lib.hid (rH0 s' u)
      have HERR := fun (e : Int) (he : mT out (uJ0 q) = e) (h0 : e ≠ 0) (W : World) (hJ : PpsJ w B out v W) => Lib.hid (hJ.bad (x := (ln, q)) ho he h0)
      have HOK := Lib.hid (fun (h0 : mT out (uJ0 q) = 0) => xQ0 (x := (ln, q)) ho h0)
      have HPE : Hid ((pre ++ [(⟨(ln, q), hq⟩ : bP1)]).map (·.1) = pre.map (·.1) ++ [(ln, q)]) := by show _ = _; simp
      obtain ⟨nm, hnm⟩ := exq (mkB (Lib.cut q.data.toList [9]).1)
      obtain ⟨wd, hwd⟩ := exq (mkB (Lib.cut q.data.toList [9]).2.1)
      obtain ⟨kd, hkd⟩ := exq (rU0 wd)
      have htab : uJ0 q = ⟨nm, kd⟩ := by unfold uJ0; rw [← hnm, ← hwd, ← hkd]
      have CC1 := CC V (aB.refl V)
      have CK1 := fun (u : World) (hu : aB V u) => CK wd u hu
      rw [← hnm, ← hwd] at CC1
      rw [← hkd] at CK1
      rw [htab] at HERR HOK
      obtain ⟨a1, c1', rfl, hcl, hcm, hat⟩ := h.own.at_ posLay2.len
      have HJ := Lib.hid h
      have HAT := Lib.hid hat
      clear CC CK hnm hwd hkd htab hat h
      refine wpIn_block ?_
      gi_wp2
      refine ⟨trivial, ((callsIn_wide.2 CC1.out).inRound l).mono ?_⟩
      rintro e w3 ⟨⟨bb, rfl⟩, hg3⟩
      gi_wp2
      refine ⟨trivial, ((callsIn_wide.2 (CK1 w3 hg3).out).inRound l).mono ?_⟩
      rintro e w4 ⟨rfl, rfl⟩
      have c5 := (HJ.out.grows (hg3.tr (aB.alloc w4 (.cells #[.string nm, .int .i64 kd] 73)))).bl.cell (o := 0) rfl
      have TP := TB.alloc w4 #[.string nm, .int .i64 kd] 73
      have CF := Lib.hid (iV out nm a1 c1' (w4.alloc (.cells #[.string nm, .int .i64 kd] 73)) (by omega) (HAT.out.grows (hg3.tr (aB.alloc _ _))))
      gi_wp2
      refine ⟨trivial, ((callsIn_wide.2 CF.out).inRound l).mono ?_⟩
      rintro e w5 ⟨rfl, hg5⟩
      obtain ⟨fi, hfi⟩ := exq (findI (posFind out nm))
      obtain ⟨tw, htw⟩ := exq ((posFind out nm).isSome)
      rw [← hfi, ← htw]
      have hgV : aB V w5 := hg3.tr ((aB.alloc _ _).tr hg5)
      have J6 := HJ.out.grows hgV
      have TP6 := TP.gr hg5
      obtain ⟨pb, hpb⟩ := exq w4.heap.size
      rw [← hpb] at TP6 ⊢
      have HTW : Hid (tw = (posFind out nm).isSome) := htw
      clear c5 TP CF hfi htw hpb CC1 CK1 hrec
      have p0 := TP6.cell (o := 0) rfl
      have p1 := TP6.cell (o := 1) rfl
      by_cases hk : kd < 0
      · have HE1 := HERR 5 (by unfold mT; rw [if_pos (Or.inl hk)]) (by decide) _ J6
        have z0 := J6.r0.cell (o := 0) rfl
        have z1 := J6.r1.cell (o := 0) rfl
        have z2 := J6.r2.cell (o := 0) rfl
        have y0 := J6.r0.froz 0
        have y1 := J6.r1.froz 0
        have y2 := J6.r2.froz 0
        gi_wp2
        refine ⟨trivial, ?_⟩
        iterate 6 (try gi_wp2)
        exact ⟨(kfg _ hgV).trans (HE1.out.2.from _), rfl, by rw [HPE.out]; exact HE1.out.1⟩
      · have CN6 := CN nm w5
        gi_wp2
        refine ⟨trivial, ((callsIn_wide.2 CN6.out).inRound l).mono ?_⟩
        rintro e w6 ⟨rfl, hg6⟩
        have hgV6 := hgV.tr hg6
        have J7 := J6.grows hg6
        have p0 := hg6.cell p0
        have p1 := hg6.cell p1
        have q5 := J7.bl.cell (o := 0) rfl
        clear CN6 CN
        by_cases hn : fV nm = true
        · rw [hn]
          by_cases h0 : out = []
          · have h0i : ((out.length : Int) == 0) = true := by rw [h0]; rfl
            have H0 := Lib.hid h0
            clear h0
            by_cases hb1 : nm.toList = [66, 79, 83]
            · by_cases hb2 : kd = 0
              · subst hb2
                have hbos : rE ⟨nm, 0⟩ = true := by simp [rE, seq, hb1, bos, Lib.toList_data]
                have hno : ¬ ((⟨nm, 0⟩ : bD).kind < 0 ∨ fV (⟨nm, 0⟩ : bD).name = false ∨ (out = [] ∧ rE ⟨nm, 0⟩ = false)) := by rw [hbos]; simp [hn]
                clear hbos
                by_cases htw : tw = true
                · subst htw
                  have HE1 := HERR 4 (by unfold mT; rw [if_neg hno, if_pos HTW.out.symm]) (by decide) _ J7
                  have z0 := J7.r0.cell (o := 0) rfl
                  have z1 := J7.r1.cell (o := 0) rfl
                  have z2 := J7.r2.cell (o := 0) rfl
                  have y0 := J7.r0.froz 0
                  have y1 := J7.r1.froz 0
                  have y2 := J7.r2.froz 0
                  gi_wp2
                  gi_wp2
                  exact ⟨(kfg _ hgV6).trans (HE1.out.2.from _), rfl, by rw [HPE.out]; exact HE1.out.1⟩
                · rw [Bool.not_eq_true] at htw
                  subst htw
                  by_cases h64 : out.length = 64
                  · rw [H0.out] at h64; cases h64
                  · have h64i : ¬ (out.length : Int) = 64 := by omega
                    have HK1 := Lib.hid (HOK.out (by unfold mT; rw [if_neg hno, if_neg (by rw [← HTW.out]; decide), if_neg h64]))
                    have y5 := J7.bl.froz 0
                    have hbw : w.heap.size ≤ w6.heap.size := J7.gr.size
                    gi_wp2_with (gi_at_builtin; go_loud (refine rN (by rintro ⟨_, _, h⟩; exact h) _ (by kernel_rfl) ?_); go_loud (refine eZ posLay2 rfl _ _ rfl w.heap.size (.slice a1 out.length c1') out ⟨nm, 0⟩ rfl J7.own (aB.refl _) _ 1 rfl #[.string nm, .int .i64 0] rfl rfl (by omega) hbw ?_); intro v7 w7 ho7 hg7 hf7 hgg7; obtain ⟨g7, p7, rfl⟩ := qI ho7; have hb7 := J7.bl.keep hg7 (RT.own J7.own) (by decide); have c7 := hb7.cell (o := 0) rfl; have f7 := hb7.froz 0)
                    have hb8 := hb7.set 0 (.slice (some ⟨g7, 0, none⟩) (out.length + 1) p7)
                    have gr8 := (hgg7 w J7.gr (Nat.le_refl _)).set (p := ⟨B + 1 + 1 + 1, 0, none⟩) (show w.heap.size ≤ B + 1 + 1 + 1 by rw [J7.s0]; omega) (.slice (some ⟨g7, 0, none⟩) (out.length + 1) p7)
                    have hrow : RT w7 (some (B + 1 + 1 + 1)) (some 22) := hb7.rt
                    have hs8 := bG w7 (B + 1 + 1 + 1) 0 (.slice (some ⟨g7, 0, none⟩) (out.length + 1) p7)
                    have hJ8 : PpsJ w B (out ++ [⟨nm, 0⟩]) (.slice (some ⟨g7, 0, none⟩) (out.length + 1) p7) (w7.setCell ⟨B + 1 + 1 + 1, 0, none⟩ (.slice (some ⟨g7, 0, none⟩) (out.length + 1) p7)) :=
                      ⟨(J7.r0.keep hg7 (RT.own J7.own) (by decide)).keepN hs8 (by simp; omega), (J7.r1.keep hg7 (RT.own J7.own) (by decide)).keep hs8 hrow (by decide), (J7.r2.keep hg7 (RT.own J7.own) (by decide)).keep hs8 hrow (by decide), hb8, aJ ho7 hs8 hrow (by decide), gr8, J7.s0, Nat.le_trans J7.sz (Nat.le_trans hg7.size hs8.size)⟩
                    have hKS : pI V (w7.setCell ⟨B + 1 + 1 + 1, 0, none⟩ (.slice (some ⟨g7, 0, none⟩) (out.length + 1) p7)) := ((pI.gr hgV6).tr (pI.grown hg7 (RT.own J7.own) (by decide))).tr (pI.grown hs8 hrow (by decide))
                    have hKF : KeepsFrom W0.heap.size V (w7.setCell ⟨B + 1 + 1 + 1, 0, none⟩ (.slice (some ⟨g7, 0, none⟩) (out.length + 1) p7)) := ((kfg _ hgV6).trans (gX hg7 (RT.own J7.own))).trans ((KeepsOthers.setCell w7 ⟨B + 1 + 1 + 1, 0, none⟩ _).from _)
                    go_wp2
                    gi_wp2
                    exact ⟨hKF, hKS, _, _, by rw [HPE.out]; exact HK1.out, hJ8⟩
              · have hbos : rE ⟨nm, kd⟩ = false := by simp [rE, hb2]
                have HE1 := HERR 5 (by unfold mT; rw [if_pos (Or.inr (Or.inr ⟨H0.out, hbos⟩))]) (by decide) _ J7
                have z0 := J7.r0.cell (o := 0) rfl
                have z1 := J7.r1.cell (o := 0) rfl
                have z2 := J7.r2.cell (o := 0) rfl
                have y0 := J7.r0.froz 0
                have y1 := J7.r1.froz 0
                have y2 := J7.r2.froz 0
                gi_wp2
                gi_wp2
                exact ⟨(kfg _ hgV6).trans (HE1.out.2.from _), rfl, by rw [HPE.out]; exact HE1.out.1⟩
            · have hbos : rE ⟨nm, kd⟩ = false := by simp [rE, seq, bos, Lib.toList_data]; intro h; exact absurd (by rw [Lib.toList_data]; exact h) hb1
              have HE1 := HERR 5 (by unfold mT; rw [if_pos (Or.inr (Or.inr ⟨H0.out, hbos⟩))]) (by decide) _ J7
              have z0 := J7.r0.cell (o := 0) rfl
              have z1 := J7.r1.cell (o := 0) rfl
              have z2 := J7.r2.cell (o := 0) rfl
              have y0 := J7.r0.froz 0
              have y1 := J7.r1.froz 0
              have y2 := J7.r2.froz 0
              gi_wp2
              gi_wp2
              exact ⟨(kfg _ hgV6).trans (HE1.out.2.from _), rfl, by rw [HPE.out]; exact HE1.out.1⟩
          · have h0i : ¬ (out.length : Int) = 0 := by have := List.length_pos_iff.2 h0; omega
            have hno : ¬ (kd < 0 ∨ fV nm = false ∨ (out = [] ∧ rE ⟨nm, kd⟩ = false)) := by rw [hn]; simp [h0]; omega
            by_cases htw : tw = true
            · subst htw
              have HE1 := HERR 4 (by unfold mT; rw [if_neg hno, if_pos HTW.out.symm]) (by decide) _ J7
              have z0 := J7.r0.cell (o := 0) rfl
              have z1 := J7.r1.cell (o := 0) rfl
              have z2 := J7.r2.cell (o := 0) rfl
              have y0 := J7.r0.froz 0
              have y1 := J7.r1.froz 0
              have y2 := J7.r2.froz 0
              gi_wp2
              gi_wp2
              exact ⟨(kfg _ hgV6).trans (HE1.out.2.from _), rfl, by rw [HPE.out]; exact HE1.out.1⟩
            · rw [Bool.not_eq_true] at htw
              subst htw
              by_cases h64 : out.length = 64
              · have h64i : (out.length : Int) = 64 := by omega
                have HE1 := HERR 2 (by unfold mT; rw [if_neg hno, if_neg (by rw [← HTW.out]; decide), if_pos h64]) (by decide) _ J7
                have z0 := J7.r0.cell (o := 0) rfl
                have z1 := J7.r1.cell (o := 0) rfl
                have z2 := J7.r2.cell (o := 0) rfl
                have y0 := J7.r0.froz 0
                have y1 := J7.r1.froz 0
                have y2 := J7.r2.froz 0
                gi_wp2
                gi_wp2
                exact ⟨(kfg _ hgV6).trans (HE1.out.2.from _), rfl, by rw [HPE.out]; exact HE1.out.1⟩
              · have h64i : ¬ (out.length : Int) = 64 := by omega
                have HK1 := Lib.hid (HOK.out (by unfold mT; rw [if_neg hno, if_neg (by rw [← HTW.out]; decide), if_neg h64]))
                have y5 := J7.bl.froz 0
                have hbw : w.heap.size ≤ w6.heap.size := J7.gr.size
                gi_wp2_with (gi_at_builtin; go_loud (refine rN (by rintro ⟨_, _, h⟩; exact h) _ (by kernel_rfl) ?_); go_loud (refine eZ posLay2 rfl _ _ rfl w.heap.size (.slice a1 out.length c1') out ⟨nm, kd⟩ rfl J7.own (aB.refl _) _ 1 rfl #[.string nm, .int .i64 kd] rfl rfl (by omega) hbw ?_); intro v7 w7 ho7 hg7 hf7 hgg7; obtain ⟨g7, p7, rfl⟩ := qI ho7; have hb7 := J7.bl.keep hg7 (RT.own J7.own) (by decide); have c7 := hb7.cell (o := 0) rfl; have f7 := hb7.froz 0)
                have hb8 := hb7.set 0 (.slice (some ⟨g7, 0, none⟩) (out.length + 1) p7)
                have gr8 := (hgg7 w J7.gr (Nat.le_refl _)).set (p := ⟨B + 1 + 1 + 1, 0, none⟩) (show w.heap.size ≤ B + 1 + 1 + 1 by rw [J7.s0]; omega) (.slice (some ⟨g7, 0, none⟩) (out.length + 1) p7)
                have hrow : RT w7 (some (B + 1 + 1 + 1)) (some 22) := hb7.rt
                have hs8 := bG w7 (B + 1 + 1 + 1) 0 (.slice (some ⟨g7, 0, none⟩) (out.length + 1) p7)
                have hJ8 : PpsJ w B (out ++ [⟨nm, kd⟩]) (.slice (some ⟨g7, 0, none⟩) (out.length + 1) p7) (w7.setCell ⟨B + 1 + 1 + 1, 0, none⟩ (.slice (some ⟨g7, 0, none⟩) (out.length + 1) p7)) :=
                  ⟨(J7.r0.keep hg7 (RT.own J7.own) (by decide)).keepN hs8 (by simp; omega), (J7.r1.keep hg7 (RT.own J7.own) (by decide)).keep hs8 hrow (by decide), (J7.r2.keep hg7 (RT.own J7.own) (by decide)).keep hs8 hrow (by decide), hb8, aJ ho7 hs8 hrow (by decide), gr8, J7.s0, Nat.le_trans J7.sz (Nat.le_trans hg7.size hs8.size)⟩
                have hKS : pI V (w7.setCell ⟨B + 1 + 1 + 1, 0, none⟩ (.slice (some ⟨g7, 0, none⟩) (out.length + 1) p7)) := ((pI.gr hgV6).tr (pI.grown hg7 (RT.own J7.own) (by decide))).tr (pI.grown hs8 hrow (by decide))
                have hKF : KeepsFrom W0.heap.size V (w7.setCell ⟨B + 1 + 1 + 1, 0, none⟩ (.slice (some ⟨g7, 0, none⟩) (out.length + 1) p7)) := ((kfg _ hgV6).trans (gX hg7 (RT.own J7.own))).trans ((KeepsOthers.setCell w7 ⟨B + 1 + 1 + 1, 0, none⟩ _).from _)
                go_wp2
                gi_wp2
                exact ⟨hKF, hKS, _, _, by rw [HPE.out]; exact HK1.out, hJ8⟩
        · rw [Bool.not_eq_true] at hn
          rw [hn]
          have HE1 := HERR 5 (by unfold mT; rw [if_pos (Or.inr (Or.inl hn))]) (by decide) _ J7
          have z0 := J7.r0.cell (o := 0) rfl
          have z1 := J7.r1.cell (o := 0) rfl
          have z2 := J7.r2.cell (o := 0) rfl
          have y0 := J7.r0.froz 0
          have y1 := J7.r1.froz 0
          have y2 := J7.r2.froz 0
          gi_wp2
          gi_wp2
          exact ⟨(kfg _ hgV6).trans (HE1.out.2.from _), rfl, by rw [HPE.out]; exact HE1.out.1⟩
    case stop =>
      rintro D c pre V hD hpre ⟨rfl, pre', x, out, e, h1, h2, h3, h4, h5, h6, h7, h8, h9⟩ hKD
      clear h9
      have hne : B ≠ D ∧ B + 1 ≠ D ∧ B + 1 + 1 ≠ D := by have := J0.sz; omega
      have tb : ∀ (b : Nat) (cs : Array Value) (t : TypeId) (o' : Obj), b ≠ D → TB V b cs t → TB (V.putObj D o') b cs t := fun b cs t o' hb h => (World.putObj_heap_other hb).trans h
      gi_wp2
      refine ⟨by simp, .inl ⟨_, _, rfl, run_takeDeferred hKD, ?_⟩⟩
      have d0 := (tb _ _ _ (.deferred none) hne.1 h5).cell (o := 0) rfl
      have d1 := (tb _ _ _ (.deferred none) hne.2.1 h6).cell (o := 0) rfl
      have d2 := (tb _ _ _ (.deferred none) hne.2.2 h7).cell (o := 0) rfl
      have HR := pposL_stop (by rw [h1] at hpre; exact hpre) h2 h3 h4
      refine ⟨.tuple #[.slice none 0 0, .int .i64 (x.1 : Nat), .int .i64 e], by simp [results, Tryz.results73, go_sem, d0, d1, d2], ?_⟩
      rw [HR]
      exact ⟨_, rfl, aU.nil _ _ _ _ _, Below.trans h8 (belowK_b (w := w) (Nat.le_refl _) V D _ _ (by omega) hKD rfl rfl)⟩
    case done =>
      rintro D xs V hD hxs ⟨out, v, ho, h⟩ hKD
      obtain ⟨a1, c1', rfl, hcl, hcm, hat⟩ := h.own.at_ posLay2.len
      have c1 := h.bl.cell (o := 0) rfl
      have z0 := h.r0.cell (o := 0) rfl
      have z1 := h.r1.cell (o := 0) rfl
      have z2 := h.r2.cell (o := 0) rfl
      have y0 := h.r0.froz 0
      have y1 := h.r1.froz 0
      have y2 := h.r2.froz 0
      have HR := pposL_done (all := fQ (splitS 10 s) 0) (out := out) (by rw [← hxs]; exact ho)
      have HRR := Lib.hid HR
      have hsz0 := J0.sz
      have HJ := Lib.hid h
      clear HR h ho hxs hat
      by_cases h0 : out = []
      · subst h0
        have h0i : (([] : List bD).length : Int) = 0 := rfl
        gi_wp2
        obtain ⟨⟨t0, t1, t2⟩, t3, t4, t5⟩ := HJ.out.sets (.slice none 0 0) (.int .i64 0) (.int .i64 5)
        have k0 : (((V.setCell ⟨B, 0, none⟩ (.slice none 0 0)).setCell ⟨B + 1, 0, none⟩ (.int .i64 0)).setCell ⟨B + 1 + 1, 0, none⟩ (.int .i64 5)).heap[D]? = some (.deferred (some [])) := by rw [heap_setCell_other _ _ _ _ (show D ≠ B + 1 + 1 by omega), heap_setCell_other _ _ _ _ (show D ≠ B + 1 by omega), heap_setCell_other _ _ _ _ (show D ≠ B by omega)]; exact hKD
        generalize (((V.setCell ⟨B, 0, none⟩ (.slice none 0 0)).setCell ⟨B + 1, 0, none⟩ (.int .i64 0)).setCell ⟨B + 1 + 1, 0, none⟩ (.int .i64 5)) = X at *
        have tb : ∀ (b : Nat) (cs : Array Value) (t : TypeId) (o' : Obj), b ≠ D → TB X b cs t → TB (X.putObj D o') b cs t := fun b cs t o' hb h => (World.putObj_heap_other hb).trans h
        refine ⟨by simp, .inl ⟨_, _, rfl, run_takeDeferred k0, ?_⟩⟩
        have d0 := (tb _ _ _ (.deferred none) (by omega) t0).cell (o := 0) rfl
        have d1 := (tb _ _ _ (.deferred none) (by omega) t1).cell (o := 0) rfl
        have d2 := (tb _ _ _ (.deferred none) (by omega) t2).cell (o := 0) rfl
        refine ⟨.tuple #[.slice none 0 0, .int .i64 0, .int .i64 5], by simp [results, Tryz.results73, go_sem, d0, d1, d2], ?_⟩
        rw [HRR.out]
        exact ⟨_, rfl, aU.nil _ _ _ _ _, Below.trans t4 (belowK_b (w := w) (Nat.le_refl _) X D _ _ (by omega) k0 rfl rfl)⟩
      · have h0i : ¬ (out.length : Int) = 0 := by have := List.length_pos_iff.2 h0; omega
        gi_wp2
        obtain ⟨⟨t0, t1, t2⟩, t3, t4, t5⟩ := HJ.out.sets (.slice a1 out.length c1') (.int .i64 0) (.int .i64 0)
        have k0 : (((V.setCell ⟨B, 0, none⟩ (.slice a1 out.length c1')).setCell ⟨B + 1, 0, none⟩ (.int .i64 0)).setCell ⟨B + 1 + 1, 0, none⟩ (.int .i64 0)).heap[D]? = some (.deferred (some [])) := by rw [heap_setCell_other _ _ _ _ (show D ≠ B + 1 + 1 by omega), heap_setCell_other _ _ _ _ (show D ≠ B + 1 by omega), heap_setCell_other _ _ _ _ (show D ≠ B by omega)]; exact hKD
        generalize (((V.setCell ⟨B, 0, none⟩ (.slice a1 out.length c1')).setCell ⟨B + 1, 0, none⟩ (.int .i64 0)).setCell ⟨B + 1 + 1, 0, none⟩ (.int .i64 0)) = X at *
        have tb : ∀ (b : Nat) (cs : Array Value) (t : TypeId) (o' : Obj), b ≠ D → TB X b cs t → TB (X.putObj D o') b cs t := fun b cs t o' hb h => (World.putObj_heap_other hb).trans h
        refine ⟨by simp, .inl ⟨_, _, rfl, run_takeDeferred k0, ?_⟩⟩
        have d0 := (tb _ _ _ (.deferred none) (by omega) t0).cell (o := 0) rfl
        have d1 := (tb _ _ _ (.deferred none) (by omega) t1).cell (o := 0) rfl
        have d2 := (tb _ _ _ (.deferred none) (by omega) t2).cell (o := 0) rfl
        refine ⟨.tuple #[.slice a1 out.length c1', .int .i64 0, .int .i64 0], by simp [results, Tryz.results73, go_sem, d0, d1, d2], ?_⟩
        rw [HRR.out]
        exact (by rw [if_neg h0]; exact ⟨_, rfl, ownsRow_putObj t3 _ k0 rfl, Below.trans t4 (belowK_b (w := w) (Nat.le_refl _) X D _ _ (by omega) k0 rfl rfl)⟩)
end Go.Proofs.YthgklnohcmaopaaGreatDoor
