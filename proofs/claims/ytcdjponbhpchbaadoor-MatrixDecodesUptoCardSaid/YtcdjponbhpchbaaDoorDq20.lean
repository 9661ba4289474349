/- The texts Mat6 MatSets Same16 MatrixDecodesL, one behind the other. -/
import Derived.Test.YtcdjponbhpchbaaDoorDq16
import Derived.Test.YtcdjponbhpchbaaDoorDq19
import Derived.Test.YtcdjponbhpchbaaDoorDq12
import Derived.Test.YtcdjponbhpchbaaDoorDq13
namespace Go.Proofs.YtcdjponbhpchbaaDoor
open Go Go.RowKit Go.Shelf
attribute [local go_sem] quietE

def threeL : List PosV := [⟨⟨#[66, 79, 83]⟩, 0⟩, ⟨⟨#[110, 111, 117, 110]⟩, 0⟩, ⟨⟨#[112, 97, 114, 116, 105, 99, 108, 101]⟩, 1⟩]
def m16 : Mx := (newM 3 500).setIf (1, 2) 10
theorem ev16_set : (newM 3 500).setB (1, 2) 10 = true := by kernel_rfl
theorem ev16_print : matPrint threeL m16 = ([100, 101, 102, 97, 117, 108, 116, 9, 53, 48, 48, 10, 110, 111, 117, 110, 9, 112, 97, 114, 116, 105, 99, 108, 101, 9, 49, 48, 10], 0) := by kernel_rfl
theorem ev16_enc : m16.enc = [3, 244, 3, 1, 6, 10] := by kernel_rfl
theorem ev16_c1 : m16.cost (1, 2) = 10 := by kernel_rfl
theorem ev16_c2 : m16.cost (2, 1) = 500 := by kernel_rfl
theorem ev16_c3 : m16.cost (3, 0) = 30000 := by kernel_rfl

set_option maxHeartbeats 1000000 in
theorem three_any (w : World) : Calls Tryd.prog 21 #[] w fun e w' => e = .returned (.slice (some ⟨w.heap.size, 0, none⟩) 3 3) ∧ AtCells w' (some ⟨w.heap.size, 0, none⟩) 2 (threeL.map posCells) ∧ Grows w w' := by
  go_enter Tryd.func21, Tryd.ntmps21
  go_wp2
  refine bodyPost_ret (v := .slice (some ⟨w.heap.size, 0, none⟩) 3 3) (by simp [results, Tryd.results21, go_sem]) rfl ⟨rfl, ?_, Grows.alloc _ _⟩
  refine fun _ => ⟨w.heap.size, 0, rfl, fun i row hi j u hj => ?_⟩
  match i, hi with
  | 0, hi =>
    obtain rfl := Option.some.inj hi
    match j, hj with
    | 0, hj => exact cell_box _ _ _ _ _ _ hj
    | 1, hj => exact cell_box _ _ _ _ _ _ hj
  | 1, hi =>
    obtain rfl := Option.some.inj hi
    match j, hj with
    | 0, hj => exact cell_box _ _ _ _ _ _ hj
    | 1, hj => exact cell_box _ _ _ _ _ _ hj
  | 2, hi =>
    obtain rfl := Option.some.inj hi
    match j, hj with
    | 0, hj => exact cell_box _ _ _ _ _ _ hj
    | 1, hj => exact cell_box _ _ _ _ _ _ hj
theorem set16 (w : World) (mb bm : Nat) (h : MatAt w mb bm (newM 3 500)) : Calls Tryd.prog 11 #[.pointer (some ⟨mb, 0, none⟩), .int .i64 1, .int .i64 2, .int .i64 10] w fun e w' => e = .returned (.int .i64 0) ∧ MatAt w' mb bm m16 ∧ w.grownBy w' (some bm) := by
  have h := set_any w mb bm _ h 1 2 10 (show (Lit.int .i64 10).wf = true by kernel_rfl)
  unfold SetPost at h
  rw [ev16_set] at h
  exact h
theorem print16 (w : World) (mb bm : Nat) (h : MatAt w mb bm m16) (pa : Option Addr) (he : Env w) (hp : AtCells w pa 2 (threeL.map posCells)) : Calls Tryd.prog 20 #[.pointer (some ⟨mb, 0, none⟩), .slice pa 3 3] w fun e w' => e = .returned (.tuple #[.string ⟨#[100, 101, 102, 97, 117, 108, 116, 9, 53, 48, 48, 10, 110, 111, 117, 110, 9, 112, 97, 114, 116, 105, 99, 108, 101, 9, 49, 48, 10]⟩, .int .i64 0]) ∧ Grows w w' := by
  have h := matPrint_any w mb bm _ h threeL pa 3 (by decide) he hp
  rw [ev16_print] at h
  exact h
theorem encode16 (w : World) (mb bm : Nat) (h : MatAt w mb bm m16) : Calls Tryd.prog 19 #[.pointer (some ⟨mb, 0, none⟩)] w fun e w' => ∃ v, e = .returned v ∧ Owns w' w.heap.size 5 1 byteC v [3, 244, 3, 1, 6, 10] ∧ Grows w w' := by
  have h := encode_any w mb bm _ h
  rw [ev16_enc] at h
  exact h
theorem cost16 (w : World) (mb bm : Nat) (h : MatAt w mb bm m16) (r l c : Int) (hc : m16.cost (r, l) = c) : Calls Tryd.prog 17 #[.pointer (some ⟨mb, 0, none⟩), .int .i64 r, .int .i64 l] w fun e w' => e = .returned (.int .i64 c) ∧ w = w' := by
  subst hc
  exact cost_any w mb bm _ h r l

set_option maxHeartbeats 4000000 in
set_option maxRecDepth 100000 in
theorem works16_any (w : World) (he : Env w) : Calls Tryd.prog 7 #[] w fun e w' => e = .returned (.bool true) ∧ Grows w w' := by
  go_enter Tryd.func7, Tryd.ntmps7
  go_wp2_with fail
  refine (new_any 3 500 w rfl).mono ?_
  rintro e w1 ⟨rfl, hm1, hg1⟩
  go_wp2_with fail
  refine (set16 _ _ _ hm1).mono ?_
  rintro e w2 ⟨rfl, hm2, hgr2⟩
  have hg2 : Grows w w2 := hg1.grown hgr2 (fun k hk => by cases hk; exact Nat.le_refl _)
  clear hm1 hgr2 hg1
  go_wp2_with (first | (go_at_call 21; refine (three_any _).mono ?_; rintro e w3 ⟨rfl, hp3, hg3⟩; have hg23 := hg2.tr hg3; have hm3 := hm2.grows hg3) | (go_at_call 20; refine (print16 _ _ _ hm3 _ (he.grows hg23) hp3).mono ?_; rintro e w4 ⟨rfl, hg4⟩; have hg24 := hg23.tr hg4; have hm4 := hm3.grows hg4))
  refine (cost16 _ _ _ hm4 1 2 10 ev16_c1).mono ?_
  rintro e w5 ⟨rfl, rfl⟩
  go_wp2_with fail
  refine (cost16 _ _ _ hm4 2 1 500 ev16_c2).mono ?_
  rintro e w5 ⟨rfl, rfl⟩
  go_wp2_with fail
  refine (cost16 _ _ _ hm4 3 0 30000 ev16_c3).mono ?_
  rintro e w5 ⟨rfl, rfl⟩
  go_wp2_with fail
  refine (encode16 _ _ _ hm4).mono ?_
  rintro e w6 ⟨v6, rfl, hown6, hg6⟩
  have hc6 : (convert 22 9 v6).run Tryd.prog w6 = .ok (.string ⟨#[3, 244, 3, 1, 6, 10]⟩) w6 := conv_owns hown6
  have hg26 := hg24.tr hg6
  clear hown6
  go_wp2_with fail
  go_ret
  exact ⟨rfl, hg26⟩
end Go.Proofs.YtcdjponbhpchbaaDoor
namespace Go.Proofs.YtcdjponbhpchbaaDoor
open Go Go.RowKit

/-- A call of Set. -/
structure SetV where
  r : Int
  l : Int
  c : Int
def setC (s : SetV) : List Value := [.int .i64 s.r, .int .i64 s.l, .int .i64 s.c]
def runSets (m : Mx) (l : List SetV) : Mx := l.foldl (fun m s => m.setIf (s.r, s.l) s.c) m
theorem runSets_ok : ∀ (l : List SetV) {m : Mx}, m.OK → (runSets m l).OK
  | [], _, h => h
  | _ :: r, _, h => runSets_ok r (h.setIf _ _)
theorem runSets_take {m : Mx} {l : List SetV} {k : Nat} {s : SetV} (hs : l[k]? = some s) : runSets m (l.take (k + 1)) = (runSets m (l.take k)).setIf (s.r, s.l) s.c := by
  obtain ⟨hk, rfl⟩ := List.getElem?_eq_some_iff.1 hs
  unfold runSets
  rw [List.take_succ_eq_append_getElem hk, List.foldl_append]
  rfl
theorem setIf_n (m : Mx) (x : Int × Int) (c : Int) : (m.setIf x c).n = m.n := by unfold Mx.setIf Mx.set; split <;> rfl
theorem runSets_n (m : Mx) (l : List SetV) : (runSets m l).n = m.n := by
  unfold runSets
  induction l generalizing m with
  | nil => rfl
  | cons s r ih => rw [List.foldl_cons, ih, setIf_n]
/-- One cost alone is changed. -/
theorem setIf_cost {m : Mx} (h : m.OK) (x : Int × Int) (c : Int) (y : Int × Int) : (m.setIf x c).cost y = if m.setB x c = true ∧ y = x then c else m.cost y := by
  cases hb : m.setB x c
  · rw [setIf_no hb]; simp
  · rw [setIf_yes hb]
    have hx : inP m.n x = true := by
      unfold Mx.setB at hb
      simp only [Bool.and_eq_true] at hb
      exact hb.1
    rw [Mx.cost_set h hx]
    simp
end Go.Proofs.YtcdjponbhpchbaaDoor
namespace Go.Proofs.YtcdjponbhpchbaaDoor
open Go Go.RowKit Go.Shelf
attribute [local go_sem] quietE quietE2

set_option maxHeartbeats 8000000 in
set_option maxRecDepth 100000 in
theorem same16_any (w : World) (mb bm rb : Nat) (m : Mx) (hm : MatAt w mb bm m) (hr : RefAt w rb m) : Calls Tryd.prog 6 #[.pointer (some ⟨mb, 0, none⟩), .pointer (some ⟨rb, 0, none⟩)] w fun e w' => e = .returned (.bool true) ∧ Grows w w' := by
  have c0 := hr.c0
  have hn2 := hm.ok.n2
  have HM := Lib.hid hm
  have HR := Lib.hid hr
  have CS := fun W (hW : Grows w W) => Lib.hid (size_any W mb bm m (hm.grows hW))
  have CC := fun W (hW : Grows w W) (i k : Int) => Lib.hid (cost_any W mb bm m (hm.grows hW) i k)
  have CR := fun W (hW : Grows w W) (i k : Int) => Lib.hid (rcost_any W rb m (hr.grows hW) i k)
  clear hm hr
  go_enter Tryd.func6, Tryd.ntmps6
  go_wp2_with fail
  have z0 : ∀ x : Ext Grows w.drew, x.u.cell? ⟨rb, 0, none⟩ = some (.int .i64 m.n) := ext_cell ((Grows.drew w).cell c0)
  refine t_region (Grows) [(0, false), (1, false), (2, false), (3, false), (4, false), (5, false), (6, false)] Grows.refl Grows.trans (by kernel_rfl) (by kernel_rfl) (fun d _ _ _ _ h => by cases d <;> exact h) ?_
  iterate 1 (refine t_quiet rfl (fun K hK => ?_); go_simp; refine hK _ ?_; clear hK K)
  refine t_quiet rfl (fun K hK => ?_)
  go_simp
  apply Exists.intro
  refine ⟨fun x => ?_, hK _ ?_⟩
  · go_at_call 16; exact calls_same (CS _ ((Grows.drew w).tr x.h)).out
  clear hK K
  iterate 5 (refine t_quiet rfl (fun K hK => ?_); go_simp; refine hK _ ?_; clear hK K)
  refine t_end ?_
  clear z0
  have hg0 := Grows.drew w
  generalize w.drew = w1 at *
  go_wp2_with fail
  go_loopw [5] (fun i wx => ∃ a : Nat, a ≤ m.n ∧ i = .int .i64 a ∧ Grows w wx) (fun i _ => m.n - (intOf i).toNat)
  case atStart => exact ⟨0, Nat.zero_le _, rfl, hg0⟩
  case round =>
    obtain ⟨a, ha, rfl, hg⟩ := hrel
    have d0 := hg.cell c0
    by_cases hlt : a < m.n
    · obtain ⟨u0, rfl⟩ : ∃ u0, u0 = wr := ⟨_, rfl⟩
      go_wp2_with fail
      go_loopw [6] (fun i wx => ∃ b : Nat, b ≤ m.n ∧ i = .int .i64 b ∧ Grows w wx) (fun i _ => m.n - (intOf i).toNat)
      case atStart => exact ⟨0, Nat.zero_le _, rfl, hg⟩
      case round =>
        obtain ⟨b, hb, rfl, hg2⟩ := hrel
        have e0 := hg2.cell c0
        by_cases hlt2 : b < m.n
        · have C1 := (CC _ hg2 a b).out
          have C2 := (CR _ hg2 a b).out
          generalize m.cost ((a : Int), (b : Int)) = O at C1 C2
          go_wp2_with fail
          refine C1.mono ?_
          rintro e w5 ⟨rfl, rfl⟩
          go_wp2_with fail
          refine C2.mono ?_
          rintro e w6 ⟨rfl, hg6⟩
          go_wp2_with fail
          go_roundw
          case rel => exact ⟨b + 1, hlt2, by go_num, hg2.tr hg6⟩
          case measure => simp [intOf]; omega
        · obtain rfl : b = m.n := by omega
          go_wp2_with fail
          go_roundw
          case rel => exact ⟨a + 1, hlt, by go_num, hg2⟩
          case measure => simp [intOf]; omega
    · obtain rfl : a = m.n := by omega
      go_wp2_with fail
      refine t_region (Grows) [(0, false), (3, false), (1, true), (2, false), (4, true), (5, false), (6, false), (7, false)] Grows.refl Grows.trans (by kernel_rfl) (by kernel_rfl) (fun d _ _ _ _ h => by cases d <;> exact h) ?_
      iterate 2 (refine t_quiet rfl (fun K hK => ?_); go_simp; refine hK _ ?_; clear hK K)
      refine t_late rfl rfl (fun K hK => ?_)
      go_simp
      refine (encode_any wr.drew mb bm m (HM.out.grows hg.dr)).mono ?_
      rintro e w5 ⟨v5, rfl, hown5, hg5⟩
      refine ⟨hg5, hK _ _ ?_⟩
      clear hK K
      have y5 : ∀ x : Ext Grows w5, (convert 22 9 v5).run Tryd.prog x.u = .ok (.string (mkB m.enc)) x.u := fun x => conv_owns (hown5.grows x.h)
      have hg05 := hg.dr.tr hg5
      iterate 1 (refine t_quiet rfl (fun K hK => ?_); go_simp; refine hK _ ?_; clear hK K)
      clear y5
      refine t_late rfl rfl (fun K hK => ?_)
      go_simp
      refine (renc_any w5 rb m (HR.out.grows hg05)).mono ?_
      rintro e w6 ⟨v6, rfl, hown6, hg6⟩
      refine ⟨hg6, hK _ _ ?_⟩
      clear hK K
      have y6 : ∀ x : Ext Grows w6, (convert 22 9 v6).run Tryd.prog x.u = .ok (.string (mkB m.enc)) x.u := fun x => conv_owns (hown6.grows x.h)
      iterate 3 (refine t_quiet rfl (fun K hK => ?_); go_simp; refine hK _ ?_; clear hK K)
      refine t_end ?_
      go_wp2_with fail
      go_ret
      exact ⟨rfl, hg05.tr hg6⟩
end Go.Proofs.YtcdjponbhpchbaaDoor
namespace Go.Proofs.YtcdjponbhpchbaaDoor
open Go Go.RowKit Go.Shelf
attribute [local go_sem] quietE quietE2

set_option maxHeartbeats 1000000 in
theorem same16_nil2 (w : World) : Calls Tryd.prog 6 #[.pointer none, .pointer none] w fun e w' => e = .returned (.bool true) ∧ w = w' := by
  go_enter Tryd.func6, Tryd.ntmps6
  go_wp2
  go_ret
  exact ⟨rfl, rfl⟩
set_option maxHeartbeats 4000000 in
set_option maxRecDepth 100000 in
theorem decodes_any (b : List UInt8) (ba : Option Addr) (bc : Nat) (w : World) (he : Env w) (hb : b.length ≤ 1099511627776) (hat : AtCells w ba 1 (b.map byteC)) :
    Calls Tryd.prog 3 #[.slice ba b.length bc] w fun e w' => e = .returned (.bool true) ∧ Grows w w' := by
  have CW := fun W (hW : Grows w W) => Lib.hid (works16_any W (he.grows hW))
  have CD := Lib.hid (decode_any b ba bc w hb hat)
  have CR := fun W (hW : Grows w W) => Lib.hid (rdec_any b ba bc W hb (hat.grows hW))
  clear he hat
  generalize decM b = R at *
  cases R with
  | none =>
    go_enter Tryd.func3, Tryd.ntmps3
    go_wp2_with fail
    refine CD.out.mono ?_
    rintro e w1 ⟨h1, _, hg1⟩
    obtain rfl := h1 rfl
    go_wp2_with fail
    refine (CR _ hg1).out.mono ?_
    rintro e w2 ⟨h2, _, hg2⟩
    obtain rfl := h2 rfl
    replace hg2 := hg1.tr hg2
    clear h1 h2
    go_wp2_with fail
    refine (same16_nil2 _).mono ?_
    rintro e w3 ⟨rfl, rfl⟩
    go_wp2_with fail
    refine (CW _ hg2).out.mono ?_
    rintro e w4 ⟨rfl, hg4⟩
    go_wp2
    go_ret
    exact ⟨rfl, hg2.tr hg4⟩
  | some m =>
    go_enter Tryd.func3, Tryd.ntmps3
    go_wp2_with fail
    refine CD.out.mono ?_
    rintro e w1 ⟨_, h1, hg1⟩
    obtain ⟨mb, bm, rfl, hm1, _, _⟩ := h1 m rfl
    go_wp2_with fail
    refine (CR _ hg1).out.mono ?_
    rintro e w2 ⟨_, h2, hg2⟩
    obtain ⟨rb, rfl, hr2, _⟩ := h2 m rfl
    have CS := Lib.hid (same16_any w2 mb bm rb m (hm1.grows hg2) hr2)
    replace hg2 := hg1.tr hg2
    clear h1 h2 hm1 hr2
    go_wp2_with fail
    refine CS.out.mono ?_
    rintro e w3 ⟨rfl, hg3⟩
    go_wp2_with fail
    refine (CW _ (hg2.tr hg3)).out.mono ?_
    rintro e w4 ⟨rfl, hg4⟩
    go_wp2
    go_ret
    exact ⟨rfl, (hg2.tr hg3).tr hg4⟩
end Go.Proofs.YtcdjponbhpchbaaDoor
