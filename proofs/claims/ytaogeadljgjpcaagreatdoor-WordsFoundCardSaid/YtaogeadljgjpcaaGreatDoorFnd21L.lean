import Derived.Test.YtaogeadljgjpcaaGreatDoorCutW
namespace Go.Proofs.YtaogeadljgjpcaaGreatDoor
open Go Go.RowKit Go.Shelf
attribute [local go_sem] aQ aM
theorem least_c : ∀ (l : List En), l ≠ [] → ∃ y ∈ l, ∀ z ∈ l, y.c ≤ z.c
  | [], h => (h rfl).elim
  | [x], _ => ⟨x, by simp, by simp⟩
  | x :: b :: r, _ => by
    obtain ⟨y, hy, h⟩ := least_c (b :: r) (by simp)
    by_cases hc : x.c ≤ y.c
    · refine ⟨x, by simp, fun z hz => ?_⟩
      rcases List.mem_cons.1 hz with rfl | hz
      · exact Int.le_refl _
      · have := h z hz
        omega
    · refine ⟨y, List.mem_cons_of_mem _ hy, fun z hz => ?_⟩
      rcases List.mem_cons.1 hz with rfl | hz
      · omega
      · exact h z hz
theorem sorted_least {l : List En} {x : En} (hx : x ∈ l) : ∃ y ∈ sortS l, y.r = x.r ∧ y.s = x.s ∧ y.l = x.l ∧ y.t = x.t ∧ y.c ≤ x.c := by
  have hm : x ∈ l.filter fun z => decide (iZ z x) := List.mem_filter.2 ⟨hx, by simp [iZ]⟩
  obtain ⟨y, hy, hl⟩ := least_c _ (List.ne_nil_of_mem hm)
  obtain ⟨hy1, hy2⟩ := List.mem_filter.1 hy
  have hk : iZ y x := of_decide_eq_true hy2
  refine ⟨y, ((dQ l).2 y).2 ⟨hy1, fun z hz hzk => hl z (List.mem_filter.2 ⟨hz, decide_eq_true ?_⟩)⟩, hk.1, hk.2.1, hk.2.2.1, hk.2.2.2, hl x hm⟩
  exact ⟨hzk.1.trans hk.1, hzk.2.1.trans hk.2.1, hzk.2.2.1.trans hk.2.2.1, hzk.2.2.2.trans hk.2.2.2⟩
theorem found_plain {c : xN} {w : World} {db : Nat} {m : Mx} (h : gA0 c.s w db m) (C : List (List UInt8)) {x : En} (hx : x ∈ c.s.e) {f t : Nat} (hft : f < t) (ht : t ≤ C.length) (hp : ptC C f t = x.r) :
    (∃ z ∈ gT1 c C, z.f = f ∧ z.t = t ∧ z.s = x.s ∧ z.l = x.l ∧ z.r = x.t) ∧ ∀ z ∈ gT1 c C, z.f = f → z.t = t → z.s = x.s → z.l = x.l → z.r = x.t → z.c ≤ x.c := by
  obtain ⟨y, hy, h1, h2, h3, h4, h5⟩ := sorted_least hx
  have hc := (dic_ents h y hy).2.2.2.2.2.1
  have hn := nodes_found c.l (plainP c.s.p : Nat) hft ht hy (h1.trans hp.symm) hc
  rw [h2, h3, h4] at hn
  refine ⟨hn.1, fun z hz a b c d e => ?_⟩
  have := hn.2 z hz a b c d e
  omega
theorem read_count {c : xN} {w : World} {db : Nat} {m : Mx} (h : gA0 c.s w db m) {x : En} (hx : x ∈ c.s.e) : ∃ n : Nat, countS x.r = n ∧ 1 ≤ n ∧ n ≤ 64 := by
  obtain ⟨y, hy, h1, _⟩ := sorted_least hx
  have h2 := (sZ0 ((eU h.dk.chk).2.2.2 y hy)).1
  rw [h1] at h2
  unfold readingS at h2
  simp only [Bool.and_eq_true, decide_eq_true_eq] at h2
  obtain ⟨⟨h3, h4⟩, _⟩ := h2
  exact ⟨(countS x.r).toNat, by omega, by omega, by omega⟩
/-- An entry lies in a block of its own. -/
structure EnAt (w : World) (b : Nat) (x : En) : Prop where
  c : ∀ j u, (bF x)[j]? = some u → w.cell? ⟨b, j, none⟩ = some u
  f : ∀ j, w.frozen? ⟨b, j, none⟩ = false
theorem EnAt.lt {w : World} {b : Nat} {x : En} (h : EnAt w b x) : b < w.heap.size := World.block_lt_of_cell? w _ (h.c 0 _ rfl)
theorem EnAt.grows {w w' : World} {b : Nat} {x : En} (h : EnAt w b x) (hg : aB w w') : EnAt w' b x :=
  ⟨fun j u hu => hg.cell (h.c j u hu), fun j => (hg.froz (p := ⟨b, j, none⟩) h.lt).trans (h.f j)⟩
theorem EnAt.box (w : World) (x : En) (t : TypeId) : EnAt (w.alloc (.cells (bF x).toArray t)) w.heap.size x :=
  ⟨fun j u hu => aT w _ t (0, 0) j u (by simpa using hu), fun j => frozen_of_row _ _ _ _ _ (heap_alloc_new w _)⟩
theorem EnAt.put {w : World} {b : Nat} {x y : En} (h : EnAt w b x) (j : Nat) (v : Value) (hj : j < 5) (hy : bF y = (bF x).set j v) : EnAt (w.setCell ⟨b, j, none⟩ v) b y := by
  refine ⟨fun i u hu => ?_, fun i => by rw [World.frozen?_setCell]; exact h.f i⟩
  rw [hy, List.getElem?_set] at hu
  by_cases e : j = i
  · subst e
    rw [if_pos rfl, if_pos (by exact hj)] at hu
    obtain rfl := Option.some.inj hu
    obtain ⟨u0, hu0⟩ : ∃ u0, (bF x)[j]? = some u0 := ⟨_, List.getElem?_eq_getElem (show j < (bF x).length from hj)⟩
    exact World.cell?_setCell_same _ _ _ (h.c j u0 hu0)
  · rw [if_neg e] at hu
    rw [World.cell?_setCell_other _ _ _ _ (fun e2 => e (congrArg Addr.off e2))]
    exact h.c i u hu
theorem EnAt.all {w : World} {b : Nat} {x y : En} (h : EnAt w b x) : EnAt (((((w.setCell ⟨b, 0, none⟩ (.string y.r)).setCell ⟨b, 1, none⟩ (.string y.s)).setCell ⟨b, 2, none⟩ (.int .i64 y.l)).setCell ⟨b, 3, none⟩ (.int .i64 y.t)).setCell ⟨b, 4, none⟩ (.int .i64 y.c)) b y := by
  have h1 := h.put (y := ⟨y.r, x.s, x.l, x.t, x.c⟩) 0 (.string y.r) (by decide) rfl
  have h2 := h1.put (y := ⟨y.r, y.s, x.l, x.t, x.c⟩) 1 (.string y.s) (by decide) rfl
  have h3 := h2.put (y := ⟨y.r, y.s, y.l, x.t, x.c⟩) 2 (.int .i64 y.l) (by decide) rfl
  have h4 := h3.put (y := ⟨y.r, y.s, y.l, y.t, x.c⟩) 3 (.int .i64 y.t) (by decide) rfl
  exact h4.put (y := y) 4 (.int .i64 y.c) (by decide) rfl
theorem EB.set5 {B : Nat} {w : World} {b : Nat} (hb : B ≤ b) (v0 v1 v2 v3 v4 : Value) : EB B w (((((w.setCell ⟨b, 0, none⟩ v0).setCell ⟨b, 1, none⟩ v1).setCell ⟨b, 2, none⟩ v2).setCell ⟨b, 3, none⟩ v3).setCell ⟨b, 4, none⟩ v4) := by
  refine ⟨?_, by simp⟩
  exact ((((((Below.refl B w).setCell hb v0).setCell hb v1).setCell hb v2).setCell hb v3).setCell hb v4)
set_option maxHeartbeats 16000000 in
set_option maxRecDepth 100000 in
theorem found21_any (c : xN) (A : nS0) (wi at' : Nat) (w : World) (he : Env w) (hok : jJ1 c) (hw1 : wi ≤ 65535) (hw2 : at' ≤ 65535) (hat : kH0 w A c) :
    Calls Tryz.prog 9 #[A.agg c, .int .u16 wi, .int .u16 at'] w fun e w' => e = .returned (.bool true) ∧ aB w w' := by
  have HE := Lib.hid he
  have CW := fun u (hu : aB w u) => Lib.hid (works21_any u (HE.out.grows hu))
  have hxz := hok.x
  have HOE := Lib.hid hok.s.e
  have hle := hok.s.le
  have HAE := Lib.hid hat.s.e
  have CN0 := fun (u : World) (hu : aB w u) => Lib.hid (nodes21_any c A u (he.grows hu) hok (hat.grows hu))
  obtain ⟨⟨xp, xd, xs, xe⟩, x, ls⟩ := c
  obtain ⟨⟨pa, pc, sa, sc, ea, ec⟩, la, lc⟩ := A
  simp only at hxz hle HAE
  obtain ⟨W0, hW0⟩ := exq (w.alloc (.cells #[.slice pa xp.length pc, .int .i64 xd, .slice sa xs.length sc, .slice ea xe.length ec, .string x, .slice la ls.length lc] 33))
  have hg0 : aB w W0 := by rw [hW0]; exact aB.alloc _ _
  obtain ⟨bc, _⟩ := cF (show aB (w.alloc (.cells #[.slice pa xp.length pc, .int .i64 xd, .slice sa xs.length sc, .slice ea xe.length ec, .string x, .slice la ls.length lc] 33)) W0 by rw [hW0]; exact aB.refl _)
  have q3 := bc 3 _ rfl
  have q4 := bc 4 _ rfl
  have q0 := bc 0 _ rfl
  have q1 := bc 1 _ rfl
  have q2 := bc 2 _ rfl
  have q5 := bc 5 _ rfl
  have hcb : w.heap.size < W0.heap.size := by rw [hW0]; simp
  have CN := CN0 W0 hg0
  unfold nS0.agg at CN
  simp only at CN
  show Calls _ _ #[.agg #[.slice pa xp.length pc, .int .i64 xd, .slice sa xs.length sc, .slice ea xe.length ec, .string x, .slice la ls.length lc], .int .u16 wi, .int .u16 at'] _ _
  clear he hok hat bc CN0
  go_enter Tryz.func9, Tryz.ntmps9
  go_wp2_with fail
  rw [← hW0]
  clear hW0
  refine CN.out.mono ?_
  rintro e w1 ⟨hg1, dv, v, b, rfl, hb⟩
  have g1 := hg0.tr hg1
  have q3 := hg1.cell q3
  have q4 := hg1.cell q4
  have hcb1 : w.heap.size < w1.heap.size := Nat.lt_of_lt_of_le hcb hg1.size
  clear CN q0 q1 q2 q5
  by_cases hbt : b = true
  · subst hbt
    obtain ⟨db, m, C, rfl, hN⟩ := hb rfl
    by_cases hxe : xe = []
    · subst hxe
      have CW2 := CW w1 g1
      clear hb hN
      go_wp2_with fail
      refine CW2.out.mono ?_
      rintro e w4 ⟨rfl, hg4⟩
      go_wp2_with fail
      go_ret
      exact ⟨rfl, g1.tr hg4⟩
    have hxl : 1 ≤ xe.length := List.length_pos_iff.2 hxe
    have hxl0 : ¬ (xe.length : Int) = 0 := by omega
    have hxlb : ((xe.length : Int) == 0) = false := by rw [beq_eq_false_iff_ne]; exact hxl0
    obtain ⟨a1, c1, rfl, _, _, hat1⟩ := hN.own.at_ oE1.len
    have HAT := Lib.hid hat1
    have hfew := hN.few
    have hcl := hN.le
    have hcl0 : 1 ≤ C.length := List.length_pos_iff.2 hN.ne
    have hcx : countS x = (C.length : Nat) := case_count hN.co hN.fl
    have hxs : x.size ≤ 140737488355328 := hxz
    -- the entry and the place
    obtain ⟨k, hk⟩ := exq (wi % xe.length)
    have hkl : k < xe.length := by rw [hk]; exact Nat.mod_lt _ (by omega)
    obtain ⟨f, hf⟩ := exq (at' % C.length)
    have hfl : f < C.length := by rw [hf]; exact Nat.mod_lt _ (by omega)
    have hmod1 : Int.tmod (wi : Int) xe.length = k := by rw [hk]; exact (Int.ofNat_tmod wi xe.length).symm
    have hmod2 : Int.tmod (at' : Int) C.length = f := by rw [hf]; exact (Int.ofNat_tmod at' C.length).symm
    have wat1 : IntKind.i64.wrap (wi : Int) = wi := pN0 (by omega)
    have wat2 : IntKind.i64.wrap (at' : Int) = at' := pN0 (by omega)
    have wk : IntKind.i64.wrap (k : Int) = k := pN0 (by omega)
    have wf : IntKind.i64.wrap (f : Int) = f := pN0 (by omega)
    obtain ⟨⟨er, es, el, et, ev⟩, hx⟩ : ∃ y, xe[k]? = some y := ⟨_, List.getElem?_eq_getElem hkl⟩
    have hmx := List.mem_of_getElem? hx
    have HEO := HOE.out _ hmx
    have hers : er.size ≤ 140737488355328 := (by have h0 := (jT0 (bW1 hN.li).1).2.1 _ hmx; simp only at h0; omega)
    obtain ⟨n, hn, hn1, hn2⟩ := read_count (c := ⟨⟨xp, xd, xs, xe⟩, x, ls⟩) hN.d hmx
    simp only at hn
    have HPL := fun (t : Nat) (hft : f < t) (ht : t ≤ C.length) (hp : ptC C f t = er) => Lib.hid (found_plain (c := ⟨⟨xp, xd, xs, xe⟩, x, ls⟩) hN.d C hmx hft ht hp)
    simp only at HPL
    obtain ⟨ba, oa, rfl, hca⟩ := (HAE.out.grows g1).get (aK hkl)
    have hba : ba < w1.heap.size := World.block_lt_of_cell? w1 _ (hca k _ hx 0 _ rfl)
    have hCutY := fun (t : Nat) (hft : f < t) (ht : t ≤ C.length) (u : World) (hu : aB w u) => Lib.hid (cut_any x C f t u (HE.out.grows hu) hxs hN.co hN.fl (by omega) ht)
    have hCutN := fun (t : Nat) (hft : f < t) (ht : C.length < t) (u : World) (hu : aB w u) => Lib.hid (cut_no x C f t u (HE.out.grows hu) hxs hN.co hN.fl (by omega) ht)
    generalize gT1 ⟨⟨xp, xd, xs, xe⟩, x, ls⟩ C = L at HAT hfew HPL ⊢
    have CC := fun (u : World) (hu : aB w u) => Lib.hid (mK x u (by omega) (HE.out.grows hu))
    rw [hcx] at CC
    have CR := fun (u : World) (hu : aB w u) => Lib.hid (mK er u (by omega) (HE.out.grows hu))
    rw [hn] at CR
    have gd : aB w1 w1.drew := aB.drew w1
    have hB : w1.drew.heap.size = w1.heap.size := rfl
    have c0 : ∀ x : Ext (EB w1.heap.size) w1.drew, x.u.cell? ⟨ba, oa + k * 5, none⟩ = some (.string er) := aT0 hba (gd.cell (hca k _ hx 0 _ rfl))
    have c1' : ∀ x : Ext (EB w1.heap.size) w1.drew, x.u.cell? ⟨ba, oa + k * 5 + 1, none⟩ = some (.string es) := aT0 hba (gd.cell (hca k _ hx 1 _ rfl))
    have c2 : ∀ x : Ext (EB w1.heap.size) w1.drew, x.u.cell? ⟨ba, oa + k * 5 + 2, none⟩ = some (.int .i64 el) := aT0 hba (gd.cell (hca k _ hx 2 _ rfl))
    have c3 : ∀ x : Ext (EB w1.heap.size) w1.drew, x.u.cell? ⟨ba, oa + k * 5 + 3, none⟩ = some (.int .i64 et) := aT0 hba (gd.cell (hca k _ hx 3 _ rfl))
    have c4 : ∀ x : Ext (EB w1.heap.size) w1.drew, x.u.cell? ⟨ba, oa + k * 5 + 4, none⟩ = some (.int .i64 ev) := aT0 hba (gd.cell (hca k _ hx 4 _ rfl))
    have q3d : ∀ x : Ext (EB w1.heap.size) w1.drew, x.u.cell? ⟨w.heap.size, 3, none⟩ = some (.slice (some ⟨ba, oa, none⟩) xe.length ec) := aT0 hcb1 (gd.cell q3)
    have hki : (k : Int) < xe.length := by omega
    have HMX := Lib.hid hmx
    have HHE := Lib.hid (And.intro hx hca)
    clear hb hN hat1 hcx hk hf hx hca hmx HEO hn HOE HAE hxz
    go_wp2_with fail
    refine lP (EB w1.heap.size) [(0, false), (1, false), (2, false), (3, false), (4, false), (5, false), (6, false), (7, false), (8, false), (9, false), (10, false), (11, false), (12, true), (13, true)] (EB.refl w1.heap.size) (EB.trans w1.heap.size) (by kernel_rfl) (by kernel_rfl) (fun d _ _ _ _ h => by cases d <;> exact h) ?_
    iterate 12 (refine aH rfl (fun K hK => ?_); go_simp; refine hK _ ?_; clear hK K)
    refine bJ rfl rfl (fun K hK => ?_)
    go_simp
    obtain ⟨W3, hW3⟩ := exq (w1.alloc (.cells #[.string ⟨#[]⟩, .string ⟨#[]⟩, .int .i64 0, .int .i64 0, .int .i64 0] 62)).drew
    have eP : EnAt W3 w1.heap.size ⟨⟨#[]⟩, ⟨#[]⟩, 0, 0, 0⟩ := by rw [hW3]; exact (EnAt.box w1 ⟨⟨#[]⟩, ⟨#[]⟩, 0, 0, 0⟩ _).grows (aB.drew _)
    have geP : aB w1.drew W3 := by rw [hW3]; exact aB.alloc w1.drew (.cells #[.string ⟨#[]⟩, .string ⟨#[]⟩, .int .i64 0, .int .i64 0, .int .i64 0] 62)
    rw [← hW3]
    clear hW3
    refine ⟨EB.of geP (Nat.le_of_eq hB.symm), hK _ _ ?_⟩
    clear hK K c0 c1' c2 c3 c4 q3d
    have p0 := eP.c 0 _ rfl
    have p1 := eP.c 1 _ rfl
    have p2 := eP.c 2 _ rfl
    have p3 := eP.c 3 _ rfl
    have p4 := eP.c 4 _ rfl
    have pf := eP.f
    refine bJ rfl rfl (fun K hK => ?_)
    go_simp
    obtain ⟨W4, hW4⟩ := exq (((((W3.setCell ⟨w1.heap.size, 0, none⟩ (.string er)).setCell ⟨w1.heap.size, 1, none⟩ (.string es)).setCell ⟨w1.heap.size, 2, none⟩ (.int .i64 el)).setCell ⟨w1.heap.size, 3, none⟩ (.int .i64 et)).setCell ⟨w1.heap.size, 4, none⟩ (.int .i64 ev))
    have eQ : EnAt W4 w1.heap.size ⟨er, es, el, et, ev⟩ := by rw [hW4]; exact eP.all (y := ⟨er, es, el, et, ev⟩)
    have geb : EB w1.heap.size W3 W4 := by rw [hW4]; exact EB.set5 (Nat.le_refl _) _ _ _ _ _
    rw [← hW4]
    clear hW4 p0 p1 p2 p3 p4 pf eP
    refine ⟨geb, hK _ _ ?_⟩
    clear hK K
    have gx : aB w1 W4 := EB.grows (gd.tr geP) geb
    have g4 := g1.tr gx
    have q4 := gx.cell q4
    clear geb geP gd hB hcb1 hba
    refine bQ ?_
    generalize w1.heap.size = eb at eQ ⊢
    go_wp2_with fail
    refine (CC W4 g4).out.mono ?_
    rintro e w5 ⟨rfl, hg5⟩
    have q4 := hg5.cell q4
    have eQ := eQ.grows hg5
    have g5 := g4.tr hg5
    have gx := gx.tr hg5
    have hC0 : ¬ (C.length : Int) = 0 := by omega
    clear CC
    have r0 := eQ.c 0 _ rfl
    go_wp2_with fail
    refine (CR w5 g5).out.mono ?_
    rintro e w6 ⟨rfl, hg6⟩
    have q4 := hg6.cell q4
    have eQ := eQ.grows hg6
    have g6 := g5.tr hg6
    have gx := gx.tr hg6
    clear CR r0
    obtain ⟨t, ht⟩ := exq (f + n)
    have hft : f < t := by omega
    have ht2 : t ≤ 200 := by omega
    have hti : (f : Int) + n = t := by omega
    have wt : IntKind.i64.wrap (t : Int) = t := pN0 (by omega)
    have wt2 : IntKind.i64.wrap ((f : Int) + n) = t := by rw [hti]; exact wt
    clear ht
    by_cases htl : t ≤ C.length
    · have CT := hCutY t hft htl w6 g6
      clear hCutY hCutN
      go_wp2_with fail
      refine CT.out.mono ?_
      rintro e w7 ⟨rfl, hg7⟩
      have eQ := eQ.grows hg7
      have g7 := g6.tr hg7
      have gx := gx.tr hg7
      have HA7 := Lib.hid (HAT.out.grows gx)
      have r0 := eQ.c 0 _ rfl
      clear CT HAT q4
      by_cases hpe : ptC C f t = er
      · have HP := HPL t hft htl hpe
        generalize ptC C f t = pt at hpe ⊢
        subst hpe
        clear HPL
        have HAN := Lib.hid HP.out.1
        have HBS := Lib.hid HP.out.2
        clear HP
        go_wp2_with fail
        go_loopw [16] (fun i wr => ∃ k : Nat, k ≤ L.length ∧ i = .int .i64 k ∧ Hid (aB w7 wr) ∧ Hid (∀ j z, j < k → L[j]? = some z → ¬ (z.f = f ∧ z.t = t ∧ z.s = es ∧ z.l = el ∧ z.r = et))) (fun i _ => L.length - (intOf i).toNat)
        case atStart => exact ⟨0, Nat.zero_le _, rfl, aB.refl _, fun j z h => by omega⟩
        case round =>
          obtain ⟨k, hk, rfl, hg, hpast⟩ := hrel
          by_cases hlt : k < L.length
          · have hki : (k : Int) < L.length := by omega
            obtain ⟨⟨zf, zt, zs, zl, zr, zc, zk⟩, hx⟩ : ∃ x, L[k]? = some x := ⟨_, List.getElem?_eq_getElem hlt⟩
            obtain ⟨b2, o2, rfl, hca⟩ := (HA7.out.grows hg.out).get (aK hlt)
            have c0 : wr.cell? ⟨b2, o2 + k * 7, none⟩ = some (.int .i64 zf) := hca k _ hx 0 _ rfl
            have c1 : wr.cell? ⟨b2, o2 + k * 7 + 1, none⟩ = some (.int .i64 zt) := hca k _ hx 1 _ rfl
            have c2 : wr.cell? ⟨b2, o2 + k * 7 + 2, none⟩ = some (.string zs) := hca k _ hx 2 _ rfl
            have c3 : wr.cell? ⟨b2, o2 + k * 7 + 3, none⟩ = some (.int .i64 zl) := hca k _ hx 3 _ rfl
            have c4 : wr.cell? ⟨b2, o2 + k * 7 + 4, none⟩ = some (.int .i64 zr) := hca k _ hx 4 _ rfl
            have c5 : wr.cell? ⟨b2, o2 + k * 7 + 5, none⟩ = some (.int .i64 zc) := hca k _ hx 5 _ rfl
            have c6 : wr.cell? ⟨b2, o2 + k * 7 + 6, none⟩ = some (.int .i64 zk) := hca k _ hx 6 _ rfl
            have HX := Lib.hid hx
            have hnext : ¬ (zf = f ∧ zt = t ∧ zs = es ∧ zl = el ∧ zr = et) → Hid (∀ j z, j < k + 1 → L[j]? = some z → ¬ (z.f = f ∧ z.t = t ∧ z.s = es ∧ z.l = el ∧ z.r = et)) := fun hno => show ∀ j z, j < k + 1 → L[j]? = some z → ¬ (z.f = f ∧ z.t = t ∧ z.s = es ∧ z.l = el ∧ z.r = et) from fun j z hj hz => by
              rcases Nat.lt_or_ge j k with h1 | h1
              · exact hpast.out j z h1 hz
              · obtain rfl : j = k := by omega
                rw [HX.out] at hz
                obtain rfl := Option.some.inj hz
                exact hno
            have HNX := Lib.hid hnext
            have eQ := eQ.grows hg.out
            have e0 : (wr.alloc (.cells #[.int .i64 zf, .int .i64 zt, .string zs, .int .i64 zl, .int .i64 zr, .int .i64 zc, .int .i64 zk] 49)).cell? ⟨eb, 0, none⟩ = some (.string pt) := (aB.alloc _ _).cell (eQ.c 0 _ rfl)
            have e1 : (wr.alloc (.cells #[.int .i64 zf, .int .i64 zt, .string zs, .int .i64 zl, .int .i64 zr, .int .i64 zc, .int .i64 zk] 49)).cell? ⟨eb, 1, none⟩ = some (.string es) := (aB.alloc _ _).cell (eQ.c 1 _ rfl)
            have e2 : (wr.alloc (.cells #[.int .i64 zf, .int .i64 zt, .string zs, .int .i64 zl, .int .i64 zr, .int .i64 zc, .int .i64 zk] 49)).cell? ⟨eb, 2, none⟩ = some (.int .i64 el) := (aB.alloc _ _).cell (eQ.c 2 _ rfl)
            have e3 : (wr.alloc (.cells #[.int .i64 zf, .int .i64 zt, .string zs, .int .i64 zl, .int .i64 zr, .int .i64 zc, .int .i64 zk] 49)).cell? ⟨eb, 3, none⟩ = some (.int .i64 et) := (aB.alloc _ _).cell (eQ.c 3 _ rfl)
            have e4 : (wr.alloc (.cells #[.int .i64 zf, .int .i64 zt, .string zs, .int .i64 zl, .int .i64 zr, .int .i64 zc, .int .i64 zk] 49)).cell? ⟨eb, 4, none⟩ = some (.int .i64 ev) := (aB.alloc _ _).cell (eQ.c 4 _ rfl)
            clear hx hca hnext
            by_cases h0 : zf = f
            · subst h0
              by_cases h1 : zt = t
              · subst h1
                by_cases h2 : zs = es
                · subst h2
                  by_cases h3 : zl = el
                  · subst h3
                    by_cases h4 : zr = et
                    · subst h4
                      have hcc := HBS.out _ (List.mem_of_getElem? HX.out) rfl rfl rfl rfl rfl
                      have hcd : decide (zc ≤ ev) = true := decide_eq_true hcc
                      have CW2 := CW (wr.alloc (.cells #[.int .i64 f, .int .i64 t, .string zs, .int .i64 zl, .int .i64 zr, .int .i64 zc, .int .i64 zk] 49)) (g7.tr (aB.al hg.out _))
                      clear hcc HNX
                      go_wp2_with fail
                      refine CW2.out.mono ?_
                      rintro e w8 ⟨rfl, hg8⟩
                      go_wp2_with fail
                      go_ret
                      exact ⟨rfl, (g7.tr (aB.al hg.out _)).tr hg8⟩
                    · have HNE := HNX.out (fun h => h4 h.2.2.2.2)
                      have bq4 : (zr == et) = false := by rw [beq_eq_false_iff_ne]; exact h4
                      clear h4
                      go_wp2_with fail
                      go_roundw
                      case rel => exact ⟨k + 1, hlt, by go_num, aB.al hg.out _, HNE⟩
                      case measure => simp [intOf]; omega
                  · have HNE := HNX.out (fun h => h3 h.2.2.2.1)
                    have bq3 : (zl == el) = false := by rw [beq_eq_false_iff_ne]; exact h3
                    clear h3
                    go_wp2_with fail
                    go_roundw
                    case rel => exact ⟨k + 1, hlt, by go_num, aB.al hg.out _, HNE⟩
                    case measure => simp [intOf]; omega
                · have HNE := HNX.out (fun h => h2 h.2.2.1)
                  have hsn : ¬ zs.toList = es.toList := fun e => h2 (yC0 (by rw [Lib.toList_data, Lib.toList_data] at e; exact e))
                  have bq2 : (zs.toList == es.toList) = false := by rw [beq_eq_false_iff_ne]; exact hsn
                  clear h2
                  go_wp2_with fail
                  go_roundw
                  case rel => exact ⟨k + 1, hlt, by go_num, aB.al hg.out _, HNE⟩
                  case measure => simp [intOf]; omega
              · have HNE := HNX.out (fun h => h1 h.2.1)
                have bq1 : ((zt : Int) == t) = false := by rw [beq_eq_false_iff_ne]; exact h1
                clear h1
                go_wp2_with fail
                go_roundw
                case rel => exact ⟨k + 1, hlt, by go_num, aB.al hg.out _, HNE⟩
                case measure => simp [intOf]; omega
            · have HNE := HNX.out (fun h => h0 h.1)
              have bq0 : ((zf : Int) == f) = false := by rw [beq_eq_false_iff_ne]; exact h0
              clear h0
              go_wp2_with fail
              go_roundw
              case rel => exact ⟨k + 1, hlt, by go_num, aB.al hg.out _, HNE⟩
              case measure => simp [intOf]; omega
          · exfalso
            obtain rfl : k = L.length := by omega
            obtain ⟨z, hz, h1⟩ := HAN.out
            obtain ⟨j, hj, hj2⟩ := List.getElem_of_mem hz
            exact hpast.out j z hj (by rw [List.getElem?_eq_getElem hj, hj2]) h1
      · clear HPL
        have CW2 := CW w7 g7
        generalize ptC C f t = pt at hpe ⊢
        have hsn : ¬ pt.toList = er.toList := fun e => hpe (yC0 (by rw [Lib.toList_data, Lib.toList_data] at e; exact e))
        have hsb : (pt.toList == er.toList) = false := by rw [beq_eq_false_iff_ne]; exact hsn
        go_wp2_with fail
        refine CW2.out.mono ?_
        rintro e w8 ⟨rfl, hg8⟩
        go_wp2_with fail
        go_ret
        exact ⟨rfl, g7.tr hg8⟩
    · have CT := hCutN t hft (by omega) w6 g6
      clear hCutY hCutN
      go_wp2_with fail
      refine CT.out.mono ?_
      rintro e w7 ⟨rfl, hg7⟩
      have g7 := g6.tr hg7
      have CW2 := CW w7 g7
      clear CT HAT q4
      go_wp2_with fail
      refine CW2.out.mono ?_
      rintro e w8 ⟨rfl, hg8⟩
      go_wp2_with fail
      go_ret
      exact ⟨rfl, g7.tr hg8⟩
  · rw [Bool.not_eq_true] at hbt
    subst hbt
    have CW2 := CW w1 g1
    clear hb q3 q4
    go_wp2_with fail
    refine CW2.out.mono ?_
    rintro e w4 ⟨rfl, hg4⟩
    go_wp2_with fail
    go_ret
    exact ⟨rfl, g1.tr hg4⟩
end Go.Proofs.YtaogeadljgjpcaaGreatDoor
