import Derived.Test.YtjhajgffmnkocaaGreatDoorPq45
import Derived.Test.YtjhajgffmnkocaaGreatDoorR30b
import Derived.Deep.Cut
namespace Go.Proofs.YtjhajgffmnkocaaGreatDoor
open Go Go.RowKit Go.Shelf
attribute [local go_sem] aO aM

theorem cntCells_one (x : Cnt) : ∀ u ∈ kC x, u.oneCell' = true := by
  intro u hu
  simp [kC] at hu
  rcases hu with rfl | rfl <;> rfl
theorem cntLay : dZ Tryz.prog 27 58 2 24 kC where
  sl := Tryz.underlying27
  info := iH (z := .agg #[.string ⟨#[]⟩, .int .i64 0]) (by kernel_rfl) rfl
  pos := by decide
  by1 := by decide
  len _ := rfl
  one := cntCells_one
def upF (n v : Int) : Int := max v (min v 1099511627776 + n)
theorem upF_le (n v : Int) : v ≤ upF n v := Int.le_max_left _ _
theorem upF_wf {n v : Int} (h : WfI v) (h0 : 0 ≤ n) (h1 : n ≤ 16711680) : WfI (upF n v) := by
  have := tB0 h
  unfold WfI upF
  exact WalkArith.wf_i64 (by omega)
theorem hasK_snoc (k : ByteArray) (l : List Cnt) (c : Cnt) : aY1 k (l ++ [c]) = (aY1 k l || decide (c.k = k)) := by simp [aY1]
theorem rzL_len (k : ByteArray) (f : Int → Int) : ∀ l : List Cnt, (rzL k f l).length = l.length
  | [] => rfl
  | c :: l => by
    unfold rzL
    split
    · simp
    · simp [rzL_len k f l]
theorem rzA_mem {k : ByteArray} {f : Int → Int} {n : Int} {l : List Cnt} (hl : ∀ c ∈ l, uM0 c) (hz : ∀ c ∈ l, c.k.size ≤ 1048576) (hf : ∀ v, WfI v → WfI (f v)) (hk : k.size ≤ 1048576) (hn : WfI n) : ∀ c ∈ rzA k f n l, uM0 c ∧ c.k.size ≤ 1048576 := by
  have H : ∀ l : List Cnt, (∀ c ∈ l, uM0 c) → (∀ c ∈ l, c.k.size ≤ 1048576) → ∀ c ∈ rzL k f l, uM0 c ∧ c.k.size ≤ 1048576 := fun l => by
    induction l with
    | nil => intro _ _ c h; cases h
    | cons d l ih =>
      intro h1 h2 c hc
      unfold rzL at hc
      split at hc
      · rcases List.mem_cons.1 hc with rfl | hc
        · exact ⟨⟨(h1 d (by simp)).k, hf _ (h1 d (by simp)).v⟩, h2 d (by simp)⟩
        · exact ⟨h1 c (by simp [hc]), h2 c (by simp [hc])⟩
      · rcases List.mem_cons.1 hc with rfl | hc
        · exact ⟨h1 c (by simp), h2 c (by simp)⟩
        · exact ih (fun c hc => h1 c (by simp [hc])) (fun c hc => h2 c (by simp [hc])) c hc
  intro c hc
  unfold rzA at hc
  split at hc
  · exact H l hl hz c hc
  · rcases List.mem_append.1 hc with hc | hc
    · exact ⟨hl c hc, hz c hc⟩
    · rw [List.mem_singleton.1 hc]
      exact ⟨⟨by show k.size ≤ _; unfold maxLen; omega, hn⟩, hk⟩
set_option maxHeartbeats 8000000 in
set_option maxRecDepth 100000 in
theorem ris38_any (x : zZ0) (A : oI0) (at_ uses : Nat) (ha8 : at_ < 256) (hu8 : uses < 256) (w : World) (he : Env w) (hok : mP1 x) (hat : fE0 w A x) :
    Calls Tryz.prog 7 #[A.agg x, .int .u8 at_, .int .u8 uses] w fun e w' => e = .returned (.bool true) ∧ aB w w' := by
  have hmw := hok.m
  have hco := hok.c
  obtain ⟨⟨xp, xd, xs, xe⟩, cs, pf, pv, most⟩ := x
  obtain ⟨⟨pa, pc, sa, sc, ea, ec⟩, ca, cc⟩ := A
  obtain ⟨W1, hW1⟩ := exq (w.alloc (.cells #[.slice pa xp.length pc, .int .i64 xd, .slice sa xs.length sc, .slice ea xe.length ec, .slice ca cs.length cc, .string pf, .string pv, .int .i64 most] 29))
  have hg1 : aB w W1 := by rw [hW1]; exact aB.alloc _ _
  obtain ⟨xb, hxb⟩ := exq w.heap.size
  obtain ⟨bc, _⟩ := cG (show aB (w.alloc (.cells #[.slice pa xp.length pc, .int .i64 xd, .slice sa xs.length sc, .slice ea xe.length ec, .slice ca cs.length cc, .string pf, .string pv, .int .i64 most] 29)) W1 by rw [hW1]; exact aB.refl _)
  have q0 := bc 0 _ rfl
  have q1 := bc 1 _ rfl
  have q2 := bc 2 _ rfl
  have q3 := bc 3 _ rfl
  have q4 := bc 4 _ rfl
  have q5 := bc 5 _ rfl
  have q6 := bc 6 _ rfl
  have q7 := bc 7 _ rfl
  rw [← hxb] at q0 q1 q2 q3 q4 q5 q6 q7
  have CL := Lib.hid (light38_any ⟨⟨xp, xd, xs, xe⟩, cs, pf, pv, most⟩ ⟨⟨pa, pc, sa, sc, ea, ec⟩, ca, cc⟩ W1 hok (hat.grows hg1))
  have CW := fun (u : World) (hu : aB w u) => Lib.hid (works38_any u (he.grows hu))
  have HLB := Lib.hid (lightA_of (x := ⟨⟨xp, xd, xs, xe⟩, cs, pf, pv, most⟩))
  have CO := fun (u : World) (hu : aB w u) (hl : nY ⟨xp, xd, xs, xe⟩ = true) => Lib.hid (yB0 ⟨xp, xd, xs, xe⟩ ⟨pa, pc, sa, sc, ea, ec⟩ ca cs.length cc pf pv most u (he.grows hu) hok.s hl (hat.s.grows hu))
  unfold oI0.agg oI0.cells at CL
  simp only at CL CO
  obtain ⟨LB, hLB⟩ := exq (wX ⟨⟨xp, xd, xs, xe⟩, cs, pf, pv, most⟩)
  rw [← hLB] at CL HLB
  show Calls _ _ #[.agg #[.slice pa xp.length pc, .int .i64 xd, .slice sa xs.length sc, .slice ea xe.length ec, .slice ca cs.length cc, .string pf, .string pv, .int .i64 most], .int .u8 at_, .int .u8 uses] _ _
  have HE := Lib.hid he
  have HCC := Lib.hid hat.c
  have HEE := Lib.hid hat.s.e
  have HCO := Lib.hid hco
  have HW1 := Lib.hid (And.intro hW1 hxb)
  simp only at hmw
  clear hW1 hxb bc hLB he hok hat hco
  go_enter Tryz.func7, Tryz.ntmps7
  go_wp2_with fail
  rw [← HW1.out.1, ← HW1.out.2]
  clear HW1
  refine CL.out.mono ?_
  rintro e w2 ⟨rfl, hg2⟩
  have g2 := hg1.tr hg2
  cases LB with
  | false =>
    go_wp2_with fail
    go_ret
    exact ⟨rfl, g2⟩
  | true =>
    obtain ⟨hl, hcl, hpf, hpv, hcz⟩ := HLB.out rfl
    have HCZ := Lib.hid hcz
    have CO2 := CO w2 g2 hl
    have r0 := hg2.cell q0
    have r1 := hg2.cell q1
    have r2 := hg2.cell q2
    have r3 := hg2.cell q3
    have r4 := hg2.cell q4
    have r5 := hg2.cell q5
    have r6 := hg2.cell q6
    have r7 := hg2.cell q7
    clear CL HLB CO hcz q0 q1 q2 q3 q4 q5 q6 q7
    go_wp2_with fail
    refine CO2.out.mono ?_
    rintro e w3 ⟨hg3, hd⟩
    clear CO2
    have g3 := g2.tr hg3
    rcases hd with ⟨hne, rfl⟩ | ⟨db, m, rfl, hd⟩
    · obtain ⟨E, hE⟩ := exq (pI xp (dL0 ⟨xp, xd, xs, xe⟩) xe)
      rw [← hE] at hne ⊢
      have hEb : (E != 0) = true := by simpa using hne
      have CW3 := CW w3 g3
      clear hE hne r0 r1 r2 r3 r4 r5 r6 r7 CW HE HCC HCO HCZ
      go_wp2_with fail
      refine CW3.out.mono ?_
      rintro e w4 ⟨rfl, hg4⟩
      clear CW3
      go_wp2_with fail
      go_ret
      exact ⟨rfl, g3.tr hg4⟩
    · have q0 := hg3.cell r0
      have q1 := hg3.cell r1
      have q2 := hg3.cell r2
      have q3 := hg3.cell r3
      have q4 := hg3.cell r4
      have q5 := hg3.cell r5
      have q6 := hg3.cell r6
      have q7 := hg3.cell r7
      have HG3 := Lib.hid g3
      have HDK := Lib.hid hd.dk
      have HD := Lib.hid hd.d
      simp only at HDK HD
      have CP := fun (cs : List Cnt) (ca : Option Addr) (cc : Nat) (pf pv : ByteArray) (most : Int) (hcl : cs.length ≤ 1048576) (hco : ∀ c ∈ cs, uM0 c) (hcz : ∀ c ∈ cs, c.k.size ≤ 1048576) (hpf : pf.size ≤ 1048576) (hpv : pv.size ≤ 1048576) (u : World) (hu : aB w3 u) (hca : aG u ca 2 (cs.map kC)) => Lib.hid (lI0 xp m (sortS xe) db cs ca cc pf pv most u (HE.out.grows (HG3.out.tr hu)) HDK.out (HD.out.grows hu) hcl hco hcz hca hpf hpv)
      have HXZ : Hid (∀ c ∈ cs, c.k.size ≤ 1048576) := fun c hc => by have := HCZ.out c hc; omega
      have HXE := Lib.hid (cost_sort xe)
      have HXM : Hid (∀ y ∈ sortS xe, y ∈ xe) := fun y hy => eN0 hy
      generalize sortS xe = es at CP HDK HD HXE HXM
      clear hd g3 g2 hg1 hg2 hg3 r0 r1 r2 r3 r4 r5 r6 r7 HCZ hl
      have C1 := CP cs ca cc pf pv most (by omega) HCO.out HXZ.out (by omega) (by omega) w3 (aB.refl _) (HCC.out.grows HG3.out)
      have HPZ : Hid (∀ x ∈ sW es cs pf pv most, x.r.size ≤ 1048576 ∧ x.s.size ≤ 1048576) := fun x hx => by
        unfold sW at hx
        split at hx
        · exact tA0 HDK.out (qE hx).1
        · cases hx
      have HLN : Hid ((sW es cs pf pv most).length ≤ 60) := by
        show _ ≤ _
        unfold sW
        split
        · have := guessL_len es cs pf pv most
          omega
        · exact Nat.zero_le _
      have HLN2 : Hid (∀ cs' q, (sW es cs' pf pv q).length ≤ 1048576) := fun cs' q => by
        unfold sW
        split
        · have := guessL_len es cs' pf pv q
          omega
        · exact Nat.zero_le _
      have HRS : Hid (∀ (i : Nat) (x : Gs) (k : ByteArray) (f : Int → Int) (n : Int), (sW es cs pf pv most)[i]? = some x → kU k 1 x.r x.s → (∀ v, v ≤ f v) → 0 ≤ qW (sW es (rzA k f n cs) pf pv most) x.r x.s ∧ qW (sW es (rzA k f n cs) pf pv most) x.r x.s ≤ i) := fun i x k f n hx hk hf => by
        unfold sW at hx ⊢
        split at hx
        · rename_i hv
          rw [if_pos hv]
          exact guessL_rises hk hf hx rfl rfl
        · cases hx
      obtain ⟨L, hL⟩ := exq (sW es cs pf pv most)
      rw [← hL] at C1 HPZ HLN HRS
      have hw8 : IntKind.i64.wrap (at_ : Int) = at_ := by simp [IntKind.wrap, IntKind.bits, IntKind.signed]; omega
      clear hL
      go_wp2_with fail
      refine C1.out.mono ?_
      rintro e w4 ⟨v4, rfl, hv4, hg4⟩
      obtain ⟨a4, c4, rfl, _, _, hat4⟩ := hv4.at_ eN1.len
      have hl60 := HLN.out
      have H4 := Lib.hid hat4
      have q4 := hg4.cell q4
      have q5 := hg4.cell q5
      have q6 := hg4.cell q6
      have q7 := hg4.cell q7
      have CW5 := fun (u : World) (hu : aB w4 u) => CW u ((HG3.out.tr hg4).tr hu)
      have HG5 := Lib.hid (HG3.out.tr hg4)
      have HG4 := Lib.hid hg4
      clear C1 hv4 hat4 CW q0 q1 q2 q3
      by_cases hge : L.length ≤ at_
      · have hd1 : decide ((L.length : Int) ≤ at_) = true := decide_eq_true (by omega)
        have hd2 : decide (L.length ≤ at_) = true := decide_eq_true hge
        have CW6 := CW5 w4 (aB.refl _)
        have HG6 := HG5
        clear CW5 CP HRS HPZ hge q4 q5 q6 q7
        go_wp2_with fail
        refine CW6.out.mono ?_
        rintro e w6 ⟨rfl, hg6⟩
        have HG7 := Lib.hid (HG6.out.tr hg6)
        clear CW6 hg6
        go_wp2_with fail
        go_ret
        exact ⟨rfl, HG7.out⟩
      · have hd1 : decide ((L.length : Int) ≤ at_) = false := decide_eq_false (by omega)
        have hd2 : decide (L.length ≤ at_) = false := decide_eq_false hge
        have hlt : at_ < L.length := by omega
        have hli : (at_ : Int) < L.length := by omega
        have hl0 : (0 : Int) ≤ at_ := by omega
        obtain ⟨⟨xr, xs', xc⟩, hx⟩ : ∃ y, L[at_]? = some y := ⟨_, List.getElem?_eq_getElem hlt⟩
        obtain ⟨hzr, hzs⟩ := HPZ.out _ (List.mem_of_getElem? hx)
        simp only at hzr hzs
        obtain ⟨ba, oa, rfl, hca⟩ := H4.out.get (aJ hlt)
        have c0 : w4.cell? ⟨ba, oa + at_ * 3, none⟩ = some (.string xr) := hca at_ _ hx 0 _ rfl
        have c1 : w4.cell? ⟨ba, oa + at_ * 3 + 1, none⟩ = some (.string xs') := hca at_ _ hx 1 _ rfl
        have c2 : w4.cell? ⟨ba, oa + at_ * 3 + 2, none⟩ = some (.int .i64 xc) := hca at_ _ hx 2 _ rfl
        have HRS2 := Lib.hid (fun k f n => HRS.out at_ _ k f n hx)
        simp only at HRS2
        have CM := fun (u : World) => Lib.hid (make30_any 1 xr xs' u (by omega) (by omega))
        unfold bN0 at CM
        obtain ⟨W5, hW5⟩ := exq (w4.alloc (.cells #[.string xr, .string xs', .int .i64 xc] 49))
        obtain ⟨gb, hgb⟩ := exq w4.heap.size
        have gW5 : aB w4 W5 := by rw [hW5]; exact aB.alloc _ _
        have d0 : W5.cell? ⟨gb, 0, none⟩ = some (.string xr) := by rw [hW5, hgb]; exact aT w4 _ _ (0, 0) 0 _ rfl
        have d1 : W5.cell? ⟨gb, 1, none⟩ = some (.string xs') := by rw [hW5, hgb]; exact aT w4 _ _ (0, 0) 1 _ rfl
        have HW5 := Lib.hid (And.intro hW5 hgb)
        clear hca hx HRS HPZ hW5 hgb hge
        cases hok : okK 1 xr xs' with
        | false =>
          rw [hok] at CM
          clear hok HRS2 CP q4 q5 q6 q7
          go_wp2_with fail
          rw [← HW5.out.1]
          refine (CM _).out.mono ?_
          rintro e w6 ⟨rfl, hg6⟩
          have CW6 := CW5 w6 (gW5.tr hg6)
          have HG6 := Lib.hid (HG5.out.tr (gW5.tr hg6))
          clear CM CW5 HW5 c0 c1 c2 d0 d1
          go_wp2_with fail
          refine CW6.out.mono ?_
          rintro e w7 ⟨rfl, hg7⟩
          have HG7 := Lib.hid (HG6.out.tr hg7)
          clear CW6 hg7
          go_wp2_with fail
          go_ret
          exact ⟨rfl, HG7.out⟩
        | true =>
          have HK : Hid (kU (keyK 1 xr xs') 1 xr xs') := ⟨hok, rfl⟩
          have hkz := zT0 hok
          rw [hok] at CM
          simp only [if_true] at CM
          obtain ⟨k, hk⟩ := exq (keyK 1 xr xs')
          rw [← hk] at CM HK hkz
          clear hok hk
          go_wp2_with fail
          rw [← HW5.out.1, ← HW5.out.2]
          refine (CM _).out.mono ?_
          rintro e w6 ⟨rfl, hg6⟩
          have g46 := gW5.tr hg6
          have d0 := hg6.cell d0
          have d1 := hg6.cell d1
          have q4 := g46.cell q4
          have q5 := g46.cell q5
          have q6 := g46.cell q6
          have q7 := g46.cell q7
          have HG46 := Lib.hid g46
          have hzb : gb < w6.heap.size := World.block_lt_of_cell? w6 _ d0
          have H6 := Lib.hid (HCC.out.grows (HG3.out.tr (HG4.out.tr g46)))
          obtain ⟨N, hN⟩ : ∃ N : Int, N = 65536 * (uses : Int) := ⟨_, rfl⟩
          have hN2 : 0 ≤ N ∧ N ≤ 16711680 := by omega
          have hwu : IntKind.i64.wrap (uses : Int) = uses := by simp [IntKind.wrap, IntKind.bits, IntKind.signed]; omega
          have hwn : IntKind.i64.wrap (65536 * (uses : Int)) = N := by rw [hN]; simp [IntKind.wrap, IntKind.bits, IntKind.signed]; omega
          clear CM HW5 c0 c1 c2 hN
          go_wp2_with fail
          go_loopw [13, 14, 15] (fun v kn i wr => ∃ n : Nat, n ≤ cs.length ∧ i = .int .i64 n ∧ Hid (aU wr w6.heap.size 58 2 kC v (rzL k (upF N) (cs.take n))) ∧ kn = .bool (aY1 k (cs.take n)) ∧ Hid (aB w6 wr)) (fun _ _ i _ => cs.length - (intOf i).toNat)
          case atStart => exact ⟨0, Nat.zero_le _, rfl, aU.nil _ _ _ _ _, rfl, aB.refl _⟩
          case round =>
            obtain ⟨n, hn, rfl, hO, rfl, hg⟩ := hrel
            have q4w := hg.out.cell q4
            by_cases hlt2 : n < cs.length
            · have hni : (n : Int) < cs.length := by omega
              obtain ⟨⟨ck, cv⟩, hc⟩ : ∃ y, cs[n]? = some y := ⟨_, List.getElem?_eq_getElem hlt2⟩
              have hcv : WfI cv := (HCO.out _ (List.mem_of_getElem? hc)).v
              have hcvb := tB0 hcv
              obtain ⟨bc2, oc, rfl, hcc⟩ := (H6.out.grows hg.out).get (aJ hlt2)
              have e0 : wr.cell? ⟨bc2, oc + n * 2, none⟩ = some (.string ck) := hcc n _ hc 0 _ rfl
              have e1 : wr.cell? ⟨bc2, oc + n * 2 + 1, none⟩ = some (.int .i64 cv) := hcc n _ hc 1 _ rfl
              have HTK : Hid (cs.take (n + 1) = cs.take n ++ [⟨ck, cv⟩]) := bJ hc
              have hlr : (rzL k (upF N) (cs.take n)).length ≤ 100 := by rw [rzL_len, List.length_take]; omega
              obtain ⟨l0, hl0'⟩ := exq (rzL k (upF N) (cs.take n))
              have HL0 := Lib.hid hl0'
              rw [← hl0'] at hO hlr
              have hO0 := hO.out
              have hsz := hg.out.size
              obtain ⟨kn, hkn⟩ := exq (aY1 k (cs.take n))
              have HKN := Lib.hid hkn
              rw [← hkn]
              clear hcc hc hl0' hkn hO
              by_cases hr : ck = k ∧ kn = false
              · obtain ⟨rfl, rfl⟩ := hr
                have HZ : Hid (rzL ck (upF N) (cs.take (n + 1)) = l0 ++ [⟨ck, upF N cv⟩] ∧ aY1 ck (cs.take (n + 1)) = true) := by
                  rw [HTK.out, fW1, if_pos ⟨rfl, HKN.out.symm⟩, ← HL0.out, hasK_snoc]
                  exact ⟨rfl, by simp⟩
                have hwa : IntKind.i64.wrap (min cv 1099511627776 + N) = min cv 1099511627776 + N := by simp [IntKind.wrap, IntKind.bits, IntKind.signed]; omega
                have hup : max cv (min cv 1099511627776 + N) = upF N cv := rfl
                obtain ⟨U, hU⟩ := exq (upF N cv)
                rw [← hU] at hup HZ
                clear hU
                go_wp2_with (first | (at_builtin; refine pX0 cntLay rfl _ _ rfl w6.heap.size _ l0 ⟨ck, U⟩ rfl hO0 (aB.alloc _ _) _ 1 (by simp) _ rfl rfl (by omega) hsz ?_; intro v8 w8 hO8 hg8a hg8b))
                have hO9 : Hid (aU w8 w6.heap.size 58 2 kC v8 (rzL ck (upF N) (cs.take (n + 1)))) := by rw [HZ.out.1]; exact hO8
                have HG8 := Lib.hid (hg8b w6 hg.out (Nat.le_refl _))
                clear hO8 hO0
                go_roundw
                case rel => exact ⟨n + 1, hlt2, by go_num, hO9, by rw [HZ.out.2], HG8⟩
                case measure => simp [intOf]; omega
              · have HZ : Hid (rzL k (upF N) (cs.take (n + 1)) = l0 ++ [⟨ck, cv⟩] ∧ aY1 k (cs.take (n + 1)) = kn) := by
                  rw [HTK.out, fW1, if_neg (fun h => hr ⟨h.1, HKN.out.trans h.2⟩), ← HL0.out, hasK_snoc, ← HKN.out]
                  refine ⟨rfl, ?_⟩
                  cases kn with
                  | true => rfl
                  | false => simpa using fun e => hr ⟨e, rfl⟩
                by_cases hek : ck = k
                · have hkt : kn = true := by
                    cases kn with
                    | true => rfl
                    | false => exact absurd ⟨hek, rfl⟩ hr
                  subst hkt hek
                  clear hr
                  go_wp2_with (first | (at_builtin; refine pX0 cntLay rfl _ _ rfl w6.heap.size _ l0 ⟨ck, cv⟩ rfl hO0 (aB.alloc _ _) _ 1 (by simp) _ rfl rfl (by omega) hsz ?_; intro v8 w8 hO8 hg8a hg8b))
                  have hO9 : Hid (aU w8 w6.heap.size 58 2 kC v8 (rzL ck (upF N) (cs.take (n + 1)))) := by rw [HZ.out.1]; exact hO8
                  have HG8 := Lib.hid (hg8b w6 hg.out (Nat.le_refl _))
                  clear hO8 hO0
                  go_roundw
                  case rel => exact ⟨n + 1, hlt2, by go_num, hO9, by rw [HZ.out.2], HG8⟩
                  case measure => simp [intOf]; omega
                · obtain ⟨n1, n2⟩ := jV0 hek
                  clear hr hek
                  go_wp2_with (first | (at_builtin; refine pX0 cntLay rfl _ _ rfl w6.heap.size _ l0 ⟨ck, cv⟩ rfl hO0 (aB.alloc _ _) _ 1 (by simp) _ rfl rfl (by omega) hsz ?_; intro v8 w8 hO8 hg8a hg8b))
                  have hO9 : Hid (aU w8 w6.heap.size 58 2 kC v8 (rzL k (upF N) (cs.take (n + 1)))) := by rw [HZ.out.1]; exact hO8
                  have HG8 := Lib.hid (hg8b w6 hg.out (Nat.le_refl _))
                  clear hO8 hO0
                  go_roundw
                  case rel => exact ⟨n + 1, hlt2, by go_num, hO9, by rw [HZ.out.2], HG8⟩
                  case measure => simp [intOf]; omega
            · obtain rfl : n = cs.length := by omega
              have hni : ¬ ((cs.length : Nat) : Int) < cs.length := by omega
              have hO1 := hO.out
              rw [List.take_length] at hO1 ⊢
              obtain ⟨wl, rfl⟩ := exq wr
              have gl := hg.out
              have hsz := gl.size
              clear hO hg H6
              cases hkk : aY1 k cs with
              | true =>
                have hZ : rzA k (upF N) N cs = rzL k (upF N) cs := by unfold rzA; rw [if_pos hkk]
                rw [← hZ] at hO1
                clear hZ
                obtain ⟨wz, hwz⟩ := exq wl
                rw [← hwz] at hO1 gl q4w
                have hOz := hO1
                have gz := gl
                rw [← hwz]
                clear hwz hO1 gl hsz hkk
                obtain ⟨az, cz, rfl, _, _, hatz⟩ := hOz.at_ cntLay.len
                have HRM := Lib.hid (rzA_mem (k := k) (f := upF N) (n := N) HCO.out HXZ.out (fun v hv => upF_wf hv hN2.1 hN2.2) (by omega) (by unfold WfI; exact WalkArith.wf_i64 (by omega)))
                have HRL : Hid ((rzA k (upF N) N cs).length ≤ 101) := by
                  show _ ≤ _
                  unfold rzA
                  split
                  · rw [rzL_len]; omega
                  · rw [List.length_append]; simp; omega
                have hrs := HRS2.out k (upF N) N HK.out (upF_le N)
                obtain ⟨R, hR⟩ := exq (rzA k (upF N) N cs)
                rw [← hR] at hatz HRM HRL hrs ⊢
                have g6z := HG46.out.tr gz
                have CZ := Lib.hid (CP R az cz pf pv most (by have := HRL.out; omega) (fun c hc => (HRM.out c hc).1) (fun c hc => (HRM.out c hc).2) (by omega) (by omega) wz.drew (HG4.out.tr g6z.dr) (hatz.grows (aB.drew _))).out
                have hlz := HLN2.out R most
                obtain ⟨LZ, hLZ⟩ := exq (sW es R pf pv most)
                rw [← hLZ] at CZ hlz hrs
                have r5 : ∀ x : Ext aB wz.drew, x.u.cell? ⟨xb, 5, none⟩ = some (.string pf) := aF (gz.dr.cell q5)
                have r6 : ∀ x : Ext aB wz.drew, x.u.cell? ⟨xb, 6, none⟩ = some (.string pv) := aF (gz.dr.cell q6)
                have r7 : ∀ x : Ext aB wz.drew, x.u.cell? ⟨xb, 7, none⟩ = some (.int .i64 most) := aF (gz.dr.cell q7)
                have s0 : ∀ x : Ext aB wz.drew, x.u.cell? ⟨gb, 0, none⟩ = some (.string xr) := aF (gz.dr.cell d0)
                have s1 : ∀ x : Ext aB wz.drew, x.u.cell? ⟨gb, 1, none⟩ = some (.string xs') := aF (gz.dr.cell d1)
                clear hOz hatz hR hLZ HRM HRL CP HRS2 HK
                go_wp2_with fail
                refine bH [(0, false), (1, false), (2, false), (3, false), (4, false), (5, false), (6, false), (7, false), (9, false), (10, false), (11, false), (12, false), (8, true), (13, true), (14, false)] (by kernel_rfl) (fun d _ _ _ _ h => by cases d <;> exact h) ?_
                iterate 12 (refine aH rfl (fun K hK => ?_); go_simp; refine hK _ ?_; clear hK K)
                refine bG rfl rfl (fun K hK => ?_)
                go_simp
                refine CZ.out.mono ?_
                rintro e w9 ⟨v9, rfl, hv9, hg9⟩
                obtain ⟨a9, c9, rfl, _, _, hat9⟩ := hv9.at_ eN1.len
                refine ⟨hg9, hK _ _ ?_⟩
                clear hK K
                refine bG rfl rfl (fun K hK => ?_)
                go_simp
                refine (place_any LZ a9 c9 xr xs' _ hlz hat9).mono ?_
                rintro e wy ⟨rfl, hgy⟩
                refine ⟨hgy, hK _ _ ?_⟩
                clear hK K
                iterate 1 (refine aH rfl (fun K hK => ?_); go_simp; refine hK _ ?_; clear hK K)
                refine bN ?_
                obtain ⟨P, hP⟩ := exq (qW LZ xr xs')
                rw [← hP] at hrs ⊢
                have CW6 := CW5 wy (g6z.dr.tr (hg9.tr hgy))
                have HG6 := Lib.hid (HG5.out.tr (g6z.dr.tr (hg9.tr hgy)))
                have h1 : decide (0 ≤ P) = true := decide_eq_true hrs.1
                have h2 : decide (P ≤ (at_ : Int)) = true := decide_eq_true hrs.2
                clear r5 r6 r7 s0 s1 CZ hv9 hat9 hP CW5 q4 q5 q6 q7 d0 d1
                go_wp2_with fail
                refine CW6.out.mono ?_
                rintro e wv ⟨rfl, hgv⟩
                have HG7 := Lib.hid (HG6.out.tr hgv)
                clear CW6 hgv
                go_wp2_with fail
                go_ret
                exact ⟨rfl, HG7.out⟩
              | false =>
                have hZ : rzA k (upF N) N cs = rzL k (upF N) cs ++ [⟨k, N⟩] := by unfold rzA; rw [if_neg (by rw [hkk]; decide), mU1 hkk]
                have hll : (rzL k (upF N) cs).length ≤ 100 := by rw [rzL_len]; omega
                obtain ⟨l0, hl0'⟩ := exq (rzL k (upF N) cs)
                rw [← hl0'] at hO1 hll hZ
                clear hl0' hkk
                go_upto_region 25 with (first | (at_builtin; refine pX0 cntLay rfl _ _ rfl w6.heap.size _ l0 ⟨k, N⟩ rfl hO1 (aB.refl _) _ 1 (by simp) _ rfl rfl (by omega) hsz ?_; intro v8 wz hO8 hg8a hg8b))
                go_simp
                have hOz : aU wz w6.heap.size 58 2 kC v8 (rzA k (upF N) N cs) := by rw [hZ]; exact hO8
                have gz := hg8b w6 gl (Nat.le_refl _)
                clear hO8 hO1 hZ hg8a hg8b gl hsz
                obtain ⟨az, cz, rfl, _, _, hatz⟩ := hOz.at_ cntLay.len
                have HRM := Lib.hid (rzA_mem (k := k) (f := upF N) (n := N) HCO.out HXZ.out (fun v hv => upF_wf hv hN2.1 hN2.2) (by omega) (by unfold WfI; exact WalkArith.wf_i64 (by omega)))
                have HRL : Hid ((rzA k (upF N) N cs).length ≤ 101) := by
                  show _ ≤ _
                  unfold rzA
                  split
                  · rw [rzL_len]; omega
                  · rw [List.length_append]; simp; omega
                have hrs := HRS2.out k (upF N) N HK.out (upF_le N)
                obtain ⟨R, hR⟩ := exq (rzA k (upF N) N cs)
                rw [← hR] at hatz HRM HRL hrs ⊢
                have g6z := HG46.out.tr gz
                have CZ := Lib.hid (CP R az cz pf pv most (by have := HRL.out; omega) (fun c hc => (HRM.out c hc).1) (fun c hc => (HRM.out c hc).2) (by omega) (by omega) wz.drew (HG4.out.tr g6z.dr) (hatz.grows (aB.drew _))).out
                have hlz := HLN2.out R most
                obtain ⟨LZ, hLZ⟩ := exq (sW es R pf pv most)
                rw [← hLZ] at CZ hlz hrs
                have r5 : ∀ x : Ext aB wz.drew, x.u.cell? ⟨xb, 5, none⟩ = some (.string pf) := aF (gz.dr.cell q5)
                have r6 : ∀ x : Ext aB wz.drew, x.u.cell? ⟨xb, 6, none⟩ = some (.string pv) := aF (gz.dr.cell q6)
                have r7 : ∀ x : Ext aB wz.drew, x.u.cell? ⟨xb, 7, none⟩ = some (.int .i64 most) := aF (gz.dr.cell q7)
                have s0 : ∀ x : Ext aB wz.drew, x.u.cell? ⟨gb, 0, none⟩ = some (.string xr) := aF (gz.dr.cell d0)
                have s1 : ∀ x : Ext aB wz.drew, x.u.cell? ⟨gb, 1, none⟩ = some (.string xs') := aF (gz.dr.cell d1)
                clear hOz hatz hR hLZ HRM HRL CP HRS2 HK
                go_wp2_with fail
                refine bH [(0, false), (1, false), (2, false), (3, false), (4, false), (5, false), (6, false), (7, false), (9, false), (10, false), (11, false), (12, false), (8, true), (13, true), (14, false)] (by kernel_rfl) (fun d _ _ _ _ h => by cases d <;> exact h) ?_
                iterate 12 (refine aH rfl (fun K hK => ?_); go_simp; refine hK _ ?_; clear hK K)
                refine bG rfl rfl (fun K hK => ?_)
                go_simp
                refine CZ.out.mono ?_
                rintro e w9 ⟨v9, rfl, hv9, hg9⟩
                obtain ⟨a9, c9, rfl, _, _, hat9⟩ := hv9.at_ eN1.len
                refine ⟨hg9, hK _ _ ?_⟩
                clear hK K
                refine bG rfl rfl (fun K hK => ?_)
                go_simp
                refine (place_any LZ a9 c9 xr xs' _ hlz hat9).mono ?_
                rintro e wy ⟨rfl, hgy⟩
                refine ⟨hgy, hK _ _ ?_⟩
                clear hK K
                iterate 1 (refine aH rfl (fun K hK => ?_); go_simp; refine hK _ ?_; clear hK K)
                refine bN ?_
                obtain ⟨P, hP⟩ := exq (qW LZ xr xs')
                rw [← hP] at hrs ⊢
                have CW6 := CW5 wy (g6z.dr.tr (hg9.tr hgy))
                have HG6 := Lib.hid (HG5.out.tr (g6z.dr.tr (hg9.tr hgy)))
                have h1 : decide (0 ≤ P) = true := decide_eq_true hrs.1
                have h2 : decide (P ≤ (at_ : Int)) = true := decide_eq_true hrs.2
                clear r5 r6 r7 s0 s1 CZ hv9 hat9 hP CW5 q4 q5 q6 q7 d0 d1
                go_wp2_with fail
                refine CW6.out.mono ?_
                rintro e wv ⟨rfl, hgv⟩
                have HG7 := Lib.hid (HG6.out.tr hgv)
                clear CW6 hgv
                go_wp2_with fail
                go_ret
                exact ⟨rfl, HG7.out⟩
end Go.Proofs.YtjhajgffmnkocaaGreatDoor
