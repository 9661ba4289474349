import Derived.Test.YtaogeadljgjpcaaGreatDoorParP
namespace Go.Proofs.YtaogeadljgjpcaaGreatDoor
open Go Go.RowKit Go.Shelf
attribute [local go_sem] aQ aM
set_option maxHeartbeats 16000000 in
set_option maxRecDepth 100000 in
theorem parts21_any (c : xN) (A : nS0) (ki kk : Nat) (w : World) (he : Env w) (hok : jJ1 c) (hw1 : ki ≤ 255) (hw2 : kk ≤ 255) (hat : kH0 w A c) :
    Calls Tryz.prog 11 #[A.agg c, .int .u8 ki, .int .u8 kk] w fun e w' => e = .returned (.bool true) ∧ aB w w' := by
  have HE := Lib.hid he
  have CW := fun u (hu : aB w u) => Lib.hid (works21_any u (HE.out.grows hu))
  have HLA := Lib.hid hat.l
  have HOK := Lib.hid hok
  have CN0 := fun (u : World) (hu : aB w u) => Lib.hid (nodes21_any c A u (he.grows hu) hok (hat.grows hu))
  obtain ⟨⟨xp, xd, xs, xe⟩, x, ls⟩ := c
  obtain ⟨⟨pa, pc, sa, sc, ea, ec⟩, la, lc⟩ := A
  simp only at HLA
  obtain ⟨W0, hW0⟩ := exq (w.alloc (.cells #[.slice pa xp.length pc, .int .i64 xd, .slice sa xs.length sc, .slice ea xe.length ec, .string x, .slice la ls.length lc] 33))
  have hg0 : aB w W0 := by rw [hW0]; exact aB.alloc _ _
  obtain ⟨bc, _⟩ := cF (show aB (w.alloc (.cells #[.slice pa xp.length pc, .int .i64 xd, .slice sa xs.length sc, .slice ea xe.length ec, .string x, .slice la ls.length lc] 33)) W0 by rw [hW0]; exact aB.refl _)
  have q4 := bc 4 _ rfl
  have q5 := bc 5 _ rfl
  have q0 := bc 0 _ rfl
  have q1 := bc 1 _ rfl
  have q2 := bc 2 _ rfl
  have q3 := bc 3 _ rfl
  have CN := CN0 W0 hg0
  unfold nS0.agg at CN
  simp only at CN
  show Calls _ _ #[.agg #[.slice pa xp.length pc, .int .i64 xd, .slice sa xs.length sc, .slice ea xe.length ec, .string x, .slice la ls.length lc], .int .u8 ki, .int .u8 kk] _ _
  clear he hok hat bc CN0
  go_enter Tryz.func11, Tryz.ntmps11
  go_wp2_with fail
  rw [← hW0]
  clear hW0
  refine CN.out.mono ?_
  rintro e w1 ⟨hg1, dv, v, b, rfl, hb⟩
  have g1 := hg0.tr hg1
  have q4 := hg1.cell q4
  have q5 := hg1.cell q5
  clear CN q0 q1 q2 q3
  by_cases hbt : b = true
  · subst hbt
    obtain ⟨db, m, C, rfl, hN⟩ := hb rfl
    obtain ⟨a1, c1, rfl, _, _, hat1⟩ := hN.own.at_ oE1.len
    have HAT := Lib.hid hat1
    have hfew := hN.few
    have hcl := hN.le
    have hcl0 : 1 ≤ C.length := List.length_pos_iff.2 hN.ne
    have hxs : x.size ≤ 400 := (bW1 hN.li).2.1
    have hl40 : ls.length ≤ 40 := (bW1 hN.li).2.2.1
    have HL4 : Hid (∀ y ∈ ls, y.r.size ≤ 400 ∧ y.s.size ≤ 400) := (bW1 hN.li).2.2.2
    have hval : Lib.validD x.data.toList = true := by
      have h1 := (fR hN.co).1
      rw [hN.fl] at h1
      exact h1
    have hrn : bD x.data.toList = uP C := by
      have h1 := (fR hN.co).2
      rw [hN.fl] at h1
      exact h1
    have CR := Lib.hid (uF0 x w1 (by omega) (HE.out.grows g1) hval)
    rw [hrn] at CR
    have hcll : (uP C).length = C.length := List.length_map ..
    have HN := Lib.hid hN
    have HND : Hid (∀ y ∈ gT1 ⟨⟨xp, xd, xs, xe⟩, x, ls⟩ C, 0 ≤ y.f ∧ y.f < y.t ∧ y.t ≤ C.length ∧ 0 ≤ y.c ∧ y.c ≤ 30000 ∧ y.s.size ≠ 0 ∧ 0 ≤ y.l ∧ y.l < xp.length ∧ 0 ≤ y.r ∧ y.r < xp.length ∧ 1 ≤ y.k ∧ y.k ≤ 3) := fun y hy => nodes_ok hN.co (dic_ents hN.d) ls (dic_plain hN.d) hy
    have HPT := fun (hh : ∀ x ∈ C, xT0 x = false) (a b : Nat) (hb : b ≤ C.length) => Lib.hid (parts_plain (c := ⟨⟨xp, xd, xs, xe⟩, x, ls⟩) hh (a := a) hb)
    simp only at HPT
    generalize gT1 ⟨⟨xp, xd, xs, xe⟩, x, ls⟩ C = L at HAT hfew HND HPT ⊢
    clear hN hb hat1 hval hrn
    go_wp2_with fail
    refine CR.out.mono ?_
    rintro e w2 ⟨a2, c2, rfl, hc2, hat2, hg2⟩
    have HA2 := Lib.hid hat2
    rw [hcll] at hc2 ⊢
    have g2 := g1.tr hg2
    have q4 := hg2.cell q4
    have q5 := hg2.cell q5
    clear CR hat2 hc2
    go_wp2_with fail
    go_loopw [12] (fun i wr => ∃ k : Nat, k ≤ C.length ∧ i = .int .i64 k ∧ Hid (∀ x ∈ C.take k, xT0 x = false) ∧ wr = w2) (fun i _ => C.length - (intOf i).toNat)
    case atStart => exact ⟨0, Nat.zero_le _, rfl, (by intro x hx; cases hx), rfl⟩
    case round =>
      obtain ⟨k, hk, rfl, hall, rfl⟩ := hrel
      by_cases hlt : k < C.length
      · have hki : (k : Int) < C.length := by omega
        obtain ⟨c, hc⟩ : ∃ c, C[k]? = some c := ⟨_, List.getElem?_eq_getElem hlt⟩
        have hcn : (uP C)[k]? = some (Lib.decodeL c).1 := by unfold uP; rw [List.getElem?_map, hc]; rfl
        obtain ⟨b2, o2, rfl, hca⟩ := HA2.out.get (aK (show k < (uP C).length by omega))
        have c0 := hca k _ hcn 0 _ rfl
        simp only [Nat.mul_one, Nat.add_zero] at c0
        have CCl := Lib.hid (sH ((Lib.decodeL c).1 : Int) wr)
        have HC := Lib.hid hc
        have hod : xT0 c = !jW ((Lib.decodeL c).1 : Int) := rfl
        generalize hrr : (Lib.decodeL c).1 = rr at c0 CCl hod
        cases hh : jW (rr : Int) with
        | true =>
          have HALL : Hid (∀ x ∈ C.take (k + 1), xT0 x = false) := show ∀ x ∈ C.take (k + 1), xT0 x = false from fun y hy => by
            rw [bM HC.out] at hy
            rcases List.mem_append.1 hy with h | h
            · exact hall.out y h
            · obtain rfl := List.mem_singleton.1 h
              rw [hod, hh]
              rfl
          clear hc hca hcn hod hrr
          go_wp2_with fail
          refine CCl.out.mono ?_
          rintro e w3 ⟨r, rfl, hr, rfl⟩
          have hr1 : r = 1 := hr.2 hh
          clear hr
          subst hr1
          go_wp2_with fail
          go_roundw
          case rel => exact ⟨k + 1, hlt, by go_num, HALL, trivial⟩
          case measure => simp [intOf]; omega
        | false =>
          have CW2 := CW wr g2
          clear hc hca hcn hod hrr
          go_wp2_with fail
          refine CCl.out.mono ?_
          rintro e w3 ⟨r, rfl, hr, rfl⟩
          have hr1 : r ≠ 1 := fun h => by rw [hr.1 h] at hh; cases hh
          have hrb : (r != 1) = true := by simpa using hr1
          clear hr hr1
          go_wp2_with fail
          refine CW2.out.mono ?_
          rintro e w4 ⟨rfl, hg4⟩
          go_wp2_with fail
          go_ret
          exact ⟨rfl, g2.tr hg4⟩
      · obtain rfl : k = C.length := by omega
        have hki : ¬ ((C.length : Nat) : Int) < C.length := by omega
        have HALL : Hid (∀ x ∈ C, xT0 x = false) := show ∀ x ∈ C, xT0 x = false from fun y hy => hall.out y (by rw [List.take_length]; exact hy)
        -- the ends of the part
        obtain ⟨f, hf⟩ := exq (ki % C.length)
        have hfl : f < C.length := by rw [hf]; exact Nat.mod_lt _ (by omega)
        have hmod1 : Int.tmod (ki : Int) C.length = f := by rw [hf]; exact (Int.ofNat_tmod ki C.length).symm
        obtain ⟨n, hn⟩ := exq (C.length - f)
        have hn1 : 1 ≤ n := by omega
        have hnI : (C.length : Int) - f = n := by omega
        obtain ⟨r, hr⟩ := exq (kk % n)
        have hrl : r < n := by rw [hr]; exact Nat.mod_lt _ (by omega)
        have hmod2 : Int.tmod (kk : Int) n = r := by rw [hr]; exact (Int.ofNat_tmod kk n).symm
        obtain ⟨t, ht⟩ := exq (f + 1 + r)
        have hft : f < t := by omega
        have htl : t ≤ C.length := by omega
        have htI : (f : Int) + 1 + r = t := by omega
        have wat1 : IntKind.i64.wrap (ki : Int) = ki := pN0 (by omega)
        have wat2 : IntKind.i64.wrap (kk : Int) = kk := pN0 (by omega)
        have wf : IntKind.i64.wrap (f : Int) = f := pN0 (by omega)
        have wf1 : IntKind.i64.wrap ((f : Int) + 1) = f + 1 := pN0 (by omega)
        have wn : IntKind.i64.wrap ((C.length : Int) - f) = n := by rw [hnI]; exact pN0 (by omega)
        have wr' : IntKind.i64.wrap (r : Int) = r := pN0 (by omega)
        have wt : IntKind.i64.wrap ((f : Int) + 1 + r) = t := by rw [htI]; exact pN0 (by omega)
        have hC0 : ¬ (C.length : Int) = 0 := by omega
        have hn0 : ¬ (n : Int) = 0 := by omega
        obtain ⟨u3, rfl⟩ := exq wr
        have HAT3 := Lib.hid (HAT.out.grows hg2)
        clear hf hn hr ht hall HAT
        go_wp2_with fail
        go_wp2_with fail
        go_loopw [15, 16] (fun v i wr => ∃ k : Nat, k ≤ L.length ∧ i = .int .i64 k ∧ Hid (aV wr u3.heap.size 49 7 dX v (partL (L.take k) f t)) ∧ Hid (aB u3 wr)) (fun _ i _ => L.length - (intOf i).toNat)
        case atStart => exact ⟨0, Nat.zero_le _, rfl, aV.nil _ _ _ _ _, aB.refl _⟩
        case round =>
          obtain ⟨k, hk, rfl, hown, hg⟩ := hrel
          by_cases hlt : k < L.length
          · have hki2 : (k : Int) < L.length := by omega
            obtain ⟨⟨zf, zt, zs, zl, zr, zc, zk⟩, hx⟩ : ∃ x, L[k]? = some x := ⟨_, List.getElem?_eq_getElem hlt⟩
            obtain ⟨b2, o2, rfl, hca⟩ := (HAT3.out.grows hg.out).get (aK hlt)
            have c0 : wr.cell? ⟨b2, o2 + k * 7, none⟩ = some (.int .i64 zf) := hca k _ hx 0 _ rfl
            have c1 : wr.cell? ⟨b2, o2 + k * 7 + 1, none⟩ = some (.int .i64 zt) := hca k _ hx 1 _ rfl
            have c2 : wr.cell? ⟨b2, o2 + k * 7 + 2, none⟩ = some (.string zs) := hca k _ hx 2 _ rfl
            have c3 : wr.cell? ⟨b2, o2 + k * 7 + 3, none⟩ = some (.int .i64 zl) := hca k _ hx 3 _ rfl
            have c4 : wr.cell? ⟨b2, o2 + k * 7 + 4, none⟩ = some (.int .i64 zr) := hca k _ hx 4 _ rfl
            have c5 : wr.cell? ⟨b2, o2 + k * 7 + 5, none⟩ = some (.int .i64 zc) := hca k _ hx 5 _ rfl
            have c6 : wr.cell? ⟨b2, o2 + k * 7 + 6, none⟩ = some (.int .i64 zk) := hca k _ hx 6 _ rfl
            obtain ⟨d1, d2, d3, _⟩ := HND.out _ (List.mem_of_getElem? hx)
            simp only at d1 d2 d3
            by_cases h1 : (f : Int) ≤ zf
            · by_cases h2 : zt ≤ (t : Int)
              · have HPY := Lib.hid (partL_yes hx ⟨h1, h2⟩)
                have hpl := partL_len (L.take k) f t
                rw [List.length_take] at hpl
                have wz1 : IntKind.i64.wrap (zf - f) = zf - f := pN0 (by omega)
                have wz2 : IntKind.i64.wrap (zt - f) = zt - f := pN0 (by omega)
                have hh1 : decide ((f : Int) ≤ zf) = true := decide_eq_true h1
                have hh2 : decide (zt ≤ (t : Int)) = true := decide_eq_true h2
                have gsz := hg.out.size
                have GW : Hid (aB wr (wr.alloc (.cells #[.int .i64 (zf - f), .int .i64 (zt - f), .string zs, .int .i64 zl, .int .i64 zr, .int .i64 zc, .int .i64 zk] 49))) := aB.alloc _ _
                clear hx hca d1 d2 d3 h1 h2
                go_wp2_with (first | (at_builtin; refine bJ1 oE1 rfl _ _ rfl u3.heap.size _ (partL (L.take k) f t) ⟨zf - f, zt - f, zs, zl, zr, zc, zk⟩ rfl hown.out GW.out _ 1 (by simp) _ rfl rfl (by omega) gsz ?_; intro v5 w5 hown5 hg5))
                have hgw5 := hg5 u3 hg.out (Nat.le_refl _)
                go_roundw
                case rel => exact ⟨k + 1, hlt, by go_num, by rw [HPY.out]; exact hown5, hgw5⟩
                case measure => simp [intOf]; omega
              · have HPY := Lib.hid (partL_no (a := f) (b := t) hx (fun h => h2 h.2))
                have hh1 : decide ((f : Int) ≤ zf) = true := decide_eq_true h1
                have hh2 : decide (zt ≤ (t : Int)) = false := decide_eq_false h2
                clear hx hca d1 d2 d3 h1 h2
                go_wp2_with fail
                go_roundw
                case rel => exact ⟨k + 1, hlt, by go_num, by rw [HPY.out]; exact hown, hg⟩
                case measure => simp [intOf]; omega
            · have HPY := Lib.hid (partL_no (a := f) (b := t) hx (fun h => h1 h.1))
              have hh1 : decide ((f : Int) ≤ zf) = false := decide_eq_false h1
              clear hx hca d1 d2 d3 h1
              go_wp2_with fail
              go_roundw
              case rel => exact ⟨k + 1, hlt, by go_num, by rw [HPY.out]; exact hown, hg⟩
              case measure => simp [intOf]; omega
          · obtain rfl : k = L.length := by omega
            have hki2 : ¬ ((L.length : Nat) : Int) < L.length := by omega
            have hown2 := hown.out
            rw [List.take_length] at hown2
            have hpl := partL_len L f t
            have hPT := (HPT HALL.out f t htl).out
            obtain ⟨P, hP⟩ := exq (partL L f t)
            rw [← hP] at hown2 hpl hPT
            have HPE := Lib.hid hPT
            obtain ⟨a3, c3, rfl, _, _, hat3⟩ := hown2.at_ oE1.len
            have HA3 := Lib.hid hat3
            have g4 := g2.tr hg.out
            have q4 := hg.out.cell q4
            have q5 := hg.out.cell q5
            have CU := Lib.hid (cut_any x C f t wr (HE.out.grows g4) (by omega) HN.out.co HN.out.fl (by omega) htl)
            obtain ⟨u4, rfl⟩ := exq wr
            clear hown2 hat3 hown hP hPT
            go_wp2_with fail
            refine CU.out.mono ?_
            rintro e w5 ⟨rfl, hg5⟩
            have g5 := g4.tr hg5
            have q5 := hg5.cell q5
            have hpsz : (ptC C f t).size ≤ x.size := by
              have h1 := yP0 C f t
              rw [HN.out.fl, dJ] at h1
              exact h1
            have CU6 := Lib.hid (eB0 xp m (sortS xe) db (ptC C f t) (zM0 C f t) ls la lc w5 (HE.out.grows g5) HN.out.d.dk (HN.out.d.grows ((hg2.tr hg.out).tr hg5)).d (cutC_codes HN.out.co f t) (cutC_bl C f t) (List.length_pos_iff.1 (by rw [gC0 htl]; omega)) (by rw [gC0 htl]; omega) HN.out.d.ne (by omega) HOK.out.l (fun y hy => by have := HL4.out y hy; omega) (HLA.out.grows g5) (by omega) (cutC_chk HN.out.co hft htl (by omega)))
            rw [HPE.out] at CU6
            clear CU q4 HPE
            go_wp2_with fail
            refine CU6.out.mono ?_
            rintro e w6 ⟨hg6, v6, rfl, hv6⟩
            have hP6 : P.length ≤ 10000 := by omega
            rw [if_pos hP6] at hv6
            have hif : (if P.length ≤ 10000 then (0 : Int) else 7) = 0 := if_pos hP6
            rw [hif]
            have g6 := g5.tr hg6
            obtain ⟨a6, c6, rfl, _, _, hat6⟩ := hv6.at_ oE1.len
            have CS := Lib.hid (yQ0 P a6 a3 c6 c3 w6 (by omega) hat6 (HA3.out.grows (hg5.tr hg6)))
            clear hat6 hv6 CU6 hif q5
            go_wp2_with fail
            refine CS.out.mono ?_
            rintro e w7 ⟨rfl, hg7⟩
            have CW2 := CW w7 (g6.tr hg7)
            go_wp2_with fail
            refine CW2.out.mono ?_
            rintro e w8 ⟨rfl, hg8⟩
            go_wp2_with fail
            go_ret
            exact ⟨rfl, (g6.tr hg7).tr hg8⟩
  · rw [Bool.not_eq_true] at hbt
    subst hbt
    have CW2 := CW w1 g1
    clear hb q4 q5
    go_wp2_with fail
    refine CW2.out.mono ?_
    rintro e w4 ⟨rfl, hg4⟩
    go_wp2_with fail
    go_ret
    exact ⟨rfl, g1.tr hg4⟩
end Go.Proofs.YtaogeadljgjpcaaGreatDoor
