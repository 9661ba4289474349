import Derived.Test.YtheiocndipepaaaGreatDoorKq47
import Derived.Test.YtheiocndipepaaaGreatDoorKq40
namespace Go.Proofs.YtheiocndipepaaaGreatDoor
open Go Go.RowKit Go.Shelf
attribute [local go_sem] aM aK

theorem kP1 {α : Type} {w : World} {base g n c k : Nat} {e : TypeId} {enc : α → List Value} {xs : List α} (h : aV w base e k enc (.slice (some ⟨g, 0, none⟩) n c) xs) : base ≤ g ∧ ∃ cur, TB w g cur e ∧ xs.length * k ≤ cur.size := by
  rcases h.2 with ⟨h1, _⟩ | ⟨g', cap, cur, hv, hb, hh, hn, hc, hs, ht⟩
  · cases h1
  · obtain rfl : g = g' := congrArg Addr.block (Option.some.inj (Value.slice.inj hv).1)
    exact ⟨hb, cur, hh, by rw [hs]; exact Nat.mul_le_mul_right _ hn⟩
theorem sW0 {α : Type} {w : World} {base k : Nat} {e : TypeId} {enc : α → List Value} {v : Value} {xs : List α} (h : aV w base e k enc v xs) (hne : xs ≠ []) : ∃ g c, v = .slice (some ⟨g, 0, none⟩) xs.length c := by
  rcases h.2 with ⟨_, h0⟩ | ⟨g', cap, cur, hv, hb, hh, hn, hc, hs, ht⟩
  · exact absurd (List.length_eq_zero_iff.1 h0) hne
  · exact ⟨g', cap, hv⟩
set_option maxHeartbeats 8000000 in
set_option maxRecDepth 100000 in
theorem aR1 (x : zB) (A : kQ) (w : World) (he : Env w) (hok : sO x) (hat : mV w A x) :
    Calls Tryz.prog 5 #[A.agg x] w fun e w' => e = .returned (.bool true) ∧ Grows w w' := by
  have HE := Lib.hid he
  have CW := fun W (h : Grows w W) => Lib.hid (lJ W (HE.out.grows h))
  obtain ⟨pa, pc, sa, sc, ea, ec⟩ := A
  obtain ⟨xp, xd, xs, xe⟩ := x
  obtain ⟨W0, hW0⟩ := exq (w.alloc (.cells #[.slice pa xp.length pc, .int .i64 xd, .slice sa xs.length sc, .slice ea xe.length ec] 26))
  have hg0 : Grows w W0 := by rw [hW0]; exact Grows.alloc _ _
  obtain ⟨bc, _⟩ := bK (show Grows (w.alloc (.cells #[.slice pa xp.length pc, .int .i64 xd, .slice sa xs.length sc, .slice ea xe.length ec] 26)) W0 by rw [hW0]; exact Grows.refl _)
  have q0 := bc 0 _ rfl
  have q1 := bc 1 _ rfl
  have q2 := bc 2 _ rfl
  have q3 := bc 3 _ rfl
  have HQ := Lib.hid (And.intro q0 (And.intro q1 (And.intro q2 q3)))
  have HOK := Lib.hid hok
  have HSA := Lib.hid (hat.grows hg0)
  have HE0 := Lib.hid (he.grows hg0)
  have CO := Lib.hid (zN ⟨xp, xd, xs, xe⟩ ⟨pa, pc, sa, sc, ea, ec⟩ W0 (he.grows hg0) hok (hat.grows hg0))
  unfold kQ.agg kQ.cells at CO
  simp only at CO
  show Calls _ _ #[.agg #[.slice pa xp.length pc, .int .i64 xd, .slice sa xs.length sc, .slice ea xe.length ec]] _ _
  clear he hok hat bc
  go_enter Tryz.func5, Tryz.ntmps5
  go_wp2_with fail
  rw [← hW0]
  clear hW0
  refine CO.out.mono ?_
  rintro e w1 ⟨hg1, dv, a0, n0, c0, q, a2, n2, c2, rfl, hdv⟩
  have g1 := hg0.tr hg1
  clear CO q0 q1 q2 q3
  rcases hdv with rfl | ⟨db, m, rfl, hop⟩
  · go_wp2_with fail
    refine (CW _ (g1.al _)).out.mono ?_
    rintro e w2 ⟨rfl, hg2⟩
    go_wp2_with fail
    go_ret
    exact ⟨rfl, (g1.al _).tr hg2⟩
  · have HDK := Lib.hid (show bP xp m (sortS xe) from mC hop.made)
    have hx300 : xe.length ≤ 300 := (jL hop.li).2.2.2.2
    obtain ⟨hB1, hB2, _⟩ := oL1 hop.li HOK.out
    have HB1 : Hid (∀ y ∈ xe, rZ y) := hB1
    have HMK : Hid (iL xp (some m) xe = 0) := hop.made
    have HSM : Hid (srcM ⟨xp, xd, xs, xe⟩ = some m) := hop.src
    have CI := fun (W : World) (h : Grows w1 W) => Lib.hid (qQ ⟨xp, xd, xs, xe⟩ ⟨pa, pc, sa, sc, ea, ec⟩ W (HE0.out.grows (hg1.tr h)) HOK.out hB2 (HSA.out.grows (hg1.tr h)))
    unfold kQ.agg kQ.cells cM at CI
    simp only at CI
    rw [HSM.out] at CI
    have HQ1 := Lib.hid (And.intro (hg1.cell HQ.out.1) (And.intro (hg1.cell HQ.out.2.1) (And.intro (hg1.cell HQ.out.2.2.1) (hg1.cell HQ.out.2.2.2))))
    have HE1 := Lib.hid (HE0.out.grows hg1)
    have HP1 : Hid (aF w1 pa 2 (xp.map bG)) := HSA.out.p.grows hg1
    have HD := Lib.hid (show cB w1 db xp m (sortS xe) from hop.d)
    obtain ⟨pa', pc', rb, a', c', x0, x1, x2, hp3, hr3, he3⟩ := hop.r
    obtain ⟨rfl, rfl, rfl⟩ : pa' = a0 ∧ xp.length = n0 ∧ pc' = c0 := (by cases x0; exact ⟨rfl, rfl, rfl⟩)
    obtain rfl : some ⟨rb, 0, none⟩ = q := (by cases x1; rfl)
    obtain ⟨rfl, rfl, rfl⟩ : a' = a2 ∧ (sortS xe).length = n2 ∧ c' = c2 := (by cases x2; exact ⟨rfl, rfl, rfl⟩)
    have HP3 : Hid (aF w1 pa' 2 (xp.map bG)) := hp3
    have HR3 : Hid (jZ w1 rb m) := hr3
    have HE3 : Hid (aF w1 a' 5 ((sortS xe).map aQ)) := he3
    clear x0 x1 x2 hp3 hr3 he3 hop hg0 hg1
    have HMO := Lib.hid HR3.out.ok
    have h14 := Lib.hid (cJ0 HR3.out.ok hx300 HMK.out)
    rw [iH HMK.out h14.out] at CI
    have HEN : Hid (∀ y ∈ sortS xe, rZ y) := fun y hy => HB1.out y (kR hy)
    have HZ : Hid (∀ y ∈ sortS xe, y.r.size ≤ 1099511627776 ∧ y.s.size ≤ 1099511627776) := fun y hy => hB2 y (kR hy)
    clear hB1 hB2
    generalize sortS xe = es at HDK HD HE3 HEN HZ h14 CI ⊢
    have hel := HDK.out.len
    have hpl := (dN (eE HDK.out.chk).2.2.1).1
    have CO := fun (a : Option Addr) (c : Nat) (W : World) (hW : Grows w1 W) h1 h2 h3 h4 => Lib.hid (uL xp m es a c W (HE1.out.grows hW) HDK.out HMO.out HEN.out h14.out h1 h2 h3 h4)
    simp only at CI
    have HF : Hid (file14 (imgP xp m es) ≠ []) := by
      show _ ≠ _
      unfold file14 cZ
      simp
    generalize file14 (imgP xp m es) = IM at CI CO HF
    obtain ⟨V1, hV1⟩ := exq (w1.alloc (.cells #[.slice pa' xp.length pc', .pointer (some ⟨rb, 0, none⟩), .slice a' es.length c'] 32))
    have gV1 : Grows w1 V1 := by rw [hV1]; exact Grows.alloc _ _
    have CDU := fun (db : Nat) (u : World) (hu : cB u db xp m es) => Lib.hid (fU xp m es db ⟨#[]⟩ (es.length : Int) u HDK.out (by decide) hu)
    have CDL := fun (db : Nat) (u : World) (hu : cB u db xp m es) => Lib.hid (oQ xp m es db u hu)
    rw [pJ] at CDU
    have CDX := fun (db : Nat) (t : ByteArray) (u : World) (ht : t.size ≤ 140737488355328) (hu : cB u db xp m es) => Lib.hid (nS xp m es db t u HDK.out ht hu)
    have CDF := fun (db : Nat) (t : ByteArray) (u : World) (ht : t.size ≤ 140737488355328) (hu : cB u db xp m es) => Lib.hid (aV0 xp m es db t u HDK.out ht hu)
    have CSM := fun (a b : Option Addr) (c d : Nat) (u : World) h1 h2 => Lib.hid (uW es a b c d u (by omega) h1 h2)
    have HCX : Hid (∀ x ∈ es, cntE (exactL es x.r) x = 1) := fun x hx => by
      unfold exactL
      rw [jG HDK.out.nodup hx]
      simp [tru]
    have HCF : Hid (∀ x ∈ es, cntE (ofL es x.s) x = 1) := fun x hx => by
      unfold ofL
      rw [jG HDK.out.nodup hx]
      simp [tru]
    have HXL : Hid (∀ t, (exactL es t).length ≤ 20000 ∧ (ofL es t).length ≤ 20000) := fun t => ⟨Nat.le_trans (List.length_filter_le _ _) hel, Nat.le_trans (List.length_filter_le _ _) hel⟩
    have HRS : Hid (∀ x ∈ es, x.r.size ≤ 256 ∧ x.s.size ≤ 256) := fun x hx => ⟨HDK.out.len_r x hx, HDK.out.len_s x hx⟩
    have HG1 := Lib.hid gV1
    have HQ2 := Lib.hid (And.intro (gV1.cell HQ1.out.1) (And.intro (gV1.cell HQ1.out.2.1) (And.intro (gV1.cell HQ1.out.2.2.1) (gV1.cell HQ1.out.2.2.2))))
    obtain ⟨r0, r1, r2, r3⟩ := HQ2.out
    clear HDK hx300 h14
    rw [hV1] at r0 r1 r2 r3
    go_wp2_with fail
    rw [← hV1]
    clear hV1 gV1 r0 r1 r2 r3
    refine (CI V1 HG1.out).out.mono ?_
    rintro e w3 ⟨hg3, v3, rfl, hv3⟩
    have hv3' : aV w3 V1.heap.size 5 1 aX v3 IM := hv3
    obtain ⟨g, c3, rfl⟩ := sW0 hv3' HF.out
    obtain ⟨b3, d3, e3, hc3, hm3, hat3⟩ := hv3'.at_ bI.len
    obtain ⟨rfl, rfl⟩ : some ⟨g, 0, none⟩ = b3 ∧ c3 = d3 := by simp only [Value.slice.injEq] at e3; exact ⟨e3.1, e3.2.2⟩
    have hgV : V1.heap.size ≤ g := (kP1 hv3').1
    have hg3l : g < w3.heap.size := gO hv3' g rfl
    have CO3 := CO (some ⟨g, 0, none⟩) c3 w3 (HG1.out.tr hg3) hc3 hm3 (fun h => by cases h) hat3
    have hIs : IM.length ≤ 9223372036854775807 := by
      have := hm3
      unfold maxLen at this
      omega
    clear CI CO hv3 hat3 e3 hc3 hm3
    go_wp2_with fail
    refine CO3.out.mono ?_
    rintro e w5 ⟨hg5, eb, rfl, hde, hlo, _⟩
    have HV5 := Lib.hid (hv3'.grows hg5)
    have HBR := Lib.hid (gU0.own (hv3'.grows hg5) HF.out)
    have k5 := hg3.tr hg5
    have HDE : Hid (cB w5 eb xp m es) := hde
    have HLO : Hid (mQ w5 eb w3.heap.size) := hlo
    obtain ⟨N, hN⟩ := exq IM.length
    have hNs := Lib.hid hN
    rw [← hN] at hIs
    rw [← hN]
    clear CO3 hv3' hde hlo hg3 hg5 hN
    go_wp2_with fail
    go_loopw [41] (fun i wx => ∃ (k : Nat) (L : List UInt8), k ≤ N ∧ i = .int .i64 k ∧ L.length = N ∧ Hid (aV wx V1.heap.size 5 1 aX (.slice (some ⟨g, 0, none⟩) N c3) L) ∧ Hid (GK g w5 wx) ∧ Hid (Grows V1 wx)) (fun i _ => N - (intOf i).toNat)
    case atStart => exact ⟨0, IM, Nat.zero_le _, rfl, hNs.out.symm, (by rw [hNs.out]; exact HV5.out), GK.refl _ _, k5⟩
    case round =>
      obtain ⟨k, L, hk, rfl, hL, hO, hgk, hgr⟩ := hrel
      by_cases hlt : k < N
      · obtain ⟨x, hx⟩ : ∃ x, L[k]? = some x := ⟨_, List.getElem?_eq_getElem (by omega)⟩
        obtain ⟨y, hy⟩ := exq (UInt8.ofNat ((x.toNat + 1) % 256))
        have hyn : y.toNat = (x.toNat + 1) % 256 := by rw [hy]; exact Nat.mod_eq_of_lt (Nat.mod_lt _ (by decide))
        have c0 : wr.cell? ⟨g, k, none⟩ = some (.int .u8 x.toNat) := cU (f := fun x : UInt8 => Value.int .u8 x.toNat) hO.out hx
        obtain ⟨f0, hbg, hset⟩ := eC (f := fun x : UInt8 => Value.int .u8 x.toNat) hO.out (k := k) (by omega) y
        have HSET := Lib.hid hset
        have wy : IntKind.u8.wrap ((x.toNat : Int) + 1) = (y.toNat : Int) := by rw [hyn]; simp [IntKind.wrap, IntKind.bits, IntKind.signed]
        have hki : (k : Int) < N := by omega
        have HLL : Hid ((L.set k y).length = N) := by show _ = _; rw [List.length_set]; exact hL
        clear hO hset hy hx hyn hL
        go_wp2_with fail
        go_roundw
        case rel => exact ⟨k + 1, L.set k y, hlt, by go_num, HLL.out, HSET, GK.trans _ _ _ _ hgk.out (aJ _ _ _ _), hgr.out.set (p := ⟨g, k, none⟩) hbg _⟩
        case measure => simp [intOf]; omega
      · obtain ⟨w6, rfl⟩ := exq wr
        have HD6 : Hid (cB w6 eb xp m es) := HBR.out.dict hgk.out HDE.out HLO.out hg3l
        have HV6 := Lib.hid hgr.out
        have hnlt : ¬ (k : Int) < N := by omega
        clear hO hgk hgr hL HBR HDE HLO
        have CC := CDL eb w6 HD6.out
        go_wp2_with fail
        refine CC.out.mono ?_
        rintro e wz ⟨rfl, rfl⟩
        clear CC
        have CC := CDU eb w6 HD6.out
        go_wp2_with fail
        refine CC.out.mono ?_
        rintro e w7 ⟨v7, rfl, hv7, hg7⟩
        obtain ⟨a7, c7, rfl, _, _, _⟩ := hv7.at_ dT.len
        have HV7 : Hid (aV w7 w6.heap.size 52 5 aQ (.slice a7 es.length c7) es) := hv7
        have hst : Hid (∀ g2 : Nat, a7 = some ⟨g2, 0, none⟩ → w6.heap.size ≤ g2 ∧ ∃ cur, TB w7 g2 cur 52 ∧ es.length * 5 ≤ cur.size) := by
          rintro g2 rfl
          exact kP1 hv7
        clear CC hv7
        go_wp2_with fail
        clear hnlt
        go_loopw [57] (fun i wx => ∃ k : Nat, k ≤ es.length ∧ i = .int .i64 k ∧ Hid (∀ g2 : Nat, a7 = some ⟨g2, 0, none⟩ → w6.heap.size ≤ g2 ∧ ∃ cur, TB wx g2 cur 52 ∧ es.length * 5 ≤ cur.size) ∧ Hid (Grows w6 wx)) (fun i _ => es.length - (intOf i).toNat)
        case atStart => exact ⟨0, Nat.zero_le _, rfl, hst, hg7⟩
        case round =>
          obtain ⟨k, hk, rfl, hT, hgr⟩ := hrel
          by_cases hlt : k < es.length
          · obtain ⟨g2, c2, e2⟩ := sW0 HV7.out (aH hlt)
            obtain ⟨rfl, rfl⟩ : a7 = some ⟨g2, 0, none⟩ ∧ c7 = c2 := by simp only [Value.slice.injEq] at e2; exact ⟨e2.1, e2.2.2⟩
            obtain ⟨hlo2, cur, hTB, hcs⟩ := hT.out g2 rfl
            have cell : ∀ j, j < 5 → ∃ u, wr.cell? ⟨g2, k * 5 + j, none⟩ = some u := fun j hj => ⟨_, hTB.cell (Array.getElem?_eq_getElem (by omega))⟩
            obtain ⟨u0, c0⟩ := cell 0 (by decide)
            obtain ⟨u1, c1⟩ := cell 1 (by decide)
            obtain ⟨u2, c2⟩ := cell 2 (by decide)
            obtain ⟨u3, c3⟩ := cell 3 (by decide)
            obtain ⟨u4, c4⟩ := cell 4 (by decide)
            rw [Nat.add_zero] at c0
            have f0 := hTB.froz (k * 5)
            have f1 := hTB.froz (k * 5 + 1)
            have f2 := hTB.froz (k * 5 + 2)
            have f3 := hTB.froz (k * 5 + 3)
            have f4 := hTB.froz (k * 5 + 4)
            have hki : (k : Int) < es.length := by omega
            have HTB := Lib.hid (And.intro hTB (And.intro hcs hlo2))
            clear cell hT hTB hcs hlo2 e2
            go_wp2_with fail
            go_roundw
            case rel => exact ⟨k + 1, hlt, by go_num, (by
              intro g3 e3
              obtain rfl : g2 = g3 := congrArg Addr.block (Option.some.inj e3)
              refine ⟨HTB.out.2.2, _, ((((HTB.out.1.set (k * 5) _).set (k * 5 + 1) _).set (k * 5 + 2) _).set (k * 5 + 3) _).set (k * 5 + 4) _, ?_⟩
              simp only [Array.size_setIfInBounds]
              exact HTB.out.2.1), ((((hgr.out.set (p := ⟨g2, k * 5, none⟩) HTB.out.2.2 _).set (p := ⟨g2, k * 5 + 1, none⟩) HTB.out.2.2 _).set (p := ⟨g2, k * 5 + 2, none⟩) HTB.out.2.2 _).set (p := ⟨g2, k * 5 + 3, none⟩) HTB.out.2.2 _).set (p := ⟨g2, k * 5 + 4, none⟩) HTB.out.2.2 _⟩
            case measure => simp [intOf]; omega
          · obtain ⟨w8, rfl⟩ := exq wr
            have HE8 : Hid (cB w8 eb xp m es) := HD6.out.grows hgr.out
            have GV8 := Lib.hid (HG1.out.tr (HV6.out.tr hgr.out))
            have HD8 : Hid (cB w8 db xp m es) := HD.out.grows GV8.out
            have G8 := Lib.hid (g1.tr GV8.out)
            have hnlt : ¬ (k : Int) < es.length := by omega
            clear hT hgr HD6 HV6 HV7 hst
            have CC := CDL db w8 HD8.out
            go_wp2_with fail
            refine CC.out.mono ?_
            rintro e wz ⟨rfl, rfl⟩
            clear CC
            have CC := CDU db w8 HD8.out
            go_wp2_with fail
            refine CC.out.mono ?_
            rintro e w9 ⟨v9, rfl, hv9, hg9⟩
            obtain ⟨a9, c9, rfl, _, _, hat9⟩ := hv9.at_ dT.len
            have HA9 : Hid (aF w9 a9 5 (es.map aQ)) := hat9
            have K9 := Lib.hid hg9
            clear CC hv9 hat9 hnlt hg9
            go_wp2_with fail
            go_loopw [70] (fun i wx => ∃ k : Nat, k ≤ es.length ∧ i = .int .i64 k ∧ Hid (Grows w9 wx)) (fun i _ => es.length - (intOf i).toNat)
            case atStart => exact ⟨0, Nat.zero_le _, rfl, Grows.refl _⟩
            case round =>
              obtain ⟨k, hk, rfl, hgr⟩ := hrel
              obtain ⟨u0, rfl⟩ := exq wr
              by_cases hlt : k < es.length
              · obtain ⟨⟨xr, xs', xl, xt, xc⟩, hx⟩ : ∃ x, es[k]? = some x := ⟨_, List.getElem?_eq_getElem hlt⟩
                have hxm := List.mem_of_getElem? hx
                obtain ⟨ba, oa, rfl, hca⟩ := (HA9.out.grows hgr.out).get (aH hlt)
                have c0 : u0.cell? ⟨ba, oa + k * 5, none⟩ = some (.string xr) := hca k _ hx 0 _ rfl
                have c1 : u0.cell? ⟨ba, oa + k * 5 + 1, none⟩ = some (.string xs') := hca k _ hx 1 _ rfl
                have c2 : u0.cell? ⟨ba, oa + k * 5 + 2, none⟩ = some (.int .i64 xl) := hca k _ hx 2 _ rfl
                have c3 : u0.cell? ⟨ba, oa + k * 5 + 3, none⟩ = some (.int .i64 xt) := hca k _ hx 3 _ rfl
                have c4 : u0.cell? ⟨ba, oa + k * 5 + 4, none⟩ = some (.int .i64 xc) := hca k _ hx 4 _ rfl
                have hki : (k : Int) < es.length := by omega
                obtain ⟨V, hV⟩ := exq (u0.alloc (.cells #[.string xr, .string xs', .int .i64 xl, .int .i64 xt, .int .i64 xc] 52))
                obtain ⟨xb, hxb⟩ := exq u0.heap.size
                have bx := fun j u h => aT u0 #[.string xr, .string xs', .int .i64 xl, .int .i64 xt, .int .i64 xc] 52 (0, 0) j u h
                rw [← hV, ← hxb] at bx
                have HGV := Lib.hid (show Grows w9 V from hgr.out.tr (by rw [hV]; exact Grows.alloc _ _))
                have HB := Lib.hid (And.intro (bx 0 _ rfl) (And.intro (bx 1 _ rfl) (And.intro (bx 2 _ rfl) (And.intro (bx 3 _ rfl) (bx 4 _ rfl)))))
                have C1 := HCX.out _ hxm
                have C2 := HCF.out _ hxm
                obtain ⟨z1, z2⟩ := HRS.out _ hxm
                simp only at C1 C2 z1 z2
                have CX1 := fun (W : World) (hW : Grows w9 W) => CDX eb xr W (by omega) (HE8.out.grows (K9.out.tr hW))
                have CX2 := fun (W : World) (hW : Grows w9 W) => CDF eb xs' W (by omega) (HE8.out.grows (K9.out.tr hW))
                have hl1 := (HXL.out xr).1
                have hl2 := (HXL.out xs').2
                generalize exactL es xr = X1 at CX1 C1 hl1
                generalize ofL es xs' = X2 at CX2 C2 hl2
                have CC1 := fun (a : Option Addr) (c : Nat) (W : World) (h : aF W a 5 (X1.map aQ)) => Lib.hid (iA X1 ⟨xr, xs', xl, xt, xc⟩ a c W (by omega) h)
                have CC2 := fun (a : Option Addr) (c : Nat) (W : World) (h : aF W a 5 (X2.map aQ)) => Lib.hid (iA X2 ⟨xr, xs', xl, xt, xc⟩ a c W (by omega) h)
                rw [C1] at CC1
                rw [C2] at CC2
                have HLT := Lib.hid hlt
                clear hca hx hxm bx C1 C2 z1 z2 hgr
                go_wp2_with fail
                rw [← hV, ← hxb]
                clear hV hxb c0 c1 c2 c3 c4
                have gd := Lib.hid (Grows.drew V)
                have y0 : ∀ y : Ext Grows (V.drew), y.u.cell? ⟨xb, 0, none⟩ = some (.string xr) := aB (gd.out.cell HB.out.1)
                have y1 : ∀ y : Ext Grows (V.drew), y.u.cell? ⟨xb, 1, none⟩ = some (.string xs') := aB (gd.out.cell HB.out.2.1)
                have y2 : ∀ y : Ext Grows (V.drew), y.u.cell? ⟨xb, 2, none⟩ = some (.int .i64 xl) := aB (gd.out.cell HB.out.2.2.1)
                have y3 : ∀ y : Ext Grows (V.drew), y.u.cell? ⟨xb, 3, none⟩ = some (.int .i64 xt) := aB (gd.out.cell HB.out.2.2.2.1)
                have y4 : ∀ y : Ext Grows (V.drew), y.u.cell? ⟨xb, 4, none⟩ = some (.int .i64 xc) := aB (gd.out.cell HB.out.2.2.2.2)
                refine bE [(0, false), (1, false), (2, false), (4, false), (3, true), (5, true), (6, false), (7, false), (8, false), (9, false), (10, false), (12, false), (11, true), (13, true), (14, false), (15, false)] (by kernel_rfl) (fun d _ _ _ _ h => by cases d <;> exact h) ?_
                iterate 4 (refine aG rfl (fun K hK => ?_); go_simp; refine hK _ ?_; clear hK K)
                refine aZ rfl rfl (fun K hK => ?_)
                go_simp
                refine ((CX1 V.drew (HGV.out.tr gd.out)).out).mono ?_
                rintro e t1 ⟨q1, rfl, hq1, hgt1⟩
                refine ⟨hgt1, hK _ _ ?_⟩
                clear hK K
                obtain ⟨qa1, qc1, rfl, _, _, hqt1⟩ := hq1.at_ dT.len
                have h1 : Hid (Grows V t1) := gd.out.tr hgt1
                clear y0 y1 y2 y3 y4 hq1 hgt1
                refine aZ rfl rfl (fun K hK => ?_)
                go_simp
                refine ((CC1 qa1 qc1 t1 hqt1).out).mono ?_
                rintro e t2 ⟨rfl, hgt2⟩
                refine ⟨hgt2, hK _ _ ?_⟩
                clear hK K
                have h2 : Hid (Grows V t2) := h1.out.tr hgt2
                clear hgt2 hqt1
                have y0 : ∀ y : Ext Grows t2, y.u.cell? ⟨xb, 0, none⟩ = some (.string xr) := aB (h2.out.cell HB.out.1)
                have y1 : ∀ y : Ext Grows t2, y.u.cell? ⟨xb, 1, none⟩ = some (.string xs') := aB (h2.out.cell HB.out.2.1)
                have y2 : ∀ y : Ext Grows t2, y.u.cell? ⟨xb, 2, none⟩ = some (.int .i64 xl) := aB (h2.out.cell HB.out.2.2.1)
                have y3 : ∀ y : Ext Grows t2, y.u.cell? ⟨xb, 3, none⟩ = some (.int .i64 xt) := aB (h2.out.cell HB.out.2.2.2.1)
                have y4 : ∀ y : Ext Grows t2, y.u.cell? ⟨xb, 4, none⟩ = some (.int .i64 xc) := aB (h2.out.cell HB.out.2.2.2.2)
                iterate 6 (refine aG rfl (fun K hK => ?_); go_simp; refine hK _ ?_; clear hK K)
                refine aZ rfl rfl (fun K hK => ?_)
                go_simp
                refine ((CX2 t2 (HGV.out.tr h2.out)).out).mono ?_
                rintro e t3 ⟨q3, rfl, hq3, hgt3⟩
                refine ⟨hgt3, hK _ _ ?_⟩
                clear hK K
                obtain ⟨qa3, qc3, rfl, _, _, hqt3⟩ := hq3.at_ dT.len
                have h3 : Hid (Grows V t3) := h2.out.tr hgt3
                clear y0 y1 y2 y3 y4 hq3 hgt3
                refine aZ rfl rfl (fun K hK => ?_)
                go_simp
                refine ((CC2 qa3 qc3 t3 hqt3).out).mono ?_
                rintro e t4 ⟨rfl, hgt4⟩
                refine ⟨hgt4, hK _ _ ?_⟩
                clear hK K
                have h4 : Hid (Grows V t4) := h3.out.tr hgt4
                clear hgt4 hqt3
                iterate 2 (refine aG rfl (fun K hK => ?_); go_simp; refine hK _ ?_; clear hK K)
                refine bH ?_
                go_wp2_with fail
                go_roundw
                case rel => exact ⟨k + 1, HLT.out, by go_num, HGV.out.tr h4.out⟩
                case measure => simp [intOf]; have := HLT.out; omega
              · have K10 := Lib.hid (K9.out.tr hgr.out)
                have hnlt : ¬ (k : Int) < es.length := by omega
                have HE0' : Hid (cB u0 eb xp m es) := HE8.out.grows K10.out
                have HD0' : Hid (cB u0 db xp m es) := HD8.out.grows K10.out
                clear hgr HE8 HD8 HA9 K9 HCX HCF HXL HRS CDX CDF
                have CC := CDL eb u0 HE0'.out
                go_wp2_with fail
                refine CC.out.mono ?_
                rintro e wz ⟨rfl, rfl⟩
                clear CC
                have CC := CDU eb u0 HE0'.out
                go_wp2_with fail
                refine CC.out.mono ?_
                rintro e t1 ⟨q1, rfl, hq1, hgt1⟩
                obtain ⟨qa1, qc1, rfl, _, _, hqt1⟩ := hq1.at_ dT.len
                clear CC hq1
                have CC := CDL db t1 (HD0'.out.grows hgt1)
                go_wp2_with fail
                refine CC.out.mono ?_
                rintro e wz ⟨rfl, rfl⟩
                clear CC
                have CC := CDU db t1 (HD0'.out.grows hgt1)
                go_wp2_with fail
                refine CC.out.mono ?_
                rintro e t2 ⟨q2, rfl, hq2, hgt2⟩
                obtain ⟨qa2, qc2, rfl, _, _, hqt2⟩ := hq2.at_ dT.len
                clear CC hq2
                have CC := CSM qa1 qa2 qc1 qc2 t2 (hqt1.grows hgt2) hqt2
                go_wp2_with fail
                refine CC.out.mono ?_
                rintro e t3 ⟨rfl, hgt3⟩
                have GL := G8.out.tr (K10.out.tr (hgt1.tr (hgt2.tr hgt3)))
                clear CC
                go_wp2_with fail
                refine (CW t3 GL).out.mono ?_
                rintro e t4 ⟨rfl, hgt4⟩
                go_wp2_with fail
                go_ret
                exact ⟨rfl, GL.tr hgt4⟩
end Go.Proofs.YtheiocndipepaaaGreatDoor
