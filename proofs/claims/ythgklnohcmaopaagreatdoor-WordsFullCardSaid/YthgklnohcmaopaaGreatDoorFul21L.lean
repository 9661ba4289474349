import Derived.Test.YthgklnohcmaopaaGreatDoorLq46
import Derived.Test.YthgklnohcmaopaaGreatDoorLq41
import Derived.Test.YthgklnohcmaopaaGreatDoorLq22
namespace Go.Proofs.YthgklnohcmaopaaGreatDoor
open Go Go.RowKit Go.Shelf
attribute [local go_sem] aO aM

set_option maxHeartbeats 4000000 in
set_option maxRecDepth 100000 in
theorem chapter21_own (w : World) : Calls Tryz.prog 7 #[] w fun e w' => ∃ (q : Nat), e = .returned (.agg #[.slice (some ⟨q, 0, none⟩) 2 2, .int .i64 0, .slice none 0 0, .slice (some ⟨w.heap.size + 1 + 1, 0, none⟩) 1 1]) ∧
      TB w' q (oU.flatMap cX).toArray 73 ∧ aX w' w.heap.size 30 5 bF (.slice (some ⟨w.heap.size + 1 + 1, 0, none⟩) 1 1) mR ∧ aB w w' := by
  obtain ⟨W0, hW0⟩ := exq (w.alloc (.cells #[.slice (some ⟨w.heap.size + 1, 0, none⟩) 2 2, .int .i64 0, .slice none 0 0, .slice (some ⟨w.heap.size + 1 + 1, 0, none⟩) 1 1] 26))
  obtain ⟨W1, hW1⟩ := exq (W0.alloc (.cells (oU.flatMap cX).toArray 73))
  obtain ⟨W2, hW2⟩ := exq (W1.alloc (.cells (mR.flatMap bF).toArray 30))
  have hg0 : aB w W0 := by rw [hW0]; exact aB.alloc _ _
  have hg1 : aB W0 W1 := by rw [hW1]; exact aB.alloc _ _
  have hg2 : aB W1 W2 := by rw [hW2]; exact aB.alloc _ _
  have hs0 : W0.heap.size = w.heap.size + 1 := by rw [hW0]; simp
  have hs1 : W1.heap.size = w.heap.size + 1 + 1 := by rw [hW1]; simp [hs0]
  have hp : TB W2 (w.heap.size + 1) (oU.flatMap cX).toArray 73 := by
    have h := TB.alloc W0 (oU.flatMap cX).toArray 73
    rw [hs0, ← hW1] at h
    exact h.gr hg2
  have he : aX W2 w.heap.size 30 5 bF (.slice (some ⟨w.heap.size + 1 + 1, 0, none⟩) 1 1) mR := by
    have h := jK (enc := bF) (k := 5) (fun _ => rfl) (w := W1) (e := 30) (base := w.heap.size) (n := 1) (by omega) mR (cs := (mR.flatMap bF).toArray) rfl rfl (by decide)
    rw [hs1, ← hW2] at h
    exact h
  have HSRC := Lib.hid (And.intro hp (And.intro he (aB.trans _ _ _ hg0 (aB.trans _ _ _ hg1 hg2))))
  obtain ⟨bc, _⟩ := bT (w := w) (cs := #[.slice (some ⟨w.heap.size + 1, 0, none⟩) 2 2, .int .i64 0, .slice none 0 0, .slice (some ⟨w.heap.size + 1 + 1, 0, none⟩) 1 1]) (t := 26) (w' := W2) (by rw [← hW0]; exact aB.trans _ _ _ hg1 hg2)
  have b0 := bc 0 _ rfl
  have b1 := bc 1 _ rfl
  have b2 := bc 2 _ rfl
  have b3 := bc 3 _ rfl
  have hE : W2 = ((w.alloc (.cells #[.slice (some ⟨w.heap.size + 1, 0, none⟩) 2 2, .int .i64 0, .slice none 0 0, .slice (some ⟨w.heap.size + 1 + 1, 0, none⟩) 1 1] 26)).alloc (.cells #[.string ⟨#[66, 79, 83]⟩, .int .i64 0, .string ⟨#[110, 111, 117, 110]⟩, .int .i64 0] 73)).alloc (.cells #[.string ⟨#[227, 129, 139]⟩, .string ⟨#[232, 154, 138]⟩, .int .i64 1, .int .i64 1, .int .i64 100] 30) := by
    rw [hW2, hW1, hW0]; rfl
  have HE := Lib.hid hE
  clear hW0 hW1 hW2 hg0 hg1 hg2 hs0 hs1 hp he bc hE
  go_enter Tryz.func7, Tryz.ntmps7
  go_wp2_with fail
  rw [← HE.out]
  refine bodyPost_ret (v := .agg #[.slice (some ⟨w.heap.size + 1, 0, none⟩) 2 2, .int .i64 0, .slice none 0 0, .slice (some ⟨w.heap.size + 1 + 1, 0, none⟩) 1 1]) (by simp [results, Tryz.results7, go_sem, b0, b1, b2, b3]) rfl ?_
  exact ⟨_, rfl, HSRC.out.1, HSRC.out.2.1, HSRC.out.2.2⟩
theorem tb_at {α : Type} {enc : α → List Value} {k : Nat} (hk : ∀ x, (enc x).length = k) {W : World} {b : Nat} {t : TypeId} (xs : List α) (h : TB W b (xs.flatMap enc).toArray t) : aG W (some ⟨b, 0, none⟩) k (xs.map enc) := fun _ => ⟨b, 0, rfl, fun i row hi j u hj => by
  rw [List.getElem?_map] at hi
  obtain ⟨x, hx, rfl⟩ := Option.map_eq_some_iff.1 hi
  rw [Nat.zero_add]
  exact h.cell (by rw [List.getElem?_toArray]; exact rC hk xs i j x u hx hj)⟩
theorem fulL_snoc (n : Nat) : tF (n + 1) = tF n ++ [pX1 n] := by
  unfold tF
  rw [List.range_succ, List.map_append, List.append_assoc]
  rfl
/-- The texts. -/
def fulT (k : Nat) : ByteArray := mkB (List.replicate k ka).flatten
theorem fulT_codes (k : Nat) : fJ (List.replicate k ka) := fun c hc => yI0 c (by rw [List.eq_of_mem_replicate hc]; exact List.mem_singleton_self _)
theorem fulT_size (k : Nat) : (fulT k).size = k * 3 := by
  unfold fulT
  rw [Lib.size_eq, jM, List.length_flatten, List.map_replicate, List.sum_replicate_nat]
  rfl
theorem fulT_succ (k : Nat) : mkB ((fulT k).data.toList ++ ka) = fulT (k + 1) := by
  unfold fulT
  rw [jM, List.replicate_succ', List.flatten_append]
  simp
set_option maxHeartbeats 16000000 in
set_option maxRecDepth 100000 in
theorem full21_any (n : Nat) (w : World) (he : Env w) (hn : n ≤ 255) :
    Calls Tryz.prog 3 #[.int .u8 n] w fun e w' => e = .returned (.bool true) ∧ aB w w' := by
  have HE := Lib.hid he
  have CW := fun u (hu : aB w u) => Lib.hid (nW0 u (HE.out.grows hu))
  clear he
  go_enter Tryz.func3, Tryz.ntmps3
  go_wp2_with fail
  refine (chapter21_own w).mono ?_
  rintro e w1 ⟨q, rfl, hp1, ho1, hg1⟩
  go_wp2_with fail
  have T1 := TB.alloc w1 #[.slice (some ⟨q, 0, none⟩) 2 2, .int .i64 0, .slice none 0 0, .slice (some ⟨w.heap.size + 1 + 1, 0, none⟩) 1 1] 26
  have hgX : aB w (w1.alloc (.cells #[.slice (some ⟨q, 0, none⟩) 2 2, .int .i64 0, .slice none 0 0, .slice (some ⟨w.heap.size + 1 + 1, 0, none⟩) 1 1] 26)) := hg1.al _
  have hpX := hp1.gr (aB.alloc w1 (.cells #[.slice (some ⟨q, 0, none⟩) 2 2, .int .i64 0, .slice none 0 0, .slice (some ⟨w.heap.size + 1 + 1, 0, none⟩) 1 1] 26))
  have hoX := ho1.grows (aB.alloc w1 (.cells #[.slice (some ⟨q, 0, none⟩) 2 2, .int .i64 0, .slice none 0 0, .slice (some ⟨w.heap.size + 1 + 1, 0, none⟩) 1 1] 26))
  have hbw : w.heap.size ≤ w1.heap.size := hg1.size
  generalize w1.alloc (.cells #[.slice (some ⟨q, 0, none⟩) 2 2, .int .i64 0, .slice none 0 0, .slice (some ⟨w.heap.size + 1 + 1, 0, none⟩) 1 1] 26) = X at *
  generalize w1.heap.size = bs at *
  clear hg1 hp1 ho1
  go_loopw [4] (fun i wr => ∃ (k : Nat) (v : Value), k ≤ 998 ∧ i = .int .i64 k ∧ TB wr bs #[.slice (some ⟨q, 0, none⟩) 2 2, .int .i64 0, .slice none 0 0, v] 26 ∧ aX wr w.heap.size 30 5 bF v (tF k) ∧ TB wr q (oU.flatMap cX).toArray 73 ∧ Hid (aB w wr)) (fun i _ => 998 - (intOf i).toNat)
  case atStart => exact ⟨0, _, Nat.zero_le _, rfl, T1, hoX, hpX, hgX⟩
  case round =>
    obtain ⟨k, v, hk, rfl, hT, hO, hP, hG⟩ := hrel
    clear T1 hgX hpX hoX
    by_cases hlt : k < 998
    · have hki : (k : Int) < 998 := by omega
      have c3 := hT.cell (o := 3) rfl
      have f3 := hT.froz 3
      obtain ⟨a, ha⟩ := exq (k / 100)
      obtain ⟨b, hb⟩ := exq (k / 10 % 10)
      obtain ⟨c, hc⟩ := exq (k % 10)
      have q1 : Int.tdiv (k : Int) 100 = a := by rw [ha]; exact (Int.ofNat_tdiv k 100).symm
      have q2 : Int.tdiv (k : Int) 10 = ((k / 10 : Nat) : Int) := (Int.ofNat_tdiv k 10).symm
      have q3 : Int.tmod ((k / 10 : Nat) : Int) 10 = b := by rw [hb]; exact (Int.ofNat_tmod (k / 10) 10).symm
      have q4 : Int.tmod (k : Int) 10 = c := by rw [hc]; exact (Int.ofNat_tmod k 10).symm
      clear ha hb hc q1 q2 q3 q4 a b c
      have hcv : (convert 28 9 (.slice (some ⟨wr.heap.size, 0, none⟩) 3 3)).run Tryz.prog (wr.alloc (.cells #[.int .u8 (97 + (k : Int) / 100), .int .u8 (97 + (k : Int) / 10 % 10), .int .u8 (97 + (k : Int) % 10)] 5)) =
          .ok (.string (mkB [UInt8.ofNat (97 + k / 100), UInt8.ofNat (97 + k / 10 % 10), UInt8.ofNat (97 + k % 10)])) (wr.alloc (.cells #[.int .u8 (97 + (k : Int) / 100), .int .u8 (97 + (k : Int) / 10 % 10), .int .u8 (97 + (k : Int) % 10)] 5)) := by
        have h := xP (enc := aY) (k := 1) (w := wr) (t := 5) (fz := (0, 0)) (cs := #[.int .u8 (97 + (k : Int) / 100), .int .u8 (97 + (k : Int) / 10 % 10), .int .u8 (97 + (k : Int) % 10)]) (fun _ => rfl) [UInt8.ofNat (97 + k / 100), UInt8.ofNat (97 + k / 10 % 10), UInt8.ofNat (97 + k % 10)] (by
          have e1 : ((UInt8.ofNat (97 + k / 100)).toNat : Int) = 97 + (k : Int) / 100 := by rw [UInt8.toNat_ofNat']; omega
          have e2 : ((UInt8.ofNat (97 + k / 10 % 10)).toNat : Int) = 97 + (k : Int) / 10 % 10 := by rw [UInt8.toNat_ofNat']; omega
          have e3 : ((UInt8.ofNat (97 + k % 10)).toNat : Int) = 97 + (k : Int) % 10 := by rw [UInt8.toNat_ofNat']; omega
          simp only [List.flatMap_cons, List.flatMap_nil, aY, e1, e2, e3, List.cons_append, List.nil_append])
        exact yK (c := 3) h
      obtain ⟨S, hS⟩ := exq (mkB [UInt8.ofNat (97 + k / 100), UInt8.ofNat (97 + k / 10 % 10), UInt8.ofNat (97 + k % 10)])
      have hSz : S.size = 3 := by rw [hS]; rfl
      have hYE : (⟨⟨#[227, 129, 139]⟩, ⟨#[232, 154, 138]⟩ ++ S, 1, 1, (k : Int)⟩ : En) = pX1 k := by
        have : (⟨#[232, 154, 138]⟩ : ByteArray) ++ S = mkB (pW1 k) := nB (by rw [hS]; unfold pW1; simp [mkB])
        unfold pX1
        rw [this]
      rw [← hS] at hcv
      obtain ⟨S6, hadd⟩ : ∃ S6, (⟨#[232, 154, 138]⟩ : ByteArray) ++ S = S6 := ⟨_, rfl⟩
      rw [hadd] at hYE
      have HYE := Lib.hid hYE
      have HO := Lib.hid hO
      have HTT := Lib.hid hT
      clear hS hYE hO hT
      go_wp2_with (at_builtin; (refine fG (W := wr.alloc (.cells #[.int .u8 (97 + (k : Int) / 100), .int .u8 (97 + (k : Int) / 10 % 10), .int .u8 (97 + (k : Int) % 10)] 5)) bP0 rfl _ _ rfl w.heap.size v (tF k) ⟨⟨#[227, 129, 139]⟩, S6, 1, 1, (k : Int)⟩ rfl HO.out (aB.alloc _ _) (wr.heap.size + 1) 1 (World.size_alloc _ _).symm #[.string ⟨#[227, 129, 139]⟩, .string S6, .int .i64 1, .int .i64 1, .int .i64 k] rfl rfl (by rw [fD0]; omega) (hG.out.size) ?_); intro v7 w7 ho7 hg7 hf7 hgg7; obtain ⟨g7, p7, rfl⟩ := pQ ho7; have hT7 := (HTT.out.al (.cells #[.int .u8 (97 + (k : Int) / 100), .int .u8 (97 + (k : Int) / 10 % 10), .int .u8 (97 + (k : Int) % 10)] 5)).keep hg7 (RT.own (HO.out.grows (aB.alloc _ _))) (by decide); have c7 := hT7.cell (o := 3) rfl; have f7 := hT7.froz 3)
      go_roundw
      case rel =>
        refine ⟨k + 1, (.slice (some ⟨g7, 0, none⟩) ((tF k).length + 1) p7), hlt, by go_num, hT7.set 3 _, ?_, ?_, ?_⟩
        · rw [fulL_snoc, ← HYE.out]
          exact aQ ho7 (bG w7 bs 3 (.slice (some ⟨g7, 0, none⟩) ((tF k).length + 1) p7)) hT7.rt (by decide)
        · exact (((hP.al _).keep hg7 (RT.own (HO.out.grows (aB.alloc _ _))) (by decide))).keep (bG w7 bs 3 (.slice (some ⟨g7, 0, none⟩) ((tF k).length + 1) p7)) hT7.rt (by decide)
        · exact (hgg7 w hG.out (Nat.le_refl _)).set (p := ⟨bs, 3, none⟩) hbw (.slice (some ⟨g7, 0, none⟩) ((tF k).length + 1) p7)
      case measure => simp [intOf]; omega
    · obtain rfl : k = 998 := by omega
      obtain ⟨ea, ec, rfl, _, _, hat⟩ := hO.at_ bP0.len
      have c0 := hT.cell (o := 0) rfl
      have c1 := hT.cell (o := 1) rfl
      have c2 := hT.cell (o := 2) rfl
      have c3 := hT.cell (o := 3) rfl
      rw [fD0] at c3 hT
      have CO := Lib.hid (oN1 (kD1 998) ⟨some ⟨q, 0, none⟩, 2, none, 0, ea, ec⟩ wr (HE.out.grows hG.out) (ful_ok (Nat.le_refl _)) (fun y hy => by
        rcases uB (show y ∈ tF 998 from hy) with h | ⟨i, _, rfl⟩
        · rw [List.mem_singleton.1 h]; decide
        · exact ⟨(show (3 : Nat) ≤ 1099511627776 by decide), (show (6 : Nat) ≤ 1099511627776 by decide)⟩) (fun m hm _ => by
          rw [ful_src] at hm
          cases hm
          exact ful_14 (dO1 (ful_src 998))) ⟨tb_at (enc := cX) (k := 2) (fun _ => rfl) oU hP, aG.nil _ _ _, hat⟩)
      unfold cF0.agg cF0.cells at CO
      simp only [kD1, fD0] at CO
      have HGR := Lib.hid hG.out
      clear hT hP hO hat hG
      go_wp2_with fail
      refine CO.out.mono ?_
      rintro e w2 ⟨hg2, hd⟩
      have hdd : ∃ db, e = .returned (.tuple #[.pointer (some ⟨db, 0, none⟩), .int .i64 0]) ∧ gT w2 db oU bV0 (sortS (tF 998)) := by
        rcases hd with ⟨h, _⟩ | ⟨db, m, rfl, hd⟩
        · have h2 : makeE oU (cE0 (kD1 998)) (tF 998) ≠ 0 := h
          rw [ful_src] at h2
          exact absurd ful_make h2
        · have hm : cE0 (kD1 998) = some m := hd.src
          rw [ful_src] at hm
          cases hm
          exact ⟨db, rfl, hd.d⟩
      obtain ⟨db, rfl, hdb⟩ := hdd
      have g2 := HGR.out.tr hg2
      obtain ⟨K, hK⟩ := exq (n % 20)
      have hKi : (n : Int) % 20 = K := by omega
      have hK20 : K < 20 := by omega
      have HDB := Lib.hid hdb
      clear CO hd hdb hg2 HGR c0 c1 c2 c3 hK
      go_wp2_with fail
      go_loopw [7, 8] (fun t i wr => ∃ k : Nat, k ≤ K ∧ i = .int .i64 k ∧ t = .string (fulT (k + 1)) ∧ wr = w2) (fun _ i _ => K - (intOf i).toNat)
      case atStart => exact ⟨0, Nat.zero_le _, rfl, rfl, rfl⟩
      case round =>
        obtain ⟨k, hk, rfl, rfl, rfl⟩ := hrel
        by_cases hlt : k < K
        · have hki : (k : Int) < K := by omega
          have hadd : fulT (k + 1) ++ (⟨#[227, 129, 139]⟩ : ByteArray) = fulT (k + 1 + 1) := by
            rw [← fulT_succ (k + 1)]
            exact nB (by simp [mkB, ka])
          have hsz : (fulT (k + 1)).size ≤ 63 := by rw [fulT_size]; omega
          go_wp2_with fail
          go_roundw
          case rel => first | exact ⟨k + 1, hlt, by go_num, rfl, rfl⟩ | exact ⟨k + 1, hlt, by go_num, rfl⟩ | exact ⟨k + 1, hlt, by go_num, rfl, trivial⟩ | exact ⟨k + 1, hlt, by go_num⟩
          case measure => simp [intOf]; omega
        · obtain rfl : k = K := by omega
          obtain ⟨K1, hK1⟩ := exq (k + 1)
          rw [← hK1]
          have CN := Lib.hid (uV oU bV0 (sortS (tF 998)) db (fulT K1) (List.replicate K1 ka) [] none 0 wr (HE.out.grows g2) (bM0 ful_make) HDB.out (fulT_codes K1) rfl (by rw [hK1]; simp) (by rw [List.length_replicate]; omega) (by decide) (by simp) (fun x hx => by cases hx) (fun x hx => by cases hx) (aG.nil _ _ _) (by rw [fulT_size]; omega) (vT0 (fulT_codes K1) rfl (by rw [hK1]; simp) (by rw [List.length_replicate]; omega)))
          have hlen := ful_nodes K1 (plainP oU : Nat)
          have hcnt : countS (fulT K1) = (K1 : Nat) := by
            have := case_count (c := ⟨⟨[], 0, [], []⟩, fulT K1, []⟩) (fulT_codes K1) rfl
            rwa [List.length_replicate] at this
          have CC := fun (u : World) (hu : aB w u) => Lib.hid (kP (fulT K1) u (by rw [fulT_size]; omega) (HE.out.grows hu))
          rw [hcnt] at CC
          have hKK : K1 ≤ 20 := by omega
          generalize fP (List.replicate K1 ka) (sortS (tF 998)) [] (plainP oU : Nat) = M at CN hlen
          generalize fulT K1 = T at CN CC ⊢
          clear hcnt HDB hK1
          go_wp2_with fail
          refine CN.out.mono ?_
          rintro e w3 ⟨hg3, v3, rfl, hv3⟩
          have g3 := g2.tr hg3
          have CC3 := CC w3 g3
          clear CN
          by_cases h10 : M.length ≤ 10000
          · rw [if_pos h10] at hv3
            have hif : (if M.length ≤ 10000 then (0 : Int) else 7) = 0 := if_pos h10
            rw [hif]
            have hk10 : ¬ (10 : Int) < K1 := by omega
            obtain ⟨a3, c3, rfl, _, _, _⟩ := hv3.at_ eL1.len
            have hLb : ((M.length : Int) == 1000 * (K1 : Int)) = true := by rw [beq_iff_eq]; omega
            clear hif hv3
            go_wp2_with fail
            refine CC3.out.mono ?_
            rintro e w4 ⟨rfl, hg4⟩
            have g4 := g3.tr hg4
            have CC4 := CC w4 g4
            clear CC3 CC
            go_wp2_with fail
            refine CC4.out.mono ?_
            rintro e w5 ⟨rfl, hg5⟩
            have g5 := g4.tr hg5
            have CW5 := CW w5 g5
            clear CC4 CW
            go_wp2_with fail
            refine CW5.out.mono ?_
            rintro e w6 ⟨rfl, hg6⟩
            go_wp2_with fail
            go_ret
            exact ⟨rfl, g5.tr hg6⟩
          · rw [if_neg h10] at hv3
            have hif : (if M.length ≤ 10000 then (0 : Int) else 7) = 7 := if_neg h10
            rw [hif]
            have hk10 : (10 : Int) < K1 := by omega
            obtain ⟨a3, c3, rfl, _, _, _⟩ := hv3.at_ eL1.len
            clear hif hv3
            go_wp2_with fail
            refine CC3.out.mono ?_
            rintro e w4 ⟨rfl, hg4⟩
            have g4 := g3.tr hg4
            have CW4 := CW w4 g4
            clear CC3 CC CW
            go_wp2_with fail
            refine CW4.out.mono ?_
            rintro e w6 ⟨rfl, hg6⟩
            go_wp2_with fail
            go_ret
            exact ⟨rfl, g4.tr hg6⟩
theorem full21_int (n : Int) (w : World) (he : Env w) (hn : (Lit.int .u8 n).wf = true) :
    Calls Tryz.prog 3 #[.int .u8 n] w fun e w' => e = .returned (.bool true) ∧ aB w w' := by
  have h1 : 0 ≤ n ∧ n ≤ 255 := by
    simp [Lit.wf, IntKind.min, IntKind.max, IntKind.bits, IntKind.signed] at hn
    omega
  obtain ⟨m, rfl⟩ : ∃ m : Nat, n = m := ⟨n.toNat, by omega⟩
  exact full21_any m w he (by omega)
end Go.Proofs.YthgklnohcmaopaaGreatDoor
