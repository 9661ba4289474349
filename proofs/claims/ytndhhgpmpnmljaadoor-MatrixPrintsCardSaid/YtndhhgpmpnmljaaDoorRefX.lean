import Derived.Test.YtndhhgpmpnmljaaDoorRefV
namespace Go.Proofs.YtndhhgpmpnmljaaDoor
open Go Go.RowKit
attribute [local go_sem] quietE

set_option maxHeartbeats 2000000 in
set_option maxRecDepth 100000 in
theorem valid2_any (l : List PosV) (a : Option Addr) (cap : Nat) (w : World) (hs : AtCells w a 2 (l.map posCells)) (hl : l.length ≤ 4611686018427387904) (hn : ∀ x ∈ l, x.name.size ≤ 9223372036854775807) :
    Calls Tryd.prog 13 #[.slice a l.length cap] w fun e w' => e = .returned (.bool (posValid l)) ∧ Grows w w' := by
  obtain ⟨V, hV⟩ : ∃ V, V = posValid l := ⟨_, rfl⟩
  rw [← hV]
  have HS := Lib.hid hs
  clear hs
  cases l with
  | nil =>
    have hV2 : V = false := hV
    subst hV2
    clear hV
    go_enter Tryd.func13, Tryd.ntmps13
    go_wp2
    go_ret
    exact ⟨rfl, Grows.refl _⟩
  | cons p0 r =>
    obtain ⟨L, hL⟩ : ∃ L, L = p0 :: r := ⟨_, rfl⟩
    have hne : L ≠ [] := by rw [hL]; simp
    have h0 : L[0]? = some p0 := by rw [hL]; rfl
    have hv : V = (decide (L.length ≤ 64) && isBos p0 && posAll L L 0) := by rw [hV, hL]; rfl
    rw [← hL] at HS hl hn ⊢
    clear hL hV
    obtain ⟨b, off, rfl, hcells⟩ := HS.out.get hne
    have c0 : w.cell? ⟨b, off, none⟩ = some (.string p0.name) := by simpa using hcells 0 p0 h0 0 _ rfl
    have c1 : w.cell? ⟨b, off + 1, none⟩ = some (.int .i64 p0.kind) := by simpa using hcells 0 p0 h0 1 _ rfl
    have HC := Lib.hid hcells
    have hpos : 0 < L.length := by cases L with | nil => exact absurd rfl hne | cons _ _ => simp
    have HV := Lib.hid hv
    clear hcells hne h0 hv
    have g1 : ¬ (L.length : Int) < 1 := by omega
    by_cases h64 : L.length ≤ 64
    · have h64' : ¬ (64 : Int) < L.length := by omega
      by_cases hnm : p0.name.toList = [66, 79, 83]
      · by_cases hk0 : p0.kind = 0
        · have hbos : isBos p0 = true := by simp [isBos, seq, hnm, hk0, bos, Lib.toList_data]
          have hv2 : V = posAll L L 0 := by rw [HV.out, hbos]; simp [h64]
          have HV2 := Lib.hid hv2
          have HC2 : Hid (∀ W, Grows w W → ∀ k p, L[k]? = some p → W.cell? ⟨b, off + k * 2, none⟩ = some (.string p.name) ∧ W.cell? ⟨b, off + k * 2 + 1, none⟩ = some (.int .i64 p.kind)) :=
            fun W hW k p hp => ⟨hW.cell (HC.out k p hp 0 _ rfl), hW.cell (HC.out k p hp 1 _ rfl)⟩
          clear hbos hv2 HV HC
          go_enter Tryd.func13, Tryd.ntmps13
          go_wp2_with fail
          clear c0 c1 hnm hk0
          go_loop [3] (fun i => ∃ k : Nat, k ≤ L.length ∧ i = .int .i64 k ∧ Hid (∀ j q, j < k → L[j]? = some q → posOK L j q = true)) (fun i => L.length - (intOf i).toNat)
          case atStart => exact ⟨0, Nat.zero_le _, rfl, fun j q hj => by omega⟩
          case round =>
            obtain ⟨k, hk, rfl, hz⟩ := hrel
            by_cases hlt : k < L.length
            · obtain ⟨p, hp⟩ : ∃ p, L[k]? = some p := ⟨_, List.getElem?_eq_getElem hlt⟩
              obtain ⟨d0, d1⟩ := HC2.out w (Grows.refl _) k p hp
              have hns := hn p (List.mem_of_getElem? hp)
              have HP := Lib.hid hp
              clear hp
              have hF := find2_any L p.name (some ⟨b, off, none⟩) cap w hl HS.out
              obtain ⟨f, hf⟩ : ∃ f, f = findI (posFind L p.name) := ⟨_, rfl⟩
              obtain ⟨nm, hnm⟩ : ∃ nm, nm = namedS p.name := ⟨_, rfl⟩
              have con := name2_any p.name w hns
              have hok : posOK L k p = (f == (k : Int) && nm && decide (0 ≤ p.kind) && decide (p.kind ≤ 2)) := by rw [hf, hnm]; rfl
              rw [← hf] at hF
              rw [← hnm] at con
              generalize (posFind L p.name).isSome = fs at hF
              have HCON := Lib.hid con
              have HF := Lib.hid hF
              have HOK := Lib.hid hok
              clear hf hnm con hok hF
              cases nm
              · have hfin : V = false := HV2.out.trans (posAll_hit HP.out hz.out (by rw [HOK.out]; simp))
                have HFIN := Lib.hid hfin
                clear hfin
                go_wp2_with (first | (go_at_call 33; refine HF.out.mono ?_; rintro e w1 ⟨rfl, rfl⟩) | (go_at_call 34; refine HCON.out.mono ?_; rintro e w1 ⟨rfl, rfl⟩))
                go_ret
                exact ⟨ret_bool HFIN.out.symm, Grows.refl _⟩
              · by_cases hk0 : p.kind < 0
                · have hfin : V = false := HV2.out.trans (posAll_hit HP.out hz.out (by rw [HOK.out]; simp; omega))
                  have HFIN := Lib.hid hfin
                  clear hfin
                  go_wp2_with (first | (go_at_call 33; refine HF.out.mono ?_; rintro e w1 ⟨rfl, rfl⟩) | (go_at_call 34; refine HCON.out.mono ?_; rintro e w1 ⟨rfl, rfl⟩))
                  go_ret
                  exact ⟨ret_bool HFIN.out.symm, Grows.refl _⟩
                · by_cases hk2 : 2 < p.kind
                  · have hfin : V = false := HV2.out.trans (posAll_hit HP.out hz.out (by rw [HOK.out]; simp; omega))
                    have HFIN := Lib.hid hfin
                    clear hfin
                    go_wp2_with (first | (go_at_call 33; refine HF.out.mono ?_; rintro e w1 ⟨rfl, rfl⟩) | (go_at_call 34; refine HCON.out.mono ?_; rintro e w1 ⟨rfl, rfl⟩))
                    go_ret
                    exact ⟨ret_bool HFIN.out.symm, Grows.refl _⟩
                  · cases hfk : (f == (k : Int))
                    · have h1 : (f != (k : Int)) = true := by rw [bne, hfk]; rfl
                      have hfin : V = false := HV2.out.trans (posAll_hit HP.out hz.out (by rw [HOK.out, hfk]; rfl))
                      have HFIN := Lib.hid hfin
                      clear hfin hfk
                      go_wp2_with (first | (go_at_call 33; refine HF.out.mono ?_; rintro e w1 ⟨rfl, rfl⟩) | (go_at_call 34; refine HCON.out.mono ?_; rintro e w1 ⟨rfl, rfl⟩))
                      go_ret
                      exact ⟨ret_bool HFIN.out.symm, Grows.refl _⟩
                    · have h1 : (f != (k : Int)) = false := by rw [bne, hfk]; rfl
                      have hok : posOK L k p = true := by rw [HOK.out, hfk]; simp; omega
                      have HOK2 := Lib.hid hok
                      clear hfk hok
                      go_wp2_with (first | (go_at_call 33; refine HF.out.mono ?_; rintro e w1 ⟨rfl, rfl⟩) | (go_at_call 34; refine HCON.out.mono ?_; rintro e w1 ⟨rfl, rfl⟩))
                      go_round
                      case rel => exact ⟨k + 1, by omega, by go_num, fun j q hj hq => by
                        rcases Nat.lt_succ_iff_lt_or_eq.1 hj with h | rfl
                        · exact hz.out j q h hq
                        · rw [HP.out] at hq; obtain rfl := Option.some.inj hq; exact HOK2.out⟩
                      case measure => simp [intOf]; omega
            · obtain rfl : k = L.length := by omega
              have hfin : V = true := HV2.out.trans (posAll_end hz.out)
              have HFIN := Lib.hid hfin
              clear hfin
              go_wp2
              go_ret
              exact ⟨ret_bool HFIN.out.symm, Grows.refl _⟩
        · have hfin : V = false := by rw [HV.out]; simp [isBos, hk0]
          have HF := Lib.hid hfin
          have hk0' : (p0.kind != 0) = true := by simpa using hk0
          clear hfin HV
          go_enter Tryd.func13, Tryd.ntmps13
          go_wp2
          go_ret
          exact ⟨ret_bool HF.out.symm, Grows.refl _⟩
      · have hfin : V = false := by rw [HV.out]; simp [isBos, seq, bos, Lib.toList_data]; intro _ h; exact absurd (by rw [Lib.toList_data]; exact h) hnm
        have HF := Lib.hid hfin
        clear hfin HV
        go_enter Tryd.func13, Tryd.ntmps13
        go_wp2
        go_ret
        exact ⟨ret_bool HF.out.symm, Grows.refl _⟩
    · have h64' : (64 : Int) < L.length := by omega
      have hfin : V = false := by rw [HV.out]; simp [h64]
      have HF := Lib.hid hfin
      clear hfin HV
      go_enter Tryd.func13, Tryd.ntmps13
      go_wp2
      go_ret
      exact ⟨ret_bool HF.out.symm, Grows.refl _⟩
end Go.Proofs.YtndhhgpmpnmljaaDoor
