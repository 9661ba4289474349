import Derived.Test.YtndhhgpmpnmljaaDoorDecP
import Derived.Test.YtndhhgpmpnmljaaDoorSplitP
import Derived.Test.YtndhhgpmpnmljaaDoorMem
import Derived.Test.YtndhhgpmpnmljaaDoorProg
import Derived.Lib.SmallJoins
namespace Go.Proofs.YtndhhgpmpnmljaaDoor
open Go Go.RowKit
attribute [local go_sem] quietE

theorem digit_cut : ∀ n : Fin 10, (⟨#[48, 49, 50, 51, 52, 53, 54, 55, 56, 57]⟩ : ByteArray).extract n.val (n.val + 1) = mkB [UInt8.ofNat (48 + n.val)] := by decide +kernel
set_option maxHeartbeats 2000000 in
set_option maxRecDepth 100000 in
theorem dec16_any : ∀ (k n : Nat), n ≤ k → n < 1000000000 → ∀ w, Calls Tryd.prog 35 #[.int .i64 n] w fun e w' => e = .returned (.string (mkB (Lib.decDigits n))) ∧ w = w'
  | k, n, hk, hb, w => by
    by_cases h10 : n < 10
    · have g : (n : Int) ≤ 9 := by omega
      have g0 : (0 : Int) ≤ n := by omega
      have hd : Lib.decDigits n = [UInt8.ofNat (48 + n)] := Lib.decDigits_one h10
      have hc := digit_cut ⟨n, h10⟩
      rw [hd]
      simp only at hc
      have HC := Lib.hid hc
      have hs : ∀ w, (Instr.slice 9 (.string ⟨#[48, 49, 50, 51, 52, 53, 54, 55, 56, 57]⟩) (some (.int .i64 n)) (some (.int .i64 ((n : Int) + 1))) none).run Tryd.prog w = .ok (.string (mkB [UInt8.ofNat (48 + n)])) w := fun w => by
        have h1 := run_slice_string (P := Tryd.prog) w 9 ⟨#[48, 49, 50, 51, 52, 53, 54, 55, 56, 57]⟩ .i64 .i64 (n : Int) ((n : Int) + 1) Tryd.underlying9 g0 (by omega) (by show (n : Int) + 1 ≤ 10; omega)
        rw [Int.toNat_natCast, show ((n : Int) + 1).toNat = n + 1 by omega, hc] at h1
        exact h1
      generalize mkB [UInt8.ofNat (48 + n)] = ds at HC hs ⊢
      clear hd hk hb hc
      go_enter Tryd.func35, Tryd.ntmps35
      go_wp2
      go_ret
      exact ⟨rfl, rfl⟩
    · cases k with
      | zero => omega
      | succ k =>
        have g : ¬ (n : Int) ≤ 9 := by omega
        have g0 : (0 : Int) ≤ n := by omega
        have gb : (n : Int) ≤ 999999999 := by omega
        have h1 := fun W => Lib.hid (dec16_any k (n / 10) (by omega) (by omega) W)
        have h2 := fun W => Lib.hid (dec16_any k (n % 10) (by omega) (by omega) W)
        have e1 : ((n / 10 : Nat) : Int) = (n : Int) / 10 := by omega
        have e2 : ((n % 10 : Nat) : Int) = (n : Int) % 10 := by omega
        rw [e1] at h1
        rw [e2] at h2
        have hd := decDigits_big h10
        have hm : Lib.decDigits (n % 10) = [UInt8.ofNat (48 + n % 10)] := Lib.decDigits_one (by omega)
        rw [← hm] at hd
        have HD := Lib.hid hd
        have hz1 := decDigits_short 9 (n / 10) (by omega) (by omega)
        have hz2 := decDigits_short 9 (n % 10) (by omega) (by omega)
        have hsz : (mkB (Lib.decDigits (n / 10))).size + (mkB (Lib.decDigits (n % 10))).size ≤ 20 := by rw [Lib.size_eq, Lib.size_eq, mkB_data, mkB_data]; omega
        clear hz1 hz2
        generalize Lib.decDigits (n / 10) = d1 at *
        generalize Lib.decDigits (n % 10) = d2 at *
        clear e1 e2 hd hm h10 hk hb
        go_enter Tryd.func35, Tryd.ntmps35
        go_wp2_with fail
        refine (h1 _).out.mono ?_
        rintro e w1 ⟨rfl, rfl⟩
        go_wp2_with fail
        refine (h2 _).out.mono ?_
        rintro e w2 ⟨rfl, rfl⟩
        go_wp2_with fail
        go_ret
        refine ⟨?_, rfl⟩
        rw [HD.out]
        first | rfl | (congr 2; exact bytes_ext (by simp [mkB]))
end Go.Proofs.YtndhhgpmpnmljaaDoor
