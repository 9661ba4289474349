import Derived.Test.YtfkebhkckcnlpaaGreatDoorBytes
import Derived.Test.YtfkebhkckcnlpaaGreatDoorRefX
import Derived.Test.YtfkebhkckcnlpaaGreatDoorRefK
import Derived.Test.YtfkebhkckcnlpaaGreatDoorEntryP
import Derived.Lib.SmallJoins
namespace Go.Proofs.YtfkebhkckcnlpaaGreatDoor
open Go Go.RowKit
attribute [local go_sem] quietE

theorem app_data2 (a b : ByteArray) : (a ++ b).data.toList = a.data.toList ++ b.data.toList := by simp
theorem conv_one (w : World) (c : Int) (n : Nat) (hn : n = w.heap.size) (h0 : 0 ≤ c) (h1 : c < 256) : (convert 53 9 (.slice (some ⟨n, 0, none⟩) 1 1)).run Tryz.prog (w.alloc (.cells #[.int .u8 c] 5)) = .ok (.string (mkB [UInt8.ofNat c.toNat])) (w.alloc (.cells #[.int .u8 c] 5)) := by
  subst hn
  have hB : Lib.Bytes (w.alloc (.cells #[.int .u8 c] 5)) w.heap.size 0 (mkB [UInt8.ofNat c.toNat]) := fun i hi => by
    have hz : (mkB [UInt8.ofNat c.toNat]).size = 1 := rfl
    obtain rfl : i = 0 := by omega
    refine cell_box w _ _ _ 0 _ ?_
    show some (Value.int .u8 c) = some (.int .u8 ((UInt8.ofNat c.toNat).toNat : Int))
    rw [UInt8.toNat_ofNat']
    congr 2
    omega
  have := Lib.run_convert_whole (P := Tryz.prog) (w.alloc (.cells #[.int .u8 c] 5)) 53 5 9 Tryz.underlying53 Tryz.underlying5 Tryz.underlying9 w.heap.size 0 _ hB 1
  exact this

set_option maxHeartbeats 2000000 in
set_option maxRecDepth 100000 in
theorem decimal_any : ∀ (k n : Nat), n ≤ k → n < 1000000000 → ∀ w, Calls Tryz.prog 44 #[.int .i64 n] w fun e w' => e = .returned (.string (mkB (Lib.decDigits n))) ∧ Grows w w'
  | k, n, hk, hb, w => by
    by_cases h10 : n < 10
    · have g : (n : Int) < 10 := by omega
      have g0 : (0 : Int) ≤ n := by omega
      have hc := conv_one w (48 + (n : Int)) w.heap.size rfl (by omega) (by omega)
      have hd : Lib.decDigits n = [UInt8.ofNat (48 + (n : Int)).toNat] := by
        rw [Lib.decDigits_one h10]
        congr 2
      rw [hd]
      generalize [UInt8.ofNat (48 + (n : Int)).toNat] = ds at hc ⊢
      clear hd h10 hk hb
      go_enter Tryz.func44, Tryz.ntmps44
      go_wp2
      go_ret
      exact ⟨rfl, Grows.alloc _ _⟩
    · cases k with
      | zero => omega
      | succ k =>
        have g : ¬ (n : Int) < 10 := by omega
        have g0 : (0 : Int) ≤ n := by omega
        have gb : (n : Int) ≤ 999999999 := by omega
        have h1 := fun W => Lib.hid (decimal_any k (n / 10) (by omega) (by omega) W)
        have h2 := fun W => Lib.hid (decimal_any k (n % 10) (by omega) (by omega) W)
        have e1 : ((n / 10 : Nat) : Int) = (n : Int) / 10 := by omega
        have e2 : ((n % 10 : Nat) : Int) = (n : Int) % 10 := by omega
        rw [e1] at h1
        rw [e2] at h2
        have hd := decDigits_big h10
        have hm : Lib.decDigits (n % 10) = [UInt8.ofNat (48 + n % 10)] := Lib.decDigits_one (by omega)
        rw [← hm] at hd
        have HD := Lib.hid hd
        have hz1 := decDigits_short 9 (n / 10) (by omega) (by omega)
        have hz2 := decDigits_short 9 (n % 10) (by omega) (by omega)
        have hsz : (mkB (Lib.decDigits (n / 10))).size + (mkB (Lib.decDigits (n % 10))).size ≤ 20 := by rw [Lib.size_eq, Lib.size_eq, mkB_data, mkB_data]; omega
        clear hz1 hz2
        generalize Lib.decDigits (n / 10) = d1 at *
        generalize Lib.decDigits (n % 10) = d2 at *
        clear e1 e2 hd hm h10 hk hb
        go_enter Tryz.func44, Tryz.ntmps44
        go_wp2_with fail
        refine (h1 _).out.mono ?_
        rintro e w1 ⟨rfl, hg1⟩
        go_wp2_with fail
        refine (h2 _).out.mono ?_
        rintro e w2 ⟨rfl, hg2⟩
        go_wp2_with fail
        go_ret
        refine ⟨?_, hg1.tr hg2⟩
        rw [HD.out]
        first | rfl | (congr 2; exact bytes_ext (by simp [mkB]))
end Go.Proofs.YtfkebhkckcnlpaaGreatDoor
