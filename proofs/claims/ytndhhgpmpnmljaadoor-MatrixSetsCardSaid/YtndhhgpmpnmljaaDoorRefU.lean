import Derived.Test.YtndhhgpmpnmljaaDoorPutU
namespace Go.Proofs.YtndhhgpmpnmljaaDoor
open Go Go.RowKit
attribute [local go_sem] quietE

theorem low128 (k : Nat) : [Value.int .u8 ((k : Int) % 128 + 128)] = byteC (UInt8.ofNat (k % 128 + 128)) := by
  unfold byteC
  rw [UInt8.toNat_ofNat']
  congr 2
  omega
set_option maxHeartbeats 2000000 in
set_option maxRecDepth 100000 in
theorem ruint_any (n : Nat) (w : World) (hv : n ≤ 1048576) :
    Calls Tryd.prog 52 #[.int .u64 n] w fun e w' => ∃ v, e = .returned v ∧ Owns w' w.heap.size 5 1 byteC v (putU n) ∧ Grows w w' := by
  go_enter Tryd.func52, Tryd.ntmps52
  go_wp2_with fail
  go_loopw [0, 3] (fun v b wr => ∃ (k : Nat) (pre : List UInt8), v = .int .u64 k ∧ Owns wr w.heap.size 5 1 byteC b pre ∧ Hid (pre ++ putU k = putU n) ∧ k ≤ 1048576 ∧ Grows w wr) (fun v _ _ => (intOf v).toNat)
  case atStart => exact ⟨n, [], rfl, Owns.nil _ _ _ _ _, rfl, hv, Grows.refl _⟩
  case round =>
    obtain ⟨k, pre, rfl, hs, hp, hk, hg⟩ := hrel
    have hpl : pre.length ≤ 10 := by
      have h1 := congrArg List.length hp.out
      have h2 := putU_len n
      rw [List.length_append] at h1
      omega
    by_cases h128 : 128 ≤ k
    · have hki : (128 : Int) ≤ k := by omega
      have HB := Lib.hid (low128 k)
      rw [putU_big h128 (by omega)] at hp
      go_wp2_with (at_builtin; refine app_one byteLay rfl _ _ rfl w.heap.size _ pre (UInt8.ofNat (k % 128 + 128)) rfl hs (Grows.refl _) _ 1 rfl _ HB.out rfl (by omega) hg.size ?_; intro v' w5 hown5 hg5)
      go_roundw
      case rel => exact ⟨k / 128, pre ++ [UInt8.ofNat (k % 128 + 128)], by go_num, hown5, by show (pre ++ [_]) ++ putU (k / 128) = putU n; rw [List.append_assoc]; exact hp.out, by omega, hg5 w hg (Nat.le_refl _)⟩
      case measure => simp [intOf]; omega
    · have hki : ¬ (128 : Int) ≤ k := by omega
      have hb := Lib.hid (low_nat (k := k) (by omega))
      rw [putU_small (by omega)] at hp
      go_wp2_with (at_builtin; refine app_one byteLay rfl _ _ rfl w.heap.size _ pre (UInt8.ofNat k) rfl hs (Grows.refl _) _ 1 rfl _ (by rw [hb.out]; rfl) rfl (by omega) hg.size ?_; intro v' w5 hown5 hg5)
      go_ret
      refine ⟨_, rfl, ?_, hg5 w hg (Nat.le_refl _)⟩
      rw [← hp.out]; exact hown5
end Go.Proofs.YtndhhgpmpnmljaaDoor
