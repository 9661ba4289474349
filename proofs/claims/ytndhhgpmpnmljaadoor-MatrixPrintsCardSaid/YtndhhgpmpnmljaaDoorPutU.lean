import Derived.Test.YtndhhgpmpnmljaaDoorApp2
import Derived.ArgAppend
import Derived.Lib.SliceRun
namespace Go.Proofs.YtndhhgpmpnmljaaDoor
open Go Go.RowKit
attribute [local go_sem] quietE

/-- The code of a number, with fuel. -/
def putUF : Nat → Nat → List UInt8
  | 0, _ => []
  | f + 1, n => if n < 128 then [UInt8.ofNat n] else UInt8.ofNat (n % 128 + 128) :: putUF f (n / 128)
def putU (n : Nat) : List UInt8 := putUF 10 n
theorem putUF_fuel : ∀ (f g n : Nat), n < 128 ^ f → f ≤ g → 0 < f → putUF g n = putUF f n
  | 0, _, _, _, _, h => by omega
  | f + 1, 0, _, _, h, _ => by omega
  | f + 1, g + 1, n, h, hle, _ => by
    unfold putUF
    by_cases h1 : n < 128
    · rw [if_pos h1, if_pos h1]
    · rw [if_neg h1, if_neg h1]
      rw [Nat.pow_succ] at h
      have h2 : n / 128 < 128 ^ f := Nat.div_lt_of_lt_mul (by rw [Nat.mul_comm]; exact h)
      rcases Nat.eq_zero_or_pos f with h0 | h0
      · subst h0
        simp at h
        omega
      · rw [putUF_fuel f g (n / 128) h2 (by omega) h0]
theorem putU_small {n : Nat} (h : n < 128) : putU n = [UInt8.ofNat n] := by unfold putU putUF; rw [if_pos h]
theorem putU_big {n : Nat} (h : 128 ≤ n) (hn : n < 128 ^ 9) : putU n = UInt8.ofNat (n % 128 + 128) :: putU (n / 128) := by
  have h1 : putU n = UInt8.ofNat (n % 128 + 128) :: putUF 9 (n / 128) := by
    show (if n < 128 then [UInt8.ofNat n] else UInt8.ofNat (n % 128 + 128) :: putUF 9 (n / 128)) = _
    rw [if_neg (by omega)]
  have h2 : n / 128 < 128 ^ 9 := Nat.lt_of_le_of_lt (Nat.div_le_self _ _) hn
  rw [h1]
  unfold putU
  rw [putUF_fuel 9 10 (n / 128) h2 (by omega) (by omega)]

theorem putUF_len : ∀ (f n : Nat), (putUF f n).length ≤ f
  | 0, _ => by simp [putUF]
  | f + 1, n => by
    unfold putUF
    split
    · simp
    · have := putUF_len f (n / 128)
      simp only [List.length_cons]; omega
theorem putU_len (n : Nat) : (putU n).length ≤ 10 := putUF_len 10 n
theorem or128 : ∀ x : Fin 256, bits BinOp.or .u8 (x.val : Int) 128 = ((x.val % 128 + 128 : Nat) : Int) := by decide +kernel
theorem or128_nat (k : Nat) : bits BinOp.or .u8 ((k : Int) % 256) 128 = ((UInt8.ofNat (k % 128 + 128)).toNat : Int) := by
  have h := or128 ⟨k % 256, Nat.mod_lt _ (by decide)⟩
  have e : (((⟨k % 256, Nat.mod_lt _ (by decide)⟩ : Fin 256).val : Nat) : Int) = (k : Int) % 256 := by simp
  rw [e] at h
  rw [h, UInt8.toNat_ofNat']
  simp only
  omega
theorem low_nat {k : Nat} (h : k < 128) : Value.int .u8 (k : Int) = .int .u8 ((UInt8.ofNat k).toNat : Int) := by
  rw [UInt8.toNat_ofNat']; congr 1; omega
/-- A slice that owns its bytes, or one that is full. -/
def Src (w : World) (base : Nat) (v : Value) (xs : List UInt8) : Prop :=
  Owns w base 5 1 byteC v xs ∨ ∃ a, v = .slice a xs.length xs.length ∧ AtCells w a 1 (xs.map byteC) ∧ (a = none → xs = [])
theorem Src.grows {w w' : World} {base : Nat} {v : Value} {xs : List UInt8} (h : Src w base v xs) (hg : Grows w w') : Src w' base v xs := by
  rcases h with h | ⟨a, h1, h2, h3⟩
  · exact Or.inl (h.grows hg)
  · exact Or.inr ⟨a, h1, h2.grows hg, h3⟩
theorem app_src {ops : Array Oper} {rest : List Oper} {o : Oper} {a : Act} {Q : Exit → Act → World → Prop} {w W : World}
    (hgd : o.guard = none) (s x : Operand) (hop : o.op = .call { callee := .builtin .append, args := #[s, x], argTypes := #[48, 48] })
    (base : Nat) (v : Value) (xs : List UInt8) (y : UInt8) (hs : a.eval s = v) (hown : Src w base v xs) (hgr : Grows w W) (n c : Nat) (hn : n = W.heap.size) (cs : Array Value) (hcs : cs.toList = byteC y)
    (hx : a.eval x = .slice (some ⟨n, 0, none⟩) 1 c) (hlen : xs.length + 1 ≤ 140737488355328) (hbase : base ≤ w.heap.size)
    (h : ∀ v' w', Owns w' base 5 1 byteC v' (xs ++ [y]) → (∀ a0, Grows a0 w → a0.heap.size ≤ base → Grows a0 w') → wpList Tryd.prog ops Q rest (a.put o.dst v') w') :
    wpList Tryd.prog ops Q (o :: rest) a (W.alloc (.cells cs 5)) := by
  rcases hown with hown | ⟨b, rfl, hat, hnone⟩
  · exact app_one byteLay hgd s x hop base v xs y hs hown hgr n c hn cs hcs hx (by omega) hbase h
  · obtain ⟨i, z, hi, hz, hsize, hby, hzs⟩ := byteLay.info
    have hgr2 : Grows w (W.alloc (.cells cs 5)) := hgr.al _
    refine wpList_append_grows _ hgd s x _ hop 5 i z 1 1 byteLay.sl hi hz hsize hby hzs (by decide) b xs.length xs.length (xs.flatMap byteC) hs (fun hb => by rw [hnone hb]; exact ⟨rfl, rfl⟩) (flat_length byteLay.len xs) (fun ad had j u hu => ?_)
      ⟨n, 0, none⟩ 1 c (byteC y) hx rfl (fun j u hu => alloc_new_at hn j u (by rw [hcs]; exact hu)) (byteLay.one y) (by omega) (by unfold maxLen; omega) (by omega) ?_
    · obtain ⟨i', jj, y', h1, h2, h3⟩ := flat_split byteLay.len xs j u hu
      have hne : xs.map byteC ≠ [] := by rintro e; rw [List.map_eq_nil_iff] at e; subst e; simp at h2
      obtain ⟨b', off, ha, hc⟩ := hat hne
      rw [had] at ha
      obtain rfl := Option.some.inj ha
      have hcell := hc i' (byteC y') (by rw [List.getElem?_map, h2]; rfl) jj u h3
      have : (⟨b', off, none⟩ : Addr).add j = ⟨b', off + i' * 1 + jj, none⟩ := by
        unfold Addr.add
        by_cases h0 : j = 0
        · subst h0
          have hz0 : i' = 0 ∧ jj = 0 := by omega
          simp [hz0.1, hz0.2]
        · simp [h0]; omega
      rw [this]
      exact hgr2.cell hcell
    · intro v' w' h1 h2
      refine h v' w' ?_ (fun a0 h0 hb => (h0.tr hgr2).grown h2 (fun q hq => by cases hq))
      have h3 : w'.ownsRow (W.alloc (.cells cs 5)).heap.size 5 1 v' (xs ++ [y]).length ((xs ++ [y]).flatMap byteC) := by
        rw [List.length_append, List.length_singleton, List.flatMap_append]
        simpa using h1
      exact ownsRow_base h3 (Nat.le_trans hbase hgr2.size)

theorem owns_none2 {α : Type} {w : World} {base : Nat} {e : TypeId} {k : Nat} {enc : α → List Value} {a : Option Addr} {n c : Nat} {xs : List α} (h : Owns w base e k enc (.slice a n c) xs) : a = none → c = 0 := by
  intro ha
  rcases h.2 with ⟨h1, _⟩ | ⟨g, cap, cur, h1, _⟩
  · have : a = none ∧ n = 0 ∧ c = 0 := by simpa using h1
    exact this.2.2
  · rw [ha] at h1; simp at h1
set_option maxHeartbeats 1000000 in
set_option maxRecDepth 100000 in
theorem clone_any (xs : List UInt8) (a : Option Addr) (c : Nat) (w : World) (hx : xs.length ≤ 1099511627776) (hat : AtCells w a 1 (xs.map byteC)) (hn : a = none → c = 0) :
    Calls Tryd.prog 67 #[.slice a xs.length c] w fun e w' => ∃ v, e = .returned v ∧ Owns w' w.heap.size 5 1 byteC v xs ∧ Grows w w' := by
  have HAT := Lib.hid hat
  cases a with
  | none =>
    obtain rfl := hn rfl
    have hx0 : xs = [] := Decidable.byContradiction fun hne => by
      obtain ⟨b, off, h, _⟩ := hat (by simpa using hne)
      cases h
    subst hx0
    have hq := fun w => Lib.run_eql_slice_nil (P := Tryd.prog) w 48 5 none 0 0 0 0 Tryd.underlying48
    clear hat hn HAT
    go_enter Tryd.func67, Tryd.ntmps67
    go_wp2_with fail
    go_ret
    exact ⟨_, rfl, Owns.nil _ _ _ _ _, Grows.refl _⟩
  | some ad =>
    have hq := fun w => Lib.run_eql_slice_nil (P := Tryd.prog) w 48 5 (some ad) xs.length c 0 0 Tryd.underlying48
    clear hat hn
    go_enter Tryd.func67, Tryd.ntmps67
    have HSRC := Lib.hid (HAT.out.grows (Grows.alloc w (.cells #[] 5)))
    go_wp2_with (at_builtin; refine app_many byteLay rfl _ _ rfl w.heap.size _ [] xs rfl (owns_lit w.heap.size (Nat.le_refl _)) (Grows.refl _) (some ad) c rfl HSRC.out (fun h => by cases h) (by simp; omega) (by simp) ?_; intro v' w3 hown3 hg3)
    go_ret
    rw [List.nil_append] at hown3
    exact ⟨_, rfl, hown3, hg3 w (Grows.alloc _ _) (Nat.le_refl _)⟩
set_option maxHeartbeats 1000000 in
theorem clip_any (xs : List UInt8) (a : Option Addr) (c : Nat) (w : World) (hc : xs.length ≤ c) :
    Calls Tryd.prog 66 #[.slice a xs.length c] w fun e w' => e = .returned (.slice a xs.length xs.length) ∧ w = w' := by
  go_enter Tryd.func66, Tryd.ntmps66
  go_wp2_with fail
  go_ret
  exact ⟨rfl, rfl⟩
set_option maxHeartbeats 2000000 in
set_option maxRecDepth 100000 in
theorem putUint_any (xs : List UInt8) (a : Option Addr) (c n : Nat) (w : World) (hx : xs.length ≤ 1099511627776) (hv : n ≤ 1048576) (hat : AtCells w a 1 (xs.map byteC)) (hn : a = none → c = 0) :
    Calls Tryd.prog 50 #[.slice a xs.length c, .int .u64 n] w fun e w' => ∃ v, e = .returned v ∧ Owns w' w.heap.size 5 1 byteC v (xs ++ putU n) ∧ Grows w w' := by
  have CC := Lib.hid (clone_any xs a c w hx hat hn)
  clear hat hn
  go_enter Tryd.func50, Tryd.ntmps50
  go_wp2_with fail
  refine CC.out.mono ?_
  rintro e w1 ⟨v1, rfl, hown1, hg1⟩
  obtain ⟨a1, c1, rfl, h11, h12, hat1⟩ := hown1.at_ byteLay.len
  have hn1 := owns_none2 hown1
  go_wp2_with fail
  refine (clip_any xs a1 c1 w1 h11).mono ?_
  rintro e w2 ⟨rfl, rfl⟩
  have hsrc : Src w1 w.heap.size (.slice a1 xs.length xs.length) xs := Or.inr ⟨a1, rfl, hat1, fun h => List.eq_nil_of_length_eq_zero (by have := hn1 h; omega)⟩
  clear hown1 hat1 hn1 CC
  go_wp2_with fail
  go_loopw [0, 1] (fun b v wr => ∃ (k : Nat) (pre : List UInt8), v = .int .u64 k ∧ Src wr w.heap.size b (xs ++ pre) ∧ Hid (pre ++ putU k = putU n) ∧ k ≤ 1048576 ∧ Grows w wr) (fun _ v _ => (intOf v).toNat)
  case atStart => exact ⟨n, [], rfl, by rw [List.append_nil]; exact hsrc, rfl, hv, hg1⟩
  case round =>
    obtain ⟨k, pre, rfl, hs, hp, hk, hg⟩ := hrel
    have hpl : pre.length ≤ 10 := by
      have h1 := congrArg List.length hp.out
      have h2 := putU_len n
      rw [List.length_append] at h1
      omega
    by_cases h128 : 128 ≤ k
    · have hki : (128 : Int) ≤ k := by omega
      have hb := Lib.hid (or128_nat k)
      rw [putU_big h128 (by omega)] at hp
      go_wp2_with (at_builtin; refine app_src rfl _ _ rfl w.heap.size _ (xs ++ pre) (UInt8.ofNat (k % 128 + 128)) rfl hs (Grows.refl _) _ 1 rfl _ (by rw [hb.out]; rfl) rfl (by rw [List.length_append]; omega) hg.size ?_; intro v' w5 hown5 hg5)
      go_roundw
      case rel => exact ⟨k / 128, pre ++ [UInt8.ofNat (k % 128 + 128)], by go_num, Or.inl (by rw [← List.append_assoc]; exact hown5), by show (pre ++ [_]) ++ putU (k / 128) = putU n; rw [List.append_assoc]; exact hp.out, by omega, hg5 w hg (Nat.le_refl _)⟩
      case measure => simp [intOf]; omega
    · have hki : ¬ (128 : Int) ≤ k := by omega
      have hb := Lib.hid (low_nat (k := k) (by omega))
      rw [putU_small (by omega)] at hp
      go_wp2_with (at_builtin; refine app_src rfl _ _ rfl w.heap.size _ (xs ++ pre) (UInt8.ofNat k) rfl hs (Grows.refl _) _ 1 rfl _ (by rw [hb.out]; rfl) rfl (by rw [List.length_append]; omega) hg.size ?_; intro v' w5 hown5 hg5)
      go_ret
      refine ⟨_, rfl, ?_, hg5 w hg (Nat.le_refl _)⟩
      rw [← hp.out, ← List.append_assoc]; exact hown5
end Go.Proofs.YtndhhgpmpnmljaaDoor
