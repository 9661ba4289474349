import Derived.Test.YtaogeadljgjpcaaGreatDoorRq46
import Derived.Laws.RangeAny
namespace Go.Proofs.YtaogeadljgjpcaaGreatDoor
open Go Go.RowKit Go.Shelf
attribute [local go_sem] aQ aM

def offC (C : List (List UInt8)) (n : Nat) : Nat := (C.take n).flatten.length
theorem offC_succ {C : List (List UInt8)} {n : Nat} {c : List UInt8} (h : C[n]? = some c) : offC C (n + 1) = offC C n + c.length := by
  unfold offC
  rw [bM h, List.flatten_append, List.length_append]
  simp
theorem offC_all {C : List (List UInt8)} {s : ByteArray} (hf : C.flatten = bl s) : offC C C.length = s.size := by
  unfold offC
  rw [List.take_length, hf, dJ]
theorem offC_drop {C : List (List UInt8)} {s : ByteArray} (hf : C.flatten = bl s) (n : Nat) : (bl s).drop (offC C n) = (C.drop n).flatten := by
  have h : C.flatten = (C.take n).flatten ++ (C.drop n).flatten := by rw [← List.flatten_append, List.take_append_drop]
  rw [← hf, h]
  exact List.drop_left
theorem offC_mono {C : List (List UInt8)} {a b : Nat} (h : a ≤ b) : offC C a ≤ offC C b := by
  unfold offC
  rw [show C.take a = (C.take b).take a by rw [List.take_take]; congr 1; omega]
  exact iA1 (List.take_sublist _ _)
theorem cut_dec {C : List (List UInt8)} (hC : iQ C) {s : ByteArray} (hf : C.flatten = bl s) {n : Nat} {c : List UInt8} (h : C[n]? = some c) : (Utf8.decode s (offC C n)).2 = c.length := by
  have hm := hC c (List.mem_of_getElem? h)
  rw [← Lib.decodeL_drop, show s.data.toList = bl s from rfl, offC_drop hf]
  have hd : C.drop n = c :: C.drop (n + 1) := by
    obtain ⟨hl, rfl⟩ := List.getElem?_eq_some_iff.1 h
    rw [List.drop_eq_getElem_cons hl]
  rw [hd, List.flatten_cons, hm.app, hm.len]
theorem cut_part {C : List (List UInt8)} {s : ByteArray} (hf : C.flatten = bl s) {f t : Nat} (hft : f ≤ t) : s.extract (offC C f) (offC C t) = ptC C f t := by
  refine yC0 ?_
  rw [wG]
  show (s.extract (offC C f) (offC C t)).data.toList = _
  rw [ByteArray.data_extract, Array.toList_extract]
  show ((s.data.toList.drop (offC C f)).take (offC C t - offC C f)) = _
  rw [show s.data.toList = bl s from rfl, offC_drop hf]
  have h2 : (C.drop f).flatten = ((C.drop f).take (t - f)).flatten ++ ((C.drop f).drop (t - f)).flatten := by rw [← List.flatten_append, List.take_append_drop]
  have h3 : offC C t - offC C f = ((C.drop f).take (t - f)).flatten.length := by
    unfold offC
    have : C.take t = C.take f ++ (C.drop f).take (t - f) := by
      have := List.take_append_drop f (C.take t)
      rw [List.take_take, show min f t = f by omega, List.drop_take] at this
      exact this.symm
    rw [this, List.flatten_append, List.length_append]
    omega
  rw [h3, h2]
  exact List.take_left
theorem count_codes {s : ByteArray} {C : List (List UInt8)} (hC : iQ C) (hf : C.flatten = bl s) : countS s = (C.length : Nat) := by
  have hv : Lib.validD (bl s) = true := kY.2 ⟨C, hC, hf⟩
  rw [nR hv, ← hf, (fR hC).2]
  unfold uP
  rw [List.length_map]
set_option maxHeartbeats 4000000 in
set_option maxRecDepth 100000 in
theorem cut_any (s : ByteArray) (C : List (List UInt8)) (f t : Nat) (w : World) (he : Env w) (hs : s.size ≤ 140737488355328) (hC : iQ C) (hf : C.flatten = bl s) (hft : f ≤ t) (htl : t ≤ C.length) :
    Calls Tryz.prog 29 #[.string s, .int .i64 f, .int .i64 t] w fun e w' => e = .returned (.tuple #[.string (ptC C f t), .bool true]) ∧ aB w w' := by
  have hcs : countS s = (C.length : Nat) := count_codes hC hf
  have CC := Lib.hid (mK s w (by omega) he)
  rw [hcs] at CC
  have hlenC : C.length ≤ s.size := by
    have h1 := (fR hC).2
    rw [hf] at h1
    have h2 := kO (bl s)
    rw [h1, dJ] at h2
    unfold uP at h2
    rwa [List.length_map] at h2
  have n1 : decide ((f : Int) < 0) = false := decide_eq_false (by omega)
  have n2 : decide ((t : Int) < f) = false := decide_eq_false (by omega)
  have n3 : decide ((C.length : Int) < t) = false := decide_eq_false (by omega)
  have HCO := Lib.hid hC
  have HFL := Lib.hid hf
  clear he hcs hC hf
  go_enter Tryz.func29, Tryz.ntmps29
  go_wp2_with fail
  refine CC.out.mono ?_
  rintro e w1 ⟨rfl, hg1⟩
  clear CC
  go_wp2_with fail
  go_loopw [8, 9, 10] (fun a b n wr => ∃ k : Nat, k ≤ C.length ∧ n = .int .i64 k ∧ a = .int .i64 ((if f < k then offC C f else s.size : Nat) : Int) ∧ b = .int .i64 ((if t < k then offC C t else s.size : Nat) : Int) ∧ wr = w1.iter s (offC C k)) (fun _ _ n _ => C.length - (intOf n).toNat)
  case atStart => exact ⟨0, Nat.zero_le _, rfl, by simp, by simp, by simp [offC]⟩
  case round =>
    obtain ⟨k, hk, rfl, rfl, rfl, rfl⟩ := hrel
    by_cases hlt : k < C.length
    · obtain ⟨c, hc⟩ : ∃ c, C[k]? = some c := ⟨_, List.getElem?_eq_getElem hlt⟩
      have hdc := cut_dec HCO.out HFL.out hc
      have hsc := offC_succ hc
      have hne : 1 ≤ c.length := List.length_pos_iff.2 (HCO.out c (List.mem_of_getElem? hc)).ne
      have hle := offC_mono (C := C) (show k + 1 ≤ C.length by omega)
      rw [offC_all HFL.out] at hle
      have hnx : ∀ ty, (Instr.next (.pointer (some ⟨w1.heap.size, 0, none⟩)) true ty).run Tryz.prog (w1.iter s (offC C k)) = _ := fun ty => run_next_any w1 s (offC C k) ty (by omega)
      rw [hdc, ← hsc] at hnx
      generalize (Utf8.decode s (offC C k)).1 = rn at hnx
      have hA : (if f < k + 1 then offC C f else s.size) = if k = f then offC C k else (if f < k then offC C f else s.size) := by
        by_cases e : k = f
        · rw [if_pos e, if_pos (by omega), e]
        · rw [if_neg e]
          by_cases e2 : f < k
          · rw [if_pos e2, if_pos (by omega)]
          · rw [if_neg e2, if_neg (by omega)]
      have hB : (if t < k + 1 then offC C t else s.size) = if k = t then offC C k else (if t < k then offC C t else s.size) := by
        by_cases e : k = t
        · rw [if_pos e, if_pos (by omega), e]
        · rw [if_neg e]
          by_cases e2 : t < k
          · rw [if_pos e2, if_pos (by omega)]
          · rw [if_neg e2, if_neg (by omega)]
      have HA := Lib.hid hA
      have HB := Lib.hid hB
      generalize (if f < k then offC C f else s.size) = A at HA
      generalize (if t < k then offC C t else s.size) = B at HB
      clear hA hB hc hdc hsc hne hle
      by_cases e1 : k = f
      · have b1 : ((k : Int) == f) = true := by rw [beq_iff_eq]; omega
        by_cases e2 : k = t
        · have b2 : ((k : Int) == t) = true := by rw [beq_iff_eq]; omega
          have HA2 : Hid ((if f < k + 1 then offC C f else s.size) = offC C k) := by show _ = _; rw [HA.out, if_pos e1]
          have HB2 : Hid ((if t < k + 1 then offC C t else s.size) = offC C k) := by show _ = _; rw [HB.out, if_pos e2]
          clear e1 e2
          go_wp2_with fail
          go_roundw
          case rel => exact ⟨k + 1, hlt, by go_num, by rw [HA2.out], by rw [HB2.out], rfl⟩
          case measure => simp [intOf]; omega
        · have b2 : ((k : Int) == t) = false := by rw [beq_eq_false_iff_ne]; omega
          have HA2 : Hid ((if f < k + 1 then offC C f else s.size) = offC C k) := by show _ = _; rw [HA.out, if_pos e1]
          have HB2 : Hid ((if t < k + 1 then offC C t else s.size) = B) := by show _ = _; rw [HB.out, if_neg e2]
          clear e1 e2
          go_wp2_with fail
          go_roundw
          case rel => exact ⟨k + 1, hlt, by go_num, by rw [HA2.out], by rw [HB2.out], rfl⟩
          case measure => simp [intOf]; omega
      · have b1 : ((k : Int) == f) = false := by rw [beq_eq_false_iff_ne]; omega
        by_cases e2 : k = t
        · have b2 : ((k : Int) == t) = true := by rw [beq_iff_eq]; omega
          have HA2 : Hid ((if f < k + 1 then offC C f else s.size) = A) := by show _ = _; rw [HA.out, if_neg e1]
          have HB2 : Hid ((if t < k + 1 then offC C t else s.size) = offC C k) := by show _ = _; rw [HB.out, if_pos e2]
          clear e1 e2
          go_wp2_with fail
          go_roundw
          case rel => exact ⟨k + 1, hlt, by go_num, by rw [HA2.out], by rw [HB2.out], rfl⟩
          case measure => simp [intOf]; omega
        · have b2 : ((k : Int) == t) = false := by rw [beq_eq_false_iff_ne]; omega
          have HA2 : Hid ((if f < k + 1 then offC C f else s.size) = A) := by show _ = _; rw [HA.out, if_neg e1]
          have HB2 : Hid ((if t < k + 1 then offC C t else s.size) = B) := by show _ = _; rw [HB.out, if_neg e2]
          clear e1 e2
          go_wp2_with fail
          go_roundw
          case rel => exact ⟨k + 1, hlt, by go_num, by rw [HA2.out], by rw [HB2.out], rfl⟩
          case measure => simp [intOf]; omega
    · obtain rfl : k = C.length := by omega
      have hall := offC_all HFL.out
      have hA : (if f < C.length then offC C f else s.size) = offC C f := by
        by_cases e : f < C.length
        · rw [if_pos e]
        · rw [if_neg e, show f = C.length by omega, hall]
      have hB : (if t < C.length then offC C t else s.size) = offC C t := by
        by_cases e : t < C.length
        · rw [if_pos e]
        · rw [if_neg e, show t = C.length by omega, hall]
      rw [hA, hB, hall]
      have hnx : ∀ ty, (Instr.next (.pointer (some ⟨w1.heap.size, 0, none⟩)) true ty).run Tryz.prog (w1.iter s s.size) = _ := fun ty => run_next_end w1 s s.size ty (by omega)
      have HP := Lib.hid (cut_part HFL.out hft)
      have h1 := offC_mono (C := C) hft
      have h2 := offC_mono (C := C) htl
      rw [hall] at h2
      have HG : Hid (aB w1 (w1.iter s s.size)) := aB.alloc _ _
      generalize offC C f = a at HP h1 ⊢
      generalize offC C t = b at HP h1 h2 ⊢
      have j1 : (0 : Int) ≤ a := by omega
      have j2 : (a : Int) ≤ b := by omega
      have j3 : (b : Int) ≤ s.size := by omega
      have j4 : a ≤ b := by omega
      have j5 : b ≤ s.size := by omega
      clear hA hB hall h1 h2
      go_wp2_with fail
      go_ret2
      exact ⟨by rw [← HP.out]; rfl, hg1.tr HG.out⟩
set_option maxHeartbeats 4000000 in
set_option maxRecDepth 100000 in
theorem cut_no (s : ByteArray) (C : List (List UInt8)) (f t : Nat) (w : World) (he : Env w) (hs : s.size ≤ 140737488355328) (hC : iQ C) (hf : C.flatten = bl s) (hft : f ≤ t) (htl : C.length < t) :
    Calls Tryz.prog 29 #[.string s, .int .i64 f, .int .i64 t] w fun e w' => e = .returned (.tuple #[.string ⟨#[]⟩, .bool false]) ∧ aB w w' := by
  have hcs : countS s = (C.length : Nat) := count_codes hC hf
  have CC := Lib.hid (mK s w (by omega) he)
  rw [hcs] at CC
  have n1 : decide ((f : Int) < 0) = false := decide_eq_false (by omega)
  have n2 : decide ((t : Int) < f) = false := decide_eq_false (by omega)
  have n3 : decide ((C.length : Int) < t) = true := decide_eq_true (by omega)
  clear he hcs hC hf
  go_enter Tryz.func29, Tryz.ntmps29
  go_wp2_with fail
  refine CC.out.mono ?_
  rintro e w1 ⟨rfl, hg1⟩
  clear CC
  go_wp2_with fail
  go_ret2
  exact ⟨rfl, hg1⟩
theorem dic_ents {x : zU} {w : World} {db : Nat} {m : Mx} (h : gA0 x w db m) : ∀ e ∈ sortS x.e, e.s.size ≠ 0 ∧ 0 ≤ e.l ∧ e.l < (x.p.length : Int) ∧ 0 ≤ e.t ∧ e.t < (x.p.length : Int) ∧ 0 ≤ e.c ∧ e.c ≤ 30000 := fun e he => by
  have h1 := h.dk.num e he
  have h2 := (sZ0 ((eU h.dk.chk).2.2.2 e he)).2
  exact ⟨uG0 h2, h1.1, h1.2.1, h1.2.2.1, h1.2.2.2.1, h1.2.2.2.2.1, h1.2.2.2.2.2⟩
theorem dic_plain {x : zU} {w : World} {db : Nat} {m : Mx} (h : gA0 x w db m) : 0 ≤ ((plainP x.p : Nat) : Int) ∧ ((plainP x.p : Nat) : Int) < (x.p.length : Int) := by
  have h1 := (pE0 h.ne).le
  have h2 := List.length_pos_iff.2 h.ne
  omega
theorem case_count {c : xN} {C : List (List UInt8)} (hC : iQ C) (hf : C.flatten = bl c.x) : countS c.x = (C.length : Nat) := by
  have hv : Lib.validD (bl c.x) = true := kY.2 ⟨C, hC, hf⟩
  rw [nR hv, ← hf, (fR hC).2]
  unfold uP
  rw [List.length_map]
end Go.Proofs.YtaogeadljgjpcaaGreatDoor
