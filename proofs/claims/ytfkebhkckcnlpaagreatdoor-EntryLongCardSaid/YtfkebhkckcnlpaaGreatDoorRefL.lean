import Derived.Test.YtfkebhkckcnlpaaGreatDoorRefX
import Derived.Test.YtfkebhkckcnlpaaGreatDoorRefK
import Derived.Test.YtfkebhkckcnlpaaGreatDoorRefW
import Derived.Test.YtfkebhkckcnlpaaGreatDoorRead
namespace Go.Proofs.YtfkebhkckcnlpaaGreatDoor
open Go Go.RowKit
attribute [local go_sem] quietE

theorem splitS_split (c : UInt8) (s : ByteArray) : splitS c s = (splitL c s.data.toList).map mkB := splitB_L c s
theorem froz_later {w1 w2 : World} {b : Nat} (h : ∀ j, w1.frozen? ⟨b, j, none⟩ = false) (hg : Grows w1 w2) (hb : b < w1.heap.size) : ∀ j, w2.frozen? ⟨b, j, none⟩ = false := fun j => (hg.froz (p := ⟨b, j, none⟩) hb).trans (h j)
theorem pieces_at {w : World} {a : Option Addr} {xs : List ByteArray} (h : AtCells w a 1 (xs.map strC)) (hne : xs ≠ []) : ∃ b off, a = some ⟨b, off, none⟩ ∧ ∀ (j : Nat) (x : ByteArray), xs[j]? = some x → w.cell? ⟨b, off + j, none⟩ = some (.string x) := by
  obtain ⟨b, off, ha, hc⟩ := h.get hne
  exact ⟨b, off, ha, fun j x hx => by simpa using hc j x hx 0 _ rfl⟩

theorem readS_five {s r t a b c : ByteArray} {l : List PosV} (h5 : (splitL 9 s.data.toList).map mkB = [r, t, a, b, c]) :
    readS s l = if numOK c.data.toList then (let no := checkS r t (idxI (posFind l a)) (idxI (posFind l b)) (numV c) l.length
       if no = 0 then (⟨r, t, idxI (posFind l a), idxI (posFind l b), numV c⟩, 0) else (enZero, no)) else (enZero, 5) := by
  unfold readS; rw [splitS_split, h5]
theorem read_sel6 {p q : Prop} {ip : Decidable p} {iq : Decidable q} (x : En) (hp : ¬ p) (hq : q) : (if (if p then (150 : Int) else if q then 6 else 0) = 0 then (x, (0 : Int)) else (enZero, if p then 150 else if q then 6 else 0)) = (enZero, 6) := by
  rw [if_neg hp, if_pos hq]; rfl
theorem read_sel0 {p q : Prop} {ip : Decidable p} {iq : Decidable q} (x : En) (hp : ¬ p) (hq : ¬ q) : (if (if p then (150 : Int) else if q then 6 else 0) = 0 then (x, (0 : Int)) else (enZero, if p then 150 else if q then 6 else 0)) = (x, 0) := by
  rw [if_neg hp, if_neg hq]; rfl
theorem posFind_lt2 {l : List PosV} {n : ByteArray} {k : Nat} (h : posFind l n = some k) : k < l.length := by
  have := (posFind_lt h).2; simpa using this
theorem numV_ge (c : ByteArray) : 0 ≤ numV c := by unfold numV; split <;> omega

set_option maxHeartbeats 2000000 in
set_option maxRecDepth 100000 in
theorem line_short (s : ByteArray) (l : List PosV) (la : Option Addr) (cap : Nat) (w : World) (hs : s.size ≤ 4294967280) (h5 : ((splitL 9 s.data.toList).map mkB).length ≠ 5) :
    Calls Tryz.prog 38 #[.string s, .slice la l.length cap] w fun e w' => e = .returned (.tuple #[.agg #[.string ByteArray.empty, .string ByteArray.empty, .int .i64 0, .int .i64 0, .int .i64 0], .int .i64 5]) ∧ Grows w w' := by
  have CS := fun W => Lib.hid (words_any s W (by omega))
  unfold StrsPost at CS
  generalize (splitL 9 s.data.toList).map mkB = ws at *
  have h5' : ((ws.length : Int) != 5) = true := by rw [bne_iff_ne]; omega
  clear h5
  go_enter Tryz.func38, Tryz.ntmps38
  go_wp2_with (first | (go_at_call 74; refine (CS _).out.mono ?_; rintro e w1 ⟨wa, wc, rfl, hat, hg⟩; obtain ⟨bc, bf⟩ := box_cells hg; have b0 : w1.cell? ⟨w.heap.size, 0, none⟩ = some (.string ⟨#[]⟩) := bc 0 _ rfl; have b1 : w1.cell? ⟨w.heap.size, 1, none⟩ = some (.string ⟨#[]⟩) := bc 1 _ rfl; have b2 : w1.cell? ⟨w.heap.size, 2, none⟩ = some (.int .i64 0) := bc 2 _ rfl; have b3 : w1.cell? ⟨w.heap.size, 3, none⟩ = some (.int .i64 0) := bc 3 _ rfl; have b4 : w1.cell? ⟨w.heap.size, 4, none⟩ = some (.int .i64 0) := bc 4 _ rfl; clear bc; have hgw := (Grows.alloc _ _).tr hg; clear hat))
  refine bodyPost_ret (v := .tuple #[.agg #[.string ByteArray.empty, .string ByteArray.empty, .int .i64 0, .int .i64 0, .int .i64 0], .int .i64 5]) (by simp [results, Tryz.results38, go_sem, b0, b1, b2, b3, b4]; rfl) rfl ⟨rfl, ?_⟩; exact ((((hgw.set (Nat.le_refl _) _).set (Nat.le_refl _) _).set (Nat.le_refl _) _).set (Nat.le_refl _) _).set (Nat.le_refl _) _

set_option maxHeartbeats 8000000 in
set_option maxRecDepth 100000 in
theorem line_long (s r t a b c : ByteArray) (l : List PosV) (la : Option Addr) (cap : Nat) (w : World) (hs : s.size ≤ 4294967280) (hl : l.length ≤ 4611686018427387904) (hat0 : AtCells w la 2 (l.map posCells)) (h5 : (splitL 9 s.data.toList).map mkB = [r, t, a, b, c]) :
    Calls Tryz.prog 38 #[.string s, .slice la l.length cap] w fun e w' => e = .returned (.tuple #[.agg #[.string (readS s l).1.r, .string (readS s l).1.s, .int .i64 (readS s l).1.l, .int .i64 (readS s l).1.t, .int .i64 (readS s l).1.c], .int .i64 (readS s l).2]) ∧ Grows w w' := by
  have CS := fun W => Lib.hid (words_any s W (by omega))
  unfold StrsPost at CS
  have hR := readS_five (l := l) h5
  have hsz : ∀ x, x ∈ [r, t, a, b, c] → x.size ≤ 4294967280 := fun x hx => by
    have h6 : x ∈ splitS 9 s := by rw [splitS_split, h5]; exact hx
    have := splitS_size h6; omega
  rw [h5] at CS
  have CR := fun W => Lib.hid (reading2_any r W (by have := hsz r (by simp); omega))
  have CT := fun W => Lib.hid (surface2_any t W (by have := hsz t (by simp); omega))
  have CN := fun W => Lib.hid (number2_any c W (by have := hsz c (by simp); omega))
  have CFa := fun W (hW : Grows w W) => find2_any l a la cap W hl (hat0.grows hW)
  have CFb := fun W (hW : Grows w W) => find2_any l b la cap W hl (hat0.grows hW)
  have hv : valI (numOK c.data.toList) (decVal c.data.toList) = numV c := rfl
  rw [hv] at CN
  have hn0 := numV_ge c
  have hfa := fun k => posFind_lt2 (l := l) (n := a) (k := k)
  have hfb := fun k => posFind_lt2 (l := l) (n := b) (k := k)
  unfold checkS at hR
  generalize readS s l = RR at hR ⊢
  generalize readingS r = br at *
  generalize surfaceS t = bs at *
  generalize numOK c.data.toList = ok at *
  generalize numV c = nv at *
  generalize posFind l a = fa at *
  generalize posFind l b = fb at *
  have hCF : ∀ (f : Option Nat) (nm : ByteArray) (W : World), (Calls Tryz.prog 72 #[.slice la l.length cap, .string nm] W fun e w' => e = .returned (.tuple #[.int .i64 (findI f), .bool f.isSome]) ∧ W = w') → ∃ (i : Int) (y : Bool), (f = none → y = false) ∧ (∀ k, f = some k → i = k ∧ y = true) ∧ Hid (Calls Tryz.prog 72 #[.slice la l.length cap, .string nm] W fun e w' => e = .returned (.tuple #[.int .i64 i, .bool y]) ∧ W = w') := fun f nm W h => ⟨findI f, f.isSome, (fun h => by rw [h]; rfl), (fun k h => by rw [h]; exact ⟨rfl, rfl⟩), h⟩
  have HCF := Lib.hid hCF
  have CA : Hid (∀ W, Grows w W → Calls Tryz.prog 72 #[.slice la l.length cap, .string a] W fun e w' => e = .returned (.tuple #[.int .i64 (findI fa), .bool fa.isSome]) ∧ W = w') := CFa
  have CB : Hid (∀ W, Grows w W → Calls Tryz.prog 72 #[.slice la l.length cap, .string b] W fun e w' => e = .returned (.tuple #[.int .i64 (findI fb), .bool fb.isSome]) ∧ W = w') := CFb
  have HFA : Hid (∀ k, fa = some k → k < l.length) := hfa
  have HFB : Hid (∀ k, fb = some k → k < l.length) := hfb
  have HR := Lib.hid hR
  clear hR h5 hs hCF CFa CFb hfa hfb hsz hv
  cases br
  · have hr2 : RR = (enZero, 5) := by rw [HR.out]; cases ok <;> simp
    subst hr2
    clear HR
    go_enter Tryz.func38, Tryz.ntmps38
    go_wp2_with (first | (go_at_call 74; refine (CS _).out.mono ?_; rintro e w1 ⟨wa, wc, rfl, hat, hg⟩; obtain ⟨bc, bf⟩ := box_cells hg; have b0 : w1.cell? ⟨w.heap.size, 0, none⟩ = some (.string ⟨#[]⟩) := bc 0 _ rfl; have b1 : w1.cell? ⟨w.heap.size, 1, none⟩ = some (.string ⟨#[]⟩) := bc 1 _ rfl; have b2 : w1.cell? ⟨w.heap.size, 2, none⟩ = some (.int .i64 0) := bc 2 _ rfl; have b3 : w1.cell? ⟨w.heap.size, 3, none⟩ = some (.int .i64 0) := bc 3 _ rfl; have b4 : w1.cell? ⟨w.heap.size, 4, none⟩ = some (.int .i64 0) := bc 4 _ rfl; clear bc; have hgw := (Grows.alloc _ _).tr hg; have hbl : w.heap.size < w1.heap.size := Nat.lt_of_lt_of_le (by simp) hg.size; obtain ⟨wb, wo, rfl, hpc⟩ := pieces_at hat (by simp); have d0 : w1.cell? ⟨wb, wo, none⟩ = some (.string r) := hpc 0 r rfl; clear hat hpc hg) | (go_at_call 32; refine (CR _).out.mono ?_; rintro e w2 ⟨rfl, hq2⟩; replace b0 := hq2.cell b0; replace b1 := hq2.cell b1; replace b2 := hq2.cell b2; replace b3 := hq2.cell b3; replace b4 := hq2.cell b4; replace d0 := hq2.cell d0; replace bf := froz_later bf hq2 hbl; replace hbl := hq2.lt hbl; replace hgw := hgw.tr hq2; clear hq2))
    refine bodyPost_ret (v := .tuple #[.agg #[.string ByteArray.empty, .string ByteArray.empty, .int .i64 0, .int .i64 0, .int .i64 0], .int .i64 5]) (by simp [results, Tryz.results38, go_sem, b0, b1, b2, b3, b4]; rfl) rfl ⟨rfl, ?_⟩; exact ((((hgw.set (Nat.le_refl _) _).set (Nat.le_refl _) _).set (Nat.le_refl _) _).set (Nat.le_refl _) _).set (Nat.le_refl _) _
  · cases bs
    · have hr2 : RR = (enZero, 5) := by rw [HR.out]; cases ok <;> simp
      subst hr2
      clear HR
      go_enter Tryz.func38, Tryz.ntmps38
      go_wp2_with (first | (go_at_call 74; refine (CS _).out.mono ?_; rintro e w1 ⟨wa, wc, rfl, hat, hg⟩; obtain ⟨bc, bf⟩ := box_cells hg; have b0 : w1.cell? ⟨w.heap.size, 0, none⟩ = some (.string ⟨#[]⟩) := bc 0 _ rfl; have b1 : w1.cell? ⟨w.heap.size, 1, none⟩ = some (.string ⟨#[]⟩) := bc 1 _ rfl; have b2 : w1.cell? ⟨w.heap.size, 2, none⟩ = some (.int .i64 0) := bc 2 _ rfl; have b3 : w1.cell? ⟨w.heap.size, 3, none⟩ = some (.int .i64 0) := bc 3 _ rfl; have b4 : w1.cell? ⟨w.heap.size, 4, none⟩ = some (.int .i64 0) := bc 4 _ rfl; clear bc; have hgw := (Grows.alloc _ _).tr hg; have hbl : w.heap.size < w1.heap.size := Nat.lt_of_lt_of_le (by simp) hg.size; obtain ⟨wb, wo, rfl, hpc⟩ := pieces_at hat (by simp); have d0 : w1.cell? ⟨wb, wo, none⟩ = some (.string r) := hpc 0 r rfl; have d1 : w1.cell? ⟨wb, wo + 1, none⟩ = some (.string t) := hpc 1 t rfl; clear hat hpc hg) | (go_at_call 32; refine (CR _).out.mono ?_; rintro e w2 ⟨rfl, hq2⟩; replace b0 := hq2.cell b0; replace b1 := hq2.cell b1; replace b2 := hq2.cell b2; replace b3 := hq2.cell b3; replace b4 := hq2.cell b4; replace d0 := hq2.cell d0; replace d1 := hq2.cell d1; replace bf := froz_later bf hq2 hbl; replace hbl := hq2.lt hbl; replace hgw := hgw.tr hq2; clear hq2) | (go_at_call 33; refine (CT _).out.mono ?_; rintro e w3 ⟨rfl, hq3⟩; replace b0 := hq3.cell b0; replace b1 := hq3.cell b1; replace b2 := hq3.cell b2; replace b3 := hq3.cell b3; replace b4 := hq3.cell b4; replace d0 := hq3.cell d0; replace d1 := hq3.cell d1; replace bf := froz_later bf hq3 hbl; replace hbl := hq3.lt hbl; replace hgw := hgw.tr hq3; clear hq3))
      refine bodyPost_ret (v := .tuple #[.agg #[.string ByteArray.empty, .string ByteArray.empty, .int .i64 0, .int .i64 0, .int .i64 0], .int .i64 5]) (by simp [results, Tryz.results38, go_sem, b0, b1, b2, b3, b4]; rfl) rfl ⟨rfl, ?_⟩; exact ((((hgw.set (Nat.le_refl _) _).set (Nat.le_refl _) _).set (Nat.le_refl _) _).set (Nat.le_refl _) _).set (Nat.le_refl _) _
    · cases ok
      · have hr2 : RR = (enZero, 5) := by rw [HR.out]; simp
        subst hr2
        clear HR
        go_enter Tryz.func38, Tryz.ntmps38
        go_wp2_with (first | (go_at_call 74; refine (CS _).out.mono ?_; rintro e w1 ⟨wa, wc, rfl, hat, hg⟩; obtain ⟨bc, bf⟩ := box_cells hg; have b0 : w1.cell? ⟨w.heap.size, 0, none⟩ = some (.string ⟨#[]⟩) := bc 0 _ rfl; have b1 : w1.cell? ⟨w.heap.size, 1, none⟩ = some (.string ⟨#[]⟩) := bc 1 _ rfl; have b2 : w1.cell? ⟨w.heap.size, 2, none⟩ = some (.int .i64 0) := bc 2 _ rfl; have b3 : w1.cell? ⟨w.heap.size, 3, none⟩ = some (.int .i64 0) := bc 3 _ rfl; have b4 : w1.cell? ⟨w.heap.size, 4, none⟩ = some (.int .i64 0) := bc 4 _ rfl; clear bc; have hgw := (Grows.alloc _ _).tr hg; have hbl : w.heap.size < w1.heap.size := Nat.lt_of_lt_of_le (by simp) hg.size; obtain ⟨wb, wo, rfl, hpc⟩ := pieces_at hat (by simp); have d0 : w1.cell? ⟨wb, wo, none⟩ = some (.string r) := hpc 0 r rfl; have d1 : w1.cell? ⟨wb, wo + 1, none⟩ = some (.string t) := hpc 1 t rfl; have d4 : w1.cell? ⟨wb, wo + 4, none⟩ = some (.string c) := hpc 4 c rfl; clear hat hpc hg) | (go_at_call 32; refine (CR _).out.mono ?_; rintro e w2 ⟨rfl, hq2⟩; replace b0 := hq2.cell b0; replace b1 := hq2.cell b1; replace b2 := hq2.cell b2; replace b3 := hq2.cell b3; replace b4 := hq2.cell b4; replace d0 := hq2.cell d0; replace d1 := hq2.cell d1; replace d4 := hq2.cell d4; replace bf := froz_later bf hq2 hbl; replace hbl := hq2.lt hbl; replace hgw := hgw.tr hq2; clear hq2) | (go_at_call 33; refine (CT _).out.mono ?_; rintro e w3 ⟨rfl, hq3⟩; replace b0 := hq3.cell b0; replace b1 := hq3.cell b1; replace b2 := hq3.cell b2; replace b3 := hq3.cell b3; replace b4 := hq3.cell b4; replace d0 := hq3.cell d0; replace d1 := hq3.cell d1; replace d4 := hq3.cell d4; replace bf := froz_later bf hq3 hbl; replace hbl := hq3.lt hbl; replace hgw := hgw.tr hq3; clear hq3) | (go_at_call 75; refine (CN _).out.mono ?_; rintro e w4 ⟨rfl, rfl⟩))
        refine bodyPost_ret (v := .tuple #[.agg #[.string ByteArray.empty, .string ByteArray.empty, .int .i64 0, .int .i64 0, .int .i64 0], .int .i64 5]) (by simp [results, Tryz.results38, go_sem, b0, b1, b2, b3, b4]; rfl) rfl ⟨rfl, ?_⟩; exact ((((hgw.set (Nat.le_refl _) _).set (Nat.le_refl _) _).set (Nat.le_refl _) _).set (Nat.le_refl _) _).set (Nat.le_refl _) _
      · cases fa with
        | none =>
          have hr2 : RR = (enZero, 150) := by rw [HR.out]; simp [idxI]
          subst hr2
          clear HR
          go_enter Tryz.func38, Tryz.ntmps38
          go_wp2_with (first | (go_at_call 74; refine (CS _).out.mono ?_; rintro e w1 ⟨wa, wc, rfl, hat, hg⟩; obtain ⟨bc, bf⟩ := box_cells hg; have b0 : w1.cell? ⟨w.heap.size, 0, none⟩ = some (.string ⟨#[]⟩) := bc 0 _ rfl; have b1 : w1.cell? ⟨w.heap.size, 1, none⟩ = some (.string ⟨#[]⟩) := bc 1 _ rfl; have b2 : w1.cell? ⟨w.heap.size, 2, none⟩ = some (.int .i64 0) := bc 2 _ rfl; have b3 : w1.cell? ⟨w.heap.size, 3, none⟩ = some (.int .i64 0) := bc 3 _ rfl; have b4 : w1.cell? ⟨w.heap.size, 4, none⟩ = some (.int .i64 0) := bc 4 _ rfl; clear bc; have hgw := (Grows.alloc _ _).tr hg; have hbl : w.heap.size < w1.heap.size := Nat.lt_of_lt_of_le (by simp) hg.size; obtain ⟨wb, wo, rfl, hpc⟩ := pieces_at hat (by simp); have d0 : w1.cell? ⟨wb, wo, none⟩ = some (.string r) := hpc 0 r rfl; have d1 : w1.cell? ⟨wb, wo + 1, none⟩ = some (.string t) := hpc 1 t rfl; have d2 : w1.cell? ⟨wb, wo + 2, none⟩ = some (.string a) := hpc 2 a rfl; have d3 : w1.cell? ⟨wb, wo + 3, none⟩ = some (.string b) := hpc 3 b rfl; have d4 : w1.cell? ⟨wb, wo + 4, none⟩ = some (.string c) := hpc 4 c rfl; clear hat hpc hg) | (go_at_call 32; refine (CR _).out.mono ?_; rintro e w2 ⟨rfl, hq2⟩; replace b0 := hq2.cell b0; replace b1 := hq2.cell b1; replace b2 := hq2.cell b2; replace b3 := hq2.cell b3; replace b4 := hq2.cell b4; replace d0 := hq2.cell d0; replace d1 := hq2.cell d1; replace d2 := hq2.cell d2; replace d3 := hq2.cell d3; replace d4 := hq2.cell d4; replace bf := froz_later bf hq2 hbl; replace hbl := hq2.lt hbl; replace hgw := hgw.tr hq2; clear hq2) | (go_at_call 33; refine (CT _).out.mono ?_; rintro e w3 ⟨rfl, hq3⟩; replace b0 := hq3.cell b0; replace b1 := hq3.cell b1; replace b2 := hq3.cell b2; replace b3 := hq3.cell b3; replace b4 := hq3.cell b4; replace d0 := hq3.cell d0; replace d1 := hq3.cell d1; replace d2 := hq3.cell d2; replace d3 := hq3.cell d3; replace d4 := hq3.cell d4; replace bf := froz_later bf hq3 hbl; replace hbl := hq3.lt hbl; replace hgw := hgw.tr hq3; clear hq3) | (go_at_call 75; refine (CN _).out.mono ?_; rintro e w4 ⟨rfl, rfl⟩))
          obtain ⟨i1, y1, q1, q2, C1⟩ := HCF.out none a _ (CA.out _ hgw)
          obtain rfl := q1 rfl
          clear q2
          refine C1.out.mono ?_
          rintro e w5 ⟨rfl, rfl⟩
          go_wp2_with fail
          obtain ⟨i2, y2, q1, q2, C2⟩ := HCF.out fb b _ (CB.out _ hgw)
          clear q1 q2
          refine C2.out.mono ?_
          rintro e w5 ⟨rfl, rfl⟩
          go_wp2_with fail
          refine bodyPost_ret (v := .tuple #[.agg #[.string ByteArray.empty, .string ByteArray.empty, .int .i64 0, .int .i64 0, .int .i64 0], .int .i64 150]) (by simp [results, Tryz.results38, go_sem, b0, b1, b2, b3, b4]; rfl) rfl ⟨rfl, ?_⟩; exact ((((hgw.set (Nat.le_refl _) _).set (Nat.le_refl _) _).set (Nat.le_refl _) _).set (Nat.le_refl _) _).set (Nat.le_refl _) _
        | some ka =>
          cases fb with
          | none =>
            have hr2 : RR = (enZero, 150) := by rw [HR.out]; simp [idxI]
            subst hr2
            clear HR
            go_enter Tryz.func38, Tryz.ntmps38
            go_wp2_with (first | (go_at_call 74; refine (CS _).out.mono ?_; rintro e w1 ⟨wa, wc, rfl, hat, hg⟩; obtain ⟨bc, bf⟩ := box_cells hg; have b0 : w1.cell? ⟨w.heap.size, 0, none⟩ = some (.string ⟨#[]⟩) := bc 0 _ rfl; have b1 : w1.cell? ⟨w.heap.size, 1, none⟩ = some (.string ⟨#[]⟩) := bc 1 _ rfl; have b2 : w1.cell? ⟨w.heap.size, 2, none⟩ = some (.int .i64 0) := bc 2 _ rfl; have b3 : w1.cell? ⟨w.heap.size, 3, none⟩ = some (.int .i64 0) := bc 3 _ rfl; have b4 : w1.cell? ⟨w.heap.size, 4, none⟩ = some (.int .i64 0) := bc 4 _ rfl; clear bc; have hgw := (Grows.alloc _ _).tr hg; have hbl : w.heap.size < w1.heap.size := Nat.lt_of_lt_of_le (by simp) hg.size; obtain ⟨wb, wo, rfl, hpc⟩ := pieces_at hat (by simp); have d0 : w1.cell? ⟨wb, wo, none⟩ = some (.string r) := hpc 0 r rfl; have d1 : w1.cell? ⟨wb, wo + 1, none⟩ = some (.string t) := hpc 1 t rfl; have d2 : w1.cell? ⟨wb, wo + 2, none⟩ = some (.string a) := hpc 2 a rfl; have d3 : w1.cell? ⟨wb, wo + 3, none⟩ = some (.string b) := hpc 3 b rfl; have d4 : w1.cell? ⟨wb, wo + 4, none⟩ = some (.string c) := hpc 4 c rfl; clear hat hpc hg) | (go_at_call 32; refine (CR _).out.mono ?_; rintro e w2 ⟨rfl, hq2⟩; replace b0 := hq2.cell b0; replace b1 := hq2.cell b1; replace b2 := hq2.cell b2; replace b3 := hq2.cell b3; replace b4 := hq2.cell b4; replace d0 := hq2.cell d0; replace d1 := hq2.cell d1; replace d2 := hq2.cell d2; replace d3 := hq2.cell d3; replace d4 := hq2.cell d4; replace bf := froz_later bf hq2 hbl; replace hbl := hq2.lt hbl; replace hgw := hgw.tr hq2; clear hq2) | (go_at_call 33; refine (CT _).out.mono ?_; rintro e w3 ⟨rfl, hq3⟩; replace b0 := hq3.cell b0; replace b1 := hq3.cell b1; replace b2 := hq3.cell b2; replace b3 := hq3.cell b3; replace b4 := hq3.cell b4; replace d0 := hq3.cell d0; replace d1 := hq3.cell d1; replace d2 := hq3.cell d2; replace d3 := hq3.cell d3; replace d4 := hq3.cell d4; replace bf := froz_later bf hq3 hbl; replace hbl := hq3.lt hbl; replace hgw := hgw.tr hq3; clear hq3) | (go_at_call 75; refine (CN _).out.mono ?_; rintro e w4 ⟨rfl, rfl⟩))
            obtain ⟨i1, y1, q1, q2, C1⟩ := HCF.out (some ka) a _ (CA.out _ hgw)
            obtain ⟨rfl, rfl⟩ := q2 ka rfl
            clear q1
            refine C1.out.mono ?_
            rintro e w5 ⟨rfl, rfl⟩
            go_wp2_with fail
            obtain ⟨i2, y2, q1, q2, C2⟩ := HCF.out none b _ (CB.out _ hgw)
            obtain rfl := q1 rfl
            clear q2
            refine C2.out.mono ?_
            rintro e w5 ⟨rfl, rfl⟩
            go_wp2_with fail
            refine bodyPost_ret (v := .tuple #[.agg #[.string ByteArray.empty, .string ByteArray.empty, .int .i64 0, .int .i64 0, .int .i64 0], .int .i64 150]) (by simp [results, Tryz.results38, go_sem, b0, b1, b2, b3, b4]; rfl) rfl ⟨rfl, ?_⟩; exact ((((hgw.set (Nat.le_refl _) _).set (Nat.le_refl _) _).set (Nat.le_refl _) _).set (Nat.le_refl _) _).set (Nat.le_refl _) _
          | some kb =>
            have hka := HFA.out ka rfl
            have hkb := HFB.out kb rfl
            by_cases hbig : 30000 < nv
            · have hr2 : RR = (enZero, 6) := by
                rw [HR.out]
                simp only [idxI, Bool.and_self, if_true]
                exact read_sel6 _ (by omega) (Or.inr hbig)
              subst hr2
              clear HR
              go_enter Tryz.func38, Tryz.ntmps38
              go_wp2_with (first | (go_at_call 74; refine (CS _).out.mono ?_; rintro e w1 ⟨wa, wc, rfl, hat, hg⟩; obtain ⟨bc, bf⟩ := box_cells hg; have b0 : w1.cell? ⟨w.heap.size, 0, none⟩ = some (.string ⟨#[]⟩) := bc 0 _ rfl; have b1 : w1.cell? ⟨w.heap.size, 1, none⟩ = some (.string ⟨#[]⟩) := bc 1 _ rfl; have b2 : w1.cell? ⟨w.heap.size, 2, none⟩ = some (.int .i64 0) := bc 2 _ rfl; have b3 : w1.cell? ⟨w.heap.size, 3, none⟩ = some (.int .i64 0) := bc 3 _ rfl; have b4 : w1.cell? ⟨w.heap.size, 4, none⟩ = some (.int .i64 0) := bc 4 _ rfl; clear bc; have hgw := (Grows.alloc _ _).tr hg; have hbl : w.heap.size < w1.heap.size := Nat.lt_of_lt_of_le (by simp) hg.size; obtain ⟨wb, wo, rfl, hpc⟩ := pieces_at hat (by simp); have d0 : w1.cell? ⟨wb, wo, none⟩ = some (.string r) := hpc 0 r rfl; have d1 : w1.cell? ⟨wb, wo + 1, none⟩ = some (.string t) := hpc 1 t rfl; have d2 : w1.cell? ⟨wb, wo + 2, none⟩ = some (.string a) := hpc 2 a rfl; have d3 : w1.cell? ⟨wb, wo + 3, none⟩ = some (.string b) := hpc 3 b rfl; have d4 : w1.cell? ⟨wb, wo + 4, none⟩ = some (.string c) := hpc 4 c rfl; clear hat hpc hg) | (go_at_call 32; refine (CR _).out.mono ?_; rintro e w2 ⟨rfl, hq2⟩; replace b0 := hq2.cell b0; replace b1 := hq2.cell b1; replace b2 := hq2.cell b2; replace b3 := hq2.cell b3; replace b4 := hq2.cell b4; replace d0 := hq2.cell d0; replace d1 := hq2.cell d1; replace d2 := hq2.cell d2; replace d3 := hq2.cell d3; replace d4 := hq2.cell d4; replace bf := froz_later bf hq2 hbl; replace hbl := hq2.lt hbl; replace hgw := hgw.tr hq2; clear hq2) | (go_at_call 33; refine (CT _).out.mono ?_; rintro e w3 ⟨rfl, hq3⟩; replace b0 := hq3.cell b0; replace b1 := hq3.cell b1; replace b2 := hq3.cell b2; replace b3 := hq3.cell b3; replace b4 := hq3.cell b4; replace d0 := hq3.cell d0; replace d1 := hq3.cell d1; replace d2 := hq3.cell d2; replace d3 := hq3.cell d3; replace d4 := hq3.cell d4; replace bf := froz_later bf hq3 hbl; replace hbl := hq3.lt hbl; replace hgw := hgw.tr hq3; clear hq3) | (go_at_call 75; refine (CN _).out.mono ?_; rintro e w4 ⟨rfl, rfl⟩))
              obtain ⟨i1, y1, q1, q2, C1⟩ := HCF.out (some ka) a _ (CA.out _ hgw)
              obtain ⟨rfl, rfl⟩ := q2 ka rfl
              clear q1
              refine C1.out.mono ?_
              rintro e w5 ⟨rfl, rfl⟩
              go_wp2_with fail
              obtain ⟨i2, y2, q1, q2, C2⟩ := HCF.out (some kb) b _ (CB.out _ hgw)
              obtain ⟨rfl, rfl⟩ := q2 kb rfl
              clear q1
              refine C2.out.mono ?_
              rintro e w5 ⟨rfl, rfl⟩
              go_wp2_with fail
              refine bodyPost_ret (v := .tuple #[.agg #[.string ByteArray.empty, .string ByteArray.empty, .int .i64 0, .int .i64 0, .int .i64 0], .int .i64 6]) (by simp [results, Tryz.results38, go_sem, b0, b1, b2, b3, b4]; rfl) rfl ⟨rfl, ?_⟩; exact ((((hgw.set (Nat.le_refl _) _).set (Nat.le_refl _) _).set (Nat.le_refl _) _).set (Nat.le_refl _) _).set (Nat.le_refl _) _
            · have hr2 : RR = (⟨r, t, ka, kb, nv⟩, 0) := by
                rw [HR.out]
                simp only [idxI, Bool.and_self, if_true]
                exact read_sel0 _ (by omega) (by omega)
              subst hr2
              clear HR
              go_enter Tryz.func38, Tryz.ntmps38
              go_wp2_with (first | (go_at_call 74; refine (CS _).out.mono ?_; rintro e w1 ⟨wa, wc, rfl, hat, hg⟩; obtain ⟨bc, bf⟩ := box_cells hg; have b0 : w1.cell? ⟨w.heap.size, 0, none⟩ = some (.string ⟨#[]⟩) := bc 0 _ rfl; have b1 : w1.cell? ⟨w.heap.size, 1, none⟩ = some (.string ⟨#[]⟩) := bc 1 _ rfl; have b2 : w1.cell? ⟨w.heap.size, 2, none⟩ = some (.int .i64 0) := bc 2 _ rfl; have b3 : w1.cell? ⟨w.heap.size, 3, none⟩ = some (.int .i64 0) := bc 3 _ rfl; have b4 : w1.cell? ⟨w.heap.size, 4, none⟩ = some (.int .i64 0) := bc 4 _ rfl; clear bc; have hgw := (Grows.alloc _ _).tr hg; have hbl : w.heap.size < w1.heap.size := Nat.lt_of_lt_of_le (by simp) hg.size; obtain ⟨wb, wo, rfl, hpc⟩ := pieces_at hat (by simp); have d0 : w1.cell? ⟨wb, wo, none⟩ = some (.string r) := hpc 0 r rfl; have d1 : w1.cell? ⟨wb, wo + 1, none⟩ = some (.string t) := hpc 1 t rfl; have d2 : w1.cell? ⟨wb, wo + 2, none⟩ = some (.string a) := hpc 2 a rfl; have d3 : w1.cell? ⟨wb, wo + 3, none⟩ = some (.string b) := hpc 3 b rfl; have d4 : w1.cell? ⟨wb, wo + 4, none⟩ = some (.string c) := hpc 4 c rfl; clear hat hpc hg) | (go_at_call 32; refine (CR _).out.mono ?_; rintro e w2 ⟨rfl, hq2⟩; replace b0 := hq2.cell b0; replace b1 := hq2.cell b1; replace b2 := hq2.cell b2; replace b3 := hq2.cell b3; replace b4 := hq2.cell b4; replace d0 := hq2.cell d0; replace d1 := hq2.cell d1; replace d2 := hq2.cell d2; replace d3 := hq2.cell d3; replace d4 := hq2.cell d4; replace bf := froz_later bf hq2 hbl; replace hbl := hq2.lt hbl; replace hgw := hgw.tr hq2; clear hq2) | (go_at_call 33; refine (CT _).out.mono ?_; rintro e w3 ⟨rfl, hq3⟩; replace b0 := hq3.cell b0; replace b1 := hq3.cell b1; replace b2 := hq3.cell b2; replace b3 := hq3.cell b3; replace b4 := hq3.cell b4; replace d0 := hq3.cell d0; replace d1 := hq3.cell d1; replace d2 := hq3.cell d2; replace d3 := hq3.cell d3; replace d4 := hq3.cell d4; replace bf := froz_later bf hq3 hbl; replace hbl := hq3.lt hbl; replace hgw := hgw.tr hq3; clear hq3) | (go_at_call 75; refine (CN _).out.mono ?_; rintro e w4 ⟨rfl, rfl⟩))
              obtain ⟨i1, y1, q1, q2, C1⟩ := HCF.out (some ka) a _ (CA.out _ hgw)
              obtain ⟨rfl, rfl⟩ := q2 ka rfl
              clear q1
              refine C1.out.mono ?_
              rintro e w5 ⟨rfl, rfl⟩
              go_wp2_with fail
              obtain ⟨i2, y2, q1, q2, C2⟩ := HCF.out (some kb) b _ (CB.out _ hgw)
              obtain ⟨rfl, rfl⟩ := q2 kb rfl
              clear q1
              refine C2.out.mono ?_
              rintro e w5 ⟨rfl, rfl⟩
              go_wp2_with fail
              have x0 := ext_cell (w := w3.drew) d0
              have x1 := ext_cell (w := w3.drew) d1
              refine wp_region_tail Grows 10 [(0, false), (1, false), (2, false), (3, false), (4, false), (5, false), (6, false), (7, false), (8, false), (9, false)] Grows.refl Grows.trans (by kernel_rfl) (by kernel_rfl) (fun d _ _ _ _ h => by cases d <;> exact h) ?_
              repeat (refine ord_quiet rfl (fun K hK => ?_); go_simp; first | (refine hK _ ?_; clear hK K) | (apply Exists.intro; refine ⟨fun x => ?_, hK _ ?_⟩; (fail); clear hK K))
              refine ord_end (fun w6 h6 => ?_)
              simp only [List.drop_succ_cons, List.drop_zero]
              replace b0 := h6.cell (Grows.drew w3 |>.cell b0); replace b1 := h6.cell (Grows.drew w3 |>.cell b1); replace b2 := h6.cell (Grows.drew w3 |>.cell b2); replace b3 := h6.cell (Grows.drew w3 |>.cell b3); replace b4 := h6.cell (Grows.drew w3 |>.cell b4)
              replace bf := froz_later (froz_later bf (Grows.drew w3) hbl) h6 hbl
              replace hgw := hgw.dr.tr h6
              clear x0 x1 d0 d1 d2 d3 d4
              go_wp2_with fail
              refine bodyPost_ret (v := .tuple #[.agg #[.string r, .string t, .int .i64 ka, .int .i64 kb, .int .i64 nv], .int .i64 0]) (by simp [results, Tryz.results38, go_sem, b0, b1, b2, b3, b4]) rfl ⟨rfl, ?_⟩
              exact ((((hgw.set (Nat.le_refl _) _).set (Nat.le_refl _) _).set (Nat.le_refl _) _).set (Nat.le_refl _) _).set (Nat.le_refl _) _
theorem line_any (s : ByteArray) (l : List PosV) (la : Option Addr) (cap : Nat) (w : World) (hs : s.size ≤ 4294967280) (hl : l.length ≤ 4611686018427387904) (hat0 : AtCells w la 2 (l.map posCells)) :
    Calls Tryz.prog 38 #[.string s, .slice la l.length cap] w fun e w' => e = .returned (.tuple #[.agg #[.string (readS s l).1.r, .string (readS s l).1.s, .int .i64 (readS s l).1.l, .int .i64 (readS s l).1.t, .int .i64 (readS s l).1.c], .int .i64 (readS s l).2]) ∧ Grows w w' := by
  by_cases h5 : ∃ r t a b c, (splitL 9 s.data.toList).map mkB = [r, t, a, b, c]
  · obtain ⟨r, t, a, b, c, h5⟩ := h5
    exact line_long s r t a b c l la cap w hs hl hat0 h5
  · have hne : ((splitL 9 s.data.toList).map mkB).length ≠ 5 := fun e => by
      match h : (splitL 9 s.data.toList).map mkB, e with
      | [r, t, a, b, c], _ => exact h5 ⟨r, t, a, b, c, h⟩
    have hr : readS s l = (enZero, 5) := by
      unfold readS
      rw [splitS_split]
      split
      · rename_i h; exact absurd ⟨_, _, _, _, _, h⟩ h5
      · rfl
    rw [hr]
    exact line_short s l la cap w hs hne
end Go.Proofs.YtfkebhkckcnlpaaGreatDoor
