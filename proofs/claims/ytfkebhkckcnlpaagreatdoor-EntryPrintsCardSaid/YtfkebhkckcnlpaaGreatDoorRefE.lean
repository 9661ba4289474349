import Derived.Test.YtfkebhkckcnlpaaGreatDoorRefD
namespace Go.Proofs.YtfkebhkckcnlpaaGreatDoor
open Go Go.RowKit
attribute [local go_sem] quietE

theorem printGo_first {p : List PosV} {l : List En} {k : Nat} {x : En} (hk : l[k]? = some x) (hall : ∀ y ∈ l.take k, checkE y p.length = 0) (hx : checkE x p.length ≠ 0) : printGo p l [] = ([], checkE x p.length) := by
  have key : ∀ (l : List En) (k : Nat) (acc : List UInt8), l[k]? = some x → (∀ y ∈ l.take k, checkE y p.length = 0) → printGo p l acc = ([], checkE x p.length) := by
    intro l
    induction l with
    | nil => intro k acc h; simp at h
    | cons y r ih =>
      intro k acc h hall
      rw [printGo_cons]
      cases k with
      | zero =>
        obtain rfl : y = x := by simpa using h
        rw [if_pos hx]
      | succ k =>
        have hy := hall y (by simp)
        rw [if_neg (by omega)]
        exact ih k _ (by simpa using h) (fun z hz => hall z (by simp [hz]))
  exact key l k [] hk hall
def lineBytes (p : List PosV) (x : En) : List UInt8 := x.r.data.toList ++ [9] ++ x.s.data.toList ++ [9] ++ (nameAt p x.l).data.toList ++ [9] ++ (nameAt p x.t).data.toList ++ [9] ++ Lib.itoa x.c ++ [10]
theorem lineBytes_eq (p : List PosV) (x : En) : lineBytes p x = lineOf p x := by
  rw [lineOf_body]; unfold lineBytes bodyOf; simp [joinL]
theorem nameAt_get {p : List PosV} {i : Nat} {q : PosV} (h : p[i]? = some q) : nameAt p (i : Int) = q.name := by unfold nameAt; rw [Int.toNat_natCast, h]; rfl

set_option maxHeartbeats 8000000 in
set_option maxRecDepth 100000 in
theorem print2_any (l : List En) (p : List PosV) (la pa : Option Addr) (cap pcap : Nat) (w : World) (hl : l.length ≤ 4611686018427387904) (hp : p.length ≤ 4611686018427387904)
    (hn : ∀ x ∈ p, x.name.size ≤ 4294967290) (hsz : ∀ x, x ∈ l → x.r.size ≤ 1048576 ∧ x.s.size ≤ 1048576) (hat : AtCells w la 5 (l.map enCells)) (hpt : AtCells w pa 2 (p.map posCells)) :
    Calls Tryz.prog 21 #[.slice la l.length cap, .slice pa p.length pcap] w fun e w' => e = .returned (.tuple #[.string (mkB (printS l p).1), .int .i64 (printS l p).2]) ∧ Grows w w' := by
  have CC := Lib.hid (valid2_any p pa pcap w hpt hp hn)
  have HAT := Lib.hid hat
  have HPT := Lib.hid hpt
  clear hat hpt
  cases hv : posValid p
  · have hq : printS l p = ([], 5) := by unfold printS; rw [hv]; rfl
    rw [hq]
    rw [hv] at CC
    clear hq hv
    go_enter Tryz.func21, Tryz.ntmps21
    go_wp2_with (first | (go_at_call 37; refine CC.out.mono ?_; rintro e w1 ⟨rfl, hg1⟩))
    go_ret2
    exact ⟨rfl, hg1⟩
  · by_cases hbig : 20000 < l.length
    · have hq : printS l p = ([], 2) := by unfold printS; rw [hv, if_pos rfl, if_pos hbig]
      have hb : (20000 : Int) < l.length := by omega
      rw [hq]
      rw [hv] at CC
      clear hq hv
      go_enter Tryz.func21, Tryz.ntmps21
      go_wp2_with (first | (go_at_call 37; refine CC.out.mono ?_; rintro e w1 ⟨rfl, hg1⟩))
      go_ret2
      exact ⟨rfl, hg1⟩
    · have hps : printS l p = (if (printGo p l []).2 ≠ 0 then ([], (printGo p l []).2) else if 1048576 < (printGo p l []).1.length then ([], 2) else ((printGo p l []).1, 0)) := by unfold printS; rw [hv, if_pos rfl, if_neg hbig]
      have hb : (l.length : Int) ≤ 20000 := by omega
      rw [hv] at CC
      generalize printS l p = PS at hps ⊢
      have HPS := Lib.hid hps
      have HNS : Hid (∀ (i : Nat) (q : PosV), p[i]? = some q → q.name.size ≤ 16) := fun i q hq => name_size hv hq
      clear hv hbig hps
      go_enter Tryz.func21, Tryz.ntmps21
      go_wp2_with (first | (go_at_call 37; refine CC.out.mono ?_; rintro e w1 ⟨rfl, hg1⟩))
      go_loopw [6] (fun i wr => ∃ (k : Nat), k ≤ l.length ∧ i = .int .i64 k ∧ Hid (∀ y ∈ l.take k, checkE y p.length = 0) ∧ Grows w wr) (fun i _ => l.length - (intOf i).toNat)
      case atStart => exact ⟨0, Nat.zero_le _, rfl, by simp [Hid], hg1⟩
      case round =>
        obtain ⟨k, hk, rfl, hall, hgr⟩ := hrel
        by_cases hlt : k < l.length
        · obtain ⟨⟨xr, xs, xl, xt, xc⟩, hx⟩ : ∃ x, l[k]? = some x := ⟨_, List.getElem?_eq_getElem hlt⟩
          obtain ⟨hss1, hss2⟩ : xr.size ≤ 1048576 ∧ xs.size ≤ 1048576 := hsz _ (List.mem_of_getElem? hx)
          obtain ⟨lb, loff, rfl, hcl⟩ := (HAT.out.grows hgr).get (ne_nil_of_lt hlt)
          have c0 : wr.cell? ⟨lb, loff + k * 5, none⟩ = some (.string xr) := hcl k _ hx 0 _ rfl
          have c1 : wr.cell? ⟨lb, loff + k * 5 + 1, none⟩ = some (.string xs) := hcl k _ hx 1 _ rfl
          have c2 : wr.cell? ⟨lb, loff + k * 5 + 2, none⟩ = some (.int .i64 xl) := hcl k _ hx 2 _ rfl
          have c3 : wr.cell? ⟨lb, loff + k * 5 + 3, none⟩ = some (.int .i64 xt) := hcl k _ hx 3 _ rfl
          have c4 : wr.cell? ⟨lb, loff + k * 5 + 4, none⟩ = some (.int .i64 xc) := hcl k _ hx 4 _ rfl
          have HC := fun W => Lib.hid (rcheck_any xr xs xl xt xc p.length W (by omega) (by omega))
          have hce : checkE ⟨xr, xs, xl, xt, xc⟩ p.length = checkS xr xs xl xt xc p.length := rfl
          rw [← hce] at HC
          have hfirst := fun h => printGo_first (p := p) hx hall.out h
          have hnext : checkE ⟨xr, xs, xl, xt, xc⟩ p.length = 0 → ∀ y ∈ l.take (k + 1), checkE y p.length = 0 := fun h y hy => by
            rw [List.take_add_one, hx] at hy
            rcases List.mem_append.1 hy with hy | hy
            · exact hall.out y hy
            · obtain rfl : y = ⟨xr, xs, xl, xt, xc⟩ := by simpa using hy
              exact h
          generalize checkE ⟨xr, xs, xl, xt, xc⟩ p.length = no at HC hfirst hnext
          clear hcl hx hce hall
          by_cases hno : no = 0
          · have HNX := Lib.hid (hnext hno)
            subst hno
            clear hfirst hnext
            go_wp2_with (first | (go_at_call 13; refine (HC _).out.mono ?_; rintro e w3 ⟨rfl, hg3⟩))
            go_roundw
            case rel => exact ⟨k + 1, hlt, by go_num, HNX.out, hgr.tr hg3⟩
            case measure => simp [intOf]; omega
          · have hb2 : (no != 0) = true := by simpa using hno
            have hps2 : PS = ([], no) := by rw [HPS.out, hfirst hno]; simp [hno]
            have HPS2 := Lib.hid hps2
            clear hfirst hnext hno hps2
            go_wp2_with (first | (go_at_call 13; refine (HC _).out.mono ?_; rintro e w3 ⟨rfl, hg3⟩))
            go_ret2
            rw [HPS2.out]
            exact ⟨rfl, hgr.tr hg3⟩
        · obtain rfl : k = l.length := by omega
          have hok : ∀ y ∈ l, checkE y p.length = 0 := by have := hall.out; rwa [List.take_length] at this
          have hg := printGo_ok (acc := []) hok
          have hps2 : PS = if 1048576 < (l.flatMap (lineOf p)).length then ([], 2) else (l.flatMap (lineOf p), 0) := by rw [HPS.out, hg]; simp
          have HPS2 := Lib.hid hps2
          have HOK := Lib.hid hok
          clear hall hok hg hps2 HPS CC
          obtain ⟨u0, rfl⟩ : ∃ u0, u0 = wr := ⟨_, rfl⟩
          go_wp2_with fail
          go_loopw [8, 9] (fun v i wx => ∃ (k : Nat) (acc : List UInt8), k ≤ l.length ∧ i = .int .i64 k ∧ Owns wx u0.heap.size 5 1 byteC v acc ∧ Hid (acc = (l.take k).flatMap (lineOf p)) ∧ acc.length ≤ k * 4194304 ∧ Grows u0 wx) (fun _ i _ => l.length - (intOf i).toNat)
          case atStart => exact ⟨0, [], Nat.zero_le _, rfl, Owns.nil _ _ _ _ _, rfl, Nat.zero_le _, Grows.refl _⟩
          case round =>
            obtain ⟨k, acc, hk, rfl, hown, hacc, hal, hgx⟩ := hrel
            by_cases hlt : k < l.length
            · obtain ⟨⟨xr, xs, xl, xt, xc⟩, hx⟩ : ∃ x, l[k]? = some x := ⟨_, List.getElem?_eq_getElem hlt⟩
              obtain ⟨hss1, hss2⟩ : xr.size ≤ 1048576 ∧ xs.size ≤ 1048576 := hsz _ (List.mem_of_getElem? hx)
              obtain ⟨o1, o2, o3, o4, o5, o6⟩ := checkE_ok (HOK.out _ (List.mem_of_getElem? hx))
              simp only at o1 o2 o3 o4 o5 o6
              obtain ⟨il, rfl⟩ := Int.eq_ofNat_of_zero_le o1
              obtain ⟨it, rfl⟩ := Int.eq_ofNat_of_zero_le o3
              obtain ⟨ic, rfl⟩ := Int.eq_ofNat_of_zero_le o5
              obtain ⟨P1, hP1⟩ : ∃ q, p[il]? = some q := ⟨_, List.getElem?_eq_getElem (by omega)⟩
              obtain ⟨P2, hP2⟩ : ∃ q, p[it]? = some q := ⟨_, List.getElem?_eq_getElem (by omega)⟩
              obtain ⟨lb, loff, rfl, hcl⟩ := (HAT.out.grows hgr).get (ne_nil_of_lt hlt)
              obtain ⟨pb, poff, rfl, hpc⟩ := (HPT.out.grows hgr).get (ne_nil_of_lt (k := il) (by omega))
              have hn1 := HNS.out _ _ hP1
              have hn2 := HNS.out _ _ hP2
              have hds : (mkB (Lib.decDigits ic)).size ≤ 9 := by rw [Lib.size_eq, mkB_data]; exact decDigits_short 9 ic (by omega) (by omega)
              have CEL : Hid (∀ W, Grows u0 W → W.cell? ⟨lb, loff + k * 5, none⟩ = some (.string xr) ∧ W.cell? ⟨lb, loff + k * 5 + 1, none⟩ = some (.string xs) ∧ W.cell? ⟨lb, loff + k * 5 + 2, none⟩ = some (.int .i64 il) ∧ W.cell? ⟨lb, loff + k * 5 + 3, none⟩ = some (.int .i64 it) ∧ W.cell? ⟨lb, loff + k * 5 + 4, none⟩ = some (.int .i64 ic) ∧ W.cell? ⟨pb, poff + il * 2, none⟩ = some (.string P1.name) ∧ W.cell? ⟨pb, poff + it * 2, none⟩ = some (.string P2.name)) := fun W hW =>
                ⟨hW.cell (hcl k _ hx 0 _ rfl), hW.cell (hcl k _ hx 1 _ rfl), hW.cell (hcl k _ hx 2 _ rfl), hW.cell (hcl k _ hx 3 _ rfl), hW.cell (hcl k _ hx 4 _ rfl), hW.cell (hpc il P1 hP1 0 _ rfl), hW.cell (hpc it P2 hP2 0 _ rfl)⟩
              have hline : lineOf p ⟨xr, xs, il, it, ic⟩ = xr.data.toList ++ [9] ++ xs.data.toList ++ [9] ++ P1.name.data.toList ++ [9] ++ P2.name.data.toList ++ [9] ++ (mkB (Lib.decDigits ic)).data.toList ++ [10] := by
                rw [← lineBytes_eq]
                unfold lineBytes
                simp only [nameAt_get hP1, nameAt_get hP2, itoa_digits o5, mkB_data, Int.toNat_natCast]
              have hnext : (l.take (k + 1)).flatMap (lineOf p) = acc ++ (xr.data.toList ++ [9] ++ xs.data.toList ++ [9] ++ P1.name.data.toList ++ [9] ++ P2.name.data.toList ++ [9] ++ (mkB (Lib.decDigits ic)).data.toList ++ [10]) := by
                rw [List.take_add_one, hx, List.flatMap_append, ← hacc.out, ← hline]
                simp
              have HNX := Lib.hid hnext
              have CD := fun W => Lib.hid (decimal_any ic ic (Nat.le_refl _) (by omega) W)
              have q1 := Lib.size_eq xr
              have q2 := Lib.size_eq xs
              have q3 := Lib.size_eq P1.name
              have q4 := Lib.size_eq P2.name
              have q5 := Lib.size_eq (mkB (Lib.decDigits ic))
              generalize mkB (Lib.decDigits ic) = dig at *
              have Q1 := Lib.hid q1
              have Q2 := Lib.hid q2
              have Q3 := Lib.hid q3
              have Q4 := Lib.hid q4
              have Q5 := Lib.hid q5
              have hbs := hgx.size
              clear hcl hpc hx hP1 hP2 hline hnext hacc q1 q2 q3 q4 q5
              obtain ⟨c0, c1, c2, c3, c4, f1, f2⟩ := CEL.out _ hgx
              go_wp2_with (first | (at_builtin; refine app_str rfl _ _ rfl u0.heap.size _ _ _ rfl hown (Grows.refl _) rfl (by have e1 := Q1.out; have e2 := Q2.out; have e3 := Q3.out; have e4 := Q4.out; have e5 := Q5.out; (try simp only [List.length_append, List.length_cons, List.length_nil]); omega) hgx.size ?_; intro v5 w5 hown5 hg5 _; have hgx5 := hg5 u0 hgx (Nat.le_refl _); replace hown := hown5; replace hgx := hgx5; clear hg5 hgx5 c0 c1 c2 c3 c4 f1 f2; have hbs := hgx.size; obtain ⟨c0, c1, c2, c3, c4, f1, f2⟩ := CEL.out _ hgx) | (at_builtin; refine app_one byteLay rfl _ _ rfl u0.heap.size _ _ 9 rfl hown (Grows.refl _) _ 1 rfl #[.int .u8 9] rfl rfl (by have e1 := Q1.out; have e2 := Q2.out; have e3 := Q3.out; have e4 := Q4.out; have e5 := Q5.out; (try simp only [List.length_append, List.length_cons, List.length_nil]); omega) hgx.size ?_; intro v5 w5 hown5 hg5; have hgx5 := hg5 u0 hgx (Nat.le_refl _); replace hown := hown5; replace hgx := hgx5; clear hg5 hgx5 c0 c1 c2 c3 c4 f1 f2; have hbs := hgx.size; obtain ⟨c0, c1, c2, c3, c4, f1, f2⟩ := CEL.out _ hgx) | (at_builtin; refine app_one byteLay rfl _ _ rfl u0.heap.size _ _ 10 rfl hown (Grows.refl _) _ 1 rfl #[.int .u8 10] rfl rfl (by have e1 := Q1.out; have e2 := Q2.out; have e3 := Q3.out; have e4 := Q4.out; have e5 := Q5.out; (try simp only [List.length_append, List.length_cons, List.length_nil]); omega) hgx.size ?_; intro v5 w5 hown5 hg5; have hgx5 := hg5 u0 hgx (Nat.le_refl _); replace hown := hown5; replace hgx := hgx5; clear hg5 hgx5 c0 c1 c2 c3 c4 f1 f2; have hbs := hgx.size; obtain ⟨c0, c1, c2, c3, c4, f1, f2⟩ := CEL.out _ hgx) | (go_at_call 44; refine (CD _).out.mono ?_; rintro e w6 ⟨rfl, hg6⟩; replace hown := hown.grows hg6; replace hgx := hgx.tr hg6; clear hg6 c0 c1 c2 c3 c4 f1 f2; obtain ⟨c0, c1, c2, c3, c4, f1, f2⟩ := CEL.out _ hgx; have hbs := hgx.size))
              go_roundw
              case rel =>
                refine ⟨k + 1, _, hlt, by go_num, hown, ?_, ?_, hgx⟩
                · rw [HNX.out]; simp [Hid]
                · have e1 := Q1.out; have e2 := Q2.out; have e3 := Q3.out; have e4 := Q4.out; have e5 := Q5.out
                  simp only [List.length_append, List.length_cons, List.length_nil]
                  omega
              case measure => simp [intOf]; omega
            · obtain rfl : k = l.length := by omega
              rw [List.take_length] at hacc
              have hps3 : PS = if 1048576 < acc.length then ([], 2) else (acc, 0) := by rw [HPS2.out, hacc.out]
              have HPS3 := Lib.hid hps3
              have hcv := fun W (hW : Grows wr W) => conv_owns (hown.grows hW)
              obtain ⟨a8, c8, rfl, hc1, hc2, _⟩ := hown.at_ byteLay.len
              have hcv2 := hcv _ (Grows.refl _)
              clear hacc hps3 hcv
              by_cases hbg : 1048576 < acc.length
              · have hb2 : (1048576 : Int) < acc.length := by omega
                go_wp2
                go_ret2
                rw [HPS3.out, if_pos hbg]
                exact ⟨rfl, hgr.tr hgx⟩
              · have hb2 : ¬ (1048576 : Int) < acc.length := by omega
                go_wp2
                go_ret2
                rw [HPS3.out, if_neg hbg]
                exact ⟨rfl, hgr.tr hgx⟩
end Go.Proofs.YtfkebhkckcnlpaaGreatDoor
