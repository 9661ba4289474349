import Derived.Test.YtjhajgffmnkocaaGreatDoorPq45
import Derived.Test.YtjhajgffmnkocaaGreatDoorR30b
namespace Go.Proofs.YtjhajgffmnkocaaGreatDoor
open Go Go.RowKit Go.Shelf
attribute [local go_sem] aO aM

def prT (cs : List Cnt) (k : ByteArray) (n : Nat) : Bool := (cs.take n).any fun c => decide (c.k = k) && decide (0 < bonI c.v)
theorem prT_succ {cs : List Cnt} {k : ByteArray} {n : Nat} {c : Cnt} (h : cs[n]? = some c) : prT cs k (n + 1) = (prT cs k n || (decide (c.k = k) && decide (0 < bonI c.v))) := by
  unfold prT
  rw [bJ h, List.any_append, List.any_cons, List.any_nil, Bool.or_false]
theorem prT_all {cs : List Cnt} {k : ByteArray} (h : ∃ c ∈ cs, c.k = k ∧ 0 < bonI c.v) : prT cs k cs.length = true := by
  obtain ⟨c, hc, h1, h2⟩ := h
  unfold prT
  rw [List.take_length, List.any_eq_true]
  exact ⟨c, hc, by simp [h1, h2]⟩
def enT (l : List En) (r s : ByteArray) (n : Nat) : Bool := (l.take n).any fun x => decide (x.r = r) && decide (x.s = s)
theorem enT_succ {l : List En} {r s : ByteArray} {n : Nat} {x : En} (h : l[n]? = some x) : enT l r s (n + 1) = (enT l r s n || (decide (x.r = r) && decide (x.s = s))) := by
  unfold enT
  rw [bJ h, List.any_append, List.any_cons, List.any_nil, Bool.or_false]
theorem enT_all {l : List En} {r s : ByteArray} (h : ∃ x ∈ l, x.r = r ∧ x.s = s) : enT l r s l.length = true := by
  obtain ⟨c, hc, h1, h2⟩ := h
  unfold enT
  rw [List.take_length, List.any_eq_true]
  exact ⟨c, hc, by simp [h1, h2]⟩
set_option maxHeartbeats 8000000 in
set_option maxRecDepth 100000 in
theorem pai38_any (x : zZ0) (A : oI0) (w : World) (he : Env w) (hok : mP1 x) (hat : fE0 w A x) :
    Calls Tryz.prog 8 #[A.agg x] w fun e w' => e = .returned (.bool true) ∧ aB w w' := by
  have hmw := hok.m
  have hco := hok.c
  obtain ⟨⟨xp, xd, xs, xe⟩, cs, pf, pv, most⟩ := x
  obtain ⟨⟨pa, pc, sa, sc, ea, ec⟩, ca, cc⟩ := A
  obtain ⟨W1, hW1⟩ := exq (w.alloc (.cells #[.slice pa xp.length pc, .int .i64 xd, .slice sa xs.length sc, .slice ea xe.length ec, .slice ca cs.length cc, .string pf, .string pv, .int .i64 most] 29))
  have hg1 : aB w W1 := by rw [hW1]; exact aB.alloc _ _
  obtain ⟨xb, hxb⟩ := exq w.heap.size
  obtain ⟨bc, _⟩ := cG (show aB (w.alloc (.cells #[.slice pa xp.length pc, .int .i64 xd, .slice sa xs.length sc, .slice ea xe.length ec, .slice ca cs.length cc, .string pf, .string pv, .int .i64 most] 29)) W1 by rw [hW1]; exact aB.refl _)
  have q0 := bc 0 _ rfl
  have q1 := bc 1 _ rfl
  have q2 := bc 2 _ rfl
  have q3 := bc 3 _ rfl
  have q4 := bc 4 _ rfl
  have q5 := bc 5 _ rfl
  have q6 := bc 6 _ rfl
  have q7 := bc 7 _ rfl
  rw [← hxb] at q0 q1 q2 q3 q4 q5 q6 q7
  have CL := Lib.hid (light38_any ⟨⟨xp, xd, xs, xe⟩, cs, pf, pv, most⟩ ⟨⟨pa, pc, sa, sc, ea, ec⟩, ca, cc⟩ W1 hok (hat.grows hg1))
  have CW := fun (u : World) (hu : aB w u) => Lib.hid (works38_any u (he.grows hu))
  have HLB := Lib.hid (lightA_of (x := ⟨⟨xp, xd, xs, xe⟩, cs, pf, pv, most⟩))
  have CO := fun (u : World) (hu : aB w u) (hl : nY ⟨xp, xd, xs, xe⟩ = true) => Lib.hid (yB0 ⟨xp, xd, xs, xe⟩ ⟨pa, pc, sa, sc, ea, ec⟩ ca cs.length cc pf pv most u (he.grows hu) hok.s hl (hat.s.grows hu))
  unfold oI0.agg oI0.cells at CL
  simp only at CL CO
  obtain ⟨LB, hLB⟩ := exq (wX ⟨⟨xp, xd, xs, xe⟩, cs, pf, pv, most⟩)
  rw [← hLB] at CL HLB
  show Calls _ _ #[.agg #[.slice pa xp.length pc, .int .i64 xd, .slice sa xs.length sc, .slice ea xe.length ec, .slice ca cs.length cc, .string pf, .string pv, .int .i64 most]] _ _
  have HE := Lib.hid he
  have HCC := Lib.hid hat.c
  have HEE := Lib.hid hat.s.e
  have HCO := Lib.hid hco
  have HW1 := Lib.hid (And.intro hW1 hxb)
  simp only at hmw
  clear hW1 hxb bc hLB he hok hat hco
  go_enter Tryz.func8, Tryz.ntmps8
  go_wp2_with fail
  rw [← HW1.out.1, ← HW1.out.2]
  clear HW1
  refine CL.out.mono ?_
  rintro e w2 ⟨rfl, hg2⟩
  have g2 := hg1.tr hg2
  cases LB with
  | false =>
    go_wp2_with fail
    go_ret
    exact ⟨rfl, g2⟩
  | true =>
    obtain ⟨hl, hcl, hpf, hpv, hcz⟩ := HLB.out rfl
    have HCZ := Lib.hid hcz
    have hxl := (kE0 hl).2.2.2.2
    simp only at hxl
    have CO2 := CO w2 g2 hl
    have r0 := hg2.cell q0
    have r1 := hg2.cell q1
    have r2 := hg2.cell q2
    have r3 := hg2.cell q3
    have r4 := hg2.cell q4
    have r5 := hg2.cell q5
    have r6 := hg2.cell q6
    have r7 := hg2.cell q7
    clear CL HLB CO hcz q0 q1 q2 q3 q4 q5 q6 q7
    go_wp2_with fail
    refine CO2.out.mono ?_
    rintro e w3 ⟨hg3, hd⟩
    clear CO2
    have g3 := g2.tr hg3
    rcases hd with ⟨hne, rfl⟩ | ⟨db, m, rfl, hd⟩
    · obtain ⟨E, hE⟩ := exq (pI xp (dL0 ⟨xp, xd, xs, xe⟩) xe)
      rw [← hE] at hne ⊢
      have hEb : (E != 0) = true := by simpa using hne
      have CW3 := CW w3 g3
      clear hE hne r0 r1 r2 r3 r4 r5 r6 r7 CW HE HCC HCO HCZ
      go_wp2_with fail
      refine CW3.out.mono ?_
      rintro e w4 ⟨rfl, hg4⟩
      clear CW3
      go_wp2_with fail
      go_ret
      exact ⟨rfl, g3.tr hg4⟩
    · have q0 := hg3.cell r0
      have q1 := hg3.cell r1
      have q2 := hg3.cell r2
      have q3 := hg3.cell r3
      have q4 := hg3.cell r4
      have q5 := hg3.cell r5
      have q6 := hg3.cell r6
      have q7 := hg3.cell r7
      have HG3 := Lib.hid g3
      have HDK := Lib.hid hd.dk
      have HD := Lib.hid hd.d
      simp only at HDK HD
      have CP := fun (cs : List Cnt) (ca : Option Addr) (cc : Nat) (pf pv : ByteArray) (most : Int) (hcl : cs.length ≤ 1048576) (hco : ∀ c ∈ cs, uM0 c) (hcz : ∀ c ∈ cs, c.k.size ≤ 1048576) (hpf : pf.size ≤ 1048576) (hpv : pv.size ≤ 1048576) (u : World) (hu : aB w3 u) (hca : aG u ca 2 (cs.map kC)) => Lib.hid (lI0 xp m (sortS xe) db cs ca cc pf pv most u (HE.out.grows (HG3.out.tr hu)) HDK.out (HD.out.grows hu) hcl hco hcz hca hpf hpv)
      have HXZ : Hid (∀ c ∈ cs, c.k.size ≤ 1048576) := fun c hc => by have := HCZ.out c hc; omega
      have HXE := Lib.hid (cost_sort xe)
      have HXM : Hid (∀ y ∈ sortS xe, y ∈ xe) := fun y hy => eN0 hy
      generalize sortS xe = es at CP HDK HD HXE HXM
      clear hd g3 g2 hg1 hg2 hg3 r0 r1 r2 r3 r4 r5 r6 r7 HCZ hl
      have z0s : (⟨#[]⟩ : ByteArray).size ≤ 1048576 := by decide
      have C1 := CP cs ca cc ⟨#[]⟩ pv most (by omega) HCO.out HXZ.out z0s (by omega) w3 (aB.refl _) (HCC.out.grows HG3.out)
      have HS1 : Hid (∀ x ∈ sW es cs ⟨#[]⟩ pv most, okK 2 pv x.s = true ∧ ∃ c ∈ cs, c.k = keyK 2 pv x.s ∧ 0 < bonI c.v) := fun x hx => by
        unfold sW at hx
        split at hx
        · exact guess_pairs hx
        · cases hx
      have HP1 : Hid (∀ x ∈ sW es cs ⟨#[]⟩ pv most, x.s.size ≤ 1048576) := fun x hx => by
        unfold sW at hx
        split at hx
        · exact (tA0 HDK.out (qE hx).1).2
        · cases hx
      have HLN1 : Hid ((sW es cs ⟨#[]⟩ pv most).length ≤ (max 0 (min most 60)).toNat) := by
        show _ ≤ _
        unfold sW
        split
        · exact guessL_len es cs ⟨#[]⟩ pv most
        · exact Nat.zero_le _
      have HS2 : Hid (∀ x ∈ sW es [] pf pv most, pf ≠ ⟨#[]⟩ ∧ ∃ y ∈ xe, y.r = x.r ∧ y.s = x.s) := fun x hx => by
        unfold sW at hx
        split at hx
        · obtain ⟨h1, y, hy, h2⟩ := guess_none hx
          exact ⟨h1, y, HXM.out y hy, h2⟩
        · cases hx
      have HLN2 : Hid ((sW es [] pf pv most).length ≤ (max 0 (min most 60)).toNat) := by
        show _ ≤ _
        unfold sW
        split
        · exact guessL_len es [] pf pv most
        · exact Nat.zero_le _
      have C2 := fun (u : World) (hu : aB w3 u) => CP [] none 0 pf pv most (by decide) (fun x hx => by cases hx) (fun x hx => by cases hx) (by omega) (by omega) u hu (aG.nil _ _ _)
      rw [show ([] : List Cnt).length = 0 from rfl] at C2
      obtain ⟨L2, hL2⟩ := exq (sW es [] pf pv most)
      rw [← hL2] at HS2 HLN2
      simp only [← hL2] at C2
      obtain ⟨L1, hL1⟩ := exq (sW es cs ⟨#[]⟩ pv most)
      rw [← hL1] at C1 HS1 HP1 HLN1
      have CN := fun (v : Int) (hv : WfI v) (u : World) => Lib.hid (iC0 v u hv)
      have CM := fun (s : ByteArray) (hs : s.size ≤ 1048576) (u : World) => Lib.hid (make30_any 2 pv s u (by omega) (by omega))
      unfold bN0 at CM
      have hl60 : L1.length ≤ 60 := by have := HLN1.out; omega
      have hl62 : L2.length ≤ 60 := by have := HLN2.out; omega
      clear hL1 hL2 CP
      go_wp2_with fail
      refine C1.out.mono ?_
      rintro e w4 ⟨v4, rfl, hv4, hg4⟩
      obtain ⟨a4, c4, rfl, _, _, hat4⟩ := hv4.at_ eN1.len
      have H4 := Lib.hid hat4
      have HK4 := Lib.hid ((HCC.out.grows HG3.out).grows hg4)
      have HX4 := Lib.hid ((HEE.out.grows HG3.out).grows hg4)
      have q3x := hg4.cell q3
      have q4x := hg4.cell q4
      have q5x := hg4.cell q5
      have q6x := hg4.cell q6
      have q7x := hg4.cell q7
      have HG4 := Lib.hid hg4
      clear C1 hv4 hat4 hg4 q0 q1 q2 q3 q4 q5 q6 q7
      go_wp2_with fail
      go_loopw [6] (fun i wr => ∃ k : Nat, k ≤ L1.length ∧ i = .int .i64 k ∧ Hid (aB w4 wr)) (fun i _ => L1.length - (intOf i).toNat)
      case atStart => exact ⟨0, Nat.zero_le _, rfl, aB.refl _⟩
      case round =>
        obtain ⟨k, hk, rfl, hg⟩ := hrel
        by_cases hlt : k < L1.length
        · have hki : (k : Int) < L1.length := by omega
          obtain ⟨wo, rfl⟩ := exq wr
          obtain ⟨⟨xr, xs', xc⟩, hx⟩ : ∃ y, L1[k]? = some y := ⟨_, List.getElem?_eq_getElem hlt⟩
          have hs1 := HS1.out _ (List.mem_of_getElem? hx)
          have hp1 := HP1.out _ (List.mem_of_getElem? hx)
          simp only at hs1 hp1
          have CM2 := CM xs' hp1
          obtain ⟨key, hkey⟩ := exq (keyK 2 pv xs')
          rw [hs1.1] at CM2
          simp only [if_true] at CM2
          rw [← hkey] at hs1
          simp only [← hkey] at CM2
          have HPA := Lib.hid (prT_all hs1.2)
          obtain ⟨ba, oa, rfl, hca⟩ := (H4.out.grows hg.out).get (aJ hlt)
          have a1 : ∀ x : Ext aB wo.drew, x.u.cell? ⟨ba, oa + k * 3 + 1, none⟩ = some (.string xs') := aF ((aB.drew wo).cell (hca k _ hx 1 _ rfl))
          have r6 : ∀ x : Ext aB wo.drew, x.u.cell? ⟨xb, 6, none⟩ = some (.string pv) := aF (hg.out.dr.cell q6x)
          have hk0 : (0 : Int) ≤ k := by omega
          have q4d := hg.out.dr.cell q4x
          have HKO := Lib.hid (HK4.out.grows hg.out.dr)
          have HGO := Lib.hid hg.out.dr
          clear hca hx hs1 hp1 hkey hg
          go_wp2_with fail
          refine bH [(0, false), (1, false), (2, false), (3, false), (4, false), (5, false), (6, false), (7, true), (8, false), (9, false), (10, false), (11, false), (12, false)] (by kernel_rfl) (fun d _ _ _ _ h => by cases d <;> exact h) ?_
          iterate 7 (refine aH rfl (fun K hK => ?_); go_simp; refine hK _ ?_; clear hK K)
          refine bG rfl (by kernel_rfl) (fun K hK => ?_)
          go_simp
          refine ((CM2 _).out).mono ?_
          rintro e w5 ⟨rfl, hg5⟩
          refine ⟨hg5, hK _ _ ?_⟩
          clear hK K
          iterate 5 (refine aH rfl (fun K hK => ?_); go_simp; refine hK _ ?_; clear hK K)
          refine bN ?_
          have q4e := hg5.cell q4d
          have HKE := Lib.hid (HKO.out.grows hg5)
          have HGE := Lib.hid (HGO.out.tr hg5)
          clear a1 r6 CM2 q4d HKO HGO hg5
          go_wp2_with fail
          go_loopw [9, 10] (fun b i wn => ∃ n : Nat, n ≤ cs.length ∧ i = .int .i64 n ∧ b = .bool (prT cs key n) ∧ Hid (aB w5 wn)) (fun _ i _ => cs.length - (intOf i).toNat)
          case atStart => exact ⟨0, Nat.zero_le _, rfl, rfl, aB.refl _⟩
          case round =>
            obtain ⟨n, hn, rfl, rfl, hgn⟩ := hrel
            have q4n := hgn.out.cell q4e
            by_cases hlt2 : n < cs.length
            · have hni : (n : Int) < cs.length := by omega
              obtain ⟨⟨ck, cv⟩, hc⟩ : ∃ y, cs[n]? = some y := ⟨_, List.getElem?_eq_getElem hlt2⟩
              have hps := prT_succ (k := key) hc
              have hcv := (HCO.out _ (List.mem_of_getElem? hc)).v
              simp only at hps hcv
              obtain ⟨be, oe, rfl, hce⟩ := (HKE.out.grows hgn.out).get (aJ hlt2)
              have e0 : wr.cell? ⟨be, oe + n * 2, none⟩ = some (.string ck) := hce n _ hc 0 _ rfl
              have e1 : wr.cell? ⟨be, oe + n * 2 + 1, none⟩ = some (.int .i64 cv) := hce n _ hc 1 _ rfl
              have HGN := Lib.hid hgn.out
              have hn0 : (0 : Int) ≤ n := by omega
              have CN2 := CN cv hcv
              clear hce hc hcv hgn
              generalize prT cs key n = o at hps ⊢
              cases o with
              | true =>
                have HT : Hid (prT cs key (n + 1) = true) := hps
                clear hps
                go_wp2_with (first | (go_at_call 23; refine (CN2 _).out.mono ?_; rintro e w9 ⟨rfl, rfl⟩))
                go_roundw
                case rel => exact ⟨n + 1, hlt2, by go_num, by rw [HT.out], HGN.out⟩
                case measure => simp [intOf]; omega
              | false =>
                by_cases h1 : ck = key
                · have c1 : (ck.toList == key.toList) = true := by rw [h1]; simp
                  have HT : Hid (prT cs key (n + 1) = decide (0 < bonI cv)) := by
                    show _ = _
                    rw [hps, decide_eq_true h1]; simp
                  clear h1 hps
                  go_wp2_with (first | (go_at_call 23; refine (CN2 _).out.mono ?_; rintro e w9 ⟨rfl, rfl⟩))
                  go_roundw
                  case rel => exact ⟨n + 1, hlt2, by go_num, by rw [HT.out], HGN.out⟩
                  case measure => simp [intOf]; omega
                · obtain ⟨c1, c3⟩ := jV0 h1
                  have HT : Hid (prT cs key (n + 1) = false) := by
                    show _ = _
                    rw [hps, decide_eq_false h1]; simp
                  clear h1 hps
                  go_wp2_with (first | (go_at_call 23; refine (CN2 _).out.mono ?_; rintro e w9 ⟨rfl, rfl⟩))
                  go_roundw
                  case rel => exact ⟨n + 1, hlt2, by go_num, by rw [HT.out], HGN.out⟩
                  case measure => simp [intOf]; omega
            · obtain rfl : n = cs.length := by omega
              have hni : ¬ ((cs.length : Nat) : Int) < cs.length := by omega
              rw [HPA.out]
              have HG9 := Lib.hid (HGE.out.tr hgn.out)
              clear hgn
              go_wp2_with fail
              go_roundw
              case rel => exact ⟨k + 1, hlt, by go_num, HG9⟩
              case measure => simp [intOf]; omega
        · obtain rfl : k = L1.length := by omega
          have hki : ¬ ((L1.length : Nat) : Int) < L1.length := by omega
          obtain ⟨wl, rfl⟩ := exq wr
          have g4l := hg.out
          have q3l := g4l.cell q3x
          have q5l := g4l.cell q5x
          have q6l := g4l.cell q6x
          have q7l := g4l.cell q7x
          have C3 := C2 wl (HG4.out.tr g4l)
          have HXL := Lib.hid (HX4.out.grows g4l)
          have HGL := Lib.hid (HG3.out.tr (HG4.out.tr g4l))
          clear hg g4l C2 q3x q4x q5x q6x q7x
          go_wp2_with fail
          refine C3.out.mono ?_
          rintro e w6 ⟨v6, rfl, hv6, hg6⟩
          obtain ⟨a6, c6, rfl, _, _, hat6⟩ := hv6.at_ eN1.len
          have H6 := Lib.hid hat6
          have q3m := hg6.cell q3l
          have q5m := hg6.cell q5l
          have HXM6 := Lib.hid (HXL.out.grows hg6)
          have HGM := Lib.hid (HGL.out.tr hg6)
          clear hv6 hat6 C3 hg6 q3l q5l q6l q7l
          go_wp2_with fail
          go_loopw [12] (fun i wr => ∃ k : Nat, k ≤ L2.length ∧ i = .int .i64 k ∧ Hid (aB w6 wr)) (fun i _ => L2.length - (intOf i).toNat)
          case atStart => exact ⟨0, Nat.zero_le _, rfl, aB.refl _⟩
          case round =>
            obtain ⟨k, hk, rfl, hg⟩ := hrel
            by_cases hlt : k < L2.length
            · have hki2 : (k : Int) < L2.length := by omega
              obtain ⟨wo, rfl⟩ := exq wr
              obtain ⟨⟨xr, xs', xc⟩, hx⟩ : ∃ y, L2[k]? = some y := ⟨_, List.getElem?_eq_getElem hlt⟩
              have hs2 := HS2.out _ (List.mem_of_getElem? hx)
              simp only at hs2
              have HEA := Lib.hid (enT_all hs2.2)
              obtain ⟨ba, oa, rfl, hca⟩ := (H6.out.grows hg.out).get (aJ hlt)
              have f0 : wo.cell? ⟨ba, oa + k * 3, none⟩ = some (.string xr) := hca k _ hx 0 _ rfl
              have f1 : wo.cell? ⟨ba, oa + k * 3 + 1, none⟩ = some (.string xs') := hca k _ hx 1 _ rfl
              have q3o := hg.out.cell q3m
              have HXO := Lib.hid (HXM6.out.grows hg.out)
              have HGO := Lib.hid hg.out
              have hk0 : (0 : Int) ≤ k := by omega
              clear hca hx hs2 hg
              go_wp2_with fail
              go_loopw [13, 14] (fun b i wn => ∃ n : Nat, n ≤ xe.length ∧ i = .int .i64 n ∧ b = .bool (enT xe xr xs' n) ∧ Hid (aB wo wn)) (fun _ i _ => xe.length - (intOf i).toNat)
              case atStart => exact ⟨0, Nat.zero_le _, rfl, rfl, aB.refl _⟩
              case round =>
                obtain ⟨n, hn, rfl, rfl, hgn⟩ := hrel
                have q3n := hgn.out.cell q3o
                by_cases hlt2 : n < xe.length
                · have hni : (n : Int) < xe.length := by omega
                  obtain ⟨⟨yr, ys, yl, yt, yc⟩, hy⟩ : ∃ y, xe[n]? = some y := ⟨_, List.getElem?_eq_getElem hlt2⟩
                  have hes := enT_succ (r := xr) (s := xs') hy
                  simp only at hes
                  obtain ⟨be, oe, rfl, hce⟩ := (HXO.out.grows hgn.out).get (aJ hlt2)
                  have z0 : ∀ x : Ext aB wr.drew, x.u.cell? ⟨be, oe + n * 5, none⟩ = some (.string yr) := aF ((aB.drew wr).cell (hce n _ hy 0 _ rfl))
                  have z1 : ∀ x : Ext aB wr.drew, x.u.cell? ⟨be, oe + n * 5 + 1, none⟩ = some (.string ys) := aF ((aB.drew wr).cell (hce n _ hy 1 _ rfl))
                  have a0 : ∀ x : Ext aB wr.drew, x.u.cell? ⟨ba, oa + k * 3, none⟩ = some (.string xr) := aF (hgn.out.dr.cell f0)
                  have a1 : ∀ x : Ext aB wr.drew, x.u.cell? ⟨ba, oa + k * 3 + 1, none⟩ = some (.string xs') := aF (hgn.out.dr.cell f1)
                  have rq3 : ∀ x : Ext aB wr.drew, x.u.cell? ⟨xb, 3, none⟩ = some (.slice (some ⟨be, oe, none⟩) xe.length ec) := aF ((aB.drew wr).cell q3n)
                  have HGN := Lib.hid hgn.out.dr
                  have hn0 : (0 : Int) ≤ n := by omega
                  clear hce hy hgn
                  generalize enT xe xr xs' n = o at hes ⊢
                  cases o with
                  | true =>
                    have HT : Hid (enT xe xr xs' (n + 1) = true) := hes
                    clear hes
                    go_wp2_with fail
                    refine bH [(0, false), (1, false), (2, false), (3, false), (4, false), (5, false), (6, false), (7, false), (8, false), (9, false), (10, false), (11, false), (12, false), (13, false), (14, false), (15, false), (16, false), (17, false), (18, false), (19, false), (20, false), (21, false), (22, false), (23, false), (24, false), (25, false), (26, false), (27, false), (28, false), (29, false), (30, false), (31, false)] (by kernel_rfl) (fun d _ _ _ _ h => by cases d <;> exact h) ?_
                    iterate 32 (refine aH rfl (fun K hK => ?_); go_simp; refine hK _ ?_; clear hK K)
                    refine bN ?_
                    clear z0 z1 a0 a1 rq3
                    go_wp2_with fail
                    go_roundw
                    case rel => exact ⟨n + 1, hlt2, by go_num, by rw [HT.out], HGN.out⟩
                    case measure => simp [intOf]; omega
                  | false =>
                    by_cases h1 : yr = xr
                    · have c1 : (yr.toList == xr.toList) = true := by rw [h1]; simp
                      by_cases h2 : ys = xs'
                      · have c2 : (ys.toList == xs'.toList) = true := by rw [h2]; simp
                        have HT : Hid (enT xe xr xs' (n + 1) = true) := by
                          show _ = _
                          rw [hes, decide_eq_true h1, decide_eq_true h2]; rfl
                        clear h1 h2 hes
                        go_wp2_with fail
                        refine bH [(0, false), (1, false), (2, false), (3, false), (4, false), (5, false), (6, false), (7, false), (8, false), (9, false), (10, false), (11, false), (12, false), (13, false), (14, false), (15, false), (16, false), (17, false), (18, false), (19, false), (20, false), (21, false), (22, false), (23, false), (24, false), (25, false), (26, false), (27, false), (28, false), (29, false), (30, false), (31, false)] (by kernel_rfl) (fun d _ _ _ _ h => by cases d <;> exact h) ?_
                        iterate 32 (refine aH rfl (fun K hK => ?_); go_simp; refine hK _ ?_; clear hK K)
                        refine bN ?_
                        clear z0 z1 a0 a1 rq3
                        go_wp2_with fail
                        go_roundw
                        case rel => exact ⟨n + 1, hlt2, by go_num, by rw [HT.out], HGN.out⟩
                        case measure => simp [intOf]; omega
                      · obtain ⟨c2, c3⟩ := jV0 h2
                        have HT : Hid (enT xe xr xs' (n + 1) = false) := by
                          show _ = _
                          rw [hes, decide_eq_false h2]; simp
                        clear h1 h2 hes
                        go_wp2_with fail
                        refine bH [(0, false), (1, false), (2, false), (3, false), (4, false), (5, false), (6, false), (7, false), (8, false), (9, false), (10, false), (11, false), (12, false), (13, false), (14, false), (15, false), (16, false), (17, false), (18, false), (19, false), (20, false), (21, false), (22, false), (23, false), (24, false), (25, false), (26, false), (27, false), (28, false), (29, false), (30, false), (31, false)] (by kernel_rfl) (fun d _ _ _ _ h => by cases d <;> exact h) ?_
                        iterate 32 (refine aH rfl (fun K hK => ?_); go_simp; refine hK _ ?_; clear hK K)
                        refine bN ?_
                        clear z0 z1 a0 a1 rq3
                        go_wp2_with fail
                        go_roundw
                        case rel => exact ⟨n + 1, hlt2, by go_num, by rw [HT.out], HGN.out⟩
                        case measure => simp [intOf]; omega
                    · obtain ⟨c1, c3⟩ := jV0 h1
                      have HT : Hid (enT xe xr xs' (n + 1) = false) := by
                        show _ = _
                        rw [hes, decide_eq_false h1]; simp
                      clear h1 hes
                      go_wp2_with fail
                      refine bH [(0, false), (1, false), (2, false), (3, false), (4, false), (5, false), (6, false), (7, false), (8, false), (9, false), (10, false), (11, false), (12, false), (13, false), (14, false), (15, false), (16, false), (17, false), (18, false), (19, false), (20, false), (21, false), (22, false), (23, false), (24, false), (25, false), (26, false), (27, false), (28, false), (29, false), (30, false), (31, false)] (by kernel_rfl) (fun d _ _ _ _ h => by cases d <;> exact h) ?_
                      iterate 32 (refine aH rfl (fun K hK => ?_); go_simp; refine hK _ ?_; clear hK K)
                      refine bN ?_
                      clear z0 z1 a0 a1 rq3
                      go_wp2_with fail
                      go_roundw
                      case rel => exact ⟨n + 1, hlt2, by go_num, by rw [HT.out], HGN.out⟩
                      case measure => simp [intOf]; omega
                · obtain rfl : n = xe.length := by omega
                  have hni : ¬ ((xe.length : Nat) : Int) < xe.length := by omega
                  rw [HEA.out]
                  have HG9 := Lib.hid (HGO.out.tr hgn.out)
                  clear hgn
                  go_wp2_with fail
                  go_roundw
                  case rel => exact ⟨k + 1, hlt, by go_num, HG9⟩
                  case measure => simp [intOf]; omega
            · obtain rfl : k = L2.length := by omega
              have hki2 : ¬ ((L2.length : Nat) : Int) < L2.length := by omega
              have CW6 := CW wr (HGM.out.tr hg.out)
              have HG6 := Lib.hid (HGM.out.tr hg.out)
              have q5n := hg.out.cell q5m
              clear CW hg
              by_cases hpf0 : pf = ⟨#[]⟩
              · have hL0 : L2 = [] := by
                  cases L2 with
                  | nil => rfl
                  | cons y t => exact absurd hpf0 (HS2.out y (List.mem_cons_self ..)).1
                have p1 : pf.toList = [] := by rw [hpf0, Lib.toList_data]
                have p2 : pf.toList.isEmpty = true := by rw [p1]; rfl
                have p3 : L2.length = 0 := by rw [hL0]; rfl
                have p4 : ((L2.length : Nat) : Int) = 0 := by rw [p3]; rfl
                clear hpf0 hL0
                go_wp2_with fail
                refine CW6.out.mono ?_
                rintro e w7 ⟨rfl, hg7⟩
                have HG7 := Lib.hid (HG6.out.tr hg7)
                clear CW6 hg7
                go_wp2_with fail
                go_ret
                exact ⟨rfl, HG7.out⟩
              · have p1 : ¬ pf.toList = [] := by rw [Lib.toList_data]; exact fun e => hpf0 (qY e)
                have p2 : pf.toList.isEmpty = false := by rw [List.isEmpty_eq_false_iff]; exact p1
                clear hpf0
                go_wp2_with fail
                refine CW6.out.mono ?_
                rintro e w7 ⟨rfl, hg7⟩
                have HG7 := Lib.hid (HG6.out.tr hg7)
                clear CW6 hg7
                go_wp2_with fail
                go_ret
                exact ⟨rfl, HG7.out⟩
end Go.Proofs.YtjhajgffmnkocaaGreatDoor
