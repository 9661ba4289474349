import Derived.Test.YtndhhgpmpnmljaaDoorRefP16
import Derived.Test.YtndhhgpmpnmljaaDoorRefX
import Derived.Test.YtndhhgpmpnmljaaDoorGiven16
import Derived.Test.YtndhhgpmpnmljaaDoorMatSets
namespace Go.Proofs.YtndhhgpmpnmljaaDoor
open Go Go.RowKit Go.Shelf
attribute [local go_sem] quietE quietE2

set_option maxHeartbeats 1000000 in
theorem matPrint_nil (w : World) (pa : Option Addr) (pn pcap : Nat) : Calls Tryd.prog 9 #[.pointer none, .slice pa pn pcap] w fun e w' => e = .returned (.tuple #[.string ⟨#[]⟩, .int .i64 9]) ∧ w = w' := by
  go_enter Tryd.func9, Tryd.ntmps9
  go_wp2
  go_ret2
  exact ⟨rfl, rfl⟩
set_option maxHeartbeats 8000000 in
set_option maxRecDepth 100000 in
theorem prints_any (d : Int) (l : List SetV) (la : Option Addr) (lc : Nat) (p : List PosV) (pa : Option Addr) (pc : Nat) (n : Int) (w : World) (he : Env w) (hll : l.length ≤ 140737488355328) (hok : ∀ z ∈ l, WfI z.c) (hat : AtCells w la 3 (l.map setC))
    (hpl : p.length * 24 ≤ 140737488355328) (hpn : ∀ x ∈ p, x.name.size ≤ 9223372036854775807) (hpt : AtCells w pa 2 (p.map posCells)) :
    Calls Tryd.prog 3 #[.int .i64 d, .slice la l.length lc, .slice pa p.length pc, .int .i64 n] w fun e w' => e = .returned (.bool true) ∧ Grows w w' := by
  have HAT := Lib.hid hat
  have HOK := Lib.hid hok
  have HPT := Lib.hid hpt
  have HPN := Lib.hid hpn
  have HE := Lib.hid he
  have hpl2 : p.length ≤ 5864062014805 := by omega
  have CW := fun W (hW : Grows w W) => Lib.hid (works16_any W (he.grows hW))
  clear hat hok he hpt hpn
  cases hb : newB n d
  · go_enter Tryd.func3, Tryd.ntmps3
    go_wp2_with fail
    refine (new_bad n d w hb).mono ?_
    rintro e w1 ⟨rfl, rfl⟩
    go_wp2_with fail
    refine (rnew_bad n d w hb).mono ?_
    rintro e w2 ⟨rfl, rfl⟩
    go_wp2_with fail
    refine (matPrint_nil w pa _ pc).mono ?_
    rintro e w3 ⟨rfl, rfl⟩
    go_wp2_with fail
    refine (CW _ (Grows.refl _)).out.mono ?_
    rintro e w4 ⟨rfl, hg4⟩
    go_wp2
    go_ret
    exact ⟨rfl, hg4⟩
  · go_enter Tryd.func3, Tryd.ntmps3
    go_wp2_with fail
    refine (new_any n d w hb).mono ?_
    rintro e w1 ⟨rfl, hm1, hg1⟩
    go_wp2_with fail
    refine (rnew_any n d w1 hb).mono ?_
    rintro e w2 ⟨rfl, hr2, hg2⟩
    have hmb : w.heap.size + 1 < w1.heap.size := hm1.mlt
    have hm2 := hm1.grows hg2
    have hg02 := hg1.tr hg2
    clear hm1 hg1 hg2
    obtain ⟨rb, hrb⟩ : ∃ rb, rb = w1.heap.size := ⟨_, rfl⟩
    rw [← hrb] at hr2 hmb ⊢
    clear hrb
    obtain ⟨N, rfl⟩ : ∃ N : Nat, n = N := ⟨n.toNat, by have := newB_iff.1 hb; omega⟩
    obtain ⟨M0, hM0⟩ : ∃ M, M = newM N d := ⟨_, rfl⟩
    have hN0 : M0.n = N := by rw [hM0]; rfl
    rw [← hM0] at hm2 hr2
    clear hM0
    by_cases hl : 200 < l.length
    · have hl2 : (200 : Int) < l.length := by omega
      go_wp2_with fail
      refine (matPrint_nil w2 pa _ pc).mono ?_
      rintro e w3 ⟨rfl, rfl⟩
      go_wp2_with fail
      refine (CW _ hg02).out.mono ?_
      rintro e w4 ⟨rfl, hg4⟩
      go_wp2
      go_ret
      exact ⟨rfl, hg02.tr hg4⟩
    · have hl2 : ¬ (200 : Int) < l.length := by omega
      have HL := Lib.hid (show l.length ≤ 200 by omega)
      go_wp2_with fail
      go_loopw [14] (fun i wx => ∃ k : Nat, k ≤ l.length ∧ i = .int .i64 k ∧ MatAt wx (w.heap.size + 1) w.heap.size (runSets M0 (l.take k)) ∧ RefAt wx rb (runSets M0 (l.take k)) ∧ Grows w wx) (fun i _ => l.length - (intOf i).toNat)
      case atStart => exact ⟨0, Nat.zero_le _, rfl, hm2, hr2, hg02⟩
      case round =>
        obtain ⟨k, hk, rfl, hm, hr, hg⟩ := hrel
        by_cases hlt : k < l.length
        · obtain ⟨⟨sr, sl, sc⟩, hs⟩ : ∃ s, l[k]? = some s := ⟨_, List.getElem?_eq_getElem hlt⟩
          have hsc : WfI sc := HOK.out _ (List.mem_of_getElem? hs)
          have HT := Lib.hid (runSets_take (m := M0) hs)
          obtain ⟨lb, lo, rfl, hcl⟩ := (HAT.out).get (ne_nil_of_lt hlt)
          have y0 := hcl k _ hs 0 _ rfl
          have y1 := hcl k _ hs 1 _ rfl
          have y2 := hcl k _ hs 2 _ rfl
          clear hcl hs
          have hlm : l.length ≤ 200 := HL.out
          generalize runSets M0 (l.take k) = M1 at *
          go_wp2_with fail
          have z0 : ∀ x : Ext Grows wr.drew, x.u.cell? ⟨lb, lo + k * 3, none⟩ = some (.int .i64 sr) := ext_cell (hg.dr.cell y0)
          have z1 : ∀ x : Ext Grows wr.drew, x.u.cell? ⟨lb, lo + k * 3 + 1, none⟩ = some (.int .i64 sl) := ext_cell (hg.dr.cell y1)
          have z2 : ∀ x : Ext Grows wr.drew, x.u.cell? ⟨lb, lo + k * 3 + 2, none⟩ = some (.int .i64 sc) := ext_cell (hg.dr.cell y2)
          refine t_tail (Grows) 16 [(0, false), (1, false), (2, false), (3, false), (4, false), (5, false), (6, false), (7, false), (8, false), (9, false), (10, false), (11, false), (12, false), (13, false), (14, false), (15, false)] Grows.refl Grows.trans (by kernel_rfl) (by kernel_rfl) (fun d _ _ _ _ h => by cases d <;> exact h) ?_
          iterate 16 (refine t_quiet rfl (fun K hK => ?_); go_simp; refine hK _ ?_; clear hK K)
          refine t_end ?_
          simp only [List.drop_succ_cons, List.drop_zero]
          clear z0 z1 z2
          go_wp2_with fail
          refine (set_any wr.drew _ _ _ (hm.grows (Grows.drew wr)) sr sl sc hsc).mono ?_
          rintro e w3 ⟨he3, hm3, hg3⟩
          obtain ⟨F, hF⟩ : ∃ F : Int, F = (if M1.setB (sr, sl) sc = true then 0 else 6) := ⟨_, rfl⟩
          rw [← hF] at he3
          subst he3
          clear hF
          have hr3 := (hr.grows (Grows.drew wr)).kept (hm.grows (Grows.drew wr)) hg3
          have hgw3 : Grows w w3 := hg.dr.grown hg3 (fun q hq => by cases hq; exact Nat.le_refl _)
          clear hm hr hg3
          go_wp2_with fail
          have x0 : ∀ x : Ext Grows w3.drew, x.u.cell? ⟨lb, lo + k * 3, none⟩ = some (.int .i64 sr) := ext_cell (hgw3.dr.cell y0)
          have x1 : ∀ x : Ext Grows w3.drew, x.u.cell? ⟨lb, lo + k * 3 + 1, none⟩ = some (.int .i64 sl) := ext_cell (hgw3.dr.cell y1)
          have x2 : ∀ x : Ext Grows w3.drew, x.u.cell? ⟨lb, lo + k * 3 + 2, none⟩ = some (.int .i64 sc) := ext_cell (hgw3.dr.cell y2)
          refine t_tail (Grows) 16 [(0, false), (1, false), (2, false), (3, false), (4, false), (5, false), (6, false), (7, false), (8, false), (9, false), (10, false), (11, false), (12, false), (13, false), (14, false), (15, false)] Grows.refl Grows.trans (by kernel_rfl) (by kernel_rfl) (fun d _ _ _ _ h => by cases d <;> exact h) ?_
          iterate 16 (refine t_quiet rfl (fun K hK => ?_); go_simp; refine hK _ ?_; clear hK K)
          refine t_end ?_
          simp only [List.drop_succ_cons, List.drop_zero]
          clear x0 x1 x2
          go_wp2_with fail
          refine (rset_any w3.drew _ _ (hr3.grows (Grows.drew w3)) sr sl sc).mono ?_
          rintro e w4 ⟨rfl, hr4, g, hgl, hg4⟩
          have hm4 := (hm3.grows (Grows.drew w3)).kept hg4 (by intro e; have := Option.some.inj e; omega) (by intro e; have := Option.some.inj e; omega)
          have hgw4 : Grows w w4 := hgw3.dr.grown hg4 (fun q hq => by cases hq; omega)
          go_wp2_with fail
          go_roundw
          case rel => exact ⟨k + 1, hlt, by go_num, by rw [HT.out]; exact hm4, by rw [HT.out]; exact hr4, hgw4⟩
          case measure => simp [intOf]; omega
        · obtain rfl : k = l.length := by omega
          rw [List.take_length] at hm hr
          have hN1 : (runSets M0 l).n = N := by rw [runSets_n, hN0]
          generalize runSets M0 l = M1 at *
          have CP := matPrint_any wr _ _ _ hm p pa pc (by omega) (HE.out.grows hg) (HPT.out.grows hg)
          obtain ⟨S, hS⟩ : ∃ S : ByteArray, S = ⟨(matPrint p M1).1.toArray⟩ := ⟨_, rfl⟩
          obtain ⟨E, hE⟩ : ∃ E : Int, E = (matPrint p M1).2 := ⟨_, rfl⟩
          rw [← hS, ← hE] at CP
          have HS := Lib.hid hS
          have HEE := Lib.hid hE
          clear hS hE
          go_wp2_with fail
          refine CP.mono ?_
          rintro e w3 ⟨rfl, hg3⟩
          have hgw3 := hg.tr hg3
          clear CP
          go_wp2_with fail
          refine (given16_any p pa pc w3 hpl (HPT.out.grows hgw3)).mono ?_
          rintro e w4 ⟨a4, c4, rfl, hat4, hg4⟩
          go_wp2_with fail
          refine (valid2_any p a4 c4 w4 hat4 (by omega) HPN.out).mono ?_
          rintro e w5 ⟨rfl, hg5⟩
          have hgw5 := (hgw3.tr hg4).tr hg5
          have hr5 := ((hr.grows hg3).grows hg4).grows hg5
          have hS := HS.out
          have hE := HEE.out
          clear HS HEE
          cases hv : posValid p
          · have hq : matPrint p M1 = ([], 5) := by unfold matPrint; rw [hv]; simp
            rw [hq] at hS hE
            have hS2 : S = ⟨#[]⟩ := hS
            have hE2 : E = 5 := hE
            subst hS2
            subst hE2
            clear hq hS hE
            go_wp2_with fail
            refine (CW _ hgw5).out.mono ?_
            rintro e w6 ⟨rfl, hg6⟩
            go_wp2
            go_ret
            exact ⟨rfl, hgw5.tr hg6⟩
          · by_cases hlen : p.length = N
            · have hq : matPrint p M1 = (M1.print p, 0) := by unfold matPrint; rw [if_pos ⟨hv, by rw [hN1]; exact hlen⟩]
              rw [hq] at hS hE
              have hS2 : mkB (M1.print p) = S := hS.symm
              have hE2 : E = 0 := hE
              subst hE2
              have hlen2 : (p.length : Int) = N := by omega
              have CR := fun W (hW : Grows w5 W) (a6 : Option Addr) (c6 : Nat) (hat6 : AtCells W a6 2 (p.map posCells)) => Lib.hid (rprint_any W rb M1 (hr5.grows hW) p a6 c6 hv (by rw [hN1]; exact hlen) hat6)
              rw [hS2] at CR
              clear hq hS hE hS2 hlen
              go_wp2_with fail
              refine (given16_any p pa pc w5 hpl (HPT.out.grows hgw5)).mono ?_
              rintro e w6 ⟨a6, c6, rfl, hat6, hg6⟩
              go_wp2_with fail
              refine (CR w6 hg6 a6 c6 hat6).out.mono ?_
              rintro e w7 ⟨rfl, hg7⟩
              have hgw7 := (hgw5.tr hg6).tr hg7
              go_wp2_with fail
              refine (CW _ hgw7).out.mono ?_
              rintro e w8 ⟨rfl, hg8⟩
              go_wp2
              go_ret
              exact ⟨rfl, hgw7.tr hg8⟩
            · have hq : matPrint p M1 = ([], 5) := by unfold matPrint; rw [if_neg (fun h => hlen (by rw [← hN1]; exact h.2))]
              rw [hq] at hS hE
              have hS2 : S = ⟨#[]⟩ := hS
              have hE2 : E = 5 := hE
              subst hS2
              subst hE2
              clear hq hS hE
              have hlen2 : ¬ (p.length : Int) = N := by omega
              go_wp2_with fail
              refine (CW _ hgw5).out.mono ?_
              rintro e w6 ⟨rfl, hg6⟩
              go_wp2
              go_ret
              exact ⟨rfl, hgw5.tr hg6⟩
end Go.Proofs.YtndhhgpmpnmljaaDoor
