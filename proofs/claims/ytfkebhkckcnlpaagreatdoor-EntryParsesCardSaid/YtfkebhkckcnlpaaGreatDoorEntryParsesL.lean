import Derived.Test.YtfkebhkckcnlpaaGreatDoorEntryReturnsL
namespace Go.Proofs.YtfkebhkckcnlpaaGreatDoor
open Go Go.RowKit Go.Shelf
attribute [local go_sem] quietE

set_option maxHeartbeats 8000000 in
set_option maxRecDepth 100000 in
theorem parses_any (text : ByteArray) (p : List PosV) (pa : Option Addr) (pc : Nat) (w : World) (he : Env w) (hpl : p.length ≤ 140737488355328) (hpt : AtCells w pa 2 (p.map posCells)) :
    Calls Tryz.prog 4 #[.string text, .slice pa p.length pc] w fun e w' => e = .returned (.bool true) ∧ Grows w w' := by
  have HPT := Lib.hid hpt
  have CSH := Lib.hid (short_any p pa pc w (by omega) hpt)
  clear hpt
  by_cases hbig : 5000 < text.size
  · have hb : (5000 : Int) < text.size := by omega
    go_enter Tryz.func4, Tryz.ntmps4
    go_wp2
    go_ret
    exact ⟨rfl, Grows.refl _⟩
  · have hb : ¬ (5000 : Int) < text.size := by omega
    go_enter Tryz.func4, Tryz.ntmps4
    go_wp2_with fail
    refine CSH.out.mono ?_
    rintro e w2 ⟨⟨sb, rfl, hsb⟩, hgw⟩
    cases sb
    · clear hsb
      go_wp2
      go_ret
      exact ⟨rfl, hgw⟩
    · have HS := Lib.hid (shortS_parts (hsb rfl))
      have hp1 : p.length ≤ 100 := HS.out.1
      have CG := fun W (hW : Grows w W) => Lib.hid (given_any p pa pc W (by omega) (HPT.out.grows hW))
      have CPA := fun (ga : Option Addr) (gc : Nat) W (hW : Grows w W) (h2 : AtCells W ga 2 (p.map posCells)) => Lib.hid (parse_at text p ga gc W (by omega) (by omega) (he.grows hW) h2)
      have CPB := fun W (hW : Grows w W) => Lib.hid (parse2_at text p pa pc W (by omega) (by omega) (fun x hx => by have := HS.out.2 x hx; omega) (HPT.out.grows hW))
      have CSA := fun (a : List En) (xa xb : Option Addr) (ca cb : Nat) W (h1 : a.length ≤ 20000) (h2 : AtCells W xa 5 (a.map enCells)) (h3 : AtCells W xb 5 (a.map enCells)) => Lib.hid (same_self a xa xb ca cb W (by omega) h2 h3)
      have CW := fun W (hW : Grows w W) => Lib.hid (works_any W (he.grows hW))
      have PLN : Hid ((parseS text p).1.length ≤ 20000) := parseS_len
      generalize parseS text p = PT at CPA CPB PLN
      obtain ⟨b, n, g⟩ := PT
      have hbl : b.length ≤ 20000 := PLN.out
      clear hpl CSH hsb PLN
      go_wp2_with fail
      refine (CG _ hgw).out.mono ?_
      rintro e w3 ⟨ga, gc, rfl, hga, hg3⟩
      replace hgw := hgw.tr hg3
      clear hg3
      go_wp2_with fail
      refine (CPA ga gc _ hgw hga).out.mono ?_
      rintro e w4 ⟨a4, c4, rfl, hat4, hg4⟩
      try simp only at hat4
      replace hga := hga.grows hg4
      replace hgw := hgw.tr hg4
      clear hg4
      go_wp2_with fail
      refine (CPB _ hgw).out.mono ?_
      rintro e w5 ⟨a5, c5, rfl, hat5, hg5⟩
      try simp only at hat5
      replace hga := hga.grows hg5
      replace hat4 := hat4.grows hg5
      replace hgw := hgw.tr hg5
      clear hg5
      go_wp2_with fail
      refine (CSA b a4 a5 c4 c5 _ hbl hat4 hat5).out.mono ?_
      rintro e w6 ⟨rfl, hg6⟩
      replace hga := hga.grows hg6
      replace hgw := hgw.tr hg6
      clear hg6 hat4 hat5 CPA CPB CSA CG
      go_wp2_with fail
      go_loopw [12] (fun i wr => ∃ k : Nat, k ≤ p.length ∧ i = .int .i64 k ∧ Grows w6 wr) (fun i _ => p.length - (intOf i).toNat)
      case atStart => exact ⟨0, Nat.zero_le _, rfl, Grows.refl _⟩
      case round =>
        obtain ⟨k, hk, rfl, hg⟩ := hrel
        have hgr := hgw.tr hg
        by_cases hlt : k < p.length
        · obtain ⟨⟨xn, xk⟩, hx⟩ : ∃ x, p[k]? = some x := ⟨_, List.getElem?_eq_getElem hlt⟩
          obtain ⟨gb, go_, rfl, hcg⟩ := (hga.grows hg).get (ne_nil_of_lt hlt)
          obtain ⟨pb, po, rfl, hcp⟩ := (HPT.out.grows hgr).get (ne_nil_of_lt hlt)
          have c0 : wr.cell? ⟨gb, go_ + k * 2, none⟩ = some (.string xn) := hcg k _ hx 0 _ rfl
          have c1 : wr.cell? ⟨gb, go_ + k * 2 + 1, none⟩ = some (.int .i64 xk) := hcg k _ hx 1 _ rfl
          have d0 : wr.cell? ⟨pb, po + k * 2, none⟩ = some (.string xn) := hcp k _ hx 0 _ rfl
          have d1 : wr.cell? ⟨pb, po + k * 2 + 1, none⟩ = some (.int .i64 xk) := hcp k _ hx 1 _ rfl
          have x0 := ext_cell (w := wr.drew) c0
          have x1 := ext_cell (w := wr.drew) c1
          have x2 := ext_cell (w := wr.drew) d0
          have x3 := ext_cell (w := wr.drew) d1
          clear hcg hcp hx c0 c1 d0 d1
          go_wp2_with fail
          refine wp_region_ord Grows [(0, false), (1, false), (2, false), (3, false), (4, false), (5, false), (6, false), (7, false), (8, false), (9, false), (10, false), (11, false), (12, false), (13, false), (14, false), (15, false), (16, false), (17, false), (18, false), (19, false), (20, false), (21, false), (22, false), (23, false)] Grows.refl Grows.trans (by kernel_rfl) (by kernel_rfl) (fun d _ _ _ _ h => by cases d <;> exact h) ?_
          repeat (refine ord_quiet rfl (fun K hK => ?_); go_simp; first | (refine hK _ ?_; clear hK K) | (apply Exists.intro; refine ⟨fun x => ?_, hK _ ?_⟩; (fail); clear hK K))
          refine ord_end (fun w7 h7 => ?_)
          have hg7 := hg.dr.tr h7
          go_wp2_with fail
          go_roundw
          case rel => exact ⟨k + 1, hlt, by go_num, hg7⟩
          case measure => simp [intOf]; omega
        · go_wp2_with fail
          refine (CW _ hgr).out.mono ?_
          rintro e w7 ⟨rfl, hg7⟩
          go_wp2
          go_ret
          exact ⟨rfl, hgr.tr hg7⟩
end Go.Proofs.YtfkebhkckcnlpaaGreatDoor
