import Derived.Test.YtfkebhkckcnlpaaGreatDoorEntryReturnsL
import Derived.Test.YtfkebhkckcnlpaaGreatDoorRefE
import Derived.Test.YtfkebhkckcnlpaaGreatDoorApp2
namespace Go.Proofs.YtfkebhkckcnlpaaGreatDoor
open Go Go.RowKit Go.Shelf
attribute [local go_sem] quietE

set_option maxHeartbeats 8000000 in
set_option maxRecDepth 100000 in
theorem prints_any (l : List En) (p : List PosV) (la pa : Option Addr) (lc pc : Nat) (w : World) (he : Env w) (hll : l.length ≤ 140737488355328) (hpl : p.length ≤ 140737488355328) (hat : AtCells w la 5 (l.map enCells)) (hpt : AtCells w pa 2 (p.map posCells)) (hnil : la = none → lc = 0) :
    Calls Tryz.prog 5 #[.slice la l.length lc, .slice pa p.length pc] w fun e w' => e = .returned (.bool true) ∧ Grows w w' := by
  have HAT := Lib.hid hat
  have HPT := Lib.hid hpt
  have HNIL := Lib.hid hnil
  have CF := Lib.hid (few_any l la lc w (by omega) hat)
  have CSH := fun W (hW : Grows w W) => Lib.hid (short_any p pa pc W (by omega) (hpt.grows hW))
  clear hat hpt hnil
  go_enter Tryz.func5, Tryz.ntmps5
  go_wp2_with fail
  refine CF.out.mono ?_
  rintro e w1 ⟨⟨fb, rfl, hfb⟩, hg1⟩
  cases fb
  · clear hfb
    go_wp2
    go_ret
    exact ⟨rfl, hg1⟩
  · have HF := Lib.hid (fewS_parts (hfb rfl))
    clear hfb
    go_wp2_with fail
    refine (CSH _ hg1).out.mono ?_
    rintro e w2 ⟨⟨sb, rfl, hsb⟩, hg2⟩
    have hgw := hg1.tr hg2
    cases sb
    · clear hsb
      go_wp2
      go_ret
      exact ⟨rfl, hgw⟩
    · have HS := Lib.hid (shortS_parts (hsb rfl))
      have hp1 : p.length ≤ 100 := HS.out.1
      have hl1 : l.length ≤ 100 := HF.out.1
      have hwz := hgw.size
      have HSRC := Lib.hid (HAT.out.grows (hgw.al (.cells #[] 23)))
      have CG := fun W (hW : Grows w W) => Lib.hid (given_any p pa pc W (by omega) (HPT.out.grows hW))
      have CPR := fun (qa : Option Addr) (qc : Nat) (ga : Option Addr) (gc : Nat) W (hW : Grows w W) (h1 : AtCells W qa 5 (l.map enCells)) (h2 : AtCells W ga 2 (p.map posCells)) => Lib.hid (print_any l p qa ga qc gc W (by omega) (by omega) (he.grows hW) (fun x hx => by have := HF.out.2 x hx; omega) h1 h2)
      have CPB := fun W (hW : Grows w W) => Lib.hid (print2_any l p la pa lc pc W (by omega) (by omega) (fun x hx => by have := HS.out.2 x hx; omega) (fun x hx => by have := HF.out.2 x hx; omega) (HAT.out.grows hW) (HPT.out.grows hW))
      have CSA := fun (xa xb : Option Addr) (ca cb : Nat) W (h2 : AtCells W xa 5 (l.map enCells)) (h3 : AtCells W xb 5 (l.map enCells)) => Lib.hid (same_self l xa xb ca cb W (by omega) h2 h3)
      have CW := fun W (hW : Grows w W) => Lib.hid (works_any W (he.grows hW))
      unfold mkB at CPB
      generalize printS l p = PR at CPR CPB
      obtain ⟨tx, er⟩ := PR
      try simp only at CPR CPB
      clear hll hpl CF CSH hg1 hg2 hsb
      go_wp2_with (at_builtin; refine app_many enLay rfl _ _ rfl w.heap.size _ [] l rfl (owns_lit w.heap.size hwz) (Grows.refl _) la lc rfl HSRC.out HNIL.out (by simp; omega) (Nat.le_trans hwz (by simp)) ?_; intro v' w3 hown3 hg3)
      have hgw3 := hg3 w (hgw.al _) (Nat.le_refl _)
      replace hgw := hgw3
      clear hg3 hgw3 hwz
      rw [List.nil_append] at hown3
      obtain ⟨a3, c3, rfl, _, _, hat3⟩ := hown3.at_ enCells_len
      clear hown3
      go_wp2_with fail
      refine (CG _ hgw).out.mono ?_
      rintro e w4 ⟨ga, gc, rfl, hga, hg4⟩
      replace hat3 := hat3.grows hg4
      replace hgw := hgw.tr hg4
      clear hg4
      go_wp2_with fail
      refine (CPR a3 c3 ga gc _ hgw hat3 hga).out.mono ?_
      rintro e w5 ⟨rfl, hg5⟩
      replace hat3 := hat3.grows hg5
      replace hgw := hgw.tr hg5
      clear hg5 hga
      go_wp2_with fail
      refine (CPB _ hgw).out.mono ?_
      rintro e w6 ⟨rfl, hg6⟩
      replace hat3 := hat3.grows hg6
      replace hgw := hgw.tr hg6
      clear hg6
      go_wp2_with fail
      refine (CSA a3 la c3 lc _ hat3 (HAT.out.grows hgw)).out.mono ?_
      rintro e w7 ⟨rfl, hg7⟩
      replace hgw := hgw.tr hg7
      clear hg7 hat3
      go_wp2_with fail
      refine (CW _ hgw).out.mono ?_
      rintro e w8 ⟨rfl, hg8⟩
      go_wp2
      go_ret
      exact ⟨rfl, hgw.tr hg8⟩
end Go.Proofs.YtfkebhkckcnlpaaGreatDoor
