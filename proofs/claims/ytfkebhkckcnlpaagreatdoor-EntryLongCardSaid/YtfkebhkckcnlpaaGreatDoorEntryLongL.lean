import Derived.Test.YtfkebhkckcnlpaaGreatDoorEntryReturnsL
import Derived.Test.YtfkebhkckcnlpaaGreatDoorBytes
namespace Go.Proofs.YtfkebhkckcnlpaaGreatDoor
open Go Go.RowKit Go.Shelf
attribute [local go_sem] quietE

def e7 : En := ⟨kaB, kaK, 1, 1, 7⟩
def line7 : List UInt8 := [227, 129, 139, 9, 232, 154, 138, 9, 78, 9, 78, 9, 55]
def line30001 : List UInt8 := [227, 129, 139, 9, 232, 154, 138, 9, 78, 9, 78, 9, 51, 48, 48, 48, 49]
theorem plain_valid : posValid plainL = true := by kernel_rfl
theorem check7 : checkE e7 2 = 0 := by kernel_rfl
theorem body7 : bodyOf plainL e7 = line7 := by kernel_rfl
theorem read7 : (readS (mkB line7) plainL).2 = 0 := by kernel_rfl
theorem read30001 : (readS (mkB line30001) plainL).2 = 6 := by kernel_rfl
theorem skip7 : skipLine (mkB line7) = false := by kernel_rfl
theorem skip30001 : skipLine (mkB line30001) = false := by kernel_rfl
def reps (n : Nat) : List En := List.replicate n e7
def bytes7 (n : Nat) : List UInt8 := (reps n).flatMap (lineOf plainL)
theorem reps_len (n : Nat) : (reps n).length = n := List.length_replicate
theorem reps_ok (n : Nat) : ∀ x ∈ reps n, checkE x plainL.length = 0 := fun x hx => by
  obtain rfl : x = e7 := List.eq_of_mem_replicate hx
  exact check7
theorem reps_succ (n : Nat) : reps (n + 1) = reps n ++ [e7] := List.replicate_succ'
theorem line7_of : lineOf plainL e7 = line7 ++ [10] := by rw [lineOf_body, body7]
theorem bytes7_succ (n : Nat) : bytes7 (n + 1) = bytes7 n ++ (line7 ++ [10]) := by
  unfold bytes7
  rw [reps_succ, List.flatMap_append, ← line7_of]; simp
theorem bytes7_len : ∀ (n : Nat), (bytes7 n).length = 14 * n
  | 0 => rfl
  | n + 1 => by
    rw [bytes7_succ, List.length_append, bytes7_len n]
    show 14 * n + 14 = _
    omega
theorem print_long {n : Nat} (h : n ≤ 20000) : printS (reps n) plainL = (bytes7 n, 0) := by
  unfold printS
  have hl : (bytes7 n).length = 14 * n := bytes7_len n
  rw [if_pos plain_valid, reps_len, if_neg (by omega), printGo_ok (reps_ok n)]
  simp only [List.nil_append]
  rw [if_neg (by simp), if_neg (by show ¬ 1048576 < (bytes7 n).length; omega)]
  rfl
theorem parse_long {n : Nat} (h : n ≤ 20000) : parseS (mkB (bytes7 n)) plainL = (reps n, 0, 0) := by
  have hp := print_long h
  have := print_parse (l := reps n) (p := plainL) (by rw [hp])
  rw [hp] at this
  exact this
theorem print_more {n : Nat} (h : n = 20000) (x : En) : printS (reps n ++ [x]) plainL = ([], 2) := by
  unfold printS
  rw [if_pos plain_valid, if_pos (by rw [List.length_append, reps_len, h]; exact Nat.lt_succ_self _)]
theorem parse_more {n : Nat} (h : n = 20000) {last : List UInt8} {er : Int} (h10 : (10 : UInt8) ∉ last) (hl : last.length ≤ 100) (hs : skipLine (mkB last) = false) (he : lineErr plainL (mkB last) n = er) (h0 : er ≠ 0) :
    parseS (mkB (bytes7 n ++ last)) plainL = ([], 20001, er) := by
  have hbl := bytes7_len n
  unfold parseS
  rw [if_pos plain_valid, if_neg (by rw [Lib.size_eq, mkB_data, List.length_append]; omega), splitS_L, mkB_data]
  have hsp := split_lines plain_valid last (reps_ok n)
  have hsp2 : splitL 10 (bytes7 n ++ last) = (reps n).map (bodyOf plainL) ++ [last] := by
    rw [splitL_none h10] at hsp; exact hsp
  rw [hsp2, List.map_append, List.map_map]
  have hb := parseGo_bodies plain_valid [mkB last] (l := reps n) (i := 0) (out := []) (reps_ok n) (by simp only [List.length_nil, reps_len]; omega)
  show parseGo plainL ((reps n).map (fun x => mkB (bodyOf plainL x)) ++ [mkB last]) 0 [] = _
  rw [hb, List.nil_append, reps_len, Nat.zero_add, parseGo_cons, hs, reps_len, he]
  simp only [Bool.false_eq_true, if_false]
  rw [if_pos h0, h]
  rfl
theorem more7 {n : Nat} (h : n = 20000) : parseS (mkB (bytes7 n ++ line7)) plainL = ([], 20001, 2) :=
  parse_more h (by decide) (by decide) skip7 (by unfold lineErr; rw [read7, if_pos ⟨rfl, h⟩]) (by decide)
theorem more30001 {n : Nat} (h : n = 20000) : parseS (mkB (bytes7 n ++ line30001)) plainL = ([], 20001, 6) :=
  parse_more h (by decide) (by decide) skip30001 (by unfold lineErr; rw [read30001, if_neg (by simp)]) (by decide)
theorem zero_sizes {n : Nat} : ∀ x, x ∈ reps n → x.r.size ≤ 1048576 ∧ x.s.size ≤ 1048576 := fun x hx => by
  obtain rfl : x = e7 := List.eq_of_mem_replicate hx
  exact ⟨by decide, by decide⟩

/-- The calls of EntryLong. -/
theorem long_parse (n : Nat) (hn : n ≤ 20000) (ga : Option Addr) (w : World) (he : Env w) (hat : AtCells w ga 2 (plainL.map posCells)) :
    Calls Tryz.prog 17 #[.string (mkB (bytes7 n)), .slice ga 2 2] w fun e w' => ∃ a cap, e = .returned (.tuple #[.slice a n cap, .int .i64 0, .int .i64 0]) ∧ AtCells w' a 5 ((reps n).map enCells) ∧ Grows w w' := by
  have h := parse_at (mkB (bytes7 n)) plainL ga 2 w (by rw [Lib.size_eq, mkB_data, bytes7_len]; omega) (by decide) he hat
  rw [parse_long hn] at h
  refine h.mono fun e w' ⟨a, c, h1, h2, h3⟩ => ⟨a, c, ?_, h2, h3⟩
  rw [h1]; simp only [reps_len]
theorem long_print (n : Nat) (hn : n ≤ 20000) (la : Option Addr) (lc : Nat) (ga : Option Addr) (w : World) (he : Env w) (hl : AtCells w la 5 ((reps n).map enCells)) (hat : AtCells w ga 2 (plainL.map posCells)) :
    Calls Tryz.prog 20 #[.slice la n lc, .slice ga 2 2] w fun e w' => e = .returned (.tuple #[.string (mkB (bytes7 n)), .int .i64 0]) ∧ Grows w w' := by
  have h := print_any (reps n) plainL la ga lc 2 w (by rw [reps_len]; omega) (by decide) he zero_sizes hl hat
  rw [print_long hn, reps_len] at h
  exact h
theorem long_print2 (n : Nat) (hn : n = 20000) (x : En) (hx : x.r.size ≤ 1048576 ∧ x.s.size ≤ 1048576) (la : Option Addr) (lc : Nat) (ga : Option Addr) (w : World) (he : Env w) (hl : AtCells w la 5 ((reps n ++ [x]).map enCells)) (hat : AtCells w ga 2 (plainL.map posCells)) :
    Calls Tryz.prog 20 #[.slice la (n + 1) lc, .slice ga 2 2] w fun e w' => e = .returned (.tuple #[.string ⟨#[]⟩, .int .i64 2]) ∧ Grows w w' := by
  have hlen : (reps n ++ [x]).length = n + 1 := by rw [List.length_append, reps_len]; rfl
  have h := print_any (reps n ++ [x]) plainL la ga lc 2 w (by rw [hlen]; omega) (by decide) he (fun y hy => by
    rcases List.mem_append.1 hy with hy | hy
    · exact zero_sizes y hy
    · obtain rfl : y = x := by simpa using hy
      exact hx) hl hat
  rw [print_more hn, hlen] at h
  exact h
theorem long_more (n : Nat) (hn : n = 20000) (high : Bool) (ga : Option Addr) (w : World) (he : Env w) (hat : AtCells w ga 2 (plainL.map posCells)) :
    Calls Tryz.prog 17 #[.string (mkB (bytes7 n ++ (if high then line30001 else line7))), .slice ga 2 2] w fun e w' => ∃ a cap, e = .returned (.tuple #[.slice a 0 cap, .int .i64 20001, .int .i64 (if high then 6 else 2)]) ∧ Grows w w' := by
  have h := parse_at (mkB (bytes7 n ++ (if high then line30001 else line7))) plainL ga 2 w (by rw [Lib.size_eq, mkB_data, List.length_append, bytes7_len]; cases high <;> simp [line7, line30001] <;> omega) (by decide) he hat
  cases high
  · simp only [Bool.false_eq_true, if_false] at h ⊢
    rw [more7 hn] at h
    exact h.mono fun e w' ⟨a, c, h1, _, h3⟩ => ⟨a, c, h1, h3⟩
  · simp only [if_true] at h ⊢
    rw [more30001 hn] at h
    exact h.mono fun e w' ⟨a, c, h1, _, h3⟩ => ⟨a, c, h1, h3⟩
theorem long_same (n : Nat) (hn : n ≤ 20000) (pa pb : Option Addr) (ca cb : Nat) (w : World) (ha : AtCells w pa 5 ((reps n).map enCells)) (hb : AtCells w pb 5 ((reps n).map enCells)) :
    Calls Tryz.prog 19 #[.slice pa n ca, .slice pb n cb] w fun e w' => e = .returned (.bool true) ∧ Grows w w' := by
  have h := same_self (reps n) pa pb ca cb w (by rw [reps_len]; omega) ha hb
  rw [reps_len] at h
  exact h
def byteTxt (l : List UInt8) : ByteArray := ⟨l.toArray⟩
theorem bytes7_lit (n : Nat) : bytes7 (n + 1) = bytes7 n ++ (⟨#[227, 129, 139, 9, 232, 154, 138, 9, 78, 9, 78, 9, 55, 10]⟩ : ByteArray).data.toList := bytes7_succ n
theorem last_app (n : Nat) (high : Bool) (last : ByteArray) (h : last = if high then mkB line30001 else mkB line7) : mkB (bytes7 n) ++ last = mkB (bytes7 n ++ (if high then line30001 else line7)) := by
  apply bytes_ext
  rw [show (mkB (bytes7 n) ++ last).data.toList = (mkB (bytes7 n)).data.toList ++ last.data.toList by simp, h, mkB_data, mkB_data]
  cases high <;> rfl

theorem long_more7 (n : Nat) (hn : n = 20000) (ga : Option Addr) (w : World) (he : Env w) (hat : AtCells w ga 2 (plainL.map posCells)) :
    Calls Tryz.prog 17 #[.string (mkB (bytes7 n) ++ ⟨#[227, 129, 139, 9, 232, 154, 138, 9, 78, 9, 78, 9, 55]⟩), .slice ga 2 2] w fun e w' => ∃ a cap, e = .returned (.tuple #[.slice a 0 cap, .int .i64 20001, .int .i64 2]) ∧ Grows w w' := by
  have h := long_more n hn false ga w he hat
  rw [← last_app n false (mkB line7) rfl] at h
  exact h
theorem long_more3 (n : Nat) (hn : n = 20000) (ga : Option Addr) (w : World) (he : Env w) (hat : AtCells w ga 2 (plainL.map posCells)) :
    Calls Tryz.prog 17 #[.string (mkB (bytes7 n) ++ ⟨#[227, 129, 139, 9, 232, 154, 138, 9, 78, 9, 78, 9, 51, 48, 48, 48, 49]⟩), .slice ga 2 2] w fun e w' => ∃ a cap, e = .returned (.tuple #[.slice a 0 cap, .int .i64 20001, .int .i64 6]) ∧ Grows w w' := by
  have h := long_more n hn true ga w he hat
  rw [← last_app n true (mkB line30001) rfl] at h
  exact h
theorem box_late {w w2 : World} {cs : Array Value} (t : TypeId) (h : Grows (w.alloc (.cells cs t)) w2) : ∀ (j : Nat) (u : Value), cs.toList[j]? = some u → w2.cell? ⟨w.heap.size, j, none⟩ = some u := box_in h rfl
set_option maxHeartbeats 16000000 in
set_option maxRecDepth 100000 in
theorem long_any (high : Bool) (w : World) (he : Env w) :
    Calls Tryz.prog 9 #[.bool high] w fun e w' => e = .returned (.bool true) ∧ Grows w w' := by
  have CW := fun W (hW : Grows w W) => Lib.hid (works_any W (he.grows hW))
  go_enter Tryz.func9, Tryz.ntmps9
  go_wp2_with fail
  go_loopw [3, 4, 5] (fun v u i wr => ∃ (k : Nat), k ≤ 20000 ∧ i = .int .i64 k ∧ Owns wr w.heap.size 5 1 byteC v (bytes7 k) ∧ Owns wr w.heap.size 23 5 enCells u (reps k) ∧ Grows w wr) (fun _ _ i _ => 20000 - (intOf i).toNat)
  case atStart => exact ⟨0, Nat.zero_le _, rfl, Owns.nil _ _ _ _ _, Owns.nil _ _ _ _ _, Grows.refl _⟩
  case round =>
    obtain ⟨k, hk, rfl, hb, hl, hg⟩ := hrel
    by_cases hlt : k < 20000
    · have hlt2 : (k : Int) < 20000 := by omega
      have hbs := hg.size
      go_wp2_with (first | (at_builtin; refine app_str rfl _ _ rfl w.heap.size _ _ ⟨#[227, 129, 139, 9, 232, 154, 138, 9, 78, 9, 78, 9, 55, 10]⟩ rfl hb (Grows.refl _) rfl (by rw [bytes7_len]; show 14 * k + 14 ≤ _; omega) hbs ?_; intro v5 w5 hb5 hg5 hk5; rw [← bytes7_lit] at hb5; have hl5 := hk5 (by decide) hl; have hgw5 := hg5 w hg (Nat.le_refl _); clear hb hl hg5 hk5; have hbs5 := hgw5.size) | (at_builtin; refine app_one2 enLay rfl _ _ rfl w.heap.size _ _ e7 rfl hl5 (Grows.refl _) w5.heap.size 1 rfl _ rfl rfl (by rw [reps_len]; omega) hbs5 ?_; intro v6 w6 hl6 hg6 hk6; rw [← reps_succ] at hl6; have hb6 := hk6 (by decide) hb5; have hgw6 := hg6 w hgw5 (Nat.le_refl _); clear hb5 hl5 hg6 hk6))
      go_roundw
      case rel => exact ⟨k + 1, hlt, by go_num, hb6, hl6, hgw6⟩
      case measure => simp [intOf]; omega
    · have hlt2 : ¬ (k : Int) < 20000 := by omega
      have HK : Hid (k = 20000) := show k = 20000 by omega
      have hblen : (bytes7 k).length = 14 * k := bytes7_len k
      obtain ⟨la, lcap, rfl, hc1, hc2, hlat⟩ := hl.at_ enCells_len
      have hsz : (mkB (bytes7 k)).size ≤ 280000 := by rw [Lib.size_eq, mkB_data, hblen]; omega
      have CV := fun (x : World) (hx : Grows wr x) => conv_owns (hb.grows hx)
      obtain ⟨ba, bcap, rfl, _, _, _⟩ := hb.at_ byteLay.len
      have HL := Lib.hid hl
      have HLA := Lib.hid hlat
      have hrl : (reps k).length = k := reps_len k
      rw [hrl] at *
      clear hblen hc1 hc2 hl hlat hrl hb
      have HCV := Lib.hid CV
      clear CV
      generalize (bytes7 k).length = bl at *
      have hcv := fun (x : Ext Grows wr.drew) => HCV.out x.u ((Grows.drew wr).tr x.h)
      cases high
      · go_wp2_with fail
        refine wp_region_ord Grows [(0, false), (1, false), (2, true), (3, true), (4, false), (5, false), (6, false), (7, false), (8, false), (9, false), (10, false)] Grows.refl Grows.trans (by kernel_rfl) (by kernel_rfl) (fun d _ _ _ _ h => by cases d <;> exact h) ?_
        repeat (refine ord_quiet rfl (fun K hK => ?_); go_simp; first | (refine hK _ ?_; clear hK K) | (apply Exists.intro; refine ⟨fun x => ?_, hK _ ?_⟩; (fail); clear hK K))
        clear hcv
        refine ord_late_w rfl rfl (fun K hK w4 h4 => ?_)
        go_simp
        refine (plain_any w4).mono ?_
        rintro e w5 ⟨rfl, hp5, hg5⟩
        refine ⟨hg5, hK _ _ ?_⟩
        clear hK K
        refine ord_late_w rfl rfl (fun K hK w6 h6 => ?_)
        go_simp
        have hr6 : Grows wr w6 := ((Grows.drew wr).tr h4).tr (hg5.tr h6)
        refine (long_parse k (by omega) (some ⟨w4.heap.size, 0, none⟩) w6 (he.grows (hg.tr hr6)) (hp5.grows h6)).mono ?_
        rintro e w7 ⟨a7, c7, rfl, hat7, hg7⟩
        refine ⟨hg7, hK _ _ ?_⟩
        clear hK K
        repeat (refine ord_quiet rfl (fun K hK => ?_); go_simp; first | (refine hK _ ?_; clear hK K) | (apply Exists.intro; refine ⟨fun x => ?_, hK _ ?_⟩; (fail); clear hK K))
        refine ord_end (fun w8 h8 => ?_)
        have hr8 : Grows wr w8 := (hr6.tr hg7).tr h8
        replace hat7 := hat7.grows h8
        clear h4 hg5 hp5 h6 hr6 hg7 h8
        go_wp2_with fail
        refine (plain_any _).mono ?_
        rintro e w9 ⟨rfl, hp9, hg9⟩
        replace hat7 := hat7.grows hg9
        have hr9 := hr8.tr hg9
        clear hg9 hr8
        go_wp2_with fail
        refine (long_print k (by omega) la lcap _ w9 (he.grows (hg.tr hr9)) (HLA.out.grows hr9) hp9).mono ?_
        rintro e w10 ⟨rfl, hg10⟩
        replace hat7 := hat7.grows hg10
        have hr10 := hr9.tr hg10
        clear hg10 hr9 hp9
        go_wp2_with fail
        refine (long_same k (by omega) a7 la c7 lcap w10 hat7 (HLA.out.grows hr10)).mono ?_
        rintro e w11 ⟨rfl, hg11⟩
        have hr11 := hr10.tr hg11
        clear hg11 hr10 hat7
        have hcv2 := HCV.out w11 hr11
        go_wp2_with fail
        have hcv := fun (x : Ext Grows w11.drew) => HCV.out x.u ((hr11.tr (Grows.drew w11)).tr x.h)
        clear hcv2
        have hbig : ¬ 9223372036854775807 < (mkB (bytes7 k)).size + 13 := by omega
        refine wp_region_ord Grows [(0, false), (1, false), (2, false), (3, false), (4, true), (5, true), (6, false), (7, false), (8, false), (9, false), (10, false), (11, false), (12, false)] Grows.refl Grows.trans (by kernel_rfl) (by kernel_rfl) (fun d _ _ _ _ h => by cases d <;> exact h) ?_
        repeat (refine ord_quiet rfl (fun K hK => ?_); go_simp; first | (refine hK _ ?_; clear hK K) | (apply Exists.intro; refine ⟨fun x => ?_, hK _ ?_⟩; (fail); clear hK K))
        clear hcv hbig
        refine ord_late_w rfl rfl (fun K hK w12 h12 => ?_)
        go_simp
        refine (plain_any w12).mono ?_
        rintro e w13 ⟨rfl, hp13, hg13⟩
        refine ⟨hg13, hK _ _ ?_⟩
        clear hK K
        refine ord_late_w rfl rfl (fun K hK w14 h14 => ?_)
        go_simp
        have hr14 : Grows wr w14 := ((hr11.tr (Grows.drew w11)).tr h12).tr (hg13.tr h14)
        refine (long_more7 k HK.out (some ⟨w12.heap.size, 0, none⟩) w14 (he.grows (hg.tr hr14)) (hp13.grows h14)).mono ?_
        rintro e w15 ⟨a15, c15, rfl, hg15⟩
        refine ⟨hg15, hK _ _ ?_⟩
        clear hK K
        repeat (refine ord_quiet rfl (fun K hK => ?_); go_simp; first | (refine hK _ ?_; clear hK K) | (apply Exists.intro; refine ⟨fun x => ?_, hK _ ?_⟩; (fail); clear hK K))
        refine ord_end (fun w16 h16 => ?_)
        have hr16 : Grows wr w16 := (hr14.tr hg15).tr h16
        clear h12 hg13 hp13 h14 hr14 hg15 h16
        have hl16 := HL.out.grows hr16
        rw [reps_len] at hl16
        have hbs := (hg.tr hr16).size
        go_wp2_with (at_builtin; refine app_one enLay rfl _ _ rfl w.heap.size _ _ enZero rfl hl16 (Grows.refl _) w16.heap.size 1 rfl _ rfl rfl (by rw [reps_len]; omega) hbs ?_; intro v17 w17 hl17 hg17)
        have hr17 := hg17 w (hg.tr hr16) (Nat.le_refl _)
        obtain ⟨a17, c17, rfl, _, _, hat17⟩ := hl17.at_ enCells_len
        have hlen17 : (reps k ++ [enZero]).length = k + 1 := by rw [List.length_append, reps_len]; rfl
        rw [hlen17] at *
        clear hlen17 hl17 hg17 hl16
        go_wp2_with fail
        refine (plain_any _).mono ?_
        rintro e w18 ⟨rfl, hp18, hg18⟩
        have hr18 := hr17.tr hg18
        go_wp2_with fail
        refine (long_print2 k HK.out enZero ⟨by decide, by decide⟩ a17 c17 _ w18 (he.grows hr18) (hat17.grows hg18) hp18).mono ?_
        rintro e w19 ⟨rfl, hg19⟩
        have hr19 := hr18.tr hg19
        go_wp2_with fail
        refine (CW _ hr19).out.mono ?_
        rintro e w20 ⟨rfl, hg20⟩
        go_wp2
        go_ret
        exact ⟨rfl, hr19.tr hg20⟩
      · go_wp2_with fail
        refine wp_region_ord Grows [(0, false), (1, false), (2, true), (3, true), (4, false), (5, false), (6, false), (7, false), (8, false), (9, false), (10, false)] Grows.refl Grows.trans (by kernel_rfl) (by kernel_rfl) (fun d _ _ _ _ h => by cases d <;> exact h) ?_
        repeat (refine ord_quiet rfl (fun K hK => ?_); go_simp; first | (refine hK _ ?_; clear hK K) | (apply Exists.intro; refine ⟨fun x => ?_, hK _ ?_⟩; (fail); clear hK K))
        clear hcv
        refine ord_late_w rfl rfl (fun K hK w4 h4 => ?_)
        go_simp
        refine (plain_any w4).mono ?_
        rintro e w5 ⟨rfl, hp5, hg5⟩
        refine ⟨hg5, hK _ _ ?_⟩
        clear hK K
        refine ord_late_w rfl rfl (fun K hK w6 h6 => ?_)
        go_simp
        have hr6 : Grows wr w6 := ((Grows.drew wr).tr h4).tr (hg5.tr h6)
        refine (long_parse k (by omega) (some ⟨w4.heap.size, 0, none⟩) w6 (he.grows (hg.tr hr6)) (hp5.grows h6)).mono ?_
        rintro e w7 ⟨a7, c7, rfl, hat7, hg7⟩
        refine ⟨hg7, hK _ _ ?_⟩
        clear hK K
        repeat (refine ord_quiet rfl (fun K hK => ?_); go_simp; first | (refine hK _ ?_; clear hK K) | (apply Exists.intro; refine ⟨fun x => ?_, hK _ ?_⟩; (fail); clear hK K))
        refine ord_end (fun w8 h8 => ?_)
        have hr8 : Grows wr w8 := (hr6.tr hg7).tr h8
        replace hat7 := hat7.grows h8
        clear h4 hg5 hp5 h6 hr6 hg7 h8
        go_wp2_with fail
        refine (plain_any _).mono ?_
        rintro e w9 ⟨rfl, hp9, hg9⟩
        replace hat7 := hat7.grows hg9
        have hr9 := hr8.tr hg9
        clear hg9 hr8
        go_wp2_with fail
        refine (long_print k (by omega) la lcap _ w9 (he.grows (hg.tr hr9)) (HLA.out.grows hr9) hp9).mono ?_
        rintro e w10 ⟨rfl, hg10⟩
        replace hat7 := hat7.grows hg10
        have hr10 := hr9.tr hg10
        clear hg10 hr9 hp9
        go_wp2_with fail
        refine (long_same k (by omega) a7 la c7 lcap w10 hat7 (HLA.out.grows hr10)).mono ?_
        rintro e w11 ⟨rfl, hg11⟩
        have hr11 := hr10.tr hg11
        clear hg11 hr10 hat7
        have hcv2 := HCV.out w11 hr11
        go_wp2_with fail
        have hcv := fun (x : Ext Grows w11.drew) => HCV.out x.u ((hr11.tr (Grows.drew w11)).tr x.h)
        clear hcv2
        have hbig : ¬ 9223372036854775807 < (mkB (bytes7 k)).size + 17 := by omega
        refine wp_region_ord Grows [(0, false), (1, false), (2, false), (3, false), (4, true), (5, true), (6, false), (7, false), (8, false), (9, false), (10, false), (11, false), (12, false)] Grows.refl Grows.trans (by kernel_rfl) (by kernel_rfl) (fun d _ _ _ _ h => by cases d <;> exact h) ?_
        repeat (refine ord_quiet rfl (fun K hK => ?_); go_simp; first | (refine hK _ ?_; clear hK K) | (apply Exists.intro; refine ⟨fun x => ?_, hK _ ?_⟩; (fail); clear hK K))
        clear hcv hbig
        refine ord_late_w rfl rfl (fun K hK w12 h12 => ?_)
        go_simp
        refine (plain_any w12).mono ?_
        rintro e w13 ⟨rfl, hp13, hg13⟩
        refine ⟨hg13, hK _ _ ?_⟩
        clear hK K
        refine ord_late_w rfl rfl (fun K hK w14 h14 => ?_)
        go_simp
        have hr14 : Grows wr w14 := ((hr11.tr (Grows.drew w11)).tr h12).tr (hg13.tr h14)
        refine (long_more3 k HK.out (some ⟨w12.heap.size, 0, none⟩) w14 (he.grows (hg.tr hr14)) (hp13.grows h14)).mono ?_
        rintro e w15 ⟨a15, c15, rfl, hg15⟩
        refine ⟨hg15, hK _ _ ?_⟩
        clear hK K
        repeat (refine ord_quiet rfl (fun K hK => ?_); go_simp; first | (refine hK _ ?_; clear hK K) | (apply Exists.intro; refine ⟨fun x => ?_, hK _ ?_⟩; (fail); clear hK K))
        refine ord_end (fun w16 h16 => ?_)
        have hr16 : Grows wr w16 := (hr14.tr hg15).tr h16
        clear h12 hg13 hp13 h14 hr14 hg15 h16
        have hl16 := HL.out.grows hr16
        rw [reps_len] at hl16
        have hbs := (hg.tr hr16).size
        go_wp2_with (at_builtin; refine app_one enLay rfl _ _ rfl w.heap.size _ _ enZero rfl hl16 (Grows.refl _) w16.heap.size 1 rfl _ rfl rfl (by rw [reps_len]; omega) hbs ?_; intro v17 w17 hl17 hg17)
        have hr17 := hg17 w (hg.tr hr16) (Nat.le_refl _)
        obtain ⟨a17, c17, rfl, _, _, hat17⟩ := hl17.at_ enCells_len
        have hlen17 : (reps k ++ [enZero]).length = k + 1 := by rw [List.length_append, reps_len]; rfl
        rw [hlen17] at *
        clear hlen17 hl17 hg17 hl16
        go_wp2_with fail
        refine (plain_any _).mono ?_
        rintro e w18 ⟨rfl, hp18, hg18⟩
        have hr18 := hr17.tr hg18
        go_wp2_with fail
        refine (long_print2 k HK.out enZero ⟨by decide, by decide⟩ a17 c17 _ w18 (he.grows hr18) (hat17.grows hg18) hp18).mono ?_
        rintro e w19 ⟨rfl, hg19⟩
        have hr19 := hr18.tr hg19
        go_wp2_with fail
        refine (CW _ hr19).out.mono ?_
        rintro e w20 ⟨rfl, hg20⟩
        go_wp2
        go_ret
        exact ⟨rfl, hr19.tr hg20⟩
end Go.Proofs.YtfkebhkckcnlpaaGreatDoor
