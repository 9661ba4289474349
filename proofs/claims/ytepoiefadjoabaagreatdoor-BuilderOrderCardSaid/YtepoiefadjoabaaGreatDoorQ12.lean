/- The texts OpenE OpenS Kana Echk NamedD Slc KanaP RefK, one behind the other. -/
import Derived.Test.YtepoiefadjoabaaGreatDoorQ11
import Derived.Test.YtepoiefadjoabaaGreatDoorQ2
import Derived.ChangeSame
import Derived.ChangeMaps5
import Derived.Deep.Slices
import Derived.SizedLaws
import Derived.Test.YtepoiefadjoabaaGreatDoorQ4
import Derived.Test.YtepoiefadjoabaaGreatDoorQ8
namespace Go.Proofs.YtepoiefadjoabaaGreatDoor
open Go Go.ChangeShapes Go.WideShapes Go.ChangeAt Go.RowKit Go.Shelf Go.Lib
open Go.ChangeMaps (open_string shut_string)
end Go.Proofs.YtepoiefadjoabaaGreatDoor
namespace Go.Proofs.YtepoiefadjoabaaGreatDoor
open Go Go.ChangeShapes Go.WideShapes Go.ChangeAt Go.RowKit Go.Shelf Go.Lib
open Go.ChangeMaps (open_string shut_string)
set_option maxRecDepth 100000 in
theorem dec_entry {H : Type} {enc : TypeId × Value → H} {W : World} {base : Nat} {sp : Nat → Bool} {hd : Bool} (n : Nat) (cs : List Value) (x : DataW H × List MemPlace) (hl : cs.length = 5) (h : DataW.trod enc Tryz.prog W base sp hd n 38 cs = some x) :
  ∃ y : En,cs = enCells y∧EnOK y:=by
 obtain ⟨xs,n,_,hx,_,hlen,hall⟩:=DataW.trod_struct Tryz.underlying38 h
 match cs,hl with
 | [c0,c1,c2,c3,c4],_ =>
  match xs,hlen with
  | [y0,y1,y2,y3,y4],_ =>
   have g0:=hall 0 _ rfl
   have g1:=hall 1 _ rfl
   have g2:=hall 2 _ rfl
   have g3:=hall 3 _ rfl
   have g4:=hall 4 _ rfl
   obtain ⟨s0,k0,_,z0⟩:=DataW.trod_string Tryz.underlying9 g0
   obtain ⟨s1,k1,_,z1⟩:=DataW.trod_string Tryz.underlying9 g1
   obtain ⟨n2,k2,_,z2⟩:=DataW.trod_int Tryz.underlying3 g2
   obtain ⟨n3,k3,_,z3⟩:=DataW.trod_int Tryz.underlying3 g3
   obtain ⟨n4,k4,_,z4⟩:=DataW.trod_int Tryz.underlying3 g4
   refine ⟨⟨s0,s1,n2,n3,n4⟩, ?_,⟨z0,z1,z2,z3,z4⟩⟩
   have e0 : c0 = .string s0:=by injection k0
   have e1 : c1 = .string s1:=by injection k1
   have e2 : c2 = .int .i64 n2:=by injection k2
   have e3 : c3 = .int .i64 n3:=by injection k3
   have e4 : c4 = .int .i64 n4:=by injection k4
   subst e0 e1 e2 e3 e4;rfl
section
variable {H : Type} {enc : TypeId × Value → H} {W : World} {base b0 : Nat} {sp : Nat → Bool} {hd : Bool} {r : Reach} {v : Value} {d : DataW H} {ps : List MemPlace}
end
end Go.Proofs.YtepoiefadjoabaaGreatDoor
namespace Go.Proofs.YtepoiefadjoabaaGreatDoor
open Go Go.RowKit Go.Shelf
attribute [local go_sem] quietE
def countS (s : ByteArray) : Int := if Lib.validD s.data.toList then (Lib.runeCount s : Int) else -1
set_option maxHeartbeats 1000000 in
theorem kcount_any (s : ByteArray) (w : World) (hs : s.size < 9223372036854775807) (he : Env w) :
  Calls Tryz.prog 185 #[.string s] w fun e w' => e = .returned (.int .i64 (countS s))∧Grows w w':=by
 have cV : Calls Tryz.prog 215 #[.string s] w _:=Any.utf8_ValidString Tryz.laysValid s w (by omega) he.utf
 have CV:=Lib.hid cV
 clear cV he
 unfold countS
 generalize Lib.validD s.data.toList = v at CV ⊢
 have HS:=Lib.hid hs
 clear hs
 cases v
 ·go_enter Tryz.func185,Tryz.ntmps185
  go_wp2_with (go_at_call 215;refine CV.out.mono ?_;rintro e w' ⟨rfl,hg⟩)
  go_ret
  exact ⟨rfl,hg⟩
 ·go_enter Tryz.func185,Tryz.ntmps185
  go_wp2_with (first | (go_at_call 215;refine CV.out.mono ?_;rintro e w' ⟨rfl,hg⟩) | (go_at_call 216;refine (Tryz.utf8_RuneCountInString s _ HS.out).mono ?_;rintro e w2 ⟨rfl,pos,rfl⟩))
  go_ret
  exact ⟨rfl,hg.trans (Below.mono (iter_grows _ _ _) hg.size)⟩
def isHira (c : Int) : Bool := decide (12353 ≤ c) && decide (c ≤ 12438)
def ClassPost (c : Int) (w : World) (e : Ending) (w' : World) : Prop := ∃ r : Int, e = .returned (.int .i64 r) ∧ (r = 1 ↔ isHira c = true) ∧ w = w'
set_option maxHeartbeats 4000000 in
theorem class_any (c : Int) (w : World) : Calls Tryz.prog 187 #[.int .i32 c] w (ClassPost c w) := by
 by_cases h1 : 12353 ≤ c
 ·by_cases h2 : c ≤ 12438
  ·go_enter Tryz.func187,Tryz.ntmps187
   go_wp2
   go_ret
   exact ⟨1,rfl,by simp [isHira,h1,h2],rfl⟩
  ·have hN:=Lib.hid (show ∀ r : Int,r ≠ 1 → (r = 1 ↔ isHira c = true) from fun r hr => by simp [isHira,h2,hr])
   go_enter Tryz.func187,Tryz.ntmps187
   go_wp2
   all_goals (go_ret;exact ⟨_,rfl,hN.out _ (by decide),rfl⟩)
 ·have hN:=Lib.hid (show ∀ r : Int,r ≠ 1 → (r = 1 ↔ isHira c = true) from fun r hr => by simp [isHira,h1,hr])
  have h2 : c < 12353:=by omega
  go_enter Tryz.func187,Tryz.ntmps187
  go_wp2
  all_goals (go_ret;exact ⟨_,rfl,hN.out _ (by decide),rfl⟩)
def kanaBad (c : Nat) : Bool := !((c : Int) == 12540) && !isHira c
set_option maxHeartbeats 1000000 in
theorem reading1_any (w : World) : PredAt Tryz.prog 186 #[] encR kanaBad w := fun W x _ => by
 unfold FnGives
 show Calls Tryz.prog 186 #[.int .i32 (x : Int)] W _
 unfold kanaBad
 have con:=Lib.hid (class_any (x : Int) W)
 generalize (x : Int) = c at con ⊢
 by_cases h : c = 12540
 ·subst h
  go_enter Tryz.func186,Tryz.ntmps186
  go_wp2
  go_ret
  exact ⟨rfl,0,rfl⟩
 ·have h1 : (c != 12540) = true:=by simp [h]
  have h2 : (!(c == 12540)) = true:=by simp [h]
  rw [h2,Bool.true_and]
  generalize hh : isHira c = hb at con ⊢
  have HH:=Lib.hid hh
  clear hh h h2
  go_enter Tryz.func186,Tryz.ntmps186
  go_wp2_with (go_at_call 187;refine con.out.mono ?_;rintro e w' ⟨r,rfl,hr,rfl⟩;have HR:=Lib.hid hr;clear hr)
  all_goals (go_ret;refine ⟨ret_bool ?_,0,rfl⟩;have h1:=HR.out;rw [HH.out] at h1;rw [Bool.eq_iff_iff];simp;rw [h1];simp)
def readingS (s : ByteArray) : Bool := decide (1 ≤ countS s) && decide (countS s ≤ 64) && !decide (0 ≤ Lib.idxFunc kanaBad true s)
def surfBad (c : Nat) : Bool := decide ((c : Int) < 32) || (decide (127 ≤ (c : Int)) && decide ((c : Int) ≤ 159))
def surfaceS (s : ByteArray) : Bool := decide (1 ≤ countS s) && decide (countS s ≤ 64) && !decide (0 ≤ Lib.idxFunc surfBad true s)
set_option maxHeartbeats 1000000 in
theorem reading_any (s : ByteArray) (w : World) (hs : s.size < 9223372036854775807) (he : Env w) :
  Calls Tryz.prog 135 #[.string s] w fun e w' => e = .returned (.bool (readingS s))∧Grows w w':=by
 have C1:=Lib.hid (kcount_any s w hs he)
 have C2 : ∀ W,Hid (Calls Tryz.prog 183 _ W _):=fun W => Lib.hid (Tryz.strings_ContainsFunc 186 #[] (enters_of Tryz.func186 (by kernel_rfl) rfl) kanaBad s W (reading1_any W))
 clear hs he
 unfold readingS
 generalize countS s = n at C1 ⊢
 generalize decide (0 ≤ Lib.idxFunc kanaBad true s) = r at C2 ⊢
 by_cases h1 : 1 ≤ n
 ·by_cases h2 : n ≤ 64
  ·go_enter Tryz.func135,Tryz.ntmps135
   go_wp2_with (first | (go_at_call 185;refine C1.out.mono ?_;rintro e w1 ⟨rfl,hg⟩) | (go_at_call 183;refine (C2 _).out.mono ?_;rintro e w2 ⟨rfl,hg2⟩))
   go_ret
   exact ⟨ret_bool (by simp [h1,h2]),hg.tr hg2⟩
  ·go_enter Tryz.func135,Tryz.ntmps135
   go_wp2_with (first | (go_at_call 185;refine C1.out.mono ?_;rintro e w1 ⟨rfl,hg⟩))
   go_ret
   exact ⟨ret_bool (by simp;omega),hg⟩
 ·go_enter Tryz.func135,Tryz.ntmps135
  go_wp2_with (first | (go_at_call 185;refine C1.out.mono ?_;rintro e w1 ⟨rfl,hg⟩))
  go_ret
  exact ⟨ret_bool (by simp;omega),hg⟩
set_option maxHeartbeats 1000000 in
theorem surf1_any (w : World) : PredAt Tryz.prog 188 #[] encR surfBad w := fun W x _ => by
 unfold FnGives
 show Calls Tryz.prog 188 #[.int .i32 (x : Int)] W _
 unfold surfBad
 generalize (x : Int) = c
 go_enter Tryz.func188,Tryz.ntmps188
 go_wp2
 all_goals (go_ret;refine ⟨ret_bool ?_,0,rfl⟩;first | rfl | (rw [Bool.eq_iff_iff];simp;try omega))
set_option maxHeartbeats 1000000 in
theorem isSurface_any (s : ByteArray) (w : World) (hs : s.size < 9223372036854775807) (he : Env w) :
  Calls Tryz.prog 136 #[.string s] w fun e w' => e = .returned (.bool (surfaceS s))∧Grows w w':=by
 have C1:=Lib.hid (kcount_any s w hs he)
 have C2 : ∀ W,Hid (Calls Tryz.prog 183 _ W _):=fun W => Lib.hid (Tryz.strings_ContainsFunc 188 #[] (enters_of Tryz.func188 (by kernel_rfl) rfl) surfBad s W (surf1_any W))
 clear hs he
 unfold surfaceS
 generalize countS s = n at C1 ⊢
 generalize decide (0 ≤ Lib.idxFunc surfBad true s) = r at C2 ⊢
 by_cases h1 : 1 ≤ n
 ·by_cases h2 : n ≤ 64
  ·go_enter Tryz.func136,Tryz.ntmps136
   go_wp2_with (first | (go_at_call 185;refine C1.out.mono ?_;rintro e w1 ⟨rfl,hg⟩) | (go_at_call 183;refine (C2 _).out.mono ?_;rintro e w2 ⟨rfl,hg2⟩))
   go_ret
   exact ⟨ret_bool (by simp [h1,h2]),hg.tr hg2⟩
  ·go_enter Tryz.func136,Tryz.ntmps136
   go_wp2_with (first | (go_at_call 185;refine C1.out.mono ?_;rintro e w1 ⟨rfl,hg⟩))
   go_ret
   exact ⟨ret_bool (by simp;omega),hg⟩
 ·go_enter Tryz.func136,Tryz.ntmps136
  go_wp2_with (first | (go_at_call 185;refine C1.out.mono ?_;rintro e w1 ⟨rfl,hg⟩))
  go_ret
  exact ⟨ret_bool (by simp;omega),hg⟩
end Go.Proofs.YtepoiefadjoabaaGreatDoor
namespace Go.Proofs.YtepoiefadjoabaaGreatDoor
open Go Go.RowKit Go.Shelf
attribute [local go_sem] quietE
def checkS (r s : ByteArray) (l t c n : Int) : Int :=
 if readingS r && surfaceS s then (if l < 0 ∨ n ≤ l ∨ t < 0 ∨ n ≤ t then 150 else if c < 0 ∨ 30000 < c then 6 else 0) else 5
set_option maxHeartbeats 2000000 in
theorem echeck_any (r s : ByteArray) (l t c n : Int) (w : World) (hr : r.size < 9223372036854775807) (hs : s.size < 9223372036854775807) (he : Env w) :
  Calls Tryz.prog 83 #[.agg #[.string r,.string s,.int .i64 l,.int .i64 t,.int .i64 c],.int .i64 n] w fun e w' => e = .returned (.int .i64 (checkS r s l t c n))∧Grows w w':=by
 have C1 : ∀ W,Grows w W → Hid (Calls Tryz.prog 135 _ W _):=fun W hW => Lib.hid (reading_any r W hr (he.grows hW))
 have C2 : ∀ W,Grows w W → Hid (Calls Tryz.prog 136 _ W _):=fun W hW => Lib.hid (isSurface_any s W hs (he.grows hW))
 unfold checkS
 clear hr hs he
 generalize readingS r = br at C1 ⊢
 generalize surfaceS s = bs at C2 ⊢
 cases br
 ·go_enter Tryz.func83,Tryz.ntmps83
  go_wp2_with (first | (go_at_call 135;refine (C1 _ (Grows.alloc _ _)).out.mono ?_;rintro e w1 ⟨rfl,hg⟩))
  go_ret
  exact ⟨rfl,(Grows.alloc _ _).tr hg⟩
 ·cases bs
  ·go_enter Tryz.func83,Tryz.ntmps83
   go_wp2_with (first | (go_at_call 135;refine (C1 _ (Grows.alloc _ _)).out.mono ?_;rintro e w1 ⟨rfl,hg⟩;have hg1:=(Grows.alloc _ _).tr hg;have b1 : w1.cell? ⟨w.heap.size,1,none⟩ = some (.string s):=hg.cell (cell_box _ _ _ _ 1 _ rfl)) | (go_at_call 136;refine (C2 _ hg1).out.mono ?_;rintro e w2 ⟨rfl,hg2⟩))
   go_ret
   exact ⟨rfl,hg1.tr hg2⟩
  ·rw [if_pos (by rfl)]
   go_enter Tryz.func83,Tryz.ntmps83
   go_wp2_with (first | (go_at_call 135;refine (C1 _ (Grows.alloc _ _)).out.mono ?_;rintro e w1 ⟨rfl,hg⟩;have hg1:=(Grows.alloc _ _).tr hg;have b1 : w1.cell? ⟨w.heap.size,1,none⟩ = some (.string s):=hg.cell (cell_box _ _ _ _ 1 _ rfl);have b2 : w1.cell? ⟨w.heap.size,2,none⟩ = some (.int .i64 l):=hg.cell (cell_box _ _ _ _ 2 _ rfl);have b3 : w1.cell? ⟨w.heap.size,3,none⟩ = some (.int .i64 t):=hg.cell (cell_box _ _ _ _ 3 _ rfl);have b4 : w1.cell? ⟨w.heap.size,4,none⟩ = some (.int .i64 c):=hg.cell (cell_box _ _ _ _ 4 _ rfl)) | (go_at_call 136;refine (C2 _ hg1).out.mono ?_;rintro e w2 ⟨rfl,hg2⟩;have d2:=hg2.cell b2;have d3:=hg2.cell b3;have d4:=hg2.cell b4))
   all_goals (go_ret;exact ⟨rfl,hg1.tr hg2⟩)
end Go.Proofs.YtepoiefadjoabaaGreatDoor
namespace Go.Proofs.YtepoiefadjoabaaGreatDoor
open Go
theorem namedS_D (s : ByteArray) : namedS s = (!s.toList.isEmpty && decide (s.size ≤ 16) && !(runesD s.data.toList).any nameBad) := by
 unfold namedS;rw [idx_D]
end Go.Proofs.YtepoiefadjoabaaGreatDoor
namespace Go.Proofs.YtepoiefadjoabaaGreatDoor
open Go Go.RowKit
theorem sliced_at {α : Type} {enc : α → List Value} {k : Nat} {w : World} {a : Option Addr} {xs : List α} {c l h : Nat} (hat : AtCells w a k (xs.map enc)) (hn : a = none → c = 0) (_ : l ≤ h) (hh : h ≤ xs.length) (hc : xs.length ≤ c) :
  ∃ a',sliced a l h c k = .slice a' (h - l) (c - l)∧AtCells w a' k (((xs.take h).drop l).map enc)∧(a' = none → c - l = 0):=by
 unfold sliced
 by_cases hm : c = l
 ·rw [if_pos hm]
  refine ⟨a,rfl, ?_,fun _ => by omega⟩
  have : (xs.take h).drop l = []:=List.drop_eq_nil_of_le (by rw [List.length_take];omega)
  rw [this]
  exact AtCells.nil _ _ _
 ·rw [if_neg hm]
  refine ⟨_,rfl,fun hne => ?_,fun h0 => ?_⟩
  ·have hx : xs.map enc ≠ []:=by
    rintro e
    rw [List.map_eq_nil_iff] at e
    subst e;simp at hne
   obtain ⟨b,off,rfl,hcell⟩:=hat hx
   refine ⟨b,off + l * k,by rw [Option.map_some,add_zero_off],fun i row hi j v hj => ?_⟩
   rw [List.getElem?_map,List.getElem?_drop] at hi
   have h1 : (xs.map enc)[l + i]? = some row:=by
    rw [List.getElem?_map]
    rw [List.getElem?_take] at hi
    split at hi
    ·exact hi
    ·cases hi
   have:=hcell (l + i) row h1 j v hj
   rwa [Nat.add_mul,← Nat.add_assoc] at this
  ·have h1 : a = none:=by cases a with
    | none => rfl
    | some x => simp at h0
   have:=hn h1
   omega
theorem at_take {α : Type} {enc : α → List Value} {k : Nat} {w : World} {a : Option Addr} {xs : List α} (h : AtCells w a k (xs.map enc)) (n : Nat) : AtCells w a k ((xs.take n).map enc) := fun hne => by
 have hx : xs.map enc ≠ []:=by
  rintro e
  rw [List.map_eq_nil_iff] at e
  subst e;simp at hne
 obtain ⟨b,off,ha,hc⟩:=h hx
 refine ⟨b,off,ha,fun i row hi j v hj => hc i row ?_ j v hj⟩
 rw [List.getElem?_map] at hi ⊢
 rw [List.getElem?_take] at hi
 split at hi
 ·exact hi
 ·cases hi
end Go.Proofs.YtepoiefadjoabaaGreatDoor
namespace Go.Proofs.YtepoiefadjoabaaGreatDoor
open Go
theorem readingS_D (s : ByteArray) : readingS s = (Lib.validD s.data.toList && decide (1 ≤ (runesD s.data.toList).length) && decide ((runesD s.data.toList).length ≤ 64) && !(runesD s.data.toList).any kanaBad) := by
 unfold readingS countS
 rw [idx_D,runeCount_D]
 cases Lib.validD s.data.toList
 ·simp
 ·simp only [if_true,Bool.true_and]
  congr 2
  ·rw [Bool.eq_iff_iff];simp only [decide_eq_true_eq];omega
  ·rw [Bool.eq_iff_iff];simp only [decide_eq_true_eq];omega
theorem surfaceS_D (s : ByteArray) : surfaceS s = (Lib.validD s.data.toList && decide (1 ≤ (runesD s.data.toList).length) && decide ((runesD s.data.toList).length ≤ 64) && !(runesD s.data.toList).any surfBad) := by
 unfold surfaceS countS
 rw [idx_D,runeCount_D]
 cases Lib.validD s.data.toList
 ·simp
 ·simp only [if_true,Bool.true_and]
  congr 2
  ·rw [Bool.eq_iff_iff];simp only [decide_eq_true_eq];omega
  ·rw [Bool.eq_iff_iff];simp only [decide_eq_true_eq];omega
end Go.Proofs.YtepoiefadjoabaaGreatDoor
namespace Go.Proofs.YtepoiefadjoabaaGreatDoor
open Go Go.RowKit
attribute [local go_sem] quietE
theorem between_any (c l h : Int) (w : World) :
  Calls Tryz.prog 211 #[.int .i32 c,.int .i32 l,.int .i32 h] w fun e w' => e = .returned (.bool (decide (l ≤ c) && decide (c ≤ h)))∧w = w':=by
 go_enter Tryz.func211,Tryz.ntmps211
 go_wp2
 all_goals (go_ret;refine ⟨ret_bool ?_,rfl⟩;rw [Bool.eq_iff_iff];simp;try omega)
set_option maxHeartbeats 4000000 in
theorem class2_any (c : Int) (w : World) : Calls Tryz.prog 174 #[.int .i32 c] w (ClassPost c w) := by
 cases h : isHira c
 ·have hN:=Lib.hid (show ∀ r : Int,r ≠ 1 → (r = 1 ↔ isHira c = true) from fun r hr => by simp [h,hr])
  have HB:=between_any c 12353 12438 w
  have hb : (decide ((12353 : Int) ≤ c) && decide (c ≤ 12438)) = false:=h
  rw [hb] at HB
  have HB2:=Lib.hid HB
  clear hb h HB
  go_enter Tryz.func174,Tryz.ntmps174
  go_wp2_with fail
  refine HB2.out.mono ?_
  rintro e w1 ⟨rfl,rfl⟩
  go_wp2_with (first | (go_at_call 211;refine (between_any _ _ _ _).mono ?_;rintro e w1 ⟨rfl,rfl⟩))
  all_goals (go_ret;exact ⟨_,rfl,hN.out _ (by decide),rfl⟩)
 ·have HB:=between_any c 12353 12438 w
  have hb : (decide ((12353 : Int) ≤ c) && decide (c ≤ 12438)) = true:=h
  rw [hb] at HB
  have HB2:=Lib.hid HB
  have HH:=Lib.hid h
  clear hb h HB
  go_enter Tryz.func174,Tryz.ntmps174
  go_wp2_with fail
  refine HB2.out.mono ?_
  rintro e w1 ⟨rfl,rfl⟩
  go_wp2
  go_ret
  exact ⟨1,rfl,by simp [HH.out],rfl⟩
theorem any_drop {p : Nat → Bool} {l : List Nat} {k c : Nat} (h : l[k]? = some c) : (l.drop k).any p = (p c || (l.drop (k + 1)).any p) := by
 have hlt:=(List.getElem?_eq_some_iff.1 h).1
 rw [List.drop_eq_getElem_cons hlt,List.any_cons,(List.getElem?_eq_some_iff.1 h).2]
set_option maxHeartbeats 2000000 in
set_option maxRecDepth 100000 in
theorem reading2_any (s : ByteArray) (w : World) (hs : s.size ≤ 35184372088832) :
  Calls Tryz.prog 117 #[.string s] w fun e w' => e = .returned (.bool (readingS s))∧Grows w w':=by
 have HR:=Lib.hid (runes_any s w hs)
 have hlen:=runesD_len s.data.toList
 rw [← Lib.size_eq] at hlen
 rw [readingS_D]
 unfold RunesPost at HR
 generalize Lib.validD s.data.toList = v at *
 generalize runesD s.data.toList = rs at *
 cases v
 ·go_enter Tryz.func117,Tryz.ntmps117
  go_wp2_with (first | (go_at_call 173;refine HR.out.mono ?_;rintro e w1 ⟨a,c,rfl,hat,hg1⟩))
  go_ret
  exact ⟨rfl,hg1⟩
 ·simp only [if_true] at HR
  by_cases h1 : 1 ≤ rs.length
  ·by_cases h2 : rs.length ≤ 64
   ·have g1 : ¬ (rs.length : Int) < 1:=by omega
    have g2 : ¬ (64 : Int) < rs.length:=by omega
    have e1 : (decide (1 ≤ rs.length)) = true:=by simpa using h1
    have e2 : (decide (rs.length ≤ 64)) = true:=by simpa using h2
    rw [e1,e2]
    clear e1 e2 h1 h2
    go_enter Tryz.func117,Tryz.ntmps117
    go_wp2_with (first | (go_at_call 173;refine HR.out.mono ?_;rintro e w1 ⟨a,c,rfl,hat,hg1⟩))
    go_loopw [5] (fun i wr => ∃ k : Nat,k ≤ rs.length∧i = .int .i64 k∧Hid (rs.any kanaBad = (rs.drop k).any kanaBad)∧Grows w1 wr) (fun i _ => rs.length - (intOf i).toNat)
    case atStart => exact ⟨0,Nat.zero_le _,rfl,rfl,Grows.refl _⟩
    case round =>
     obtain ⟨k,hk,rfl,hinv,hg⟩:=hrel
     by_cases hlt : k < rs.length
     ·obtain ⟨x,hx⟩ : ∃ x,rs[k]? = some x:=⟨_,List.getElem?_eq_getElem hlt⟩
      obtain ⟨ba,oa,rfl,hca⟩:=(hat.grows hg).get (ne_nil_of_lt hlt)
      have c0 : wr.cell? ⟨ba,oa + k,none⟩ = some (.int .i32 x):=by simpa using hca k _ hx 0 _ rfl
      have hi:=hinv.out
      rw [any_drop hx] at hi
      have HI:=Lib.hid hi
      clear hinv hi hca hx
      by_cases h12540 : (x : Int) = 12540
      ·have hkb : kanaBad x = false:=by unfold kanaBad;simp [h12540]
       have hi2 : rs.any kanaBad = (rs.drop (k + 1)).any kanaBad:=by rw [HI.out,hkb];rfl
       have HI2:=Lib.hid hi2
       have hne : ((x : Int) != 12540) = false:=by simp [h12540]
       clear HI hkb hi2 h12540
       go_wp2_with (first | (go_at_call 174;refine (class2_any _ _).mono ?_;rintro e w2 ⟨r,rfl,hr,rfl⟩;clear hr))
       all_goals
        go_roundw
        case rel => exact ⟨k + 1,hlt,by go_num,HI2.out,hg⟩
        case measure => simp [intOf];omega
      ·have hne : ((x : Int) != 12540) = true:=by simp [h12540]
       have hkb : kanaBad x = !isHira x:=by unfold kanaBad;simp [h12540]
       cases hh : isHira x
       ·have hi2 : rs.any kanaBad = true:=by rw [HI.out,hkb,hh];rfl
        have HI2:=Lib.hid hi2
        have HH:=Lib.hid hh
        clear HI hkb hi2 h12540 hh
        go_wp2_with (first | (go_at_call 174;refine (class2_any _ _).mono ?_;rintro e w2 ⟨r,rfl,hr,rfl⟩;have hr1 : (r != 1) = true:=(by rw [HH.out] at hr;simpa using hr);clear hr))
        go_ret
        exact ⟨ret_bool (by rw [HI2.out];rfl),hg1.tr hg⟩
       ·have hi2 : rs.any kanaBad = (rs.drop (k + 1)).any kanaBad:=by rw [HI.out,hkb,hh];rfl
        have HI2:=Lib.hid hi2
        have HH:=Lib.hid hh
        clear HI hkb hi2 h12540 hh
        go_wp2_with (first | (go_at_call 174;refine (class2_any _ _).mono ?_;rintro e w2 ⟨r,rfl,hr,rfl⟩;have hr1 : (r != 1) = false:=(by rw [HH.out] at hr;simpa using hr);clear hr))
        go_roundw
        case rel => exact ⟨k + 1,hlt,by go_num,HI2.out,hg⟩
        case measure => simp [intOf];omega
     ·obtain rfl : k = rs.length:=by omega
      have hi2 : rs.any kanaBad = false:=by rw [hinv.out,List.drop_length];rfl
      have HI2:=Lib.hid hi2
      clear hinv hi2 hat
      go_wp2
      go_ret
      exact ⟨ret_bool (by rw [HI2.out];rfl),hg1.tr hg⟩
   ·have g1 : ¬ (rs.length : Int) < 1:=by omega
    have g2 : (64 : Int) < rs.length:=by omega
    have e2 : (decide (rs.length ≤ 64)) = false:=by simpa using h2
    rw [e2]
    clear e2 h2 h1
    go_enter Tryz.func117,Tryz.ntmps117
    go_wp2_with (first | (go_at_call 173;refine HR.out.mono ?_;rintro e w1 ⟨a,c,rfl,hat,hg1⟩))
    go_ret
    exact ⟨ret_bool (by simp),hg1⟩
  ·have g1 : (rs.length : Int) < 1:=by omega
   have e1 : (decide (1 ≤ rs.length)) = false:=by simpa using h1
   rw [e1]
   clear e1 h1
   go_enter Tryz.func117,Tryz.ntmps117
   go_wp2_with (first | (go_at_call 173;refine HR.out.mono ?_;rintro e w1 ⟨a,c,rfl,hat,hg1⟩))
   go_ret
   exact ⟨ret_bool (by simp),hg1⟩
set_option maxHeartbeats 2000000 in
set_option maxRecDepth 100000 in
theorem surface2_any (s : ByteArray) (w : World) (hs : s.size ≤ 35184372088832) :
  Calls Tryz.prog 118 #[.string s] w fun e w' => e = .returned (.bool (surfaceS s))∧Grows w w':=by
 have HR:=Lib.hid (runes_any s w hs)
 have hlen:=runesD_len s.data.toList
 rw [← Lib.size_eq] at hlen
 rw [surfaceS_D]
 unfold RunesPost at HR
 have hq : ∃ L : List Nat,L.length ≤ s.size∧(Lib.validD s.data.toList = true → L = runesD s.data.toList)∧Hid (Calls Tryz.prog 173 #[.string s] w fun e w' => ∃ a cap,e = .returned (.tuple #[.slice a L.length cap,.bool (Lib.validD s.data.toList)])∧AtCells w' a 1 (L.map runeC)∧Grows w w')∧(Lib.validD s.data.toList = false → L = []):=by
  cases hv : Lib.validD s.data.toList
  ·exact ⟨[],Nat.zero_le _,(fun h => by cases h),by rw [hv] at HR;exact HR,fun _ => rfl⟩
  ·exact ⟨runesD s.data.toList,hlen,fun _ => rfl,by rw [hv] at HR;exact HR,(fun h => by cases h)⟩
 obtain ⟨rs,hl2,hL,HR2,hL2⟩:=hq
 have hres : (Lib.validD s.data.toList && decide (1 ≤ (runesD s.data.toList).length) && decide ((runesD s.data.toList).length ≤ 64) && !(runesD s.data.toList).any surfBad) = (Lib.validD s.data.toList && decide (1 ≤ rs.length) && decide (rs.length ≤ 64) && !rs.any surfBad):=by
  cases hv : Lib.validD s.data.toList
  ·rfl
  ·rw [hL hv]
 rw [hres]
 clear HR hlen hres
 generalize Lib.validD s.data.toList = v at *
 have HL2:=Lib.hid hL2
 clear hL hL2
 go_enter Tryz.func118,Tryz.ntmps118
 go_wp2_with (first | (go_at_call 173;refine HR2.out.mono ?_;rintro e w1 ⟨a,c,rfl,hat,hg1⟩))
 go_loopw [5] (fun i wr => ∃ k : Nat,k ≤ rs.length∧i = .int .i64 k∧Hid (rs.any surfBad = (rs.drop k).any surfBad)∧Grows w1 wr) (fun i _ => rs.length - (intOf i).toNat)
 case atStart => exact ⟨0,Nat.zero_le _,rfl,rfl,Grows.refl _⟩
 case round =>
  obtain ⟨k,hk,rfl,hinv,hg⟩:=hrel
  by_cases hlt : k < rs.length
  ·obtain ⟨x,hx⟩ : ∃ x,rs[k]? = some x:=⟨_,List.getElem?_eq_getElem hlt⟩
   obtain ⟨ba,oa,rfl,hca⟩:=(hat.grows hg).get (ne_nil_of_lt hlt)
   have c0 : wr.cell? ⟨ba,oa + k,none⟩ = some (.int .i32 x):=by simpa using hca k _ hx 0 _ rfl
   have hi:=hinv.out
   rw [any_drop hx] at hi
   have HI:=Lib.hid hi
   clear hinv hi hca hx
   cases hh : surfBad x
   ·have hi2 : rs.any surfBad = (rs.drop (k + 1)).any surfBad:=by rw [HI.out,hh];rfl
    have HI2:=Lib.hid hi2
    have q1 : ¬ (x : Int) < 32:=by unfold surfBad at hh;simp at hh;omega
    have q2 : (x : Int) < 127 ∨ 160 ≤ (x : Int):=by unfold surfBad at hh;simp at hh;omega
    clear HI hi2 hh
    rcases q2 with q2 | q2
    ·have q3 : ¬ 127 ≤ (x : Int):=by omega
     go_wp2
     go_roundw
     case rel => exact ⟨k + 1,hlt,by go_num,HI2.out,hg⟩
     case measure => simp [intOf];omega
    ·have q3 : 127 ≤ (x : Int):=by omega
     have q4 : ¬ (x : Int) < 160:=by omega
     go_wp2
     go_roundw
     case rel => exact ⟨k + 1,hlt,by go_num,HI2.out,hg⟩
     case measure => simp [intOf];omega
   ·have hi2 : rs.any surfBad = true:=by rw [HI.out,hh];rfl
    have HI2:=Lib.hid hi2
    have q2 : (x : Int) < 32 ∨ (¬ (x : Int) < 32∧127 ≤ (x : Int)∧(x : Int) < 160):=by unfold surfBad at hh;simp at hh;omega
    clear HI hi2 hh
    rcases q2 with q2 | ⟨q2,q3,q4⟩
    ·go_wp2
     go_ret
     exact ⟨ret_bool (by rw [HI2.out];simp),hg1.tr hg⟩
    ·go_wp2
     go_ret
     exact ⟨ret_bool (by rw [HI2.out];simp),hg1.tr hg⟩
  ·obtain rfl : k = rs.length:=by omega
   have hi2 : rs.any surfBad = false:=by rw [hinv.out,List.drop_length];rfl
   have HI2:=Lib.hid hi2
   clear hinv hi2 hat
   cases v
   ·go_wp2
    go_ret
    exact ⟨rfl,hg1.tr hg⟩
   ·by_cases h1 : 1 ≤ rs.length
    ·have g1 : (1 : Int) ≤ rs.length:=by omega
     go_wp2
     go_ret
     exact ⟨ret_bool (by rw [HI2.out,Bool.eq_iff_iff];simp;omega),hg1.tr hg⟩
    ·have g1 : ¬ (1 : Int) ≤ rs.length:=by omega
     go_wp2
     go_ret
     exact ⟨ret_bool (by first | rfl | (simp;omega) | (rw [HI2.out,Bool.eq_iff_iff];simp;omega)),hg1.tr hg⟩
set_option maxHeartbeats 2000000 in
set_option maxRecDepth 100000 in
theorem rcheck_any (r s : ByteArray) (l t c n : Int) (w : World) (hr : r.size ≤ 35184372088832) (hs : s.size ≤ 35184372088832) :
  Calls Tryz.prog 71 #[.agg #[.string r,.string s,.int .i64 l,.int .i64 t,.int .i64 c],.int .i64 n] w fun e w' => e = .returned (.int .i64 (checkS r s l t c n))∧Grows w w':=by
 have C1 : ∀ W,Hid (Calls Tryz.prog 117 _ W _):=fun W => Lib.hid (reading2_any r W hr)
 have C2 : ∀ W,Hid (Calls Tryz.prog 118 _ W _):=fun W => Lib.hid (surface2_any s W hs)
 unfold checkS
 generalize readingS r = br at C1 ⊢
 generalize surfaceS s = bs at C2 ⊢
 have box : ∀ {W : World},Grows (w.alloc (.cells #[.string r,.string s,.int .i64 l,.int .i64 t,.int .i64 c] 38)) W → W.cell? ⟨w.heap.size,1,none⟩ = some (.string s)∧W.cell? ⟨w.heap.size,2,none⟩ = some (.int .i64 l)∧W.cell? ⟨w.heap.size,3,none⟩ = some (.int .i64 t)∧W.cell? ⟨w.heap.size,4,none⟩ = some (.int .i64 c):=fun hg =>
  ⟨(box_in hg rfl) 1 _ rfl,(box_in hg rfl) 2 _ rfl,(box_in hg rfl) 3 _ rfl,(box_in hg rfl) 4 _ rfl⟩
 have BOX : Hid (∀ {W : World},Grows (w.alloc (.cells #[.string r,.string s,.int .i64 l,.int .i64 t,.int .i64 c] 38)) W → W.cell? ⟨w.heap.size,1,none⟩ = some (.string s)∧W.cell? ⟨w.heap.size,2,none⟩ = some (.int .i64 l)∧W.cell? ⟨w.heap.size,3,none⟩ = some (.int .i64 t)∧W.cell? ⟨w.heap.size,4,none⟩ = some (.int .i64 c)):=@box
 clear box
 cases br
 ·go_enter Tryz.func71,Tryz.ntmps71
  go_wp2_with (first | (go_at_call 117;refine (C1 _).out.mono ?_;rintro e w1 ⟨rfl,hg1⟩))
  go_ret
  exact ⟨rfl,(Grows.alloc _ _).tr hg1⟩
 ·cases bs
  ·go_enter Tryz.func71,Tryz.ntmps71
   go_wp2_with (first | (go_at_call 117;refine (C1 _).out.mono ?_;rintro e w1 ⟨rfl,hg1⟩;obtain ⟨k1,k2,k3,k4⟩:=BOX.out hg1) | (go_at_call 118;refine (C2 _).out.mono ?_;rintro e w2 ⟨rfl,hg2⟩))
   go_ret
   exact ⟨rfl,((Grows.alloc _ _).tr hg1).tr hg2⟩
  ·go_enter Tryz.func71,Tryz.ntmps71
   go_wp2_with (first | (go_at_call 117;refine (C1 _).out.mono ?_;rintro e w1 ⟨rfl,hg1⟩;obtain ⟨k1,k2,k3,k4⟩:=BOX.out hg1) | (go_at_call 118;refine (C2 _).out.mono ?_;rintro e w2 ⟨rfl,hg2⟩;replace k1:=hg2.cell k1;replace k2:=hg2.cell k2;replace k3:=hg2.cell k3;replace k4:=hg2.cell k4))
   all_goals (go_ret;refine ⟨ret_int ?_,((Grows.alloc _ _).tr hg1).tr hg2⟩;first | rfl | (simp only [Bool.and_self,if_true];done) | (simp only [Bool.and_self,if_true];(repeat' split) <;> first | rfl | (exfalso;omega)))
end Go.Proofs.YtepoiefadjoabaaGreatDoor
