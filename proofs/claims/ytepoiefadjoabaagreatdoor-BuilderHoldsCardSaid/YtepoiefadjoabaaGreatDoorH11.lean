/- The texts OpenE OpenS Kana Echk Slc, one behind the other. -/
import Derived.Test.YtepoiefadjoabaaGreatDoorH10
import Derived.Test.YtepoiefadjoabaaGreatDoorH3
import Derived.ChangeSame
import Derived.ChangeMaps5
import Derived.Deep.Slices
import Derived.SizedLaws
import Derived.Test.YtepoiefadjoabaaGreatDoorH5
namespace Go.Proofs.YtepoiefadjoabaaGreatDoor
open Go Go.ChangeShapes Go.WideShapes Go.ChangeAt Go.RowKit Go.Shelf Go.Lib
open Go.ChangeMaps (open_string shut_string)
end Go.Proofs.YtepoiefadjoabaaGreatDoor
namespace Go.Proofs.YtepoiefadjoabaaGreatDoor
open Go Go.ChangeShapes Go.WideShapes Go.ChangeAt Go.RowKit Go.Shelf Go.Lib
open Go.ChangeMaps (open_string shut_string)
set_option maxRecDepth 100000 in
theorem dec_entry {H : Type} {enc : TypeId × Value → H} {W : World} {base : Nat} {sp : Nat → Bool} {hd : Bool} (n : Nat) (cs : List Value) (x : DataW H × List MemPlace) (hl : cs.length = 5) (h : DataW.trod enc Tryz.prog W base sp hd n 38 cs = some x) :
  ∃ y : En,cs = enCells y∧EnOK y:=by
 obtain ⟨xs,n,_,hx,_,hlen,hall⟩:=DataW.trod_struct Tryz.underlying38 h
 match cs,hl with
 | [c0,c1,c2,c3,c4],_ =>
  match xs,hlen with
  | [y0,y1,y2,y3,y4],_ =>
   have g0:=hall 0 _ rfl
   have g1:=hall 1 _ rfl
   have g2:=hall 2 _ rfl
   have g3:=hall 3 _ rfl
   have g4:=hall 4 _ rfl
   obtain ⟨s0,k0,_,z0⟩:=DataW.trod_string Tryz.underlying9 g0
   obtain ⟨s1,k1,_,z1⟩:=DataW.trod_string Tryz.underlying9 g1
   obtain ⟨n2,k2,_,z2⟩:=DataW.trod_int Tryz.underlying3 g2
   obtain ⟨n3,k3,_,z3⟩:=DataW.trod_int Tryz.underlying3 g3
   obtain ⟨n4,k4,_,z4⟩:=DataW.trod_int Tryz.underlying3 g4
   refine ⟨⟨s0,s1,n2,n3,n4⟩, ?_,⟨z0,z1,z2,z3,z4⟩⟩
   have e0 : c0 = .string s0:=by injection k0
   have e1 : c1 = .string s1:=by injection k1
   have e2 : c2 = .int .i64 n2:=by injection k2
   have e3 : c3 = .int .i64 n3:=by injection k3
   have e4 : c4 = .int .i64 n4:=by injection k4
   subst e0 e1 e2 e3 e4;rfl
section
variable {H : Type} {enc : TypeId × Value → H} {W : World} {base b0 : Nat} {sp : Nat → Bool} {hd : Bool} {r : Reach} {v : Value} {d : DataW H} {ps : List MemPlace}
end
end Go.Proofs.YtepoiefadjoabaaGreatDoor
namespace Go.Proofs.YtepoiefadjoabaaGreatDoor
open Go Go.RowKit Go.Shelf
attribute [local go_sem] quietE
def countS (s : ByteArray) : Int := if Lib.validD s.data.toList then (Lib.runeCount s : Int) else -1
set_option maxHeartbeats 1000000 in
theorem kcount_any (s : ByteArray) (w : World) (hs : s.size < 9223372036854775807) (he : Env w) :
  Calls Tryz.prog 185 #[.string s] w fun e w' => e = .returned (.int .i64 (countS s))∧Grows w w':=by
 have cV : Calls Tryz.prog 215 #[.string s] w _:=Any.utf8_ValidString Tryz.laysValid s w (by omega) he.utf
 have CV:=Lib.hid cV
 clear cV he
 unfold countS
 generalize Lib.validD s.data.toList = v at CV ⊢
 have HS:=Lib.hid hs
 clear hs
 cases v
 ·go_enter Tryz.func185,Tryz.ntmps185
  go_wp2_with (go_at_call 215;refine CV.out.mono ?_;rintro e w' ⟨rfl,hg⟩)
  go_ret
  exact ⟨rfl,hg⟩
 ·go_enter Tryz.func185,Tryz.ntmps185
  go_wp2_with (first | (go_at_call 215;refine CV.out.mono ?_;rintro e w' ⟨rfl,hg⟩) | (go_at_call 216;refine (Tryz.utf8_RuneCountInString s _ HS.out).mono ?_;rintro e w2 ⟨rfl,pos,rfl⟩))
  go_ret
  exact ⟨rfl,hg.trans (Below.mono (iter_grows _ _ _) hg.size)⟩
def isHira (c : Int) : Bool := decide (12353 ≤ c) && decide (c ≤ 12438)
def ClassPost (c : Int) (w : World) (e : Ending) (w' : World) : Prop := ∃ r : Int, e = .returned (.int .i64 r) ∧ (r = 1 ↔ isHira c = true) ∧ w = w'
set_option maxHeartbeats 4000000 in
theorem class_any (c : Int) (w : World) : Calls Tryz.prog 187 #[.int .i32 c] w (ClassPost c w) := by
 by_cases h1 : 12353 ≤ c
 ·by_cases h2 : c ≤ 12438
  ·go_enter Tryz.func187,Tryz.ntmps187
   go_wp2
   go_ret
   exact ⟨1,rfl,by simp [isHira,h1,h2],rfl⟩
  ·have hN:=Lib.hid (show ∀ r : Int,r ≠ 1 → (r = 1 ↔ isHira c = true) from fun r hr => by simp [isHira,h2,hr])
   go_enter Tryz.func187,Tryz.ntmps187
   go_wp2
   all_goals (go_ret;exact ⟨_,rfl,hN.out _ (by decide),rfl⟩)
 ·have hN:=Lib.hid (show ∀ r : Int,r ≠ 1 → (r = 1 ↔ isHira c = true) from fun r hr => by simp [isHira,h1,hr])
  have h2 : c < 12353:=by omega
  go_enter Tryz.func187,Tryz.ntmps187
  go_wp2
  all_goals (go_ret;exact ⟨_,rfl,hN.out _ (by decide),rfl⟩)
def kanaBad (c : Nat) : Bool := !((c : Int) == 12540) && !isHira c
set_option maxHeartbeats 1000000 in
theorem reading1_any (w : World) : PredAt Tryz.prog 186 #[] encR kanaBad w := fun W x _ => by
 unfold FnGives
 show Calls Tryz.prog 186 #[.int .i32 (x : Int)] W _
 unfold kanaBad
 have con:=Lib.hid (class_any (x : Int) W)
 generalize (x : Int) = c at con ⊢
 by_cases h : c = 12540
 ·subst h
  go_enter Tryz.func186,Tryz.ntmps186
  go_wp2
  go_ret
  exact ⟨rfl,0,rfl⟩
 ·have h1 : (c != 12540) = true:=by simp [h]
  have h2 : (!(c == 12540)) = true:=by simp [h]
  rw [h2,Bool.true_and]
  generalize hh : isHira c = hb at con ⊢
  have HH:=Lib.hid hh
  clear hh h h2
  go_enter Tryz.func186,Tryz.ntmps186
  go_wp2_with (go_at_call 187;refine con.out.mono ?_;rintro e w' ⟨r,rfl,hr,rfl⟩;have HR:=Lib.hid hr;clear hr)
  all_goals (go_ret;refine ⟨ret_bool ?_,0,rfl⟩;have h1:=HR.out;rw [HH.out] at h1;rw [Bool.eq_iff_iff];simp;rw [h1];simp)
def readingS (s : ByteArray) : Bool := decide (1 ≤ countS s) && decide (countS s ≤ 64) && !decide (0 ≤ Lib.idxFunc kanaBad true s)
def surfBad (c : Nat) : Bool := decide ((c : Int) < 32) || (decide (127 ≤ (c : Int)) && decide ((c : Int) ≤ 159))
def surfaceS (s : ByteArray) : Bool := decide (1 ≤ countS s) && decide (countS s ≤ 64) && !decide (0 ≤ Lib.idxFunc surfBad true s)
set_option maxHeartbeats 1000000 in
theorem reading_any (s : ByteArray) (w : World) (hs : s.size < 9223372036854775807) (he : Env w) :
  Calls Tryz.prog 135 #[.string s] w fun e w' => e = .returned (.bool (readingS s))∧Grows w w':=by
 have C1:=Lib.hid (kcount_any s w hs he)
 have C2 : ∀ W,Hid (Calls Tryz.prog 183 _ W _):=fun W => Lib.hid (Tryz.strings_ContainsFunc 186 #[] (enters_of Tryz.func186 (by kernel_rfl) rfl) kanaBad s W (reading1_any W))
 clear hs he
 unfold readingS
 generalize countS s = n at C1 ⊢
 generalize decide (0 ≤ Lib.idxFunc kanaBad true s) = r at C2 ⊢
 by_cases h1 : 1 ≤ n
 ·by_cases h2 : n ≤ 64
  ·go_enter Tryz.func135,Tryz.ntmps135
   go_wp2_with (first | (go_at_call 185;refine C1.out.mono ?_;rintro e w1 ⟨rfl,hg⟩) | (go_at_call 183;refine (C2 _).out.mono ?_;rintro e w2 ⟨rfl,hg2⟩))
   go_ret
   exact ⟨ret_bool (by simp [h1,h2]),hg.tr hg2⟩
  ·go_enter Tryz.func135,Tryz.ntmps135
   go_wp2_with (first | (go_at_call 185;refine C1.out.mono ?_;rintro e w1 ⟨rfl,hg⟩))
   go_ret
   exact ⟨ret_bool (by simp;omega),hg⟩
 ·go_enter Tryz.func135,Tryz.ntmps135
  go_wp2_with (first | (go_at_call 185;refine C1.out.mono ?_;rintro e w1 ⟨rfl,hg⟩))
  go_ret
  exact ⟨ret_bool (by simp;omega),hg⟩
set_option maxHeartbeats 1000000 in
theorem surf1_any (w : World) : PredAt Tryz.prog 188 #[] encR surfBad w := fun W x _ => by
 unfold FnGives
 show Calls Tryz.prog 188 #[.int .i32 (x : Int)] W _
 unfold surfBad
 generalize (x : Int) = c
 go_enter Tryz.func188,Tryz.ntmps188
 go_wp2
 all_goals (go_ret;refine ⟨ret_bool ?_,0,rfl⟩;first | rfl | (rw [Bool.eq_iff_iff];simp;try omega))
set_option maxHeartbeats 1000000 in
theorem isSurface_any (s : ByteArray) (w : World) (hs : s.size < 9223372036854775807) (he : Env w) :
  Calls Tryz.prog 136 #[.string s] w fun e w' => e = .returned (.bool (surfaceS s))∧Grows w w':=by
 have C1:=Lib.hid (kcount_any s w hs he)
 have C2 : ∀ W,Hid (Calls Tryz.prog 183 _ W _):=fun W => Lib.hid (Tryz.strings_ContainsFunc 188 #[] (enters_of Tryz.func188 (by kernel_rfl) rfl) surfBad s W (surf1_any W))
 clear hs he
 unfold surfaceS
 generalize countS s = n at C1 ⊢
 generalize decide (0 ≤ Lib.idxFunc surfBad true s) = r at C2 ⊢
 by_cases h1 : 1 ≤ n
 ·by_cases h2 : n ≤ 64
  ·go_enter Tryz.func136,Tryz.ntmps136
   go_wp2_with (first | (go_at_call 185;refine C1.out.mono ?_;rintro e w1 ⟨rfl,hg⟩) | (go_at_call 183;refine (C2 _).out.mono ?_;rintro e w2 ⟨rfl,hg2⟩))
   go_ret
   exact ⟨ret_bool (by simp [h1,h2]),hg.tr hg2⟩
  ·go_enter Tryz.func136,Tryz.ntmps136
   go_wp2_with (first | (go_at_call 185;refine C1.out.mono ?_;rintro e w1 ⟨rfl,hg⟩))
   go_ret
   exact ⟨ret_bool (by simp;omega),hg⟩
 ·go_enter Tryz.func136,Tryz.ntmps136
  go_wp2_with (first | (go_at_call 185;refine C1.out.mono ?_;rintro e w1 ⟨rfl,hg⟩))
  go_ret
  exact ⟨ret_bool (by simp;omega),hg⟩
end Go.Proofs.YtepoiefadjoabaaGreatDoor
namespace Go.Proofs.YtepoiefadjoabaaGreatDoor
open Go Go.RowKit Go.Shelf
attribute [local go_sem] quietE
def checkS (r s : ByteArray) (l t c n : Int) : Int :=
 if readingS r && surfaceS s then (if l < 0 ∨ n ≤ l ∨ t < 0 ∨ n ≤ t then 150 else if c < 0 ∨ 30000 < c then 6 else 0) else 5
set_option maxHeartbeats 2000000 in
theorem echeck_any (r s : ByteArray) (l t c n : Int) (w : World) (hr : r.size < 9223372036854775807) (hs : s.size < 9223372036854775807) (he : Env w) :
  Calls Tryz.prog 83 #[.agg #[.string r,.string s,.int .i64 l,.int .i64 t,.int .i64 c],.int .i64 n] w fun e w' => e = .returned (.int .i64 (checkS r s l t c n))∧Grows w w':=by
 have C1 : ∀ W,Grows w W → Hid (Calls Tryz.prog 135 _ W _):=fun W hW => Lib.hid (reading_any r W hr (he.grows hW))
 have C2 : ∀ W,Grows w W → Hid (Calls Tryz.prog 136 _ W _):=fun W hW => Lib.hid (isSurface_any s W hs (he.grows hW))
 unfold checkS
 clear hr hs he
 generalize readingS r = br at C1 ⊢
 generalize surfaceS s = bs at C2 ⊢
 cases br
 ·go_enter Tryz.func83,Tryz.ntmps83
  go_wp2_with (first | (go_at_call 135;refine (C1 _ (Grows.alloc _ _)).out.mono ?_;rintro e w1 ⟨rfl,hg⟩))
  go_ret
  exact ⟨rfl,(Grows.alloc _ _).tr hg⟩
 ·cases bs
  ·go_enter Tryz.func83,Tryz.ntmps83
   go_wp2_with (first | (go_at_call 135;refine (C1 _ (Grows.alloc _ _)).out.mono ?_;rintro e w1 ⟨rfl,hg⟩;have hg1:=(Grows.alloc _ _).tr hg;have b1 : w1.cell? ⟨w.heap.size,1,none⟩ = some (.string s):=hg.cell (cell_box _ _ _ _ 1 _ rfl)) | (go_at_call 136;refine (C2 _ hg1).out.mono ?_;rintro e w2 ⟨rfl,hg2⟩))
   go_ret
   exact ⟨rfl,hg1.tr hg2⟩
  ·rw [if_pos (by rfl)]
   go_enter Tryz.func83,Tryz.ntmps83
   go_wp2_with (first | (go_at_call 135;refine (C1 _ (Grows.alloc _ _)).out.mono ?_;rintro e w1 ⟨rfl,hg⟩;have hg1:=(Grows.alloc _ _).tr hg;have b1 : w1.cell? ⟨w.heap.size,1,none⟩ = some (.string s):=hg.cell (cell_box _ _ _ _ 1 _ rfl);have b2 : w1.cell? ⟨w.heap.size,2,none⟩ = some (.int .i64 l):=hg.cell (cell_box _ _ _ _ 2 _ rfl);have b3 : w1.cell? ⟨w.heap.size,3,none⟩ = some (.int .i64 t):=hg.cell (cell_box _ _ _ _ 3 _ rfl);have b4 : w1.cell? ⟨w.heap.size,4,none⟩ = some (.int .i64 c):=hg.cell (cell_box _ _ _ _ 4 _ rfl)) | (go_at_call 136;refine (C2 _ hg1).out.mono ?_;rintro e w2 ⟨rfl,hg2⟩;have d2:=hg2.cell b2;have d3:=hg2.cell b3;have d4:=hg2.cell b4))
   all_goals (go_ret;exact ⟨rfl,hg1.tr hg2⟩)
end Go.Proofs.YtepoiefadjoabaaGreatDoor
namespace Go.Proofs.YtepoiefadjoabaaGreatDoor
open Go Go.RowKit
theorem sliced_at {α : Type} {enc : α → List Value} {k : Nat} {w : World} {a : Option Addr} {xs : List α} {c l h : Nat} (hat : AtCells w a k (xs.map enc)) (hn : a = none → c = 0) (_ : l ≤ h) (hh : h ≤ xs.length) (hc : xs.length ≤ c) :
  ∃ a',sliced a l h c k = .slice a' (h - l) (c - l)∧AtCells w a' k (((xs.take h).drop l).map enc)∧(a' = none → c - l = 0):=by
 unfold sliced
 by_cases hm : c = l
 ·rw [if_pos hm]
  refine ⟨a,rfl, ?_,fun _ => by omega⟩
  have : (xs.take h).drop l = []:=List.drop_eq_nil_of_le (by rw [List.length_take];omega)
  rw [this]
  exact AtCells.nil _ _ _
 ·rw [if_neg hm]
  refine ⟨_,rfl,fun hne => ?_,fun h0 => ?_⟩
  ·have hx : xs.map enc ≠ []:=by
    rintro e
    rw [List.map_eq_nil_iff] at e
    subst e;simp at hne
   obtain ⟨b,off,rfl,hcell⟩:=hat hx
   refine ⟨b,off + l * k,by rw [Option.map_some,add_zero_off],fun i row hi j v hj => ?_⟩
   rw [List.getElem?_map,List.getElem?_drop] at hi
   have h1 : (xs.map enc)[l + i]? = some row:=by
    rw [List.getElem?_map]
    rw [List.getElem?_take] at hi
    split at hi
    ·exact hi
    ·cases hi
   have:=hcell (l + i) row h1 j v hj
   rwa [Nat.add_mul,← Nat.add_assoc] at this
  ·have h1 : a = none:=by cases a with
    | none => rfl
    | some x => simp at h0
   have:=hn h1
   omega
theorem at_take {α : Type} {enc : α → List Value} {k : Nat} {w : World} {a : Option Addr} {xs : List α} (h : AtCells w a k (xs.map enc)) (n : Nat) : AtCells w a k ((xs.take n).map enc) := fun hne => by
 have hx : xs.map enc ≠ []:=by
  rintro e
  rw [List.map_eq_nil_iff] at e
  subst e;simp at hne
 obtain ⟨b,off,ha,hc⟩:=h hx
 refine ⟨b,off,ha,fun i row hi j v hj => hc i row ?_ j v hj⟩
 rw [List.getElem?_map] at hi ⊢
 rw [List.getElem?_take] at hi
 split at hi
 ·exact hi
 ·cases hi
end Go.Proofs.YtepoiefadjoabaaGreatDoor
