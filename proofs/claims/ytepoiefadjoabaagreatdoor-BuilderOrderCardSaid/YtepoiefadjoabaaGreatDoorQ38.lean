/- The texts RefV W14P W15 PosE W14, one behind the other. -/
import Derived.Test.YtepoiefadjoabaaGreatDoorQ4
import Derived.Test.YtepoiefadjoabaaGreatDoorQ12
import Derived.Test.YtepoiefadjoabaaGreatDoorQ37
import Derived.Test.YtepoiefadjoabaaGreatDoorQ23
import Derived.Test.YtepoiefadjoabaaGreatDoorQ6
import Derived.Test.YtepoiefadjoabaaGreatDoorQ21
import Derived.Test.YtepoiefadjoabaaGreatDoorQ26
namespace Go.Proofs.YtepoiefadjoabaaGreatDoor
open Go Go.RowKit
attribute [local go_sem] quietE
theorem great_rune : ∀ (n : Nat) (l : List UInt8), l.length ≤ n → (∃ b ∈ l, 128 ≤ b.toNat) → ∃ c ∈ runesD l, 128 ≤ c
 | 0,l,hl,⟨b,hb,_⟩ => by
  have : l = []:=List.eq_nil_of_length_eq_zero (by omega)
  subst this;cases hb
 | n + 1,l,hl,⟨b,hb,hge⟩ => by
  cases l with
  | nil => cases hb
  | cons x r =>
   rw [runesD_step _ (by simp)]
   by_cases hx : x.toNat < 128
   ·rw [Lib.decodeL_ascii x r hx]
    rcases List.mem_cons.1 hb with rfl | hb
    ·omega
    ·obtain ⟨c,hc,hcg⟩:=great_rune n r (by simp at hl;omega) ⟨b,hb,hge⟩
     exact ⟨c,List.mem_cons_of_mem _ hc,hcg⟩
   ·refine ⟨_,List.mem_cons_self, ?_⟩
    by_cases hbad : (Lib.decodeL (x :: r)).1 = 65533∧(Lib.decodeL (x :: r)).2 = 1
    ·rw [hbad.1];decide
    ·have hs:=decodeN_small (x :: r).length ((x :: r).getD 0 0).toNat ((x :: r).getD 1 0).toNat ((x :: r).getD 2 0).toNat ((x :: r).getD 3 0).toNat (UInt8.toNat_lt _) (UInt8.toNat_lt _) (UInt8.toNat_lt _) (by rw [← Lib.decodeL_N];exact hbad)
     rw [← Lib.decodeL_N] at hs
     rcases hs with ⟨h,_⟩ | ⟨_,_,_,_,_,_,h⟩
     ·exact absurd h (by simpa using hx)
     ·exact h
theorem small_runes : ∀ (n : Nat) (l : List UInt8), l.length ≤ n → (∀ b ∈ l, b.toNat < 128) → runesD l = l.map (·.toNat)
 | 0,l,hl,_ => by
  have : l = []:=List.eq_nil_of_length_eq_zero (by omega)
  subst this;rfl
 | n + 1,l,hl,h => by
  cases l with
  | nil => rfl
  | cons x r =>
   rw [runesD_step _ (by simp),Lib.decodeL_ascii x r (h x (by simp)),List.map_cons]
   simp only [List.drop_succ_cons,List.drop_zero]
   rw [small_runes n r (by simp at hl;omega) (fun b hb => h b (by simp [hb]))]
theorem nameBad_great {c : Nat} (h : 128 ≤ c) : nameBad c = true := by unfold nameBad; simp; omega
theorem name_bytes (l : List UInt8) : (runesD l).any nameBad = l.any fun b => nameBad b.toNat := by
 by_cases h : ∃ b ∈ l,128 ≤ b.toNat
 ·obtain ⟨c,hc,hg⟩:=great_rune _ l (Nat.le_refl _) h
  obtain ⟨b,hb,hbg⟩:=h
  rw [List.any_eq_true.2 ⟨c,hc,nameBad_great hg⟩,List.any_eq_true.2 ⟨b,hb,nameBad_great hbg⟩]
 ·rw [small_runes _ l (Nat.le_refl _) (fun b hb => by
   rcases Nat.lt_or_ge b.toNat 128 with h1 | h1
   ·exact h1
   ·exact absurd ⟨b,hb,h1⟩ h),List.any_map]
  rfl
theorem namedS_bytes (s : ByteArray) : namedS s = (decide (1 ≤ s.size) && decide (s.size ≤ 16) && !(s.data.toList.any fun b => nameBad b.toNat)) := by
 rw [namedS_D,name_bytes]
 congr 2
 rw [Lib.toList_data,Lib.size_eq]
 cases s.data.toList <;> simp
theorem any_byte {p : UInt8 → Bool} {s : ByteArray} {k : Nat} (h : k < s.size) : (s.data.toList.drop k).any p = (p s[k] || (s.data.toList.drop (k + 1)).any p) := by
 rw [drop_step h,List.any_cons]
set_option maxHeartbeats 4000000 in
set_option maxRecDepth 100000 in
theorem name2_any (s : ByteArray) (w : World) (hs : s.size ≤ 9223372036854775807) :
  Calls Tryz.prog 56 #[.string s] w fun e w' => e = .returned (.bool (namedS s))∧w = w':=by
 rw [namedS_bytes]
 obtain ⟨b,hbb⟩ : ∃ b,b = s.data.toList.any fun b => nameBad b.toNat:=⟨_,rfl⟩
 rw [← hbb]
 have HBB:=Lib.hid hbb
 clear hbb
 go_enter Tryz.func56,Tryz.ntmps56
 go_wp2_with fail
 go_loop [3] (fun i => ∃ k : Nat,k ≤ s.size∧i = .int .i64 k∧Hid (b = (s.data.toList.drop k).any fun b => nameBad b.toNat)) (fun i => s.size - (intOf i).toNat)
 case atStart => exact ⟨0,Nat.zero_le _,rfl,HBB.out⟩
 case round =>
  obtain ⟨k,hk,rfl,hinv⟩:=hrel
  by_cases hlt : k < s.size
  ·have hi:=hinv.out
   rw [any_byte hlt] at hi
   have HI:=Lib.hid hi
   clear hinv hi
   cases hh : nameBad s[k].toNat
   ·have hi2 : b = (s.data.toList.drop (k + 1)).any fun b => nameBad b.toNat:=by rw [HI.out,hh];rfl
    have HI2:=Lib.hid hi2
    have q : (65 ≤ (s[k].toNat : Int)∧(s[k].toNat : Int) ≤ 90) ∨ (¬ (s[k].toNat : Int) ≤ 90∧97 ≤ (s[k].toNat : Int)∧(s[k].toNat : Int) ≤ 122) ∨ (¬ 65 ≤ (s[k].toNat : Int)∧48 ≤ (s[k].toNat : Int)∧(s[k].toNat : Int) ≤ 57) ∨ (s[k].toNat : Int) = 95 ∨ (s[k].toNat : Int) = 45:=by
     unfold nameBad at hh;simp at hh;omega
    clear HI hi2 hh
    rcases q with ⟨q1,q2⟩ | ⟨q1,q2,q3⟩ | ⟨q1,q2,q3⟩ | q1 | q1
    ·go_wp2
     go_round
     case rel => exact ⟨k + 1,hlt,by go_num,HI2.out⟩
     case measure => simp [intOf];omega
    ·have q4 : 65 ≤ (s[k].toNat : Int):=by omega
     go_wp2
     go_round
     case rel => exact ⟨k + 1,hlt,by go_num,HI2.out⟩
     case measure => simp [intOf];omega
    ·have q4 : ¬ 97 ≤ (s[k].toNat : Int):=by omega
     go_wp2
     go_round
     case rel => exact ⟨k + 1,hlt,by go_num,HI2.out⟩
     case measure => simp [intOf];omega
    ·go_wp2
     go_round
     case rel => exact ⟨k + 1,hlt,by go_num,HI2.out⟩
     case measure => simp [intOf];omega
    ·go_wp2
     go_round
     case rel => exact ⟨k + 1,hlt,by go_num,HI2.out⟩
     case measure => simp [intOf];omega
   ·have hi2 : b = true:=by rw [HI.out,hh];rfl
    have HI2:=Lib.hid hi2
    have q : (¬ 48 ≤ (s[k].toNat : Int)∧¬ 65 ≤ (s[k].toNat : Int)∧¬ 97 ≤ (s[k].toNat : Int)∧(s[k].toNat : Int) ≠ 45) ∨ (48 ≤ (s[k].toNat : Int)∧¬ (s[k].toNat : Int) ≤ 57∧¬ 65 ≤ (s[k].toNat : Int)∧¬ 97 ≤ (s[k].toNat : Int)) ∨ (65 ≤ (s[k].toNat : Int)∧¬ (s[k].toNat : Int) ≤ 90∧¬ 97 ≤ (s[k].toNat : Int)∧¬ (s[k].toNat : Int) ≤ 57∧(s[k].toNat : Int) ≠ 95) ∨ (65 ≤ (s[k].toNat : Int)∧¬ (s[k].toNat : Int) ≤ 90∧97 ≤ (s[k].toNat : Int)∧¬ (s[k].toNat : Int) ≤ 122∧¬ (s[k].toNat : Int) ≤ 57):=by
     unfold nameBad at hh;simp at hh;omega
    clear HI hi2 hh
    rcases q with ⟨q1,q2,q3,q4⟩ | ⟨q1,q2,q3,q4⟩ | ⟨q1,q2,q3,q4,q5⟩ | ⟨q1,q2,q3,q4,q5⟩
    ·have q6 : ((s[k].toNat : Int) != 45) = true:=by simpa using q4
     have q7 : ((s[k].toNat : Int) != 95) = true:=by rw [bne_iff_ne];omega
     go_wp2
     go_ret
     exact ⟨ret_bool (by rw [HI2.out];simp),rfl⟩
    ·have q6 : ((s[k].toNat : Int) != 45) = true:=by rw [bne_iff_ne];omega
     have q7 : ((s[k].toNat : Int) != 95) = true:=by rw [bne_iff_ne];omega
     go_wp2
     go_ret
     exact ⟨ret_bool (by rw [HI2.out];simp),rfl⟩
    ·have q6 : ((s[k].toNat : Int) != 45) = true:=by rw [bne_iff_ne];omega
     have q7 : ((s[k].toNat : Int) != 95) = true:=by simpa using q5
     go_wp2
     go_ret
     exact ⟨ret_bool (by rw [HI2.out];simp),rfl⟩
    ·have q6 : ((s[k].toNat : Int) != 45) = true:=by rw [bne_iff_ne];omega
     have q7 : ((s[k].toNat : Int) != 95) = true:=by rw [bne_iff_ne];omega
     go_wp2
     go_ret
     exact ⟨ret_bool (by rw [HI2.out];simp),rfl⟩
 -- behind the loop
  ·obtain rfl : k = s.size:=by omega
   have hfin : b = false:=by rw [hinv.out,Lib.size_eq,List.drop_length];rfl
   subst hfin
   clear hinv HBB
   by_cases h1 : 1 ≤ s.size
   ·have g1 : (1 : Int) ≤ s.size:=by omega
    go_wp2
    go_ret
    exact ⟨ret_bool (by first | rfl | (simp;omega) | (rw [Bool.eq_iff_iff];simp;omega)),rfl⟩
   ·have g1 : ¬ (1 : Int) ≤ s.size:=by omega
    go_wp2
    go_ret
    exact ⟨ret_bool (by first | rfl | (simp;done) | (rw [Bool.eq_iff_iff];simp;omega)),rfl⟩
set_option maxHeartbeats 1000000 in
set_option maxRecDepth 100000 in
theorem find2_any (l : List PosV) (name : ByteArray) (a : Option Addr) (cap : Nat) (w : World) (hl : l.length ≤ 4611686018427387904) (hs : AtCells w a 2 (l.map posCells)) :
  Calls Tryz.prog 55 #[.slice a l.length cap,.string name] w fun e w' => e = .returned (.tuple #[.int .i64 (findI (posFind l name)),.bool (posFind l name).isSome])∧w = w':=by
 obtain ⟨R,hR⟩ : ∃ R,R = posFind l name:=⟨_,rfl⟩
 rw [← hR]
 have HR:=Lib.hid hR
 have HS:=Lib.hid hs
 clear hs hR
 go_enter Tryz.func55,Tryz.ntmps55
 go_wp2_with fail
 go_loop [6] (fun i => ∃ k : Nat,k ≤ l.length∧i = .int .i64 k∧Hid (∀ j q,j < k → l[j]? = some q → seq q.name name = false)) (fun i => l.length - (intOf i).toNat)
 case atStart => exact ⟨0,Nat.zero_le _,rfl,fun j q hj => by omega⟩
 case round =>
  obtain ⟨k,hk,rfl,hinv⟩:=hrel
  by_cases hlt : k < l.length
  ·obtain ⟨p,hp⟩ : ∃ p,l[k]? = some p:=⟨_,List.getElem?_eq_getElem hlt⟩
   obtain ⟨ba,oa,rfl,hca⟩:=HS.out.get (ne_nil_of_lt hlt)
   have c0 : w.cell? ⟨ba,oa + k * 2,none⟩ = some (.string p.name):=by simpa using hca k _ hp 0 _ rfl
   have HP:=Lib.hid hp
   clear hca hp
   cases hq : seq p.name name
   ·have hne : (p.name.toList == name.toList) = false:=hq
    have hne2 : ¬ p.name.toList = name.toList:=by simpa using hne
    have HQ:=Lib.hid hq
    clear hq
    go_wp2
    go_round
    case rel => exact ⟨k + 1,hlt,by go_num,fun j q hj hjq => by
     rcases Nat.lt_succ_iff_lt_or_eq.1 hj with h | rfl
     ·exact hinv.out j q h hjq
     ·rw [HP.out] at hjq;obtain rfl:=Option.some.inj hjq;exact HQ.out⟩
    case measure => simp [intOf];omega
   ·have heq : (p.name.toList == name.toList) = true:=hq
    have heq2 : p.name.toList = name.toList:=by simpa using heq
    have hfin : R = some k:=HR.out.trans (posFind_hit HP.out hinv.out hq)
    subst hfin
    clear hq hinv HR
    go_wp2
    go_ret2
    exact ⟨rfl,rfl⟩
  ·obtain rfl : k = l.length:=by omega
   have hfin : R = none:=HR.out.trans (posFind_none hinv.out)
   subst hfin
   clear hinv HR
   go_wp2
   go_ret2
   exact ⟨rfl,rfl⟩
end Go.Proofs.YtepoiefadjoabaaGreatDoor
namespace Go.Proofs.YtepoiefadjoabaaGreatDoor
open Go Go.RowKit
def azBad (c : Nat) : Bool := decide (c < 97) || decide (122 < c)
def azS (s : ByteArray) : Bool := decide (1 ≤ s.size) && decide (s.size ≤ 16) && !(s.data.toList.any fun b => azBad b.toNat)
theorem any_bytes {p : Nat → Bool} (hp : ∀ c, 128 ≤ c → p c = true) (l : List UInt8) : (runesD l).any p = l.any fun b => p b.toNat := by
 by_cases h : ∃ b ∈ l,128 ≤ b.toNat
 ·obtain ⟨c,hc,hg⟩:=great_rune _ l (Nat.le_refl _) h
  obtain ⟨b,hb,hbg⟩:=h
  rw [List.any_eq_true.2 ⟨c,hc,hp c hg⟩,List.any_eq_true.2 ⟨b,hb,hp _ hbg⟩]
 ·rw [small_runes _ l (Nat.le_refl _) (fun b hb => by
   rcases Nat.lt_or_ge b.toNat 128 with h1 | h1
   ·exact h1
   ·exact absurd ⟨b,hb,h1⟩ h),List.any_map]
  rfl
theorem azBad_great {c : Nat} (h : 128 ≤ c) : azBad c = true := by unfold azBad; simp; omega
structure PartV where
 name : ByteArray
 data : List UInt8
 a : Option Addr
 c : Nat
def partC (p : PartV) : List Value := [.string p.name, .slice p.a p.data.length p.c]
structure PartsAt (w : World) (l : List PartV) : Prop where
 at_ : ∀ p ∈ l,AtCells w p.a 1 (p.data.map byteC)
 none_ : ∀ p ∈ l,p.a = none → p.c = 0
 name : ∀ p ∈ l,p.name.size ≤ 1099511627776
 data : ∀ p ∈ l,p.data.length ≤ 1099511627776
theorem PartsAt.grows {w w' : World} {l : List PartV} (h : PartsAt w l) (hg : Grows w w') : PartsAt w' l := ⟨fun p hp => (h.at_ p hp).grows hg, h.none_, h.name, h.data⟩
def sum14 (l : List PartV) : Nat := (l.map fun p => p.data.length).sum
theorem sum14_snoc (l : List PartV) (p : PartV) : sum14 (l ++ [p]) = sum14 l + p.data.length := by simp [sum14]
theorem sum14_le {l : List PartV} {n : Nat} (h : ∀ p ∈ l, p.data.length ≤ n) : sum14 l ≤ l.length * n := by
 unfold sum14
 induction l with
 | nil => simp
 | cons p l ih =>
  rw [List.map_cons,List.sum_cons,List.length_cons,Nat.succ_mul]
  have:=ih (fun q hq => h q (by simp [hq]))
  have:=h p (by simp)
  omega
def dup14 : List PartV → List ByteArray → Bool
 | [],_ => false
 | p :: l,seen => (seen.any fun s => seq s p.name) || dup14 l (seen ++ [p.name])
def dupL (l : List PartV) : Bool := dup14 l []
def chk14 (l : List PartV) : Nat := if 64 < l.length ∨ 16777216 < sum14 l then 2 else if (l.any fun p => !azS p.name) = true then 1 else if dupL l = true then 4 else 0
def head14 (l : List PartV) : List UInt8 := l.flatMap fun p => putS p.name ++ putU p.data.length
def data14 (l : List PartV) : List UInt8 := l.flatMap fun p => p.data
def body14 (l : List PartV) : List UInt8 := ([72, 78, 75, 49] ++ putU l.length) ++ head14 l ++ data14 l
def file14 (l : List PartV) : List UInt8 := body14 l ++ leB 4 (crcSum (body14 l))
def JoinPost (l : List PartV) (w : World) (e : Ending) (w' : World) : Prop :=
 (chk14 l = 0 → ∃ v,e = .returned (.tuple #[v,.int .i64 0])∧Owns w' w.heap.size 5 1 byteC v (file14 l))∧(chk14 l ≠ 0 → e = .returned (.tuple #[.slice none 0 0,.int .i64 (chk14 l)]))∧Grows w w'
theorem data14_len (l : List PartV) : (data14 l).length = sum14 l := by simp [data14, sum14, List.length_flatMap]
theorem head14_snoc (l : List PartV) (p : PartV) : head14 (l ++ [p]) = head14 l ++ (putS p.name ++ putU p.data.length) := by simp [head14]
theorem data14_snoc (l : List PartV) (p : PartV) : data14 (l ++ [p]) = data14 l ++ p.data := by simp [data14]
theorem azS_len {l : List PartV} (h : (l.any fun p => !azS p.name) = false) : ∀ p ∈ l, p.name.size ≤ 16 := fun p hp => by
 have:=List.any_eq_false.1 h p hp
 simp only [azS,Bool.not_eq_true',Bool.not_eq_false,Bool.and_eq_true,decide_eq_true_eq] at this
 simp at this
 omega
theorem head14_len {l : List PartV} (h : ∀ p ∈ l, p.name.size ≤ 16) : (head14 l).length ≤ l.length * 36 := by
 unfold head14
 induction l with
 | nil => simp
 | cons p l ih =>
  rw [List.flatMap_cons,List.length_append,List.length_append,List.length_cons,Nat.succ_mul]
  have h1:=ih (fun q hq => h q (by simp [hq]))
  have h2:=h p (by simp)
  have h3:=putS_len p.name
  have h4:=putU_len p.data.length
  omega
theorem chk14_ok {l : List PartV} (h : chk14 l = 0) : l.length ≤ 64 ∧ sum14 l ≤ 16777216 ∧ (l.any fun p => !azS p.name) = false ∧ dupL l = false := by
 unfold chk14 at h
 split at h
 ·omega
 ·rename_i h1
  split at h
  ·omega
  ·rename_i h2
   split at h
   ·omega
   ·rename_i h3
    exact ⟨by omega,by omega,by simpa using h2,by simpa using h3⟩
theorem body14_len {l : List PartV} (h : chk14 l = 0) : (body14 l).length ≤ 16800000 := by
 obtain ⟨h1,h2,h3,_⟩:=chk14_ok h
 have h4:=head14_len (azS_len h3)
 have h5:=data14_len l
 have h6:=putU_len l.length
 unfold body14
 simp only [List.length_append,List.length_cons,List.length_nil]
 omega
end Go.Proofs.YtepoiefadjoabaaGreatDoor
namespace Go.Proofs.YtepoiefadjoabaaGreatDoor
open Go Go.RowKit
attribute [local go_sem] quietE quietE2
def posOne (p : PosV) : List UInt8 := putS p.name ++ putU p.kind.toNat
def posE (l : List PosV) : List UInt8 := putU l.length ++ l.flatMap posOne
theorem posE_snoc (l : List PosV) (p : PosV) : (l ++ [p]).flatMap posOne = l.flatMap posOne ++ posOne p := by simp
theorem posOne_len {p : PosV} (h : p.name.size ≤ 16) : (posOne p).length ≤ 40 := by
 have h1:=putS_len p.name
 have h2:=putU_len p.kind.toNat
 unfold posOne
 rw [List.length_append];omega
theorem posFlat_len {l : List PosV} (h : ∀ p ∈ l, p.name.size ≤ 16) : (l.flatMap posOne).length ≤ l.length * 40 := by
 induction l with
 | nil => simp
 | cons p l ih =>
  rw [List.flatMap_cons,List.length_append,List.length_cons,Nat.succ_mul]
  have h1:=ih (fun q hq => h q (by simp [hq]))
  have h2:=posOne_len (h p (by simp))
  omega
theorem namedS_size {s : ByteArray} (h : namedS s = true) : s.size ≤ 16 := by
 rw [namedS_bytes] at h
 simp only [Bool.and_eq_true,decide_eq_true_eq] at h
 exact h.1.2
theorem posAll_get (L : List PosV) : ∀ (l : List PosV) (i j : Nat) (p : PosV), posAll L l i = true → l[j]? = some p → posOK L (i + j) p = true
 | [],_,_,_,_,h => by simp at h
 | q :: l,i,0,p,h,hp => by
  rw [posAll] at h
  simp only [Bool.and_eq_true] at h
  obtain rfl : q = p:=by simpa using hp
  exact h.1
 | q :: l,i,j + 1,p,h,hp => by
  rw [posAll] at h
  simp only [Bool.and_eq_true] at h
  have:=posAll_get L l (i + 1) j p h.2 (by simpa using hp)
  rw [show i + (j + 1) = i + 1 + j by omega];exact this
theorem posValid_all {l : List PosV} (h : posValid l = true) : l.length ≤ 64 ∧ ∀ p ∈ l, p.name.size ≤ 16 ∧ 0 ≤ p.kind ∧ p.kind ≤ 2 := by
 unfold posValid at h
 cases l with
 | nil => cases h
 | cons q r =>
  simp only [Bool.and_eq_true,decide_eq_true_eq] at h
  refine ⟨by have:=h.1;simp at this ⊢;omega,fun p hp => ?_⟩
  obtain ⟨j,hj⟩:=List.mem_iff_getElem?.1 hp
  have:=posAll_get _ _ 0 j p h.2 hj
  unfold posOK at this
  simp only [Bool.and_eq_true,decide_eq_true_eq] at this
  exact ⟨namedS_size this.1.1.2,this.1.2,this.2⟩
set_option maxHeartbeats 2000000 in
set_option maxRecDepth 100000 in
theorem putUint2_any (xs : List UInt8) (a : Option Addr) (c n : Nat) (w : World) (hx : xs.length ≤ 1099511627776) (hv : n < 18446744073709551616) (hat : AtCells w a 1 (xs.map byteC)) (hn : a = none → c = 0) :
  Calls Tryz.prog 92 #[.slice a xs.length c,.int .u64 n] w fun e w' => ∃ v,e = .returned v∧Owns w' w.heap.size 5 1 byteC v (xs ++ putU n)∧Grows w w':=by
 have CC:=Lib.hid (clone_any xs a c w hx hat hn)
 clear hat hn
 go_enter Tryz.func92,Tryz.ntmps92
 go_wp2_with fail
 refine CC.out.mono ?_
 rintro e w1 ⟨v1,rfl,hown1,hg1⟩
 obtain ⟨a1,c1,rfl,h11,h12,hat1⟩:=hown1.at_ byteLay.len
 have hn1:=owns_none2 hown1
 go_wp2_with fail
 refine (clip_any xs a1 c1 w1 h11).mono ?_
 rintro e w2 ⟨rfl,rfl⟩
 have hsrc : Src w1 w.heap.size (.slice a1 xs.length xs.length) xs:=Or.inr ⟨a1,rfl,hat1,fun h => List.eq_nil_of_length_eq_zero (by have:=hn1 h;omega)⟩
 clear hown1 hat1 hn1 CC
 go_wp2_with fail
 go_loopw [0,1] (fun b v wr => ∃ (k : Nat) (pre : List UInt8),v = .int .u64 k∧Src wr w.heap.size b (xs ++ pre)∧Hid (pre ++ putU k = putU n)∧k < 18446744073709551616∧Grows w wr) (fun _ v _ => (intOf v).toNat)
 case atStart => exact ⟨n,[],rfl,by rw [List.append_nil];exact hsrc,rfl,hv,hg1⟩
 case round =>
  obtain ⟨k,pre,rfl,hs,hp,hk,hg⟩:=hrel
  have hpl : pre.length ≤ 10:=by
   have h1:=congrArg List.length hp.out
   have h2:=putU_len n
   rw [List.length_append] at h1
   omega
  by_cases h128 : 128 ≤ k
  ·have hki : (128 : Int) ≤ k:=by omega
   have hb:=Lib.hid (or128_nat k)
   rw [putU_big2 h128 hk] at hp
   go_wp2_with (at_builtin;refine app_src rfl _ _ rfl w.heap.size _ (xs ++ pre) (UInt8.ofNat (k % 128 + 128)) rfl hs (Grows.refl _) _ 1 rfl _ (by rw [hb.out];rfl) rfl (by rw [List.length_append];omega) hg.size ?_;intro v' w5 hown5 hg5)
   go_roundw
   case rel => exact ⟨k / 128,pre ++ [UInt8.ofNat (k % 128 + 128)],by go_num,Or.inl (by rw [← List.append_assoc];exact hown5),by show (pre ++ [_]) ++ putU (k / 128) = putU n;rw [List.append_assoc];exact hp.out,by omega,hg5 w hg (Nat.le_refl _)⟩
   case measure => simp [intOf];omega
  ·have hki : ¬ (128 : Int) ≤ k:=by omega
   have hb:=Lib.hid (low_nat (k:=k) (by omega))
   rw [putU_small (by omega)] at hp
   go_wp2_with (at_builtin;refine app_src rfl _ _ rfl w.heap.size _ (xs ++ pre) (UInt8.ofNat k) rfl hs (Grows.refl _) _ 1 rfl _ (by rw [hb.out];rfl) rfl (by rw [List.length_append];omega) hg.size ?_;intro v' w5 hown5 hg5)
   go_ret
   refine ⟨_,rfl, ?_,hg5 w hg (Nat.le_refl _)⟩
   rw [← hp.out,← List.append_assoc];exact hown5
set_option maxHeartbeats 1000000 in
theorem putText_any (xs : List UInt8) (a : Option Addr) (c : Nat) (s : ByteArray) (w : World) (hx : xs.length ≤ 1099511627776) (hs : s.size ≤ 1099511627776) (hat : AtCells w a 1 (xs.map byteC)) (hn : a = none → c = 0) :
  Calls Tryz.prog 93 #[.slice a xs.length c,.string s] w fun e w' => ∃ v,e = .returned v∧Owns w' w.heap.size 5 1 byteC v (xs ++ putS s)∧Grows w w':=by
 have hl:=putU_len s.size
 have hw : IntKind.u64.wrap (s.size : Int) = s.size:=by simp [IntKind.wrap,IntKind.bits,IntKind.signed];omega
 have CU:=Lib.hid (putUint2_any xs a c s.size w hx (by omega) hat hn)
 clear hat hn
 go_enter Tryz.func93,Tryz.ntmps93
 go_wp2_with fail
 refine CU.out.mono ?_
 rintro e w1 ⟨v1,rfl,hown1,hg1⟩
 go_wp2_with (at_builtin;refine app_str rfl _ _ rfl w.heap.size _ _ s rfl hown1 (Grows.refl _) rfl (by rw [List.length_append];omega) hg1.size ?_;intro v2 w2 hown2 hg2 _)
 go_ret
 exact ⟨_,rfl,by unfold putS;rw [← List.append_assoc];exact hown2,hg2 w hg1 (Nat.le_refl _)⟩
set_option maxHeartbeats 4000000 in
set_option maxRecDepth 100000 in
theorem rpos_any (l : List PosV) (a : Option Addr) (c : Nat) (w : World) (hv : posValid l = true) (hat : AtCells w a 2 (l.map posCells)) :
  Calls Tryz.prog 78 #[.slice a l.length c] w fun e w' => ∃ v,e = .returned v∧Owns w' w.heap.size 5 1 byteC v (posE l)∧Grows w w':=by
 obtain ⟨hl64,hall⟩:=posValid_all hv
 have HALL:=Lib.hid hall
 have HAT:=Lib.hid hat
 have hul:=putU_len l.length
 have hwl : IntKind.u64.wrap (l.length : Int) = l.length:=by simp [IntKind.wrap,IntKind.bits,IntKind.signed];omega
 clear hall hat hv
 go_enter Tryz.func78,Tryz.ntmps78
 go_wp2_with fail
 refine (ruint2_any l.length w (by omega)).mono ?_
 rintro e w1 ⟨v1,rfl,hown1,hg1⟩
 go_wp2_with fail
 go_loopw [3,4] (fun out i wr => ∃ (k : Nat) (acc : List UInt8),k ≤ l.length∧i = .int .i64 k∧Hid (acc = putU l.length ++ (l.take k).flatMap posOne)∧Owns wr w.heap.size 5 1 byteC out acc∧Grows w wr) (fun _ i _ => l.length - (intOf i).toNat)
 case atStart => exact ⟨0,_,Nat.zero_le _,rfl,(by show _ = _;simp),hown1,hg1⟩
 case round =>
  obtain ⟨k,acc,hk,rfl,hacc,hown,hg⟩:=hrel
  have hal : acc.length ≤ 10 + k * 40:=by
   rw [hacc.out,List.length_append]
   have h1:=posFlat_len (l:=l.take k) (fun p hp => (HALL.out p (List.mem_of_mem_take hp)).1)
   rw [List.length_take] at h1
   have h2 : min k l.length * 40 ≤ k * 40:=Nat.mul_le_mul_right _ (by omega)
   omega
  by_cases hlt : k < l.length
  ·obtain ⟨p,hp⟩ : ∃ p,l[k]? = some p:=⟨_,List.getElem?_eq_getElem hlt⟩
   obtain ⟨b,o,rfl,hc⟩:=AtCells.get (enc:=posCells) HAT.out (ne_nil_of_lt hlt)
   obtain ⟨pn,pk⟩:=p
   have d0 : w.cell? ⟨b,o + k * 2,none⟩ = some (.string pn):=hc k _ hp 0 _ rfl
   have d1 : w.cell? ⟨b,o + k * 2 + 1,none⟩ = some (.int .i64 pk):=hc k _ hp 1 _ rfl
   have c0:=hg.cell d0
   obtain ⟨hnm,hk0,hk2⟩:=HALL.out _ (List.mem_of_getElem? hp)
   simp only at hnm hk0 hk2
   obtain ⟨K,rfl⟩ : ∃ K : Nat,pk = K:=⟨pk.toNat,by omega⟩
   have hpsl:=putS_len pn
   have hpul:=putU_len K
   have hwk : IntKind.u64.wrap (K : Int) = K:=by simp [IntKind.wrap,IntKind.bits,IntKind.signed];omega
   have HN : Hid ((acc ++ putS pn) ++ putU K = putU l.length ++ (l.take (k + 1)).flatMap posOne):=by
    show _ = _
    rw [takeSnoc hp,posE_snoc,hacc.out]
    simp only [List.append_assoc,posOne,Int.toNat_natCast]
   have hki : (k : Int) < l.length:=by omega
   clear hp hacc d0 hc
   go_wp2_with (first | (go_at_call 125;refine (rtext_any pn _ (by omega)).mono ?_;rintro e w4 ⟨v4,rfl,hown4,hg4⟩;obtain ⟨a4,c4,rfl,_,_,hat4⟩:=hown4.at_ byteLay.len;have hn4:=owns_none2 hown4;have hownA:=hown.grows hg4;have hgA:=hg.tr hg4;clear hown hown4 c0) | (at_builtin;refine app_many byteLay rfl _ _ rfl w.heap.size _ acc (putS pn) rfl hownA (Grows.refl _) a4 c4 rfl hat4 hn4 (by omega) hgA.size ?_;intro v5 w5 hown5 hg5;have hg5w:=hg5 w hgA (Nat.le_refl _);clear hg5 hownA hgA hat4 hn4;have c1:=hg5w.cell d1) | (go_at_call 124;refine (ruint2_any K _ (by omega)).mono ?_;rintro e w6 ⟨v6,rfl,hown6,hg6⟩;obtain ⟨a6,c6,rfl,_,_,hat6⟩:=hown6.at_ byteLay.len;have hn6:=owns_none2 hown6;have hownB:=hown5.grows hg6;have hgB:=hg5w.tr hg6;clear hown5 hown6) | (at_builtin;refine app_many byteLay rfl _ _ rfl w.heap.size _ (acc ++ putS pn) (putU K) rfl hownB (Grows.refl _) a6 c6 rfl hat6 hn6 (by rw [List.length_append];omega) hgB.size ?_;intro v7 w7 hown7 hg7))
   go_roundw
   case rel => exact ⟨k + 1,_,hlt,by go_num,HN.out,hown7,hg7 w hgB (Nat.le_refl _)⟩
   case measure => simp [intOf];omega
  ·have hki : ¬ (k : Int) < l.length:=by omega
   have HF : Hid (acc = posE l):=by
    show _ = _
    rw [hacc.out,List.take_of_length_le (by omega)];rfl
   clear hacc
   go_wp2_with fail
   go_ret
   exact ⟨_,rfl,by rw [← HF.out];exact hown,hg⟩
end Go.Proofs.YtepoiefadjoabaaGreatDoor
namespace Go.Proofs.YtepoiefadjoabaaGreatDoor
open Go Go.RowKit
attribute [local go_sem] quietE quietE2
set_option maxHeartbeats 2000000 in
set_option maxRecDepth 100000 in
theorem posEnc_any (l : List PosV) (a : Option Addr) (c : Nat) (w : World) (hv : posValid l = true) (hat : AtCells w a 2 (l.map posCells)) :
  Calls Tryz.prog 37 #[.slice a l.length c] w fun e w' => ∃ v,e = .returned (.tuple #[v,.int .i64 0])∧Owns w' w.heap.size 5 1 byteC v (posE l)∧Grows w w':=by
 obtain ⟨hl64,hall⟩:=posValid_all hv
 have HALL:=Lib.hid hall
 have CC:=Lib.hid (check_any l a c w hat (by omega))
 rw [hv] at CC
 have HAT:=Lib.hid hat
 have hul:=putU_len l.length
 have hwl : IntKind.u64.wrap (l.length : Int) = l.length:=by simp [IntKind.wrap,IntKind.bits,IntKind.signed];omega
 have hk0 : chkI true = 0:=rfl
 rw [hk0] at CC
 clear hall hat hv hk0
 go_enter Tryz.func37,Tryz.ntmps37
 go_wp2_with fail
 refine CC.out.mono ?_
 rintro e w1 ⟨rfl,hg1⟩
 go_wp2_with fail
 refine (putUint2_any [] none 0 l.length w1 (by simp) (by omega) (AtCells.nil _ _ _) (fun _ => rfl)).mono ?_
 rintro e w2 ⟨v2,rfl,hown2,hg2⟩
 rw [List.nil_append] at hown2
 have hgw2:=hg1.tr hg2
 replace hown2:=hown2.base (base':=w.heap.size) hg1.size
 clear hg1 hg2 CC
 go_wp2_with fail
 go_loopw [5,19] (fun out i wr => ∃ (k : Nat) (acc : List UInt8),k ≤ l.length∧i = .int .i64 k∧Hid (acc = putU l.length ++ (l.take k).flatMap posOne)∧Owns wr w.heap.size 5 1 byteC out acc∧Grows w wr) (fun _ i _ => l.length - (intOf i).toNat)
 case atStart => exact ⟨0,_,Nat.zero_le _,rfl,(by show _ = _;simp),hown2,hgw2⟩
 case round =>
  obtain ⟨k,acc,hk,rfl,hacc,hown,hg⟩:=hrel
  have hal : acc.length ≤ 10 + k * 40:=by
   rw [hacc.out,List.length_append]
   have h1:=posFlat_len (l:=l.take k) (fun p hp => (HALL.out p (List.mem_of_mem_take hp)).1)
   rw [List.length_take] at h1
   have h2 : min k l.length * 40 ≤ k * 40:=Nat.mul_le_mul_right _ (by omega)
   omega
  by_cases hlt : k < l.length
  ·obtain ⟨p,hp⟩ : ∃ p,l[k]? = some p:=⟨_,List.getElem?_eq_getElem hlt⟩
   obtain ⟨b,o,rfl,hc⟩:=AtCells.get (enc:=posCells) HAT.out (ne_nil_of_lt hlt)
   obtain ⟨pn,pk⟩:=p
   have c0 : wr.cell? ⟨b,o + k * 2,none⟩ = some (.string pn):=hg.cell (hc k _ hp 0 _ rfl)
   have c1 : wr.cell? ⟨b,o + k * 2 + 1,none⟩ = some (.int .i64 pk):=hg.cell (hc k _ hp 1 _ rfl)
   obtain ⟨hnm,hk0,hk2⟩:=HALL.out _ (List.mem_of_getElem? hp)
   simp only at hnm hk0 hk2
   obtain ⟨kd,rfl⟩ : ∃ kd : Nat,pk = kd:=⟨pk.toNat,by omega⟩
   have hpsl:=putS_len pn
   have hpul:=putU_len kd
   have hwk : IntKind.u64.wrap (kd : Int) = kd:=by simp [IntKind.wrap,IntKind.bits,IntKind.signed];omega
   have HN : Hid ((acc ++ putS pn) ++ putU kd = putU l.length ++ (l.take (k + 1)).flatMap posOne):=by
    show _ = _
    rw [takeSnoc hp,posE_snoc,hacc.out]
    simp only [List.append_assoc,posOne,Int.toNat_natCast]
   have hki : (k : Int) < l.length:=by omega
   have z0 : ∀ x : Ext Grows (wr.alloc (.cells #[.string pn,.int .i64 kd] 60)).drew,x.u.cell? ⟨wr.heap.size,0,none⟩ = some (.string pn):=ext_cell (cell_box wr _ _ (0,0) 0 _ rfl)
   have z1 : ∀ x : Ext Grows (wr.alloc (.cells #[.string pn,.int .i64 kd] 60)).drew,x.u.cell? ⟨wr.heap.size,1,none⟩ = some (.int .i64 kd):=ext_cell (cell_box wr _ _ (0,0) 1 _ rfl)
   obtain ⟨ao,co,rfl,_,_,hato⟩:=hown.at_ byteLay.len
   have hno:=owns_none2 hown
   have hgb : Grows wr (wr.alloc (.cells #[.string pn,.int .i64 kd] 60)):=Grows.alloc _ _
   clear hp hacc hc hown
   go_wp2_with fail
   refine t_region (Grows) [(0,false),(1,false),(2,false),(4,false),(5,false),(6,false),(3,true),(7,true),(8,true)] Grows.refl Grows.trans (by kernel_rfl) (by kernel_rfl) (fun d _ _ _ _ h => by cases d <;> exact h) ?_
   iterate 6 (refine t_quiet rfl (fun K hK => ?_);go_simp;refine hK _ ?_;clear hK K)
   clear z0 z1
   refine t_late rfl rfl (fun K hK => ?_)
   go_simp
   refine (putText_any acc ao co pn _ (by omega) (by omega) (hato.grows (hgb.dr)) hno).mono ?_
   rintro e w3 ⟨v3,rfl,hown3,hg3⟩;obtain ⟨B3,hB3⟩ : ∃ B,B = acc ++ putS pn:=⟨_,rfl⟩;rw [← hB3] at hown3;have hb3 : B3.length ≤ 10000:=(by rw [hB3,List.length_append];omega);have HB3:=Lib.hid hB3;clear hB3;obtain ⟨a3,c3,rfl,_,_,hat3⟩:=hown3.at_ byteLay.len;have hn3:=owns_none2 hown3;clear hown3
   refine ⟨hg3,hK _ _ ?_⟩
   clear hK K
   refine t_late rfl rfl (fun K hK => ?_)
   go_simp
   refine (putUint2_any B3 a3 c3 kd _ (by omega) (by omega) hat3 hn3).mono ?_
   rintro e w4 ⟨v4,rfl,hown4,hg4⟩
   refine ⟨hg4,hK _ _ ?_⟩
   clear hK K
   iterate 1 (refine t_late rfl rfl (fun K hK => ?_);go_simp;refine ⟨Grows.refl _,hK _ _ ?_⟩;clear hK K)
   refine t_end ?_
   have hg34:=hg.tr ((hgb.dr).tr hg3)
   go_wp2_with fail
   go_roundw
   case rel => exact ⟨k + 1,_,hlt,by go_num,(by show _ = _;rw [← HN.out,HB3.out]),hown4.base hg34.size,hg34.tr hg4⟩
   case measure => simp [intOf];omega
  ·have hki : ¬ (k : Int) < l.length:=by omega
   have HF : Hid (acc = posE l):=by
    show _ = _
    rw [hacc.out,List.take_of_length_le (by omega)];rfl
   clear hacc
   go_wp2_with fail
   refine bodyPost_ret (v:=.tuple #[_,.int .i64 0]) (by simp [results,Tryz.results37,go_sem];rfl) rfl ⟨_,rfl,by rw [← HF.out];exact hown,hg⟩
end Go.Proofs.YtepoiefadjoabaaGreatDoor
namespace Go.Proofs.YtepoiefadjoabaaGreatDoor
open Go Go.RowKit
attribute [local go_sem] quietE quietE2
theorem crc_cells (n : Nat) (hn : n < 4294967296) : (#[Value.int .u8 ((n : Int) % 256), .int .u8 ((n : Int) / 256 % 256), .int .u8 ((n : Int) / 65536 % 256), .int .u8 ((n : Int) / 16777216)] : Array Value).toList = (leB 4 n).flatMap byteC := by
 have h : leB 4 n = [UInt8.ofNat n,UInt8.ofNat (n / 256),UInt8.ofNat (n / 65536),UInt8.ofNat (n / 16777216)]:=by
  unfold leB
  simp [List.range_succ]
 rw [h,flat_bytes]
 simp only [List.map_cons,List.map_nil,UInt8.toNat_ofNat']
 rw [Nat.mod_eq_of_lt (show n / 16777216 < 2 ^ 8 by omega)]
 congr 1
set_option maxHeartbeats 1000000 in
theorem rfour_any (n : Nat) (w : World) (hn : n < 4294967296) :
  Calls Tryz.prog 126 #[.int .u32 n] w fun e w' => ∃ v,e = .returned v∧Owns w' w.heap.size 5 1 byteC v (leB 4 n)∧Grows w w':=by
 have HH:=Lib.hid (crc_cells n hn)
 go_enter Tryz.func126,Tryz.ntmps126
 go_wp2_with fail
 go_ret
 exact ⟨_,rfl,owns_box (enc:=byteC) (fun _ => rfl) (Nat.le_refl _) (leB 4 n) HH.out (n:=4) (by simp [leB_len]) (by decide),Grows.alloc _ _⟩
set_option maxHeartbeats 2000000 in
set_option maxRecDepth 100000 in
theorem rname14_any (s : ByteArray) (w : World) (hs : s.size ≤ 9223372036854775807) :
  Calls Tryz.prog 176 #[.string s] w fun e w' => e = .returned (.bool (azS s))∧w = w':=by
 obtain ⟨b,hbb⟩ : ∃ b,b = s.data.toList.any fun b => azBad b.toNat:=⟨_,rfl⟩
 unfold azS
 rw [← hbb]
 have HBB:=Lib.hid hbb
 clear hbb
 go_enter Tryz.func176,Tryz.ntmps176
 go_wp2_with fail
 go_loop [3] (fun i => ∃ k : Nat,k ≤ s.size∧i = .int .i64 k∧Hid (b = (s.data.toList.drop k).any fun b => azBad b.toNat)) (fun i => s.size - (intOf i).toNat)
 case atStart => exact ⟨0,Nat.zero_le _,rfl,HBB.out⟩
 case round =>
  obtain ⟨k,hk,rfl,hinv⟩:=hrel
  by_cases hlt : k < s.size
  ·have hi:=hinv.out
   rw [any_byte (p:=fun b => azBad b.toNat) hlt] at hi
   have HI:=Lib.hid hi
   clear hinv hi
   cases hh : azBad s[k].toNat
   ·have hi2 : b = (s.data.toList.drop (k + 1)).any fun b => azBad b.toNat:=by rw [HI.out,hh];rfl
    have HI2:=Lib.hid hi2
    have q1 : ¬ (s[k].toNat : Int) < 97:=by unfold azBad at hh;simp at hh;omega
    have q2 : ¬ (122 : Int) < s[k].toNat:=by unfold azBad at hh;simp at hh;omega
    clear HI hi2 hh
    go_wp2
    go_round
    case rel => exact ⟨k + 1,hlt,by go_num,HI2.out⟩
    case measure => simp [intOf];omega
   ·have hi2 : b = true:=by rw [HI.out,hh];rfl
    have HI2:=Lib.hid hi2
    by_cases q1 : (s[k].toNat : Int) < 97
    ·clear HI hi2 hh
     go_wp2
     go_ret
     exact ⟨ret_bool (by rw [HI2.out];simp),rfl⟩
    ·have q2 : (122 : Int) < s[k].toNat:=by unfold azBad at hh;simp at hh;omega
     clear HI hi2 hh
     go_wp2
     go_ret
     exact ⟨ret_bool (by rw [HI2.out];simp),rfl⟩
  ·obtain rfl : k = s.size:=by omega
   have hfin : b = false:=by rw [hinv.out,Lib.size_eq,List.drop_length];rfl
   subst hfin
   clear hinv HBB
   by_cases h1 : 1 ≤ s.size
   ·have g1 : (1 : Int) ≤ s.size:=by omega
    by_cases h2 : s.size ≤ 16
    ·have g2 : (s.size : Int) ≤ 16:=by omega
     go_wp2
     go_ret
     exact ⟨ret_bool (by simp <;> omega),rfl⟩
    ·have g2 : ¬ (s.size : Int) ≤ 16:=by omega
     go_wp2
     go_ret
     exact ⟨ret_bool (by simp <;> omega),rfl⟩
   ·have g1 : ¬ (1 : Int) ≤ s.size:=by omega
    go_wp2
    go_ret
    exact ⟨ret_bool (by simp <;> omega),rfl⟩
theorem dup14_step {l : List PartV} {i : Nat} {p : PartV} (hp : l[i]? = some p) : dup14 (l.drop i) ((l.take i).map (·.name)) = (((l.take i).map (·.name)).any (fun s => seq s p.name) || dup14 (l.drop (i + 1)) ((l.take (i + 1)).map (·.name))) := by
 have hlt:=(List.getElem?_eq_some_iff.1 hp).1
 have hpe:=(List.getElem?_eq_some_iff.1 hp).2
 rw [List.drop_eq_getElem_cons hlt,hpe,takeSnoc hp,List.map_append]
 rfl
set_option maxHeartbeats 8000000 in
set_option maxRecDepth 100000 in
theorem rchk14_any (l : List PartV) (a : Option Addr) (c : Nat) (w : World) (hl : l.length ≤ 1000000) (hat : AtCells w a 2 (l.map partC)) (hpa : PartsAt w l) :
  Calls Tryz.prog 123 #[.slice a l.length c] w fun e w' => e = .returned (.int .i64 (chk14 l))∧Grows w w':=by
 have HD:=Lib.hid hpa.data
 have HNM:=Lib.hid hpa.name
 clear hpa
 have hcells : ∀ k p,l[k]? = some p → ∃ b o,a = some ⟨b,o,none⟩∧w.cell? ⟨b,o + k * 2,none⟩ = some (.string p.name)∧w.cell? ⟨b,o + k * 2 + 1,none⟩ = some (.slice p.a p.data.length p.c):=by
  intro k p hp
  obtain ⟨b,o,ha,hc⟩:=AtCells.get (enc:=partC) hat (ne_nil_of_lt (List.getElem?_eq_some_iff.1 hp).1)
  exact ⟨b,o,ha,hc k p hp 0 _ rfl,hc k p hp 1 _ rfl⟩
 have HC:=Lib.hid hcells
 clear hcells hat
 go_enter Tryz.func123,Tryz.ntmps123
 go_wp2_with fail
 go_loop [3,4] (fun n i => ∃ k N : Nat,k ≤ l.length∧i = .int .i64 k∧n = .int .i64 N∧N ≤ k * 1099511627776∧Hid (N = sum14 (l.take k))) (fun _ i => l.length - (intOf i).toNat)
 case atStart => exact ⟨0,0,Nat.zero_le _,rfl,rfl,by omega,rfl⟩
 case round =>
  obtain ⟨k,N,hk,rfl,rfl,hN,hinv⟩:=hrel
  by_cases hlt : k < l.length
  ·obtain ⟨p,hp⟩ : ∃ p,l[k]? = some p:=⟨_,List.getElem?_eq_getElem hlt⟩
   obtain ⟨b,o,rfl,c0,c1⟩:=HC.out k p hp
   have hd:=HD.out p (List.mem_of_getElem? hp)
   have HS : Hid (N + p.data.length = sum14 (l.take (k + 1))):=by show _ = _;rw [takeSnoc hp,sum14_snoc,← hinv.out]
   clear hp hinv
   go_wp2_with fail
   go_round
   case rel => exact ⟨k + 1,N + p.data.length,hlt,by go_num,by go_num,by omega,HS.out⟩
   case measure => simp [intOf];omega
  ·have hke : k = l.length:=by omega
   have hki : ¬ (k : Int) < l.length:=by omega
   have hNs : N = sum14 l:=by rw [hinv.out,hke,List.take_length]
   have HN:=Lib.hid hNs
   clear hinv hke hNs
   by_cases hbig : 64 < l.length ∨ 16777216 < N
   ·have HF : Hid (chk14 l = 2):=by show _ = _;unfold chk14;rw [← HN.out,if_pos hbig]
    by_cases h64 : 64 < l.length
    ·have h64i : (64 : Int) < l.length:=by omega
     go_wp2_with fail
     go_ret
     exact ⟨by rw [HF.out];rfl,Grows.refl _⟩
    ·have h64i : ¬ (64 : Int) < l.length:=by omega
     have hbi : (16777216 : Int) < N:=by omega
     clear hbig
     go_wp2_with fail
     go_ret
     exact ⟨by rw [HF.out];rfl,Grows.refl _⟩
   ·have h64 : l.length ≤ 64:=by omega
    have h64i : ¬ (64 : Int) < l.length:=by omega
    have hbi : ¬ (16777216 : Int) < N:=by omega
    have HF : Hid (chk14 l = if (l.any fun p => !azS p.name) = true then 1 else if dupL l = true then 4 else 0):=by show _ = _;unfold chk14;rw [← HN.out,if_neg hbig]
    clear hbig HN
    go_wp2_with fail
    go_loop [5] (fun i => ∃ k : Nat,k ≤ l.length∧i = .int .i64 k∧Hid (((l.take k).any fun p => !azS p.name) = false)) (fun i => l.length - (intOf i).toNat)
    case atStart => exact ⟨0,Nat.zero_le _,rfl,rfl⟩
    case round =>
     obtain ⟨k,hk,rfl,hinv⟩:=hrel
     by_cases hlt : k < l.length
     ·obtain ⟨p,hp⟩ : ∃ p,l[k]? = some p:=⟨_,List.getElem?_eq_getElem hlt⟩
      obtain ⟨b,o,rfl,c0,c1⟩:=HC.out k p hp
      have con:=rname14_any p.name w (by have:=HNM.out p (List.mem_of_getElem? hp);omega)
      have HP:=Lib.hid hp
      cases haz : azS p.name
      ·have HB : Hid (chk14 l = 1):=by
        show _ = _
        rw [HF.out,if_pos (List.any_eq_true.2 ⟨p,List.mem_of_getElem? hp,by rw [haz];rfl⟩)]
       rw [haz] at con
       clear hp hinv haz
       go_wp2_with fail
       refine con.mono ?_
       rintro e w1 ⟨rfl,rfl⟩
       go_wp2_with fail
       go_ret
       exact ⟨by rw [HB.out];rfl,Grows.refl _⟩
      ·have HI : Hid (((l.take (k + 1)).any fun p => !azS p.name) = false):=by
        show _ = _
        rw [takeSnoc hp,List.any_append,hinv.out]
        simp [haz]
       rw [haz] at con
       clear hp hinv haz
       go_wp2_with fail
       refine con.mono ?_
       rintro e w1 ⟨rfl,rfl⟩
       go_wp2_with fail
       go_round
       case rel => exact ⟨k + 1,hlt,by go_num,HI.out⟩
       case measure => simp [intOf];omega
     ·have hke : k = l.length:=by omega
      have hki : ¬ (k : Int) < l.length:=by omega
      have HF2 : Hid (chk14 l = if dupL l = true then 4 else 0):=by
       show _ = _
       have h1:=hinv.out
       rw [hke,List.take_length] at h1
       rw [HF.out,h1];simp
      clear hinv hke HF
      go_wp2_with fail
      go_loopw [6] (fun i wr => ∃ k : Nat,k ≤ l.length∧i = .int .i64 k∧Hid (dupL l = dup14 (l.drop k) ((l.take k).map (·.name)))∧Grows w wr) (fun i _ => l.length - (intOf i).toNat)
      case atStart => exact ⟨0,Nat.zero_le _,rfl,rfl,Grows.refl _⟩
      case round =>
       obtain ⟨i,hi,rfl,hinv,hg⟩:=hrel
       by_cases hlt : i < l.length
       ·obtain ⟨p,hp⟩ : ∃ p,l[i]? = some p:=⟨_,List.getElem?_eq_getElem hlt⟩
        obtain ⟨b,o,rfl,c0,_⟩:=HC.out i p hp
        have hst:=hinv.out
        rw [dup14_step hp] at hst
        have HI:=Lib.hid hst
        clear hst hinv hp
        go_wp2_with fail
        obtain ⟨u0,rfl⟩ : ∃ u0,u0 = wr:=⟨_,rfl⟩
        go_loopw [7] (fun k wr => ∃ q : Nat,q ≤ i∧k = .int .i64 q∧Hid ((((l.take q).map (·.name)).any fun s => seq s p.name) = false)∧Grows w wr) (fun k _ => i - (intOf k).toNat)
        case atStart => exact ⟨0,Nat.zero_le _,rfl,rfl,hg⟩
        case round =>
         obtain ⟨q,hq,rfl,hno,hg⟩:=hrel
         by_cases hqi : q < i
         ·obtain ⟨r,hr⟩ : ∃ r,l[q]? = some r:=⟨_,List.getElem?_eq_getElem (by omega)⟩
          obtain ⟨b2,o2,hbo,d0,_⟩:=HC.out q r hr
          obtain ⟨rfl,rfl⟩ : b = b2∧o = o2:=by simpa using hbo
          have y0 : ∀ x : Ext Grows wr.drew,x.u.cell? ⟨b,o + i * 2,none⟩ = some (.string p.name):=ext_cell (hg.dr.cell c0)
          have y1 : ∀ x : Ext Grows wr.drew,x.u.cell? ⟨b,o + q * 2,none⟩ = some (.string r.name):=ext_cell (hg.dr.cell d0)
          have hql : (q : Int) < l.length:=by omega
          by_cases he : seq r.name p.name = true
          ·have hb : (r.name.toList == p.name.toList) = true:=he
           have HB : Hid (chk14 l = 4):=by
            have h1 : ((l.take i).map (·.name)).any (fun s => seq s p.name) = true:=by
             rw [List.any_eq_true]
             refine ⟨r.name, ?_,he⟩
             rw [List.mem_map]
             exact ⟨r,List.mem_of_getElem? (i:=q) (by rw [List.getElem?_take,if_pos hqi];exact hr),rfl⟩
            show _ = _
            rw [HF2.out,HI.out,h1];simp
           clear he hr hno
           go_wp2_with fail
           refine t_region (Grows) [(0,false),(1,false),(2,false),(3,false),(4,false),(5,false),(6,false),(7,false),(8,false),(9,false),(10,false)] Grows.refl Grows.trans (by kernel_rfl) (by kernel_rfl) (fun d _ _ _ _ h => by cases d <;> exact h) ?_
           iterate 11 (refine t_quiet rfl (fun K hK => ?_);go_simp;refine hK _ ?_;clear hK K)
           refine t_end ?_
           go_wp2_with fail
           go_ret
           exact ⟨by rw [HB.out];rfl,hg.dr⟩
          ·have hb : (r.name.toList == p.name.toList) = false:=by
            have h1 : seq r.name p.name = false:=by simpa using he
            exact h1
           have HNO : Hid ((((l.take (q + 1)).map (·.name)).any fun s => seq s p.name) = false):=by
            show _ = _
            rw [takeSnoc hr,List.map_append,List.any_append,hno.out]
            simp only [List.map_cons,List.map_nil,List.any_cons,List.any_nil,Bool.or_false,Bool.false_or]
            exact hb
           clear he hr hno
           go_wp2_with fail
           refine t_region (Grows) [(0,false),(1,false),(2,false),(3,false),(4,false),(5,false),(6,false),(7,false),(8,false),(9,false),(10,false)] Grows.refl Grows.trans (by kernel_rfl) (by kernel_rfl) (fun d _ _ _ _ h => by cases d <;> exact h) ?_
           iterate 11 (refine t_quiet rfl (fun K hK => ?_);go_simp;refine hK _ ?_;clear hK K)
           refine t_end ?_
           go_wp2_with fail
           go_roundw
           case rel => exact ⟨q + 1,hqi,by go_num,HNO.out,hg.dr⟩
           case measure => simp [intOf];omega
         ·have hqe : q = i:=by omega
          have hqi2 : ¬ (q : Int) < i:=by omega
          have HN : Hid (dupL l = dup14 (l.drop (i + 1)) ((l.take (i + 1)).map (·.name))):=by
           show _ = _
           rw [HI.out,← hqe,hno.out];rfl
          clear hno hqe
          go_wp2_with fail
          go_roundw
          case rel => exact ⟨i + 1,hlt,by go_num,HN.out,hg⟩
          case measure => simp [intOf];omega
       ·have hke : i = l.length:=by omega
        have hki : ¬ (i : Int) < l.length:=by omega
        have HB : Hid (chk14 l = 0):=by
         show _ = _
         rw [HF2.out,hinv.out,hke,List.drop_length]
         simp [dup14]
        clear hinv hke
        go_wp2_with fail
        go_ret
        exact ⟨by rw [HB.out];rfl,hg⟩
set_option maxHeartbeats 8000000 in
set_option maxRecDepth 100000 in
theorem rjoin_any (l : List PartV) (a : Option Addr) (c : Nat) (w : World) (hl : l.length ≤ 1000000) (hat : AtCells w a 2 (l.map partC)) (hpa : PartsAt w l) :
  Calls Tryz.prog 77 #[.slice a l.length c] w (JoinPost l w):=by
 have CC:=Lib.hid (rchk14_any l a c w hl hat hpa)
 have hcells : ∀ k p,l[k]? = some p → ∃ b o,a = some ⟨b,o,none⟩∧w.cell? ⟨b,o + k * 2,none⟩ = some (.string p.name)∧w.cell? ⟨b,o + k * 2 + 1,none⟩ = some (.slice p.a p.data.length p.c):=by
  intro k p hp
  obtain ⟨b,o,ha,hc⟩:=AtCells.get (enc:=partC) hat (ne_nil_of_lt (List.getElem?_eq_some_iff.1 hp).1)
  exact ⟨b,o,ha,hc k p hp 0 _ rfl,hc k p hp 1 _ rfl⟩
 have HC:=Lib.hid hcells
 have HPA:=Lib.hid hpa
 clear hcells hat hpa
 by_cases hok : chk14 l = 0
 case neg =>
  have HNE:=Lib.hid hok
  obtain ⟨E,hE⟩ : ∃ E,chk14 l = E:=⟨_,rfl⟩
  have HE:=Lib.hid hE
  rw [hE] at CC hok
  have hEb : ((E : Int) != 0) = true:=by rw [bne_iff_ne];omega
  clear hE hok
  go_enter Tryz.func77,Tryz.ntmps77
  go_wp2_with fail
  refine CC.out.mono ?_
  rintro e w1 ⟨rfl,hg1⟩
  go_wp2_with fail
  refine bodyPost_ret (v:=.tuple #[.slice none 0 0,.int .i64 E]) (by simp [results,Tryz.results77,go_sem]) rfl ⟨fun h => absurd h HNE.out,fun _ => by rw [HE.out],hg1⟩
 have HOK:=Lib.hid hok
 rw [hok] at CC
 obtain ⟨hl64,hsum,haz,_⟩:=chk14_ok hok
 have HAZ:=Lib.hid (azS_len haz)
 have HBL:=Lib.hid (body14_len hok)
 have hul:=putU_len l.length
 have HU16:=Lib.hid (head14_len (azS_len haz))
 clear haz hok
 go_enter Tryz.func77,Tryz.ntmps77
 go_wp2_with (first | (go_at_call 123;refine CC.out.mono ?_;rintro e w1 ⟨rfl,hg1⟩) | (go_at_call 124;refine (ruint2_any l.length _ (by omega)).mono ?_;rintro e w2 ⟨v2,rfl,hown2,hg2⟩;obtain ⟨a2,c2,rfl,_,_,hat2⟩:=hown2.at_ byteLay.len;have hn2:=owns_none2 hown2;have hownL:=(owns_box (enc:=byteC) (e:=5) (w:=w1) (base:=w.heap.size) (fun _ => rfl) hg1.size [72,78,75,49] (cs:=#[.int .u8 72,.int .u8 78,.int .u8 75,.int .u8 49]) rfl (n:=4) rfl (by decide)).grows hg2;have hgL:=(hg1.al (.cells #[.int .u8 72,.int .u8 78,.int .u8 75,.int .u8 49] 5)).tr hg2) | (at_builtin;refine app_many byteLay rfl _ _ rfl w.heap.size _ [72,78,75,49] (putU l.length) rfl hownL (Grows.refl _) a2 c2 rfl hat2 hn2 (by simp only [List.length_cons,List.length_nil];omega) hgL.size ?_;intro v3 w3 hown3 hg3;have hgw3:=hg3 w hgL (Nat.le_refl _);clear hg3 hgL hownL hat2 hn2 hown2))
 go_loopw [5,6] (fun out i wr => ∃ (k : Nat) (acc : List UInt8),k ≤ l.length∧i = .int .i64 k∧Hid (acc = ([72,78,75,49] ++ putU l.length) ++ head14 (l.take k))∧Owns wr w.heap.size 5 1 byteC out acc∧Grows w wr) (fun _ i _ => l.length - (intOf i).toNat)
 case atStart => exact ⟨0,_,Nat.zero_le _,rfl,(by show _ = _;simp [head14]),hown3,hgw3⟩
 case round =>
  obtain ⟨k,acc,hk,rfl,hacc,hown,hg⟩:=hrel
  have hal : acc.length ≤ 20 + k * 36:=by
   rw [hacc.out,List.length_append,List.length_append]
   have h1:=head14_len (l:=l.take k) (fun p hp => HAZ.out p (List.mem_of_mem_take hp))
   rw [List.length_take] at h1
   have h2 : min k l.length * 36 ≤ k * 36:=Nat.mul_le_mul_right _ (by omega)
   simp only [List.length_cons,List.length_nil]
   omega
  by_cases hlt : k < l.length
  ·obtain ⟨p,hp⟩ : ∃ p,l[k]? = some p:=⟨_,List.getElem?_eq_getElem hlt⟩
   obtain ⟨b,o,rfl,d0,d1⟩:=HC.out k p hp
   have c0:=hg.cell d0
   have c1:=hg.cell d1
   have hnm:=HAZ.out p (List.mem_of_getElem? hp)
   have hpd:=HPA.out.data p (List.mem_of_getElem? hp)
   have hpsl:=putS_len p.name
   have hpul:=putU_len p.data.length
   have HN : Hid ((acc ++ putS p.name) ++ putU p.data.length = ([72,78,75,49] ++ putU l.length) ++ head14 (l.take (k + 1))):=by
    show _ = _
    rw [takeSnoc hp,head14_snoc,hacc.out]
    simp only [List.append_assoc]
   have hki : (k : Int) < l.length:=by omega
   have hw64 : IntKind.u64.wrap (p.data.length : Int) = p.data.length:=by simp [IntKind.wrap,IntKind.bits,IntKind.signed];omega
   clear hp hacc d0
   go_wp2_with (first | (go_at_call 125;refine (rtext_any p.name _ (by omega)).mono ?_;rintro e w4 ⟨v4,rfl,hown4,hg4⟩;obtain ⟨a4,c4,rfl,_,_,hat4⟩:=hown4.at_ byteLay.len;have hn4:=owns_none2 hown4;have hownA:=hown.grows hg4;have hgA:=hg.tr hg4;replace c1:=hg4.cell c1;clear hown hown4 c0) | (at_builtin;refine app_many byteLay rfl _ _ rfl w.heap.size _ acc (putS p.name) rfl hownA (Grows.refl _) a4 c4 rfl hat4 hn4 (by omega) hgA.size ?_;intro v5 w5 hown5 hg5;have hg5w:=hg5 w hgA (Nat.le_refl _);clear hg5 hownA hgA hat4 hn4;have c1 : w5.cell? ⟨b,o + k * 2 + 1,none⟩ = some (.slice p.a p.data.length p.c):=hg5w.cell d1) | (go_at_call 124;refine (ruint2_any p.data.length _ (by omega)).mono ?_;rintro e w6 ⟨v6,rfl,hown6,hg6⟩;obtain ⟨a6,c6,rfl,_,_,hat6⟩:=hown6.at_ byteLay.len;have hn6:=owns_none2 hown6;have hownB:=hown5.grows hg6;have hgB:=hg5w.tr hg6;clear hown5 hown6) | (at_builtin;refine app_many byteLay rfl _ _ rfl w.heap.size _ (acc ++ putS p.name) (putU p.data.length) rfl hownB (Grows.refl _) a6 c6 rfl hat6 hn6 (by rw [List.length_append];omega) hgB.size ?_;intro v7 w7 hown7 hg7))
   go_roundw
   case rel => exact ⟨k + 1,_,hlt,by go_num,HN.out,hown7,hg7 w hgB (Nat.le_refl _)⟩
   case measure => simp [intOf];omega
  ·have hki : ¬ (k : Int) < l.length:=by omega
   have HA : Hid (acc = ([72,78,75,49] ++ putU l.length) ++ head14 l):=by
    show _ = _
    rw [hacc.out,List.take_of_length_le (by omega)]
   clear hacc
   go_wp2_with fail
   obtain ⟨u0,rfl⟩ : ∃ u0,u0 = wr:=⟨_,rfl⟩
   go_loopw [5,7] (fun out i wr => ∃ (k : Nat) (acc2 : List UInt8),k ≤ l.length∧i = .int .i64 k∧Hid (acc2 = acc ++ data14 (l.take k))∧Owns wr w.heap.size 5 1 byteC out acc2∧Grows w wr) (fun _ i _ => l.length - (intOf i).toNat)
   case atStart => exact ⟨0,_,Nat.zero_le _,rfl,(by show _ = _;simp [data14]),hown,hg⟩
   case round =>
    obtain ⟨k,acc2,hk,rfl,hacc2,hown,hg⟩:=hrel
    by_cases hlt : k < l.length
    ·obtain ⟨p,hp⟩ : ∃ p,l[k]? = some p:=⟨_,List.getElem?_eq_getElem hlt⟩
     obtain ⟨b,o,rfl,d0,d1⟩:=HC.out k p hp
     have c1:=hg.cell d1
     have hpd:=HPA.out.data p (List.mem_of_getElem? hp)
     have hpat:=(HPA.out.at_ p (List.mem_of_getElem? hp)).grows hg
     have hpn:=HPA.out.none_ p (List.mem_of_getElem? hp)
     have HN : Hid (acc2 ++ p.data = acc ++ data14 (l.take (k + 1))):=by
      show _ = _
      rw [takeSnoc hp,data14_snoc,hacc2.out,List.append_assoc]
     have hal2 : acc2.length ≤ 3000 + 64 * 1099511627776:=by
      rw [hacc2.out,List.length_append,data14_len]
      have h1:=sum14_le (l:=l.take k) (n:=1099511627776) (fun p hp => HPA.out.data p (List.mem_of_mem_take hp))
      rw [List.length_take] at h1
      have h2 : min k l.length * 1099511627776 ≤ 64 * 1099511627776:=Nat.mul_le_mul_right _ (by omega)
      omega
     clear hp hacc2 d0 d1
     go_wp2_with (at_builtin;refine app_many byteLay rfl _ _ rfl w.heap.size _ acc2 p.data rfl hown (Grows.refl _) p.a p.c rfl hpat hpn (by omega) hg.size ?_;intro v7 w7 hown7 hg7)
     go_roundw
     case rel => exact ⟨k + 1,_,hlt,by go_num,HN.out,hown7,hg7 w hg (Nat.le_refl _)⟩
     case measure => simp [intOf];omega
    ·have hki : ¬ (k : Int) < l.length:=by omega
     have HB : Hid (acc2 = body14 l):=by
      show _ = _
      rw [hacc2.out,HA.out,List.take_of_length_le (by omega)]
      rfl
     have hb2 : acc2.length ≤ 16800000:=by rw [HB.out];exact HBL.out
     have hcl : crcSum acc2 < 4294967296:=Nat.xor_lt_two_pow (n:=32) (crcGo_lt _ (by decide)) (by decide)
     have hl4 : (leB 4 (crcSum acc2)).length = 4:=leB_len _ _
     obtain ⟨a8,c8,rfl,_,_,hat8⟩:=hown.at_ byteLay.len
     clear hacc2
     go_wp2_with (first | (go_at_call 127;refine (rsum_any acc2 a8 c8 _ (by omega) hat8).mono ?_;rintro e w9 ⟨rfl,rfl⟩) | (go_at_call 126;refine (rfour_any (crcSum acc2) _ hcl).mono ?_;rintro e w9 ⟨v9,rfl,hown9,hg9⟩;obtain ⟨a9,c9,rfl,_,_,hat9⟩:=hown9.at_ byteLay.len;have hn9:=owns_none2 hown9;have hownA:=hown.grows hg9;have hgA:=hg.tr hg9;clear hown hown9) | (at_builtin;refine app_many byteLay rfl _ _ rfl w.heap.size _ acc2 (leB 4 (crcSum acc2)) rfl hownA (Grows.refl _) a9 c9 rfl hat9 hn9 (by omega) hgA.size ?_;intro v10 w10 hown10 hg10))
     have HF : Hid (acc2 ++ leB 4 (crcSum acc2) = file14 l):=by show _ = _;rw [HB.out];rfl
     refine bodyPost_ret (v:=.tuple #[v10,.int .i64 0]) (by simp [results,Tryz.results77,go_sem]) rfl ⟨fun _ => ⟨v10,rfl,by rw [← HF.out];exact hown10⟩,fun h => absurd HOK.out h,hg10 w hgA (Nat.le_refl _)⟩
end Go.Proofs.YtepoiefadjoabaaGreatDoor
