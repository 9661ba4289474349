/- The texts RefV W14P W15 PosE W14 CrcW SecW SecJ SecP, one behind the other. -/
import Derived.Test.YtepoiefadjoabaaGreatDoorH5
import Derived.Test.YtepoiefadjoabaaGreatDoorH24
import Derived.Test.YtepoiefadjoabaaGreatDoorH34
import Derived.Test.YtepoiefadjoabaaGreatDoorH23
import Derived.Test.YtepoiefadjoabaaGreatDoorH1
import Derived.Test.YtepoiefadjoabaaGreatDoorH21
import Derived.Test.YtepoiefadjoabaaGreatDoorH10
import Derived.Test.YtepoiefadjoabaaGreatDoorH12
import Derived.Maps.Own
import Derived.Carry
import Derived.Lib.SlBytesConst
namespace Go.Proofs.YtepoiefadjoabaaGreatDoor
open Go Go.RowKit
attribute [local go_sem] quietE
theorem great_rune : ∀ (n : Nat) (l : List UInt8), l.length ≤ n → (∃ b ∈ l, 128 ≤ b.toNat) → ∃ c ∈ runesD l, 128 ≤ c
 | 0,l,hl,⟨b,hb,_⟩ => by
  have : l = []:=List.eq_nil_of_length_eq_zero (by omega)
  subst this;cases hb
 | n + 1,l,hl,⟨b,hb,hge⟩ => by
  cases l with
  | nil => cases hb
  | cons x r =>
   rw [runesD_step _ (by simp)]
   by_cases hx : x.toNat < 128
   ·rw [Lib.decodeL_ascii x r hx]
    rcases List.mem_cons.1 hb with rfl | hb
    ·omega
    ·obtain ⟨c,hc,hcg⟩:=great_rune n r (by simp at hl;omega) ⟨b,hb,hge⟩
     exact ⟨c,List.mem_cons_of_mem _ hc,hcg⟩
   ·refine ⟨_,List.mem_cons_self, ?_⟩
    by_cases hbad : (Lib.decodeL (x :: r)).1 = 65533∧(Lib.decodeL (x :: r)).2 = 1
    ·rw [hbad.1];decide
    ·have hs:=decodeN_small (x :: r).length ((x :: r).getD 0 0).toNat ((x :: r).getD 1 0).toNat ((x :: r).getD 2 0).toNat ((x :: r).getD 3 0).toNat (UInt8.toNat_lt _) (UInt8.toNat_lt _) (UInt8.toNat_lt _) (by rw [← Lib.decodeL_N];exact hbad)
     rw [← Lib.decodeL_N] at hs
     rcases hs with ⟨h,_⟩ | ⟨_,_,_,_,_,_,h⟩
     ·exact absurd h (by simpa using hx)
     ·exact h
theorem small_runes : ∀ (n : Nat) (l : List UInt8), l.length ≤ n → (∀ b ∈ l, b.toNat < 128) → runesD l = l.map (·.toNat)
 | 0,l,hl,_ => by
  have : l = []:=List.eq_nil_of_length_eq_zero (by omega)
  subst this;rfl
 | n + 1,l,hl,h => by
  cases l with
  | nil => rfl
  | cons x r =>
   rw [runesD_step _ (by simp),Lib.decodeL_ascii x r (h x (by simp)),List.map_cons]
   simp only [List.drop_succ_cons,List.drop_zero]
   rw [small_runes n r (by simp at hl;omega) (fun b hb => h b (by simp [hb]))]
theorem nameBad_great {c : Nat} (h : 128 ≤ c) : nameBad c = true := by unfold nameBad; simp; omega
theorem name_bytes (l : List UInt8) : (runesD l).any nameBad = l.any fun b => nameBad b.toNat := by
 by_cases h : ∃ b ∈ l,128 ≤ b.toNat
 ·obtain ⟨c,hc,hg⟩:=great_rune _ l (Nat.le_refl _) h
  obtain ⟨b,hb,hbg⟩:=h
  rw [List.any_eq_true.2 ⟨c,hc,nameBad_great hg⟩,List.any_eq_true.2 ⟨b,hb,nameBad_great hbg⟩]
 ·rw [small_runes _ l (Nat.le_refl _) (fun b hb => by
   rcases Nat.lt_or_ge b.toNat 128 with h1 | h1
   ·exact h1
   ·exact absurd ⟨b,hb,h1⟩ h),List.any_map]
  rfl
theorem namedS_bytes (s : ByteArray) : namedS s = (decide (1 ≤ s.size) && decide (s.size ≤ 16) && !(s.data.toList.any fun b => nameBad b.toNat)) := by
 rw [namedS_D,name_bytes]
 congr 2
 rw [Lib.toList_data,Lib.size_eq]
 cases s.data.toList <;> simp
end Go.Proofs.YtepoiefadjoabaaGreatDoor
namespace Go.Proofs.YtepoiefadjoabaaGreatDoor
open Go Go.RowKit
def azBad (c : Nat) : Bool := decide (c < 97) || decide (122 < c)
def azS (s : ByteArray) : Bool := decide (1 ≤ s.size) && decide (s.size ≤ 16) && !(s.data.toList.any fun b => azBad b.toNat)
theorem any_bytes {p : Nat → Bool} (hp : ∀ c, 128 ≤ c → p c = true) (l : List UInt8) : (runesD l).any p = l.any fun b => p b.toNat := by
 by_cases h : ∃ b ∈ l,128 ≤ b.toNat
 ·obtain ⟨c,hc,hg⟩:=great_rune _ l (Nat.le_refl _) h
  obtain ⟨b,hb,hbg⟩:=h
  rw [List.any_eq_true.2 ⟨c,hc,hp c hg⟩,List.any_eq_true.2 ⟨b,hb,hp _ hbg⟩]
 ·rw [small_runes _ l (Nat.le_refl _) (fun b hb => by
   rcases Nat.lt_or_ge b.toNat 128 with h1 | h1
   ·exact h1
   ·exact absurd ⟨b,hb,h1⟩ h),List.any_map]
  rfl
theorem azBad_great {c : Nat} (h : 128 ≤ c) : azBad c = true := by unfold azBad; simp; omega
structure PartV where
 name : ByteArray
 data : List UInt8
 a : Option Addr
 c : Nat
def partC (p : PartV) : List Value := [.string p.name, .slice p.a p.data.length p.c]
structure PartsAt (w : World) (l : List PartV) : Prop where
 at_ : ∀ p ∈ l,AtCells w p.a 1 (p.data.map byteC)
 none_ : ∀ p ∈ l,p.a = none → p.c = 0
 name : ∀ p ∈ l,p.name.size ≤ 1099511627776
 data : ∀ p ∈ l,p.data.length ≤ 1099511627776
theorem PartsAt.grows {w w' : World} {l : List PartV} (h : PartsAt w l) (hg : Grows w w') : PartsAt w' l := ⟨fun p hp => (h.at_ p hp).grows hg, h.none_, h.name, h.data⟩
def sum14 (l : List PartV) : Nat := (l.map fun p => p.data.length).sum
theorem sum14_snoc (l : List PartV) (p : PartV) : sum14 (l ++ [p]) = sum14 l + p.data.length := by simp [sum14]
theorem sum14_le {l : List PartV} {n : Nat} (h : ∀ p ∈ l, p.data.length ≤ n) : sum14 l ≤ l.length * n := by
 unfold sum14
 induction l with
 | nil => simp
 | cons p l ih =>
  rw [List.map_cons,List.sum_cons,List.length_cons,Nat.succ_mul]
  have:=ih (fun q hq => h q (by simp [hq]))
  have:=h p (by simp)
  omega
def dup14 : List PartV → List ByteArray → Bool
 | [],_ => false
 | p :: l,seen => (seen.any fun s => seq s p.name) || dup14 l (seen ++ [p.name])
def dupL (l : List PartV) : Bool := dup14 l []
def chk14 (l : List PartV) : Nat := if 64 < l.length ∨ 16777216 < sum14 l then 2 else if (l.any fun p => !azS p.name) = true then 1 else if dupL l = true then 4 else 0
def head14 (l : List PartV) : List UInt8 := l.flatMap fun p => putS p.name ++ putU p.data.length
def data14 (l : List PartV) : List UInt8 := l.flatMap fun p => p.data
def body14 (l : List PartV) : List UInt8 := ([72, 78, 75, 49] ++ putU l.length) ++ head14 l ++ data14 l
def file14 (l : List PartV) : List UInt8 := body14 l ++ leB 4 (crcSum (body14 l))
def JoinPost (l : List PartV) (w : World) (e : Ending) (w' : World) : Prop :=
 (chk14 l = 0 → ∃ v,e = .returned (.tuple #[v,.int .i64 0])∧Owns w' w.heap.size 5 1 byteC v (file14 l))∧(chk14 l ≠ 0 → e = .returned (.tuple #[.slice none 0 0,.int .i64 (chk14 l)]))∧Grows w w'
theorem data14_len (l : List PartV) : (data14 l).length = sum14 l := by simp [data14, sum14, List.length_flatMap]
theorem head14_snoc (l : List PartV) (p : PartV) : head14 (l ++ [p]) = head14 l ++ (putS p.name ++ putU p.data.length) := by simp [head14]
theorem data14_snoc (l : List PartV) (p : PartV) : data14 (l ++ [p]) = data14 l ++ p.data := by simp [data14]
theorem azS_len {l : List PartV} (h : (l.any fun p => !azS p.name) = false) : ∀ p ∈ l, p.name.size ≤ 16 := fun p hp => by
 have:=List.any_eq_false.1 h p hp
 simp only [azS,Bool.not_eq_true',Bool.not_eq_false,Bool.and_eq_true,decide_eq_true_eq] at this
 simp at this
 omega
theorem head14_len {l : List PartV} (h : ∀ p ∈ l, p.name.size ≤ 16) : (head14 l).length ≤ l.length * 36 := by
 unfold head14
 induction l with
 | nil => simp
 | cons p l ih =>
  rw [List.flatMap_cons,List.length_append,List.length_append,List.length_cons,Nat.succ_mul]
  have h1:=ih (fun q hq => h q (by simp [hq]))
  have h2:=h p (by simp)
  have h3:=putS_len p.name
  have h4:=putU_len p.data.length
  omega
theorem chk14_ok {l : List PartV} (h : chk14 l = 0) : l.length ≤ 64 ∧ sum14 l ≤ 16777216 ∧ (l.any fun p => !azS p.name) = false ∧ dupL l = false := by
 unfold chk14 at h
 split at h
 ·omega
 ·rename_i h1
  split at h
  ·omega
  ·rename_i h2
   split at h
   ·omega
   ·rename_i h3
    exact ⟨by omega,by omega,by simpa using h2,by simpa using h3⟩
theorem body14_len {l : List PartV} (h : chk14 l = 0) : (body14 l).length ≤ 16800000 := by
 obtain ⟨h1,h2,h3,_⟩:=chk14_ok h
 have h4:=head14_len (azS_len h3)
 have h5:=data14_len l
 have h6:=putU_len l.length
 unfold body14
 simp only [List.length_append,List.length_cons,List.length_nil]
 omega
end Go.Proofs.YtepoiefadjoabaaGreatDoor
namespace Go.Proofs.YtepoiefadjoabaaGreatDoor
open Go Go.RowKit
attribute [local go_sem] quietE quietE2
def posOne (p : PosV) : List UInt8 := putS p.name ++ putU p.kind.toNat
def posE (l : List PosV) : List UInt8 := putU l.length ++ l.flatMap posOne
theorem posE_snoc (l : List PosV) (p : PosV) : (l ++ [p]).flatMap posOne = l.flatMap posOne ++ posOne p := by simp
theorem posOne_len {p : PosV} (h : p.name.size ≤ 16) : (posOne p).length ≤ 40 := by
 have h1:=putS_len p.name
 have h2:=putU_len p.kind.toNat
 unfold posOne
 rw [List.length_append];omega
theorem posFlat_len {l : List PosV} (h : ∀ p ∈ l, p.name.size ≤ 16) : (l.flatMap posOne).length ≤ l.length * 40 := by
 induction l with
 | nil => simp
 | cons p l ih =>
  rw [List.flatMap_cons,List.length_append,List.length_cons,Nat.succ_mul]
  have h1:=ih (fun q hq => h q (by simp [hq]))
  have h2:=posOne_len (h p (by simp))
  omega
theorem namedS_size {s : ByteArray} (h : namedS s = true) : s.size ≤ 16 := by
 rw [namedS_bytes] at h
 simp only [Bool.and_eq_true,decide_eq_true_eq] at h
 exact h.1.2
theorem posAll_get (L : List PosV) : ∀ (l : List PosV) (i j : Nat) (p : PosV), posAll L l i = true → l[j]? = some p → posOK L (i + j) p = true
 | [],_,_,_,_,h => by simp at h
 | q :: l,i,0,p,h,hp => by
  rw [posAll] at h
  simp only [Bool.and_eq_true] at h
  obtain rfl : q = p:=by simpa using hp
  exact h.1
 | q :: l,i,j + 1,p,h,hp => by
  rw [posAll] at h
  simp only [Bool.and_eq_true] at h
  have:=posAll_get L l (i + 1) j p h.2 (by simpa using hp)
  rw [show i + (j + 1) = i + 1 + j by omega];exact this
theorem posValid_all {l : List PosV} (h : posValid l = true) : l.length ≤ 64 ∧ ∀ p ∈ l, p.name.size ≤ 16 ∧ 0 ≤ p.kind ∧ p.kind ≤ 2 := by
 unfold posValid at h
 cases l with
 | nil => cases h
 | cons q r =>
  simp only [Bool.and_eq_true,decide_eq_true_eq] at h
  refine ⟨by have:=h.1;simp at this ⊢;omega,fun p hp => ?_⟩
  obtain ⟨j,hj⟩:=List.mem_iff_getElem?.1 hp
  have:=posAll_get _ _ 0 j p h.2 hj
  unfold posOK at this
  simp only [Bool.and_eq_true,decide_eq_true_eq] at this
  exact ⟨namedS_size this.1.1.2,this.1.2,this.2⟩
set_option maxHeartbeats 2000000 in
set_option maxRecDepth 100000 in
theorem putUint2_any (xs : List UInt8) (a : Option Addr) (c n : Nat) (w : World) (hx : xs.length ≤ 1099511627776) (hv : n < 18446744073709551616) (hat : AtCells w a 1 (xs.map byteC)) (hn : a = none → c = 0) :
  Calls Tryz.prog 92 #[.slice a xs.length c,.int .u64 n] w fun e w' => ∃ v,e = .returned v∧Owns w' w.heap.size 5 1 byteC v (xs ++ putU n)∧Grows w w':=by
 have CC:=Lib.hid (clone_any xs a c w hx hat hn)
 clear hat hn
 go_enter Tryz.func92,Tryz.ntmps92
 go_wp2_with fail
 refine CC.out.mono ?_
 rintro e w1 ⟨v1,rfl,hown1,hg1⟩
 obtain ⟨a1,c1,rfl,h11,h12,hat1⟩:=hown1.at_ byteLay.len
 have hn1:=owns_none2 hown1
 go_wp2_with fail
 refine (clip_any xs a1 c1 w1 h11).mono ?_
 rintro e w2 ⟨rfl,rfl⟩
 have hsrc : Src w1 w.heap.size (.slice a1 xs.length xs.length) xs:=Or.inr ⟨a1,rfl,hat1,fun h => List.eq_nil_of_length_eq_zero (by have:=hn1 h;omega)⟩
 clear hown1 hat1 hn1 CC
 go_wp2_with fail
 go_loopw [0,1] (fun b v wr => ∃ (k : Nat) (pre : List UInt8),v = .int .u64 k∧Src wr w.heap.size b (xs ++ pre)∧Hid (pre ++ putU k = putU n)∧k < 18446744073709551616∧Grows w wr) (fun _ v _ => (intOf v).toNat)
 case atStart => exact ⟨n,[],rfl,by rw [List.append_nil];exact hsrc,rfl,hv,hg1⟩
 case round =>
  obtain ⟨k,pre,rfl,hs,hp,hk,hg⟩:=hrel
  have hpl : pre.length ≤ 10:=by
   have h1:=congrArg List.length hp.out
   have h2:=putU_len n
   rw [List.length_append] at h1
   omega
  by_cases h128 : 128 ≤ k
  ·have hki : (128 : Int) ≤ k:=by omega
   have hb:=Lib.hid (or128_nat k)
   rw [putU_big2 h128 hk] at hp
   go_wp2_with (at_builtin;refine app_src rfl _ _ rfl w.heap.size _ (xs ++ pre) (UInt8.ofNat (k % 128 + 128)) rfl hs (Grows.refl _) _ 1 rfl _ (by rw [hb.out];rfl) rfl (by rw [List.length_append];omega) hg.size ?_;intro v' w5 hown5 hg5)
   go_roundw
   case rel => exact ⟨k / 128,pre ++ [UInt8.ofNat (k % 128 + 128)],by go_num,Or.inl (by rw [← List.append_assoc];exact hown5),by show (pre ++ [_]) ++ putU (k / 128) = putU n;rw [List.append_assoc];exact hp.out,by omega,hg5 w hg (Nat.le_refl _)⟩
   case measure => simp [intOf];omega
  ·have hki : ¬ (128 : Int) ≤ k:=by omega
   have hb:=Lib.hid (low_nat (k:=k) (by omega))
   rw [putU_small (by omega)] at hp
   go_wp2_with (at_builtin;refine app_src rfl _ _ rfl w.heap.size _ (xs ++ pre) (UInt8.ofNat k) rfl hs (Grows.refl _) _ 1 rfl _ (by rw [hb.out];rfl) rfl (by rw [List.length_append];omega) hg.size ?_;intro v' w5 hown5 hg5)
   go_ret
   refine ⟨_,rfl, ?_,hg5 w hg (Nat.le_refl _)⟩
   rw [← hp.out,← List.append_assoc];exact hown5
set_option maxHeartbeats 1000000 in
theorem putText_any (xs : List UInt8) (a : Option Addr) (c : Nat) (s : ByteArray) (w : World) (hx : xs.length ≤ 1099511627776) (hs : s.size ≤ 1099511627776) (hat : AtCells w a 1 (xs.map byteC)) (hn : a = none → c = 0) :
  Calls Tryz.prog 93 #[.slice a xs.length c,.string s] w fun e w' => ∃ v,e = .returned v∧Owns w' w.heap.size 5 1 byteC v (xs ++ putS s)∧Grows w w':=by
 have hl:=putU_len s.size
 have hw : IntKind.u64.wrap (s.size : Int) = s.size:=by simp [IntKind.wrap,IntKind.bits,IntKind.signed];omega
 have CU:=Lib.hid (putUint2_any xs a c s.size w hx (by omega) hat hn)
 clear hat hn
 go_enter Tryz.func93,Tryz.ntmps93
 go_wp2_with fail
 refine CU.out.mono ?_
 rintro e w1 ⟨v1,rfl,hown1,hg1⟩
 go_wp2_with (at_builtin;refine app_str rfl _ _ rfl w.heap.size _ _ s rfl hown1 (Grows.refl _) rfl (by rw [List.length_append];omega) hg1.size ?_;intro v2 w2 hown2 hg2 _)
 go_ret
 exact ⟨_,rfl,by unfold putS;rw [← List.append_assoc];exact hown2,hg2 w hg1 (Nat.le_refl _)⟩
end Go.Proofs.YtepoiefadjoabaaGreatDoor
namespace Go.Proofs.YtepoiefadjoabaaGreatDoor
open Go Go.RowKit
attribute [local go_sem] quietE quietE2
set_option maxHeartbeats 2000000 in
set_option maxRecDepth 100000 in
theorem posEnc_any (l : List PosV) (a : Option Addr) (c : Nat) (w : World) (hv : posValid l = true) (hat : AtCells w a 2 (l.map posCells)) :
  Calls Tryz.prog 37 #[.slice a l.length c] w fun e w' => ∃ v,e = .returned (.tuple #[v,.int .i64 0])∧Owns w' w.heap.size 5 1 byteC v (posE l)∧Grows w w':=by
 obtain ⟨hl64,hall⟩:=posValid_all hv
 have HALL:=Lib.hid hall
 have CC:=Lib.hid (check_any l a c w hat (by omega))
 rw [hv] at CC
 have HAT:=Lib.hid hat
 have hul:=putU_len l.length
 have hwl : IntKind.u64.wrap (l.length : Int) = l.length:=by simp [IntKind.wrap,IntKind.bits,IntKind.signed];omega
 have hk0 : chkI true = 0:=rfl
 rw [hk0] at CC
 clear hall hat hv hk0
 go_enter Tryz.func37,Tryz.ntmps37
 go_wp2_with fail
 refine CC.out.mono ?_
 rintro e w1 ⟨rfl,hg1⟩
 go_wp2_with fail
 refine (putUint2_any [] none 0 l.length w1 (by simp) (by omega) (AtCells.nil _ _ _) (fun _ => rfl)).mono ?_
 rintro e w2 ⟨v2,rfl,hown2,hg2⟩
 rw [List.nil_append] at hown2
 have hgw2:=hg1.tr hg2
 replace hown2:=hown2.base (base':=w.heap.size) hg1.size
 clear hg1 hg2 CC
 go_wp2_with fail
 go_loopw [5,19] (fun out i wr => ∃ (k : Nat) (acc : List UInt8),k ≤ l.length∧i = .int .i64 k∧Hid (acc = putU l.length ++ (l.take k).flatMap posOne)∧Owns wr w.heap.size 5 1 byteC out acc∧Grows w wr) (fun _ i _ => l.length - (intOf i).toNat)
 case atStart => exact ⟨0,_,Nat.zero_le _,rfl,(by show _ = _;simp),hown2,hgw2⟩
 case round =>
  obtain ⟨k,acc,hk,rfl,hacc,hown,hg⟩:=hrel
  have hal : acc.length ≤ 10 + k * 40:=by
   rw [hacc.out,List.length_append]
   have h1:=posFlat_len (l:=l.take k) (fun p hp => (HALL.out p (List.mem_of_mem_take hp)).1)
   rw [List.length_take] at h1
   have h2 : min k l.length * 40 ≤ k * 40:=Nat.mul_le_mul_right _ (by omega)
   omega
  by_cases hlt : k < l.length
  ·obtain ⟨p,hp⟩ : ∃ p,l[k]? = some p:=⟨_,List.getElem?_eq_getElem hlt⟩
   obtain ⟨b,o,rfl,hc⟩:=AtCells.get (enc:=posCells) HAT.out (ne_nil_of_lt hlt)
   obtain ⟨pn,pk⟩:=p
   have c0 : wr.cell? ⟨b,o + k * 2,none⟩ = some (.string pn):=hg.cell (hc k _ hp 0 _ rfl)
   have c1 : wr.cell? ⟨b,o + k * 2 + 1,none⟩ = some (.int .i64 pk):=hg.cell (hc k _ hp 1 _ rfl)
   obtain ⟨hnm,hk0,hk2⟩:=HALL.out _ (List.mem_of_getElem? hp)
   simp only at hnm hk0 hk2
   obtain ⟨kd,rfl⟩ : ∃ kd : Nat,pk = kd:=⟨pk.toNat,by omega⟩
   have hpsl:=putS_len pn
   have hpul:=putU_len kd
   have hwk : IntKind.u64.wrap (kd : Int) = kd:=by simp [IntKind.wrap,IntKind.bits,IntKind.signed];omega
   have HN : Hid ((acc ++ putS pn) ++ putU kd = putU l.length ++ (l.take (k + 1)).flatMap posOne):=by
    show _ = _
    rw [takeSnoc hp,posE_snoc,hacc.out]
    simp only [List.append_assoc,posOne,Int.toNat_natCast]
   have hki : (k : Int) < l.length:=by omega
   have z0 : ∀ x : Ext Grows (wr.alloc (.cells #[.string pn,.int .i64 kd] 60)).drew,x.u.cell? ⟨wr.heap.size,0,none⟩ = some (.string pn):=ext_cell (cell_box wr _ _ (0,0) 0 _ rfl)
   have z1 : ∀ x : Ext Grows (wr.alloc (.cells #[.string pn,.int .i64 kd] 60)).drew,x.u.cell? ⟨wr.heap.size,1,none⟩ = some (.int .i64 kd):=ext_cell (cell_box wr _ _ (0,0) 1 _ rfl)
   obtain ⟨ao,co,rfl,_,_,hato⟩:=hown.at_ byteLay.len
   have hno:=owns_none2 hown
   have hgb : Grows wr (wr.alloc (.cells #[.string pn,.int .i64 kd] 60)):=Grows.alloc _ _
   clear hp hacc hc hown
   go_wp2_with fail
   refine t_region (Grows) [(0,false),(1,false),(2,false),(4,false),(5,false),(6,false),(3,true),(7,true),(8,true)] Grows.refl Grows.trans (by kernel_rfl) (by kernel_rfl) (fun d _ _ _ _ h => by cases d <;> exact h) ?_
   iterate 6 (refine t_quiet rfl (fun K hK => ?_);go_simp;refine hK _ ?_;clear hK K)
   clear z0 z1
   refine t_late rfl rfl (fun K hK => ?_)
   go_simp
   refine (putText_any acc ao co pn _ (by omega) (by omega) (hato.grows (hgb.dr)) hno).mono ?_
   rintro e w3 ⟨v3,rfl,hown3,hg3⟩;obtain ⟨B3,hB3⟩ : ∃ B,B = acc ++ putS pn:=⟨_,rfl⟩;rw [← hB3] at hown3;have hb3 : B3.length ≤ 10000:=(by rw [hB3,List.length_append];omega);have HB3:=Lib.hid hB3;clear hB3;obtain ⟨a3,c3,rfl,_,_,hat3⟩:=hown3.at_ byteLay.len;have hn3:=owns_none2 hown3;clear hown3
   refine ⟨hg3,hK _ _ ?_⟩
   clear hK K
   refine t_late rfl rfl (fun K hK => ?_)
   go_simp
   refine (putUint2_any B3 a3 c3 kd _ (by omega) (by omega) hat3 hn3).mono ?_
   rintro e w4 ⟨v4,rfl,hown4,hg4⟩
   refine ⟨hg4,hK _ _ ?_⟩
   clear hK K
   iterate 1 (refine t_late rfl rfl (fun K hK => ?_);go_simp;refine ⟨Grows.refl _,hK _ _ ?_⟩;clear hK K)
   refine t_end ?_
   have hg34:=hg.tr ((hgb.dr).tr hg3)
   go_wp2_with fail
   go_roundw
   case rel => exact ⟨k + 1,_,hlt,by go_num,(by show _ = _;rw [← HN.out,HB3.out]),hown4.base hg34.size,hg34.tr hg4⟩
   case measure => simp [intOf];omega
  ·have hki : ¬ (k : Int) < l.length:=by omega
   have HF : Hid (acc = posE l):=by
    show _ = _
    rw [hacc.out,List.take_of_length_le (by omega)];rfl
   clear hacc
   go_wp2_with fail
   refine bodyPost_ret (v:=.tuple #[_,.int .i64 0]) (by simp [results,Tryz.results37,go_sem];rfl) rfl ⟨_,rfl,by rw [← HF.out];exact hown,hg⟩
end Go.Proofs.YtepoiefadjoabaaGreatDoor
namespace Go.Proofs.YtepoiefadjoabaaGreatDoor
open Go Go.RowKit
attribute [local go_sem] quietE quietE2
theorem crc_cells (n : Nat) (hn : n < 4294967296) : (#[Value.int .u8 ((n : Int) % 256), .int .u8 ((n : Int) / 256 % 256), .int .u8 ((n : Int) / 65536 % 256), .int .u8 ((n : Int) / 16777216)] : Array Value).toList = (leB 4 n).flatMap byteC := by
 have h : leB 4 n = [UInt8.ofNat n,UInt8.ofNat (n / 256),UInt8.ofNat (n / 65536),UInt8.ofNat (n / 16777216)]:=by
  unfold leB
  simp [List.range_succ]
 rw [h,flat_bytes]
 simp only [List.map_cons,List.map_nil,UInt8.toNat_ofNat']
 rw [Nat.mod_eq_of_lt (show n / 16777216 < 2 ^ 8 by omega)]
 congr 1
end Go.Proofs.YtepoiefadjoabaaGreatDoor
namespace Go.Proofs.YtepoiefadjoabaaGreatDoor
open Go Go.RowKit Go.Shelf
attribute [local go_sem] quietE quietE2
theorem crc_half {R q : Nat} (hR : R < 4294967296) (hq : crc4 R = R / 16 ^^^ q) (hql : q < 4294967296) : bits .xor .u32 ((R : Int) / 16) (q : Int) = ((crc4 R : Nat) : Int) := by
 have h:=u32_xor_nat (R / 16) q (by omega) hql
 rw [hq,← h]
 rfl
theorem quarter_lt : ∀ (i q : Nat), quarterT[i]? = some q → q < 4294967296 := by
 intro i q h
 have h1:=List.mem_of_getElem? h
 simp [quarterT] at h1
 omega
theorem and15I {R : Nat} (hR : R < 4294967296) : bits .and .u32 (R : Int) 15 = ((R % 16 : Nat) : Int) := by
 have h:=u32_and_nat R 15 hR (by decide)
 rw [nat_mask4] at h
 exact h
set_option maxHeartbeats 4000000 in
set_option maxRecDepth 100000 in
theorem crcAdd_any (b : List UInt8) (a : Option Addr) (c : Nat) (w : World) (he : Env w) (hb : b.length ≤ 1099511627776) (hat : AtCells w a 1 (b.map byteC)) :
  Calls Tryz.prog 155 #[.int .u32 0,.slice a b.length c] w fun e w' => e = .returned (.int .u32 (crcSum b))∧w = w':=by
 have HAT:=Lib.hid hat
 clear hat
 go_enter Tryz.func155,Tryz.ntmps155
 go_wp2_with fail
 go_loop [5,12] (fun r i => ∃ k R : Nat,k ≤ b.length∧i = .int .i64 k∧r = .int .u32 R∧R < 4294967296∧Hid (R = crcGo 4294967295 (b.take k))) (fun _ i => b.length - (intOf i).toNat)
 case atStart => exact ⟨0,4294967295,Nat.zero_le _,rfl,rfl,by decide,rfl⟩
 case round =>
  obtain ⟨k,R,hk,rfl,rfl,hR,hinv⟩:=hrel
  by_cases hlt : k < b.length
  ·obtain ⟨x,hx⟩ : ∃ x,b[k]? = some x:=⟨_,List.getElem?_eq_getElem hlt⟩
   obtain ⟨bb,bo,rfl,hc⟩:=at1 HAT.out (ne_nil_of_lt hlt)
   have hcx:=hc k x hx
   have HN : Hid (crc8 (R ^^^ x.toNat) = crcGo 4294967295 (b.take (k + 1))):=by show _ = _;rw [takeSnoc hx,crcGo_snoc,← hinv.out]
   have hx256:=x.toNat_lt
   have hxo:=u32_xor_nat R x.toNat hR (by omega)
   obtain ⟨X,hX⟩ : ∃ X,X = R ^^^ x.toNat:=⟨_,rfl⟩
   have hXl : X < 4294967296:=by rw [hX];exact Nat.xor_lt_two_pow (n:=32) hR (by omega)
   rw [← hX] at hxo HN
   obtain ⟨q1,hq1,hs1⟩:=crc4_table X
   obtain ⟨Y,hY⟩ : ∃ Y,Y = crc4 X:=⟨_,rfl⟩
   have hYl : Y < 4294967296:=by rw [hY];exact crc4_lt hXl
   have e1:=crc_half hXl hs1 (quarter_lt _ _ hq1)
   rw [← hY] at e1
   obtain ⟨q2,hq2,hs2⟩:=crc4_table Y
   obtain ⟨Z,hZ⟩ : ∃ Z,Z = crc4 Y:=⟨_,rfl⟩
   have hZl : Z < 4294967296:=by rw [hZ];exact crc4_lt hYl
   have e2:=crc_half hYl hs2 (quarter_lt _ _ hq2)
   rw [← hZ] at e2
   have HN2 : Hid (Z = crcGo 4294967295 (b.take (k + 1))):=by show _ = _;rw [hZ,hY,← HN.out];rfl
   have a1:=and15I hXl
   have a2:=and15I hYl
   obtain ⟨i1,hi1⟩ : ∃ i1,i1 = X % 16:=⟨_,rfl⟩
   obtain ⟨i2,hi2⟩ : ∃ i2,i2 = Y % 16:=⟨_,rfl⟩
   rw [← hi1] at a1 hq1
   rw [← hi2] at a2 hq2
   have g1:=he.crc i1 q1 hq1
   have g2:=he.crc i2 q2 hq2
   have l1 : (i1 : Int) < 16:=by omega
   have l2 : (i2 : Int) < 16:=by omega
   clear hc hx hinv hX hY hZ hq1 hq2 hs1 hs2 HN hi1 hi2
   go_wp2_with fail
   go_round
   case rel => exact ⟨k + 1,Z,hlt,by go_num,rfl,hZl,HN2.out⟩
   case measure => simp [intOf];omega
  ·have hke : k = b.length:=by omega
   have hki : ¬ (k : Int) < b.length:=by omega
   have hcs : R ^^^ 4294967295 = crcSum b:=by rw [hinv.out,hke,List.take_length];rfl
   have hx : bits .xor .u32 IntKind.u32.max (R : Int) = ((crcSum b : Nat) : Int):=by
    rw [← hcs,Nat.xor_comm]
    exact u32_xor_nat 4294967295 R (by decide) hR
   clear hinv hke hcs
   go_wp2_with fail
   go_ret
   exact ⟨rfl,rfl⟩
set_option maxHeartbeats 400000 in
theorem crcSum_any (b : List UInt8) (a : Option Addr) (c : Nat) (w : World) (he : Env w) (hb : b.length ≤ 1099511627776) (hat : AtCells w a 1 (b.map byteC)) :
  Calls Tryz.prog 102 #[.slice a b.length c] w fun e w' => e = .returned (.int .u32 (crcSum b))∧w = w':=by
 go_enter Tryz.func102,Tryz.ntmps102
 go_wp2_with fail
 refine (crcAdd_any b a c w he hb hat).mono ?_
 rintro e w1 ⟨rfl,rfl⟩
 go_wp2_with fail
 go_ret
 exact ⟨rfl,rfl⟩
set_option maxHeartbeats 1000000 in
theorem sumBytes_any (b : List UInt8) (a : Option Addr) (c : Nat) (w : World) (he : Env w) (hb : b.length ≤ 1099511627776) (hat : AtCells w a 1 (b.map byteC)) :
  Calls Tryz.prog 58 #[.slice a b.length c] w fun e w' => ∃ v,e = .returned v∧Owns w' w.heap.size 5 1 byteC v (leB 4 (crcSum b))∧Grows w w':=by
 have hcl : crcSum b < 4294967296:=Nat.xor_lt_two_pow (n:=32) (crcGo_lt _ (by decide)) (by decide)
 have CS:=Lib.hid (crcSum_any b a c w he hb hat)
 obtain ⟨n,hn⟩ : ∃ n,n = crcSum b:=⟨_,rfl⟩
 rw [← hn] at hcl CS ⊢
 have HH:=Lib.hid (crc_cells n hcl)
 clear hn
 go_enter Tryz.func58,Tryz.ntmps58
 go_wp2_with fail
 refine CS.out.mono ?_
 rintro e w1 ⟨rfl,rfl⟩
 go_wp2_with fail
 go_ret
 exact ⟨_,rfl,owns_box (enc:=byteC) (fun _ => rfl) (Nat.le_refl _) (leB 4 n) HH.out (n:=4) (by simp [leB_len]) (by decide),Grows.alloc _ _⟩
end Go.Proofs.YtepoiefadjoabaaGreatDoor
namespace Go.Proofs.YtepoiefadjoabaaGreatDoor
open Go Go.RowKit Go.Shelf
attribute [local go_sem] quietE quietE2
set_option maxHeartbeats 1000000 in
theorem isName1_any (w : World) : PredAt Tryz.prog 199 #[] encR azBad w := fun W x _ => by
 unfold FnGives
 show Calls Tryz.prog 199 #[.int .i32 (x : Int)] W _
 go_enter Tryz.func199,Tryz.ntmps199
 go_wp2
 all_goals (go_ret;refine ⟨ret_bool ?_,0,rfl⟩;rw [Bool.eq_iff_iff];simp [azBad];try omega)
set_option maxHeartbeats 1000000 in
theorem isName_any (s : ByteArray) (w : World) (hs : s.size ≤ 9223372036854775807) :
  Calls Tryz.prog 150 #[.string s] w fun e w' => e = .returned (.bool (azS s))∧Grows w w':=by
 have con:=Lib.hid (Tryz.strings_ContainsFunc 199 #[] (enters_of Tryz.func199 (by kernel_rfl) rfl) azBad s w (isName1_any w))
 rw [idx_D,any_bytes (fun c h => azBad_great h)] at con
 unfold azS
 generalize (s.data.toList.any fun b => azBad b.toNat) = r at con ⊢
 by_cases h1 : 1 ≤ s.size
 ·have g1 : (1 : Int) ≤ s.size:=by omega
  by_cases hz : s.size ≤ 16
  ·have hz' : (s.size : Int) ≤ 16:=by omega
   go_enter Tryz.func150,Tryz.ntmps150
   go_wp2_with (go_at_call 183;refine con.out.mono ?_;rintro e w' ⟨rfl,hg2⟩)
   go_ret
   exact ⟨ret_bool (by simp [h1,hz]),hg2⟩
  ·have hz' : ¬ (s.size : Int) ≤ 16:=by omega
   go_enter Tryz.func150,Tryz.ntmps150
   go_wp2
   go_ret
   exact ⟨ret_bool (by simp <;> omega),Grows.refl _⟩
 ·have g1 : ¬ (1 : Int) ≤ s.size:=by omega
  go_enter Tryz.func150,Tryz.ntmps150
  go_wp2
  go_ret
  exact ⟨ret_bool (by simp <;> omega),Grows.refl _⟩
theorem plainElem_bool_inv {H : Type} {P : Program} {e : TypeId} (he : P.underlying e = some .bool) {v : Value} {z : DataW H × List MemPlace} (h : plainElem P e v = some z) : ∃ b, v = .bool b ∧ z = (.lit (.bool b), []) := by
 unfold plainElem at h
 rw [he] at h
 cases v <;> simp at h
 exact ⟨_,rfl,h.symm⟩
theorem zeroB (w : World) : (zeroValue 4).run Tryz.prog w = .ok (.bool false) w := by kernel_rfl
def SeenM (l : List ByteArray) (D : DataW Unit) : Prop := ∀ s : ByteArray, s.size ≤ maxLen → D.atKey (.string s.data.toList) (.lit (.bool false)) = .lit (.bool (l.any fun t => seq t s))
theorem seenM_look {w : World} {b n : Nat} {D : DataW Unit} {l : List ByteArray} (hM : SeenM l D) (hown : w.ownsMap Tryz.prog 9 (plainElem Tryz.prog 4) b n D) {s : ByteArray} (hs : s.size ≤ maxLen) :
  (Instr.lookup 203 (.map (some b)) (.string s) false).run Tryz.prog w = .ok (.bool (l.any fun t => seq t s)) w:=by
 obtain ⟨v,ps,hrun,hv⟩:=hown.lookup (Maps.string_keyed Tryz.underlying9) Tryz.underlying203 (zeroB w) (plainElem_bool Tryz.underlying4 false) (WideMaps.keyOf_string_mk Tryz.underlying9 hs)
 obtain ⟨c,rfl,hc⟩:=plainElem_bool_inv Tryz.underlying4 hv
 simp only [Prod.mk.injEq] at hc
 rw [hM s hs] at hc
 have : c = l.any fun t => seq t s:=by have:=hc.1;simpa using this.symm
 rw [← this];exact hrun
theorem seenM_put {b n : Nat} {w : World} {D : DataW Unit} {l : List ByteArray} (hM : SeenM l D) (hown : w.ownsMap Tryz.prog 9 (plainElem Tryz.prog 4) b n D) (s : ByteArray) : SeenM (l ++ [s]) (D.put (.string s.data.toList) (.lit (.bool true))) := fun t ht => by
 by_cases h : s = t
 ·subst h
  rw [Maps.atKey_put_same hown.isMap (k:=.string s.data.toList) trivial]
  simp [seq_iff]
 ·have hne : (Lit.string t.data.toList) ≠ .string s.data.toList:=fun h2 => h (by
   injection h2 with h3
   exact bytes_ext h3.symm)
  rw [Maps.atKey_put_other hne,hM t ht,List.any_append]
  have : seq s t = false:=seq_false.2 h
  simp [this]
theorem dup14_snoc : ∀ (l : List PartV) (p : PartV) (seen : List ByteArray), dup14 (l ++ [p]) seen = (dup14 l seen || (seen ++ l.map (·.name)).any fun s => seq s p.name)
 | [],p,seen => by simp [dup14]
 | q :: l,p,seen => by
  rw [List.cons_append,dup14,dup14_snoc l p (seen ++ [q.name]),dup14]
  simp [Bool.or_assoc,List.append_assoc]
set_option maxHeartbeats 8000000 in
set_option maxRecDepth 100000 in
theorem chk14_any (l : List PartV) (a : Option Addr) (c : Nat) (w : World) (hl : l.length ≤ 1000000) (hat : AtCells w a 2 (l.map partC)) (hpa : PartsAt w l) :
  Calls Tryz.prog 96 #[.slice a l.length c] w fun e w' => e = .returned (.int .i64 (chk14 l))∧Grows w w':=by
 have HD:=Lib.hid hpa.data
 have HNM:=Lib.hid hpa.name
 clear hpa
 have hcells : ∀ k p,l[k]? = some p → ∃ b o,a = some ⟨b,o,none⟩∧w.cell? ⟨b,o + k * 2,none⟩ = some (.string p.name)∧w.cell? ⟨b,o + k * 2 + 1,none⟩ = some (.slice p.a p.data.length p.c):=by
  intro k p hp
  obtain ⟨b,o,ha,hc⟩:=AtCells.get (enc:=partC) hat (ne_nil_of_lt (List.getElem?_eq_some_iff.1 hp).1)
  exact ⟨b,o,ha,hc k p hp 0 _ rfl,hc k p hp 1 _ rfl⟩
 have HC:=Lib.hid hcells
 clear hcells hat
 have hmm:=@run_makeMap Tryz.prog
 go_enter Tryz.func96,Tryz.ntmps96
 go_wp2_with fail
 have hmap0:=World.ownsMap_made w Tryz.prog 9 (plainElem (H:=Unit) Tryz.prog 4)
 have hgw1 : Grows w (w.alloc (.map #[] 0)):=Grows.alloc _ _
 have hbw : w.heap.size < (w.alloc (.map #[] 0)).heap.size:=by simp
 obtain ⟨mb,hmb⟩ : ∃ mb,mb = w.heap.size:=⟨_,rfl⟩
 generalize w.alloc (.map #[] 0) = w1 at hmap0 hgw1 hbw ⊢
 rw [← hmb] at hmap0 hbw ⊢
 have HMB:=Lib.hid hmb
 clear hmb hmm
 go_loopw [3,13] (fun n i wr => ∃ k N : Nat,k ≤ l.length∧i = .int .i64 k∧n = .int .i64 N∧N ≤ k * 1099511627776∧Hid (N = sum14 (l.take k))∧Grows w1 wr) (fun _ i _ => l.length - (intOf i).toNat)
 case atStart => exact ⟨0,0,Nat.zero_le _,rfl,rfl,by omega,rfl,Grows.refl _⟩
 case round =>
  obtain ⟨k,N,hk,rfl,rfl,hN,hinv,hg⟩:=hrel
  by_cases hlt : k < l.length
  ·obtain ⟨p,hp⟩ : ∃ p,l[k]? = some p:=⟨_,List.getElem?_eq_getElem hlt⟩
   obtain ⟨b,o,rfl,d0,d1⟩:=HC.out k p hp
   have c0:=(hgw1.tr hg).cell d0
   have c1:=(hgw1.tr hg).cell d1
   have hd:=HD.out p (List.mem_of_getElem? hp)
   have HS : Hid (N + p.data.length = sum14 (l.take (k + 1))):=by show _ = _;rw [takeSnoc hp,sum14_snoc,← hinv.out]
   have hki : (k : Int) < l.length:=by omega
   clear hp hinv d0 d1
   go_wp2_with fail
   go_roundw
   case rel => exact ⟨k + 1,N + p.data.length,hlt,by go_num,by go_num,by omega,HS.out,hg.al _⟩
   case measure => simp [intOf];omega
  ·have hke : k = l.length:=by omega
   have hki : ¬ (k : Int) < l.length:=by omega
   have hNs : N = sum14 l:=by rw [hinv.out,hke,List.take_length]
   have HN:=Lib.hid hNs
   clear hinv hke hNs
   by_cases hbig : 64 < l.length ∨ 16777216 < N
   ·have HF : Hid (chk14 l = 2):=by show _ = _;unfold chk14;rw [← HN.out,if_pos hbig]
    by_cases h64 : 64 < l.length
    ·have h64i : (64 : Int) < l.length:=by omega
     go_wp2_with fail
     go_ret
     exact ⟨by rw [HF.out];rfl,hgw1.tr hg⟩
    ·have h64i : ¬ (64 : Int) < l.length:=by omega
     have hbi : (16777216 : Int) < N:=by omega
     clear hbig
     go_wp2_with fail
     go_ret
     exact ⟨by rw [HF.out];rfl,hgw1.tr hg⟩
   ·have h64 : l.length ≤ 64:=by omega
    have h64i : ¬ (64 : Int) < l.length:=by omega
    have hbi : ¬ (16777216 : Int) < N:=by omega
    have HF : Hid (chk14 l = if (l.any fun p => !azS p.name) = true then 1 else if dupL l = true then 4 else 0):=by show _ = _;unfold chk14;rw [← HN.out,if_neg hbig]
    have hmapr:=ownsMap_grows hmap0 hg
    have hgr:=hgw1.tr hg
    clear hbig HN hmap0
    go_wp2_with fail
    obtain ⟨u0,rfl⟩ : ∃ u0,u0 = wr:=⟨_,rfl⟩
    go_loopw [5,32] (fun e i wr => ∃ (k E : Nat) (D : DataW Unit),k ≤ l.length∧i = .int .i64 k∧e = .int .i64 E∧Hid (((l.take k).any fun p => !azS p.name) = false∧E = (if dupL (l.take k) = true then 4 else 0)∧SeenM ((l.take k).map (·.name)) D)∧wr.ownsMap Tryz.prog 9 (plainElem Tryz.prog 4) mb k D∧mb < wr.heap.size∧Grows w wr) (fun _ i _ => l.length - (intOf i).toNat)
    case atStart => exact ⟨0,0,.map [],Nat.zero_le _,rfl,rfl,⟨rfl,rfl,fun s _ => rfl⟩,hmapr,Nat.lt_of_lt_of_le hbw hg.size,hgr⟩
    case round =>
     obtain ⟨k,E,D,hk,rfl,rfl,hinv,hown,hmbl,hg⟩:=hrel
     by_cases hlt : k < l.length
     ·obtain ⟨p,hp⟩ : ∃ p,l[k]? = some p:=⟨_,List.getElem?_eq_getElem hlt⟩
      obtain ⟨b,o,rfl,d0,d1⟩:=HC.out k p hp
      have c0:=hg.cell d0
      have c1:=hg.cell d1
      have hnm:=HNM.out p (List.mem_of_getElem? hp)
      have con:=fun W => isName_any p.name W (by omega)
      have hnml : p.name.size ≤ maxLen:=by unfold maxLen;omega
      obtain ⟨i1,i2,i3⟩:=hinv.out
      have hki : (k : Int) < l.length:=by omega
      cases haz : azS p.name
      ·have HB : Hid (chk14 l = 1):=by
        show _ = _
        rw [HF.out,if_pos (List.any_eq_true.2 ⟨p,List.mem_of_getElem? hp,by rw [haz];rfl⟩)]
       rw [haz] at con
       clear hp hinv haz i1 i2 i3 d0 d1
       go_wp2_with fail
       refine (con _).mono ?_
       rintro e w2 ⟨rfl,hg2⟩
       go_wp2_with fail
       go_ret
       exact ⟨by rw [HB.out];rfl,(hg.al _).tr hg2⟩
      ·have HI : Hid (((l.take (k + 1)).any fun p => !azS p.name) = false):=by
        show _ = _
        rw [takeSnoc hp,List.any_append,i1]
        simp [haz]
       have hdu : dupL (l.take (k + 1)) = (dupL (l.take k) || ((l.take k).map (·.name)).any fun s => seq s p.name):=by
        unfold dupL
        rw [takeSnoc hp,dup14_snoc,List.nil_append]
       have HNS : Hid ((l.take (k + 1)).map (·.name) = (l.take k).map (·.name) ++ [p.name]):=by show _ = _;rw [takeSnoc hp,List.map_append];rfl
       rw [haz] at con
       have HDU:=Lib.hid hdu
       have HI2:=Lib.hid i2
       have HI3:=Lib.hid i3
       have hM:=seenM_put i3 hown p.name
       have HM:=Lib.hid hM
       clear hp hinv haz i1 i2 d0 d1 hdu hM
       cases hseen : ((l.take k).map (·.name)).any fun s => seq s p.name
       ·have HE : Hid (E = if dupL (l.take (k + 1)) = true then 4 else 0):=by show _ = _;rw [HDU.out,hseen,Bool.or_false];exact HI2.out
        have hlk:=fun (W : World) (hW : W.ownsMap Tryz.prog 9 (plainElem Tryz.prog 4) mb k D) => seenM_look i3 hW hnml
        rw [hseen] at hlk
        clear i3 hseen
        go_wp2_with fail
        refine (con _).mono ?_
        rintro e w2 ⟨rfl,hg2⟩
        have hown2:=ownsMap_grows hown ((Grows.alloc _ _).tr hg2)
        have x0 : w2.cell? ⟨wr.heap.size,0,none⟩ = some (.string p.name):=hg2.cell (cell_box wr _ _ (0,0) 0 _ rfl)
        have hlk2:=hlk _ hown2
        have hgw2:=(hg.al _).tr hg2
        go_wp2_with (at_mapUpdate;refine wpList_mapUpdate_own _ rfl _ _ _ 203 rfl 9 4 (Maps.string_keyed Tryz.underlying9) Tryz.underlying203 _ mb k D rfl hown2 (by unfold maxLen;omega) _ _ (.string p.name.data.toList) rfl rfl (WideMaps.keyOf_string_mk Tryz.underlying9 hnml) _ [] (plainElem_bool Tryz.underlying4 true) ?_;intro w3 hown3 hgrow3)
        go_roundw
        case rel => exact ⟨k + 1,E,_,hlt,by go_num,rfl,⟨HI.out,HE.out,by rw [HNS.out];exact HM.out⟩,hown3,Nat.lt_of_lt_of_le (Nat.lt_of_lt_of_le (Nat.lt_of_lt_of_le hmbl (Grows.alloc _ _).size) hg2.size) hgrow3.size,hgw2.grown hgrow3 (fun q hq => by cases hq;exact Nat.le_of_eq HMB.out.symm)⟩
        case measure => simp [intOf];omega
       ·have HE : Hid (4 = if dupL (l.take (k + 1)) = true then 4 else 0):=by show _ = _;rw [HDU.out,hseen,Bool.or_true];rfl
        have hlk:=fun (W : World) (hW : W.ownsMap Tryz.prog 9 (plainElem Tryz.prog 4) mb k D) => seenM_look i3 hW hnml
        rw [hseen] at hlk
        clear i3 hseen
        go_wp2_with fail
        refine (con _).mono ?_
        rintro e w2 ⟨rfl,hg2⟩
        have hown2:=ownsMap_grows hown ((Grows.alloc _ _).tr hg2)
        have x0 : w2.cell? ⟨wr.heap.size,0,none⟩ = some (.string p.name):=hg2.cell (cell_box wr _ _ (0,0) 0 _ rfl)
        have hlk2:=hlk _ hown2
        have hgw2:=(hg.al _).tr hg2
        go_wp2_with (at_mapUpdate;refine wpList_mapUpdate_own _ rfl _ _ _ 203 rfl 9 4 (Maps.string_keyed Tryz.underlying9) Tryz.underlying203 _ mb k D rfl hown2 (by unfold maxLen;omega) _ _ (.string p.name.data.toList) rfl rfl (WideMaps.keyOf_string_mk Tryz.underlying9 hnml) _ [] (plainElem_bool Tryz.underlying4 true) ?_;intro w3 hown3 hgrow3)
        go_roundw
        case rel => exact ⟨k + 1,4,_,hlt,by go_num,rfl,⟨HI.out,HE.out,by rw [HNS.out];exact HM.out⟩,hown3,Nat.lt_of_lt_of_le (Nat.lt_of_lt_of_le (Nat.lt_of_lt_of_le hmbl (Grows.alloc _ _).size) hg2.size) hgrow3.size,hgw2.grown hgrow3 (fun q hq => by cases hq;exact Nat.le_of_eq HMB.out.symm)⟩
        case measure => simp [intOf];omega
     ·have hke : k = l.length:=by omega
      have hki : ¬ (k : Int) < l.length:=by omega
      have HB : Hid (chk14 l = E):=by
       obtain ⟨i1,i2,_⟩:=hinv.out
       show _ = _
       rw [hke,List.take_length] at i1 i2
       rw [HF.out,i1,i2];simp
      clear hinv hke
      go_wp2_with fail
      go_ret
      exact ⟨by rw [HB.out];rfl,hg⟩
end Go.Proofs.YtepoiefadjoabaaGreatDoor
namespace Go.Proofs.YtepoiefadjoabaaGreatDoor
open Go Go.RowKit Go.Shelf
attribute [local go_sem] quietE quietE2
theorem at_box {α : Type} {enc : α → List Value} {k : Nat} (hk : ∀ x, (enc x).length = k) {w : World} {cs : Array Value} {t : TypeId} {fz : Nat × Nat} (xs : List α) (hcs : cs.toList = xs.flatMap enc) : AtCells (w.alloc (.cells cs t fz)) (some ⟨w.heap.size, 0, none⟩) k (xs.map enc) := fun _ => ⟨w.heap.size, 0, rfl, fun i row hi j u hj => by
 rw [List.getElem?_map] at hi
 cases hx : xs[i]? with
 | none => rw [hx] at hi;cases hi
 | some x =>
  rw [hx] at hi
  obtain rfl:=Option.some.inj hi
  have h:=flat_get hk xs i j x u hx hj
  rw [← hcs] at h
  have h2:=cell_box w cs t fz (i * k + j) u (by simpa using h)
  simpa using h2⟩
set_option maxHeartbeats 8000000 in
set_option maxRecDepth 100000 in
theorem join_any (l : List PartV) (a : Option Addr) (c : Nat) (w : World) (he : Env w) (hl : l.length ≤ 1000000) (hat : AtCells w a 2 (l.map partC)) (hpa : PartsAt w l) :
  Calls Tryz.prog 45 #[.slice a l.length c] w (JoinPost l w):=by
 have CC:=Lib.hid (chk14_any l a c w hl hat hpa)
 have hcells : ∀ k p,l[k]? = some p → ∃ b o,a = some ⟨b,o,none⟩∧w.cell? ⟨b,o + k * 2,none⟩ = some (.string p.name)∧w.cell? ⟨b,o + k * 2 + 1,none⟩ = some (.slice p.a p.data.length p.c):=by
  intro k p hp
  obtain ⟨b,o,ha,hc⟩:=AtCells.get (enc:=partC) hat (ne_nil_of_lt (List.getElem?_eq_some_iff.1 hp).1)
  exact ⟨b,o,ha,hc k p hp 0 _ rfl,hc k p hp 1 _ rfl⟩
 have HC:=Lib.hid hcells
 have HPA:=Lib.hid hpa
 clear hcells hat hpa
 by_cases hok : chk14 l = 0
 case neg =>
  have HNE:=Lib.hid hok
  obtain ⟨E,hE⟩ : ∃ E,chk14 l = E:=⟨_,rfl⟩
  have HE:=Lib.hid hE
  rw [hE] at CC hok
  have hEb : ((E : Int) != 0) = true:=by rw [bne_iff_ne];omega
  clear hE hok
  go_enter Tryz.func45,Tryz.ntmps45
  go_wp2_with fail
  refine CC.out.mono ?_
  rintro e w1 ⟨rfl,hg1⟩
  go_wp2_with fail
  refine bodyPost_ret (v:=.tuple #[.slice none 0 0,.int .i64 E]) (by simp [results,Tryz.results45,go_sem]) rfl ⟨fun h => absurd h HNE.out,fun _ => by rw [HE.out],hg1⟩
 have HOK:=Lib.hid hok
 rw [hok] at CC
 obtain ⟨hl64,hsum,haz,_⟩:=chk14_ok hok
 have HAZ:=Lib.hid (azS_len haz)
 have HBL:=Lib.hid (body14_len hok)
 have hul:=putU_len l.length
 clear haz hok
 go_enter Tryz.func45,Tryz.ntmps45
 go_wp2_with fail
 refine CC.out.mono ?_
 rintro e w1 ⟨rfl,hg1⟩
 have hcv:=Lib.run_convert_bytes_const (P:=Tryz.prog) w1 28 5 #[.int .u8 72,.int .u8 78,.int .u8 75,.int .u8 49] 4 4 Tryz.underlying28 Tryz.underlying5
 simp only [show (#[Value.int .u8 72,.int .u8 78,.int .u8 75,.int .u8 49] : Array Value).size = 4 from rfl] at hcv
 go_wp2_with fail
 clear hcv
 have hatL : AtCells (w1.alloc (.cells #[.int .u8 72,.int .u8 78,.int .u8 75,.int .u8 49] 5 (4,5))) (some ⟨w1.heap.size,0,none⟩) 1 (([72,78,75,49] : List UInt8).map byteC):=at_box (enc:=byteC) (fun _ => rfl) [72,78,75,49] rfl
 refine (putUint2_any [72,78,75,49] (some ⟨w1.heap.size,0,none⟩) 4 l.length _ (by decide) (by omega) hatL (fun h => by cases h)).mono ?_
 rintro e w2 ⟨v2,rfl,hown2,hg2⟩
 have hgw2:=(hg1.al _).tr hg2
 replace hown2:=hown2.base (base':=w.heap.size) (hg1.al _).size
 clear hatL hg2 hg1 CC
 go_wp2_with fail
 go_loopw [5,23] (fun out i wr => ∃ (k : Nat) (acc : List UInt8),k ≤ l.length∧i = .int .i64 k∧Hid (acc = ([72,78,75,49] ++ putU l.length) ++ head14 (l.take k))∧Owns wr w.heap.size 5 1 byteC out acc∧Grows w wr) (fun _ i _ => l.length - (intOf i).toNat)
 case atStart => exact ⟨0,_,Nat.zero_le _,rfl,(by show _ = _;simp [head14]),hown2,hgw2⟩
 case round =>
  obtain ⟨k,acc,hk,rfl,hacc,hown,hg⟩:=hrel
  have hal : acc.length ≤ 20 + k * 36:=by
   rw [hacc.out,List.length_append,List.length_append]
   have h1:=head14_len (l:=l.take k) (fun p hp => HAZ.out p (List.mem_of_mem_take hp))
   rw [List.length_take] at h1
   have h2 : min k l.length * 36 ≤ k * 36:=Nat.mul_le_mul_right _ (by omega)
   simp only [List.length_cons,List.length_nil]
   omega
  by_cases hlt : k < l.length
  ·obtain ⟨p,hp⟩ : ∃ p,l[k]? = some p:=⟨_,List.getElem?_eq_getElem hlt⟩
   obtain ⟨b,o,rfl,d0,d1⟩:=HC.out k p hp
   have c0:=hg.cell d0
   have c1:=hg.cell d1
   have hnm:=HAZ.out p (List.mem_of_getElem? hp)
   have hpd:=HPA.out.data p (List.mem_of_getElem? hp)
   have hpsl:=putS_len p.name
   have hpul:=putU_len p.data.length
   have HN : Hid ((acc ++ putS p.name) ++ putU p.data.length = ([72,78,75,49] ++ putU l.length) ++ head14 (l.take (k + 1))):=by
    show _ = _
    rw [takeSnoc hp,head14_snoc,hacc.out]
    simp only [List.append_assoc]
   have hki : (k : Int) < l.length:=by omega
   have hw64 : IntKind.u64.wrap (p.data.length : Int) = p.data.length:=by simp [IntKind.wrap,IntKind.bits,IntKind.signed];omega
   obtain ⟨ao,co,rfl,_,_,hato⟩:=hown.at_ byteLay.len
   have hno:=owns_none2 hown
   have hgb : Grows wr (wr.alloc (.cells #[.string p.name,.slice p.a p.data.length p.c] 92)):=Grows.alloc _ _
   clear hp hacc d0 d1 hown
   go_wp2_with fail
   refine (putText_any acc ao co p.name _ (by omega) (by omega) (hato.grows hgb) hno).mono ?_
   rintro e w3 ⟨v3,rfl,hown3,hg3⟩
   obtain ⟨B3,hB3⟩ : ∃ B,B = acc ++ putS p.name:=⟨_,rfl⟩
   rw [← hB3] at hown3 HN
   have hb3 : B3.length ≤ 1000000:=by rw [hB3,List.length_append];omega
   obtain ⟨a3,c3,rfl,_,_,hat3⟩:=hown3.at_ byteLay.len
   have hn3:=owns_none2 hown3
   have x1 : w3.cell? ⟨wr.heap.size,1,none⟩ = some (.slice p.a p.data.length p.c):=hg3.cell (cell_box wr _ _ (0,0) 1 _ rfl)
   clear hB3 hown3
   go_wp2_with fail
   refine (putUint2_any B3 a3 c3 p.data.length _ (by omega) (by omega) hat3 hn3).mono ?_
   rintro e w4 ⟨v4,rfl,hown4,hg4⟩
   have hg34:=hg.tr (hgb.tr hg3)
   go_wp2_with fail
   go_roundw
   case rel => exact ⟨k + 1,_,hlt,by go_num,HN.out,hown4.base hg34.size,hg34.tr hg4⟩
   case measure => simp [intOf];omega
  ·have hki : ¬ (k : Int) < l.length:=by omega
   have HA : Hid (acc = ([72,78,75,49] ++ putU l.length) ++ head14 l):=by
    show _ = _
    rw [hacc.out,List.take_of_length_le (by omega)]
   clear hacc
   go_wp2_with fail
   obtain ⟨u0,rfl⟩ : ∃ u0,u0 = wr:=⟨_,rfl⟩
   go_loopw [5,40] (fun out i wr => ∃ (k : Nat) (acc2 : List UInt8),k ≤ l.length∧i = .int .i64 k∧Hid (acc2 = acc ++ data14 (l.take k))∧Owns wr w.heap.size 5 1 byteC out acc2∧Grows w wr) (fun _ i _ => l.length - (intOf i).toNat)
   case atStart => exact ⟨0,_,Nat.zero_le _,rfl,(by show _ = _;simp [data14]),hown,hg⟩
   case round =>
    obtain ⟨k,acc2,hk,rfl,hacc2,hown,hg⟩:=hrel
    by_cases hlt : k < l.length
    ·obtain ⟨p,hp⟩ : ∃ p,l[k]? = some p:=⟨_,List.getElem?_eq_getElem hlt⟩
     obtain ⟨b,o,rfl,d0,d1⟩:=HC.out k p hp
     have c0:=hg.cell d0
     have c1:=hg.cell d1
     have hpd:=HPA.out.data p (List.mem_of_getElem? hp)
     have hpat:=(HPA.out.at_ p (List.mem_of_getElem? hp)).grows (hg.al (.cells #[.string p.name,.slice p.a p.data.length p.c] 92))
     have hpn:=HPA.out.none_ p (List.mem_of_getElem? hp)
     have HN : Hid (acc2 ++ p.data = acc ++ data14 (l.take (k + 1))):=by
      show _ = _
      rw [takeSnoc hp,data14_snoc,hacc2.out,List.append_assoc]
     have hal2 : acc2.length ≤ 3000 + 64 * 1099511627776:=by
      rw [hacc2.out,List.length_append,data14_len]
      have h1:=sum14_le (l:=l.take k) (n:=1099511627776) (fun p hp => HPA.out.data p (List.mem_of_mem_take hp))
      rw [List.length_take] at h1
      have h2 : min k l.length * 1099511627776 ≤ 64 * 1099511627776:=Nat.mul_le_mul_right _ (by omega)
      omega
     have hownb:=hown.grows (Grows.alloc wr (.cells #[.string p.name,.slice p.a p.data.length p.c] 92))
     have hgB:=hg.al (.cells #[.string p.name,.slice p.a p.data.length p.c] 92)
     clear hp hacc2 d0 d1
     go_wp2_with (at_builtin;refine app_many byteLay rfl _ _ rfl w.heap.size _ acc2 p.data rfl hownb (Grows.refl _) p.a p.c rfl hpat hpn (by omega) hgB.size ?_;intro v7 w7 hown7 hg7)
     go_roundw
     case rel => exact ⟨k + 1,_,hlt,by go_num,HN.out,hown7,hg7 w hgB (Nat.le_refl _)⟩
     case measure => simp [intOf];omega
    ·have hki : ¬ (k : Int) < l.length:=by omega
     have HB : Hid (acc2 = body14 l):=by
      show _ = _
      rw [hacc2.out,HA.out,List.take_of_length_le (by omega)]
      rfl
     have hb2 : acc2.length ≤ 16800000:=by rw [HB.out];exact HBL.out
     have hl4 : (leB 4 (crcSum acc2)).length = 4:=leB_len _ _
     obtain ⟨a8,c8,rfl,_,_,hat8⟩:=hown.at_ byteLay.len
     have hew:=he.grows hg
     clear hacc2
     go_wp2_with (first | (go_at_call 58;refine (sumBytes_any acc2 a8 c8 _ hew (by omega) hat8).mono ?_;rintro e w9 ⟨v9,rfl,hown9,hg9⟩;obtain ⟨a9,c9,rfl,_,_,hat9⟩:=hown9.at_ byteLay.len;have hn9:=owns_none2 hown9;have hownA:=hown.grows hg9;have hgA:=hg.tr hg9;clear hown hown9) | (at_builtin;refine app_many byteLay rfl _ _ rfl w.heap.size _ acc2 (leB 4 (crcSum acc2)) rfl hownA (Grows.refl _) a9 c9 rfl hat9 hn9 (by omega) hgA.size ?_;intro v10 w10 hown10 hg10))
     have HF : Hid (acc2 ++ leB 4 (crcSum acc2) = file14 l):=by show _ = _;rw [HB.out];rfl
     refine bodyPost_ret (v:=.tuple #[v10,.int .i64 0]) (by simp [results,Tryz.results45,go_sem]) rfl ⟨fun _ => ⟨v10,rfl,by rw [← HF.out];exact hown10⟩,fun h => absurd HOK.out h,hg10 w hgA (Nat.le_refl _)⟩
end Go.Proofs.YtepoiefadjoabaaGreatDoor
namespace Go.Proofs.YtepoiefadjoabaaGreatDoor
open Go Go.RowKit
theorem putS_bytes (s : ByteArray) : putS s = putU s.size ++ bl s := rfl
def hposP (P : List PartV) (i : Nat) : Nat := (([72, 78, 75, 49] ++ putU P.length) ++ head14 (P.take i) : List UInt8).length
def dposP (P : List PartV) (i : Nat) : Nat := (([72, 78, 75, 49] ++ putU P.length) ++ head14 P ++ data14 (P.take i) : List UInt8).length
theorem head14_at {P : List PartV} {i : Nat} {p : PartV} (h : P[i]? = some p) : head14 P = head14 (P.take i) ++ ((putS p.name ++ putU p.data.length) ++ head14 (P.drop (i + 1))) := by
 obtain ⟨hi,rfl⟩:=List.getElem?_eq_some_iff.1 h
 unfold head14
 rw [← List.flatMap_cons (f:=fun p : PartV => putS p.name ++ putU p.data.length),← List.drop_eq_getElem_cons hi,← List.flatMap_append,List.take_append_drop]
theorem data14_at {P : List PartV} {i : Nat} {p : PartV} (h : P[i]? = some p) : data14 P = data14 (P.take i) ++ (p.data ++ data14 (P.drop (i + 1))) := by
 obtain ⟨hi,rfl⟩:=List.getElem?_eq_some_iff.1 h
 unfold data14
 rw [← List.flatMap_cons (f:=fun p : PartV => p.data),← List.drop_eq_getElem_cons hi,← List.flatMap_append,List.take_append_drop]
theorem head14_next {P : List PartV} {i : Nat} {p : PartV} (h : P[i]? = some p) : head14 (P.take (i + 1)) = head14 (P.take i) ++ (putS p.name ++ putU p.data.length) := by
 unfold head14
 rw [List.take_add_one,h,List.flatMap_append]
 simp
theorem data14_next {P : List PartV} {i : Nat} {p : PartV} (h : P[i]? = some p) : data14 (P.take (i + 1)) = data14 (P.take i) ++ p.data := by
 unfold data14
 rw [List.take_add_one,h,List.flatMap_append]
 simp
theorem hposP_zero (P : List PartV) : hposP P 0 = 4 + (putU P.length).length := by unfold hposP head14; simp; omega
theorem hposP_succ {P : List PartV} {i : Nat} {p : PartV} (h : P[i]? = some p) : hposP P (i + 1) = hposP P i + (putS p.name).length + (putU p.data.length).length := by
 unfold hposP
 rw [head14_next h]
 simp only [List.length_append]
 omega
theorem dposP_zero (P : List PartV) : dposP P 0 = hposP P P.length := by
 unfold dposP hposP
 rw [List.take_length]
 simp [data14]
theorem dposP_succ {P : List PartV} {i : Nat} {p : PartV} (h : P[i]? = some p) : dposP P (i + 1) = dposP P i + p.data.length := by
 unfold dposP
 rw [data14_next h]
 simp only [List.length_append]
 omega
theorem dposP_end (P : List PartV) : dposP P P.length = (body14 P).length := by unfold dposP body14; rw [List.take_length]
theorem dposP_le {P : List PartV} {i : Nat} : dposP P i ≤ (body14 P).length := by
 unfold dposP body14
 simp only [List.length_append]
 have : (data14 (P.take i)).length ≤ (data14 P).length:=by
  unfold data14
  have h:=List.take_append_drop i P
  have h2 : data14 P = data14 (P.take i) ++ data14 (P.drop i):=by unfold data14;rw [← List.flatMap_append,h]
  unfold data14 at h2
  rw [h2,List.length_append]
  omega
 omega
theorem hposP_le {P : List PartV} {i : Nat} : hposP P i ≤ (body14 P).length := by
 unfold hposP body14
 simp only [List.length_append]
 have : (head14 (P.take i)).length ≤ (head14 P).length:=by
  have h2 : head14 P = head14 (P.take i) ++ head14 (P.drop i):=by unfold head14;rw [← List.flatMap_append,List.take_append_drop]
  rw [h2,List.length_append]
  omega
 omega
theorem rd_count {P : List PartV} (hn : P.length < 18446744073709551616) : rdU ((body14 P).drop 4) = some (P.length, (putU P.length).length) := by
 unfold body14
 rw [List.append_assoc,List.append_assoc]
 show rdU (putU P.length ++ _) = _
 exact rdU_put hn _
theorem body_head {P : List PartV} {i : Nat} {p : PartV} (h : P[i]? = some p) : (body14 P).drop (hposP P i) = (putS p.name ++ putU p.data.length) ++ (head14 (P.drop (i + 1)) ++ data14 P) := by
 have e : body14 P = (([72,78,75,49] ++ putU P.length) ++ head14 (P.take i)) ++ ((putS p.name ++ putU p.data.length) ++ (head14 (P.drop (i + 1)) ++ data14 P)):=by
  unfold body14
  rw [head14_at h]
  simp only [List.append_assoc]
 rw [e]
 exact List.drop_left' rfl
theorem rdT_put {s : ByteArray} (hs : s.size < 18446744073709551616) (r : List UInt8) : rdT (putS s ++ r) = some (s, (putS s).length) := by
 unfold rdT
 rw [putS_bytes,List.append_assoc,rdU_put hs]
 simp only
 rw [List.drop_left' rfl,if_pos (by rw [List.length_append,bl_len];omega)]
 congr 1
 rw [List.take_left' (bl_len s),List.length_append,bl_len]
 exact congrArg (·,_) (mkB_of s)
theorem rd_name {P : List PartV} {i : Nat} {p : PartV} (h : P[i]? = some p) (hs : p.name.size < 18446744073709551616) : rdT ((body14 P).drop (hposP P i)) = some (p.name, (putS p.name).length) := by
 rw [body_head h,List.append_assoc]
 exact rdT_put hs _
theorem rd_size {P : List PartV} {i : Nat} {p : PartV} (h : P[i]? = some p) (hs : p.data.length < 18446744073709551616) : rdU ((body14 P).drop (hposP P i + (putS p.name).length)) = some (p.data.length, (putU p.data.length).length) := by
 rw [← List.drop_drop,body_head h,List.append_assoc,List.drop_left' rfl]
 exact rdU_put hs _
theorem rd_data {P : List PartV} {i : Nat} {p : PartV} (h : P[i]? = some p) : ((body14 P).take (dposP P i + p.data.length)).drop (dposP P i) = p.data := by
 have e : body14 P = (([72,78,75,49] ++ putU P.length) ++ head14 P ++ data14 (P.take i)) ++ (p.data ++ data14 (P.drop (i + 1))):=by
  unfold body14
  rw [data14_at h]
  simp only [List.append_assoc]
 rw [← List.take_drop]
 conv => lhs;rw [e]
 unfold dposP
 rw [List.drop_left' rfl]
 exact List.take_left' rfl
structure RowF (W : World) (b m : Nat) (f : Nat → Value) : Prop where
 cell : ∀ j,j < m → W.cell? ⟨b,j,none⟩ = some (f j)
 froz : ∀ j,W.frozen? ⟨b,j,none⟩ = false
 lt : b < W.heap.size
theorem RowF.grows {W W' : World} {b m : Nat} {f : Nat → Value} (h : RowF W b m f) (hg : Grows W W') : RowF W' b m f :=
 ⟨fun j hj => hg.cell (h.cell j hj),fun j => (hg.froz (p:=⟨b,j,none⟩) h.lt).trans (h.froz j),Nat.lt_of_lt_of_le h.lt hg.size⟩
theorem RowF.other {W : World} {b m : Nat} {f : Nat → Value} (h : RowF W b m f) {b' j' : Nat} (hb : b' ≠ b) (v : Value) : RowF (W.setCell ⟨b', j', none⟩ v) b m f :=
 ⟨fun j hj => by rw [World.cell?_setCell_other _ _ _ _ (fun e => hb (by simpa using congrArg Addr.block e))];exact h.cell j hj,fun j => (World.frozen?_setCell _ _ _ _).trans (h.froz j),by simp;exact h.lt⟩
theorem RowF.set {W : World} {b m : Nat} {f : Nat → Value} (h : RowF W b m f) {k : Nat} (hk : k < m) (v : Value) : RowF (W.setCell ⟨b, k, none⟩ v) b m (fun j => if j = k then v else f j) :=
 ⟨fun j hj => by
  by_cases e : j = k
  ·subst e
   rw [if_pos rfl]
   exact World.cell?_setCell_same _ _ _ (h.cell j hj)
  ·rw [if_neg e,World.cell?_setCell_other _ _ _ _ (fun e2 => e (by injection e2 with _ h2;exact h2.symm))]
   exact h.cell j hj,fun j => (World.frozen?_setCell _ _ _ _).trans (h.froz j),by simp;exact h.lt⟩
theorem RowF.congr {W : World} {b m : Nat} {f g : Nat → Value} (h : RowF W b m f) (e : ∀ j, j < m → f j = g j) : RowF W b m g := ⟨fun j hj => by rw [← e j hj]; exact h.cell j hj, h.froz, h.lt⟩
theorem box_rowF {w W : World} {cs : Array Value} {t : TypeId} {m : Nat} (hg : Grows (w.alloc (.cells cs t)) W) (hm : cs.size = m) : RowF W w.heap.size m (fun j => cs.getD j undef) := by
 obtain ⟨h1,h2⟩:=box_cells2 hg
 refine ⟨fun j hj => h1 j _ ?_,h2,Nat.lt_of_lt_of_le (by simp) hg.size⟩
 rw [Array.getD_eq_getD_getElem?,Array.getElem?_eq_getElem (by omega)]
 rfl
end Go.Proofs.YtepoiefadjoabaaGreatDoor
