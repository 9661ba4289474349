/- The texts W09 W13, one behind the other. -/
import Derived.Test.YtepoiefadjoabaaGreatDoorQ21
import Derived.Test.YtepoiefadjoabaaGreatDoorQ6
import Derived.Laws.BitsAllLaws
namespace Go.Proofs.YtepoiefadjoabaaGreatDoor
open Go Go.RowKit
attribute [local go_sem] quietE quietE2
set_option maxHeartbeats 2000000 in
set_option maxRecDepth 100000 in
theorem rnum_any (v0 : Value) (pre : List UInt8) (n many : Nat) (w0 w : World) (hg0 : Grows w0 w) (hn : n < 18446744073709551616) (hm : many ≤ 8) (hp : pre.length ≤ 100000000000000) (hown0 : Owns w w0.heap.size 5 1 byteC v0 pre) :
  Calls Tryz.prog 179 #[v0,.int .u64 n,.int .i64 many] w fun e w' => ∃ v,e = .returned v∧Owns w' w0.heap.size 5 1 byteC v (pre ++ leB many n)∧Grows w0 w':=by
 go_enter Tryz.func179,Tryz.ntmps179
 go_wp2_with fail
 go_loopw [0,1,7] (fun b v i wr => ∃ (k m : Nat) (acc : List UInt8),k ≤ many∧i = .int .i64 k∧v = .int .u64 m∧m < 18446744073709551616∧acc.length ≤ pre.length + k∧Owns wr w0.heap.size 5 1 byteC b acc∧Hid (acc ++ leB (many - k) m = pre ++ leB many n)∧Grows w0 wr) (fun _ _ i _ => many - (intOf i).toNat)
 case atStart => exact ⟨0,n,pre,Nat.zero_le _,rfl,rfl,hn,by omega,hown0,rfl,hg0⟩
 case round =>
  obtain ⟨k,m,acc,hk,rfl,rfl,hm64,hal,hown,hinv,hg⟩:=hrel
  by_cases hlt : k < many
  ·have hki : (k : Int) < many:=by omega
   have HN : Hid ((acc ++ [UInt8.ofNat m]) ++ leB (many - (k + 1)) (m / 256) = pre ++ leB many n):=by
    show _ = _
    rw [← hinv.out,show many - k = (many - (k + 1)) + 1 by omega,leB_succ]
    simp
   have HB:=Lib.hid (byte_cell m)
   go_wp2_with (at_builtin;refine app_one byteLay rfl _ _ rfl w0.heap.size _ acc (UInt8.ofNat m) rfl hown (Grows.refl _) _ 1 rfl _ (by exact HB.out) rfl (by omega) hg.size ?_;intro v' w5 hown5 hg5)
   go_roundw
   case rel => exact ⟨k + 1,m / 256,_,hlt,by go_num,by go_num,by omega,by simp;omega,hown5,HN.out,hg5 w0 hg (Nat.le_refl _)⟩
   case measure => simp [intOf];omega
  ·have hki : ¬ (k : Int) < many:=by omega
   have HF : Hid (acc = pre ++ leB many n):=by
    show _ = _
    rw [← hinv.out,show many - k = 0 by omega]
    simp [leB]
   clear hinv
   go_wp2_with fail
   go_ret
   exact ⟨_,rfl,by rw [← HF.out];exact hown,hg⟩
set_option maxHeartbeats 1000000 in
theorem rget_any (l : List Bool) (a : Option Addr) (c i : Nat) (w : World) (_ : l.length ≤ 1099511627776) (hat : AtCells w a 1 (l.map boolC)) :
  Calls Tryz.prog 180 #[.slice a l.length c,.int .i64 i] w fun e w' => e = .returned (.bool (bitOf l i))∧w = w':=by
 by_cases hlt : i < l.length
 ·obtain ⟨x,hx⟩ : ∃ x,l[i]? = some x:=⟨_,List.getElem?_eq_getElem hlt⟩
  obtain ⟨b,o,rfl,hc⟩:=at1 hat (ne_nil_of_lt hlt)
  have hcx:=hc i x hx
  have HX : Hid (bitOf l i = x):=by show _ = _;unfold bitOf;rw [List.getD_eq_getElem?_getD,hx];rfl
  have hli : (i : Int) < l.length:=by omega
  clear hc hx hat
  go_enter Tryz.func180,Tryz.ntmps180
  go_wp2
  go_ret
  exact ⟨by rw [HX.out];rfl,rfl⟩
 ·have HX : Hid (bitOf l i = false):=bitOf_end (by omega)
  have hli : ¬ (i : Int) < l.length:=by omega
  go_enter Tryz.func180,Tryz.ntmps180
  go_wp2
  go_ret
  exact ⟨by rw [HX.out];rfl,rfl⟩
def wordsTo (l : List Bool) (k : Nat) : List UInt8 := (((List.range k).map (vecW l)).map (leB 8)).flatten
theorem wordsTo_succ (l : List Bool) (k : Nat) : wordsTo l (k + 1) = wordsTo l k ++ leB 8 (vecW l k) := by
 unfold wordsTo
 rw [List.range_succ,List.map_append,List.map_append,List.flatten_append]
 simp
def countsTo (l : List Bool) (k : Nat) : List UInt8 := (((List.range k).map fun g => rankT l (512 * g)).map (leB 4)).flatten
theorem countsTo_succ (l : List Bool) (k : Nat) : countsTo l (k + 1) = countsTo l k ++ leB 4 (rankT l (512 * k)) := by
 unfold countsTo
 rw [List.range_succ,List.map_append,List.map_append,List.flatten_append]
 simp
theorem wordsTo_len (l : List Bool) (k : Nat) : (wordsTo l k).length = 8 * k := by
 unfold wordsTo;rw [leB_flat_len];simp
theorem countsTo_len (l : List Bool) (k : Nat) : (countsTo l k).length = 4 * k := by
 unfold countsTo;rw [leB_flat_len];simp
theorem vecE_to (l : List Bool) : vecE l = leB 4 l.length ++ wordsTo l ((l.length + 63) / 64) ++ countsTo l ((l.length + 511) / 512) := rfl
set_option maxHeartbeats 8000000 in
set_option maxRecDepth 100000 in
theorem rvec_any (l : List Bool) (a : Option Addr) (c : Nat) (w : World) (hl : l.length ≤ 1099511627776) (hat : AtCells w a 1 (l.map boolC)) :
  Calls Tryz.prog 131 #[.slice a l.length c] w fun e w' => ∃ v,e = .returned v∧Owns w' w.heap.size 5 1 byteC v (vecE l)∧Grows w w':=by
 have HAT:=Lib.hid hat
 clear hat
 go_enter Tryz.func131,Tryz.ntmps131
 go_wp2_with fail
 refine (rnum_any (.slice none 0 0) [] l.length 4 w w (Grows.refl _) (by omega) (by decide) (by simp) (Owns.nil _ _ _ _ _)).mono ?_
 rintro e w1 ⟨v1,rfl,hown1,hg1⟩
 rw [List.nil_append] at hown1
 go_wp2_with fail
 go_loopw [3,4] (fun out i wr => ∃ (q k : Nat) (acc : List UInt8),Hid (k = 64 * q∧q ≤ (l.length + 63) / 64∧acc = leB 4 l.length ++ wordsTo l q)∧i = .int .i64 k∧Owns wr w.heap.size 5 1 byteC out acc∧Grows w wr) (fun _ i _ => l.length + 64 - (intOf i).toNat)
 case atStart => exact ⟨0,0,_,⟨rfl,Nat.zero_le _,by simp [wordsTo]⟩,rfl,hown1,hg1⟩
 case round =>
  obtain ⟨q,k,acc,hinv,rfl,hown,hg⟩:=hrel
  obtain ⟨hk,hq,hacc⟩:=hinv.out
  by_cases hlt : k < l.length
  ·have hki : (k : Int) < l.length:=by omega
   have hal : acc.length ≤ 1000000000000:=by rw [hacc,List.length_append,leB_len,wordsTo_len];omega
   have HK:=Lib.hid hk
   have HACC:=Lib.hid hacc
   clear hk hq hacc hinv
   go_wp2_with fail
   obtain ⟨u0,rfl⟩ : ∃ u0,u0 = wr:=⟨_,rfl⟩
   go_loopw [5,6] (fun v t wr => ∃ (m V : Nat),m ≤ 64∧t = .int .i64 ((m : Int) - 1)∧v = .int .u64 V∧Hid (V = bitsN (bitOf l) (k + m) (64 - m))∧u0 = wr) (fun _ t _ => (intOf t + 1).toNat)
   case atStart => exact ⟨64,0,Nat.le_refl _,rfl,rfl,rfl,rfl⟩
   case round =>
    obtain ⟨m,V,hm,rfl,rfl,hV,rfl⟩:=hrel
    by_cases hm0 : m = 0
    ·subst hm0
     have HV : Hid (V = vecW l q):=by show _ = _;rw [hV.out,HK.out];rfl
     have hV64 : V < 18446744073709551616:=by rw [HV.out];exact vecW_lt l q
     clear hV
     go_wp2_with fail
     refine (rnum_any _ acc V 8 w u0 hg hV64 (by decide) (by omega) hown).mono ?_
     rintro e w2 ⟨v2,rfl,hown2,hg2⟩
     have HN : Hid (acc ++ leB 8 V = leB 4 l.length ++ wordsTo l (q + 1)):=by show _ = _;rw [HACC.out,wordsTo_succ,HV.out,List.append_assoc]
     go_wp2_with fail
     go_roundw
     case rel => exact ⟨q + 1,k + 64,_,⟨by have:=HK.out;omega,by have:=HK.out;omega,HN.out⟩,by go_num,hown2,hg2⟩
     case measure => simp [intOf];omega
    ·obtain ⟨p,rfl⟩ : ∃ p,m = p + 1:=⟨m - 1,by omega⟩
     have HV2 : Hid (2 * V + (if bitOf l (k + p) then 1 else 0) = bitsN (bitOf l) (k + p) (64 - p)):=by
      show _ = _
      rw [show 64 - p = (64 - (p + 1)) + 1 by omega]
      exact bitsN_high _ _ (k:=p) hV.out
     have hVlt : 2 * V + (if bitOf l (k + p) then 1 else 0) < 18446744073709551616:=by
      rw [HV2.out]
      exact Nat.lt_of_lt_of_le (bitsN_lt _ _ _) (Nat.pow_le_pow_right (n:=2) (by decide) (show 64 - p ≤ 64 by omega))
     have hpi : ((p + 1 : Nat) : Int) - 1 = p:=by omega
     rw [hpi]
     have hat:=HAT.out.grows hg
     cases hb : bitOf l (k + p)
     ·rw [hb] at HV2 hVlt
      simp only [Bool.false_eq_true,if_false,Nat.add_zero] at HV2 hVlt
      have hV2 : V < 9223372036854775808:=by omega
      have con:=rget_any l a c (k + p) u0 hl hat
      rw [hb] at con
      go_wp2_with fail
      refine con.mono ?_
      rintro e w2 ⟨rfl,rfl⟩
      go_wp2_with fail
      go_roundw
      case rel => exact ⟨p,2 * V,by omega,by go_num,by go_num,HV2.out,(by trivial)⟩
      case measure => simp [intOf]
     ·rw [hb] at HV2 hVlt
      simp only [if_true] at HV2 hVlt
      have hV2 : V < 9223372036854775808:=by omega
      have con:=rget_any l a c (k + p) u0 hl hat
      rw [hb] at con
      go_wp2_with fail
      refine con.mono ?_
      rintro e w2 ⟨rfl,rfl⟩
      go_wp2_with fail
      go_roundw
      case rel => exact ⟨p,2 * V + 1,by omega,by go_num,by go_num,HV2.out,(by trivial)⟩
      case measure => simp [intOf]
  ·have hki : ¬ (k : Int) < l.length:=by omega
   have HACC : Hid (acc = leB 4 l.length ++ wordsTo l ((l.length + 63) / 64)):=by show _ = _;rw [hacc,show q = (l.length + 63) / 64 by omega]
   clear hk hq hacc hinv
   go_wp2_with fail
   obtain ⟨u0,rfl⟩ : ∃ u0,u0 = wr:=⟨_,rfl⟩
   go_loopw [3,7,8] (fun out n i wr => ∃ (N k : Nat) (acc2 : List UInt8),k ≤ l.length∧n = .int .i64 N∧i = .int .i64 k∧Hid (N = rankT l k∧acc2 = acc ++ countsTo l ((k + 511) / 512))∧Owns wr w.heap.size 5 1 byteC out acc2∧Grows w wr) (fun _ _ i _ => l.length - (intOf i).toNat)
   case atStart => exact ⟨0,0,acc,Nat.zero_le _,rfl,rfl,⟨rfl,by simp [countsTo]⟩,hown,hg⟩
   case round =>
    obtain ⟨N,k,acc2,hk,rfl,rfl,hinv,hown,hg⟩:=hrel
    obtain ⟨hN,hacc2⟩:=hinv.out
    have hNk : N ≤ k:=by rw [hN];exact rankT_le l k
    by_cases hlt : k < l.length
    ·have hki : (k : Int) < l.length:=by omega
     obtain ⟨x,hx⟩ : ∃ x,l[k]? = some x:=⟨_,List.getElem?_eq_getElem hlt⟩
     obtain ⟨b,o,rfl,hc⟩:=at1 HAT.out (ne_nil_of_lt hlt)
     have hcw:=hc k x hx
     have hcx:=hg.cell hcw
     have HX : Hid (rankT l (k + 1) = N + (if x then 1 else 0)):=by
      show _ = _
      rw [rankT_succ,← hN]
      unfold bitOf
      rw [List.getD_eq_getElem?_getD,hx];rfl
     have hal : acc2.length ≤ 2000000000000:=by rw [hacc2,HACC.out];simp [leB_len,wordsTo_len,countsTo_len];omega
     by_cases h512 : k % 512 = 0
     ·have h5i : (k : Int) % 512 = 0:=by omega
      have HN : Hid (acc2 ++ leB 4 N = acc ++ countsTo l ((k + 1 + 511) / 512)):=by
       show _ = _
       rw [hacc2,show (k + 1 + 511) / 512 = (k + 511) / 512 + 1 by omega,countsTo_succ,show 512 * ((k + 511) / 512) = k by omega,← hN,List.append_assoc]
      clear hc hx hinv hN hacc2
      go_wp2_with fail
      refine (rnum_any _ acc2 N 4 w wr hg (by omega) (by decide) (by omega) hown).mono ?_
      rintro e w2 ⟨v2,rfl,hown2,hg2⟩
      have hcx2:=hg2.cell hcw
      cases x
      ·simp only [Bool.false_eq_true,if_false,Nat.add_zero] at HX
       go_wp2_with fail
       go_roundw
       case rel => exact ⟨N,k + 1,_,hlt,rfl,by go_num,⟨HX.out.symm,HN.out⟩,hown2,hg2⟩
       case measure => simp [intOf];omega
      ·simp only [if_true] at HX
       go_wp2_with fail
       go_roundw
       case rel => exact ⟨N + 1,k + 1,_,hlt,by go_num,by go_num,⟨HX.out.symm,HN.out⟩,hown2,hg2⟩
       case measure => simp [intOf];omega
     ·have h5i : ¬ (k : Int) % 512 = 0:=by omega
      have HN : Hid (acc2 = acc ++ countsTo l ((k + 1 + 511) / 512)):=by
       show _ = _
       rw [hacc2,show (k + 1 + 511) / 512 = (k + 511) / 512 by omega]
      clear hc hx hinv hN hacc2
      cases x
      ·simp only [Bool.false_eq_true,if_false,Nat.add_zero] at HX
       go_wp2_with fail
       go_roundw
       case rel => exact ⟨N,k + 1,_,hlt,rfl,by go_num,⟨HX.out.symm,HN.out⟩,hown,hg⟩
       case measure => simp [intOf];omega
      ·simp only [if_true] at HX
       go_wp2_with fail
       go_roundw
       case rel => exact ⟨N + 1,k + 1,_,hlt,by go_num,by go_num,⟨HX.out.symm,HN.out⟩,hown,hg⟩
       case measure => simp [intOf];omega
    ·have hke : k = l.length:=by omega
     have hki : ¬ (k : Int) < l.length:=by omega
     have HF : Hid (acc2 = vecE l):=by
      show _ = _
      rw [hacc2,HACC.out,vecE_to,hke]
     clear hinv hN hacc2 hke
     go_wp2_with fail
     go_ret
     exact ⟨_,rfl,by rw [← HF.out];exact hown,hg⟩
end Go.Proofs.YtepoiefadjoabaaGreatDoor
namespace Go.Proofs.YtepoiefadjoabaaGreatDoor
open Go Go.RowKit
attribute [local go_sem] quietE quietE2
def crcN : Nat → Nat → Nat
 | 0,r => r
 | n + 1,r => crcN n (crc1 r)
set_option maxHeartbeats 2000000 in
set_option maxRecDepth 100000 in
theorem rstep_any (r : Nat) (w : World) (hr : r < 4294967296) :
  Calls Tryz.prog 213 #[.int .u32 r] w fun e w' => e = .returned (.int .u32 (crc8 r))∧w = w':=by
 obtain ⟨R0,hR0⟩ : ∃ R0,R0 = crc8 r:=⟨_,rfl⟩
 rw [← hR0]
 have HR0 : Hid (crcN 8 r = R0):=by show _ = _;rw [hR0];rfl
 clear hR0
 go_enter Tryz.func213,Tryz.ntmps213
 go_wp2
 go_loop [0,3] (fun r i => ∃ k R : Nat,k ≤ 8∧i = .int .i64 k∧r = .int .u32 R∧R < 4294967296∧Hid (crcN (8 - k) R = R0)) (fun _ i => 8 - (intOf i).toNat)
 case atStart => exact ⟨0,r,by decide,rfl,rfl,hr,HR0.out⟩
 case round =>
  obtain ⟨k,R,hk,rfl,rfl,hR,hinv⟩:=hrel
  by_cases hlt : k < 8
  ·have hki : (k : Int) < 8:=by omega
   have HN : Hid (crcN (8 - (k + 1)) (crc1 R) = R0):=by
    have h1:=hinv.out
    rw [show 8 - k = (8 - (k + 1)) + 1 by omega] at h1
    exact h1
   have hx:=u32_xor_nat (R / 2) 3988292384 (by omega) (by decide)
   have hlt1:=crc1_lt hR
   by_cases h1 : R % 2 = 1
   ·have h1i : (R : Int) % 2 = 1:=by omega
    have HC : Hid (crc1 R = R / 2 ^^^ 3988292384):=by show _ = _;unfold crc1;rw [if_pos h1]
    go_wp2
    go_round
    case rel => exact ⟨k + 1,crc1 R,hlt,by go_num,by rw [HC.out,← hx];rfl,hlt1,HN.out⟩
    case measure => simp [intOf];omega
   ·have h1i : ¬ (R : Int) % 2 = 1:=by omega
    have HC : Hid (crc1 R = R / 2):=by show _ = _;unfold crc1;rw [if_neg h1]
    go_wp2
    go_round
    case rel => exact ⟨k + 1,crc1 R,hlt,by go_num,by rw [HC.out];rfl,hlt1,HN.out⟩
    case measure => simp [intOf];omega
  ·obtain rfl : k = 8:=by omega
   have hfin : R = R0:=hinv.out
   subst hfin
   go_wp2
   go_ret
   exact ⟨rfl,rfl⟩
set_option maxHeartbeats 400000 in
theorem rinv_any (r : Nat) (w : World) (hr : r < 4294967296) :
  Calls Tryz.prog 212 #[.int .u32 r] w fun e w' => e = .returned (.int .u32 ((r ^^^ 4294967295 : Nat) : Int))∧w = w':=by
 have hx:=u32_xor_nat r 4294967295 hr (by decide)
 go_enter Tryz.func212,Tryz.ntmps212
 go_wp2
 go_ret
 exact ⟨by rw [← hx];rfl,rfl⟩
set_option maxHeartbeats 2000000 in
set_option maxRecDepth 100000 in
theorem radd_any (b : List UInt8) (a : Option Addr) (c : Nat) (w : World) (hb : b.length ≤ 1099511627776) (hat : AtCells w a 1 (b.map byteC)) :
  Calls Tryz.prog 177 #[.int .u32 0,.slice a b.length c] w fun e w' => e = .returned (.int .u32 (crcSum b))∧w = w':=by
 have HAT:=Lib.hid hat
 clear hat
 go_enter Tryz.func177,Tryz.ntmps177
 go_wp2_with fail
 refine (rinv_any 0 w (by decide)).mono ?_
 rintro e w1 ⟨rfl,rfl⟩
 go_wp2_with fail
 go_loop [5,6] (fun r i => ∃ k R : Nat,k ≤ b.length∧i = .int .i64 k∧r = .int .u32 R∧R < 4294967296∧Hid (R = crcGo 4294967295 (b.take k))) (fun _ i => b.length - (intOf i).toNat)
 case atStart => exact ⟨0,4294967295,Nat.zero_le _,rfl,rfl,by decide,rfl⟩
 case round =>
  obtain ⟨k,R,hk,rfl,rfl,hR,hinv⟩:=hrel
  by_cases hlt : k < b.length
  ·obtain ⟨x,hx⟩ : ∃ x,b[k]? = some x:=⟨_,List.getElem?_eq_getElem hlt⟩
   obtain ⟨bb,bo,rfl,hc⟩:=at1 HAT.out (ne_nil_of_lt hlt)
   have hcx:=hc k x hx
   have HN : Hid (crc8 (R ^^^ x.toNat) = crcGo 4294967295 (b.take (k + 1))):=by show _ = _;rw [takeSnoc hx,crcGo_snoc,← hinv.out]
   have hx256:=x.toNat_lt
   have hxo:=u32_xor_nat R x.toNat hR (by omega)
   have hxl : R ^^^ x.toNat < 4294967296:=Nat.xor_lt_two_pow (n:=32) hR (by omega)
   have hcl : crc8 (R ^^^ x.toNat) < 4294967296:=crc4_lt (crc4_lt hxl)
   clear hc hx hinv
   go_wp2_with fail
   refine (rstep_any _ w hxl).mono ?_
   rintro e w1 ⟨rfl,rfl⟩
   go_wp2_with fail
   go_round
   case rel => exact ⟨k + 1,_,hlt,by go_num,rfl,hcl,HN.out⟩
   case measure => simp [intOf];omega
  ·have hke : k = b.length:=by omega
   have hki : ¬ (k : Int) < b.length:=by omega
   have HF : Hid (R ^^^ 4294967295 = crcSum b):=by show _ = _;rw [hinv.out,hke,List.take_length];rfl
   clear hinv hke
   go_wp2_with fail
   refine (rinv_any _ w hR).mono ?_
   rintro e w1 ⟨rfl,rfl⟩
   go_wp2_with fail
   go_ret
   exact ⟨by rw [← HF.out];rfl,rfl⟩
set_option maxHeartbeats 400000 in
theorem rsum_any (b : List UInt8) (a : Option Addr) (c : Nat) (w : World) (hb : b.length ≤ 1099511627776) (hat : AtCells w a 1 (b.map byteC)) :
  Calls Tryz.prog 127 #[.slice a b.length c] w fun e w' => e = .returned (.int .u32 (crcSum b))∧w = w':=by
 go_enter Tryz.func127,Tryz.ntmps127
 go_wp2_with fail
 refine (radd_any b a c w hb hat).mono ?_
 rintro e w1 ⟨rfl,rfl⟩
 go_wp2_with fail
 go_ret
 exact ⟨rfl,rfl⟩
end Go.Proofs.YtepoiefadjoabaaGreatDoor
