/- The texts BvP, one behind the other. -/
import Derived.Test.YtepoiefadjoabaaGreatDoorH22
import Derived.Test.YtepoiefadjoabaaGreatDoorH25
import Derived.Test.YtepoiefadjoabaaGreatDoorH21
namespace Go.Proofs.YtepoiefadjoabaaGreatDoor
open Go Go.RowKit
attribute [local go_sem] quietE quietE2
theorem pow_8 (x k : Nat) : x >>> (8 * k) = x / 256 ^ k := by
 rw [Nat.shiftRight_eq_div_pow,Nat.pow_mul]
theorem EB.both {a w w' : World} (h1 : Grows a w) (h2 : Grows a w') (hs : w.heap.size ≤ w'.heap.size) : EB a.heap.size w w' :=
 ⟨⟨(Below.os h2).trans (Below.os h1).symm,(Below.tape h2).trans (Below.tape h1).symm,(Below.output h2).trans (Below.output h1).symm,hs,fun k hk => (Below.block h2 k hk).trans (Below.block h1 k hk).symm⟩,hs⟩
def putsE (size : Nat) (l : List Nat) : List UInt8 := (l.map (leB size)).flatten
theorem putsE_snoc (size : Nat) (l : List Nat) (x : Nat) : putsE size (l ++ [x]) = putsE size l ++ leB size x := by simp [putsE]
theorem putsE_len (size : Nat) (l : List Nat) : (putsE size l).length = size * l.length := leB_flat_len size l
set_option maxHeartbeats 4000000 in
set_option maxRecDepth 100000 in
theorem bput_any (v0 : Value) (pre : List UInt8) (size : Nat) (l : List Nat) (a : Option Addr) (c : Nat) (w0 w : World) (hg0 : Grows w0 w) (hs : size ≤ 8) (hp : pre.length ≤ 1099511627776) (hl : l.length ≤ 1099511627776) (hn : ∀ n ∈ l, n < 18446744073709551616)
  (hown0 : Owns w w0.heap.size 5 1 byteC v0 pre) (hat : AtCells w a 1 (l.map n64C)) (hd : ∀ q : Addr,a = some q → some q.block ≠ v0.ownBlock) (hlt : ∀ q : Addr,a = some q → q.block < w.heap.size) :
  Calls Tryz.prog 154 #[v0,.int .i64 size,.slice a l.length c] w fun e w' => ∃ v,e = .returned v∧Owns w' w0.heap.size 5 1 byteC v (pre ++ putsE size l)∧Grows w0 w'∧w.heap.size ≤ w'.heap.size:=by
 have HN:=Lib.hid hn
 have HLT:=Lib.hid hlt
 have HD:=Lib.hid hd
 have HAT:=Lib.hid hat
 clear hn hat hd hlt
 go_enter Tryz.func154,Tryz.ntmps154
 go_wp2_with fail
 go_loopw [0,12] (fun out i wr => ∃ (k : Nat) (acc : List UInt8),k ≤ l.length∧i = .int .i64 k∧Hid (acc = pre ++ putsE size (l.take k))∧Hid (AtCells wr a 1 (l.map n64C))∧Hid (∀ q : Addr,a = some q → some q.block ≠ out.ownBlock)∧w.heap.size ≤ wr.heap.size∧Owns wr w0.heap.size 5 1 byteC out acc∧Grows w0 wr) (fun _ i _ => l.length - (intOf i).toNat)
 case atStart => exact ⟨0,pre,Nat.zero_le _,rfl,(by show _ = _;simp [putsE]),HAT.out,HD.out,Nat.le_refl _,hown0,hg0⟩
 case round =>
  obtain ⟨k,acc,hk,rfl,hacc,hatr,hdr,hszr,hown,hg⟩:=hrel
  by_cases hlt : k < l.length
  ·obtain ⟨x,hx⟩ : ∃ x,l[k]? = some x:=⟨_,List.getElem?_eq_getElem hlt⟩
   obtain ⟨b,o,rfl,hc⟩:=at1 hatr.out (ne_nil_of_lt hlt)
   have hcx:=hc k x hx
   have hx64:=HN.out x (List.mem_of_getElem? hx)
   have HS : Hid (acc ++ leB size x = pre ++ putsE size (l.take (k + 1))):=by show _ = _;rw [takeSnoc hx,putsE_snoc,hacc.out,List.append_assoc]
   have hal : acc.length ≤ 1099511627776 + 8 * 1099511627776:=by
    rw [hacc.out,List.length_append,putsE_len,List.length_take]
    have : size * min k l.length ≤ 8 * 1099511627776:=Nat.mul_le_mul hs (by omega)
    omega
   have hbl:=HLT.out _ rfl
   simp only at hbl
   have hki : (k : Int) < l.length:=by omega
   clear hc hx hacc
   go_wp2_with fail
   obtain ⟨u0,rfl⟩ : ∃ u0,u0 = wr:=⟨_,rfl⟩
   go_loopw [0,9] (fun out t wr => ∃ (j : Nat) (acc2 : List UInt8),j ≤ size∧t = .int .i64 j∧Hid (acc2 = acc ++ leB j x)∧Hid (AtCells wr (some ⟨b,o,none⟩) 1 (l.map n64C))∧Hid (∀ q : Addr,some ⟨b,o,none⟩ = some q → some q.block ≠ out.ownBlock)∧w.heap.size ≤ wr.heap.size∧Owns wr w0.heap.size 5 1 byteC out acc2∧Grows w0 wr) (fun _ t _ => size - (intOf t).toNat)
   case atStart => exact ⟨0,acc,Nat.zero_le _,rfl,(by show _ = _;simp [leB]),hatr.out,hdr.out,hszr,hown,hg⟩
   case round =>
    obtain ⟨j,acc2,hj,rfl,hacc2,hatr,hdr,hszr,hown,hg⟩:=hrel
    have hal2 : acc2.length ≤ 10000000000000 + j:=by rw [hacc2.out,List.length_append,leB_len];omega
    by_cases hjs : j < size
    ·have hji : (j : Int) < size:=by omega
     obtain ⟨R,hR⟩ : ∃ R,R = 8 * j:=⟨_,rfl⟩
     have eR : (8 : Int) * j = R:=by omega
     have HN2 : Hid (acc2 ++ [UInt8.ofNat (x >>> R)] = acc ++ leB (j + 1) x):=by
      show _ = _
      rw [leB_snoc,hR,pow_8,hacc2.out,List.append_assoc]
     have HB : Hid ([Value.int .u8 ((x : Int) / 2 ^ R % 256)] = byteC (UInt8.ofNat (x >>> R))):=by
      show _ = _
      rw [int_shr]
      exact byte_cell _
     have hRb : R ≤ 56:=by omega
     have hblr : b < wr.heap.size:=by omega
     clear hR hacc2
     go_wp2_with (at_builtin;refine app_one5 byteLay rfl _ _ rfl w0.heap.size _ acc2 (UInt8.ofNat (x >>> R)) rfl hown (Grows.refl _) _ 1 rfl _ (by exact HB.out) rfl (by omega) hg.size ?_;intro v' w5 hown5 hk5 hf5 hg5)
     have hd5 : ∀ q : Addr,some ⟨b,o,none⟩ = some q → some q.block ≠ v'.ownBlock:=fun q hq hv => by
      rcases hf5 with hf | ⟨r,hr,hle⟩
      ·exact hdr.out q hq (hv.trans hf)
      ·rw [hr] at hv
       have h1:=Option.some.inj hv
       have h2:=Option.some.inj hq
       subst h2
       simp only at h1
       omega
     go_roundw
     case rel => exact ⟨j + 1,_,hjs,by go_num,HN2.out,at_keep hatr.out hk5 hdr.out,hd5,Nat.le_trans hszr hk5.size,hown5,hg5 w0 hg (Nat.le_refl _)⟩
     case measure => simp [intOf];omega
    ·have hji : ¬ (j : Int) < size:=by omega
     have HF : Hid (acc2 = pre ++ putsE size (l.take (k + 1))):=by show _ = _;rw [hacc2.out,← HS.out,show j = size by omega]
     clear hacc2
     go_wp2_with fail
     go_roundw
     case rel => exact ⟨k + 1,_,hlt,by go_num,HF.out,hatr.out,hdr.out,hszr,hown,hg⟩
     case measure => simp [intOf];omega
  ·have hki : ¬ (k : Int) < l.length:=by omega
   have HF : Hid (acc = pre ++ putsE size l):=by show _ = _;rw [hacc.out,List.take_of_length_le (by omega)]
   clear hacc
   go_wp2_with fail
   go_ret
   exact ⟨_,rfl,by rw [← HF.out];exact hown,hg,hszr⟩
end Go.Proofs.YtepoiefadjoabaaGreatDoor
