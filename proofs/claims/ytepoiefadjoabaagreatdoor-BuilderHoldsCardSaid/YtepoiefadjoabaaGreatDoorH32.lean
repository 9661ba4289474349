/- The texts W11 W11b W11c W11d W11e, one behind the other. -/
import Derived.Test.YtepoiefadjoabaaGreatDoorH21
import Derived.Test.YtepoiefadjoabaaGreatDoorH4
import Derived.Shelf.SlSorted.Search
import Derived.Test.YtepoiefadjoabaaGreatDoorH7
import Derived.Test.YtepoiefadjoabaaGreatDoorH25
namespace Go.Proofs.YtepoiefadjoabaaGreatDoor
open Go Go.RowKit
attribute [local go_sem] quietE quietE2
def bls (B : List ByteArray) : List (List UInt8) := B.map bl
theorem nth_bls {B : List ByteArray} {k : Nat} {s : ByteArray} (h : B[k]? = some s) : nth (bls B) k = bl s := nth_eq (by unfold bls; rw [List.getElem?_map, h]; rfl)
end Go.Proofs.YtepoiefadjoabaaGreatDoor
namespace Go.Proofs.YtepoiefadjoabaaGreatDoor
open Go Go.RowKit
attribute [local go_sem] quietE quietE2
theorem bls_len (B : List ByteArray) : (bls B).length = B.length := by simp [bls]
theorem bl_list (s : ByteArray) : bl s = s.toList := (Lib.toList_data s).symm
end Go.Proofs.YtepoiefadjoabaaGreatDoor
namespace Go.Proofs.YtepoiefadjoabaaGreatDoor
open Go Go.RowKit
attribute [local go_sem] quietE quietE2
end Go.Proofs.YtepoiefadjoabaaGreatDoor
namespace Go.Proofs.YtepoiefadjoabaaGreatDoor
open Go Go.RowKit
attribute [local go_sem] quietE quietE2
theorem len_cells (n : Nat) : (#[Value.int .u8 ((n : Int) % 256), .int .u8 ((n : Int) / 256 % 256), .int .u8 ((n : Int) / 65536 % 256), .int .u8 ((n : Int) / 16777216 % 256)] : Array Value).toList = (leB 4 n).flatMap byteC := by
 have h : leB 4 n = [UInt8.ofNat n,UInt8.ofNat (n / 256),UInt8.ofNat (n / 65536),UInt8.ofNat (n / 16777216)]:=by
  unfold leB
  simp [List.range_succ]
 rw [h,flat_bytes]
 simp only [List.map_cons,List.map_nil,UInt8.toNat_ofNat']
 congr 1
theorem len_at {w : World} {n : Nat} {cs : Array Value} {t : TypeId} (h : cs.toList = (leB 4 n).flatMap byteC) : AtCells (w.alloc (.cells cs t)) (some ⟨w.heap.size, 0, none⟩) 1 ((leB 4 n).map byteC) := by
 have hown:=owns_box (enc:=byteC) (e:=t) (w:=w) (base:=0) (fun _ => rfl) (Nat.zero_le _) (leB 4 n) h (n:=4) (leB_len 4 n) (by decide)
 have h4:=leB_len 4 n
 rw [← h4] at hown
 obtain ⟨a,c,he,_,_,hat⟩:=Owns.at_ byteLay.len hown
 simp only [Value.slice.injEq] at he
 rw [he.1]
 exact hat
set_option maxHeartbeats 2000000 in
set_option maxRecDepth 100000 in
theorem rpart_any (v0 : Value) (pre b : List UInt8) (ab : Option Addr) (cb : Nat) (w0 w : World) (hg0 : Grows w0 w) (hp : pre.length ≤ 1099511627776) (hb : b.length ≤ 1099511627776) (hown0 : Owns w w0.heap.size 5 1 byteC v0 pre) (hat : AtCells w ab 1 (b.map byteC)) (hnb : ab = none → cb = 0) (hd : ∀ q : Addr, ab = some q → some q.block ≠ v0.ownBlock) :
  Calls Tryz.prog 130 #[v0,.slice ab b.length cb] w fun e w' => ∃ v,e = .returned v∧Owns w' w0.heap.size 5 1 byteC v (pre ++ part11 b)∧Grows w0 w':=by
 have HD:=Lib.hid hd
 have HC:=Lib.hid (len_cells b.length)
 have hl4:=leB_len 4 b.length
 clear hd
 go_enter Tryz.func130,Tryz.ntmps130
 go_wp2_with (first | (at_builtin;refine app_many5 byteLay rfl _ _ rfl w0.heap.size _ pre (leB 4 b.length) rfl (hown0.grows (Grows.alloc _ _)) (Grows.refl _) _ 4 (by rw [hl4];rfl) (len_at HC.out) (fun h => by cases h) (by omega) (Nat.le_trans hg0.size (Grows.alloc _ _).size) ?_;intro v1 w1 hown1 hk1 _ hg1;have hgw1:=hg1 w0 (hg0.al _) (Nat.le_refl _);have hat1:=at_keep (hat.grows (Grows.alloc _ _)) hk1 HD.out;clear hg1 hk1) | (at_builtin;refine app_many byteLay rfl _ _ rfl w0.heap.size _ (pre ++ leB 4 b.length) b rfl hown1 (Grows.refl _) ab cb rfl hat1 hnb (by rw [List.length_append];omega) hgw1.size ?_;intro v2 w2 hown2 hg2))
 go_ret
 exact ⟨_,rfl,by unfold part11;rw [← List.append_assoc];exact hown2,hg2 w0 hgw1 (Nat.le_refl _)⟩
set_option maxHeartbeats 2000000 in
set_option maxRecDepth 100000 in
theorem part_any (v0 : Value) (pre b : List UInt8) (ab : Option Addr) (cb : Nat) (w0 w : World) (hg0 : Grows w0 w) (hp : pre.length ≤ 1099511627776) (hb : b.length ≤ 1099511627776) (hown0 : Owns w w0.heap.size 5 1 byteC v0 pre) (hat : AtCells w ab 1 (b.map byteC)) (hnb : ab = none → cb = 0) (hd : ∀ q : Addr, ab = some q → some q.block ≠ v0.ownBlock) :
  Calls Tryz.prog 98 #[v0,.slice ab b.length cb] w fun e w' => ∃ v,e = .returned v∧Owns w' w0.heap.size 5 1 byteC v (pre ++ part11 b)∧Grows w0 w':=by
 have HD:=Lib.hid hd
 have HC:=Lib.hid (len_cells b.length)
 have hl4:=leB_len 4 b.length
 clear hd
 go_enter Tryz.func98,Tryz.ntmps98
 go_wp2_with (first | (at_builtin;refine app_many5 byteLay rfl _ _ rfl w0.heap.size _ pre (leB 4 b.length) rfl (hown0.grows (Grows.alloc _ _)) (Grows.refl _) _ 4 (by rw [hl4];rfl) (len_at HC.out) (fun h => by cases h) (by omega) (Nat.le_trans hg0.size (Grows.alloc _ _).size) ?_;intro v1 w1 hown1 hk1 _ hg1;have hgw1:=hg1 w0 (hg0.al _) (Nat.le_refl _);have hat1:=at_keep (hat.grows (Grows.alloc _ _)) hk1 HD.out;clear hg1 hk1) | (at_builtin;refine app_many byteLay rfl _ _ rfl w0.heap.size _ (pre ++ leB 4 b.length) b rfl hown1 (Grows.refl _) ab cb rfl hat1 hnb (by rw [List.length_append];omega) hgw1.size ?_;intro v2 w2 hown2 hg2))
 go_ret
 exact ⟨_,rfl,by unfold part11;rw [← List.append_assoc];exact hown2,hg2 w0 hgw1 (Nat.le_refl _)⟩
end Go.Proofs.YtepoiefadjoabaaGreatDoor
namespace Go.Proofs.YtepoiefadjoabaaGreatDoor
open Go Go.RowKit
attribute [local go_sem] quietE quietE2
section
variable {w1 W w' : World} {vS vL vI vD v' : Value} {S S' : List Bool} {Lb Lb' : List UInt8} {I I' : List Bool} {D D' : List Nat}
end
theorem blocks_lo {α : Type} {w : World} {base : Nat} {e : TypeId} {k : Nat} {enc : α → List Value} {v : Value} {xs : List α} {ab : Option Addr} (h : Owns w base e k enc v xs) (hq : ∀ q : Addr, ab = some q → q.block < base) : ∀ q : Addr, ab = some q → some q.block ≠ v.ownBlock := fun q ha hv => by
 have h1:=ownBlock_ge h _ hv.symm
 have h2:=hq q ha
 omega
theorem blocks_hi {α : Type} {w : World} {base : Nat} {e : TypeId} {k : Nat} {enc : α → List Value} {v : Value} {xs : List α} {ab : Option Addr} (h : Owns w base e k enc v xs) (hq : ∀ q : Addr, ab = some q → w.heap.size ≤ q.block) : ∀ q : Addr, ab = some q → some q.block ≠ v.ownBlock := fun q ha hv => by
 have h1:=own_lt h _ hv.symm
 have h2:=hq q ha
 omega
end Go.Proofs.YtepoiefadjoabaaGreatDoor
