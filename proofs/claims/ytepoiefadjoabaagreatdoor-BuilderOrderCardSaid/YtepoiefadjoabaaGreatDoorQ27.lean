/- The texts W11 W11b W11c, one behind the other. -/
import Derived.Test.YtepoiefadjoabaaGreatDoorQ26
import Derived.Test.YtepoiefadjoabaaGreatDoorQ7
import Derived.Shelf.SlSorted.Search
namespace Go.Proofs.YtepoiefadjoabaaGreatDoor
open Go Go.RowKit
attribute [local go_sem] quietE quietE2
set_option maxHeartbeats 2000000 in
set_option maxRecDepth 100000 in
theorem rcommon_any (s t : ByteArray) (w : World) (_ : s.size ≤ 1099511627776) (_ : t.size ≤ 1099511627776) :
  Calls Tryz.prog 175 #[.string s,.string t] w fun e w' => e = .returned (.int .i64 (comm (bl s) (bl t)))∧Grows w w':=by
 obtain ⟨C,hC⟩ : ∃ C,C = comm (bl s) (bl t):=⟨_,rfl⟩
 rw [← hC]
 have hCs:=comm_le (bl s) (bl t)
 rw [← hC,bl_len,bl_len] at hCs
 have HC:=Lib.hid hC
 clear hC
 go_enter Tryz.func175,Tryz.ntmps175
 go_wp2_with fail
 go_loopw [5] (fun n wr => ∃ k : Nat,k ≤ C∧n = .int .i64 k∧Grows w wr) (fun n _ => C + 1 - (intOf n).toNat)
 case atStart => exact ⟨0,Nat.zero_le _,rfl,Grows.refl _⟩
 case round =>
  obtain ⟨k,hk,rfl,hg⟩:=hrel
  by_cases h1 : k < s.size
  ·by_cases h2 : k < t.size
   ·have hiff:=comm_succ (a:=bl s) (b:=bl t) (e:=k) (by rw [← HC.out];exact hk) (by rw [bl_len];exact h1) (by rw [bl_len];exact h2)
    rw [bl_get h1,bl_get h2,← HC.out] at hiff
    have HI:=Lib.hid hiff
    clear hiff
    by_cases he : s[k] = t[k]
    ·have hlt : k + 1 ≤ C:=HI.out.2 (by rw [he])
     have hb : ((s[k].toNat : Int) == t[k].toNat) = true:=by rw [he];simp
     clear he
     go_wp2_with fail
     refine t_region (Grows) [(0,false),(1,false),(2,false),(3,false),(4,false),(5,false),(6,false),(7,false),(8,false),(9,false),(10,false),(11,false),(12,false),(13,false),(14,false),(15,false),(16,false),(17,false),(18,false)] Grows.refl Grows.trans (by kernel_rfl) (by kernel_rfl) (fun d _ _ _ _ h => by cases d <;> exact h) ?_
     iterate 19 (refine t_quiet rfl (fun K hK => ?_);go_simp;refine hK _ ?_;clear hK K)
     refine t_end ?_
     go_wp2_with fail
     go_roundw
     case rel => exact ⟨k + 1,hlt,by go_num,hg.dr⟩
     case measure => simp [intOf];omega
    ·have hlt : ¬ k + 1 ≤ C:=fun h => he (Option.some.inj (HI.out.1 h))
     have hb : ((s[k].toNat : Int) == t[k].toNat) = false:=by
      rw [beq_eq_false_iff_ne]
      intro h
      exact he (UInt8.toNat_inj.1 (by omega))
     have hkC : k = C:=by omega
     subst hkC
     clear he
     go_wp2_with fail
     refine t_region (Grows) [(0,false),(1,false),(2,false),(3,false),(4,false),(5,false),(6,false),(7,false),(8,false),(9,false),(10,false),(11,false),(12,false),(13,false),(14,false),(15,false),(16,false),(17,false),(18,false)] Grows.refl Grows.trans (by kernel_rfl) (by kernel_rfl) (fun d _ _ _ _ h => by cases d <;> exact h) ?_
     iterate 19 (refine t_quiet rfl (fun K hK => ?_);go_simp;refine hK _ ?_;clear hK K)
     refine t_end ?_
     go_wp2_with fail
     go_ret
     exact ⟨rfl,hg.dr⟩
   ·have h2i : ¬ (k : Int) < t.size:=by omega
    have hkC : k = C:=by omega
    subst hkC
    go_wp2_with fail
    refine t_region (Grows) [(0,false),(1,false),(2,false),(3,false),(4,false),(5,false),(6,false),(7,false),(8,false),(9,false),(10,false),(11,false),(12,false),(13,false),(14,false),(15,false),(16,false),(17,false),(18,false)] Grows.refl Grows.trans (by kernel_rfl) (by kernel_rfl) (fun d _ _ _ _ h => by cases d <;> exact h) ?_
    iterate 19 (refine t_quiet rfl (fun K hK => ?_);go_simp;refine hK _ ?_;clear hK K)
    refine t_end ?_
    go_wp2_with fail
    go_ret
    exact ⟨rfl,hg.dr⟩
  ·have h1i : ¬ (k : Int) < s.size:=by omega
   have hkC : k = C:=by omega
   subst hkC
   go_wp2_with fail
   refine t_region (Grows) [(0,false),(1,false),(2,false),(3,false),(4,false),(5,false),(6,false),(7,false),(8,false),(9,false),(10,false),(11,false),(12,false),(13,false),(14,false),(15,false),(16,false),(17,false),(18,false)] Grows.refl Grows.trans (by kernel_rfl) (by kernel_rfl) (fun d _ _ _ _ h => by cases d <;> exact h) ?_
   iterate 19 (refine t_quiet rfl (fun K hK => ?_);go_simp;refine hK _ ?_;clear hK K)
   refine t_end ?_
   go_wp2_with fail
   go_ret
   exact ⟨rfl,hg.dr⟩
def bls (B : List ByteArray) : List (List UInt8) := B.map bl
theorem nth_bls {B : List ByteArray} {k : Nat} {s : ByteArray} (h : B[k]? = some s) : nth (bls B) k = bl s := nth_eq (by unfold bls; rw [List.getElem?_map, h]; rfl)
set_option maxHeartbeats 4000000 in
set_option maxRecDepth 100000 in
theorem rcount_any (B : List ByteArray) (a : Option Addr) (c : Nat) (w : World) (hB : B.length ≤ 20000) (hs : ∀ s ∈ B, s.size ≤ 256) (hat : AtCells w a 1 (B.map stC)) :
  Calls Tryz.prog 121 #[.slice a B.length c] w fun e w' => e = .returned (.int .i64 (countL (bls B)))∧Grows w w':=by
 have HAT:=Lib.hid hat
 have HS:=Lib.hid hs
 clear hat hs
 go_enter Tryz.func121,Tryz.ntmps121
 go_wp2_with fail
 go_loopw [3,4] (fun n i wr => ∃ k N : Nat,k ≤ B.length∧i = .int .i64 k∧n = .int .i64 N∧N ≤ 1 + k * 256∧Hid (N = countTo (bls B) k)∧Grows w wr) (fun _ i _ => B.length - (intOf i).toNat)
 case atStart => exact ⟨0,1,Nat.zero_le _,rfl,rfl,by omega,rfl,Grows.refl _⟩
 case round =>
  obtain ⟨k,N,hk,rfl,rfl,hN,hinv,hg⟩:=hrel
  by_cases hlt : k < B.length
  ·obtain ⟨s,hx⟩ : ∃ x,B[k]? = some x:=⟨_,List.getElem?_eq_getElem hlt⟩
   obtain ⟨b,o,rfl,hc⟩:=at1 HAT.out (ne_nil_of_lt hlt)
   have hcw:=hc k s hx
   have hcx:=hg.cell hcw
   have hs:=HS.out s (List.mem_of_getElem? hx)
   have hn:=nth_bls hx
   by_cases h0 : k = 0
   ·have hpos : ¬ (0 : Int) < k:=by omega
    have HN : Hid (N + s.size = countTo (bls B) (k + 1)):=by
     show _ = _
     rw [countTo,newBy,← hinv.out,hn,bl_len,if_pos h0];rfl
    clear hc hx hn h0
    go_wp2_with fail
    go_roundw
    case rel => exact ⟨k + 1,N + s.size,by omega,by go_num,by go_num,by omega,HN.out,hg⟩
    case measure => simp [intOf];omega
   ·obtain ⟨t,hx2⟩ : ∃ x,B[k - 1]? = some x:=⟨_,List.getElem?_eq_getElem (by omega)⟩
    have hcw2:=hc (k - 1) t hx2
    have ht:=HS.out t (List.mem_of_getElem? hx2)
    obtain ⟨C,hC⟩ : ∃ C,C = comm (bl t) (bl s):=⟨_,rfl⟩
    have hCs:=(comm_le (bl t) (bl s)).2
    rw [← hC,bl_len] at hCs
    have HN : Hid (N + s.size - C = countTo (bls B) (k + 1)):=by
     show _ = _
     rw [countTo,newBy,if_neg h0,← hinv.out,hn,bl_len]
     unfold cAt
     rw [hn,nth_bls hx2,← hC]
     omega
    have con:=rcommon_any t s
    rw [← hC] at con
    have hpos : (0 : Int) < k:=by omega
    have hk1 : (k : Int) - 1 = ((k - 1 : Nat) : Int):=by omega
    have y1 : ∀ x : Ext Grows wr.drew,x.u.cell? ⟨b,o + k,none⟩ = some (.string s):=ext_cell (hg.dr.cell hcw)
    have y2 : ∀ x : Ext Grows wr.drew,x.u.cell? ⟨b,o + (k - 1),none⟩ = some (.string t):=ext_cell (hg.dr.cell hcw2)
    have hw5 : IntKind.i64.wrap ((N : Int) + s.size - C) = ((N + s.size - C : Nat) : Int):=by simp [IntKind.wrap,IntKind.bits,IntKind.signed];omega
    have hk2 : ((k - 1 : Nat) : Int) < B.length:=by omega
    have hk3 : IntKind.i64.wrap ((k - 1 : Nat) : Int) = ((k - 1 : Nat) : Int):=by simp [IntKind.wrap,IntKind.bits,IntKind.signed];omega
    clear hc hx hn hC hx2 hinv
    go_wp2_with fail
    refine t_region (Grows) [(0,false),(1,false),(2,false),(3,false),(4,false),(5,false),(6,false),(7,false),(8,false),(9,false),(10,true),(11,true),(12,true)] Grows.refl Grows.trans (by kernel_rfl) (by kernel_rfl) (fun d _ _ _ _ h => by cases d <;> exact h) ?_
    iterate 10 (refine t_quiet rfl (fun K hK => ?_);go_simp;refine hK _ ?_;clear hK K)
    refine t_late rfl rfl (fun K hK => ?_)
    go_simp
    refine (con _ (by omega) (by omega)).mono ?_
    rintro e w1 ⟨rfl,hg1⟩
    refine ⟨hg1,hK _ _ ?_⟩
    clear hK K
    iterate 2 (refine t_late rfl rfl (fun K hK => ?_);go_simp;refine ⟨Grows.refl _,hK _ _ ?_⟩;clear hK K)
    refine t_end ?_
    go_wp2_with fail
    go_roundw
    case rel => exact ⟨k + 1,N + s.size - C,hlt,by go_num,by go_num,by omega,HN.out,hg.dr.tr hg1⟩
    case measure => simp [intOf];omega
  ·have hke : k = B.length:=by omega
   have hki : ¬ (k : Int) < B.length:=by omega
   have HF : Hid (N = countL (bls B)):=by show _ = _;rw [hinv.out,hke];unfold countL bls;rw [List.length_map]
   clear hinv hke
   go_wp2_with fail
   go_ret
   exact ⟨by rw [← HF.out];rfl,hg⟩
end Go.Proofs.YtepoiefadjoabaaGreatDoor
namespace Go.Proofs.YtepoiefadjoabaaGreatDoor
open Go Go.RowKit
attribute [local go_sem] quietE quietE2
theorem bls_len (B : List ByteArray) : (bls B).length = B.length := by simp [bls]
theorem bl_list (s : ByteArray) : bl s = s.toList := (Lib.toList_data s).symm
set_option maxHeartbeats 8000000 in
set_option maxRecDepth 100000 in
theorem rchk11_any (B : List ByteArray) (a : Option Addr) (c : Nat) (w : World) (hB : B.length ≤ 1099511627776) (hsz : ∀ s ∈ B, s.size ≤ 1099511627776) (hat : AtCells w a 1 (B.map stC)) :
  Calls Tryz.prog 73 #[.slice a B.length c] w fun e w' => e = .returned (.int .i64 (chk11 (bls B)))∧Grows w w':=by
 have HAT:=Lib.hid hat
 have HSZ:=Lib.hid hsz
 clear hat hsz
 by_cases hbig : 20000 < B.length
 ·have hbi : (20000 : Int) < B.length:=by omega
  have HF : Hid (chk11 (bls B) = 2):=by show _ = _;unfold chk11;rw [bls_len,if_pos hbig]
  go_enter Tryz.func73,Tryz.ntmps73
  go_wp2_with fail
  go_ret
  exact ⟨by rw [HF.out];rfl,Grows.refl _⟩
 have hbi : ¬ (20000 : Int) < B.length:=by omega
 have HF : Hid (chk11 (bls B) = if anyBad (bls B) = true then 1 else if 524287 < countL (bls B) then 2 else 0):=by show _ = _;unfold chk11;rw [bls_len,if_neg hbig]
 have HIT : Hid (∀ k,k < B.length → badAt (bls B) k = true → chk11 (bls B) = 1):=fun k hk hb => by rw [HF.out,if_pos (anyBad_hit (by rw [bls_len];exact hk) hb)]
 go_enter Tryz.func73,Tryz.ntmps73
 go_wp2_with fail
 go_loopw [3] (fun i wr => ∃ k : Nat,k ≤ B.length∧i = .int .i64 k∧Hid (∀ j,j < k → badAt (bls B) j = false)∧Grows w wr) (fun i _ => B.length - (intOf i).toNat)
 case atStart => exact ⟨0,Nat.zero_le _,rfl,fun j hj => by omega,Grows.refl _⟩
 case round =>
  obtain ⟨k,hk,rfl,hinv,hg⟩:=hrel
  by_cases hlt : k < B.length
  ·obtain ⟨s,hx⟩ : ∃ x,B[k]? = some x:=⟨_,List.getElem?_eq_getElem hlt⟩
   obtain ⟨b,o,rfl,hc⟩:=at1 HAT.out (ne_nil_of_lt hlt)
   have hcw:=hc k s hx
   have hn:=nth_bls hx
   have hs40:=HSZ.out s (List.mem_of_getElem? hx)
   have y1 : ∀ x : Ext Grows wr.drew,x.u.cell? ⟨b,o + k,none⟩ = some (.string s):=ext_cell (hg.dr.cell hcw)
   have HBD : Hid (badAt (bls B) k = (decide (s.size < 1) || decide (256 < s.size) || (decide (0 < k) && !Op.bytesLess (nth (bls B) (k - 1)) (bl s)))):=by show _ = _;unfold badAt;rw [hn,bl_len]
   by_cases h1 : s.size < 1
   ·have h1i : (s.size : Int) < 1:=by omega
    have HB:=Lib.hid (HIT.out k hlt (by rw [HBD.out];simp [h1]))
    clear hc hx hn hcw
    go_wp2_with fail
    refine t_region (Grows) [(0,false),(1,false),(2,false),(3,false),(4,false),(5,false),(6,false),(7,false),(8,false),(9,false),(10,false),(11,false),(12,false),(13,false),(14,false),(15,false),(16,false),(17,false),(18,false),(19,false),(20,false),(21,false),(22,false),(23,false),(24,false),(25,false),(26,false),(27,false),(28,false),(29,false)] Grows.refl Grows.trans (by kernel_rfl) (by kernel_rfl) (fun d _ _ _ _ h => by cases d <;> exact h) ?_
    iterate 30 (refine t_quiet rfl (fun K hK => ?_);go_simp;refine hK _ ?_;clear hK K)
    refine t_end ?_
    go_wp2_with fail
    go_ret
    exact ⟨by rw [HB.out];rfl,hg.dr⟩
   ·have h1i : ¬ (s.size : Int) < 1:=by omega
    have hb1 : decide ((s.size : Int) < 1) = false:=by simpa using h1i
    by_cases h2 : 256 < s.size
    ·have h2i : (256 : Int) < s.size:=by omega
     have HB:=Lib.hid (HIT.out k hlt (by rw [HBD.out];simp [h2]))
     clear hc hx hn hcw
     go_wp2_with fail
     refine t_region (Grows) [(0,false),(1,false),(2,false),(3,false),(4,false),(5,false),(6,false),(7,false),(8,false),(9,false),(10,false),(11,false),(12,false),(13,false),(14,false),(15,false),(16,false),(17,false),(18,false),(19,false),(20,false),(21,false),(22,false),(23,false),(24,false),(25,false),(26,false),(27,false),(28,false),(29,false)] Grows.refl Grows.trans (by kernel_rfl) (by kernel_rfl) (fun d _ _ _ _ h => by cases d <;> exact h) ?_
     iterate 30 (refine t_quiet rfl (fun K hK => ?_);go_simp;refine hK _ ?_;clear hK K)
     refine t_end ?_
     go_wp2_with fail
     go_ret
     exact ⟨by rw [HB.out];rfl,hg.dr⟩
    ·have h2i : ¬ (256 : Int) < s.size:=by omega
     have hb2 : decide ((256 : Int) < s.size) = false:=by simpa using h2i
     by_cases h0 : k = 0
     ·have h0i : ¬ 0 < k:=by omega
      have HN : Hid (∀ j,j < k + 1 → badAt (bls B) j = false):=fun j hj => by
       have hd1 : decide (s.size < 1) = false:=decide_eq_false h1
       have hd2 : decide (256 < s.size) = false:=decide_eq_false h2
       have hd3 : decide (0 < k) = false:=decide_eq_false h0i
       rw [show j = k by omega,HBD.out,hd1,hd2,hd3];rfl
      clear hc hx hn hcw h0
      go_wp2_with fail
      refine t_region (Grows) [(0,false),(1,false),(2,false),(3,false),(4,false),(5,false),(6,false),(7,false),(8,false),(9,false),(10,false),(11,false),(12,false),(13,false),(14,false),(15,false),(16,false),(17,false),(18,false),(19,false),(20,false),(21,false),(22,false),(23,false),(24,false),(25,false),(26,false),(27,false),(28,false),(29,false)] Grows.refl Grows.trans (by kernel_rfl) (by kernel_rfl) (fun d _ _ _ _ h => by cases d <;> exact h) ?_
      iterate 30 (refine t_quiet rfl (fun K hK => ?_);go_simp;refine hK _ ?_;clear hK K)
      refine t_end ?_
      go_wp2_with fail
      go_roundw
      case rel => exact ⟨k + 1,hlt,by go_num,HN.out,hg.dr⟩
      case measure => simp [intOf];omega
     ·have h0i : 0 < k:=by omega
      obtain ⟨t,hx2⟩ : ∃ x,B[k - 1]? = some x:=⟨_,List.getElem?_eq_getElem (by omega)⟩
      have hcw2:=hc (k - 1) t hx2
      have y2 : ∀ x : Ext Grows wr.drew,x.u.cell? ⟨b,o + (k - 1),none⟩ = some (.string t):=ext_cell (hg.dr.cell hcw2)
      have hk1 : (k : Int) - 1 = ((k - 1 : Nat) : Int):=by omega
      have hk2 : ((k - 1 : Nat) : Int) < B.length:=by omega
      have hk3 : IntKind.i64.wrap ((k - 1 : Nat) : Int) = ((k - 1 : Nat) : Int):=by simp [IntKind.wrap,IntKind.bits,IntKind.signed];omega
      have hq:=HBD.out
      rw [nth_bls hx2,bl_list,bl_list] at hq
      have hd1 : decide (s.size < 1) = false:=decide_eq_false h1
      have hd2 : decide (256 < s.size) = false:=decide_eq_false h2
      have hd3 : decide (0 < k) = true:=decide_eq_true h0i
      rw [hd1,hd2,hd3] at hq
      simp only [Bool.false_or,Bool.true_and] at hq
      have HQ:=Lib.hid hq
      clear hc hx hn hcw h0 hx2 hcw2 HBD hq hd1 hd2 hd3
      by_cases hl : Op.bytesLess t.toList s.toList = true
      ·have l1 : Op.bytesLess s.toList t.toList = false:=by
        have:=bytesLess_asymm hl;simpa using this
       have l2 : (s.toList == t.toList) = false:=by
        rw [beq_eq_false_iff_ne];intro h;rw [h,bytesLess_irrefl] at hl;cases hl
       have HN : Hid (∀ j,j < k + 1 → badAt (bls B) j = false):=fun j hj => by
        rcases Nat.lt_or_ge j k with h | h
        ·exact hinv.out j h
        ·rw [show j = k by omega,HQ.out,hl];rfl
       clear hl hinv
       go_wp2_with fail
       refine t_region (Grows) [(0,false),(1,false),(2,false),(3,false),(4,false),(5,false),(6,false),(7,false),(8,false),(9,false),(10,false),(11,false),(12,false),(13,false),(14,false),(15,false),(16,false),(17,false),(18,false),(19,false),(20,false),(21,false),(22,false),(23,false),(24,false),(25,false),(26,false),(27,false),(28,false),(29,false)] Grows.refl Grows.trans (by kernel_rfl) (by kernel_rfl) (fun d _ _ _ _ h => by cases d <;> exact h) ?_
       iterate 30 (refine t_quiet rfl (fun K hK => ?_);go_simp;refine hK _ ?_;clear hK K)
       refine t_end ?_
       go_wp2_with fail
       go_roundw
       case rel => exact ⟨k + 1,hlt,by go_num,HN.out,hg.dr⟩
       case measure => simp [intOf];omega
      ·have hl2 : Op.bytesLess t.toList s.toList = false:=by simpa using hl
       have HB:=Lib.hid (HIT.out k hlt (by rw [HQ.out,hl2];rfl))
       by_cases he : s.toList = t.toList
       ·have l1 : Op.bytesLess s.toList t.toList = false:=by rw [he,bytesLess_irrefl]
        have l2 : (s.toList == t.toList) = true:=by rw [he];simp
        clear hl hl2 he hinv
        go_wp2_with fail
        refine t_region (Grows) [(0,false),(1,false),(2,false),(3,false),(4,false),(5,false),(6,false),(7,false),(8,false),(9,false),(10,false),(11,false),(12,false),(13,false),(14,false),(15,false),(16,false),(17,false),(18,false),(19,false),(20,false),(21,false),(22,false),(23,false),(24,false),(25,false),(26,false),(27,false),(28,false),(29,false)] Grows.refl Grows.trans (by kernel_rfl) (by kernel_rfl) (fun d _ _ _ _ h => by cases d <;> exact h) ?_
        iterate 30 (refine t_quiet rfl (fun K hK => ?_);go_simp;refine hK _ ?_;clear hK K)
        refine t_end ?_
        go_wp2_with fail
        go_ret
        exact ⟨by rw [HB.out];rfl,hg.dr⟩
       ·have l1 : Op.bytesLess s.toList t.toList = true:=bytesLess_total hl2 (fun h => he h.symm)
        clear hl hl2 he hinv
        go_wp2_with fail
        refine t_region (Grows) [(0,false),(1,false),(2,false),(3,false),(4,false),(5,false),(6,false),(7,false),(8,false),(9,false),(10,false),(11,false),(12,false),(13,false),(14,false),(15,false),(16,false),(17,false),(18,false),(19,false),(20,false),(21,false),(22,false),(23,false),(24,false),(25,false),(26,false),(27,false),(28,false),(29,false)] Grows.refl Grows.trans (by kernel_rfl) (by kernel_rfl) (fun d _ _ _ _ h => by cases d <;> exact h) ?_
        iterate 30 (refine t_quiet rfl (fun K hK => ?_);go_simp;refine hK _ ?_;clear hK K)
        refine t_end ?_
        go_wp2_with fail
        go_ret
        exact ⟨by rw [HB.out];rfl,hg.dr⟩
  ·have hke : k = B.length:=by omega
   have hki : ¬ (k : Int) < B.length:=by omega
   have hnb : anyBad (bls B) = false:=anyBad_none (fun i hi => hinv.out i (by rw [bls_len] at hi;omega))
   have hok:=okL_of hnb
   have hs256 : ∀ s ∈ B,s.size ≤ 256:=fun s hs => by
    have:=hok.len (bl s) (List.mem_map.2 ⟨s,hs,rfl⟩)
    rwa [bl_len] at this
   have CC:=rcount_any B a c wr (by omega) hs256 (HAT.out.grows hg)
   have HF2 : Hid (chk11 (bls B) = if 524287 < countL (bls B) then 2 else 0):=by show _ = _;rw [HF.out,hnb];rfl
   obtain ⟨N,hN⟩ : ∃ N,N = countL (bls B):=⟨_,rfl⟩
   rw [← hN] at CC HF2
   clear hinv hke hnb hok hs256 hN
   go_wp2_with fail
   refine CC.mono ?_
   rintro e w1 ⟨rfl,hg1⟩
   by_cases hbigN : 524287 < N
   ·have hNi : (524287 : Int) < N:=by omega
    have HB : Hid (chk11 (bls B) = 2):=by show _ = _;rw [HF2.out,if_pos hbigN]
    go_wp2_with fail
    go_ret
    exact ⟨by rw [HB.out];rfl,hg.tr hg1⟩
   ·have hNi : ¬ (524287 : Int) < N:=by omega
    have HB : Hid (chk11 (bls B) = 0):=by show _ = _;rw [HF2.out,if_neg hbigN]
    go_wp2_with fail
    go_ret
    exact ⟨by rw [HB.out];rfl,hg.tr hg1⟩
end Go.Proofs.YtepoiefadjoabaaGreatDoor
namespace Go.Proofs.YtepoiefadjoabaaGreatDoor
open Go Go.RowKit
attribute [local go_sem] quietE quietE2
theorem bls_snoc (B : List ByteArray) (s : ByteArray) : bls (B ++ [s]) = bls B ++ [bl s] := by simp [bls]
theorem bls_app (B C : List ByteArray) : bls (B ++ C) = bls B ++ bls C := by simp [bls]
theorem bls_get {B : List ByteArray} {k : Nat} {s : ByteArray} (h : B[k]? = some s) : (bls B)[k]? = some (bl s) := by unfold bls; rw [List.getElem?_map, h]; rfl
theorem bls_last {B : List ByteArray} {s : ByteArray} (h : B[B.length - 1]? = some s) : (bls B).getLastD [] = bl s := by
 have h2:=bls_get h
 rw [List.getLastD_eq_getLast?,List.getLast?_eq_getElem?,bls_len,h2];rfl
set_option maxHeartbeats 8000000 in
set_option maxRecDepth 100000 in
theorem rlevel_any (B : List ByteArray) (a : Option Addr) (c n : Nat) (w : World) (hB : B.length ≤ 20000) (hn : n ≤ 256) (hsz : ∀ s ∈ B, s.size ≤ 256) (hat : AtCells w a 1 (B.map stC)) :
  Calls Tryz.prog 178 #[.slice a B.length c,.int .i64 n] w fun e w' => ∃ v N,e = .returned v∧Owns w' w.heap.size 9 1 stC v N∧bls N = levL (bls B) n∧Grows w w':=by
 have HAT:=Lib.hid hat
 have HSZ:=Lib.hid hsz
 clear hat hsz
 go_enter Tryz.func178,Tryz.ntmps178
 go_wp2_with fail
 go_loopw [5,6] (fun out i wr => ∃ (k : Nat) (acc : List ByteArray),k ≤ B.length∧i = .int .i64 k∧acc.length ≤ k∧Hid (bls acc = ((bls B).take k).foldl (levStep n) [])∧Owns wr w.heap.size 9 1 stC out acc∧Grows w wr) (fun _ i _ => B.length - (intOf i).toNat)
 case atStart => exact ⟨0,[],Nat.zero_le _,rfl,Nat.le_refl _,rfl,Owns.nil _ _ _ _ _,Grows.refl _⟩
 case round =>
  obtain ⟨k,acc,hk,rfl,hal,hacc,hown,hg⟩:=hrel
  by_cases hlt : k < B.length
  ·obtain ⟨s,hx⟩ : ∃ x,B[k]? = some x:=⟨_,List.getElem?_eq_getElem hlt⟩
   obtain ⟨b,o,rfl,hc⟩:=at1 HAT.out (ne_nil_of_lt hlt)
   have hcw:=hc k s hx
   have hs:=HSZ.out s (List.mem_of_getElem? hx)
   have y1 : ∀ x : Ext Grows wr.drew,x.u.cell? ⟨b,o + k,none⟩ = some (.string s):=ext_cell (hg.dr.cell hcw)
   have c1 : wr.drew.cell? ⟨b,o + k,none⟩ = some (.string s):=hg.dr.cell hcw
   have HST : Hid (((bls B).take (k + 1)).foldl (levStep n) [] = levStep n (bls acc) (bl s)):=by
    show _ = _
    rw [takeSnoc (bls_get hx),List.foldl_append,← hacc.out];rfl
   have hki : (k : Int) < B.length:=by omega
   clear hc hx hcw hacc
   by_cases hns : n ≤ s.size
   ·have hnb : decide ((n : Int) ≤ s.size) = true:=by simpa using hns
    have hn0 : (0 : Int) ≤ n:=by omega
    have hni : (n : Int) ≤ s.size:=by omega
    have hcut:=bl_cut (s:=s) (n:=n)
    obtain ⟨q,hq⟩ : ∃ q,q = s.extract 0 n:=⟨_,rfl⟩
    rw [← hq] at hcut
    have HCUT:=Lib.hid hcut
    have hrun : ∀ W : World,(Instr.slice 9 (.string s) none (some (.int .i64 n)) none).run Tryz.prog W = .ok (.string q) W:=fun W => by
     rw [hq];exact run_slice_string_h W _ s Tryz.underlying9 .i64 n hn0 hni
    clear hcut hq
    by_cases he : acc.length = 0
    ·have hnil:=List.eq_nil_of_length_eq_zero he
     subst hnil
     have HN : Hid (bls ([] ++ [q]) = ((bls B).take (k + 1)).foldl (levStep n) []):=by
      show _ = _
      rw [HST.out,bls_snoc]
      unfold levStep
      rw [if_pos ⟨by rw [bl_len];exact hns,Or.inl rfl⟩,HCUT.out]
     obtain ⟨ao,co,rfl,_,_,hato⟩:=hown.at_ (enc:=stC) (fun _ => rfl)
     have hown1:=hown.grows (Grows.drew wr)
     clear hato
     go_wp2_with fail
     refine t_region (Grows) [(0,false),(1,false),(2,false),(3,false),(4,false),(5,false),(6,false),(7,false),(8,false),(9,false),(10,false),(11,false),(12,false),(13,false),(14,false),(15,false),(16,false),(17,false),(18,false),(19,false),(20,false),(21,false),(22,false),(23,false),(24,false),(25,false),(26,false)] Grows.refl Grows.trans (by kernel_rfl) (by kernel_rfl) (fun d _ _ _ _ h => by cases d <;> exact h) ?_
     iterate 27 (refine t_quiet rfl (fun K hK => ?_);go_simp;refine hK _ ?_;clear hK K)
     refine t_end ?_
     go_wp2_with (at_builtin;refine app_one stLay rfl _ _ rfl w.heap.size _ [] q rfl hown1 (Grows.refl _) _ 1 rfl #[.string q] rfl rfl (by simp) hg.dr.size ?_;intro v' w5 hown5 hg5)
     go_roundw
     case rel => exact ⟨k + 1,_,hlt,by go_num,by simp,HN.out,hown5,hg5 w hg.dr (Nat.le_refl _)⟩
     case measure => simp [intOf];omega
    ·obtain ⟨p,hp⟩ : ∃ p,acc[acc.length - 1]? = some p:=⟨_,List.getElem?_eq_getElem (by omega)⟩
     have HP:=Lib.hid (bls_last hp)
     obtain ⟨ao,co,rfl,_,_,hato⟩:=hown.at_ (enc:=stC) (fun _ => rfl)
     obtain ⟨b2,o2,rfl,hc2⟩:=at1 hato (ne_nil_of_lt (k:=acc.length - 1) (by omega))
     have y2 : ∀ x : Ext Grows wr.drew,x.u.cell? ⟨b2,o2 + (acc.length - 1),none⟩ = some (.string p):=ext_cell ((Grows.drew wr).cell (hc2 _ _ hp))
     have hb0 : ((acc.length : Int) == 0) = false:=by rw [beq_eq_false_iff_ne];omega
     have hk1 : (acc.length : Int) - 1 = ((acc.length - 1 : Nat) : Int):=by omega
     have hk2 : ((acc.length - 1 : Nat) : Int) < acc.length:=by omega
     have hk3 : IntKind.i64.wrap ((acc.length - 1 : Nat) : Int) = ((acc.length - 1 : Nat) : Int):=by simp [IntKind.wrap,IntKind.bits,IntKind.signed];omega
     have hown1:=hown.grows (Grows.drew wr)
     have hne : ¬ bls acc = []:=fun h => he (by have:=congrArg List.length h;rw [bls_len] at this;simpa using this)
     have HNE:=Lib.hid hne
     clear hato hc2 hp hne
     by_cases heq : p = q
     ·have l2 : (p.toList == q.toList) = true:=by rw [heq];simp
      have HN : Hid (bls acc = ((bls B).take (k + 1)).foldl (levStep n) []):=by
       show _ = _
       rw [HST.out]
       unfold levStep
       rw [if_neg (fun h => h.2.elim HNE.out (fun h2 => h2 (by rw [HP.out,heq,HCUT.out])))]
      clear heq
      go_wp2_with fail
      refine t_region (Grows) [(0,false),(1,false),(2,false),(3,false),(4,false),(5,false),(6,false),(7,false),(8,false),(9,false),(10,false),(11,false),(12,false),(13,false),(14,false),(15,false),(16,false),(17,false),(18,false),(19,false),(20,false),(21,false),(22,false),(23,false),(24,false),(25,false),(26,false)] Grows.refl Grows.trans (by kernel_rfl) (by kernel_rfl) (fun d _ _ _ _ h => by cases d <;> exact h) ?_
      iterate 27 (refine t_quiet rfl (fun K hK => ?_);go_simp;refine hK _ ?_;clear hK K)
      refine t_end ?_
      go_wp2_with fail
      go_roundw
      case rel => exact ⟨k + 1,_,hlt,by go_num,by omega,HN.out,hown1,hg.dr⟩
      case measure => simp [intOf];omega
     ·have l2 : (p.toList == q.toList) = false:=by
       rw [beq_eq_false_iff_ne];exact fun h => heq (toList_inj h)
      have HN : Hid (bls (acc ++ [q]) = ((bls B).take (k + 1)).foldl (levStep n) []):=by
       show _ = _
       rw [HST.out,bls_snoc]
       unfold levStep
       rw [if_pos ⟨by rw [bl_len];exact hns,Or.inr (fun h => heq (bl_inj (by rw [← HP.out,h,HCUT.out])))⟩,HCUT.out]
      clear heq
      go_wp2_with fail
      refine t_region (Grows) [(0,false),(1,false),(2,false),(3,false),(4,false),(5,false),(6,false),(7,false),(8,false),(9,false),(10,false),(11,false),(12,false),(13,false),(14,false),(15,false),(16,false),(17,false),(18,false),(19,false),(20,false),(21,false),(22,false),(23,false),(24,false),(25,false),(26,false)] Grows.refl Grows.trans (by kernel_rfl) (by kernel_rfl) (fun d _ _ _ _ h => by cases d <;> exact h) ?_
      iterate 27 (refine t_quiet rfl (fun K hK => ?_);go_simp;refine hK _ ?_;clear hK K)
      refine t_end ?_
      go_wp2_with (at_builtin;refine app_one stLay rfl _ _ rfl w.heap.size _ acc q rfl hown1 (Grows.refl _) _ 1 rfl #[.string q] rfl rfl (by omega) hg.dr.size ?_;intro v' w5 hown5 hg5)
      go_roundw
      case rel => exact ⟨k + 1,_,hlt,by go_num,by simp;omega,HN.out,hown5,hg5 w hg.dr (Nat.le_refl _)⟩
      case measure => simp [intOf];omega
   ·have hnb : decide ((n : Int) ≤ s.size) = false:=by simp;omega
    have hnp : ¬ n ≤ s.size:=hns
    have HN : Hid (bls acc = ((bls B).take (k + 1)).foldl (levStep n) []):=by
     show _ = _
     rw [HST.out]
     unfold levStep
     rw [if_neg (fun h => hns (by have:=h.1;rwa [bl_len] at this))]
    have hown1:=hown.grows (Grows.drew wr)
    go_wp2_with fail
    refine t_region (Grows) [(0,false),(1,false),(2,false),(3,false),(4,false),(5,false),(6,false),(7,false),(8,false),(9,false),(10,false),(11,false),(12,false),(13,false),(14,false),(15,false),(16,false),(17,false),(18,false),(19,false),(20,false),(21,false),(22,false),(23,false),(24,false),(25,false),(26,false)] Grows.refl Grows.trans (by kernel_rfl) (by kernel_rfl) (fun d _ _ _ _ h => by cases d <;> exact h) ?_
    iterate 27 (refine t_quiet rfl (fun K hK => ?_);go_simp;refine hK _ ?_;clear hK K)
    refine t_end ?_
    go_wp2_with fail
    go_roundw
    case rel => exact ⟨k + 1,_,hlt,by go_num,by omega,HN.out,hown1,hg.dr⟩
    case measure => simp [intOf];omega
  ·have hki : ¬ (k : Int) < B.length:=by omega
   have HF : Hid (bls acc = levL (bls B) n):=by
    show _ = _
    rw [hacc.out,List.take_of_length_le (by rw [bls_len];omega)];rfl
   clear hacc
   go_wp2_with fail
   go_ret
   exact ⟨_,rfl,acc,hown,HF.out,hg⟩
set_option maxHeartbeats 4000000 in
set_option maxRecDepth 100000 in
theorem rnodes_any (B : List ByteArray) (a : Option Addr) (c : Nat) (w : World) (hB : B.length ≤ 20000) (hsz : ∀ s ∈ B, s.size ≤ 256) (hat : AtCells w a 1 (B.map stC)) :
  Calls Tryz.prog 128 #[.slice a B.length c] w fun e w' => ∃ v N,e = .returned v∧Owns w' w.heap.size 9 1 stC v N∧bls N = nodesL (bls B)∧Grows w w':=by
 have HAT:=Lib.hid hat
 have HSZ:=Lib.hid hsz
 clear hat hsz
 go_enter Tryz.func128,Tryz.ntmps128
 go_wp2_with fail
 have hown0:=owns_box (enc:=stC) (e:=9) (w:=w) (base:=w.heap.size) (fun _ => rfl) (Nat.le_refl _) [(⟨#[]⟩ : ByteArray)] (cs:=#[.string ⟨#[]⟩]) rfl (n:=1) rfl (by decide)
 go_loopw [3,4] (fun out i wr => ∃ (k : Nat) (acc : List ByteArray),k ≤ 256∧i = .int .i64 ((k : Int) + 1)∧Hid (bls acc = nodesTo (bls B) k)∧Owns wr w.heap.size 9 1 stC out acc∧Grows w wr) (fun _ i _ => 257 - (intOf i).toNat)
 case atStart => exact ⟨0,[(⟨#[]⟩ : ByteArray)],by omega,rfl,rfl,hown0,Grows.alloc _ _⟩
 case round =>
  obtain ⟨k,acc,hk,rfl,hacc,hown,hg⟩:=hrel
  have hal : acc.length ≤ 1 + k * 20000:=by
   have h1:=nodesTo_len (bls B) k
   rw [← hacc.out,bls_len,bls_len] at h1
   have:=Nat.mul_le_mul_left k hB
   omega
  by_cases hlt : k < 256
  ·have hki : (k : Int) + 1 ≤ 256:=by omega
   have CL:=rlevel_any B a c (k + 1) wr hB (by omega) HSZ.out (HAT.out.grows hg)
   have hpc : ((k + 1 : Nat) : Int) = (k : Int) + 1:=by omega
   rw [hpc] at CL
   go_wp2_with fail
   refine CL.mono ?_
   rintro e w1 ⟨v1,N,rfl,hown1,hN,hg1⟩
   have hNl : N.length ≤ 20000:=by
    have h1:=congrArg List.length hN
    rw [bls_len] at h1
    have:=levL_len (bls B) (k + 1)
    rw [bls_len] at this
    omega
   have HN : Hid (bls (acc ++ N) = nodesTo (bls B) (k + 1)):=by show _ = _;rw [bls_app,nodesTo_succ,hacc.out,hN]
   obtain ⟨a1,c1,rfl,_,_,hat1⟩:=hown1.at_ (enc:=stC) (fun _ => rfl)
   have hn1:=owns_none2 hown1
   have hownA:=hown.grows hg1
   have hgA:=hg.tr hg1
   clear hN CL hown hown1 hg1 hacc
   go_wp2_with (at_builtin;refine app_many stLay rfl _ _ rfl w.heap.size _ acc N rfl hownA (Grows.refl _) a1 c1 rfl hat1 hn1 (by omega) hgA.size ?_;intro v2 w2 hown2 hg2)
   go_roundw
   case rel => exact ⟨k + 1,_,hlt,by go_num,HN.out,hown2,hg2 w hgA (Nat.le_refl _)⟩
   case measure => simp [intOf];omega
  ·have hki : ¬ (k : Int) + 1 ≤ 256:=by omega
   have HF : Hid (bls acc = nodesL (bls B)):=by show _ = _;rw [hacc.out,show k = 256 by omega];rfl
   clear hacc
   go_wp2_with fail
   go_ret
   exact ⟨_,rfl,acc,hown,HF.out,hg⟩
set_option maxHeartbeats 2000000 in
set_option maxRecDepth 100000 in
theorem rfind11_any (B : List ByteArray) (s : ByteArray) (a : Option Addr) (c : Nat) (w : World) (hB : B.length ≤ 1099511627776) (hat : AtCells w a 1 (B.map stC)) :
  Calls Tryz.prog 129 #[.slice a B.length c,.string s] w fun e w' => ((e = .returned (.int .i64 (-1))∧s ∉ B) ∨ ∃ k : Nat,e = .returned (.int .i64 k)∧B[k]? = some s)∧w = w':=by
 have HAT:=Lib.hid hat
 clear hat
 go_enter Tryz.func129,Tryz.ntmps129
 go_wp2_with fail
 go_loop [5] (fun i => ∃ k : Nat,k ≤ B.length∧i = .int .i64 k∧Hid (s ∉ B.take k)) (fun i => B.length - (intOf i).toNat)
 case atStart => exact ⟨0,Nat.zero_le _,rfl,(by show ¬ _;simp)⟩
 case round =>
  obtain ⟨k,hk,rfl,hno⟩:=hrel
  by_cases hlt : k < B.length
  ·obtain ⟨t,hx⟩ : ∃ x,B[k]? = some x:=⟨_,List.getElem?_eq_getElem hlt⟩
   obtain ⟨b,o,rfl,hc⟩:=at1 HAT.out (ne_nil_of_lt hlt)
   have hcw:=hc k t hx
   have HX:=Lib.hid hx
   by_cases he : t = s
   ·have hb : (t.toList == s.toList) = true:=by rw [he];simp
    have HE:=Lib.hid he
    clear hc hx he
    go_wp2
    go_ret
    exact ⟨Or.inr ⟨k,rfl,by rw [HX.out,HE.out]⟩,rfl⟩
   ·have hb : (t.toList == s.toList) = false:=by rw [beq_eq_false_iff_ne];exact fun h => he (toList_inj h)
    have HN : Hid (s ∉ B.take (k + 1)):=by
     show ¬ _
     rw [takeSnoc hx,List.mem_append,not_or]
     exact ⟨hno.out,by simpa using Ne.symm he⟩
    clear hc hx he
    go_wp2
    go_round
    case rel => exact ⟨k + 1,hlt,by go_num,HN.out⟩
    case measure => simp [intOf];omega
  ·have hki : ¬ (k : Int) < B.length:=by omega
   have HF : Hid (s ∉ B):=by
    have h:=hno.out
    rw [List.take_of_length_le (by omega)] at h
    exact h
   clear hno
   go_wp2
   go_ret
   exact ⟨Or.inl ⟨rfl,HF.out⟩,rfl⟩
end Go.Proofs.YtepoiefadjoabaaGreatDoor
