/- The texts CrcW SecW SecJ RefX Bid SecP SecC, one behind the other. -/
import Derived.Test.YtepoiefadjoabaaGreatDoorQ11
import Derived.Test.YtepoiefadjoabaaGreatDoorQ38
import Derived.Test.YtepoiefadjoabaaGreatDoorQ13
import Derived.Maps.Own
import Derived.Carry
import Derived.Lib.SlBytesConst
import Derived.Test.YtepoiefadjoabaaGreatDoorQ4
import Derived.Test.YtepoiefadjoabaaGreatDoorQ21
import Derived.Test.YtepoiefadjoabaaGreatDoorQ14
import Derived.Test.YtepoiefadjoabaaGreatDoorQ25
import Derived.Test.YtepoiefadjoabaaGreatDoorQ29
namespace Go.Proofs.YtepoiefadjoabaaGreatDoor
open Go Go.RowKit Go.Shelf
attribute [local go_sem] quietE quietE2
theorem crc_half {R q : Nat} (hR : R < 4294967296) (hq : crc4 R = R / 16 ^^^ q) (hql : q < 4294967296) : bits .xor .u32 ((R : Int) / 16) (q : Int) = ((crc4 R : Nat) : Int) := by
 have h:=u32_xor_nat (R / 16) q (by omega) hql
 rw [hq,← h]
 rfl
theorem quarter_lt : ∀ (i q : Nat), quarterT[i]? = some q → q < 4294967296 := by
 intro i q h
 have h1:=List.mem_of_getElem? h
 simp [quarterT] at h1
 omega
theorem and15I {R : Nat} (hR : R < 4294967296) : bits .and .u32 (R : Int) 15 = ((R % 16 : Nat) : Int) := by
 have h:=u32_and_nat R 15 hR (by decide)
 rw [nat_mask4] at h
 exact h
set_option maxHeartbeats 4000000 in
set_option maxRecDepth 100000 in
theorem crcAdd_any (b : List UInt8) (a : Option Addr) (c : Nat) (w : World) (he : Env w) (hb : b.length ≤ 1099511627776) (hat : AtCells w a 1 (b.map byteC)) :
  Calls Tryz.prog 155 #[.int .u32 0,.slice a b.length c] w fun e w' => e = .returned (.int .u32 (crcSum b))∧w = w':=by
 have HAT:=Lib.hid hat
 clear hat
 go_enter Tryz.func155,Tryz.ntmps155
 go_wp2_with fail
 go_loop [5,12] (fun r i => ∃ k R : Nat,k ≤ b.length∧i = .int .i64 k∧r = .int .u32 R∧R < 4294967296∧Hid (R = crcGo 4294967295 (b.take k))) (fun _ i => b.length - (intOf i).toNat)
 case atStart => exact ⟨0,4294967295,Nat.zero_le _,rfl,rfl,by decide,rfl⟩
 case round =>
  obtain ⟨k,R,hk,rfl,rfl,hR,hinv⟩:=hrel
  by_cases hlt : k < b.length
  ·obtain ⟨x,hx⟩ : ∃ x,b[k]? = some x:=⟨_,List.getElem?_eq_getElem hlt⟩
   obtain ⟨bb,bo,rfl,hc⟩:=at1 HAT.out (ne_nil_of_lt hlt)
   have hcx:=hc k x hx
   have HN : Hid (crc8 (R ^^^ x.toNat) = crcGo 4294967295 (b.take (k + 1))):=by show _ = _;rw [takeSnoc hx,crcGo_snoc,← hinv.out]
   have hx256:=x.toNat_lt
   have hxo:=u32_xor_nat R x.toNat hR (by omega)
   obtain ⟨X,hX⟩ : ∃ X,X = R ^^^ x.toNat:=⟨_,rfl⟩
   have hXl : X < 4294967296:=by rw [hX];exact Nat.xor_lt_two_pow (n:=32) hR (by omega)
   rw [← hX] at hxo HN
   obtain ⟨q1,hq1,hs1⟩:=crc4_table X
   obtain ⟨Y,hY⟩ : ∃ Y,Y = crc4 X:=⟨_,rfl⟩
   have hYl : Y < 4294967296:=by rw [hY];exact crc4_lt hXl
   have e1:=crc_half hXl hs1 (quarter_lt _ _ hq1)
   rw [← hY] at e1
   obtain ⟨q2,hq2,hs2⟩:=crc4_table Y
   obtain ⟨Z,hZ⟩ : ∃ Z,Z = crc4 Y:=⟨_,rfl⟩
   have hZl : Z < 4294967296:=by rw [hZ];exact crc4_lt hYl
   have e2:=crc_half hYl hs2 (quarter_lt _ _ hq2)
   rw [← hZ] at e2
   have HN2 : Hid (Z = crcGo 4294967295 (b.take (k + 1))):=by show _ = _;rw [hZ,hY,← HN.out];rfl
   have a1:=and15I hXl
   have a2:=and15I hYl
   obtain ⟨i1,hi1⟩ : ∃ i1,i1 = X % 16:=⟨_,rfl⟩
   obtain ⟨i2,hi2⟩ : ∃ i2,i2 = Y % 16:=⟨_,rfl⟩
   rw [← hi1] at a1 hq1
   rw [← hi2] at a2 hq2
   have g1:=he.crc i1 q1 hq1
   have g2:=he.crc i2 q2 hq2
   have l1 : (i1 : Int) < 16:=by omega
   have l2 : (i2 : Int) < 16:=by omega
   clear hc hx hinv hX hY hZ hq1 hq2 hs1 hs2 HN hi1 hi2
   go_wp2_with fail
   go_round
   case rel => exact ⟨k + 1,Z,hlt,by go_num,rfl,hZl,HN2.out⟩
   case measure => simp [intOf];omega
  ·have hke : k = b.length:=by omega
   have hki : ¬ (k : Int) < b.length:=by omega
   have hcs : R ^^^ 4294967295 = crcSum b:=by rw [hinv.out,hke,List.take_length];rfl
   have hx : bits .xor .u32 IntKind.u32.max (R : Int) = ((crcSum b : Nat) : Int):=by
    rw [← hcs,Nat.xor_comm]
    exact u32_xor_nat 4294967295 R (by decide) hR
   clear hinv hke hcs
   go_wp2_with fail
   go_ret
   exact ⟨rfl,rfl⟩
set_option maxHeartbeats 400000 in
theorem crcSum_any (b : List UInt8) (a : Option Addr) (c : Nat) (w : World) (he : Env w) (hb : b.length ≤ 1099511627776) (hat : AtCells w a 1 (b.map byteC)) :
  Calls Tryz.prog 102 #[.slice a b.length c] w fun e w' => e = .returned (.int .u32 (crcSum b))∧w = w':=by
 go_enter Tryz.func102,Tryz.ntmps102
 go_wp2_with fail
 refine (crcAdd_any b a c w he hb hat).mono ?_
 rintro e w1 ⟨rfl,rfl⟩
 go_wp2_with fail
 go_ret
 exact ⟨rfl,rfl⟩
set_option maxHeartbeats 1000000 in
theorem sumBytes_any (b : List UInt8) (a : Option Addr) (c : Nat) (w : World) (he : Env w) (hb : b.length ≤ 1099511627776) (hat : AtCells w a 1 (b.map byteC)) :
  Calls Tryz.prog 58 #[.slice a b.length c] w fun e w' => ∃ v,e = .returned v∧Owns w' w.heap.size 5 1 byteC v (leB 4 (crcSum b))∧Grows w w':=by
 have hcl : crcSum b < 4294967296:=Nat.xor_lt_two_pow (n:=32) (crcGo_lt _ (by decide)) (by decide)
 have CS:=Lib.hid (crcSum_any b a c w he hb hat)
 obtain ⟨n,hn⟩ : ∃ n,n = crcSum b:=⟨_,rfl⟩
 rw [← hn] at hcl CS ⊢
 have HH:=Lib.hid (crc_cells n hcl)
 clear hn
 go_enter Tryz.func58,Tryz.ntmps58
 go_wp2_with fail
 refine CS.out.mono ?_
 rintro e w1 ⟨rfl,rfl⟩
 go_wp2_with fail
 go_ret
 exact ⟨_,rfl,owns_box (enc:=byteC) (fun _ => rfl) (Nat.le_refl _) (leB 4 n) HH.out (n:=4) (by simp [leB_len]) (by decide),Grows.alloc _ _⟩
end Go.Proofs.YtepoiefadjoabaaGreatDoor
namespace Go.Proofs.YtepoiefadjoabaaGreatDoor
open Go Go.RowKit Go.Shelf
attribute [local go_sem] quietE quietE2
set_option maxHeartbeats 1000000 in
theorem isName1_any (w : World) : PredAt Tryz.prog 199 #[] encR azBad w := fun W x _ => by
 unfold FnGives
 show Calls Tryz.prog 199 #[.int .i32 (x : Int)] W _
 go_enter Tryz.func199,Tryz.ntmps199
 go_wp2
 all_goals (go_ret;refine ⟨ret_bool ?_,0,rfl⟩;rw [Bool.eq_iff_iff];simp [azBad];try omega)
set_option maxHeartbeats 1000000 in
theorem isName_any (s : ByteArray) (w : World) (hs : s.size ≤ 9223372036854775807) :
  Calls Tryz.prog 150 #[.string s] w fun e w' => e = .returned (.bool (azS s))∧Grows w w':=by
 have con:=Lib.hid (Tryz.strings_ContainsFunc 199 #[] (enters_of Tryz.func199 (by kernel_rfl) rfl) azBad s w (isName1_any w))
 rw [idx_D,any_bytes (fun c h => azBad_great h)] at con
 unfold azS
 generalize (s.data.toList.any fun b => azBad b.toNat) = r at con ⊢
 by_cases h1 : 1 ≤ s.size
 ·have g1 : (1 : Int) ≤ s.size:=by omega
  by_cases hz : s.size ≤ 16
  ·have hz' : (s.size : Int) ≤ 16:=by omega
   go_enter Tryz.func150,Tryz.ntmps150
   go_wp2_with (go_at_call 183;refine con.out.mono ?_;rintro e w' ⟨rfl,hg2⟩)
   go_ret
   exact ⟨ret_bool (by simp [h1,hz]),hg2⟩
  ·have hz' : ¬ (s.size : Int) ≤ 16:=by omega
   go_enter Tryz.func150,Tryz.ntmps150
   go_wp2
   go_ret
   exact ⟨ret_bool (by simp <;> omega),Grows.refl _⟩
 ·have g1 : ¬ (1 : Int) ≤ s.size:=by omega
  go_enter Tryz.func150,Tryz.ntmps150
  go_wp2
  go_ret
  exact ⟨ret_bool (by simp <;> omega),Grows.refl _⟩
theorem plainElem_bool_inv {H : Type} {P : Program} {e : TypeId} (he : P.underlying e = some .bool) {v : Value} {z : DataW H × List MemPlace} (h : plainElem P e v = some z) : ∃ b, v = .bool b ∧ z = (.lit (.bool b), []) := by
 unfold plainElem at h
 rw [he] at h
 cases v <;> simp at h
 exact ⟨_,rfl,h.symm⟩
theorem zeroB (w : World) : (zeroValue 4).run Tryz.prog w = .ok (.bool false) w := by kernel_rfl
def SeenM (l : List ByteArray) (D : DataW Unit) : Prop := ∀ s : ByteArray, s.size ≤ maxLen → D.atKey (.string s.data.toList) (.lit (.bool false)) = .lit (.bool (l.any fun t => seq t s))
theorem seenM_look {w : World} {b n : Nat} {D : DataW Unit} {l : List ByteArray} (hM : SeenM l D) (hown : w.ownsMap Tryz.prog 9 (plainElem Tryz.prog 4) b n D) {s : ByteArray} (hs : s.size ≤ maxLen) :
  (Instr.lookup 203 (.map (some b)) (.string s) false).run Tryz.prog w = .ok (.bool (l.any fun t => seq t s)) w:=by
 obtain ⟨v,ps,hrun,hv⟩:=hown.lookup (Maps.string_keyed Tryz.underlying9) Tryz.underlying203 (zeroB w) (plainElem_bool Tryz.underlying4 false) (WideMaps.keyOf_string_mk Tryz.underlying9 hs)
 obtain ⟨c,rfl,hc⟩:=plainElem_bool_inv Tryz.underlying4 hv
 simp only [Prod.mk.injEq] at hc
 rw [hM s hs] at hc
 have : c = l.any fun t => seq t s:=by have:=hc.1;simpa using this.symm
 rw [← this];exact hrun
theorem seenM_put {b n : Nat} {w : World} {D : DataW Unit} {l : List ByteArray} (hM : SeenM l D) (hown : w.ownsMap Tryz.prog 9 (plainElem Tryz.prog 4) b n D) (s : ByteArray) : SeenM (l ++ [s]) (D.put (.string s.data.toList) (.lit (.bool true))) := fun t ht => by
 by_cases h : s = t
 ·subst h
  rw [Maps.atKey_put_same hown.isMap (k:=.string s.data.toList) trivial]
  simp [seq_iff]
 ·have hne : (Lit.string t.data.toList) ≠ .string s.data.toList:=fun h2 => h (by
   injection h2 with h3
   exact bytes_ext h3.symm)
  rw [Maps.atKey_put_other hne,hM t ht,List.any_append]
  have : seq s t = false:=seq_false.2 h
  simp [this]
theorem dup14_snoc : ∀ (l : List PartV) (p : PartV) (seen : List ByteArray), dup14 (l ++ [p]) seen = (dup14 l seen || (seen ++ l.map (·.name)).any fun s => seq s p.name)
 | [],p,seen => by simp [dup14]
 | q :: l,p,seen => by
  rw [List.cons_append,dup14,dup14_snoc l p (seen ++ [q.name]),dup14]
  simp [Bool.or_assoc,List.append_assoc]
set_option maxHeartbeats 8000000 in
set_option maxRecDepth 100000 in
theorem chk14_any (l : List PartV) (a : Option Addr) (c : Nat) (w : World) (hl : l.length ≤ 1000000) (hat : AtCells w a 2 (l.map partC)) (hpa : PartsAt w l) :
  Calls Tryz.prog 96 #[.slice a l.length c] w fun e w' => e = .returned (.int .i64 (chk14 l))∧Grows w w':=by
 have HD:=Lib.hid hpa.data
 have HNM:=Lib.hid hpa.name
 clear hpa
 have hcells : ∀ k p,l[k]? = some p → ∃ b o,a = some ⟨b,o,none⟩∧w.cell? ⟨b,o + k * 2,none⟩ = some (.string p.name)∧w.cell? ⟨b,o + k * 2 + 1,none⟩ = some (.slice p.a p.data.length p.c):=by
  intro k p hp
  obtain ⟨b,o,ha,hc⟩:=AtCells.get (enc:=partC) hat (ne_nil_of_lt (List.getElem?_eq_some_iff.1 hp).1)
  exact ⟨b,o,ha,hc k p hp 0 _ rfl,hc k p hp 1 _ rfl⟩
 have HC:=Lib.hid hcells
 clear hcells hat
 have hmm:=@run_makeMap Tryz.prog
 go_enter Tryz.func96,Tryz.ntmps96
 go_wp2_with fail
 have hmap0:=World.ownsMap_made w Tryz.prog 9 (plainElem (H:=Unit) Tryz.prog 4)
 have hgw1 : Grows w (w.alloc (.map #[] 0)):=Grows.alloc _ _
 have hbw : w.heap.size < (w.alloc (.map #[] 0)).heap.size:=by simp
 obtain ⟨mb,hmb⟩ : ∃ mb,mb = w.heap.size:=⟨_,rfl⟩
 generalize w.alloc (.map #[] 0) = w1 at hmap0 hgw1 hbw ⊢
 rw [← hmb] at hmap0 hbw ⊢
 have HMB:=Lib.hid hmb
 clear hmb hmm
 go_loopw [3,13] (fun n i wr => ∃ k N : Nat,k ≤ l.length∧i = .int .i64 k∧n = .int .i64 N∧N ≤ k * 1099511627776∧Hid (N = sum14 (l.take k))∧Grows w1 wr) (fun _ i _ => l.length - (intOf i).toNat)
 case atStart => exact ⟨0,0,Nat.zero_le _,rfl,rfl,by omega,rfl,Grows.refl _⟩
 case round =>
  obtain ⟨k,N,hk,rfl,rfl,hN,hinv,hg⟩:=hrel
  by_cases hlt : k < l.length
  ·obtain ⟨p,hp⟩ : ∃ p,l[k]? = some p:=⟨_,List.getElem?_eq_getElem hlt⟩
   obtain ⟨b,o,rfl,d0,d1⟩:=HC.out k p hp
   have c0:=(hgw1.tr hg).cell d0
   have c1:=(hgw1.tr hg).cell d1
   have hd:=HD.out p (List.mem_of_getElem? hp)
   have HS : Hid (N + p.data.length = sum14 (l.take (k + 1))):=by show _ = _;rw [takeSnoc hp,sum14_snoc,← hinv.out]
   have hki : (k : Int) < l.length:=by omega
   clear hp hinv d0 d1
   go_wp2_with fail
   go_roundw
   case rel => exact ⟨k + 1,N + p.data.length,hlt,by go_num,by go_num,by omega,HS.out,hg.al _⟩
   case measure => simp [intOf];omega
  ·have hke : k = l.length:=by omega
   have hki : ¬ (k : Int) < l.length:=by omega
   have hNs : N = sum14 l:=by rw [hinv.out,hke,List.take_length]
   have HN:=Lib.hid hNs
   clear hinv hke hNs
   by_cases hbig : 64 < l.length ∨ 16777216 < N
   ·have HF : Hid (chk14 l = 2):=by show _ = _;unfold chk14;rw [← HN.out,if_pos hbig]
    by_cases h64 : 64 < l.length
    ·have h64i : (64 : Int) < l.length:=by omega
     go_wp2_with fail
     go_ret
     exact ⟨by rw [HF.out];rfl,hgw1.tr hg⟩
    ·have h64i : ¬ (64 : Int) < l.length:=by omega
     have hbi : (16777216 : Int) < N:=by omega
     clear hbig
     go_wp2_with fail
     go_ret
     exact ⟨by rw [HF.out];rfl,hgw1.tr hg⟩
   ·have h64 : l.length ≤ 64:=by omega
    have h64i : ¬ (64 : Int) < l.length:=by omega
    have hbi : ¬ (16777216 : Int) < N:=by omega
    have HF : Hid (chk14 l = if (l.any fun p => !azS p.name) = true then 1 else if dupL l = true then 4 else 0):=by show _ = _;unfold chk14;rw [← HN.out,if_neg hbig]
    have hmapr:=ownsMap_grows hmap0 hg
    have hgr:=hgw1.tr hg
    clear hbig HN hmap0
    go_wp2_with fail
    obtain ⟨u0,rfl⟩ : ∃ u0,u0 = wr:=⟨_,rfl⟩
    go_loopw [5,32] (fun e i wr => ∃ (k E : Nat) (D : DataW Unit),k ≤ l.length∧i = .int .i64 k∧e = .int .i64 E∧Hid (((l.take k).any fun p => !azS p.name) = false∧E = (if dupL (l.take k) = true then 4 else 0)∧SeenM ((l.take k).map (·.name)) D)∧wr.ownsMap Tryz.prog 9 (plainElem Tryz.prog 4) mb k D∧mb < wr.heap.size∧Grows w wr) (fun _ i _ => l.length - (intOf i).toNat)
    case atStart => exact ⟨0,0,.map [],Nat.zero_le _,rfl,rfl,⟨rfl,rfl,fun s _ => rfl⟩,hmapr,Nat.lt_of_lt_of_le hbw hg.size,hgr⟩
    case round =>
     obtain ⟨k,E,D,hk,rfl,rfl,hinv,hown,hmbl,hg⟩:=hrel
     by_cases hlt : k < l.length
     ·obtain ⟨p,hp⟩ : ∃ p,l[k]? = some p:=⟨_,List.getElem?_eq_getElem hlt⟩
      obtain ⟨b,o,rfl,d0,d1⟩:=HC.out k p hp
      have c0:=hg.cell d0
      have c1:=hg.cell d1
      have hnm:=HNM.out p (List.mem_of_getElem? hp)
      have con:=fun W => isName_any p.name W (by omega)
      have hnml : p.name.size ≤ maxLen:=by unfold maxLen;omega
      obtain ⟨i1,i2,i3⟩:=hinv.out
      have hki : (k : Int) < l.length:=by omega
      cases haz : azS p.name
      ·have HB : Hid (chk14 l = 1):=by
        show _ = _
        rw [HF.out,if_pos (List.any_eq_true.2 ⟨p,List.mem_of_getElem? hp,by rw [haz];rfl⟩)]
       rw [haz] at con
       clear hp hinv haz i1 i2 i3 d0 d1
       go_wp2_with fail
       refine (con _).mono ?_
       rintro e w2 ⟨rfl,hg2⟩
       go_wp2_with fail
       go_ret
       exact ⟨by rw [HB.out];rfl,(hg.al _).tr hg2⟩
      ·have HI : Hid (((l.take (k + 1)).any fun p => !azS p.name) = false):=by
        show _ = _
        rw [takeSnoc hp,List.any_append,i1]
        simp [haz]
       have hdu : dupL (l.take (k + 1)) = (dupL (l.take k) || ((l.take k).map (·.name)).any fun s => seq s p.name):=by
        unfold dupL
        rw [takeSnoc hp,dup14_snoc,List.nil_append]
       have HNS : Hid ((l.take (k + 1)).map (·.name) = (l.take k).map (·.name) ++ [p.name]):=by show _ = _;rw [takeSnoc hp,List.map_append];rfl
       rw [haz] at con
       have HDU:=Lib.hid hdu
       have HI2:=Lib.hid i2
       have HI3:=Lib.hid i3
       have hM:=seenM_put i3 hown p.name
       have HM:=Lib.hid hM
       clear hp hinv haz i1 i2 d0 d1 hdu hM
       cases hseen : ((l.take k).map (·.name)).any fun s => seq s p.name
       ·have HE : Hid (E = if dupL (l.take (k + 1)) = true then 4 else 0):=by show _ = _;rw [HDU.out,hseen,Bool.or_false];exact HI2.out
        have hlk:=fun (W : World) (hW : W.ownsMap Tryz.prog 9 (plainElem Tryz.prog 4) mb k D) => seenM_look i3 hW hnml
        rw [hseen] at hlk
        clear i3 hseen
        go_wp2_with fail
        refine (con _).mono ?_
        rintro e w2 ⟨rfl,hg2⟩
        have hown2:=ownsMap_grows hown ((Grows.alloc _ _).tr hg2)
        have x0 : w2.cell? ⟨wr.heap.size,0,none⟩ = some (.string p.name):=hg2.cell (cell_box wr _ _ (0,0) 0 _ rfl)
        have hlk2:=hlk _ hown2
        have hgw2:=(hg.al _).tr hg2
        go_wp2_with (at_mapUpdate;refine wpList_mapUpdate_own _ rfl _ _ _ 203 rfl 9 4 (Maps.string_keyed Tryz.underlying9) Tryz.underlying203 _ mb k D rfl hown2 (by unfold maxLen;omega) _ _ (.string p.name.data.toList) rfl rfl (WideMaps.keyOf_string_mk Tryz.underlying9 hnml) _ [] (plainElem_bool Tryz.underlying4 true) ?_;intro w3 hown3 hgrow3)
        go_roundw
        case rel => exact ⟨k + 1,E,_,hlt,by go_num,rfl,⟨HI.out,HE.out,by rw [HNS.out];exact HM.out⟩,hown3,Nat.lt_of_lt_of_le (Nat.lt_of_lt_of_le (Nat.lt_of_lt_of_le hmbl (Grows.alloc _ _).size) hg2.size) hgrow3.size,hgw2.grown hgrow3 (fun q hq => by cases hq;exact Nat.le_of_eq HMB.out.symm)⟩
        case measure => simp [intOf];omega
       ·have HE : Hid (4 = if dupL (l.take (k + 1)) = true then 4 else 0):=by show _ = _;rw [HDU.out,hseen,Bool.or_true];rfl
        have hlk:=fun (W : World) (hW : W.ownsMap Tryz.prog 9 (plainElem Tryz.prog 4) mb k D) => seenM_look i3 hW hnml
        rw [hseen] at hlk
        clear i3 hseen
        go_wp2_with fail
        refine (con _).mono ?_
        rintro e w2 ⟨rfl,hg2⟩
        have hown2:=ownsMap_grows hown ((Grows.alloc _ _).tr hg2)
        have x0 : w2.cell? ⟨wr.heap.size,0,none⟩ = some (.string p.name):=hg2.cell (cell_box wr _ _ (0,0) 0 _ rfl)
        have hlk2:=hlk _ hown2
        have hgw2:=(hg.al _).tr hg2
        go_wp2_with (at_mapUpdate;refine wpList_mapUpdate_own _ rfl _ _ _ 203 rfl 9 4 (Maps.string_keyed Tryz.underlying9) Tryz.underlying203 _ mb k D rfl hown2 (by unfold maxLen;omega) _ _ (.string p.name.data.toList) rfl rfl (WideMaps.keyOf_string_mk Tryz.underlying9 hnml) _ [] (plainElem_bool Tryz.underlying4 true) ?_;intro w3 hown3 hgrow3)
        go_roundw
        case rel => exact ⟨k + 1,4,_,hlt,by go_num,rfl,⟨HI.out,HE.out,by rw [HNS.out];exact HM.out⟩,hown3,Nat.lt_of_lt_of_le (Nat.lt_of_lt_of_le (Nat.lt_of_lt_of_le hmbl (Grows.alloc _ _).size) hg2.size) hgrow3.size,hgw2.grown hgrow3 (fun q hq => by cases hq;exact Nat.le_of_eq HMB.out.symm)⟩
        case measure => simp [intOf];omega
     ·have hke : k = l.length:=by omega
      have hki : ¬ (k : Int) < l.length:=by omega
      have HB : Hid (chk14 l = E):=by
       obtain ⟨i1,i2,_⟩:=hinv.out
       show _ = _
       rw [hke,List.take_length] at i1 i2
       rw [HF.out,i1,i2];simp
      clear hinv hke
      go_wp2_with fail
      go_ret
      exact ⟨by rw [HB.out];rfl,hg⟩
end Go.Proofs.YtepoiefadjoabaaGreatDoor
namespace Go.Proofs.YtepoiefadjoabaaGreatDoor
open Go Go.RowKit Go.Shelf
attribute [local go_sem] quietE quietE2
theorem at_box {α : Type} {enc : α → List Value} {k : Nat} (hk : ∀ x, (enc x).length = k) {w : World} {cs : Array Value} {t : TypeId} {fz : Nat × Nat} (xs : List α) (hcs : cs.toList = xs.flatMap enc) : AtCells (w.alloc (.cells cs t fz)) (some ⟨w.heap.size, 0, none⟩) k (xs.map enc) := fun _ => ⟨w.heap.size, 0, rfl, fun i row hi j u hj => by
 rw [List.getElem?_map] at hi
 cases hx : xs[i]? with
 | none => rw [hx] at hi;cases hi
 | some x =>
  rw [hx] at hi
  obtain rfl:=Option.some.inj hi
  have h:=flat_get hk xs i j x u hx hj
  rw [← hcs] at h
  have h2:=cell_box w cs t fz (i * k + j) u (by simpa using h)
  simpa using h2⟩
set_option maxHeartbeats 8000000 in
set_option maxRecDepth 100000 in
theorem join_any (l : List PartV) (a : Option Addr) (c : Nat) (w : World) (he : Env w) (hl : l.length ≤ 1000000) (hat : AtCells w a 2 (l.map partC)) (hpa : PartsAt w l) :
  Calls Tryz.prog 45 #[.slice a l.length c] w (JoinPost l w):=by
 have CC:=Lib.hid (chk14_any l a c w hl hat hpa)
 have hcells : ∀ k p,l[k]? = some p → ∃ b o,a = some ⟨b,o,none⟩∧w.cell? ⟨b,o + k * 2,none⟩ = some (.string p.name)∧w.cell? ⟨b,o + k * 2 + 1,none⟩ = some (.slice p.a p.data.length p.c):=by
  intro k p hp
  obtain ⟨b,o,ha,hc⟩:=AtCells.get (enc:=partC) hat (ne_nil_of_lt (List.getElem?_eq_some_iff.1 hp).1)
  exact ⟨b,o,ha,hc k p hp 0 _ rfl,hc k p hp 1 _ rfl⟩
 have HC:=Lib.hid hcells
 have HPA:=Lib.hid hpa
 clear hcells hat hpa
 by_cases hok : chk14 l = 0
 case neg =>
  have HNE:=Lib.hid hok
  obtain ⟨E,hE⟩ : ∃ E,chk14 l = E:=⟨_,rfl⟩
  have HE:=Lib.hid hE
  rw [hE] at CC hok
  have hEb : ((E : Int) != 0) = true:=by rw [bne_iff_ne];omega
  clear hE hok
  go_enter Tryz.func45,Tryz.ntmps45
  go_wp2_with fail
  refine CC.out.mono ?_
  rintro e w1 ⟨rfl,hg1⟩
  go_wp2_with fail
  refine bodyPost_ret (v:=.tuple #[.slice none 0 0,.int .i64 E]) (by simp [results,Tryz.results45,go_sem]) rfl ⟨fun h => absurd h HNE.out,fun _ => by rw [HE.out],hg1⟩
 have HOK:=Lib.hid hok
 rw [hok] at CC
 obtain ⟨hl64,hsum,haz,_⟩:=chk14_ok hok
 have HAZ:=Lib.hid (azS_len haz)
 have HBL:=Lib.hid (body14_len hok)
 have hul:=putU_len l.length
 clear haz hok
 go_enter Tryz.func45,Tryz.ntmps45
 go_wp2_with fail
 refine CC.out.mono ?_
 rintro e w1 ⟨rfl,hg1⟩
 have hcv:=Lib.run_convert_bytes_const (P:=Tryz.prog) w1 28 5 #[.int .u8 72,.int .u8 78,.int .u8 75,.int .u8 49] 4 4 Tryz.underlying28 Tryz.underlying5
 simp only [show (#[Value.int .u8 72,.int .u8 78,.int .u8 75,.int .u8 49] : Array Value).size = 4 from rfl] at hcv
 go_wp2_with fail
 clear hcv
 have hatL : AtCells (w1.alloc (.cells #[.int .u8 72,.int .u8 78,.int .u8 75,.int .u8 49] 5 (4,5))) (some ⟨w1.heap.size,0,none⟩) 1 (([72,78,75,49] : List UInt8).map byteC):=at_box (enc:=byteC) (fun _ => rfl) [72,78,75,49] rfl
 refine (putUint2_any [72,78,75,49] (some ⟨w1.heap.size,0,none⟩) 4 l.length _ (by decide) (by omega) hatL (fun h => by cases h)).mono ?_
 rintro e w2 ⟨v2,rfl,hown2,hg2⟩
 have hgw2:=(hg1.al _).tr hg2
 replace hown2:=hown2.base (base':=w.heap.size) (hg1.al _).size
 clear hatL hg2 hg1 CC
 go_wp2_with fail
 go_loopw [5,23] (fun out i wr => ∃ (k : Nat) (acc : List UInt8),k ≤ l.length∧i = .int .i64 k∧Hid (acc = ([72,78,75,49] ++ putU l.length) ++ head14 (l.take k))∧Owns wr w.heap.size 5 1 byteC out acc∧Grows w wr) (fun _ i _ => l.length - (intOf i).toNat)
 case atStart => exact ⟨0,_,Nat.zero_le _,rfl,(by show _ = _;simp [head14]),hown2,hgw2⟩
 case round =>
  obtain ⟨k,acc,hk,rfl,hacc,hown,hg⟩:=hrel
  have hal : acc.length ≤ 20 + k * 36:=by
   rw [hacc.out,List.length_append,List.length_append]
   have h1:=head14_len (l:=l.take k) (fun p hp => HAZ.out p (List.mem_of_mem_take hp))
   rw [List.length_take] at h1
   have h2 : min k l.length * 36 ≤ k * 36:=Nat.mul_le_mul_right _ (by omega)
   simp only [List.length_cons,List.length_nil]
   omega
  by_cases hlt : k < l.length
  ·obtain ⟨p,hp⟩ : ∃ p,l[k]? = some p:=⟨_,List.getElem?_eq_getElem hlt⟩
   obtain ⟨b,o,rfl,d0,d1⟩:=HC.out k p hp
   have c0:=hg.cell d0
   have c1:=hg.cell d1
   have hnm:=HAZ.out p (List.mem_of_getElem? hp)
   have hpd:=HPA.out.data p (List.mem_of_getElem? hp)
   have hpsl:=putS_len p.name
   have hpul:=putU_len p.data.length
   have HN : Hid ((acc ++ putS p.name) ++ putU p.data.length = ([72,78,75,49] ++ putU l.length) ++ head14 (l.take (k + 1))):=by
    show _ = _
    rw [takeSnoc hp,head14_snoc,hacc.out]
    simp only [List.append_assoc]
   have hki : (k : Int) < l.length:=by omega
   have hw64 : IntKind.u64.wrap (p.data.length : Int) = p.data.length:=by simp [IntKind.wrap,IntKind.bits,IntKind.signed];omega
   obtain ⟨ao,co,rfl,_,_,hato⟩:=hown.at_ byteLay.len
   have hno:=owns_none2 hown
   have hgb : Grows wr (wr.alloc (.cells #[.string p.name,.slice p.a p.data.length p.c] 92)):=Grows.alloc _ _
   clear hp hacc d0 d1 hown
   go_wp2_with fail
   refine (putText_any acc ao co p.name _ (by omega) (by omega) (hato.grows hgb) hno).mono ?_
   rintro e w3 ⟨v3,rfl,hown3,hg3⟩
   obtain ⟨B3,hB3⟩ : ∃ B,B = acc ++ putS p.name:=⟨_,rfl⟩
   rw [← hB3] at hown3 HN
   have hb3 : B3.length ≤ 1000000:=by rw [hB3,List.length_append];omega
   obtain ⟨a3,c3,rfl,_,_,hat3⟩:=hown3.at_ byteLay.len
   have hn3:=owns_none2 hown3
   have x1 : w3.cell? ⟨wr.heap.size,1,none⟩ = some (.slice p.a p.data.length p.c):=hg3.cell (cell_box wr _ _ (0,0) 1 _ rfl)
   clear hB3 hown3
   go_wp2_with fail
   refine (putUint2_any B3 a3 c3 p.data.length _ (by omega) (by omega) hat3 hn3).mono ?_
   rintro e w4 ⟨v4,rfl,hown4,hg4⟩
   have hg34:=hg.tr (hgb.tr hg3)
   go_wp2_with fail
   go_roundw
   case rel => exact ⟨k + 1,_,hlt,by go_num,HN.out,hown4.base hg34.size,hg34.tr hg4⟩
   case measure => simp [intOf];omega
  ·have hki : ¬ (k : Int) < l.length:=by omega
   have HA : Hid (acc = ([72,78,75,49] ++ putU l.length) ++ head14 l):=by
    show _ = _
    rw [hacc.out,List.take_of_length_le (by omega)]
   clear hacc
   go_wp2_with fail
   obtain ⟨u0,rfl⟩ : ∃ u0,u0 = wr:=⟨_,rfl⟩
   go_loopw [5,40] (fun out i wr => ∃ (k : Nat) (acc2 : List UInt8),k ≤ l.length∧i = .int .i64 k∧Hid (acc2 = acc ++ data14 (l.take k))∧Owns wr w.heap.size 5 1 byteC out acc2∧Grows w wr) (fun _ i _ => l.length - (intOf i).toNat)
   case atStart => exact ⟨0,_,Nat.zero_le _,rfl,(by show _ = _;simp [data14]),hown,hg⟩
   case round =>
    obtain ⟨k,acc2,hk,rfl,hacc2,hown,hg⟩:=hrel
    by_cases hlt : k < l.length
    ·obtain ⟨p,hp⟩ : ∃ p,l[k]? = some p:=⟨_,List.getElem?_eq_getElem hlt⟩
     obtain ⟨b,o,rfl,d0,d1⟩:=HC.out k p hp
     have c0:=hg.cell d0
     have c1:=hg.cell d1
     have hpd:=HPA.out.data p (List.mem_of_getElem? hp)
     have hpat:=(HPA.out.at_ p (List.mem_of_getElem? hp)).grows (hg.al (.cells #[.string p.name,.slice p.a p.data.length p.c] 92))
     have hpn:=HPA.out.none_ p (List.mem_of_getElem? hp)
     have HN : Hid (acc2 ++ p.data = acc ++ data14 (l.take (k + 1))):=by
      show _ = _
      rw [takeSnoc hp,data14_snoc,hacc2.out,List.append_assoc]
     have hal2 : acc2.length ≤ 3000 + 64 * 1099511627776:=by
      rw [hacc2.out,List.length_append,data14_len]
      have h1:=sum14_le (l:=l.take k) (n:=1099511627776) (fun p hp => HPA.out.data p (List.mem_of_mem_take hp))
      rw [List.length_take] at h1
      have h2 : min k l.length * 1099511627776 ≤ 64 * 1099511627776:=Nat.mul_le_mul_right _ (by omega)
      omega
     have hownb:=hown.grows (Grows.alloc wr (.cells #[.string p.name,.slice p.a p.data.length p.c] 92))
     have hgB:=hg.al (.cells #[.string p.name,.slice p.a p.data.length p.c] 92)
     clear hp hacc2 d0 d1
     go_wp2_with (at_builtin;refine app_many byteLay rfl _ _ rfl w.heap.size _ acc2 p.data rfl hownb (Grows.refl _) p.a p.c rfl hpat hpn (by omega) hgB.size ?_;intro v7 w7 hown7 hg7)
     go_roundw
     case rel => exact ⟨k + 1,_,hlt,by go_num,HN.out,hown7,hg7 w hgB (Nat.le_refl _)⟩
     case measure => simp [intOf];omega
    ·have hki : ¬ (k : Int) < l.length:=by omega
     have HB : Hid (acc2 = body14 l):=by
      show _ = _
      rw [hacc2.out,HA.out,List.take_of_length_le (by omega)]
      rfl
     have hb2 : acc2.length ≤ 16800000:=by rw [HB.out];exact HBL.out
     have hl4 : (leB 4 (crcSum acc2)).length = 4:=leB_len _ _
     obtain ⟨a8,c8,rfl,_,_,hat8⟩:=hown.at_ byteLay.len
     have hew:=he.grows hg
     clear hacc2
     go_wp2_with (first | (go_at_call 58;refine (sumBytes_any acc2 a8 c8 _ hew (by omega) hat8).mono ?_;rintro e w9 ⟨v9,rfl,hown9,hg9⟩;obtain ⟨a9,c9,rfl,_,_,hat9⟩:=hown9.at_ byteLay.len;have hn9:=owns_none2 hown9;have hownA:=hown.grows hg9;have hgA:=hg.tr hg9;clear hown hown9) | (at_builtin;refine app_many byteLay rfl _ _ rfl w.heap.size _ acc2 (leB 4 (crcSum acc2)) rfl hownA (Grows.refl _) a9 c9 rfl hat9 hn9 (by omega) hgA.size ?_;intro v10 w10 hown10 hg10))
     have HF : Hid (acc2 ++ leB 4 (crcSum acc2) = file14 l):=by show _ = _;rw [HB.out];rfl
     refine bodyPost_ret (v:=.tuple #[v10,.int .i64 0]) (by simp [results,Tryz.results45,go_sem]) rfl ⟨fun _ => ⟨v10,rfl,by rw [← HF.out];exact hown10⟩,fun h => absurd HOK.out h,hg10 w hgA (Nat.le_refl _)⟩
end Go.Proofs.YtepoiefadjoabaaGreatDoor
namespace Go.Proofs.YtepoiefadjoabaaGreatDoor
open Go Go.RowKit
attribute [local go_sem] quietE
set_option maxHeartbeats 2000000 in
set_option maxRecDepth 100000 in
theorem valid2_any (l : List PosV) (a : Option Addr) (cap : Nat) (w : World) (hs : AtCells w a 2 (l.map posCells)) (hl : l.length ≤ 4611686018427387904) (hn : ∀ x ∈ l, x.name.size ≤ 9223372036854775807) :
  Calls Tryz.prog 16 #[.slice a l.length cap] w fun e w' => e = .returned (.bool (posValid l))∧Grows w w':=by
 obtain ⟨V,hV⟩ : ∃ V,V = posValid l:=⟨_,rfl⟩
 rw [← hV]
 have HS:=Lib.hid hs
 clear hs
 cases l with
 | nil =>
  have hV2 : V = false:=hV
  subst hV2
  clear hV
  go_enter Tryz.func16,Tryz.ntmps16
  go_wp2
  go_ret
  exact ⟨rfl,Grows.refl _⟩
 | cons p0 r =>
  obtain ⟨L,hL⟩ : ∃ L,L = p0 :: r:=⟨_,rfl⟩
  have hne : L ≠ []:=by rw [hL];simp
  have h0 : L[0]? = some p0:=by rw [hL];rfl
  have hv : V = (decide (L.length ≤ 64) && isBos p0 && posAll L L 0):=by rw [hV,hL];rfl
  rw [← hL] at HS hl hn ⊢
  clear hL hV
  obtain ⟨b,off,rfl,hcells⟩:=HS.out.get hne
  have c0 : w.cell? ⟨b,off,none⟩ = some (.string p0.name):=by simpa using hcells 0 p0 h0 0 _ rfl
  have c1 : w.cell? ⟨b,off + 1,none⟩ = some (.int .i64 p0.kind):=by simpa using hcells 0 p0 h0 1 _ rfl
  have HC:=Lib.hid hcells
  have hpos : 0 < L.length:=by cases L with | nil => exact absurd rfl hne | cons _ _ => simp
  have HV:=Lib.hid hv
  clear hcells hne h0 hv
  have g1 : ¬ (L.length : Int) < 1:=by omega
  by_cases h64 : L.length ≤ 64
  ·have h64' : ¬ (64 : Int) < L.length:=by omega
   by_cases hnm : p0.name.toList = [66,79,83]
   ·by_cases hk0 : p0.kind = 0
    ·have hbos : isBos p0 = true:=by simp [isBos,seq,hnm,hk0,bos,Lib.toList_data]
     have hv2 : V = posAll L L 0:=by rw [HV.out,hbos];simp [h64]
     have HV2:=Lib.hid hv2
     have HC2 : Hid (∀ W,Grows w W → ∀ k p,L[k]? = some p → W.cell? ⟨b,off + k * 2,none⟩ = some (.string p.name)∧W.cell? ⟨b,off + k * 2 + 1,none⟩ = some (.int .i64 p.kind)) :=
      fun W hW k p hp => ⟨hW.cell (HC.out k p hp 0 _ rfl),hW.cell (HC.out k p hp 1 _ rfl)⟩
     clear hbos hv2 HV HC
     go_enter Tryz.func16,Tryz.ntmps16
     go_wp2_with fail
     clear c0 c1 hnm hk0
     go_loop [3] (fun i => ∃ k : Nat,k ≤ L.length∧i = .int .i64 k∧Hid (∀ j q,j < k → L[j]? = some q → posOK L j q = true)) (fun i => L.length - (intOf i).toNat)
     case atStart => exact ⟨0,Nat.zero_le _,rfl,fun j q hj => by omega⟩
     case round =>
      obtain ⟨k,hk,rfl,hz⟩:=hrel
      by_cases hlt : k < L.length
      ·obtain ⟨p,hp⟩ : ∃ p,L[k]? = some p:=⟨_,List.getElem?_eq_getElem hlt⟩
       obtain ⟨d0,d1⟩:=HC2.out w (Grows.refl _) k p hp
       have hns:=hn p (List.mem_of_getElem? hp)
       have HP:=Lib.hid hp
       clear hp
       have hF:=find2_any L p.name (some ⟨b,off,none⟩) cap w hl HS.out
       obtain ⟨f,hf⟩ : ∃ f,f = findI (posFind L p.name):=⟨_,rfl⟩
       obtain ⟨nm,hnm⟩ : ∃ nm,nm = namedS p.name:=⟨_,rfl⟩
       have con:=name2_any p.name w hns
       have hok : posOK L k p = (f == (k : Int) && nm && decide (0 ≤ p.kind) && decide (p.kind ≤ 2)):=by rw [hf,hnm];rfl
       rw [← hf] at hF
       rw [← hnm] at con
       generalize (posFind L p.name).isSome = fs at hF
       have HCON:=Lib.hid con
       have HF:=Lib.hid hF
       have HOK:=Lib.hid hok
       clear hf hnm con hok hF
       cases nm
       ·have hfin : V = false:=HV2.out.trans (posAll_hit HP.out hz.out (by rw [HOK.out];simp))
        have HFIN:=Lib.hid hfin
        clear hfin
        go_wp2_with (first | (go_at_call 55;refine HF.out.mono ?_;rintro e w1 ⟨rfl,rfl⟩) | (go_at_call 56;refine HCON.out.mono ?_;rintro e w1 ⟨rfl,rfl⟩))
        go_ret
        exact ⟨ret_bool HFIN.out.symm,Grows.refl _⟩
       ·by_cases hk0 : p.kind < 0
        ·have hfin : V = false:=HV2.out.trans (posAll_hit HP.out hz.out (by rw [HOK.out];simp;omega))
         have HFIN:=Lib.hid hfin
         clear hfin
         go_wp2_with (first | (go_at_call 55;refine HF.out.mono ?_;rintro e w1 ⟨rfl,rfl⟩) | (go_at_call 56;refine HCON.out.mono ?_;rintro e w1 ⟨rfl,rfl⟩))
         go_ret
         exact ⟨ret_bool HFIN.out.symm,Grows.refl _⟩
        ·by_cases hk2 : 2 < p.kind
         ·have hfin : V = false:=HV2.out.trans (posAll_hit HP.out hz.out (by rw [HOK.out];simp;omega))
          have HFIN:=Lib.hid hfin
          clear hfin
          go_wp2_with (first | (go_at_call 55;refine HF.out.mono ?_;rintro e w1 ⟨rfl,rfl⟩) | (go_at_call 56;refine HCON.out.mono ?_;rintro e w1 ⟨rfl,rfl⟩))
          go_ret
          exact ⟨ret_bool HFIN.out.symm,Grows.refl _⟩
         ·cases hfk : (f == (k : Int))
          ·have h1 : (f != (k : Int)) = true:=by rw [bne,hfk];rfl
           have hfin : V = false:=HV2.out.trans (posAll_hit HP.out hz.out (by rw [HOK.out,hfk];rfl))
           have HFIN:=Lib.hid hfin
           clear hfin hfk
           go_wp2_with (first | (go_at_call 55;refine HF.out.mono ?_;rintro e w1 ⟨rfl,rfl⟩) | (go_at_call 56;refine HCON.out.mono ?_;rintro e w1 ⟨rfl,rfl⟩))
           go_ret
           exact ⟨ret_bool HFIN.out.symm,Grows.refl _⟩
          ·have h1 : (f != (k : Int)) = false:=by rw [bne,hfk];rfl
           have hok : posOK L k p = true:=by rw [HOK.out,hfk];simp;omega
           have HOK2:=Lib.hid hok
           clear hfk hok
           go_wp2_with (first | (go_at_call 55;refine HF.out.mono ?_;rintro e w1 ⟨rfl,rfl⟩) | (go_at_call 56;refine HCON.out.mono ?_;rintro e w1 ⟨rfl,rfl⟩))
           go_round
           case rel => exact ⟨k + 1,by omega,by go_num,fun j q hj hq => by
            rcases Nat.lt_succ_iff_lt_or_eq.1 hj with h | rfl
            ·exact hz.out j q h hq
            ·rw [HP.out] at hq;obtain rfl:=Option.some.inj hq;exact HOK2.out⟩
           case measure => simp [intOf];omega
      ·obtain rfl : k = L.length:=by omega
       have hfin : V = true:=HV2.out.trans (posAll_end hz.out)
       have HFIN:=Lib.hid hfin
       clear hfin
       go_wp2
       go_ret
       exact ⟨ret_bool HFIN.out.symm,Grows.refl _⟩
    ·have hfin : V = false:=by rw [HV.out];simp [isBos,hk0]
     have HF:=Lib.hid hfin
     have hk0' : (p0.kind != 0) = true:=by simpa using hk0
     clear hfin HV
     go_enter Tryz.func16,Tryz.ntmps16
     go_wp2
     go_ret
     exact ⟨ret_bool HF.out.symm,Grows.refl _⟩
   ·have hfin : V = false:=by rw [HV.out];simp [isBos,seq,bos,Lib.toList_data];intro _ h;exact absurd (by rw [Lib.toList_data];exact h) hnm
    have HF:=Lib.hid hfin
    clear hfin HV
    go_enter Tryz.func16,Tryz.ntmps16
    go_wp2
    go_ret
    exact ⟨ret_bool HF.out.symm,Grows.refl _⟩
  ·have h64' : (64 : Int) < L.length:=by omega
   have hfin : V = false:=by rw [HV.out];simp [h64]
   have HF:=Lib.hid hfin
   clear hfin HV
   go_enter Tryz.func16,Tryz.ntmps16
   go_wp2
   go_ret
   exact ⟨ret_bool HF.out.symm,Grows.refl _⟩
end Go.Proofs.YtepoiefadjoabaaGreatDoor
namespace Go.Proofs.YtepoiefadjoabaaGreatDoor
open Go Go.RowKit Go.Shelf
attribute [local go_sem] quietE quietE2
theorem zeroI3 (w : World) : (zeroValue 3).run Tryz.prog w = .ok (.int .i64 0) w := by kernel_rfl
def IdM (L : List ByteArray) (k : Nat) (D : DataW Unit) : Prop := ∀ i s, i < k → L[i]? = some s → D.atKey (.string s.data.toList) (.lit (.int .i64 0)) = .lit (.int .i64 i)
theorem idM_look {w : World} {b n k i : Nat} {D : DataW Unit} {L : List ByteArray} {s : ByteArray} (hM : IdM L k D) (hown : w.ownsMap Tryz.prog 9 (plainElem Tryz.prog 3) b n D) (hi : i < k) (hx : L[i]? = some s) (hs : s.size ≤ maxLen) :
  (Instr.lookup 78 (.map (some b)) (.string s) false).run Tryz.prog w = .ok (.int .i64 i) w:=by
 obtain ⟨c,hrun,hat,_⟩:=hown.lookup_int (Maps.string_keyed Tryz.underlying9) Tryz.underlying78 Tryz.underlying3 (zeroI3 w) (WideMaps.keyOf_string_mk Tryz.underlying9 hs)
 rw [hM i s hi hx] at hat
 have : (i : Int) = c:=by simpa using hat
 rw [this];exact hrun
theorem idM_zero (L : List ByteArray) (D : DataW Unit) : IdM L 0 D := fun i _ h => absurd h (Nat.not_lt_zero i)
theorem idM_put {b n k : Nat} {w : World} {D : DataW Unit} {L : List ByteArray} {s : ByteArray} (hM : IdM L k D) (hown : w.ownsMap Tryz.prog 9 (plainElem Tryz.prog 3) b n D) (hd : L.Nodup) (hx : L[k]? = some s) : IdM L (k + 1) (D.put (.string s.data.toList) (.lit (.int .i64 k))) := fun i t hi ht => by
 by_cases h : i = k
 ·subst h
  obtain rfl : s = t:=by rw [hx] at ht;exact Option.some.inj ht
  rw [Maps.atKey_put_same hown.isMap (k:=.string s.data.toList) trivial]
 ·have hne : (Lit.string t.data.toList) ≠ .string s.data.toList:=fun h2 => h (by
   injection h2 with h3
   have h4 : t = s:=bytes_ext h3
   obtain ⟨hi1,hi2⟩:=List.getElem?_eq_some_iff.1 ht
   obtain ⟨hk1,hk2⟩:=List.getElem?_eq_some_iff.1 hx
   exact (List.getElem_inj hd).1 (by rw [hi2,hk2,h4]))
  rw [Maps.atKey_put_other hne,hM i t (by omega) ht]
structure IdAt (w : World) (ib : Nat) (L : List ByteArray) : Prop where
 ex : ∃ mb n D,w.cell? ⟨ib,0,none⟩ = some (.map (some mb))∧w.ownsMap Tryz.prog 9 (plainElem (H:=Unit) Tryz.prog 3) mb n D∧IdM L L.length D
theorem IdAt.grows {w w' : World} {ib : Nat} {L : List ByteArray} (h : IdAt w ib L) (hg : Grows w w') : IdAt w' ib L := by
 obtain ⟨mb,n,D,h1,h2,h3⟩:=h.ex
 exact ⟨mb,n,D,hg.cell h1,ownsMap_grows h2 hg,h3⟩
set_option maxHeartbeats 2000000 in
set_option maxRecDepth 100000 in
theorem bcl7_any (L : List ByteArray) (ib i : Nat) (x : En) (w : World) (h : IdAt w ib L) (hx : L[i]? = some x.s) (hs : x.s.size ≤ maxLen) :
  Calls Tryz.prog 48 #[x.agg,.pointer (some ⟨ib,0,none⟩)] w fun e w' => e = .returned (.int .i64 i)∧Grows w w':=by
 obtain ⟨xr,xs,xl,xt,xc⟩:=x
 obtain ⟨mb,n,D,h1,h2,h3⟩:=h.ex
 simp only at hx hs
 have c1 : (w.alloc (.cells #[.string xr,.string xs,.int .i64 xl,.int .i64 xt,.int .i64 xc] 38)).cell? ⟨ib,0,none⟩ = some (.map (some mb)):=(Grows.alloc _ _).cell h1
 have hl:=idM_look h3 (ownsMap_grows h2 (Grows.alloc w (.cells #[.string xr,.string xs,.int .i64 xl,.int .i64 xt,.int .i64 xc] 38))) (List.getElem?_eq_some_iff.1 hx).1 hx hs
 unfold En.agg
 clear h h1 h2 h3
 go_enter Tryz.func48,Tryz.ntmps48
 go_wp2_with fail
 go_ret
 exact ⟨rfl,Grows.alloc _ _⟩
theorem bcl7_eg : ∀ args w, (callFunc 48 args).run Tryz.prog w = .ok (.enter 48 args) w := enters_of Tryz.func48 (by kernel_rfl) rfl
theorem bcl4_eg : ∀ args w, (callFunc 41 args).run Tryz.prog w = .ok (.enter 41 args) w := enters_of Tryz.func41 (by kernel_rfl) rfl
set_option maxHeartbeats 4000000 in
set_option maxRecDepth 100000 in
theorem bcl4_any (L : List ByteArray) (ib eb i j x y : Nat) (l : List En) (ex ey : En) (a : Option Addr) (c : Nat) (w : World) (h : IdAt w ib L) (he : w.cell? ⟨eb, 0, none⟩ = some (.slice a l.length c)) (hat : AtCells w a 5 (l.map enCells)) (_hl : l.length ≤ 1048576) (hL : L.length ≤ 1048576)
  (hx : l[x]? = some ex) (hy : l[y]? = some ey) (hi : L[i]? = some ex.s) (hj : L[j]? = some ey.s) (hs : ex.s.size ≤ maxLen∧ey.s.size ≤ maxLen) :
  Calls Tryz.prog 41 #[.int .i64 x,.int .i64 y,.pointer (some ⟨ib,0,none⟩),.pointer (some ⟨eb,0,none⟩)] w fun e w' => e = .returned (.int .i64 ((i : Int) - j))∧w' = w.drew:=by
 obtain ⟨xr,xs,xl,xt,xc⟩:=ex
 obtain ⟨yr,ys,yl,yt,yc⟩:=ey
 obtain ⟨mb,n,D,h1,h2,h3⟩:=h.ex
 simp only at hi hj hs
 have hxl:=(List.getElem?_eq_some_iff.1 hx).1
 have hyl:=(List.getElem?_eq_some_iff.1 hy).1
 have hil:=(List.getElem?_eq_some_iff.1 hi).1
 have hjl:=(List.getElem?_eq_some_iff.1 hj).1
 obtain ⟨ba,oa,rfl,hca⟩:=AtCells.get (enc:=enCells) hat (ne_nil_of_lt hxl)
 have z0 : ∀ x : Ext Grows w.drew,x.u.cell? ⟨ib,0,none⟩ = some (.map (some mb)):=ext_cell ((Grows.drew w).cell h1)
 have z1 : ∀ x : Ext Grows w.drew,x.u.cell? ⟨eb,0,none⟩ = some (.slice (some ⟨ba,oa,none⟩) l.length c):=ext_cell ((Grows.drew w).cell he)
 have z2 : ∀ u : Ext Grows w.drew,u.u.cell? ⟨ba,oa + x * 5 + 1,none⟩ = some (.string xs):=ext_cell ((Grows.drew w).cell (hca x _ hx 1 _ rfl))
 have z3 : ∀ u : Ext Grows w.drew,u.u.cell? ⟨ba,oa + y * 5 + 1,none⟩ = some (.string ys):=ext_cell ((Grows.drew w).cell (hca y _ hy 1 _ rfl))
 have z4 : ∀ u : Ext Grows w.drew,(Instr.lookup 78 (.map (some mb)) (.string xs) false).run Tryz.prog u.u = .ok (.int .i64 i) u.u:=fun u => idM_look h3 (ownsMap_grows (ownsMap_grows h2 (Grows.drew w)) u.h) hil hi hs.1
 have z5 : ∀ u : Ext Grows w.drew,(Instr.lookup 78 (.map (some mb)) (.string ys) false).run Tryz.prog u.u = .ok (.int .i64 j) u.u:=fun u => idM_look h3 (ownsMap_grows (ownsMap_grows h2 (Grows.drew w)) u.h) hjl hj hs.2
 have hxi : (x : Int) < l.length:=by omega
 have hyi : (y : Int) < l.length:=by omega
 have wij : IntKind.i64.wrap ((i : Int) - j) = (i : Int) - j:=by simp [IntKind.wrap,IntKind.bits,IntKind.signed];omega
 clear h he hat hx hy hi hj hs h1 h2 h3 hca
 go_enter Tryz.func41,Tryz.ntmps41
 go_wp2_with fail
 refine t_region (Grows) [(0,false),(1,false),(2,false),(3,false),(4,false),(5,false),(6,false),(7,false),(8,false),(9,false),(10,false),(11,false),(12,false),(13,false),(14,false),(15,false)] Grows.refl Grows.trans (by kernel_rfl) (by kernel_rfl) (fun d _ _ _ _ h => by cases d <;> exact h) ?_
 iterate 16 (refine t_quiet rfl (fun K hK => ?_);go_simp;refine hK _ ?_;clear hK K)
 clear z0 z1 z2 z3 z4 z5
 refine t_end ?_
 go_wp2_with fail
 go_ret
 exact ⟨rfl,rfl⟩
end Go.Proofs.YtepoiefadjoabaaGreatDoor
namespace Go.Proofs.YtepoiefadjoabaaGreatDoor
open Go Go.RowKit
theorem putS_bytes (s : ByteArray) : putS s = putU s.size ++ bl s := rfl
def hposP (P : List PartV) (i : Nat) : Nat := (([72, 78, 75, 49] ++ putU P.length) ++ head14 (P.take i) : List UInt8).length
def dposP (P : List PartV) (i : Nat) : Nat := (([72, 78, 75, 49] ++ putU P.length) ++ head14 P ++ data14 (P.take i) : List UInt8).length
theorem head14_at {P : List PartV} {i : Nat} {p : PartV} (h : P[i]? = some p) : head14 P = head14 (P.take i) ++ ((putS p.name ++ putU p.data.length) ++ head14 (P.drop (i + 1))) := by
 obtain ⟨hi,rfl⟩:=List.getElem?_eq_some_iff.1 h
 unfold head14
 rw [← List.flatMap_cons (f:=fun p : PartV => putS p.name ++ putU p.data.length),← List.drop_eq_getElem_cons hi,← List.flatMap_append,List.take_append_drop]
theorem data14_at {P : List PartV} {i : Nat} {p : PartV} (h : P[i]? = some p) : data14 P = data14 (P.take i) ++ (p.data ++ data14 (P.drop (i + 1))) := by
 obtain ⟨hi,rfl⟩:=List.getElem?_eq_some_iff.1 h
 unfold data14
 rw [← List.flatMap_cons (f:=fun p : PartV => p.data),← List.drop_eq_getElem_cons hi,← List.flatMap_append,List.take_append_drop]
theorem head14_next {P : List PartV} {i : Nat} {p : PartV} (h : P[i]? = some p) : head14 (P.take (i + 1)) = head14 (P.take i) ++ (putS p.name ++ putU p.data.length) := by
 unfold head14
 rw [List.take_add_one,h,List.flatMap_append]
 simp
theorem data14_next {P : List PartV} {i : Nat} {p : PartV} (h : P[i]? = some p) : data14 (P.take (i + 1)) = data14 (P.take i) ++ p.data := by
 unfold data14
 rw [List.take_add_one,h,List.flatMap_append]
 simp
theorem hposP_zero (P : List PartV) : hposP P 0 = 4 + (putU P.length).length := by unfold hposP head14; simp; omega
theorem hposP_succ {P : List PartV} {i : Nat} {p : PartV} (h : P[i]? = some p) : hposP P (i + 1) = hposP P i + (putS p.name).length + (putU p.data.length).length := by
 unfold hposP
 rw [head14_next h]
 simp only [List.length_append]
 omega
theorem dposP_zero (P : List PartV) : dposP P 0 = hposP P P.length := by
 unfold dposP hposP
 rw [List.take_length]
 simp [data14]
theorem dposP_succ {P : List PartV} {i : Nat} {p : PartV} (h : P[i]? = some p) : dposP P (i + 1) = dposP P i + p.data.length := by
 unfold dposP
 rw [data14_next h]
 simp only [List.length_append]
 omega
theorem dposP_end (P : List PartV) : dposP P P.length = (body14 P).length := by unfold dposP body14; rw [List.take_length]
theorem dposP_le {P : List PartV} {i : Nat} : dposP P i ≤ (body14 P).length := by
 unfold dposP body14
 simp only [List.length_append]
 have : (data14 (P.take i)).length ≤ (data14 P).length:=by
  unfold data14
  have h:=List.take_append_drop i P
  have h2 : data14 P = data14 (P.take i) ++ data14 (P.drop i):=by unfold data14;rw [← List.flatMap_append,h]
  unfold data14 at h2
  rw [h2,List.length_append]
  omega
 omega
theorem hposP_le {P : List PartV} {i : Nat} : hposP P i ≤ (body14 P).length := by
 unfold hposP body14
 simp only [List.length_append]
 have : (head14 (P.take i)).length ≤ (head14 P).length:=by
  have h2 : head14 P = head14 (P.take i) ++ head14 (P.drop i):=by unfold head14;rw [← List.flatMap_append,List.take_append_drop]
  rw [h2,List.length_append]
  omega
 omega
theorem rd_count {P : List PartV} (hn : P.length < 18446744073709551616) : rdU ((body14 P).drop 4) = some (P.length, (putU P.length).length) := by
 unfold body14
 rw [List.append_assoc,List.append_assoc]
 show rdU (putU P.length ++ _) = _
 exact rdU_put hn _
theorem body_head {P : List PartV} {i : Nat} {p : PartV} (h : P[i]? = some p) : (body14 P).drop (hposP P i) = (putS p.name ++ putU p.data.length) ++ (head14 (P.drop (i + 1)) ++ data14 P) := by
 have e : body14 P = (([72,78,75,49] ++ putU P.length) ++ head14 (P.take i)) ++ ((putS p.name ++ putU p.data.length) ++ (head14 (P.drop (i + 1)) ++ data14 P)):=by
  unfold body14
  rw [head14_at h]
  simp only [List.append_assoc]
 rw [e]
 exact List.drop_left' rfl
theorem rdT_put {s : ByteArray} (hs : s.size < 18446744073709551616) (r : List UInt8) : rdT (putS s ++ r) = some (s, (putS s).length) := by
 unfold rdT
 rw [putS_bytes,List.append_assoc,rdU_put hs]
 simp only
 rw [List.drop_left' rfl,if_pos (by rw [List.length_append,bl_len];omega)]
 congr 1
 rw [List.take_left' (bl_len s),List.length_append,bl_len]
 exact congrArg (·,_) (mkB_of s)
theorem rd_name {P : List PartV} {i : Nat} {p : PartV} (h : P[i]? = some p) (hs : p.name.size < 18446744073709551616) : rdT ((body14 P).drop (hposP P i)) = some (p.name, (putS p.name).length) := by
 rw [body_head h,List.append_assoc]
 exact rdT_put hs _
theorem rd_size {P : List PartV} {i : Nat} {p : PartV} (h : P[i]? = some p) (hs : p.data.length < 18446744073709551616) : rdU ((body14 P).drop (hposP P i + (putS p.name).length)) = some (p.data.length, (putU p.data.length).length) := by
 rw [← List.drop_drop,body_head h,List.append_assoc,List.drop_left' rfl]
 exact rdU_put hs _
theorem rd_data {P : List PartV} {i : Nat} {p : PartV} (h : P[i]? = some p) : ((body14 P).take (dposP P i + p.data.length)).drop (dposP P i) = p.data := by
 have e : body14 P = (([72,78,75,49] ++ putU P.length) ++ head14 P ++ data14 (P.take i)) ++ (p.data ++ data14 (P.drop (i + 1))):=by
  unfold body14
  rw [data14_at h]
  simp only [List.append_assoc]
 rw [← List.take_drop]
 conv => lhs;rw [e]
 unfold dposP
 rw [List.drop_left' rfl]
 exact List.take_left' rfl
structure RowF (W : World) (b m : Nat) (f : Nat → Value) : Prop where
 cell : ∀ j,j < m → W.cell? ⟨b,j,none⟩ = some (f j)
 froz : ∀ j,W.frozen? ⟨b,j,none⟩ = false
 lt : b < W.heap.size
theorem RowF.grows {W W' : World} {b m : Nat} {f : Nat → Value} (h : RowF W b m f) (hg : Grows W W') : RowF W' b m f :=
 ⟨fun j hj => hg.cell (h.cell j hj),fun j => (hg.froz (p:=⟨b,j,none⟩) h.lt).trans (h.froz j),Nat.lt_of_lt_of_le h.lt hg.size⟩
theorem RowF.other {W : World} {b m : Nat} {f : Nat → Value} (h : RowF W b m f) {b' j' : Nat} (hb : b' ≠ b) (v : Value) : RowF (W.setCell ⟨b', j', none⟩ v) b m f :=
 ⟨fun j hj => by rw [World.cell?_setCell_other _ _ _ _ (fun e => hb (by simpa using congrArg Addr.block e))];exact h.cell j hj,fun j => (World.frozen?_setCell _ _ _ _).trans (h.froz j),by simp;exact h.lt⟩
theorem RowF.set {W : World} {b m : Nat} {f : Nat → Value} (h : RowF W b m f) {k : Nat} (hk : k < m) (v : Value) : RowF (W.setCell ⟨b, k, none⟩ v) b m (fun j => if j = k then v else f j) :=
 ⟨fun j hj => by
  by_cases e : j = k
  ·subst e
   rw [if_pos rfl]
   exact World.cell?_setCell_same _ _ _ (h.cell j hj)
  ·rw [if_neg e,World.cell?_setCell_other _ _ _ _ (fun e2 => e (by injection e2 with _ h2;exact h2.symm))]
   exact h.cell j hj,fun j => (World.frozen?_setCell _ _ _ _).trans (h.froz j),by simp;exact h.lt⟩
theorem RowF.congr {W : World} {b m : Nat} {f g : Nat → Value} (h : RowF W b m f) (e : ∀ j, j < m → f j = g j) : RowF W b m g := ⟨fun j hj => by rw [← e j hj]; exact h.cell j hj, h.froz, h.lt⟩
end Go.Proofs.YtepoiefadjoabaaGreatDoor
namespace Go.Proofs.YtepoiefadjoabaaGreatDoor
open Go Go.RowKit Go.Shelf
attribute [local go_sem] quietE quietE2
theorem secn_eg : ∀ args w, (callFunc 103 args).run Tryz.prog w = .ok (.enter 103 args) w := enters_of Tryz.func103 (by kernel_rfl) rfl
set_option maxHeartbeats 4000000 in
set_option maxRecDepth 100000 in
theorem secn_any (b : List UInt8) (ba : Option Addr) (bc k v n pb pa po most : Nat) (w : World) (hk : k ≤ b.length) (hb : b.length ≤ 1099511627776) (hat : AtCells w ba 1 (b.map byteC)) (hR : rdU (b.drop k) = some (v, n)) (hv : v ≤ most) (hm : most ≤ 1099511627776)
  (cb : w.cell? ⟨pb,0,none⟩ = some (.slice ba b.length bc)) (ca : w.cell? ⟨pa,0,none⟩ = some (.int .i64 k)) (co : w.cell? ⟨po,0,none⟩ = some (.bool true)) (fa : w.frozen? ⟨pa,0,none⟩ = false) :
  Calls Tryz.prog 103 #[.int .i64 most,.pointer (some ⟨pb,0,none⟩),.pointer (some ⟨pa,0,none⟩),.pointer (some ⟨po,0,none⟩)] w fun e w' => e = .returned (.int .i64 v)∧∃ w1,Grows w w1∧w' = w1.setCell ⟨pa,0,none⟩ (.int .i64 ((k + n : Nat) : Int)):=by
 have CU:=Lib.hid (uint_any b k ba bc w hk hb hat)
 rw [hR] at CU
 unfold uintR at CU
 have hpa:=World.block_lt_of_cell? w _ ca
 obtain ⟨K,hK⟩ : ∃ K,K = k + n:=⟨_,rfl⟩
 simp only [← hK] at CU ⊢
 clear hR hat hK
 have wm : IntKind.u64.wrap (most : Int) = most:=by simp [IntKind.wrap,IntKind.bits,IntKind.signed];omega
 have wv : IntKind.i64.wrap (v : Int) = v:=by simp [IntKind.wrap,IntKind.bits,IntKind.signed];omega
 have hvm : ¬ (most : Int) < v:=by omega
 go_enter Tryz.func103,Tryz.ntmps103
 go_wp2_with fail
 refine CU.out.mono ?_
 rintro e w1 ⟨rfl,hg1⟩
 have ca1:=hg1.cell ca
 have co1:=hg1.cell co
 have fa1:=(hg1.froz (p:=⟨pa,0,none⟩) hpa).trans fa
 go_wp2_with fail
 go_ret
 exact ⟨rfl,w1,hg1,rfl⟩
set_option maxHeartbeats 4000000 in
set_option maxRecDepth 100000 in
theorem bclone_any (l : List UInt8) (a : Option Addr) (c : Nat) (w : World) (hl : l.length ≤ 1099511627776) (hn : a = none → c = 0) (hat : AtCells w a 1 (l.map byteC)) :
  Calls Tryz.prog 106 #[.slice a l.length c] w fun e w' => ∃ v,e = .returned v∧Owns w' w.heap.size 5 1 byteC v l∧Grows w w':=by
 cases a with
 | none =>
  have hl0 : l = []:=Decidable.byContradiction fun h => by
   obtain ⟨_,_,e,_⟩:=hat (by simpa using h)
   cases e
  subst hl0
  obtain rfl:=hn rfl
  have hcmp : ∀ W : World,(binOp .eql 28 (.slice none 0 0) (.slice none 0 0)).run Tryz.prog W = .ok (.bool true) W:=fun W => by rfl
  go_enter Tryz.func106,Tryz.ntmps106
  go_wp2_with fail
  go_ret
  exact ⟨_,rfl,Owns.nil _ _ _ _ _,Grows.refl _⟩
 | some q =>
  have HSRC:=Lib.hid (hat.grows (Grows.alloc w (.cells #[] 5)))
  clear hat hn
  have hcmp : ∀ W : World,(binOp .eql 28 (.slice (some q) l.length c) (.slice none 0 0)).run Tryz.prog W = .ok (.bool false) W:=fun W => by rfl
  go_enter Tryz.func106,Tryz.ntmps106
  go_wp2_with (at_builtin;refine app_many byteLay rfl _ _ rfl w.heap.size _ [] l rfl (owns_lit w.heap.size (Nat.le_refl _)) (Grows.refl _) (some q) c rfl HSRC.out (fun h => by cases h) (by simp;omega) (by simp) ?_;intro v' w3 hown3 hg3)
  rw [List.nil_append] at hown3
  have hgx:=hg3 w (Grows.alloc _ _) (Nat.le_refl _)
  go_wp2_with fail
  go_ret
  exact ⟨_,rfl,hown3,hgx⟩
set_option maxHeartbeats 4000000 in
set_option maxRecDepth 100000 in
theorem bequal_any (l m : List UInt8) (a b : Option Addr) (c d : Nat) (w : World) (h1 : AtCells w a 1 (l.map byteC)) (h2 : AtCells w b 1 (m.map byteC)) :
  Calls Tryz.prog 57 #[.slice a l.length c,.slice b m.length d] w fun e w' => e = .returned (.bool (decide (l = m)))∧w = w':=by
 have v1 : (convert 28 9 (.slice a l.length c)).run Tryz.prog w = .ok (.string (mkB l)) w:=conv_at2 h1
 have v2 : (convert 28 9 (.slice b m.length d)).run Tryz.prog w = .ok (.string (mkB m)) w:=conv_at2 h2
 by_cases h : l = m
 ·have e1 : ((mkB l).toList == (mkB m).toList) = true:=by rw [h];simp
  have HH:=Lib.hid h
  clear h
  go_enter Tryz.func57,Tryz.ntmps57
  go_wp2_with fail
  go_ret
  exact ⟨by simp [HH.out],rfl⟩
 ·have e1 : ((mkB l).toList == (mkB m).toList) = false:=by
   rw [beq_eq_false_iff_ne]
   intro he
   exact h (by have:=congrArg (·.data.toList) (toList_inj he);simpa [mkB_data] using this)
  have HH:=Lib.hid h
  clear h
  go_enter Tryz.func57,Tryz.ntmps57
  go_wp2_with fail
  go_ret
  exact ⟨by simp [HH.out],rfl⟩
end Go.Proofs.YtepoiefadjoabaaGreatDoor
