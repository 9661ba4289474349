/- The texts Bset R18a, one behind the other. -/
import Derived.Test.YtepoiefadjoabaaGreatDoorQ4
import Derived.Test.YtepoiefadjoabaaGreatDoorQ30
import Derived.Test.YtepoiefadjoabaaGreatDoorQ24
import Derived.Test.YtepoiefadjoabaaGreatDoorQ27
import Derived.Test.YtepoiefadjoabaaGreatDoorQ9
import Derived.Test.YtepoiefadjoabaaGreatDoorQ20
import Derived.Test.YtepoiefadjoabaaGreatDoorShelf2
import Derived.Sort.OwnSorted
import Derived.Lib.OwnBridge
import Derived.Shelf.SlicesG.CompactS
import Derived.Shelf.SortM.Plain
import Derived.Test.YtepoiefadjoabaaGreatDoorQ21
namespace Go.Proofs.YtepoiefadjoabaaGreatDoor
open Go Go.Shelf Go.RowKit Go.Lib Go.Sort
theorem stInfo : ∃ i, Tryz.prog.info? 9 = some i ∧ i.zero = some (.string ByteArray.empty) ∧ i.size = 1 ∧ i.bytes = 16 := by
 have h : (Tryz.prog.info? 9).map (fun i => (i.zero,i.size,i.bytes)) = some (some (.string ByteArray.empty),1,16):=by kernel_rfl
 cases hi : Tryz.prog.info? 9 with
 | none => rw [hi] at h;cases h
 | some i =>
  rw [hi] at h
  simp only [Option.map_some,Option.some.injEq,Prod.mk.injEq] at h
  exact ⟨i,rfl,h.1,h.2.1,h.2.2⟩
theorem st_rows (ks : List ByteArray) : ks.flatMap stC = (bls ks).map encStr := by
 show ks.flatMap (fun s => [Value.string s]) = (ks.map (·.data.toList)).map encStr
 rw [Lib.map_encStr,flat_one]
def setB (ks : List ByteArray) : List ByteArray := (setL (bls ks)).map mkB
theorem bls_setB (ks : List ByteArray) : bls (setB ks) = setL (bls ks) := by
 unfold bls setB
 rw [List.map_map]
 exact (List.map_congr_left fun x _ => mkB_data x).trans (List.map_id _)
theorem setB_rows (ks : List ByteArray) : (setB ks).flatMap stC = (setL (bls ks)).map encStr := by
 rw [st_rows,bls_setB]
theorem setB_len (ks : List ByteArray) : (setB ks).length = (setL (bls ks)).length := by unfold setB; rw [List.length_map]
theorem set_end {w w1 : World} {g cap nn q : Nat} {os : Array Obj} {ks : List ByteArray} (hown : Owns w1 w.heap.size 9 1 stC (.slice (some ⟨g, 0, none⟩) ks.length cap) ks) (hg : Grows w w1) (hbg : w.heap.size ≤ g) :
  Owns (putRow encStr (Sort.ahead (grow (putRow encStr (Sort.ahead w1 nn) g 0 ((bls ks).mergeSort fun x y => decide (x ≤ y)).toArray) os) q) g 0 (Lib.compact ((bls ks).mergeSort fun x y => decide (x ≤ y)) ++ List.replicate (((bls ks).mergeSort fun x y => decide (x ≤ y)).length - (Lib.compact ((bls ks).mergeSort fun x y => decide (x ≤ y))).length) []).toArray) w.heap.size 9 1 stC (.slice (some ⟨g,0,none⟩) (Lib.compact ((bls ks).mergeSort fun x y => decide (x ≤ y))).length cap) (setB ks) ∧
  Grows w (putRow encStr (Sort.ahead (grow (putRow encStr (Sort.ahead w1 nn) g 0 ((bls ks).mergeSort fun x y => decide (x ≤ y)).toArray) os) q) g 0 (Lib.compact ((bls ks).mergeSort fun x y => decide (x ≤ y)) ++ List.replicate (((bls ks).mergeSort fun x y => decide (x ≤ y)).length - (Lib.compact ((bls ks).mergeSort fun x y => decide (x ≤ y))).length) []).toArray):=by
 have hl0 : (bls ks).length = ks.length:=by unfold bls;rw [List.length_map]
 have hl2 : ((bls ks).mergeSort fun x y => decide (x ≤ y)).length = (bls ks).length:=List.length_mergeSort _
 have hle:=Lib.compact_length_le ((bls ks).mergeSort fun x y => decide (x ≤ y))
 unfold Owns at hown ⊢
 rw [st_rows,← hl0] at hown
 rw [setB_rows,setB_len,← compact_sort]
 rcases hown.2 with ⟨h0,_⟩ | ⟨g',cap',cur,hv,hbase,hb,h1,h2,h3,h4⟩
 ·cases h0
 cases hv
 have hs:=ownsRow_sorted (n:=nn) (os:=os) (ts:=(bls ks).mergeSort fun x y => decide (x ≤ y)) hl2 hbase hb h1 h2 h3
 have hc:=Lib.ownsRow_putRow (q:=q) (k:=(Lib.compact ((bls ks).mergeSort fun x y => decide (x ≤ y))).length) (ys:=Lib.compact ((bls ks).mergeSort fun x y => decide (x ≤ y)) ++ List.replicate (((bls ks).mergeSort fun x y => decide (x ≤ y)).length - (Lib.compact ((bls ks).mergeSort fun x y => decide (x ≤ y))).length) []) hs (by simp;omega) (by omega)
 rw [List.take_left] at hc
 exact ⟨hc,Lib.below_putRow ((show Below w.heap.size w w1 from hg).grown (grownBy_sorted _) (Below.size hg) (fun j hj => by cases hj;exact hbase)) hbg⟩
set_option maxHeartbeats 4000000 in
set_option maxRecDepth 100000 in
theorem bset_any (key : En → ByteArray) (g : Nat) (eg : ∀ args w, (callFunc g args).run Tryz.prog w = .ok (.enter g args) w) (HG : ∀ (x : En) w, Calls Tryz.prog g #[x.agg] w fun e w' => e = .returned (.string (key x)) ∧ Grows w w')
  (l : List En) (a : Option Addr) (c : Nat) (w : World) (hl : l.length ≤ 1048576) (hat : AtCells w a 5 (l.map enCells)) :
  Calls Tryz.prog 32 #[.slice a l.length c,.func (.func g) #[] #[]] w fun e w' => Grows w w'∧∃ b cap,e = .returned (.slice (some ⟨b,0,none⟩) (setB (l.map key)).length cap)∧b < w'.heap.size∧Owns w' w.heap.size 9 1 stC (.slice (some ⟨b,0,none⟩) (setB (l.map key)).length cap) (setB (l.map key)):=by
 have HAT:=Lib.hid hat
 have HGG:=fun x w => Lib.hid (HG x w)
 obtain ⟨ks,hks⟩ : ∃ ks,ks = l.map key:=⟨_,rfl⟩
 have hlk : ks.length = l.length:=by rw [hks,List.length_map]
 rw [← hks]
 have HKS:=Lib.hid hks
 obtain ⟨iu,hiu,hzu,hsu,hbu⟩:=stInfo
 clear hat HG hks
 go_enter Tryz.func32,Tryz.ntmps32
 go_wp2_with (at_make;refine wpList_make_own _ rfl _ _ 51 rfl w.heap.size 9 iu (.string ByteArray.empty) 1 Tryz.underlying51 hiu hzu hsu .i64 .i64 _ l.length rfl rfl rfl (by rw [hbu];omega) (by unfold maxLen;omega) (Nat.le_refl _) ?_;intro w1 hown1 hgr1)
 go_loopw [5,13] (fun v i wr => ∃ (k : Nat),k ≤ l.length∧i = .int .i64 k∧v ≠ .slice none 0 0∧Owns wr w.heap.size 9 1 stC v (ks.take k)∧Grows w wr) (fun _ i _ => l.length - (intOf i).toNat)
 case atStart => exact ⟨0,Nat.zero_le _,rfl,by simp,hown1,(Grows.refl w).grown hgr1 (fun q hq => by cases hq)⟩
 case round =>
  clear hown1 hgr1 hiu hzu hsu hbu
  obtain ⟨k,hk,rfl,hvn,hown,hg⟩:=hrel
  by_cases hlt : k < l.length
  ·obtain ⟨⟨xr,xs,xl,xt,xc⟩,hx⟩ : ∃ x,l[k]? = some x:=⟨_,List.getElem?_eq_getElem hlt⟩
   obtain ⟨ba,oa,rfl,hca⟩:=(HAT.out.grows hg).get (ne_nil_of_lt hlt)
   have c0 : wr.cell? ⟨ba,oa + k * 5,none⟩ = some (.string xr):=hca k _ hx 0 _ rfl
   have c1 : wr.cell? ⟨ba,oa + k * 5 + 1,none⟩ = some (.string xs):=hca k _ hx 1 _ rfl
   have c2 : wr.cell? ⟨ba,oa + k * 5 + 2,none⟩ = some (.int .i64 xl):=hca k _ hx 2 _ rfl
   have c3 : wr.cell? ⟨ba,oa + k * 5 + 3,none⟩ = some (.int .i64 xt):=hca k _ hx 3 _ rfl
   have c4 : wr.cell? ⟨ba,oa + k * 5 + 4,none⟩ = some (.int .i64 xc):=hca k _ hx 4 _ rfl
   obtain ⟨kx,hkx⟩ : ∃ s,s = key ⟨xr,xs,xl,xt,xc⟩:=⟨_,rfl⟩
   have HCG:=fun W => Lib.hid (HGG ⟨xr,xs,xl,xt,xc⟩ W).out
   rw [← hkx] at HCG
   have hksk : ks[k]? = some kx:=by rw [HKS.out,List.getElem?_map,hx,hkx];rfl
   have HT:=Lib.hid (takeSnoc hksk)
   obtain ⟨acc,hacc⟩ : ∃ acc,acc = ks.take k:=⟨_,rfl⟩
   have hal : acc.length = k:=by rw [hacc,List.length_take];omega
   rw [← hacc] at hown HT
   clear hca hx hkx hksk hacc
   go_wp2_with fail
   refine (HCG _).out.mono ?_
   rintro e w2 ⟨rfl,hg2⟩
   have hg2':=Grows.trans _ _ _ (Grows.alloc wr _) hg2
   have hown2:=hown.grows hg2'
   have hgw2:=Grows.trans _ _ _ hg hg2'
   clear hg2 hg2' hown c0 c1 c2 c3 c4
   go_wp2_with (at_builtin;refine app_one5 stLay rfl _ _ rfl w.heap.size _ acc kx rfl hown2 (Grows.refl _) _ 1 rfl #[.string kx] rfl rfl (by omega) hgw2.size ?_;intro v5 w5 hown5 _ _ hg5)
   have hv5 : v5 ≠ .slice none 0 0:=fun e => by
    obtain ⟨a5,c5,e5,_⟩:=hown5.at_ (k:=1) (fun x => (rfl : (stC x).length = 1))
    rw [e5] at e
    injection e with _ e6 _
    simp at e6
   have HG5:=hg5 w hgw2 (Nat.le_refl _)
   rw [← HT.out] at hown5
   go_wp2_with fail
   go_roundw
   case rel => exact ⟨k + 1,by omega,by go_num,hv5,hown5,HG5⟩
   case measure => simp [intOf];omega
  ·obtain rfl : k = l.length:=by omega
   rw [List.take_of_length_le (by omega)] at hown
   obtain ⟨b,cap,rfl,hbg,hgl,hncap,hcm,hlen,hH⟩:=Lib.holds_of_ownsRow (enc:=encStr) (by rw [← st_rows];exact hown) hvn
   have X : Aside (Owns wr w.heap.size 9 1 stC (.slice (some ⟨b,0,none⟩) ks.length cap) ks∧Grows w wr∧w.heap.size ≤ b∧b < wr.heap.size):=⟨hown,hg,hbg,hgl⟩
   have hsort:=Lib.hid (AnyM.slices_Sort_string Tryz.sortS b 0 cap (bls ks) wr hH hgl (by omega))
   have hl2 : ((bls ks).mergeSort fun x y => decide (x ≤ y)).length = ks.length:=by rw [List.length_mergeSort];exact hlen
   have hH2:=fun nn os => Lib.hid (show Holds encStr (grow (putRow encStr (Sort.ahead wr nn) b 0 ((bls ks).mergeSort fun x y => decide (x ≤ y)).toArray) os) b 0 ((bls ks).mergeSort fun x y => decide (x ≤ y)).toArray from
     holds_grow encStr _ os b 0 _ (by simpa [putRow,mapBlock,Sort.ahead] using hgl) (holds_putRow encStr _ b 0 _ _ (holds_ahead encStr wr nn b 0 _ hH) (by simp)))
   have hcomp:=fun nn os => Lib.hid (AnyG.slices_Compact_string Tryz.compactS b 0 cap _ _ (hH2 nn os).out (by omega) (by omega))
   have HEND:=fun nn os q => Lib.hid (set_end (w1:=wr) (nn:=nn) (q:=q) (os:=os) (ks:=ks) X.out.1 X.out.2.1 X.out.2.2.1)
   generalize hM : ((bls ks).mergeSort fun x y => decide (x ≤ y)) = M at *
   rw [hlen,hlk] at hsort
   rw [hl2,hlk] at hcomp
   rw [hl2,hlk] at HEND
   have hCl : (compact M).length = (setB ks).length:=by rw [← hM,compact_sort,setB_len]
   rw [hCl] at hcomp HEND
   clear hown hH hH2
   go_wp2_with fail
   refine hsort.out.mono ?_
   rintro e w2 ⟨rfl,nn,os,rfl⟩
   go_wp2_with fail
   refine (hcomp nn os).out.mono ?_
   rintro e w3 ⟨rfl,q,rfl⟩
   go_wp2_with fail
   go_ret
   exact ⟨(HEND nn os q).out.2,b,cap,rfl,by simpa [putRow,mapBlock,Sort.ahead,grow] using Nat.lt_of_lt_of_le X.out.2.2.2 (Nat.le_add_right _ _),(HEND nn os q).out.1⟩
end Go.Proofs.YtepoiefadjoabaaGreatDoor
namespace Go.Proofs.YtepoiefadjoabaaGreatDoor
open Go Go.RowKit Go.Shelf
attribute [local go_sem] quietE quietE2
def putAt (B : List ByteArray) (s : ByteArray) (k : Nat) : List (List UInt8) × Bool := ((bls B).take k).foldl (putStep (bl s)) ([], false)
theorem putAt_succ {B : List ByteArray} {s x : ByteArray} {k : Nat} (h : B[k]? = some x) : putAt B s (k + 1) = putStep (bl s) (putAt B s k) (bl x) := by
 unfold putAt
 rw [takeSnoc (show (bls B)[k]? = some (bl x) by unfold bls;rw [List.getElem?_map,h];rfl),List.foldl_append]
 rfl
theorem putAt_end (B : List ByteArray) (s : ByteArray) : putL (bls B) (bl s) = putEnd (bl s) (putAt B s B.length) := by
 unfold putAt putL
 rw [show B.length = (bls B).length by unfold bls;rw [List.length_map],List.take_length]
theorem bls_snoc18 (l : List ByteArray) (x : ByteArray) : bls (l ++ [x]) = bls l ++ [bl x] := by simp [bls]
theorem toList_bl (x : ByteArray) : x.toList = bl x := Lib.toList_data x
set_option maxHeartbeats 4000000 in
set_option maxRecDepth 100000 in
theorem rput_any (B : List ByteArray) (s : ByteArray) (a : Option Addr) (c : Nat) (w : World) (hl : B.length ≤ 1048576) (hat : AtCells w a 1 (B.map stC)) :
  Calls Tryz.prog 122 #[.slice a B.length c,.string s] w fun e w' => Grows w w'∧∃ v out,bls out = putL (bls B) (bl s)∧e = .returned v∧Owns w' w.heap.size 9 1 stC v out:=by
 have HAT:=Lib.hid hat
 clear hat
 go_enter Tryz.func122,Tryz.ntmps122
 go_wp2_with fail
 go_loopw [5,6,7] (fun v d i wr => ∃ (k : Nat) (out : List ByteArray) (dn : Bool),k ≤ B.length∧i = .int .i64 k∧d = .bool dn∧Hid ((bls out,dn) = putAt B s k)∧out.length ≤ 2 * k∧Owns wr w.heap.size 9 1 stC v out∧Grows w wr) (fun _ _ i _ => B.length - (intOf i).toNat)
 case atStart => exact ⟨0,[],false,Nat.zero_le _,rfl,rfl,rfl,Nat.zero_le _,Owns.nil _ _ _ _ _,Grows.refl _⟩
 case round =>
  obtain ⟨k,out,dn,hk,rfl,rfl,hF,hol,hown,hg⟩:=hrel
  by_cases hlt : k < B.length
  ·obtain ⟨x,hx⟩ : ∃ x,B[k]? = some x:=⟨_,List.getElem?_eq_getElem hlt⟩
   obtain ⟨b,o,rfl,hc⟩:=at1 (f:=Value.string) HAT.out (ne_nil_of_lt hlt)
   have hcw:=Lib.hid (hc k x hx)
   have hcx:=hg.cell hcw.out
   have hki : (k : Int) < B.length:=by omega
   have HS:=Lib.hid (putAt_succ (s:=s) hx)
   rw [← hF.out] at HS
   clear hc hx hF
   by_cases he : x = s
   ·subst he
    have hb : Op.bytesLess x.toList x.toList = false:=by rw [bytesLess_irrefl]
    have heq : (x.toList == x.toList) = true:=by simp
    have HB : Hid (Op.bytesLess (bl x) (bl x) = false):=by rw [← toList_bl];exact hb
    have HE : Hid (bl x = bl x):=rfl
    cases dn with
    | false =>
     have HN : Hid ((bls (out ++ [x]),true) = putAt B x (k + 1)):=by
      show _ = _
      rw [HS.out]
      unfold putStep
      simp only [bls_snoc18]
      simp [HB.out]
     clear HS
     go_wp2_with (at_builtin;refine app_one5 stLay rfl _ _ rfl w.heap.size _ out x rfl hown (Grows.refl _) _ 1 rfl #[.string x] rfl rfl (by first | omega | (rw [List.length_append,List.length_singleton];omega)) hg.size ?_;intro v4 w4 hown4 _ _ hgg4;have hg4:=hgg4 w hg (Nat.le_refl _);have hcx4:=hg4.cell hcw.out;clear hown hg hgg4)
     go_wp2_with fail
     go_roundw
     case rel => exact ⟨k + 1,(out ++ [x]),true,hlt,by go_num,rfl,HN,by simp only [List.length_append,List.length_singleton];omega,hown4,hg4⟩
     case measure => simp [intOf];omega
    | true =>
     have HN : Hid ((bls out,true) = putAt B x (k + 1)):=by
      show _ = _
      rw [HS.out]
      unfold putStep
      simp only
      simp [HB.out]
     clear HS
     go_wp2_with fail
     go_roundw
     case rel => exact ⟨k + 1,out,true,hlt,by go_num,rfl,HN,by omega,hown,hg⟩
     case measure => simp [intOf];omega
   ·have heq : (x.toList == s.toList) = false:=by simpa using fun h => he (toList_inj h)
    have HE : Hid (bl x ≠ bl s):=fun h => he (bl_inj h)
    cases dn with
    | true =>
     have HB : Hid (True):=trivial
     have HN : Hid ((bls (out ++ [x]),true) = putAt B s (k + 1)):=by
      show _ = _
      rw [HS.out]
      unfold putStep
      simp only [bls_snoc18]
      simp [HE.out]
     clear HS
     go_wp2_with (at_builtin;refine app_one5 stLay rfl _ _ rfl w.heap.size _ out x rfl hown (Grows.refl _) _ 1 rfl #[.string x] rfl rfl (by first | omega | (rw [List.length_append,List.length_singleton];omega)) hg.size ?_;intro v4 w4 hown4 _ _ hgg4;have hg4:=hgg4 w hg (Nat.le_refl _);have hcx4:=hg4.cell hcw.out;clear hown hg hgg4)
     go_wp2_with fail
     go_roundw
     case rel => exact ⟨k + 1,(out ++ [x]),true,hlt,by go_num,rfl,HN,by simp only [List.length_append,List.length_singleton];omega,hown4,hg4⟩
     case measure => simp [intOf];omega
    | false =>
     cases hb : Op.bytesLess x.toList s.toList with
     | true =>
      have HB : Hid (Op.bytesLess (bl x) (bl s) = true):=by rw [← toList_bl,← toList_bl];exact hb
      have HN : Hid ((bls (out ++ [x]),false) = putAt B s (k + 1)):=by
       show _ = _
       rw [HS.out]
       unfold putStep
       simp only [bls_snoc18]
       simp [HB.out,HE.out]
      clear HS
      go_wp2_with (at_builtin;refine app_one5 stLay rfl _ _ rfl w.heap.size _ out x rfl hown (Grows.refl _) _ 1 rfl #[.string x] rfl rfl (by first | omega | (rw [List.length_append,List.length_singleton];omega)) hg.size ?_;intro v4 w4 hown4 _ _ hgg4;have hg4:=hgg4 w hg (Nat.le_refl _);have hcx4:=hg4.cell hcw.out;clear hown hg hgg4)
      go_wp2_with fail
      go_roundw
      case rel => exact ⟨k + 1,(out ++ [x]),false,hlt,by go_num,rfl,HN,by simp only [List.length_append,List.length_singleton];omega,hown4,hg4⟩
      case measure => simp [intOf];omega
     | false =>
      have HB : Hid (Op.bytesLess (bl x) (bl s) = false):=by rw [← toList_bl,← toList_bl];exact hb
      have HN : Hid ((bls ((out ++ [s]) ++ [x]),true) = putAt B s (k + 1)):=by
       show _ = _
       rw [HS.out]
       unfold putStep
       simp only [bls_snoc18]
       simp [HB.out,HE.out]
      clear HS
      go_wp2_with (at_builtin;first | (refine app_one5 stLay rfl _ _ rfl w.heap.size _ out s rfl hown (Grows.refl _) _ 1 rfl #[.string s] rfl rfl (by first | omega | (rw [List.length_append,List.length_singleton];omega)) hg.size ?_;intro v4 w4 hown4 _ _ hgg4;have hg4:=hgg4 w hg (Nat.le_refl _);have hcx4:=hg4.cell hcw.out;clear hown hg hgg4) | (refine app_one5 stLay rfl _ _ rfl w.heap.size _ (out ++ [s]) x rfl hown4 (Grows.refl _) _ 1 rfl #[.string x] rfl rfl (by first | omega | (rw [List.length_append,List.length_singleton];omega)) hg4.size ?_;intro v5 w5 hown5 _ _ hgg5;have hg5:=hgg5 w hg4 (Nat.le_refl _);have hcx5:=hg5.cell hcw.out;clear hown4 hg4 hgg5))
      go_wp2_with fail
      go_roundw
      case rel => exact ⟨k + 1,((out ++ [s]) ++ [x]),true,hlt,by go_num,rfl,HN,by simp only [List.length_append,List.length_singleton];omega,hown5,hg5⟩
      case measure => simp [intOf];omega
  ·obtain rfl : k = B.length:=by omega
   have HE:=Lib.hid (putAt_end B s)
   rw [← hF.out] at HE
   cases dn with
   | true =>
    go_wp2_with fail
    go_ret
    exact ⟨hg,_,out,by rw [HE.out];unfold putEnd;rfl,rfl,hown⟩
   | false =>
    go_wp2_with (at_builtin;refine app_one5 stLay rfl _ _ rfl w.heap.size _ out s rfl hown (Grows.refl _) _ 1 rfl #[.string s] rfl rfl (by omega) hg.size ?_;intro v4 w4 hown4 _ _ hgg4)
    have hg4:=hgg4 w hg (Nat.le_refl _)
    clear hown hg
    go_wp2_with fail
    go_ret
    exact ⟨hg4,_,out ++ [s],by rw [HE.out];unfold putEnd;rw [bls_snoc18];rfl,rfl,hown4⟩
end Go.Proofs.YtepoiefadjoabaaGreatDoor
