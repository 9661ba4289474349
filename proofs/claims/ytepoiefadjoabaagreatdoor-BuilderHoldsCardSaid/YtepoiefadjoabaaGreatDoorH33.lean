/- The texts Bset SelW R18a, one behind the other. -/
import Derived.Test.YtepoiefadjoabaaGreatDoorH5
import Derived.Test.YtepoiefadjoabaaGreatDoorH25
import Derived.Test.YtepoiefadjoabaaGreatDoorH22
import Derived.Test.YtepoiefadjoabaaGreatDoorH32
import Derived.Test.YtepoiefadjoabaaGreatDoorH8
import Derived.Test.YtepoiefadjoabaaGreatDoorH20
import Derived.Test.YtepoiefadjoabaaGreatDoorShelf2
import Derived.Sort.OwnSorted
import Derived.Lib.OwnBridge
import Derived.Shelf.SlicesG.CompactS
import Derived.Shelf.SortM.Plain
import Derived.Test.YtepoiefadjoabaaGreatDoorH31
import Derived.Test.YtepoiefadjoabaaGreatDoorH1
import Derived.Test.YtepoiefadjoabaaGreatDoorH21
namespace Go.Proofs.YtepoiefadjoabaaGreatDoor
open Go Go.Shelf Go.RowKit Go.Lib Go.Sort
theorem stInfo : ∃ i, Tryz.prog.info? 9 = some i ∧ i.zero = some (.string ByteArray.empty) ∧ i.size = 1 ∧ i.bytes = 16 := by
 have h : (Tryz.prog.info? 9).map (fun i => (i.zero,i.size,i.bytes)) = some (some (.string ByteArray.empty),1,16):=by kernel_rfl
 cases hi : Tryz.prog.info? 9 with
 | none => rw [hi] at h;cases h
 | some i =>
  rw [hi] at h
  simp only [Option.map_some,Option.some.injEq,Prod.mk.injEq] at h
  exact ⟨i,rfl,h.1,h.2.1,h.2.2⟩
theorem st_rows (ks : List ByteArray) : ks.flatMap stC = (bls ks).map encStr := by
 show ks.flatMap (fun s => [Value.string s]) = (ks.map (·.data.toList)).map encStr
 rw [Lib.map_encStr,flat_one]
def setB (ks : List ByteArray) : List ByteArray := (setL (bls ks)).map mkB
theorem bls_setB (ks : List ByteArray) : bls (setB ks) = setL (bls ks) := by
 unfold bls setB
 rw [List.map_map]
 exact (List.map_congr_left fun x _ => mkB_data x).trans (List.map_id _)
theorem setB_rows (ks : List ByteArray) : (setB ks).flatMap stC = (setL (bls ks)).map encStr := by
 rw [st_rows,bls_setB]
theorem setB_len (ks : List ByteArray) : (setB ks).length = (setL (bls ks)).length := by unfold setB; rw [List.length_map]
theorem set_end {w w1 : World} {g cap nn q : Nat} {os : Array Obj} {ks : List ByteArray} (hown : Owns w1 w.heap.size 9 1 stC (.slice (some ⟨g, 0, none⟩) ks.length cap) ks) (hg : Grows w w1) (hbg : w.heap.size ≤ g) :
  Owns (putRow encStr (Sort.ahead (grow (putRow encStr (Sort.ahead w1 nn) g 0 ((bls ks).mergeSort fun x y => decide (x ≤ y)).toArray) os) q) g 0 (Lib.compact ((bls ks).mergeSort fun x y => decide (x ≤ y)) ++ List.replicate (((bls ks).mergeSort fun x y => decide (x ≤ y)).length - (Lib.compact ((bls ks).mergeSort fun x y => decide (x ≤ y))).length) []).toArray) w.heap.size 9 1 stC (.slice (some ⟨g,0,none⟩) (Lib.compact ((bls ks).mergeSort fun x y => decide (x ≤ y))).length cap) (setB ks) ∧
  Grows w (putRow encStr (Sort.ahead (grow (putRow encStr (Sort.ahead w1 nn) g 0 ((bls ks).mergeSort fun x y => decide (x ≤ y)).toArray) os) q) g 0 (Lib.compact ((bls ks).mergeSort fun x y => decide (x ≤ y)) ++ List.replicate (((bls ks).mergeSort fun x y => decide (x ≤ y)).length - (Lib.compact ((bls ks).mergeSort fun x y => decide (x ≤ y))).length) []).toArray):=by
 have hl0 : (bls ks).length = ks.length:=by unfold bls;rw [List.length_map]
 have hl2 : ((bls ks).mergeSort fun x y => decide (x ≤ y)).length = (bls ks).length:=List.length_mergeSort _
 have hle:=Lib.compact_length_le ((bls ks).mergeSort fun x y => decide (x ≤ y))
 unfold Owns at hown ⊢
 rw [st_rows,← hl0] at hown
 rw [setB_rows,setB_len,← compact_sort]
 rcases hown.2 with ⟨h0,_⟩ | ⟨g',cap',cur,hv,hbase,hb,h1,h2,h3,h4⟩
 ·cases h0
 cases hv
 have hs:=ownsRow_sorted (n:=nn) (os:=os) (ts:=(bls ks).mergeSort fun x y => decide (x ≤ y)) hl2 hbase hb h1 h2 h3
 have hc:=Lib.ownsRow_putRow (q:=q) (k:=(Lib.compact ((bls ks).mergeSort fun x y => decide (x ≤ y))).length) (ys:=Lib.compact ((bls ks).mergeSort fun x y => decide (x ≤ y)) ++ List.replicate (((bls ks).mergeSort fun x y => decide (x ≤ y)).length - (Lib.compact ((bls ks).mergeSort fun x y => decide (x ≤ y))).length) []) hs (by simp;omega) (by omega)
 rw [List.take_left] at hc
 exact ⟨hc,Lib.below_putRow ((show Below w.heap.size w w1 from hg).grown (grownBy_sorted _) (Below.size hg) (fun j hj => by cases hj;exact hbase)) hbg⟩
set_option maxHeartbeats 4000000 in
set_option maxRecDepth 100000 in
theorem bset_any (key : En → ByteArray) (g : Nat) (eg : ∀ args w, (callFunc g args).run Tryz.prog w = .ok (.enter g args) w) (HG : ∀ (x : En) w, Calls Tryz.prog g #[x.agg] w fun e w' => e = .returned (.string (key x)) ∧ Grows w w')
  (l : List En) (a : Option Addr) (c : Nat) (w : World) (hl : l.length ≤ 1048576) (hat : AtCells w a 5 (l.map enCells)) :
  Calls Tryz.prog 32 #[.slice a l.length c,.func (.func g) #[] #[]] w fun e w' => Grows w w'∧∃ b cap,e = .returned (.slice (some ⟨b,0,none⟩) (setB (l.map key)).length cap)∧b < w'.heap.size∧Owns w' w.heap.size 9 1 stC (.slice (some ⟨b,0,none⟩) (setB (l.map key)).length cap) (setB (l.map key)):=by
 have HAT:=Lib.hid hat
 have HGG:=fun x w => Lib.hid (HG x w)
 obtain ⟨ks,hks⟩ : ∃ ks,ks = l.map key:=⟨_,rfl⟩
 have hlk : ks.length = l.length:=by rw [hks,List.length_map]
 rw [← hks]
 have HKS:=Lib.hid hks
 obtain ⟨iu,hiu,hzu,hsu,hbu⟩:=stInfo
 clear hat HG hks
 go_enter Tryz.func32,Tryz.ntmps32
 go_wp2_with (at_make;refine wpList_make_own _ rfl _ _ 51 rfl w.heap.size 9 iu (.string ByteArray.empty) 1 Tryz.underlying51 hiu hzu hsu .i64 .i64 _ l.length rfl rfl rfl (by rw [hbu];omega) (by unfold maxLen;omega) (Nat.le_refl _) ?_;intro w1 hown1 hgr1)
 go_loopw [5,13] (fun v i wr => ∃ (k : Nat),k ≤ l.length∧i = .int .i64 k∧v ≠ .slice none 0 0∧Owns wr w.heap.size 9 1 stC v (ks.take k)∧Grows w wr) (fun _ i _ => l.length - (intOf i).toNat)
 case atStart => exact ⟨0,Nat.zero_le _,rfl,by simp,hown1,(Grows.refl w).grown hgr1 (fun q hq => by cases hq)⟩
 case round =>
  clear hown1 hgr1 hiu hzu hsu hbu
  obtain ⟨k,hk,rfl,hvn,hown,hg⟩:=hrel
  by_cases hlt : k < l.length
  ·obtain ⟨⟨xr,xs,xl,xt,xc⟩,hx⟩ : ∃ x,l[k]? = some x:=⟨_,List.getElem?_eq_getElem hlt⟩
   obtain ⟨ba,oa,rfl,hca⟩:=(HAT.out.grows hg).get (ne_nil_of_lt hlt)
   have c0 : wr.cell? ⟨ba,oa + k * 5,none⟩ = some (.string xr):=hca k _ hx 0 _ rfl
   have c1 : wr.cell? ⟨ba,oa + k * 5 + 1,none⟩ = some (.string xs):=hca k _ hx 1 _ rfl
   have c2 : wr.cell? ⟨ba,oa + k * 5 + 2,none⟩ = some (.int .i64 xl):=hca k _ hx 2 _ rfl
   have c3 : wr.cell? ⟨ba,oa + k * 5 + 3,none⟩ = some (.int .i64 xt):=hca k _ hx 3 _ rfl
   have c4 : wr.cell? ⟨ba,oa + k * 5 + 4,none⟩ = some (.int .i64 xc):=hca k _ hx 4 _ rfl
   obtain ⟨kx,hkx⟩ : ∃ s,s = key ⟨xr,xs,xl,xt,xc⟩:=⟨_,rfl⟩
   have HCG:=fun W => Lib.hid (HGG ⟨xr,xs,xl,xt,xc⟩ W).out
   rw [← hkx] at HCG
   have hksk : ks[k]? = some kx:=by rw [HKS.out,List.getElem?_map,hx,hkx];rfl
   have HT:=Lib.hid (takeSnoc hksk)
   obtain ⟨acc,hacc⟩ : ∃ acc,acc = ks.take k:=⟨_,rfl⟩
   have hal : acc.length = k:=by rw [hacc,List.length_take];omega
   rw [← hacc] at hown HT
   clear hca hx hkx hksk hacc
   go_wp2_with fail
   refine (HCG _).out.mono ?_
   rintro e w2 ⟨rfl,hg2⟩
   have hg2':=Grows.trans _ _ _ (Grows.alloc wr _) hg2
   have hown2:=hown.grows hg2'
   have hgw2:=Grows.trans _ _ _ hg hg2'
   clear hg2 hg2' hown c0 c1 c2 c3 c4
   go_wp2_with (at_builtin;refine app_one5 stLay rfl _ _ rfl w.heap.size _ acc kx rfl hown2 (Grows.refl _) _ 1 rfl #[.string kx] rfl rfl (by omega) hgw2.size ?_;intro v5 w5 hown5 _ _ hg5)
   have hv5 : v5 ≠ .slice none 0 0:=fun e => by
    obtain ⟨a5,c5,e5,_⟩:=hown5.at_ (k:=1) (fun x => (rfl : (stC x).length = 1))
    rw [e5] at e
    injection e with _ e6 _
    simp at e6
   have HG5:=hg5 w hgw2 (Nat.le_refl _)
   rw [← HT.out] at hown5
   go_wp2_with fail
   go_roundw
   case rel => exact ⟨k + 1,by omega,by go_num,hv5,hown5,HG5⟩
   case measure => simp [intOf];omega
  ·obtain rfl : k = l.length:=by omega
   rw [List.take_of_length_le (by omega)] at hown
   obtain ⟨b,cap,rfl,hbg,hgl,hncap,hcm,hlen,hH⟩:=Lib.holds_of_ownsRow (enc:=encStr) (by rw [← st_rows];exact hown) hvn
   have X : Aside (Owns wr w.heap.size 9 1 stC (.slice (some ⟨b,0,none⟩) ks.length cap) ks∧Grows w wr∧w.heap.size ≤ b∧b < wr.heap.size):=⟨hown,hg,hbg,hgl⟩
   have hsort:=Lib.hid (AnyM.slices_Sort_string Tryz.sortS b 0 cap (bls ks) wr hH hgl (by omega))
   have hl2 : ((bls ks).mergeSort fun x y => decide (x ≤ y)).length = ks.length:=by rw [List.length_mergeSort];exact hlen
   have hH2:=fun nn os => Lib.hid (show Holds encStr (grow (putRow encStr (Sort.ahead wr nn) b 0 ((bls ks).mergeSort fun x y => decide (x ≤ y)).toArray) os) b 0 ((bls ks).mergeSort fun x y => decide (x ≤ y)).toArray from
     holds_grow encStr _ os b 0 _ (by simpa [putRow,mapBlock,Sort.ahead] using hgl) (holds_putRow encStr _ b 0 _ _ (holds_ahead encStr wr nn b 0 _ hH) (by simp)))
   have hcomp:=fun nn os => Lib.hid (AnyG.slices_Compact_string Tryz.compactS b 0 cap _ _ (hH2 nn os).out (by omega) (by omega))
   have HEND:=fun nn os q => Lib.hid (set_end (w1:=wr) (nn:=nn) (q:=q) (os:=os) (ks:=ks) X.out.1 X.out.2.1 X.out.2.2.1)
   generalize hM : ((bls ks).mergeSort fun x y => decide (x ≤ y)) = M at *
   rw [hlen,hlk] at hsort
   rw [hl2,hlk] at hcomp
   rw [hl2,hlk] at HEND
   have hCl : (compact M).length = (setB ks).length:=by rw [← hM,compact_sort,setB_len]
   rw [hCl] at hcomp HEND
   clear hown hH hH2
   go_wp2_with fail
   refine hsort.out.mono ?_
   rintro e w2 ⟨rfl,nn,os,rfl⟩
   go_wp2_with fail
   refine (hcomp nn os).out.mono ?_
   rintro e w3 ⟨rfl,q,rfl⟩
   go_wp2_with fail
   go_ret
   exact ⟨(HEND nn os q).out.2,b,cap,rfl,by simpa [putRow,mapBlock,Sort.ahead,grow] using Nat.lt_of_lt_of_le X.out.2.2.2 (Nat.le_add_right _ _),(HEND nn os q).out.1⟩
end Go.Proofs.YtepoiefadjoabaaGreatDoor
namespace Go.Proofs.YtepoiefadjoabaaGreatDoor
open Go Go.RowKit Go.Shelf Go.Sort
attribute [local go_sem] quietE quietE2
theorem grows_grow (w : World) (m : Nat) (os : Array Obj) : Grows w (grow (w.drewN m) os) := by
 refine Below.grown (row:=none) (Below.refl _ _) ⟨rfl,rfl,rfl,by simp [grow],fun k hk _ => ?_⟩ (Nat.le_refl _) (fun k h => by cases h)
 exact heap_grow_old _ _ (by simpa using hk)
set_option maxHeartbeats 8000000 in
set_option maxRecDepth 100000 in
theorem select_any (l : List Bool) (vb : Nat) (b : Bool) (j k : Nat) (w : World) (hl : l.length ≤ 1048576) (hj : j < l.length) (hb : bitOf l j = b) (hk : rankB l b j = k) (hat : VecAt w vb l) :
  Calls Tryz.prog 91 #[.pointer (some ⟨vb,0,none⟩),.bool b,.int .i64 k] w fun e w' => e = .returned (.int .i64 j)∧Grows w w':=by
 obtain ⟨W1,hW1⟩ : ∃ W1,W1 = w.alloc (.cells #[.pointer (some ⟨vb,0,none⟩)] 135):=⟨_,rfl⟩
 obtain ⟨W2,hW2⟩ : ∃ W2,W2 = W1.alloc (.cells #[.bool b] 4):=⟨_,rfl⟩
 obtain ⟨W3,hW3⟩ : ∃ W3,W3 = W2.alloc (.cells #[.int .i64 k] 3):=⟨_,rfl⟩
 have hs1 : W1.heap.size = w.heap.size + 1:=by rw [hW1];simp
 have hs2 : W2.heap.size = w.heap.size + 1 + 1:=by rw [hW2,World.size_alloc,hs1]
 have hs3 : W3.heap.size = w.heap.size + 1 + 1 + 1:=by rw [hW3,World.size_alloc,hs2]
 have g1 : Grows w W1:=by rw [hW1];exact Grows.alloc _ _
 have g2 : Grows W1 W2:=by rw [hW2];exact Grows.alloc _ _
 have g3 : Grows W2 W3:=by rw [hW3];exact Grows.alloc _ _
 have gW : Grows w W3:=(g1.tr g2).tr g3
 have c1 : W3.cell? ⟨w.heap.size,0,none⟩ = some (.pointer (some ⟨vb,0,none⟩)):=box_in (cs:=#[.pointer (some ⟨vb,0,none⟩)]) (t:=135) (by rw [← hW1];exact g2.tr g3) rfl 0 _ rfl
 have c2 : W3.cell? ⟨w.heap.size + 1,0,none⟩ = some (.bool b):=by
  have:=box_in (w:=W1) (w':=W3) (cs:=#[.bool b]) (t:=4) (by rw [← hW2];exact g3) rfl 0 _ rfl
  rwa [hs1] at this
 have c3 : W3.cell? ⟨w.heap.size + 1 + 1,0,none⟩ = some (.int .i64 k):=by
  have:=box_in (w:=W2) (w':=W3) (cs:=#[.int .i64 k]) (t:=3) (by rw [← hW3];exact Grows.refl _) rfl 0 _ rfl
  rwa [hs2] at this
 obtain ⟨R,hR⟩ : ∃ R,R = rankB l b l.length:=⟨_,rfl⟩
 have hkR : k < R:=by
  have hs : rankB l b (j + 1) = k + 1:=by rw [rankB_succ,hk,hb];simp
  have:=rankB_mono l b (show j + 1 ≤ l.length by omega)
  omega
 have CL:=Lib.hid (vlen_any l vb W3 (hat.grows gW))
 have CR : Hid (∀ u,Grows w u → Calls Tryz.prog 90 #[.pointer (some ⟨vb,0,none⟩),.bool b,.int .i64 (l.length : Nat)] u fun e w' => e = .returned (.int .i64 R)∧u = w'):=by
  intro u hg
  have h:=rank_any l vb b l.length u hl hl (hat.grows hg)
  rw [Nat.min_self,← hR] at h
  exact h
 have hmono : ∀ a c,a ≤ c → c < l.length → decide (k < rankB l b (a + 1)) = true → decide (k < rankB l b (c + 1)) = true:=fun a c hac _ h => by
  have:=rankB_mono l b (show a + 1 ≤ c + 1 by omega)
  simp only [decide_eq_true_eq] at *
  omega
 have SR : Hid (Calls Tryz.prog 144 #[.int .i64 (l.length : Nat),.func (.func 145) #[] #[.pointer (some ⟨w.heap.size,0,none⟩),.pointer (some ⟨w.heap.size + 1,0,none⟩),.pointer (some ⟨w.heap.size + 1 + 1,0,none⟩)]] W3.drew fun e w' => e = .returned (.int .i64 j)∧∃ q os,w' = grow (W3.drew.drewN q) os):=by
  have h:=Any.sort_Search Tryz.searchI 145 #[.pointer (some ⟨w.heap.size,0,none⟩),.pointer (some ⟨w.heap.size + 1,0,none⟩),.pointer (some ⟨w.heap.size + 1 + 1,0,none⟩)] l.length (fun i => decide (k < rankB l b (i + 1))) W3.drew
   (enters_of Tryz.func145 (by kernel_rfl) rfl) (by omega)
   (fun m os i hi => by
    have hg : Grows W3 (grow (W3.drew.drewN m) os):=(Grows.drew _).tr (grows_grow _ _ _)
    exact (selc_any l vb _ _ _ b k i _ hl hi (hat.grows (gW.tr hg)) (hg.cell c1) (hg.cell c2) (hg.cell c3)).mono fun e w' ⟨he,hw⟩ => ⟨he,1,#[],by rw [grow_empty,hw];rfl⟩) hmono
  rw [sel_at l b hj hb hk] at h
  exact h
 have z1 : ∀ x : Ext Grows W3.drew,x.u.cell? ⟨w.heap.size,0,none⟩ = some (.pointer (some ⟨vb,0,none⟩)):=ext_cell ((Grows.drew W3).cell c1)
 have z2 : ∀ x : Ext Grows W3.drew,x.u.cell? ⟨w.heap.size + 1,0,none⟩ = some (.bool b):=ext_cell ((Grows.drew W3).cell c2)
 have z3 : ∀ x : Ext Grows W3.drew,x.u.cell? ⟨w.heap.size + 1 + 1,0,none⟩ = some (.int .i64 k):=ext_cell ((Grows.drew W3).cell c3)
 have hmf : ∀ (fn : Fn) (first cap : Array Value) (w : World),(Instr.makeFunc fn first cap).run Tryz.prog w = .ok (.func fn first cap) w:=fun _ _ _ _ => rfl
 have hk0 : ¬ (k : Int) < 0:=by omega
 have hkRi : (k : Int) < R:=by omega
 have hkRn : ¬ (R : Int) ≤ k:=by omega
 clear hat hR hb hk hmono hkR hs1 hs2 hs3 g1 g2 g3
 go_enter Tryz.func91,Tryz.ntmps91
 go_wp2_with fail
 rw [← hW1,← hW2,← hW3]
 clear hW1 hW2 hW3
 refine CL.out.mono ?_
 rintro e w2 ⟨rfl,rfl⟩
 go_wp2_with fail
 refine t_region (Grows) [(0,false),(1,false),(2,false),(3,false),(4,false),(5,false),(6,false),(7,false),(8,false),(9,false)] Grows.refl Grows.trans (by kernel_rfl) (by kernel_rfl) (fun d _ _ _ _ h => by cases d <;> exact h) ?_
 iterate 7 (refine t_quiet rfl (fun K hK => ?_);go_simp;refine hK _ ?_;clear hK K)
 refine t_quiet rfl (fun K hK => ?_)
 go_simp
 apply Exists.intro
 refine ⟨fun x => ?_,hK _ ?_⟩
 ·go_at_call 90;exact calls_same (CR.out _ (gW.tr ((Grows.drew W3).tr x.h)))
 clear hK K
 iterate 2 (refine t_quiet rfl (fun K hK => ?_);go_simp;refine hK _ ?_;clear hK K)
 refine t_end ?_
 go_wp2_with fail
 refine SR.out.mono ?_
 rintro e w5 ⟨rfl,q,os,rfl⟩
 go_wp2_with fail
 go_ret
 exact ⟨rfl,gW.tr (grows_grow W3 (1 + q) os)⟩
end Go.Proofs.YtepoiefadjoabaaGreatDoor
namespace Go.Proofs.YtepoiefadjoabaaGreatDoor
open Go Go.RowKit Go.Shelf
attribute [local go_sem] quietE quietE2
end Go.Proofs.YtepoiefadjoabaaGreatDoor
