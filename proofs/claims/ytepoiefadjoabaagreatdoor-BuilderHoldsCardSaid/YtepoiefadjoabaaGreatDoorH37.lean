/- The texts BvE LoC TrE BvD, one behind the other. -/
import Derived.Test.YtepoiefadjoabaaGreatDoorH31
import Derived.Test.YtepoiefadjoabaaGreatDoorH35
import Derived.Test.YtepoiefadjoabaaGreatDoorH32
import Derived.Test.YtepoiefadjoabaaGreatDoorH1
import Derived.Test.YtepoiefadjoabaaGreatDoorH24
import Derived.Test.YtepoiefadjoabaaGreatDoorH25
import Derived.Test.YtepoiefadjoabaaGreatDoorH36
import Derived.Test.YtepoiefadjoabaaGreatDoorH10
namespace Go.Proofs.YtepoiefadjoabaaGreatDoor
open Go Go.RowKit
attribute [local go_sem] quietE quietE2
theorem vecCs_get {l : List Bool} {k x : Nat} (h : (vecCs l)[k]? = some x) : x ≤ l.length + 512 := by
 unfold vecCs at h
 rw [List.getElem?_map] at h
 cases hg : (List.range ((l.length + 511) / 512))[k]? with
 | none => rw [hg] at h;cases h
 | some g =>
  rw [hg] at h
  have h1 : rankT l (512 * g) = x:=Option.some.inj h
  obtain ⟨h2,h3⟩:=List.getElem?_eq_some_iff.1 hg
  rw [List.length_range] at h2
  rw [List.getElem_range] at h3
  have:=rankT_le l (512 * g)
  omega
set_option maxHeartbeats 1000000 in
set_option maxRecDepth 100000 in
theorem venc_any (l : List Bool) (vb : Nat) (w : World) (hl : l.length ≤ 1048576) (hat : VecAt w vb l) :
  Calls Tryz.prog 99 #[.pointer (some ⟨vb,0,none⟩)] w fun e w' => ∃ v,e = .returned v∧Owns w' w.heap.size 5 1 byteC v (vecE l)∧Grows w w':=by
 have c0:=hat.c0
 obtain ⟨vW,c1,hownW⟩:=hat.c1
 obtain ⟨aW,cW,rfl,_,_,hatW⟩:=hownW.at_ (enc:=n64C) (fun _ => rfl)
 obtain ⟨vC,c2,hownC⟩:=hat.c2
 obtain ⟨aC,cC,rfl,_,_,hatC⟩:=hownC.at_ (enc:=natC) (fun _ => rfl)
 have hwbl : ∀ q : Addr,aW = some q → q.block < w.heap.size:=fun q hq => own_lt hownW q.block (by rw [hq];rfl)
 have hvbl : vb < w.heap.size:=World.block_lt_of_cell? w _ c0
 have hq:=vecWs_len l
 have hCl : (vecCs l).length = (l.length + 511) / 512:=by simp [vecCs]
 obtain ⟨Cs,hCs⟩ : ∃ Cs,Cs = vecCs l:=⟨_,rfl⟩
 rw [← hCs] at c2 hatC hCl
 have hcb : ∀ k x,Cs[k]? = some x → x ≤ 1049088:=fun k x hx => by
  rw [hCs] at hx
  have:=vecCs_get hx
  omega
 obtain ⟨Ws,hWs⟩ : ∃ Ws,Ws = vecWs l:=⟨_,rfl⟩
 rw [← hWs] at hatW hq c1
 have hqb : Ws.length ≤ 16384:=by omega
 have hW64 : ∀ n ∈ Ws,n < 18446744073709551616:=fun n hn => by
  rw [hWs] at hn
  unfold vecWs at hn
  obtain ⟨k,_,rfl⟩:=List.mem_map.1 hn
  exact vecW_lt l k
 have HE : Hid (vecE l = leB 4 l.length ++ putsE 8 Ws ++ putsE 4 Cs):=by show _ = _;rw [hWs,hCs];rfl
 have HW64:=Lib.hid hW64
 have HCB:=Lib.hid hcb
 have HATC:=Lib.hid hatC
 have HATW:=Lib.hid hatW
 have hcl2 : Cs.length ≤ 2049:=by omega
 have wn : IntKind.u64.wrap (l.length : Int) = l.length:=by simp [IntKind.wrap,IntKind.bits,IntKind.signed];omega
 have z0 : ∀ y : Ext (EB w.heap.size) w.drew,y.u.cell? ⟨vb,0,none⟩ = some (.int .i64 l.length):=ext_cellB hvbl ((Grows.drew w).cell c0)
 have z1 : ∀ y : Ext (EB w.heap.size) w.drew,y.u.cell? ⟨vb,1,none⟩ = some (.slice aW Ws.length cW):=ext_cellB hvbl ((Grows.drew w).cell c1)
 obtain ⟨n,hne⟩ : ∃ n,n = l.length:=⟨_,rfl⟩
 rw [← hne] at HE wn z0 hl
 have hwbl2:=Lib.hid hwbl
 clear hat c0 hownW hownC hatC hatW hq hwbl hCs hCl hcb hWs hW64 hne c1
 go_enter Tryz.func99,Tryz.ntmps99
 go_wp2_with fail
 refine t_region (EB w.heap.size) [(0,false),(1,false),(2,false),(3,false),(4,false),(7,false),(8,false),(9,false),(10,false),(5,true),(6,true),(11,true),(12,true)] (EB.refl w.heap.size) (EB.trans w.heap.size) (by kernel_rfl) (by kernel_rfl) (fun d _ _ _ _ h => by cases d <;> exact h) ?_
 iterate 9 (refine t_quiet rfl (fun K hK => ?_);go_simp;refine hK _ ?_;clear hK K)
 clear z0 z1
 refine t_late rfl rfl (fun K hK => ?_)
 go_simp
 refine ⟨EB.of (Grows.alloc _ _) (Nat.le_refl _),hK _ _ ?_⟩
 clear hK K
 have hlit:=at_box (enc:=n64C) (w:=w) (t:=116) (fz:=(0,0)) (cs:=#[.int .u64 n]) (fun _ => rfl) [n] rfl
 obtain ⟨W1,hW1⟩ : ∃ W1,W1 = (w.alloc (.cells #[.int .u64 n] 116)).drew:=⟨_,rfl⟩
 have hg1 : Grows w W1:=by rw [hW1];exact (Grows.alloc _ _).dr
 have hs1 : w.heap.size < W1.heap.size:=by rw [hW1];simp
 have hlit1 : AtCells W1 (some ⟨w.heap.size,0,none⟩) 1 ([n].map n64C):=by rw [hW1];exact hlit.grows (Grows.drew _)
 rw [← hW1]
 clear hW1 hlit
 refine t_late rfl rfl (fun K hK => ?_)
 go_simp
 refine (bput_any (.slice none 0 0) [] 4 [n] (some ⟨w.heap.size,0,none⟩) 1 W1 W1 (Grows.refl _) (by decide) (by simp) (by simp) (fun m hm => by obtain rfl:=List.mem_singleton.1 hm;omega) (Owns.nil _ _ _ _ _) hlit1 (fun q _ h => by cases h) (fun q hq => by cases hq;exact hs1)).mono ?_
 rintro e w2 ⟨v2,rfl,hown2,hg2,hsz2⟩;rw [List.nil_append] at hown2
 refine ⟨EB.of hg2 (Nat.le_of_lt hs1),hK _ _ ?_⟩
 clear hK K
 have hp4 : (putsE 4 [n]).length = 4:=by rw [putsE_len];rfl
 have hwb2 : ∀ q : Addr,aW = some q → q.block < W1.heap.size:=fun q hq => Nat.lt_trans (hwbl2.out q hq) hs1
 refine t_late rfl rfl (fun K hK => ?_)
 go_simp
 refine (bput_any v2 (putsE 4 [n]) 8 Ws aW cW W1 _ hg2 (by decide) (by omega) (by omega) HW64.out hown2 (HATW.out.grows (hg1.tr hg2)) (blocks_lo hown2 hwb2) (fun r hr => Nat.lt_of_lt_of_le (hwb2 r hr) hg2.size)).mono ?_
 rintro e w3 ⟨v3,rfl,hown3,hg3,hsz3⟩
 refine ⟨EB.both (hg1.tr hg2) (hg1.tr hg3) hsz3,hK _ _ ?_⟩
 clear hK K
 refine t_late rfl rfl (fun K hK => ?_)
 go_simp
 refine ⟨EB.refl _ _,hK _ _ ?_⟩
 clear hK K
 refine t_end ?_
 have hgw3:=hg1.tr hg3
 obtain ⟨P3,hP3⟩ : ∃ P,P = putsE 4 [n] ++ putsE 8 Ws:=⟨_,rfl⟩
 rw [← hP3] at hown3
 have hp3 : P3.length ≤ 4 + 8 * 16384:=by rw [hP3,List.length_append,hp4,putsE_len];omega
 have HE3 : Hid (vecE l = P3 ++ putsE 4 Cs):=by show _ = _;rw [HE.out,hP3];unfold putsE;simp
 replace hown3:=hown3.base (base':=w.heap.size) hg1.size
 have c2r:=hgw3.cell c2
 clear hP3 hown2 hg2 hg3 hg1 hlit1 hp4 HE c2
 go_wp2_with fail
 go_loopw [3,25] (fun out i wr => ∃ (k : Nat) (acc : List UInt8),k ≤ Cs.length∧i = .int .i64 k∧Hid (acc = P3 ++ putsE 4 (Cs.take k))∧Owns wr w.heap.size 5 1 byteC out acc∧Grows w wr) (fun _ i _ => Cs.length - (intOf i).toNat)
 case atStart => exact ⟨0,P3,Nat.zero_le _,rfl,(by show _ = _;simp [putsE]),hown3,hgw3⟩
 case round =>
  obtain ⟨k,acc,hk,rfl,hacc,hown,hg⟩:=hrel
  have hal : acc.length ≤ 4 + 8 * 16384 + 4 * k:=by
   rw [hacc.out,List.length_append,putsE_len,List.length_take];omega
  by_cases hlt : k < Cs.length
  ·obtain ⟨x,hx⟩ : ∃ x,Cs[k]? = some x:=⟨_,List.getElem?_eq_getElem hlt⟩
   obtain ⟨b,o,rfl,hc⟩:=at1 HATC.out (ne_nil_of_lt hlt)
   have hcx:=hg.cell (hc k x hx)
   have hxb:=HCB.out k x hx
   have wx : IntKind.u64.wrap (x : Int) = x:=by simp [IntKind.wrap,IntKind.bits,IntKind.signed];omega
   have HN : Hid (acc ++ putsE 4 [x] = P3 ++ putsE 4 (Cs.take (k + 1))):=by
    show _ = _
    rw [takeSnoc hx,putsE_snoc,hacc.out,List.append_assoc];simp [putsE]
   have hki : (k : Int) < Cs.length:=by omega
   have hlit:=at_box (enc:=n64C) (w:=wr) (t:=116) (fz:=(0,0)) (cs:=#[.int .u64 x]) (fun _ => rfl) [x] rfl
   have CP:=bput_any _ acc 4 [x] (some ⟨wr.heap.size,0,none⟩) 1 w (wr.alloc (.cells #[.int .u64 x] 116)) (hg.al _) (by decide) (by omega) (by simp) (fun m hm => by obtain rfl:=List.mem_singleton.1 hm;omega) (hown.grows (Grows.alloc _ _)) hlit (blocks_hi hown (fun r hr => by cases hr;exact Nat.le_refl _)) (fun r hr => by cases hr;simp)
   clear hc hx hacc hlit
   go_wp2_with fail
   refine CP.mono ?_
   rintro e w5 ⟨v5,rfl,hown5,hg5,_⟩
   go_wp2_with fail
   go_roundw
   case rel => exact ⟨k + 1,_,hlt,by go_num,HN.out,hown5,hg5⟩
   case measure => simp [intOf];omega
  ·have hki : ¬ (k : Int) < Cs.length:=by omega
   have HF : Hid (acc = vecE l):=by
    show _ = _
    rw [hacc.out,List.take_of_length_le (by omega),HE3.out]
   clear hacc
   go_wp2_with fail
   go_ret
   exact ⟨_,rfl,by rw [← HF.out];exact hown,hg⟩
end Go.Proofs.YtepoiefadjoabaaGreatDoor
namespace Go.Proofs.YtepoiefadjoabaaGreatDoor
open Go Go.RowKit
attribute [local go_sem] quietE quietE2
def chkA (L : List (List UInt8)) : Nat := if 20000 < L.length then 2 else if anyBad L = true then 1 else 0
set_option maxHeartbeats 4000000 in
set_option maxRecDepth 100000 in
theorem chkA_any (B : List ByteArray) (a : Option Addr) (c : Nat) (w : World) (hB : B.length ≤ 1099511627776) (hsz : ∀ s ∈ B, s.size ≤ 1099511627776) (hat : AtCells w a 1 (B.map stC)) :
  Calls Tryz.prog 84 #[.slice a B.length c] w fun e w' => e = .returned (.int .i64 (chkA (bls B)))∧w = w':=by
 have HAT:=Lib.hid hat
 have HSZ:=Lib.hid hsz
 clear hat hsz
 by_cases hbig : 20000 < B.length
 ·have hbi : (20000 : Int) < B.length:=by omega
  have HF : Hid (chkA (bls B) = 2):=by show _ = _;unfold chkA;rw [bls_len,if_pos hbig]
  go_enter Tryz.func84,Tryz.ntmps84
  go_wp2_with fail
  go_ret
  exact ⟨by rw [HF.out];rfl,rfl⟩
 have hbi : ¬ (20000 : Int) < B.length:=by omega
 have HF : Hid (chkA (bls B) = if anyBad (bls B) = true then 1 else 0):=by show _ = _;unfold chkA;rw [bls_len,if_neg hbig]
 have HIT : Hid (∀ k,k < B.length → badAt (bls B) k = true → chkA (bls B) = 1):=fun k hk hb => by rw [HF.out,if_pos (anyBad_hit (by rw [bls_len];exact hk) hb)]
 go_enter Tryz.func84,Tryz.ntmps84
 go_wp2_with fail
 go_loop [10] (fun i => ∃ k : Nat,k ≤ B.length∧i = .int .i64 k∧Hid (∀ j,j < k → badAt (bls B) j = false)) (fun i => B.length - (intOf i).toNat)
 case atStart => exact ⟨0,Nat.zero_le _,rfl,fun j hj => by omega⟩
 case round =>
  obtain ⟨k,hk,rfl,hinv⟩:=hrel
  by_cases hlt : k < B.length
  ·obtain ⟨s,hx⟩ : ∃ x,B[k]? = some x:=⟨_,List.getElem?_eq_getElem hlt⟩
   obtain ⟨b,o,rfl,hc⟩:=at1 HAT.out (ne_nil_of_lt hlt)
   have hcw:=hc k s hx
   have hn:=nth_bls hx
   have hs40:=HSZ.out s (List.mem_of_getElem? hx)
   have hki : (k : Int) < B.length:=by omega
   have HBD : Hid (badAt (bls B) k = (decide (s.size < 1) || decide (256 < s.size) || (decide (0 < k) && !Op.bytesLess (nth (bls B) (k - 1)) (bl s)))):=by show _ = _;unfold badAt;rw [hn,bl_len]
   have hemp : s.toList = [] ↔ s.size < 1:=by
    rw [← bl_list,← bl_len]
    constructor
    ·intro h;rw [h];decide
    ·intro h;exact List.eq_nil_of_length_eq_zero (by omega)
   by_cases h1 : s.size < 1
   ·have HB:=Lib.hid (HIT.out k hlt (by rw [HBD.out];simp [h1]))
    have he1 : s.toList.isEmpty = true:=by rw [hemp.2 h1];rfl
    clear hc hx hn h1 hemp
    go_wp2_with fail
    go_ret
    exact ⟨by rw [HB.out];rfl,rfl⟩
   ·have hemp2 : s.toList.isEmpty = false:=by
     cases hh : s.toList.isEmpty
     ·rfl
     ·exact absurd (hemp.1 (List.isEmpty_iff.1 hh)) h1
    clear hemp
    by_cases h2 : 256 < s.size
    ·have h2i : (256 : Int) < s.size:=by omega
     have HB:=Lib.hid (HIT.out k hlt (by rw [HBD.out];simp [h2]))
     clear hc hx hn
     go_wp2_with fail
     go_ret
     exact ⟨by rw [HB.out];rfl,rfl⟩
    ·have h2i : ¬ (256 : Int) < s.size:=by omega
     by_cases h0 : k = 0
     ·have h0i : ¬ 0 < k:=by omega
      have HN : Hid (∀ j,j < k + 1 → badAt (bls B) j = false):=fun j hj => by
       have hd1 : decide (s.size < 1) = false:=decide_eq_false h1
       have hd2 : decide (256 < s.size) = false:=decide_eq_false h2
       have hd3 : decide (0 < k) = false:=decide_eq_false h0i
       rw [show j = k by omega,HBD.out,hd1,hd2,hd3];rfl
      clear hc hx hn h0
      go_wp2_with fail
      go_round
      case rel => exact ⟨k + 1,hlt,by go_num,HN.out⟩
      case measure => simp [intOf];omega
     ·have h0i : 0 < k:=by omega
      obtain ⟨t,hx2⟩ : ∃ x,B[k - 1]? = some x:=⟨_,List.getElem?_eq_getElem (by omega)⟩
      have hcw2:=hc (k - 1) t hx2
      have hk1 : (k : Int) - 1 = ((k - 1 : Nat) : Int):=by omega
      have hk2 : ((k - 1 : Nat) : Int) < B.length:=by omega
      have hk3 : IntKind.i64.wrap ((k - 1 : Nat) : Int) = ((k - 1 : Nat) : Int):=by simp [IntKind.wrap,IntKind.bits,IntKind.signed];omega
      have hq:=HBD.out
      rw [nth_bls hx2,bl_list,bl_list] at hq
      have hd1 : decide (s.size < 1) = false:=decide_eq_false h1
      have hd2 : decide (256 < s.size) = false:=decide_eq_false h2
      have hd3 : decide (0 < k) = true:=decide_eq_true h0i
      rw [hd1,hd2,hd3] at hq
      simp only [Bool.false_or,Bool.true_and] at hq
      have HQ:=Lib.hid hq
      clear hc hx hn h0 hx2 HBD hq hd1 hd2 hd3
      by_cases hl : Op.bytesLess t.toList s.toList = true
      ·have l1 : Op.bytesLess s.toList t.toList = false:=by
        have:=bytesLess_asymm hl;simpa using this
       have l2 : (s.toList == t.toList) = false:=by
        rw [beq_eq_false_iff_ne];intro h;rw [h,bytesLess_irrefl] at hl;cases hl
       have HN : Hid (∀ j,j < k + 1 → badAt (bls B) j = false):=fun j hj => by
        rcases Nat.lt_or_ge j k with h | h
        ·exact hinv.out j h
        ·rw [show j = k by omega,HQ.out,hl];rfl
       clear hl hinv
       go_wp2_with fail
       go_round
       case rel => exact ⟨k + 1,hlt,by go_num,HN.out⟩
       case measure => simp [intOf];omega
      ·have hl2 : Op.bytesLess t.toList s.toList = false:=by simpa using hl
       have HB:=Lib.hid (HIT.out k hlt (by rw [HQ.out,hl2];rfl))
       by_cases he : s.toList = t.toList
       ·have l1 : Op.bytesLess s.toList t.toList = false:=by rw [he,bytesLess_irrefl]
        have l2 : (s.toList == t.toList) = true:=by rw [he];simp
        clear hl hl2 he hinv
        go_wp2_with fail
        go_ret
        exact ⟨by rw [HB.out];rfl,rfl⟩
       ·have l1 : Op.bytesLess s.toList t.toList = true:=bytesLess_total hl2 (fun h => he h.symm)
        clear hl hl2 he hinv
        go_wp2_with fail
        go_ret
        exact ⟨by rw [HB.out];rfl,rfl⟩
  ·have hki : ¬ (k : Int) < B.length:=by omega
   have HB : Hid (chkA (bls B) = 0):=by
    show _ = _
    rw [HF.out,anyBad_none (fun i hi => hinv.out i (by rw [bls_len] at hi;omega))];rfl
   clear hinv
   go_wp2_with fail
   go_ret
   exact ⟨by rw [HB.out];rfl,rfl⟩
end Go.Proofs.YtepoiefadjoabaaGreatDoor
namespace Go.Proofs.YtepoiefadjoabaaGreatDoor
open Go Go.RowKit
attribute [local go_sem] quietE quietE2
def nodeIx (L : List (List UInt8)) : List Nat := (List.range L.length).map fun j => (nodesA L).findIdx fun x => here L x && x.i == j
structure TrieAt (w : World) (tb : Nat) (L : List (List UInt8)) : Prop where
 s : ∃ sb,w.cell? ⟨tb,0,none⟩ = some (.pointer (some ⟨sb,0,none⟩))∧VecAt w sb (shapeL L (nodesA L))
 i : ∃ ib,w.cell? ⟨tb,1,none⟩ = some (.pointer (some ⟨ib,0,none⟩))∧VecAt w ib (isL L (nodesA L))
 l : ∃ vL,w.cell? ⟨tb,2,none⟩ = some vL∧Owns w 0 5 1 byteC vL (labelsL L (nodesA L))
 d : ∃ pb,w.cell? ⟨tb,3,none⟩ = some (.pointer (some ⟨pb,0,none⟩))∧PkAt w pb (idsL L (nodesA L))
 n : ∃ vN,w.cell? ⟨tb,4,none⟩ = some vN∧Owns w 0 3 1 natC vN (nodeIx L)
theorem TrieAt.grows {w w' : World} {tb : Nat} {L : List (List UInt8)} (h : TrieAt w tb L) (hg : Grows w w') : TrieAt w' tb L := by
 obtain ⟨sb,s1,s2⟩:=h.s
 obtain ⟨ib,i1,i2⟩:=h.i
 obtain ⟨vL,l1,l2⟩:=h.l
 obtain ⟨pb,d1,d2⟩:=h.d
 obtain ⟨vN,n1,n2⟩:=h.n
 exact ⟨⟨sb,hg.cell s1,s2.grows hg⟩,⟨ib,hg.cell i1,i2.grows hg⟩,⟨vL,hg.cell l1,l2.grows hg⟩,⟨pb,hg.cell d1,d2.grows hg⟩,⟨vN,hg.cell n1,n2.grows hg⟩⟩
theorem OkL.sizes {L : List (List UInt8)} (hok : OkL L) (hl : L.length ≤ 20000) (hc : countL L ≤ 524287) :
  (shapeL L (nodesA L)).length ≤ 1048576∧(isL L (nodesA L)).length ≤ 524287∧(labelsL L (nodesA L)).length ≤ 524287∧(idsL L (nodesA L)).length ≤ 524287∧∀ n ∈ idsL L (nodesA L),n ≤ 20000:=by
 have hN:=nodes_count hok.asc hok.len
 refine ⟨?_, ?_, ?_, ?_, ?_⟩
 ·have h:=shapeL_len L (nodesA L).length (Nat.le_refl _)
  rw [List.take_length,hok.off_all] at h
  omega
 ·unfold isL;rw [List.length_map];omega
 ·rw [hok.labels,List.length_map,List.length_drop];omega
 ·unfold idsL
  rw [List.length_map]
  have:=List.length_filter_le (here L) (nodesA L)
  omega
 ·intro n hn
  unfold idsL at hn
  obtain ⟨x,hx,rfl⟩:=List.mem_map.1 hn
  have hg:=mem_nodes hok.asc (List.mem_filter.1 hx).1
  have:=hg.le
  omega
set_option maxHeartbeats 4000000 in
set_option maxRecDepth 100000 in
theorem tenc_any (L : List (List UInt8)) (tb : Nat) (w : World) (hok : OkL L) (hl : L.length ≤ 20000) (hc : countL L ≤ 524287) (hat : TrieAt w tb L) :
  Calls Tryz.prog 47 #[.pointer (some ⟨tb,0,none⟩)] w fun e w' => ∃ v,e = .returned v∧Owns w' w.heap.size 5 1 byteC v (loudE L)∧Grows w w':=by
 obtain ⟨z1,z2,z3,z4,z5⟩:=hok.sizes hl hc
 obtain ⟨sb,s1,s2⟩:=hat.s
 obtain ⟨ib,i1,i2⟩:=hat.i
 obtain ⟨vL,l1,l2⟩:=hat.l
 obtain ⟨pb,d1,d2⟩:=hat.d
 have HE : Hid (loudE L = part11 (vecE (shapeL L (nodesA L))) ++ part11 (labelsL L (nodesA L)) ++ part11 (vecE (isL L (nodesA L))) ++ part11 (packE (idsL L (nodesA L)))):=rfl
 generalize shapeL L (nodesA L) = S at *
 generalize isL L (nodesA L) = I at *
 generalize labelsL L (nodesA L) = Lb at *
 generalize idsL L (nodesA L) = D at *
 have hD64 : ∀ n ∈ D,n < 18446744073709551616:=fun n hn => by have:=z5 n hn;omega
 have hel:=vecE_len S
 have hel2:=vecE_len I
 have hpl:=packE_len D
 have hwd : widL D ≤ 64:=widL_le.2 hD64
 have hpb : D.length * widL D ≤ 524287 * 64:=Nat.mul_le_mul z4 hwd
 obtain ⟨aL,cL,rfl,_,_,hatL⟩:=l2.at_ byteLay.len
 have hnL:=owns_none2 l2
 have hltL : ∀ q : Addr,aL = some q → q.block < w.heap.size:=fun q hq => own_lt l2 q.block (by rw [hq];rfl)
 obtain ⟨b1,hb1⟩ : ∃ b1,b1 = vecE S:=⟨_,rfl⟩
 obtain ⟨b3,hb3⟩ : ∃ b3,b3 = vecE I:=⟨_,rfl⟩
 obtain ⟨b4,hb4⟩ : ∃ b4,b4 = packE D:=⟨_,rfl⟩
 have CS:=Lib.hid (venc_any S sb w z1 s2)
 have CI:=fun W (hg : Grows w W) => Lib.hid (venc_any I ib W (by omega) (i2.grows hg))
 have CD:=fun W (hg : Grows w W) => Lib.hid (penc_any D pb W (by omega) hD64 (d2.grows hg))
 rw [← hb1] at CS hel
 rw [← hb3] at CI hel2
 rw [← hb4] at CD hpl
 have HB1:=Lib.hid hb1
 have HB3:=Lib.hid hb3
 have HB4:=Lib.hid hb4
 have HATL:=Lib.hid hatL
 have hb1l : b1.length ≤ 100000000:=by omega
 have hb3l : b3.length ≤ 100000000:=by omega
 have hb4l : b4.length ≤ 100000000:=by omega
 clear hat hok hc hD64 hel hel2 hpl hwd hpb hatL hb1 hb3 hb4 s2 i2 l2 d2 z5
 go_enter Tryz.func47,Tryz.ntmps47
 go_wp2_with fail
 refine CS.out.mono ?_
 rintro e w2 ⟨v2,rfl,hown2,hg2⟩
 obtain ⟨a2,c2,rfl,_,_,hat2⟩:=hown2.at_ byteLay.len
 have hn2:=owns_none2 hown2
 clear hown2
 go_wp2_with fail
 refine (part_any (.slice none 0 0) [] b1 a2 c2 w2 w2 (Grows.refl _) (by simp) (by omega) (Owns.nil _ _ _ _ _) hat2 hn2 (fun q _ h => by cases h)).mono ?_
 rintro e w3 ⟨v3,rfl,hown3,hg3⟩
 rw [List.nil_append] at hown3
 have hp1 : (part11 b1).length ≤ 100000004:=by unfold part11;rw [List.length_append,leB_len];omega
 have hgA:=hg2.tr hg3
 have l1a:=hgA.cell l1
 go_wp2_with fail
 refine (part_any v3 (part11 b1) Lb aL cL w2 w3 hg3 (by omega) (by omega) hown3 (HATL.out.grows hgA) hnL (blocks_lo hown3 (fun q hq => Nat.lt_of_lt_of_le (hltL q hq) hg2.size))).mono ?_
 rintro e w4 ⟨v4,rfl,hown4,hg4⟩
 obtain ⟨P2,hP2⟩ : ∃ P,P = part11 b1 ++ part11 Lb:=⟨_,rfl⟩
 rw [← hP2] at hown4
 have hp2 : P2.length ≤ 200000008:=by rw [hP2,List.length_append];unfold part11 at *;rw [List.length_append,leB_len] at *;rw [List.length_append,leB_len];omega
 have HP2:=Lib.hid hP2
 clear hP2 hown3 hgA hat2 hn2
 have hgB:=hg2.tr hg4
 have i1a:=hgB.cell i1
 go_wp2_with fail
 refine (CI w4 hgB).out.mono ?_
 rintro e w5 ⟨v5,rfl,hown5,hg5⟩
 obtain ⟨a5,c5,rfl,_,_,hat5⟩:=hown5.at_ byteLay.len
 have hn5:=owns_none2 hown5
 go_wp2_with fail
 refine (part_any v4 P2 b3 a5 c5 w2 w5 (hg4.tr hg5) (by omega) (by omega) (hown4.grows hg5) hat5 hn5 (fun q hq hv => by have h1:=own_lt hown4 _ hv.symm;have h2:=ownBlock_ge hown5 q.block (by rw [hq];rfl);omega)).mono ?_
 rintro e w6 ⟨v6,rfl,hown6,hg6⟩
 obtain ⟨P3,hP3⟩ : ∃ P,P = P2 ++ part11 b3:=⟨_,rfl⟩
 rw [← hP3] at hown6
 have hp3 : P3.length ≤ 400000012:=by rw [hP3,List.length_append];unfold part11;rw [List.length_append,leB_len];omega
 have HP3:=Lib.hid hP3
 clear hP3 hown4 hown5 hgB hat5 hn5 hg5
 have hgC:=hg2.tr hg6
 have d1a:=hgC.cell d1
 go_wp2_with fail
 refine (CD w6 hgC).out.mono ?_
 rintro e w7 ⟨v7,rfl,hown7,hg7⟩
 obtain ⟨a7,c7,rfl,_,_,hat7⟩:=hown7.at_ byteLay.len
 have hn7:=owns_none2 hown7
 go_wp2_with fail
 refine (part_any v6 P3 b4 a7 c7 w2 w7 (hg6.tr hg7) (by omega) (by omega) (hown6.grows hg7) hat7 hn7 (fun q hq hv => by have h1:=own_lt hown6 _ hv.symm;have h2:=ownBlock_ge hown7 q.block (by rw [hq];rfl);omega)).mono ?_
 rintro e w8 ⟨v8,rfl,hown8,hg8⟩
 go_wp2_with fail
 go_ret
 refine ⟨_,rfl, ?_,hg2.tr hg8⟩
 have hfin : P3 ++ part11 b4 = loudE L:=by
  rw [HP3.out,HP2.out,HB1.out,HB3.out,HB4.out,HE.out]
 rw [← hfin]
 exact hown8.base hg2.size
set_option maxHeartbeats 1000000 in
theorem tlen_any (L : List (List UInt8)) (tb : Nat) (w : World) (hat : TrieAt w tb L) :
  Calls Tryz.prog 35 #[.pointer (some ⟨tb,0,none⟩)] w fun e w' => e = .returned (.int .i64 L.length)∧w = w':=by
 obtain ⟨vN,n1,n2⟩:=hat.n
 obtain ⟨aN,cN,rfl,_,_,_⟩:=n2.at_ (enc:=natC) (fun _ => rfl)
 have hlen : (nodeIx L).length = L.length:=by simp [nodeIx]
 rw [hlen] at n1
 clear hat n2 hlen
 go_enter Tryz.func35,Tryz.ntmps35
 go_wp2_with fail
 go_ret
 exact ⟨rfl,rfl⟩
end Go.Proofs.YtepoiefadjoabaaGreatDoor
namespace Go.Proofs.YtepoiefadjoabaaGreatDoor
open Go Go.RowKit
attribute [local go_sem] quietE quietE2
theorem wrapB {x : Nat} (h : x < 4611686018427387904) : IntKind.i64.wrap (x : Int) = x := by simp [IntKind.wrap, IntKind.bits, IntKind.signed]; omega
set_option maxHeartbeats 4000000 in
theorem bnum_any (b : List UInt8) (a : Option Addr) (c : Nat) (w : World) (hb : b.length ≤ 8) (hat : AtCells w a 1 (b.map byteC)) :
  Calls Tryz.prog 171 #[.slice a b.length c] w fun e w' => e = .returned (.int .u64 (numB b))∧w = w':=by
 have HAT:=Lib.hid hat
 clear hat
 go_enter Tryz.func171,Tryz.ntmps171
 go_wp2_with fail
 go_loopw [3,8] (fun n i wr => ∃ k : Nat,k ≤ b.length∧i = .int .i64 k∧n = .int .u64 (numB (b.take k))∧Hid (wr = w)) (fun _ i _ => b.length - (intOf i).toNat)
 case atStart => exact ⟨0,Nat.zero_le _,rfl,rfl,rfl⟩
 case round =>
  obtain ⟨k,hk,rfl,rfl,hw⟩:=hrel
  obtain rfl:=hw.out
  by_cases hlt : k < b.length
  ·obtain ⟨x,hx⟩ : ∃ x,b[k]? = some x:=⟨_,List.getElem?_eq_getElem hlt⟩
   obtain ⟨ab,ao,rfl,hc⟩:=at1 (f:=fun x : UInt8 => Value.int .u8 x.toNat) HAT.out (ne_nil_of_lt hlt)
   have hcx:=hc k x hx
   have htl : (b.take k).length = k:=by rw [List.length_take];omega
   have HT : Hid (numB (b.take k) ||| (x.toNat <<< (8 * k)) % 18446744073709551616 = numB (b.take (k + 1))):=by
    show _ = _
    rw [takeSnoc hx,← numB_or (by rw [htl];omega),htl]
   have hN64 : numB (b.take k) < 18446744073709551616:=numB_le8 (by omega)
   obtain ⟨N,hN⟩ : ∃ N,N = numB (b.take k):=⟨_,rfl⟩
   obtain ⟨v,hv⟩ : ∃ v,v = x.toNat:=⟨_,rfl⟩
   have hv256 : v < 256:=by rw [hv];exact x.toNat_lt
   obtain ⟨S,hS⟩ : ∃ S,S = 8 * k:=⟨_,rfl⟩
   rw [← hN] at hN64 ⊢
   rw [← hv] at hcx
   rw [← hN,← hv,← hS] at HT
   have eS : IntKind.i64.wrap ((8 : Int) * k) = S:=by simp [IntKind.wrap,IntKind.bits,IntKind.signed];omega
   have uv : IntKind.u64.wrap (v : Int) = v:=by simp [IntKind.wrap,IntKind.bits,IntKind.signed];omega
   have hor:=shl_or (x:=N) (v:=v) (S:=S) hN64
   have hS64 : S < 64:=by omega
   have hSm : min S 64 = S:=by omega
   have hki : (k : Int) < b.length:=by omega
   clear hc hx htl hN hv hS
   go_wp2_with fail
   go_roundw
   case rel => exact ⟨k + 1,hlt,by go_num,congrArg (fun t : Nat => Value.int .u64 (t : Int)) HT.out,trivial⟩
   case measure => simp [intOf];omega
  ·obtain rfl : k = b.length:=by omega
   rw [List.take_length]
   go_wp2_with fail
   go_ret
   exact ⟨rfl,rfl⟩
set_option maxHeartbeats 4000000 in
set_option maxRecDepth 100000 in
theorem vget_any (l : List Bool) (vb i : Nat) (w : World) (hl : l.length ≤ 1048576) (hat : VecAt w vb l) :
  Calls Tryz.prog 172 #[.pointer (some ⟨vb,0,none⟩),.int .i64 i] w fun e w' => e = .returned (.bool (bitOf l i))∧w = w':=by
 obtain ⟨vW,h1,h2⟩:=hat.c1
 obtain ⟨aW,cW,rfl,_,_,hatW⟩:=h2.at_ (enc:=n64C) (fun _ => rfl)
 have hwl:=vecWs_len l
 rw [hwl] at h1
 have CL:=Lib.hid (vlen_any l vb w hat)
 have h0 : (0 : Int) ≤ i:=by omega
 by_cases hi : i < l.length
 ·obtain ⟨bW,oW,rfl,hcW⟩:=at1 (f:=fun n : Nat => Value.int .u64 n) hatW (ne_nil_of_lt (k:=0) (by rw [hwl];omega))
  obtain ⟨Q,hQ⟩ : ∃ Q,Q = i / 64:=⟨_,rfl⟩
  obtain ⟨S,hS⟩ : ∃ S,S = i % 64:=⟨_,rfl⟩
  obtain ⟨q,hq⟩ : ∃ q,q = (l.length + 63) / 64:=⟨_,rfl⟩
  have hcx:=hcW Q _ (vecWs_get (by omega))
  have hbit:=vecW_bit l i
  rw [← hQ,← hS] at hbit
  obtain ⟨x,hx⟩ : ∃ x,x = vecW l Q:=⟨_,rfl⟩
  have hx64 : x < 18446744073709551616:=by rw [hx];exact vecW_lt l Q
  rw [← hx] at hcx hbit
  rw [← hq] at h1
  have hQq : Q < q:=by omega
  have hQi : (Q : Int) < q:=by omega
  have eQ : (i : Int) / 64 = Q:=by omega
  have eQt : (i : Int).tdiv 64 = Q:=by rw [Int.tdiv_eq_ediv_of_nonneg (by omega)];omega
  have eS : (i : Int) % 64 = S:=by omega
  have eSt : (i : Int).tmod 64 = S:=by rw [Int.tmod_eq_emod_of_nonneg (by omega)];omega
  obtain ⟨y,hy⟩ : ∃ y,y = x >>> S:=⟨_,rfl⟩
  have hy64 : y < 18446744073709551616:=by rw [hy];exact Nat.lt_of_le_of_lt (Nat.shiftRight_le _ _) hx64
  have hsh : (x : Int) / 2 ^ S = (y : Nat):=by rw [hy];exact int_shr x S
  have hand0:=u64_and_nat y 1 hy64 (by decide)
  rw [← hy] at hbit
  rw [hbit] at hand0
  have hand : bits .and .u64 (y : Int) 1 = ((if bitOf l i then 1 else 0 : Nat) : Int):=hand0
  clear hand0
  have hil : (i : Int) < l.length:=by omega
  have hS64 : S < 64:=by omega
  have hSm : min S 64 = S:=by omega
  generalize bitOf l i = bt at hand ⊢
  clear hat h2 hatW hcW hwl hQ hS hq hx hy hbit
  go_enter Tryz.func172,Tryz.ntmps172
  go_wp2_with fail
  refine CL.out.mono ?_
  rintro e w2 ⟨rfl,rfl⟩
  cases bt with
  | true =>
   simp only [if_true] at hand
   go_wp2_with fail
   go_ret
   exact ⟨rfl,rfl⟩
  | false =>
   simp only [Bool.false_eq_true,if_false] at hand
   go_wp2_with fail
   go_ret
   exact ⟨rfl,rfl⟩
 ·have hil : ¬ (i : Int) < l.length:=by omega
  rw [bitOf_end (by omega)]
  clear hat h2 hatW hwl
  go_enter Tryz.func172,Tryz.ntmps172
  go_wp2_with fail
  refine CL.out.mono ?_
  rintro e w2 ⟨rfl,rfl⟩
  go_wp2_with fail
  go_ret
  exact ⟨rfl,rfl⟩
theorem vec_cut {l : List Bool} {w : World} {bb bo bc k : Nat} (hat : AtCells w (some ⟨bb, bo, none⟩) 1 ((vecE l).map byteC)) (hbc : (vecE l).length ≤ bc) (hk : k < (l.length + 63) / 64) :
  ∃ a',(if bc = 4 + 8 * k then some ⟨bb,bo,none⟩ else some ⟨bb,bo + (4 + 8 * k),none⟩) = a'∧AtCells w a' 1 ((leB 8 (vecW l k)).map byteC):=by
 have hel:=vecE_len l
 obtain ⟨a',h1,h2,_⟩:=cut_val (l:=4 + 8 * k) (h:=4 + 8 * k + 8) hat (fun h => by cases h) (by omega) (by omega) hbc
 refine ⟨a', ?_, ?_⟩
 ·rw [← h1,Option.map_some,add_zero_off]
 ·rw [List.drop_take,show 4 + 8 * k + 8 - (4 + 8 * k) = 8 by omega,vecE_word hk] at h2
  exact h2
theorem vec_head {l : List Bool} {w : World} {bb bo : Nat} (hat : AtCells w (some ⟨bb, bo, none⟩) 1 ((vecE l).map byteC)) : AtCells w (some ⟨bb, bo, none⟩) 1 ((leB 4 l.length).map byteC) := fun _ => by
 have hel:=vecE_len l
 obtain ⟨b,o,h1,h2⟩:=hat (by intro h;have:=congrArg List.length h;rw [List.length_map,List.length_nil] at this;omega)
 refine ⟨b,o,h1,fun i row hi j v hj => h2 i row ?_ j v hj⟩
 rw [← vecE_head,List.getElem?_map,List.getElem?_take] at hi
 rw [List.getElem?_map]
 split at hi
 ·exact hi
 ·cases hi
theorem numB_word (l : List Bool) (k : Nat) : numB (leB 8 (vecW l k)) = vecW l k := by
 rw [numB_leB]
 exact Nat.mod_eq_of_lt (vecW_lt l k)
theorem numB_head {l : List Bool} (hl : l.length ≤ 1048576) : numB (leB 4 l.length) = l.length := by
 rw [numB_leB]
 exact Nat.mod_eq_of_lt (by rw [show (256 : Nat) ^ 4 = 4294967296 by decide];omega)
set_option maxHeartbeats 8000000 in
set_option maxRecDepth 100000 in
theorem vdec_any (l : List Bool) (ba : Option Addr) (bc : Nat) (w : World) (hl : l.length ≤ 1048576) (hbc : (vecE l).length ≤ bc) (hat : AtCells w ba 1 ((vecE l).map byteC)) :
  Calls Tryz.prog 113 #[.slice ba (vecE l).length bc] w fun e w' => ∃ vb,e = .returned (.tuple #[.pointer (some ⟨vb,0,none⟩),.int .i64 0])∧VecAt w' vb l∧Grows w w':=by
 have hel:=vecE_len l
 obtain ⟨bb,bo,rfl,_⟩:=at1 (f:=fun x : UInt8 => Value.int .u8 x.toNat) hat (List.ne_nil_of_length_pos (by omega))
 have CH : ∀ u c,Grows w u → Hid (Calls Tryz.prog 171 #[.slice (some ⟨bb,bo,none⟩) 4 c] u fun e w' => e = .returned (.int .u64 l.length)∧u = w'):=fun u c hu => by
  have h:=bnum_any (leB 4 l.length) _ c u (by rw [leB_len];decide) ((vec_head hat).grows hu)
  rw [leB_len,numB_head hl] at h
  exact h
 obtain ⟨N,hN⟩ : ∃ N,N = (vecE l).length:=⟨_,rfl⟩
 rw [← hN] at hel hbc ⊢
 have HN:=Lib.hid hN
 have HEL:=Lib.hid hel
 have HAT:=Lib.hid hat
 obtain ⟨n,hn⟩ : ∃ n,n = l.length:=⟨_,rfl⟩
 have HNL:=Lib.hid hn
 rw [← hn] at CH hl hel
 obtain ⟨q,hq⟩ : ∃ q,q = (n + 63) / 64:=⟨_,rfl⟩
 have HQ:=Lib.hid hq
 have hqb : q ≤ 16384:=by omega
 have hN4 : ¬ (N : Int) < 4:=by omega
 have hN0 : 4 ≤ N:=by omega
 have hN8 : ¬ (N : Int) < 4 + 8 * (q : Int):=by omega
 have hnb : ¬ (1048576 : Int) < n:=by omega
 have wn : IntKind.i64.wrap (n : Int) = n:=wrapB (by omega)
 have w63 : IntKind.i64.wrap ((n : Int) + 63) = (n : Int) + 63:=by have:=wrapB (x:=n + 63) (by omega);rw [Int.natCast_add] at this;exact this
 have e63 : ((n : Int) + 63) / 64 = q:=by omega
 have e63t : ((n : Int) + 63).tdiv 64 = q:=by rw [Int.tdiv_eq_ediv_of_nonneg (by omega)];exact e63
 have w8q : IntKind.i64.wrap (8 * (q : Int)) = 8 * (q : Int):=by have:=wrapB (x:=8 * q) (by omega);rw [Int.natCast_mul] at this;exact this
 have w4q : IntKind.i64.wrap (4 + 8 * (q : Int)) = 4 + 8 * (q : Int):=by have:=wrapB (x:=4 + 8 * q) (by omega);rw [Int.natCast_add,Int.natCast_mul] at this;exact this
 clear hat hN hn hq hel
 obtain ⟨W1,hW1⟩ : ∃ W1,W1 = w.alloc (.cells #[.int .i64 n,.slice none 0 0,.slice none 0 0] 196):=⟨_,rfl⟩
 obtain ⟨pb,hpb⟩ : ∃ q,q = w.heap.size:=⟨_,rfl⟩
 have hbx:=fun j u h => cell_box w #[.int .i64 n,.slice none 0 0,.slice none 0 0] 196 (0,0) j u h
 rw [← hW1,← hpb] at hbx
 have g1 : Grows w W1:=by rw [hW1];exact Grows.alloc _ _
 have c0:=hbx 0 _ rfl
 have c1:=hbx 1 _ rfl
 have c2:=hbx 2 _ rfl
 have f1 : W1.frozen? ⟨pb,1,none⟩ = false:=by rw [hW1,hpb];exact frozen_of_row _ _ _ _ _ (heap_alloc_new w _)
 have f2 : W1.frozen? ⟨pb,2,none⟩ = false:=by rw [hW1,hpb];exact frozen_of_row _ _ _ _ _ (heap_alloc_new w _)
 have hs1 : W1.heap.size = pb + 1:=by rw [hW1,hpb];simp
 have HPB:=Lib.hid hpb
 clear hbx
 go_enter Tryz.func113,Tryz.ntmps113
 go_wp2_with fail
 refine (CH _ _ (Grows.refl _)).out.mono ?_
 rintro e w2 ⟨rfl,rfl⟩
 go_wp2_with fail
 refine (CH _ _ (Grows.refl _)).out.mono ?_
 rintro e w3 ⟨rfl,rfl⟩
 go_wp2_with fail
 try rw [← hW1]
 try rw [← hpb]
 clear hW1 hpb CH
 go_loopw [35] (fun i wr => ∃ (k : Nat) (vW : Value),k ≤ q∧i = .int .i64 k∧wr.cell? ⟨pb,0,none⟩ = some (.int .i64 n)∧wr.cell? ⟨pb,1,none⟩ = some vW∧wr.cell? ⟨pb,2,none⟩ = some (.slice none 0 0)∧wr.frozen? ⟨pb,1,none⟩ = false∧wr.frozen? ⟨pb,2,none⟩ = false∧Owns wr (pb + 1) 116 1 n64C vW ((vecWs l).take k)∧Hid (Grows w wr)) (fun i _ => q - (intOf i).toNat)
 case atStart => exact ⟨0,_,Nat.zero_le _,rfl,c0,c1,c2,f1,f2,Owns.nil _ _ _ _ _,g1⟩
 case round =>
  clear c0 c1 c2 f1 f2 g1
  obtain ⟨k,vW,hk,rfl,c0,c1,c2,f1,f2,hown,hg⟩:=hrel
  by_cases hlt : k < q
  ·have hki : (k : Int) < q:=by omega
   have hx:=vecWs_get (l:=l) (k:=k) (by have:=HQ.out;have:=HNL.out;omega)
   have HT:=Lib.hid (takeSnoc hx)
   have htl : ((vecWs l).take k).length = k:=by rw [List.length_take,vecWs_len];have:=HQ.out;have:=HNL.out;omega
   obtain ⟨aW,cW,rfl,_,_,_⟩:=hown.at_ (enc:=n64C) (fun _ => rfl)
   rw [htl] at c1 hown
   obtain ⟨a5,hif,ha5⟩:=vec_cut HAT.out (by rw [← HN.out];exact hbc) (show k < (l.length + 63) / 64 by have:=HQ.out;have:=HNL.out;omega)
   have CN : ∀ x : Ext (EB (pb + 1)) wr.drew,Calls Tryz.prog 171 #[.slice a5 8 (bc - (4 + 8 * k))] x.u fun e w' => e = .returned (.int .u64 (vecW l k))∧x.u = w':=fun x => by
    have h:=bnum_any (leB 8 (vecW l k)) a5 (bc - (4 + 8 * k)) x.u (by rw [leB_len];decide) (ha5.grows (EB.grows hg.out.dr (x.h.mono (by have:=HPB.out;omega))))
    rw [leB_len,numB_word] at h
    exact h
   obtain ⟨S,hS⟩ : ∃ S,S = 4 + 8 * k:=⟨_,rfl⟩
   obtain ⟨T,hT⟩ : ∃ T,T = 12 + 8 * k:=⟨_,rfl⟩
   rw [← hS] at hif CN
   have w8 : IntKind.i64.wrap (8 * (k : Int)) = 8 * (k : Int):=by have:=wrapB (x:=8 * k) (by omega);rw [Int.natCast_mul] at this;exact this
   have w4 : IntKind.i64.wrap (4 + 8 * (k : Int)) = S:=by have:=wrapB (x:=S) (by omega);rw [← this];congr 1;omega
   have w12 : IntKind.i64.wrap (12 + 8 * (k : Int)) = T:=by have:=wrapB (x:=T) (by omega);rw [← this];congr 1;omega
   have hTN : T ≤ N:=by have:=HEL.out;have:=HQ.out;have:=HNL.out;omega
   have hTS : T - S = 8:=by omega
   have hST : (S : Int) ≤ T:=by omega
   have hTb : (T : Int) ≤ bc:=by omega
   clear hS hT
   obtain ⟨y,hy⟩ : ∃ y,y = vecW l k:=⟨_,rfl⟩
   rw [← hy] at CN HT
   have hpl : pb < wr.heap.size:=World.block_lt_of_cell? wr _ c0
   have z1 : ∀ x : Ext (EB (pb + 1)) wr.drew,x.u.cell? ⟨pb,1,none⟩ = some (.slice aW k cW):=ext_cellB (Nat.lt_succ_self _) ((Grows.drew wr).cell c1)
   clear hx hy ha5
   go_wp2_with fail
   refine t_tail (EB (pb + 1)) 16 [(0,false),(1,false),(2,false),(3,false),(4,false),(5,false),(6,false),(7,false),(8,false),(9,false),(10,false),(11,false),(12,false),(13,false),(14,true),(15,true)] (EB.refl (pb + 1)) (EB.trans (pb + 1)) (by kernel_rfl) (by kernel_rfl) (fun d _ _ _ _ h => by cases d <;> exact h) ?_
   iterate 13 (refine t_quiet rfl (fun K hK => ?_);go_simp;refine hK _ ?_;clear hK K)
   refine t_quiet rfl (fun K hK => ?_)
   go_simp
   apply Exists.intro
   refine ⟨fun x => ?_,hK _ ?_⟩
   ·go_at_call 171;exact calls_same (CN x)
   clear hK K
   clear z1
   refine t_late rfl rfl (fun K hK => ?_)
   go_simp
   refine ⟨EB.of (Grows.alloc _ _) (show pb + 1 ≤ wr.heap.size by omega),hK _ _ ?_⟩
   clear hK K
   refine t_late rfl rfl (fun K hK => ?_)
   refine app_late5 n64Lay _ _ rfl (pb + 1) _ ((vecWs l).take k) y rfl ((hown.grows (Grows.drew wr)).grows (Grows.alloc _ _)) _ 1 rfl (src64 (box1 _ _ _)) (by rw [htl];omega) (by simp;omega) ?_
   intro v5 w5 hown5 hk5 hf5
   have hgw5:=Grows.trans _ _ _ (Grows.drew wr) (Grows.alloc wr.drew (.cells #[.int .u64 y] 116))
   have hnr : some pb ≠ (Value.slice aW k cW).ownBlock:=fun h => by
    have:=ownBlock_ge hown _ h.symm
    omega
   have hE5:=EB.own ((hown.grows (Grows.drew wr)).grows (Grows.alloc _ _)) hk5 (by simp;omega)
   have e0:=hk5.cell (hgw5.cell c0) hnr
   have e1:=hk5.cell (hgw5.cell c1) hnr
   have e2:=hk5.cell (hgw5.cell c2) hnr
   have ef1 : w5.frozen? ⟨pb,1,none⟩ = false:=(World.frozen?_of_block (a:=⟨pb,1,none⟩) (hk5.block pb (by simp;omega) hnr)).trans ((hgw5.froz (by show pb < _;omega)).trans f1)
   have ef2 : w5.frozen? ⟨pb,2,none⟩ = false:=(World.frozen?_of_block (a:=⟨pb,2,none⟩) (hk5.block pb (by simp;omega) hnr)).trans ((hgw5.froz (by show pb < _;omega)).trans f2)
   have hgg5 : Hid (Grows w w5):=EB.grows (hg.out.tr hgw5) (hE5.mono (by have:=HPB.out;omega))
   refine ⟨hE5,hK _ _ ?_⟩
   clear hK K
   refine t_end ?_
   simp only [List.drop_succ_cons,List.drop_zero]
   rw [← HT.out] at hown5
   have htl5 : ((vecWs l).take (k + 1)).length = k + 1:=by rw [List.length_take,vecWs_len];have:=HQ.out;have:=HNL.out;omega
   obtain ⟨a6,c6,rfl,_,_,_⟩:=hown5.at_ (enc:=n64C) (fun _ => rfl)
   rw [htl5] at hown5 ⊢
   clear hk5 hf5 hgw5 hE5 hown c0 c1 c2 f1 f2 CN hg
   go_wp2_with fail
   go_roundw
   case rel => exact ⟨k + 1,_,hlt,by go_num,(World.cell?_setCell_other _ _ _ _ (fun h => by cases h)).trans e0,World.cell?_setCell_same _ _ _ e1,(World.cell?_setCell_other _ _ _ _ (fun h => by cases h)).trans e2,(World.frozen?_setCell _ _ _ _).trans ef1,(World.frozen?_setCell _ _ _ _).trans ef2,owns_setLo hown5 (p:=⟨pb,1,none⟩) (Nat.lt_succ_self _) _,hgg5.out.set (show w.heap.size ≤ pb by have:=HPB.out;omega) _⟩
   case measure => simp [intOf];omega
  ·have hki : ¬ (k : Int) < q:=by omega
   have hke : k = q:=by omega
   rw [hke,List.take_of_length_le (by rw [vecWs_len];have:=HQ.out;have:=HNL.out;omega)] at hown
   clear hke
   obtain ⟨aW,cW,rfl,_,_,hatW⟩:=hown.at_ (enc:=n64C) (fun _ => rfl)
   have hwl : (vecWs l).length = q:=by rw [vecWs_len];have:=HQ.out;have:=HNL.out;omega
   have CC:=count_any l pb (pb + 1) _ wr (by have:=HNL.out;omega) (fun r hr => by have:=ownBlock_ge hown r hr;omega) c1 c2 f2 hown
   rw [hwl] at c1
   go_wp2_with fail
   refine CC.mono ?_
   rintro e w5 ⟨rfl,⟨vC,g2,hownC⟩,hj,hgb⟩
   have hvl5 : pb < wr.heap.size:=World.block_lt_of_cell? wr _ c0
   have heb:=grownBy_EB hgb hvl5
   have d0:=(hj 0 (by decide)).trans c0
   have d1:=(hj 1 (by decide)).trans c1
   have hownW:=owns_keep (v:=.slice (some ⟨pb,0,none⟩) 0 0) hown hgb (fun r h1 h2 => by
    have a1 : pb = r:=Option.some.inj h1
    have:=ownBlock_ge hown r h2
    omega)
   have hg5 : Grows w w5:=EB.grows hg.out (heb.mono (by have:=HPB.out;omega))
   have HV : Hid (VecAt w5 pb l):=⟨by rw [← HNL.out];exact d0,⟨_,by rw [hwl];exact d1,hownW.base (Nat.zero_le _)⟩,vC,g2,hownC.base (Nat.zero_le _)⟩
   have hl2 : l.length ≤ 1048576:=by have:=HNL.out;omega
   have CE:=fun (W : World) (hW : Grows w5 W) => Lib.hid (venc_any l pb W hl2 (HV.out.grows hW))
   have HATW : Hid (AtCells w5 aW 1 ((vecWs l).map n64C)):=(owns_atc (fun _ => rfl) hownW)
   have z0 : ∀ x : Ext Grows w5.drew,x.u.cell? ⟨pb,0,none⟩ = some (.int .i64 n):=ext_cell ((Grows.drew w5).cell d0)
   have z1 : ∀ x : Ext Grows w5.drew,x.u.cell? ⟨pb,1,none⟩ = some (.slice aW q cW):=ext_cell ((Grows.drew w5).cell d1)
   have HG5:=Lib.hid hg5
   obtain ⟨R,hR⟩ : ∃ R,R = n % 64:=⟨_,rfl⟩
   have eR : (n : Int) % 64 = R:=by omega
   have eRt : (n : Int).tmod 64 = R:=by rw [Int.tmod_eq_emod_of_nonneg (by omega)];exact eR
   have HR:=Lib.hid hR
   clear CC c0 c1 c2 f1 f2 hown hatW hj hgb heb hownW hownC g2 hvl5 hR hg hg5 d0 d1 hwl
   by_cases hR0 : R = 0
   ·subst hR0
    go_wp2_with fail
    refine t_region (Grows) [(0,false),(1,false),(2,false),(3,false),(4,false),(5,false),(6,false),(7,false),(8,false),(9,false),(10,false),(11,false),(12,false),(13,false),(14,false),(15,false),(16,false),(17,false),(18,false),(19,false),(20,false),(21,false),(22,false),(23,false),(24,false),(26,false),(25,true),(27,true),(28,false),(29,false)] Grows.refl Grows.trans (by kernel_rfl) (by kernel_rfl) (fun d _ _ _ _ h => by cases d <;> exact h) ?_
    iterate 26 (refine t_quiet rfl (fun K hK => ?_);go_simp;refine hK _ ?_;clear hK K)
    clear z0 z1
    refine t_late rfl rfl (fun K hK => ?_)
    go_simp
    refine ((CE _ (Grows.drew w5)).out).mono ?_
    rintro e w8 ⟨v8,rfl,hv8,hg8⟩
    refine ⟨hg8,hK _ _ ?_⟩
    clear hK K
    obtain ⟨a8,c8,rfl,_,_,hat8⟩:=hv8.at_ byteLay.len
    have hgw8 : Grows w w8:=HG5.out.dr.tr hg8
    have CQ:=Lib.hid (bequal_any (vecE l) (vecE l) a8 (some ⟨bb,bo,none⟩) c8 bc w8 hat8 (HAT.out.grows hgw8))
    rw [← HN.out] at CQ ⊢
    simp only [decide_true] at CQ
    have HV8:=Lib.hid (HV.out.grows ((Grows.drew w5).tr hg8))
    clear hv8 hat8 hg8
    refine t_late rfl rfl (fun K hK => ?_)
    go_simp
    refine (CQ.out).mono ?_
    rintro e w9 ⟨rfl,rfl⟩
    refine ⟨Grows.refl _,hK _ _ ?_⟩
    clear hK K
    iterate 2 (refine t_quiet rfl (fun K hK => ?_);go_simp;refine hK _ ?_;clear hK K)
    refine t_end ?_
    go_wp2
    go_ret2
    exact ⟨pb,rfl,HV8.out,hgw8⟩
   ·have hRi : ((R : Int) == 0) = false:=by simp;omega
    have hRn : ((R : Int) != 0) = true:=by simp;omega
    have hq0 : 0 < q:=by have:=HQ.out;have:=HR.out;omega
    obtain ⟨Q1,hQ1⟩ : ∃ Q1,Q1 = q - 1:=⟨_,rfl⟩
    obtain ⟨bW,oW,rfl,hcW⟩:=at1 (f:=fun n : Nat => Value.int .u64 n) HATW.out (ne_nil_of_lt (k:=0) (by rw [vecWs_len];have:=HQ.out;have:=HNL.out;omega))
    have hcx:=hcW Q1 _ (vecWs_get (by have:=HQ.out;have:=HNL.out;omega))
    have htop : vecW l Q1 / 2 ^ R = 0:=by
     have h:=vecW_top (l:=l) (q:=Q1) (by have:=HQ.out;have:=HNL.out;omega) (by have:=HQ.out;have:=HNL.out;have:=HR.out;omega) (by have:=HNL.out;have:=HR.out;omega)
     rw [← HNL.out,← HR.out] at h;exact h
    obtain ⟨x,hx⟩ : ∃ x,x = vecW l Q1:=⟨_,rfl⟩
    rw [← hx] at hcx htop
    have hx64 : x < 18446744073709551616:=by rw [hx];exact vecW_lt l Q1
    have hsh : (x : Int) / 2 ^ R = 0:=by
     have : (x : Int) / 2 ^ R = ((x / 2 ^ R : Nat) : Int):=by push_cast;rfl
     rw [this,htop];rfl
    have wQ1 : IntKind.i64.wrap ((q : Int) - 1) = Q1:=by have:=wrapB (x:=Q1) (by omega);rw [← this];congr 1;omega
    have hQq : Q1 < q:=by omega
    have hQi : (Q1 : Int) < q:=by omega
    have hR64 : R < 64:=by have:=HR.out;omega
    have hRm : min R 64 = R:=by omega
    have z2 : ∀ x' : Ext Grows w5.drew,x'.u.cell? ⟨bW,oW + Q1,none⟩ = some (.int .u64 x):=ext_cell ((Grows.drew w5).cell hcx)
    clear hcW hcx hx htop HATW hQ1 hq0
    go_wp2_with fail
    refine t_region (Grows) [(0,false),(1,false),(2,false),(3,false),(4,false),(5,false),(6,false),(7,false),(8,false),(9,false),(10,false),(11,false),(12,false),(13,false),(14,false),(15,false),(16,false),(17,false),(18,false),(19,false),(20,false),(21,false),(22,false),(23,false),(24,false),(26,false),(25,true),(27,true),(28,false),(29,false)] Grows.refl Grows.trans (by kernel_rfl) (by kernel_rfl) (fun d _ _ _ _ h => by cases d <;> exact h) ?_
    iterate 26 (refine t_quiet rfl (fun K hK => ?_);go_simp;refine hK _ ?_;clear hK K)
    clear z0 z1 z2
    refine t_late rfl rfl (fun K hK => ?_)
    go_simp
    refine ((CE _ (Grows.drew w5)).out).mono ?_
    rintro e w8 ⟨v8,rfl,hv8,hg8⟩
    refine ⟨hg8,hK _ _ ?_⟩
    clear hK K
    obtain ⟨a8,c8,rfl,_,_,hat8⟩:=hv8.at_ byteLay.len
    have hgw8 : Grows w w8:=HG5.out.dr.tr hg8
    have CQ:=Lib.hid (bequal_any (vecE l) (vecE l) a8 (some ⟨bb,bo,none⟩) c8 bc w8 hat8 (HAT.out.grows hgw8))
    rw [← HN.out] at CQ ⊢
    simp only [decide_true] at CQ
    have HV8:=Lib.hid (HV.out.grows ((Grows.drew w5).tr hg8))
    clear hv8 hat8 hg8
    refine t_late rfl rfl (fun K hK => ?_)
    go_simp
    refine (CQ.out).mono ?_
    rintro e w9 ⟨rfl,rfl⟩
    refine ⟨Grows.refl _,hK _ _ ?_⟩
    clear hK K
    iterate 2 (refine t_quiet rfl (fun K hK => ?_);go_simp;refine hK _ ?_;clear hK K)
    refine t_end ?_
    go_wp2
    go_ret2
    exact ⟨pb,rfl,HV8.out,hgw8⟩
end Go.Proofs.YtepoiefadjoabaaGreatDoor
