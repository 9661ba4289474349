/- The texts PkD FindS NumL R18b R18c R18d Bord, one behind the other. -/
import Derived.Test.YtepoiefadjoabaaGreatDoorH36
import Derived.Test.YtepoiefadjoabaaGreatDoorH40
import Derived.Test.YtepoiefadjoabaaGreatDoorH38
import Derived.Test.YtepoiefadjoabaaGreatDoorH33
import Derived.Test.YtepoiefadjoabaaGreatDoorH39
import Derived.Test.YtepoiefadjoabaaGreatDoorH24
import Derived.Test.YtepoiefadjoabaaGreatDoorH13
import Derived.Test.YtepoiefadjoabaaGreatDoorH23
import Derived.Test.YtepoiefadjoabaaGreatDoorH32
import Derived.Test.YtepoiefadjoabaaGreatDoorH21
import Derived.Test.YtepoiefadjoabaaGreatDoorH35
import Derived.Test.YtepoiefadjoabaaGreatDoorH27
import Derived.Test.YtepoiefadjoabaaGreatDoorH6
import Derived.Shelf.GgSortFunc.Compose
namespace Go.Proofs.YtepoiefadjoabaaGreatDoor
open Go Go.RowKit
attribute [local go_sem] quietE quietE2
set_option maxHeartbeats 8000000 in
set_option maxRecDepth 100000 in
theorem pdec_any (l : List Nat) (ba : Option Addr) (bc : Nat) (w : World) (hl : l.length ≤ 1048576) (hn : ∀ n ∈ l, n < 18446744073709551616) (hbc : (packE l).length ≤ bc) (hnc : ba = none → bc = 0) (hat : AtCells w ba 1 ((packE l).map byteC)) :
  Calls Tryz.prog 64 #[.slice ba (packE l).length bc] w fun e w' => ∃ pb,e = .returned (.tuple #[.pointer (some ⟨pb,0,none⟩),.int .i64 0])∧PkAt w' pb l∧Grows w w':=by
 have hW64 : widL l ≤ 64:=widL_le.2 hn
 have hlen:=packE_len l
 obtain ⟨b0,b1,b2,b3,hhead,h0,h1,h2,h3,hnum⟩:=packE_head l
 replace hnum:=hnum (by omega)
 obtain ⟨W,hW⟩ : ∃ W,W = widL l:=⟨_,rfl⟩
 obtain ⟨n,hnl⟩ : ∃ n,n = l.length:=⟨_,rfl⟩
 obtain ⟨b,hb⟩ : ∃ b,b = packE l:=⟨_,rfl⟩
 rw [← hb] at hhead hlen hbc hat ⊢
 rw [← hW] at hhead hlen hW64
 rw [← hnl] at hlen hl hnum
 obtain ⟨M,hM⟩ : ∃ M,M = (n * W + 7) / 8:=⟨_,rfl⟩
 rw [← hM] at hlen
 have HAT:=Lib.hid hat
 have HNC:=Lib.hid hnc
 have HB:=Lib.hid hb
 have HN:=Lib.hid hn
 have HW:=Lib.hid hW
 have HNL:=Lib.hid hnl
 have HHEAD:=Lib.hid hhead
 have HM:=Lib.hid hM
 obtain ⟨bb,bo,rfl,hc⟩:=at1 (f:=fun x : UInt8 => Value.int .u8 x.toNat) hat (by rw [hhead];simp)
 have tN : ∀ x : Nat,x < 256 → ((UInt8.ofNat x).toNat : Int) = x:=fun x hx => by simp;omega
 have q0 : w.cell? ⟨bb,bo,none⟩ = some (.int .u8 b0):=by have:=hc 0 (UInt8.ofNat b0) (by rw [hhead];rfl);rw [tN _ h0] at this;exact this
 have q1 : w.cell? ⟨bb,bo + 1,none⟩ = some (.int .u8 b1):=by have:=hc 1 (UInt8.ofNat b1) (by rw [hhead];rfl);rw [tN _ h1] at this;exact this
 have q2 : w.cell? ⟨bb,bo + 2,none⟩ = some (.int .u8 b2):=by have:=hc 2 (UInt8.ofNat b2) (by rw [hhead];rfl);rw [tN _ h2] at this;exact this
 have q3 : w.cell? ⟨bb,bo + 3,none⟩ = some (.int .u8 b3):=by have:=hc 3 (UInt8.ofNat b3) (by rw [hhead];rfl);rw [tN _ h3] at this;exact this
 have q4 : w.cell? ⟨bb,bo + 4,none⟩ = some (.int .u8 W):=by have:=hc 4 (UInt8.ofNat W) (by rw [hhead];rfl);rw [tN _ (by omega)] at this;exact this
 have z0 : ∀ x : Ext Grows w.drew,x.u.cell? ⟨bb,bo,none⟩ = some (.int .u8 b0):=ext_cell ((Grows.drew w).cell q0)
 have z1 : ∀ x : Ext Grows w.drew,x.u.cell? ⟨bb,bo + 1,none⟩ = some (.int .u8 b1):=ext_cell ((Grows.drew w).cell q1)
 have z2 : ∀ x : Ext Grows w.drew,x.u.cell? ⟨bb,bo + 2,none⟩ = some (.int .u8 b2):=ext_cell ((Grows.drew w).cell q2)
 have z3 : ∀ x : Ext Grows w.drew,x.u.cell? ⟨bb,bo + 3,none⟩ = some (.int .u8 b3):=ext_cell ((Grows.drew w).cell q3)
 have z4 : ∀ x : Ext Grows w.drew,x.u.cell? ⟨bb,bo + 4,none⟩ = some (.int .u8 W):=ext_cell ((Grows.drew w).cell q4)
 obtain ⟨N,hN⟩ : ∃ N,N = b.length:=⟨_,rfl⟩
 rw [← hN] at hlen hbc ⊢
 have HN2:=Lib.hid hN
 have HLEN:=Lib.hid hlen
 have hl5 : ¬ (N : Int) < 5:=by omega
 have i0 : 0 < N:=by omega
 have i1 : (1 : Int) < N:=by omega
 have i2 : (2 : Int) < N:=by omega
 have i3 : (3 : Int) < N:=by omega
 have i4 : (4 : Int) < N:=by omega
 have wi : ∀ x : Nat,x < 256 → IntKind.i64.wrap (x : Int) = x:=fun x hx => by simp [IntKind.wrap,IntKind.bits,IntKind.signed];omega
 have w0:=wi b0 h0
 have w1:=wi b1 h1
 have w2:=wi b2 h2
 have w3:=wi b3 h3
 have wW:=wi W (by omega)
 obtain ⟨c1,c2,c3,s1,s2,m1,m2,m3,o1,o2,o3⟩:=four_ex h0 h1 h2 h3 hnum
 clear wi hnum hN hlen hat hnc hb hn hW hnl hhead hM hc tN q0 q1 q2 q3 q4
 go_enter Tryz.func64,Tryz.ntmps64
 go_wp2_with fail
 refine t_region (Grows) [(0,false),(1,false),(2,false),(3,false),(4,false),(5,false),(6,false),(7,false),(8,false),(9,false),(10,false),(11,false),(12,false),(13,false),(14,false),(15,false),(16,false),(17,false),(18,false),(19,false),(20,false),(21,false),(22,false),(23,false),(24,false),(25,false),(26,false),(27,true),(28,false)] Grows.refl Grows.trans (by kernel_rfl) (by kernel_rfl) (fun d _ _ _ _ h => by cases d <;> exact h) ?_
 iterate 27 (refine t_quiet rfl (fun K hK => ?_);go_simp;refine hK _ ?_;clear hK K)
 refine t_late rfl rfl (fun K hK => ?_)
 go_simp
 refine ⟨Grows.alloc _ _,hK _ _ ?_⟩
 clear hK K z0 z1 z2 z3 z4
 iterate 1 (refine t_quiet rfl (fun K hK => ?_);go_simp;refine hK _ ?_;clear hK K)
 refine t_end ?_
 obtain ⟨pb,hpb⟩ : ∃ q,q = w.heap.size:=⟨_,rfl⟩
 obtain ⟨WB,hWB⟩ : ∃ WB,WB = (w.alloc (.cells #[.int .i64 n,.int .i64 W,.slice none 0 0] 183)).drew:=⟨_,rfl⟩
 have hgB : Grows w WB:=by rw [hWB];exact (Grows.alloc w _).dr
 obtain ⟨bxc,bxf⟩:=box_cells2 (w:=w) (cs:=#[.int .i64 n,.int .i64 W,.slice none 0 0]) (t:=183) (w':=WB) (by rw [hWB];exact Grows.drew _)
 rw [← hpb] at bxc bxf
 have g0:=bxc 0 _ rfl
 have g1:=bxc 1 _ rfl
 have g2:=bxc 2 _ rfl
 have gf:=bxf 2
 have hsz : WB.heap.size = pb + 1:=by rw [hWB,hpb];show (w.heap.push _).size = _;simp
 rw [← hWB]
 rw [← hpb]
 have HPB:=Lib.hid hpb
 have HGB:=Lib.hid hgB
 have HSZ:=Lib.hid hsz
 clear bxc bxf hWB w0 w1 w2 w3 wW o1 o2 o3 m1 m2 m3 h0 h1 h2 h3 hl5 i0 i1 i2 i3 i4 hpb hgB hsz
 have hLW : n * W ≤ 1048576 * 64:=Nat.mul_le_mul hl hW64
 obtain ⟨MM,hMM⟩ : ∃ MM,MM = n * W:=⟨_,rfl⟩
 have HMM:=Lib.hid hMM
 have hMb : MM ≤ 1048576 * 64:=by rw [hMM];exact hLW
 have wM : IntKind.i64.wrap ((n : Int) * W) = MM:=by
  have h1 : (n : Int) * W = MM:=by rw [hMM];push_cast;rfl
  rw [h1];exact wrap_nat (by omega)
 have hM8 : M = (MM + 7) / 8:=by rw [HM.out,hMM]
 have wM7 : IntKind.i64.wrap ((MM : Int) + 7) = (MM : Int) + 7:=by have:=wrap_nat (x:=MM + 7) (by omega);rw [Int.natCast_add] at this;exact this
 have e7 : ((MM : Int) + 7) / 8 = M:=by omega
 have e7t : ((MM : Int) + 7).tdiv 8 = M:=by rw [Int.tdiv_eq_ediv_of_nonneg (by omega)];exact e7
 have wM8 : IntKind.i64.wrap (M : Int) = M:=wrap_nat (by omega)
 have wM5 : IntKind.i64.wrap (5 + (M : Int)) = 5 + (M : Int):=by have:=wrap_nat (x:=5 + M) (by omega);rw [Int.natCast_add] at this;exact this
 have hNe : ((N : Int) != 5 + (M : Int)) = false:=by have:=HLEN.out;simp;omega
 have hn1 : ¬ (1048576 : Int) < n:=by omega
 have hw1 : ¬ (64 : Int) < W:=by omega
 have z0 : ∀ y : Ext Grows WB.drew,y.u.cell? ⟨pb,0,none⟩ = some (.int .i64 n):=ext_cell ((Grows.drew WB).cell g0)
 have z1 : ∀ y : Ext Grows WB.drew,y.u.cell? ⟨pb,1,none⟩ = some (.int .i64 W):=ext_cell ((Grows.drew WB).cell g1)
 have HM8:=Lib.hid hM8
 clear hMM hLW hM8
 go_wp2_with fail
 refine t_region (Grows) [(0,false),(1,false),(2,false),(3,false),(4,false),(5,false),(6,false),(7,false),(8,false),(9,false),(10,false),(11,false),(12,false),(13,false),(14,false),(15,false),(16,false),(17,false),(18,false),(19,false),(20,false),(21,false),(22,false),(23,false),(24,false),(25,false),(26,false),(27,false),(28,false)] Grows.refl Grows.trans (by kernel_rfl) (by kernel_rfl) (fun d _ _ _ _ h => by cases d <;> exact h) ?_
 iterate 29 (refine t_quiet rfl (fun K hK => ?_);go_simp;refine hK _ ?_;clear hK K)
 refine t_end ?_
 clear z0 z1
 go_wp2_with fail
 obtain ⟨WC,hWC⟩ : ∃ WC,WC = WB.drew:=⟨_,rfl⟩
 have hgC : Grows WB WC:=by rw [hWC];exact Grows.drew WB
 have hszC : WC.heap.size = pb + 1:=by rw [hWC];exact HSZ.out
 have k0:=hgC.cell g0
 have k1:=hgC.cell g1
 have k2:=hgC.cell g2
 have kf : WC.frozen? ⟨pb,2,none⟩ = false:=by rw [hgC.froz (by show pb < WB.heap.size;rw [HSZ.out];omega)];exact gf
 have HGC:=Lib.hid (Grows.trans _ _ _ HGB.out hgC)
 rw [← hWC]
 clear hWC hgC g0 g1 g2 gf wM7 e7 e7t wM8 wM5 hNe hn1 hw1
 obtain ⟨q,hq⟩ : ∃ q,q = (MM + 63) / 64:=⟨_,rfl⟩
 have hqb : q ≤ 1048576:=by omega
 have wM2 : IntKind.i64.wrap ((MM : Int) + 63) = (MM : Int) + 63:=by have:=wrap_nat (x:=MM + 63) (by omega);rw [Int.natCast_add] at this;exact this
 have eq1 : ((MM : Int) + 63) / 64 = q:=by omega
 have eq2 : ((MM : Int) + 63).tdiv 64 = q:=by rw [Int.tdiv_eq_ediv_of_nonneg (by omega)];exact eq1
 have z0 : ∀ y : Ext Grows WC.drew,y.u.cell? ⟨pb,0,none⟩ = some (.int .i64 n):=ext_cell ((Grows.drew WC).cell k0)
 have z1 : ∀ y : Ext Grows WC.drew,y.u.cell? ⟨pb,1,none⟩ = some (.int .i64 W):=ext_cell ((Grows.drew WC).cell k1)
 have wq : IntKind.i64.wrap (q : Int) = q:=wrap_nat (by omega)
 have hmk:=fun (Y : World) => mk64 q Y hqb
 have HQ:=Lib.hid hq
 clear hq
 refine t_tail (Grows) 13 [(0,false),(1,false),(2,false),(3,false),(4,false),(5,false),(6,false),(7,false),(8,false),(9,false),(10,false),(11,false),(12,true)] Grows.refl Grows.trans (by kernel_rfl) (by kernel_rfl) (fun d _ _ _ _ h => by cases d <;> exact h) ?_
 iterate 12 (refine t_quiet rfl (fun K hK => ?_);go_simp;refine hK _ ?_;clear hK K)
 refine t_late rfl rfl (fun K hK => ?_)
 go_simp
 refine ⟨Grows.alloc _ _,hK _ _ ?_⟩
 clear hK K z0 z1 hmk eq1 eq2 wM2 wq
 refine t_end ?_
 simp only [List.drop_succ_cons,List.drop_zero]
 have hmade0:=made64 (w:=WC) hqb
 rw [Nat.mul_one,hszC] at hmade0
 obtain ⟨W3,hW3⟩ : ∃ W3,W3 = (WC.alloc (.cells (madeCells #[.int .u64 0] q) 116)).drew:=⟨_,rfl⟩
 have hg3 : Grows WC W3:=by rw [hW3];exact (Grows.alloc WC _).dr
 have hmade : Owns W3 (pb + 1) 116 1 n64C (.slice (some ⟨pb + 1,0,none⟩) q q) (List.replicate q 0):=by rw [hW3];exact hmade0.grows (Grows.drew _)
 rw [← hW3]
 try rw [hszC]
 have hpl : pb + 1 < W3.heap.size:=by rw [hW3];show pb + 1 < (WC.heap.push _).size;rw [Array.size_push,hszC];omega
 have b32:=hg3.cell k2
 have b3f : W3.frozen? ⟨pb,2,none⟩ = false:=by rw [hg3.froz (by show pb < WC.heap.size;omega)];exact kf
 have j0:=hg3.cell k0
 have j1:=hg3.cell k1
 have hgw3:=Grows.trans _ _ _ HGC.out hg3
 clear hmade0 hW3 k0 k1 k2 kf hg3
 -- the bytes behind the head
 obtain ⟨a5,hif,ha5⟩ : ∃ a5,(if bc = 5 then (some ⟨bb,bo,none⟩ : Option Addr) else some ⟨bb,bo + 5,none⟩) = a5∧AtCells w a5 1 ((packB l).map byteC):=by
  obtain ⟨a',hv',hat',_⟩:=cut_val (l:=5) (h:=N) HAT.out HNC.out (by have:=HLEN.out;omega) (by rw [HN2.out];exact Nat.le_refl _) (by rw [← HN2.out];exact hbc)
  refine ⟨a', ?_, ?_⟩
  ·rw [← hv',Option.map_some,add_zero_off]
  ·have e : (b.take N).drop 5 = packB l:=by rw [HN2.out,List.take_length,HHEAD.out];rfl
   rw [e] at hat';exact hat'
 have hN5 : 5 ≤ N:=by have:=HLEN.out;omega
 have hNM : N - 5 = M:=by have:=HLEN.out;omega
 have hbc5 : 5 ≤ bc:=by omega
 have h5i : (5 : Int) ≤ N:=by omega
 have h5n : (N : Int) ≤ bc:=by omega
 have f5 : (5 : Int) ≤ bc:=by omega
 have HA5:=Lib.hid ha5
 clear ha5
 go_wp2_with fail
 have e0 : (W3.setCell ⟨pb,2,none⟩ (.slice (some ⟨pb + 1,0,none⟩) q q)).cell? ⟨pb,0,none⟩ = some (.int .i64 n):=(World.cell?_setCell_other _ _ _ _ (fun h => by cases h)).trans j0
 have e1 : (W3.setCell ⟨pb,2,none⟩ (.slice (some ⟨pb + 1,0,none⟩) q q)).cell? ⟨pb,1,none⟩ = some (.int .i64 W):=(World.cell?_setCell_other _ _ _ _ (fun h => by cases h)).trans j1
 have e2 : (W3.setCell ⟨pb,2,none⟩ (.slice (some ⟨pb + 1,0,none⟩) q q)).cell? ⟨pb,2,none⟩ = some (.slice (some ⟨pb + 1,0,none⟩) q q):=World.cell?_setCell_same _ _ _ b32
 have hgw4 : Grows w (W3.setCell ⟨pb,2,none⟩ (.slice (some ⟨pb + 1,0,none⟩) q q)):=hgw3.set (by rw [HPB.out];exact Nat.le_refl _) _
 have hmade4:=owns_setLo hmade (p:=⟨pb,2,none⟩) (Nat.lt_succ_self _) (.slice (some ⟨pb + 1,0,none⟩) q q)
 rw [← wordsT_zero l W q] at hmade4
 have hpl4 : pb + 1 < (W3.setCell ⟨pb,2,none⟩ (.slice (some ⟨pb + 1,0,none⟩) q q)).heap.size:=by simp;exact hpl
 obtain ⟨W4,hW4⟩ : ∃ W,W = W3.setCell ⟨pb,2,none⟩ (.slice (some ⟨pb + 1,0,none⟩) q q):=⟨_,rfl⟩
 rw [← hW4] at e0 e1 e2 hgw4 hmade4 hpl4 ⊢
 clear hW4 hmade hgw3 j0 j1 b32 b3f hpl
 go_loopw [89] (fun i wr => ∃ k : Nat,k ≤ M∧i = .int .i64 k∧Owns wr (pb + 1) 116 1 n64C (.slice (some ⟨pb + 1,0,none⟩) q q) (wordsT l W k q)∧wr.cell? ⟨pb,0,none⟩ = some (.int .i64 n)∧wr.cell? ⟨pb,1,none⟩ = some (.int .i64 W)∧wr.cell? ⟨pb,2,none⟩ = some (.slice (some ⟨pb + 1,0,none⟩) q q)∧Grows w wr) (fun i _ => M - (intOf i).toNat)
 case atStart => exact ⟨0,Nat.zero_le _,rfl,hmade4,e0,e1,e2,hgw4⟩
 case round =>
  clear hmade4 e0 e1 e2 hgw4 hpl4
  obtain ⟨k,hk,rfl,hown,e0,e1,e2,hg⟩:=hrel
  by_cases hlt : k < M
  ·have hbl : (packB l).length = M:=by unfold packB;rw [List.length_map,List.length_range,HM.out,HNL.out,HW.out]
   obtain ⟨x,hx⟩ : ∃ x,(packB l)[k]? = some x:=⟨_,List.getElem?_eq_getElem (by rw [hbl];exact hlt)⟩
   obtain ⟨ab,ao,ha5,hc5⟩:=at1 (f:=fun x : UInt8 => Value.int .u8 x.toNat) (HA5.out.grows hg) (ne_nil_of_lt (by rw [hbl];exact hlt))
   have cx:=hc5 k x hx
   subst ha5
   have hxv : x.toNat = bitsN (bitAt l W) (8 * k) 8:=by
    unfold packB at hx
    rw [List.getElem?_map,List.getElem?_range (by rw [← HW.out,← HNL.out,← HM.out];exact hlt)] at hx
    rw [← Option.some.inj hx,HW.out]
    have:=bitsN_lt (bitAt l (widL l)) (8 * k) 8
    simp;omega
   obtain ⟨c,hcx⟩ : ∃ c,c = x.toNat:=⟨_,rfl⟩
   rw [← hcx] at cx hxv
   have hc256 : c < 256:=by rw [hxv];exact bitsN_lt _ _ 8
   have hk8 : 8 * k + 8 ≤ MM + 7:=by have:=HM8.out;omega
   obtain ⟨Q8,hQ8⟩ : ∃ Q,Q = k / 8:=⟨_,rfl⟩
   obtain ⟨R8,hR8⟩ : ∃ R,R = k % 8:=⟨_,rfl⟩
   obtain ⟨S8,hS8⟩ : ∃ S,S = R8 * 8:=⟨_,rfl⟩
   have hQq : Q8 < q:=by have:=HQ.out;omega
   have hQi : (Q8 : Int) < q:=by omega
   have hS64 : S8 < 64:=by omega
   have d1:=own_cell1 (f:=fun n : Nat => Value.int .u64 n) hown (wordsT_get (by rw [← hQ8];exact hQq) : (wordsT l W k q)[k / 8]? = _)
   have HST:=Lib.hid (wordsT_step (l:=l) (W:=W) (k:=k) (q:=q) (by rw [← hQ8];exact hQq))
   rw [← hQ8] at d1 HST
   obtain ⟨y,hy⟩ : ∃ y,y = bitsN (fun p => decide (p < 8 * k) && bitAt l W p) (64 * Q8) 64:=⟨_,rfl⟩
   have hy64 : y < 18446744073709551616:=by rw [hy];exact bitsN_lt _ _ 64
   rw [← hy,← hxv,← hR8,← hS8] at HST
   rw [← hy] at d1
   have hor:=shl_or (x:=y) (v:=c) (S:=S8) hy64
   obtain ⟨y1,hy1⟩ : ∃ y1,y1 = y ||| (c <<< S8) % 18446744073709551616:=⟨_,rfl⟩
   rw [← hy1] at hor HST
   obtain ⟨fr,_,hown2⟩:=owns_set1 (f:=fun n : Nat => Value.int .u64 n) hown (k:=Q8) (by rw [wordsT_len];exact hQq) y1
   have eq8 : (k : Int) / 8 = Q8:=by omega
   have eq8t : (k : Int).tdiv 8 = Q8:=by rw [Int.tdiv_eq_ediv_of_nonneg (by omega)];exact eq8
   have er8 : (k : Int) % 8 = R8:=by omega
   have er8t : (k : Int).tmod 8 = R8:=by rw [Int.tmod_eq_emod_of_nonneg (by omega)];exact er8
   have wQ8 : IntKind.i64.wrap (Q8 : Int) = Q8:=wrap_nat (by omega)
   have wR8 : IntKind.i64.wrap (R8 : Int) = R8:=wrap_nat (by omega)
   have wS8 : IntKind.i64.wrap ((R8 : Int) * 8) = S8:=by have:=wrap_nat (x:=R8 * 8) (by omega);rw [Int.natCast_mul,← Int.natCast_mul,← hS8] at this;rw [← this,hS8];push_cast;rfl
   have uS8 : IntKind.u64.wrap (S8 : Int) = S8:=by simp [IntKind.wrap,IntKind.bits,IntKind.signed];omega
   have uc : IntKind.u64.wrap (c : Int) = c:=by simp [IntKind.wrap,IntKind.bits,IntKind.signed];omega
   have hki : (k : Int) < M:=by omega
   have f0 : (wr.setCell ⟨pb + 1,Q8,none⟩ (.int .u64 y1)).cell? ⟨pb,0,none⟩ = some (.int .i64 n):=(World.cell?_setCell_other _ _ _ _ (fun h => by have:=congrArg Addr.block h;simp at this)).trans e0
   have f1 : (wr.setCell ⟨pb + 1,Q8,none⟩ (.int .u64 y1)).cell? ⟨pb,1,none⟩ = some (.int .i64 W):=(World.cell?_setCell_other _ _ _ _ (fun h => by have:=congrArg Addr.block h;simp at this)).trans e1
   have f2 : (wr.setCell ⟨pb + 1,Q8,none⟩ (.int .u64 y1)).cell? ⟨pb,2,none⟩ = some (.slice (some ⟨pb + 1,0,none⟩) q q):=(World.cell?_setCell_other _ _ _ _ (fun h => by have:=congrArg Addr.block h;simp at this)).trans e2
   have HF:=Lib.hid (And.intro f0 (And.intro f1 f2))
   have hg2 : Grows w (wr.setCell ⟨pb + 1,Q8,none⟩ (.int .u64 y1)):=hg.set (by rw [HPB.out];simp) _
   have HO:=Lib.hid hown2
   clear hx hc5 hxv hcx hQ8 hR8 hS8 hy hy1 hown2 hown f0 f1 f2 hif
   go_wp2_with fail
   go_roundw
   case rel => exact ⟨k + 1,hlt,by go_num,by rw [HST.out];exact HO.out,HF.out.1,HF.out.2.1,HF.out.2.2,hg2⟩
   case measure => simp [intOf];omega
  ·obtain rfl : M = k:=by omega
   rw [wordsT_all (by rw [HW.out];exact fun x hx => bound_widL hx) (by rw [← HNL.out,← HMM.out];have:=HM8.out;omega)] at hown
   have hmk2:=fun (Y : World) => mk64 n Y hl
   have hmadeL:=made64 (w:=wr) (n:=n) hl
   rw [Nat.mul_one] at hmadeL
   obtain ⟨W5,hW5⟩ : ∃ W,W = wr.alloc (.cells (madeCells #[.int .u64 0] n) 116):=⟨_,rfl⟩
   have hg5 : Grows wr W5:=by rw [hW5];exact Grows.alloc _ _
   obtain ⟨lb,hlb⟩ : ∃ q,q = wr.heap.size:=⟨_,rfl⟩
   rw [← hW5,← hlb] at hmadeL
   have hlbp : pb + 1 < lb:=by rw [hlb];exact own_lt hown _ rfl
   rw [show List.replicate n 0 = fillL l 0 0 by rw [fillL_zero,HNL.out]] at hmadeL
   have e05:=hg5.cell e0
   have e15:=hg5.cell e1
   have e25:=hg5.cell e2
   have hown5:=hown.grows hg5
   have hgw5:=Grows.trans _ _ _ hg hg5
   have hwlb : w.heap.size ≤ lb:=by have:=HPB.out;omega
   clear hown
   go_wp2_with fail
   try rw [← hW5]
   try rw [← hlb]
   clear hW5 hlb hg5 e0 e1 e2 hg hif hmk2
   go_loopw [119] (fun i wx => ∃ k : Nat,k ≤ n∧i = .int .i64 k∧Owns wx lb 116 1 n64C (.slice (some ⟨lb,0,none⟩) n n) (fillL l 0 k)∧wx.cell? ⟨pb,0,none⟩ = some (.int .i64 n)∧wx.cell? ⟨pb,1,none⟩ = some (.int .i64 W)∧wx.cell? ⟨pb,2,none⟩ = some (.slice (some ⟨pb + 1,0,none⟩) q q)∧Owns wx (pb + 1) 116 1 n64C (.slice (some ⟨pb + 1,0,none⟩) q q) (wordsP l W q)∧Grows w wx) (fun i _ => n - (intOf i).toNat)
   case atStart => exact ⟨0,Nat.zero_le _,rfl,hmadeL,e05,e15,e25,hown5,hgw5⟩
   case round =>
    clear hmadeL e05 e15 e25 hown5 hgw5
    obtain ⟨k,hk2,rfl,hrow,e0,e1,e2,hown,hg⟩:=hrel
    by_cases hlt2 : k < n
    ·obtain ⟨x,hx⟩ : ∃ x,l[k]? = some x:=⟨_,List.getElem?_eq_getElem (by rw [← HNL.out];exact hlt2)⟩
     have hki : (k : Int) < n:=by omega
     have CG:=Lib.hid (pget_any pb (pb + 1) q W k x (pb + 1) l wr hW64 (by rw [← HNL.out];exact hl) hx (by rw [HW.out];exact bound_widL (List.mem_of_getElem? hx)) (by rw [← HNL.out,← HMM.out];have:=HQ.out;omega) e1 e2 hown)
     have HFS:=Lib.hid (fillL_set (z:=0) hx)
     clear hx
     go_wp2_with fail
     refine CG.out.mono ?_
     rintro e w6 ⟨rfl,hg6⟩
     have hrow6:=hrow.grows hg6
     obtain ⟨u0,hu0⟩ : ∃ u,(fillL l 0 k)[k]? = some u:=⟨_,List.getElem?_eq_getElem (by rw [fillL_len _ _ (by rw [← HNL.out];omega),← HNL.out];exact hlt2)⟩
     have cl:=own_cell1 (f:=fun n : Nat => Value.int .u64 n) hrow6 hu0
     obtain ⟨fr,_,hrow7⟩:=owns_set1 (f:=fun n : Nat => Value.int .u64 n) hrow6 (k:=k) (by rw [fillL_len _ _ (by rw [← HNL.out];omega),← HNL.out];exact hlt2) x
     rw [HFS.out] at hrow7
     have hne : ∀ j j',(⟨pb,j,none⟩ : Addr) ≠ ⟨lb,j',none⟩:=fun j j' h => by have:=congrArg Addr.block h;simp only at this;omega
     have f0 : (w6.setCell ⟨lb,k,none⟩ (.int .u64 x)).cell? ⟨pb,0,none⟩ = some (.int .i64 n):=(World.cell?_setCell_other _ _ _ _ (fun h => hne _ _ (by first | exact h | exact h.symm))).trans (hg6.cell e0)
     have f1 : (w6.setCell ⟨lb,k,none⟩ (.int .u64 x)).cell? ⟨pb,1,none⟩ = some (.int .i64 W):=(World.cell?_setCell_other _ _ _ _ (fun h => hne _ _ (by first | exact h | exact h.symm))).trans (hg6.cell e1)
     have f2 : (w6.setCell ⟨lb,k,none⟩ (.int .u64 x)).cell? ⟨pb,2,none⟩ = some (.slice (some ⟨pb + 1,0,none⟩) q q):=(World.cell?_setCell_other _ _ _ _ (fun h => hne _ _ (by first | exact h | exact h.symm))).trans (hg6.cell e2)
     have hown7:=owns_keep (v:=.slice (some ⟨lb,0,none⟩) n n) (hown.grows hg6) ((Grows.refl w6).grownBy_set lb k (.int .u64 x)) (fun r h1 h2 => by
      have a1 : lb = r:=Option.some.inj h1
      have a2 : pb + 1 = r:=Option.some.inj h2
      omega)
     have hg7 : Grows w (w6.setCell ⟨lb,k,none⟩ (.int .u64 x)):=(Grows.trans _ _ _ hg hg6).set hwlb _
     have HF:=Lib.hid (And.intro f0 (And.intro f1 f2))
     clear hrow hrow6 e0 e1 e2 hown hg hg6 hu0 f0 f1 f2 CG
     go_wp2_with fail
     go_roundw
     case rel => exact ⟨k + 1,hlt2,by go_num,hrow7,HF.out.1,HF.out.2.1,HF.out.2.2,hown7,hg7⟩
     case measure => simp [intOf];omega
    ·obtain rfl : n = k:=by omega
     have hrw : fillL l 0 n = l:=by rw [HNL.out];exact fillL_all l 0
     rw [hrw] at hrow
     obtain ⟨ra,rc,hre,_,_,hrat⟩:=hrow.at_ (k:=1) (fun x => (rfl : (n64C x).length = 1))
     have e1':=(Value.slice.inj hre).1
     rw [← e1'] at hrat
     have CNW:=Lib.hid (pnew_any l (some ⟨lb,0,none⟩) n wr (by rw [← HNL.out];exact hl) HN.out hrat)
     rw [← HNL.out] at CNW
     clear hrow hre e1' hrat hrw e0 e1 e2 hown
     go_wp2_with fail
     refine CNW.out.mono ?_
     rintro e w7 ⟨rfl,hpk,hg7⟩
     obtain ⟨nb,hnb⟩ : ∃ q,q = wr.heap.size:=⟨_,rfl⟩
     rw [← hnb] at hpk ⊢
     clear hnb
     go_wp2_with fail
     refine (penc_any l nb w7 (by rw [← HNL.out];exact hl) HN.out hpk).mono ?_
     rintro e w8 ⟨v8,rfl,hv8,hg8⟩
     rw [← HB.out] at hv8
     obtain ⟨a8,c8,rfl,hat8,_⟩:=own_part hv8
     rw [← HN2.out]
     have hgw8:=Grows.trans _ _ _ hg (Grows.trans _ _ _ hg7 hg8)
     have CE:=Lib.hid (bequal_any b b a8 (some ⟨bb,bo,none⟩) c8 bc w8 hat8 (HAT.out.grows hgw8))
     rw [← HN2.out] at CE
     simp only [decide_true] at CE
     clear hv8 hat8
     go_wp2_with fail
     refine CE.out.mono ?_
     rintro e w9 ⟨rfl,rfl⟩
     go_wp2
     go_ret2
     exact ⟨nb,rfl,hpk.grows hg8,hgw8⟩
end Go.Proofs.YtepoiefadjoabaaGreatDoor
namespace Go.Proofs.YtepoiefadjoabaaGreatDoor
open Go Go.RowKit Go.Shelf
attribute [local go_sem] quietE quietE2
set_option maxHeartbeats 4000000 in
set_option maxRecDepth 100000 in
theorem find_any14 (Q : List PartV) (k : Nat) (q : PartV) (a : Option Addr) (c : Nat) (w : World) (hl : Q.length ≤ 1000000) (hat : AtCells w a 2 (Q.map partC)) (hpa : PartsAt w Q) (hq : Q[k]? = some q) (hne : ∀ j p, j < k → Q[j]? = some p → p.name ≠ q.name) :
  Calls Tryz.prog 62 #[.slice a Q.length c,.string q.name] w fun e w' => ∃ v,e = .returned (.tuple #[v,.bool true])∧Owns w' w.heap.size 5 1 byteC v q.data∧Grows w w':=by
 have HAT:=Lib.hid hat
 have HPA:=Lib.hid hpa
 have HNE:=Lib.hid hne
 have hkl:=(List.getElem?_eq_some_iff.1 hq).1
 have HQ:=Lib.hid hq
 clear hat hpa hne hq
 go_enter Tryz.func62,Tryz.ntmps62
 go_wp2_with fail
 go_loopw [10] (fun i wr => ∃ (j : Nat),j ≤ k∧i = .int .i64 j∧Grows w wr) (fun i _ => Q.length - (intOf i).toNat)
 case atStart => exact ⟨0,Nat.zero_le _,rfl,Grows.refl _⟩
 case round =>
  obtain ⟨j,hj,rfl,hg⟩:=hrel
  obtain ⟨⟨pn,pd,pa,pc⟩,hp⟩ : ∃ p,Q[j]? = some p:=⟨_,List.getElem?_eq_getElem (by omega)⟩
  have hlt : j < Q.length:=by omega
  have hji : (j : Int) < Q.length:=by omega
  obtain ⟨ba,oa,rfl,hca⟩:=(HAT.out.grows hg).get (ne_nil_of_lt hlt)
  have c0 : wr.cell? ⟨ba,oa + j * 2,none⟩ = some (.string pn):=hca j _ hp 0 _ rfl
  have c1 : wr.cell? ⟨ba,oa + j * 2 + 1,none⟩ = some (.slice pa pd.length pc):=hca j _ hp 1 _ rfl
  obtain ⟨W1,hW1⟩ : ∃ W,W = wr.alloc (.cells #[.string pn,.slice pa pd.length pc] 92):=⟨_,rfl⟩
  have hg1 : Grows wr W1:=by rw [hW1];exact Grows.alloc _ _
  obtain ⟨bc,_⟩:=box_cells2 (w:=wr) (cs:=#[.string pn,.slice pa pd.length pc]) (t:=92) (w':=W1) (by rw [hW1];exact Grows.refl _)
  have b0:=bc 0 _ rfl
  have b1:=bc 1 _ rfl
  rw [hW1] at b0 b1
  have hgw1:=Grows.trans _ _ _ hg hg1
  have hpm:=List.mem_of_getElem? hp
  clear bc hca
  by_cases he : pn = q.name
  ·have hjk : j = k:=by
    rcases Nat.lt_or_ge j k with h | h
    ·exact absurd he (HNE.out j _ h hp)
    ·omega
   have hpq : q = ⟨pn,pd,pa,pc⟩:=by
    rw [hjk,HQ.out] at hp
    exact Option.some.inj hp
   have hdl : pd.length ≤ 1099511627776:=HPA.out.data _ hpm
   have CC:=Lib.hid (bclone_any pd pa pc W1 hdl (HPA.out.none_ _ hpm) ((HPA.out.at_ _ hpm).grows hgw1))
   have heq : (pn.toList == q.name.toList) = true:=by rw [he];simp
   have HPQ : Hid (q.data = pd):=by show _ = _;rw [hpq]
   clear he hjk hpq hp hpm
   go_wp2_with fail
   rw [← hW1]
   clear b0 b1 hW1
   refine CC.out.mono ?_
   rintro e w2 ⟨v,rfl,hv,hg2⟩
   go_wp2
   go_ret2
   exact ⟨_,rfl,by rw [HPQ.out];exact hv.base hgw1.size,Grows.trans _ _ _ hgw1 hg2⟩
  ·have hjk : j < k:=by
    rcases Nat.lt_or_ge j k with h | h
    ·exact h
    ·obtain rfl : j = k:=by omega
     rw [HQ.out] at hp
     exact absurd (by rw [Option.some.inj hp]) he
   have heq : (pn.toList == q.name.toList) = false:=by simpa using fun h => he (toList_inj h)
   clear he hp hpm
   go_wp2_with fail
   go_roundw
   case rel => exact ⟨j + 1,hjk,by go_num,by rw [← hW1];exact hgw1⟩
   case measure => simp [intOf];omega
end Go.Proofs.YtepoiefadjoabaaGreatDoor
namespace Go.Proofs.YtepoiefadjoabaaGreatDoor
open Go Go.RowKit Go.Shelf
attribute [local go_sem] quietE quietE2
theorem wrapI {x : Nat} (h : x < 9223372036854775808) : IntKind.i64.wrap (x : Int) = x := by simp [IntKind.wrap, IntKind.bits, IntKind.signed]; omega
set_option maxHeartbeats 4000000 in
set_option maxRecDepth 100000 in
theorem lnumbers_any (Q : List PartV) (k : Nat) (q : PartV) (l : List Nat) (a : Option Addr) (c : Nat) (w : World) (hQl : Q.length ≤ 1000000) (hat : AtCells w a 2 (Q.map partC)) (hpa : PartsAt w Q) (hq : Q[k]? = some q) (hne : ∀ j p, j < k → Q[j]? = some p → p.name ≠ q.name)
  (hd : q.data = packE l) (hl : l.length ≤ 100000) (hn : ∀ n ∈ l,n < 9223372036854775808) :
  Calls Tryz.prog 20 #[.slice a Q.length c,.string q.name] w fun e w' => ∃ v,e = .returned v∧Owns w' w.heap.size 3 1 natC v l∧Grows w w':=by
 have CF:=Lib.hid (find_any14 Q k q a c w hQl hat hpa hq hne)
 rw [hd] at CF
 have HN:=Lib.hid hn
 have hn2 : ∀ n ∈ l,n < 18446744073709551616:=fun n h => by have:=hn n h;omega
 have HN2:=Lib.hid hn2
 have hpl:=packE_len l
 obtain ⟨QL,hQL⟩ : ∃ n,n = Q.length:=⟨_,rfl⟩
 rw [← hQL] at CF ⊢
 clear hat hpa hq hne hd hn hn2 hQL
 go_enter Tryz.func20,Tryz.ntmps20
 go_wp2_with fail
 refine CF.out.mono ?_
 rintro e w1 ⟨v1,rfl,hv1,hg1⟩
 obtain ⟨a1,c1,rfl,h1c,_,hat1⟩:=hv1.at_ byteLay.len
 have hn1:=owns_none2 hv1
 have CD:=Lib.hid (pdec_any l a1 c1 w1 (by omega) HN2.out h1c hn1 hat1)
 obtain ⟨PL,hPL⟩ : ∃ n,n = (packE l).length:=⟨_,rfl⟩
 rw [← hPL] at CD ⊢
 clear hv1 hat1 hn1 CF hpl h1c hPL
 go_wp2_with fail
 refine CD.out.mono ?_
 rintro e w2 ⟨pb,rfl,hpk,hg2⟩
 have hgw2:=Grows.trans _ _ _ hg1 hg2
 clear CD hg1 hg2
 have hll : ¬ (100000 : Int) < l.length:=by omega
 go_wp2_with fail
 refine (pklen_any l pb w2 hpk).mono ?_
 rintro e w3 ⟨rfl,rfl⟩
 go_wp2_with fail
 go_loopw [9,10] (fun v i wr => ∃ j : Nat,j ≤ l.length∧i = .int .i64 j∧Owns wr w2.heap.size 3 1 natC v (l.take j)∧PkAt wr pb l∧Grows w2 wr) (fun _ i _ => l.length - (intOf i).toNat)
 case atStart => exact ⟨0,Nat.zero_le _,rfl,Owns.nil _ _ _ _ _,hpk,Grows.refl _⟩
 case round =>
  have HPK:=Lib.hid hpk
  clear hpk
  obtain ⟨j,hj,rfl,hown,hpk,hg⟩:=hrel
  go_wp2_with fail
  refine (pklen_any l pb wr hpk).mono ?_
  rintro e w4 ⟨rfl,rfl⟩
  by_cases hlt : j < l.length
  ·obtain ⟨x,hx⟩ : ∃ x,l[j]? = some x:=⟨_,List.getElem?_eq_getElem hlt⟩
   have hx63:=HN.out x (List.mem_of_getElem? hx)
   have HT:=Lib.hid (takeSnoc hx)
   have CG:=Lib.hid (pkget_any l pb j x wr hpk (by omega) HN2.out hx)
   have htl : (l.take j).length = j:=by rw [List.length_take];omega
   have wx:=wrapI hx63
   have hji : (j : Int) < l.length:=by omega
   clear hx
   go_wp2_with fail
   refine CG.out.mono ?_
   rintro e w5 ⟨rfl,hg5⟩
   have hpk5:=hpk.grows hg5
   have hown5:=hown.grows hg5
   have hgw5:=Grows.trans _ _ _ hg hg5
   generalize l.take j = acc at hown5 HT htl
   clear CG hpk hg5 hown hg
   go_wp2_with (at_builtin;refine app_one5 natLay rfl _ _ rfl w2.heap.size _ acc x rfl hown5 (Grows.refl _) _ 1 rfl #[.int .i64 x] rfl rfl (by omega) hgw5.size ?_;intro v6 w6 hown6 hk6 _ hgg6)
   have hg6:=hgg6 w2 hgw5 (Nat.le_refl _)
   have hpk6 : PkAt w6 pb l:=HPK.out.grows hg6
   rw [← HT.out] at hown6
   go_wp2_with fail
   go_roundw
   case rel => exact ⟨j + 1,hlt,by go_num,hown6,hpk6,hg6⟩
   case measure => simp [intOf];omega
  ·obtain rfl : j = l.length:=by omega
   rw [List.take_length] at hown
   go_wp2_with fail
   go_ret
   exact ⟨_,rfl,hown.base hgw2.size,Grows.trans _ _ _ hgw2 hg⟩
set_option maxHeartbeats 4000000 in
set_option maxRecDepth 100000 in
theorem are_any (l : List Nat) (a b : Option Addr) (c d : Nat) (w : World) (hl : l.length ≤ 1048576) (h1 : AtCells w a 1 (l.map natC)) (h2 : AtCells w b 1 (l.map natC)) :
  Calls Tryz.prog 29 #[.slice a l.length c,.slice b l.length d] w fun e w' => e = .returned (.bool true)∧Grows w w':=by
 have H1:=Lib.hid h1
 have H2:=Lib.hid h2
 clear h1 h2
 go_enter Tryz.func29,Tryz.ntmps29
 go_wp2_with fail
 go_loopw [5] (fun i wr => ∃ j : Nat,j ≤ l.length∧i = .int .i64 j∧Grows w wr) (fun i _ => l.length - (intOf i).toNat)
 case atStart => exact ⟨0,Nat.zero_le _,rfl,Grows.refl _⟩
 case round =>
  obtain ⟨j,hj,rfl,hg⟩:=hrel
  by_cases hlt : j < l.length
  ·obtain ⟨x,hx⟩ : ∃ x,l[j]? = some x:=⟨_,List.getElem?_eq_getElem hlt⟩
   obtain ⟨b1,o1,rfl,hc1⟩:=at1 (f:=fun n : Nat => Value.int .i64 n) (H1.out.grows hg) (ne_nil_of_lt hlt)
   obtain ⟨b2,o2,rfl,hc2⟩:=at1 (f:=fun n : Nat => Value.int .i64 n) (H2.out.grows hg) (ne_nil_of_lt hlt)
   have z1 : ∀ x' : Ext Grows wr.drew,x'.u.cell? ⟨b1,o1 + j,none⟩ = some (.int .i64 x):=ext_cell ((Grows.drew wr).cell (hc1 j x hx))
   have z2 : ∀ x' : Ext Grows wr.drew,x'.u.cell? ⟨b2,o2 + j,none⟩ = some (.int .i64 x):=ext_cell ((Grows.drew wr).cell (hc2 j x hx))
   have hji : (j : Int) < l.length:=by omega
   clear hc1 hc2 hx
   go_wp2_with fail
   refine t_region (Grows) [(0,false),(1,false),(2,false),(3,false),(4,false),(5,false),(6,false),(7,false),(8,false)] Grows.refl Grows.trans (by kernel_rfl) (by kernel_rfl) (fun d _ _ _ _ h => by cases d <;> exact h) ?_
   iterate 9 (refine t_quiet rfl (fun K hK => ?_);go_simp;refine hK _ ?_;clear hK K)
   refine t_end ?_
   clear z1 z2
   go_wp2_with fail
   go_roundw
   case rel => exact ⟨j + 1,hlt,by go_num,hg.dr⟩
   case measure => simp [intOf];omega
  ·obtain rfl : j = l.length:=by omega
   go_wp2_with fail
   go_ret
   exact ⟨rfl,hg⟩
end Go.Proofs.YtepoiefadjoabaaGreatDoor
namespace Go.Proofs.YtepoiefadjoabaaGreatDoor
open Go Go.RowKit Go.Shelf
attribute [local go_sem] quietE quietE2
end Go.Proofs.YtepoiefadjoabaaGreatDoor
namespace Go.Proofs.YtepoiefadjoabaaGreatDoor
open Go Go.RowKit Go.Shelf
attribute [local go_sem] quietE quietE2
def makeE (p : List PosV) (m : Option Mx) (l : List En) : Int :=
 if chkB p m l = 0 then (if chk11 (bls (readL (sortS l))) = 0∧chk11 (bls (surfL (sortS l))) = 0 then 0 else 2) else chkB p m l
end Go.Proofs.YtepoiefadjoabaaGreatDoor
namespace Go.Proofs.YtepoiefadjoabaaGreatDoor
open Go Go.RowKit Go.Shelf
attribute [local go_sem] quietE quietE2
end Go.Proofs.YtepoiefadjoabaaGreatDoor
namespace Go.Proofs.YtepoiefadjoabaaGreatDoor
open Go Go.RowKit Go.Shelf Go.Sort
theorem grownBy_nv {w : World} {g n : Nat} {os : Array Obj} (d : Array Nat) : w.grownBy (grow (putRow nv (Sort.ahead w n) g 0 d) os) (some g) := by
 refine ⟨rfl,rfl,rfl,by simp,fun k hk hne => ?_⟩
 rw [heap_grow_old _ _ (by simpa using hk)]
 have : g ≠ k:=fun e => hne (by rw [e])
 simp [putRow,mapBlock,Sort.ahead,Array.getElem?_modify,this]
theorem sw_grows {wB w0 W : World} {ob : Nat} {dk : Array Nat} (hB : Grows wB w0) (hob : wB.heap.size ≤ ob) (S : SWn w0 ob dk W) : Grows wB W := by
 obtain ⟨m,os,rfl⟩:=S
 exact hB.grown (grownBy_nv dk) (fun q hq => by cases hq;exact hob)
theorem ord_at {es : List En} {BS : List ByteArray} {ib eb sc ob : Nat} {sa : Option Addr} {wB w0 : World} (hn : es.length ≤ 1048576) (hL : BS.length ≤ 1048576) (hB : Grows wB w0) (hob : wB.heap.size ≤ ob) (hid : IdAt wB ib BS) (hcell : wB.cell? ⟨eb, 0, none⟩ = some (.slice sa es.length sc)) (hat : AtCells wB sa 5 (es.map enCells))
  (hown : Owns w0 wB.heap.size 3 1 natC (.slice (some ⟨ob,0,none⟩) es.length es.length) (List.range es.length)) (hlt : ob < w0.heap.size) (hm : ∀ x ∈ es,x.s ∈ BS) (hz : ∀ x ∈ es,x.s.size ≤ maxLen) :
  StabAt (keySE BS es) es.length ob 41 #[.pointer (some ⟨ib,0,none⟩),.pointer (some ⟨eb,0,none⟩)] (List.range es.length).toArray w0∧SWn w0 ob (List.range es.length).toArray w0:=by
 have hH : Holds nv w0 ob 0 (List.range es.length).toArray:=fun j hj => by
  have hj2 : j < es.length:=by simpa using hj
  have h1:=own_cell1 (f:=fun n : Nat => Value.int .i64 n) hown (k:=j) (x:=j) (by rw [List.getElem?_range hj2])
  obtain ⟨h2,_,_⟩:=owns_set1 (f:=fun n : Nat => Value.int .i64 n) hown (k:=j) (by simpa using hj2) 0
  refine ⟨?_,by rw [Nat.zero_add];exact h2⟩
  rw [Nat.zero_add,h1]
  simp [nv,hj2]
 refine ⟨⟨⟨fun x => rfl,hH,hlt⟩,by simp,hn,bcl4_eg, ?_⟩,⟨0,#[],(sortWorld_start nv w0 ob 0 _ hH).symm⟩⟩
 intro m os dk hs x y hx hy
 have hg : Grows wB (sortWorld nv w0 ob 0 m dk os):=sw_grows hB hob ⟨m,os,rfl⟩
 have hex : es[x]? = some (es.getD x enZero):=by rw [List.getD_eq_getElem?_getD,List.getElem?_eq_getElem hx];rfl
 have hey : es[y]? = some (es.getD y enZero):=by rw [List.getD_eq_getElem?_getD,List.getElem?_eq_getElem hy];rfl
 have hmx:=List.mem_of_getElem? hex
 have hmy:=List.mem_of_getElem? hey
 have h:=bcl4_any BS ib eb (keySE BS es x) (keySE BS es y) x y es (es.getD x enZero) (es.getD y enZero) sa sc _ (hid.grows hg) (hg.cell hcell) (hat.grows hg) hn hL hex hey (sidE_get (hm _ hmx)) (sidE_get (hm _ hmy)) ⟨hz _ hmx,hz _ hmy⟩
 exact h.mono fun e w' ⟨h1,h2⟩ => ⟨h1,1,#[],by rw [h2,grow_empty];rfl⟩
theorem ord_left {es : List En} {BS : List ByteArray} {ob : Nat} {_wB w0 w' : World} {dk : Array Nat} (hs : dk.size = es.length) (hw : Win (keySE BS es) (Fd dk) 0 es.length) (hm : ∀ x ∈ es, x.s ∈ BS) (R : Row1 nv w0 ob 0 (List.range es.length).toArray) (S : SWn w0 ob dk w') :
  AtCells w' (some ⟨ob,0,none⟩) 1 ((grpsL (keySE BS es) es.length BS.length).map natC)∧(grpsL (keySE BS es) es.length BS.length).length = es.length∧∀ i ∈ grpsL (keySE BS es) es.length BS.length,i < es.length:=by
 have h1 : (List.range es.length).map (Fd dk) = grpsL (keySE BS es) es.length BS.length:=win_grps hw fun i hi => by
  have hex : es[i]? = some (es.getD i enZero):=by rw [List.getD_eq_getElem?_getD,List.getElem?_eq_getElem hi];rfl
  exact sidE_lt (hm _ (List.mem_of_getElem? hex))
 rw [← h1]
 refine ⟨fun _ => ⟨ob,0,rfl,fun i row hi j u hj => ?_⟩,by simp,fun i hi => ?_⟩
 ·rw [List.getElem?_map,List.getElem?_map] at hi
  rcases Nat.lt_or_ge i es.length with hlt | hge
  ·rw [List.getElem?_range hlt] at hi
   simp only [Option.map_some,Option.some.injEq] at hi
   subst hi
   match j,hj with
   | 0,hj =>
    have:=S.c1 R (by rw [hs];simp) i (by omega)
    simp only [natC,List.getElem?_cons_zero,Option.some.injEq] at hj
    subst hj
    simpa [Fd,nv] using this
  ·rw [List.getElem?_eq_none (by simpa using hge)] at hi
   cases hi
 ·obtain ⟨j,hj,rfl⟩:=List.mem_map.1 hi
  rw [List.mem_range] at hj
  exact (hw.inn j (Nat.zero_le _) hj).2
end Go.Proofs.YtepoiefadjoabaaGreatDoor
