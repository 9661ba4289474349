/- The texts RefE16 DecN, one behind the other. -/
import Derived.Test.YtepoiefadjoabaaGreatDoorQ14
import Derived.Test.YtepoiefadjoabaaGreatDoorQ21
import Derived.Test.YtepoiefadjoabaaGreatDoorQ23
namespace Go.Proofs.YtepoiefadjoabaaGreatDoor
open Go Go.RowKit
attribute [local go_sem] quietE quietE2
set_option maxHeartbeats 8000000 in
set_option maxRecDepth 100000 in
theorem renc_any (w : World) (rb : Nat) (m : Mx) (h : RefAt w rb m) : Calls Tryz.prog 79 #[.pointer (some ⟨rb, 0, none⟩)] w fun e w' => ∃ v, e = .returned v ∧ Owns w' w.heap.size 5 1 byteC v m.enc ∧ Grows w w' := by
 have c0:=h.c0
 have c1:=h.c1
 have hok:=h.ok
 have hn1:=hok.n1
 have hn2:=hok.n2
 have hd1:=hok.d1
 have hd2:=hok.d2
 have hlen:=hok.len
 have hcs:=hok.cost
 obtain ⟨g,cap,c2,_,hgl,hcell,_,_⟩:=h.costs
 have hrbl:=h.lt
 obtain ⟨d,hd⟩ : ∃ d : Nat,m.d = d:=⟨m.d.toNat,by omega⟩
 have HFIN:=fun (n : Nat) (L : Int) (acc : List UInt8) (hi : EncInv m m.cs.length n L acc) => Lib.hid (hi.fin hok d hd)
 rw [hd] at c1
 have hdb : d ≤ 30000:=by omega
 have hnn : m.n * m.n ≤ 4096:=Nat.mul_le_mul hn2 hn2
 obtain ⟨N2,hN2⟩ : ∃ N2,N2 = m.cs.length:=⟨_,rfl⟩
 have hN2b : N2 ≤ 4096:=by omega
 rw [← hN2] at c2 HFIN
 have HC : Hid (∀ (k : Nat),k < N2 → ∃ c : Nat,m.cs[k]? = some (c : Int)∧c ≤ 30000):=fun k hk => by
  have h9 : k < m.cs.length:=by omega
  have h8:=hcs _ (List.getElem_mem h9)
  exact ⟨(m.cs[k]).toNat,by rw [List.getElem?_eq_getElem h9];congr 1;omega,by omega⟩
 have HCELL:=Lib.hid hcell
 have HD:=Lib.hid hd
 clear h hok hlen hcs hcell hN2 hnn hd hd1 hd2
 go_enter Tryz.func79,Tryz.ntmps79
 go_wp2_with fail
 go_loopw [3,4,5,6] (fun n r l i wx => ∃ (k cnt : Nat) (L : Int) (acc : List UInt8),k ≤ N2∧i = .int .i64 k∧n = .int .i64 cnt∧l = .int .i64 L∧Owns wx w.heap.size 5 1 byteC r acc∧Hid (EncInv m k cnt L acc)∧Grows w wx) (fun _ _ _ i _ => N2 - (intOf i).toNat)
 case atStart => exact ⟨0,0,-1,[],Nat.zero_le _,rfl,rfl,rfl,Owns.nil _ _ _ _ _,EncInv.start m,Grows.refl _⟩
 case round =>
  obtain ⟨k,cnt,L,acc,hk,rfl,rfl,rfl,hown,hinv,hg⟩:=hrel
  have hi1:=hinv.out.lo
  have hi2:=hinv.out.hi
  have hi3:=hinv.out.len
  have hi4:=hinv.out.num_le
  replace c0:=hg.cell c0
  replace c1:=hg.cell c1
  replace c2:=hg.cell c2
  by_cases hlt : k < N2
  ·obtain ⟨c,hc,hcb⟩:=HC.out k hlt
   have cc:=hg.cell (HCELL.out k c hc)
   by_cases hcd : c = d
   ·subst hcd
    have HN:=Lib.hid (hinv.out.miss hc HD.out.symm)
    go_wp2_with fail
    have z1 : ∀ x : Ext Grows wr.drew,x.u.cell? ⟨rb,1,none⟩ = some (.int .i64 c):=ext_cell ((Grows.drew wr).cell c1)
    have z2 : ∀ x : Ext Grows wr.drew,x.u.cell? ⟨rb,2,none⟩ = some (.slice (some ⟨g,0,none⟩) N2 cap):=ext_cell ((Grows.drew wr).cell c2)
    have z3 : ∀ x : Ext Grows wr.drew,x.u.cell? ⟨g,k,none⟩ = some (.int .i64 c):=ext_cell ((Grows.drew wr).cell cc)
    refine s_region Grows [(0,false),(1,false),(2,false),(3,false),(4,false),(5,false),(6,false),(7,false),(8,false),(9,false),(10,false),(11,false)] Grows.refl Grows.trans (by kernel_rfl) (by kernel_rfl) (fun d _ _ _ _ h => by cases d <;> exact h) ?_
    iterate 12 (refine s_quiet rfl (fun K hK => ?_);go_simp;refine hK _ ?_;clear hK K)
    refine s_end (fun wa h4 => ?_)
    clear z1 z2 z3
    have hg4:=(Grows.drew wr).tr h4
    go_wp2_with fail
    go_roundw
    case rel => exact ⟨k + 1,cnt,L,acc,hlt,by go_num,rfl,rfl,hown.grows hg4,HN.out,hg.tr hg4⟩
    case measure => simp [intOf];omega
   ·have hcd2 : ((c : Int) == (d : Int)) = false:=by rw [beq_eq_false_iff_ne];omega
    go_wp2_with fail
    have z1 : ∀ x : Ext Grows wr.drew,x.u.cell? ⟨rb,1,none⟩ = some (.int .i64 d):=ext_cell ((Grows.drew wr).cell c1)
    have z2 : ∀ x : Ext Grows wr.drew,x.u.cell? ⟨rb,2,none⟩ = some (.slice (some ⟨g,0,none⟩) N2 cap):=ext_cell ((Grows.drew wr).cell c2)
    have z3 : ∀ x : Ext Grows wr.drew,x.u.cell? ⟨g,k,none⟩ = some (.int .i64 c):=ext_cell ((Grows.drew wr).cell cc)
    refine s_region Grows [(0,false),(1,false),(2,false),(3,false),(4,false),(5,false),(6,false),(7,false),(8,false),(9,false),(10,false),(11,false)] Grows.refl Grows.trans (by kernel_rfl) (by kernel_rfl) (fun d _ _ _ _ h => by cases d <;> exact h) ?_
    iterate 12 (refine s_quiet rfl (fun K hK => ?_);go_simp;refine hK _ ?_;clear hK K)
    refine s_end (fun wa h4 => ?_)
    clear z1 z2 z3
    have hg4:=(Grows.drew wr).tr h4
    replace c0:=hg4.cell c0
    replace c1:=hg4.cell c1
    replace c2:=hg4.cell c2
    replace cc:=hg4.cell cc
    replace hown:=hown.grows hg4
    replace hg:=hg.tr hg4
    clear h4 hg4
    go_wp2_with fail
    obtain ⟨Dl,hDl⟩ : ∃ Dl : Nat,(k : Int) - L = Dl:=⟨((k : Int) - L).toNat,by omega⟩
    have hDb : Dl ≤ 4097:=by omega
    have wDL : IntKind.i64.wrap ((k : Int) - L) = Dl:=by rw [hDl];simp [IntKind.wrap,IntKind.bits,IntKind.signed];omega
    have wDl : IntKind.u64.wrap (Dl : Int) = Dl:=by simp [IntKind.wrap,IntKind.bits,IntKind.signed];omega
    have wC : IntKind.u64.wrap (c : Int) = c:=by simp [IntKind.wrap,IntKind.bits,IntKind.signed];omega
    have HN:=Lib.hid (hinv.out.hit hc (by rw [HD.out];omega))
    rw [hDl,Int.toNat_natCast,Int.toNat_natCast] at HN
    clear hDl
    have z2 : ∀ x : Ext (EB w.heap.size) wa.drew,x.u.cell? ⟨rb,2,none⟩ = some (.slice (some ⟨g,0,none⟩) N2 cap):=ext_cellB hrbl c2
    have z3 : ∀ x : Ext (EB w.heap.size) wa.drew,x.u.cell? ⟨g,k,none⟩ = some (.int .i64 c):=ext_cellB hgl cc
    refine t_region (EB w.heap.size) [(0,false),(1,false),(2,false),(3,false),(4,false),(7,false),(8,false),(9,false),(10,false),(11,false),(12,false),(13,false),(14,false),(5,true),(6,true),(15,true),(16,true),(17,true)] (EB.refl w.heap.size) (EB.trans w.heap.size) (by kernel_rfl) (by kernel_rfl) (fun d _ _ _ _ h => by cases d <;> exact h) ?_
    iterate 13 (refine t_quiet rfl (fun K hK => ?_);go_simp;refine hK _ ?_;clear hK K)
    clear z2 z3
    have hown0:=hown.grows (Grows.drew wa)
    refine t_late rfl rfl (fun K hK => ?_)
    go_simp
    refine (ruint_any Dl wa.drew (by omega)).mono ?_
    rintro e w3 ⟨v3,rfl,hown3,hg3⟩
    obtain ⟨a3,c3,rfl,_,_,hat3⟩:=hown3.at_ byteLay.len
    have hn3:=owns_none2 hown3
    have hp3:=putU_len Dl
    have hs0 : w.heap.size ≤ wa.drew.heap.size:=hg.size
    have hs3 : w.heap.size ≤ w3.heap.size:=Nat.le_trans hs0 hg3.size
    refine ⟨EB.of hg3 hs0,hK _ _ ?_⟩
    clear hK K
    refine t_late rfl rfl (fun K hK => ?_)
    refine app_many_wp byteLay _ _ rfl w.heap.size _ acc (putU Dl) rfl (hown0.grows hg3) (Grows.refl _) a3 c3 rfl hat3 hn3 (by omega) hs3 ?_
    intro v4 w4 hown4 hg4
    refine ⟨hg4,hK _ _ ?_⟩
    clear hK K
    have hs4 : w.heap.size ≤ w4.heap.size:=Nat.le_trans hs3 hg4.2
    refine t_late rfl rfl (fun K hK => ?_)
    go_simp
    refine (ruint_any c w4 (by omega)).mono ?_
    rintro e w5 ⟨v5,rfl,hown5,hg5⟩
    obtain ⟨a5,c5,rfl,_,_,hat5⟩:=hown5.at_ byteLay.len
    have hn5:=owns_none2 hown5
    have hp5:=putU_len c
    refine ⟨EB.of hg5 hs4,hK _ _ ?_⟩
    clear hK K
    refine t_late rfl rfl (fun K hK => ?_)
    refine app_many_wp byteLay _ _ rfl w.heap.size _ (acc ++ putU Dl) (putU c) rfl (hown4.grows hg5) (Grows.refl _) a5 c5 rfl hat5 hn5 (by rw [List.length_append];omega) (Nat.le_trans hs4 hg5.size) ?_
    intro v6 w6 hown6 hg6
    refine ⟨hg6,hK _ _ ?_⟩
    clear hK K
    refine t_late rfl rfl (fun K hK => ?_)
    go_simp
    refine ⟨EB.refl _ _,hK _ _ ?_⟩
    clear hK K
    refine t_end ?_
    have hgw6 : Grows w w6:=EB.grows ((EB.grows (hg.dr.tr hg3) hg4).tr hg5) hg6
    go_wp2_with fail
    go_roundw
    case rel => exact ⟨k + 1,cnt + 1,k,_,hlt,by go_num,by go_num,by go_num,hown6,HN.out,hgw6⟩
    case measure => simp [intOf];omega
  ·obtain rfl : k = N2:=by omega
   have HE:=HFIN cnt L acc hinv.out
   have wN : IntKind.u64.wrap (m.n : Int) = m.n:=by simp [IntKind.wrap,IntKind.bits,IntKind.signed];omega
   have wD : IntKind.u64.wrap (d : Int) = d:=by simp [IntKind.wrap,IntKind.bits,IntKind.signed];omega
   have wT : IntKind.u64.wrap (cnt : Int) = cnt:=by simp [IntKind.wrap,IntKind.bits,IntKind.signed];omega
   go_wp2_with fail
   have z0 : ∀ x : Ext (EB wr.heap.size) wr.drew,x.u.cell? ⟨rb,0,none⟩ = some (.int .i64 m.n):=ext_cellB (Nat.lt_of_lt_of_le hrbl hg.size) c0
   have z1 : ∀ x : Ext (EB wr.heap.size) wr.drew,x.u.cell? ⟨rb,1,none⟩ = some (.int .i64 d):=ext_cellB (Nat.lt_of_lt_of_le hrbl hg.size) c1
   refine t_region (EB wr.heap.size) [(0,false),(1,false),(2,false),(3,false),(4,false),(6,false),(7,false),(8,false),(9,false),(10,false),(5,true),(11,true),(12,true),(13,true)] (EB.refl wr.heap.size) (EB.trans wr.heap.size) (by kernel_rfl) (by kernel_rfl) (fun d _ _ _ _ h => by cases d <;> exact h) ?_
   iterate 10 (refine t_quiet rfl (fun K hK => ?_);go_simp;refine hK _ ?_;clear hK K)
   clear z0 z1
   have hs0 : w.heap.size ≤ wr.drew.heap.size:=hg.size
   have hown0:=hown.grows (Grows.drew wr)
   refine t_late rfl rfl (fun K hK => ?_)
   go_simp
   refine (ruint_any m.n wr.drew (by omega)).mono ?_
   rintro e w3 ⟨v3,rfl,hown3,hg3⟩
   have hs3:=hg3.size
   refine ⟨EB.of hg3 (Nat.le_refl _),hK _ _ ?_⟩
   clear hK K
   refine t_late rfl rfl (fun K hK => ?_)
   go_simp
   refine (ruint_any d w3 (by omega)).mono ?_
   rintro e w5 ⟨v5,rfl,hown5,hg5⟩
   obtain ⟨a5,c5,rfl,_,_,hat5⟩:=hown5.at_ byteLay.len
   have hn5:=owns_none2 hown5
   have hp5:=putU_len d
   have hp3:=putU_len m.n
   refine ⟨EB.of hg5 hs3,hK _ _ ?_⟩
   clear hK K
   refine t_late rfl rfl (fun K hK => ?_)
   refine app_many_wp byteLay _ _ rfl wr.heap.size _ (putU m.n) (putU d) rfl (hown3.grows hg5) (Grows.refl _) a5 c5 rfl hat5 hn5 (by omega) (Nat.le_trans hs3 hg5.size) ?_
   intro v6 w6 hown6 hg6
   refine ⟨hg6,hK _ _ ?_⟩
   clear hK K
   refine t_late rfl rfl (fun K hK => ?_)
   go_simp
   refine ⟨EB.refl _ _,hK _ _ ?_⟩
   clear hK K
   refine t_end ?_
   have hgw6 : Grows wr.drew w6:=EB.grows (hg3.tr hg5) hg6
   have hs6:=hgw6.size
   obtain ⟨B6,hB6⟩ : ∃ B,B = putU m.n ++ putU d:=⟨_,rfl⟩
   rw [← hB6] at hown6 HE
   have hb6 : B6.length ≤ 20:=by rw [hB6,List.length_append];omega
   clear hB6 hown3 hg3 hown5 hg5 hat5 hn5 hg6
   obtain ⟨ar,cr,hvr,_,_,hatr⟩:=hown0.at_ byteLay.len
   have hnr : ar = none → cr = 0:=by rw [hvr] at hown0;exact owns_none2 hown0
   subst hvr
   go_wp2_with fail
   refine (ruint_any cnt w6 (by omega)).mono ?_
   rintro e w7 ⟨v7,rfl,hown7,hg7⟩
   obtain ⟨a7,c7,rfl,_,_,hat7⟩:=hown7.at_ byteLay.len
   have hn7:=owns_none2 hown7
   have hp7:=putU_len cnt
   replace hown6:=hown6.grows hg7
   have hgr7:=hgw6.tr hg7
   have hs7:=hgr7.size
   have hac:=hinv.out.len
   go_wp2_with (first | (at_builtin;refine app_many byteLay rfl _ _ rfl wr.heap.size _ B6 (putU cnt) rfl hown6 (Grows.refl _) a7 c7 rfl hat7 hn7 (by omega) hs7 ?_;intro v8 w8 hown8 hg8;have hgr8:=hg8 wr.drew hgr7 (Nat.le_refl _);have hs8:=hgr8.size;have hatr8:=hatr.grows hgr8) | (at_builtin;refine app_many byteLay rfl _ _ rfl wr.heap.size _ (B6 ++ putU cnt) acc rfl hown8 (Grows.refl _) ar cr rfl hatr8 hnr (by rw [List.length_append];omega) hs8 ?_;intro v9 w9 hown9 hg9))
   go_ret
   refine ⟨_,rfl, ?_,hg9 w (hg.dr.tr hgr8) hg.size⟩
   rw [HE.out]
   exact hown9.base hg.size
end Go.Proofs.YtepoiefadjoabaaGreatDoor
namespace Go.Proofs.YtepoiefadjoabaaGreatDoor
open Go Go.RowKit
attribute [local go_sem] quietE quietE2
set_option maxHeartbeats 2000000 in
set_option maxRecDepth 100000 in
theorem uint_any (b : List UInt8) (k : Nat) (ba : Option Addr) (bc : Nat) (w : World) (hk : k ≤ b.length) (hb : b.length ≤ 1099511627776) (hat : AtCells w ba 1 (b.map byteC)) :
  Calls Tryz.prog 104 #[.slice ba b.length bc,.int .i64 k] w fun e w' => e = .returned (uintR k (rdU (b.drop k)))∧Grows w w':=by
 have CR:=Lib.hid (read_any b k ba bc w hk hb hat)
 cases hR : rdU (b.drop k) with
 | none =>
  rw [hR] at CR
  unfold uintR at CR ⊢
  clear hR hat
  go_enter Tryz.func104,Tryz.ntmps104
  go_wp2_with fail
  refine CR.out.mono ?_
  rintro e w1 ⟨rfl,hg⟩
  go_wp2_with fail
  go_ret3
  exact ⟨rfl,hg⟩
 | some x =>
  obtain ⟨v,n⟩:=x
  rw [hR] at CR
  unfold uintR at CR ⊢
  obtain ⟨K,hK⟩ : ∃ K,K = k + n:=⟨_,rfl⟩
  simp only [← hK] at CR ⊢
  clear hR hat hK
  go_enter Tryz.func104,Tryz.ntmps104
  go_wp2_with fail
  refine CR.out.mono ?_
  rintro e w1 ⟨rfl,hg⟩
  go_wp2_with fail
  go_ret3
  exact ⟨rfl,hg⟩
end Go.Proofs.YtepoiefadjoabaaGreatDoor
