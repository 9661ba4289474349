/- The texts Mat3, one behind the other. -/
import Derived.Test.YtepoiefadjoabaaGreatDoorH13
import Derived.Test.YtepoiefadjoabaaGreatDoorH19
import Derived.Test.YtepoiefadjoabaaGreatDoorH23
import Derived.Test.YtepoiefadjoabaaGreatDoorH2
namespace Go.Proofs.YtepoiefadjoabaaGreatDoor
open Go Go.RowKit
attribute [local go_sem] quietE
theorem wrap_i64n {n : Nat} (h : n ≤ 1048576) : IntKind.i64.wrap (n : Int) = n := by simp [IntKind.wrap, IntKind.bits, IntKind.signed]; omega
theorem wrap_u64 {n : Nat} (h : n ≤ 1048576) : IntKind.u64.wrap (n : Int) = n := by simp [IntKind.wrap, IntKind.bits, IntKind.signed]; omega
set_option maxHeartbeats 8000000 in
set_option maxRecDepth 100000 in
theorem encode_any (w : World) (mb bm : Nat) (m : Mx) (h : MatAt w mb bm m) :
  Calls Tryz.prog 46 #[.pointer (some ⟨mb,0,none⟩)] w fun e w' => ∃ v,e = .returned v∧Owns w' w.heap.size 5 1 byteC v m.enc∧Grows w w':=by
 have CP:=Lib.hid (pairs_any w mb bm m h)
 have c0:=h.c0
 have c1:=h.c1
 have c2:=h.c2
 have hok:=h.ok
 have hn1:=hok.n1
 have hn2:=hok.n2
 have hd1:=hok.d1
 have hd2:=hok.d2
 have hil:=Mx.idx_len hok
 obtain ⟨D,hown,hM⟩:=h.own
 have hpl : m.pairs.length = m.idx.length:=by unfold Mx.pairs;rw [List.length_map]
 obtain ⟨d,hd⟩ : ∃ d : Nat,m.d = d:=⟨m.d.toNat,by omega⟩
 have HE : Hid (m.enc = putU m.n ++ (putU d ++ (putU m.idx.length ++ encGo m (-1) m.idx))):=by show m.enc = _;unfold Mx.enc;rw [hd];rfl
 rw [hd] at c1
 have hdb : d ≤ 30000:=by omega
 have wN : IntKind.u64.wrap (m.n : Int) = m.n:=wrap_u64 (by omega)
 have wD : IntKind.u64.wrap (d : Int) = d:=wrap_u64 (by omega)
 have wL : IntKind.u64.wrap (m.idx.length : Int) = m.idx.length:=wrap_u64 (by omega)
 clear h hd1 hd2
 go_enter Tryz.func46,Tryz.ntmps46
 go_wp2_with fail
 refine CP.out.mono ?_
 rintro e w1 ⟨v1,rfl,hown1,hg1⟩
 obtain ⟨a1,k1,rfl,h11,h12,hat1⟩:=hown1.at_ (enc:=pairC) (fun _ => rfl)
 rw [hpl] at h11 ⊢
 clear hown1
 go_wp2_with fail
 have x0 : ∀ x : Ext Grows w1.drew,x.u.cell? ⟨mb,0,none⟩ = some (.int .i64 m.n):=ext_cell (hg1.dr.cell c0)
 have x1 : ∀ x : Ext Grows w1.drew,x.u.cell? ⟨mb,1,none⟩ = some (.int .i64 d):=ext_cell (hg1.dr.cell c1)
 refine s_region Grows [(0,false),(1,false),(2,false),(3,false),(4,false),(6,false),(7,false),(8,false),(9,false),(10,false),(12,false),(13,false),(14,false),(5,true),(11,true),(15,true),(16,true)] Grows.refl Grows.trans (by kernel_rfl) (by kernel_rfl) (fun d _ _ _ _ h => by cases d <;> exact h) ?_
 iterate 13 (refine s_quiet rfl (fun K hK => ?_);go_simp;refine hK _ ?_;clear hK K)
 clear x0 x1
 refine s_late_w rfl rfl (fun K hK w2 h2 => ?_)
 go_simp
 refine (putUint_any [] none 0 m.n w2 (by simp) (by omega) (AtCells.nil _ _ _) (fun _ => rfl)).mono ?_
 rintro e w3 ⟨v3,rfl,hown3,hg3⟩
 obtain ⟨B3,hB3⟩ : ∃ B,B = ([] : List UInt8) ++ putU m.n:=⟨_,rfl⟩
 rw [← hB3] at hown3
 have hb3 : B3.length ≤ 10:=by have:=putU_len m.n;rw [hB3];simpa using this
 have HB3:=Lib.hid hB3
 clear hB3
 obtain ⟨a3,k3,rfl,h31,h32,hat3⟩:=hown3.at_ byteLay.len
 have hn3:=owns_none2 hown3
 clear hown3
 refine ⟨hg3,hK _ _ ?_⟩
 clear hK K
 refine s_late_w rfl rfl (fun K hK w4 h4 => ?_)
 go_simp
 refine (putUint_any _ a3 k3 d w4 (by omega) (by omega) (hat3.grows h4) hn3).mono ?_
 rintro e w5 ⟨v5,rfl,hown5,hg5⟩
 obtain ⟨B5,hB5⟩ : ∃ B,B = B3 ++ putU d:=⟨_,rfl⟩
 rw [← hB5] at hown5
 have hb5 : B5.length ≤ 20:=by have:=putU_len d;rw [hB5,List.length_append];omega
 have HB5:=Lib.hid hB5
 clear hB5
 obtain ⟨a5,k5,rfl,h51,h52,hat5⟩:=hown5.at_ byteLay.len
 have hn5:=owns_none2 hown5
 clear hown5 hat3 hn3
 refine ⟨hg5,hK _ _ ?_⟩
 clear hK K
 refine s_late_w rfl rfl (fun K hK w6 h6 => ?_)
 go_simp
 refine (putUint_any _ a5 k5 m.idx.length w6 (by omega) (by omega) (hat5.grows h6) hn5).mono ?_
 rintro e w7 ⟨v7,rfl,hown7,hg7⟩
 clear hat5 hn5
 refine ⟨hg7,hK _ _ ?_⟩
 clear hK K
 refine s_late_w rfl rfl (fun K hK w8 h8 => ?_)
 go_simp
 refine ⟨Grows.refl _,hK _ _ ?_⟩
 clear hK K
 refine s_end (fun w9 h9 => ?_)
 have hg18 : Grows w1 w6:=((((Grows.drew w1).tr h2).tr hg3).tr h4).tr (hg5.tr h6)
 have hg79 : Grows w7 w9:=h8.tr h9
 have hg9 : Grows w w9:=((hg1.tr hg18).tr hg7).tr hg79
 replace hat1:=hat1.grows ((hg18.tr hg7).tr hg79)
 have hown9:=(hown7.grows hg79).base (base':=w.heap.size) (hg1.tr hg18).size
 clear hown7 h2 hg3 h4 hg5 h6 hg7 h8 h9 hg18 hg79 hg1 CP
 obtain ⟨B9,hB9⟩ : ∃ B,B = B5 ++ putU m.idx.length:=⟨_,rfl⟩
 rw [← hB9] at hown9
 have hb9 : B9.length ≤ 30:=by have:=putU_len m.idx.length;rw [hB9,List.length_append];omega
 have HE9 : Hid (m.enc = B9 ++ encGo m (-1) m.idx):=by
  show m.enc = _
  rw [HE.out,hB9,HB5.out,HB3.out];simp
 clear hB9 HE HB5 HB3 hb3 hb5
 go_wp2_with fail
 go_loopw [4,5,31] (fun b last i wx => ∃ (k : Nat) (acc : List UInt8) (L : Int),k ≤ m.idx.length∧i = .int .i64 k∧last = .int .i64 L∧-1 ≤ L∧L ≤ 4096∧Owns wx w.heap.size 5 1 byteC b acc∧acc.length ≤ 30 + k * 20∧Hid (m.enc = acc ++ encGo m L (m.idx.drop k))∧Hid (∀ j ∈ m.idx.drop k,L < (j : Int))∧Grows w9 wx) (fun _ _ i _ => m.idx.length - (intOf i).toNat)
 case atStart => exact ⟨0,B9,-1,Nat.zero_le _,rfl,rfl,by omega,by omega,hown9,by omega,HE9.out,fun j _ => by omega,Grows.refl _⟩
 case round =>
  obtain ⟨k,acc,L,hk,rfl,rfl,hL1,hL2,hownb,hal,hE,hLj,hgx⟩:=hrel
  have hgw:=hg9.tr hgx
  obtain ⟨ab,cb,rfl,hb1,hb2,hatb⟩:=hownb.at_ byteLay.len
  have hnb:=owns_none2 hownb
  by_cases hlt : k < m.idx.length
  ·obtain ⟨i,hi⟩ : ∃ i,m.idx[k]? = some i:=⟨_,List.getElem?_eq_getElem hlt⟩
   obtain ⟨hin,hpi,hc0,hc1,hcost⟩:=Mx.idx_get hok hi
   have hdrop : m.idx.drop k = i :: m.idx.drop (k + 1):=by
    rw [List.drop_eq_getElem_cons hlt]
    rw [List.getElem?_eq_getElem hlt] at hi
    rw [Option.some.inj hi]
   have hLi : L < (i : Int):=hLj.out i (by rw [hdrop];simp)
   have hup : ∀ j ∈ m.idx.drop (k + 1),i < j:=by
    have h1 : (m.idx.drop k).Pairwise (· < ·):=Mx.idx_up.sublist (List.drop_sublist k _)
    rw [hdrop] at h1
    exact (List.pairwise_cons.1 h1).1
   have hi2 : i < 4096:=Nat.lt_of_lt_of_le hin (Nat.mul_le_mul hn2 hn2)
   obtain ⟨Dl,hDl⟩ : ∃ Dl : Nat,(i : Int) - L = Dl:=⟨((i : Int) - L).toNat,by omega⟩
   obtain ⟨C,hC⟩ : ∃ C : Nat,m.cs.getD i 0 = C:=⟨(m.cs.getD i 0).toNat,by omega⟩
   have hnext : m.enc = ((acc ++ putU Dl) ++ putU C) ++ encGo m i (m.idx.drop (k + 1)):=by
    rw [hE.out,hdrop]
    show acc ++ (putU ((i : Int) - L).toNat ++ (putU (m.cs.getD i 0).toNat ++ encGo m i (m.idx.drop (k + 1)))) = _
    rw [hDl,hC];simp
   have HNX:=Lib.hid hnext
   have HUP : Hid (∀ j ∈ m.idx.drop (k + 1),(i : Int) < (j : Int)):=fun j hj => by have:=hup j hj;omega
   have hpn:=pairAt_in hin
   have hcs : m.cost (pairAt m.n i) = C:=by rw [hcost,hC]
   obtain ⟨r,hr⟩ : ∃ r : Nat,r = i / m.n:=⟨_,rfl⟩
   obtain ⟨q,hq⟩ : ∃ q : Nat,q = i % m.n:=⟨_,rfl⟩
   have hpe : pairAt m.n i = ((r : Int),(q : Int)):=by rw [hr,hq];rfl
   rw [hpe] at hpi hpn hcs
   have hrq : (r : Int) * m.n + q = i:=by
    rw [hr,hq]
    have:=Nat.div_add_mod i m.n
    rw [Nat.mul_comm] at this
    exact_mod_cast this
   have hr64 : r < 64:=by have:=inP_iff.1 hpn.1;simp only at this;omega
   have hrn : r * m.n ≤ 4096:=by
    have:=Nat.mul_le_mul (Nat.le_of_lt hr64) hn2;omega
   have hq64 : q < 64:=by have:=inP_iff.1 hpn.1;simp only at this;omega
   obtain ⟨lb,lo,rfl,hcp⟩:=(hat1.grows hgx).get (ne_nil_of_lt (k:=k) (by omega))
   have p0 : wr.cell? ⟨lb,lo + k * 2,none⟩ = some (.int .i64 r):=hcp k _ hpi 0 _ rfl
   have p1 : wr.cell? ⟨lb,lo + k * 2 + 1,none⟩ = some (.int .i64 q):=hcp k _ hpi 1 _ rfl
   have hw:=wf_of_in hn2 hpn.1
   have hkey:=keyP (x:=((r : Int),(q : Int))) hw.1 hw.2
   have HLK : Hid (∀ W,Grows w W → (Instr.lookup 158 (.map (some bm)) (.agg #[.int .i64 r,.int .i64 q]) false).run Tryz.prog W = .ok (.int .i64 C) W):=fun W hW => by
    obtain ⟨c,hrun,hat,_⟩:=(ownsMap_grows hown hW).lookup_int keyedP Tryz.underlying158 Tryz.underlying3 (zeroI2 W) hkey
    have hne : m.cs.getD i 0 ≠ m.d:=(Mx.mem_idx.1 (List.mem_of_getElem? hi)).2
    have hhas:=(hM ((r : Int),(q : Int)) hw.1 hw.2).1
    have h1 : Maps.has D (klP ((r : Int),(q : Int))) = true:=by
     rw [hhas,hpn.1,hcs,← hC]
     simpa using hne
    have h2:=(hM.look hok hpn.1 hat).1 h1
    rw [hcs] at h2
    rw [h2] at hrun
    exact hrun
   have hCb : C ≤ 30000:=by omega
   have hDb : Dl ≤ 4097:=by omega
   have wDl : IntKind.u64.wrap (Dl : Int) = Dl:=wrap_u64 (by omega)
   have wC : IntKind.u64.wrap (C : Int) = C:=wrap_u64 (by omega)
   obtain ⟨rn,hrn2⟩ : ∃ rn : Nat,(r : Int) * m.n = rn:=⟨r * m.n,by simp⟩
   have hrn3 : rn ≤ 4096:=by
    have : rn = r * m.n:=by exact_mod_cast hrn2.symm
    omega
   have wRN : IntKind.i64.wrap ((r : Int) * m.n) = rn:=by rw [hrn2];exact wrap_i64n (by omega)
   have wI : IntKind.i64.wrap ((rn : Int) + q) = i:=by rw [← hrn2,hrq];exact wrap_i64n (by omega)
   have wDL : IntKind.i64.wrap ((i : Int) - L) = Dl:=by rw [hDl];exact wrap_i64n (by omega)
   clear hcp hpi hdrop hup hin hnext hE hLj hc0 hc1 hcost hpn hcs hkey hw hi hpe hr hq hownb hrn2 hrq hDl
   have z0 : ∀ x : Ext Grows (wr.alloc (.cells #[.int .i64 r,.int .i64 q] 162)).drew,x.u.cell? ⟨wr.heap.size,0,none⟩ = some (.int .i64 r):=ext_cell (cell_box wr _ _ (0,0) 0 _ rfl)
   have z1 : ∀ x : Ext Grows (wr.alloc (.cells #[.int .i64 r,.int .i64 q] 162)).drew,x.u.cell? ⟨wr.heap.size,1,none⟩ = some (.int .i64 q):=ext_cell (cell_box wr _ _ (0,0) 1 _ rfl)
   have z2 : ∀ x : Ext Grows (wr.alloc (.cells #[.int .i64 r,.int .i64 q] 162)).drew,x.u.cell? ⟨mb,0,none⟩ = some (.int .i64 m.n):=ext_cell ((hgw.al _).dr.cell c0)
   go_wp2_with fail
   refine s_region Grows [(0,false),(1,false),(2,false),(3,false),(4,false),(5,false),(6,false),(7,false),(8,false),(9,false),(10,false)] Grows.refl Grows.trans (by kernel_rfl) (by kernel_rfl) (fun d _ _ _ _ h => by cases d <;> exact h) ?_
   iterate 11 (refine s_quiet rfl (fun K hK => ?_);go_simp;refine hK _ ?_;clear hK K)
   refine s_end (fun wa ha => ?_)
   clear z0 z1 z2
   have hga : Grows (wr.alloc (.cells #[.int .i64 r,.int .i64 q] 162)) wa:=(Grows.drew _).tr ha
   go_wp2_with fail
   have n0 : ∀ x : Ext Grows wa.drew,x.u.cell? ⟨mb,2,none⟩ = some (.map (some bm)):=ext_cell (((hgw.al _).tr hga).dr.cell c2)
   have n1 : ∀ x : Ext Grows wa.drew,x.u.cell? ⟨wr.heap.size,0,none⟩ = some (.int .i64 r):=ext_cell (hga.dr.cell (cell_box wr _ _ (0,0) 0 _ rfl))
   have n2 : ∀ x : Ext Grows wa.drew,x.u.cell? ⟨wr.heap.size,1,none⟩ = some (.int .i64 q):=ext_cell (hga.dr.cell (cell_box wr _ _ (0,0) 1 _ rfl))
   have n3 : ∀ x : Ext Grows wa.drew,(Instr.lookup 158 (.map (some bm)) (.agg #[.int .i64 r,.int .i64 q]) false).run Tryz.prog x.u = .ok (.int .i64 C) x.u:=fun x => HLK.out _ (((hgw.al _).tr hga).dr.tr x.h)
   refine s_region Grows [(0,false),(1,false),(2,false),(3,false),(4,false),(6,false),(7,false),(8,false),(9,false),(10,false),(11,false),(12,false),(5,true),(13,true),(14,true)] Grows.refl Grows.trans (by kernel_rfl) (by kernel_rfl) (fun d _ _ _ _ h => by cases d <;> exact h) ?_
   iterate 10 (refine s_quiet rfl (fun K hK => ?_);go_simp;refine hK _ ?_;clear hK K)
   refine s_quiet rfl (fun K hK => ?_)
   go_simp
   refine hK _ ?_
   clear hK K
   iterate 1 (refine s_quiet rfl (fun K hK => ?_);go_simp;refine hK _ ?_;clear hK K)
   clear n0 n1 n2 n3 HLK
   refine s_late_w rfl rfl (fun K hK w2 h2 => ?_)
   go_simp
   have hgA : Grows wr w2:=((Grows.alloc wr _).tr hga).dr.tr h2
   refine (putUint_any _ ab cb Dl w2 (by omega) (by omega) (hatb.grows hgA) hnb).mono ?_
   rintro e w3 ⟨v3,rfl,hown3,hg3⟩
   obtain ⟨B3,hB3⟩ : ∃ B,B = acc ++ putU Dl:=⟨_,rfl⟩
   rw [← hB3] at hown3
   have hb3 : B3.length ≤ acc.length + 10:=by have:=putU_len Dl;rw [hB3,List.length_append];omega
   have HB3:=Lib.hid hB3
   clear hB3
   obtain ⟨a3,k3,rfl,h31,h32,hat3⟩:=hown3.at_ byteLay.len
   have hn3:=owns_none2 hown3
   clear hown3
   refine ⟨hg3,hK _ _ ?_⟩
   clear hK K
   refine s_late_w rfl rfl (fun K hK w4 h4 => ?_)
   go_simp
   refine (putUint_any _ a3 k3 C w4 (by omega) (by omega) (hat3.grows h4) hn3).mono ?_
   rintro e w5 ⟨v5,rfl,hown5,hg5⟩
   obtain ⟨B5,hB5⟩ : ∃ B,B = B3 ++ putU C:=⟨_,rfl⟩
   rw [← hB5] at hown5
   have hb5 : B5.length ≤ B3.length + 10:=by have:=putU_len C;rw [hB5,List.length_append];omega
   have HN5 : Hid (m.enc = B5 ++ encGo m i (m.idx.drop (k + 1))):=by
    show m.enc = _
    rw [hB5,HB3.out,HNX.out]
   clear hB5 HNX HB3 hat3 hn3
   refine ⟨hg5,hK _ _ ?_⟩
   clear hK K
   refine s_late_w rfl rfl (fun K hK w6 h6 => ?_)
   go_simp
   refine ⟨Grows.refl _,hK _ _ ?_⟩
   clear hK K
   refine s_end (fun w7 h7 => ?_)
   have hg57 : Grows w5 w7:=h6.tr h7
   have hgB : Grows wr w4:=(hgA.tr hg3).tr h4
   have hown7:=(hown5.grows hg57).base (base':=w.heap.size) (hgw.tr hgB).size
   have hg7 : Grows w9 w7:=((hgx.tr hgB).tr hg5).tr hg57
   clear hown5 hg57 hgB h2 hg3 h4 hg5 h6 h7 hgA hga
   go_wp2_with fail
   go_roundw
   case rel => exact ⟨k + 1,B5,i,hlt,by go_num,rfl,by omega,by omega,hown7,by omega,HN5,HUP,hg7⟩
   case measure => simp [intOf];omega
  ·obtain rfl : k = m.idx.length:=by omega
   have hfin:=hE.out
   rw [List.drop_length] at hfin
   have hfin2 : m.enc = acc:=by rw [hfin];show acc ++ [] = acc;simp
   have HF:=Lib.hid hfin2
   clear hfin hfin2 hE hLj
   go_wp2_with fail
   go_ret
   exact ⟨_,rfl,by rw [HF.out];exact hownb,hgw⟩
end Go.Proofs.YtepoiefadjoabaaGreatDoor
