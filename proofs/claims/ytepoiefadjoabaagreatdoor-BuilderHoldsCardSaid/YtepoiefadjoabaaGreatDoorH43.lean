/- The texts GroM Grow, one behind the other. -/
import Derived.Test.YtepoiefadjoabaaGreatDoorH42
import Derived.Test.YtepoiefadjoabaaGreatDoorH38
import Derived.Test.YtepoiefadjoabaaGreatDoorH21
import Derived.Test.YtepoiefadjoabaaGreatDoorH25
import Derived.Test.YtepoiefadjoabaaGreatDoorH37
import Derived.Test.YtepoiefadjoabaaGreatDoorH13
import Derived.Test.YtepoiefadjoabaaGreatDoorH22
namespace Go.Proofs.YtepoiefadjoabaaGreatDoor
open Go Go.RowKit Go.Shelf
attribute [local go_sem] quietE quietE2
structure GB (w0 w : World) (vP vD vS : Value) (P D : List Nat) (S : List ByteArray) : Prop where
 p : Owns w w0.heap.size 3 1 natC vP P
 d : Owns w w0.heap.size 3 1 natC vD D
 s : Owns w w0.heap.size 9 1 stC vS S
 pd : Apart vP vD
 ps : Apart vP vS
 ds : Apart vD vS
 g : Grows w0 w
section
variable {w0 w w' : World} {vP vD vS v' : Value} {P D P' D' : List Nat} {S : List ByteArray}
theorem GB.grows (h : GB w0 w vP vD vS P D S) (hg : Grows w w') : GB w0 w' vP vD vS P D S := ⟨h.p.grows hg, h.d.grows hg, h.s.grows hg, h.pd, h.ps, h.ds, h.g.tr hg⟩
theorem GB.appP (h : GB w0 w vP vD vS P D S) (ho : Owns w' w0.heap.size 3 1 natC v' P') (hk : w.grownBy w' vP.ownBlock) (hf : Fresh w vP v') : GB w0 w' v' vD vS P' D S :=
 ⟨ho,owns_keep h.d hk h.pd,owns_keep h.s hk h.ps,h.pd.fresh (own_lt h.d) hf,h.ps.fresh (own_lt h.s) hf,h.ds,h.g.grown hk (ownBlock_ge h.p)⟩
theorem GB.appD (h : GB w0 w vP vD vS P D S) (ho : Owns w' w0.heap.size 3 1 natC v' D') (hk : w.grownBy w' vD.ownBlock) (hf : Fresh w vD v') : GB w0 w' vP v' vS P D' S :=
 ⟨owns_keep h.p hk h.pd.symm,ho,owns_keep h.s hk h.ds,(h.pd.symm.fresh (own_lt h.p) hf).symm,h.ps,h.ds.fresh (own_lt h.s) hf,h.g.grown hk (ownBlock_ge h.d)⟩
theorem GB.ebP (h : GB w0 w vP vD vS P D S) (hk : w.grownBy w' vP.ownBlock) : EB w0.heap.size w w' :=
 ⟨Below.grown (Below.refl _ _) hk h.g.size (ownBlock_ge h.p),hk.size⟩
theorem GB.ebD (h : GB w0 w vP vD vS P D S) (hk : w.grownBy w' vD.ownBlock) : EB w0.heap.size w w' :=
 ⟨Below.grown (Below.refl _ _) hk h.g.size (ownBlock_ge h.d),hk.size⟩
theorem GB.newD (h : GB w0 w vP vD vS P D S) : some w.heap.size ≠ vD.ownBlock := fun e => Nat.lt_irrefl _ (own_lt h.d _ e.symm)
theorem GB.newP (h : GB w0 w vP vD vS P D S) : some w.heap.size ≠ vP.ownBlock := fun e => Nat.lt_irrefl _ (own_lt h.p _ e.symm)
theorem GB.setS {lb n c k : Nat} (h : GB w0 w vP vD (.slice (some ⟨lb, 0, none⟩) n c) P D S) (hk : k < S.length) (y : ByteArray) : w.frozen? ⟨lb, k, none⟩ = false ∧ GB w0 (w.setCell ⟨lb, k, none⟩ (.string y)) vP vD (.slice (some ⟨lb, 0, none⟩) n c) P D (S.set k y) := by
 obtain ⟨h1,h2,h3⟩:=owns_set1 (f:=fun s : ByteArray => Value.string s) h.s hk y
 have hg:=(Grows.refl w).grownBy_set lb k (.string y)
 exact ⟨h1,owns_keep (v:=.slice (some ⟨lb,0,none⟩) n c) h.p hg h.ps.symm,owns_keep (v:=.slice (some ⟨lb,0,none⟩) n c) h.d hg h.ds.symm,h3,h.pd,h.ps,h.ds,h.g.set (show w0.heap.size ≤ lb from h2) _⟩
end
theorem mkInt1 (n : Nat) (W : World) (h1 : 1 ≤ n) (hn : n ≤ 1048576) : (Instr.makeSlice 53 (.int .i64 1) (.int .i64 n)).run Tryz.prog W = .ok (.slice (some ⟨W.heap.size, 0, none⟩) 1 n) (W.alloc (.cells (madeCells #[.int .i64 0] (n * 1)) 3)) := by
 obtain ⟨i,h1,h2,h3,h4⟩:=natInfo
 have h:=run_make (P:=Tryz.prog) W 53 3 i (.int .i64 0) Tryz.underlying53 h1 h2 .i64 .i64 1 n (by omega) (by omega) (by rw [h4];omega) (by omega)
 rw [Int.toNat_natCast,h3] at h
 exact h
theorem madeInt1 {w : World} {n : Nat} (h1 : 1 ≤ n) (hn : n ≤ 1048576) : Owns (w.alloc (.cells (madeCells #[.int .i64 0] (n * 1)) 3)) w.heap.size 3 1 natC (.slice (some ⟨w.heap.size, 0, none⟩) 1 n) [0] := by
 refine ⟨rfl,Or.inr ⟨w.heap.size,n,madeCells #[.int .i64 0] (n * 1),rfl,Nat.le_refl _, ?_,h1,by unfold maxLen;omega,by rw [size_madeCells], ?_⟩⟩
 ·show (w.heap.push _)[w.heap.size]? = _
  simp
 ·rw [toList_madeCells_one,List.take_replicate,show min (([0] : List Nat).length * 1) (n * 1) = 1 by simp;omega]
  rfl
theorem strInfo : ∃ i, Tryz.prog.info? 9 = some i ∧ i.zero = some (.string ⟨#[]⟩) ∧ i.size = 1 ∧ i.bytes = 16 := by
 have h : (Tryz.prog.info? 9).map (fun i => (i.zero,i.size,i.bytes)) = some (some (.string ⟨#[]⟩),1,16):=by kernel_rfl
 cases hi : Tryz.prog.info? 9 with
 | none => rw [hi] at h;cases h
 | some i =>
  rw [hi] at h
  simp only [Option.map_some,Option.some.injEq,Prod.mk.injEq] at h
  exact ⟨i,rfl,h.1,h.2.1,h.2.2⟩
theorem mkStr (n : Nat) (W : World) (hn : n ≤ 1048576) : (Instr.makeSlice 51 (.int .i64 n) (.int .i64 n)).run Tryz.prog W = .ok (.slice (some ⟨W.heap.size, 0, none⟩) n n) (W.alloc (.cells (madeCells #[.string ⟨#[]⟩] (n * 1)) 9)) := by
 obtain ⟨i,h1,h2,h3,h4⟩:=strInfo
 have h:=run_make (P:=Tryz.prog) W 51 9 i (.string ⟨#[]⟩) Tryz.underlying51 h1 h2 .i64 .i64 n n (by omega) (Int.le_refl _) (by rw [h4];omega) (by omega)
 rw [Int.toNat_natCast,h3] at h
 exact h
theorem madeStr {w : World} {n : Nat} (hn : n ≤ 1048576) : Owns (w.alloc (.cells (madeCells #[.string ⟨#[]⟩] (n * 1)) 9)) w.heap.size 9 1 stC (.slice (some ⟨w.heap.size, 0, none⟩) n n) (List.replicate n ⟨#[]⟩) :=
 owns_box (enc:=stC) (fun _ => rfl) (Nat.le_refl _) (List.replicate n ⟨#[]⟩) (by
  rw [toList_madeCells_one,Nat.mul_one]
  unfold stC
  rw [flat_one,List.map_replicate]) (by simp) (by unfold maxLen;omega)
theorem u8Info : ∃ i, Tryz.prog.info? 5 = some i ∧ i.zero = some (.int .u8 0) ∧ i.size = 1 ∧ i.bytes = 1 := by
 have h : (Tryz.prog.info? 5).map (fun i => (i.zero,i.size,i.bytes)) = some (some (.int .u8 0),1,1):=by kernel_rfl
 cases hi : Tryz.prog.info? 5 with
 | none => rw [hi] at h;cases h
 | some i =>
  rw [hi] at h
  simp only [Option.map_some,Option.some.injEq,Prod.mk.injEq] at h
  exact ⟨i,rfl,h.1,h.2.1,h.2.2⟩
theorem mkU8 (n : Nat) (W : World) (hn : n ≤ 1048576) : (Instr.makeSlice 28 (.int .i64 n) (.int .i64 n)).run Tryz.prog W = .ok (.slice (some ⟨W.heap.size, 0, none⟩) n n) (W.alloc (.cells (madeCells #[.int .u8 0] (n * 1)) 5)) := by
 obtain ⟨i,h1,h2,h3,h4⟩:=u8Info
 have h:=run_make (P:=Tryz.prog) W 28 5 i (.int .u8 0) Tryz.underlying28 h1 h2 .i64 .i64 n n (by omega) (Int.le_refl _) (by rw [h4];omega) (by omega)
 rw [Int.toNat_natCast,h3] at h
 exact h
theorem madeU8 {w : World} {n : Nat} (hn : n ≤ 1048576) : Owns (w.alloc (.cells (madeCells #[.int .u8 0] (n * 1)) 5)) w.heap.size 5 1 byteC (.slice (some ⟨w.heap.size, 0, none⟩) n n) (List.replicate n 0) :=
 owns_box (enc:=byteC) (fun _ => rfl) (Nat.le_refl _) (List.replicate n 0) (by
  rw [toList_madeCells_one,Nat.mul_one]
  unfold byteC
  rw [flat_one,List.map_replicate]
  rfl) (by simp) (by unfold maxLen;omega)
theorem OkL.ids_len {L : List (List UInt8)} (h : OkL L) : (idsL L (nodesA L)).length = L.length := by
 have hm : ∀ n ∈ idsL L (nodesA L),n < L.length:=fun n hn => by
  unfold idsL at hn
  obtain ⟨x,hx,rfl⟩:=List.mem_map.1 hn
  have hh:=(List.mem_filter.1 hx).2
  have hg:=mem_nodes h.asc (List.mem_filter.1 hx).1
  unfold here at hh
  simp only [Bool.and_eq_true,decide_eq_true_eq] at hh
  have:=hg.le
  omega
 have hn : (idsL L (nodesA L)).Nodup:=by
  unfold idsL
  rw [List.nodup_iff_pairwise_ne,List.pairwise_map]
  have hp : ((nodesA L).filter (here L)).Pairwise (fun x y => x ∈ nodesA L∧y ∈ nodesA L∧here L x = true∧here L y = true∧Before x y):=by
   have h1:=(nodes_pairwise h.asc).filter (here L)
   refine List.Pairwise.imp_of_mem (fun {a b} ha hb hab => ?_) h1
   exact ⟨(List.mem_filter.1 ha).1,(List.mem_filter.1 hb).1,(List.mem_filter.1 ha).2,(List.mem_filter.1 hb).2,hab⟩
  refine hp.imp fun {x y} ⟨hx,hy,h1,h2,hb⟩ e => ?_
  have gx:=mem_nodes h.asc hx
  have gy:=mem_nodes h.asc hy
  have a:=(here_iff h.asc gx h.pos x.i).2 ⟨h1,rfl⟩
  have b:=(here_iff h.asc gy h.pos y.i).2 ⟨h2,rfl⟩
  rw [e,b] at a
  have:=gy.inj h.asc gx (Option.some.inj a)
  subst this
  rcases hb with hb | hb <;> omega
 have h1:=nodup_sub_len hn (l':=List.range L.length) fun n hx => List.mem_range.2 (hm n hx)
 have h2:=nodup_sub_len (List.nodup_range (n:=L.length)) (l':=idsL L (nodesA L)) fun j hj => by
  obtain ⟨i,x,hx,hh,hxi⟩:=h.node (List.mem_range.1 hj)
  unfold idsL
  exact List.mem_map.2 ⟨x,List.mem_filter.2 ⟨List.mem_of_getElem? hx,hh⟩,hxi⟩
 rw [List.length_range] at h1 h2
 omega
end Go.Proofs.YtepoiefadjoabaaGreatDoor
namespace Go.Proofs.YtepoiefadjoabaaGreatDoor
open Go Go.RowKit Go.Shelf
attribute [local go_sem] quietE quietE2
set_option maxHeartbeats 16000000 in
set_option maxRecDepth 100000 in
theorem grow_any (L : List (List UInt8)) (sb ib pb : Nat) (la : Option Addr) (lc : Nat) (w : World) (hok : OkL L) (hl : L.length ≤ 20000) (hc : countL L ≤ 524287)
  (hs : VecAt w sb (shapeL L (nodesA L))) (hi : VecAt w ib (isL L (nodesA L))) (hd : PkAt w pb (idsL L (nodesA L))) (hlab : AtCells w la 1 ((labelsL L (nodesA L)).map byteC)) :
  Calls Tryz.prog 114 #[.pointer (some ⟨sb,0,none⟩),.pointer (some ⟨ib,0,none⟩),.slice la (labelsL L (nodesA L)).length lc,.pointer (some ⟨pb,0,none⟩)] w fun e w' => ∃ v,e = .returned (.tuple #[v,.bool true])∧Owns w' w.heap.size 9 1 stC v (L.map mkB)∧Grows w w':=by
 obtain ⟨z1,z2,z3,z4,z5⟩:=hok.sizes hl hc
 have hni : (isL L (nodesA L)).length = (nodesA L).length:=by unfold isL;rw [List.length_map]
 have hns : (shapeL L (nodesA L)).length = 2 * (nodesA L).length + 1:=by
  have h:=shapeL_len L (nodesA L).length (Nat.le_refl _)
  rw [List.take_length,hok.off_all] at h
  omega
 have hn1 : 1 ≤ (nodesA L).length:=(List.getElem?_eq_some_iff.1 hok.root0).1
 have hnl : (labelsL L (nodesA L)).length + 1 = (nodesA L).length:=by rw [hok.labels,List.length_map,List.length_drop];omega
 have hrk : rankT (isL L (nodesA L)) (nodesA L).length = L.length:=by
  rw [isL_rank L _ _ (Nat.le_refl _),List.take_length,← hok.ids_len]
  unfold idsL
  rw [List.length_map]
 have hnc : (nodesA L).length ≤ 524287:=by rw [nodes_count hok.asc hok.len];exact hc
 have hD64 : ∀ m ∈ idsL L (nodesA L),m < 18446744073709551616:=fun m hm => by have:=z5 m hm;omega
 obtain ⟨n,hn⟩ : ∃ n,n = (nodesA L).length:=⟨_,rfl⟩
 obtain ⟨NL,hNL⟩ : ∃ N,N = L.length:=⟨_,rfl⟩
 obtain ⟨M2,hM2⟩ : ∃ N,N = 2 * n + 1:=⟨_,rfl⟩
 obtain ⟨LL,hLL⟩ : ∃ N,N = (labelsL L (nodesA L)).length:=⟨_,rfl⟩
 have CIL : ∀ u,Grows w u → Hid (Calls Tryz.prog 142 #[.pointer (some ⟨ib,0,none⟩)] u fun e w' => e = .returned (.int .i64 n)∧u = w'):=fun u hu => by
  have h:=vlen_any _ ib u (hi.grows hu)
  rw [hni,← hn] at h;exact h
 have CSL : ∀ u,Grows w u → Hid (Calls Tryz.prog 142 #[.pointer (some ⟨sb,0,none⟩)] u fun e w' => e = .returned (.int .i64 M2)∧u = w'):=fun u hu => by
  have h:=vlen_any _ sb u (hs.grows hu)
  rw [hns,← hn,← hM2] at h;exact h
 have CRK : ∀ u,Grows w u → Hid (Calls Tryz.prog 90 #[.pointer (some ⟨ib,0,none⟩),.bool true,.int .i64 n] u fun e w' => e = .returned (.int .i64 NL)∧u = w'):=fun u hu => by
  have h:=rank_any (isL L (nodesA L)) ib true n u (by omega) (by omega) (hi.grows hu)
  rw [hni,← hn,Nat.min_self,show rankB (isL L (nodesA L)) true n = rankT (isL L (nodesA L)) n from rfl,hn,hrk,← hn,← hNL] at h;exact h
 have CDL : ∀ u,Grows w u → Hid (Calls Tryz.prog 65 #[.pointer (some ⟨pb,0,none⟩)] u fun e w' => e = .returned (.int .i64 NL)∧u = w'):=fun u hu => by
  have h:=pklen_any _ pb u (hd.grows hu)
  rw [hok.ids_len,← hNL] at h;exact h
 have CG : ∀ i u,Grows w u → Hid (Calls Tryz.prog 172 #[.pointer (some ⟨sb,0,none⟩),.int .i64 (i : Nat)] u fun e w' => e = .returned (.bool (bitOf (shapeL L (nodesA L)) i))∧u = w'):=fun i u hu => vget_any _ sb i u (by omega) (hs.grows hu)
 have CI : ∀ i x u,(nodesA L)[i]? = some x → Grows w u → Hid (Calls Tryz.prog 172 #[.pointer (some ⟨ib,0,none⟩),.int .i64 (i : Nat)] u fun e w' => e = .returned (.bool (here L x))∧u = w'):=fun i x u hx hu => by
  have h:=vget_any _ ib i u (by omega) (hi.grows hu)
  rw [isL_bit hx] at h;exact h
 have CP : ∀ k x u,(idsL L (nodesA L))[k]? = some x → Grows w u → Hid (Calls Tryz.prog 66 #[.pointer (some ⟨pb,0,none⟩),.int .i64 (k : Nat)] u fun e w' => e = .returned (.tuple #[.int .u64 (x : Nat),.bool true])∧Grows u w'):=fun k x u hx hu => pkget_any _ pb k x u (hd.grows hu) (by omega) hD64 hx
 have C0 : Hid (Calls Tryz.prog 172 #[.pointer (some ⟨sb,0,none⟩),.int .i64 0] w fun e w' => e = .returned (.bool true)∧w = w'):=(CG 0 w (Grows.refl w)).out
 have C1 : Hid (Calls Tryz.prog 172 #[.pointer (some ⟨sb,0,none⟩),.int .i64 1] w fun e w' => e = .returned (.bool false)∧w = w'):=(CG 1 w (Grows.refl w)).out
 have HOK:=Lib.hid hok
 have HLAB:=Lib.hid hlab
 have HN:=Lib.hid hn
 have HNL:=Lib.hid hNL
 have HLL:=Lib.hid hLL
 have hLn : LL + 1 = n:=by omega
 have hnc2 : n ≤ 524287:=by omega
 have hn12 : 1 ≤ n:=by omega
 have hNL2 : NL ≤ 20000:=by omega
 have HCG:=Lib.hid CG
 have HCI:=Lib.hid CI
 have HCP:=Lib.hid CP
 have d1 : ¬ (524287 : Int) < n:=by omega
 have d2 : IntKind.i64.wrap ((n : Int) * 2) = ((n : Int) * 2):=by have:=wrapB (x:=n * 2) (by omega);rw [Int.natCast_mul] at this;exact this
 have d3 : ((M2 : Int) != 2 * (n : Int) + 1) = false:=by simp;omega
 have d4 : IntKind.i64.wrap ((n : Int) - 1) = LL:=by have:=wrapB (x:=LL) (by omega);rw [← this];congr 1;omega
 have d6 : ((LL : Int) != LL) = false:=by simp
 have d7 : ((NL : Int) != NL) = false:=by simp
 have d5 : ¬ (20000 : Int) < NL:=by omega
 rw [← hLL]
 clear hok hlab hn hNL hLL z1 z2 z3 z4 z5 hni hns hn1 hnl hrk hnc hD64 hs hi hd CG CI CP hM2 hl hc
 go_enter Tryz.func114,Tryz.ntmps114
 go_wp2_with fail
 refine (CIL w (Grows.refl w)).out.mono ?_
 rintro e w1 ⟨rfl,rfl⟩
 go_wp2_with fail
 refine (CSL w (Grows.refl w)).out.mono ?_
 rintro e w2 ⟨rfl,rfl⟩
 go_wp2_with fail
 refine (CRK w (Grows.refl w)).out.mono ?_
 rintro e w3 ⟨rfl,rfl⟩
 go_wp2_with fail
 refine (CDL w (Grows.refl w)).out.mono ?_
 rintro e w4 ⟨rfl,rfl⟩
 go_wp2_with fail
 refine (CDL w (Grows.refl w)).out.mono ?_
 rintro e w5 ⟨rfl,rfl⟩
 go_wp2_with fail
 refine C0.out.mono ?_
 rintro e w6 ⟨rfl,rfl⟩
 go_wp2_with fail
 refine C1.out.mono ?_
 rintro e w7 ⟨rfl,rfl⟩
 clear C0 C1 CSL CIL CRK d1 d2 d3 d4 d5 d6 d7
 go_wp2_with fail
 have hmk:=fun (Y : World) => mkInt1 n Y hn12 (by omega)
 refine f_meet (EB w.heap.size) (.quiet 0 (.quiet 2 (.alt (.late 1 (.quiet 4 (.late 3 (.quiet 5 .done)))) (.late 3 (.late 1 (.quiet 4 (.quiet 5 .done))))))) (fun (x : Nat × Nat) => [(some 62,.int .i64 n),(some 63,.slice (some ⟨x.1,0,none⟩) 1 n),(some 64,.int .i64 n),(some 65,.slice (some ⟨x.2,0,none⟩) 1 n),(some 11,.slice (some ⟨x.1,0,none⟩) 1 n),(some 12,.slice (some ⟨x.2,0,none⟩) 1 n)]) (fun (x : Nat × Nat) w' => GB w w' (.slice (some ⟨x.1,0,none⟩) 1 n) (.slice (some ⟨x.2,0,none⟩) 1 n) (.slice none 0 0) [0] [0] []) (EB.refl w.heap.size) (EB.trans w.heap.size) (by kernel_rfl) (by kernel_rfl) (fun d _ _ _ _ h => by cases d <;> exact h) ?_ ?_
 ·have hgd:=Grows.drew w
  have hsd : w.heap.size ≤ w.drew.heap.size:=Nat.le_refl _
  generalize w.drew = Wd at *
  have m1:=fun (Y : World) => (madeInt1 (w:=Y) hn12 (by omega) : Owns _ _ _ _ _ _ _)
  simp only [Nat.mul_one] at m1
  iterate 2 (refine f_quiet rfl (fun K hK => ?_);go_simp;refine hK _ ?_;clear hK K)
  refine f_alt ?_ ?_
  ·refine f_late rfl rfl (fun K hK => ?_)
   go_simp
   have o1:=m1 Wd
   have g1:=Grows.alloc Wd (.cells (madeCells #[.int .i64 0] n) 3)
   have s1 : (Wd.alloc (.cells (madeCells #[.int .i64 0] n) 3)).heap.size = Wd.heap.size + 1:=by simp
   refine ⟨EB.of g1 hsd,hK _ _ ?_⟩
   clear hK K
   generalize Wd.alloc (.cells (madeCells #[.int .i64 0] n) 3) = W1 at *
   iterate 1 (refine f_quiet rfl (fun K hK => ?_);go_simp;refine hK _ ?_;clear hK K)
   refine f_late rfl rfl (fun K hK => ?_)
   go_simp
   have o2:=m1 W1
   have g2:=Grows.alloc W1 (.cells (madeCells #[.int .i64 0] n) 3)
   have hs1 : w.heap.size ≤ W1.heap.size:=by omega
   refine ⟨EB.of g2 hs1,hK _ _ ?_⟩
   clear hK K
   iterate 1 (refine f_quiet rfl (fun K hK => ?_);go_simp;refine hK _ ?_;clear hK K)
   refine f_end ?_
   exact ⟨(Wd.heap.size,W1.heap.size),⟨(o1.grows g2).base hsd,o2.base hs1,Owns.nil _ _ _ _ _,fun q h1 h2 => by
    have a1 : Wd.heap.size = q:=Option.some.inj h1
    have a2 : W1.heap.size = q:=Option.some.inj h2
    omega,(Apart.nil _ _ _).symm,(Apart.nil _ _ _).symm,(hgd.tr g1).tr g2⟩,by simp only [puts,List.foldl];go_simp⟩
  ·refine f_late rfl rfl (fun K hK => ?_)
   go_simp
   have o1:=m1 Wd
   have g1:=Grows.alloc Wd (.cells (madeCells #[.int .i64 0] n) 3)
   have s1 : (Wd.alloc (.cells (madeCells #[.int .i64 0] n) 3)).heap.size = Wd.heap.size + 1:=by simp
   refine ⟨EB.of g1 hsd,hK _ _ ?_⟩
   clear hK K
   generalize Wd.alloc (.cells (madeCells #[.int .i64 0] n) 3) = W1 at *
   refine f_late rfl rfl (fun K hK => ?_)
   go_simp
   have o2:=m1 W1
   have g2:=Grows.alloc W1 (.cells (madeCells #[.int .i64 0] n) 3)
   have hs1 : w.heap.size ≤ W1.heap.size:=by omega
   refine ⟨EB.of g2 hs1,hK _ _ ?_⟩
   clear hK K
   iterate 2 (refine f_quiet rfl (fun K hK => ?_);go_simp;refine hK _ ?_;clear hK K)
   refine f_end ?_
   exact ⟨(W1.heap.size,Wd.heap.size),⟨o2.base hs1,(o1.grows g2).base hsd,Owns.nil _ _ _ _ _,fun q h1 h2 => by
    have a1 : W1.heap.size = q:=Option.some.inj h1
    have a2 : Wd.heap.size = q:=Option.some.inj h2
    omega,(Apart.nil _ _ _).symm,(Apart.nil _ _ _).symm,(hgd.tr g1).tr g2⟩,by simp only [puts,List.foldl];go_simp⟩
 ·clear hmk
  rintro ⟨b1,b2⟩ wA GA
  simp only [puts,List.foldl]
  try simp only at GA
  have hmk:=fun (Y : World) => mkStr NL Y (by omega)
  go_wp2_with fail
  refine (CDL wA GA.g).out.mono ?_
  rintro e w8 ⟨rfl,rfl⟩
  go_wp2_with fail
  obtain ⟨lb,hlb⟩ : ∃ q,q = wA.heap.size:=⟨_,rfl⟩
  obtain ⟨WB,hWB⟩ : ∃ W,W = wA.alloc (.cells (madeCells #[.string ⟨#[]⟩] NL) 9):=⟨_,rfl⟩
  have hgB : Grows wA WB:=by rw [hWB];exact Grows.alloc _ _
  have hsO : Owns WB w.heap.size 9 1 stC (.slice (some ⟨lb,0,none⟩) NL NL) (strTo L 0):=by
   have h:=madeStr (w:=wA) (n:=NL) (by omega)
   rw [Nat.mul_one,← hWB,← hlb] at h
   rw [strTo_zero,← HNL.out]
   exact h.base (by rw [hlb];exact GA.g.size)
  have hlt : ∀ q,(Value.slice (some ⟨b1,0,none⟩) 1 n).ownBlock = some q → q < lb:=fun q h => by rw [hlb];exact own_lt GA.p q h
  have hlt2 : ∀ q,(Value.slice (some ⟨b2,0,none⟩) 1 n).ownBlock = some q → q < lb:=fun q h => by rw [hlb];exact own_lt GA.d q h
  have GS : Hid (GB w WB (.slice (some ⟨b1,0,none⟩) 1 n) (.slice (some ⟨b2,0,none⟩) 1 n) (.slice (some ⟨lb,0,none⟩) NL NL) (parT L (offA L 0)) (depT L (offA L 0)) (strTo L 0)):=by
   rw [offA_zero,parT_one,HOK.out.depT_one]
   exact ⟨GA.p.grows hgB,GA.d.grows hgB,hsO,GA.pd,fun q h1 h2 => by
    have a:=hlt q h1
    have b : lb = q:=Option.some.inj h2
    omega,fun q h1 h2 => by
    have a:=hlt2 q h1
    have b : lb = q:=Option.some.inj h2
    omega,GA.g.tr hgB⟩
  try rw [← hWB]
  try rw [← hlb]
  clear hWB hlb hgB hsO hlt hlt2 GA hmk CDL
  go_loopw [11,12,13,14,70] (fun vP vD vA vK i wr => ∃ I : Nat,I ≤ n∧i = .int .i64 I∧vA = .int .i64 (offA L I + I + 1 : Nat)∧vK = .int .i64 (rankT (isL L (nodesA L)) I : Nat)∧Hid (GB w wr vP vD (.slice (some ⟨lb,0,none⟩) NL NL) (parT L (offA L I)) (depT L (offA L I)) (strTo L I))) (fun _ _ _ _ i _ => n - (intOf i).toNat)
  case atStart => exact ⟨0,Nat.zero_le _,rfl,rfl,rfl,GS.out⟩
  case round =>
   clear GS
   obtain ⟨I,hI,rfl,rfl,rfl,HG⟩:=hrel
   have hoff:=HOK.out.off_le I
   obtain ⟨O,hO⟩ : ∃ O,O = offA L I:=⟨_,rfl⟩
   rw [← hO] at HG hoff ⊢
   obtain ⟨aP,cP,hvP,_,_,_⟩:=HG.out.p.at_ (enc:=natC) (fun _ => rfl)
   rw [parT_len] at hvP
   subst hvP
   by_cases hlt : I < n
   ·have hIi : (I : Int) < n:=by omega
    have hIO : (I : Int) < O:=by have:=HOK.out.off_gt (show I < (nodesA L).length by have:=HN.out;omega);omega
    obtain ⟨x,hx⟩ : ∃ x,(nodesA L)[I]? = some x:=⟨_,List.getElem?_eq_getElem (by have:=HN.out;omega)⟩
    have HX:=Lib.hid hx
    have HO:=Lib.hid hO
    have hos:=offA_succ hx
    have hOle:=HOK.out.off_le (I + 1)
    obtain ⟨O2,hO2⟩ : ∃ O2,O2 = offA L (I + 1):=⟨_,rfl⟩
    rw [← hO2] at hos hOle
    have hOO : O ≤ O2:=by rw [hos,hO];omega
    have HO2:=Lib.hid hO2
    obtain ⟨dx,hdx⟩ : ∃ d,d = x.d:=⟨_,rfl⟩
    have HDX:=Lib.hid hdx
    have hd256 : dx ≤ 256:=by
     obtain ⟨k,hk1,hk2⟩:=List.mem_flatMap.1 (List.mem_of_getElem? hx)
     have h1:=((tile_lv HOK.out.asc k).mem x hk2).2.1
     have h2:=List.mem_range.1 hk1
     omega
    have hnN:=HN.out
    have hO2n : O2 ≤ 524287:=by omega
    clear hx hO hO2 hdx hnN
    go_wp2_with fail
    obtain ⟨u0,rfl⟩ : ∃ u0,u0 = wr:=⟨_,rfl⟩
    go_loopw [11,12,13] (fun vP vD vA wx => ∃ M : Nat,O ≤ M∧M ≤ O2∧vA = .int .i64 (M + I + 1 : Nat)∧Hid (GB w wx vP vD (.slice (some ⟨lb,0,none⟩) NL NL) (parT L M) (depT L M) (strTo L I))) (fun _ _ vA _ => 2000000 - (intOf vA).toNat)
    case atStart => exact ⟨O,Nat.le_refl _,hOO,rfl,HG.out⟩
    case round =>
     clear HG
     obtain ⟨M,hM1,hM2,rfl,HGM⟩:=hrel
     have CGM:=HCG.out (M + I + 1) wr HGM.out.g
     by_cases hM : M < O2
     ·have hMO2 : M < offA L (I + 1):=by have:=HO2.out;omega
      have hOM : offA L I ≤ M:=by have:=HO.out;omega
      rw [(place_kid HX.out hOM hMO2).1] at CGM
      obtain ⟨y,hy⟩ : ∃ y,(nodesA L)[M]? = some y:=⟨_,List.getElem?_eq_getElem (by omega)⟩
      have hyd : y.d = dx + 1:=by rw [HDX.out];exact kids_d L x y (HOK.out.kid HX.out hOM hMO2 hy)
      obtain ⟨d1,hd1⟩ : ∃ d1,d1 = dx + 1:=⟨_,rfl⟩
      have HP1 : Hid (parT L M ++ [I] = parT L (M + 1)):=by show _ = _;rw [parT_succ,parN_at (by omega) hOM hMO2]
      have HD1 : Hid (depT L M ++ [d1] = depT L (M + 1)):=by show _ = _;rw [depT_succ hy,hyd,hd1]
      have HDL : Hid ((depT L M).length = M):=depT_len (by omega)
      have hdp : (depT L M)[I]? = some dx:=by rw [depT_get (by omega) HX.out,HDX.out]
      obtain ⟨qb,cQ,hvQ,_⟩:=own_form HGM.out.d (by rw [HDL.out];omega)
      rw [HDL.out] at hvQ
      subst hvQ
      have hcd : wr.cell? ⟨qb,I,none⟩ = some (.int .i64 dx):=own_cell1 (f:=fun n : Nat => Value.int .i64 n) HGM.out.d hdp
      have HFL : Hid (((depT L M).flatMap natC)[I]? = some (.int .i64 dx)):=by
       have h:=flat_get (enc:=natC) (k:=1) (fun _ => rfl) (depT L M) I 0 dx _ hdp rfl
       rw [Nat.mul_one,Nat.add_zero] at h
       exact h
      have hIM : (I : Int) < M:=by omega
      have wd1 : IntKind.i64.wrap ((dx : Int) + 1) = d1:=by have:=wrapB (x:=d1) (by omega);rw [← this];congr 1;omega
      have HG0:=HGM.out.grows (Grows.drew wr)
      obtain ⟨aR,cR,hvR,_,_,_⟩:=HGM.out.p.at_ (enc:=natC) (fun _ => rfl)
      rw [parT_len] at hvR
      subst hvR
      have hnP : some qb ≠ (Value.slice aR M cR).ownBlock:=fun h => HGM.out.pd qb h.symm rfl
      clear hyd hd1 hy hdp hOM hMO2
      go_wp2_with fail
      refine CGM.out.mono ?_
      rintro e w9 ⟨rfl,rfl⟩
      clear CGM
      go_wp2_with fail
      have z0 : ∀ y : Ext (EK w.heap.size ⟨qb,I,none⟩ (.int .i64 dx)) wr.drew,y.u.cell? ⟨qb,I,none⟩ = some (.int .i64 dx):=ext_cellE ((Grows.drew wr).cell hcd)
      refine f_meet (EK w.heap.size ⟨qb,I,none⟩ (.int .i64 dx)) (.quiet 0 (.quiet 1 (.quiet 4 (.quiet 5 (.quiet 6 (.quiet 7 (.quiet 8 (.quiet 9 (.alt (.late 2 (.alt (.late 3 (.late 10 (.late 11 (.quiet 12 (.quiet 13 .done))))) (.late 10 (.late 3 (.late 11 (.quiet 12 (.quiet 13 .done))))))) (.late 10 (.late 2 (.late 3 (.late 11 (.quiet 12 (.quiet 13 .done))))))))))))))) (fun (x : Value × Value × Nat × Nat) => [(some 82,.slice aR M cR),(some 83,.int .i64 I),(some 84,.slice (some ⟨x.2.2.1,0,none⟩) 1 1),(some 85,x.1),(some 86,.slice (some ⟨qb,0,none⟩) M cQ),(some 87,.slice (some ⟨qb,0,none⟩) M cQ),(some 88,.int .i64 I),(some 89,.pointer (some ⟨qb,I,none⟩)),(some 90,.int .i64 dx),(some 91,.int .i64 d1),(some 92,.slice (some ⟨x.2.2.2,0,none⟩) 1 1),(some 93,x.2.1),(some 11,x.1),(some 12,x.2.1)]) (fun (x : Value × Value × Nat × Nat) w' => GB w w' x.1 x.2.1 (.slice (some ⟨lb,0,none⟩) NL NL) (parT L (M + 1)) (depT L (M + 1)) (strTo L I)) (EK.refl w.heap.size ⟨qb,I,none⟩ (.int .i64 dx)) (EK.trans w.heap.size ⟨qb,I,none⟩ (.int .i64 dx)) (by kernel_rfl) (by kernel_rfl) (fun d _ _ _ _ h => by cases d <;> exact h) ?_ ?_
      ·clear HGM hcd
       generalize wr.drew = Wd at *
       iterate 8 (refine f_quiet rfl (fun K hK => ?_);go_simp;refine hK _ ?_;clear hK K)
       clear z0
       have G0:=HG0
       clear HG0
       refine f_alt ?_ ?_
       ·refine f_late rfl rfl (fun K hK => ?_)
        go_simp
        have cA:=box1 Wd (.int .i64 (I : Nat)) 3
        have g1:=Grows.alloc Wd (.cells #[.int .i64 (I : Nat)] 3)
        have nPA:=G0.newP
        have nDA:=G0.newD
        have G1:=G0.grows g1
        have e1 : EK w.heap.size ⟨qb,I,none⟩ (.int .i64 dx) _ _:=⟨EB.of g1 G0.g.size,fun h => g1.cell h⟩
        generalize Wd.alloc (.cells #[.int .i64 (I : Nat)] 3) = u1 at *
        obtain ⟨bA,hbA⟩ : ∃ b,b = Wd.heap.size:=⟨_,rfl⟩
        rw [← hbA] at cA nPA nDA ⊢
        clear hbA
        refine ⟨e1,hK _ _ ?_⟩
        clear hK K e1 g1
        refine f_alt ?_ ?_
        ·refine f_late rfl rfl (fun K hK => ?_)
         refine app_late5 natLay _ _ rfl w.heap.size _ _ I rfl G1.p bA 1 rfl (src1 cA) (by rw [parT_len];omega) G1.g.size ?_
         intro v1 u2 ho2 hk2 hf2
         have e2 : EK w.heap.size ⟨qb,I,none⟩ (.int .i64 dx) _ _:=⟨G1.ebP hk2,fun h => hk2.cell h hnP⟩
         have G2:=G1.appP ho2 hk2 hf2
         refine ⟨e2,hK _ _ ?_⟩
         clear hK K e2 ho2 hk2 hf2
         refine f_late rfl rfl (fun K hK => ?_)
         go_simp
         have cC:=box1 u2 (.int .i64 (d1 : Nat)) 3
         have g3:=Grows.alloc u2 (.cells #[.int .i64 (d1 : Nat)] 3)
         have nPC:=G2.newP
         have nDC:=G2.newD
         have G3:=G2.grows g3
         have e3 : EK w.heap.size ⟨qb,I,none⟩ (.int .i64 dx) _ _:=⟨EB.of g3 G2.g.size,fun h => g3.cell h⟩
         generalize u2.alloc (.cells #[.int .i64 (d1 : Nat)] 3) = u3 at *
         obtain ⟨bC,hbC⟩ : ∃ b,b = u2.heap.size:=⟨_,rfl⟩
         rw [← hbC] at cC nPC nDC ⊢
         clear hbC
         refine ⟨e3,hK _ _ ?_⟩
         clear hK K e3 g3
         refine f_late rfl rfl (fun K hK => ?_)
         refine app_late6 natLay _ _ rfl w.heap.size qb cQ (depT L M) d1 (by rw [HDL.out];rfl) (by rw [HDL.out];exact G3.d) bC 1 rfl (src1 cC) (by rw [HDL.out];omega) G3.g.size ?_
         intro v2 u4 ho4 hk4 hf4 hx4
         rw [HDL.out] at hf4
         have e4 : EK w.heap.size ⟨qb,I,none⟩ (.int .i64 dx) _ _:=⟨G3.ebD hk4,fun _ => hx4 I _ HFL.out⟩
         clear hx4
         have G4:=G3.appD ho4 hk4 hf4
         refine ⟨e4,hK _ _ ?_⟩
         clear hK K e4 ho4 hk4 hf4
         iterate 2 (refine f_quiet rfl (fun K hK => ?_);go_simp;refine hK _ ?_;clear hK K)
         refine f_end ?_
         rw [HP1.out,HD1.out] at G4
         exact ⟨(v1,v2,bA,bC),G4,by simp only [puts,List.foldl];go_simp⟩
        ·refine f_late rfl rfl (fun K hK => ?_)
         go_simp
         have cC:=box1 u1 (.int .i64 (d1 : Nat)) 3
         have g2:=Grows.alloc u1 (.cells #[.int .i64 (d1 : Nat)] 3)
         have nPC:=G1.newP
         have nDC:=G1.newD
         have G2:=G1.grows g2
         have e2 : EK w.heap.size ⟨qb,I,none⟩ (.int .i64 dx) _ _:=⟨EB.of g2 G1.g.size,fun h => g2.cell h⟩
         replace cA:=g2.cell cA
         generalize u1.alloc (.cells #[.int .i64 (d1 : Nat)] 3) = u2 at *
         obtain ⟨bC,hbC⟩ : ∃ b,b = u1.heap.size:=⟨_,rfl⟩
         rw [← hbC] at cC nPC nDC ⊢
         clear hbC
         refine ⟨e2,hK _ _ ?_⟩
         clear hK K e2 g2
         refine f_late rfl rfl (fun K hK => ?_)
         refine app_late5 natLay _ _ rfl w.heap.size _ _ I rfl G2.p bA 1 rfl (src1 cA) (by rw [parT_len];omega) G2.g.size ?_
         intro v1 u3 ho3 hk3 hf3
         have e3 : EK w.heap.size ⟨qb,I,none⟩ (.int .i64 dx) _ _:=⟨G2.ebP hk3,fun h => hk3.cell h hnP⟩
         replace cC:=hk3.cell cC nPC
         have G3:=G2.appP ho3 hk3 hf3
         refine ⟨e3,hK _ _ ?_⟩
         clear hK K e3 ho3 hk3 hf3
         refine f_late rfl rfl (fun K hK => ?_)
         refine app_late6 natLay _ _ rfl w.heap.size qb cQ (depT L M) d1 (by rw [HDL.out];rfl) (by rw [HDL.out];exact G3.d) bC 1 rfl (src1 cC) (by rw [HDL.out];omega) G3.g.size ?_
         intro v2 u4 ho4 hk4 hf4 hx4
         rw [HDL.out] at hf4
         have e4 : EK w.heap.size ⟨qb,I,none⟩ (.int .i64 dx) _ _:=⟨G3.ebD hk4,fun _ => hx4 I _ HFL.out⟩
         clear hx4
         have G4:=G3.appD ho4 hk4 hf4
         refine ⟨e4,hK _ _ ?_⟩
         clear hK K e4 ho4 hk4 hf4
         iterate 2 (refine f_quiet rfl (fun K hK => ?_);go_simp;refine hK _ ?_;clear hK K)
         refine f_end ?_
         rw [HP1.out,HD1.out] at G4
         exact ⟨(v1,v2,bA,bC),G4,by simp only [puts,List.foldl];go_simp⟩
       ·refine f_late rfl rfl (fun K hK => ?_)
        go_simp
        have cC:=box1 Wd (.int .i64 (d1 : Nat)) 3
        have g1:=Grows.alloc Wd (.cells #[.int .i64 (d1 : Nat)] 3)
        have nPC:=G0.newP
        have nDC:=G0.newD
        have G1:=G0.grows g1
        have e1 : EK w.heap.size ⟨qb,I,none⟩ (.int .i64 dx) _ _:=⟨EB.of g1 G0.g.size,fun h => g1.cell h⟩
        generalize Wd.alloc (.cells #[.int .i64 (d1 : Nat)] 3) = u1 at *
        obtain ⟨bC,hbC⟩ : ∃ b,b = Wd.heap.size:=⟨_,rfl⟩
        rw [← hbC] at cC nPC nDC ⊢
        clear hbC
        refine ⟨e1,hK _ _ ?_⟩
        clear hK K e1 g1
        refine f_late rfl rfl (fun K hK => ?_)
        go_simp
        have cA:=box1 u1 (.int .i64 (I : Nat)) 3
        have g2:=Grows.alloc u1 (.cells #[.int .i64 (I : Nat)] 3)
        have nPA:=G1.newP
        have nDA:=G1.newD
        have G2:=G1.grows g2
        have e2 : EK w.heap.size ⟨qb,I,none⟩ (.int .i64 dx) _ _:=⟨EB.of g2 G1.g.size,fun h => g2.cell h⟩
        replace cC:=g2.cell cC
        generalize u1.alloc (.cells #[.int .i64 (I : Nat)] 3) = u2 at *
        obtain ⟨bA,hbA⟩ : ∃ b,b = u1.heap.size:=⟨_,rfl⟩
        rw [← hbA] at cA nPA nDA ⊢
        clear hbA
        refine ⟨e2,hK _ _ ?_⟩
        clear hK K e2 g2
        refine f_late rfl rfl (fun K hK => ?_)
        refine app_late5 natLay _ _ rfl w.heap.size _ _ I rfl G2.p bA 1 rfl (src1 cA) (by rw [parT_len];omega) G2.g.size ?_
        intro v1 u3 ho3 hk3 hf3
        have e3 : EK w.heap.size ⟨qb,I,none⟩ (.int .i64 dx) _ _:=⟨G2.ebP hk3,fun h => hk3.cell h hnP⟩
        replace cC:=hk3.cell cC nPC
        have G3:=G2.appP ho3 hk3 hf3
        refine ⟨e3,hK _ _ ?_⟩
        clear hK K e3 ho3 hk3 hf3
        refine f_late rfl rfl (fun K hK => ?_)
        refine app_late6 natLay _ _ rfl w.heap.size qb cQ (depT L M) d1 (by rw [HDL.out];rfl) (by rw [HDL.out];exact G3.d) bC 1 rfl (src1 cC) (by rw [HDL.out];omega) G3.g.size ?_
        intro v2 u4 ho4 hk4 hf4 hx4
        rw [HDL.out] at hf4
        have e4 : EK w.heap.size ⟨qb,I,none⟩ (.int .i64 dx) _ _:=⟨G3.ebD hk4,fun _ => hx4 I _ HFL.out⟩
        clear hx4
        have G4:=G3.appD ho4 hk4 hf4
        refine ⟨e4,hK _ _ ?_⟩
        clear hK K e4 ho4 hk4 hf4
        iterate 2 (refine f_quiet rfl (fun K hK => ?_);go_simp;refine hK _ ?_;clear hK K)
        refine f_end ?_
        rw [HP1.out,HD1.out] at G4
        exact ⟨(v1,v2,bA,bC),G4,by simp only [puts,List.foldl];go_simp⟩
      ·rintro ⟨v1,v2,b3,b4⟩ wC GC
       simp only [puts,List.foldl]
       try simp only at GC
       clear z0 HG0 HGM hcd
       go_wp2_with fail
       go_roundw
       case rel => exact ⟨M + 1,by omega,by omega,by go_num,GC⟩
       case measure => simp [intOf];omega
     ·obtain rfl : M = O2:=by omega
      have hz : bitOf (shapeL L (nodesA L)) (M + I + 1) = false:=by
       rw [show M + I + 1 = offA L (I + 1) + (I + 1) by have:=HO2.out;omega]
       exact (place_zero (L:=L) (i:=I + 1) (by have:=HN.out;omega)).1
      rw [hz] at CGM
      have CIx:=HCI.out I x wr HX.out HGM.out.g
      have hrk : rankT (isL L (nodesA L)) (I + 1) = rankT (isL L (nodesA L)) I + (if here L x = true then 1 else 0):=by rw [rankT_succ,isL_bit HX.out]
      have hrl : rankT (isL L (nodesA L)) I ≤ I:=rankT_le _ _
      have hidr:=fun (hh : here L x = true) => ids_rank HX.out hh
      obtain ⟨K,hK⟩ : ∃ K,K = rankT (isL L (nodesA L)) I:=⟨_,rfl⟩
      rw [← hK] at hrk hrl hidr ⊢
      have HRK:=Lib.hid hrk
      have HIDR:=Lib.hid hidr
      have HAT : Hid ((M + I + 1 + 1 : Nat) = offA L (I + 1) + (I + 1) + 1):=by show _ = _;have:=HO2.out;omega
      have HMN : Hid (M ≤ (nodesA L).length):=hOle
      clear hz hrk hidr hK hos hOle hOO hM2 hM
      go_wp2_with fail
      refine CGM.out.mono ?_
      rintro e w9 ⟨rfl,rfl⟩
      clear CGM
      go_wp2_with fail
      refine CIx.out.mono ?_
      rintro e w10 ⟨rfl,rfl⟩
      clear CIx
      cases hh : here L x with
      | false =>
       have HH:=Lib.hid hh
       clear hh
       go_wp2_with fail
       go_roundw
       case rel => exact ⟨I + 1,hlt,by go_num,by rw [← HAT.out];go_num,by rw [HRK.out,HH.out];go_num,by have h:=HGM.out;rw [HO2.out] at h;rw [HOK.out.strTo_no HX.out HH.out];exact h⟩
       case measure => simp [intOf];omega
      | true =>
       have HH:=Lib.hid hh
       clear hh
       have hid:=HIDR.out HH.out
       have CPx:=HCP.out K x.i wr hid HGM.out.g
       have hLx : L[x.i]? = some (spanS L x):=(HOK.out.here_at HX.out x.i).2 ⟨HH.out,rfl⟩
       have hxi : x.i < NL:=by rw [HNL.out];exact (List.getElem?_eq_some_iff.1 hLx).1
       obtain ⟨X0,hX0⟩ : ∃ X0,X0 = x.i:=⟨_,rfl⟩
       rw [← hX0] at CPx hxi
       have HX0:=Lib.hid hX0
       have hxn : ¬ (NL : Int) ≤ X0:=by omega
       have hxlt : (X0 : Int) < NL:=by omega
       have uNL : IntKind.u64.wrap (NL : Int) = NL:=by simp [IntKind.wrap,IntKind.bits,IntKind.signed];omega
       have wX0 : IntKind.i64.wrap (X0 : Int) = X0:=wrapB (by omega)
       have hd6 : ¬ (256 : Int) < dx:=by omega
       have hmk:=fun (Y : World) => mkU8 dx Y (by omega)
       clear hid hLx hX0
       go_wp2_with fail
       refine CPx.out.mono ?_
       rintro e w11 ⟨rfl,hg11⟩
       have HG11:=Lib.hid (HGM.out.grows hg11)
       clear CPx
       have hdp : (depT L M)[I]? = some dx:=by rw [depT_get (by omega) HX.out,HDX.out]
       have HDL : Hid ((depT L M).length = M):=depT_len HMN.out
       obtain ⟨qb,cQ,hvQ,_⟩:=own_form HG11.out.d (by rw [HDL.out];omega)
       rw [HDL.out] at hvQ
       subst hvQ
       have hcd : w11.cell? ⟨qb,I,none⟩ = some (.int .i64 dx):=own_cell1 (f:=fun n : Nat => Value.int .i64 n) HG11.out.d hdp
       obtain ⟨ab,cP2,hvP,_⟩:=own_form HG11.out.p (by rw [parT_len];omega)
       rw [parT_len] at hvP
       subst hvP
       have hIM : (I : Int) < M:=by omega
       clear hdp
       go_wp2_with fail
       obtain ⟨bb,hbb⟩ : ∃ q,q = w11.heap.size:=⟨_,rfl⟩
       obtain ⟨WU,hWU⟩ : ∃ W,W = w11.alloc (.cells (madeCells #[.int .u8 0] dx) 5):=⟨_,rfl⟩
       have hgU : Grows w11 WU:=by rw [hWU];exact Grows.alloc _ _
       have hbO : Owns WU bb 5 1 byteC (.slice (some ⟨bb,0,none⟩) dx dx) (List.replicate dx 0):=by
        have h:=madeU8 (w:=w11) (n:=dx) (by omega)
        rw [Nat.mul_one,← hWU,← hbb] at h
        exact h
       rw [← hWU,← hbb]
       have hz1 : decide (NL ≤ X0) = false:=by simp;omega
       have hz2 : decide ((NL : Int) ≤ X0) = false:=by simp;omega
       have hz3 : decide ((256 : Int) < dx) = false:=by simp;omega
       try rw [hz1]
       try rw [hz2]
       try rw [hz3]
       try rw [show (false || false) = false from rfl]
       clear hz1 hz2 hz3
       have HBB : Hid (w11.heap.size ≤ bb):=Nat.le_of_eq hbb.symm
       have HAB : Hid (ab < w11.heap.size):=own_lt HG11.out.p ab rfl
       clear hWU hbb hcd hmk HGM
       obtain ⟨u1,rfl⟩ : ∃ u1,u1 = wr:=⟨_,rfl⟩
       go_loopw [20] (fun vX wx => ∃ (X : Nat) (y : Span) (tl : List UInt8),vX = .int .i64 X∧X ≤ I∧Hid ((nodesA L)[X]? = some y∧spanS L y ++ tl = spanS L x)∧Hid (Owns wx bb 5 1 byteC (.slice (some ⟨bb,0,none⟩) dx dx) (List.replicate y.d 0 ++ tl))∧Hid (Grows w11 wx)) (fun vX _ => (intOf vX).toNat)
       case atStart => exact ⟨I,x,[],rfl,Nat.le_refl _,⟨HX.out,List.append_nil _⟩,by rw [List.append_nil,← HDX.out];exact hbO,hgU⟩
       case round =>
        clear hbO hgU
        obtain ⟨X,y,tl,rfl,hXI,hN,hB,hG⟩:=hrel
        have HGX:=Lib.hid (HG11.out.grows hG.out)
        by_cases hX : 0 < X
        ·obtain ⟨z,c,hz,hpX,hc,hs,hd⟩:=HOK.out.climb hX hN.out.1
         have hX0i : (0 : Int) < X:=by omega
         obtain ⟨X1,hX1⟩ : ∃ q,q = X - 1:=⟨_,rfl⟩
         rw [← hX1] at hc
         have hX1l : X1 < LL:=by rw [HLL.out];exact (List.getElem?_eq_some_iff.1 hc).1
         have hXl : (X : Int) ≤ LL:=by omega
         have hX1i : (X1 : Int) < LL:=by omega
         obtain ⟨lb2,lo,rfl,hcl⟩:=at1 (f:=fun b : UInt8 => Value.int .u8 b.toNat) (HLAB.out.grows HGX.out.g) (List.ne_nil_of_mem (List.mem_of_getElem? hc))
         have hcc:=hcl X1 c hc
         obtain ⟨dy,hdy⟩ : ∃ q,q = y.d:=⟨_,rfl⟩
         obtain ⟨pX,hpx⟩ : ∃ q,q = parN L X:=⟨_,rfl⟩
         have hdX : wr.cell? ⟨qb,X,none⟩ = some (.int .i64 dy):=own_cell1 (f:=fun n : Nat => Value.int .i64 n) HGX.out.d (by rw [depT_get (show X < M by omega) hN.out.1,hdy])
         have hpc : wr.cell? ⟨ab,X,none⟩ = some (.int .i64 pX):=own_cell1 (f:=fun n : Nat => Value.int .i64 n) HGX.out.p (by rw [parT_get (show X < M by omega),hpx])
         have hXM : (X : Int) < M:=by omega
         obtain ⟨d2,hd2⟩ : ∃ q,q = z.d:=⟨_,rfl⟩
         have hdd : dy = d2 + 1:=by rw [hdy,hd,hd2]
         have wX1 : IntKind.i64.wrap ((X : Int) - 1) = X1:=by have:=wrapB (x:=X1) (by omega);rw [← this];congr 1;omega
         have hrl : (List.replicate y.d (0 : UInt8) ++ tl).length = dx:=by
          obtain ⟨_,_,he,_⟩:=hB.out.at_ byteLay.len
          injection he with _ h2 _
          exact h2.symm
         have hdl : y.d ≤ dx:=by rw [← hrl,List.length_append,List.length_replicate];omega
         have wd2 : IntKind.i64.wrap ((dy : Int) - 1) = d2:=by have:=wrapB (x:=d2) (by omega);rw [← this];congr 1;omega
         have hd2x : (d2 : Int) < dx:=by omega
         have hB2:=hB.out.grows (Grows.drew wr)
         have hbc : wr.drew.cell? ⟨bb,d2,none⟩ = some (.int .u8 ((0 : UInt8).toNat : Nat)):=own_cell1 (f:=fun b : UInt8 => Value.int .u8 b.toNat) hB2 (by rw [List.getElem?_append_left (by rw [List.length_replicate];omega),List.getElem?_replicate,if_pos (by omega)])
         obtain ⟨hfr,_,hset⟩:=owns_set1 (f:=fun b : UInt8 => Value.int .u8 b.toNat) hB2 (k:=d2) (by rw [hrl];omega) c
         have HSET : Hid (Owns (wr.drew.setCell ⟨bb,d2,none⟩ (.int .u8 (c.toNat : Nat))) bb 5 1 byteC (.slice (some ⟨bb,0,none⟩) dx dx) (List.replicate z.d 0 ++ (c :: tl))):=by
          have e : (List.replicate y.d (0 : UInt8) ++ tl).set d2 c = List.replicate z.d 0 ++ (c :: tl):=by rw [hd,hd2];exact climb_row
          rw [e] at hset
          exact hset
         have hpc2 : (wr.setCell ⟨bb,d2,none⟩ (.int .u8 (c.toNat : Nat))).cell? ⟨ab,X,none⟩ = some (.int .i64 pX):=(World.cell?_setCell_other _ _ _ _ (fun h => by have h1:=congrArg Addr.block h;simp only at h1;have h2:=HAB.out;have h3:=HBB.out;omega)).trans hpc
         have HN2 : Hid ((nodesA L)[pX]? = some z∧spanS L z ++ (c :: tl) = spanS L x):=⟨by rw [hpx];exact hz,by rw [← hN.out.2,hs];simp⟩
         have hpXX : pX < X:=by rw [hpx];exact hpX
         have HG2 : Hid (Grows w11 (wr.drew.setCell ⟨bb,d2,none⟩ (.int .u8 (c.toNat : Nat)))):=hG.out.dr.set HBB.out _
         have z0 : ∀ q : Ext Grows wr.drew,q.u.cell? ⟨qb,X,none⟩ = some (.int .i64 dy):=ext_cell ((Grows.drew wr).cell hdX)
         have z1 : ∀ q : Ext Grows wr.drew,q.u.cell? ⟨lb2,lo + X1,none⟩ = some (.int .u8 (c.toNat : Nat)):=ext_cell ((Grows.drew wr).cell hcc)
         obtain ⟨cc,hcc2⟩ : ∃ q : Nat,q = c.toNat:=⟨_,rfl⟩
         rw [← hcc2] at z1 HG2 hpc2 HSET
         clear hz hpX hc hs hd hX1 hcl hcc hdy hpx hdX hpc hd2 hdd hrl hdl hB2 hset hN hB hG hX1l hcc2
         go_wp2_with fail
         refine t_tail (Grows) 12 [(0,false),(1,false),(2,false),(3,false),(4,false),(5,false),(6,false),(7,false),(8,false),(9,false),(10,false),(11,false)] Grows.refl Grows.trans (by kernel_rfl) (by kernel_rfl) (fun d _ _ _ _ h => by cases d <;> exact h) ?_
         iterate 12 (refine t_quiet rfl (fun K hK => ?_);go_simp;refine hK _ ?_;clear hK K)
         refine t_end ?_
         simp only [List.drop_succ_cons,List.drop_zero]
         clear z0 z1
         go_wp2_with fail
         go_roundw
         case rel => exact ⟨pX,z,c :: tl,by go_num,by omega,HN2.out,HSET.out,HG2.out⟩
         case measure => simp [intOf];omega
        ·obtain rfl : X = 0:=by omega
         have hy : y = rootS L:=by
          have h1:=hN.out.1
          rw [HOK.out.root0] at h1
          exact (Option.some.inj h1).symm
         have hrow : List.replicate y.d (0 : UInt8) ++ tl = spanS L x:=by
          rw [← hN.out.2,hy];simp [spanS,rootS]
         have hB3:=hB.out
         rw [hrow] at hB3
         have hconv:=conv_owns hB3
         have hsl : X0 < (strTo L I).length:=by rw [strTo_len,← HNL.out];exact hxi
         obtain ⟨s0,hs0⟩ : ∃ s0,(strTo L I)[X0]? = some s0:=⟨_,List.getElem?_eq_getElem hsl⟩
         have hsc : wr.cell? ⟨lb,X0,none⟩ = some (.string s0):=own_cell1 (f:=fun s : ByteArray => Value.string s) HGX.out.s hs0
         obtain ⟨hfr,hGS⟩:=HGX.out.setS hsl (mkB (spanS L x))
         have e1 : parT L M = parT L (offA L (I + 1)):=by rw [← HO2.out]
         have e2 : depT L M = depT L (offA L (I + 1)):=by rw [← HO2.out]
         have e3 : (strTo L I).set X0 (mkB (spanS L x)) = strTo L (I + 1):=by rw [HX0.out];exact (HOK.out.strTo_yes HX.out HH.out).symm
         rw [e1,e2,e3] at hGS
         clear e1 e2 e3
         have HGS:=Lib.hid hGS
         generalize mkB (spanS L x) = sx at hconv HGS
         clear hGS hs0 hsl hB3 hrow hy hN hB hG
         go_wp2_with fail
         go_roundw
         case rel => exact ⟨I + 1,hlt,by go_num,by rw [← HAT.out];go_num,by rw [HRK.out,HH.out];go_num,HGS.out⟩
         case measure => simp [intOf];omega
   ·obtain rfl : I = n:=by omega
    have hS:=HG.out.s
    rw [HOK.out.strTo_all (m:=I) (by have:=HN.out;omega)] at hS
    have hG:=HG.out.g
    clear HG
    go_wp2
    go_ret2
    exact ⟨_,rfl,hS,hG⟩
end Go.Proofs.YtepoiefadjoabaaGreatDoor
