import Derived.Test.YtepoiefadjoabaaGreatDoorQ48
import Derived.Test.YtepoiefadjoabaaGreatDoorQ25
import Derived.Test.YtepoiefadjoabaaGreatDoorQ41
namespace Go.Proofs.YtepoiefadjoabaaGreatDoor
open Go Go.RowKit Go.Shelf
attribute [local go_sem] quietE quietE2

theorem pposInfo : ∃ i, Tryz.prog.info? 60 = some i ∧ i.zero = some (.agg #[.string ⟨#[]⟩, .int .i64 0]) ∧ i.size = 2 ∧ i.bytes = 24 := by
 have h : (Tryz.prog.info? 60).map (fun i => (i.zero,i.size,i.bytes)) = some (some (.agg #[.string ⟨#[]⟩,.int .i64 0]),2,24):=by kernel_rfl
 cases hi : Tryz.prog.info? 60 with
 | none => rw [hi] at h;cases h
 | some i =>
  rw [hi] at h
  simp only [Option.map_some,Option.some.injEq,Prod.mk.injEq] at h
  exact ⟨i,rfl,h.1,h.2.1,h.2.2⟩
theorem mkPos (n : Nat) (W : World) (hn : n ≤ 1048576) : (Instr.makeSlice 22 (.int .i64 n) (.int .i64 n)).run Tryz.prog W = .ok (.slice (some ⟨W.heap.size, 0, none⟩) n n) (W.alloc (.cells (madeCells #[.string ⟨#[]⟩, .int .i64 0] (n * 2)) 60)) := by
 obtain ⟨i,h1,h2,h3,h4⟩:=pposInfo
 have h:=run_make (P:=Tryz.prog) W 22 60 i (.agg #[.string ⟨#[]⟩,.int .i64 0]) Tryz.underlying22 h1 h2 .i64 .i64 n n (by omega) (Int.le_refl _) (by rw [h4];omega) (by omega)
 rw [Int.toNat_natCast,h3] at h
 exact h
theorem made_pos (W : World) (n : Nat) : AtCells (W.alloc (.cells (madeCells #[.string ⟨#[]⟩, .int .i64 0] (n * 2)) 60)) (some ⟨W.heap.size, 0, none⟩) 2 ((List.replicate n (⟨⟨#[]⟩, 0⟩ : PosV)).map posCells) := fun _ => ⟨W.heap.size, 0, rfl, fun i row hi j u hj => by
 rw [List.getElem?_map,List.getElem?_replicate] at hi
 split at hi
 ·rename_i hin
  obtain rfl : posCells ⟨⟨#[]⟩,0⟩ = row:=by simpa using hi
  refine cell_box W _ _ (0,0) _ u ?_
  have hj2 : j < 2:=by have:=(List.getElem?_eq_some_iff.1 hj).1;simpa [posCells] using this
  rw [Nat.zero_add]
  unfold madeCells
  rw [Array.getElem?_map,Array.getElem?_range]
  rw [if_pos (by omega)]
  match j,hj2 with
  | 0,_ =>
   simp [posCells] at hj
   subst hj
   simp [show (i * 2) % 2 = 0 by omega]
  | 1,_ =>
   simp [posCells] at hj
   subst hj
   simp [show (i * 2 + 1) % 2 = 1 by omega]
 ·cases hi⟩
theorem rnewV (n : Nat) (d : Int) (w : World) : Calls Tryz.prog 15 #[.int .i64 n, .int .i64 d] w fun e w' => ∃ v, e = .returned v ∧ RefV w' v (if newB n d then some (newM n d) else none) ∧ Grows w w' := by
 cases hb : newB n d with
 | false => exact (rnew_bad n d w hb).mono fun e w' ⟨h1,h2⟩ => ⟨_,h1,rfl,by rw [h2];exact Grows.refl _⟩
 | true => exact (rnew_any n d w hb).mono fun e w' ⟨h1,h2,h3⟩ => ⟨_,h1,⟨_,rfl,h2⟩,h3⟩
set_option maxHeartbeats 8000000 in
set_option maxRecDepth 100000 in
theorem sizes_of (HW : ∀ W, Env W → Calls Tryz.prog 12 #[] W fun e w' => e = .returned (.bool true) ∧ Grows W w')
  (x : SrcV) (n : Int) (A : SrcA) (w : World) (he : Env w) (hok : SrcOK x) (hat : SrcAt w A x) :
  Calls Tryz.prog 4 #[A.agg x,.int .i64 n] w fun e w' => e = .returned (.bool true)∧Grows w w':=by
 have hok0:=Lib.hid hok
 obtain ⟨pa,pc,sa,sc,ea,ec⟩:=A
 obtain ⟨xp,xd,xs,xe⟩:=x
 obtain ⟨W0,hW0⟩ : ∃ W0,W0 = w.alloc (.cells #[.slice pa xp.length pc,.int .i64 xd,.slice sa xs.length sc,.slice ea xe.length ec] 26):=⟨_,rfl⟩
 have hg0 : Grows w W0:=by rw [hW0];exact Grows.alloc _ _
 have hbx:=fun j u h => cell_box w #[.slice pa xp.length pc,.int .i64 xd,.slice sa xs.length sc,.slice ea xe.length ec] 26 (0,0) j u h
 rw [← hW0] at hbx
 have q0:=hbx 0 _ rfl
 have q1:=hbx 1 _ rfl
 have q2:=hbx 2 _ rfl
 have q3:=hbx 3 _ rfl
 have HQ:=Lib.hid (And.intro q0 (And.intro q1 (And.intro q2 q3)))
 have HSA:=Lib.hid (hat.grows hg0)
 have HG0:=Lib.hid hg0
 clear hbx
 have HE:=Lib.hid he
 have CW:=fun W (h : Grows w W) => Lib.hid (HW W (he.grows h))
 have CL:=Lib.hid (light_any ⟨xp,xd,xs,xe⟩ ⟨pa,pc,sa,sc,ea,ec⟩ W0 hok0.out HSA.out)
 unfold SrcA.agg SrcA.cells at CL
 simp only at CL
 show Calls _ _ #[.agg #[.slice pa xp.length pc,.int .i64 xd,.slice sa xs.length sc,.slice ea xe.length ec],.int .i64 n] _ _
 cases hl : lightS ⟨xp,xd,xs,xe⟩ with
 | false =>
  rw [hl] at CL
  go_enter Tryz.func4,Tryz.ntmps4
  go_wp2_with fail
  rw [← hW0]
  clear hW0
  refine CL.out.mono ?_
  rintro e w1 ⟨rfl,hg1⟩
  go_wp2
  go_ret
  exact ⟨rfl,Grows.trans _ _ _ HG0.out hg1⟩
 | true =>
  rw [hl] at CL
  go_enter Tryz.func4,Tryz.ntmps4
  go_wp2_with fail
  rw [← hW0]
  clear hW0
  refine CL.out.mono ?_
  rintro e w1 ⟨rfl,hg1⟩
  clear CL q0 q1 q2 q3
  obtain ⟨N,hN,hN70⟩ : ∃ N : Nat,max 0 (min n 70) = (N : Int)∧N ≤ 70:=⟨(max 0 (min n 70)).toNat,by omega,by omega⟩
  have hmk:=fun (Y : World) => mkPos N Y (by omega)
  go_wp2_with fail
  have z0 : ∀ x : Ext Grows w1.drew,x.u.cell? ⟨w.heap.size,0,none⟩ = some (.slice pa xp.length pc):=ext_cell (hg1.dr.cell HQ.out.1)
  have z1 : ∀ x : Ext Grows w1.drew,x.u.cell? ⟨w.heap.size,1,none⟩ = some (.int .i64 xd):=ext_cell (hg1.dr.cell HQ.out.2.1)
  have z3 : ∀ x : Ext Grows w1.drew,x.u.cell? ⟨w.heap.size,3,none⟩ = some (.slice ea xe.length ec):=ext_cell (hg1.dr.cell HQ.out.2.2.2)
  refine t_region (Grows) [(0,false),(1,false),(2,false),(3,false),(4,false),(6,false),(7,false),(10,false),(11,false),(5,true),(8,false),(9,true),(12,true),(13,false),(14,false),(15,false),(16,false),(17,false)] Grows.refl Grows.trans (by kernel_rfl) (by kernel_rfl) (fun d _ _ _ _ h => by cases d <;> exact h) ?_
  iterate 9 (refine t_quiet rfl (fun K hK => ?_);go_simp;refine hK _ ?_;clear hK K)
  clear z0 z1 z3
  refine t_late rfl rfl (fun K hK => ?_)
  go_simp
  refine ⟨Grows.alloc _ _,hK _ _ ?_⟩
  clear hK K
  obtain ⟨W2,hW2⟩ : ∃ W,W = w1.drew.alloc (.cells (madeCells #[.string ⟨#[]⟩,.int .i64 0] (N * 2)) 60):=⟨_,rfl⟩
  obtain ⟨nb,hnb⟩ : ∃ q,q = w1.drew.heap.size:=⟨_,rfl⟩
  have hg2 : Grows w1.drew W2:=by rw [hW2];exact Grows.alloc _ _
  have hmp : AtCells W2 (some ⟨nb,0,none⟩) 2 ((List.replicate N (⟨⟨#[]⟩,0⟩ : PosV)).map posCells):=by rw [hW2,hnb];exact made_pos _ N
  have hE : W2 = (w1.alloc (.cells (madeCells #[.string ⟨#[]⟩,.int .i64 0] (N * 2)) 60)).drew:=hW2
  have hnb2 : nb = w1.heap.size:=hnb
  rw [← hE,← hnb2]
  have hgw2 : Grows W0 W2:=Grows.trans _ _ _ hg1 (Grows.trans _ _ _ (Grows.drew w1) hg2)
  obtain ⟨LP,hLP⟩ : ∃ l,l = List.replicate N (⟨⟨#[]⟩,0⟩ : PosV):=⟨_,rfl⟩
  have hLl : LP.length = N:=by rw [hLP];exact List.length_replicate
  rw [← hLP] at hmp
  obtain ⟨SM,hSM⟩ : ∃ m,m = srcM ⟨LP,xd,[],[]⟩:=⟨_,rfl⟩
  have hSM2 : (if newB N xd then some (newM N xd) else none) = SM:=by rw [hSM];unfold srcM;simp only [hLl];rfl
  have CM:=Lib.hid (matrix_any ⟨LP,xd,[],[]⟩ ⟨some ⟨nb,0,none⟩,N,none,0,none,0⟩ W2 ⟨fun y hy => by rw [hLP] at hy;rw [List.eq_of_mem_replicate hy];decide,fun y hy => by (cases hy),fun y hy => by (cases hy),hok0.out.d,by simp only [hLl];omega,by simp,by simp⟩ ⟨hmp,AtCells.nil _ _ _,AtCells.nil _ _ _⟩)
  rw [← hSM] at CM
  unfold SrcA.agg SrcA.cells at CM
  simp only [hLl,List.length_nil] at CM
  obtain ⟨_,h400,h70,h300,hx300⟩:=lightS_of hl
  obtain ⟨_,hB2,hB3⟩:=srcB hl hok0.out
  have HB2 : Hid (∀ y ∈ xe,y.r.size ≤ 1099511627776∧y.s.size ≤ 1099511627776):=hB2
  have HB3 : Hid (∀ y ∈ xp,y.name.size ≤ 9223372036854775807):=hB3
  replace h70 : xp.length ≤ 70:=h70
  replace hx300 : xe.length ≤ 300:=hx300
  have CB:=fun (W : World) (mv : Value) (m : Option Mx) (h : Grows W0 W) (hm : MatV W mv m) => Lib.hid (bbuild_any xp mv m xe pa ea pc ec W (HE.out.grows (Grows.trans _ _ _ HG0.out h)) (by omega) (by omega) hok0.out.e HB2.out (HSA.out.p.grows h) hm (HSA.out.e.grows h))
  have CR:=fun (p : Option Addr) (c : Nat) (mv : Value) (W : World) (h : Grows W0 W) (hp : AtCells W p 2 (xp.map posCells)) (hm : RefV W mv SM) => Lib.hid (rbuild_any xp mv SM xe p ea c ec W (by omega) HB3.out hx300 HB2.out hp hm (HSA.out.e.grows h))
  have CP:=fun (W : World) (h : Grows W0 W) => Lib.hid (positions_any xp pa pc W (by omega) (HSA.out.p.grows h))
  have CV:=fun (p : Option Addr) (c : Nat) (W : World) (hp : AtCells W p 2 (xp.map posCells)) => Lib.hid (valid2_any xp p c W hp (by omega) HB3.out)
  have CNW:=fun (W : World) => Lib.hid (rnewV N xd W)
  rw [hSM2] at CNW
  clear hl hat hok he hE hW2 hnb hnb2 hmp hLP hLl hSM hSM2 h400 h300 hB2 hB3 hg2 hg0 hmk
  iterate 1 (refine t_quiet rfl (fun K hK => ?_);go_simp;refine hK _ ?_;clear hK K)
  refine t_late rfl rfl (fun K hK => ?_)
  go_simp
  refine (CM.out).mono ?_
  rintro e w3 ⟨mv,rfl,hm3,hg3⟩
  refine ⟨hg3,hK _ _ ?_⟩
  clear hK K
  have hgw3:=Grows.trans _ _ _ hgw2 hg3
  refine t_late rfl rfl (fun K hK => ?_)
  go_simp
  refine ((CB w3 mv SM hgw3 hm3).out).mono ?_
  rintro e w4 ⟨hg4,v4,rfl,hv4⟩
  refine ⟨hg4,hK _ _ ?_⟩
  clear hK K
  iterate 5 (refine t_quiet rfl (fun K hK => ?_);go_simp;refine hK _ ?_;clear hK K)
  refine t_end ?_
  have hgw4:=Grows.trans _ _ _ hgw3 hg4
  clear CM hgw2 hgw3 hm3 hg3 hg4 hg1
  obtain ⟨EB,hEB⟩ : ∃ b,b = buildB xp SM xe:=⟨_,rfl⟩
  have HEB:=Lib.hid hEB
  rw [← hEB] at hv4 ⊢
  obtain ⟨f,img⟩:=EB
  simp only at hv4
  obtain ⟨b4,d4,rfl,_,_,hat4⟩:=hv4.at_ byteLay.len
  clear hv4 hEB
  go_wp2_with fail
  have z0 : ∀ x : Ext Grows w4.drew,x.u.cell? ⟨w.heap.size,0,none⟩ = some (.slice pa xp.length pc):=ext_cell (hgw4.dr.cell HQ.out.1)
  have z1 : ∀ x : Ext Grows w4.drew,x.u.cell? ⟨w.heap.size,1,none⟩ = some (.int .i64 xd):=ext_cell (hgw4.dr.cell HQ.out.2.1)
  have z3 : ∀ x : Ext Grows w4.drew,x.u.cell? ⟨w.heap.size,3,none⟩ = some (.slice ea xe.length ec):=ext_cell (hgw4.dr.cell HQ.out.2.2.2)
  refine t_region (Grows) [(0,false),(1,false),(3,false),(4,false),(5,false),(6,false),(7,false),(9,false),(10,false),(2,true),(8,true),(11,true),(12,false),(13,false),(14,false),(15,false),(16,false)] Grows.refl Grows.trans (by kernel_rfl) (by kernel_rfl) (fun d _ _ _ _ h => by cases d <;> exact h) ?_
  iterate 9 (refine t_quiet rfl (fun K hK => ?_);go_simp;refine hK _ ?_;clear hK K)
  clear z0 z1 z3
  refine t_late rfl rfl (fun K hK => ?_)
  go_simp
  refine ((CP w4.drew hgw4.dr).out).mono ?_
  rintro e w5 ⟨p5,c5,rfl,hp5,hg5⟩
  refine ⟨hg5,hK _ _ ?_⟩
  clear hK K
  have hgw5:=Grows.trans _ _ _ hgw4.dr hg5
  refine t_late rfl rfl (fun K hK => ?_)
  go_simp
  refine ((CNW w5).out).mono ?_
  rintro e w6 ⟨rv,rfl,hm6,hg6⟩
  refine ⟨hg6,hK _ _ ?_⟩
  clear hK K
  have hgw6:=Grows.trans _ _ _ hgw5 hg6
  refine t_late rfl rfl (fun K hK => ?_)
  go_simp
  refine ((CR p5 c5 rv w6 hgw6 (hp5.grows hg6) hm6).out).mono ?_
  rintro e w7 ⟨hg7,v7,rfl,hv7⟩
  refine ⟨hg7,hK _ _ ?_⟩
  clear hK K
  iterate 5 (refine t_quiet rfl (fun K hK => ?_);go_simp;refine hK _ ?_;clear hK K)
  refine t_end ?_
  have hgw7:=Grows.trans _ _ _ hgw6 hg7
  have HA4:=Lib.hid (hat4.grows (Grows.trans _ _ _ (Grows.drew w4) (Grows.trans _ _ _ hg5 (Grows.trans _ _ _ hg6 hg7))))
  rw [← HEB.out] at hv7 ⊢
  simp only at hv7
  obtain ⟨b7,d7,rfl,_,_,hat7⟩:=hv7.at_ byteLay.len
  have HA7:=Lib.hid hat7
  have q0:=hgw7.cell HQ.out.1
  have q3:=hgw7.cell HQ.out.2.2.2
  have CB3:=CB w7 (.pointer none) none hgw7 rfl
  clear CR CNW hgw4 hgw5 hgw6 hp5 hm6 hg5 hg6 hg7 hv7 hat7 hat4 CB
  go_wp2_with fail
  refine CB3.out.mono ?_
  rintro e w8 ⟨hg8,v8,rfl,hv8⟩
  clear q0 q3 CB3
  have hgw8:=Grows.trans _ _ _ hgw7 hg8
  have q0:=hgw8.cell HQ.out.1
  have hbn : buildB xp none xe = (if posValid xp = false then 5 else 9,[]):=by
   unfold buildB chkB
   cases posValid xp <;> rfl
  cases hv : posValid xp with
  | false =>
   have hbn2 : buildB xp none xe = (5,[]):=by rw [hbn,hv];rfl
   rw [hbn2] at hv8 ⊢
   simp only at hv8
   obtain ⟨b8,d8,rfl,_,_,_⟩:=hv8.at_ byteLay.len
   clear hv8 hbn hbn2
   have CP8:=CP w8 hgw8
   go_wp2_with fail
   refine CP8.out.mono ?_
   rintro e w9 ⟨p9,c9,rfl,hp9,hg9⟩
   have CV9:=CV p9 c9 w9 hp9
   have hgw9:=Grows.trans _ _ _ hgw8 hg9
   clear q0 CP8 hp9
   rw [hv] at CV9
   clear hv
   go_wp2_with fail
   refine CV9.out.mono ?_
   rintro e w10 ⟨rfl,hg10⟩
   have hgw10:=Grows.trans _ _ _ hgw9 hg10
   have hg710:=Grows.trans _ _ _ hg8 (Grows.trans _ _ _ hg9 hg10)
   have v4 : (convert 28 9 (.slice b4 img.length d4)).run Tryz.prog w10 = .ok (.string (mkB img)) w10:=conv_at2 (HA4.out.grows hg710)
   have v7 : (convert 28 9 (.slice b7 img.length d7)).run Tryz.prog w10 = .ok (.string (mkB img)) w10:=conv_at2 (HA7.out.grows hg710)
   have e1 : ((mkB img).toList == (mkB img).toList) = true:=by simp
   have CW10:=CW w10 (Grows.trans _ _ _ HG0.out hgw10)
   go_wp2_with fail
   refine CW10.out.mono ?_
   rintro e w11 ⟨rfl,hg11⟩
   go_wp2
   go_ret
   exact ⟨rfl,Grows.trans _ _ _ HG0.out (Grows.trans _ _ _ hgw10 hg11)⟩
  | true =>
   have hbn2 : buildB xp none xe = (9,[]):=by rw [hbn,hv];rfl
   rw [hbn2] at hv8 ⊢
   simp only at hv8
   obtain ⟨b8,d8,rfl,_,_,_⟩:=hv8.at_ byteLay.len
   clear hv8 hbn hbn2
   have CP8:=CP w8 hgw8
   go_wp2_with fail
   refine CP8.out.mono ?_
   rintro e w9 ⟨p9,c9,rfl,hp9,hg9⟩
   have CV9:=CV p9 c9 w9 hp9
   have hgw9:=Grows.trans _ _ _ hgw8 hg9
   clear q0 CP8 hp9
   rw [hv] at CV9
   clear hv
   go_wp2_with fail
   refine CV9.out.mono ?_
   rintro e w10 ⟨rfl,hg10⟩
   have hgw10:=Grows.trans _ _ _ hgw9 hg10
   have hg710:=Grows.trans _ _ _ hg8 (Grows.trans _ _ _ hg9 hg10)
   have v4 : (convert 28 9 (.slice b4 img.length d4)).run Tryz.prog w10 = .ok (.string (mkB img)) w10:=conv_at2 (HA4.out.grows hg710)
   have v7 : (convert 28 9 (.slice b7 img.length d7)).run Tryz.prog w10 = .ok (.string (mkB img)) w10:=conv_at2 (HA7.out.grows hg710)
   have e1 : ((mkB img).toList == (mkB img).toList) = true:=by simp
   have CW10:=CW w10 (Grows.trans _ _ _ HG0.out hgw10)
   go_wp2_with fail
   refine CW10.out.mono ?_
   rintro e w11 ⟨rfl,hg11⟩
   go_wp2
   go_ret
   exact ⟨rfl,Grows.trans _ _ _ HG0.out (Grows.trans _ _ _ hgw10 hg11)⟩
end Go.Proofs.YtepoiefadjoabaaGreatDoor
