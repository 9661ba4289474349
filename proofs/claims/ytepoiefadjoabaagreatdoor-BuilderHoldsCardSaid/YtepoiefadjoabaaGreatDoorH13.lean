/- The texts Mat Mat2 MatSetP RefM RefM2, one behind the other. -/
import Derived.Test.YtepoiefadjoabaaGreatDoorH3
import Derived.Test.YtepoiefadjoabaaGreatDoorH12
import Derived.Sort.KeysCollected
import Derived.Test.YtepoiefadjoabaaGreatDoorH2
import Derived.OneCell
namespace Go.Proofs.YtepoiefadjoabaaGreatDoor
open Go Go.RowKit
attribute [local go_sem] quietE
theorem zeroI2 (w : World) : (zeroValue 3).run Tryz.prog w = .ok (.int .i64 0) w := by kernel_rfl
theorem nodup_sub_len {α : Type} [DecidableEq α] : ∀ {l l' : List α}, l.Nodup → (∀ x ∈ l, x ∈ l') → l.length ≤ l'.length
 | [],_,_,_ => Nat.zero_le _
 | x :: r,l',hn,hs => by
  obtain ⟨h1,h2⟩:=List.nodup_cons.1 hn
  have hx:=hs x (by simp)
  have hr:=nodup_sub_len (l':=l'.erase x) h2 fun y hy => (List.mem_erase_of_ne (fun (e : y = x) => h1 (by rw [← e];exact hy))).2 (hs y (by simp [hy]))
  rw [List.length_erase_of_mem hx] at hr
  have:=List.length_pos_of_mem hx
  simp only [List.length_cons]
  omega
theorem own_tight {H : Type} {P : Program} {k : TypeId} {R : Value → Option (DataW H × List MemPlace)} {w : World} {b n : Nat} {D : DataW H} (h : w.ownsMap P k R b n D) : w.ownsMap P k R b (Maps.size D) D := by
 obtain ⟨es,clock,h1,h2,h3,rfl⟩:=h
 exact ⟨es,clock,h1,h2,by simp [Maps.size,length_sorted],rfl⟩
theorem mapM_size {w : World} {b n : Nat} {D : DataW Unit} {m : Mx} (hm : m.OK) (h : w.ownsMap Tryz.prog 162 (plainElem Tryz.prog 3) b n D) (hM : MapM m D) : Maps.size D ≤ 4096 := by
 obtain ⟨es,rfl,hks⟩:=h.keysOf
 obtain ⟨es',he,hpw,_⟩:=h.entries keyedP
 obtain rfl : es = es':=by simpa using he
 haveI : DecidableEq Lit:=fun a b => Classical.propDecidable (a = b)
 have hnd : (es.map (·.1)).Nodup:=List.pairwise_map.2 hpw
 have hsub : ∀ x ∈ es.map (·.1),x ∈ (List.range (m.n * m.n)).map fun i => klP (pairAt m.n i):=fun kl hkl => by
  obtain ⟨p,hp,rfl⟩:=List.mem_map.1 hkl
  obtain ⟨key,hkey⟩:=hks p hp
  obtain ⟨x,h1,h2,_,hx⟩:=keyP_inv hkey
  have hhas : Maps.has (.map es) (klP x) = true:=by
   rw [Maps.has_eq,List.any_eq_true]
   exact ⟨p,hp,by rw [hx];exact klP_same x⟩
  have h3:=(hM x h1 h2).1
  rw [hhas] at h3
  have h4 : inP m.n x = true:=by
   have:=h3.symm
   simp only [Bool.and_eq_true] at this
   exact this.1
  exact List.mem_map.2 ⟨at2 m.n x,List.mem_range.2 (at2_lt h4),by rw [pairAt_at2 h4,hx]⟩
 have h5:=nodup_sub_len hnd hsub
 rw [List.length_map,List.length_map,List.length_range] at h5
 have:=hm.n2
 show es.length ≤ 4096
 exact Nat.le_trans h5 (Nat.mul_le_mul this this)
structure MatAt (w : World) (mb bm : Nat) (m : Mx) : Prop where
 ok : m.OK
 c0 : w.cell? ⟨mb,0,none⟩ = some (.int .i64 m.n)
 c1 : w.cell? ⟨mb,1,none⟩ = some (.int .i64 m.d)
 c2 : w.cell? ⟨mb,2,none⟩ = some (.map (some bm))
 own : ∃ D : DataW Unit,w.ownsMap Tryz.prog 162 (plainElem Tryz.prog 3) bm 4096 D∧MapM m D
theorem MatAt.grows {w w' : World} {mb bm : Nat} {m : Mx} (h : MatAt w mb bm m) (hg : Grows w w') : MatAt w' mb bm m :=
 ⟨h.ok,hg.cell h.c0,hg.cell h.c1,hg.cell h.c2,let ⟨D,ho,hm⟩:=h.own;⟨D,ownsMap_grows ho hg,hm⟩⟩
theorem MatAt.ne {w : World} {mb bm : Nat} {m : Mx} (h : MatAt w mb bm m) : mb ≠ bm := by
 obtain ⟨D,⟨es,clock,hb,_⟩,hm⟩:=h.own
 intro e
 have h0:=h.c0
 subst e
 simp [World.cell?,hb] at h0
theorem grownBy_cell {w w' : World} {row : Option Nat} (hg : w.grownBy w' row) {p : Addr} {v : Value} (hc : w.cell? p = some v) (hne : some p.block ≠ row) : w'.cell? p = some v := by
 have hlt:=World.block_lt_of_cell? w _ hc
 have hb:=hg.block p.block hlt hne
 unfold World.cell? at hc ⊢
 rw [hb];exact hc
set_option maxHeartbeats 1000000 in
theorem isCost_any (c : Int) (w : World) : Calls Tryz.prog 100 #[.int .i64 c] w fun e w' => e = .returned (.bool (isC c)) ∧ w = w' := by
 unfold isC
 by_cases h0 : 0 ≤ c
 ·go_enter Tryz.func100,Tryz.ntmps100
  go_wp2
  go_ret
  exact ⟨ret_bool (by simp [h0]),rfl⟩
 ·go_enter Tryz.func100,Tryz.ntmps100
  go_wp2
  go_ret
  exact ⟨ret_bool (by simp;omega),rfl⟩
set_option maxHeartbeats 1000000 in
theorem size_any (w : World) (mb bm : Nat) (m : Mx) (h : MatAt w mb bm m) : Calls Tryz.prog 69 #[.pointer (some ⟨mb, 0, none⟩)] w fun e w' => e = .returned (.int .i64 m.n) ∧ w = w' := by
 have c0:=h.c0
 go_enter Tryz.func69,Tryz.ntmps69
 go_wp2
 go_ret
 exact ⟨rfl,rfl⟩
set_option maxHeartbeats 1000000 in
theorem has_any (w : World) (mb bm : Nat) (m : Mx) (h : MatAt w mb bm m) (r : Int) : Calls Tryz.prog 101 #[.pointer (some ⟨mb, 0, none⟩), .int .i64 r] w fun e w' => e = .returned (.bool (inR m.n r)) ∧ w = w' := by
 have CS:=fun W (hW : w = W) => size_any W mb bm m (hW ▸ h)
 unfold inR
 by_cases h0 : 0 ≤ r
 ·go_enter Tryz.func101,Tryz.ntmps101
  go_wp2_with (go_at_call 69;refine (CS _ rfl).mono ?_;rintro e w1 ⟨rfl,rfl⟩)
  go_ret
  exact ⟨ret_bool (by simp [h0]),rfl⟩
 ·go_enter Tryz.func101,Tryz.ntmps101
  go_wp2_with (go_at_call 69;refine (CS _ rfl).mono ?_;rintro e w1 ⟨rfl,rfl⟩)
  go_ret
  exact ⟨ret_bool (by simp;omega),rfl⟩
set_option maxHeartbeats 2000000 in
set_option maxRecDepth 100000 in
theorem cost_any (w : World) (mb bm : Nat) (m : Mx) (h : MatAt w mb bm m) (r l : Int) : Calls Tryz.prog 70 #[.pointer (some ⟨mb, 0, none⟩), .int .i64 r, .int .i64 l] w fun e w' => e = .returned (.int .i64 (m.cost (r, l))) ∧ w = w' := by
 have c1:=h.c1
 have c2:=h.c2
 have CH:=has_any w mb bm m h
 cases hr : inR m.n r
 ·have hc : m.cost (r,l) = 30000:=by unfold Mx.cost inP;rw [hr];rfl
  rw [hc]
  clear hc
  go_enter Tryz.func70,Tryz.ntmps70
  go_wp2_with (go_at_call 101;refine (CH _).mono ?_;rintro e w1 ⟨rfl,rfl⟩)
  go_ret
  exact ⟨rfl,rfl⟩
 ·cases hl : inR m.n l
  ·have hc : m.cost (r,l) = 30000:=by unfold Mx.cost inP;rw [hr,hl];rfl
   rw [hc]
   clear hc
   go_enter Tryz.func70,Tryz.ntmps70
   go_wp2_with (first | (go_at_call 101;refine (CH _).mono ?_;rintro e w1 ⟨rfl,rfl⟩))
   go_ret
   exact ⟨rfl,rfl⟩
  ·have hin : inP m.n (r,l) = true:=by unfold inP;rw [hr,hl];rfl
   obtain ⟨D,hown,hM⟩:=h.own
   have HL:=fun c => Lib.hid (hM.look h.ok hin (c:=c))
   have hw:=wf_of_in h.ok.n2 hin
   have hkey:=keyP (x:=(r,l)) hw.1 hw.2
   clear hM hw hin
   generalize m.cost (r,l) = C at HL ⊢
   go_enter Tryz.func70,Tryz.ntmps70
   cases hh : Maps.has D (klP (r,l))
   ·rw [hh] at HL
    go_wp2_with (first | (go_at_call 101;refine (CH _).mono ?_;rintro e w1 ⟨rfl,rfl⟩) | (at_lookup;refine wpList_lookup_own_ok_int _ rfl _ _ 158 rfl 162 3 .i64 keyedP Tryz.underlying158 Tryz.underlying3 (zeroI2 _) bm 4096 D rfl hown _ (klP (r,l)) rfl hkey ?_;intro c hat hwc;rw [hh];have hcc:=Lib.hid (((HL c).out hat).2 trivial);clear hat))
    go_ret
    exact ⟨ret_int hcc.out.symm,rfl⟩
   ·rw [hh] at HL
    go_wp2_with (first | (go_at_call 101;refine (CH _).mono ?_;rintro e w1 ⟨rfl,rfl⟩) | (at_lookup;refine wpList_lookup_own_ok_int _ rfl _ _ 158 rfl 162 3 .i64 keyedP Tryz.underlying158 Tryz.underlying3 (zeroI2 _) bm 4096 D rfl hown _ (klP (r,l)) rfl hkey ?_;intro c hat hwc;rw [hh];have hcc:=Lib.hid (((HL c).out hat).1 trivial);clear hat))
    go_ret
    exact ⟨ret_int hcc.out,rfl⟩
end Go.Proofs.YtepoiefadjoabaaGreatDoor
namespace Go.Proofs.YtepoiefadjoabaaGreatDoor
open Go Go.RowKit
attribute [local go_sem] quietE
set_option maxHeartbeats 2000000 in
set_option maxRecDepth 100000 in
theorem new_bad (n d : Int) (w : World) (h : newB n d = false) : Calls Tryz.prog 52 #[.int .i64 n, .int .i64 d] w fun e w' => e = .returned (.tuple #[.pointer none, .int .i64 6]) ∧ w = w' := by
 by_cases h1 : n < 1
 ·go_enter Tryz.func52,Tryz.ntmps52
  go_wp2_with (go_at_call 100;refine (isCost_any _ _).mono ?_;rintro e w1 ⟨rfl,rfl⟩)
  go_ret2
  exact ⟨rfl,rfl⟩
 ·by_cases h2 : (64 : Int) < n
  ·go_enter Tryz.func52,Tryz.ntmps52
   go_wp2_with (go_at_call 100;refine (isCost_any _ _).mono ?_;rintro e w1 ⟨rfl,rfl⟩)
   go_ret2
   exact ⟨rfl,rfl⟩
  ·have h3 : isC d = false:=by
    cases hd : isC d with
    | false => rfl
    | true =>
     have h3:=newB_iff (n:=n) (d:=d)
     rw [h] at h3
     have h4:=isC_iff.1 hd
     have:=h3.2 ⟨by omega,by omega,h4.1,h4.2⟩
     cases this
   clear h
   go_enter Tryz.func52,Tryz.ntmps52
   go_wp2_with (go_at_call 100;refine (isCost_any _ _).mono ?_;rintro e w1 ⟨rfl,rfl⟩)
   go_ret2
   exact ⟨rfl,rfl⟩
def NewPost (m : Mx) (w : World) (e : Ending) (w' : World) : Prop := e = .returned (.tuple #[.pointer (some ⟨w.heap.size + 1, 0, none⟩), .int .i64 0]) ∧ MatAt w' (w.heap.size + 1) w.heap.size m ∧ Grows w w'
set_option maxHeartbeats 2000000 in
set_option maxRecDepth 100000 in
theorem new_any (n d : Int) (w : World) (h : newB n d = true) : Calls Tryz.prog 52 #[.int .i64 n, .int .i64 d] w (NewPost (newM n d) w) := by
 have hok:=newM_ok h
 have hM:=mapM_new (H:=Unit) n d
 obtain ⟨h1,h2,h3,h4⟩:=newB_iff.1 h
 have hC : isC d = true:=isC_iff.2 ⟨h3,h4⟩
 have hn : ((newM n d).n : Int) = n:=by show ((n.toNat : Nat) : Int) = n;omega
 have hd : (newM n d).d = d:=rfl
 generalize newM n d = m at *
 have HOK:=Lib.hid hok
 have HM:=Lib.hid hM
 have HN:=Lib.hid hn
 have HD:=Lib.hid hd
 have hn1 : ¬ n < 1:=by omega
 have hn2 : ¬ (64 : Int) < n:=by omega
 clear hok hM hn hd h h1 h2 h3 h4
 have hmm:=@run_makeMap Tryz.prog
 go_enter Tryz.func52,Tryz.ntmps52
 go_wp2_with (go_at_call 100;refine (isCost_any _ _).mono ?_;rintro e w1 ⟨rfl,rfl⟩)
 go_ret2
 refine ⟨rfl,⟨HOK.out, ?_, ?_, ?_,_,((World.ownsMap_made _ _ _ _).alloc _).mono (Nat.zero_le _),HM.out⟩,(Grows.alloc _ _).al _⟩
 ·rw [HN.out];exact alloc_new_at (w:=w.alloc (.map #[] 0)) (by simp) 0 _ rfl
 ·rw [HD.out]
  have:=alloc_new_at (w:=w.alloc (.map #[] 0)) (cs:=#[.int .i64 n,.int .i64 d,.map (some w.heap.size)]) (t:=160) (n:=w.heap.size + 1) (by simp) 1 _ rfl
  rw [add_off] at this;exact this
 ·have:=alloc_new_at (w:=w.alloc (.map #[] 0)) (cs:=#[.int .i64 n,.int .i64 d,.map (some w.heap.size)]) (t:=160) (n:=w.heap.size + 1) (by simp) 2 _ rfl
  rw [add_off] at this;exact this
theorem Grows.grownByR {w w' : World} (h : Grows w w') (row : Option Nat) : w.grownBy w' row := ⟨Below.os h, Below.tape h, Below.output h, Below.size h, fun k hk _ => Below.block h k hk⟩
def SetPost (mb bm : Nat) (m : Mx) (x : Int × Int) (c : Int) (w : World) (e : Ending) (w' : World) : Prop :=
 e = .returned (.int .i64 (if m.setB x c then 0 else 6))∧MatAt w' mb bm (m.setIf x c)∧w.grownBy w' (some bm)
theorem setIf_no {m : Mx} {x : Int × Int} {c : Int} (h : m.setB x c = false) : m.setIf x c = m := by unfold Mx.setIf; rw [h]; rfl
theorem setIf_yes {m : Mx} {x : Int × Int} {c : Int} (h : m.setB x c = true) : m.setIf x c = m.set x c := by unfold Mx.setIf; rw [h]; rfl
set_option maxHeartbeats 2000000 in
set_option maxRecDepth 100000 in
theorem set_bad (w : World) (mb bm : Nat) (m : Mx) (h : MatAt w mb bm m) (r l c : Int) (hb : m.setB (r, l) c = false) :
  Calls Tryz.prog 53 #[.pointer (some ⟨mb,0,none⟩),.int .i64 r,.int .i64 l,.int .i64 c] w fun e w' => e = .returned (.int .i64 6)∧w = w':=by
 have CH:=has_any w mb bm m h
 unfold Mx.setB inP at hb
 simp only at hb
 cases hr : inR m.n r
 ·clear hb
  go_enter Tryz.func53,Tryz.ntmps53
  go_wp2_with (first | (go_at_call 101;refine (CH _).mono ?_;rintro e w1 ⟨rfl,rfl⟩) | (go_at_call 100;refine (isCost_any _ _).mono ?_;rintro e w1 ⟨rfl,rfl⟩))
  go_ret
  exact ⟨rfl,rfl⟩
 ·cases hl : inR m.n l
  ·clear hb
   go_enter Tryz.func53,Tryz.ntmps53
   go_wp2_with (first | (go_at_call 101;refine (CH _).mono ?_;rintro e w1 ⟨rfl,rfl⟩) | (go_at_call 100;refine (isCost_any _ _).mono ?_;rintro e w1 ⟨rfl,rfl⟩))
   go_ret
   exact ⟨rfl,rfl⟩
  ·rw [hr,hl] at hb
   have hc : isC c = false:=hb
   clear hb
   go_enter Tryz.func53,Tryz.ntmps53
   go_wp2_with (first | (go_at_call 101;refine (CH _).mono ?_;rintro e w1 ⟨rfl,rfl⟩) | (go_at_call 100;refine (isCost_any _ _).mono ?_;rintro e w1 ⟨rfl,rfl⟩))
   go_ret
   exact ⟨rfl,rfl⟩
set_option maxHeartbeats 2000000 in
set_option maxRecDepth 100000 in
theorem set_good (w : World) (mb bm : Nat) (m : Mx) (h : MatAt w mb bm m) (r l c : Int) (hb : m.setB (r, l) c = true) (hwc : WfI c) :
  Calls Tryz.prog 53 #[.pointer (some ⟨mb,0,none⟩),.int .i64 r,.int .i64 l,.int .i64 c] w fun e w' => e = .returned (.int .i64 0)∧MatAt w' mb bm (m.set (r,l) c)∧w.grownBy w' (some bm):=by
 have CH:=has_any w mb bm m h
 have hb2:=hb
 unfold Mx.setB inP at hb2
 simp only [Bool.and_eq_true] at hb2
 have hr : inR m.n r = true:=hb2.1.1
 have hl : inR m.n l = true:=hb2.1.2
 have hc : isC c = true:=hb2.2
 clear hb2
 have hin : inP m.n (r,l) = true:=by unfold inP;rw [hr,hl];rfl
 have c0:=h.c0
 have c1:=h.c1
 have c2:=h.c2
 have hne:=h.ne
 obtain ⟨D,hown,hM⟩:=h.own
 have hw:=wf_of_in h.ok.n2 hin
 have hkey:=keyP (x:=(r,l)) hw.1 hw.2
 have hP:=fun hd => hM.put hown.isMap h.ok hb hd
 have hE:=hM.del h.ok hin
 have HS:=Lib.hid (h.ok.set hb)
 have HF : Hid (∀ (w' : World) (n : Nat) (D' : DataW Unit),w'.ownsMap Tryz.prog 162 (plainElem Tryz.prog 3) bm n D' → w.grownBy w' (some bm) → MapM (m.set (r,l) c) D' → MatAt w' mb bm (m.set (r,l) c)):=fun w' n D' ho hg hm =>
  ⟨h.ok.set hb,grownBy_cell hg c0 (by simpa using hne),grownBy_cell hg c1 (by simpa using hne),grownBy_cell hg c2 (by simpa using hne),D',(own_tight ho).mono (mapM_size (h.ok.set hb) ho hm),hm⟩
 have x1:=fun (x : Ext Grows (w.alloc (.cells #[.int .i64 r,.int .i64 l] 162)).drew) => (((Grows.alloc w (.cells #[.int .i64 r,.int .i64 l] 162)).dr).tr x.h).cell c2
 have x2 : ∀ x : Ext Grows (w.alloc (.cells #[.int .i64 r,.int .i64 l] 162)).drew,x.u.cell? ⟨w.heap.size,0,none⟩ = some (.int .i64 r):=ext_cell (cell_box w _ _ (0,0) 0 _ rfl)
 have x3 : ∀ x : Ext Grows (w.alloc (.cells #[.int .i64 r,.int .i64 l] 162)).drew,x.u.cell? ⟨w.heap.size,1,none⟩ = some (.int .i64 l):=ext_cell (cell_box w _ _ (0,0) 1 _ rfl)
 have c1' : (w.alloc (.cells #[.int .i64 r,.int .i64 l] 162)).cell? ⟨mb,1,none⟩ = some (.int .i64 m.d):=(Grows.alloc _ _).cell c1
 by_cases hd : c = m.d
 ·subst hd
  have HE:=Lib.hid hE
  clear hM hb hin hw hP hE h c0 hne HS
  go_enter Tryz.func53,Tryz.ntmps53
  go_wp2_with (first | (go_at_call 101;refine (CH _).mono ?_;rintro e w1 ⟨rfl,rfl⟩) | (go_at_call 100;refine (isCost_any _ _).mono ?_;rintro e w1 ⟨rfl,rfl⟩))
  refine wp_region_tail Grows 5 [(0,false),(1,false),(2,false),(3,false),(4,false)] Grows.refl Grows.trans (by kernel_rfl) (by kernel_rfl) (fun d _ _ _ _ h => by cases d <;> exact h) ?_
  repeat (refine ord_quiet rfl (fun K hK => ?_);go_simp;first | (refine hK _ ?_;clear hK K) | (apply Exists.intro;refine ⟨fun x => ?_,hK _ ?_⟩;(fail);clear hK K))
  refine ord_end (fun w4 h4 => ?_)
  simp only [List.drop_succ_cons,List.drop_zero]
  have hg4:=((Grows.alloc w (.cells #[.int .i64 r,.int .i64 l] 162)).dr).tr h4
  clear x1 x2 x3
  go_wp2_with (at_delete;refine wpList_delete_own _ rfl _ _ 158 162 rfl 3 keyedP Tryz.underlying158 _ bm 4096 D rfl (ownsMap_grows hown hg4) _ (klP (r,l)) rfl hkey ?_;intro w5 hown5 hturn5)
  go_ret
  have hgb:=(hg4.grownByR (some bm)).andThen hturn5.grown (fun j hj => Or.inr hj)
  exact ⟨rfl,HF.out _ _ _ hown5 hgb HE.out,hgb⟩
 ·have HP:=Lib.hid (hP hd)
  have hd2 : (c == m.d) = false:=by simpa using hd
  clear hM hb hin hw hP hE h c0 hne HS
  go_enter Tryz.func53,Tryz.ntmps53
  go_wp2_with (first | (go_at_call 101;refine (CH _).mono ?_;rintro e w1 ⟨rfl,rfl⟩) | (go_at_call 100;refine (isCost_any _ _).mono ?_;rintro e w1 ⟨rfl,rfl⟩))
  refine wp_region_tail Grows 6 [(0,false),(1,false),(2,false),(3,false),(4,false),(5,false)] Grows.refl Grows.trans (by kernel_rfl) (by kernel_rfl) (fun d _ _ _ _ h => by cases d <;> exact h) ?_
  repeat (refine ord_quiet rfl (fun K hK => ?_);go_simp;first | (refine hK _ ?_;clear hK K) | (apply Exists.intro;refine ⟨fun x => ?_,hK _ ?_⟩;(fail);clear hK K))
  refine ord_end (fun w4 h4 => ?_)
  simp only [List.drop_succ_cons,List.drop_zero]
  have hg4:=((Grows.alloc w (.cells #[.int .i64 r,.int .i64 l] 162)).dr).tr h4
  clear x1 x2 x3
  go_wp2_with (at_mapUpdate;refine wpList_mapUpdate_own _ rfl _ _ _ 158 rfl 162 3 keyedP Tryz.underlying158 _ bm 4096 D rfl (ownsMap_grows hown hg4) (by unfold maxLen;omega) _ _ (klP (r,l)) rfl rfl hkey _ [] (plainElem_int Tryz.underlying3 hwc) ?_;intro w5 hown5 hturn5)
  go_ret
  have hgb:=(hg4.grownByR (some bm)).andThen hturn5 (fun j hj => Or.inr hj)
  exact ⟨rfl,HF.out _ _ _ hown5 hgb HP.out,hgb⟩
theorem set_any (w : World) (mb bm : Nat) (m : Mx) (h : MatAt w mb bm m) (r l c : Int) (hwc : WfI c) :
  Calls Tryz.prog 53 #[.pointer (some ⟨mb,0,none⟩),.int .i64 r,.int .i64 l,.int .i64 c] w (SetPost mb bm m (r,l) c w):=by
 cases hb : m.setB (r,l) c
 ·refine (set_bad w mb bm m h r l c hb).mono fun e w' ⟨he,hw⟩ => ?_
  subst hw
  refine ⟨by rw [hb];exact he,by rw [setIf_no hb];exact h,⟨rfl,rfl,rfl,Nat.le_refl _,fun _ _ _ => rfl⟩⟩
 ·refine (set_good w mb bm m h r l c hb hwc).mono fun e w' ⟨he,hm,hg⟩ => ⟨by rw [hb];exact he,by rw [setIf_yes hb];exact hm,hg⟩
end Go.Proofs.YtepoiefadjoabaaGreatDoor
namespace Go.Proofs.YtepoiefadjoabaaGreatDoor
open Go Go.RowKit
structure SetV where
 r : Int
 l : Int
 c : Int
def setC (s : SetV) : List Value := [.int .i64 s.r, .int .i64 s.l, .int .i64 s.c]
def runSets (m : Mx) (l : List SetV) : Mx := l.foldl (fun m s => m.setIf (s.r, s.l) s.c) m
theorem runSets_ok : ∀ (l : List SetV) {m : Mx}, m.OK → (runSets m l).OK
 | [],_,h => h
 | _ :: r,_,h => runSets_ok r (h.setIf _ _)
theorem runSets_take {m : Mx} {l : List SetV} {k : Nat} {s : SetV} (hs : l[k]? = some s) : runSets m (l.take (k + 1)) = (runSets m (l.take k)).setIf (s.r, s.l) s.c := by
 obtain ⟨hk,rfl⟩:=List.getElem?_eq_some_iff.1 hs
 unfold runSets
 rw [List.take_succ_eq_append_getElem hk,List.foldl_append]
 rfl
end Go.Proofs.YtepoiefadjoabaaGreatDoor
namespace Go.Proofs.YtepoiefadjoabaaGreatDoor
open Go Go.RowKit
attribute [local go_sem] quietE
theorem Grows.grownBy_set {w W : World} (h : Grows w W) (g i : Nat) (v : Value) : w.grownBy (W.setCell ⟨g, i, none⟩ v) (some g) where
 os:=(show W.os = w.os from Below.os h)
 tape:=(show W.tape = w.tape from Below.tape h)
 output:=(show W.output = w.output from Below.output h)
 size:=by have:=h.size;simpa using this
 block:=fun k hk hne => by
  rw [heap_setCell_other _ _ _ _ (fun e => hne (by rw [e]))]
  exact Below.block h k hk
end Go.Proofs.YtepoiefadjoabaaGreatDoor
namespace Go.Proofs.YtepoiefadjoabaaGreatDoor
open Go Go.RowKit
attribute [local go_sem] quietE
end Go.Proofs.YtepoiefadjoabaaGreatDoor
