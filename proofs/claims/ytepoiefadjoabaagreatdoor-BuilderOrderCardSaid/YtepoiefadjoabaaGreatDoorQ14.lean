/- The texts Mat Mat2 MatSetP RefM RefM2, one behind the other. -/
import Derived.Test.YtepoiefadjoabaaGreatDoorQ2
import Derived.Test.YtepoiefadjoabaaGreatDoorQ13
import Derived.Sort.KeysCollected
import Derived.Test.YtepoiefadjoabaaGreatDoorQ1
import Derived.OneCell
namespace Go.Proofs.YtepoiefadjoabaaGreatDoor
open Go Go.RowKit
attribute [local go_sem] quietE
theorem zeroI2 (w : World) : (zeroValue 3).run Tryz.prog w = .ok (.int .i64 0) w := by kernel_rfl
theorem nodup_sub_len {α : Type} [DecidableEq α] : ∀ {l l' : List α}, l.Nodup → (∀ x ∈ l, x ∈ l') → l.length ≤ l'.length
 | [],_,_,_ => Nat.zero_le _
 | x :: r,l',hn,hs => by
  obtain ⟨h1,h2⟩:=List.nodup_cons.1 hn
  have hx:=hs x (by simp)
  have hr:=nodup_sub_len (l':=l'.erase x) h2 fun y hy => (List.mem_erase_of_ne (fun (e : y = x) => h1 (by rw [← e];exact hy))).2 (hs y (by simp [hy]))
  rw [List.length_erase_of_mem hx] at hr
  have:=List.length_pos_of_mem hx
  simp only [List.length_cons]
  omega
theorem own_tight {H : Type} {P : Program} {k : TypeId} {R : Value → Option (DataW H × List MemPlace)} {w : World} {b n : Nat} {D : DataW H} (h : w.ownsMap P k R b n D) : w.ownsMap P k R b (Maps.size D) D := by
 obtain ⟨es,clock,h1,h2,h3,rfl⟩:=h
 exact ⟨es,clock,h1,h2,by simp [Maps.size,length_sorted],rfl⟩
theorem mapM_size {w : World} {b n : Nat} {D : DataW Unit} {m : Mx} (hm : m.OK) (h : w.ownsMap Tryz.prog 162 (plainElem Tryz.prog 3) b n D) (hM : MapM m D) : Maps.size D ≤ 4096 := by
 obtain ⟨es,rfl,hks⟩:=h.keysOf
 obtain ⟨es',he,hpw,_⟩:=h.entries keyedP
 obtain rfl : es = es':=by simpa using he
 haveI : DecidableEq Lit:=fun a b => Classical.propDecidable (a = b)
 have hnd : (es.map (·.1)).Nodup:=List.pairwise_map.2 hpw
 have hsub : ∀ x ∈ es.map (·.1),x ∈ (List.range (m.n * m.n)).map fun i => klP (pairAt m.n i):=fun kl hkl => by
  obtain ⟨p,hp,rfl⟩:=List.mem_map.1 hkl
  obtain ⟨key,hkey⟩:=hks p hp
  obtain ⟨x,h1,h2,_,hx⟩:=keyP_inv hkey
  have hhas : Maps.has (.map es) (klP x) = true:=by
   rw [Maps.has_eq,List.any_eq_true]
   exact ⟨p,hp,by rw [hx];exact klP_same x⟩
  have h3:=(hM x h1 h2).1
  rw [hhas] at h3
  have h4 : inP m.n x = true:=by
   have:=h3.symm
   simp only [Bool.and_eq_true] at this
   exact this.1
  exact List.mem_map.2 ⟨at2 m.n x,List.mem_range.2 (at2_lt h4),by rw [pairAt_at2 h4,hx]⟩
 have h5:=nodup_sub_len hnd hsub
 rw [List.length_map,List.length_map,List.length_range] at h5
 have:=hm.n2
 show es.length ≤ 4096
 exact Nat.le_trans h5 (Nat.mul_le_mul this this)
structure MatAt (w : World) (mb bm : Nat) (m : Mx) : Prop where
 ok : m.OK
 c0 : w.cell? ⟨mb,0,none⟩ = some (.int .i64 m.n)
 c1 : w.cell? ⟨mb,1,none⟩ = some (.int .i64 m.d)
 c2 : w.cell? ⟨mb,2,none⟩ = some (.map (some bm))
 own : ∃ D : DataW Unit,w.ownsMap Tryz.prog 162 (plainElem Tryz.prog 3) bm 4096 D∧MapM m D
theorem MatAt.grows {w w' : World} {mb bm : Nat} {m : Mx} (h : MatAt w mb bm m) (hg : Grows w w') : MatAt w' mb bm m :=
 ⟨h.ok,hg.cell h.c0,hg.cell h.c1,hg.cell h.c2,let ⟨D,ho,hm⟩:=h.own;⟨D,ownsMap_grows ho hg,hm⟩⟩
theorem MatAt.ne {w : World} {mb bm : Nat} {m : Mx} (h : MatAt w mb bm m) : mb ≠ bm := by
 obtain ⟨D,⟨es,clock,hb,_⟩,hm⟩:=h.own
 intro e
 have h0:=h.c0
 subst e
 simp [World.cell?,hb] at h0
theorem grownBy_cell {w w' : World} {row : Option Nat} (hg : w.grownBy w' row) {p : Addr} {v : Value} (hc : w.cell? p = some v) (hne : some p.block ≠ row) : w'.cell? p = some v := by
 have hlt:=World.block_lt_of_cell? w _ hc
 have hb:=hg.block p.block hlt hne
 unfold World.cell? at hc ⊢
 rw [hb];exact hc
set_option maxHeartbeats 1000000 in
theorem isCost_any (c : Int) (w : World) : Calls Tryz.prog 100 #[.int .i64 c] w fun e w' => e = .returned (.bool (isC c)) ∧ w = w' := by
 unfold isC
 by_cases h0 : 0 ≤ c
 ·go_enter Tryz.func100,Tryz.ntmps100
  go_wp2
  go_ret
  exact ⟨ret_bool (by simp [h0]),rfl⟩
 ·go_enter Tryz.func100,Tryz.ntmps100
  go_wp2
  go_ret
  exact ⟨ret_bool (by simp;omega),rfl⟩
set_option maxHeartbeats 1000000 in
theorem size_any (w : World) (mb bm : Nat) (m : Mx) (h : MatAt w mb bm m) : Calls Tryz.prog 69 #[.pointer (some ⟨mb, 0, none⟩)] w fun e w' => e = .returned (.int .i64 m.n) ∧ w = w' := by
 have c0:=h.c0
 go_enter Tryz.func69,Tryz.ntmps69
 go_wp2
 go_ret
 exact ⟨rfl,rfl⟩
set_option maxHeartbeats 1000000 in
theorem has_any (w : World) (mb bm : Nat) (m : Mx) (h : MatAt w mb bm m) (r : Int) : Calls Tryz.prog 101 #[.pointer (some ⟨mb, 0, none⟩), .int .i64 r] w fun e w' => e = .returned (.bool (inR m.n r)) ∧ w = w' := by
 have CS:=fun W (hW : w = W) => size_any W mb bm m (hW ▸ h)
 unfold inR
 by_cases h0 : 0 ≤ r
 ·go_enter Tryz.func101,Tryz.ntmps101
  go_wp2_with (go_at_call 69;refine (CS _ rfl).mono ?_;rintro e w1 ⟨rfl,rfl⟩)
  go_ret
  exact ⟨ret_bool (by simp [h0]),rfl⟩
 ·go_enter Tryz.func101,Tryz.ntmps101
  go_wp2_with (go_at_call 69;refine (CS _ rfl).mono ?_;rintro e w1 ⟨rfl,rfl⟩)
  go_ret
  exact ⟨ret_bool (by simp;omega),rfl⟩
end Go.Proofs.YtepoiefadjoabaaGreatDoor
namespace Go.Proofs.YtepoiefadjoabaaGreatDoor
open Go Go.RowKit
attribute [local go_sem] quietE
set_option maxHeartbeats 2000000 in
set_option maxRecDepth 100000 in
theorem new_bad (n d : Int) (w : World) (h : newB n d = false) : Calls Tryz.prog 52 #[.int .i64 n, .int .i64 d] w fun e w' => e = .returned (.tuple #[.pointer none, .int .i64 6]) ∧ w = w' := by
 by_cases h1 : n < 1
 ·go_enter Tryz.func52,Tryz.ntmps52
  go_wp2_with (go_at_call 100;refine (isCost_any _ _).mono ?_;rintro e w1 ⟨rfl,rfl⟩)
  go_ret2
  exact ⟨rfl,rfl⟩
 ·by_cases h2 : (64 : Int) < n
  ·go_enter Tryz.func52,Tryz.ntmps52
   go_wp2_with (go_at_call 100;refine (isCost_any _ _).mono ?_;rintro e w1 ⟨rfl,rfl⟩)
   go_ret2
   exact ⟨rfl,rfl⟩
  ·have h3 : isC d = false:=by
    cases hd : isC d with
    | false => rfl
    | true =>
     have h3:=newB_iff (n:=n) (d:=d)
     rw [h] at h3
     have h4:=isC_iff.1 hd
     have:=h3.2 ⟨by omega,by omega,h4.1,h4.2⟩
     cases this
   clear h
   go_enter Tryz.func52,Tryz.ntmps52
   go_wp2_with (go_at_call 100;refine (isCost_any _ _).mono ?_;rintro e w1 ⟨rfl,rfl⟩)
   go_ret2
   exact ⟨rfl,rfl⟩
def NewPost (m : Mx) (w : World) (e : Ending) (w' : World) : Prop := e = .returned (.tuple #[.pointer (some ⟨w.heap.size + 1, 0, none⟩), .int .i64 0]) ∧ MatAt w' (w.heap.size + 1) w.heap.size m ∧ Grows w w'
set_option maxHeartbeats 2000000 in
set_option maxRecDepth 100000 in
theorem new_any (n d : Int) (w : World) (h : newB n d = true) : Calls Tryz.prog 52 #[.int .i64 n, .int .i64 d] w (NewPost (newM n d) w) := by
 have hok:=newM_ok h
 have hM:=mapM_new (H:=Unit) n d
 obtain ⟨h1,h2,h3,h4⟩:=newB_iff.1 h
 have hC : isC d = true:=isC_iff.2 ⟨h3,h4⟩
 have hn : ((newM n d).n : Int) = n:=by show ((n.toNat : Nat) : Int) = n;omega
 have hd : (newM n d).d = d:=rfl
 generalize newM n d = m at *
 have HOK:=Lib.hid hok
 have HM:=Lib.hid hM
 have HN:=Lib.hid hn
 have HD:=Lib.hid hd
 have hn1 : ¬ n < 1:=by omega
 have hn2 : ¬ (64 : Int) < n:=by omega
 clear hok hM hn hd h h1 h2 h3 h4
 have hmm:=@run_makeMap Tryz.prog
 go_enter Tryz.func52,Tryz.ntmps52
 go_wp2_with (go_at_call 100;refine (isCost_any _ _).mono ?_;rintro e w1 ⟨rfl,rfl⟩)
 go_ret2
 refine ⟨rfl,⟨HOK.out, ?_, ?_, ?_,_,((World.ownsMap_made _ _ _ _).alloc _).mono (Nat.zero_le _),HM.out⟩,(Grows.alloc _ _).al _⟩
 ·rw [HN.out];exact alloc_new_at (w:=w.alloc (.map #[] 0)) (by simp) 0 _ rfl
 ·rw [HD.out]
  have:=alloc_new_at (w:=w.alloc (.map #[] 0)) (cs:=#[.int .i64 n,.int .i64 d,.map (some w.heap.size)]) (t:=160) (n:=w.heap.size + 1) (by simp) 1 _ rfl
  rw [add_off] at this;exact this
 ·have:=alloc_new_at (w:=w.alloc (.map #[] 0)) (cs:=#[.int .i64 n,.int .i64 d,.map (some w.heap.size)]) (t:=160) (n:=w.heap.size + 1) (by simp) 2 _ rfl
  rw [add_off] at this;exact this
theorem Grows.grownByR {w w' : World} (h : Grows w w') (row : Option Nat) : w.grownBy w' row := ⟨Below.os h, Below.tape h, Below.output h, Below.size h, fun k hk _ => Below.block h k hk⟩
def SetPost (mb bm : Nat) (m : Mx) (x : Int × Int) (c : Int) (w : World) (e : Ending) (w' : World) : Prop :=
 e = .returned (.int .i64 (if m.setB x c then 0 else 6))∧MatAt w' mb bm (m.setIf x c)∧w.grownBy w' (some bm)
theorem setIf_no {m : Mx} {x : Int × Int} {c : Int} (h : m.setB x c = false) : m.setIf x c = m := by unfold Mx.setIf; rw [h]; rfl
theorem setIf_yes {m : Mx} {x : Int × Int} {c : Int} (h : m.setB x c = true) : m.setIf x c = m.set x c := by unfold Mx.setIf; rw [h]; rfl
set_option maxHeartbeats 2000000 in
set_option maxRecDepth 100000 in
theorem set_bad (w : World) (mb bm : Nat) (m : Mx) (h : MatAt w mb bm m) (r l c : Int) (hb : m.setB (r, l) c = false) :
  Calls Tryz.prog 53 #[.pointer (some ⟨mb,0,none⟩),.int .i64 r,.int .i64 l,.int .i64 c] w fun e w' => e = .returned (.int .i64 6)∧w = w':=by
 have CH:=has_any w mb bm m h
 unfold Mx.setB inP at hb
 simp only at hb
 cases hr : inR m.n r
 ·clear hb
  go_enter Tryz.func53,Tryz.ntmps53
  go_wp2_with (first | (go_at_call 101;refine (CH _).mono ?_;rintro e w1 ⟨rfl,rfl⟩) | (go_at_call 100;refine (isCost_any _ _).mono ?_;rintro e w1 ⟨rfl,rfl⟩))
  go_ret
  exact ⟨rfl,rfl⟩
 ·cases hl : inR m.n l
  ·clear hb
   go_enter Tryz.func53,Tryz.ntmps53
   go_wp2_with (first | (go_at_call 101;refine (CH _).mono ?_;rintro e w1 ⟨rfl,rfl⟩) | (go_at_call 100;refine (isCost_any _ _).mono ?_;rintro e w1 ⟨rfl,rfl⟩))
   go_ret
   exact ⟨rfl,rfl⟩
  ·rw [hr,hl] at hb
   have hc : isC c = false:=hb
   clear hb
   go_enter Tryz.func53,Tryz.ntmps53
   go_wp2_with (first | (go_at_call 101;refine (CH _).mono ?_;rintro e w1 ⟨rfl,rfl⟩) | (go_at_call 100;refine (isCost_any _ _).mono ?_;rintro e w1 ⟨rfl,rfl⟩))
   go_ret
   exact ⟨rfl,rfl⟩
set_option maxHeartbeats 2000000 in
set_option maxRecDepth 100000 in
theorem set_good (w : World) (mb bm : Nat) (m : Mx) (h : MatAt w mb bm m) (r l c : Int) (hb : m.setB (r, l) c = true) (hwc : WfI c) :
  Calls Tryz.prog 53 #[.pointer (some ⟨mb,0,none⟩),.int .i64 r,.int .i64 l,.int .i64 c] w fun e w' => e = .returned (.int .i64 0)∧MatAt w' mb bm (m.set (r,l) c)∧w.grownBy w' (some bm):=by
 have CH:=has_any w mb bm m h
 have hb2:=hb
 unfold Mx.setB inP at hb2
 simp only [Bool.and_eq_true] at hb2
 have hr : inR m.n r = true:=hb2.1.1
 have hl : inR m.n l = true:=hb2.1.2
 have hc : isC c = true:=hb2.2
 clear hb2
 have hin : inP m.n (r,l) = true:=by unfold inP;rw [hr,hl];rfl
 have c0:=h.c0
 have c1:=h.c1
 have c2:=h.c2
 have hne:=h.ne
 obtain ⟨D,hown,hM⟩:=h.own
 have hw:=wf_of_in h.ok.n2 hin
 have hkey:=keyP (x:=(r,l)) hw.1 hw.2
 have hP:=fun hd => hM.put hown.isMap h.ok hb hd
 have hE:=hM.del h.ok hin
 have HS:=Lib.hid (h.ok.set hb)
 have HF : Hid (∀ (w' : World) (n : Nat) (D' : DataW Unit),w'.ownsMap Tryz.prog 162 (plainElem Tryz.prog 3) bm n D' → w.grownBy w' (some bm) → MapM (m.set (r,l) c) D' → MatAt w' mb bm (m.set (r,l) c)):=fun w' n D' ho hg hm =>
  ⟨h.ok.set hb,grownBy_cell hg c0 (by simpa using hne),grownBy_cell hg c1 (by simpa using hne),grownBy_cell hg c2 (by simpa using hne),D',(own_tight ho).mono (mapM_size (h.ok.set hb) ho hm),hm⟩
 have x1:=fun (x : Ext Grows (w.alloc (.cells #[.int .i64 r,.int .i64 l] 162)).drew) => (((Grows.alloc w (.cells #[.int .i64 r,.int .i64 l] 162)).dr).tr x.h).cell c2
 have x2 : ∀ x : Ext Grows (w.alloc (.cells #[.int .i64 r,.int .i64 l] 162)).drew,x.u.cell? ⟨w.heap.size,0,none⟩ = some (.int .i64 r):=ext_cell (cell_box w _ _ (0,0) 0 _ rfl)
 have x3 : ∀ x : Ext Grows (w.alloc (.cells #[.int .i64 r,.int .i64 l] 162)).drew,x.u.cell? ⟨w.heap.size,1,none⟩ = some (.int .i64 l):=ext_cell (cell_box w _ _ (0,0) 1 _ rfl)
 have c1' : (w.alloc (.cells #[.int .i64 r,.int .i64 l] 162)).cell? ⟨mb,1,none⟩ = some (.int .i64 m.d):=(Grows.alloc _ _).cell c1
 by_cases hd : c = m.d
 ·subst hd
  have HE:=Lib.hid hE
  clear hM hb hin hw hP hE h c0 hne HS
  go_enter Tryz.func53,Tryz.ntmps53
  go_wp2_with (first | (go_at_call 101;refine (CH _).mono ?_;rintro e w1 ⟨rfl,rfl⟩) | (go_at_call 100;refine (isCost_any _ _).mono ?_;rintro e w1 ⟨rfl,rfl⟩))
  refine wp_region_tail Grows 5 [(0,false),(1,false),(2,false),(3,false),(4,false)] Grows.refl Grows.trans (by kernel_rfl) (by kernel_rfl) (fun d _ _ _ _ h => by cases d <;> exact h) ?_
  repeat (refine ord_quiet rfl (fun K hK => ?_);go_simp;first | (refine hK _ ?_;clear hK K) | (apply Exists.intro;refine ⟨fun x => ?_,hK _ ?_⟩;(fail);clear hK K))
  refine ord_end (fun w4 h4 => ?_)
  simp only [List.drop_succ_cons,List.drop_zero]
  have hg4:=((Grows.alloc w (.cells #[.int .i64 r,.int .i64 l] 162)).dr).tr h4
  clear x1 x2 x3
  go_wp2_with (at_delete;refine wpList_delete_own _ rfl _ _ 158 162 rfl 3 keyedP Tryz.underlying158 _ bm 4096 D rfl (ownsMap_grows hown hg4) _ (klP (r,l)) rfl hkey ?_;intro w5 hown5 hturn5)
  go_ret
  have hgb:=(hg4.grownByR (some bm)).andThen hturn5.grown (fun j hj => Or.inr hj)
  exact ⟨rfl,HF.out _ _ _ hown5 hgb HE.out,hgb⟩
 ·have HP:=Lib.hid (hP hd)
  have hd2 : (c == m.d) = false:=by simpa using hd
  clear hM hb hin hw hP hE h c0 hne HS
  go_enter Tryz.func53,Tryz.ntmps53
  go_wp2_with (first | (go_at_call 101;refine (CH _).mono ?_;rintro e w1 ⟨rfl,rfl⟩) | (go_at_call 100;refine (isCost_any _ _).mono ?_;rintro e w1 ⟨rfl,rfl⟩))
  refine wp_region_tail Grows 6 [(0,false),(1,false),(2,false),(3,false),(4,false),(5,false)] Grows.refl Grows.trans (by kernel_rfl) (by kernel_rfl) (fun d _ _ _ _ h => by cases d <;> exact h) ?_
  repeat (refine ord_quiet rfl (fun K hK => ?_);go_simp;first | (refine hK _ ?_;clear hK K) | (apply Exists.intro;refine ⟨fun x => ?_,hK _ ?_⟩;(fail);clear hK K))
  refine ord_end (fun w4 h4 => ?_)
  simp only [List.drop_succ_cons,List.drop_zero]
  have hg4:=((Grows.alloc w (.cells #[.int .i64 r,.int .i64 l] 162)).dr).tr h4
  clear x1 x2 x3
  go_wp2_with (at_mapUpdate;refine wpList_mapUpdate_own _ rfl _ _ _ 158 rfl 162 3 keyedP Tryz.underlying158 _ bm 4096 D rfl (ownsMap_grows hown hg4) (by unfold maxLen;omega) _ _ (klP (r,l)) rfl rfl hkey _ [] (plainElem_int Tryz.underlying3 hwc) ?_;intro w5 hown5 hturn5)
  go_ret
  have hgb:=(hg4.grownByR (some bm)).andThen hturn5 (fun j hj => Or.inr hj)
  exact ⟨rfl,HF.out _ _ _ hown5 hgb HP.out,hgb⟩
theorem set_any (w : World) (mb bm : Nat) (m : Mx) (h : MatAt w mb bm m) (r l c : Int) (hwc : WfI c) :
  Calls Tryz.prog 53 #[.pointer (some ⟨mb,0,none⟩),.int .i64 r,.int .i64 l,.int .i64 c] w (SetPost mb bm m (r,l) c w):=by
 cases hb : m.setB (r,l) c
 ·refine (set_bad w mb bm m h r l c hb).mono fun e w' ⟨he,hw⟩ => ?_
  subst hw
  refine ⟨by rw [hb];exact he,by rw [setIf_no hb];exact h,⟨rfl,rfl,rfl,Nat.le_refl _,fun _ _ _ => rfl⟩⟩
 ·refine (set_good w mb bm m h r l c hb hwc).mono fun e w' ⟨he,hm,hg⟩ => ⟨by rw [hb];exact he,by rw [setIf_yes hb];exact hm,hg⟩
end Go.Proofs.YtepoiefadjoabaaGreatDoor
namespace Go.Proofs.YtepoiefadjoabaaGreatDoor
open Go Go.RowKit
structure SetV where
 r : Int
 l : Int
 c : Int
def setC (s : SetV) : List Value := [.int .i64 s.r, .int .i64 s.l, .int .i64 s.c]
def runSets (m : Mx) (l : List SetV) : Mx := l.foldl (fun m s => m.setIf (s.r, s.l) s.c) m
theorem runSets_take {m : Mx} {l : List SetV} {k : Nat} {s : SetV} (hs : l[k]? = some s) : runSets m (l.take (k + 1)) = (runSets m (l.take k)).setIf (s.r, s.l) s.c := by
 obtain ⟨hk,rfl⟩:=List.getElem?_eq_some_iff.1 hs
 unfold runSets
 rw [List.take_succ_eq_append_getElem hk,List.foldl_append]
 rfl
end Go.Proofs.YtepoiefadjoabaaGreatDoor
namespace Go.Proofs.YtepoiefadjoabaaGreatDoor
open Go Go.RowKit
attribute [local go_sem] quietE
def intC (x : Int) : List Value := [.int .i64 x]
theorem intLay : ElemLay Tryz.prog 53 3 1 8 intC where
 sl:=Tryz.underlying53
 info:=elem_info (z:=.int .i64 0) (by kernel_rfl) rfl
 pos:=by decide
 by1:=by decide
 len _:=rfl
 one x u hu:=by
  simp [intC] at hu
  subst hu;rfl
theorem grownBy_froz {w w' : World} {row : Option Nat} (hg : w.grownBy w' row) {p : Addr} (hlt : p.block < w.heap.size) (hne : some p.block ≠ row) : w'.frozen? p = w.frozen? p := by
 have hb:=hg.block p.block hlt hne
 unfold World.frozen?
 rw [hb]
theorem Grows.grownBy_set {w W : World} (h : Grows w W) (g i : Nat) (v : Value) : w.grownBy (W.setCell ⟨g, i, none⟩ v) (some g) where
 os:=(show W.os = w.os from Below.os h)
 tape:=(show W.tape = w.tape from Below.tape h)
 output:=(show W.output = w.output from Below.output h)
 size:=by have:=h.size;simpa using this
 block:=fun k hk hne => by
  rw [heap_setCell_other _ _ _ _ (fun e => hne (by rw [e]))]
  exact Below.block h k hk
structure RefAt (w : World) (rb : Nat) (m : Mx) : Prop where
 ok : m.OK
 c0 : w.cell? ⟨rb,0,none⟩ = some (.int .i64 m.n)
 c1 : w.cell? ⟨rb,1,none⟩ = some (.int .i64 m.d)
 own : ∃ v,w.cell? ⟨rb,2,none⟩ = some v∧Owns w (rb + 1) 3 1 intC v m.cs
theorem RefAt.grows {w w' : World} {rb : Nat} {m : Mx} (h : RefAt w rb m) (hg : Grows w w') : RefAt w' rb m :=
 ⟨h.ok,hg.cell h.c0,hg.cell h.c1,let ⟨v,hv,ho⟩:=h.own;⟨v,hg.cell hv,ho.grows hg⟩⟩
theorem RefAt.lt {w : World} {rb : Nat} {m : Mx} (h : RefAt w rb m) : rb < w.heap.size := World.block_lt_of_cell? w _ h.c0
theorem RefAt.costs {w : World} {rb : Nat} {m : Mx} (h : RefAt w rb m) : ∃ g cap, w.cell? ⟨rb, 2, none⟩ = some (.slice (some ⟨g, 0, none⟩) m.cs.length cap) ∧ rb < g ∧ g < w.heap.size ∧
  (∀ (i : Nat) (c : Int),m.cs[i]? = some c → w.cell? ⟨g,i,none⟩ = some (.int .i64 c))∧(∀ i,w.frozen? ⟨g,i,none⟩ = false) ∧
  ∀ W,Grows w W → ∀ (x : Int × Int) (c : Int),m.setB x c = true → RefAt (W.setCell ⟨g,at2 m.n x,none⟩ (.int .i64 c)) rb (m.set x c):=by
 obtain ⟨v,hv,ho⟩:=h.own
 have hlen:=h.ok.len
 have hn1:=h.ok.n1
 have hpos : 0 < m.cs.length:=by rw [hlen];exact Nat.mul_pos (by omega) (by omega)
 rcases ho.2 with ⟨rfl,h0⟩ | ⟨g,cap,cur,rfl,hb,hh,hn,hc,hs,ht⟩
 ·omega
 ·have hfm : m.cs.flatMap intC = m.cs.map fun c => Value.int .i64 c:=by
   induction m.cs with
   | nil => rfl
   | cons a r ih => rw [List.flatMap_cons,ih];rfl
  have hcell : ∀ (i : Nat) (c : Int),m.cs[i]? = some c → w.cell? ⟨g,i,none⟩ = some (.int .i64 c):=fun i c hi => by
   have h1 : (m.cs.flatMap intC)[i]? = some (.int .i64 c):=by rw [hfm,List.getElem?_map,hi];rfl
   rw [← ht,List.getElem?_take] at h1
   split at h1
   ·simp [World.cell?,hh];simpa using h1
   ·cases h1
  have hglt : g < w.heap.size:=by
   rcases Nat.lt_or_ge g w.heap.size with h | h
   ·exact h
   ·rw [Array.getElem?_eq_none h] at hh;cases hh
  refine ⟨g,cap,hv,hb,hglt,hcell,fun i => by simp [World.frozen?,hh],fun W hW x c hx => ?_⟩
  have hv:=hW.cell hv
  have hh:=(Below.block hW g hglt).trans hh
  have h:=h.grows hW
  have hx2:=hx
  simp only [Mx.setB,Bool.and_eq_true] at hx2
  have hat : at2 m.n x < m.cs.length:=by rw [hlen];exact at2_lt hx2.1
  have hne : ∀ j,(⟨g,at2 m.n x,none⟩ : Addr) ≠ ⟨rb,j,none⟩:=fun j e => by
   have:=congrArg Addr.block e
   simp only at this
   omega
  refine ⟨h.ok.set hx, ?_, ?_,.slice (some ⟨g,0,none⟩) m.cs.length cap, ?_, ?_⟩
  ·rw [World.cell?_setCell_other _ _ _ _ (hne 0)];exact h.c0
  ·rw [World.cell?_setCell_other _ _ _ _ (hne 1)];exact h.c1
  ·rw [World.cell?_setCell_other _ _ _ _ (hne 2)]
   exact hv
  ·have hfs : (m.set x c).cs.flatMap intC = (m.cs.map fun c => Value.int .i64 c).set (at2 m.n x) (.int .i64 c):=by
    show (m.cs.set (at2 m.n x) c).flatMap intC = _
    rw [← List.map_set]
    induction m.cs.set (at2 m.n x) c with
    | nil => rfl
    | cons a r ih => rw [List.flatMap_cons,ih];rfl
   have hls : (m.set x c).cs.length = m.cs.length:=List.length_set
   show World.ownsRow _ _ _ _ _ (m.set x c).cs.length _
   rw [hls]
   refine ⟨by rw [hfs];simp,Or.inr ⟨g,cap,cur.setIfInBounds (at2 m.n x) (.int .i64 c),rfl,hb,heap_setCell_same W g _ cur _ _ hh,hn,hc,by simpa using hs, ?_⟩⟩
   rw [hfs,← hfm,← ht,Array.toList_setIfInBounds,List.take_set]
end Go.Proofs.YtepoiefadjoabaaGreatDoor
namespace Go.Proofs.YtepoiefadjoabaaGreatDoor
open Go Go.RowKit
attribute [local go_sem] quietE
set_option maxHeartbeats 1000000 in
theorem ris_any (c : Int) (w : World) : Calls Tryz.prog 54 #[.int .i64 c] w fun e w' => e = .returned (.bool (isC c)) ∧ w = w' := by
 unfold isC
 by_cases h0 : 0 ≤ c
 ·go_enter Tryz.func54,Tryz.ntmps54
  go_wp2
  go_ret
  exact ⟨ret_bool (by simp [h0]),rfl⟩
 ·go_enter Tryz.func54,Tryz.ntmps54
  go_wp2
  go_ret
  exact ⟨ret_bool (by simp;omega),rfl⟩
set_option maxHeartbeats 2000000 in
set_option maxRecDepth 100000 in
theorem rnew_bad (n d : Int) (w : World) (h : newB n d = false) : Calls Tryz.prog 15 #[.int .i64 n, .int .i64 d] w fun e w' => e = .returned (.pointer none) ∧ w = w' := by
 by_cases h1 : n < 1
 ·go_enter Tryz.func15,Tryz.ntmps15
  go_wp2_with (go_at_call 54;refine (ris_any _ _).mono ?_;rintro e w1 ⟨rfl,rfl⟩)
  go_ret
  exact ⟨rfl,rfl⟩
 ·by_cases h2 : (64 : Int) < n
  ·go_enter Tryz.func15,Tryz.ntmps15
   go_wp2_with (go_at_call 54;refine (ris_any _ _).mono ?_;rintro e w1 ⟨rfl,rfl⟩)
   go_ret
   exact ⟨rfl,rfl⟩
  ·have h3 : isC d = false:=by
    cases hd : isC d with
    | false => rfl
    | true =>
     have h3:=newB_iff (n:=n) (d:=d)
     rw [h] at h3
     have h4:=isC_iff.1 hd
     have:=h3.2 ⟨by omega,by omega,h4.1,h4.2⟩
     cases this
   clear h
   go_enter Tryz.func15,Tryz.ntmps15
   go_wp2_with (go_at_call 54;refine (ris_any _ _).mono ?_;rintro e w1 ⟨rfl,rfl⟩)
   go_ret
   exact ⟨rfl,rfl⟩
def RNewPost (m : Mx) (w : World) (e : Ending) (w' : World) : Prop := e = .returned (.pointer (some ⟨w.heap.size, 0, none⟩)) ∧ RefAt w' w.heap.size m ∧ Grows w w'
set_option maxHeartbeats 4000000 in
set_option maxRecDepth 100000 in
theorem rnew_any (n d : Int) (w : World) (h : newB n d = true) : Calls Tryz.prog 15 #[.int .i64 n, .int .i64 d] w (RNewPost (newM n d) w) := by
 have HOK:=Lib.hid (newM_ok h)
 obtain ⟨h1,h2,h3,h4⟩:=newB_iff.1 h
 have hC : isC d = true:=isC_iff.2 ⟨h3,h4⟩
 obtain ⟨N,rfl⟩ : ∃ N : Nat,n = N:=⟨n.toNat,by omega⟩
 have hnn : N * N ≤ 4096:=Nat.mul_le_mul (by omega : N ≤ 64) (by omega : N ≤ 64)
 obtain ⟨M,hM⟩ : ∃ M,M = N * N:=⟨_,rfl⟩
 have wNN : IntKind.i64.wrap ((N : Int) * N) = M:=by
  rw [show ((N : Int) * N) = ((N * N : Nat) : Int) by push_cast;rfl,← hM]
  simp [IntKind.wrap,IntKind.bits,IntKind.signed];omega
 have hM2 : M ≤ 4096:=by omega
 have hn1 : ¬ (N : Int) < 1:=by omega
 have hn2 : ¬ (64 : Int) < N:=by omega
 have HMM:=Lib.hid hM
 clear hM hnn h h1 h2
 go_enter Tryz.func15,Tryz.ntmps15
 go_wp2_with (go_at_call 54;refine (ris_any _ _).mono ?_;rintro e w1 ⟨rfl,rfl⟩)
 go_loopw [6] (fun i wx => ∃ (k : Nat) (v : Value),k ≤ M∧i = .int .i64 k∧wx.cell? ⟨w.heap.size,0,none⟩ = some (.int .i64 N)∧wx.cell? ⟨w.heap.size,1,none⟩ = some (.int .i64 d)∧wx.cell? ⟨w.heap.size,2,none⟩ = some v∧wx.frozen? ⟨w.heap.size,2,none⟩ = false∧Owns wx (w.heap.size + 1) 3 1 intC v (List.replicate k d)∧w.heap.size + 1 ≤ wx.heap.size∧Grows w wx) (fun i _ => M - (intOf i).toNat)
 case atStart => exact ⟨0,.slice none 0 0,Nat.zero_le _,rfl,cell_box _ _ _ _ 0 _ rfl,cell_box _ _ _ _ 1 _ rfl,cell_box _ _ _ _ 2 _ rfl,frozen_of_row _ _ _ _ _ (heap_alloc_new w _),Owns.nil _ _ _ _ _,by simp,Grows.alloc _ _⟩
 case round =>
  obtain ⟨k,v,hk,rfl,c0,c1,c2,f2,hown,hsz,hg⟩:=hrel
  by_cases hlt : k < M
  ·obtain ⟨av,cv,rfl,hv1,hv2,_⟩:=hown.at_ intLay.len
   have hob : ∀ (j : Nat),some (⟨w.heap.size,j,none⟩ : Addr).block ≠ (Value.slice av (List.replicate k d).length cv).ownBlock:=fun j e => by
    have:=ownBlock_ge hown _ e.symm
    simp only at this
    omega
   rw [List.length_replicate] at hown hob c2 hv1
   have HB:=Lib.hid hob
   clear hob
   go_wp2_with (at_builtin;refine app_one3 intLay rfl _ _ rfl (w.heap.size + 1) _ (List.replicate k d) d rfl hown (Grows.refl _) _ 1 rfl _ rfl rfl (by rw [List.length_replicate];omega) hsz ?_;intro v5 w5 hown5 hg5 hgr5;obtain ⟨a5,c5,rfl,_,_,_⟩:=hown5.at_ intLay.len;have e0:=grownBy_cell hg5 ((Grows.alloc _ _).cell c0) (HB.out 0);have e1:=grownBy_cell hg5 ((Grows.alloc _ _).cell c1) (HB.out 1);have e2:=grownBy_cell hg5 ((Grows.alloc _ _).cell c2) (HB.out 2);have ef:=(grownBy_froz hg5 (p:=⟨w.heap.size,2,none⟩) (by simp;omega) (HB.out 2)).trans (((Grows.alloc wr (.cells #[.int .i64 d] 3)).froz (p:=⟨w.heap.size,2,none⟩) (by simp;omega)).trans f2))
   go_roundw
   case rel =>
    have hrep : List.replicate k d ++ [d] = List.replicate (k + 1) d:=by rw [List.replicate_succ']
    rw [hrep] at hown5
    rw [List.length_replicate] at hown5
    have hgw5 : Grows w w5:=(hg.al (.cells #[.int .i64 d] 3)).grown hg5 (fun q hq => by have:=ownBlock_ge hown q hq;omega)
    have hs5:=hg5.size
    refine ⟨k + 1,_,hlt,by go_num, ?_, ?_,World.cell?_setCell_same _ _ _ e2, ?_,ownsRow_setCell_below hown5 (Nat.lt_succ_self _) _, ?_, ?_⟩
    ·rw [World.cell?_setCell_other _ _ _ _ (by simp)];exact e0
    ·rw [World.cell?_setCell_other _ _ _ _ (by simp)];exact e1
    ·rw [World.frozen?_setCell];exact ef
    ·simp at hs5 ⊢;omega
    ·exact hgw5.set (Nat.le_refl _) _
   case measure => simp [intOf];omega
  ·obtain rfl : k = M:=by omega
   go_wp2_with fail
   go_ret
   exact ⟨rfl,⟨HOK.out,c0,c1,v,c2,by rw [HMM.out] at hown;exact hown⟩,hg⟩
def RSetPost (rb : Nat) (m : Mx) (x : Int × Int) (c : Int) (w : World) (e : Ending) (w' : World) : Prop :=
 e = .returned (.bool (m.setB x c))∧RefAt w' rb (m.setIf x c)∧∃ g,rb < g∧w.grownBy w' (some g)
set_option maxHeartbeats 2000000 in
set_option maxRecDepth 100000 in
theorem rset_bad (w : World) (rb : Nat) (m : Mx) (h : RefAt w rb m) (r l c : Int) (hb : m.setB (r, l) c = false) : Calls Tryz.prog 27 #[.pointer (some ⟨rb, 0, none⟩), .int .i64 r, .int .i64 l, .int .i64 c] w fun e w' => e = .returned (.bool false) ∧ w = w' := by
 have c0:=h.c0
 cases hp : inP m.n (r,l)
 ·have hq : ¬ ((0 ≤ r∧r < m.n)∧0 ≤ l∧l < m.n):=fun hh => by have:=(inP_iff (n:=m.n) (x:=(r,l))).2 hh;rw [hp] at this;cases this
  have HQ:=Lib.hid hq
  clear hb h hq hp
  go_enter Tryz.func27,Tryz.ntmps27
  by_cases q1 : r < 0
  ·go_wp2
   go_ret
   exact ⟨rfl,rfl⟩
  ·by_cases q2 : (m.n : Int) ≤ r
   ·go_wp2
    go_ret
    exact ⟨rfl,rfl⟩
   ·by_cases q3 : l < 0
    ·go_wp2
     go_ret
     exact ⟨rfl,rfl⟩
    ·have q4 : (m.n : Int) ≤ l:=Int.not_lt.1 fun q4 => HQ.out ⟨⟨by omega,by omega⟩,by omega,q4⟩
     go_wp2
     go_ret
     exact ⟨rfl,rfl⟩
 ·have hc : isC c = false:=by unfold Mx.setB at hb;rw [hp] at hb;exact hb
  obtain ⟨⟨q1,q2⟩,q3,q4⟩:=inP_iff.1 hp
  have hq1 : ¬ r < 0:=by simp only at q1;omega
  have hq2 : ¬ (m.n : Int) ≤ r:=by simp only at q2;omega
  have hq3 : ¬ l < 0:=by simp only at q3;omega
  have hq4 : ¬ (m.n : Int) ≤ l:=by simp only at q4;omega
  clear h hb hp q1 q2 q3 q4
  go_enter Tryz.func27,Tryz.ntmps27
  go_wp2_with (first | (go_at_call 54;refine (ris_any _ _).mono ?_;rintro e w1 ⟨rfl,rfl⟩))
  go_ret
  exact ⟨rfl,rfl⟩
set_option maxHeartbeats 4000000 in
set_option maxRecDepth 100000 in
theorem rset_good2 (w : World) (rb : Nat) (m : Mx) (h : RefAt w rb m) (r l c : Int) (hb : m.setB (r, l) c = true) : Calls Tryz.prog 27 #[.pointer (some ⟨rb, 0, none⟩), .int .i64 r, .int .i64 l, .int .i64 c] w fun e w' => e = .returned (.bool true) ∧ RefAt w' rb (m.set (r, l) c) ∧ ∃ g, rb < g ∧ w.grownBy w' (some g) ∧ ∃ c0, w.cell? ⟨g, 0, none⟩ = some (.int .i64 c0) := by
 have hb2:=hb
 simp only [Mx.setB,Bool.and_eq_true] at hb2
 have hC : isC c = true:=hb2.2
 have hp:=hb2.1
 have hn2:=h.ok.n2
 have c0:=h.c0
 obtain ⟨g,cap,c2,hgr,hgl,hcell,hfr,hset⟩:=h.costs
 have hput:=fun W hW => hset W hW (r,l) c hb
 obtain ⟨⟨q1,q2⟩,q3,q4⟩:=inP_iff.1 hp
 have hlt:=at2_lt hp
 have hlen : m.cs.length = m.n * m.n:=h.ok.len
 obtain ⟨u,hu⟩ : ∃ u,m.cs[at2 m.n (r,l)]? = some u:=⟨_,List.getElem?_eq_getElem (by rw [hlen];exact hlt)⟩
 have hcc:=hcell _ _ hu
 have hff:=hfr (at2 m.n (r,l))
 obtain ⟨R,rfl⟩ : ∃ R : Nat,r = R:=⟨r.toNat,by simp only at q1;omega⟩
 obtain ⟨L,rfl⟩ : ∃ L : Nat,l = L:=⟨l.toNat,by simp only at q3;omega⟩
 have hat : at2 m.n ((R : Int),(L : Int)) = R * m.n + L:=rfl
 rw [hat] at hcc hlt hff hput
 have hnn : m.n * m.n ≤ 4096:=Nat.mul_le_mul hn2 hn2
 obtain ⟨RN,hRN⟩ : ∃ RN,RN = R * m.n:=⟨_,rfl⟩
 rw [← hRN] at hcc hlt hff hput
 have wRN : IntKind.i64.wrap ((R : Int) * m.n) = RN:=by
  rw [show ((R : Int) * m.n) = ((R * m.n : Nat) : Int) by push_cast;rfl,← hRN]
  simp [IntKind.wrap,IntKind.bits,IntKind.signed];omega
 have wI : IntKind.i64.wrap ((RN : Int) + L) = (RN + L : Nat):=by
  rw [show ((RN : Int) + L) = ((RN + L : Nat) : Int) by push_cast;rfl]
  simp only [IntKind.wrap,IntKind.bits,IntKind.signed];simp;omega
 obtain ⟨I,hI⟩ : ∃ I,I = RN + L:=⟨_,rfl⟩
 rw [← hI] at wI hcc hlt hff hput
 rw [← hlen] at hlt
 have hq1 : ¬ (R : Int) < 0:=by omega
 have hq2 : ¬ (m.n : Int) ≤ R:=by simp only at q2;omega
 have hq3 : ¬ (L : Int) < 0:=by omega
 have hq4 : ¬ (m.n : Int) ≤ L:=by simp only at q4;omega
 have hlen2 : m.cs.length ≤ 4096:=by omega
 have HP:=Lib.hid hput
 have HC0 : Hid (∃ c0,w.cell? ⟨g,0,none⟩ = some (.int .i64 c0)):=by
  have h9 : 0 < m.cs.length:=by omega
  exact ⟨_,hcell 0 _ (List.getElem?_eq_getElem h9)⟩
 generalize m.cs.length = N2 at *
 clear hput hset hcell hfr hb hp h hu hat hlen hnn hRN hI q1 q2 q3 q4 hb2
 go_enter Tryz.func27,Tryz.ntmps27
 go_wp2_with (first | (go_at_call 54;refine (ris_any _ _).mono ?_;rintro e w1 ⟨rfl,rfl⟩))
 have z0 : ∀ x : Ext Grows w.drew,x.u.cell? ⟨rb,0,none⟩ = some (.int .i64 m.n):=ext_cell ((Grows.drew w).cell c0)
 have z2 : ∀ x : Ext Grows w.drew,x.u.cell? ⟨rb,2,none⟩ = some (.slice (some ⟨g,0,none⟩) N2 cap):=ext_cell ((Grows.drew w).cell c2)
 refine s_tail Grows 14 [(0,false),(1,false),(2,false),(3,false),(4,false),(5,false),(6,false),(7,false),(8,false),(9,false),(10,false),(11,false),(12,false),(13,false)] Grows.refl Grows.trans (by kernel_rfl) (by kernel_rfl) (fun d _ _ _ _ h => by cases d <;> exact h) ?_
 iterate 14 (refine s_quiet rfl (fun K hK => ?_);go_simp;refine hK _ ?_;clear hK K)
 refine s_end (fun w4 h4 => ?_)
 simp only [List.drop_succ_cons,List.drop_zero]
 have hg4:=(Grows.drew w).tr h4
 have d0:=hg4.cell hcc
 have df:=(hg4.froz (p:=⟨g,I,none⟩) hgl).trans hff
 clear z0 z2
 go_wp2_with fail
 go_ret
 exact ⟨rfl,HP.out w4 hg4,g,hgr,hg4.grownBy_set g I _,HC0.out⟩
theorem rset_good (w : World) (rb : Nat) (m : Mx) (h : RefAt w rb m) (r l c : Int) (hb : m.setB (r, l) c = true) : Calls Tryz.prog 27 #[.pointer (some ⟨rb, 0, none⟩), .int .i64 r, .int .i64 l, .int .i64 c] w fun e w' => e = .returned (.bool true) ∧ RefAt w' rb (m.set (r, l) c) ∧ ∃ g, rb < g ∧ w.grownBy w' (some g) :=
 (rset_good2 w rb m h r l c hb).mono fun _ _ ⟨h1,h2,g,h3,h4,_⟩ => ⟨h1,h2,g,h3,h4⟩
theorem rset_any (w : World) (rb : Nat) (m : Mx) (h : RefAt w rb m) (r l c : Int) : Calls Tryz.prog 27 #[.pointer (some ⟨rb, 0, none⟩), .int .i64 r, .int .i64 l, .int .i64 c] w (RSetPost rb m (r, l) c w) := by
 cases hb : m.setB (r,l) c
 ·refine (rset_bad w rb m h r l c hb).mono fun e w' ⟨he,hw⟩ => ?_
  subst hw
  exact ⟨by rw [hb];exact he,by rw [setIf_no hb];exact h,rb + 1,Nat.lt_succ_self _,⟨rfl,rfl,rfl,Nat.le_refl _,fun _ _ _ => rfl⟩⟩
 ·exact (rset_good w rb m h r l c hb).mono fun e w' ⟨he,hm,hg⟩ => ⟨by rw [hb];exact he,by rw [setIf_yes hb];exact hm,hg⟩
end Go.Proofs.YtepoiefadjoabaaGreatDoor
