/- The texts Pairs, one behind the other. -/
import Derived.Test.YtepoiefadjoabaaGreatDoorH14
import Derived.Test.YtepoiefadjoabaaGreatDoorH17
namespace Go.Proofs.YtepoiefadjoabaaGreatDoor
open Go Go.RowKit Go.Shelf
attribute [local go_sem] quietE
theorem sortedP_eq {m : Mx} (hok : m.OK) {D : DataW Unit} (hM : MapM m D) {ss : List PW} (hA : AllKeys D ss) {l : List (Int × Int)} (hp : l.Perm (ss.map (·.1))) (hs : l.Pairwise fun x y => ltOf cmpP y x = false) : l = m.pairs := by
 have hnd : l.Nodup:=hp.nodup_iff.2 (List.pairwise_map.2 (hA.1.imp fun h e => h (Subtype.ext e)))
 have hlt : l.Pairwise ltP:=(hs.and hnd).imp fun {x y} ⟨h1,h2⟩ => by
  rcases ltP_total h2 with h | h
  ·exact h
  ·rw [(ltOf_P y x).2 h] at h1;cases h1
 refine pw_unique (lt:=ltP) ltP_irrefl (fun h k => ltP_trans h k) hlt m.pairs_sorted fun y => ?_
 rw [hp.mem_iff,Mx.mem_pairs,List.mem_map]
 constructor
 ·rintro ⟨x,hx,rfl⟩
  have h1:=(hA.2 x).1 hx
  have h2:=(hM x.1 x.2.1 x.2.2).1
  rw [h1] at h2
  have h3:=h2.symm
  simpa using h3
 ·rintro ⟨h1,h2⟩
  have hw:=wf_of_in hok.n2 h1
  refine ⟨⟨y,hw.1,hw.2⟩,(hA.2 _).2 ?_,rfl⟩
  rw [(hM y hw.1 hw.2).1,h1]
  simp [h2]
theorem owns_pw {w : World} {base : Nat} {v : Value} {ss : List PW} (h : w.ownsRow base 162 2 v ss.length (ss.flatMap cellsPW)) : Owns w base 162 2 pairC v (ss.map (·.1)) := by
 unfold Owns
 rw [List.length_map,List.flatMap_map]
 exact h
set_option maxHeartbeats 2000000 in
theorem sortedP_any (w : World) (Bm bm nn : Nat) (D : DataW Unit) (m : Mx) (hok : m.OK) (hM : MapM m D) (hsz : Maps.size D ≤ 4096) (hm : w.cell? ⟨Bm, 0, none⟩ = some (.map (some bm))) (hown : w.ownsMap Tryz.prog 162 (plainElem Tryz.prog 3) bm nn D) :
  Calls Tryz.prog 151 #[.func (.func 202) #[] #[.pointer (some ⟨Bm,0,none⟩)],.func (.func 153) #[] #[]] w fun e w' => ∃ v,e = .returned v∧Owns w' w.heap.size 162 2 pairC v m.pairs∧Grows w w':=by
 have CC:=Lib.hid (collectP_any w Bm bm nn D hsz hm hown)
 have HE:=fun (ss : List PW) (l : List (Int × Int)) h1 h2 h3 => Lib.hid (sortedP_eq hok hM (ss:=ss) (l:=l) h1 h2 h3)
 have HL : Hid (∀ ss : List PW,AllKeys D ss → ss.length < 4611686018427387904):=fun ss hA => by
  have h0:=nodup_sub_len (l':=m.pairs) (List.pairwise_map.2 (hA.1.imp fun h (e : _ = _) => h (Subtype.ext e)) : (ss.map (·.1)).Nodup) (fun y hy => by
   obtain ⟨x,hx,rfl⟩:=List.mem_map.1 hy
   have h1:=(hA.2 x).1 hx
   have h2:=(hM x.1 x.2.1 x.2.2).1
   rw [h1] at h2
   exact Mx.mem_pairs.2 (by simpa using h2.symm))
  rw [List.length_map] at h0
  have:=Mx.pairs_len hok
  omega
 clear hM hok hsz hm hown
 go_enter Tryz.func151,Tryz.ntmps151
 go_wp2_with fail
 refine CC.out.mono ?_
 rintro e w1 ⟨v,ss,rfl,hA,hrow,hb⟩
 have hown1:=owns_pw hrow
 have hl:=HL.out ss hA
 go_wp2_with (go_at_call 201;refine (psortf_any w1 w.heap.size v _ hown1 (by rw [List.length_map];exact hl)).mono ?_;rintro e w2 ⟨rfl,l',hp,hsd,hown2,hg2⟩)
 go_ret
 have he:=(HE ss l' hA hp hsd).out
 rw [he] at hown2
 exact ⟨_,rfl,hown2,(show Grows w w1 from hb).grown hg2 (fun q hq => ownBlock_ge hown1 q hq)⟩
set_option maxHeartbeats 2000000 in
theorem pairs_any (w : World) (mb bm : Nat) (m : Mx) (h : MatAt w mb bm m) :
  Calls Tryz.prog 97 #[.pointer (some ⟨mb,0,none⟩)] w fun e w' => ∃ v,e = .returned v∧Owns w' w.heap.size 162 2 pairC v m.pairs∧Grows w w':=by
 have c2:=h.c2
 obtain ⟨D,hown,hM⟩:=h.own
 have hok:=h.ok
 have CS:=Lib.hid (sortedP_any (w.alloc (.cells #[.map (some bm)] 158)) w.heap.size bm 4096 D m hok hM (mapM_size hok hown hM) (cell_box _ _ _ _ 0 _ rfl) (hown.alloc _))
 clear hM hok hown h
 go_enter Tryz.func97,Tryz.ntmps97
 go_wp2_with (first | (go_at_call 152;refine (keysP_any _ _).mono ?_;rintro e w1 ⟨rfl,rfl⟩) | (go_at_call 151;refine CS.out.mono ?_;rintro e w2 ⟨v,rfl,hown2,hg2⟩))
 go_ret
 exact ⟨_,rfl,hown2.base (by simp),(Grows.alloc _ _).tr hg2⟩
end Go.Proofs.YtepoiefadjoabaaGreatDoor
