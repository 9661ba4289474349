import Derived.Test.YtepoiefadjoabaaGreatDoorQ42
import Derived.Test.YtepoiefadjoabaaGreatDoorQ21
import Derived.Test.YtepoiefadjoabaaGreatDoorQ31
import Derived.Test.YtepoiefadjoabaaGreatDoorQ38
import Derived.Test.YtepoiefadjoabaaGreatDoorQ29
import Derived.Test.YtepoiefadjoabaaGreatDoorQ39
import Derived.Test.YtepoiefadjoabaaGreatDoorQ5
import Derived.Shelf.GgSortFunc.Compose
namespace Go.Proofs.YtepoiefadjoabaaGreatDoor
open Go Go.RowKit Go.Shelf
attribute [local go_sem] quietE quietE2
end Go.Proofs.YtepoiefadjoabaaGreatDoor
namespace Go.Proofs.YtepoiefadjoabaaGreatDoor
open Go Go.RowKit Go.Shelf Go.Sort
theorem grownBy_nv {w : World} {g n : Nat} {os : Array Obj} (d : Array Nat) : w.grownBy (grow (putRow nv (Sort.ahead w n) g 0 d) os) (some g) := by
 refine ⟨rfl,rfl,rfl,by simp,fun k hk hne => ?_⟩
 rw [heap_grow_old _ _ (by simpa using hk)]
 have : g ≠ k:=fun e => hne (by rw [e])
 simp [putRow,mapBlock,Sort.ahead,Array.getElem?_modify,this]
theorem sw_grows {wB w0 W : World} {ob : Nat} {dk : Array Nat} (hB : Grows wB w0) (hob : wB.heap.size ≤ ob) (S : SWn w0 ob dk W) : Grows wB W := by
 obtain ⟨m,os,rfl⟩:=S
 exact hB.grown (grownBy_nv dk) (fun q hq => by cases hq;exact hob)
theorem ord_at {es : List En} {BS : List ByteArray} {ib eb sc ob : Nat} {sa : Option Addr} {wB w0 : World} (hn : es.length ≤ 1048576) (hL : BS.length ≤ 1048576) (hB : Grows wB w0) (hob : wB.heap.size ≤ ob) (hid : IdAt wB ib BS) (hcell : wB.cell? ⟨eb, 0, none⟩ = some (.slice sa es.length sc)) (hat : AtCells wB sa 5 (es.map enCells))
  (hown : Owns w0 wB.heap.size 3 1 natC (.slice (some ⟨ob,0,none⟩) es.length es.length) (List.range es.length)) (hlt : ob < w0.heap.size) (hm : ∀ x ∈ es,x.s ∈ BS) (hz : ∀ x ∈ es,x.s.size ≤ maxLen) :
  StabAt (keySE BS es) es.length ob 41 #[.pointer (some ⟨ib,0,none⟩),.pointer (some ⟨eb,0,none⟩)] (List.range es.length).toArray w0∧SWn w0 ob (List.range es.length).toArray w0:=by
 have hH : Holds nv w0 ob 0 (List.range es.length).toArray:=fun j hj => by
  have hj2 : j < es.length:=by simpa using hj
  have h1:=own_cell1 (f:=fun n : Nat => Value.int .i64 n) hown (k:=j) (x:=j) (by rw [List.getElem?_range hj2])
  obtain ⟨h2,_,_⟩:=owns_set1 (f:=fun n : Nat => Value.int .i64 n) hown (k:=j) (by simpa using hj2) 0
  refine ⟨?_,by rw [Nat.zero_add];exact h2⟩
  rw [Nat.zero_add,h1]
  simp [nv,hj2]
 refine ⟨⟨⟨fun x => rfl,hH,hlt⟩,by simp,hn,bcl4_eg, ?_⟩,⟨0,#[],(sortWorld_start nv w0 ob 0 _ hH).symm⟩⟩
 intro m os dk hs x y hx hy
 have hg : Grows wB (sortWorld nv w0 ob 0 m dk os):=sw_grows hB hob ⟨m,os,rfl⟩
 have hex : es[x]? = some (es.getD x enZero):=by rw [List.getD_eq_getElem?_getD,List.getElem?_eq_getElem hx];rfl
 have hey : es[y]? = some (es.getD y enZero):=by rw [List.getD_eq_getElem?_getD,List.getElem?_eq_getElem hy];rfl
 have hmx:=List.mem_of_getElem? hex
 have hmy:=List.mem_of_getElem? hey
 have h:=bcl4_any BS ib eb (keySE BS es x) (keySE BS es y) x y es (es.getD x enZero) (es.getD y enZero) sa sc _ (hid.grows hg) (hg.cell hcell) (hat.grows hg) hn hL hex hey (sidE_get (hm _ hmx)) (sidE_get (hm _ hmy)) ⟨hz _ hmx,hz _ hmy⟩
 exact h.mono fun e w' ⟨h1,h2⟩ => ⟨h1,1,#[],by rw [h2,grow_empty];rfl⟩
theorem ord_left {es : List En} {BS : List ByteArray} {ob : Nat} {_wB w0 w' : World} {dk : Array Nat} (hs : dk.size = es.length) (hw : Win (keySE BS es) (Fd dk) 0 es.length) (hm : ∀ x ∈ es, x.s ∈ BS) (R : Row1 nv w0 ob 0 (List.range es.length).toArray) (S : SWn w0 ob dk w') :
  AtCells w' (some ⟨ob,0,none⟩) 1 ((grpsL (keySE BS es) es.length BS.length).map natC)∧(grpsL (keySE BS es) es.length BS.length).length = es.length∧∀ i ∈ grpsL (keySE BS es) es.length BS.length,i < es.length:=by
 have h1 : (List.range es.length).map (Fd dk) = grpsL (keySE BS es) es.length BS.length:=win_grps hw fun i hi => by
  have hex : es[i]? = some (es.getD i enZero):=by rw [List.getD_eq_getElem?_getD,List.getElem?_eq_getElem hi];rfl
  exact sidE_lt (hm _ (List.mem_of_getElem? hex))
 rw [← h1]
 refine ⟨fun _ => ⟨ob,0,rfl,fun i row hi j u hj => ?_⟩,by simp,fun i hi => ?_⟩
 ·rw [List.getElem?_map,List.getElem?_map] at hi
  rcases Nat.lt_or_ge i es.length with hlt | hge
  ·rw [List.getElem?_range hlt] at hi
   simp only [Option.map_some,Option.some.injEq] at hi
   subst hi
   match j,hj with
   | 0,hj =>
    have:=S.c1 R (by rw [hs];simp) i (by omega)
    simp only [natC,List.getElem?_cons_zero,Option.some.injEq] at hj
    subst hj
    simpa [Fd,nv] using this
  ·rw [List.getElem?_eq_none (by simpa using hge)] at hi
   cases hi
 ·obtain ⟨j,hj,rfl⟩:=List.mem_map.1 hi
  rw [List.mem_range] at hj
  exact (hw.inn j (Nat.zero_le _) hj).2
end Go.Proofs.YtepoiefadjoabaaGreatDoor
