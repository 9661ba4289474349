/- The texts Txt LbP TriQ GroP, one behind the other. -/
import Derived.Test.YtepoiefadjoabaaGreatDoorH37
import Derived.Test.YtepoiefadjoabaaGreatDoorH33
import Derived.Test.YtepoiefadjoabaaGreatDoorH7
import Derived.Test.YtepoiefadjoabaaGreatDoorH1
namespace Go.Proofs.YtepoiefadjoabaaGreatDoor
open Go Go.RowKit
attribute [local go_sem] quietE quietE2
theorem nodeIx_get {L : List (List UInt8)} (hok : OkL L) {j i : Nat} {x : Span} (hj : j < L.length) (hi : (nodesA L)[i]? = some x) (hh : here L x = true) (hx : x.i = j) : (nodeIx L)[j]? = some i := by
 unfold nodeIx
 rw [List.getElem?_map,List.getElem?_range hj,Option.map_some]
 congr 1
 have hlt:=(List.getElem?_eq_some_iff.1 hi).1
 rw [List.findIdx_eq hlt]
 obtain ⟨h1,h2⟩:=List.getElem?_eq_some_iff.1 hi
 refine ⟨by rw [h2,hh,hx];simp,fun k hk => ?_⟩
 apply Classical.byContradiction
 intro hcon
 have hcon : (here L ((nodesA L)[k]'(by omega)) && ((nodesA L)[k]'(by omega)).i == j) = true:=by simpa using hcon
 simp only [Bool.and_eq_true,beq_iff_eq] at hcon
 have g1:=hok.good hi
 have g2:=hok.good (List.getElem?_eq_getElem (show k < (nodesA L).length by omega))
 have e1:=(here_iff hok.asc g1 hok.pos j).2 ⟨hh,hx.symm⟩
 have e2:=(here_iff hok.asc g2 hok.pos j).2 ⟨hcon.1,hcon.2.symm⟩
 rw [e1] at e2
 have:=g1.inj hok.asc g2 (Option.some.inj e2)
 have:=hok.uniq hi (by rw [this];exact List.getElem?_eq_getElem (show k < (nodesA L).length by omega))
 omega
set_option maxHeartbeats 4000000 in
set_option maxRecDepth 100000 in
theorem text_any (L : List (List UInt8)) (tb id : Nat) (w : World) (hok : OkL L) (hl : L.length ≤ 20000) (hc : countL L ≤ 524287) (hid : id < L.length) (hat : TrieAt w tb L) :
  Calls Tryz.prog 36 #[.pointer (some ⟨tb,0,none⟩),.int .i64 id] w fun e w' => e = .returned (.tuple #[.string (mkB (nth L id)),.bool true])∧Grows w w':=by
 obtain ⟨z1,z2,z3,z4,z5⟩:=hok.sizes hl hc
 obtain ⟨i0,x0,hx0,hh0,hxi0⟩:=hok.node hid
 have hn0:=nodeIx_get hok hid hx0 hh0 hxi0
 have hs0 : spanS L x0 = nth L id:=by
  have h1:=(here_iff hok.asc (hok.good hx0) hok.pos id).2 ⟨hh0,hxi0.symm⟩
  rw [nth_some hid] at h1
  exact (Option.some.inj h1).symm
 have h256 : (nth L id).length ≤ 256:=hok.len _ (List.mem_of_getElem? (nth_some hid))
 have CL:=Lib.hid (fun (u : World) (h : Grows w u) => tlen_any L tb u (hat.grows h))
 obtain ⟨vN,n1,n2⟩:=hat.n
 obtain ⟨aN,cN,rfl,_,_,hatN⟩:=n2.at_ (enc:=natC) (fun _ => rfl)
 have hNl : (nodeIx L).length = L.length:=by simp [nodeIx]
 rw [hNl] at n1
 obtain ⟨nb,no,rfl,hcN⟩:=at1 (f:=fun n : Nat => Value.int .i64 n) hatN (ne_nil_of_lt (k:=id) (by rw [hNl];exact hid))
 have hcid:=hcN id _ hn0
 obtain ⟨vL,l1,l2⟩:=hat.l
 obtain ⟨sb,s1,s2⟩:=hat.s
 have hidi : (id : Int) < L.length:=by omega
 have hid0 : ¬ (id : Int) < 0:=by omega
 have hidn : ¬ (L.length : Int) ≤ id:=by omega
 have HAT:=Lib.hid hat
 obtain ⟨W1,hW1⟩ : ∃ W1,W1 = w.alloc (.cells Tryz.zeroCells150 150):=⟨_,rfl⟩
 have g1 : Grows w W1:=by rw [hW1];exact Grows.alloc _ _
 have n1a:=g1.cell n1
 have hcida:=g1.cell hcid
 rw [hW1] at n1a hcida
 have START : Hid (∃ cs : Array Value,W1.heap[w.heap.size]? = some (.cells cs 150 (0,0))∧cs.size = 256∧∀ j b,([] : List UInt8)[j]? = some b → cs[256 + j]? = some (.int .u8 (b.toNat : Nat))) :=
  ⟨Tryz.zeroCells150,by rw [hW1];show (w.heap.push _)[w.heap.size]? = _;simp,by kernel_rfl,fun j b h => by simp at h⟩
 have NODE : Hid ((nodesA L)[i0]? = some x0∧spanS L x0 ++ [] = nth L id):=⟨hx0,by rw [List.append_nil];exact hs0⟩
 have HOK:=Lib.hid hok
 have hbl : w.heap.size < W1.heap.size:=by rw [hW1];simp
 obtain ⟨aL,cL,rfl,_,_,hatL⟩:=l2.at_ byteLay.len
 have HATL:=Lib.hid hatL
 have HS2:=Lib.hid s2
 have HZ1:=Lib.hid z1
 have hbb : ∀ q,aL = some q → q.block < w.heap.size:=fun q hq => own_lt l2 q.block (by rw [hq];rfl)
 have HBB:=Lib.hid hbb
 obtain ⟨ln,hln⟩ : ∃ ln,ln = (labelsL L (nodesA L)).length:=⟨_,rfl⟩
 have HLN:=Lib.hid hln
 rw [← hln] at l1
 have hln2 : ln ≤ 524287:=by omega
 have hNN : Hid ((nodesA L).length ≤ 524287∧ln + 1 = (nodesA L).length):=by
  have:=nodes_count hok.asc hok.len
  refine ⟨by omega, ?_⟩
  rw [hln,hok.labels,List.length_map,List.length_drop]
  have h0 : 0 < (nodesA L).length:=by
   have:=(List.getElem?_eq_some_iff.1 hx0).1;omega
  omega
 have hi0 : i0 ≤ 524287:=by have:=(List.getElem?_eq_some_iff.1 hx0).1;have:=hNN.out;omega
 clear hat n2 hatN hcN hn0 n1 hcid hx0 hh0 hxi0 hs0 z1 z2 z3 z4 z5 hok hc hatL s2 hbb l2 hln
 go_enter Tryz.func36,Tryz.ntmps36
 go_wp2_with (go_at_call 35;refine (CL.out _ (by first | exact Grows.refl _ | assumption)).mono ?_;rintro e w2 ⟨rfl,rfl⟩;skip)
 rw [← hW1]
 have hz : decide (L.length ≤ id) = false:=by simp;omega
 rw [hz]
 clear hW1 n1a hcida hz
 go_loopw [7,8] (fun u v wr => ∃ (A i : Nat) (x : Span) (tl : List UInt8) (cs : Array Value),u = .int .i64 A∧v = .int .i64 i∧A ≤ 256∧i ≤ 524287∧Hid (A + tl.length = 256∧(nodesA L)[i]? = some x∧spanS L x ++ tl = nth L id)∧Hid (wr.heap[w.heap.size]? = some (.cells cs 150 (0,0))∧cs.size = 256∧∀ j b,tl[j]? = some b → cs[A + j]? = some (.int .u8 (b.toNat : Nat)))∧Hid (Grows w wr)) (fun _ v _ => (intOf v).toNat)
 case atStart =>
  obtain ⟨cs,k1,k2,k3⟩:=START.out
  exact ⟨256,i0,x0,[],cs,by go_num,rfl,Nat.le_refl _,hi0,⟨rfl,NODE.out.1,NODE.out.2⟩,⟨k1,k2,k3⟩,g1⟩
 case round =>
  clear START NODE hi0 g1 hbl
  obtain ⟨A,i,x,tl,cs,rfl,rfl,hA,hi,hN,hB,hG⟩:=hrel
  by_cases h0 : 0 < i
  ·have h0i : (0 : Int) < i:=by omega
   obtain ⟨k1,k2,k3⟩:=hN.out
   obtain ⟨p,y,hy,hpi,o1,o2,hm⟩:=HOK.out.parent h0 k2
   have hks:=kid_str HOK.out.asc (HOK.out.good hy) hm
   obtain ⟨b,hb⟩ : ∃ b,b = (nth L x.i).getD y.d 0:=⟨_,rfl⟩
   rw [← hb] at hks
   have hil:=(List.getElem?_eq_some_iff.1 k2).1
   have hA0 : 0 < A:=by
    have:=congrArg List.length k3
    rw [hks,List.length_append,List.length_append] at this
    simp at this;omega
   obtain ⟨A1,hA1⟩ : ∃ q,q = A - 1:=⟨_,rfl⟩
   obtain ⟨i1,hi1⟩ : ∃ q,q = i - 1:=⟨_,rfl⟩
   have wA : IntKind.i64.wrap ((A : Int) - 1) = A1:=by simp [IntKind.wrap,IntKind.bits,IntKind.signed];omega
   have wi : IntKind.i64.wrap ((i : Int) - 1) = i1:=by simp [IntKind.wrap,IntKind.bits,IntKind.signed];omega
   have hlab : (labelsL L (nodesA L))[i1]? = some b:=by
    rw [HOK.out.labels,List.getElem?_map,List.getElem?_drop,show 1 + i1 = i by omega,k2,Option.map_some,hks]
    simp
   obtain ⟨lb,lo,rfl,hcl⟩:=at1 (f:=fun b : UInt8 => Value.int .u8 b.toNat) (HATL.out.grows hG.out) (List.ne_nil_of_mem (List.mem_of_getElem? hlab))
   have hlc:=hcl i1 b hlab
   have hi1l : (i1 : Int) < ln:=by have:=hNN.out;omega
   have hA1l : (A1 : Int) < 256:=by omega
   have l1r:=hG.out.cell l1
   have s1r:=hG.out.cell s1
   obtain ⟨m1,m2,m3⟩:=hB.out
   obtain ⟨ov,hov⟩ : ∃ v,wr.cell? ⟨w.heap.size,A1,none⟩ = some v:=⟨cs[A1]'(by omega),by simp [World.cell?,m1,show A1 < cs.size by omega]⟩
   have hof : wr.frozen? ⟨w.heap.size,A1,none⟩ = false:=by simp [World.frozen?,m1]
   obtain ⟨W2,hW2⟩ : ∃ W2,W2 = wr.setCell ⟨w.heap.size,A1,none⟩ (.int .u8 (b.toNat : Nat)):=⟨_,rfl⟩
   have g2 : Grows w W2:=by rw [hW2];exact hG.out.set (Nat.le_refl _) _
   have B2 : Hid (W2.heap[w.heap.size]? = some (.cells (cs.setIfInBounds A1 (.int .u8 (b.toNat : Nat))) 150 (0,0))):=by
    rw [hW2];exact heap_setCell_same wr _ _ cs _ _ m1
   have hw2 : w.heap.size < W2.heap.size:=(Array.getElem?_eq_some_iff.1 B2.out).1
   have B3 : Hid (∀ j c,(b :: tl)[j]? = some c → (cs.setIfInBounds A1 (.int .u8 (b.toNat : Nat)))[A1 + j]? = some (.int .u8 (c.toNat : Nat))):=fun j c hj => by
    cases j with
    | zero =>
     obtain rfl : b = c:=by simpa using hj
     rw [Nat.add_zero,Array.getElem?_setIfInBounds_self]
     simp;omega
    | succ j =>
     rw [Array.getElem?_setIfInBounds_ne (by omega),show A1 + (j + 1) = A + j by omega]
     exact m3 j c (by simpa using hj)
   have N2 : Hid (A1 + (b :: tl).length = 256∧(nodesA L)[p]? = some y∧spanS L y ++ (b :: tl) = nth L id):=⟨by rw [List.length_cons];omega,hy,by rw [← k3,hks];simp⟩
   have CSZ : Hid ((cs.setIfInBounds A1 (.int .u8 (b.toNat : Nat))).size = 256):=by show _ = _;simpa using m2
   obtain ⟨q1,q2,q3⟩:=place_kid hy o1 o2
   obtain ⟨pos,hpos⟩ : ∃ q,q = i + p + 1:=⟨_,rfl⟩
   rw [← hpos] at q1 q2 q3
   have hposl : pos < (shapeL L (nodesA L)).length:=by
    have h1:=shapeL_len L (nodesA L).length (Nat.le_refl _)
    rw [List.take_length,HOK.out.off_all] at h1
    omega
   have CSEL:=Lib.hid (fun (u : World) (hg : Grows w u) => select_any (shapeL L (nodesA L)) sb true pos i u HZ1.out hposl q1 q2 (HS2.out.grows hg))
   have CRNK : Hid (∀ (u : World),Grows w u → Calls Tryz.prog 90 #[.pointer (some ⟨sb,0,none⟩),.bool false,.int .i64 pos] u fun e w' => e = .returned (.int .i64 ((p + 1 : Nat) : Int))∧u = w'):=fun u hg => by
    have h:=rank_any (shapeL L (nodesA L)) sb false pos u HZ1.out (by have:=HZ1.out;omega) (HS2.out.grows hg)
    rw [show min pos (shapeL L (nodesA L)).length = pos by omega,q3] at h
    exact h
   have wp1 : IntKind.i64.wrap (((p + 1 : Nat) : Int) - 1) = p:=by simp [IntKind.wrap,IntKind.bits,IntKind.signed];omega
   obtain ⟨p1,hp1⟩ : ∃ q,q = p + 1:=⟨_,rfl⟩
   rw [← hp1] at CRNK wp1
   have z1 : ∀ x : Ext Grows W2.drew,x.u.cell? ⟨tb,0,none⟩ = some (.pointer (some ⟨sb,0,none⟩)):=ext_cell ((Grows.drew W2).cell (g2.cell s1))
   have HPI:=Lib.hid hpi
   clear hN hB k1 k2 k3 hy o1 o2 hm hks hb hil hA1 hi1 hlab hcl m1 m2 m3 q1 q2 q3 hpos hposl hp1 hpi
   go_wp2_with fail
   rw [← hW2]
   clear hW2 hov hof hlc l1r s1r
   refine t_region (Grows) [(0,false),(1,false),(2,false),(3,false),(4,false),(5,false),(6,false),(7,false),(8,false),(9,true),(10,true),(11,false),(12,false)] Grows.refl Grows.trans (by kernel_rfl) (by kernel_rfl) (fun d _ _ _ _ h => by cases d <;> exact h) ?_
   iterate 9 (refine t_quiet rfl (fun K hK => ?_);go_simp;refine hK _ ?_;clear hK K)
   clear z1
   refine t_late rfl rfl (fun K hK => ?_)
   go_simp
   refine (CSEL.out _ (g2.tr (Grows.drew W2))).mono ?_
   rintro e w3 ⟨rfl,hg3⟩
   refine ⟨hg3,hK _ _ ?_⟩
   clear hK K
   have g3 : Grows w w3:=(g2.tr (Grows.drew W2)).tr hg3
   refine t_late rfl rfl (fun K hK => ?_)
   go_simp
   refine (CRNK.out _ g3).mono ?_
   rintro e w4 ⟨rfl,rfl⟩
   refine ⟨Grows.refl _,hK _ _ ?_⟩
   clear hK K
   iterate 2 (refine t_quiet rfl (fun K hK => ?_);go_simp;refine hK _ ?_;clear hK K)
   refine t_end ?_
   have B4 : w3.heap[w.heap.size]? = some (.cells (cs.setIfInBounds A1 (.int .u8 (b.toNat : Nat))) 150 (0,0)):=(Below.block ((Grows.drew W2).tr hg3) _ hw2).trans B2.out
   replace B4:=Lib.hid B4
   clear hg3 B2 CSEL CRNK
   go_wp2_with fail
   go_roundw
   case rel => exact ⟨A1,p,y,b :: tl,_,by go_num,by go_num,by have:=N2.out.1;omega,by have:=HPI.out;omega,N2.out,⟨B4.out,CSZ.out,B3.out⟩,g3⟩
   case measure => have:=HPI.out;simp [intOf];omega
  ·have h0i : ¬ (0 : Int) < i:=by omega
   obtain rfl : i = 0:=by omega
   obtain ⟨k1,k2,k3⟩:=hN.out
   have hx : x = rootS L:=by
    have h1:=HOK.out.fix
    have h2 : (rootS L :: (nodesA L).flatMap (kids L))[0]? = some x:=by rw [← h1];exact k2
    simpa using h2.symm
   have htl : tl = nth L id:=by
    rw [← k3,hx];simp [spanS,rootS]
   have hconv : (convert 28 9 (.slice (some ⟨w.heap.size,A,none⟩) (256 - A) (256 - A))).run Tryz.prog wr = .ok (.string (mkB (nth L id))) wr:=by
    obtain ⟨m1,m2,m3⟩:=hB.out
    have hz : (mkB tl).size = tl.length:=by rw [Lib.size_eq,mkB_data]
    have hBy : Lib.Bytes wr w.heap.size A (mkB tl):=fun j hj => by
     rw [hz] at hj
     have h3:=m3 j _ (List.getElem?_eq_getElem hj)
     unfold World.cell?
     simp only [m1,Option.isSome_none,Bool.false_eq_true,if_false]
     exact h3
    have:=Lib.run_convert_whole (P:=Tryz.prog) wr 28 5 9 Tryz.underlying28 Tryz.underlying5 Tryz.underlying9 w.heap.size A (mkB tl) hBy (256 - A)
    rw [hz,show tl.length = 256 - A by omega] at this
    rw [this,htl]
   have hpos : 0 < tl.length:=by
    rw [htl];exact List.length_pos_iff.2 (HOK.out.pos _ (List.mem_of_getElem? (nth_some hid)))
   have hAi : (A : Int) ≤ 256:=by omega
   have hAn : ¬ 256 = A:=by omega
   have G:=Lib.hid hG.out
   clear hN hB k1 k2 k3 hx htl hpos hG
   go_wp2_with fail
   first
    | exact bodyPost_ret (v:=.tuple #[.string (mkB (nth L id)),.bool true]) (by simp [results,Tryz.results36,go_sem]) rfl ⟨rfl,G.out⟩
    | exact bodyPost_end (v:=.tuple #[.string (mkB (nth L id)),.bool true]) (by simp [results,Tryz.results36,go_sem]) rfl ⟨rfl,G.out⟩
end Go.Proofs.YtepoiefadjoabaaGreatDoor
namespace Go.Proofs.YtepoiefadjoabaaGreatDoor
open Go
theorem labels_len (L : List (List UInt8)) : ∀ A : List Span, (labelsL L A).length = (A.flatMap (kids L)).length
 | [] => rfl
 | x :: A => by
  have:=labels_len L A
  unfold labelsL at *
  rw [List.flatMap_cons,List.flatMap_cons,List.length_append,List.length_append,List.length_map,this]
theorem offA_labels (L : List (List UInt8)) (i : Nat) : offA L i = (labelsL L ((nodesA L).take i)).length + 1 := by
 rw [labels_len]
 unfold offA bfsAt
 rw [List.length_cons]
theorem OkL.many {L : List (List UInt8)} (h : OkL L) (hl : L.length ≤ 20000) : (nodesA L).length ≤ 5120001 := by
 have h1:=congrArg List.length (nodes_strs h.asc)
 rw [List.length_map] at h1
 have h2:=nodesTo_len L 256
 have h3 : (nodesL L).length = (nodesTo L 256).length:=rfl
 omega
theorem labelsL_snoc (L : List (List UInt8)) (A : List Span) (x : Span) : labelsL L (A ++ [x]) = labelsL L A ++ (kids L x).map (labelOf L x) := by
 unfold labelsL
 rw [List.flatMap_append]
 simp
def ndTo (L : List (List UInt8)) (i : Nat) : List Nat := (nodeIx L).map fun k => if k < i then k else 0
theorem nodeIx_len (L : List (List UInt8)) : (nodeIx L).length = L.length := by simp [nodeIx]
theorem ndTo_zero {L : List (List UInt8)} : ndTo L 0 = List.replicate L.length 0 := by
 unfold ndTo
 apply List.ext_getElem?
 intro j
 rw [List.getElem?_map,List.getElem?_replicate]
 by_cases h : j < L.length
 ·rw [List.getElem?_eq_getElem (by rw [nodeIx_len];exact h),if_pos h]
  simp
 ·rw [List.getElem?_eq_none (by rw [nodeIx_len];omega),if_neg h];rfl
theorem OkL.ndTo_all {L : List (List UInt8)} (h : OkL L) {m : Nat} (hm : (nodesA L).length ≤ m) : ndTo L m = nodeIx L := by
 unfold ndTo
 have hl:=nodeIx_len L
 conv => rhs;rw [← List.map_id (nodeIx L)]
 apply List.map_congr_left
 intro k hk
 obtain ⟨j,hj⟩:=List.mem_iff_getElem?.1 hk
 have hjl : j < L.length:=by rw [← hl];exact (List.getElem?_eq_some_iff.1 hj).1
 obtain ⟨i,x,hi,hh,hx⟩:=h.node hjl
 have:=nodeIx_get h hjl hi hh hx
 rw [hj] at this
 have hlt:=(List.getElem?_eq_some_iff.1 hi).1
 rw [if_pos (by have:=Option.some.inj this;omega)]
 rfl
theorem OkL.ndTo_succ {L : List (List UInt8)} (h : OkL L) {i : Nat} {x : Span} (hx : (nodesA L)[i]? = some x) : ndTo L (i + 1) = if here L x = true then (ndTo L i).set x.i i else ndTo L i := by
 have hl:=nodeIx_len L
 have key : ∀ j,j < L.length → ((nodeIx L)[j]? = some i ↔ here L x = true∧x.i = j):=fun j hj => by
  obtain ⟨i',x',hi',hh',hx'⟩:=h.node hj
  have h1:=nodeIx_get h hj hi' hh' hx'
  rw [h1]
  constructor
  ·intro e
   have e2 : i' = i:=Option.some.inj e
   subst e2
   rw [hx] at hi'
   cases hi'
   exact ⟨hh',hx'⟩
  ·rintro ⟨a,b⟩
   have h2:=nodeIx_get h hj hx a b
   rw [h1] at h2
   exact h2
 apply List.ext_getElem?
 intro j
 by_cases hj : j < L.length
 ·obtain ⟨k,hk⟩ : ∃ k,(nodeIx L)[j]? = some k:=⟨_,List.getElem?_eq_getElem (by rw [hl];exact hj)⟩
  have e1 : (ndTo L (i + 1))[j]? = some (if k < i + 1 then k else 0):=by unfold ndTo;rw [List.getElem?_map,hk];rfl
  have e2 : (ndTo L i)[j]? = some (if k < i then k else 0):=by unfold ndTo;rw [List.getElem?_map,hk];rfl
  rw [e1]
  have hk2:=key j hj
  rw [hk] at hk2
  by_cases hh : here L x = true
  ·rw [if_pos hh]
   by_cases hxj : x.i = j
   ·have : k = i:=Option.some.inj (hk2.2 ⟨hh,hxj⟩)
    rw [hxj,List.getElem?_set_self (by unfold ndTo;rw [List.length_map,hl];exact hj),if_pos (by omega),this]
   ·have : k ≠ i:=fun e => hxj (hk2.1 (by rw [e])).2
    rw [List.getElem?_set_ne hxj,e2]
    congr 1
    by_cases h3 : k < i
    ·rw [if_pos h3,if_pos (by omega)]
    ·rw [if_neg h3,if_neg (by omega)]
  ·rw [if_neg hh,e2]
   have : k ≠ i:=fun e => hh (hk2.1 (by rw [e])).1
   congr 1
   by_cases h3 : k < i
   ·rw [if_pos h3,if_pos (by omega)]
   ·rw [if_neg h3,if_neg (by omega)]
 ·have hn : ∀ m,(ndTo L m)[j]? = none:=fun m => List.getElem?_eq_none (by unfold ndTo;rw [List.length_map,hl];omega)
  rw [hn]
  split
  ·rw [List.getElem?_eq_none (by rw [List.length_set];unfold ndTo;rw [List.length_map,hl];omega)]
  ·rw [hn]
theorem ndTo_len (L : List (List UInt8)) (i : Nat) : (ndTo L i).length = L.length := by unfold ndTo; rw [List.length_map, nodeIx_len]
end Go.Proofs.YtepoiefadjoabaaGreatDoor
namespace Go.Proofs.YtepoiefadjoabaaGreatDoor
open Go Go.RowKit
theorem OkL.root0 {L : List (List UInt8)} (h : OkL L) : (nodesA L)[0]? = some (rootS L) := by rw [h.fix]; rfl
theorem OkL.lab {L : List (List UInt8)} (h : OkL L) {k : Nat} {y : Span} (h1 : 1 ≤ k) (hy : (nodesA L)[k]? = some y) : (labelsL L (nodesA L))[k - 1]? = some ((spanS L y).getLastD 0) := by
 rw [h.labels,List.getElem?_map,List.getElem?_drop,show 1 + (k - 1) = k by omega,hy];rfl
theorem isL_bit {L : List (List UInt8)} {A : List Span} {i : Nat} {x : Span} (hx : A[i]? = some x) : bitOf (isL L A) i = here L x := by
 unfold bitOf isL
 rw [List.getD_eq_getElem?_getD,List.getElem?_map,hx];rfl
theorem isL_rank (L : List (List UInt8)) (A : List Span) : ∀ i, i ≤ A.length → rankT (isL L A) i = ((A.take i).filter (here L)).length
 | 0,_ => rfl
 | i + 1,h => by
  obtain ⟨x,hx⟩ : ∃ x,A[i]? = some x:=⟨_,List.getElem?_eq_getElem h⟩
  rw [rankT_succ,isL_rank L A i (by omega),isL_bit hx,List.take_add_one,hx,Option.toList_some,List.filter_append,List.length_append]
  congr 1
  by_cases hh : here L x = true
  ·simp [hh]
  ·simp [hh]
theorem ids_rank {L : List (List UInt8)} {A : List Span} {i : Nat} {x : Span} (hx : A[i]? = some x) (hh : here L x = true) : (idsL L A)[rankT (isL L A) i]? = some x.i := by
 have hi:=(List.getElem?_eq_some_iff.1 hx).1
 rw [isL_rank L A i (Nat.le_of_lt hi)]
 unfold idsL
 have e : A = A.take i ++ (x :: A.drop (i + 1)):=by
  have h1:=List.drop_eq_getElem_cons hi
  rw [(List.getElem?_eq_some_iff.1 hx).2] at h1
  rw [← h1,List.take_append_drop]
 have e2 : A.filter (here L) = (A.take i).filter (here L) ++ (x :: (A.drop (i + 1)).filter (here L)):=by
  conv => lhs;rw [e]
  rw [List.filter_append,List.filter_cons,if_pos hh]
 rw [e2,List.map_append,List.getElem?_append_right (by simp),List.length_map,Nat.sub_self]
 rfl
theorem OkL.here_at {L : List (List UInt8)} (h : OkL L) {i : Nat} {x : Span} (hx : (nodesA L)[i]? = some x) (j : Nat) : L[j]? = some (spanS L x) ↔ here L x = true ∧ j = x.i := here_iff h.asc (h.good hx) h.pos j
end Go.Proofs.YtepoiefadjoabaaGreatDoor
namespace Go.Proofs.YtepoiefadjoabaaGreatDoor
open Go Go.RowKit
def parN (L : List (List UInt8)) (k : Nat) : Nat := (List.range (k + 1)).countP fun q => decide (offA L (q + 1) ≤ k)
theorem parN_at {L : List (List UInt8)} {p k : Nat} (hp : p ≤ k) (h1 : offA L p ≤ k) (h2 : k < offA L (p + 1)) : parN L k = p := by
 unfold parN
 rw [countP_thr _ p (k + 1) (fun q _ => ?_)]
 ·omega
 ·rw [Bool.eq_iff_iff]
  simp only [decide_eq_true_eq]
  constructor
  ·intro h
   apply Classical.byContradiction
   intro hc
   have:=offA_mono (L:=L) (show p + 1 ≤ q + 1 by omega)
   omega
  ·intro h
   have:=offA_mono (L:=L) (show q + 1 ≤ p by omega)
   omega
def parT (L : List (List UInt8)) (m : Nat) : List Nat := (List.range m).map (parN L)
def depT (L : List (List UInt8)) (m : Nat) : List Nat := ((nodesA L).take m).map (·.d)
theorem parT_succ (L : List (List UInt8)) (m : Nat) : parT L (m + 1) = parT L m ++ [parN L m] := by
 unfold parT
 rw [List.range_succ,List.map_append];rfl
theorem parT_len (L : List (List UInt8)) (m : Nat) : (parT L m).length = m := by simp [parT]
theorem parT_get {L : List (List UInt8)} {m k : Nat} (h : k < m) : (parT L m)[k]? = some (parN L k) := by
 unfold parT
 rw [List.getElem?_map,List.getElem?_range h];rfl
theorem depT_succ {L : List (List UInt8)} {m : Nat} {y : Span} (h : (nodesA L)[m]? = some y) : depT L (m + 1) = depT L m ++ [y.d] := by
 unfold depT
 rw [List.take_add_one,h,List.map_append];rfl
theorem depT_len {L : List (List UInt8)} {m : Nat} (h : m ≤ (nodesA L).length) : (depT L m).length = m := by
 unfold depT
 rw [List.length_map,List.length_take];omega
theorem depT_get {L : List (List UInt8)} {m k : Nat} {y : Span} (h : k < m) (hy : (nodesA L)[k]? = some y) : (depT L m)[k]? = some y.d := by
 unfold depT
 rw [List.getElem?_map,List.getElem?_take,if_pos h,hy];rfl
theorem OkL.depT_one {L : List (List UInt8)} (h : OkL L) : depT L 1 = [0] := by
 rw [depT_succ h.root0];rfl
theorem parT_one (L : List (List UInt8)) : parT L 1 = [0] := by
 unfold parT
 have : parN L 0 = 0:=by
  unfold parN
  have h:=offA_mono (L:=L) (Nat.zero_le 1)
  rw [offA_zero] at h
  rw [List.countP_eq_zero]
  intro q hq
  obtain rfl : q = 0:=by simpa using hq
  simp;omega
 simp [this]
def strTo (L : List (List UInt8)) (i : Nat) : List ByteArray := (List.range L.length).map fun j => if (nodeIx L).getD j 0 < i then mkB (nth L j) else ⟨#[]⟩
theorem strTo_len (L : List (List UInt8)) (i : Nat) : (strTo L i).length = L.length := by simp [strTo]
theorem strTo_zero (L : List (List UInt8)) : strTo L 0 = List.replicate L.length (⟨#[]⟩ : ByteArray) := by
 apply List.ext_getElem?
 intro j
 unfold strTo
 rw [List.getElem?_map,List.getElem?_replicate]
 by_cases h : j < L.length
 ·rw [List.getElem?_range h,if_pos h];simp
 ·rw [List.getElem?_eq_none (by simp;omega),if_neg h];rfl
theorem OkL.strTo_all {L : List (List UInt8)} (h : OkL L) {m : Nat} (hm : (nodesA L).length ≤ m) : strTo L m = L.map mkB := by
 apply List.ext_getElem?
 intro j
 unfold strTo
 rw [List.getElem?_map,List.getElem?_map]
 by_cases hj : j < L.length
 ·rw [List.getElem?_range hj,nth_some hj]
  obtain ⟨i,x,hx,hh,hxi⟩:=h.node hj
  have hn:=nodeIx_get h hj hx hh hxi
  have hi:=(List.getElem?_eq_some_iff.1 hx).1
  simp only [Option.map_some]
  rw [List.getD_eq_getElem?_getD,hn,Option.getD_some,if_pos (by omega)]
 ·rw [List.getElem?_eq_none (by simp;omega),List.getElem?_eq_none (by omega)];rfl
theorem OkL.strTo_no {L : List (List UInt8)} (h : OkL L) {i : Nat} {x : Span} (hx : (nodesA L)[i]? = some x) (hh : here L x = false) : strTo L (i + 1) = strTo L i := by
 unfold strTo
 apply List.map_congr_left
 intro j hj
 rw [List.mem_range] at hj
 obtain ⟨k,y,hy,hh2,hyj⟩:=h.node hj
 rw [List.getD_eq_getElem?_getD,nodeIx_get h hj hy hh2 hyj,Option.getD_some]
 have hne : k ≠ i:=by
  rintro rfl
  rw [hx] at hy
  obtain rfl:=Option.some.inj hy
  rw [hh] at hh2;cases hh2
 by_cases hk : k < i
 ·rw [if_pos (by omega),if_pos hk]
 ·rw [if_neg (by omega),if_neg hk]
theorem OkL.strTo_yes {L : List (List UInt8)} (h : OkL L) {i : Nat} {x : Span} (hx : (nodesA L)[i]? = some x) (hh : here L x = true) : strTo L (i + 1) = (strTo L i).set x.i (mkB (spanS L x)) := by
 have hL : L[x.i]? = some (spanS L x):=(h.here_at hx x.i).2 ⟨hh,rfl⟩
 have hxl:=(List.getElem?_eq_some_iff.1 hL).1
 apply List.ext_getElem?
 intro j
 by_cases hj : j < L.length
 ·obtain ⟨k,y,hy,hh2,hyj⟩:=h.node hj
  have hn:=nodeIx_get h hj hy hh2 hyj
  by_cases he : j = x.i
  ·subst he
   rw [List.getElem?_set_self (by rw [strTo_len];exact hj)]
   unfold strTo
   rw [List.getElem?_map,List.getElem?_range hj,Option.map_some]
   have hki : k = i:=by
    have e1:=(h.here_at hy x.i).2 ⟨hh2,hyj.symm⟩
    rw [hL] at e1
    have:=(h.good hy).inj h.asc (h.good hx) (Option.some.inj e1).symm
    subst this
    exact h.uniq hy hx
   rw [List.getD_eq_getElem?_getD,hn,Option.getD_some,if_pos (by omega),nth_eq hL]
  ·rw [List.getElem?_set_ne (Ne.symm he)]
   unfold strTo
   rw [List.getElem?_map,List.getElem?_map,List.getElem?_range hj,Option.map_some,Option.map_some,List.getD_eq_getElem?_getD,hn,Option.getD_some]
   have hne : k ≠ i:=by
    rintro rfl
    rw [hx] at hy
    obtain rfl:=Option.some.inj hy
    exact he hyj.symm
   by_cases hk : k < i
   ·rw [if_pos (by omega),if_pos hk]
   ·rw [if_neg (by omega),if_neg hk]
 ·rw [List.getElem?_eq_none (by rw [strTo_len];omega),List.getElem?_eq_none (by rw [List.length_set,strTo_len];omega)]
theorem OkL.climb {L : List (List UInt8)} (h : OkL L) {X : Nat} {y : Span} (h0 : 0 < X) (hy : (nodesA L)[X]? = some y) : ∃ z c, (nodesA L)[parN L X]? = some z ∧ parN L X < X ∧ (labelsL L (nodesA L))[X - 1]? = some c ∧ spanS L y = spanS L z ++ [c] ∧ y.d = z.d + 1 := by
 obtain ⟨p,z,hz,hpX,o1,o2,hm⟩:=h.parent h0 hy
 have hs:=kid_str h.asc (h.good hz) hm
 rw [parN_at (Nat.le_of_lt hpX) o1 o2]
 refine ⟨z,_,hz,hpX,h.lab h0 hy, ?_,kids_d L z y hm⟩
 rw [hs]
 simp
theorem climb_row {d : Nat} {c : UInt8} {tl : List UInt8} : (List.replicate (d + 1) (0 : UInt8) ++ tl).set d c = List.replicate d 0 ++ (c :: tl) := by
 rw [List.replicate_succ',List.append_assoc,List.set_append_right _ _ (by simp)]
 simp
end Go.Proofs.YtepoiefadjoabaaGreatDoor
