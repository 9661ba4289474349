/- The texts Lb4 Bcol, one behind the other. -/
import Derived.Test.YtepoiefadjoabaaGreatDoorH38
import Derived.Test.YtepoiefadjoabaaGreatDoorH25
import Derived.Test.YtepoiefadjoabaaGreatDoorH22
import Derived.Test.YtepoiefadjoabaaGreatDoorH5
namespace Go.Proofs.YtepoiefadjoabaaGreatDoor
open Go Go.RowKit Go.Shelf
def OutS (V w' : World) (X : Nat → Prop) : Prop := ∀ k, k < V.heap.size → ¬ X k → w'.heap[k]? = V.heap[k]?
variable {V w' : World} {X : Nat → Prop}
theorem cell_out {p : Addr} {v : Value} (hc : V.cell? p = some v) (ho : OutS V w' X) (hx : ¬ X p.block) : w'.cell? p = some v := by
 have hb:=World.block_lt_of_cell? _ _ hc
 unfold World.cell? at *
 rw [ho _ hb hx];exact hc
theorem own_out {α : Type} {base : Nat} {e : TypeId} {k : Nat} {enc : α → List Value} {v : Value} {xs : List α} (h : Owns V base e k enc v xs) (ho : OutS V w' X) (hx : ∀ q, X q → ∃ o, V.heap[q]? = some o ∧ tyOf o ≠ some e) : Owns w' base e k enc v xs := by
 refine ⟨h.1, ?_⟩
 rcases h.2 with h1 | ⟨g,cap,cur,hv,hb,hh,r⟩
 ·exact Or.inl h1
 ·refine Or.inr ⟨g,cap,cur,hv,hb, ?_,r⟩
  rw [ho g (Array.getElem?_eq_some_iff.1 hh).1 (fun hX => ?_)]
  ·exact hh
  ·obtain ⟨o,h1,h2⟩:=hx g hX
   rw [hh] at h1
   cases h1
   exact h2 rfl
theorem vecAt_out {vb : Nat} {l : List Bool} (h : VecAt V vb l) (ho : OutS V w' X) (hx1 : ¬ X vb) (hx : ∀ q, X q → ∃ o, V.heap[q]? = some o ∧ tyOf o ≠ some 116 ∧ tyOf o ≠ some 3) : VecAt w' vb l := by
 obtain ⟨wb,h1,h2⟩:=h.c1
 obtain ⟨vC,h3,h4⟩:=h.c2
 exact ⟨cell_out h.c0 ho hx1,⟨wb,cell_out h1 ho hx1,own_out h2 ho fun q hq => by obtain ⟨o,a,b,c⟩:=hx q hq;exact ⟨o,a,b⟩⟩,vC,cell_out h3 ho hx1,own_out h4 ho fun q hq => by obtain ⟨o,a,b,c⟩:=hx q hq;exact ⟨o,a,c⟩⟩
theorem pkAt_out {pb : Nat} {l : List Nat} (h : PkAt V pb l) (ho : OutS V w' X) (hx1 : ¬ X pb) (hx : ∀ q, X q → ∃ o, V.heap[q]? = some o ∧ tyOf o ≠ some 116 ∧ tyOf o ≠ some 3) : PkAt w' pb l := by
 obtain ⟨wb,h1,h2,h3⟩:=h.c2
 exact ⟨cell_out h.c0 ho hx1,cell_out h.c1 ho hx1,wb,h1,cell_out h2 ho hx1,own_out h3 ho fun q hq => by obtain ⟨o,a,b,c⟩:=hx q hq;exact ⟨o,a,b⟩⟩
theorem out_set (V : World) (b o : Nat) (v : Value) : OutS V (V.setCell ⟨b, o, none⟩ v) (fun k => k = b) := fun k _ hk => Below.heap_setCell _ _ _ k (fun e => hk e)
theorem TB.gr {w w' : World} {b : Nat} {cs : Array Value} {t : TypeId} (h : TB w b cs t) (hg : Grows w w') : TB w' b cs t := (Below.block hg b h.lt).trans h
structure LbE (w V : World) (s : Nat) (cs : Array Value) (vL nv vI vD : Value) (lab : List UInt8) (nd : List Nat) (isl : List Bool) (idl : List Nat) (ds : List Nat) : Prop where
 b4 : TB V (s + 3) #[.pointer (some ⟨s + 2,0,none⟩)] 73
 b3 : TB V (s + 2) cs 137
 oL : Owns V s 5 1 byteC vL lab
 oN : Owns V s 3 1 natC nv nd
 oI : Owns V s 4 1 boolC vI isl
 oD : Owns V s 116 1 n64C vD idl
 mks : Marks V s ds
 gr : Grows w V
theorem LbE.grows {w V V' : World} {s : Nat} {cs : Array Value} {vL nv vI vD : Value} {lab : List UInt8} {nd : List Nat} {isl : List Bool} {idl : List Nat} {ds : List Nat} (h : LbE w V s cs vL nv vI vD lab nd isl idl ds) (hg : Grows V V') : LbE w V' s cs vL nv vI vD lab nd isl idl ds :=
 ⟨h.b4.gr hg,h.b3.gr hg,h.oL.grows hg,h.oN.grows hg,h.oI.grows hg,h.oD.grows hg,⟨fun D hD => ⟨(h.mks.at_ D hD).1,(Below.block hg D (Array.getElem?_eq_some_iff.1 (h.mks.at_ D hD).2).1).trans (h.mks.at_ D hD).2⟩,h.mks.nodup⟩,h.gr.tr hg⟩
theorem LbE.set {w V : World} {s : Nat} {cs : Array Value} {vL nv vI vD : Value} {lab : List UInt8} {nd : List Nat} {isl : List Bool} {idl : List Nat} {ds : List Nat} (h : LbE w V s cs vL nv vI vD lab nd isl idl ds) (hs : w.heap.size ≤ s) (o : Nat) (v : Value) :
  LbE w (V.setCell ⟨s + 2,o,none⟩ v) s (cs.setIfInBounds o v) vL nv vI vD lab nd isl idl ds:=by
 have hg:=grownBy_setAny V (s + 2) o v
 have hr:=h.b3.rt
 exact ⟨h.b4.keep hg hr (by decide),h.b3.set o v,own_keepT h.oL hg hr (by decide),own_keepT h.oN hg hr (by decide),own_keepT h.oI hg hr (by decide),own_keepT h.oD hg hr (by decide),h.mks.grown hg (h.mks.not_row hr),h.gr.set (show w.heap.size ≤ s + 2 by omega) _⟩
theorem marks_outs {V : World} {lo : Nat} {ds : List Nat} (h : Marks V lo ds) (e : TypeId) : ∀ q, (fun k => k ∈ ds) q → ∃ o, V.heap[q]? = some o ∧ tyOf o ≠ some e := fun q hq => ⟨_, (h.at_ q hq).2, by simp [tyOf]⟩
theorem set_outs2 {V : World} {b : Nat} {cs : Array Value} (h : TB V b cs 137) : ∀ q, (fun k => k = b) q → ∃ o, V.heap[q]? = some o ∧ tyOf o ≠ some 116 ∧ tyOf o ≠ some 3 := fun q hq => by
 have : q = b:=hq
 subst this
 exact ⟨_,h,by simp [tyOf],by simp [tyOf]⟩
theorem marks_outs2 {V : World} {lo : Nat} {ds : List Nat} (h : Marks V lo ds) : ∀ q, (fun k => k ∈ ds) q → ∃ o, V.heap[q]? = some o ∧ tyOf o ≠ some 116 ∧ tyOf o ≠ some 3 := fun q hq => ⟨_, (h.at_ q hq).2, by simp [tyOf], by simp [tyOf]⟩
theorem marks_not {V : World} {lo : Nat} {ds : List Nat} (h : Marks V lo ds) {p : Addr} {v : Value} (hc : V.cell? p = some v) : ¬ p.block ∈ ds := fun hin => by
 have h1:=(h.at_ _ hin).2
 unfold World.cell? at hc
 simp [h1] at hc
theorem bst_start (w : World) (n : Nat) (lv : Value) (hn : n ≤ 20000) {b2 b3 b5 b7 : Nat} (h2 : b2 = w.heap.size + 1) (h3 : b3 = w.heap.size + 2) (h5 : b5 = w.heap.size + 4) (h7 : b7 = w.heap.size + 6) :
  Bst w ((((((((w.alloc (.cells #[lv] 51)).alloc (.cells (madeCells #[.int .i64 0] n) 3)).alloc (.cells #[.pointer none,.pointer none,.slice none 0 0,.pointer none,.slice (some ⟨b2,0,none⟩) n n] 137)).alloc
   (.cells #[.pointer (some ⟨b3,0,none⟩)] 73)).alloc (.cells #[.bool true,.bool false] 4)).alloc (.cells #[.slice (some ⟨b5,0,none⟩) 2 2] 138)).alloc (.cells #[.int .i64 0,.int .i64 n,.int .i64 0] 140)).alloc (.cells #[.slice (some ⟨b7,0,none⟩) 1 1] 141))
   w.heap.size n lv { vS:=.slice (some ⟨b5,0,none⟩) 2 2,vA:=.slice (some ⟨b7,0,none⟩) 1 1,vL:=.slice none 0 0,vI:=.slice none 0 0,vD:=.slice none 0 0,sh:=[true,false],al:=[⟨0,n,0⟩],lab:=[],isl:=[],idl:=[],nd:=List.replicate n 0 }:=by
 obtain ⟨s,hs⟩ : ∃ s,s = w.heap.size:=⟨_,rfl⟩
 obtain ⟨W1,e1⟩ : ∃ W,W = w.alloc (.cells #[lv] 51):=⟨_,rfl⟩
 obtain ⟨W2,e2⟩ : ∃ W,W = W1.alloc (.cells (madeCells #[.int .i64 0] n) 3):=⟨_,rfl⟩
 obtain ⟨W3,e3⟩ : ∃ W,W = W2.alloc (.cells #[.pointer none,.pointer none,.slice none 0 0,.pointer none,.slice (some ⟨b2,0,none⟩) n n] 137):=⟨_,rfl⟩
 obtain ⟨W4,e4⟩ : ∃ W,W = W3.alloc (.cells #[.pointer (some ⟨b3,0,none⟩)] 73):=⟨_,rfl⟩
 obtain ⟨W5,e5⟩ : ∃ W,W = W4.alloc (.cells #[.bool true,.bool false] 4):=⟨_,rfl⟩
 obtain ⟨W6,e6⟩ : ∃ W,W = W5.alloc (.cells #[.slice (some ⟨b5,0,none⟩) 2 2] 138):=⟨_,rfl⟩
 obtain ⟨W7,e7⟩ : ∃ W,W = W6.alloc (.cells #[.int .i64 0,.int .i64 n,.int .i64 0] 140):=⟨_,rfl⟩
 obtain ⟨W8,e8⟩ : ∃ W,W = W7.alloc (.cells #[.slice (some ⟨b7,0,none⟩) 1 1] 141):=⟨_,rfl⟩
 have z1 : W1.heap.size = s + 1:=by rw [e1,hs];simp
 have z2 : W2.heap.size = s + 2:=by rw [e2,World.size_alloc,z1]
 have z3 : W3.heap.size = s + 3:=by rw [e3,World.size_alloc,z2]
 have z4 : W4.heap.size = s + 4:=by rw [e4,World.size_alloc,z3]
 have z5 : W5.heap.size = s + 5:=by rw [e5,World.size_alloc,z4]
 have z6 : W6.heap.size = s + 6:=by rw [e6,World.size_alloc,z5]
 have z7 : W7.heap.size = s + 7:=by rw [e7,World.size_alloc,z6]
 have g2 : Grows W1 W2:=by rw [e2];exact Grows.alloc _ _
 have g3 : Grows W2 W3:=by rw [e3];exact Grows.alloc _ _
 have g4 : Grows W3 W4:=by rw [e4];exact Grows.alloc _ _
 have g5 : Grows W4 W5:=by rw [e5];exact Grows.alloc _ _
 have g6 : Grows W5 W6:=by rw [e6];exact Grows.alloc _ _
 have g7 : Grows W6 W7:=by rw [e7];exact Grows.alloc _ _
 have g8 : Grows W7 W8:=by rw [e8];exact Grows.alloc _ _
 have g1 : Grows w W1:=by rw [e1];exact Grows.alloc _ _
 have t1 : TB W1 s #[lv] 51:=by rw [e1,hs];exact TB.alloc _ _ _
 have t3 : TB W3 (s + 2) #[.pointer none,.pointer none,.slice none 0 0,.pointer none,.slice (some ⟨b2,0,none⟩) n n] 137:=by rw [e3,← z2];exact TB.alloc _ _ _
 have t4 : TB W4 (s + 3) #[.pointer (some ⟨b3,0,none⟩)] 73:=by rw [e4,← z3];exact TB.alloc _ _ _
 have t6 : TB W6 (s + 5) #[.slice (some ⟨b5,0,none⟩) 2 2] 138:=by rw [e6,← z5];exact TB.alloc _ _ _
 have t8 : TB W8 (s + 7) #[.slice (some ⟨b7,0,none⟩) 1 1] 141:=by rw [e8,← z7];exact TB.alloc _ _ _
 have oN : Owns W2 s 3 1 natC (.slice (some ⟨s + 1,0,none⟩) n n) (List.replicate n 0):=by
  have h:=madeInt (w:=W1) (n:=n) (by omega)
  rw [Nat.mul_one,← e2,z1] at h
  exact h.base (by omega)
 have oS : Owns W5 s 4 1 boolC (.slice (some ⟨s + 4,0,none⟩) 2 2) [true,false]:=by
  have h:=owns_box (w:=W4) (e:=4) (enc:=boolC) (fun _ => rfl) (base:=s) (n:=2) (by omega) [true,false] (cs:=#[.bool true,.bool false]) rfl rfl (by unfold maxLen;omega)
  rw [← e5,z4] at h
  exact h
 have oA : Owns W7 s 140 3 spanC (.slice (some ⟨s + 6,0,none⟩) 1 1) [⟨0,n,0⟩]:=by
  have h:=owns_box (w:=W6) (e:=140) (enc:=spanC) (k:=3) (fun _ => rfl) (base:=s) (n:=1) (by omega) [⟨0,n,0⟩] (cs:=#[.int .i64 0,.int .i64 n,.int .i64 0]) rfl rfl (by unfold maxLen;omega)
  rw [← e7,z6] at h
  exact h
 rw [← e1,← e2,← e3,← e4,← e5,← e6,← e7,← e8,← hs]
 rw [← hs] at h2 h3 h5 h7
 subst h2
 subst h3
 subst h5
 subst h7
 exact ⟨(((((((t1.gr g2).gr g3).gr g4).gr g5).gr g6).gr g7).gr g8),((((t4.gr g5).gr g6).gr g7).gr g8),(((((t3.gr g4).gr g5).gr g6).gr g7).gr g8),((t6.gr g7).gr g8),t8,
  Owns.nil _ _ _ _ _,((((((oN.grows g3).grows g4).grows g5).grows g6).grows g7).grows g8),(((oS.grows g6).grows g7).grows g8),oA.grows g8,Owns.nil _ _ _ _ _,Owns.nil _ _ _ _ _,fun q _ h => by simp [Value.ownBlock] at h,
  ((((((g1.tr g2).tr g3).tr g4).tr g5).tr g6).tr g7).tr g8,hs⟩
end Go.Proofs.YtepoiefadjoabaaGreatDoor
namespace Go.Proofs.YtepoiefadjoabaaGreatDoor
open Go Go.RowKit Go.Shelf
attribute [local go_sem] quietE quietE2
set_option maxHeartbeats 4000000 in
set_option maxRecDepth 100000 in
theorem column_any (f : En → Nat) (g : Nat) (cb : Array Value) (eg : ∀ args w, (callFunc g args).run Tryz.prog w = .ok (.enter g args) w)
  (l : List En) (eb : Nat) (a : Option Addr) (c : Nat) (w : World) (hl : l.length ≤ 1048576) (hf : ∀ x ∈ l,f x < 9223372036854775808) (hat : AtCells w a 5 (l.map enCells)) (hb : w.cell? ⟨eb,0,none⟩ = some (.slice a l.length c))
  (HG : ∀ x ∈ l,∀ W,Grows w W → Calls Tryz.prog g (#[x.agg] ++ cb) W fun e w' => e = .returned (.int .i64 (f x))∧Grows W w') :
  Calls Tryz.prog 43 #[.func (.func g) #[] cb,.pointer (some ⟨eb,0,none⟩)] w fun e w' => Grows w w'∧∃ v,e = .returned v∧Owns w' w.heap.size 5 1 byteC v (packE (l.map f)):=by
 have HAT:=Lib.hid hat
 have HGG:=fun x hx W hW => Lib.hid (HG x hx W hW)
 have HB:=Lib.hid hb
 have hmk:=fun (Y : World) => mkInt l.length Y hl
 obtain ⟨ns,hns⟩ : ∃ ns,ns = l.map f:=⟨_,rfl⟩
 have hnl : ns.length = l.length:=by rw [hns,List.length_map]
 rw [← hns]
 have CN:=fun (W : World) (q c : Nat) (h : AtCells W (some ⟨q,0,none⟩) 1 (ns.map natC)) => Lib.hid (numbers_any ns (some ⟨q,0,none⟩) c W (by omega) (by rw [hns];intro n hn;obtain ⟨x,hx,rfl⟩:=List.mem_map.1 hn;exact hf x hx) h)
 rw [hnl] at CN
 have HNS:=Lib.hid hns
 clear hat HG hns hf
 have hb1 : (w.alloc (.cells (madeCells #[.int .i64 0] l.length) 3)).cell? ⟨eb,0,none⟩ = some (.slice a l.length c):=(Grows.alloc _ _).cell hb
 go_enter Tryz.func43,Tryz.ntmps43
 go_wp2_with fail
 have hmade0:=madeInt (w:=w) (n:=l.length) hl
 rw [Nat.mul_one,← hnl,← fillL_zero ns 0,hnl] at hmade0
 obtain ⟨W1,hW1⟩ : ∃ W1,W1 = w.alloc (.cells (madeCells #[.int .i64 0] l.length) 3):=⟨_,rfl⟩
 have hgA : Grows w W1:=by rw [hW1];exact Grows.alloc _ _
 rw [← hW1] at hmade0 ⊢
 clear hW1 hb hb1
 go_loopw [12] (fun i wr => ∃ (k : Nat),k ≤ l.length∧i = .int .i64 k∧Owns wr w.heap.size 3 1 natC (.slice (some ⟨w.heap.size,0,none⟩) l.length l.length) (fillL ns 0 k)∧Grows w wr) (fun i _ => l.length - (intOf i).toNat)
 case atStart => exact ⟨0,Nat.zero_le _,rfl,hmade0,hgA⟩
 case round =>
  clear hmade0 hgA
  obtain ⟨k,hk,rfl,hown,hg⟩:=hrel
  by_cases hlt : k < l.length
  ·obtain ⟨⟨xr,xs,xl,xt,xc⟩,hx⟩ : ∃ x,l[k]? = some x:=⟨_,List.getElem?_eq_getElem hlt⟩
   obtain ⟨ba,oa,rfl,hca⟩:=(HAT.out.grows hg).get (ne_nil_of_lt hlt)
   have c0 : wr.cell? ⟨ba,oa + k * 5,none⟩ = some (.string xr):=hca k _ hx 0 _ rfl
   have c1 : wr.cell? ⟨ba,oa + k * 5 + 1,none⟩ = some (.string xs):=hca k _ hx 1 _ rfl
   have c2 : wr.cell? ⟨ba,oa + k * 5 + 2,none⟩ = some (.int .i64 xl):=hca k _ hx 2 _ rfl
   have c3 : wr.cell? ⟨ba,oa + k * 5 + 3,none⟩ = some (.int .i64 xt):=hca k _ hx 3 _ rfl
   have c4 : wr.cell? ⟨ba,oa + k * 5 + 4,none⟩ = some (.int .i64 xc):=hca k _ hx 4 _ rfl
   obtain ⟨y,hy⟩ : ∃ y,y = f ⟨xr,xs,xl,xt,xc⟩:=⟨_,rfl⟩
   have hnk : ns[k]? = some y:=by rw [HNS.out,List.getElem?_map,hx,hy];rfl
   have CG:=HGG _ (List.mem_of_getElem? hx) (wr.alloc (.cells #[.string xr,.string xs,.int .i64 xl,.int .i64 xt,.int .i64 xc] 38)) (hg.al _)
   rw [← hy] at CG
   have HNK:=Lib.hid hnk
   clear hca hx hy hnk
   go_wp2_with fail
   refine CG.out.mono ?_
   rintro e w2 ⟨rfl,hg2⟩
   have hg12:=Grows.trans _ _ _ (Grows.alloc wr _) hg2
   have hown2:=hown.grows hg12
   have hgw2:=Grows.trans _ _ _ hg hg12
   have hfl:=fillL_len ns 0 (k:=k) (by omega)
   obtain ⟨z,hz⟩ : ∃ z,(fillL ns 0 k)[k]? = some z:=⟨_,List.getElem?_eq_getElem (by omega)⟩
   have e1:=own_cell1 (f:=fun n : Nat => Value.int .i64 n) hown2 hz
   obtain ⟨f1,_,hown3⟩:=owns_set1 (f:=fun n : Nat => Value.int .i64 n) hown2 (k:=k) (by omega) y
   rw [fillL_set HNK.out] at hown3
   have HO:=Lib.hid hown3
   clear hown hown2 hown3 hz hfl hg2 hg12 c0 c1 c2 c3 c4 CG
   go_wp2_with fail
   go_roundw
   case rel => exact ⟨k + 1,by omega,by go_num,HO.out,hgw2.set (Nat.le_refl _) _⟩
   case measure => simp [intOf];omega
  ·obtain rfl : k = l.length:=by omega
   rw [← hnl,fillL_all,hnl] at hown
   obtain ⟨a1,c1,e1,_,_,hat1⟩:=hown.at_ (k:=1) (fun x => (rfl : (natC x).length = 1))
   have e2:=(Value.slice.inj e1).1
   subst e2
   have CN1:=CN wr w.heap.size l.length hat1
   clear CN e1 hat1 hown
   go_wp2_with fail
   refine CN1.out.mono ?_
   rintro e w2 ⟨v,rfl,hv,hg2⟩
   go_wp2_with fail
   go_ret
   exact ⟨Grows.trans _ _ _ hg hg2,v,rfl,hv.base hg.size⟩
end Go.Proofs.YtepoiefadjoabaaGreatDoor
