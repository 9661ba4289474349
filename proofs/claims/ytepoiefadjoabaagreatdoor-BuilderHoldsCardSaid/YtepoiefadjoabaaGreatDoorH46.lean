/- The texts Lb2, one behind the other. -/
import Derived.Test.YtepoiefadjoabaaGreatDoorH45
import Derived.Test.YtepoiefadjoabaaGreatDoorH42
namespace Go.Proofs.YtepoiefadjoabaaGreatDoor
open Go Go.RowKit Go.Shelf
attribute [local go_sem] quietE quietE2 Oper.semAt_some
set_option maxHeartbeats 1000000 in
set_option maxRecDepth 100000 in
theorem kids_any (x : Span) (a : Option Addr) (m c : Nat) (w : World) :
  Calls Tryz.prog 85 #[spanV x,.slice a m c] w fun e w' => e = .returned (.func (.func 137) #[] #[.pointer (some ⟨w.heap.size,0,none⟩),.pointer (some ⟨w.heap.size + 1,0,none⟩)]) ∧
   w' = (w.alloc (.cells #[.int .i64 x.i,.int .i64 x.t,.int .i64 x.d] 140)).alloc (.cells #[.slice a m c] 51):=by
 unfold spanV
 have hmf : ∀ (fn : Fn) (first cap : Array Value) (w : World),(Instr.makeFunc fn first cap).run Tryz.prog w = .ok (.func fn first cap) w:=fun _ _ _ _ => rfl
 go_enter Tryz.func85,Tryz.ntmps85
 go_wp2_with fail
 go_ret
 exact ⟨rfl,rfl⟩
def lbD (L : List (List UInt8)) (i : Nat) (vS vA vL vI vD : Value) (nd : List Nat) : BD :=
 { vS:=vS,vA:=vA,vL:=vL,vI:=vI,vD:=vD,sh:=shapeL L ((nodesA L).take i),al:=bfsAt (rootS L) (kids L) (nodesA L) i,lab:=labelsL L ((nodesA L).take i),isl:=isL L ((nodesA L).take i),idl:=idsL L ((nodesA L).take i),nd:=nd }
def lbK (L : List (List UInt8)) (i : Nat) (x : Span) (ys : List Span) (vS vA vL vI vD : Value) : BD :=
 { vS:=vS,vA:=vA,vL:=vL,vI:=vI,vD:=vD,sh:=shapeL L ((nodesA L).take i) ++ List.replicate ys.length true,al:=bfsAt (rootS L) (kids L) (nodesA L) i ++ ys,lab:=labelsL L ((nodesA L).take i) ++ ys.map (labelOf L x),isl:=isL L ((nodesA L).take i),idl:=idsL L ((nodesA L).take i),nd:=ndTo L i }
structure LbU where
 (u7 u8 u10 u11 u12 u13 u29 u30 u31 u32 u33 u34 u35 u36 u37 u38 u39 u40 u41 u42 u43 u44 u45 u46 u47 u48 u49 u50 u51 u52 u53 u54 u55 u56 u57 u58 u59 u60 u61 u62 u63 u64 u65 u66 u67 u68 u69 u70 u71 u72 u73 u74 u75 u76 u77 u78 u79 u80 u81 u82 u83 u84 u85 u86 u87 u88 u89 u90 u91 u92 u93 u94 u95 u96 u97 u98 u99 u100 u101 u102 u103 u104 u105 u106 u107 : Value)
def lbAct (B : List ByteArray) (a : Option Addr) (c s b2 b3 b4 b5 b6 b7 b8 : Nat) (ds : List Nat) (U : LbU) : Act :=
 { tmps:=#[.slice a B.length c,.pointer (some ⟨s,0,none⟩),.pointer none,.int .i64 0,.int .i64 0,.pointer (some ⟨b4,0,none⟩),.pointer (some ⟨b6,0,none⟩),U.u7,U.u8,.pointer (some ⟨b8,0,none⟩),U.u10,U.u11,U.u12,U.u13,.slice a B.length c,.int .i64 0,.int .i64 0,.bool false,undef,.slice a B.length c,.int .i64 B.length,.slice (some ⟨b2,0,none⟩) B.length B.length,.agg #[.pointer none,.pointer none,.slice none 0 0,.pointer none,.slice (some ⟨b2,0,none⟩) B.length B.length],.pointer (some ⟨b3,0,none⟩),.slice (some ⟨b5,0,none⟩) 2 2,.slice a B.length c,.int .i64 B.length,.agg #[.int .i64 0,.int .i64 B.length,.int .i64 0],.slice (some ⟨b7,0,none⟩) 1 1,U.u29,U.u30,U.u31,U.u32,U.u33,U.u34,U.u35,U.u36,U.u37,U.u38,U.u39,U.u40,U.u41,U.u42,U.u43,U.u44,U.u45,U.u46,U.u47,U.u48,U.u49,U.u50,U.u51,U.u52,U.u53,U.u54,U.u55,U.u56,U.u57,U.u58,U.u59,U.u60,U.u61,U.u62,U.u63,U.u64,U.u65,U.u66,U.u67,U.u68,U.u69,U.u70,U.u71,U.u72,U.u73,U.u74,U.u75,U.u76,U.u77,U.u78,U.u79,U.u80,U.u81,U.u82,U.u83,U.u84,U.u85,U.u86,U.u87,U.u88,U.u89,U.u90,U.u91,U.u92,U.u93,U.u94,U.u95,U.u96,U.u97,U.u98,U.u99,U.u100,U.u101,U.u102,U.u103,U.u104,U.u105,U.u106,U.u107,undef,undef,undef,undef,undef,undef,undef,undef,undef,undef,undef,undef,undef,undef,undef,undef,undef,undef,undef,undef,undef,undef,undef,undef,undef],defers:=marksOf ds }
theorem lbD_false {L : List (List UInt8)} {i : Nat} {x : Span} (hok : OkL L) (hx : (nodesA L)[i]? = some x) (hh : here L x = false) (vS0 vI0 vS vA vL vI vD : Value) :
  ({ ({ (lbK L i x (kids L x) vS0 vA vL vI0 vD) with vS:=vS,sh:=(shapeL L ((nodesA L).take i) ++ List.replicate (kids L x).length true) ++ [false] } : BD) with vI:=vI,isl:=isL L ((nodesA L).take i) ++ [false] } : BD) = lbD L (i + 1) vS vA vL vI vD (ndTo L (i + 1)):=by
 have e:=takeSnoc hx
 unfold lbK lbD
 rw [e,shapeL_snoc,isL_snoc,labelsL_snoc,idsL_snoc,bfsAt_succ hx,hok.ndTo_succ hx,if_neg (by rw [hh];decide),if_neg (by rw [hh];decide),hh,List.append_nil]
theorem lbD_true {L : List (List UInt8)} {i : Nat} {x : Span} (hok : OkL L) (hx : (nodesA L)[i]? = some x) (hh : here L x = true) (vS0 vI0 vD0 vS vA vL vI vD : Value) :
  ({ ({ ({ ({ (lbK L i x (kids L x) vS0 vA vL vI0 vD0) with vS:=vS,sh:=(shapeL L ((nodesA L).take i) ++ List.replicate (kids L x).length true) ++ [false] } : BD) with vI:=vI,isl:=isL L ((nodesA L).take i) ++ [true] } : BD) with nd:=(ndTo L i).set x.i i } : BD) with vD:=vD,idl:=idsL L ((nodesA L).take i) ++ [x.i] } : BD) = lbD L (i + 1) vS vA vL vI vD (ndTo L (i + 1)):=by
 have e:=takeSnoc hx
 unfold lbK lbD
 rw [e,shapeL_snoc,isL_snoc,labelsL_snoc,idsL_snoc,bfsAt_succ hx,hok.ndTo_succ hx,if_pos hh,if_pos hh,hh]
structure LbAt (B : List ByteArray) (a : Option Addr) (c : Nat) (w : World) (s i : Nat) (ds : List Nat) (U : LbU) (wr : World) : Prop where
 u10 : U.u10 = .int .i64 i
 le : i ≤ 524287
 marks : Marks wr s ds
 st : ∃ vS vA vL,Bst w wr s B.length (.slice a B.length c) (lbD (bls B) i vS vA vL U.u7 U.u8 (ndTo (bls B) i))
 off : offA (bls B) i ≤ 524287
theorem lb_loop {B : List ByteArray} {a : Option Addr} {c : Nat} {w : World} {s b2 b3 b4 b5 b6 b7 b8 : Nat} {P : Program} {code : Code} {Q : Exit → Act → World → Prop} {ds : List Nat} {U : LbU} {w0 : World} (h0 : LbAt B a c w s 0 ds U w0)
  (round : ∀ (i : Nat) (ds : List Nat) (U : LbU) (wr : World),LbAt B a c w s i ds U wr → ∀ K : Act → World → Prop,(∀ ds' U' w',LbAt B a c w s (i + 1) ds' U' w' → K (lbAct B a c s b2 b3 b4 b5 b6 b7 b8 ds' U') w') → code.wp P (Exit.then K Q) (lbAct B a c s b2 b3 b4 b5 b6 b7 b8 ds U) wr) :
  (Code.loop code).wp P Q (lbAct B a c s b2 b3 b4 b5 b6 b7 b8 ds U) w0:=by
 refine wp_loop (fun a' wr => ∃ i ds U,a' = lbAct B a c s b2 b3 b4 b5 b6 b7 b8 ds U∧LbAt B a c w s i ds U wr) (fun a' _ => 600000 - (intOf (a'.tmps.getD 10 undef)).toNat) ⟨0,ds,U,rfl,h0⟩ ?_
 rintro a' wr ⟨i,ds,U,rfl,h⟩
 refine round i ds U wr h _ (fun ds' U' w' h' => ⟨⟨i + 1,ds',U',rfl,h'⟩, ?_⟩)
 have e1 : (lbAct B a c s b2 b3 b4 b5 b6 b7 b8 ds U).tmps.getD 10 undef = U.u10:=rfl
 have e2 : (lbAct B a c s b2 b3 b4 b5 b6 b7 b8 ds' U').tmps.getD 10 undef = U'.u10:=rfl
 rw [e1,e2,h.u10,h'.u10]
 have:=h.le
 simp [intOf]
 omega
set_option maxHeartbeats 4000000 in
set_option maxRecDepth 100000 in
theorem lbuild_ok (B : List ByteArray) (a : Option Addr) (c : Nat) (w : World) (hch : chkA (bls B) = 0) (ha : ∀ q, a = some q → q.block < w.heap.size) (hB_ : B.length ≤ 20000) (hsz : ∀ s ∈ B, s.size ≤ 256) (hok : OkL (bls B)) (hat : AtCells w a 1 (B.map stC)) :
  Calls Tryz.prog 31 #[.slice a B.length c] w fun e w' =>
   (524287 < countL (bls B) → e = .returned (.tuple #[.pointer none,.int .i64 2])∧Grows w w') ∧
   (countL (bls B) ≤ 524287 → e = .returned (.tuple #[.pointer (some ⟨w.heap.size + 2,0,none⟩),.int .i64 0])∧TrieAt w' (w.heap.size + 2) (bls B)∧Grows w w'):=by
 have CK : Hid (∀ u,Grows w u → Calls Tryz.prog 84 #[.slice a B.length c] u fun e w' => e = .returned (.int .i64 0)∧u = w'):=fun u hg => by
  have h:=chkA_any B a c u (by omega) (fun s hs => by have:=hsz s hs;omega) (hat.grows hg)
  rw [hch] at h
  exact h
 have HAT:=Lib.hid hat
 have HA:=Lib.hid ha
 have HSZ:=Lib.hid hsz
 have HOK:=Lib.hid hok
 clear hat ha hsz hok hch
 refine (callsIn_wide (n:=12)).1 (callsIn_of_wp_marks Tryz.func31 rfl trivial (wpIn_wide.2 ?_))
 simp only [Tryz.ntmps31,List.size_toArray,List.length_cons,List.length_nil,Nat.reduceAdd,Nat.reduceSub,Array.replicate_succ,Array.replicate_zero,List.push_toArray,List.append_toArray,List.nil_append,List.cons_append]
 have hmk:=fun (Y : World) => mkInt B.length Y (by omega)
 go_wp2_with (go_at_call 84;refine (CK.out _ (Grows.alloc _ _)).mono ?_;rintro e w2 ⟨rfl,rfl⟩)
 clear CK hmk
 obtain ⟨s,hs⟩ : ∃ s,s = w.heap.size:=⟨_,rfl⟩
 obtain ⟨b2,hb2⟩ : ∃ b,b = w.heap.size + 1:=⟨_,rfl⟩
 obtain ⟨b3,hb3⟩ : ∃ b,b = w.heap.size + 1 + 1:=⟨_,rfl⟩
 obtain ⟨b4,hb4⟩ : ∃ b,b = w.heap.size + 1 + 1 + 1:=⟨_,rfl⟩
 obtain ⟨b5,hb5⟩ : ∃ b,b = w.heap.size + 1 + 1 + 1 + 1:=⟨_,rfl⟩
 obtain ⟨b6,hb6⟩ : ∃ b,b = w.heap.size + 1 + 1 + 1 + 1 + 1:=⟨_,rfl⟩
 obtain ⟨b7,hb7⟩ : ∃ b,b = w.heap.size + 1 + 1 + 1 + 1 + 1 + 1:=⟨_,rfl⟩
 obtain ⟨b8,hb8⟩ : ∃ b,b = w.heap.size + 1 + 1 + 1 + 1 + 1 + 1 + 1:=⟨_,rfl⟩
 rw [← hb8,← hb7,← hb6,← hb5,← hb4,← hb3,← hb2,← hs]
 have BST : Hid (∃ vS vA,Bst w ((((((((w.alloc (.cells #[.slice a B.length c] 51)).alloc (.cells (madeCells #[.int .i64 0] B.length) 3)).alloc (.cells #[.pointer none,.pointer none,.slice none 0 0,.pointer none,.slice (some ⟨b2,0,none⟩) B.length B.length] 137)).alloc
   (.cells #[.pointer (some ⟨b3,0,none⟩)] 73)).alloc (.cells #[.bool true,.bool false] 4)).alloc (.cells #[.slice (some ⟨b5,0,none⟩) 2 2] 138)).alloc (.cells #[.int .i64 0,.int .i64 B.length,.int .i64 0] 140)).alloc (.cells #[.slice (some ⟨b7,0,none⟩) 1 1] 141))
   s B.length (.slice a B.length c) (lbD (bls B) 0 vS vA (.slice none 0 0) (.slice none 0 0) (.slice none 0 0) (ndTo (bls B) 0))):=by
  have h:=bst_start w B.length (.slice a B.length c) hB_ (b2:=b2) (b3:=b3) (b5:=b5) (b7:=b7) (by omega) (by omega) (by omega) (by omega)
  rw [← hs] at h
  refine ⟨.slice (some ⟨b5,0,none⟩) 2 2,.slice (some ⟨b7,0,none⟩) 1 1, ?_⟩
  have e : lbD (bls B) 0 (.slice (some ⟨b5,0,none⟩) 2 2) (.slice (some ⟨b7,0,none⟩) 1 1) (.slice none 0 0) (.slice none 0 0) (.slice none 0 0) (ndTo (bls B) 0) =
    { vS:=.slice (some ⟨b5,0,none⟩) 2 2,vA:=.slice (some ⟨b7,0,none⟩) 1 1,vL:=.slice none 0 0,vI:=.slice none 0 0,vD:=.slice none 0 0,sh:=[true,false],al:=[⟨0,B.length,0⟩],lab:=[],isl:=[],idl:=[],nd:=List.replicate B.length 0 }:=by
   unfold lbD
   rw [ndTo_zero,bls_len]
   have e2 : bfsAt (rootS (bls B)) (kids (bls B)) (nodesA (bls B)) 0 = [⟨0,B.length,0⟩]:=by
    unfold bfsAt rootS
    rw [bls_len];rfl
   rw [e2]
   rfl
  rw [e]
  exact h
 generalize ((((((((w.alloc (.cells #[.slice a B.length c] 51)).alloc (.cells (madeCells #[.int .i64 0] B.length) 3)).alloc (.cells #[.pointer none,.pointer none,.slice none 0 0,.pointer none,.slice (some ⟨b2,0,none⟩) B.length B.length] 137)).alloc
   (.cells #[.pointer (some ⟨b3,0,none⟩)] 73)).alloc (.cells #[.bool true,.bool false] 4)).alloc (.cells #[.slice (some ⟨b5,0,none⟩) 2 2] 138)).alloc (.cells #[.int .i64 0,.int .i64 B.length,.int .i64 0] 140)).alloc (.cells #[.slice (some ⟨b7,0,none⟩) 1 1] 141)) = W0 at BST ⊢
 have HS:=Lib.hid hs
 have HB2 : Hid (b2 = s + 1):=by rw [hs];exact hb2
 have HB3 : Hid (b3 = s + 2):=by rw [hs];exact hb3
 have HB4 : Hid (b4 = s + 3):=by rw [hs];exact hb4
 have HB6 : Hid (b6 = s + 5):=by rw [hs];exact hb6
 have HB8 : Hid (b8 = s + 7):=by rw [hs];exact hb8
 clear hs hb2 hb3 hb4 hb5 hb6 hb7 hb8
 refine lb_loop (w:=w) (ds:=[]) (U:={ u7:=.slice none 0 0,u8:=.slice none 0 0,u10:=.int .i64 0,u11:=undef,u12:=undef,u13:=undef,u29:=undef,u30:=undef,u31:=undef,u32:=undef,u33:=undef,u34:=undef,u35:=undef,u36:=undef,u37:=undef,u38:=undef,u39:=undef,u40:=undef,u41:=undef,u42:=undef,u43:=undef,u44:=undef,u45:=undef,u46:=undef,u47:=undef,u48:=undef,u49:=undef,u50:=undef,u51:=undef,u52:=undef,u53:=undef,u54:=undef,u55:=undef,u56:=undef,u57:=undef,u58:=undef,u59:=undef,u60:=undef,u61:=undef,u62:=undef,u63:=undef,u64:=undef,u65:=undef,u66:=undef,u67:=undef,u68:=undef,u69:=undef,u70:=undef,u71:=undef,u72:=undef,u73:=undef,u74:=undef,u75:=undef,u76:=undef,u77:=undef,u78:=undef,u79:=undef,u80:=undef,u81:=undef,u82:=undef,u83:=undef,u84:=undef,u85:=undef,u86:=undef,u87:=undef,u88:=undef,u89:=undef,u90:=undef,u91:=undef,u92:=undef,u93:=undef,u94:=undef,u95:=undef,u96:=undef,u97:=undef,u98:=undef,u99:=undef,u100:=undef,u101:=undef,u102:=undef,u103:=undef,u104:=undef,u105:=undef,u106:=undef,u107:=undef }) ?start ?round
 case start =>
  obtain ⟨vS,vA,h⟩:=BST.out
  exact ⟨rfl,Nat.zero_le _,Marks.nil _ _,⟨vS,vA,_,h⟩,by rw [offA_zero];omega⟩
 case round =>
  rintro i ds ⟨u7,u8,u10,u11,u12,u13,u29,u30,u31,u32,u33,u34,u35,u36,u37,u38,u39,u40,u41,u42,u43,u44,u45,u46,u47,u48,u49,u50,u51,u52,u53,u54,u55,u56,u57,u58,u59,u60,u61,u62,u63,u64,u65,u66,u67,u68,u69,u70,u71,u72,u73,u74,u75,u76,u77,u78,u79,u80,u81,u82,u83,u84,u85,u86,u87,u88,u89,u90,u91,u92,u93,u94,u95,u96,u97,u98,u99,u100,u101,u102,u103,u104,u105,u106,u107⟩ wr ⟨hu,hi,hM,hB,hO⟩ K hK
  simp only at hu
  subst hu
  dsimp only [lbAct]
  dsimp only at hB
  have HM:=Lib.hid hM
  have HO:=Lib.hid hO
  obtain ⟨vS,vA,vL,hB⟩:=hB
  obtain ⟨aA,cA,hvA,_,_,hatA⟩:=hB.oA.at_ spanLay.len
  simp only [lbD] at hvA
  subst hvA
  have hlen : (bfsAt (rootS (bls B)) (kids (bls B)) (nodesA (bls B)) i).length = offA (bls B) i:=rfl
  obtain ⟨N1,hN1⟩ : ∃ N,N = offA (bls B) i:=⟨_,rfl⟩
  have c8:=hB.b8.cell (o:=0) rfl
  simp only [lbD] at c8
  rw [hlen,← hN1,← HB8.out] at c8
  have HBST:=Lib.hid hB
  have HN1:=Lib.hid hN1
  by_cases hlt : i < N1
  case neg =>
   have hlti : ¬ (i : Int) < N1:=by omega
   have hNi : (nodesA (bls B)).length ≤ i:=by
    rcases Nat.lt_or_ge i (nodesA (bls B)).length with h | h
    ·have:=HOK.out.off_gt h;omega
    ·exact h
   have htk : (nodesA (bls B)).take i = nodesA (bls B):=List.take_of_length_le hNi
   have hoffN : offA (bls B) i = (nodesA (bls B)).length:=by
    unfold offA bfsAt
    rw [htk,← HOK.out.fix]
   have hcnt : countL (bls B) ≤ 524287:=by
    rw [← nodes_count HOK.out.asc HOK.out.len,← hoffN];exact hO
   obtain ⟨z1,z2,z3,z4,z5⟩:=HOK.out.sizes (by rw [bls_len];exact hB_) hcnt
   obtain ⟨aS,cS,hvS,_,_,hatS⟩:=hB.oS.at_ (enc:=boolC) (fun _ => rfl)
   obtain ⟨aI,cI,hvI,_,_,hatI⟩:=hB.oI.at_ (enc:=boolC) (fun _ => rfl)
   obtain ⟨aD,cD,hvD,_,_,hatD⟩:=hB.oD.at_ (enc:=n64C) (fun _ => rfl)
   simp only [lbD,htk] at hvS hvI hvD hatS hatI hatD
   obtain ⟨SH,hSH⟩ : ∃ l,l = shapeL (bls B) (nodesA (bls B)):=⟨_,rfl⟩
   obtain ⟨IS,hIS⟩ : ∃ l,l = isL (bls B) (nodesA (bls B)):=⟨_,rfl⟩
   obtain ⟨ID,hID⟩ : ∃ l,l = idsL (bls B) (nodesA (bls B)):=⟨_,rfl⟩
   rw [← hSH] at z1 hatS hvS
   rw [← hIS] at z2 hatI hvI
   rw [← hID] at z4 z5 hatD hvD
   have EE : Hid (LbE w wr s #[.pointer none,.pointer none,vL,.pointer none,.slice (some ⟨s + 1,0,none⟩) B.length B.length] vL (.slice (some ⟨s + 1,0,none⟩) B.length B.length) u7 u8 (labelsL (bls B) (nodesA (bls B))) (nodeIx (bls B)) IS ID ds):=by
    have h2:=hB
    unfold lbD at h2
    rw [htk,HOK.out.ndTo_all hNi] at h2
    rw [hIS,hID]
    exact ⟨h2.b4,h2.b2,h2.oL,h2.oN,h2.oI,h2.oD,hM,h2.gr⟩
   have c6 : wr.cell? ⟨b6,0,none⟩ = some vS:=by rw [HB6.out];exact hB.b6.cell rfl
   have h6lt : b6 < wr.heap.size:=by rw [HB6.out];exact hB.b6.lt
   subst hvS
   subst hvI
   subst hvD
   have hss : w.heap.size ≤ s:=by rw [HS.out];exact Nat.le_refl _
   have HSH:=Lib.hid hSH
   have HIS:=Lib.hid hIS
   have HID:=Lib.hid hID
   have HZ5:=Lib.hid z5
   clear hatA hM hO hlen hNi htk hoffN z3 z5 hSH hIS hID hatI hatD hN1 hlt hB
   go_wp2_with fail
   have e4W:=EE.out.b4.gr (Grows.drew wr)
   obtain ⟨T,hT⟩ : ∃ T : Nat → Prop,T = fun b => b = b4 ∨ b = b6:=⟨_,rfl⟩
   have hTlt : ∀ b,T b → b < wr.drew.heap.size:=fun b hb => by
    rw [hT] at hb
    rcases hb with rfl | rfl
    ·rw [HB4.out];exact e4W.lt
    ·exact h6lt
   have hT3 : ¬ T b3:=fun h => by
    rw [hT] at h
    have e3:=HB3.out
    have e4:=HB4.out
    have e6:=HB6.out
    rcases h with h | h <;> omega
   have x4 : ∀ y : Ext (KeepB T) wr.drew,y.u.cell? ⟨b4,0,none⟩ = some (.pointer (some ⟨b3,0,none⟩)):=ext_cellK (by rw [hT];exact Or.inl rfl) (by rw [HB4.out,HB3.out];exact e4W.cell rfl)
   have x6 : ∀ y : Ext (KeepB T) wr.drew,y.u.cell? ⟨b6,0,none⟩ = some (.slice aS SH.length cS):=ext_cellK (by rw [hT];exact Or.inr rfl) ((Grows.drew wr).cell c6)
   have HT:=Lib.hid hT
   clear hT e4W
   refine wp_onlyM ?_
   refine t_region (KeepB T) [(0,false),(1,false),(2,true),(3,false),(4,false),(5,false),(6,false),(7,false),(8,true)] (KeepB.refl T) (keepB_trans T) (by kernel_rfl) (by kernel_rfl) (fun d _ _ _ _ h => by cases d <;> exact h) ?_
   iterate 2 (refine t_quiet rfl (fun K hK => ?_);go_simp;refine hK _ ?_;clear hK K)
   refine t_late rfl rfl (fun K hK => ?_)
   go_simp
   refine (vnew_any SH aS cS wr.drew z1 (hatS.grows (Grows.drew wr))).mono ?_
   rintro e w1 ⟨rfl,hv1,hg1⟩
   refine ⟨KeepB.of_below hg1 hTlt,hK _ _ ?_⟩
   clear hK K
   iterate 5 (refine t_quiet rfl (fun K hK => ?_);go_simp;refine hK _ ?_;clear hK K)
   have E1:=(EE.out.grows (Grows.drew wr)).grows hg1
   have c31 : w1.cell? ⟨b3,0,none⟩ = some (.pointer none):=by rw [HB3.out];exact E1.b3.cell rfl
   have f31 : w1.frozen? ⟨b3,0,none⟩ = false:=by rw [HB3.out];exact E1.b3.froz _
   refine t_late rfl rfl (fun K hK => ?_)
   go_simp
   refine ⟨KeepB.set hT3 _ _,hK _ _ ?_⟩
   clear hK K
   refine t_end ?_
   simp only [onlyM_normal]
   obtain ⟨sb,hsb⟩ : ∃ b,b = wr.drew.heap.size + 1:=⟨_,rfl⟩
   have e1s:=E1.set hss 0 (.pointer (some ⟨sb,0,none⟩))
   have hvS1 : VecAt (w1.setCell ⟨s + 2,0,none⟩ (.pointer (some ⟨sb,0,none⟩))) sb SH:=by
    rw [← hsb] at hv1
    exact vecAt_out hv1 (out_set _ _ _ _) (fun h => by
     have h1 : sb = s + 2:=h
     have h2:=EE.out.b3.lt
     have h3 : wr.drew.heap.size = wr.heap.size:=rfl
     omega) (set_outs2 E1.b3)
   obtain ⟨V1,hV1⟩ : ∃ V,V = w1.setCell ⟨b3,0,none⟩ (.pointer (some ⟨sb,0,none⟩)):=⟨_,rfl⟩
   rw [← HB3.out,← hV1] at e1s hvS1
   have h6a : b6 < V1.heap.size:=by rw [hV1];simp;exact Nat.lt_of_lt_of_le h6lt (Nat.le_trans (Nat.le_refl _) hg1.size)
   try rw [show wr.heap.size + 1 = sb from hsb.symm]
   try rw [← hsb]
   try rw [← hV1]
   clear hT3 hTlt x4 x6 E1 c31 f31 hv1 hg1 hV1 hsb HT T hatS c6
   go_wp2_with fail
   have e4W:=e1s.b4.gr (Grows.drew V1)
   obtain ⟨T,hT⟩ : ∃ T : Nat → Prop,T = fun b => b = b4 ∨ b = b6:=⟨_,rfl⟩
   have hTlt : ∀ b,T b → b < V1.drew.heap.size:=fun b hb => by
    rw [hT] at hb
    rcases hb with rfl | rfl
    ·rw [HB4.out];exact e4W.lt
    ·exact h6a
   have hT3 : ¬ T b3:=fun h => by
    rw [hT] at h
    have e3:=HB3.out
    have e4:=HB4.out
    have e6:=HB6.out
    rcases h with h | h <;> omega
   have x4 : ∀ y : Ext (KeepB T) V1.drew,y.u.cell? ⟨b4,0,none⟩ = some (.pointer (some ⟨b3,0,none⟩)):=ext_cellK (by rw [hT];exact Or.inl rfl) (by rw [HB4.out,HB3.out];exact e4W.cell rfl)
   have HT:=Lib.hid hT
   clear hT e4W
   refine wp_onlyM ?_
   refine t_region (KeepB T) [(0,false),(1,false),(2,true),(3,false),(4,false),(5,false),(6,false),(7,false),(8,true)] (KeepB.refl T) (keepB_trans T) (by kernel_rfl) (by kernel_rfl) (fun d _ _ _ _ h => by cases d <;> exact h) ?_
   iterate 2 (refine t_quiet rfl (fun K hK => ?_);go_simp;refine hK _ ?_;clear hK K)
   refine t_late rfl rfl (fun K hK => ?_)
   go_simp
   refine (vnew_any IS aI cI V1.drew (by omega) (owns_atc (fun _ => rfl) e1s.oI)).mono ?_
   rintro e w2 ⟨rfl,hv2,hg2⟩
   refine ⟨KeepB.of_below hg2 hTlt,hK _ _ ?_⟩
   clear hK K
   iterate 5 (refine t_quiet rfl (fun K hK => ?_);go_simp;refine hK _ ?_;clear hK K)
   have E2:=(e1s.grows (Grows.drew V1)).grows hg2
   have c32 : w2.cell? ⟨b3,1,none⟩ = some (.pointer none):=by rw [HB3.out];exact E2.b3.cell rfl
   have f32 : w2.frozen? ⟨b3,1,none⟩ = false:=by rw [HB3.out];exact E2.b3.froz _
   refine t_late rfl rfl (fun K hK => ?_)
   go_simp
   refine ⟨KeepB.set hT3 _ _,hK _ _ ?_⟩
   clear hK K
   refine t_end ?_
   simp only [onlyM_normal]
   obtain ⟨ib,hib⟩ : ∃ b,b = V1.drew.heap.size + 1:=⟨_,rfl⟩
   have e2s:=E2.set hss 1 (.pointer (some ⟨ib,0,none⟩))
   have hvI2 : VecAt (w2.setCell ⟨s + 2,1,none⟩ (.pointer (some ⟨ib,0,none⟩))) ib IS:=by
    rw [← hib] at hv2
    exact vecAt_out hv2 (out_set _ _ _ _) (fun h => by
     have h1 : ib = s + 2:=h
     have h2:=e1s.b3.lt
     have h3 : V1.drew.heap.size = V1.heap.size:=rfl
     omega) (set_outs2 E2.b3)
   have hsbne : sb ≠ s + 2:=fun h => by
    have hc:=hvS1.c0
    have h2:=e1s.b3
    rw [h] at hc
    have h3:=h2.cell (o:=0) (v:=.pointer (some ⟨sb,0,none⟩)) rfl
    rw [hc] at h3
    cases h3
   have hvS2 : VecAt (w2.setCell ⟨s + 2,1,none⟩ (.pointer (some ⟨ib,0,none⟩))) sb SH:=vecAt_out ((hvS1.grows (Grows.drew V1)).grows hg2) (out_set _ _ _ _) hsbne (set_outs2 E2.b3)
   obtain ⟨V2,hV2⟩ : ∃ V,V = w2.setCell ⟨b3,1,none⟩ (.pointer (some ⟨ib,0,none⟩)):=⟨_,rfl⟩
   rw [← HB3.out,← hV2] at e2s hvI2 hvS2
   have h6b : b6 < V2.heap.size:=by rw [hV2];simp;exact Nat.lt_of_lt_of_le h6a (Nat.le_trans (Nat.le_refl _) hg2.size)
   try rw [show V1.heap.size + 1 = ib from hib.symm]
   try rw [← hib]
   try rw [← hV2]
   clear hT3 hTlt x4 E2 c32 f32 hv2 hg2 hV2 hib HT T e1s hvS1
   go_wp2_with fail
   have e4W:=e2s.b4.gr (Grows.drew V2)
   obtain ⟨T,hT⟩ : ∃ T : Nat → Prop,T = fun b => b = b4 ∨ b = b6:=⟨_,rfl⟩
   have hTlt : ∀ b,T b → b < V2.drew.heap.size:=fun b hb => by
    rw [hT] at hb
    rcases hb with rfl | rfl
    ·rw [HB4.out];exact e4W.lt
    ·exact h6b
   have hT3 : ¬ T b3:=fun h => by
    rw [hT] at h
    have e3:=HB3.out
    have e4:=HB4.out
    have e6:=HB6.out
    rcases h with h | h <;> omega
   have x4 : ∀ y : Ext (KeepB T) V2.drew,y.u.cell? ⟨b4,0,none⟩ = some (.pointer (some ⟨b3,0,none⟩)):=ext_cellK (by rw [hT];exact Or.inl rfl) (by rw [HB4.out,HB3.out];exact e4W.cell rfl)
   have HT:=Lib.hid hT
   clear hT e4W
   refine wp_onlyM ?_
   refine t_region (KeepB T) [(0,false),(1,false),(2,true),(3,false),(4,false),(5,false),(6,false),(7,false),(8,true)] (KeepB.refl T) (keepB_trans T) (by kernel_rfl) (by kernel_rfl) (fun d _ _ _ _ h => by cases d <;> exact h) ?_
   iterate 2 (refine t_quiet rfl (fun K hK => ?_);go_simp;refine hK _ ?_;clear hK K)
   refine t_late rfl rfl (fun K hK => ?_)
   go_simp
   refine (pnew_any ID aD cD V2.drew (by omega) (fun m hm => by have:=HZ5.out m hm;omega) (owns_atc (fun _ => rfl) e2s.oD)).mono ?_
   rintro e w3 ⟨rfl,hv3,hg3⟩
   refine ⟨KeepB.of_below hg3 hTlt,hK _ _ ?_⟩
   clear hK K
   iterate 5 (refine t_quiet rfl (fun K hK => ?_);go_simp;refine hK _ ?_;clear hK K)
   have E3:=(e2s.grows (Grows.drew V2)).grows hg3
   have c33 : w3.cell? ⟨b3,3,none⟩ = some (.pointer none):=by rw [HB3.out];exact E3.b3.cell rfl
   have f33 : w3.frozen? ⟨b3,3,none⟩ = false:=by rw [HB3.out];exact E3.b3.froz _
   refine t_late rfl rfl (fun K hK => ?_)
   go_simp
   refine ⟨KeepB.set hT3 _ _,hK _ _ ?_⟩
   clear hK K
   refine t_end ?_
   simp only [onlyM_normal]
   obtain ⟨pb,hpb⟩ : ∃ b,b = V2.drew.heap.size:=⟨_,rfl⟩
   have e3s:=E3.set hss 3 (.pointer (some ⟨pb,0,none⟩))
   have hvD3 : PkAt (w3.setCell ⟨s + 2,3,none⟩ (.pointer (some ⟨pb,0,none⟩))) pb ID:=by
    rw [← hpb] at hv3
    exact pkAt_out hv3 (out_set _ _ _ _) (fun h => by
     have h1 : pb = s + 2:=h
     have h2:=e2s.b3.lt
     have h3 : V2.drew.heap.size = V2.heap.size:=rfl
     omega) (set_outs2 E3.b3)
   have hibne : ib ≠ s + 2:=fun h => by
    have hc:=hvI2.c0
    have h2:=e2s.b3
    rw [h] at hc
    have h3:=h2.cell (o:=0) (v:=.pointer (some ⟨sb,0,none⟩)) rfl
    rw [hc] at h3
    cases h3
   have hvS3 : VecAt (w3.setCell ⟨s + 2,3,none⟩ (.pointer (some ⟨pb,0,none⟩))) sb SH:=vecAt_out ((hvS2.grows (Grows.drew V2)).grows hg3) (out_set _ _ _ _) hsbne (set_outs2 E3.b3)
   have hvI3 : VecAt (w3.setCell ⟨s + 2,3,none⟩ (.pointer (some ⟨pb,0,none⟩))) ib IS:=vecAt_out ((hvI2.grows (Grows.drew V2)).grows hg3) (out_set _ _ _ _) hibne (set_outs2 E3.b3)
   obtain ⟨V3,hV3⟩ : ∃ V,V = w3.setCell ⟨b3,3,none⟩ (.pointer (some ⟨pb,0,none⟩)):=⟨_,rfl⟩
   rw [← HB3.out,← hV3] at e3s hvD3 hvI3 hvS3
   have c4f : V3.cell? ⟨b4,0,none⟩ = some (.pointer (some ⟨b3,0,none⟩)):=by rw [HB4.out,HB3.out];exact e3s.b4.cell rfl
   try rw [show V2.heap.size = pb from hpb.symm]
   try rw [← hpb]
   try rw [← hV3]
   clear hT3 hTlt x4 E3 c33 f33 hv3 hg3 hV3 hpb HT T e2s hvS2 hvI2
   go_wp2_with fail
   refine leaves_marks (ds:=ds) (lo:=s) e3s.mks fun w' hb1 hb2 hb3 => ⟨.tuple #[.pointer (some ⟨b3,0,none⟩),.int .i64 0],by simp [results,Tryz.results31,go_sem],fun hbig => by omega,fun _ => ⟨by rw [HB3.out,HS.out], ?_,grows_marks e3s.gr e3s.mks HS.out hb1 hb2 hb3⟩⟩
   have ho : OutS V3 w' (fun k => k ∈ ds):=hb1
   have ce : ∀ (o : Nat) (v : Value),(#[.pointer (some ⟨sb,0,none⟩),.pointer (some ⟨ib,0,none⟩),vL,.pointer (some ⟨pb,0,none⟩),.slice (some ⟨s + 1,0,none⟩) B.length B.length] : Array Value)[o]? = some v → w'.cell? ⟨s + 2,o,none⟩ = some v:=fun o v hv => by
    have hc : V3.cell? ⟨s + 2,o,none⟩ = some v:=e3s.b3.cell hv
    exact cell_out hc ho (marks_not e3s.mks hc)
   rw [← HS.out]
   have hb0 : ∀ {e : TypeId} {k : Nat} {α : Type} {enc : α → List Value} {v : Value} {xs : List α},Owns V3 s e k enc v xs → Owns w' 0 e k enc v xs:=fun h => (own_out h ho (marks_outs e3s.mks _)).base (Nat.zero_le _)
   exact ⟨⟨sb,ce 0 _ rfl,by rw [← HSH.out];exact vecAt_out hvS3 ho (marks_not e3s.mks hvS3.c0) (marks_outs2 e3s.mks)⟩,⟨ib,ce 1 _ rfl,by rw [← HIS.out];exact vecAt_out hvI3 ho (marks_not e3s.mks hvI3.c0) (marks_outs2 e3s.mks)⟩,
    ⟨vL,ce 2 _ rfl,hb0 e3s.oL⟩,⟨pb,ce 3 _ rfl,by rw [← HID.out];exact pkAt_out hvD3 ho (marks_not e3s.mks hvD3.c0) (marks_outs2 e3s.mks)⟩,⟨_,ce 4 _ rfl,hb0 e3s.oN⟩⟩
  case pos =>
   have hlti : (i : Int) < N1:=by omega
   have hiN : i < (nodesA (bls B)).length:=by have:=HOK.out.off_le i;omega
   obtain ⟨x,hx⟩ : ∃ x,(nodesA (bls B))[i]? = some x:=⟨_,List.getElem?_eq_getElem hiN⟩
   have hxb : (bfsAt (rootS (bls B)) (kids (bls B)) (nodesA (bls B)) i)[i]? = some x:=by rw [bfsAt_get HOK.out.fix (by rw [hlen];omega)];exact hx
   obtain ⟨bA,oA,rfl,hcA⟩:=AtCells.get (enc:=spanC) hatA (List.ne_nil_of_mem (List.mem_of_getElem? hxb))
   have e0:=hcA i x hxb 0 _ rfl
   have e1:=hcA i x hxb 1 _ rfl
   have e2:=hcA i x hxb 2 _ rfl
   rw [Nat.add_zero] at e0
   have hN12 : N1 ≤ 524287:=by rw [hN1];exact hO
   have c1 : ∀ o,(wr.alloc o).cell? ⟨s,0,none⟩ = some (.slice a B.length c):=fun o => (hB.al o).b1.cell rfl
   have HX:=Lib.hid hx
   clear hatA hcA hx hxb hB hM hO hN1 hlen
   go_wp2_with (go_at_call 85;refine (kids_any x a B.length c _).mono ?_;rintro e w2 ⟨rfl,rfl⟩)
   have hB:=HBST.out
   have hsl : s ≤ wr.heap.size:=by rw [HS.out];exact hB.gr.size
   obtain ⟨xb,hxb⟩ : ∃ b,b = wr.heap.size:=⟨_,rfl⟩
   obtain ⟨kb,hkb⟩ : ∃ b,b = wr.heap.size + 1:=⟨_,rfl⟩
   obtain ⟨lb,hlb⟩ : ∃ b,b = wr.heap.size + 1 + 1:=⟨_,rfl⟩
   rw [← hlb,← hkb,← hxb]
   obtain ⟨Wb,hWb⟩ : ∃ W,W = ((wr.alloc (.cells #[.int .i64 x.i,.int .i64 x.t,.int .i64 x.d] 140)).alloc (.cells #[.int .i64 x.i,.int .i64 x.t,.int .i64 x.d] 140)).alloc (.cells #[.slice a B.length c] 51):=⟨_,rfl⟩
   rw [← hWb]
   have hsz1 : Wb.heap.size = wr.heap.size + 1 + 1 + 1:=by rw [hWb];simp
   have TX : TB Wb xb #[.int .i64 x.i,.int .i64 x.t,.int .i64 x.d] 140:=by
    rw [hWb,hxb]
    exact ((TB.alloc wr _ _).keep (World.grownBy_alloc _ _ none) (RT.none _ _) (by decide : (Option.none : Option TypeId) ≠ _)).keep (World.grownBy_alloc _ _ none) (RT.none _ _) (by decide : (Option.none : Option TypeId) ≠ _)
   have TK : TB Wb kb #[.int .i64 x.i,.int .i64 x.t,.int .i64 x.d] 140:=by
    rw [hWb,hkb]
    have:=(TB.alloc (wr.alloc (.cells #[.int .i64 x.i,.int .i64 x.t,.int .i64 x.d] 140)) #[.int .i64 x.i,.int .i64 x.t,.int .i64 x.d] 140).keep (World.grownBy_alloc _ (.cells #[.slice a B.length c] 51) none) (RT.none _ _) (by decide : (Option.none : Option TypeId) ≠ _)
    rwa [World.size_alloc] at this
   have TL : TB Wb lb #[.slice a B.length c] 51:=by
    rw [hWb,hlb]
    have:=TB.alloc ((wr.alloc (.cells #[.int .i64 x.i,.int .i64 x.t,.int .i64 x.d] 140)).alloc (.cells #[.int .i64 x.i,.int .i64 x.t,.int .i64 x.d] 140)) #[.slice a B.length c] 51
    rwa [World.size_alloc,World.size_alloc] at this
   have HBb : Hid (Bst w Wb s B.length (.slice a B.length c) (lbD (bls B) i vS (.slice (some ⟨bA,oA,none⟩) N1 cA) vL u7 u8 (ndTo (bls B) i))):=by
    rw [hWb]
    have h:=((hB.al (.cells #[.int .i64 x.i,.int .i64 x.t,.int .i64 x.d] 140)).al (.cells #[.int .i64 x.i,.int .i64 x.t,.int .i64 x.d] 140)).al (.cells #[.slice a B.length c] 51)
    rw [show (bfsAt (rootS (bls B)) (kids (bls B)) (nodesA (bls B)) i).length = N1 from HN1.out.symm] at h
    exact h
   have hMb : Marks Wb s ds:=by
    rw [hWb]
    exact ((HM.out.grown (row:=none) (World.grownBy_alloc _ _ _) (fun _ _ e => by cases e)).grown (row:=none) (World.grownBy_alloc _ _ _) (fun _ _ e => by cases e)).grown (row:=none) (World.grownBy_alloc _ _ _) (fun _ _ e => by cases e)
   have hbAlt : bA < wr.heap.size:=by
    have:=own_lt hB.oA bA rfl
    exact this
   have HHS:=Lib.hid (show s ≤ wr.heap.size from hsl)
   have hxk : bA ≠ xb∧bA ≠ kb∧kb < Wb.heap.size∧lb < Wb.heap.size∧s ≤ Wb.heap.size:=⟨by omega,by omega,by omega,by omega,by omega⟩
   clear hxb hkb hlb hsz1 hsl hbAlt
   clear hWb hB e0 e1 e2 c1 c8
   obtain ⟨S,hS⟩ : ∃ S : Nat → Prop,S = fun b => b < s ∨ b = kb ∨ b = lb:=⟨_,rfl⟩
   have hSlt : ∀ b,S b → b < Wb.heap.size:=fun b hb => by
    rw [hS] at hb
    rcases hb with h | h | h <;> omega
   have hgx:=HOK.out.good HX.out
   have hSW : ∀ q,a = some q → S q.block:=fun q hq => by rw [hS];exact Or.inl (by rw [HS.out];exact HA.out q hq)
   have hATb : AtCells Wb a 1 (B.map stC):=HAT.out.grows HBb.out.gr
   have KS:=kid_stops 11 B a c kb lb x S Wb hB_ HSZ.out HOK.out.asc hgx (by rw [hS];exact Or.inr (Or.inl rfl)) (by rw [hS];exact Or.inr (Or.inr rfl)) hSW hSlt (TK.cell rfl) (TK.cell rfl) (TK.cell rfl) (TL.cell rfl) hATb
   refine (wpIn_wide (n:=12)).1 ?_
   refine wpIn_rangeFunc_ownH (F:=Fence.wide) (n:=12) (α:=KidOf (bls B) x) rfl (by decide) (gf:=137) (lb:=#[.pointer (some ⟨kb,0,none⟩),.pointer (some ⟨lb,0,none⟩)]) rfl trivial (enters_of Tryz.func137 (by kernel_rfl) rfl) KS
    (fun h k => h.tr k) (fun W l o o' hl ho hc hw b hb => World.putObj_heap_other (fun e => by have:=hSlt b hb;omega)) (Below.refl _ _) (fun _ => rfl)
    (fun pre W => ∃ vS' vA' vL',LbJ w s B.length (.slice a B.length c) ds xb kb lb Wb.heap.size x (lbK (bls B) i x (pre.map (fun y => y.1)) vS' vA' vL' u7 u8) W)
    (fun _ _ _ => False) ?hI (fun _ _ _ _ _ h _ _ => h) ?h0
    (fun y a' W => ∃ Bx v,Wb.heap.size ≤ Bx∧TB W Bx #[.int .i64 y.1.i,.int .i64 y.1.t,.int .i64 y.1.d] 140∧TB W (s + 7) #[v] 141∧v.ownBlock ≠ some Bx ∧
     a' = { tmps:=(lbAct B a c s b2 b3 b4 b5 b6 b7 b8 ds { u7:=u7,u8:=u8,u10:=.int .i64 i,u11:=.pointer (some ⟨xb,0,none⟩),u12:=.pointer (some ⟨Bx,0,none⟩),u13:=u13,u29:=.int .i64 i,u30:=.slice (some ⟨bA,oA,none⟩) N1 cA,u31:=.int .i64 N1,u32:=.bool true,u33:=u33,u34:=u34,u35:=.slice (some ⟨bA,oA,none⟩) N1 cA,u36:=.int .i64 i,u37:=.pointer (some ⟨bA,oA + i * 3,none⟩),u38:=.agg #[.int .i64 x.i,.int .i64 x.t,.int .i64 x.d],u39:=.agg #[.int .i64 x.i,.int .i64 x.t,.int .i64 x.d],u40:=.slice a B.length c,u41:=.func (.func 137) #[] #[.pointer (some ⟨kb,0,none⟩),.pointer (some ⟨lb,0,none⟩)],u42:=.agg #[.int .i64 y.1.i,.int .i64 y.1.t,.int .i64 y.1.d],u43:=u43,u44:=u44,u45:=u45,u46:=u46,u47:=u47,u48:=u48,u49:=u49,u50:=u50,u51:=u51,u52:=u52,u53:=u53,u54:=u54,u55:=u55,u56:=u56,u57:=u57,u58:=u58,u59:=u59,u60:=u60,u61:=u61,u62:=u62,u63:=u63,u64:=u64,u65:=u65,u66:=u66,u67:=u67,u68:=u68,u69:=u69,u70:=u70,u71:=u71,u72:=u72,u73:=u73,u74:=u74,u75:=u75,u76:=u76,u77:=u77,u78:=u78,u79:=u79,u80:=u80,u81:=u81,u82:=u82,u83:=u83,u84:=u84,u85:=u85,u86:=u86,u87:=u87,u88:=u88,u89:=u89,u90:=u90,u91:=u91,u92:=u92,u93:=u93,u94:=u94,u95:=u95,u96:=u96,u97:=u97,u98:=u98,u99:=u99,u100:=u100,u101:=u101,u102:=u102,u103:=u103,u104:=u104,u105:=u105,u106:=u106,u107:=u107 }).tmps,defers:=[] }) ?hAx ?assign ?body ?done ?stop
   case hI =>
    rintro pre V V' row ⟨vS',vA',vL',h⟩ hg hr
    exact ⟨vS',vA',vL',h.other hg (RT.of_not fun q e => (hr q e).2) (fun q e => by have:=(hr q e).1;omega) (fun D hD e => by have h1:=(hr D e).1;have h2:=(Array.getElem?_eq_some_iff.1 (hMb.at_ D hD).2).1;omega)⟩
   case h0 =>
    refine ⟨vS,.slice (some ⟨bA,oA,none⟩) N1 cA,vL, ?_,TX,TK,TL,fun e => ?_,fun e => ?_,hMb,Nat.le_refl _⟩
    ·have h:=HBb.out
     simpa [lbD,lbK] using h
    ·have e1 : some bA = some xb:=e
     exact hxk.1 (Option.some.inj e1)
    ·have e1 : some bA = some kb:=e
     exact hxk.2.1 (Option.some.inj e1)
   case hAx =>
    rintro y a' _ V V' row ⟨Bx,v,k1,k2,k3,k4,k5⟩ hg hr
    exact ⟨Bx,v,k1,k2.keep hg (RT.of_not fun q e => (hr q e).2) (by decide),k3.keep hg (RT.of_not fun q e => (hr q e).2) (by decide),k4,k5⟩
   case assign =>
    rintro l pre y V K2 ⟨vS',vA',vL',h⟩ hK2
    dsimp only [spanV]
    gi_wp2
    exact hK2 _ _ ((KeepsOthers.alloc _ _).from _) (KeepB.alloc (fun b hb => Nat.lt_of_lt_of_le (hSlt b hb) h.sz) _) ⟨vS',vA',vL',h.al _⟩ ⟨V.heap.size,vA',h.sz,TB.alloc _ _ _,(h.al _).st.b8,fun e => absurd (own_lt h.st.oA _ e) (Nat.lt_irrefl _),rfl⟩
   case body =>
    rintro l pre y a' V hl hrec ⟨vS',vA',vL',h⟩ ⟨Bx,v,k1,TC,kb8,kne,rfl⟩ hlen
    obtain rfl : vA' = v:=by
     have e1:=h.st.b8
     unfold TB at e1 kb8
     dsimp only [lbK] at e1
     rw [e1] at kb8
     simpa using kb8
    have HYK:=y.2
    obtain ⟨gy,hyd,hy1,hy2⟩:=(tile_kids HOK.out.asc hgx).mem y.1 HYK
    have hyit : y.1.i < y.1.t:=by rcases gy.ne with h | h <;> omega
    have hyB : y.1.i < B.length:=by have:=gy.le;rw [bls_len] at this;omega
    obtain ⟨sI,hsI⟩ : ∃ s,B[y.1.i]? = some s:=⟨_,List.getElem?_eq_getElem hyB⟩
    have hxd : x.d < sI.size:=by
     have:=gy.len y.1.i (Nat.le_refl _) hyit
     rw [nth_bls hsI,bl_len,hyd] at this
     omega
    have hlab : labelOf (bls B) x y.1 = sI[x.d]:=by
     unfold labelOf
     rw [nth_bls hsI,List.getD_eq_getElem?_getD,bl_get hxd];rfl
    clear hyd hy1 hy2 gy
    obtain ⟨sb,so,rfl,hcs⟩:=at1 (f:=fun s : ByteArray => Value.string s) (HAT.out.grows h.st.gr) (List.ne_nil_of_mem (List.mem_of_getElem? hsI))
    have hsbs : sb < s:=by rw [HS.out];exact HA.out _ rfl
    have HPL : Hid (pre.length + offA (bls B) i < 6000000∧(shapeL (bls B) ((nodesA (bls B)).take i)).length ≤ 2000000∧(labelsL (bls B) ((nodesA (bls B)).take i)).length ≤ 1000000):=by
     have h1:=HOK.out.off_le (i + 1)
     rw [offA_succ HX.out] at h1
     have h2:=HOK.out.many (by rw [bls_len];exact hB_)
     have h3:=shapeL_len (bls B) i (by have:=(List.getElem?_eq_some_iff.1 HX.out).1;omega)
     have h4:=offA_labels (bls B) i
     have h5:=HO.out
     show _∧_∧_
     omega
    have c6 : V.cell? ⟨b6,0,none⟩ = some vS':=by rw [HB6.out];exact h.st.b6.cell rfl
    obtain ⟨Ls,hLs⟩ : ∃ l,l = shapeL (bls B) ((nodesA (bls B)).take i) ++ List.replicate (pre.map (fun y => y.1)).length true:=⟨_,rfl⟩
    obtain ⟨Ll,hLl⟩ : ∃ l,l = labelsL (bls B) ((nodesA (bls B)).take i) ++ (pre.map (fun y => y.1)).map (labelOf (bls B) x):=⟨_,rfl⟩
    obtain ⟨La,hLa⟩ : ∃ l,l = bfsAt (rootS (bls B)) (kids (bls B)) (nodesA (bls B)) i ++ pre.map (fun y => y.1):=⟨_,rfl⟩
    have oS : Owns V s 4 1 boolC vS' Ls:=by rw [hLs];exact h.st.oS
    have hlens : Ls.length + 1 ≤ 9000000∧Ll.length + 1 ≤ 9000000∧La.length + 1 ≤ 9000000:=by
     have:=HPL.out
     rw [hLs,hLl,hLa]
     simp only [List.length_append,List.length_replicate,List.length_map]
     have e1 : (bfsAt (rootS (bls B)) (kids (bls B)) (nodesA (bls B)) i).length = offA (bls B) i:=rfl
     omega
    have HLS:=Lib.hid hLs
    have HLL:=Lib.hid hLl
    have HLA:=Lib.hid hLa
    clear hLs hLl hLa
    have hsV : s ≤ V.heap.size:=Nat.le_trans hxk.2.2.2.2 h.sz
    dsimp only [lbAct]
    refine wpIn_block ?_
    refine wpIn_seq_k fun K1 hK1 => ?_
    refine r_list (by rintro ⟨_,_,h⟩;exact h) (by kernel_rfl) ?_
    go_wp2_with (at_builtin;refine app_one5 boolLay rfl _ _ rfl s vS' _ true rfl oS (Grows.refl _) _ 1 rfl #[.bool true] rfl rfl (by omega) hsV ?_;intro v5 w5 ho5 hg5 hf5 _;obtain ⟨g5,p5,rfl⟩:=owns_snoc ho5;have hJ5:=h.pushS ho5 hg5 hf5;have c6b : w5.cell? ⟨b6,0,none⟩ = some vS':=(by rw [HB6.out];exact hJ5.2.2.2.cell rfl);have f6b : w5.frozen? ⟨b6,0,none⟩ = false:=(by rw [HB6.out];exact hJ5.2.2.2.froz 0))
    obtain ⟨V2,hV2⟩ : ∃ V2,V2 = w5.setCell ⟨b6,0,none⟩ (.slice (some ⟨g5,0,none⟩) (Ls.length + 1) p5):=⟨_,rfl⟩
    have J5:=hJ5.1
    have KF5:=hJ5.2.1
    have TC2:=hJ5.2.2.1 _ _ TC
    rw [← HB6.out,← hV2] at J5 KF5 TC2
    rw [← hV2]
    clear hJ5 hV2 c6 c6b f6b oS ho5 hg5 hf5 TC kb8 hcs
    have J5d:=J5.dr
    have q4 : V2.drew.cell? ⟨b4,0,none⟩ = some (.pointer (some ⟨b3,0,none⟩)):=by rw [HB4.out,HB3.out];exact J5d.st.b4.cell rfl
    have q3 : V2.drew.cell? ⟨b3,2,none⟩ = some vL':=by rw [HB3.out];exact J5d.st.b2.cell rfl
    have q1 : V2.drew.cell? ⟨s,0,none⟩ = some (.slice (some ⟨sb,so,none⟩) B.length c):=J5d.st.b1.cell rfl
    have qc : V2.drew.cell? ⟨Bx,0,none⟩ = some (.int .i64 y.1.i):=(Grows.drew V2).cell (TC2.cell rfl)
    have qx : V2.drew.cell? ⟨xb,2,none⟩ = some (.int .i64 x.d):=J5d.tx.cell rfl
    have qs : V2.drew.cell? ⟨sb,so + y.1.i,none⟩ = some (.string sI):=by
     obtain ⟨sb',so',e,hcs⟩:=at1 (f:=fun s : ByteArray => Value.string s) (HAT.out.grows J5d.st.gr) (List.ne_nil_of_mem (List.mem_of_getElem? hsI))
     have e1 : sb = sb'∧so = so':=by simpa using e
     rw [e1.1,e1.2]
     exact hcs _ _ hsI
    obtain ⟨T,hT⟩ : ∃ T : Nat → Prop,T = fun b => b = b4 ∨ b = b3 ∨ b = s ∨ b = Bx ∨ b = xb ∨ b < s:=⟨_,rfl⟩
    have TCd : TB V2.drew Bx #[.int .i64 y.1.i,.int .i64 y.1.t,.int .i64 y.1.d] 140:=TC2
    have b4d : TB V2.drew b4 #[.pointer (some ⟨s + 2,0,none⟩)] 73:=by rw [HB4.out];exact J5d.st.b4
    have b3d : TB V2.drew b3 #[.pointer none,.pointer none,vL',.pointer none,.slice (some ⟨s + 1,0,none⟩) B.length B.length] 137:=by rw [HB3.out];exact J5d.st.b2
    have hTlt : ∀ b,T b → b < V2.drew.heap.size:=fun b hb => by
     rw [hT] at hb
     rcases hb with rfl | rfl | rfl | rfl | rfl | hb
     ·exact b4d.lt
     ·exact b3d.lt
     ·exact J5d.st.b1.lt
     ·exact TCd.lt
     ·exact J5d.tx.lt
     ·have:=J5d.st.b1.lt;omega
    have hTr : ∀ b,T b → vL'.ownBlock ≠ some b:=fun b hb => by
     have hr : RT V2.drew vL'.ownBlock (some 5):=RT.own J5d.st.oL
     rw [hT] at hb
     rcases hb with rfl | rfl | rfl | rfl | rfl | hb
     ·exact b4d.ne_row hr (by decide)
     ·exact b3d.ne_row hr (by decide)
     ·exact J5d.st.b1.ne_row hr (by decide)
     ·exact TCd.ne_row hr (by decide)
     ·exact J5d.tx.ne_row hr (by decide)
     ·intro e
      have:=ownBlock_ge J5d.st.oL b e
      omega
    have z4 : ∀ x : Ext (KeepB T) V2.drew,x.u.cell? ⟨b4,0,none⟩ = some (.pointer (some ⟨b3,0,none⟩)):=ext_cellK (by rw [hT];exact Or.inl rfl) q4
    have z3 : ∀ x : Ext (KeepB T) V2.drew,x.u.cell? ⟨b3,2,none⟩ = some vL':=ext_cellK (by rw [hT];exact Or.inr (Or.inl rfl)) q3
    have z1 : ∀ x : Ext (KeepB T) V2.drew,x.u.cell? ⟨s,0,none⟩ = some (.slice (some ⟨sb,so,none⟩) B.length c):=ext_cellK (by rw [hT];exact Or.inr (Or.inr (Or.inl rfl))) q1
    have zc : ∀ x : Ext (KeepB T) V2.drew,x.u.cell? ⟨Bx,0,none⟩ = some (.int .i64 y.1.i):=ext_cellK (by rw [hT];exact Or.inr (Or.inr (Or.inr (Or.inl rfl)))) qc
    have zx : ∀ z : Ext (KeepB T) V2.drew,z.u.cell? ⟨xb,2,none⟩ = some (.int .i64 x.d):=ext_cellK (by rw [hT];exact Or.inr (Or.inr (Or.inr (Or.inr (Or.inl rfl))))) qx
    have zs : ∀ x : Ext (KeepB T) V2.drew,x.u.cell? ⟨sb,so + y.1.i,none⟩ = some (.string sI):=ext_cellK (by rw [hT];exact Or.inr (Or.inr (Or.inr (Or.inr (Or.inr hsbs))))) qs
    have hyi : (y.1.i : Int) < B.length:=by omega
    have hxdi : (x.d : Int) < sI.size:=by omega
    have HT:=Lib.hid hT
    clear hT q4 q3 q1 qc qx qs
    refine wpIn_seq_k fun K2 hK2 => ?_
    refine r_tail (KeepB T) 15 [(0,false),(1,false),(2,false),(3,false),(4,false),(5,false),(6,false),(7,false),(8,false),(9,false),(10,false),(11,false),(12,false),(13,true),(14,true)] (by rintro ⟨_,_,h⟩;exact h) (by kernel_rfl) (KeepB.refl T) (keepB_trans T) (by kernel_rfl) (by kernel_rfl) (fun d _ _ _ _ h => by cases d <;> exact h) ?_
    iterate 13 (refine t_quiet rfl (fun K hK => ?_);go_simp;refine hK _ ?_;clear hK K)
    refine t_late rfl rfl (fun K hK => ?_)
    go_simp
    refine ⟨KeepB.alloc hTlt _,hK _ _ ?_⟩
    clear hK K
    refine t_late rfl rfl (fun K hK => ?_)
    have oL : Owns V2.drew s 5 1 byteC vL' Ll:=by rw [HLL.out];exact J5d.st.oL
    refine app_late1 byteLay _ _ rfl s vL' Ll sI[x.d] rfl oL V2.drew.heap.size 1 rfl #[.int .u8 (sI[x.d].toNat : Nat)] rfl rfl (by omega) (Nat.le_trans hsV (Nat.le_trans KF5.size (Nat.le_refl _))) ?_
    intro v6 w6 ho6 hg6 _
    have hJ6:=J5d.pushL ho6 hg6
    obtain ⟨g6,p6,rfl⟩:=owns_snoc ho6
    refine ⟨fun b hb => ?_,hK _ _ ?_⟩
    ·have e1:=hg6.block b (hTlt b hb) (fun e => hTr b hb e.symm)
     have e2:=KeepB.alloc hTlt (.cells #[.int .u8 (sI[x.d].toNat : Nat)] 5) b hb
     rw [e1,← e2];rfl
    clear hK K z4 z3 z1 zc zx zs
    refine t_end ?_
    have c3b : w6.cell? ⟨b3,2,none⟩ = some vL':=by rw [HB3.out];exact hJ6.2.2.2.cell rfl
    have f3b : w6.frozen? ⟨b3,2,none⟩ = false:=by rw [HB3.out];exact hJ6.2.2.2.froz 2
    simp only [List.drop_succ_cons,List.drop_zero]
    go_wp2_with fail
    obtain ⟨V3,hV3⟩ : ∃ V3,V3 = w6.setCell ⟨b3,2,none⟩ (.slice (some ⟨g6,0,none⟩) (Ll.length + 1) p6):=⟨_,rfl⟩
    have J6:=hJ6.1
    have KF6:=hJ6.2.1
    have TC3:=hJ6.2.2.1 _ _ TCd
    rw [← HB3.out,← hV3] at J6 KF6 TC3
    rw [← hV3]
    have hsV3 : s ≤ V3.heap.size:=Nat.le_trans hxk.2.2.2.2 J6.sz
    clear hJ6 hV3 c3b f3b oL ho6 hg6 TCd b4d b3d hTlt hTr J5d
    have c8 : V3.cell? ⟨b8,0,none⟩ = some vA':=by rw [HB8.out];exact J6.st.b8.cell rfl
    have y0 : V3.cell? ⟨Bx,0,none⟩ = some (.int .i64 y.1.i):=TC3.cell rfl
    have y1 : V3.cell? ⟨Bx,1,none⟩ = some (.int .i64 y.1.t):=TC3.cell rfl
    have y2 : V3.cell? ⟨Bx,2,none⟩ = some (.int .i64 y.1.d):=TC3.cell rfl
    have oA3 : Owns V3 s 140 3 spanC vA' La:=by rw [HLA.out];exact J6.st.oA
    refine r_list (by rintro ⟨_,_,h⟩;exact h) (by kernel_rfl) ?_
    go_wp2_with (at_builtin;refine app_one5 spanLay rfl _ _ rfl s vA' La y.1 rfl oA3 (Grows.refl _) _ 1 rfl #[.int .i64 y.1.i,.int .i64 y.1.t,.int .i64 y.1.d] rfl rfl (by omega) hsV3 ?_;intro v7 w7 ho7 hg7 hf7 _;have hJ7:=J6.pushA ho7 hg7 hf7;obtain ⟨g7,p7,rfl⟩:=owns_snoc ho7;have c8b : w7.cell? ⟨b8,0,none⟩ = some vA':=(by rw [HB8.out];exact hJ7.2.2.cell rfl);have f8b : w7.frozen? ⟨b8,0,none⟩ = false:=(by rw [HB8.out];exact hJ7.2.2.froz 0))
    have J7:=hJ7.1
    have E7 : ({ ({ ({ (lbK (bls B) i x (pre.map (fun y => y.1)) vS' vA' vL' u7 u8) with vS:=.slice (some ⟨g5,0,none⟩) (Ls.length + 1) p5,sh:=Ls ++ [true] } : BD) with vL:=.slice (some ⟨g6,0,none⟩) (Ll.length + 1) p6,lab:=Ll ++ [sI[x.d]] } : BD) with vA:=.slice (some ⟨g7,0,none⟩) (La.length + 1) p7,al:=La ++ [y.1] } : BD) =
      lbK (bls B) i x ((pre ++ [y]).map (fun y => y.1)) (.slice (some ⟨g5,0,none⟩) (Ls.length + 1) p5) (.slice (some ⟨g7,0,none⟩) (La.length + 1) p7) (.slice (some ⟨g6,0,none⟩) (Ll.length + 1) p6) u7 u8:=by
     have e1 : Ls ++ [true] = shapeL (bls B) ((nodesA (bls B)).take i) ++ List.replicate ((pre ++ [y]).map (fun y => y.1)).length true:=by
      rw [HLS.out,List.append_assoc,List.map_append,List.length_append]
      show _ ++ (List.replicate _ true ++ [true]) = _ ++ List.replicate (_ + 1) true
      rw [List.replicate_succ']
     have e2 : Ll ++ [sI[x.d]] = labelsL (bls B) ((nodesA (bls B)).take i) ++ ((pre ++ [y]).map (fun y => y.1)).map (labelOf (bls B) x):=by
      rw [HLL.out,List.append_assoc,List.map_append,List.map_append,← hlab];rfl
     have e3 : La ++ [y.1] = bfsAt (rootS (bls B)) (kids (bls B)) (nodesA (bls B)) i ++ (pre ++ [y]).map (fun y => y.1):=by
      rw [HLA.out,List.append_assoc,List.map_append];rfl
     unfold lbK
     simp only [e1,e2,e3]
    rw [E7] at J7
    have KF7:=hJ7.2.1
    rw [← HB8.out] at J7 KF7
    exact ⟨((KF5.trans ((KeepsOthers.drew V2).from _)).trans KF6).trans KF7,h.keepB J7,_,_,_,J7⟩
   case stop =>
    rintro D c pre W _ _ h _
    exact h.elim
   case done =>
    rintro D xs V hD hxs ⟨vS',vA',vL',J⟩ hKD
    rw [hxs] at J
    have MK : Hid (Marks V s (D :: ds)):=⟨fun D' hD' => by
     rcases List.mem_cons.1 hD' with rfl | h
     ·exact ⟨Nat.le_trans hxk.2.2.2.2 hD,hKD⟩
     ·exact J.mks.at_ D' h,List.nodup_cons.2 ⟨fun hin => by have:=(Array.getElem?_eq_some_iff.1 (hMb.at_ D hin).2).1;omega,hMb.nodup⟩⟩
    have hoff:=offA_succ HX.out
    obtain ⟨N2,hN2⟩ : ∃ N,N = offA (bls B) (i + 1):=⟨_,rfl⟩
    obtain ⟨aA',cA',hvA',_,_,hatA'⟩:=J.st.oA.at_ spanLay.len
    dsimp only [lbK] at hvA'
    subst hvA'
    have hlen2 : (bfsAt (rootS (bls B)) (kids (bls B)) (nodesA (bls B)) i ++ kids (bls B) x).length = N2:=by
     rw [List.length_append,hN2,hoff];rfl
    have c8 : V.cell? ⟨b8,0,none⟩ = some (.slice aA' N2 cA'):=by
     rw [HB8.out,← hlen2];exact J.st.b8.cell rfl
    have HN2:=Lib.hid hN2
    by_cases hbig : 524287 < N2
    ·have hbi : (524287 : Int) < N2:=by omega
     clear hatA' hlen2 hN2 hoff
     dsimp only [lbAct]
     go_wp2_with fail
     refine leaves_marks (ds:=D :: ds) (lo:=s) MK.out fun w' hb1 hb2 hb3 => ⟨.tuple #[.pointer none,.int .i64 2],by simp [results,Tryz.results31,go_sem],fun _ => ⟨rfl,grows_marks J.st.gr MK.out HS.out hb1 hb2 hb3⟩,fun hle => ?_⟩
     exfalso
     have h1:=HOK.out.off_le (i + 1)
     have h2:=nodes_count HOK.out.asc HOK.out.len
     have h3:=HN2.out
     omega
    ·have hbi : ¬ (524287 : Int) < N2:=by omega
     have hsV : s ≤ V.heap.size:=Nat.le_trans hxk.2.2.2.2 J.sz
     obtain ⟨Ls,hLs⟩ : ∃ l,l = shapeL (bls B) ((nodesA (bls B)).take i) ++ List.replicate (kids (bls B) x).length true:=⟨_,rfl⟩
     have oS : Owns V s 4 1 boolC vS' Ls:=by rw [hLs];exact J.st.oS
     have hLsl : Ls.length + 1 ≤ 9000000:=by
      have h3:=shapeL_len (bls B) i (by have:=(List.getElem?_eq_some_iff.1 HX.out).1;omega)
      have h5:=HO.out
      rw [hLs,List.length_append,List.length_replicate]
      omega
     have HLS:=Lib.hid hLs
     have c6 : V.cell? ⟨b6,0,none⟩ = some vS':=by rw [HB6.out];exact J.st.b6.cell rfl
     have HLEN2:=Lib.hid hlen2
     have HOFF:=Lib.hid hoff
     clear hatA' hlen2 hN2 hoff hLs
     dsimp only [lbAct]
     go_wp2_with (at_builtin;refine app_one5 boolLay rfl _ _ rfl s vS' Ls false rfl oS (Grows.refl _) _ 1 rfl #[.bool false] rfl rfl (by omega) hsV ?_;intro v5 w5 ho5 hg5 hf5 _;have hJ5:=J.pushS ho5 hg5 hf5;obtain ⟨g5,p5,rfl⟩:=owns_snoc ho5;have c6b : w5.cell? ⟨b6,0,none⟩ = some vS':=(by rw [HB6.out];exact hJ5.2.2.2.cell rfl);have f6b : w5.frozen? ⟨b6,0,none⟩ = false:=(by rw [HB6.out];exact hJ5.2.2.2.froz 0))
     have M6a : Marks w5 s (D :: ds):=MK.out.grown hg5 (MK.out.not_row (RT.own J.st.oS))
     have M6b : Marks (w5.setCell ⟨s + 5,0,none⟩ (.slice (some ⟨g5,0,none⟩) (Ls.length + 1) p5)) s (D :: ds):=M6a.grown (grownBy_setAny _ _ _ _) (M6a.not_row hJ5.2.2.2.rt)
     obtain ⟨V2,hV2⟩ : ∃ V2,V2 = w5.setCell ⟨b6,0,none⟩ (.slice (some ⟨g5,0,none⟩) (Ls.length + 1) p5):=⟨_,rfl⟩
     have J5:=hJ5.1
     rw [← HB6.out,← hV2] at M6b
     have M6 : Hid (Marks V2.drew s (D :: ds)):=⟨fun E hE => M6b.at_ E hE,M6b.nodup⟩
     clear M6a M6b
     rw [← HB6.out,← hV2] at J5
     rw [← hV2]
     clear hJ5 hV2 c6 c6b f6b oS ho5 hg5 hf5 c8
     have hsV2 : s ≤ V2.drew.heap.size:=Nat.le_trans hxk.2.2.2.2 J5.sz
     have J5d:=J5.dr
     have B6:=J5d.st
     have TX6:=J5d.tx
     obtain ⟨Li,hLi⟩ : ∃ l,l = isL (bls B) ((nodesA (bls B)).take i):=⟨_,rfl⟩
     obtain ⟨Ld,hLd⟩ : ∃ l,l = idsL (bls B) ((nodesA (bls B)).take i):=⟨_,rfl⟩
     have oI : Owns V2.drew s 4 1 boolC u7 Li:=by rw [hLi];exact B6.oI
     have hlens : Li.length + 1 ≤ 9000000∧Ld.length + 1 ≤ 9000000:=by
      have h1:=(List.getElem?_eq_some_iff.1 HX.out).1
      rw [hLi,hLd]
      unfold isL idsL
      rw [List.length_map,List.length_map]
      have h2:=List.length_filter_le (here (bls B)) ((nodesA (bls B)).take i)
      have h3 : ((nodesA (bls B)).take i).length ≤ i:=by rw [List.length_take];omega
      omega
     have HLI:=Lib.hid hLi
     have HLD:=Lib.hid hLd
     have q0:=TX6.cell (o:=0) (v:=.int .i64 x.i) rfl
     have q1:=TX6.cell (o:=1) (v:=.int .i64 x.t) rfl
     have q2:=TX6.cell (o:=2) (v:=.int .i64 x.d) rfl
     have qs:=B6.b1.cell (o:=0) (v:=.slice a B.length c) rfl
     have z0 : ∀ y : Ext Grows V2.drew,y.u.cell? ⟨xb,0,none⟩ = some (.int .i64 x.i):=ext_cell q0
     have z1 : ∀ y : Ext Grows V2.drew,y.u.cell? ⟨xb,1,none⟩ = some (.int .i64 x.t):=ext_cell q1
     have z2 : ∀ y : Ext Grows V2.drew,y.u.cell? ⟨xb,2,none⟩ = some (.int .i64 x.d):=ext_cell q2
     have zs : ∀ y : Ext Grows V2.drew,y.u.cell? ⟨s,0,none⟩ = some (.slice a B.length c):=ext_cell qs
     clear hLi hLd q0 q1 q2 qs
     by_cases hx1 : x.i < x.t
     case neg =>
      have hx1i : ¬ (x.i : Int) < x.t:=by omega
      have HH : Hid (here (bls B) x = false):=by
       show _ = _
       unfold here
       simp [hx1]
      refine wp_onlyM ?_
      refine t_region (Grows) [(0,false),(1,false),(2,false),(3,false),(4,false),(5,false),(6,false),(7,false),(8,false),(9,false),(10,false),(11,false),(12,false),(13,false),(14,false),(15,false),(16,false)] Grows.refl Grows.trans (by kernel_rfl) (by kernel_rfl) (fun d _ _ _ _ h => by cases d <;> exact h) ?_
      iterate 17 (refine t_quiet rfl (fun K hK => ?_);go_simp;refine hK _ ?_;clear hK K)
      refine t_end ?_
      simp only [onlyM_normal]
      clear z0 z1 z2 zs
      go_wp2_with (at_builtin;refine app_one5 boolLay rfl _ _ rfl s u7 Li false rfl oI (Grows.refl _) _ 1 rfl #[.bool false] rfl rfl (by omega) hsV2 ?_;intro v7 w7 ho7 hg7 hf7 _;have hB7:=B6.pushI ho7 hg7 hf7;have TX7:=TX6.keep hg7 (RT.own oI) (by decide);have M7:=Lib.hid (M6.out.grown hg7 (M6.out.not_row (RT.own oI))))
      have BB:=lbD_false HOK.out HX.out HH.out vS' u7 (.slice (some ⟨g5,0,none⟩) (Ls.length + 1) p5) (.slice aA' (bfsAt (rootS (bls B)) (kids (bls B)) (nodesA (bls B)) i ++ kids (bls B) x).length cA') vL' v7 u8
      rw [← HLS.out,← HLI.out] at BB
      have hB10:=Eq.mp (congrArg (Bst w w7 s B.length _) BB) hB7
      exact hK (D :: ds) ⟨_,_,_,_,_,_,_,_,_,_,_,_,_,_,_,_,_,_,_,_,_,_,_,_,_,_,_,_,_,_,_,_,_,_,_,_,_,_,_,_,_,_,_,_,_,_,_,_,_,_,_,_,_,_,_,_,_,_,_,_,_,_,_,_,_,_,_,_,_,_,_,_,_,_,_,_,_,_,_,_,_,_,_,_,_⟩ _ ⟨by go_num,by omega,M7.out,⟨_,_,_,hB10⟩,by have:=HN2.out;omega⟩
     case pos =>
      have hxB : x.i < B.length:=by have:=hgx.le;rw [bls_len] at this;omega
      have hx1i : (x.i : Int) < x.t:=by omega
      have hxBi : (x.i : Int) < B.length:=by omega
      obtain ⟨sX,hsX⟩ : ∃ s,B[x.i]? = some s:=⟨_,List.getElem?_eq_getElem hxB⟩
      obtain ⟨sb,so,rfl,hcs⟩:=at1 (f:=fun s : ByteArray => Value.string s) (HAT.out.grows B6.gr) (List.ne_nil_of_mem (List.mem_of_getElem? hsX))
      have zS : ∀ y : Ext Grows V2.drew,y.u.cell? ⟨sb,so + x.i,none⟩ = some (.string sX):=ext_cell (hcs _ _ hsX)
      by_cases hh : sX.size = x.d
      case neg =>
       have hhi : ((sX.size : Int) == x.d) = false:=by rw [beq_eq_false_iff_ne];omega
       have HH : Hid (here (bls B) x = false):=by
        show _ = _
        unfold here
        rw [nth_bls hsX,bl_len]
        simp [hh]
       clear hh hsX hcs
       refine wp_onlyM ?_
       refine t_region (Grows) [(0,false),(1,false),(2,false),(3,false),(4,false),(5,false),(6,false),(7,false),(8,false),(9,false),(10,false),(11,false),(12,false),(13,false),(14,false),(15,false),(16,false)] Grows.refl Grows.trans (by kernel_rfl) (by kernel_rfl) (fun d _ _ _ _ h => by cases d <;> exact h) ?_
       iterate 17 (refine t_quiet rfl (fun K hK => ?_);go_simp;refine hK _ ?_;clear hK K)
       refine t_end ?_
       simp only [onlyM_normal]
       clear z0 z1 z2 zs zS
       go_wp2_with (at_builtin;refine app_one5 boolLay rfl _ _ rfl s u7 Li false rfl oI (Grows.refl _) _ 1 rfl #[.bool false] rfl rfl (by omega) hsV2 ?_;intro v7 w7 ho7 hg7 hf7 _;have hB7:=B6.pushI ho7 hg7 hf7;have TX7:=TX6.keep hg7 (RT.own oI) (by decide);have M7:=Lib.hid (M6.out.grown hg7 (M6.out.not_row (RT.own oI))))
       have BB:=lbD_false HOK.out HX.out HH.out vS' u7 (.slice (some ⟨g5,0,none⟩) (Ls.length + 1) p5) (.slice aA' (bfsAt (rootS (bls B)) (kids (bls B)) (nodesA (bls B)) i ++ kids (bls B) x).length cA') vL' v7 u8
       rw [← HLS.out,← HLI.out] at BB
       have hB10:=Eq.mp (congrArg (Bst w w7 s B.length _) BB) hB7
       exact hK (D :: ds) ⟨_,_,_,_,_,_,_,_,_,_,_,_,_,_,_,_,_,_,_,_,_,_,_,_,_,_,_,_,_,_,_,_,_,_,_,_,_,_,_,_,_,_,_,_,_,_,_,_,_,_,_,_,_,_,_,_,_,_,_,_,_,_,_,_,_,_,_,_,_,_,_,_,_,_,_,_,_,_,_,_,_,_,_,_,_⟩ _ ⟨by go_num,by omega,M7.out,⟨_,_,_,hB10⟩,by have:=HN2.out;omega⟩
      case pos =>
       have hhi : ((sX.size : Int) == x.d) = true:=by rw [hh];simp
       have HH : Hid (here (bls B) x = true):=by
        show _ = _
        unfold here
        rw [nth_bls hsX,bl_len]
        simp [hh,hx1]
       clear hh hsX hcs
       refine wp_onlyM ?_
       refine t_region (Grows) [(0,false),(1,false),(2,false),(3,false),(4,false),(5,false),(6,false),(7,false),(8,false),(9,false),(10,false),(11,false),(12,false),(13,false),(14,false),(15,false),(16,false)] Grows.refl Grows.trans (by kernel_rfl) (by kernel_rfl) (fun d _ _ _ _ h => by cases d <;> exact h) ?_
       iterate 17 (refine t_quiet rfl (fun K hK => ?_);go_simp;refine hK _ ?_;clear hK K)
       refine t_end ?_
       simp only [onlyM_normal]
       clear z0 z1 z2 zs zS
       go_wp2_with (at_builtin;refine app_one5 boolLay rfl _ _ rfl s u7 Li true rfl oI (Grows.refl _) _ 1 rfl #[.bool true] rfl rfl (by omega) hsV2 ?_;intro v7 w7 ho7 hg7 hf7 _;have hB7:=B6.pushI ho7 hg7 hf7;have TX7:=TX6.keep hg7 (RT.own oI) (by decide);have M7:=Lib.hid (M6.out.grown hg7 (M6.out.not_row (RT.own oI))))
       have oN:=hB7.oN
       have hndl : (ndTo (bls B) i).length = B.length:=by rw [ndTo_len,bls_len]
       have hx1l : x.i < (ndTo (bls B) i).length:=by rw [hndl];omega
       obtain ⟨ov,hov⟩ : ∃ o,(ndTo (bls B) i)[x.i]? = some o:=⟨_,List.getElem?_eq_getElem hx1l⟩
       have cN : w7.cell? ⟨b2,x.i,none⟩ = some (.int .i64 ov):=by rw [HB2.out];exact own_cell1 (f:=fun n : Nat => Value.int .i64 n) oN hov
       have hSN:=hB7.setN hx1l i
       have fN : w7.frozen? ⟨b2,x.i,none⟩ = false:=by rw [HB2.out];exact hSN.1
       have z4 : ∀ y : Ext Grows w7.drew,y.u.cell? ⟨b4,0,none⟩ = some (.pointer (some ⟨b3,0,none⟩)):=ext_cell (by rw [HB4.out,HB3.out];exact hB7.dr.b4.cell rfl)
       have z3 : ∀ y : Ext Grows w7.drew,y.u.cell? ⟨b3,4,none⟩ = some (.slice (some ⟨b2,0,none⟩) B.length B.length):=ext_cell (by rw [HB3.out,HB2.out];exact hB7.dr.b2.cell rfl)
       have zx : ∀ y : Ext Grows w7.drew,y.u.cell? ⟨xb,0,none⟩ = some (.int .i64 x.i):=ext_cell ((Grows.drew w7).cell (TX7.cell rfl))
       clear oN hov hndl
       refine wp_onlyM ?_
       refine t_tail (Grows) 8 [(0,false),(1,false),(2,false),(3,false),(4,false),(5,false),(6,false),(7,false)] Grows.refl Grows.trans (by kernel_rfl) (by kernel_rfl) (fun d _ _ _ _ h => by cases d <;> exact h) ?_
       iterate 8 (refine t_quiet rfl (fun K hK => ?_);go_simp;refine hK _ ?_;clear hK K)
       refine t_end ?_
       clear z4 z3 zx
       simp only [List.drop_succ_cons,List.drop_zero]
       go_wp2_with fail
       simp only [onlyM_normal]
       obtain ⟨V8,hV8⟩ : ∃ V8,V8 = (w7.setCell ⟨b2,x.i,none⟩ (.int .i64 i)).drew:=⟨_,rfl⟩
       have B8:=hSN.2.dr
       rw [← HB2.out,← hV8] at B8
       have M8 : Hid (Marks V8 s (D :: ds)):=by
        have m2:=M7.out.grown (grownBy_setAny w7 (s + 1) x.i (.int .i64 i)) (M7.out.not_row (RT.own hB7.oN))
        rw [hV8,HB2.out]
        exact ⟨fun E hE => m2.at_ E hE,m2.nodup⟩
       have cx8 : V8.cell? ⟨xb,0,none⟩ = some (.int .i64 x.i):=by
        rw [hV8,HB2.out]
        exact (TX7.keep (grownBy_setAny w7 (s + 1) x.i (.int .i64 i)) (RT.own hB7.oN) (by decide)).cell rfl
       have wx8 : IntKind.u64.wrap (x.i : Int) = x.i:=by simp [IntKind.wrap,IntKind.bits,IntKind.signed];omega
       rw [← hV8]
       have hs8 : s ≤ V8.heap.size:=by rw [HS.out];exact B8.gr.size
       have oD : Owns V8 s 116 1 n64C u8 Ld:=by rw [HLD.out];exact B8.oD
       clear hSN hV8 cN fN
       go_wp2_with (at_builtin;refine app_one5 n64Lay rfl _ _ rfl s u8 Ld x.i rfl oD (Grows.refl _) _ 1 rfl #[.int .u64 x.i] rfl rfl (by omega) hs8 ?_;intro v9 w9 ho9 hg9 hf9 _;have hB9:=B8.pushD ho9 hg9;have M9:=Lib.hid (M8.out.grown hg9 (M8.out.not_row (RT.own oD))))
       have BB:=lbD_true HOK.out HX.out HH.out vS' u7 u8 (.slice (some ⟨g5,0,none⟩) (Ls.length + 1) p5) (.slice aA' (bfsAt (rootS (bls B)) (kids (bls B)) (nodesA (bls B)) i ++ kids (bls B) x).length cA') vL' v7 v9
       rw [← HLS.out,← HLI.out,← HLD.out] at BB
       have hB10:=Eq.mp (congrArg (Bst w w9 s B.length _) BB) hB9
       exact hK (D :: ds) ⟨_,_,_,_,_,_,_,_,_,_,_,_,_,_,_,_,_,_,_,_,_,_,_,_,_,_,_,_,_,_,_,_,_,_,_,_,_,_,_,_,_,_,_,_,_,_,_,_,_,_,_,_,_,_,_,_,_,_,_,_,_,_,_,_,_,_,_,_,_,_,_,_,_,_,_,_,_,_,_,_,_,_,_,_,_⟩ _ ⟨by go_num,by omega,M9.out,⟨_,_,_,hB10⟩,by have:=HN2.out;omega⟩
end Go.Proofs.YtepoiefadjoabaaGreatDoor
