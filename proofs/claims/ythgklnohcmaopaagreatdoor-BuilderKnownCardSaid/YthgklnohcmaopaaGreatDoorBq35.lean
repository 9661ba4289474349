/- The texts Lb2 Lb5 Bcol Pps MkPos, one behind the other. -/
import Derived.Test.YthgklnohcmaopaaGreatDoorBq33
import Derived.Test.YthgklnohcmaopaaGreatDoorBq32
import Derived.Test.YthgklnohcmaopaaGreatDoorBq19
import Derived.Test.YthgklnohcmaopaaGreatDoorBq3
import Derived.Test.YthgklnohcmaopaaGreatDoorBq21
import Derived.Test.YthgklnohcmaopaaGreatDoorShelf
import Derived.Test.YthgklnohcmaopaaGreatDoorBq15
import Derived.Test.YthgklnohcmaopaaGreatDoorBq10
import Derived.Lib.IndexMore
import Derived.Shelf.Strings.Split
import Derived.Shelf.Strings.Cut
import Derived.Test.YthgklnohcmaopaaGreatDoorBq2
open Go.Lib renaming hid → Aa,toList_data → Bh,splitB_all → Bk,idxFromS → Bq,countB → Bt
open List renaming getElem?_eq_getElem → Ab,replicate → Ac,mem_of_getElem? → Ag,ne_nil_of_mem → Ah,length_append → Ai,length_map → Aj,map_append → Ak,drop_eq_getElem_cons → Am,append_assoc → Ao,getElem?_map → Ap,length_cons → Aq,getElem?_replicate → At,length_replicate → Au,append_toArray → Ay,drop_succ_cons → Az,size_toArray → Bb,push_toArray → Bc,cons_append → Be,length_nil → Bf,nil_append → Bg,drop_zero → Bj
open Nat renaming le_refl → Ad,le_trans → Af,lt_of_lt_of_le → Al,zero_le → An,reduceAdd → Bn,reduceSub → Bo,lt_or_ge → Bp,zero_add → Br
open Go.World renaming grownBy_alloc → Ae,size_alloc → Ar,putObj_heap_other → As
open Array renaming replicate_succ → Av,replicate_zero → Aw,getElem?_range → Ax,getElem?_map → Ba
open Int renaming toNat_natCast → Bd,le_refl → Bs
open Option renaming map_some → Bi
set_option maxHeartbeats 4000000
namespace Go.Proofs.YthgklnohcmaopaaGreatDoor
set_option maxRecDepth 100000
section
open Go Go.RowKit Go.Shelf
attribute [local go_sem] aM aO Oper.semAt_some
theorem sG0 (x:cY) (a:Option Addr) (m c:Nat) (w:World) :
  Calls Tryz.prog 118 #[bD0 x,.slice a m c] w λe w'=>e=.returned (.func (.func 182) #[] #[.pointer (some ⟨w.heap.size,0,none⟩),.pointer (some ⟨w.heap.size+1,0,none⟩)]) /\
   w'=(w.alloc (.cells #[.int .i64 x.i,.int .i64 x.t,.int .i64 x.d] 208)).alloc (.cells #[.slice a m c] 65):=by
 unfold bD0;have hmf:∀(fn:Fn) (first cap:Array Value) (w:World),(Instr.makeFunc fn first cap).run Tryz.prog w=.ok (.func fn first cap) w:=λ_ _ _ _=>rfl
 go_enter Tryz.func118,Tryz.ntmps118
 go_wp2_with fail
 go_ret;exact⟨rfl,rfl⟩
def lbD (L:List (List UInt8)) (i:Nat) (vS vA vL vI vD:Value) (nd:List Nat):BD :=
 { vS:=vS,vA:=vA,vL:=vL,vI:=vI,vD:=vD,sh:=shapeL L ((nodesA L).take i),al:=dH (rootS L) (eC L) (nodesA L) i,lab:=labelsL L ((nodesA L).take i),isl:=isL L ((nodesA L).take i),idl:=idsL L ((nodesA L).take i),nd:=nd }
def lbK (L:List (List UInt8)) (i:Nat) (x:cY) (ys:List cY) (vS vA vL vI vD:Value):BD :=
 { vS:=vS,vA:=vA,vL:=vL,vI:=vI,vD:=vD,sh:=shapeL L ((nodesA L).take i)++Ac ys.length true,al:=dH (rootS L) (eC L) (nodesA L) i++ys,lab:=labelsL L ((nodesA L).take i)++ys.map (lH L x),isl:=isL L ((nodesA L).take i),idl:=idsL L ((nodesA L).take i),nd:=pE L i }
structure LbU where
 (u7 u8 u10 u11 u12 u13 u29 u30 u31 u32 u33 u34 u35 u36 u37 u38 u39 u40 u41 u42 u43 u44 u45 u46 u47 u48 u49 u50 u51 u52 u53 u54 u55 u56 u57 u58 u59 u60 u61 u62 u63 u64 u65 u66 u67 u68 u69 u70 u71 u72 u73 u74 u75 u76 u77 u78 u79 u80 u81 u82 u83 u84 u85 u86 u87 u88 u89 u90 u91 u92 u93 u94 u95 u96 u97 u98 u99 u100 u101 u102 u103 u104 u105 u106 u107:Value)
def sS (B:List ByteArray) (a:Option Addr) (c s b2 b3 b4 b5 b6 b7 b8:Nat) (ds:List Nat) (U:LbU):Act :=
 { tmps:=#[.slice a B.length c,.pointer (some ⟨s,0,none⟩),.pointer none,.int .i64 0,.int .i64 0,.pointer (some ⟨b4,0,none⟩),.pointer (some ⟨b6,0,none⟩),U.u7,U.u8,.pointer (some ⟨b8,0,none⟩),U.u10,U.u11,U.u12,U.u13,.slice a B.length c,.int .i64 0,.int .i64 0,.bool false,undef,.slice a B.length c,.int .i64 B.length,.slice (some ⟨b2,0,none⟩) B.length B.length,.agg #[.pointer none,.pointer none,.slice none 0 0,.pointer none,.slice (some ⟨b2,0,none⟩) B.length B.length],.pointer (some ⟨b3,0,none⟩),.slice (some ⟨b5,0,none⟩) 2 2,.slice a B.length c,.int .i64 B.length,.agg #[.int .i64 0,.int .i64 B.length,.int .i64 0],.slice (some ⟨b7,0,none⟩) 1 1,U.u29,U.u30,U.u31,U.u32,U.u33,U.u34,U.u35,U.u36,U.u37,U.u38,U.u39,U.u40,U.u41,U.u42,U.u43,U.u44,U.u45,U.u46,U.u47,U.u48,U.u49,U.u50,U.u51,U.u52,U.u53,U.u54,U.u55,U.u56,U.u57,U.u58,U.u59,U.u60,U.u61,U.u62,U.u63,U.u64,U.u65,U.u66,U.u67,U.u68,U.u69,U.u70,U.u71,U.u72,U.u73,U.u74,U.u75,U.u76,U.u77,U.u78,U.u79,U.u80,U.u81,U.u82,U.u83,U.u84,U.u85,U.u86,U.u87,U.u88,U.u89,U.u90,U.u91,U.u92,U.u93,U.u94,U.u95,U.u96,U.u97,U.u98,U.u99,U.u100,U.u101,U.u102,U.u103,U.u104,U.u105,U.u106,U.u107,undef,undef,undef,undef,undef,undef,undef,undef,undef,undef,undef,undef,undef,undef,undef,undef,undef,undef,undef,undef,undef,undef,undef,undef,undef],defers:=nJ0 ds }
theorem bT0 {L:List (List UInt8)} {i:Nat} {x:cY} (au:OkL L) (hx:(nodesA L)[i]?=some x) (hh:gE L x=false) (vS0 vI0 vS vA vL vI vD:Value) :
  ({ ({ (lbK L i x (eC L x) vS0 vA vL vI0 vD) with vS:=vS,sh:=(shapeL L ((nodesA L).take i)++Ac (eC L x).length true)++[false] }:BD) with vI:=vI,isl:=isL L ((nodesA L).take i)++[false] }:BD)=lbD L (i+1) vS vA vL vI vD (pE L (i+1)):=by
 have e:=bM hx;unfold lbK lbD;rw[e,kH,gK0,qN,cL0,mQ hx,au.ndTo_succ hx,if_neg (by rw[hh];decide),if_neg (by rw[hh];decide),hh,List.append_nil]
theorem qT0 {L:List (List UInt8)} {i:Nat} {x:cY} (au:OkL L) (hx:(nodesA L)[i]?=some x) (hh:gE L x=true) (vS0 vI0 vD0 vS vA vL vI vD:Value) :
  ({ ({ ({ ({ (lbK L i x (eC L x) vS0 vA vL vI0 vD0) with vS:=vS,sh:=(shapeL L ((nodesA L).take i)++Ac (eC L x).length true)++[false] }:BD) with vI:=vI,isl:=isL L ((nodesA L).take i)++[true] }:BD) with nd:=(pE L i).set x.i i }:BD) with vD:=vD,idl:=idsL L ((nodesA L).take i)++[x.i] }:BD)=lbD L (i+1) vS vA vL vI vD (pE L (i+1)):=by
 have e:=bM hx;unfold lbK lbD;rw[e,kH,gK0,qN,cL0,mQ hx,au.ndTo_succ hx,if_pos hh,if_pos hh,hh]
structure yU0 (B:List ByteArray) (a:Option Addr) (c:Nat) (w:World) (s i:Nat) (ds:List Nat) (U:LbU) (wr:World):Prop where
 u10:U.u10=.int .i64 i
 le:i<=524287
 marks:iU wr s ds
 st:∃vS vA vL,Bst w wr s B.length (.slice a B.length c) (lbD (bls B) i vS vA vL U.u7 U.u8 (pE (bls B) i))
 off:fP (bls B) i<=524287
theorem vG0 {B:List ByteArray} {a:Option Addr} {c:Nat} {w:World} {s b2 b3 b4 b5 b6 b7 b8:Nat} {P:Program} {code:Code} {Q:Exit->Act->World->Prop} {ds:List Nat} {U:LbU} {w0:World} (h0:yU0 B a c w s 0 ds U w0)
  (round:∀(i:Nat) (ds:List Nat) (U:LbU) (wr:World),yU0 B a c w s i ds U wr->∀K:Act->World->Prop,(∀ds' U' w',yU0 B a c w s (i+1) ds' U' w'->K (sS B a c s b2 b3 b4 b5 b6 b7 b8 ds' U') w')->code.wp P (Exit.then K Q) (sS B a c s b2 b3 b4 b5 b6 b7 b8 ds U) wr) :
  (Code.loop code).wp P Q (sS B a c s b2 b3 b4 b5 b6 b7 b8 ds U) w0:=by
 refine wp_loop (λa' wr=>∃i ds U,a'=sS B a c s b2 b3 b4 b5 b6 b7 b8 ds U/\yU0 B a c w s i ds U wr) (λa' _=>600000-(intOf (a'.tmps.getD 10 undef)).toNat) ⟨0,ds,U,rfl,h0⟩ ?_;rintro a' wr ⟨i,ds,U,rfl,h⟩;refine round i ds U wr h _ (λds' U' w' h'=>⟨⟨i+1,ds',U',rfl,h'⟩,?_⟩);have e1:(sS B a c s b2 b3 b4 b5 b6 b7 b8 ds U).tmps.getD 10 undef=U.u10:=rfl;have e2:(sS B a c s b2 b3 b4 b5 b6 b7 b8 ds' U').tmps.getD 10 undef=U'.u10:=rfl;rw[e1,e2,h.u10,h'.u10]
 have:=h.le
 simp[intOf];omega
theorem oW0 (B:List ByteArray) (a:Option Addr) (c:Nat) (w:World) (fw:cT0 (bls B)=0) (ha:∀q,a=some q->q.block<w.heap.size) (hB_:B.length<=20000) (cz:∀s∈B,s.size<=256) (au:OkL (bls B)) (ac:aF w a 1 (B.map stC)) :
  Calls Tryz.prog 50 #[.slice a B.length c] w λe w' =>
   (524287<fG (bls B)->e=.returned (.tuple #[.pointer none,.int .i64 2])/\aB w w') /\
   (fG (bls B)<=524287->e=.returned (.tuple #[.pointer (some ⟨w.heap.size+2,0,none⟩),.int .i64 0])/\jB w' (w.heap.size+2) (bls B)/\aB w w'):=by
 have CK:Hid (∀u,aB w u->Calls Tryz.prog 117 #[.slice a B.length c] u λe w'=>e=.returned (.int .i64 0)/\u=w'):=λu hg=>by
  have h:=gV0 B a c u (by omega) (λs hs=>by have:=cz s hs;omega) (ac.grows hg);rw[fw]at h;exact h
 have HAT:=Aa ac;have HA:=Aa ha;have HSZ:=Aa cz;have HOK:=Aa au;clear ac ha cz au fw;refine(callsIn_wide (n:=12)).1 (callsIn_of_wp_marks Tryz.func50 rfl trivial (wpIn_wide.2 ?_));simp only[Tryz.ntmps50,Bb,Aq,Bf,Bn,Bo,Av,Aw,Bc,Ay,Bg,Be];have iw:=λ(Y:World)=>rU0 B.length Y (by omega);go_wp2_with (go_at_call 117;refine(CK.out _ (aB.alloc _ _)).mono ?_;rintro e w2 ⟨rfl,rfl⟩)
 clear CK iw;obtain⟨s,hs⟩:=exq w.heap.size;obtain⟨b2,ee⟩:=exq (w.heap.size+1);obtain⟨b3,jf⟩:=exq (w.heap.size+1+1);obtain⟨b4,rh⟩:=exq (w.heap.size+1+1+1);obtain⟨b5,hb5⟩:=exq (w.heap.size+1+1+1+1);obtain⟨b6,hb6⟩:=exq (w.heap.size+1+1+1+1+1);obtain⟨b7,hb7⟩:=exq (w.heap.size+1+1+1+1+1+1);obtain⟨b8,hb8⟩:=exq (w.heap.size+1+1+1+1+1+1+1);rw[<-hb8,<-hb7,<-hb6,<-hb5,<-rh,<-jf,<-ee,<-hs]
 have BST:Hid (∃vS vA,Bst w ((((((((w.alloc (.cells #[.slice a B.length c] 65)).alloc (.cells (madeCells #[.int .i64 0] B.length) 3)).alloc (.cells #[.pointer none,.pointer none,.slice none 0 0,.pointer none,.slice (some ⟨b2,0,none⟩) B.length B.length] 204)).alloc
   (.cells #[.pointer (some ⟨b3,0,none⟩)] 100)).alloc (.cells #[.bool true,.bool false] 4)).alloc (.cells #[.slice (some ⟨b5,0,none⟩) 2 2] 205)).alloc (.cells #[.int .i64 0,.int .i64 B.length,.int .i64 0] 208)).alloc (.cells #[.slice (some ⟨b7,0,none⟩) 1 1] 209))
   s B.length (.slice a B.length c) (lbD (bls B) 0 vS vA (.slice none 0 0) (.slice none 0 0) (.slice none 0 0) (pE (bls B) 0))):=by
  have h:=lX0 w B.length (.slice a B.length c) hB_ (b2:=b2) (b3:=b3) (b5:=b5) (b7:=b7) (by omega) (by omega) (by omega) (by omega);rw[<-hs]at h;refine⟨.slice (some ⟨b5,0,none⟩) 2 2,.slice (some ⟨b7,0,none⟩) 1 1,?_⟩
  have e:lbD (bls B) 0 (.slice (some ⟨b5,0,none⟩) 2 2) (.slice (some ⟨b7,0,none⟩) 1 1) (.slice none 0 0) (.slice none 0 0) (.slice none 0 0) (pE (bls B) 0) =
    { vS:=.slice (some ⟨b5,0,none⟩) 2 2,vA:=.slice (some ⟨b7,0,none⟩) 1 1,vL:=.slice none 0 0,vI:=.slice none 0 0,vD:=.slice none 0 0,sh:=[true,false],al:=[⟨0,B.length,0⟩],lab:=[],isl:=[],idl:=[],nd:=Ac B.length 0 }:=by
   unfold lbD;rw[mQ0,fT]
   have e2:dH (rootS (bls B)) (eC (bls B)) (nodesA (bls B)) 0=[⟨0,B.length,0⟩]:=by
    unfold dH rootS;rw[fT];rfl
   rw[e2];rfl
  rw[e];exact h
 generalize ((((((((w.alloc (.cells #[.slice a B.length c] 65)).alloc (.cells (madeCells #[.int .i64 0] B.length) 3)).alloc (.cells #[.pointer none,.pointer none,.slice none 0 0,.pointer none,.slice (some ⟨b2,0,none⟩) B.length B.length] 204)).alloc
   (.cells #[.pointer (some ⟨b3,0,none⟩)] 100)).alloc (.cells #[.bool true,.bool false] 4)).alloc (.cells #[.slice (some ⟨b5,0,none⟩) 2 2] 205)).alloc (.cells #[.int .i64 0,.int .i64 B.length,.int .i64 0] 208)).alloc (.cells #[.slice (some ⟨b7,0,none⟩) 1 1] 209))=W0 at BST ⊢
 have HS:=Aa hs;have HB2:Hid (b2=s+1):=by rw[hs];exact ee
 have HB3:Hid (b3=s+2):=by rw[hs];exact jf
 have HB4:Hid (b4=s+3):=by rw[hs];exact rh
 have HB6:Hid (b6=s+5):=by rw[hs];exact hb6
 have HB8:Hid (b8=s+7):=by rw[hs];exact hb8
 clear hs ee jf rh hb5 hb6 hb7 hb8;refine vG0 (w:=w) (ds:=[]) (U:={ u7:=.slice none 0 0,u8:=.slice none 0 0,u10:=.int .i64 0,u11:=undef,u12:=undef,u13:=undef,u29:=undef,u30:=undef,u31:=undef,u32:=undef,u33:=undef,u34:=undef,u35:=undef,u36:=undef,u37:=undef,u38:=undef,u39:=undef,u40:=undef,u41:=undef,u42:=undef,u43:=undef,u44:=undef,u45:=undef,u46:=undef,u47:=undef,u48:=undef,u49:=undef,u50:=undef,u51:=undef,u52:=undef,u53:=undef,u54:=undef,u55:=undef,u56:=undef,u57:=undef,u58:=undef,u59:=undef,u60:=undef,u61:=undef,u62:=undef,u63:=undef,u64:=undef,u65:=undef,u66:=undef,u67:=undef,u68:=undef,u69:=undef,u70:=undef,u71:=undef,u72:=undef,u73:=undef,u74:=undef,u75:=undef,u76:=undef,u77:=undef,u78:=undef,u79:=undef,u80:=undef,u81:=undef,u82:=undef,u83:=undef,u84:=undef,u85:=undef,u86:=undef,u87:=undef,u88:=undef,u89:=undef,u90:=undef,u91:=undef,u92:=undef,u93:=undef,u94:=undef,u95:=undef,u96:=undef,u97:=undef,u98:=undef,u99:=undef,u100:=undef,u101:=undef,u102:=undef,u103:=undef,u104:=undef,u105:=undef,u106:=undef,u107:=undef }) ?start ?round
 case start =>
  obtain⟨vS,vA,h⟩:=BST.out;exact⟨rfl,An _,iU.nil _ _,⟨vS,vA,_,h⟩,by rw[uE];omega⟩
 case round =>
  rintro i ds ⟨u7,u8,u10,u11,u12,u13,u29,u30,u31,u32,u33,u34,u35,u36,u37,u38,u39,u40,u41,u42,u43,u44,u45,u46,u47,u48,u49,u50,u51,u52,u53,u54,u55,u56,u57,u58,u59,u60,u61,u62,u63,u64,u65,u66,u67,u68,u69,u70,u71,u72,u73,u74,u75,u76,u77,u78,u79,u80,u81,u82,u83,u84,u85,u86,u87,u88,u89,u90,u91,u92,u93,u94,u95,u96,u97,u98,u99,u100,u101,u102,u103,u104,u105,u106,u107⟩ wr ⟨hu,hi,hM,hB,hO⟩ K hK;simp only at hu;subst hu;dsimp only[sS]
  dsimp only at hB
  have HM:=Aa hM;have HO:=Aa hO;obtain⟨vS,vA,vL,hB⟩:=hB;obtain⟨aA,cA,hvA,_,_,aak⟩:=hB.oA.at_ eY0.len;simp only[lbD]at hvA;subst hvA;have ak:(dH (rootS (bls B)) (eC (bls B)) (nodesA (bls B)) i).length=fP (bls B) i:=rfl;obtain⟨N1,hN1⟩:=exq (fP (bls B) i);have c8:=hB.b8.cell (o:=0) rfl;simp only[lbD]at c8;rw[ak,<-hN1,<-HB8.out]at c8;have HBST:=Aa hB;have HN1:=Aa hN1;by_cases ae:i<N1
  case neg =>
   have el:¬(i:Int)<N1:=by omega
   have hNi:(nodesA (bls B)).length<=i:=by
    rcases Bp i (nodesA (bls B)).length with h|h
    ·have:=HOK.out.off_gt h;omega
    ·exact h
   have htk:(nodesA (bls B)).take i=nodesA (bls B):=List.take_of_length_le hNi
   have ww:fP (bls B) i=(nodesA (bls B)).length:=by
    unfold fP dH;rw[htk,<-HOK.out.fix]
   have ae4:fG (bls B)<=524287:=by
    rw[<-fW HOK.out.asc HOK.out.len,<-ww];exact hO
   obtain⟨z1,z2,z3,z4,z5⟩:=HOK.out.sizes (by rw[fT];exact hB_) ae4;obtain⟨aS,cS,hvS,_,_,th⟩:=hB.oS.at_ (enc:=mT) (λ_=>rfl);obtain⟨aI,cI,hvI,_,_,aal⟩:=hB.oI.at_ (enc:=mT) (λ_=>rfl);obtain⟨aD,cD,hvD,_,_,aam⟩:=hB.oD.at_ (enc:=gT) (λ_=>rfl);simp only[lbD,htk]at hvS hvI hvD th aal aam;obtain⟨SH,hSH⟩:=exq (shapeL (bls B) (nodesA (bls B)));obtain⟨IS,hIS⟩:=exq (isL (bls B) (nodesA (bls B)));obtain⟨ID,hID⟩:=exq (idsL (bls B) (nodesA (bls B)));rw[<-hSH]at z1 th hvS;rw[<-hIS]at z2 aal hvI;rw[<-hID]at z4 z5 aam hvD
   have EE:Hid (LbE w wr s #[.pointer none,.pointer none,vL,.pointer none,.slice (some ⟨s+1,0,none⟩) B.length B.length] vL (.slice (some ⟨s+1,0,none⟩) B.length B.length) u7 u8 (labelsL (bls B) (nodesA (bls B))) (gK (bls B)) IS ID ds):=by
    have h2:=hB;unfold lbD at h2;rw[htk,HOK.out.ndTo_all hNi]at h2;rw[hIS,hID];exact⟨h2.b4,h2.b2,h2.oL,h2.oN,h2.oI,h2.oD,hM,h2.gr⟩
   have c6:wr.cell? ⟨b6,0,none⟩=some vS:=by rw[HB6.out];exact hB.b6.cell rfl
   have acb:b6<wr.heap.size:=by rw[HB6.out];exact hB.b6.lt
   subst hvS;subst hvI;subst hvD;have hss:w.heap.size<=s:=by rw[HS.out];exact Ad _
   have HSH:=Aa hSH;have HIS:=Aa hIS;have HID:=Aa hID;have HZ5:=Aa z5;clear aak hM hO ak hNi htk ww z3 z5 hSH hIS hID aal aam hN1 ae hB;go_wp2_with fail
   have p8:=EE.out.b4.gr (aB.drew wr);obtain⟨T,hT⟩:∃T:Nat->Prop,T=λb=>b=b4\/b=b6:=⟨_,rfl⟩
   have fp:∀b,T b->b<wr.drew.heap.size:=λb hb=>by
    rw[hT]at hb;rcases hb with rfl|rfl
    ·rw[HB4.out];exact p8.lt
    ·exact acb
   have wy:¬T b3:=λh=>by
    rw[hT]at h;have e3:=HB3.out;have e4:=HB4.out;have e6:=HB6.out;rcases h with h|h<;>omega
   have x4:∀y:Ext (bH T) wr.drew,y.u.cell? ⟨b4,0,none⟩=some (.pointer (some ⟨b3,0,none⟩)):=eZ (by rw[hT];exact Or.inl rfl) (by rw[HB4.out,HB3.out];exact p8.cell rfl);have x6:∀y:Ext (bH T) wr.drew,y.u.cell? ⟨b6,0,none⟩=some (.slice aS SH.length cS):=eZ (by rw[hT];exact Or.inr rfl) ((aB.drew wr).cell c6);have HT:=Aa hT;clear hT p8;refine kQ ?_;refine mR (bH T) (bB 9 [2,8]) (bH.refl T) (kK T) (by kernel_rfl) (by kernel_rfl) (λd _ _ _ _ h=>by cases d<;>exact h) ?_
   iterate 2 (refine aK rfl (λK hK=>?_);go_simp;refine hK _ ?_;clear hK K)
   refine bU rfl rfl (λK hK=>?_);go_simp;refine(fI0 SH aS cS wr.drew z1 (th.grows (aB.drew wr))).mono ?_;rintro e w1 ⟨rfl,gd,av⟩;refine⟨bH.of_below av fp,hK _ _ ?_⟩;clear hK K;iterate 5 (refine aK rfl (λK hK=>?_);go_simp;refine hK _ ?_;clear hK K)
   have E1:=(EE.out.grows (aB.drew wr)).grows av;have c31:w1.cell? ⟨b3,0,none⟩=some (.pointer none):=by rw[HB3.out];exact E1.b3.cell rfl
   have f31:w1.frozen? ⟨b3,0,none⟩=false:=by rw[HB3.out];exact E1.b3.froz _
   refine bU rfl rfl (λK hK=>?_);go_simp;refine⟨bH.set wy _ _,hK _ _ ?_⟩;clear hK K;refine bT ?_;simp only[eH];obtain⟨sb,lz⟩:=exq (wr.drew.heap.size+1);have e1s:=E1.set hss 0 (.pointer (some ⟨sb,0,none⟩))
   have ti:gP (w1.setCell ⟨s+2,0,none⟩ (.pointer (some ⟨sb,0,none⟩))) sb SH:=by
    rw[<-lz]at gd
    exact iI gd (pW _ _ _ _) (λh=>by
     have h1:sb=s+2:=h;have h2:=EE.out.b3.lt;have h3:wr.drew.heap.size=wr.heap.size:=rfl;omega) (jZ E1.b3)
   obtain⟨V1,hV1⟩:=exq (w1.setCell ⟨b3,0,none⟩ (.pointer (some ⟨sb,0,none⟩)));rw[<-HB3.out,<-hV1]at e1s ti;have h6a:b6<V1.heap.size:=by rw[hV1];simp;exact Al acb (Af (Ad _) av.size)
   try rw[show wr.heap.size+1=sb from lz.symm]
   try rw[<-lz]
   try rw[<-hV1]
   clear wy fp x4 x6 E1 c31 f31 gd av hV1 lz HT T th c6;go_wp2_with fail
   have p8:=e1s.b4.gr (aB.drew V1);obtain⟨T,hT⟩:∃T:Nat->Prop,T=λb=>b=b4\/b=b6:=⟨_,rfl⟩
   have fp:∀b,T b->b<V1.drew.heap.size:=λb hb=>by
    rw[hT]at hb;rcases hb with rfl|rfl
    ·rw[HB4.out];exact p8.lt
    ·exact h6a
   have wy:¬T b3:=λh=>by
    rw[hT]at h;have e3:=HB3.out;have e4:=HB4.out;have e6:=HB6.out;rcases h with h|h<;>omega
   have x4:∀y:Ext (bH T) V1.drew,y.u.cell? ⟨b4,0,none⟩=some (.pointer (some ⟨b3,0,none⟩)):=eZ (by rw[hT];exact Or.inl rfl) (by rw[HB4.out,HB3.out];exact p8.cell rfl);have HT:=Aa hT;clear hT p8;refine kQ ?_;refine mR (bH T) (bB 9 [2,8]) (bH.refl T) (kK T) (by kernel_rfl) (by kernel_rfl) (λd _ _ _ _ h=>by cases d<;>exact h) ?_
   iterate 2 (refine aK rfl (λK hK=>?_);go_simp;refine hK _ ?_;clear hK K)
   refine bU rfl rfl (λK hK=>?_);go_simp;refine(fI0 IS aI cI V1.drew (by omega) (zJ (λ_=>rfl) e1s.oI)).mono ?_;rintro e w2 ⟨rfl,fh,ah⟩;refine⟨bH.of_below ah fp,hK _ _ ?_⟩;clear hK K;iterate 5 (refine aK rfl (λK hK=>?_);go_simp;refine hK _ ?_;clear hK K)
   have E2:=(e1s.grows (aB.drew V1)).grows ah;have c32:w2.cell? ⟨b3,1,none⟩=some (.pointer none):=by rw[HB3.out];exact E2.b3.cell rfl
   have f32:w2.frozen? ⟨b3,1,none⟩=false:=by rw[HB3.out];exact E2.b3.froz _
   refine bU rfl rfl (λK hK=>?_);go_simp;refine⟨bH.set wy _ _,hK _ _ ?_⟩;clear hK K;refine bT ?_;simp only[eH];obtain⟨ib,p9⟩:=exq (V1.drew.heap.size+1);have e2s:=E2.set hss 1 (.pointer (some ⟨ib,0,none⟩))
   have tj:gP (w2.setCell ⟨s+2,1,none⟩ (.pointer (some ⟨ib,0,none⟩))) ib IS:=by
    rw[<-p9]at fh
    exact iI fh (pW _ _ _ _) (λh=>by
     have h1:ib=s+2:=h;have h2:=e1s.b3.lt;have h3:V1.drew.heap.size=V1.heap.size:=rfl;omega) (jZ E2.b3)
   have wz:sb≠s+2:=λh=>by
    have hc:=ti.c0;have h2:=e1s.b3;rw[h]at hc;have h3:=h2.cell (o:=0) (v:=.pointer (some ⟨sb,0,none⟩)) rfl;rw[hc]at h3;cases h3
   have aan:gP (w2.setCell ⟨s+2,1,none⟩ (.pointer (some ⟨ib,0,none⟩))) sb SH:=iI ((ti.grows (aB.drew V1)).grows ah) (pW _ _ _ _) wz (jZ E2.b3);obtain⟨V2,ng⟩:=exq (w2.setCell ⟨b3,1,none⟩ (.pointer (some ⟨ib,0,none⟩)));rw[<-HB3.out,<-ng]at e2s tj aan;have h6b:b6<V2.heap.size:=by rw[ng];simp;exact Al h6a (Af (Ad _) ah.size)
   try rw[show V1.heap.size+1=ib from p9.symm]
   try rw[<-p9]
   try rw[<-ng]
   clear wy fp x4 E2 c32 f32 fh ah ng p9 HT T e1s ti;go_wp2_with fail
   have p8:=e2s.b4.gr (aB.drew V2);obtain⟨T,hT⟩:∃T:Nat->Prop,T=λb=>b=b4\/b=b6:=⟨_,rfl⟩
   have fp:∀b,T b->b<V2.drew.heap.size:=λb hb=>by
    rw[hT]at hb;rcases hb with rfl|rfl
    ·rw[HB4.out];exact p8.lt
    ·exact h6b
   have wy:¬T b3:=λh=>by
    rw[hT]at h;have e3:=HB3.out;have e4:=HB4.out;have e6:=HB6.out;rcases h with h|h<;>omega
   have x4:∀y:Ext (bH T) V2.drew,y.u.cell? ⟨b4,0,none⟩=some (.pointer (some ⟨b3,0,none⟩)):=eZ (by rw[hT];exact Or.inl rfl) (by rw[HB4.out,HB3.out];exact p8.cell rfl);have HT:=Aa hT;clear hT p8;refine kQ ?_;refine mR (bH T) (bB 9 [2,8]) (bH.refl T) (kK T) (by kernel_rfl) (by kernel_rfl) (λd _ _ _ _ h=>by cases d<;>exact h) ?_
   iterate 2 (refine aK rfl (λK hK=>?_);go_simp;refine hK _ ?_;clear hK K)
   refine bU rfl rfl (λK hK=>?_);go_simp;refine(zN ID aD cD V2.drew (by omega) (λm hm=>by have:=HZ5.out m hm;omega) (zJ (λ_=>rfl) e2s.oD)).mono ?_;rintro e w3 ⟨rfl,hv3,bv⟩;refine⟨bH.of_below bv fp,hK _ _ ?_⟩;clear hK K;iterate 5 (refine aK rfl (λK hK=>?_);go_simp;refine hK _ ?_;clear hK K)
   have E3:=(e2s.grows (aB.drew V2)).grows bv;have c33:w3.cell? ⟨b3,3,none⟩=some (.pointer none):=by rw[HB3.out];exact E3.b3.cell rfl
   have f33:w3.frozen? ⟨b3,3,none⟩=false:=by rw[HB3.out];exact E3.b3.froz _
   refine bU rfl rfl (λK hK=>?_);go_simp;refine⟨bH.set wy _ _,hK _ _ ?_⟩;clear hK K;refine bT ?_;simp only[eH];obtain⟨pb,dn⟩:=exq V2.drew.heap.size;have kr:=E3.set hss 3 (.pointer (some ⟨pb,0,none⟩))
   have aao:cH0 (w3.setCell ⟨s+2,3,none⟩ (.pointer (some ⟨pb,0,none⟩))) pb ID:=by
    rw[<-dn]at hv3
    exact fL0 hv3 (pW _ _ _ _) (λh=>by
     have h1:pb=s+2:=h;have h2:=e2s.b3.lt;have h3:V2.drew.heap.size=V2.heap.size:=rfl;omega) (jZ E3.b3)
   have aa6:ib≠s+2:=λh=>by
    have hc:=tj.c0;have h2:=e2s.b3;rw[h]at hc;have h3:=h2.cell (o:=0) (v:=.pointer (some ⟨sb,0,none⟩)) rfl;rw[hc]at h3;cases h3
   have aap:gP (w3.setCell ⟨s+2,3,none⟩ (.pointer (some ⟨pb,0,none⟩))) sb SH:=iI ((aan.grows (aB.drew V2)).grows bv) (pW _ _ _ _) wz (jZ E3.b3);have aaq:gP (w3.setCell ⟨s+2,3,none⟩ (.pointer (some ⟨pb,0,none⟩))) ib IS:=iI ((tj.grows (aB.drew V2)).grows bv) (pW _ _ _ _) aa6 (jZ E3.b3);obtain⟨V3,hV3⟩:=exq (w3.setCell ⟨b3,3,none⟩ (.pointer (some ⟨pb,0,none⟩)));rw[<-HB3.out,<-hV3]at kr aao aaq aap;have c4f:V3.cell? ⟨b4,0,none⟩=some (.pointer (some ⟨b3,0,none⟩)):=by rw[HB4.out,HB3.out];exact kr.b4.cell rfl
   try rw[show V2.heap.size=pb from dn.symm]
   try rw[<-dn]
   try rw[<-hV3]
   clear wy fp x4 E3 c33 f33 hv3 bv hV3 dn HT T e2s aan tj;go_wp2_with fail
   refine lU (ds:=ds) (lo:=s) kr.mks λw' kc ee jf=>⟨.tuple #[.pointer (some ⟨b3,0,none⟩),.int .i64 0],by simp[results,Tryz.results50,go_sem],λf6=>by omega,λ_=>⟨by rw[HB3.out,HS.out],?_,sN kr.gr kr.mks HS.out kc ee jf⟩⟩
   have ho:xK0 V3 w' (λk=>k∈ds):=kc
   have ce:∀(o:Nat) (v:Value),(#[.pointer (some ⟨sb,0,none⟩),.pointer (some ⟨ib,0,none⟩),vL,.pointer (some ⟨pb,0,none⟩),.slice (some ⟨s+1,0,none⟩) B.length B.length]:Array Value)[o]?=some v->w'.cell? ⟨s+2,o,none⟩=some v:=λo v hv=>by
    have hc:V3.cell? ⟨s+2,o,none⟩=some v:=kr.b3.cell hv;exact kE hc ho (oT kr.mks hc)
   rw[<-HS.out];have hb0:∀ {e:TypeId} {k:Nat} {α:Type} {enc:α->List Value} {v:Value} {xs:List α},aT V3 s e k enc v xs->aT w' 0 e k enc v xs:=λh=>(uK h ho (xD kr.mks _)).base (An _)
   exact⟨⟨sb,ce 0 _ rfl,by rw[<-HSH.out];exact iI aap ho (oT kr.mks aap.c0) (nH kr.mks)⟩,⟨ib,ce 1 _ rfl,by rw[<-HIS.out];exact iI aaq ho (oT kr.mks aaq.c0) (nH kr.mks)⟩,
    ⟨vL,ce 2 _ rfl,(uK kr.oL ho (xD kr.mks _)).base (show s+2-2<=s by omega)⟩,⟨pb,ce 3 _ rfl,by rw[<-HID.out];exact fL0 aao ho (oT kr.mks aao.c0) (nH kr.mks)⟩,⟨_,ce 4 _ rfl,hb0 kr.oN⟩⟩
  case pos =>
   have el:(i:Int)<N1:=by omega
   have hiN:i<(nodesA (bls B)).length:=by have:=HOK.out.off_le i;omega
   obtain⟨x,hx⟩:∃x,(nodesA (bls B))[i]?=some x:=⟨_,Ab hiN⟩;have mj:(dH (rootS (bls B)) (eC (bls B)) (nodesA (bls B)) i)[i]?=some x:=by rw[bL0 HOK.out.fix (by rw[ak];omega)];exact hx
   obtain⟨bA,oA,rfl,hcA⟩:=aF.get (enc:=uN) aak (Ah (Ag mj));have e0:=hcA i x mj 0 _ rfl;have e1:=hcA i x mj 1 _ rfl;have e2:=hcA i x mj 2 _ rfl;rw[Nat.add_zero]at e0;have agz:N1<=524287:=by rw[hN1];exact hO
   have c1:∀o,(wr.alloc o).cell? ⟨s,0,none⟩=some (.slice a B.length c):=λo=>(hB.al o).b1.cell rfl;have HX:=Aa hx;clear aak hcA hx mj hB hM hO hN1 ak;go_wp2_with (go_at_call 118;refine(sG0 x a B.length c _).mono ?_;rintro e w2 ⟨rfl,rfl⟩)
   have hB:=HBST.out;have ff:s<=wr.heap.size:=by rw[HS.out];exact hB.gr.size
   obtain⟨xb,mj⟩:=exq wr.heap.size;obtain⟨kb,hkb⟩:=exq (wr.heap.size+1);obtain⟨lb,j3⟩:=exq (wr.heap.size+1+1);rw[<-j3,<-hkb,<-mj];obtain⟨Wb,xa⟩:=exq (((wr.alloc (.cells #[.int .i64 x.i,.int .i64 x.t,.int .i64 x.d] 208)).alloc (.cells #[.int .i64 x.i,.int .i64 x.t,.int .i64 x.d] 208)).alloc (.cells #[.slice a B.length c] 65));rw[<-xa];have ae5:Wb.heap.size=wr.heap.size+1+1+1:=by rw[xa];simp
   have TX:TB Wb xb #[.int .i64 x.i,.int .i64 x.t,.int .i64 x.d] 208:=by
    rw[xa,mj];exact((TB.alloc wr _ _).keep (Ae _ _ none) (RT.none _ _) (by decide:(Option.none:Option TypeId)≠_)).keep (Ae _ _ none) (RT.none _ _) (by decide:(Option.none:Option TypeId)≠_)
   have TK:TB Wb kb #[.int .i64 x.i,.int .i64 x.t,.int .i64 x.d] 208:=by
    rw[xa,hkb]
    have:=(TB.alloc (wr.alloc (.cells #[.int .i64 x.i,.int .i64 x.t,.int .i64 x.d] 208)) #[.int .i64 x.i,.int .i64 x.t,.int .i64 x.d] 208).keep (Ae _ (.cells #[.slice a B.length c] 65) none) (RT.none _ _) (by decide:(Option.none:Option TypeId)≠_)
    rwa [Ar]at this
   have TL:TB Wb lb #[.slice a B.length c] 65:=by
    rw[xa,j3]
    have:=TB.alloc ((wr.alloc (.cells #[.int .i64 x.i,.int .i64 x.t,.int .i64 x.d] 208)).alloc (.cells #[.int .i64 x.i,.int .i64 x.t,.int .i64 x.d] 208)) #[.slice a B.length c] 65
    rwa [Ar,Ar]at this
   have HBb:Hid (Bst w Wb s B.length (.slice a B.length c) (lbD (bls B) i vS (.slice (some ⟨bA,oA,none⟩) N1 cA) vL u7 u8 (pE (bls B) i))):=by
    rw[xa];have h:=((hB.al (.cells #[.int .i64 x.i,.int .i64 x.t,.int .i64 x.d] 208)).al (.cells #[.int .i64 x.i,.int .i64 x.t,.int .i64 x.d] 208)).al (.cells #[.slice a B.length c] 65);rw[show (dH (rootS (bls B)) (eC (bls B)) (nodesA (bls B)) i).length=N1 from HN1.out.symm]at h
    exact h
   have qv:iU Wb s ds:=by
    rw[xa];exact((HM.out.grown (row:=none) (Ae _ _ _) (λ_ _ e=>by cases e)).grown (row:=none) (Ae _ _ _) (λ_ _ e=>by cases e)).grown (row:=none) (Ae _ _ _) (λ_ _ e=>by cases e)
   have aa7:bA<wr.heap.size:=by
    have:=eY hB.oA bA rfl
    exact this
   have HHS:=Aa (show s<=wr.heap.size from ff)
   have hxk:bA≠xb/\bA≠kb/\kb<Wb.heap.size/\lb<Wb.heap.size/\s<=Wb.heap.size:=⟨by omega,by omega,by omega,by omega,by omega⟩;clear mj hkb j3 ae5 ff aa7;clear xa hB e0 e1 e2 c1 c8;obtain⟨S,hS⟩:∃S:Nat->Prop,S=λb=>b<s\/b=kb\/b=lb:=⟨_,rfl⟩
   have aar:∀b,S b->b<Wb.heap.size:=λb hb=>by
    rw[hS]at hb;rcases hb with h|h|h<;>omega
   have sj:=HOK.out.good HX.out;have hSW:∀q,a=some q->S q.block:=λq hq=>by rw[hS];exact Or.inl (by rw[HS.out];exact HA.out q hq)
   have ae6:aF Wb a 1 (B.map stC):=HAT.out.grows HBb.out.gr;have KS:=lG0 11 B a c kb lb x S Wb hB_ HSZ.out HOK.out.asc sj (by rw[hS];exact Or.inr (Or.inl rfl)) (by rw[hS];exact Or.inr (Or.inr rfl)) hSW aar (TK.cell rfl) (TK.cell rfl) (TK.cell rfl) (TL.cell rfl) ae6;refine(wpIn_wide (n:=12)).1 ?_
   refine wpIn_rangeFunc_ownH (F:=Fence.wide) (n:=12) (α:=uI (bls B) x) rfl (by decide) (gf:=182) (lb:=#[.pointer (some ⟨kb,0,none⟩),.pointer (some ⟨lb,0,none⟩)]) rfl trivial (enters_of Tryz.func182 (by kernel_rfl) rfl) KS
    (λh k=>h.tr k) (λW l o o' hl ho hc hw b hb=>As (λe=>by have:=aar b hb;omega)) (Below.refl _ _) (λ_=>rfl)
    (λpre W=>∃js mm jt,LbJ w s B.length (.slice a B.length c) ds xb kb lb Wb.heap.size x (lbK (bls B) i x (pre.map (λy=>y.1)) js mm jt u7 u8) W)
    (λ_ _ _=>False) ?hI (λ_ _ _ _ _ h _ _=>h) ?h0
    (λy a' W=>∃Bx v,Wb.heap.size<=Bx/\TB W Bx #[.int .i64 y.1.i,.int .i64 y.1.t,.int .i64 y.1.d] 208/\TB W (s+7) #[v] 209/\v.ownBlock≠some Bx /\
     a'={ tmps:=(sS B a c s b2 b3 b4 b5 b6 b7 b8 ds { u7:=u7,u8:=u8,u10:=.int .i64 i,u11:=.pointer (some ⟨xb,0,none⟩),u12:=.pointer (some ⟨Bx,0,none⟩),u13:=u13,u29:=.int .i64 i,u30:=.slice (some ⟨bA,oA,none⟩) N1 cA,u31:=.int .i64 N1,u32:=.bool true,u33:=u33,u34:=u34,u35:=.slice (some ⟨bA,oA,none⟩) N1 cA,u36:=.int .i64 i,u37:=.pointer (some ⟨bA,oA+i*3,none⟩),u38:=.agg #[.int .i64 x.i,.int .i64 x.t,.int .i64 x.d],u39:=.agg #[.int .i64 x.i,.int .i64 x.t,.int .i64 x.d],u40:=.slice a B.length c,u41:=.func (.func 182) #[] #[.pointer (some ⟨kb,0,none⟩),.pointer (some ⟨lb,0,none⟩)],u42:=.agg #[.int .i64 y.1.i,.int .i64 y.1.t,.int .i64 y.1.d],u43:=u43,u44:=u44,u45:=u45,u46:=u46,u47:=u47,u48:=u48,u49:=u49,u50:=u50,u51:=u51,u52:=u52,u53:=u53,u54:=u54,u55:=u55,u56:=u56,u57:=u57,u58:=u58,u59:=u59,u60:=u60,u61:=u61,u62:=u62,u63:=u63,u64:=u64,u65:=u65,u66:=u66,u67:=u67,u68:=u68,u69:=u69,u70:=u70,u71:=u71,u72:=u72,u73:=u73,u74:=u74,u75:=u75,u76:=u76,u77:=u77,u78:=u78,u79:=u79,u80:=u80,u81:=u81,u82:=u82,u83:=u83,u84:=u84,u85:=u85,u86:=u86,u87:=u87,u88:=u88,u89:=u89,u90:=u90,u91:=u91,u92:=u92,u93:=u93,u94:=u94,u95:=u95,u96:=u96,u97:=u97,u98:=u98,u99:=u99,u100:=u100,u101:=u101,u102:=u102,u103:=u103,u104:=u104,u105:=u105,u106:=u106,u107:=u107 }).tmps,defers:=[] }) ?hAx ?assign ?body ?done ?stop
   case hI =>
    rintro pre V V' row ⟨js,mm,jt,h⟩ hg hr;exact⟨js,mm,jt,h.other hg (RT.of_not λq e=>(hr q e).2) (λq e=>by have:=(hr q e).1;omega) (λD hD e=>by have h1:=(hr D e).1;have h2:=(Array.getElem?_eq_some_iff.1 (qv.at_ D hD).2).1;omega)⟩
   case h0 =>
    refine⟨vS,.slice (some ⟨bA,oA,none⟩) N1 cA,vL,?_,TX,TK,TL,λe=>?_,λe=>?_,qv,Ad _⟩
    ·have h:=HBb.out
     simpa [lbD,lbK] using h
    ·have e1:some bA=some xb:=e
     exact hxk.1 (Option.some.inj e1)
    ·have e1:some bA=some kb:=e
     exact hxk.2.1 (Option.some.inj e1)
   case hAx =>
    rintro y a' _ V V' row ⟨Bx,v,k1,k2,k3,k4,k5⟩ hg hr;exact⟨Bx,v,k1,k2.keep hg (RT.of_not λq e=>(hr q e).2) (by decide),k3.keep hg (RT.of_not λq e=>(hr q e).2) (by decide),k4,k5⟩
   case assign =>
    rintro l pre y V K2 ⟨js,mm,jt,h⟩ lh;dsimp only[bD0]
    gi_wp2
    exact lh _ _ ((KeepsOthers.alloc _ _).from _) (bH.alloc (λb hb=>Al (aar b hb) h.sz) _) ⟨js,mm,jt,h.al _⟩ ⟨V.heap.size,mm,h.sz,TB.alloc _ _ _,(h.al _).st.b8,λe=>absurd (eY h.st.oA _ e) (Nat.lt_irrefl _),rfl⟩
   case body =>
    rintro l pre y a' V hl ag0 ⟨js,mm,jt,h⟩ ⟨Bx,v,k1,TC,kb8,kne,rfl⟩ ak
    obtain rfl:mm=v:=by
     have e1:=h.st.b8;unfold TB at e1 kb8;dsimp only[lbK]at e1
     rw[e1]at kb8;simpa using kb8
    have HYK:=y.2;obtain⟨gy,hyd,ke,hy2⟩:=(sO HOK.out.asc sj).mem y.1 HYK;have ae7:y.1.i<y.1.t:=by rcases gy.ne with h|h<;>omega
    have hyB:y.1.i<B.length:=by have:=gy.le;rw[fT]at this;omega
    obtain⟨sI,m7⟩:∃s,B[y.1.i]?=some s:=⟨_,Ab hyB⟩
    have hxd:x.d<sI.size:=by
     have:=gy.len y.1.i (Ad _) ae7
     rw[dI m7,gJ,hyd]at this;omega
    have kp:lH (bls B) x y.1=sI[x.d]:=by
     unfold lH;rw[dI m7,List.getD_eq_getElem?_getD,oV hxd];rfl
    clear hyd ke hy2 gy;obtain⟨sb,so,rfl,ct⟩:=at1 (f:=λs:ByteArray=>Value.string s) (HAT.out.grows h.st.gr) (Ah (Ag m7));have ae8:sb<s:=by rw[HS.out];exact HA.out _ rfl
    have HPL:Hid (pre.length+fP (bls B) i<6000000/\(shapeL (bls B) ((nodesA (bls B)).take i)).length<=2000000/\(labelsL (bls B) ((nodesA (bls B)).take i)).length<=1000000):=by
     have h1:=HOK.out.off_le (i+1);rw[jQ HX.out]at h1;have h2:=HOK.out.many (by rw[fT];exact hB_);have h3:=dU (bls B) i (by have:=(List.getElem?_eq_some_iff.1 HX.out).1;omega);have h4:=eW0 (bls B) i;have h5:=HO.out;show _/\_/\_
     omega
    have c6:V.cell? ⟨b6,0,none⟩=some js:=by rw[HB6.out];exact h.st.b6.cell rfl
    obtain⟨Ls,tp⟩:=exq (shapeL (bls B) ((nodesA (bls B)).take i)++Ac (pre.map (λy=>y.1)).length true);obtain⟨Ll,hLl⟩:=exq (labelsL (bls B) ((nodesA (bls B)).take i)++(pre.map (λy=>y.1)).map (lH (bls B) x));obtain⟨La,hLa⟩:=exq (dH (rootS (bls B)) (eC (bls B)) (nodesA (bls B)) i++pre.map (λy=>y.1));have oS:aT V s 4 1 mT js Ls:=by rw[tp];exact h.st.oS
    have aa8:Ls.length+1<=9000000/\Ll.length+1<=9000000/\La.length+1<=9000000:=by
     have:=HPL.out
     rw[tp,hLl,hLa];simp only[Ai,Au,Aj];have e1:(dH (rootS (bls B)) (eC (bls B)) (nodesA (bls B)) i).length=fP (bls B) i:=rfl;omega
    have HLS:=Aa tp;have HLL:=Aa hLl;have HLA:=Aa hLa;clear tp hLl hLa;have hsV:s<=V.heap.size:=Af hxk.2.2.2.2 h.sz;dsimp only[sS]
    refine wpIn_block ?_;refine wpIn_seq_k λK1 hK1=>?_;refine tW0 (by rintro⟨_,_,h⟩;exact h) (by kernel_rfl) ?_;go_wp2_with (at_builtin;refine eA tD rfl _ _ rfl s js _ true rfl oS (aB.refl _) _ 1 rfl #[.bool true] rfl rfl (by omega) hsV ?_;intro v5 w5 ho5 bk q8 _;obtain⟨g5,p5,rfl⟩:=oH ho5;have n5:=h.pushS ho5 bk q8;have c6b:w5.cell? ⟨b6,0,none⟩=some js:=(by rw[HB6.out];exact n5.2.2.2.cell rfl);have f6b:w5.frozen? ⟨b6,0,none⟩=false:=(by rw[HB6.out];exact n5.2.2.2.froz 0))
    obtain⟨V2,ng⟩:=exq (w5.setCell ⟨b6,0,none⟩ (.slice (some ⟨g5,0,none⟩) (Ls.length+1) p5));have J5:=n5.1;have KF5:=n5.2.1;have TC2:=n5.2.2.1 _ _ TC;rw[<-HB6.out,<-ng]at J5 KF5 TC2;rw[<-ng];clear n5 ng c6 c6b f6b oS ho5 bk q8 TC kb8 ct;have J5d:=J5.dr;have q4:V2.drew.cell? ⟨b4,0,none⟩=some (.pointer (some ⟨b3,0,none⟩)):=by rw[HB4.out,HB3.out];exact J5d.st.b4.cell rfl
    have q3:V2.drew.cell? ⟨b3,2,none⟩=some jt:=by rw[HB3.out];exact J5d.st.b2.cell rfl
    have q1:V2.drew.cell? ⟨s,0,none⟩=some (.slice (some ⟨sb,so,none⟩) B.length c):=J5d.st.b1.cell rfl;have qc:V2.drew.cell? ⟨Bx,0,none⟩=some (.int .i64 y.1.i):=(aB.drew V2).cell (TC2.cell rfl);have qx:V2.drew.cell? ⟨xb,2,none⟩=some (.int .i64 x.d):=J5d.tx.cell rfl
    have qs:V2.drew.cell? ⟨sb,so+y.1.i,none⟩=some (.string sI):=by
     obtain⟨sb',so',e,ct⟩:=at1 (f:=λs:ByteArray=>Value.string s) (HAT.out.grows J5d.st.gr) (Ah (Ag m7));have e1:sb=sb'/\so=so':=by simpa using e
     rw[e1.1,e1.2];exact ct _ _ m7
    obtain⟨T,hT⟩:∃T:Nat->Prop,T=λb=>b=b4\/b=b3\/b=s\/b=Bx\/b=xb\/b<s:=⟨_,rfl⟩;have TCd:TB V2.drew Bx #[.int .i64 y.1.i,.int .i64 y.1.t,.int .i64 y.1.d] 208:=TC2;have b4d:TB V2.drew b4 #[.pointer (some ⟨s+2,0,none⟩)] 100:=by rw[HB4.out];exact J5d.st.b4
    have b3d:TB V2.drew b3 #[.pointer none,.pointer none,jt,.pointer none,.slice (some ⟨s+1,0,none⟩) B.length B.length] 204:=by rw[HB3.out];exact J5d.st.b2
    have fp:∀b,T b->b<V2.drew.heap.size:=λb hb=>by
     rw[hT]at hb;rcases hb with rfl|rfl|rfl|rfl|rfl|hb
     ·exact b4d.lt
     ·exact b3d.lt
     ·exact J5d.st.b1.lt
     ·exact TCd.lt
     ·exact J5d.tx.lt
     ·have:=J5d.st.b1.lt;omega
    have hTr:∀b,T b->jt.ownBlock≠some b:=λb hb=>by
     have hr:RT V2.drew jt.ownBlock (some 5):=RT.own J5d.st.oL;rw[hT]at hb;rcases hb with rfl|rfl|rfl|rfl|rfl|hb
     ·exact b4d.ne_row hr (by decide)
     ·exact b3d.ne_row hr (by decide)
     ·exact J5d.st.b1.ne_row hr (by decide)
     ·exact TCd.ne_row hr (by decide)
     ·exact J5d.tx.ne_row hr (by decide)
     ·intro e
      have:=aV J5d.st.oL b e
      omega
    have z4:∀x:Ext (bH T) V2.drew,x.u.cell? ⟨b4,0,none⟩=some (.pointer (some ⟨b3,0,none⟩)):=eZ (by rw[hT];exact Or.inl rfl) q4;have z3:∀x:Ext (bH T) V2.drew,x.u.cell? ⟨b3,2,none⟩=some jt:=eZ (by rw[hT];exact Or.inr (Or.inl rfl)) q3;have z1:∀x:Ext (bH T) V2.drew,x.u.cell? ⟨s,0,none⟩=some (.slice (some ⟨sb,so,none⟩) B.length c):=eZ (by rw[hT];exact Or.inr (Or.inr (Or.inl rfl))) q1;have zc:∀x:Ext (bH T) V2.drew,x.u.cell? ⟨Bx,0,none⟩=some (.int .i64 y.1.i):=eZ (by rw[hT];exact Or.inr (Or.inr (Or.inr (Or.inl rfl)))) qc;have zx:∀z:Ext (bH T) V2.drew,z.u.cell? ⟨xb,2,none⟩=some (.int .i64 x.d):=eZ (by rw[hT];exact Or.inr (Or.inr (Or.inr (Or.inr (Or.inl rfl))))) qx;have zs:∀x:Ext (bH T) V2.drew,x.u.cell? ⟨sb,so+y.1.i,none⟩=some (.string sI):=eZ (by rw[hT];exact Or.inr (Or.inr (Or.inr (Or.inr (Or.inr ae8))))) qs;have hyi:(y.1.i:Int)<B.length:=by omega
    have ag1:(x.d:Int)<sI.size:=by omega
    have HT:=Aa hT;clear hT q4 q3 q1 qc qx qs;refine wpIn_seq_k λK2 lh=>?_;refine yI0 (bH T) 15 (bB 15 [13,14]) (by rintro⟨_,_,h⟩;exact h) (by kernel_rfl) (bH.refl T) (kK T) (by kernel_rfl) (by kernel_rfl) (λd _ _ _ _ h=>by cases d<;>exact h) ?_
    iterate 13 (refine aK rfl (λK hK=>?_);go_simp;refine hK _ ?_;clear hK K)
    refine bU rfl rfl (λK hK=>?_);go_simp;refine⟨bH.alloc fp _,hK _ _ ?_⟩;clear hK K;refine bU rfl rfl (λK hK=>?_);have oL:aT V2.drew s 5 1 aQ jt Ll:=by rw[HLL.out];exact J5d.st.oL
    refine mL0 bE _ _ rfl s jt Ll sI[x.d] rfl oL V2.drew.heap.size 1 rfl #[.int .u8 (sI[x.d].toNat:Nat)] rfl rfl (by omega) (Af hsV (Af KF5.size (Ad _))) ?_;intro v6 w6 ho6 cy _;have hJ6:=J5d.pushL ho6 cy;obtain⟨g6,p6,rfl⟩:=oH ho6;refine⟨λb hb=>?_,hK _ _ ?_⟩
    ·have e1:=cy.block b (fp b hb) (λe=>hTr b hb e.symm)
     have e2:=bH.alloc fp (.cells #[.int .u8 (sI[x.d].toNat:Nat)] 5) b hb;rw[e1,<-e2];rfl
    clear hK K z4 z3 z1 zc zx zs;refine bT ?_;have c3b:w6.cell? ⟨b3,2,none⟩=some jt:=by rw[HB3.out];exact hJ6.2.2.2.cell rfl
    have f3b:w6.frozen? ⟨b3,2,none⟩=false:=by rw[HB3.out];exact hJ6.2.2.2.froz 2
    simp only[Az,Bj];go_wp2_with fail
    obtain⟨V3,hV3⟩:=exq (w6.setCell ⟨b3,2,none⟩ (.slice (some ⟨g6,0,none⟩) (Ll.length+1) p6));have J6:=hJ6.1;have KF6:=hJ6.2.1;have TC3:=hJ6.2.2.1 _ _ TCd;rw[<-HB3.out,<-hV3]at J6 KF6 TC3;rw[<-hV3];have ae9:s<=V3.heap.size:=Af hxk.2.2.2.2 J6.sz;clear hJ6 hV3 c3b f3b oL ho6 cy TCd b4d b3d fp hTr J5d;have c8:V3.cell? ⟨b8,0,none⟩=some mm:=by rw[HB8.out];exact J6.st.b8.cell rfl
    have y0:V3.cell? ⟨Bx,0,none⟩=some (.int .i64 y.1.i):=TC3.cell rfl;have y1:V3.cell? ⟨Bx,1,none⟩=some (.int .i64 y.1.t):=TC3.cell rfl;have y2:V3.cell? ⟨Bx,2,none⟩=some (.int .i64 y.1.d):=TC3.cell rfl;have oA3:aT V3 s 208 3 uN mm La:=by rw[HLA.out];exact J6.st.oA
    refine tW0 (by rintro⟨_,_,h⟩;exact h) (by kernel_rfl) ?_;go_wp2_with (at_builtin;refine eA eY0 rfl _ _ rfl s mm La y.1 rfl oA3 (aB.refl _) _ 1 rfl #[.int .i64 y.1.i,.int .i64 y.1.t,.int .i64 y.1.d] rfl rfl (by omega) ae9 ?_;intro v7 w7 xg d9 hf7 _;have hJ7:=J6.pushA xg d9 hf7;obtain⟨g7,p7,rfl⟩:=oH xg;have c8b:w7.cell? ⟨b8,0,none⟩=some mm:=(by rw[HB8.out];exact hJ7.2.2.cell rfl);have f8b:w7.frozen? ⟨b8,0,none⟩=false:=(by rw[HB8.out];exact hJ7.2.2.froz 0))
    have J7:=hJ7.1
    have E7:({ ({ ({ (lbK (bls B) i x (pre.map (λy=>y.1)) js mm jt u7 u8) with vS:=.slice (some ⟨g5,0,none⟩) (Ls.length+1) p5,sh:=Ls++[true] }:BD) with vL:=.slice (some ⟨g6,0,none⟩) (Ll.length+1) p6,lab:=Ll++[sI[x.d]] }:BD) with vA:=.slice (some ⟨g7,0,none⟩) (La.length+1) p7,al:=La++[y.1] }:BD) =
      lbK (bls B) i x ((pre++[y]).map (λy=>y.1)) (.slice (some ⟨g5,0,none⟩) (Ls.length+1) p5) (.slice (some ⟨g7,0,none⟩) (La.length+1) p7) (.slice (some ⟨g6,0,none⟩) (Ll.length+1) p6) u7 u8:=by
     have e1:Ls++[true]=shapeL (bls B) ((nodesA (bls B)).take i)++Ac ((pre++[y]).map (λy=>y.1)).length true:=by
      rw[HLS.out,Ao,Ak,Ai];show _++(Ac _ true++[true])=_++Ac (_+1) true
      rw[List.replicate_succ']
     have e2:Ll++[sI[x.d]]=labelsL (bls B) ((nodesA (bls B)).take i)++((pre++[y]).map (λy=>y.1)).map (lH (bls B) x):=by
      rw[HLL.out,Ao,Ak,Ak,<-kp];rfl
     have e3:La++[y.1]=dH (rootS (bls B)) (eC (bls B)) (nodesA (bls B)) i++(pre++[y]).map (λy=>y.1):=by
      rw[HLA.out,Ao,Ak];rfl
     unfold lbK;simp only[e1,e2,e3]
    rw[E7]at J7;have KF7:=hJ7.2.1;rw[<-HB8.out]at J7 KF7;exact⟨((KF5.trans ((KeepsOthers.drew V2).from _)).trans KF6).trans KF7,h.keepB J7,_,_,_,J7⟩
   case stop =>
    rintro D c pre W _ _ h _;exact h.elim
   case done =>
    rintro D xs V hD hxs ⟨js,mm,jt,J⟩ hKD;rw[hxs]at J
    have MK:Hid (iU V s (D::ds)):=⟨λD' hD'=>by
     rcases List.mem_cons.1 hD' with rfl|h
     ·exact⟨Af hxk.2.2.2.2 hD,hKD⟩
     ·exact J.mks.at_ D' h,List.nodup_cons.2 ⟨λgb=>by have:=(Array.getElem?_eq_some_iff.1 (qv.at_ D gb).2).1;omega,qv.nodup⟩⟩
    have m9:=jQ HX.out;obtain⟨N2,hN2⟩:=exq (fP (bls B) (i+1));obtain⟨aA',cA',acd,_,_,xh⟩:=J.st.oA.at_ eY0.len;dsimp only[lbK]at acd
    subst acd
    have mn:(dH (rootS (bls B)) (eC (bls B)) (nodesA (bls B)) i++eC (bls B) x).length=N2:=by
     rw[Ai,hN2,m9];rfl
    have c8:V.cell? ⟨b8,0,none⟩=some (.slice aA' N2 cA'):=by
     rw[HB8.out,<-mn];exact J.st.b8.cell rfl
    have HN2:=Aa hN2;by_cases f6:524287<N2
    ·have vh:(524287:Int)<N2:=by omega
     clear xh mn hN2 m9;dsimp only[sS]
     go_wp2_with fail
     refine lU (ds:=D::ds) (lo:=s) MK.out λw' kc ee jf=>⟨.tuple #[.pointer none,.int .i64 2],by simp[results,Tryz.results50,go_sem],λ_=>⟨rfl,sN J.st.gr MK.out HS.out kc ee jf⟩,λnp=>?_⟩
     exfalso
     have h1:=HOK.out.off_le (i+1);have h2:=fW HOK.out.asc HOK.out.len;have h3:=HN2.out;omega
    ·have vh:¬(524287:Int)<N2:=by omega
     have hsV:s<=V.heap.size:=Af hxk.2.2.2.2 J.sz;obtain⟨Ls,tp⟩:=exq (shapeL (bls B) ((nodesA (bls B)).take i)++Ac (eC (bls B) x).length true);have oS:aT V s 4 1 mT js Ls:=by rw[tp];exact J.st.oS
     have ag2:Ls.length+1<=9000000:=by
      have h3:=dU (bls B) i (by have:=(List.getElem?_eq_some_iff.1 HX.out).1;omega);have h5:=HO.out;rw[tp,Ai,Au];omega
     have HLS:=Aa tp;have c6:V.cell? ⟨b6,0,none⟩=some js:=by rw[HB6.out];exact J.st.b6.cell rfl
     have HLEN2:=Aa mn;have HOFF:=Aa m9;clear xh mn hN2 m9 tp;dsimp only[sS]
     go_wp2_with (at_builtin;refine eA tD rfl _ _ rfl s js Ls false rfl oS (aB.refl _) _ 1 rfl #[.bool false] rfl rfl (by omega) hsV ?_;intro v5 w5 ho5 bk q8 _;have n5:=J.pushS ho5 bk q8;obtain⟨g5,p5,rfl⟩:=oH ho5;have c6b:w5.cell? ⟨b6,0,none⟩=some js:=(by rw[HB6.out];exact n5.2.2.2.cell rfl);have f6b:w5.frozen? ⟨b6,0,none⟩=false:=(by rw[HB6.out];exact n5.2.2.2.froz 0))
     have M6a:iU w5 s (D::ds):=MK.out.grown bk (MK.out.not_row (RT.own J.st.oS));have M6b:iU (w5.setCell ⟨s+5,0,none⟩ (.slice (some ⟨g5,0,none⟩) (Ls.length+1) p5)) s (D::ds):=M6a.grown (bG _ _ _ _) (M6a.not_row n5.2.2.2.rt);obtain⟨V2,ng⟩:=exq (w5.setCell ⟨b6,0,none⟩ (.slice (some ⟨g5,0,none⟩) (Ls.length+1) p5));have J5:=n5.1;rw[<-HB6.out,<-ng]at M6b;have M6:Hid (iU V2.drew s (D::ds)):=⟨λE hE=>M6b.at_ E hE,M6b.nodup⟩;clear M6a M6b;rw[<-HB6.out,<-ng]at J5;rw[<-ng];clear n5 ng c6 c6b f6b oS ho5 bk q8 c8;have aas:s<=V2.drew.heap.size:=Af hxk.2.2.2.2 J5.sz;have J5d:=J5.dr;have B6:=J5d.st;have TX6:=J5d.tx;obtain⟨Li,hLi⟩:=exq (isL (bls B) ((nodesA (bls B)).take i));obtain⟨Ld,hLd⟩:=exq (idsL (bls B) ((nodesA (bls B)).take i));have oI:aT V2.drew s 4 1 mT u7 Li:=by rw[hLi];exact B6.oI
     have aa8:Li.length+1<=9000000/\Ld.length+1<=9000000:=by
      have h1:=(List.getElem?_eq_some_iff.1 HX.out).1;rw[hLi,hLd];unfold isL idsL;rw[Aj,Aj];have h2:=List.length_filter_le (gE (bls B)) ((nodesA (bls B)).take i);have h3:((nodesA (bls B)).take i).length<=i:=by rw[List.length_take];omega
      omega
     have HLI:=Aa hLi;have HLD:=Aa hLd;have q0:=TX6.cell (o:=0) (v:=.int .i64 x.i) rfl;have q1:=TX6.cell (o:=1) (v:=.int .i64 x.t) rfl;have q2:=TX6.cell (o:=2) (v:=.int .i64 x.d) rfl;have qs:=B6.b1.cell (o:=0) (v:=.slice a B.length c) rfl;have z0:∀y:Ext aB V2.drew,y.u.cell? ⟨xb,0,none⟩=some (.int .i64 x.i):=aG q0;have z1:∀y:Ext aB V2.drew,y.u.cell? ⟨xb,1,none⟩=some (.int .i64 x.t):=aG q1;have z2:∀y:Ext aB V2.drew,y.u.cell? ⟨xb,2,none⟩=some (.int .i64 x.d):=aG q2;have zs:∀y:Ext aB V2.drew,y.u.cell? ⟨s,0,none⟩=some (.slice a B.length c):=aG qs;clear hLi hLd q0 q1 q2 qs;by_cases fx:x.i<x.t
     case neg =>
      have afa:¬(x.i:Int)<x.t:=by omega
      have HH:Hid (gE (bls B) x=false):=by
       show _=_
       unfold gE;simp[fx]
      refine kQ ?_;refine bI (bB 17 []) (by kernel_rfl) (λd _ _ _ _ h=>by cases d<;>exact h) ?_
      iterate 17 (refine aK rfl (λK hK=>?_);go_simp;refine hK _ ?_;clear hK K)
      refine bT ?_;simp only[eH];clear z0 z1 z2 zs;go_wp2_with (at_builtin;refine eA tD rfl _ _ rfl s u7 Li false rfl oI (aB.refl _) _ 1 rfl #[.bool false] rfl rfl (by omega) aas ?_;intro v7 w7 xg d9 hf7 _;have rm:=B6.pushI xg d9 hf7;have TX7:=TX6.keep d9 (RT.own oI) (by decide);have M7:=Aa (M6.out.grown d9 (M6.out.not_row (RT.own oI))))
      have BB:=bT0 HOK.out HX.out HH.out js u7 (.slice (some ⟨g5,0,none⟩) (Ls.length+1) p5) (.slice aA' (dH (rootS (bls B)) (eC (bls B)) (nodesA (bls B)) i++eC (bls B) x).length cA') jt v7 u8;rw[<-HLS.out,<-HLI.out]at BB;have qd:=Eq.mp (congrArg (Bst w w7 s B.length _) BB) rm;exact hK (D::ds) ⟨_,_,_,_,_,_,_,_,_,_,_,_,_,_,_,_,_,_,_,_,_,_,_,_,_,_,_,_,_,_,_,_,_,_,_,_,_,_,_,_,_,_,_,_,_,_,_,_,_,_,_,_,_,_,_,_,_,_,_,_,_,_,_,_,_,_,_,_,_,_,_,_,_,_,_,_,_,_,_,_,_,_,_,_,_⟩ _ ⟨by go_num,by omega,M7.out,⟨_,_,_,qd⟩,by have:=HN2.out;omega⟩
     case pos =>
      have hxB:x.i<B.length:=by have:=sj.le;rw[fT]at this;omega
      have afa:(x.i:Int)<x.t:=by omega
      have ag3:(x.i:Int)<B.length:=by omega
      obtain⟨sX,hsX⟩:∃s,B[x.i]?=some s:=⟨_,Ab hxB⟩;obtain⟨sb,so,rfl,ct⟩:=at1 (f:=λs:ByteArray=>Value.string s) (HAT.out.grows B6.gr) (Ah (Ag hsX));have zS:∀y:Ext aB V2.drew,y.u.cell? ⟨sb,so+x.i,none⟩=some (.string sX):=aG (ct _ _ hsX);by_cases hh:sX.size=x.d
      case neg =>
       have nj:((sX.size:Int)==x.d)=false:=by rw[beq_eq_false_iff_ne];omega
       have HH:Hid (gE (bls B) x=false):=by
        show _=_
        unfold gE;rw[dI hsX,gJ];simp[hh]
       clear hh hsX ct;refine kQ ?_;refine bI (bB 17 []) (by kernel_rfl) (λd _ _ _ _ h=>by cases d<;>exact h) ?_
       iterate 17 (refine aK rfl (λK hK=>?_);go_simp;refine hK _ ?_;clear hK K)
       refine bT ?_;simp only[eH];clear z0 z1 z2 zs zS;go_wp2_with (at_builtin;refine eA tD rfl _ _ rfl s u7 Li false rfl oI (aB.refl _) _ 1 rfl #[.bool false] rfl rfl (by omega) aas ?_;intro v7 w7 xg d9 hf7 _;have rm:=B6.pushI xg d9 hf7;have TX7:=TX6.keep d9 (RT.own oI) (by decide);have M7:=Aa (M6.out.grown d9 (M6.out.not_row (RT.own oI))))
       have BB:=bT0 HOK.out HX.out HH.out js u7 (.slice (some ⟨g5,0,none⟩) (Ls.length+1) p5) (.slice aA' (dH (rootS (bls B)) (eC (bls B)) (nodesA (bls B)) i++eC (bls B) x).length cA') jt v7 u8;rw[<-HLS.out,<-HLI.out]at BB;have qd:=Eq.mp (congrArg (Bst w w7 s B.length _) BB) rm;exact hK (D::ds) ⟨_,_,_,_,_,_,_,_,_,_,_,_,_,_,_,_,_,_,_,_,_,_,_,_,_,_,_,_,_,_,_,_,_,_,_,_,_,_,_,_,_,_,_,_,_,_,_,_,_,_,_,_,_,_,_,_,_,_,_,_,_,_,_,_,_,_,_,_,_,_,_,_,_,_,_,_,_,_,_,_,_,_,_,_,_⟩ _ ⟨by go_num,by omega,M7.out,⟨_,_,_,qd⟩,by have:=HN2.out;omega⟩
      case pos =>
       have nj:((sX.size:Int)==x.d)=true:=by rw[hh];simp
       have HH:Hid (gE (bls B) x=true):=by
        show _=_
        unfold gE;rw[dI hsX,gJ];simp[hh,fx]
       clear hh hsX ct;refine kQ ?_;refine bI (bB 17 []) (by kernel_rfl) (λd _ _ _ _ h=>by cases d<;>exact h) ?_
       iterate 17 (refine aK rfl (λK hK=>?_);go_simp;refine hK _ ?_;clear hK K)
       refine bT ?_;simp only[eH];clear z0 z1 z2 zs zS;go_wp2_with (at_builtin;refine eA tD rfl _ _ rfl s u7 Li true rfl oI (aB.refl _) _ 1 rfl #[.bool true] rfl rfl (by omega) aas ?_;intro v7 w7 xg d9 hf7 _;have rm:=B6.pushI xg d9 hf7;have TX7:=TX6.keep d9 (RT.own oI) (by decide);have M7:=Aa (M6.out.grown d9 (M6.out.not_row (RT.own oI))))
       have oN:=rm.oN;have ace:(pE (bls B) i).length=B.length:=by rw[sR0,fT]
       have acf:x.i<(pE (bls B) i).length:=by rw[ace];omega
       obtain⟨ov,hov⟩:∃o,(pE (bls B) i)[x.i]?=some o:=⟨_,Ab acf⟩;have cN:w7.cell? ⟨b2,x.i,none⟩=some (.int .i64 ov):=by rw[HB2.out];exact bP (f:=λn:Nat=>Value.int .i64 n) oN hov
       have hSN:=rm.setN acf i;have fN:w7.frozen? ⟨b2,x.i,none⟩=false:=by rw[HB2.out];exact hSN.1
       have z4:∀y:Ext aB w7.drew,y.u.cell? ⟨b4,0,none⟩=some (.pointer (some ⟨b3,0,none⟩)):=aG (by rw[HB4.out,HB3.out];exact rm.dr.b4.cell rfl);have z3:∀y:Ext aB w7.drew,y.u.cell? ⟨b3,4,none⟩=some (.slice (some ⟨b2,0,none⟩) B.length B.length):=aG (by rw[HB3.out,HB2.out];exact rm.dr.b2.cell rfl);have zx:∀y:Ext aB w7.drew,y.u.cell? ⟨xb,0,none⟩=some (.int .i64 x.i):=aG ((aB.drew w7).cell (TX7.cell rfl));clear oN hov ace;refine kQ ?_;refine qB 8 (bB 8 []) (by kernel_rfl) (λd _ _ _ _ h=>by cases d<;>exact h) ?_
       iterate 8 (refine aK rfl (λK hK=>?_);go_simp;refine hK _ ?_;clear hK K)
       refine bT ?_;clear z4 z3 zx;simp only[Az,Bj];go_wp2_with fail
       simp only[eH];obtain⟨V8,hV8⟩:=exq ((w7.setCell ⟨b2,x.i,none⟩ (.int .i64 i)).drew);have B8:=hSN.2.dr;rw[<-HB2.out,<-hV8]at B8
       have M8:Hid (iU V8 s (D::ds)):=by
        have m2:=M7.out.grown (bG w7 (s+1) x.i (.int .i64 i)) (M7.out.not_row (RT.own rm.oN));rw[hV8,HB2.out];exact⟨λE hE=>m2.at_ E hE,m2.nodup⟩
       have cx8:V8.cell? ⟨xb,0,none⟩=some (.int .i64 x.i):=by
        rw[hV8,HB2.out];exact(TX7.keep (bG w7 (s+1) x.i (.int .i64 i)) (RT.own rm.oN) (by decide)).cell rfl
       have wx8:IntKind.u64.wrap (x.i:Int)=x.i:=by simp[IntKind.wrap,IntKind.bits,IntKind.signed];omega
       rw[<-hV8];have hs8:s<=V8.heap.size:=by rw[HS.out];exact B8.gr.size
       have oD:aT V8 s 213 1 gT u8 Ld:=by rw[HLD.out];exact B8.oD
       clear hSN hV8 cN fN;go_wp2_with (at_builtin;refine eA nA0 rfl _ _ rfl s u8 Ld x.i rfl oD (aB.refl _) _ 1 rfl #[.int .u64 x.i] rfl rfl (by omega) hs8 ?_;intro v9 w9 ho9 fq hf9 _;have q7:=B8.pushD ho9 fq;have M9:=Aa (M8.out.grown fq (M8.out.not_row (RT.own oD))))
       have BB:=qT0 HOK.out HX.out HH.out js u7 u8 (.slice (some ⟨g5,0,none⟩) (Ls.length+1) p5) (.slice aA' (dH (rootS (bls B)) (eC (bls B)) (nodesA (bls B)) i++eC (bls B) x).length cA') jt v7 v9;rw[<-HLS.out,<-HLI.out,<-HLD.out]at BB;have qd:=Eq.mp (congrArg (Bst w w9 s B.length _) BB) q7;exact hK (D::ds) ⟨_,_,_,_,_,_,_,_,_,_,_,_,_,_,_,_,_,_,_,_,_,_,_,_,_,_,_,_,_,_,_,_,_,_,_,_,_,_,_,_,_,_,_,_,_,_,_,_,_,_,_,_,_,_,_,_,_,_,_,_,_,_,_,_,_,_,_,_,_,_,_,_,_,_,_,_,_,_,_,_,_,_,_,_,_⟩ _ ⟨by go_num,by omega,M9.out,⟨_,_,_,qd⟩,by have:=HN2.out;omega⟩
end
section
open Go Go.RowKit Go.Shelf
theorem iP0 (B:List ByteArray) (a:Option Addr) (c:Nat) (w:World) (hB:B.length<=1099511627776) (cz:∀s∈B,s.size<=1099511627776) (fw:cT0 (bls B)≠0) (ac:aF w a 1 (B.map stC)) :
  Calls Tryz.prog 50 #[.slice a B.length c] w λe w'=>e=.returned (.tuple #[.pointer none,.int .i64 (cT0 (bls B))])/\aB w w':=by
 obtain⟨K,hK⟩:=exq (cT0 (bls B))
 have CK:Hid (∀u,aB w u->Calls Tryz.prog 117 #[.slice a B.length c] u λe w'=>e=.returned (.int .i64 K)/\u=w'):=λu hg=>by
  rw[hK];exact gV0 B a c u hB cz (ac.grows hg)
 rw[<-hK]at fw ⊢;have hKi:¬(K:Int)=0:=by omega
 clear ac cz hK;go_enter Tryz.func50,Tryz.ntmps50
 go_wp2_with (go_at_call 117;refine(CK.out _ (aB.alloc _ _)).mono ?_;rintro e w2 ⟨rfl,rfl⟩)
 exact bodyPost_ret (v:=.tuple #[.pointer none,.int .i64 K]) (by simp[results,Tryz.results50,go_sem]) rfl ⟨rfl,aB.alloc _ _⟩
theorem qA (B:List ByteArray) (a:Option Addr) (c:Nat) (w:World) (hB:B.length<=1099511627776) (cz:∀s∈B,s.size<=1099511627776) (ha:∀q,a=some q->q.block<w.heap.size) (ac:aF w a 1 (B.map stC)) :
  Calls Tryz.prog 50 #[.slice a B.length c] w λe w'=>aB w w' /\
   ((fQ (bls B)=0/\∃tb,e=.returned (.tuple #[.pointer (some ⟨tb,0,none⟩),.int .i64 0])/\jB w' tb (bls B)/\w.heap.size+2<=tb)\/(fQ (bls B)≠0/\e=.returned (.tuple #[.pointer none,.int .i64 (fQ (bls B))]))):=by
 by_cases fw:cT0 (bls B)=0
 ·have h1:¬20000<(bls B).length:=λh=>by unfold cT0 at fw;rw[if_pos h]at fw;cases fw
  have h2:lJ (bls B)=false:=by
   unfold cT0 at fw;rw[if_neg h1]at fw
   cases h:lJ (bls B) with
   | false=>rfl
   | true=>rw[h]at fw;cases fw
  have au:=uH0 h2;have hl:B.length<=20000:=by rw[fT]at h1;omega
  have jh:∀s∈B,s.size<=256:=λs hs=>by
   have:=au.len (bl s) (by unfold bls;exact List.mem_map.2 ⟨s,hs,rfl⟩)
   rwa [gJ]at this
  have hc:fQ (bls B)=if 524287<fG (bls B) then 2 else 0:=by
   unfold fQ;rw[if_neg h1,h2];rfl
  refine(oW0 B a c w fw ha hl jh au ac).mono ?_;rintro e w' ⟨k1,k2⟩;rcases Bp 524287 (fG (bls B)) with h|h
  ·obtain⟨rfl,hg⟩:=k1 h
   rw[if_pos h]at hc;exact⟨hg,Or.inr ⟨by rw[hc];decide,by rw[hc];rfl⟩⟩
  ·obtain⟨rfl,ht,hg⟩:=k2 h
   rw[if_neg (by omega)]at hc;exact⟨hg,Or.inl ⟨hc,_,rfl,ht,Ad _⟩⟩
 ·have hc:fQ (bls B)=cT0 (bls B):=by
   unfold fQ cT0 at *;by_cases h1:20000<(bls B).length
   ·rw[if_pos h1,if_pos h1]
   ·rw[if_neg h1]at fw
    rw[if_neg h1,if_neg h1];by_cases h2:lJ (bls B)=true
    ·rw[if_pos h2,if_pos h2]
    ·rw[if_neg h2]at fw
     exact absurd rfl fw
  refine(iP0 B a c w hB cz fw ac).mono ?_;rintro e w' ⟨rfl,hg⟩;exact⟨hg,Or.inr ⟨by rw[hc];exact fw,by rw[hc]⟩⟩
end
section
open Go Go.RowKit Go.Shelf
attribute [local go_sem] aM aO
theorem mD (f:En->Nat) (g:Nat) (cb:Array Value) (eg:∀args w,(callFunc g args).run Tryz.prog w=.ok (.enter g args) w)
  (l:List En) (eb:Nat) (a:Option Addr) (c:Nat) (w:World) (hl:l.length<=1048576) (hf:∀x∈l,f x<9223372036854775808) (ac:aF w a 5 (l.map aZ)) (hb:w.cell? ⟨eb,0,none⟩=some (.slice a l.length c))
  (HG:∀x∈l,∀W,aB w W->Calls Tryz.prog g (#[x.agg]++cb) W λe w'=>e=.returned (.int .i64 (f x))/\aB W w') :
  Calls Tryz.prog 62 #[.func (.func g) #[] cb,.pointer (some ⟨eb,0,none⟩)] w λe w'=>aB w w'/\∃v,e=.returned v/\aT w' w.heap.size 5 1 aQ v (bV (l.map f)):=by
 have HAT:=Aa ac;have HGG:=λx hx W hW=>Aa (HG x hx W hW);have HB:=Aa hb;have iw:=λ(Y:World)=>rU0 l.length Y hl;obtain⟨ns,wc⟩:=exq (l.map f);have pv:ns.length=l.length:=by rw[wc,Aj]
 rw[<-wc];have CN:=λ(W:World) (q c:Nat) (h:aF W (some ⟨q,0,none⟩) 1 (ns.map fI))=>Aa (kT ns (some ⟨q,0,none⟩) c W (by omega) (by rw[wc];intro n hn;obtain⟨x,hx,rfl⟩:=List.mem_map.1 hn;exact hf x hx) h);rw[pv]at CN;have HNS:=Aa wc;clear ac HG wc hf;have kc:(w.alloc (.cells (madeCells #[.int .i64 0] l.length) 3)).cell? ⟨eb,0,none⟩=some (.slice a l.length c):=(aB.alloc _ _).cell hb;go_enter Tryz.func62,Tryz.ntmps62
 go_wp2_with fail
 have aw:=zF (w:=w) (n:=l.length) hl;rw[Nat.mul_one,<-pv,<-mJ ns 0,pv]at aw;obtain⟨W1,bz⟩:=exq (w.alloc (.cells (madeCells #[.int .i64 0] l.length) 3));have eo:aB w W1:=by rw[bz];exact aB.alloc _ _
 rw[<-bz]at aw ⊢;clear bz hb kc;go_loopw [12] (λi wr=>∃(k:Nat),k<=l.length/\i=.int .i64 k/\aT wr w.heap.size 3 1 fI (.slice (some ⟨w.heap.size,0,none⟩) l.length l.length) (jK ns 0 k)/\aB w wr) (λi _=>l.length-(intOf i).toNat)
 case atStart=>exact⟨0,An _,rfl,aw,eo⟩
 case round =>
  clear aw eo;obtain⟨k,hk,rfl,aa,hg⟩:=hrel;by_cases ae:k<l.length
  ·obtain⟨⟨xr,xs,xl,xt,xc⟩,hx⟩:∃x,l[k]?=some x:=⟨_,Ab ae⟩
   obtain⟨ba,oa,rfl,cm⟩:=(HAT.out.grows hg).get (aH ae);have c0:wr.cell? ⟨ba,oa+k*5,none⟩=some (.string xr):=cm k _ hx 0 _ rfl;have c1:wr.cell? ⟨ba,oa+k*5+1,none⟩=some (.string xs):=cm k _ hx 1 _ rfl;have c2:wr.cell? ⟨ba,oa+k*5+2,none⟩=some (.int .i64 xl):=cm k _ hx 2 _ rfl;have c3:wr.cell? ⟨ba,oa+k*5+3,none⟩=some (.int .i64 xt):=cm k _ hx 3 _ rfl;have c4:wr.cell? ⟨ba,oa+k*5+4,none⟩=some (.int .i64 xc):=cm k _ hx 4 _ rfl;obtain⟨y,hy⟩:=exq (f ⟨xr,xs,xl,xt,xc⟩);have hnk:ns[k]?=some y:=by rw[HNS.out,Ap,hx,hy];rfl
   have CG:=HGG _ (Ag hx) (wr.alloc (.cells #[.string xr,.string xs,.int .i64 xl,.int .i64 xt,.int .i64 xc] 30)) (hg.al _);rw[<-hy]at CG;have HNK:=Aa hnk;clear cm hx hy hnk;go_wp2_with fail
   refine CG.out.mono ?_;rintro e w2 ⟨rfl,ah⟩;have gz:=aB.trans _ _ _ (aB.alloc wr _) ah;have af:=aa.grows gz;have cr:=aB.trans _ _ _ hg gz;have hfl:=jU ns 0 (k:=k) (by omega);obtain⟨z,hz⟩:∃z,(jK ns 0 k)[k]?=some z:=⟨_,Ab (by omega)⟩;have e1:=bP (f:=λn:Nat=>Value.int .i64 n) af hz;obtain⟨f1,_,an⟩:=dJ (f:=λn:Nat=>Value.int .i64 n) af (k:=k) (by omega) y;rw[oU HNK.out]at an;have HO:=Aa an;clear aa af an hz hfl ah gz c0 c1 c2 c3 c4 CG;go_wp2_with fail
   go_roundw
   case rel=>exact⟨k+1,by omega,by go_num,HO.out,cr.set (Ad _) _⟩
   case measure=>simp[intOf];omega
  ·obtain rfl:k=l.length:=by omega
   rw[<-pv,pB,pv]at aa;obtain⟨a1,c1,e1,_,_,cv⟩:=aa.at_ (k:=1) (λx=>(rfl:(fI x).length=1));have e2:=(Value.slice.inj e1).1;subst e2;have CN1:=CN wr w.heap.size l.length cv;clear CN e1 cv aa;go_wp2_with fail
   refine CN1.out.mono ?_;rintro e w2 ⟨v,rfl,hv,ah⟩;go_wp2_with fail
   go_ret;exact⟨aB.trans _ _ _ hg ah,v,rfl,hv.base hg.size⟩
end
section
open Go Go.RowKit Go.Shelf
attribute [local go_sem] aM aO Oper.semAt_some
theorem kindIx_any (s:ByteArray) (w:World) (he:uA0 w) :
  Calls Tryz.prog 136 #[.slice (some ⟨0,0,none⟩) 3 3,.string s] w λe w'=>e=.returned (.int .i64 (qK0 s))/\w'=w:=by
 have HK:=Aa he.kin;clear he;go_enter Tryz.func136,Tryz.ntmps136
 go_wp2_with fail
 go_loopw [5,8] (λ_ i wr=>∃k:Nat,k<=3/\i=.int .i64 k/\Hid (qK0 s=Bq (lI.drop k) s k)/\wr=w) (λ_ i _=>3-(intOf i).toNat)
 case atStart=>exact⟨0,An _,rfl,rfl,rfl⟩
 case round =>
  obtain⟨k,hk,rfl,hz,rfl⟩:=hrel;by_cases ae:k<3
  ·obtain⟨q,hq⟩:∃q,lI[k]?=some q:=⟨_,Ab ae⟩
   have c0:=HK.out k q hq
   have hd:lI.drop k=q::lI.drop (k+1):=by
    rw[Am (show k<lI.length from ae),(List.getElem?_eq_some_iff.1 hq).2]
   have gj:=hz.out;rw[hd,Bq]at gj;have cp:(k:Int)<3:=by omega
   clear hz hq hd;by_cases he:q=s
   ·subst he
    rw[if_pos rfl]at gj;have e2:(q.toList==q.toList)=true:=by simp
    have HZ:=Aa gj;clear gj;go_wp2_with fail
    go_ret;exact⟨(by rw[HZ.out];rfl),rfl⟩
   ·rw[if_neg he]at gj
    have hsn:¬s.toList=q.toList:=λe=>he (oJ (by rw[Bh,Bh]at e;exact e.symm));have e2:(s.toList==q.toList)=false:=by rw[beq_eq_false_iff_ne];exact hsn
    have HZ:=Aa gj;clear gj;go_wp2_with fail
    go_roundw
    case rel=>first|exact⟨k+1,ae,by go_num,HZ.out,rfl⟩|exact⟨k+1,ae,by go_num,HZ.out,trivial⟩
    case measure=>simp[intOf];omega
  ·obtain rfl:k=3:=by omega
   have HZ:Hid (qK0 s = -1):=hz.out;clear hz;go_wp2_with fail
   go_ret;exact⟨(by rw[HZ.out];rfl),rfl⟩
def nS (W W':World):Prop:=∀b cs,TB W b cs 9->TB W' b cs 9
theorem nS.refl (W:World):nS W W:=λ_ _ h=>h
theorem nS.tr {A B C:World} (h:nS A B) (k:nS B C):nS A C:=λb cs t=>k b cs (h b cs t)
theorem nS.grown {W W':World} {row:Option Nat} {τ:Option TypeId} (hg:W.grownBy W' row) (hr:RT W row τ) (aq:τ≠some 9):nS W W':=λ_ _ h=>h.keep hg hr aq
theorem nS.gr {W W':World} (h:aB W W'):nS W W':=λ_ _ t=>t.gr h
theorem nS.put (W:World) (l:Nat) (o o':Obj) (h:W.heap[l]?=some o) (hc:o.isCells=false):nS W (W.putObj l o'):=λb cs t=>by
 have aq:b≠l:=λe=>by
  subst e
  have:W.heap[b]?=some (.cells cs 9 (0,0)):=t
  rw[this]at h;cases h
  cases hc
 exact(As aq).trans t
theorem rD0 (c:UInt8) (s:ByteArray) (w:World) (hs:s.size<4294967281) (he:Env w) :
  Calls Tryz.prog 141 #[.string s,.string ⟨#[c]⟩] w λe w'=>e=.returned (.slice (some ⟨w.heap.size,0,none⟩) (splitS c s).length (splitS c s).length)/\w'=w.alloc (.cells ((splitS c s).map Value.string).toArray 9):=by
 obtain⟨m,hm⟩:=he.mx;have hl:=Bk ⟨#[c]⟩ (Ad 1) 0 _ s rfl;have yj:(splitS c s).length=Bt s ⟨#[c]⟩+1:=hl;refine Calls.mono (Any.strings_Split Tryz.laysSplit wY0 s ⟨#[c]⟩ m w hs hm (Ad 1)) ?_;rintro e w' ⟨rfl,rfl⟩;exact⟨by rw[yj],rfl⟩
theorem iV0:∀(l:List ByteArray) (i:Nat),(fS l i).length<=l.length
 | [],_=>Ad _
 | s::r,i=>by
  rw[fS]
  have:=iV0 r (i+1)
  split
  ·exact Af this (Nat.le_succ _)
  ·simp only[Aq];omega
abbrev xN0:={ x:Nat×ByteArray // x.2.size<=1048576 }
theorem rV0 (n l:Nat) (hn:1<=n) (s:ByteArray) (bt:Nat) (hs:s.size<=1048576) (J Jx:List xN0->World->Prop)
  (hY:∀pre x W,J pre W->pre.length<(fS (splitS 10 s) 0).length->YieldAt Fence.wide (n-1) Tryz.prog l #[.int .i64 (x.1.1:Nat),.string x.1.2] W λe W' =>
   (e=.returned (.bool true)/\J (pre++[x]) W'/\nS W W')\/(e=.returned (.bool false)/\Jx (pre++[x]) W'))
  (W:World) (he:Env W) (hJ:AbidesFrom W.heap.size J) (c1:TB W bt #[.string s] 9) (h0:J [] W) :
  CallsIn Fence.wide n Tryz.prog 196 #[.func (.yield l) #[] #[],.pointer (some ⟨bt,0,none⟩)] W λe W'=>(∃v,e=.returned v) /\
   ((∃xs:List xN0,xs.map (·.1)=fS (splitS 10 s) 0/\J xs W')\/(∃pre:List xN0,pre.map (·.1) <+: fS (splitS 10 s) 0/\Jx pre W')):=by
 have CS:=(callsIn_wide (n:=n-1)).2 (rD0 10 s W (by omega) he);have h1:=hJ [] W (W.alloc (.cells ((splitS 10 s).map Value.string).toArray 9)) none h0 (Ae _ _ none) (λr h=>by cases h);have T1:TB (W.alloc (.cells ((splitS 10 s).map Value.string).toArray 9)) W.heap.size ((splitS 10 s).map Value.string).toArray 9:=TB.alloc _ _ _;have c2:=c1.cell (o:=0) rfl
 have ak:(splitS 10 s).length<=1048577:=by
  have h1:(splitS 10 s).length=Bt s ⟨#[10]⟩+1:=Bk ⟨#[10]⟩ (Ad 1) 0 _ s rfl;have h2:=Lib.countB_le ⟨#[10]⟩ (Ad 1) s.size s (Ad _);omega
 have hlz:∀q∈splitS 10 s,q.size<=1048576:=λq hq=>Af (eX0 hq) hs;clear he hJ h0 c1;generalize W.alloc (.cells ((splitS 10 s).map Value.string).toArray 9)=W1 at *;generalize W.heap.size=sb at *;generalize splitS 10 s=ls at *;have HY:=Aa hY;clear hY;refine callsIn_of_wp Tryz.func196 rfl trivial ?_ rfl;simp only[Tryz.ntmps196,Bb,Aq,Bf,Bn,Bo,Av,Aw,Bc,Ay,Bg,Be];gi_wp2
 refine⟨trivial,CS.mono ?_⟩;rintro e w1 ⟨rfl,rfl⟩;gi_wp2
 clear CS c2;gi_loopw [3,4,8] (λ_ _ i wr=>∃(k:Nat) (pre:List xN0),i=.int .i64 k/\k<=ls.length/\Hid (fS ls 0=pre.map (·.1)++fS (ls.drop k) k)/\J pre wr/\TB wr sb (ls.map Value.string).toArray 9) (λ_ _ i _=>ls.length-(intOf i).toNat)
 case atStart=>exact⟨0,[],rfl,An _,rfl,h1,T1⟩
 case round =>
  obtain⟨k,pre,rfl,hk,hp,hJ,hT⟩:=hrel;clear h1 T1;by_cases ae:k<ls.length
  ·have cp:(k:Int)<ls.length:=by omega
   obtain⟨q,hq⟩:∃q,ls[k]?=some q:=⟨_,Ab ae⟩;have c0:wr.cell? ⟨sb,k,none⟩=some (.string q):=hT.cell (by simp[hq]);have hqz:=hlz q (Ag hq);have k9:=hp.out;rw[show ls.drop k=q::ls.drop (k+1) by rw[Am ae,(List.getElem?_eq_some_iff.1 hq).2],fS]at k9
   clear hp hq;by_cases hem:q.toList=[]
   ·rw[kN0 hem]at k9
    have HP:=Aa k9;clear k9;gi_wp2
    refine⟨λf h=>(by cases h),?_⟩;gi_wp2
    go_roundw
    case rel=>exact⟨k+1,pre,by go_num,ae,HP.out,hJ,hT⟩
    case measure=>simp[intOf];omega
   ·have ck:=zP hem
    have ag4:(q.toList==[])=false:=by simpa using hem
    by_cases yf:(q[0].toNat:Int)=35
    ·rw[mC0 ck yf]at k9
     have HP:=Aa k9;clear k9;gi_wp2
     refine⟨λf h=>(by cases h),?_⟩;gi_wp2
     go_roundw
     case rel=>exact⟨k+1,pre,by go_num,ae,HP.out,hJ,hT⟩
     case measure=>simp[intOf];omega
    ·rw[tH0 ck yf]at k9
     simp only[Bool.false_eq_true,if_false]at k9;have ag5:((q[0].toNat:Int)==35)=false:=by simpa using yf
     obtain⟨fn,tmps,assign,body,hy,hR⟩:=HY.out pre ⟨(k+1,q),hqz⟩ wr hJ (by rw[k9];simp);dsimp only at hy
     rw[show ((k+1:Nat):Int)=(k:Int)+1 by omega]at hy
     have HP:Hid (fS ls 0=(pre++[(⟨(k+1,q),hqz⟩:xN0)]).map (·.1)++fS (ls.drop (k+1)) (k+1)):=by show _=_;rw[k9];simp
     clear k9 hJ;gi_wp2
     refine hR.mono ?_;rintro e W3 (⟨rfl,ka,fc⟩|⟨rfl,en⟩)
     ·gi_wp2
      go_roundw
      case rel=>exact⟨k+1,_,by go_num,ae,HP.out,ka,fc _ _ hT⟩
      case measure=>simp[intOf];omega
     ·gi_wp2
      refine bodyPost_ret (v:=.tuple #[]) (by simp[results,Tryz.results196,go_sem]) rfl ?_
      exact⟨⟨_,rfl⟩,.inr ⟨_,⟨_,HP.out.symm⟩,en⟩⟩
  ·obtain rfl:k=ls.length:=by omega
   have hpe:pre.map (·.1)=fS ls 0:=by rw[hp.out];simp[fS]
   have HPE:=Aa hpe;clear hpe hp;gi_wp2
   go_end0;exact⟨⟨_,rfl⟩,.inl ⟨pre,HPE.out,hJ⟩⟩
theorem lines_stops (n:Nat) (s:ByteArray) (bt:Nat) (w:World) (hn:1<=n) (hs:s.size<=1048576) (he:Env w) (c1:TB w bt #[.string s] 9) :
  SeqStopsK Fence.wide n Tryz.prog 196 #[.pointer (some ⟨bt,0,none⟩)] (λx:xN0 => #[.int .i64 (x.1.1:Nat),.string x.1.2]) nS (λxs=>xs.map (·.1)=fS (splitS 10 s) 0) (λpre=>pre.map (·.1) <+: fS (splitS 10 s) 0) (fS (splitS 10 s) 0).length w:=by
 intro l J Jx W hW hJ _ hY h0;exact rV0 n l hn s bt hs J Jx hY W (he.grows hW) hJ (c1.gr hW) h0
theorem lines_any (s:ByteArray) (w:World) :
  Calls Tryz.prog 134 #[.string s] w λe w'=>e=.returned (.func (.func 196) #[] #[.pointer (some ⟨w.heap.size,0,none⟩)])/\w'=w.alloc (.cells #[.string s] 9):=by
 have hmf:∀(fn:Fn) (first cap:Array Value) (w:World),(Instr.makeFunc fn first cap).run Tryz.prog w=.ok (.func fn first cap) w:=λ_ _ _ _=>rfl
 go_enter Tryz.func134,Tryz.ntmps134
 go_wp2_with fail
 go_ret;exact⟨rfl,rfl⟩
end
section
open Go Go.RowKit Go.Shelf
theorem tR0:∃i,Tryz.prog.info? 73=some i/\i.zero=some (.agg #[.string ⟨#[]⟩,.int .i64 0])/\i.size=2/\i.bytes=24:=by
 have h:(Tryz.prog.info? 73).map (λi=>(i.zero,i.size,i.bytes))=some (some (.agg #[.string ⟨#[]⟩,.int .i64 0]),2,24):=by kernel_rfl
 cases hi:Tryz.prog.info? 73 with
 | none=>rw[hi]at h;cases h
 | some i =>
  rw[hi]at h;simp only[Bi,Option.some.injEq,Prod.mk.injEq]at h;exact⟨i,rfl,h.1,h.2.1,h.2.2⟩
theorem mkPos (n:Nat) (W:World) (hn:n<=1048576):(Instr.makeSlice 22 (.int .i64 n) (.int .i64 n)).run Tryz.prog W=.ok (.slice (some ⟨W.heap.size,0,none⟩) n n) (W.alloc (.cells (madeCells #[.string ⟨#[]⟩,.int .i64 0] (n*2)) 73)):=by
 obtain⟨i,h1,h2,h3,h4⟩:=tR0;have h:=run_make (P:=Tryz.prog) W 22 73 i (.agg #[.string ⟨#[]⟩,.int .i64 0]) Tryz.underlying22 h1 h2 .i64 .i64 n n (by omega) (Bs _) (by rw[h4];omega) (by omega);rw[Bd,h3]at h;exact h
theorem made_pos (W:World) (n:Nat):aF (W.alloc (.cells (madeCells #[.string ⟨#[]⟩,.int .i64 0] (n*2)) 73)) (some ⟨W.heap.size,0,none⟩) 2 ((Ac n (⟨⟨#[]⟩,0⟩:eP)).map cG):=λ_=>⟨W.heap.size,0,rfl,λi row hi j u hj=>by
 rw[Ap,At]at hi;split at hi
 ·rename_i gb
  obtain rfl:cG ⟨⟨#[]⟩,0⟩=row:=by simpa using hi
  refine aU W _ _ (0,0) _ u ?_;have jw:j<2:=by have:=(List.getElem?_eq_some_iff.1 hj).1;simpa [cG] using this
  rw[Br];unfold madeCells;rw[Ba,Ax];rw[if_pos (by omega)]
  match j,jw with
  | 0,_ =>
   simp[cG]at hj;subst hj;simp[show (i*2)%2=0 by omega]
  | 1,_ =>
   simp[cG]at hj;subst hj;simp[show (i*2+1)%2=1 by omega]
 ·cases hi⟩
theorem tK0:∃i,Tryz.prog.info? 30=some i/\i.zero=some (.agg #[.string ⟨#[]⟩,.string ⟨#[]⟩,.int .i64 0,.int .i64 0,.int .i64 0])/\i.size=5/\i.bytes=56:=by
 have h:(Tryz.prog.info? 30).map (λi=>(i.zero,i.size,i.bytes))=some (some (.agg #[.string ⟨#[]⟩,.string ⟨#[]⟩,.int .i64 0,.int .i64 0,.int .i64 0]),5,56):=by kernel_rfl
 cases hi:Tryz.prog.info? 30 with
 | none=>rw[hi]at h;cases h
 | some i =>
  rw[hi]at h;simp only[Bi,Option.some.injEq,Prod.mk.injEq]at h;exact⟨i,rfl,h.1,h.2.1,h.2.2⟩
theorem mkEnt (n:Nat) (W:World) (hn:n<=1048576):(Instr.makeSlice 24 (.int .i64 n) (.int .i64 n)).run Tryz.prog W=.ok (.slice (some ⟨W.heap.size,0,none⟩) n n) (W.alloc (.cells (madeCells #[.string ⟨#[]⟩,.string ⟨#[]⟩,.int .i64 0,.int .i64 0,.int .i64 0] (n*5)) 30)):=by
 obtain⟨i,h1,h2,h3,h4⟩:=tK0;have h:=run_make (P:=Tryz.prog) W 24 30 i (.agg #[.string ⟨#[]⟩,.string ⟨#[]⟩,.int .i64 0,.int .i64 0,.int .i64 0]) Tryz.underlying24 h1 h2 .i64 .i64 n n (by omega) (Bs _) (by rw[h4];omega) (by omega);rw[Bd,h3]at h;exact h
theorem made_ent (W:World) (n:Nat):aF (W.alloc (.cells (madeCells #[.string ⟨#[]⟩,.string ⟨#[]⟩,.int .i64 0,.int .i64 0,.int .i64 0] (n*5)) 30)) (some ⟨W.heap.size,0,none⟩) 5 ((Ac n dY).map aZ):=λ_=>⟨W.heap.size,0,rfl,λi row hi j u hj=>by
 rw[Ap,At]at hi;split at hi
 ·rename_i gb
  obtain rfl:aZ dY=row:=by simpa using hi
  refine aU W _ _ (0,0) _ u ?_;have jw:j<5:=by have:=(List.getElem?_eq_some_iff.1 hj).1;simpa [aZ] using this
  rw[Br];unfold madeCells;rw[Ba,Ax];rw[if_pos (by omega)]
  match j,jw with
  | 0,_ =>
   simp[aZ,dY]at hj;subst hj;simp[show (i*5)%5=0 by omega]
   rfl
  | 1,_ =>
   simp[aZ,dY]at hj;subst hj;simp[show (i*5+1)%5=1 by omega]
   rfl
  | 2,_ =>
   simp[aZ,dY]at hj;subst hj;simp[show (i*5+2)%5=2 by omega]
  | 3,_ =>
   simp[aZ,dY]at hj;subst hj;simp[show (i*5+3)%5=3 by omega]
  | 4,_ =>
   simp[aZ,dY]at hj;subst hj;simp[show (i*5+4)%5=4 by omega]
 ·cases hi⟩
end
end Go.Proofs.YthgklnohcmaopaaGreatDoor
