/- The texts Lb2 Lb5 Pps MkPos, one behind the other. -/
import Derived.Test.YthgklnohcmaopaaGreatDoorTq39
import Derived.Test.YthgklnohcmaopaaGreatDoorTq38
import Derived.Test.YthgklnohcmaopaaGreatDoorTq21
import Derived.Test.YthgklnohcmaopaaGreatDoorShelf
import Derived.Test.YthgklnohcmaopaaGreatDoorTq6
import Derived.Test.YthgklnohcmaopaaGreatDoorTq13
import Derived.Lib.IndexMore
import Derived.Shelf.Strings.Split
import Derived.Shelf.Strings.Cut
import Derived.Test.YthgklnohcmaopaaGreatDoorTq2
import Derived.Test.YthgklnohcmaopaaGreatDoorTq22
open Go.Lib renaming hid → Aa,toList_data → Bc,splitB_all → Be,idxFromS → Bi,countB → Bj
open List renaming getElem?_eq_getElem → Ab,replicate → Af,mem_of_getElem? → Ag,ne_nil_of_mem → Ah,length_append → Ai,map_append → Aj,drop_eq_getElem_cons → Al,append_assoc → Am,length_cons → An,length_map → Aq,length_replicate → Ar,append_toArray → Av,drop_succ_cons → Aw,size_toArray → Ax,push_toArray → Ay,cons_append → Az,length_nil → Ba,nil_append → Bb,drop_zero → Bd
open Go.World renaming grownBy_alloc → Ac,size_alloc → Ao,putObj_heap_other → Ap
open Nat renaming le_refl → Ad,le_trans → Ae,lt_of_lt_of_le → Ak,zero_le → Au,reduceAdd → Bf,reduceSub → Bg,lt_or_ge → Bh
open Array renaming replicate_succ → As,replicate_zero → At
set_option maxHeartbeats 4000000
namespace Go.Proofs.YthgklnohcmaopaaGreatDoor
set_option maxRecDepth 100000
section
open Go Go.RowKit Go.Shelf
attribute [local go_sem] aK aP Oper.semAt_some
theorem uO0 (x:dV) (a:Option Addr) (m c:Nat) (w:World) :
  Calls Tryz.prog 118 #[cW0 x,.slice a m c] w λe w'=>e=.returned (.func (.func 182) #[] #[.pointer (some ⟨w.heap.size,0,none⟩),.pointer (some ⟨w.heap.size+1,0,none⟩)]) /\
   w'=(w.alloc (.cells #[.int .i64 x.i,.int .i64 x.t,.int .i64 x.d] 208)).alloc (.cells #[.slice a m c] 65):=by
 unfold cW0;have hmf:∀(fn:Fn) (first cap:Array Value) (w:World),(Instr.makeFunc fn first cap).run Tryz.prog w=.ok (.func fn first cap) w:=λ_ _ _ _=>rfl
 go_enter Tryz.func118,Tryz.ntmps118
 go_wp2_with fail
 go_ret;exact⟨rfl,rfl⟩
def lbD (L:List (List UInt8)) (i:Nat) (vS vA vL vI vD:Value) (nd:List Nat):BD :=
 { vS:=vS,vA:=vA,vL:=vL,vI:=vI,vD:=vD,sh:=shapeL L ((nodesA L).take i),al:=dX (rootS L) (fA L) (nodesA L) i,lab:=labelsL L ((nodesA L).take i),isl:=isL L ((nodesA L).take i),idl:=idsL L ((nodesA L).take i),nd:=nd }
def lbK (L:List (List UInt8)) (i:Nat) (x:dV) (ys:List dV) (vS vA vL vI vD:Value):BD :=
 { vS:=vS,vA:=vA,vL:=vL,vI:=vI,vD:=vD,sh:=shapeL L ((nodesA L).take i)++Af ys.length true,al:=dX (rootS L) (fA L) (nodesA L) i++ys,lab:=labelsL L ((nodesA L).take i)++ys.map (mU L x),isl:=isL L ((nodesA L).take i),idl:=idsL L ((nodesA L).take i),nd:=qR L i }
structure LbU where
 (u7 u8 u10 u11 u12 u13 u29 u30 u31 u32 u33 u34 u35 u36 u37 u38 u39 u40 u41 u42 u43 u44 u45 u46 u47 u48 u49 u50 u51 u52 u53 u54 u55 u56 u57 u58 u59 u60 u61 u62 u63 u64 u65 u66 u67 u68 u69 u70 u71 u72 u73 u74 u75 u76 u77 u78 u79 u80 u81 u82 u83 u84 u85 u86 u87 u88 u89 u90 u91 u92 u93 u94 u95 u96 u97 u98 u99 u100 u101 u102 u103 u104 u105 u106 u107:Value)
def uU (B:List ByteArray) (a:Option Addr) (c s b2 b3 b4 b5 b6 b7 b8:Nat) (ds:List Nat) (U:LbU):Act :=
 { tmps:=#[.slice a B.length c,.pointer (some ⟨s,0,none⟩),.pointer none,.int .i64 0,.int .i64 0,.pointer (some ⟨b4,0,none⟩),.pointer (some ⟨b6,0,none⟩),U.u7,U.u8,.pointer (some ⟨b8,0,none⟩),U.u10,U.u11,U.u12,U.u13,.slice a B.length c,.int .i64 0,.int .i64 0,.bool false,undef,.slice a B.length c,.int .i64 B.length,.slice (some ⟨b2,0,none⟩) B.length B.length,.agg #[.pointer none,.pointer none,.slice none 0 0,.pointer none,.slice (some ⟨b2,0,none⟩) B.length B.length],.pointer (some ⟨b3,0,none⟩),.slice (some ⟨b5,0,none⟩) 2 2,.slice a B.length c,.int .i64 B.length,.agg #[.int .i64 0,.int .i64 B.length,.int .i64 0],.slice (some ⟨b7,0,none⟩) 1 1,U.u29,U.u30,U.u31,U.u32,U.u33,U.u34,U.u35,U.u36,U.u37,U.u38,U.u39,U.u40,U.u41,U.u42,U.u43,U.u44,U.u45,U.u46,U.u47,U.u48,U.u49,U.u50,U.u51,U.u52,U.u53,U.u54,U.u55,U.u56,U.u57,U.u58,U.u59,U.u60,U.u61,U.u62,U.u63,U.u64,U.u65,U.u66,U.u67,U.u68,U.u69,U.u70,U.u71,U.u72,U.u73,U.u74,U.u75,U.u76,U.u77,U.u78,U.u79,U.u80,U.u81,U.u82,U.u83,U.u84,U.u85,U.u86,U.u87,U.u88,U.u89,U.u90,U.u91,U.u92,U.u93,U.u94,U.u95,U.u96,U.u97,U.u98,U.u99,U.u100,U.u101,U.u102,U.u103,U.u104,U.u105,U.u106,U.u107,undef,undef,undef,undef,undef,undef,undef,undef,undef,undef,undef,undef,undef,undef,undef,undef,undef,undef,undef,undef,undef,undef,undef,undef,undef],defers:=sL0 ds }
theorem dE0 {L:List (List UInt8)} {i:Nat} {x:dV} (aq:OkL L) (hx:(nodesA L)[i]?=some x) (hh:nR L x=false) (vS0 vI0 vS vA vL vI vD:Value) :
  ({ ({ (lbK L i x (fA L x) vS0 vA vL vI0 vD) with vS:=vS,sh:=(shapeL L ((nodesA L).take i)++Af (fA L x).length true)++[false] }:BD) with vI:=vI,isl:=isL L ((nodesA L).take i)++[false] }:BD)=lbD L (i+1) vS vA vL vI vD (qR L (i+1)):=by
 have e:=bT hx;unfold lbK lbD;rw[e,kS,jH0,sU,fS0,nC hx,aq.ndTo_succ hx,if_neg (by rw[hh];decide),if_neg (by rw[hh];decide),hh,List.append_nil]
theorem wG0 {L:List (List UInt8)} {i:Nat} {x:dV} (aq:OkL L) (hx:(nodesA L)[i]?=some x) (hh:nR L x=true) (vS0 vI0 vD0 vS vA vL vI vD:Value) :
  ({ ({ ({ ({ (lbK L i x (fA L x) vS0 vA vL vI0 vD0) with vS:=vS,sh:=(shapeL L ((nodesA L).take i)++Af (fA L x).length true)++[false] }:BD) with vI:=vI,isl:=isL L ((nodesA L).take i)++[true] }:BD) with nd:=(qR L i).set x.i i }:BD) with vD:=vD,idl:=idsL L ((nodesA L).take i)++[x.i] }:BD)=lbD L (i+1) vS vA vL vI vD (qR L (i+1)):=by
 have e:=bT hx;unfold lbK lbD;rw[e,kS,jH0,sU,fS0,nC hx,aq.ndTo_succ hx,if_pos hh,if_pos hh,hh]
structure cZ1 (B:List ByteArray) (a:Option Addr) (c:Nat) (w:World) (s i:Nat) (ds:List Nat) (U:LbU) (wr:World):Prop where
 u10:U.u10=.int .i64 i
 le:i<=524287
 marks:jI wr s ds
 st:∃vS vA vL,Bst w wr s B.length (.slice a B.length c) (lbD (bls B) i vS vA vL U.u7 U.u8 (qR (bls B) i))
 off:qQ (bls B) i<=524287
theorem bN1 {B:List ByteArray} {a:Option Addr} {c:Nat} {w:World} {s b2 b3 b4 b5 b6 b7 b8:Nat} {P:Program} {code:Code} {Q:Exit->Act->World->Prop} {ds:List Nat} {U:LbU} {w0:World} (h0:cZ1 B a c w s 0 ds U w0)
  (round:∀(i:Nat) (ds:List Nat) (U:LbU) (wr:World),cZ1 B a c w s i ds U wr->∀K:Act->World->Prop,(∀ds' U' w',cZ1 B a c w s (i+1) ds' U' w'->K (uU B a c s b2 b3 b4 b5 b6 b7 b8 ds' U') w')->code.wp P (Exit.then K Q) (uU B a c s b2 b3 b4 b5 b6 b7 b8 ds U) wr) :
  (Code.loop code).wp P Q (uU B a c s b2 b3 b4 b5 b6 b7 b8 ds U) w0:=by
 refine wp_loop (λa' wr=>∃i ds U,a'=uU B a c s b2 b3 b4 b5 b6 b7 b8 ds U/\cZ1 B a c w s i ds U wr) (λa' _=>600000-(intOf (a'.tmps.getD 10 undef)).toNat) ⟨0,ds,U,rfl,h0⟩ ?_;rintro a' wr ⟨i,ds,U,rfl,h⟩;refine round i ds U wr h _ (λds' U' w' h'=>⟨⟨i+1,ds',U',rfl,h'⟩,?_⟩);have e1:(uU B a c s b2 b3 b4 b5 b6 b7 b8 ds U).tmps.getD 10 undef=U.u10:=rfl;have e2:(uU B a c s b2 b3 b4 b5 b6 b7 b8 ds' U').tmps.getD 10 undef=U'.u10:=rfl;rw[e1,e2,h.u10,h'.u10]
 have:=h.le
 simp[intOf];omega
theorem tF0 (B:List ByteArray) (a:Option Addr) (c:Nat) (w:World) (ke:fZ0 (bls B)=0) (ha:∀q,a=some q->q.block<w.heap.size) (hB_:B.length<=20000) (cw:∀s∈B,s.size<=256) (aq:OkL (bls B)) (ac:aF w a 1 (B.map stC)) :
  Calls Tryz.prog 50 #[.slice a B.length c] w λe w' =>
   (524287<gB (bls B)->e=.returned (.tuple #[.pointer none,.int .i64 2])/\aB w w') /\
   (gB (bls B)<=524287->e=.returned (.tuple #[.pointer (some ⟨w.heap.size+2,0,none⟩),.int .i64 0])/\oB w' (w.heap.size+2) (bls B)/\aB w w'):=by
 have CK:Hid (∀u,aB w u->Calls Tryz.prog 117 #[.slice a B.length c] u λe w'=>e=.returned (.int .i64 0)/\u=w'):=λu hg=>by
  have h:=jN0 B a c u (by omega) (λs hs=>by have:=cw s hs;omega) (ac.grows hg);rw[ke]at h;exact h
 have HAT:=Aa ac;have HA:=Aa ha;have HSZ:=Aa cw;have HOK:=Aa aq;clear ac ha cw aq ke;refine(callsIn_wide (n:=12)).1 (callsIn_of_wp_marks Tryz.func50 rfl trivial (wpIn_wide.2 ?_));simp only[Tryz.ntmps50,Ax,An,Ba,Bf,Bg,As,At,Ay,Av,Bb,Az];have ml:=λ(Y:World)=>vN0 B.length Y (by omega);go_wp2_with (go_at_call 117;refine(CK.out _ (aB.alloc _ _)).mono ?_;rintro e w2 ⟨rfl,rfl⟩)
 clear CK ml;obtain⟨s,hs⟩:=exq w.heap.size;obtain⟨b2,dm⟩:=exq (w.heap.size+1);obtain⟨b3,gp⟩:=exq (w.heap.size+1+1);obtain⟨b4,px⟩:=exq (w.heap.size+1+1+1);obtain⟨b5,q9⟩:=exq (w.heap.size+1+1+1+1);obtain⟨b6,xo⟩:=exq (w.heap.size+1+1+1+1+1);obtain⟨b7,un⟩:=exq (w.heap.size+1+1+1+1+1+1);obtain⟨b8,hb8⟩:=exq (w.heap.size+1+1+1+1+1+1+1);rw[<-hb8,<-un,<-xo,<-q9,<-px,<-gp,<-dm,<-hs]
 have BST:Hid (∃vS vA,Bst w ((((((((w.alloc (.cells #[.slice a B.length c] 65)).alloc (.cells (madeCells #[.int .i64 0] B.length) 3)).alloc (.cells #[.pointer none,.pointer none,.slice none 0 0,.pointer none,.slice (some ⟨b2,0,none⟩) B.length B.length] 204)).alloc
   (.cells #[.pointer (some ⟨b3,0,none⟩)] 100)).alloc (.cells #[.bool true,.bool false] 4)).alloc (.cells #[.slice (some ⟨b5,0,none⟩) 2 2] 205)).alloc (.cells #[.int .i64 0,.int .i64 B.length,.int .i64 0] 208)).alloc (.cells #[.slice (some ⟨b7,0,none⟩) 1 1] 209))
   s B.length (.slice a B.length c) (lbD (bls B) 0 vS vA (.slice none 0 0) (.slice none 0 0) (.slice none 0 0) (qR (bls B) 0))):=by
  have h:=sU0 w B.length (.slice a B.length c) hB_ (b2:=b2) (b3:=b3) (b5:=b5) (b7:=b7) (by omega) (by omega) (by omega) (by omega);rw[<-hs]at h;refine⟨.slice (some ⟨b5,0,none⟩) 2 2,.slice (some ⟨b7,0,none⟩) 1 1,?_⟩
  have e:lbD (bls B) 0 (.slice (some ⟨b5,0,none⟩) 2 2) (.slice (some ⟨b7,0,none⟩) 1 1) (.slice none 0 0) (.slice none 0 0) (.slice none 0 0) (qR (bls B) 0) =
    { vS:=.slice (some ⟨b5,0,none⟩) 2 2,vA:=.slice (some ⟨b7,0,none⟩) 1 1,vL:=.slice none 0 0,vI:=.slice none 0 0,vD:=.slice none 0 0,sh:=[true,false],al:=[⟨0,B.length,0⟩],lab:=[],isl:=[],idl:=[],nd:=Af B.length 0 }:=by
   unfold lbD;rw[sE0,gJ]
   have e2:dX (rootS (bls B)) (fA (bls B)) (nodesA (bls B)) 0=[⟨0,B.length,0⟩]:=by
    unfold dX rootS;rw[gJ];rfl
   rw[e2];rfl
  rw[e];exact h
 generalize ((((((((w.alloc (.cells #[.slice a B.length c] 65)).alloc (.cells (madeCells #[.int .i64 0] B.length) 3)).alloc (.cells #[.pointer none,.pointer none,.slice none 0 0,.pointer none,.slice (some ⟨b2,0,none⟩) B.length B.length] 204)).alloc
   (.cells #[.pointer (some ⟨b3,0,none⟩)] 100)).alloc (.cells #[.bool true,.bool false] 4)).alloc (.cells #[.slice (some ⟨b5,0,none⟩) 2 2] 205)).alloc (.cells #[.int .i64 0,.int .i64 B.length,.int .i64 0] 208)).alloc (.cells #[.slice (some ⟨b7,0,none⟩) 1 1] 209))=W0 at BST ⊢
 have HS:=Aa hs;have HB2:Hid (b2=s+1):=by rw[hs];exact dm
 have HB3:Hid (b3=s+2):=by rw[hs];exact gp
 have HB4:Hid (b4=s+3):=by rw[hs];exact px
 have HB6:Hid (b6=s+5):=by rw[hs];exact xo
 have HB8:Hid (b8=s+7):=by rw[hs];exact hb8
 clear hs dm gp px q9 xo un hb8;refine bN1 (w:=w) (ds:=[]) (U:={ u7:=.slice none 0 0,u8:=.slice none 0 0,u10:=.int .i64 0,u11:=undef,u12:=undef,u13:=undef,u29:=undef,u30:=undef,u31:=undef,u32:=undef,u33:=undef,u34:=undef,u35:=undef,u36:=undef,u37:=undef,u38:=undef,u39:=undef,u40:=undef,u41:=undef,u42:=undef,u43:=undef,u44:=undef,u45:=undef,u46:=undef,u47:=undef,u48:=undef,u49:=undef,u50:=undef,u51:=undef,u52:=undef,u53:=undef,u54:=undef,u55:=undef,u56:=undef,u57:=undef,u58:=undef,u59:=undef,u60:=undef,u61:=undef,u62:=undef,u63:=undef,u64:=undef,u65:=undef,u66:=undef,u67:=undef,u68:=undef,u69:=undef,u70:=undef,u71:=undef,u72:=undef,u73:=undef,u74:=undef,u75:=undef,u76:=undef,u77:=undef,u78:=undef,u79:=undef,u80:=undef,u81:=undef,u82:=undef,u83:=undef,u84:=undef,u85:=undef,u86:=undef,u87:=undef,u88:=undef,u89:=undef,u90:=undef,u91:=undef,u92:=undef,u93:=undef,u94:=undef,u95:=undef,u96:=undef,u97:=undef,u98:=undef,u99:=undef,u100:=undef,u101:=undef,u102:=undef,u103:=undef,u104:=undef,u105:=undef,u106:=undef,u107:=undef }) ?start ?round
 case start =>
  obtain⟨vS,vA,h⟩:=BST.out;exact⟨rfl,Au _,jI.nil _ _,⟨vS,vA,_,h⟩,by rw[qQ0];omega⟩
 case round =>
  rintro i ds ⟨u7,u8,u10,u11,u12,u13,u29,u30,u31,u32,u33,u34,u35,u36,u37,u38,u39,u40,u41,u42,u43,u44,u45,u46,u47,u48,u49,u50,u51,u52,u53,u54,u55,u56,u57,u58,u59,u60,u61,u62,u63,u64,u65,u66,u67,u68,u69,u70,u71,u72,u73,u74,u75,u76,u77,u78,u79,u80,u81,u82,u83,u84,u85,u86,u87,u88,u89,u90,u91,u92,u93,u94,u95,u96,u97,u98,u99,u100,u101,u102,u103,u104,u105,u106,u107⟩ wr ⟨hu,hi,hM,hB,hO⟩ K hK;simp only at hu;subst hu;dsimp only[uU]
  dsimp only at hB
  have HM:=Aa hM;have HO:=Aa hO;obtain⟨vS,vA,vL,hB⟩:=hB;obtain⟨aA,cA,hvA,_,_,aa6⟩:=hB.oA.at_ hP0.len;simp only[lbD]at hvA;subst hvA;have an:(dX (rootS (bls B)) (fA (bls B)) (nodesA (bls B)) i).length=qQ (bls B) i:=rfl;obtain⟨N1,hN1⟩:=exq (qQ (bls B) i);have c8:=hB.b8.cell (o:=0) rfl;simp only[lbD]at c8;rw[an,<-hN1,<-HB8.out]at c8;have HBST:=Aa hB;have HN1:=Aa hN1;by_cases ae:i<N1
  case neg =>
   have fh:¬(i:Int)<N1:=by omega
   have hNi:(nodesA (bls B)).length<=i:=by
    rcases Bh i (nodesA (bls B)).length with h|h
    ·have:=HOK.out.off_gt h;omega
    ·exact h
   have htk:(nodesA (bls B)).take i=nodesA (bls B):=List.take_of_length_le hNi
   have za:qQ (bls B) i=(nodesA (bls B)).length:=by
    unfold qQ dX;rw[htk,<-HOK.out.fix]
   have ago:gB (bls B)<=524287:=by
    rw[<-iZ HOK.out.asc HOK.out.len,<-za];exact hO
   obtain⟨z1,z2,z3,z4,z5⟩:=HOK.out.sizes (by rw[gJ];exact hB_) ago;obtain⟨aS,cS,hvS,_,_,vd⟩:=hB.oS.at_ (enc:=nP) (λ_=>rfl);obtain⟨aI,cI,hvI,_,_,aa7⟩:=hB.oI.at_ (enc:=nP) (λ_=>rfl);obtain⟨aD,cD,hvD,_,_,aa8⟩:=hB.oD.at_ (enc:=kH) (λ_=>rfl);simp only[lbD,htk]at hvS hvI hvD vd aa7 aa8;obtain⟨SH,hSH⟩:=exq (shapeL (bls B) (nodesA (bls B)));obtain⟨IS,hIS⟩:=exq (isL (bls B) (nodesA (bls B)));obtain⟨ID,hID⟩:=exq (idsL (bls B) (nodesA (bls B)));rw[<-hSH]at z1 vd hvS;rw[<-hIS]at z2 aa7 hvI;rw[<-hID]at z4 z5 aa8 hvD
   have EE:Hid (LbE w wr s #[.pointer none,.pointer none,vL,.pointer none,.slice (some ⟨s+1,0,none⟩) B.length B.length] vL (.slice (some ⟨s+1,0,none⟩) B.length B.length) u7 u8 (labelsL (bls B) (nodesA (bls B))) (iP (bls B)) IS ID ds):=by
    have h2:=hB;unfold lbD at h2;rw[htk,HOK.out.ndTo_all hNi]at h2;rw[hIS,hID];exact⟨h2.b4,h2.b2,h2.oL,h2.oN,h2.oI,h2.oD,hM,h2.gr⟩
   have c6:wr.cell? ⟨b6,0,none⟩=some vS:=by rw[HB6.out];exact hB.b6.cell rfl
   have adg:b6<wr.heap.size:=by rw[HB6.out];exact hB.b6.lt
   subst hvS;subst hvI;subst hvD;have hss:w.heap.size<=s:=by rw[HS.out];exact Ad _
   have HSH:=Aa hSH;have HIS:=Aa hIS;have HID:=Aa hID;have HZ5:=Aa z5;clear aa6 hM hO an hNi htk za z3 z5 hSH hIS hID aa7 aa8 hN1 ae hB;go_wp2_with fail
   have se:=EE.out.b4.gr (aB.drew wr);obtain⟨T,hT⟩:∃T:Nat->Prop,T=λb=>b=b4\/b=b6:=⟨_,rfl⟩
   have fx:∀b,T b->b<wr.drew.heap.size:=λb hb=>by
    rw[hT]at hb;rcases hb with rfl|rfl
    ·rw[HB4.out];exact se.lt
    ·exact adg
   have ze:¬T b3:=λh=>by
    rw[hT]at h;have e3:=HB3.out;have e4:=HB4.out;have e6:=HB6.out;rcases h with h|h<;>omega
   have x4:∀y:Ext (bI T) wr.drew,y.u.cell? ⟨b4,0,none⟩=some (.pointer (some ⟨b3,0,none⟩)):=fG (by rw[hT];exact Or.inl rfl) (by rw[HB4.out,HB3.out];exact se.cell rfl);have x6:∀y:Ext (bI T) wr.drew,y.u.cell? ⟨b6,0,none⟩=some (.slice aS SH.length cS):=fG (by rw[hT];exact Or.inr rfl) ((aB.drew wr).cell c6);have HT:=Aa hT;clear hT se;refine lH ?_;refine qK (bI T) (bB 9 [2,8]) (bI.refl T) (kP T) (by kernel_rfl) (by kernel_rfl) (λd _ _ _ _ h=>by cases d<;>exact h) ?_
   iterate 2 (refine aO rfl (λK hK=>?_);go_simp;refine hK _ ?_;clear hK K)
   refine cH rfl rfl (λK hK=>?_);go_simp;refine(kA0 SH aS cS wr.drew z1 (vd.grows (aB.drew wr))).mono ?_;rintro e w1 ⟨rfl,jp,aj⟩;refine⟨bI.of_below aj fx,hK _ _ ?_⟩;clear hK K;iterate 5 (refine aO rfl (λK hK=>?_);go_simp;refine hK _ ?_;clear hK K)
   have E1:=(EE.out.grows (aB.drew wr)).grows aj;have c31:w1.cell? ⟨b3,0,none⟩=some (.pointer none):=by rw[HB3.out];exact E1.b3.cell rfl
   have f31:w1.frozen? ⟨b3,0,none⟩=false:=by rw[HB3.out];exact E1.b3.froz _
   refine cH rfl rfl (λK hK=>?_);go_simp;refine⟨bI.set ze _ _,hK _ _ ?_⟩;clear hK K;refine bU ?_;simp only[eH];obtain⟨sb,p4⟩:=exq (wr.drew.heap.size+1);have e1s:=E1.set hss 0 (.pointer (some ⟨sb,0,none⟩))
   have ve:lB (w1.setCell ⟨s+2,0,none⟩ (.pointer (some ⟨sb,0,none⟩))) sb SH:=by
    rw[<-p4]at jp
    exact iJ jp (rF _ _ _ _) (λh=>by
     have h1:sb=s+2:=h;have h2:=EE.out.b3.lt;have h3:wr.drew.heap.size=wr.heap.size:=rfl;omega) (kK E1.b3)
   obtain⟨V1,hV1⟩:=exq (w1.setCell ⟨b3,0,none⟩ (.pointer (some ⟨sb,0,none⟩)));rw[<-HB3.out,<-hV1]at e1s ve;have h6a:b6<V1.heap.size:=by rw[hV1];simp;exact Ak adg (Ae (Ad _) aj.size)
   try rw[show wr.heap.size+1=sb from p4.symm]
   try rw[<-p4]
   try rw[<-hV1]
   clear ze fx x4 x6 E1 c31 f31 jp aj hV1 p4 HT T vd c6;go_wp2_with fail
   have se:=e1s.b4.gr (aB.drew V1);obtain⟨T,hT⟩:∃T:Nat->Prop,T=λb=>b=b4\/b=b6:=⟨_,rfl⟩
   have fx:∀b,T b->b<V1.drew.heap.size:=λb hb=>by
    rw[hT]at hb;rcases hb with rfl|rfl
    ·rw[HB4.out];exact se.lt
    ·exact h6a
   have ze:¬T b3:=λh=>by
    rw[hT]at h;have e3:=HB3.out;have e4:=HB4.out;have e6:=HB6.out;rcases h with h|h<;>omega
   have x4:∀y:Ext (bI T) V1.drew,y.u.cell? ⟨b4,0,none⟩=some (.pointer (some ⟨b3,0,none⟩)):=fG (by rw[hT];exact Or.inl rfl) (by rw[HB4.out,HB3.out];exact se.cell rfl);have HT:=Aa hT;clear hT se;refine lH ?_;refine qK (bI T) (bB 9 [2,8]) (bI.refl T) (kP T) (by kernel_rfl) (by kernel_rfl) (λd _ _ _ _ h=>by cases d<;>exact h) ?_
   iterate 2 (refine aO rfl (λK hK=>?_);go_simp;refine hK _ ?_;clear hK K)
   refine cH rfl rfl (λK hK=>?_);go_simp;refine(kA0 IS aI cI V1.drew (by omega) (kC0 (λ_=>rfl) e1s.oI)).mono ?_;rintro e w2 ⟨rfl,gn,af⟩;refine⟨bI.of_below af fx,hK _ _ ?_⟩;clear hK K;iterate 5 (refine aO rfl (λK hK=>?_);go_simp;refine hK _ ?_;clear hK K)
   have E2:=(e1s.grows (aB.drew V1)).grows af;have c32:w2.cell? ⟨b3,1,none⟩=some (.pointer none):=by rw[HB3.out];exact E2.b3.cell rfl
   have f32:w2.frozen? ⟨b3,1,none⟩=false:=by rw[HB3.out];exact E2.b3.froz _
   refine cH rfl rfl (λK hK=>?_);go_simp;refine⟨bI.set ze _ _,hK _ _ ?_⟩;clear hK K;refine bU ?_;simp only[eH];obtain⟨ib,zf⟩:=exq (V1.drew.heap.size+1);have e2s:=E2.set hss 1 (.pointer (some ⟨ib,0,none⟩))
   have vf:lB (w2.setCell ⟨s+2,1,none⟩ (.pointer (some ⟨ib,0,none⟩))) ib IS:=by
    rw[<-zf]at gn
    exact iJ gn (rF _ _ _ _) (λh=>by
     have h1:ib=s+2:=h;have h2:=e1s.b3.lt;have h3:V1.drew.heap.size=V1.heap.size:=rfl;omega) (kK E2.b3)
   have zg:sb≠s+2:=λh=>by
    have hc:=ve.c0;have h2:=e1s.b3;rw[h]at hc;have h3:=h2.cell (o:=0) (v:=.pointer (some ⟨sb,0,none⟩)) rfl;rw[hc]at h3;cases h3
   have aa9:lB (w2.setCell ⟨s+2,1,none⟩ (.pointer (some ⟨ib,0,none⟩))) sb SH:=iJ ((ve.grows (aB.drew V1)).grows af) (rF _ _ _ _) zg (kK E2.b3);obtain⟨V2,pg⟩:=exq (w2.setCell ⟨b3,1,none⟩ (.pointer (some ⟨ib,0,none⟩)));rw[<-HB3.out,<-pg]at e2s vf aa9;have h6b:b6<V2.heap.size:=by rw[pg];simp;exact Ak h6a (Ae (Ad _) af.size)
   try rw[show V1.heap.size+1=ib from zf.symm]
   try rw[<-zf]
   try rw[<-pg]
   clear ze fx x4 E2 c32 f32 gn af pg zf HT T e1s ve;go_wp2_with fail
   have se:=e2s.b4.gr (aB.drew V2);obtain⟨T,hT⟩:∃T:Nat->Prop,T=λb=>b=b4\/b=b6:=⟨_,rfl⟩
   have fx:∀b,T b->b<V2.drew.heap.size:=λb hb=>by
    rw[hT]at hb;rcases hb with rfl|rfl
    ·rw[HB4.out];exact se.lt
    ·exact h6b
   have ze:¬T b3:=λh=>by
    rw[hT]at h;have e3:=HB3.out;have e4:=HB4.out;have e6:=HB6.out;rcases h with h|h<;>omega
   have x4:∀y:Ext (bI T) V2.drew,y.u.cell? ⟨b4,0,none⟩=some (.pointer (some ⟨b3,0,none⟩)):=fG (by rw[hT];exact Or.inl rfl) (by rw[HB4.out,HB3.out];exact se.cell rfl);have HT:=Aa hT;clear hT se;refine lH ?_;refine qK (bI T) (bB 9 [2,8]) (bI.refl T) (kP T) (by kernel_rfl) (by kernel_rfl) (λd _ _ _ _ h=>by cases d<;>exact h) ?_
   iterate 2 (refine aO rfl (λK hK=>?_);go_simp;refine hK _ ?_;clear hK K)
   refine cH rfl rfl (λK hK=>?_);go_simp;refine(cM0 ID aD cD V2.drew (by omega) (λm hm=>by have:=HZ5.out m hm;omega) (kC0 (λ_=>rfl) e2s.oD)).mono ?_;rintro e w3 ⟨rfl,hv3,bg⟩;refine⟨bI.of_below bg fx,hK _ _ ?_⟩;clear hK K;iterate 5 (refine aO rfl (λK hK=>?_);go_simp;refine hK _ ?_;clear hK K)
   have E3:=(e2s.grows (aB.drew V2)).grows bg;have c33:w3.cell? ⟨b3,3,none⟩=some (.pointer none):=by rw[HB3.out];exact E3.b3.cell rfl
   have f33:w3.frozen? ⟨b3,3,none⟩=false:=by rw[HB3.out];exact E3.b3.froz _
   refine cH rfl rfl (λK hK=>?_);go_simp;refine⟨bI.set ze _ _,hK _ _ ?_⟩;clear hK K;refine bU ?_;simp only[eH];obtain⟨pb,kc⟩:=exq V2.drew.heap.size;have lu:=E3.set hss 3 (.pointer (some ⟨pb,0,none⟩))
   have aba:gA0 (w3.setCell ⟨s+2,3,none⟩ (.pointer (some ⟨pb,0,none⟩))) pb ID:=by
    rw[<-kc]at hv3
    exact kM0 hv3 (rF _ _ _ _) (λh=>by
     have h1:pb=s+2:=h;have h2:=e2s.b3.lt;have h3:V2.drew.heap.size=V2.heap.size:=rfl;omega) (kK E3.b3)
   have ab0:ib≠s+2:=λh=>by
    have hc:=vf.c0;have h2:=e2s.b3;rw[h]at hc;have h3:=h2.cell (o:=0) (v:=.pointer (some ⟨sb,0,none⟩)) rfl;rw[hc]at h3;cases h3
   have abb:lB (w3.setCell ⟨s+2,3,none⟩ (.pointer (some ⟨pb,0,none⟩))) sb SH:=iJ ((aa9.grows (aB.drew V2)).grows bg) (rF _ _ _ _) zg (kK E3.b3);have abc:lB (w3.setCell ⟨s+2,3,none⟩ (.pointer (some ⟨pb,0,none⟩))) ib IS:=iJ ((vf.grows (aB.drew V2)).grows bg) (rF _ _ _ _) ab0 (kK E3.b3);obtain⟨V3,hV3⟩:=exq (w3.setCell ⟨b3,3,none⟩ (.pointer (some ⟨pb,0,none⟩)));rw[<-HB3.out,<-hV3]at lu aba abc abb;have c4f:V3.cell? ⟨b4,0,none⟩=some (.pointer (some ⟨b3,0,none⟩)):=by rw[HB4.out,HB3.out];exact lu.b4.cell rfl
   try rw[show V2.heap.size=pb from kc.symm]
   try rw[<-kc]
   try rw[<-hV3]
   clear ze fx x4 E3 c33 f33 hv3 bg hV3 kc HT T e2s aa9 vf;go_wp2_with fail
   refine mP (ds:=ds) (lo:=s) lu.mks λw' ld dm gp=>⟨.tuple #[.pointer (some ⟨b3,0,none⟩),.int .i64 0],by simp[results,Tryz.results50,go_sem],λcr=>by omega,λ_=>⟨by rw[HB3.out,HS.out],?_,uM lu.gr lu.mks HS.out ld dm gp⟩⟩
   have ho:bR1 V3 w' (λk=>k∈ds):=ld
   have ce:∀(o:Nat) (v:Value),(#[.pointer (some ⟨sb,0,none⟩),.pointer (some ⟨ib,0,none⟩),vL,.pointer (some ⟨pb,0,none⟩),.slice (some ⟨s+1,0,none⟩) B.length B.length]:Array Value)[o]?=some v->w'.cell? ⟨s+2,o,none⟩=some v:=λo v hv=>by
    have hc:V3.cell? ⟨s+2,o,none⟩=some v:=lu.b3.cell hv;exact kT hc ho (pH lu.mks hc)
   rw[<-HS.out];have hb0:∀ {e:TypeId} {k:Nat} {α:Type} {enc:α->List Value} {v:Value} {xs:List α},aU V3 s e k enc v xs->aU w' 0 e k enc v xs:=λh=>(wY h ho (zI lu.mks _)).base (Au _)
   exact⟨⟨sb,ce 0 _ rfl,by rw[<-HSH.out];exact iJ abb ho (pH lu.mks abb.c0) (oT lu.mks)⟩,⟨ib,ce 1 _ rfl,by rw[<-HIS.out];exact iJ abc ho (pH lu.mks abc.c0) (oT lu.mks)⟩,
    ⟨vL,ce 2 _ rfl,(wY lu.oL ho (zI lu.mks _)).base (show s+2-2<=s by omega)⟩,⟨pb,ce 3 _ rfl,by rw[<-HID.out];exact kM0 aba ho (pH lu.mks aba.c0) (oT lu.mks)⟩,⟨_,ce 4 _ rfl,hb0 lu.oN⟩⟩
  case pos =>
   have fh:(i:Int)<N1:=by omega
   have hiN:i<(nodesA (bls B)).length:=by have:=HOK.out.off_le i;omega
   obtain⟨x,hx⟩:∃x,(nodesA (bls B))[i]?=some x:=⟨_,Ab hiN⟩;have th:(dX (rootS (bls B)) (fA (bls B)) (nodesA (bls B)) i)[i]?=some x:=by rw[eZ0 HOK.out.fix (by rw[an];omega)];exact hx
   obtain⟨bA,oA,rfl,hcA⟩:=aF.get (enc:=yE) aa6 (Ah (Ag th));have e0:=hcA i x th 0 _ rfl;have e1:=hcA i x th 1 _ rfl;have e2:=hcA i x th 2 _ rfl;rw[Nat.add_zero]at e0;have aif:N1<=524287:=by rw[hN1];exact hO
   have c1:∀o,(wr.alloc o).cell? ⟨s,0,none⟩=some (.slice a B.length c):=λo=>(hB.al o).b1.cell rfl;have HX:=Aa hx;clear aa6 hcA hx th hB hM hO hN1 an;go_wp2_with (go_at_call 118;refine(uO0 x a B.length c _).mono ?_;rintro e w2 ⟨rfl,rfl⟩)
   have hB:=HBST.out;have gk:s<=wr.heap.size:=by rw[HS.out];exact hB.gr.size
   obtain⟨xb,th⟩:=exq wr.heap.size;obtain⟨kb,hkb⟩:=exq (wr.heap.size+1);obtain⟨lb,pe⟩:=exq (wr.heap.size+1+1);rw[<-pe,<-hkb,<-th];obtain⟨Wb,zh⟩:=exq (((wr.alloc (.cells #[.int .i64 x.i,.int .i64 x.t,.int .i64 x.d] 208)).alloc (.cells #[.int .i64 x.i,.int .i64 x.t,.int .i64 x.d] 208)).alloc (.cells #[.slice a B.length c] 65));rw[<-zh];have agp:Wb.heap.size=wr.heap.size+1+1+1:=by rw[zh];simp
   have TX:TB Wb xb #[.int .i64 x.i,.int .i64 x.t,.int .i64 x.d] 208:=by
    rw[zh,th];exact((TB.alloc wr _ _).keep (Ac _ _ none) (RT.none _ _) (by decide:(Option.none:Option TypeId)≠_)).keep (Ac _ _ none) (RT.none _ _) (by decide:(Option.none:Option TypeId)≠_)
   have TK:TB Wb kb #[.int .i64 x.i,.int .i64 x.t,.int .i64 x.d] 208:=by
    rw[zh,hkb]
    have:=(TB.alloc (wr.alloc (.cells #[.int .i64 x.i,.int .i64 x.t,.int .i64 x.d] 208)) #[.int .i64 x.i,.int .i64 x.t,.int .i64 x.d] 208).keep (Ac _ (.cells #[.slice a B.length c] 65) none) (RT.none _ _) (by decide:(Option.none:Option TypeId)≠_)
    rwa [Ao]at this
   have TL:TB Wb lb #[.slice a B.length c] 65:=by
    rw[zh,pe]
    have:=TB.alloc ((wr.alloc (.cells #[.int .i64 x.i,.int .i64 x.t,.int .i64 x.d] 208)).alloc (.cells #[.int .i64 x.i,.int .i64 x.t,.int .i64 x.d] 208)) #[.slice a B.length c] 65
    rwa [Ao,Ao]at this
   have HBb:Hid (Bst w Wb s B.length (.slice a B.length c) (lbD (bls B) i vS (.slice (some ⟨bA,oA,none⟩) N1 cA) vL u7 u8 (qR (bls B) i))):=by
    rw[zh];have h:=((hB.al (.cells #[.int .i64 x.i,.int .i64 x.t,.int .i64 x.d] 208)).al (.cells #[.int .i64 x.i,.int .i64 x.t,.int .i64 x.d] 208)).al (.cells #[.slice a B.length c] 65);rw[show (dX (rootS (bls B)) (fA (bls B)) (nodesA (bls B)) i).length=N1 from HN1.out.symm]at h
    exact h
   have td:jI Wb s ds:=by
    rw[zh];exact((HM.out.grown (row:=none) (Ac _ _ _) (λ_ _ e=>by cases e)).grown (row:=none) (Ac _ _ _) (λ_ _ e=>by cases e)).grown (row:=none) (Ac _ _ _) (λ_ _ e=>by cases e)
   have ab1:bA<wr.heap.size:=by
    have:=lT hB.oA bA rfl
    exact this
   have HHS:=Aa (show s<=wr.heap.size from gk)
   have hxk:bA≠xb/\bA≠kb/\kb<Wb.heap.size/\lb<Wb.heap.size/\s<=Wb.heap.size:=⟨by omega,by omega,by omega,by omega,by omega⟩;clear th hkb pe agp gk ab1;clear zh hB e0 e1 e2 c1 c8;obtain⟨S,hS⟩:∃S:Nat->Prop,S=λb=>b<s\/b=kb\/b=lb:=⟨_,rfl⟩
   have abd:∀b,S b->b<Wb.heap.size:=λb hb=>by
    rw[hS]at hb;rcases hb with h|h|h<;>omega
   have mn:=HOK.out.good HX.out;have hSW:∀q,a=some q->S q.block:=λq hq=>by rw[hS];exact Or.inl (by rw[HS.out];exact HA.out q hq)
   have agq:aF Wb a 1 (B.map stC):=HAT.out.grows HBb.out.gr;have KS:=oP0 11 B a c kb lb x S Wb hB_ HSZ.out HOK.out.asc mn (by rw[hS];exact Or.inr (Or.inl rfl)) (by rw[hS];exact Or.inr (Or.inr rfl)) hSW abd (TK.cell rfl) (TK.cell rfl) (TK.cell rfl) (TL.cell rfl) agq;refine(wpIn_wide (n:=12)).1 ?_
   refine wpIn_rangeFunc_ownH (F:=Fence.wide) (n:=12) (α:=wH (bls B) x) rfl (by decide) (gf:=182) (lb:=#[.pointer (some ⟨kb,0,none⟩),.pointer (some ⟨lb,0,none⟩)]) rfl trivial (enters_of Tryz.func182 (by kernel_rfl) rfl) KS
    (λh k=>h.tr k) (λW l o o' hl ho hc hw b hb=>Ap (λe=>by have:=abd b hb;omega)) (Below.refl _ _) (λ_=>rfl)
    (λpre W=>∃j6 n5 j7,LbJ w s B.length (.slice a B.length c) ds xb kb lb Wb.heap.size x (lbK (bls B) i x (pre.map (λy=>y.1)) j6 n5 j7 u7 u8) W)
    (λ_ _ _=>False) ?hI (λ_ _ _ _ _ h _ _=>h) ?h0
    (λy a' W=>∃Bx v,Wb.heap.size<=Bx/\TB W Bx #[.int .i64 y.1.i,.int .i64 y.1.t,.int .i64 y.1.d] 208/\TB W (s+7) #[v] 209/\v.ownBlock≠some Bx /\
     a'={ tmps:=(uU B a c s b2 b3 b4 b5 b6 b7 b8 ds { u7:=u7,u8:=u8,u10:=.int .i64 i,u11:=.pointer (some ⟨xb,0,none⟩),u12:=.pointer (some ⟨Bx,0,none⟩),u13:=u13,u29:=.int .i64 i,u30:=.slice (some ⟨bA,oA,none⟩) N1 cA,u31:=.int .i64 N1,u32:=.bool true,u33:=u33,u34:=u34,u35:=.slice (some ⟨bA,oA,none⟩) N1 cA,u36:=.int .i64 i,u37:=.pointer (some ⟨bA,oA+i*3,none⟩),u38:=.agg #[.int .i64 x.i,.int .i64 x.t,.int .i64 x.d],u39:=.agg #[.int .i64 x.i,.int .i64 x.t,.int .i64 x.d],u40:=.slice a B.length c,u41:=.func (.func 182) #[] #[.pointer (some ⟨kb,0,none⟩),.pointer (some ⟨lb,0,none⟩)],u42:=.agg #[.int .i64 y.1.i,.int .i64 y.1.t,.int .i64 y.1.d],u43:=u43,u44:=u44,u45:=u45,u46:=u46,u47:=u47,u48:=u48,u49:=u49,u50:=u50,u51:=u51,u52:=u52,u53:=u53,u54:=u54,u55:=u55,u56:=u56,u57:=u57,u58:=u58,u59:=u59,u60:=u60,u61:=u61,u62:=u62,u63:=u63,u64:=u64,u65:=u65,u66:=u66,u67:=u67,u68:=u68,u69:=u69,u70:=u70,u71:=u71,u72:=u72,u73:=u73,u74:=u74,u75:=u75,u76:=u76,u77:=u77,u78:=u78,u79:=u79,u80:=u80,u81:=u81,u82:=u82,u83:=u83,u84:=u84,u85:=u85,u86:=u86,u87:=u87,u88:=u88,u89:=u89,u90:=u90,u91:=u91,u92:=u92,u93:=u93,u94:=u94,u95:=u95,u96:=u96,u97:=u97,u98:=u98,u99:=u99,u100:=u100,u101:=u101,u102:=u102,u103:=u103,u104:=u104,u105:=u105,u106:=u106,u107:=u107 }).tmps,defers:=[] }) ?hAx ?assign ?body ?done ?stop
   case hI =>
    rintro pre V V' row ⟨j6,n5,j7,h⟩ hg hr;exact⟨j6,n5,j7,h.other hg (RT.of_not λq e=>(hr q e).2) (λq e=>by have:=(hr q e).1;omega) (λD hD e=>by have h1:=(hr D e).1;have h2:=(Array.getElem?_eq_some_iff.1 (td.at_ D hD).2).1;omega)⟩
   case h0 =>
    refine⟨vS,.slice (some ⟨bA,oA,none⟩) N1 cA,vL,?_,TX,TK,TL,λe=>?_,λe=>?_,td,Ad _⟩
    ·have h:=HBb.out
     simpa [lbD,lbK] using h
    ·have e1:some bA=some xb:=e
     exact hxk.1 (Option.some.inj e1)
    ·have e1:some bA=some kb:=e
     exact hxk.2.1 (Option.some.inj e1)
   case hAx =>
    rintro y a' _ V V' row ⟨Bx,v,k1,k2,k3,k4,k5⟩ hg hr;exact⟨Bx,v,k1,k2.keep hg (RT.of_not λq e=>(hr q e).2) (by decide),k3.keep hg (RT.of_not λq e=>(hr q e).2) (by decide),k4,k5⟩
   case assign =>
    rintro l pre y V K2 ⟨j6,n5,j7,h⟩ l9;dsimp only[cW0]
    gi_wp2
    exact l9 _ _ ((KeepsOthers.alloc _ _).from _) (bI.alloc (λb hb=>Ak (abd b hb) h.sz) _) ⟨j6,n5,j7,h.al _⟩ ⟨V.heap.size,n5,h.sz,TB.alloc _ _ _,(h.al _).st.b8,λe=>absurd (lT h.st.oA _ e) (Nat.lt_irrefl _),rfl⟩
   case body =>
    rintro l pre y a' V hl aig ⟨j6,n5,j7,h⟩ ⟨Bx,v,k1,TC,kb8,kne,rfl⟩ an
    obtain rfl:n5=v:=by
     have e1:=h.st.b8;unfold TB at e1 kb8;dsimp only[lbK]at e1
     rw[e1]at kb8;simpa using kb8
    have HYK:=y.2;obtain⟨gy,hyd,lf,hy2⟩:=(uN HOK.out.asc mn).mem y.1 HYK;have agr:y.1.i<y.1.t:=by rcases gy.ne with h|h<;>omega
    have hyB:y.1.i<B.length:=by have:=gy.le;rw[gJ]at this;omega
    obtain⟨sI,o0⟩:∃s,B[y.1.i]?=some s:=⟨_,Ab hyB⟩
    have hxd:x.d<sI.size:=by
     have:=gy.len y.1.i (Ad _) agr
     rw[dO o0,gS,hyd]at this;omega
    have rz:mU (bls B) x y.1=sI[x.d]:=by
     unfold mU;rw[dO o0,List.getD_eq_getElem?_getD,qJ hxd];rfl
    clear hyd lf hy2 gy;obtain⟨sb,so,rfl,cn⟩:=at1 (f:=λs:ByteArray=>Value.string s) (HAT.out.grows h.st.gr) (Ah (Ag o0));have ags:sb<s:=by rw[HS.out];exact HA.out _ rfl
    have HPL:Hid (pre.length+qQ (bls B) i<6000000/\(shapeL (bls B) ((nodesA (bls B)).take i)).length<=2000000/\(labelsL (bls B) ((nodesA (bls B)).take i)).length<=1000000):=by
     have h1:=HOK.out.off_le (i+1);rw[mB HX.out]at h1;have h2:=HOK.out.many (by rw[gJ];exact hB_);have h3:=fM (bls B) i (by have:=(List.getElem?_eq_some_iff.1 HX.out).1;omega);have h4:=hJ0 (bls B) i;have h5:=HO.out;show _/\_/\_
     omega
    have c6:V.cell? ⟨b6,0,none⟩=some j6:=by rw[HB6.out];exact h.st.b6.cell rfl
    obtain⟨Ls,vg⟩:=exq (shapeL (bls B) ((nodesA (bls B)).take i)++Af (pre.map (λy=>y.1)).length true);obtain⟨Ll,hLl⟩:=exq (labelsL (bls B) ((nodesA (bls B)).take i)++(pre.map (λy=>y.1)).map (mU (bls B) x));obtain⟨La,hLa⟩:=exq (dX (rootS (bls B)) (fA (bls B)) (nodesA (bls B)) i++pre.map (λy=>y.1));have oS:aU V s 4 1 nP j6 Ls:=by rw[vg];exact h.st.oS
    have ab2:Ls.length+1<=9000000/\Ll.length+1<=9000000/\La.length+1<=9000000:=by
     have:=HPL.out
     rw[vg,hLl,hLa];simp only[Ai,Ar,Aq];have e1:(dX (rootS (bls B)) (fA (bls B)) (nodesA (bls B)) i).length=qQ (bls B) i:=rfl;omega
    have HLS:=Aa vg;have HLL:=Aa hLl;have HLA:=Aa hLa;clear vg hLl hLa;have hsV:s<=V.heap.size:=Ae hxk.2.2.2.2 h.sz;dsimp only[uU]
    refine wpIn_block ?_;refine wpIn_seq_k λK1 hK1=>?_;refine yI0 (by rintro⟨_,_,h⟩;exact h) (by kernel_rfl) ?_;go_wp2_with (at_builtin;refine eZ wP rfl _ _ rfl s j6 _ true rfl oS (aB.refl _) _ 1 rfl #[.bool true] rfl rfl (by omega) hsV ?_;intro v5 w5 ho5 bk yh _;obtain⟨g5,p5,rfl⟩:=qI ho5;have p8:=h.pushS ho5 bk yh;have c6b:w5.cell? ⟨b6,0,none⟩=some j6:=(by rw[HB6.out];exact p8.2.2.2.cell rfl);have f6b:w5.frozen? ⟨b6,0,none⟩=false:=(by rw[HB6.out];exact p8.2.2.2.froz 0))
    obtain⟨V2,pg⟩:=exq (w5.setCell ⟨b6,0,none⟩ (.slice (some ⟨g5,0,none⟩) (Ls.length+1) p5));have J5:=p8.1;have KF5:=p8.2.1;have TC2:=p8.2.2.1 _ _ TC;rw[<-HB6.out,<-pg]at J5 KF5 TC2;rw[<-pg];clear p8 pg c6 c6b f6b oS ho5 bk yh TC kb8 cn;have J5d:=J5.dr;have q4:V2.drew.cell? ⟨b4,0,none⟩=some (.pointer (some ⟨b3,0,none⟩)):=by rw[HB4.out,HB3.out];exact J5d.st.b4.cell rfl
    have q3:V2.drew.cell? ⟨b3,2,none⟩=some j7:=by rw[HB3.out];exact J5d.st.b2.cell rfl
    have q1:V2.drew.cell? ⟨s,0,none⟩=some (.slice (some ⟨sb,so,none⟩) B.length c):=J5d.st.b1.cell rfl;have qc:V2.drew.cell? ⟨Bx,0,none⟩=some (.int .i64 y.1.i):=(aB.drew V2).cell (TC2.cell rfl);have qx:V2.drew.cell? ⟨xb,2,none⟩=some (.int .i64 x.d):=J5d.tx.cell rfl
    have qs:V2.drew.cell? ⟨sb,so+y.1.i,none⟩=some (.string sI):=by
     obtain⟨sb',so',e,cn⟩:=at1 (f:=λs:ByteArray=>Value.string s) (HAT.out.grows J5d.st.gr) (Ah (Ag o0));have e1:sb=sb'/\so=so':=by simpa using e
     rw[e1.1,e1.2];exact cn _ _ o0
    obtain⟨T,hT⟩:∃T:Nat->Prop,T=λb=>b=b4\/b=b3\/b=s\/b=Bx\/b=xb\/b<s:=⟨_,rfl⟩;have TCd:TB V2.drew Bx #[.int .i64 y.1.i,.int .i64 y.1.t,.int .i64 y.1.d] 208:=TC2;have b4d:TB V2.drew b4 #[.pointer (some ⟨s+2,0,none⟩)] 100:=by rw[HB4.out];exact J5d.st.b4
    have b3d:TB V2.drew b3 #[.pointer none,.pointer none,j7,.pointer none,.slice (some ⟨s+1,0,none⟩) B.length B.length] 204:=by rw[HB3.out];exact J5d.st.b2
    have fx:∀b,T b->b<V2.drew.heap.size:=λb hb=>by
     rw[hT]at hb;rcases hb with rfl|rfl|rfl|rfl|rfl|hb
     ·exact b4d.lt
     ·exact b3d.lt
     ·exact J5d.st.b1.lt
     ·exact TCd.lt
     ·exact J5d.tx.lt
     ·have:=J5d.st.b1.lt;omega
    have hTr:∀b,T b->j7.ownBlock≠some b:=λb hb=>by
     have hr:RT V2.drew j7.ownBlock (some 5):=RT.own J5d.st.oL;rw[hT]at hb;rcases hb with rfl|rfl|rfl|rfl|rfl|hb
     ·exact b4d.ne_row hr (by decide)
     ·exact b3d.ne_row hr (by decide)
     ·exact J5d.st.b1.ne_row hr (by decide)
     ·exact TCd.ne_row hr (by decide)
     ·exact J5d.tx.ne_row hr (by decide)
     ·intro e
      have:=bE J5d.st.oL b e
      omega
    have z4:∀x:Ext (bI T) V2.drew,x.u.cell? ⟨b4,0,none⟩=some (.pointer (some ⟨b3,0,none⟩)):=fG (by rw[hT];exact Or.inl rfl) q4;have z3:∀x:Ext (bI T) V2.drew,x.u.cell? ⟨b3,2,none⟩=some j7:=fG (by rw[hT];exact Or.inr (Or.inl rfl)) q3;have z1:∀x:Ext (bI T) V2.drew,x.u.cell? ⟨s,0,none⟩=some (.slice (some ⟨sb,so,none⟩) B.length c):=fG (by rw[hT];exact Or.inr (Or.inr (Or.inl rfl))) q1;have zc:∀x:Ext (bI T) V2.drew,x.u.cell? ⟨Bx,0,none⟩=some (.int .i64 y.1.i):=fG (by rw[hT];exact Or.inr (Or.inr (Or.inr (Or.inl rfl)))) qc;have zx:∀z:Ext (bI T) V2.drew,z.u.cell? ⟨xb,2,none⟩=some (.int .i64 x.d):=fG (by rw[hT];exact Or.inr (Or.inr (Or.inr (Or.inr (Or.inl rfl))))) qx;have zs:∀x:Ext (bI T) V2.drew,x.u.cell? ⟨sb,so+y.1.i,none⟩=some (.string sI):=fG (by rw[hT];exact Or.inr (Or.inr (Or.inr (Or.inr (Or.inr ags))))) qs;have hyi:(y.1.i:Int)<B.length:=by omega
    have aih:(x.d:Int)<sI.size:=by omega
    have HT:=Aa hT;clear hT q4 q3 q1 qc qx qs;refine wpIn_seq_k λK2 l9=>?_;refine cC1 (bI T) 15 (bB 15 [13,14]) (by rintro⟨_,_,h⟩;exact h) (by kernel_rfl) (bI.refl T) (kP T) (by kernel_rfl) (by kernel_rfl) (λd _ _ _ _ h=>by cases d<;>exact h) ?_
    iterate 13 (refine aO rfl (λK hK=>?_);go_simp;refine hK _ ?_;clear hK K)
    refine cH rfl rfl (λK hK=>?_);go_simp;refine⟨bI.alloc fx _,hK _ _ ?_⟩;clear hK K;refine cH rfl rfl (λK hK=>?_);have oL:aU V2.drew s 5 1 aV j7 Ll:=by rw[HLL.out];exact J5d.st.oL
    refine pD0 bF _ _ rfl s j7 Ll sI[x.d] rfl oL V2.drew.heap.size 1 rfl #[.int .u8 (sI[x.d].toNat:Nat)] rfl rfl (by omega) (Ae hsV (Ae KF5.size (Ad _))) ?_;intro v6 w6 ho6 dd _;have hJ6:=J5d.pushL ho6 dd;obtain⟨g6,p6,rfl⟩:=qI ho6;refine⟨λb hb=>?_,hK _ _ ?_⟩
    ·have e1:=dd.block b (fx b hb) (λe=>hTr b hb e.symm)
     have e2:=bI.alloc fx (.cells #[.int .u8 (sI[x.d].toNat:Nat)] 5) b hb;rw[e1,<-e2];rfl
    clear hK K z4 z3 z1 zc zx zs;refine bU ?_;have c3b:w6.cell? ⟨b3,2,none⟩=some j7:=by rw[HB3.out];exact hJ6.2.2.2.cell rfl
    have f3b:w6.frozen? ⟨b3,2,none⟩=false:=by rw[HB3.out];exact hJ6.2.2.2.froz 2
    simp only[Aw,Bd];go_wp2_with fail
    obtain⟨V3,hV3⟩:=exq (w6.setCell ⟨b3,2,none⟩ (.slice (some ⟨g6,0,none⟩) (Ll.length+1) p6));have J6:=hJ6.1;have KF6:=hJ6.2.1;have TC3:=hJ6.2.2.1 _ _ TCd;rw[<-HB3.out,<-hV3]at J6 KF6 TC3;rw[<-hV3];have agt:s<=V3.heap.size:=Ae hxk.2.2.2.2 J6.sz;clear hJ6 hV3 c3b f3b oL ho6 dd TCd b4d b3d fx hTr J5d;have c8:V3.cell? ⟨b8,0,none⟩=some n5:=by rw[HB8.out];exact J6.st.b8.cell rfl
    have y0:V3.cell? ⟨Bx,0,none⟩=some (.int .i64 y.1.i):=TC3.cell rfl;have y1:V3.cell? ⟨Bx,1,none⟩=some (.int .i64 y.1.t):=TC3.cell rfl;have y2:V3.cell? ⟨Bx,2,none⟩=some (.int .i64 y.1.d):=TC3.cell rfl;have oA3:aU V3 s 208 3 yE n5 La:=by rw[HLA.out];exact J6.st.oA
    refine yI0 (by rintro⟨_,_,h⟩;exact h) (by kernel_rfl) ?_;go_wp2_with (at_builtin;refine eZ hP0 rfl _ _ rfl s n5 La y.1 rfl oA3 (aB.refl _) _ 1 rfl #[.int .i64 y.1.i,.int .i64 y.1.t,.int .i64 y.1.d] rfl rfl (by omega) agt ?_;intro v7 w7 zi dx hf7 _;have hJ7:=J6.pushA zi dx hf7;obtain⟨g7,p7,rfl⟩:=qI zi;have c8b:w7.cell? ⟨b8,0,none⟩=some n5:=(by rw[HB8.out];exact hJ7.2.2.cell rfl);have f8b:w7.frozen? ⟨b8,0,none⟩=false:=(by rw[HB8.out];exact hJ7.2.2.froz 0))
    have J7:=hJ7.1
    have E7:({ ({ ({ (lbK (bls B) i x (pre.map (λy=>y.1)) j6 n5 j7 u7 u8) with vS:=.slice (some ⟨g5,0,none⟩) (Ls.length+1) p5,sh:=Ls++[true] }:BD) with vL:=.slice (some ⟨g6,0,none⟩) (Ll.length+1) p6,lab:=Ll++[sI[x.d]] }:BD) with vA:=.slice (some ⟨g7,0,none⟩) (La.length+1) p7,al:=La++[y.1] }:BD) =
      lbK (bls B) i x ((pre++[y]).map (λy=>y.1)) (.slice (some ⟨g5,0,none⟩) (Ls.length+1) p5) (.slice (some ⟨g7,0,none⟩) (La.length+1) p7) (.slice (some ⟨g6,0,none⟩) (Ll.length+1) p6) u7 u8:=by
     have e1:Ls++[true]=shapeL (bls B) ((nodesA (bls B)).take i)++Af ((pre++[y]).map (λy=>y.1)).length true:=by
      rw[HLS.out,Am,Aj,Ai];show _++(Af _ true++[true])=_++Af (_+1) true
      rw[List.replicate_succ']
     have e2:Ll++[sI[x.d]]=labelsL (bls B) ((nodesA (bls B)).take i)++((pre++[y]).map (λy=>y.1)).map (mU (bls B) x):=by
      rw[HLL.out,Am,Aj,Aj,<-rz];rfl
     have e3:La++[y.1]=dX (rootS (bls B)) (fA (bls B)) (nodesA (bls B)) i++(pre++[y]).map (λy=>y.1):=by
      rw[HLA.out,Am,Aj];rfl
     unfold lbK;simp only[e1,e2,e3]
    rw[E7]at J7;have KF7:=hJ7.2.1;rw[<-HB8.out]at J7 KF7;exact⟨((KF5.trans ((KeepsOthers.drew V2).from _)).trans KF6).trans KF7,h.keepB J7,_,_,_,J7⟩
   case stop =>
    rintro D c pre W _ _ h _;exact h.elim
   case done =>
    rintro D xs V hD hxs ⟨j6,n5,j7,J⟩ hKD;rw[hxs]at J
    have MK:Hid (jI V s (D::ds)):=⟨λD' hD'=>by
     rcases List.mem_cons.1 hD' with rfl|h
     ·exact⟨Ae hxk.2.2.2.2 hD,hKD⟩
     ·exact J.mks.at_ D' h,List.nodup_cons.2 ⟨λff=>by have:=(Array.getElem?_eq_some_iff.1 (td.at_ D ff).2).1;omega,td.nodup⟩⟩
    have vh:=mB HX.out;obtain⟨N2,hN2⟩:=exq (qQ (bls B) (i+1));obtain⟨aA',cA',adh,_,_,zj⟩:=J.st.oA.at_ hP0.len;dsimp only[lbK]at adh
    subst adh
    have ll:(dX (rootS (bls B)) (fA (bls B)) (nodesA (bls B)) i++fA (bls B) x).length=N2:=by
     rw[Ai,hN2,vh];rfl
    have c8:V.cell? ⟨b8,0,none⟩=some (.slice aA' N2 cA'):=by
     rw[HB8.out,<-ll];exact J.st.b8.cell rfl
    have HN2:=Aa hN2;by_cases cr:524287<N2
    ·have pw:(524287:Int)<N2:=by omega
     clear zj ll hN2 vh;dsimp only[uU]
     go_wp2_with fail
     refine mP (ds:=D::ds) (lo:=s) MK.out λw' ld dm gp=>⟨.tuple #[.pointer none,.int .i64 2],by simp[results,Tryz.results50,go_sem],λ_=>⟨rfl,uM J.st.gr MK.out HS.out ld dm gp⟩,λjd=>?_⟩
     exfalso
     have h1:=HOK.out.off_le (i+1);have h2:=iZ HOK.out.asc HOK.out.len;have h3:=HN2.out;omega
    ·have pw:¬(524287:Int)<N2:=by omega
     have hsV:s<=V.heap.size:=Ae hxk.2.2.2.2 J.sz;obtain⟨Ls,vg⟩:=exq (shapeL (bls B) ((nodesA (bls B)).take i)++Af (fA (bls B) x).length true);have oS:aU V s 4 1 nP j6 Ls:=by rw[vg];exact J.st.oS
     have aii:Ls.length+1<=9000000:=by
      have h3:=fM (bls B) i (by have:=(List.getElem?_eq_some_iff.1 HX.out).1;omega);have h5:=HO.out;rw[vg,Ai,Ar];omega
     have HLS:=Aa vg;have c6:V.cell? ⟨b6,0,none⟩=some j6:=by rw[HB6.out];exact J.st.b6.cell rfl
     have HLEN2:=Aa ll;have HOFF:=Aa vh;clear zj ll hN2 vh vg;dsimp only[uU]
     go_wp2_with (at_builtin;refine eZ wP rfl _ _ rfl s j6 Ls false rfl oS (aB.refl _) _ 1 rfl #[.bool false] rfl rfl (by omega) hsV ?_;intro v5 w5 ho5 bk yh _;have p8:=J.pushS ho5 bk yh;obtain⟨g5,p5,rfl⟩:=qI ho5;have c6b:w5.cell? ⟨b6,0,none⟩=some j6:=(by rw[HB6.out];exact p8.2.2.2.cell rfl);have f6b:w5.frozen? ⟨b6,0,none⟩=false:=(by rw[HB6.out];exact p8.2.2.2.froz 0))
     have M6a:jI w5 s (D::ds):=MK.out.grown bk (MK.out.not_row (RT.own J.st.oS));have M6b:jI (w5.setCell ⟨s+5,0,none⟩ (.slice (some ⟨g5,0,none⟩) (Ls.length+1) p5)) s (D::ds):=M6a.grown (bG _ _ _ _) (M6a.not_row p8.2.2.2.rt);obtain⟨V2,pg⟩:=exq (w5.setCell ⟨b6,0,none⟩ (.slice (some ⟨g5,0,none⟩) (Ls.length+1) p5));have J5:=p8.1;rw[<-HB6.out,<-pg]at M6b;have M6:Hid (jI V2.drew s (D::ds)):=⟨λE hE=>M6b.at_ E hE,M6b.nodup⟩;clear M6a M6b;rw[<-HB6.out,<-pg]at J5;rw[<-pg];clear p8 pg c6 c6b f6b oS ho5 bk yh c8;have abe:s<=V2.drew.heap.size:=Ae hxk.2.2.2.2 J5.sz;have J5d:=J5.dr;have B6:=J5d.st;have TX6:=J5d.tx;obtain⟨Li,hLi⟩:=exq (isL (bls B) ((nodesA (bls B)).take i));obtain⟨Ld,hLd⟩:=exq (idsL (bls B) ((nodesA (bls B)).take i));have oI:aU V2.drew s 4 1 nP u7 Li:=by rw[hLi];exact B6.oI
     have ab2:Li.length+1<=9000000/\Ld.length+1<=9000000:=by
      have h1:=(List.getElem?_eq_some_iff.1 HX.out).1;rw[hLi,hLd];unfold isL idsL;rw[Aq,Aq];have h2:=List.length_filter_le (nR (bls B)) ((nodesA (bls B)).take i);have h3:((nodesA (bls B)).take i).length<=i:=by rw[List.length_take];omega
      omega
     have HLI:=Aa hLi;have HLD:=Aa hLd;have q0:=TX6.cell (o:=0) (v:=.int .i64 x.i) rfl;have q1:=TX6.cell (o:=1) (v:=.int .i64 x.t) rfl;have q2:=TX6.cell (o:=2) (v:=.int .i64 x.d) rfl;have qs:=B6.b1.cell (o:=0) (v:=.slice a B.length c) rfl;have z0:∀y:Ext aB V2.drew,y.u.cell? ⟨xb,0,none⟩=some (.int .i64 x.i):=aG q0;have z1:∀y:Ext aB V2.drew,y.u.cell? ⟨xb,1,none⟩=some (.int .i64 x.t):=aG q1;have z2:∀y:Ext aB V2.drew,y.u.cell? ⟨xb,2,none⟩=some (.int .i64 x.d):=aG q2;have zs:∀y:Ext aB V2.drew,y.u.cell? ⟨s,0,none⟩=some (.slice a B.length c):=aG qs;clear hLi hLd q0 q1 q2 qs;by_cases ga:x.i<x.t
     case neg =>
      have agu:¬(x.i:Int)<x.t:=by omega
      have HH:Hid (nR (bls B) x=false):=by
       show _=_
       unfold nR;simp[ga]
      refine lH ?_;refine bP (bB 17 []) (by kernel_rfl) (λd _ _ _ _ h=>by cases d<;>exact h) ?_
      iterate 17 (refine aO rfl (λK hK=>?_);go_simp;refine hK _ ?_;clear hK K)
      refine bU ?_;simp only[eH];clear z0 z1 z2 zs;go_wp2_with (at_builtin;refine eZ wP rfl _ _ rfl s u7 Li false rfl oI (aB.refl _) _ 1 rfl #[.bool false] rfl rfl (by omega) abe ?_;intro v7 w7 zi dx hf7 _;have tp:=B6.pushI zi dx hf7;have TX7:=TX6.keep dx (RT.own oI) (by decide);have M7:=Aa (M6.out.grown dx (M6.out.not_row (RT.own oI))))
      have BB:=dE0 HOK.out HX.out HH.out j6 u7 (.slice (some ⟨g5,0,none⟩) (Ls.length+1) p5) (.slice aA' (dX (rootS (bls B)) (fA (bls B)) (nodesA (bls B)) i++fA (bls B) x).length cA') j7 v7 u8;rw[<-HLS.out,<-HLI.out]at BB;have sf:=Eq.mp (congrArg (Bst w w7 s B.length _) BB) tp;exact hK (D::ds) ⟨_,_,_,_,_,_,_,_,_,_,_,_,_,_,_,_,_,_,_,_,_,_,_,_,_,_,_,_,_,_,_,_,_,_,_,_,_,_,_,_,_,_,_,_,_,_,_,_,_,_,_,_,_,_,_,_,_,_,_,_,_,_,_,_,_,_,_,_,_,_,_,_,_,_,_,_,_,_,_,_,_,_,_,_,_⟩ _ ⟨by go_num,by omega,M7.out,⟨_,_,_,sf⟩,by have:=HN2.out;omega⟩
     case pos =>
      have hxB:x.i<B.length:=by have:=mn.le;rw[gJ]at this;omega
      have agu:(x.i:Int)<x.t:=by omega
      have aij:(x.i:Int)<B.length:=by omega
      obtain⟨sX,hsX⟩:∃s,B[x.i]?=some s:=⟨_,Ab hxB⟩;obtain⟨sb,so,rfl,cn⟩:=at1 (f:=λs:ByteArray=>Value.string s) (HAT.out.grows B6.gr) (Ah (Ag hsX));have zS:∀y:Ext aB V2.drew,y.u.cell? ⟨sb,so+x.i,none⟩=some (.string sX):=aG (cn _ _ hsX);by_cases hh:sX.size=x.d
      case neg =>
       have pm:((sX.size:Int)==x.d)=false:=by rw[beq_eq_false_iff_ne];omega
       have HH:Hid (nR (bls B) x=false):=by
        show _=_
        unfold nR;rw[dO hsX,gS];simp[hh]
       clear hh hsX cn;refine lH ?_;refine bP (bB 17 []) (by kernel_rfl) (λd _ _ _ _ h=>by cases d<;>exact h) ?_
       iterate 17 (refine aO rfl (λK hK=>?_);go_simp;refine hK _ ?_;clear hK K)
       refine bU ?_;simp only[eH];clear z0 z1 z2 zs zS;go_wp2_with (at_builtin;refine eZ wP rfl _ _ rfl s u7 Li false rfl oI (aB.refl _) _ 1 rfl #[.bool false] rfl rfl (by omega) abe ?_;intro v7 w7 zi dx hf7 _;have tp:=B6.pushI zi dx hf7;have TX7:=TX6.keep dx (RT.own oI) (by decide);have M7:=Aa (M6.out.grown dx (M6.out.not_row (RT.own oI))))
       have BB:=dE0 HOK.out HX.out HH.out j6 u7 (.slice (some ⟨g5,0,none⟩) (Ls.length+1) p5) (.slice aA' (dX (rootS (bls B)) (fA (bls B)) (nodesA (bls B)) i++fA (bls B) x).length cA') j7 v7 u8;rw[<-HLS.out,<-HLI.out]at BB;have sf:=Eq.mp (congrArg (Bst w w7 s B.length _) BB) tp;exact hK (D::ds) ⟨_,_,_,_,_,_,_,_,_,_,_,_,_,_,_,_,_,_,_,_,_,_,_,_,_,_,_,_,_,_,_,_,_,_,_,_,_,_,_,_,_,_,_,_,_,_,_,_,_,_,_,_,_,_,_,_,_,_,_,_,_,_,_,_,_,_,_,_,_,_,_,_,_,_,_,_,_,_,_,_,_,_,_,_,_⟩ _ ⟨by go_num,by omega,M7.out,⟨_,_,_,sf⟩,by have:=HN2.out;omega⟩
      case pos =>
       have pm:((sX.size:Int)==x.d)=true:=by rw[hh];simp
       have HH:Hid (nR (bls B) x=true):=by
        show _=_
        unfold nR;rw[dO hsX,gS];simp[hh,ga]
       clear hh hsX cn;refine lH ?_;refine bP (bB 17 []) (by kernel_rfl) (λd _ _ _ _ h=>by cases d<;>exact h) ?_
       iterate 17 (refine aO rfl (λK hK=>?_);go_simp;refine hK _ ?_;clear hK K)
       refine bU ?_;simp only[eH];clear z0 z1 z2 zs zS;go_wp2_with (at_builtin;refine eZ wP rfl _ _ rfl s u7 Li true rfl oI (aB.refl _) _ 1 rfl #[.bool true] rfl rfl (by omega) abe ?_;intro v7 w7 zi dx hf7 _;have tp:=B6.pushI zi dx hf7;have TX7:=TX6.keep dx (RT.own oI) (by decide);have M7:=Aa (M6.out.grown dx (M6.out.not_row (RT.own oI))))
       have oN:=tp.oN;have adi:(qR (bls B) i).length=B.length:=by rw[uW0,gJ]
       have adj:x.i<(qR (bls B) i).length:=by rw[adi];omega
       obtain⟨ov,hov⟩:∃o,(qR (bls B) i)[x.i]?=some o:=⟨_,Ab adj⟩;have cN:w7.cell? ⟨b2,x.i,none⟩=some (.int .i64 ov):=by rw[HB2.out];exact dN (f:=λn:Nat=>Value.int .i64 n) oN hov
       have hSN:=tp.setN adj i;have fN:w7.frozen? ⟨b2,x.i,none⟩=false:=by rw[HB2.out];exact hSN.1
       have z4:∀y:Ext aB w7.drew,y.u.cell? ⟨b4,0,none⟩=some (.pointer (some ⟨b3,0,none⟩)):=aG (by rw[HB4.out,HB3.out];exact tp.dr.b4.cell rfl);have z3:∀y:Ext aB w7.drew,y.u.cell? ⟨b3,4,none⟩=some (.slice (some ⟨b2,0,none⟩) B.length B.length):=aG (by rw[HB3.out,HB2.out];exact tp.dr.b2.cell rfl);have zx:∀y:Ext aB w7.drew,y.u.cell? ⟨xb,0,none⟩=some (.int .i64 x.i):=aG ((aB.drew w7).cell (TX7.cell rfl));clear oN hov adi;refine lH ?_;refine rP 8 (bB 8 []) (by kernel_rfl) (λd _ _ _ _ h=>by cases d<;>exact h) ?_
       iterate 8 (refine aO rfl (λK hK=>?_);go_simp;refine hK _ ?_;clear hK K)
       refine bU ?_;clear z4 z3 zx;simp only[Aw,Bd];go_wp2_with fail
       simp only[eH];obtain⟨V8,hV8⟩:=exq ((w7.setCell ⟨b2,x.i,none⟩ (.int .i64 i)).drew);have B8:=hSN.2.dr;rw[<-HB2.out,<-hV8]at B8
       have M8:Hid (jI V8 s (D::ds)):=by
        have m2:=M7.out.grown (bG w7 (s+1) x.i (.int .i64 i)) (M7.out.not_row (RT.own tp.oN));rw[hV8,HB2.out];exact⟨λE hE=>m2.at_ E hE,m2.nodup⟩
       have cx8:V8.cell? ⟨xb,0,none⟩=some (.int .i64 x.i):=by
        rw[hV8,HB2.out];exact(TX7.keep (bG w7 (s+1) x.i (.int .i64 i)) (RT.own tp.oN) (by decide)).cell rfl
       have wx8:IntKind.u64.wrap (x.i:Int)=x.i:=by simp[IntKind.wrap,IntKind.bits,IntKind.signed];omega
       rw[<-hV8];have hs8:s<=V8.heap.size:=by rw[HS.out];exact B8.gr.size
       have oD:aU V8 s 213 1 kH u8 Ld:=by rw[HLD.out];exact B8.oD
       clear hSN hV8 cN fN;go_wp2_with (at_builtin;refine eZ yO0 rfl _ _ rfl s u8 Ld x.i rfl oD (aB.refl _) _ 1 rfl #[.int .u64 x.i] rfl rfl (by omega) hs8 ?_;intro v9 w9 ho9 fy hf9 _;have tf:=B8.pushD ho9 fy;have M9:=Aa (M8.out.grown fy (M8.out.not_row (RT.own oD))))
       have BB:=wG0 HOK.out HX.out HH.out j6 u7 u8 (.slice (some ⟨g5,0,none⟩) (Ls.length+1) p5) (.slice aA' (dX (rootS (bls B)) (fA (bls B)) (nodesA (bls B)) i++fA (bls B) x).length cA') j7 v7 v9;rw[<-HLS.out,<-HLI.out,<-HLD.out]at BB;have sf:=Eq.mp (congrArg (Bst w w9 s B.length _) BB) tf;exact hK (D::ds) ⟨_,_,_,_,_,_,_,_,_,_,_,_,_,_,_,_,_,_,_,_,_,_,_,_,_,_,_,_,_,_,_,_,_,_,_,_,_,_,_,_,_,_,_,_,_,_,_,_,_,_,_,_,_,_,_,_,_,_,_,_,_,_,_,_,_,_,_,_,_,_,_,_,_,_,_,_,_,_,_,_,_,_,_,_,_⟩ _ ⟨by go_num,by omega,M9.out,⟨_,_,_,sf⟩,by have:=HN2.out;omega⟩
end
section
open Go Go.RowKit Go.Shelf
theorem lP0 (B:List ByteArray) (a:Option Addr) (c:Nat) (w:World) (hB:B.length<=1099511627776) (cw:∀s∈B,s.size<=1099511627776) (ke:fZ0 (bls B)≠0) (ac:aF w a 1 (B.map stC)) :
  Calls Tryz.prog 50 #[.slice a B.length c] w λe w'=>e=.returned (.tuple #[.pointer none,.int .i64 (fZ0 (bls B))])/\aB w w':=by
 obtain⟨K,hK⟩:=exq (fZ0 (bls B))
 have CK:Hid (∀u,aB w u->Calls Tryz.prog 117 #[.slice a B.length c] u λe w'=>e=.returned (.int .i64 K)/\u=w'):=λu hg=>by
  rw[hK];exact jN0 B a c u hB cw (ac.grows hg)
 rw[<-hK]at ke ⊢;have hKi:¬(K:Int)=0:=by omega
 clear ac cw hK;go_enter Tryz.func50,Tryz.ntmps50
 go_wp2_with (go_at_call 117;refine(CK.out _ (aB.alloc _ _)).mono ?_;rintro e w2 ⟨rfl,rfl⟩)
 exact bodyPost_ret (v:=.tuple #[.pointer none,.int .i64 K]) (by simp[results,Tryz.results50,go_sem]) rfl ⟨rfl,aB.alloc _ _⟩
theorem zD (B:List ByteArray) (a:Option Addr) (c:Nat) (w:World) (hB:B.length<=1099511627776) (cw:∀s∈B,s.size<=1099511627776) (ha:∀q,a=some q->q.block<w.heap.size) (ac:aF w a 1 (B.map stC)) :
  Calls Tryz.prog 50 #[.slice a B.length c] w λe w'=>aB w w' /\
   ((gC (bls B)=0/\∃tb,e=.returned (.tuple #[.pointer (some ⟨tb,0,none⟩),.int .i64 0])/\oB w' tb (bls B)/\w.heap.size+2<=tb)\/(gC (bls B)≠0/\e=.returned (.tuple #[.pointer none,.int .i64 (gC (bls B))]))):=by
 by_cases ke:fZ0 (bls B)=0
 ·have h1:¬20000<(bls B).length:=λh=>by unfold fZ0 at ke;rw[if_pos h]at ke;cases ke
  have h2:mA (bls B)=false:=by
   unfold fZ0 at ke;rw[if_neg h1]at ke
   cases h:mA (bls B) with
   | false=>rfl
   | true=>rw[h]at ke;cases ke
  have aq:=yF0 h2;have hl:B.length<=20000:=by rw[gJ]at h1;omega
  have ii:∀s∈B,s.size<=256:=λs hs=>by
   have:=aq.len (bl s) (by unfold bls;exact List.mem_map.2 ⟨s,hs,rfl⟩)
   rwa [gS]at this
  have hc:gC (bls B)=if 524287<gB (bls B) then 2 else 0:=by
   unfold gC;rw[if_neg h1,h2];rfl
  refine(tF0 B a c w ke ha hl ii aq ac).mono ?_;rintro e w' ⟨k1,k2⟩;rcases Bh 524287 (gB (bls B)) with h|h
  ·obtain⟨rfl,hg⟩:=k1 h
   rw[if_pos h]at hc;exact⟨hg,Or.inr ⟨by rw[hc];decide,by rw[hc];rfl⟩⟩
  ·obtain⟨rfl,ht,hg⟩:=k2 h
   rw[if_neg (by omega)]at hc;exact⟨hg,Or.inl ⟨hc,_,rfl,ht,Ad _⟩⟩
 ·have hc:gC (bls B)=fZ0 (bls B):=by
   unfold gC fZ0 at *;by_cases h1:20000<(bls B).length
   ·rw[if_pos h1,if_pos h1]
   ·rw[if_neg h1]at ke
    rw[if_neg h1,if_neg h1];by_cases h2:mA (bls B)=true
    ·rw[if_pos h2,if_pos h2]
    ·rw[if_neg h2]at ke
     exact absurd rfl ke
  refine(lP0 B a c w hB cw ke ac).mono ?_;rintro e w' ⟨rfl,hg⟩;exact⟨hg,Or.inr ⟨by rw[hc];exact ke,by rw[hc]⟩⟩
end
section
open Go Go.RowKit Go.Shelf
attribute [local go_sem] aK aP Oper.semAt_some
theorem kindIx_any (s:ByteArray) (w:World) (he:uF0 w) :
  Calls Tryz.prog 136 #[.slice (some ⟨0,0,none⟩) 3 3,.string s] w λe w'=>e=.returned (.int .i64 (rU0 s))/\w'=w:=by
 have HK:=Aa he.kin;clear he;go_enter Tryz.func136,Tryz.ntmps136
 go_wp2_with fail
 go_loopw [5,8] (λ_ i wr=>∃k:Nat,k<=3/\i=.int .i64 k/\Hid (rU0 s=Bi (kG.drop k) s k)/\wr=w) (λ_ i _=>3-(intOf i).toNat)
 case atStart=>exact⟨0,Au _,rfl,rfl,rfl⟩
 case round =>
  obtain⟨k,hk,rfl,hz,rfl⟩:=hrel;by_cases ae:k<3
  ·obtain⟨q,hq⟩:∃q,kG[k]?=some q:=⟨_,Ab ae⟩
   have c0:=HK.out k q hq
   have hd:kG.drop k=q::kG.drop (k+1):=by
    rw[Al (show k<kG.length from ae),(List.getElem?_eq_some_iff.1 hq).2]
   have f9:=hz.out;rw[hd,Bi]at f9;have cy:(k:Int)<3:=by omega
   clear hz hq hd;by_cases he:q=s
   ·subst he
    rw[if_pos rfl]at f9;have e2:(q.toList==q.toList)=true:=by simp
    have HZ:=Aa f9;clear f9;go_wp2_with fail
    go_ret;exact⟨(by rw[HZ.out];rfl),rfl⟩
   ·rw[if_neg he]at f9
    have hsn:¬s.toList=q.toList:=λe=>he (pL (by rw[Bc,Bc]at e;exact e.symm));have e2:(s.toList==q.toList)=false:=by rw[beq_eq_false_iff_ne];exact hsn
    have HZ:=Aa f9;clear f9;go_wp2_with fail
    go_roundw
    case rel=>first|exact⟨k+1,ae,by go_num,HZ.out,rfl⟩|exact⟨k+1,ae,by go_num,HZ.out,trivial⟩
    case measure=>simp[intOf];omega
  ·obtain rfl:k=3:=by omega
   have HZ:Hid (rU0 s = -1):=hz.out;clear hz;go_wp2_with fail
   go_ret;exact⟨(by rw[HZ.out];rfl),rfl⟩
def pI (W W':World):Prop:=∀b cs,TB W b cs 9->TB W' b cs 9
theorem pI.refl (W:World):pI W W:=λ_ _ h=>h
theorem pI.tr {A B C:World} (h:pI A B) (k:pI B C):pI A C:=λb cs t=>k b cs (h b cs t)
theorem pI.grown {W W':World} {row:Option Nat} {τ:Option TypeId} (hg:W.grownBy W' row) (hr:RT W row τ) (ai:τ≠some 9):pI W W':=λ_ _ h=>h.keep hg hr ai
theorem pI.gr {W W':World} (h:aB W W'):pI W W':=λ_ _ t=>t.gr h
theorem pI.put (W:World) (l:Nat) (o o':Obj) (h:W.heap[l]?=some o) (hc:o.isCells=false):pI W (W.putObj l o'):=λb cs t=>by
 have ai:b≠l:=λe=>by
  subst e
  have:W.heap[b]?=some (.cells cs 9 (0,0)):=t
  rw[this]at h;cases h
  cases hc
 exact(Ap ai).trans t
theorem xH0 (c:UInt8) (s:ByteArray) (w:World) (hs:s.size<4294967281) (he:Env w) :
  Calls Tryz.prog 141 #[.string s,.string ⟨#[c]⟩] w λe w'=>e=.returned (.slice (some ⟨w.heap.size,0,none⟩) (splitS c s).length (splitS c s).length)/\w'=w.alloc (.cells ((splitS c s).map Value.string).toArray 9):=by
 obtain⟨m,hm⟩:=he.mx;have hl:=Be ⟨#[c]⟩ (Ad 1) 0 _ s rfl;have qk:(splitS c s).length=Bj s ⟨#[c]⟩+1:=hl;refine Calls.mono (Any.strings_Split Tryz.laysSplit tH0 s ⟨#[c]⟩ m w hs hm (Ad 1)) ?_;rintro e w' ⟨rfl,rfl⟩;exact⟨by rw[qk],rfl⟩
theorem lH0:∀(l:List ByteArray) (i:Nat),(fQ l i).length<=l.length
 | [],_=>Ad _
 | s::r,i=>by
  rw[fQ]
  have:=lH0 r (i+1)
  split
  ·exact Ae this (Nat.le_succ _)
  ·simp only[An];omega
abbrev bP1:={ x:Nat×ByteArray // x.2.size<=1048576 }
theorem uP0 (n l:Nat) (hn:1<=n) (s:ByteArray) (bt:Nat) (hs:s.size<=1048576) (J Jx:List bP1->World->Prop)
  (hY:∀pre x W,J pre W->pre.length<(fQ (splitS 10 s) 0).length->YieldAt Fence.wide (n-1) Tryz.prog l #[.int .i64 (x.1.1:Nat),.string x.1.2] W λe W' =>
   (e=.returned (.bool true)/\J (pre++[x]) W'/\pI W W')\/(e=.returned (.bool false)/\Jx (pre++[x]) W'))
  (W:World) (he:Env W) (hJ:AbidesFrom W.heap.size J) (c1:TB W bt #[.string s] 9) (h0:J [] W) :
  CallsIn Fence.wide n Tryz.prog 196 #[.func (.yield l) #[] #[],.pointer (some ⟨bt,0,none⟩)] W λe W'=>(∃v,e=.returned v) /\
   ((∃xs:List bP1,xs.map (·.1)=fQ (splitS 10 s) 0/\J xs W')\/(∃pre:List bP1,pre.map (·.1) <+: fQ (splitS 10 s) 0/\Jx pre W')):=by
 have CS:=(callsIn_wide (n:=n-1)).2 (xH0 10 s W (by omega) he);have h1:=hJ [] W (W.alloc (.cells ((splitS 10 s).map Value.string).toArray 9)) none h0 (Ac _ _ none) (λr h=>by cases h);have T1:TB (W.alloc (.cells ((splitS 10 s).map Value.string).toArray 9)) W.heap.size ((splitS 10 s).map Value.string).toArray 9:=TB.alloc _ _ _;have c2:=c1.cell (o:=0) rfl
 have an:(splitS 10 s).length<=1048577:=by
  have h1:(splitS 10 s).length=Bj s ⟨#[10]⟩+1:=Be ⟨#[10]⟩ (Ad 1) 0 _ s rfl;have h2:=Lib.countB_le ⟨#[10]⟩ (Ad 1) s.size s (Ad _);omega
 have hlz:∀q∈splitS 10 s,q.size<=1048576:=λq hq=>Ae (iY hq) hs;clear he hJ h0 c1;generalize W.alloc (.cells ((splitS 10 s).map Value.string).toArray 9)=W1 at *;generalize W.heap.size=sb at *;generalize splitS 10 s=ls at *;have HY:=Aa hY;clear hY;refine callsIn_of_wp Tryz.func196 rfl trivial ?_ rfl;simp only[Tryz.ntmps196,Ax,An,Ba,Bf,Bg,As,At,Ay,Av,Bb,Az];gi_wp2
 refine⟨trivial,CS.mono ?_⟩;rintro e w1 ⟨rfl,rfl⟩;gi_wp2
 clear CS c2;gi_loopw [3,4,8] (λ_ _ i wr=>∃(k:Nat) (pre:List bP1),i=.int .i64 k/\k<=ls.length/\Hid (fQ ls 0=pre.map (·.1)++fQ (ls.drop k) k)/\J pre wr/\TB wr sb (ls.map Value.string).toArray 9) (λ_ _ i _=>ls.length-(intOf i).toNat)
 case atStart=>exact⟨0,[],rfl,Au _,rfl,h1,T1⟩
 case round =>
  obtain⟨k,pre,rfl,hk,hp,hJ,hT⟩:=hrel;clear h1 T1;by_cases ae:k<ls.length
  ·have cy:(k:Int)<ls.length:=by omega
   obtain⟨q,hq⟩:∃q,ls[k]?=some q:=⟨_,Ab ae⟩;have c0:wr.cell? ⟨sb,k,none⟩=some (.string q):=hT.cell (by simp[hq]);have hqz:=hlz q (Ag hq);have ct:=hp.out;rw[show ls.drop k=q::ls.drop (k+1) by rw[Al ae,(List.getElem?_eq_some_iff.1 hq).2],fQ]at ct
   clear hp hq;by_cases ot:q.toList=[]
   ·rw[rI ot]at ct
    have HP:=Aa ct;clear ct;gi_wp2
    refine⟨λf h=>(by cases h),?_⟩;gi_wp2
    go_roundw
    case rel=>exact⟨k+1,pre,by go_num,ae,HP.out,hJ,hT⟩
    case measure=>simp[intOf];omega
   ·have b9:=kR ot
    have acg:(q.toList==[])=false:=by simpa using ot
    by_cases jb:(q[0].toNat:Int)=35
    ·rw[vM b9 jb]at ct
     have HP:=Aa ct;clear ct;gi_wp2
     refine⟨λf h=>(by cases h),?_⟩;gi_wp2
     go_roundw
     case rel=>exact⟨k+1,pre,by go_num,ae,HP.out,hJ,hT⟩
     case measure=>simp[intOf];omega
    ·rw[cI0 b9 jb]at ct
     simp only[Bool.false_eq_true,if_false]at ct;have ach:((q[0].toNat:Int)==35)=false:=by simpa using jb
     obtain⟨fn,tmps,assign,body,hy,hR⟩:=HY.out pre ⟨(k+1,q),hqz⟩ wr hJ (by rw[ct];simp);dsimp only at hy
     rw[show ((k+1:Nat):Int)=(k:Int)+1 by omega]at hy
     have HP:Hid (fQ ls 0=(pre++[(⟨(k+1,q),hqz⟩:bP1)]).map (·.1)++fQ (ls.drop (k+1)) (k+1)):=by show _=_;rw[ct];simp
     clear ct hJ;gi_wp2
     refine hR.mono ?_;rintro e W3 (⟨rfl,kw,ky⟩|⟨rfl,fi⟩)
     ·gi_wp2
      go_roundw
      case rel=>exact⟨k+1,_,by go_num,ae,HP.out,kw,ky _ _ hT⟩
      case measure=>simp[intOf];omega
     ·gi_wp2
      refine bodyPost_ret (v:=.tuple #[]) (by simp[results,Tryz.results196,go_sem]) rfl ?_
      exact⟨⟨_,rfl⟩,.inr ⟨_,⟨_,HP.out.symm⟩,fi⟩⟩
  ·obtain rfl:k=ls.length:=by omega
   have x8:pre.map (·.1)=fQ ls 0:=by rw[hp.out];simp[fQ]
   have HPE:=Aa x8;clear x8 hp;gi_wp2
   go_end0;exact⟨⟨_,rfl⟩,.inl ⟨pre,HPE.out,hJ⟩⟩
theorem lines_stops (n:Nat) (s:ByteArray) (bt:Nat) (w:World) (hn:1<=n) (hs:s.size<=1048576) (he:Env w) (c1:TB w bt #[.string s] 9) :
  SeqStopsK Fence.wide n Tryz.prog 196 #[.pointer (some ⟨bt,0,none⟩)] (λx:bP1 => #[.int .i64 (x.1.1:Nat),.string x.1.2]) pI (λxs=>xs.map (·.1)=fQ (splitS 10 s) 0) (λpre=>pre.map (·.1) <+: fQ (splitS 10 s) 0) (fQ (splitS 10 s) 0).length w:=by
 intro l J Jx W hW hJ _ hY h0;exact uP0 n l hn s bt hs J Jx hY W (he.grows hW) hJ (c1.gr hW) h0
theorem lines_any (s:ByteArray) (w:World) :
  Calls Tryz.prog 134 #[.string s] w λe w'=>e=.returned (.func (.func 196) #[] #[.pointer (some ⟨w.heap.size,0,none⟩)])/\w'=w.alloc (.cells #[.string s] 9):=by
 have hmf:∀(fn:Fn) (first cap:Array Value) (w:World),(Instr.makeFunc fn first cap).run Tryz.prog w=.ok (.func fn first cap) w:=λ_ _ _ _=>rfl
 go_enter Tryz.func134,Tryz.ntmps134
 go_wp2_with fail
 go_ret;exact⟨rfl,rfl⟩
end
section
open Go Go.RowKit Go.Shelf
end
end Go.Proofs.YthgklnohcmaopaaGreatDoor
