/- The texts Lb2 Lb5 GroM, one behind the other. -/
import Derived.Test.YtcijgkfpobpdbaaGreatDoorBq39
import Derived.Test.YtcijgkfpobpdbaaGreatDoorBq37
import Derived.Test.YtcijgkfpobpdbaaGreatDoorBq21
import Derived.Test.YtcijgkfpobpdbaaGreatDoorBq27
import Derived.Test.YtcijgkfpobpdbaaGreatDoorBq14
import Derived.Test.YtcijgkfpobpdbaaGreatDoorBq24
open Go.Lib renaming hid → Aa
open List renaming replicate → Ab,mem_of_getElem? → Af,getElem?_eq_getElem → Ag,ne_nil_of_mem → Ah,length_append → Ai,map_append → Aj,append_assoc → Al,length_map → Ao,length_replicate → Ap,drop_succ_cons → Aq,map_replicate → As,drop_zero → Au
open Go.World renaming grownBy_alloc → Ac,size_alloc → An
open Nat renaming le_refl → Ad,le_trans → Ae,lt_of_lt_of_le → Ak,lt_irrefl → Ar,lt_or_ge → Av,zero_le → Aw,mul_one → Ay
open Int renaming toNat_natCast → Am,le_refl → Ax
open Option renaming map_some → At
set_option maxHeartbeats 4000000
namespace Go.Proofs.YtcijgkfpobpdbaaGreatDoor
set_option maxRecDepth 100000
section
open Go Go.RowKit Go.Shelf
attribute [local go_sem] aQ aM Oper.semAt_some
theorem eR1 (x:dH) (a:Option Addr) (m c:Nat) (w:World) :
  Calls Tryz.prog 147 #[kL0 x,.slice a m c] w λe w'=>e=.returned (.func (.func 207) #[] #[.pointer (some ⟨w.heap.size,0,none⟩),.pointer (some ⟨w.heap.size+1,0,none⟩)]) /\
   w'=(w.alloc (.cells #[.int .i64 x.i,.int .i64 x.t,.int .i64 x.d] 205)).alloc (.cells #[.slice a m c] 123):=by
 unfold kL0;have hmf:∀(fn:Fn) (first cap:Array Value) (w:World),(Instr.makeFunc fn first cap).run Tryz.prog w=.ok (.func fn first cap) w:=λ_ _ _ _=>rfl
 go_enter Tryz.func147,Tryz.ntmps147
 go_wp2_with fail
 go_ret;exact⟨rfl,rfl⟩
def lbD (L:List (List UInt8)) (i:Nat) (vS vA vL vI vD:Value) (nd:List Nat):BD :=
 { vS:=vS,vA:=vA,vL:=vL,vI:=vI,vD:=vD,sh:=shapeL L ((nodesA L).take i),al:=eP (rootS L) (eY L) (nodesA L) i,lab:=labelsL L ((nodesA L).take i),isl:=isL L ((nodesA L).take i),idl:=idsL L ((nodesA L).take i),nd:=nd }
def lbK (L:List (List UInt8)) (i:Nat) (x:dH) (ys:List dH) (vS vA vL vI vD:Value):BD :=
 { vS:=vS,vA:=vA,vL:=vL,vI:=vI,vD:=vD,sh:=shapeL L ((nodesA L).take i)++Ab ys.length true,al:=eP (rootS L) (eY L) (nodesA L) i++ys,lab:=labelsL L ((nodesA L).take i)++ys.map (pS L x),isl:=isL L ((nodesA L).take i),idl:=idsL L ((nodesA L).take i),nd:=uN L i }
structure LbU where
 (u7 u8 u10 u11 u12 u13 u29 u30 u31 u32 u33 u34 u35 u36 u37 u38 u39 u40 u41 u42 u43 u44 u45 u46 u47 u48 u49 u50 u51 u52 u53 u54 u55 u56 u57 u58 u59 u60 u61 u62 u63 u64 u65 u66 u67 u68 u69 u70 u71 u72 u73 u74 u75 u76 u77 u78 u79 u80 u81 u82 u83 u84 u85 u86 u87 u88 u89 u90 u91 u92 u93 u94 u95 u96 u97 u98 u99 u100 u101 u102 u103 u104 u105 u106 u107:Value)
def zX (B:List ByteArray) (a:Option Addr) (c s b2 b3 b4 b5 b6 b7 b8:Nat) (ds:List Nat) (U:LbU):Act :=
 { tmps:=#[.slice a B.length c,.pointer (some ⟨s,0,none⟩),.pointer none,.int .i64 0,.int .i64 0,.pointer (some ⟨b4,0,none⟩),.pointer (some ⟨b6,0,none⟩),U.u7,U.u8,.pointer (some ⟨b8,0,none⟩),U.u10,U.u11,U.u12,U.u13,.slice a B.length c,.int .i64 0,.int .i64 0,.bool false,undef,.slice a B.length c,.int .i64 B.length,.slice (some ⟨b2,0,none⟩) B.length B.length,.agg #[.pointer none,.pointer none,.slice none 0 0,.pointer none,.slice (some ⟨b2,0,none⟩) B.length B.length],.pointer (some ⟨b3,0,none⟩),.slice (some ⟨b5,0,none⟩) 2 2,.slice a B.length c,.int .i64 B.length,.agg #[.int .i64 0,.int .i64 B.length,.int .i64 0],.slice (some ⟨b7,0,none⟩) 1 1,U.u29,U.u30,U.u31,U.u32,U.u33,U.u34,U.u35,U.u36,U.u37,U.u38,U.u39,U.u40,U.u41,U.u42,U.u43,U.u44,U.u45,U.u46,U.u47,U.u48,U.u49,U.u50,U.u51,U.u52,U.u53,U.u54,U.u55,U.u56,U.u57,U.u58,U.u59,U.u60,U.u61,U.u62,U.u63,U.u64,U.u65,U.u66,U.u67,U.u68,U.u69,U.u70,U.u71,U.u72,U.u73,U.u74,U.u75,U.u76,U.u77,U.u78,U.u79,U.u80,U.u81,U.u82,U.u83,U.u84,U.u85,U.u86,U.u87,U.u88,U.u89,U.u90,U.u91,U.u92,U.u93,U.u94,U.u95,U.u96,U.u97,U.u98,U.u99,U.u100,U.u101,U.u102,U.u103,U.u104,U.u105,U.u106,U.u107,undef,undef,undef,undef,undef,undef,undef,undef,undef,undef,undef,undef,undef,undef,undef,undef,undef,undef,undef,undef,undef,undef,undef,undef,undef],defers:=aU1 ds }
theorem kH0 {L:List (List UInt8)} {i:Nat} {x:dH} (ag:OkL L) (hx:(nodesA L)[i]?=some x) (hh:iI L x=false) (vS0 vI0 vS vA vL vI vD:Value) :
  ({ ({ (lbK L i x (eY L x) vS0 vA vL vI0 vD) with vS:=vS,sh:=(shapeL L ((nodesA L).take i)++Ab (eY L x).length true)++[false] }:BD) with vI:=vI,isl:=isL L ((nodesA L).take i)++[false] }:BD)=lbD L (i+1) vS vA vL vI vD (uN L (i+1)):=by
 have e:=bI hx;unfold lbK lbD;rw[e,lJ,pW0,xV,lU0,qW hx,ag.ndTo_succ hx,if_neg (by rw[hh];decide),if_neg (by rw[hh];decide),hh,List.append_nil]
theorem dW1 {L:List (List UInt8)} {i:Nat} {x:dH} (ag:OkL L) (hx:(nodesA L)[i]?=some x) (hh:iI L x=true) (vS0 vI0 vD0 vS vA vL vI vD:Value) :
  ({ ({ ({ ({ (lbK L i x (eY L x) vS0 vA vL vI0 vD0) with vS:=vS,sh:=(shapeL L ((nodesA L).take i)++Ab (eY L x).length true)++[false] }:BD) with vI:=vI,isl:=isL L ((nodesA L).take i)++[true] }:BD) with nd:=(uN L i).set x.i i }:BD) with vD:=vD,idl:=idsL L ((nodesA L).take i)++[x.i] }:BD)=lbD L (i+1) vS vA vL vI vD (uN L (i+1)):=by
 have e:=bI hx;unfold lbK lbD;rw[e,lJ,pW0,xV,lU0,qW hx,ag.ndTo_succ hx,if_pos hh,if_pos hh,hh]
structure mV1 (B:List ByteArray) (a:Option Addr) (c:Nat) (w:World) (s i:Nat) (ds:List Nat) (U:LbU) (wr:World):Prop where
 u10:U.u10=.int .i64 i
 le:i<=524287
 marks:lY wr s ds
 st:∃vS vA vL,Bst w wr s B.length (.slice a B.length c) (lbD (bls B) i vS vA vL U.u7 U.u8 (uN (bls B) i))
 off:offA (bls B) i<=524287
theorem iL1 {B:List ByteArray} {a:Option Addr} {c:Nat} {w:World} {s b2 b3 b4 b5 b6 b7 b8:Nat} {P:Program} {code:Code} {Q:Exit->Act->World->Prop} {ds:List Nat} {U:LbU} {w0:World} (h0:mV1 B a c w s 0 ds U w0)
  (round:∀(i:Nat) (ds:List Nat) (U:LbU) (wr:World),mV1 B a c w s i ds U wr->∀K:Act->World->Prop,(∀ds' U' w',mV1 B a c w s (i+1) ds' U' w'->K (zX B a c s b2 b3 b4 b5 b6 b7 b8 ds' U') w')->code.wp P (Exit.then K Q) (zX B a c s b2 b3 b4 b5 b6 b7 b8 ds U) wr) :
  (Code.loop code).wp P Q (zX B a c s b2 b3 b4 b5 b6 b7 b8 ds U) w0:=by
 refine wp_loop (λa' wr=>∃i ds U,a'=zX B a c s b2 b3 b4 b5 b6 b7 b8 ds U/\mV1 B a c w s i ds U wr) (λa' _=>600000-(intOf (a'.tmps.getD 10 undef)).toNat) ⟨0,ds,U,rfl,h0⟩ ?_;rintro a' wr ⟨i,ds,U,rfl,h⟩;refine round i ds U wr h _ (λds' U' w' h'=>⟨⟨i+1,ds',U',rfl,h'⟩,?_⟩);have e1:(zX B a c s b2 b3 b4 b5 b6 b7 b8 ds U).tmps.getD 10 undef=U.u10:=rfl;have e2:(zX B a c s b2 b3 b4 b5 b6 b7 b8 ds' U').tmps.getD 10 undef=U'.u10:=rfl;rw[e1,e2,h.u10,h'.u10]
 have:=h.le
 simp[intOf];omega
theorem zO0 (B:List ByteArray) (a:Option Addr) (c:Nat) (w:World) (l9:mH0 (bls B)=0) (ha:∀q,a=some q->q.block<w.heap.size) (hB_:B.length<=20000) (dp:∀s∈B,s.size<=256) (ag:OkL (bls B)) (ac:aF w a 1 (B.map stC)) :
  Calls Tryz.prog 72 #[.slice a B.length c] w λe w' =>
   (524287<dZ (bls B)->e=.returned (.tuple #[.pointer none,.int .i64 2])/\Grows w w') /\
   (dZ (bls B)<=524287->e=.returned (.tuple #[.pointer (some ⟨w.heap.size+2,0,none⟩),.int .i64 0])/\eD w' (w.heap.size+2) (bls B)/\Grows w w'):=by
 have CK:Hid (∀u,Grows w u->Calls Tryz.prog 146 #[.slice a B.length c] u λe w'=>e=.returned (.int .i64 0)/\u=w'):=λu hg=>by
  have h:=qF0 B a c u (by omega) (λs hs=>by have:=dp s hs;omega) (ac.grows hg);rw[l9]at h;exact h
 have HAT:=Aa ac;have HA:=Aa ha;have HSZ:=Aa dp;have HOK:=Aa ag;clear ac ha dp ag l9;refine(callsIn_wide (n:=12)).1 (callsIn_of_wp_marks Tryz.func72 rfl trivial (wpIn_wide.2 ?_));simp only[Tryz.ntmps72,List.size_toArray,List.length_cons,List.length_nil,Nat.reduceAdd,Nat.reduceSub,Array.replicate_succ,Array.replicate_zero,List.push_toArray,List.append_toArray,List.nil_append,List.cons_append];have jy:=λ(Y:World)=>eI1 B.length Y (by omega);go_wp2_with (go_at_call 146;refine(CK.out _ (Grows.alloc _ _)).mono ?_;rintro e w2 ⟨rfl,rfl⟩)
 clear CK jy;obtain⟨s,hs⟩:=exq w.heap.size;obtain⟨b2,d8⟩:=exq (w.heap.size+1);obtain⟨b3,lw⟩:=exq (w.heap.size+1+1);obtain⟨b4,hb4⟩:=exq (w.heap.size+1+1+1);obtain⟨b5,gi⟩:=exq (w.heap.size+1+1+1+1);obtain⟨b6,j4⟩:=exq (w.heap.size+1+1+1+1+1);obtain⟨b7,hb7⟩:=exq (w.heap.size+1+1+1+1+1+1);obtain⟨b8,hb8⟩:=exq (w.heap.size+1+1+1+1+1+1+1);rw[<-hb8,<-hb7,<-j4,<-gi,<-hb4,<-lw,<-d8,<-hs]
 have BST:Hid (∃vS vA,Bst w ((((((((w.alloc (.cells #[.slice a B.length c] 123)).alloc (.cells (madeCells #[.int .i64 0] B.length) 3)).alloc (.cells #[.pointer none,.pointer none,.slice none 0 0,.pointer none,.slice (some ⟨b2,0,none⟩) B.length B.length] 155)).alloc
   (.cells #[.pointer (some ⟨b3,0,none⟩)] 76)).alloc (.cells #[.bool true,.bool false] 4)).alloc (.cells #[.slice (some ⟨b5,0,none⟩) 2 2] 203)).alloc (.cells #[.int .i64 0,.int .i64 B.length,.int .i64 0] 205)).alloc (.cells #[.slice (some ⟨b7,0,none⟩) 1 1] 206))
   s B.length (.slice a B.length c) (lbD (bls B) 0 vS vA (.slice none 0 0) (.slice none 0 0) (.slice none 0 0) (uN (bls B) 0))):=by
  have h:=wV0 w B.length (.slice a B.length c) hB_ (b2:=b2) (b3:=b3) (b5:=b5) (b7:=b7) (by omega) (by omega) (by omega) (by omega);rw[<-hs]at h;refine⟨.slice (some ⟨b5,0,none⟩) 2 2,.slice (some ⟨b7,0,none⟩) 1 1,?_⟩
  have e:lbD (bls B) 0 (.slice (some ⟨b5,0,none⟩) 2 2) (.slice (some ⟨b7,0,none⟩) 1 1) (.slice none 0 0) (.slice none 0 0) (.slice none 0 0) (uN (bls B) 0) =
    { vS:=.slice (some ⟨b5,0,none⟩) 2 2,vA:=.slice (some ⟨b7,0,none⟩) 1 1,vL:=.slice none 0 0,vI:=.slice none 0 0,vD:=.slice none 0 0,sh:=[true,false],al:=[⟨0,B.length,0⟩],lab:=[],isl:=[],idl:=[],nd:=Ab B.length 0 }:=by
   unfold lbD;rw[zC0,cG]
   have e2:eP (rootS (bls B)) (eY (bls B)) (nodesA (bls B)) 0=[⟨0,B.length,0⟩]:=by
    unfold eP rootS;rw[cG];rfl
   rw[e2];rfl
  rw[e];exact h
 generalize ((((((((w.alloc (.cells #[.slice a B.length c] 123)).alloc (.cells (madeCells #[.int .i64 0] B.length) 3)).alloc (.cells #[.pointer none,.pointer none,.slice none 0 0,.pointer none,.slice (some ⟨b2,0,none⟩) B.length B.length] 155)).alloc
   (.cells #[.pointer (some ⟨b3,0,none⟩)] 76)).alloc (.cells #[.bool true,.bool false] 4)).alloc (.cells #[.slice (some ⟨b5,0,none⟩) 2 2] 203)).alloc (.cells #[.int .i64 0,.int .i64 B.length,.int .i64 0] 205)).alloc (.cells #[.slice (some ⟨b7,0,none⟩) 1 1] 206))=W0 at BST ⊢
 have HS:=Aa hs;have HB2:Hid (b2=s+1):=by rw[hs];exact d8
 have HB3:Hid (b3=s+2):=by rw[hs];exact lw
 have HB4:Hid (b4=s+3):=by rw[hs];exact hb4
 have HB6:Hid (b6=s+5):=by rw[hs];exact j4
 have HB8:Hid (b8=s+7):=by rw[hs];exact hb8
 clear hs d8 lw hb4 gi j4 hb7 hb8;refine iL1 (w:=w) (ds:=[]) (U:={ u7:=.slice none 0 0,u8:=.slice none 0 0,u10:=.int .i64 0,u11:=undef,u12:=undef,u13:=undef,u29:=undef,u30:=undef,u31:=undef,u32:=undef,u33:=undef,u34:=undef,u35:=undef,u36:=undef,u37:=undef,u38:=undef,u39:=undef,u40:=undef,u41:=undef,u42:=undef,u43:=undef,u44:=undef,u45:=undef,u46:=undef,u47:=undef,u48:=undef,u49:=undef,u50:=undef,u51:=undef,u52:=undef,u53:=undef,u54:=undef,u55:=undef,u56:=undef,u57:=undef,u58:=undef,u59:=undef,u60:=undef,u61:=undef,u62:=undef,u63:=undef,u64:=undef,u65:=undef,u66:=undef,u67:=undef,u68:=undef,u69:=undef,u70:=undef,u71:=undef,u72:=undef,u73:=undef,u74:=undef,u75:=undef,u76:=undef,u77:=undef,u78:=undef,u79:=undef,u80:=undef,u81:=undef,u82:=undef,u83:=undef,u84:=undef,u85:=undef,u86:=undef,u87:=undef,u88:=undef,u89:=undef,u90:=undef,u91:=undef,u92:=undef,u93:=undef,u94:=undef,u95:=undef,u96:=undef,u97:=undef,u98:=undef,u99:=undef,u100:=undef,u101:=undef,u102:=undef,u103:=undef,u104:=undef,u105:=undef,u106:=undef,u107:=undef }) ?start ?round
 case start =>
  obtain⟨vS,vA,h⟩:=BST.out;exact⟨rfl,Aw _,lY.nil _ _,⟨vS,vA,_,h⟩,by rw[tX];omega⟩
 case round =>
  rintro i ds ⟨u7,u8,u10,u11,u12,u13,u29,u30,u31,u32,u33,u34,u35,u36,u37,u38,u39,u40,u41,u42,u43,u44,u45,u46,u47,u48,u49,u50,u51,u52,u53,u54,u55,u56,u57,u58,u59,u60,u61,u62,u63,u64,u65,u66,u67,u68,u69,u70,u71,u72,u73,u74,u75,u76,u77,u78,u79,u80,u81,u82,u83,u84,u85,u86,u87,u88,u89,u90,u91,u92,u93,u94,u95,u96,u97,u98,u99,u100,u101,u102,u103,u104,u105,u106,u107⟩ wr ⟨hu,hi,hM,hB,hO⟩ K hK;simp only at hu;subst hu;dsimp only[zX]
  dsimp only at hB
  have HM:=Aa hM;have HO:=Aa hO;obtain⟨vS,vA,vL,hB⟩:=hB;obtain⟨aA,cA,hvA,_,_,ac5⟩:=hB.oA.at_ nQ0.len;simp only[lbD]at hvA;subst hvA;have ak:(eP (rootS (bls B)) (eY (bls B)) (nodesA (bls B)) i).length=offA (bls B) i:=rfl;obtain⟨N1,hN1⟩:=exq (offA (bls B) i);have c8:=hB.b8.cell (o:=0) rfl;simp only[lbD]at c8;rw[ak,<-hN1,<-HB8.out]at c8;have HBST:=Aa hB;have HN1:=Aa hN1;by_cases ae:i<N1
  case neg =>
   have d9:¬(i:Int)<N1:=by omega
   have hNi:(nodesA (bls B)).length<=i:=by
    rcases Av i (nodesA (bls B)).length with h|h
    ·have:=HOK.out.off_gt h;omega
    ·exact h
   have htk:(nodesA (bls B)).take i=nodesA (bls B):=List.take_of_length_le hNi
   have aaw:offA (bls B) i=(nodesA (bls B)).length:=by
    unfold offA eP;rw[htk,<-HOK.out.fix]
   have ahx:dZ (bls B)<=524287:=by
    rw[<-eH HOK.out.asc HOK.out.len,<-aaw];exact hO
   obtain⟨z1,z2,z3,z4,z5⟩:=HOK.out.sizes (by rw[cG];exact hB_) ahx;obtain⟨aS,cS,hvS,_,_,abv⟩:=hB.oS.at_ (enc:=rD) (λ_=>rfl);obtain⟨aI,cI,hvI,_,_,ac6⟩:=hB.oI.at_ (enc:=rD) (λ_=>rfl);obtain⟨aD,cD,hvD,_,_,ac7⟩:=hB.oD.at_ (enc:=kO) (λ_=>rfl);simp only[lbD,htk]at hvS hvI hvD abv ac6 ac7;obtain⟨SH,hSH⟩:=exq (shapeL (bls B) (nodesA (bls B)));obtain⟨IS,hIS⟩:=exq (isL (bls B) (nodesA (bls B)));obtain⟨ID,hID⟩:=exq (idsL (bls B) (nodesA (bls B)));rw[<-hSH]at z1 abv hvS;rw[<-hIS]at z2 ac6 hvI;rw[<-hID]at z4 z5 ac7 hvD
   have EE:Hid (LbE w wr s #[.pointer none,.pointer none,vL,.pointer none,.slice (some ⟨s+1,0,none⟩) B.length B.length] vL (.slice (some ⟨s+1,0,none⟩) B.length B.length) u7 u8 (labelsL (bls B) (nodesA (bls B))) (kG (bls B)) IS ID ds):=by
    have h2:=hB;unfold lbD at h2;rw[htk,HOK.out.ndTo_all hNi]at h2;rw[hIS,hID];exact⟨h2.b4,h2.b2,h2.oL,h2.oN,h2.oI,h2.oD,hM,h2.gr⟩
   have c6:wr.cell? ⟨b6,0,none⟩=some vS:=by rw[HB6.out];exact hB.b6.cell rfl
   have afb:b6<wr.heap.size:=by rw[HB6.out];exact hB.b6.lt
   subst hvS;subst hvI;subst hvD;have hss:w.heap.size<=s:=by rw[HS.out];exact Ad _
   have HSH:=Aa hSH;have HIS:=Aa hIS;have HID:=Aa hID;have HZ5:=Aa z5;clear ac5 hM hO ak hNi htk aaw z3 z5 hSH hIS hID ac6 ac7 hN1 ae hB;go_wp2_with fail
   have yq:=EE.out.b4.gr (Grows.drew wr);obtain⟨T,hT⟩:∃T:Nat->Prop,T=λb=>b=b4\/b=b6:=⟨_,rfl⟩
   have ju:∀b,T b->b<wr.drew.heap.size:=λb hb=>by
    rw[hT]at hb;rcases hb with rfl|rfl
    ·rw[HB4.out];exact yq.lt
    ·exact afb
   have hT3:¬T b3:=λh=>by
    rw[hT]at h;have e3:=HB3.out;have e4:=HB4.out;have e6:=HB6.out;rcases h with h|h<;>omega
   have x4:∀y:Ext (bP T) wr.drew,y.u.cell? ⟨b4,0,none⟩=some (.pointer (some ⟨b3,0,none⟩)):=gS (by rw[hT];exact Or.inl rfl) (by rw[HB4.out,HB3.out];exact yq.cell rfl);have x6:∀y:Ext (bP T) wr.drew,y.u.cell? ⟨b6,0,none⟩=some (.slice aS SH.length cS):=gS (by rw[hT];exact Or.inr rfl) ((Grows.drew wr).cell c6);have HT:=Aa hT;clear hT yq;refine nN ?_;refine iR (bP T) (aV 9 [2,8]) (bP.refl T) (oE T) (by kernel_rfl) (by kernel_rfl) (λd _ _ _ _ h=>by cases d<;>exact h) ?_
   iterate 2 (refine aG rfl (λK hK=>?_);go_simp;refine hK _ ?_;clear hK K)
   refine aY rfl rfl (λK hK=>?_);go_simp;refine(qZ0 SH aS cS wr.drew z1 (abv.grows (Grows.drew wr))).mono ?_;rintro e w1 ⟨rfl,gj,ah⟩;refine⟨bP.of_below ah ju,hK _ _ ?_⟩;clear hK K;iterate 5 (refine aG rfl (λK hK=>?_);go_simp;refine hK _ ?_;clear hK K)
   have E1:=(EE.out.grows (Grows.drew wr)).grows ah;have c31:w1.cell? ⟨b3,0,none⟩=some (.pointer none):=by rw[HB3.out];exact E1.b3.cell rfl
   have f31:w1.frozen? ⟨b3,0,none⟩=false:=by rw[HB3.out];exact E1.b3.froz _
   refine aY rfl rfl (λK hK=>?_);go_simp;refine⟨bP.set hT3 _ _,hK _ _ ?_⟩;clear hK K;refine bH ?_;simp only[fZ];obtain⟨sb,m4⟩:=exq (wr.drew.heap.size+1);have e1s:=E1.set hss 0 (.pointer (some ⟨sb,0,none⟩))
   have abw:kK (w1.setCell ⟨s+2,0,none⟩ (.pointer (some ⟨sb,0,none⟩))) sb SH:=by
    rw[<-m4]at gj
    exact fW gj (iP _ _ _ _) (λh=>by
     have h1:sb=s+2:=h;have h2:=EE.out.b3.lt;have h3:wr.drew.heap.size=wr.heap.size:=rfl;omega) (nF E1.b3)
   obtain⟨V1,jo⟩:=exq (w1.setCell ⟨b3,0,none⟩ (.pointer (some ⟨sb,0,none⟩)));rw[<-HB3.out,<-jo]at e1s abw;have h6a:b6<V1.heap.size:=by rw[jo];simp;exact Ak afb (Ae (Ad _) ah.size)
   try rw[show wr.heap.size+1=sb from m4.symm]
   try rw[<-m4]
   try rw[<-jo]
   clear hT3 ju x4 x6 E1 c31 f31 gj ah jo m4 HT T abv c6;go_wp2_with fail
   have yq:=e1s.b4.gr (Grows.drew V1);obtain⟨T,hT⟩:∃T:Nat->Prop,T=λb=>b=b4\/b=b6:=⟨_,rfl⟩
   have ju:∀b,T b->b<V1.drew.heap.size:=λb hb=>by
    rw[hT]at hb;rcases hb with rfl|rfl
    ·rw[HB4.out];exact yq.lt
    ·exact h6a
   have hT3:¬T b3:=λh=>by
    rw[hT]at h;have e3:=HB3.out;have e4:=HB4.out;have e6:=HB6.out;rcases h with h|h<;>omega
   have x4:∀y:Ext (bP T) V1.drew,y.u.cell? ⟨b4,0,none⟩=some (.pointer (some ⟨b3,0,none⟩)):=gS (by rw[hT];exact Or.inl rfl) (by rw[HB4.out,HB3.out];exact yq.cell rfl);have HT:=Aa hT;clear hT yq;refine nN ?_;refine iR (bP T) (aV 9 [2,8]) (bP.refl T) (oE T) (by kernel_rfl) (by kernel_rfl) (λd _ _ _ _ h=>by cases d<;>exact h) ?_
   iterate 2 (refine aG rfl (λK hK=>?_);go_simp;refine hK _ ?_;clear hK K)
   refine aY rfl rfl (λK hK=>?_);go_simp;refine(qZ0 IS aI cI V1.drew (by omega) (iA0 (λ_=>rfl) e1s.oI)).mono ?_;rintro e w2 ⟨rfl,fm,af⟩;refine⟨bP.of_below af ju,hK _ _ ?_⟩;clear hK K;iterate 5 (refine aG rfl (λK hK=>?_);go_simp;refine hK _ ?_;clear hK K)
   have E2:=(e1s.grows (Grows.drew V1)).grows af;have c32:w2.cell? ⟨b3,1,none⟩=some (.pointer none):=by rw[HB3.out];exact E2.b3.cell rfl
   have f32:w2.frozen? ⟨b3,1,none⟩=false:=by rw[HB3.out];exact E2.b3.froz _
   refine aY rfl rfl (λK hK=>?_);go_simp;refine⟨bP.set hT3 _ _,hK _ _ ?_⟩;clear hK K;refine bH ?_;simp only[fZ];obtain⟨ib,yu⟩:=exq (V1.drew.heap.size+1);have e2s:=E2.set hss 1 (.pointer (some ⟨ib,0,none⟩))
   have abx:kK (w2.setCell ⟨s+2,1,none⟩ (.pointer (some ⟨ib,0,none⟩))) ib IS:=by
    rw[<-yu]at fm
    exact fW fm (iP _ _ _ _) (λh=>by
     have h1:ib=s+2:=h;have h2:=e1s.b3.lt;have h3:V1.drew.heap.size=V1.heap.size:=rfl;omega) (nF E2.b3)
   have aax:sb≠s+2:=λh=>by
    have hc:=abw.c0;have h2:=e1s.b3;rw[h]at hc;have h3:=h2.cell (o:=0) (v:=.pointer (some ⟨sb,0,none⟩)) rfl;rw[hc]at h3;cases h3
   have ac8:kK (w2.setCell ⟨s+2,1,none⟩ (.pointer (some ⟨ib,0,none⟩))) sb SH:=fW ((abw.grows (Grows.drew V1)).grows af) (iP _ _ _ _) aax (nF E2.b3);obtain⟨V2,ny⟩:=exq (w2.setCell ⟨b3,1,none⟩ (.pointer (some ⟨ib,0,none⟩)));rw[<-HB3.out,<-ny]at e2s abx ac8;have h6b:b6<V2.heap.size:=by rw[ny];simp;exact Ak h6a (Ae (Ad _) af.size)
   try rw[show V1.heap.size+1=ib from yu.symm]
   try rw[<-yu]
   try rw[<-ny]
   clear hT3 ju x4 E2 c32 f32 fm af ny yu HT T e1s abw;go_wp2_with fail
   have yq:=e2s.b4.gr (Grows.drew V2);obtain⟨T,hT⟩:∃T:Nat->Prop,T=λb=>b=b4\/b=b6:=⟨_,rfl⟩
   have ju:∀b,T b->b<V2.drew.heap.size:=λb hb=>by
    rw[hT]at hb;rcases hb with rfl|rfl
    ·rw[HB4.out];exact yq.lt
    ·exact h6b
   have hT3:¬T b3:=λh=>by
    rw[hT]at h;have e3:=HB3.out;have e4:=HB4.out;have e6:=HB6.out;rcases h with h|h<;>omega
   have x4:∀y:Ext (bP T) V2.drew,y.u.cell? ⟨b4,0,none⟩=some (.pointer (some ⟨b3,0,none⟩)):=gS (by rw[hT];exact Or.inl rfl) (by rw[HB4.out,HB3.out];exact yq.cell rfl);have HT:=Aa hT;clear hT yq;refine nN ?_;refine iR (bP T) (aV 9 [2,8]) (bP.refl T) (oE T) (by kernel_rfl) (by kernel_rfl) (λd _ _ _ _ h=>by cases d<;>exact h) ?_
   iterate 2 (refine aG rfl (λK hK=>?_);go_simp;refine hK _ ?_;clear hK K)
   refine aY rfl rfl (λK hK=>?_);go_simp;refine(gD0 ID aD cD V2.drew (by omega) (λm hm=>by have:=HZ5.out m hm;omega) (iA0 (λ_=>rfl) e2s.oD)).mono ?_;rintro e w3 ⟨rfl,j5,ax⟩;refine⟨bP.of_below ax ju,hK _ _ ?_⟩;clear hK K;iterate 5 (refine aG rfl (λK hK=>?_);go_simp;refine hK _ ?_;clear hK K)
   have E3:=(e2s.grows (Grows.drew V2)).grows ax;have c33:w3.cell? ⟨b3,3,none⟩=some (.pointer none):=by rw[HB3.out];exact E3.b3.cell rfl
   have f33:w3.frozen? ⟨b3,3,none⟩=false:=by rw[HB3.out];exact E3.b3.froz _
   refine aY rfl rfl (λK hK=>?_);go_simp;refine⟨bP.set hT3 _ _,hK _ _ ?_⟩;clear hK K;refine bH ?_;simp only[fZ];obtain⟨pb,fk⟩:=exq V2.drew.heap.size;have py:=E3.set hss 3 (.pointer (some ⟨pb,0,none⟩))
   have ac9:lU (w3.setCell ⟨s+2,3,none⟩ (.pointer (some ⟨pb,0,none⟩))) pb ID:=by
    rw[<-fk]at j5
    exact tW j5 (iP _ _ _ _) (λh=>by
     have h1:pb=s+2:=h;have h2:=e2s.b3.lt;have h3:V2.drew.heap.size=V2.heap.size:=rfl;omega) (nF E3.b3)
   have aed:ib≠s+2:=λh=>by
    have hc:=abx.c0;have h2:=e2s.b3;rw[h]at hc;have h3:=h2.cell (o:=0) (v:=.pointer (some ⟨sb,0,none⟩)) rfl;rw[hc]at h3;cases h3
   have ada:kK (w3.setCell ⟨s+2,3,none⟩ (.pointer (some ⟨pb,0,none⟩))) sb SH:=fW ((ac8.grows (Grows.drew V2)).grows ax) (iP _ _ _ _) aax (nF E3.b3);have adb:kK (w3.setCell ⟨s+2,3,none⟩ (.pointer (some ⟨pb,0,none⟩))) ib IS:=fW ((abx.grows (Grows.drew V2)).grows ax) (iP _ _ _ _) aed (nF E3.b3);obtain⟨V3,lh⟩:=exq (w3.setCell ⟨b3,3,none⟩ (.pointer (some ⟨pb,0,none⟩)));rw[<-HB3.out,<-lh]at py ac9 adb ada;have c4f:V3.cell? ⟨b4,0,none⟩=some (.pointer (some ⟨b3,0,none⟩)):=by rw[HB4.out,HB3.out];exact py.b4.cell rfl
   try rw[show V2.heap.size=pb from fk.symm]
   try rw[<-fk]
   try rw[<-lh]
   clear hT3 ju x4 E3 c33 f33 j5 ax lh fk HT T e2s ac8 abx;go_wp2_with fail
   refine qA (ds:=ds) (lo:=s) py.mks λw' ga d8 lw=>⟨.tuple #[.pointer (some ⟨b3,0,none⟩),.int .i64 0],by simp[results,Tryz.results72,go_sem],λfu=>by omega,λ_=>⟨by rw[HB3.out,HS.out],?_,bO0 py.gr py.mks HS.out ga d8 lw⟩⟩
   have ho:lN1 V3 w' (λk=>k∈ds):=ga
   have ce:∀(o:Nat) (v:Value),(#[.pointer (some ⟨sb,0,none⟩),.pointer (some ⟨ib,0,none⟩),vL,.pointer (some ⟨pb,0,none⟩),.slice (some ⟨s+1,0,none⟩) B.length B.length]:Array Value)[o]?=some v->w'.cell? ⟨s+2,o,none⟩=some v:=λo v hv=>by
    have hc:V3.cell? ⟨s+2,o,none⟩=some v:=py.b3.cell hv;exact dF hc ho (sL py.mks hc)
   rw[<-HS.out];have hb0:∀ {e:TypeId} {k:Nat} {α:Type} {enc:α->List Value} {v:Value} {xs:List α},aU V3 s e k enc v xs->aU w' 0 e k enc v xs:=λh=>(jW h ho (eA0 py.mks _)).base (Aw _)
   exact⟨⟨sb,ce 0 _ rfl,by rw[<-HSH.out];exact fW ada ho (sL py.mks ada.c0) (rR py.mks)⟩,⟨ib,ce 1 _ rfl,by rw[<-HIS.out];exact fW adb ho (sL py.mks adb.c0) (rR py.mks)⟩,
    ⟨vL,ce 2 _ rfl,(jW py.oL ho (eA0 py.mks _)).base (show s+2-2<=s by omega)⟩,⟨pb,ce 3 _ rfl,by rw[<-HID.out];exact tW ac9 ho (sL py.mks ac9.c0) (rR py.mks)⟩,⟨_,ce 4 _ rfl,hb0 py.oN⟩⟩
  case pos =>
   have d9:(i:Int)<N1:=by omega
   have hiN:i<(nodesA (bls B)).length:=by have:=HOK.out.off_le i;omega
   obtain⟨x,hx⟩:∃x,(nodesA (bls B))[i]?=some x:=⟨_,Ag hiN⟩;have s6:(eP (rootS (bls B)) (eY (bls B)) (nodesA (bls B)) i)[i]?=some x:=by rw[kO0 HOK.out.fix (by rw[ak];omega)];exact hx
   obtain⟨bA,oA,rfl,hcA⟩:=aF.get (enc:=cO0) ac5 (Ah (Af s6));have e0:=hcA i x s6 0 _ rfl;have e1:=hcA i x s6 1 _ rfl;have e2:=hcA i x s6 2 _ rfl;rw[Nat.add_zero]at e0;have ajq:N1<=524287:=by rw[hN1];exact hO
   have c1:∀o,(wr.alloc o).cell? ⟨s,0,none⟩=some (.slice a B.length c):=λo=>(hB.al o).b1.cell rfl;have HX:=Aa hx;clear ac5 hcA hx s6 hB hM hO hN1 ak;go_wp2_with (go_at_call 147;refine(eR1 x a B.length c _).mono ?_;rintro e w2 ⟨rfl,rfl⟩)
   have hB:=HBST.out;have jm:s<=wr.heap.size:=by rw[HS.out];exact hB.gr.size
   obtain⟨xb,s6⟩:=exq wr.heap.size;obtain⟨kb,oq⟩:=exq (wr.heap.size+1);obtain⟨lb,ow⟩:=exq (wr.heap.size+1+1);rw[<-ow,<-oq,<-s6];obtain⟨Wb,hWb⟩:=exq (((wr.alloc (.cells #[.int .i64 x.i,.int .i64 x.t,.int .i64 x.d] 205)).alloc (.cells #[.int .i64 x.i,.int .i64 x.t,.int .i64 x.d] 205)).alloc (.cells #[.slice a B.length c] 123));rw[<-hWb];have ahy:Wb.heap.size=wr.heap.size+1+1+1:=by rw[hWb];simp
   have TX:TB Wb xb #[.int .i64 x.i,.int .i64 x.t,.int .i64 x.d] 205:=by
    rw[hWb,s6];exact((TB.alloc wr _ _).keep (Ac _ _ none) (RT.none _ _) (by decide:(Option.none:Option TypeId)≠_)).keep (Ac _ _ none) (RT.none _ _) (by decide:(Option.none:Option TypeId)≠_)
   have TK:TB Wb kb #[.int .i64 x.i,.int .i64 x.t,.int .i64 x.d] 205:=by
    rw[hWb,oq]
    have:=(TB.alloc (wr.alloc (.cells #[.int .i64 x.i,.int .i64 x.t,.int .i64 x.d] 205)) #[.int .i64 x.i,.int .i64 x.t,.int .i64 x.d] 205).keep (Ac _ (.cells #[.slice a B.length c] 123) none) (RT.none _ _) (by decide:(Option.none:Option TypeId)≠_)
    rwa [An]at this
   have TL:TB Wb lb #[.slice a B.length c] 123:=by
    rw[hWb,ow]
    have:=TB.alloc ((wr.alloc (.cells #[.int .i64 x.i,.int .i64 x.t,.int .i64 x.d] 205)).alloc (.cells #[.int .i64 x.i,.int .i64 x.t,.int .i64 x.d] 205)) #[.slice a B.length c] 123
    rwa [An,An]at this
   have HBb:Hid (Bst w Wb s B.length (.slice a B.length c) (lbD (bls B) i vS (.slice (some ⟨bA,oA,none⟩) N1 cA) vL u7 u8 (uN (bls B) i))):=by
    rw[hWb];have h:=((hB.al (.cells #[.int .i64 x.i,.int .i64 x.t,.int .i64 x.d] 205)).al (.cells #[.int .i64 x.i,.int .i64 x.t,.int .i64 x.d] 205)).al (.cells #[.slice a B.length c] 123);rw[show (eP (rootS (bls B)) (eY (bls B)) (nodesA (bls B)) i).length=N1 from HN1.out.symm]at h
    exact h
   have xj:lY Wb s ds:=by
    rw[hWb];exact((HM.out.grown (row:=none) (Ac _ _ _) (λ_ _ e=>by cases e)).grown (row:=none) (Ac _ _ _) (λ_ _ e=>by cases e)).grown (row:=none) (Ac _ _ _) (λ_ _ e=>by cases e)
   have aee:bA<wr.heap.size:=by
    have:=gP hB.oA bA rfl
    exact this
   have HHS:=Aa (show s<=wr.heap.size from jm)
   have hxk:bA≠xb/\bA≠kb/\kb<Wb.heap.size/\lb<Wb.heap.size/\s<=Wb.heap.size:=⟨by omega,by omega,by omega,by omega,by omega⟩;clear s6 oq ow ahy jm aee;clear hWb hB e0 e1 e2 c1 c8;obtain⟨S,hS⟩:∃S:Nat->Prop,S=λb=>b<s\/b=kb\/b=lb:=⟨_,rfl⟩
   have adc:∀b,S b->b<Wb.heap.size:=λb hb=>by
    rw[hS]at hb;rcases hb with h|h|h<;>omega
   have i6:=HOK.out.good HX.out;have hSW:∀q,a=some q->S q.block:=λq hq=>by rw[hS];exact Or.inl (by rw[HS.out];exact HA.out q hq)
   have ahz:aF Wb a 1 (B.map stC):=HAT.out.grows HBb.out.gr;have KS:=yK0 11 B a c kb lb x S Wb hB_ HSZ.out HOK.out.asc i6 (by rw[hS];exact Or.inr (Or.inl rfl)) (by rw[hS];exact Or.inr (Or.inr rfl)) hSW adc (TK.cell rfl) (TK.cell rfl) (TK.cell rfl) (TL.cell rfl) ahz;refine(wpIn_wide (n:=12)).1 ?_
   refine wpIn_rangeFunc_ownH (F:=Fence.wide) (n:=12) (α:=zQ (bls B) x) rfl (by decide) (gf:=207) (lb:=#[.pointer (some ⟨kb,0,none⟩),.pointer (some ⟨lb,0,none⟩)]) rfl trivial (enters_of Tryz.func207 (by kernel_rfl) rfl) KS
    (λh k=>h.tr k) (λW l o o' hl ho hc hw b hb=>World.putObj_heap_other (λe=>by have:=adc b hb;omega)) (Below.refl _ _) (λ_=>rfl)
    (λpre W=>∃n5 s7 n7,LbJ w s B.length (.slice a B.length c) ds xb kb lb Wb.heap.size x (lbK (bls B) i x (pre.map (λy=>y.1)) n5 s7 n7 u7 u8) W)
    (λ_ _ _=>False) ?hI (λ_ _ _ _ _ h _ _=>h) ?h0
    (λy a' W=>∃Bx v,Wb.heap.size<=Bx/\TB W Bx #[.int .i64 y.1.i,.int .i64 y.1.t,.int .i64 y.1.d] 205/\TB W (s+7) #[v] 206/\v.ownBlock≠some Bx /\
     a'={ tmps:=(zX B a c s b2 b3 b4 b5 b6 b7 b8 ds { u7:=u7,u8:=u8,u10:=.int .i64 i,u11:=.pointer (some ⟨xb,0,none⟩),u12:=.pointer (some ⟨Bx,0,none⟩),u13:=u13,u29:=.int .i64 i,u30:=.slice (some ⟨bA,oA,none⟩) N1 cA,u31:=.int .i64 N1,u32:=.bool true,u33:=u33,u34:=u34,u35:=.slice (some ⟨bA,oA,none⟩) N1 cA,u36:=.int .i64 i,u37:=.pointer (some ⟨bA,oA+i*3,none⟩),u38:=.agg #[.int .i64 x.i,.int .i64 x.t,.int .i64 x.d],u39:=.agg #[.int .i64 x.i,.int .i64 x.t,.int .i64 x.d],u40:=.slice a B.length c,u41:=.func (.func 207) #[] #[.pointer (some ⟨kb,0,none⟩),.pointer (some ⟨lb,0,none⟩)],u42:=.agg #[.int .i64 y.1.i,.int .i64 y.1.t,.int .i64 y.1.d],u43:=u43,u44:=u44,u45:=u45,u46:=u46,u47:=u47,u48:=u48,u49:=u49,u50:=u50,u51:=u51,u52:=u52,u53:=u53,u54:=u54,u55:=u55,u56:=u56,u57:=u57,u58:=u58,u59:=u59,u60:=u60,u61:=u61,u62:=u62,u63:=u63,u64:=u64,u65:=u65,u66:=u66,u67:=u67,u68:=u68,u69:=u69,u70:=u70,u71:=u71,u72:=u72,u73:=u73,u74:=u74,u75:=u75,u76:=u76,u77:=u77,u78:=u78,u79:=u79,u80:=u80,u81:=u81,u82:=u82,u83:=u83,u84:=u84,u85:=u85,u86:=u86,u87:=u87,u88:=u88,u89:=u89,u90:=u90,u91:=u91,u92:=u92,u93:=u93,u94:=u94,u95:=u95,u96:=u96,u97:=u97,u98:=u98,u99:=u99,u100:=u100,u101:=u101,u102:=u102,u103:=u103,u104:=u104,u105:=u105,u106:=u106,u107:=u107 }).tmps,defers:=[] }) ?hAx ?assign ?body ?done ?stop
   case hI =>
    rintro pre V V' row ⟨n5,s7,n7,h⟩ hg hr;exact⟨n5,s7,n7,h.other hg (RT.of_not λq e=>(hr q e).2) (λq e=>by have:=(hr q e).1;omega) (λD hD e=>by have h1:=(hr D e).1;have h2:=(Array.getElem?_eq_some_iff.1 (xj.at_ D hD).2).1;omega)⟩
   case h0 =>
    refine⟨vS,.slice (some ⟨bA,oA,none⟩) N1 cA,vL,?_,TX,TK,TL,λe=>?_,λe=>?_,xj,Ad _⟩
    ·have h:=HBb.out
     simpa [lbD,lbK] using h
    ·have e1:some bA=some xb:=e
     exact hxk.1 (Option.some.inj e1)
    ·have e1:some bA=some kb:=e
     exact hxk.2.1 (Option.some.inj e1)
   case hAx =>
    rintro y a' _ V V' row ⟨Bx,v,k1,k2,k3,k4,k5⟩ hg hr;exact⟨Bx,v,k1,k2.keep hg (RT.of_not λq e=>(hr q e).2) (by decide),k3.keep hg (RT.of_not λq e=>(hr q e).2) (by decide),k4,k5⟩
   case assign =>
    rintro l pre y V K2 ⟨n5,s7,n7,h⟩ lr;dsimp only[kL0]
    gi_wp2
    exact lr _ _ ((KeepsOthers.alloc _ _).from _) (bP.alloc (λb hb=>Ak (adc b hb) h.sz) _) ⟨n5,s7,n7,h.al _⟩ ⟨V.heap.size,s7,h.sz,TB.alloc _ _ _,(h.al _).st.b8,λe=>absurd (gP h.st.oA _ e) (Ar _),rfl⟩
   case body =>
    rintro l pre y a' V hl afc ⟨n5,s7,n7,h⟩ ⟨Bx,v,k1,TC,kb8,kne,rfl⟩ ak
    obtain rfl:s7=v:=by
     have e1:=h.st.b8;unfold TB at e1 kb8;dsimp only[lbK]at e1
     rw[e1]at kb8;simpa using kb8
    have HYK:=y.2;obtain⟨gy,hyd,l8,hy2⟩:=(bJ0 HOK.out.asc i6).mem y.1 HYK;have ah0:y.1.i<y.1.t:=by rcases gy.ne with h|h<;>omega
    have hyB:y.1.i<B.length:=by have:=gy.le;rw[cG]at this;omega
    obtain⟨sI,ui⟩:∃s,B[y.1.i]?=some s:=⟨_,Ag hyB⟩
    have hxd:x.d<sI.size:=by
     have:=gy.len y.1.i (Ad _) ah0
     rw[dV ui,dB,hyd]at this;omega
    have pr:pS (bls B) x y.1=sI[x.d]:=by
     unfold pS;rw[dV ui,List.getD_eq_getElem?_getD,mZ hxd];rfl
    clear hyd l8 hy2 gy;obtain⟨sb,so,rfl,eo⟩:=at1 (f:=λs:ByteArray=>Value.string s) (HAT.out.grows h.st.gr) (Ah (Af ui));have ah1:sb<s:=by rw[HS.out];exact HA.out _ rfl
    have HPL:Hid (pre.length+offA (bls B) i<6000000/\(shapeL (bls B) ((nodesA (bls B)).take i)).length<=2000000/\(labelsL (bls B) ((nodesA (bls B)).take i)).length<=1000000):=by
     have h1:=HOK.out.off_le (i+1);rw[iN HX.out]at h1;have h2:=HOK.out.many (by rw[cG];exact hB_);have h3:=eW (bls B) i (by have:=(List.getElem?_eq_some_iff.1 HX.out).1;omega);have h4:=mT0 (bls B) i;have h5:=HO.out;show _/\_/\_
     omega
    have c6:V.cell? ⟨b6,0,none⟩=some n5:=by rw[HB6.out];exact h.st.b6.cell rfl
    obtain⟨Ls,hLs⟩:=exq (shapeL (bls B) ((nodesA (bls B)).take i)++Ab (pre.map (λy=>y.1)).length true);obtain⟨Ll,hLl⟩:=exq (labelsL (bls B) ((nodesA (bls B)).take i)++(pre.map (λy=>y.1)).map (pS (bls B) x));obtain⟨La,hLa⟩:=exq (eP (rootS (bls B)) (eY (bls B)) (nodesA (bls B)) i++pre.map (λy=>y.1));have oS:aU V s 4 1 rD n5 Ls:=by rw[hLs];exact h.st.oS
    have aef:Ls.length+1<=9000000/\Ll.length+1<=9000000/\La.length+1<=9000000:=by
     have:=HPL.out
     rw[hLs,hLl,hLa];simp only[Ai,Ap,Ao];have e1:(eP (rootS (bls B)) (eY (bls B)) (nodesA (bls B)) i).length=offA (bls B) i:=rfl;omega
    have HLS:=Aa hLs;have HLL:=Aa hLl;have HLA:=Aa hLa;clear hLs hLl hLa;have hsV:s<=V.heap.size:=Ae hxk.2.2.2.2 h.sz;dsimp only[zX]
    refine wpIn_block ?_;refine wpIn_seq_k λK1 hK1=>?_;refine iH1 (by rintro⟨_,_,h⟩;exact h) (by kernel_rfl) ?_;go_wp2_with (at_builtin;refine cK bI0 rfl _ _ rfl s n5 _ true rfl oS (Grows.refl _) _ 1 rfl #[.bool true] rfl rfl (by omega) hsV ?_;intro v5 w5 ho5 bg hf5 _;obtain⟨g5,p5,rfl⟩:=pI ho5;have vo:=h.pushS ho5 bg hf5;have c6b:w5.cell? ⟨b6,0,none⟩=some n5:=(by rw[HB6.out];exact vo.2.2.2.cell rfl);have f6b:w5.frozen? ⟨b6,0,none⟩=false:=(by rw[HB6.out];exact vo.2.2.2.froz 0))
    obtain⟨V2,ny⟩:=exq (w5.setCell ⟨b6,0,none⟩ (.slice (some ⟨g5,0,none⟩) (Ls.length+1) p5));have J5:=vo.1;have KF5:=vo.2.1;have TC2:=vo.2.2.1 _ _ TC;rw[<-HB6.out,<-ny]at J5 KF5 TC2;rw[<-ny];clear vo ny c6 c6b f6b oS ho5 bg hf5 TC kb8 eo;have J5d:=J5.dr;have q4:V2.drew.cell? ⟨b4,0,none⟩=some (.pointer (some ⟨b3,0,none⟩)):=by rw[HB4.out,HB3.out];exact J5d.st.b4.cell rfl
    have q3:V2.drew.cell? ⟨b3,2,none⟩=some n7:=by rw[HB3.out];exact J5d.st.b2.cell rfl
    have q1:V2.drew.cell? ⟨s,0,none⟩=some (.slice (some ⟨sb,so,none⟩) B.length c):=J5d.st.b1.cell rfl;have qc:V2.drew.cell? ⟨Bx,0,none⟩=some (.int .i64 y.1.i):=(Grows.drew V2).cell (TC2.cell rfl);have qx:V2.drew.cell? ⟨xb,2,none⟩=some (.int .i64 x.d):=J5d.tx.cell rfl
    have qs:V2.drew.cell? ⟨sb,so+y.1.i,none⟩=some (.string sI):=by
     obtain⟨sb',so',e,eo⟩:=at1 (f:=λs:ByteArray=>Value.string s) (HAT.out.grows J5d.st.gr) (Ah (Af ui));have e1:sb=sb'/\so=so':=by simpa using e
     rw[e1.1,e1.2];exact eo _ _ ui
    obtain⟨T,hT⟩:∃T:Nat->Prop,T=λb=>b=b4\/b=b3\/b=s\/b=Bx\/b=xb\/b<s:=⟨_,rfl⟩;have TCd:TB V2.drew Bx #[.int .i64 y.1.i,.int .i64 y.1.t,.int .i64 y.1.d] 205:=TC2;have b4d:TB V2.drew b4 #[.pointer (some ⟨s+2,0,none⟩)] 76:=by rw[HB4.out];exact J5d.st.b4
    have b3d:TB V2.drew b3 #[.pointer none,.pointer none,n7,.pointer none,.slice (some ⟨s+1,0,none⟩) B.length B.length] 155:=by rw[HB3.out];exact J5d.st.b2
    have ju:∀b,T b->b<V2.drew.heap.size:=λb hb=>by
     rw[hT]at hb;rcases hb with rfl|rfl|rfl|rfl|rfl|hb
     ·exact b4d.lt
     ·exact b3d.lt
     ·exact J5d.st.b1.lt
     ·exact TCd.lt
     ·exact J5d.tx.lt
     ·have:=J5d.st.b1.lt;omega
    have hTr:∀b,T b->n7.ownBlock≠some b:=λb hb=>by
     have hr:RT V2.drew n7.ownBlock (some 5):=RT.own J5d.st.oL;rw[hT]at hb;rcases hb with rfl|rfl|rfl|rfl|rfl|hb
     ·exact b4d.ne_row hr (by decide)
     ·exact b3d.ne_row hr (by decide)
     ·exact J5d.st.b1.ne_row hr (by decide)
     ·exact TCd.ne_row hr (by decide)
     ·exact J5d.tx.ne_row hr (by decide)
     ·intro e
      have:=bB J5d.st.oL b e
      omega
    have z4:∀x:Ext (bP T) V2.drew,x.u.cell? ⟨b4,0,none⟩=some (.pointer (some ⟨b3,0,none⟩)):=gS (by rw[hT];exact Or.inl rfl) q4;have z3:∀x:Ext (bP T) V2.drew,x.u.cell? ⟨b3,2,none⟩=some n7:=gS (by rw[hT];exact Or.inr (Or.inl rfl)) q3;have z1:∀x:Ext (bP T) V2.drew,x.u.cell? ⟨s,0,none⟩=some (.slice (some ⟨sb,so,none⟩) B.length c):=gS (by rw[hT];exact Or.inr (Or.inr (Or.inl rfl))) q1;have zc:∀x:Ext (bP T) V2.drew,x.u.cell? ⟨Bx,0,none⟩=some (.int .i64 y.1.i):=gS (by rw[hT];exact Or.inr (Or.inr (Or.inr (Or.inl rfl)))) qc;have zx:∀z:Ext (bP T) V2.drew,z.u.cell? ⟨xb,2,none⟩=some (.int .i64 x.d):=gS (by rw[hT];exact Or.inr (Or.inr (Or.inr (Or.inr (Or.inl rfl))))) qx;have zs:∀x:Ext (bP T) V2.drew,x.u.cell? ⟨sb,so+y.1.i,none⟩=some (.string sI):=gS (by rw[hT];exact Or.inr (Or.inr (Or.inr (Or.inr (Or.inr ah1))))) qs;have hyi:(y.1.i:Int)<B.length:=by omega
    have ajr:(x.d:Int)<sI.size:=by omega
    have HT:=Aa hT;clear hT q4 q3 q1 qc qx qs;refine wpIn_seq_k λK2 lr=>?_;refine iB1 (bP T) 15 (aV 15 [13,14]) (by rintro⟨_,_,h⟩;exact h) (by kernel_rfl) (bP.refl T) (oE T) (by kernel_rfl) (by kernel_rfl) (λd _ _ _ _ h=>by cases d<;>exact h) ?_
    iterate 13 (refine aG rfl (λK hK=>?_);go_simp;refine hK _ ?_;clear hK K)
    refine aY rfl rfl (λK hK=>?_);go_simp;refine⟨bP.alloc ju _,hK _ _ ?_⟩;clear hK K;refine aY rfl rfl (λK hK=>?_);have oL:aU V2.drew s 5 1 aX n7 Ll:=by rw[HLL.out];exact J5d.st.oL
    refine aM1 bK _ _ rfl s n7 Ll sI[x.d] rfl oL V2.drew.heap.size 1 rfl #[.int .u8 (sI[x.d].toNat:Nat)] rfl rfl (by omega) (Ae hsV (Ae KF5.size (Ad _))) ?_;intro v6 w6 ho6 cp _;have hJ6:=J5d.pushL ho6 cp;obtain⟨g6,p6,rfl⟩:=pI ho6;refine⟨λb hb=>?_,hK _ _ ?_⟩
    ·have e1:=cp.block b (ju b hb) (λe=>hTr b hb e.symm)
     have e2:=bP.alloc ju (.cells #[.int .u8 (sI[x.d].toNat:Nat)] 5) b hb;rw[e1,<-e2];rfl
    clear hK K z4 z3 z1 zc zx zs;refine bH ?_;have c3b:w6.cell? ⟨b3,2,none⟩=some n7:=by rw[HB3.out];exact hJ6.2.2.2.cell rfl
    have f3b:w6.frozen? ⟨b3,2,none⟩=false:=by rw[HB3.out];exact hJ6.2.2.2.froz 2
    simp only[Aq,Au];go_wp2_with fail
    obtain⟨V3,lh⟩:=exq (w6.setCell ⟨b3,2,none⟩ (.slice (some ⟨g6,0,none⟩) (Ll.length+1) p6));have J6:=hJ6.1;have KF6:=hJ6.2.1;have TC3:=hJ6.2.2.1 _ _ TCd;rw[<-HB3.out,<-lh]at J6 KF6 TC3;rw[<-lh];have ah2:s<=V3.heap.size:=Ae hxk.2.2.2.2 J6.sz;clear hJ6 lh c3b f3b oL ho6 cp TCd b4d b3d ju hTr J5d;have c8:V3.cell? ⟨b8,0,none⟩=some s7:=by rw[HB8.out];exact J6.st.b8.cell rfl
    have y0:V3.cell? ⟨Bx,0,none⟩=some (.int .i64 y.1.i):=TC3.cell rfl;have y1:V3.cell? ⟨Bx,1,none⟩=some (.int .i64 y.1.t):=TC3.cell rfl;have y2:V3.cell? ⟨Bx,2,none⟩=some (.int .i64 y.1.d):=TC3.cell rfl;have oA3:aU V3 s 205 3 cO0 s7 La:=by rw[HLA.out];exact J6.st.oA
    refine iH1 (by rintro⟨_,_,h⟩;exact h) (by kernel_rfl) ?_;go_wp2_with (at_builtin;refine cK nQ0 rfl _ _ rfl s s7 La y.1 rfl oA3 (Grows.refl _) _ 1 rfl #[.int .i64 y.1.i,.int .i64 y.1.t,.int .i64 y.1.d] rfl rfl (by omega) ah2 ?_;intro v7 w7 yv cu vp _;have hJ7:=J6.pushA yv cu vp;obtain⟨g7,p7,rfl⟩:=pI yv;have c8b:w7.cell? ⟨b8,0,none⟩=some s7:=(by rw[HB8.out];exact hJ7.2.2.cell rfl);have f8b:w7.frozen? ⟨b8,0,none⟩=false:=(by rw[HB8.out];exact hJ7.2.2.froz 0))
    have J7:=hJ7.1
    have E7:({ ({ ({ (lbK (bls B) i x (pre.map (λy=>y.1)) n5 s7 n7 u7 u8) with vS:=.slice (some ⟨g5,0,none⟩) (Ls.length+1) p5,sh:=Ls++[true] }:BD) with vL:=.slice (some ⟨g6,0,none⟩) (Ll.length+1) p6,lab:=Ll++[sI[x.d]] }:BD) with vA:=.slice (some ⟨g7,0,none⟩) (La.length+1) p7,al:=La++[y.1] }:BD) =
      lbK (bls B) i x ((pre++[y]).map (λy=>y.1)) (.slice (some ⟨g5,0,none⟩) (Ls.length+1) p5) (.slice (some ⟨g7,0,none⟩) (La.length+1) p7) (.slice (some ⟨g6,0,none⟩) (Ll.length+1) p6) u7 u8:=by
     have e1:Ls++[true]=shapeL (bls B) ((nodesA (bls B)).take i)++Ab ((pre++[y]).map (λy=>y.1)).length true:=by
      rw[HLS.out,Al,Aj,Ai];show _++(Ab _ true++[true])=_++Ab (_+1) true
      rw[List.replicate_succ']
     have e2:Ll++[sI[x.d]]=labelsL (bls B) ((nodesA (bls B)).take i)++((pre++[y]).map (λy=>y.1)).map (pS (bls B) x):=by
      rw[HLL.out,Al,Aj,Aj,<-pr];rfl
     have e3:La++[y.1]=eP (rootS (bls B)) (eY (bls B)) (nodesA (bls B)) i++(pre++[y]).map (λy=>y.1):=by
      rw[HLA.out,Al,Aj];rfl
     unfold lbK;simp only[e1,e2,e3]
    rw[E7]at J7;have KF7:=hJ7.2.1;rw[<-HB8.out]at J7 KF7;exact⟨((KF5.trans ((KeepsOthers.drew V2).from _)).trans KF6).trans KF7,h.keepB J7,_,_,_,J7⟩
   case stop =>
    rintro D c pre W _ _ h _;exact h.elim
   case done =>
    rintro D xs V hD hxs ⟨n5,s7,n7,J⟩ hKD;rw[hxs]at J
    have MK:Hid (lY V s (D::ds)):=⟨λD' hD'=>by
     rcases List.mem_cons.1 hD' with rfl|h
     ·exact⟨Ae hxk.2.2.2.2 hD,hKD⟩
     ·exact J.mks.at_ D' h,List.nodup_cons.2 ⟨λir=>by have:=(Array.getElem?_eq_some_iff.1 (xj.at_ D ir).2).1;omega,xj.nodup⟩⟩
    have uk:=iN HX.out;obtain⟨N2,hN2⟩:=exq (offA (bls B) (i+1));obtain⟨aA',cA',afd,_,_,aay⟩:=J.st.oA.at_ nQ0.len;dsimp only[lbK]at afd
    subst afd
    have mu:(eP (rootS (bls B)) (eY (bls B)) (nodesA (bls B)) i++eY (bls B) x).length=N2:=by
     rw[Ai,hN2,uk];rfl
    have c8:V.cell? ⟨b8,0,none⟩=some (.slice aA' N2 cA'):=by
     rw[HB8.out,<-mu];exact J.st.b8.cell rfl
    have HN2:=Aa hN2;by_cases fu:524287<N2
    ·have se:(524287:Int)<N2:=by omega
     clear aay mu hN2 uk;dsimp only[zX]
     go_wp2_with fail
     refine qA (ds:=D::ds) (lo:=s) MK.out λw' ga d8 lw=>⟨.tuple #[.pointer none,.int .i64 2],by simp[results,Tryz.results72,go_sem],λ_=>⟨rfl,bO0 J.st.gr MK.out HS.out ga d8 lw⟩,λfo=>?_⟩
     exfalso
     have h1:=HOK.out.off_le (i+1);have h2:=eH HOK.out.asc HOK.out.len;have h3:=HN2.out;omega
    ·have se:¬(524287:Int)<N2:=by omega
     have hsV:s<=V.heap.size:=Ae hxk.2.2.2.2 J.sz;obtain⟨Ls,hLs⟩:=exq (shapeL (bls B) ((nodesA (bls B)).take i)++Ab (eY (bls B) x).length true);have oS:aU V s 4 1 rD n5 Ls:=by rw[hLs];exact J.st.oS
     have ajs:Ls.length+1<=9000000:=by
      have h3:=eW (bls B) i (by have:=(List.getElem?_eq_some_iff.1 HX.out).1;omega);have h5:=HO.out;rw[hLs,Ai,Ap];omega
     have HLS:=Aa hLs;have c6:V.cell? ⟨b6,0,none⟩=some n5:=by rw[HB6.out];exact J.st.b6.cell rfl
     have HLEN2:=Aa mu;have HOFF:=Aa uk;clear aay mu hN2 uk hLs;dsimp only[zX]
     go_wp2_with (at_builtin;refine cK bI0 rfl _ _ rfl s n5 Ls false rfl oS (Grows.refl _) _ 1 rfl #[.bool false] rfl rfl (by omega) hsV ?_;intro v5 w5 ho5 bg hf5 _;have vo:=J.pushS ho5 bg hf5;obtain⟨g5,p5,rfl⟩:=pI ho5;have c6b:w5.cell? ⟨b6,0,none⟩=some n5:=(by rw[HB6.out];exact vo.2.2.2.cell rfl);have f6b:w5.frozen? ⟨b6,0,none⟩=false:=(by rw[HB6.out];exact vo.2.2.2.froz 0))
     have M6a:lY w5 s (D::ds):=MK.out.grown bg (MK.out.not_row (RT.own J.st.oS));have M6b:lY (w5.setCell ⟨s+5,0,none⟩ (.slice (some ⟨g5,0,none⟩) (Ls.length+1) p5)) s (D::ds):=M6a.grown (aK _ _ _ _) (M6a.not_row vo.2.2.2.rt);obtain⟨V2,ny⟩:=exq (w5.setCell ⟨b6,0,none⟩ (.slice (some ⟨g5,0,none⟩) (Ls.length+1) p5));have J5:=vo.1;rw[<-HB6.out,<-ny]at M6b;have M6:Hid (lY V2.drew s (D::ds)):=⟨λE hE=>M6b.at_ E hE,M6b.nodup⟩;clear M6a M6b;rw[<-HB6.out,<-ny]at J5;rw[<-ny];clear vo ny c6 c6b f6b oS ho5 bg hf5 c8;have ade:s<=V2.drew.heap.size:=Ae hxk.2.2.2.2 J5.sz;have J5d:=J5.dr;have B6:=J5d.st;have TX6:=J5d.tx;obtain⟨Li,hLi⟩:=exq (isL (bls B) ((nodesA (bls B)).take i));obtain⟨Ld,hLd⟩:=exq (idsL (bls B) ((nodesA (bls B)).take i));have oI:aU V2.drew s 4 1 rD u7 Li:=by rw[hLi];exact B6.oI
     have aef:Li.length+1<=9000000/\Ld.length+1<=9000000:=by
      have h1:=(List.getElem?_eq_some_iff.1 HX.out).1;rw[hLi,hLd];unfold isL idsL;rw[Ao,Ao];have h2:=List.length_filter_le (iI (bls B)) ((nodesA (bls B)).take i);have h3:((nodesA (bls B)).take i).length<=i:=by rw[List.length_take];omega
      omega
     have HLI:=Aa hLi;have HLD:=Aa hLd;have q0:=TX6.cell (o:=0) (v:=.int .i64 x.i) rfl;have q1:=TX6.cell (o:=1) (v:=.int .i64 x.t) rfl;have q2:=TX6.cell (o:=2) (v:=.int .i64 x.d) rfl;have qs:=B6.b1.cell (o:=0) (v:=.slice a B.length c) rfl;have z0:∀y:Ext Grows V2.drew,y.u.cell? ⟨xb,0,none⟩=some (.int .i64 x.i):=aB q0;have z1:∀y:Ext Grows V2.drew,y.u.cell? ⟨xb,1,none⟩=some (.int .i64 x.t):=aB q1;have z2:∀y:Ext Grows V2.drew,y.u.cell? ⟨xb,2,none⟩=some (.int .i64 x.d):=aB q2;have zs:∀y:Ext Grows V2.drew,y.u.cell? ⟨s,0,none⟩=some (.slice a B.length c):=aB qs;clear hLi hLd q0 q1 q2 qs;by_cases gd:x.i<x.t
     case neg =>
      have ah3:¬(x.i:Int)<x.t:=by omega
      have HH:Hid (iI (bls B) x=false):=by
       show _=_
       unfold iI;simp[gd]
      refine nN ?_;refine bF (aV 17 []) (by kernel_rfl) (λd _ _ _ _ h=>by cases d<;>exact h) ?_
      iterate 17 (refine aG rfl (λK hK=>?_);go_simp;refine hK _ ?_;clear hK K)
      refine bH ?_;simp only[fZ];clear z0 z1 z2 zs;go_wp2_with (at_builtin;refine cK bI0 rfl _ _ rfl s u7 Li false rfl oI (Grows.refl _) _ 1 rfl #[.bool false] rfl rfl (by omega) ade ?_;intro v7 w7 yv cu vp _;have hB7:=B6.pushI yv cu vp;have TX7:=TX6.keep cu (RT.own oI) (by decide);have M7:=Aa (M6.out.grown cu (M6.out.not_row (RT.own oI))))
      have BB:=kH0 HOK.out HX.out HH.out n5 u7 (.slice (some ⟨g5,0,none⟩) (Ls.length+1) p5) (.slice aA' (eP (rootS (bls B)) (eY (bls B)) (nodesA (bls B)) i++eY (bls B) x).length cA') n7 v7 u8;rw[<-HLS.out,<-HLI.out]at BB;have yw:=Eq.mp (congrArg (Bst w w7 s B.length _) BB) hB7;exact hK (D::ds) ⟨_,_,_,_,_,_,_,_,_,_,_,_,_,_,_,_,_,_,_,_,_,_,_,_,_,_,_,_,_,_,_,_,_,_,_,_,_,_,_,_,_,_,_,_,_,_,_,_,_,_,_,_,_,_,_,_,_,_,_,_,_,_,_,_,_,_,_,_,_,_,_,_,_,_,_,_,_,_,_,_,_,_,_,_,_⟩ _ ⟨by go_num,by omega,M7.out,⟨_,_,_,yw⟩,by have:=HN2.out;omega⟩
     case pos =>
      have hxB:x.i<B.length:=by have:=i6.le;rw[cG]at this;omega
      have ah3:(x.i:Int)<x.t:=by omega
      have ajt:(x.i:Int)<B.length:=by omega
      obtain⟨sX,hsX⟩:∃s,B[x.i]?=some s:=⟨_,Ag hxB⟩;obtain⟨sb,so,rfl,eo⟩:=at1 (f:=λs:ByteArray=>Value.string s) (HAT.out.grows B6.gr) (Ah (Af hsX));have zS:∀y:Ext Grows V2.drew,y.u.cell? ⟨sb,so+x.i,none⟩=some (.string sX):=aB (eo _ _ hsX);by_cases hh:sX.size=x.d
      case neg =>
       have ut:((sX.size:Int)==x.d)=false:=by rw[beq_eq_false_iff_ne];omega
       have HH:Hid (iI (bls B) x=false):=by
        show _=_
        unfold iI;rw[dV hsX,dB];simp[hh]
       clear hh hsX eo;refine nN ?_;refine bF (aV 17 []) (by kernel_rfl) (λd _ _ _ _ h=>by cases d<;>exact h) ?_
       iterate 17 (refine aG rfl (λK hK=>?_);go_simp;refine hK _ ?_;clear hK K)
       refine bH ?_;simp only[fZ];clear z0 z1 z2 zs zS;go_wp2_with (at_builtin;refine cK bI0 rfl _ _ rfl s u7 Li false rfl oI (Grows.refl _) _ 1 rfl #[.bool false] rfl rfl (by omega) ade ?_;intro v7 w7 yv cu vp _;have hB7:=B6.pushI yv cu vp;have TX7:=TX6.keep cu (RT.own oI) (by decide);have M7:=Aa (M6.out.grown cu (M6.out.not_row (RT.own oI))))
       have BB:=kH0 HOK.out HX.out HH.out n5 u7 (.slice (some ⟨g5,0,none⟩) (Ls.length+1) p5) (.slice aA' (eP (rootS (bls B)) (eY (bls B)) (nodesA (bls B)) i++eY (bls B) x).length cA') n7 v7 u8;rw[<-HLS.out,<-HLI.out]at BB;have yw:=Eq.mp (congrArg (Bst w w7 s B.length _) BB) hB7;exact hK (D::ds) ⟨_,_,_,_,_,_,_,_,_,_,_,_,_,_,_,_,_,_,_,_,_,_,_,_,_,_,_,_,_,_,_,_,_,_,_,_,_,_,_,_,_,_,_,_,_,_,_,_,_,_,_,_,_,_,_,_,_,_,_,_,_,_,_,_,_,_,_,_,_,_,_,_,_,_,_,_,_,_,_,_,_,_,_,_,_⟩ _ ⟨by go_num,by omega,M7.out,⟨_,_,_,yw⟩,by have:=HN2.out;omega⟩
      case pos =>
       have ut:((sX.size:Int)==x.d)=true:=by rw[hh];simp
       have HH:Hid (iI (bls B) x=true):=by
        show _=_
        unfold iI;rw[dV hsX,dB];simp[hh,gd]
       clear hh hsX eo;refine nN ?_;refine bF (aV 17 []) (by kernel_rfl) (λd _ _ _ _ h=>by cases d<;>exact h) ?_
       iterate 17 (refine aG rfl (λK hK=>?_);go_simp;refine hK _ ?_;clear hK K)
       refine bH ?_;simp only[fZ];clear z0 z1 z2 zs zS;go_wp2_with (at_builtin;refine cK bI0 rfl _ _ rfl s u7 Li true rfl oI (Grows.refl _) _ 1 rfl #[.bool true] rfl rfl (by omega) ade ?_;intro v7 w7 yv cu vp _;have hB7:=B6.pushI yv cu vp;have TX7:=TX6.keep cu (RT.own oI) (by decide);have M7:=Aa (M6.out.grown cu (M6.out.not_row (RT.own oI))))
       have oN:=hB7.oN;have afe:(uN (bls B) i).length=B.length:=by rw[dJ1,cG]
       have aff:x.i<(uN (bls B) i).length:=by rw[afe];omega
       obtain⟨ov,hov⟩:∃o,(uN (bls B) i)[x.i]?=some o:=⟨_,Ag aff⟩;have cN:w7.cell? ⟨b2,x.i,none⟩=some (.int .i64 ov):=by rw[HB2.out];exact cX (f:=λn:Nat=>Value.int .i64 n) oN hov
       have hSN:=hB7.setN aff i;have fN:w7.frozen? ⟨b2,x.i,none⟩=false:=by rw[HB2.out];exact hSN.1
       have z4:∀y:Ext Grows w7.drew,y.u.cell? ⟨b4,0,none⟩=some (.pointer (some ⟨b3,0,none⟩)):=aB (by rw[HB4.out,HB3.out];exact hB7.dr.b4.cell rfl);have z3:∀y:Ext Grows w7.drew,y.u.cell? ⟨b3,4,none⟩=some (.slice (some ⟨b2,0,none⟩) B.length B.length):=aB (by rw[HB3.out,HB2.out];exact hB7.dr.b2.cell rfl);have zx:∀y:Ext Grows w7.drew,y.u.cell? ⟨xb,0,none⟩=some (.int .i64 x.i):=aB ((Grows.drew w7).cell (TX7.cell rfl));clear oN hov afe;refine nN ?_;refine mK 8 (aV 8 []) (by kernel_rfl) (λd _ _ _ _ h=>by cases d<;>exact h) ?_
       iterate 8 (refine aG rfl (λK hK=>?_);go_simp;refine hK _ ?_;clear hK K)
       refine bH ?_;clear z4 z3 zx;simp only[Aq,Au];go_wp2_with fail
       simp only[fZ];obtain⟨V8,hV8⟩:=exq ((w7.setCell ⟨b2,x.i,none⟩ (.int .i64 i)).drew);have B8:=hSN.2.dr;rw[<-HB2.out,<-hV8]at B8
       have M8:Hid (lY V8 s (D::ds)):=by
        have m2:=M7.out.grown (aK w7 (s+1) x.i (.int .i64 i)) (M7.out.not_row (RT.own hB7.oN));rw[hV8,HB2.out];exact⟨λE hE=>m2.at_ E hE,m2.nodup⟩
       have cx8:V8.cell? ⟨xb,0,none⟩=some (.int .i64 x.i):=by
        rw[hV8,HB2.out];exact(TX7.keep (aK w7 (s+1) x.i (.int .i64 i)) (RT.own hB7.oN) (by decide)).cell rfl
       have wx8:IntKind.u64.wrap (x.i:Int)=x.i:=by simp[IntKind.wrap,IntKind.bits,IntKind.signed];omega
       rw[<-hV8];have hs8:s<=V8.heap.size:=by rw[HS.out];exact B8.gr.size
       have oD:aU V8 s 164 1 kO u8 Ld:=by rw[HLD.out];exact B8.oD
       clear hSN hV8 cN fN;go_wp2_with (at_builtin;refine cK cB1 rfl _ _ rfl s u8 Ld x.i rfl oD (Grows.refl _) _ 1 rfl #[.int .u64 x.i] rfl rfl (by omega) hs8 ?_;intro v9 w9 ho9 jl hf9 _;have hB9:=B8.pushD ho9 jl;have M9:=Aa (M8.out.grown jl (M8.out.not_row (RT.own oD))))
       have BB:=dW1 HOK.out HX.out HH.out n5 u7 u8 (.slice (some ⟨g5,0,none⟩) (Ls.length+1) p5) (.slice aA' (eP (rootS (bls B)) (eY (bls B)) (nodesA (bls B)) i++eY (bls B) x).length cA') n7 v7 v9;rw[<-HLS.out,<-HLI.out,<-HLD.out]at BB;have yw:=Eq.mp (congrArg (Bst w w9 s B.length _) BB) hB9;exact hK (D::ds) ⟨_,_,_,_,_,_,_,_,_,_,_,_,_,_,_,_,_,_,_,_,_,_,_,_,_,_,_,_,_,_,_,_,_,_,_,_,_,_,_,_,_,_,_,_,_,_,_,_,_,_,_,_,_,_,_,_,_,_,_,_,_,_,_,_,_,_,_,_,_,_,_,_,_,_,_,_,_,_,_,_,_,_,_,_,_⟩ _ ⟨by go_num,by omega,M9.out,⟨_,_,_,yw⟩,by have:=HN2.out;omega⟩
end
section
open Go Go.RowKit Go.Shelf
theorem wB0 (B:List ByteArray) (a:Option Addr) (c:Nat) (w:World) (hB:B.length<=1099511627776) (dp:∀s∈B,s.size<=1099511627776) (l9:mH0 (bls B)≠0) (ac:aF w a 1 (B.map stC)) :
  Calls Tryz.prog 72 #[.slice a B.length c] w λe w'=>e=.returned (.tuple #[.pointer none,.int .i64 (mH0 (bls B))])/\Grows w w':=by
 obtain⟨K,hK⟩:=exq (mH0 (bls B))
 have CK:Hid (∀u,Grows w u->Calls Tryz.prog 146 #[.slice a B.length c] u λe w'=>e=.returned (.int .i64 K)/\u=w'):=λu hg=>by
  rw[hK];exact qF0 B a c u hB dp (ac.grows hg)
 rw[<-hK]at l9 ⊢;have hKi:¬(K:Int)=0:=by omega
 clear ac dp hK;go_enter Tryz.func72,Tryz.ntmps72
 go_wp2_with (go_at_call 146;refine(CK.out _ (Grows.alloc _ _)).mono ?_;rintro e w2 ⟨rfl,rfl⟩)
 exact bodyPost_ret (v:=.tuple #[.pointer none,.int .i64 K]) (by simp[results,Tryz.results72,go_sem]) rfl ⟨rfl,Grows.alloc _ _⟩
theorem wF (B:List ByteArray) (a:Option Addr) (c:Nat) (w:World) (hB:B.length<=1099511627776) (dp:∀s∈B,s.size<=1099511627776) (ha:∀q,a=some q->q.block<w.heap.size) (ac:aF w a 1 (B.map stC)) :
  Calls Tryz.prog 72 #[.slice a B.length c] w λe w'=>Grows w w' /\
   ((cY (bls B)=0/\∃tb,e=.returned (.tuple #[.pointer (some ⟨tb,0,none⟩),.int .i64 0])/\eD w' tb (bls B)/\w.heap.size+2<=tb)\/(cY (bls B)≠0/\e=.returned (.tuple #[.pointer none,.int .i64 (cY (bls B))]))):=by
 by_cases l9:mH0 (bls B)=0
 ·have h1:¬20000<(bls B).length:=λh=>by unfold mH0 at l9;rw[if_pos h]at l9;cases l9
  have h2:nJ (bls B)=false:=by
   unfold mH0 at l9;rw[if_neg h1]at l9
   cases h:nJ (bls B) with
   | false=>rfl
   | true=>rw[h]at l9;cases l9
  have ag:=yT0 h2;have hl:B.length<=20000:=by rw[cG]at h1;omega
  have i5:∀s∈B,s.size<=256:=λs hs=>by
   have:=ag.len (bl s) (by unfold bls;exact List.mem_map.2 ⟨s,hs,rfl⟩)
   rwa [dB]at this
  have hc:cY (bls B)=if 524287<dZ (bls B) then 2 else 0:=by
   unfold cY;rw[if_neg h1,h2];rfl
  refine(zO0 B a c w l9 ha hl i5 ag ac).mono ?_;rintro e w' ⟨k1,k2⟩;rcases Av 524287 (dZ (bls B)) with h|h
  ·obtain⟨rfl,hg⟩:=k1 h
   rw[if_pos h]at hc;exact⟨hg,Or.inr ⟨by rw[hc];decide,by rw[hc];rfl⟩⟩
  ·obtain⟨rfl,ht,hg⟩:=k2 h
   rw[if_neg (by omega)]at hc;exact⟨hg,Or.inl ⟨hc,_,rfl,ht,Ad _⟩⟩
 ·have hc:cY (bls B)=mH0 (bls B):=by
   unfold cY mH0 at *;by_cases h1:20000<(bls B).length
   ·rw[if_pos h1,if_pos h1]
   ·rw[if_neg h1]at l9
    rw[if_neg h1,if_neg h1];by_cases h2:nJ (bls B)=true
    ·rw[if_pos h2,if_pos h2]
    ·rw[if_neg h2]at l9
     exact absurd rfl l9
  refine(wB0 B a c w hB dp l9 ac).mono ?_;rintro e w' ⟨rfl,hg⟩;exact⟨hg,Or.inr ⟨by rw[hc];exact l9,by rw[hc]⟩⟩
end
section
open Go Go.RowKit Go.Shelf
attribute [local go_sem] aQ aM
structure GB (w0 w:World) (vP vD vS:Value) (P D:List Nat) (S:List ByteArray):Prop where
 p:aU w w0.heap.size 3 1 kH vP P
 d:aU w w0.heap.size 3 1 kH vD D
 s:aU w w0.heap.size 9 1 stC vS S
 pd:pJ vP vD
 ps:pJ vP vS
 ds:pJ vD vS
 g:Grows w0 w
section
variable {w0 w w':World} {vP vD vS v':Value} {P D P' D':List Nat} {S:List ByteArray}
theorem GB.grows (h:GB w0 w vP vD vS P D S) (hg:Grows w w'):GB w0 w' vP vD vS P D S:=⟨h.p.grows hg,h.d.grows hg,h.s.grows hg,h.pd,h.ps,h.ds,h.g.tr hg⟩
theorem GB.appP (h:GB w0 w vP vD vS P D S) (ho:aU w' w0.heap.size 3 1 kH v' P') (hk:w.grownBy w' vP.ownBlock) (hf:wO w vP v'):GB w0 w' v' vD vS P' D S :=
 ⟨ho,gR h.d hk h.pd,gR h.s hk h.ps,h.pd.fresh (gP h.d) hf,h.ps.fresh (gP h.s) hf,h.ds,h.g.grown hk (bB h.p)⟩
theorem GB.appD (h:GB w0 w vP vD vS P D S) (ho:aU w' w0.heap.size 3 1 kH v' D') (hk:w.grownBy w' vD.ownBlock) (hf:wO w vD v'):GB w0 w' vP v' vS P D' S :=
 ⟨gR h.p hk h.pd.symm,ho,gR h.s hk h.ds,(h.pd.symm.fresh (gP h.p) hf).symm,h.ps,h.ds.fresh (gP h.s) hf,h.g.grown hk (bB h.d)⟩
theorem GB.ebP (h:GB w0 w vP vD vS P D S) (hk:w.grownBy w' vP.ownBlock):EB w0.heap.size w w' :=
 ⟨Below.grown (Below.refl _ _) hk h.g.size (bB h.p),hk.size⟩
theorem GB.ebD (h:GB w0 w vP vD vS P D S) (hk:w.grownBy w' vD.ownBlock):EB w0.heap.size w w' :=
 ⟨Below.grown (Below.refl _ _) hk h.g.size (bB h.d),hk.size⟩
theorem GB.newD (h:GB w0 w vP vD vS P D S):some w.heap.size≠vD.ownBlock:=λe=>Ar _ (gP h.d _ e.symm)
theorem GB.newP (h:GB w0 w vP vD vS P D S):some w.heap.size≠vP.ownBlock:=λe=>Ar _ (gP h.p _ e.symm)
theorem GB.setS {lb n c k:Nat} (h:GB w0 w vP vD (.slice (some ⟨lb,0,none⟩) n c) P D S) (hk:k<S.length) (y:ByteArray):w.frozen? ⟨lb,k,none⟩=false/\GB w0 (w.setCell ⟨lb,k,none⟩ (.string y)) vP vD (.slice (some ⟨lb,0,none⟩) n c) P D (S.set k y):=by
 obtain⟨h1,h2,h3⟩:=eU (f:=λs:ByteArray=>Value.string s) h.s hk y;have hg:=(Grows.refl w).grownBy_set lb k (.string y);exact⟨h1,gR (v:=.slice (some ⟨lb,0,none⟩) n c) h.p hg h.ps.symm,gR (v:=.slice (some ⟨lb,0,none⟩) n c) h.d hg h.ds.symm,h3,h.pd,h.ps,h.ds,h.g.set (show w0.heap.size<=lb from h2) _⟩
end
theorem mS1 (n:Nat) (W:World) (h1:1<=n) (hn:n<=1048576):(Instr.makeSlice 86 (.int .i64 1) (.int .i64 n)).run Tryz.prog W=.ok (.slice (some ⟨W.heap.size,0,none⟩) 1 n) (W.alloc (.cells (madeCells #[.int .i64 0] (n*1)) 3)):=by
 obtain⟨i,h1,h2,h3,h4⟩:=cH1;have h:=run_make (P:=Tryz.prog) W 86 3 i (.int .i64 0) Tryz.underlying86 h1 h2 .i64 .i64 1 n (by omega) (by omega) (by rw[h4];omega) (by omega);rw[Am,h3]at h;exact h
theorem dR1 {w:World} {n:Nat} (h1:1<=n) (hn:n<=1048576):aU (w.alloc (.cells (madeCells #[.int .i64 0] (n*1)) 3)) w.heap.size 3 1 kH (.slice (some ⟨w.heap.size,0,none⟩) 1 n) [0]:=by
 refine⟨rfl,Or.inr ⟨w.heap.size,n,madeCells #[.int .i64 0] (n*1),rfl,Ad _,?_,h1,by unfold maxLen;omega,by rw[size_madeCells],?_⟩⟩
 ·show (w.heap.push _)[w.heap.size]?=_
  simp
 ·rw[toList_madeCells_one,List.take_replicate,show min (([0]:List Nat).length*1) (n*1)=1 by simp;omega]
  rfl
theorem iP1:∃i,Tryz.prog.info? 9=some i/\i.zero=some (.string ⟨#[]⟩)/\i.size=1/\i.bytes=16:=by
 have h:(Tryz.prog.info? 9).map (λi=>(i.zero,i.size,i.bytes))=some (some (.string ⟨#[]⟩),1,16):=by kernel_rfl
 cases hi:Tryz.prog.info? 9 with
 | none=>rw[hi]at h;cases h
 | some i =>
  rw[hi]at h;simp only[At,Option.some.injEq,Prod.mk.injEq]at h;exact⟨i,rfl,h.1,h.2.1,h.2.2⟩
theorem nF1 (n:Nat) (W:World) (hn:n<=1048576):(Instr.makeSlice 123 (.int .i64 n) (.int .i64 n)).run Tryz.prog W=.ok (.slice (some ⟨W.heap.size,0,none⟩) n n) (W.alloc (.cells (madeCells #[.string ⟨#[]⟩] (n*1)) 9)):=by
 obtain⟨i,h1,h2,h3,h4⟩:=iP1;have h:=run_make (P:=Tryz.prog) W 123 9 i (.string ⟨#[]⟩) Tryz.underlying123 h1 h2 .i64 .i64 n n (by omega) (Ax _) (by rw[h4];omega) (by omega);rw[Am,h3]at h;exact h
theorem jU1 {w:World} {n:Nat} (hn:n<=1048576):aU (w.alloc (.cells (madeCells #[.string ⟨#[]⟩] (n*1)) 9)) w.heap.size 9 1 stC (.slice (some ⟨w.heap.size,0,none⟩) n n) (Ab n ⟨#[]⟩) :=
 jB (enc:=stC) (λ_=>rfl) (Ad _) (Ab n ⟨#[]⟩) (by
  rw[toList_madeCells_one,Ay];unfold stC;rw[oJ,As]) (by simp) (by unfold maxLen;omega)
theorem lY1:∃i,Tryz.prog.info? 5=some i/\i.zero=some (.int .u8 0)/\i.size=1/\i.bytes=1:=by
 have h:(Tryz.prog.info? 5).map (λi=>(i.zero,i.size,i.bytes))=some (some (.int .u8 0),1,1):=by kernel_rfl
 cases hi:Tryz.prog.info? 5 with
 | none=>rw[hi]at h;cases h
 | some i =>
  rw[hi]at h;simp only[At,Option.some.injEq,Prod.mk.injEq]at h;exact⟨i,rfl,h.1,h.2.1,h.2.2⟩
theorem nY1 (n:Nat) (W:World) (hn:n<=1048576):(Instr.makeSlice 42 (.int .i64 n) (.int .i64 n)).run Tryz.prog W=.ok (.slice (some ⟨W.heap.size,0,none⟩) n n) (W.alloc (.cells (madeCells #[.int .u8 0] (n*1)) 5)):=by
 obtain⟨i,h1,h2,h3,h4⟩:=lY1;have h:=run_make (P:=Tryz.prog) W 42 5 i (.int .u8 0) Tryz.underlying42 h1 h2 .i64 .i64 n n (by omega) (Ax _) (by rw[h4];omega) (by omega);rw[Am,h3]at h;exact h
theorem lV1 {w:World} {n:Nat} (hn:n<=1048576):aU (w.alloc (.cells (madeCells #[.int .u8 0] (n*1)) 5)) w.heap.size 5 1 aX (.slice (some ⟨w.heap.size,0,none⟩) n n) (Ab n 0) :=
 jB (enc:=aX) (λ_=>rfl) (Ad _) (Ab n 0) (by
  rw[toList_madeCells_one,Ay];unfold aX;rw[oJ,As];rfl) (by simp) (by unfold maxLen;omega)
theorem OkL.ids_len {L:List (List UInt8)} (h:OkL L):(idsL L (nodesA L)).length=L.length:=by
 have hm:∀n∈idsL L (nodesA L),n<L.length:=λn hn=>by
  unfold idsL at hn;obtain⟨x,hx,rfl⟩:=List.mem_map.1 hn;have hh:=(List.mem_filter.1 hx).2;have hg:=mR h.asc (List.mem_filter.1 hx).1;unfold iI at hh;simp only[Bool.and_eq_true,decide_eq_true_eq]at hh
  have:=hg.le
  omega
 have hn:(idsL L (nodesA L)).Nodup:=by
  unfold idsL;rw[List.nodup_iff_pairwise_ne,List.pairwise_map]
  have hp:((nodesA L).filter (iI L)).Pairwise (λx y=>x∈nodesA L/\y∈nodesA L/\iI L x=true/\iI L y=true/\qU0 x y):=by
   have h1:=(jE h.asc).filter (iI L);refine List.Pairwise.imp_of_mem (λ{a b} ha hb ev=>?_) h1;exact⟨(List.mem_filter.1 ha).1,(List.mem_filter.1 hb).1,(List.mem_filter.1 ha).2,(List.mem_filter.1 hb).2,ev⟩
  refine hp.imp λ{x y} ⟨hx,hy,h1,h2,hb⟩ e=>?_;have gx:=mR h.asc hx;have gy:=mR h.asc hy;have a:=(qR h.asc gx h.pos x.i).2 ⟨h1,rfl⟩;have b:=(qR h.asc gy h.pos y.i).2 ⟨h2,rfl⟩;rw[e,b]at a
  have:=gy.inj h.asc gx (Option.some.inj a)
  subst this;rcases hb with hb|hb<;>omega
 have h1:=dG hn (l':=List.range L.length) λn hx=>List.mem_range.2 (hm n hx)
 have h2:=dG (List.nodup_range (n:=L.length)) (l':=idsL L (nodesA L)) λj hj=>by
  obtain⟨i,x,hx,hh,rz⟩:=h.node (List.mem_range.1 hj);unfold idsL;exact List.mem_map.2 ⟨x,List.mem_filter.2 ⟨Af hx,hh⟩,rz⟩
 rw[List.length_range]at h1 h2;omega
end
end Go.Proofs.YtcijgkfpobpdbaaGreatDoor
