/- The texts Lb2 Lb5 Tri2 Tri3 GroM Grow, one behind the other. -/
import Derived.Test.YthgklnohcmaopaaGreatDoorLq41
import Derived.Test.YthgklnohcmaopaaGreatDoorLq40
import Derived.Test.YthgklnohcmaopaaGreatDoorLq25
import Derived.Test.YthgklnohcmaopaaGreatDoorLq20
import Derived.Test.YthgklnohcmaopaaGreatDoorLq12
import Derived.Test.YthgklnohcmaopaaGreatDoorLq23
open Go.Lib renaming hid → Aa
open List renaming replicate → Ab,getElem?_eq_getElem → Ac,mem_of_getElem? → Ae,ne_nil_of_mem → Ah,length_append → Ai,length_map → Aj,length_replicate → Ak,foldl → Al,append_nil → An,map_append → Ao,drop_succ_cons → Ap,append_assoc → Ar,drop_zero → Av,map_replicate → Ay,take_length → Bb
open Nat renaming le_refl → Ad,le_trans → Ag,mul_one → Am,lt_of_lt_of_le → Aq,zero_le → Au,lt_irrefl → Ax,lt_or_ge → Bd,add_zero → Be
open Go.World renaming grownBy_alloc → Af,size_alloc → At
open Int renaming toNat_natCast → As,le_refl → Bf
open Go.IntKind renaming signed → Aw,wrap → Az,bits → Ba
open Option renaming map_some → Bc
set_option maxHeartbeats 16000000
namespace Go.Proofs.YthgklnohcmaopaaGreatDoor
set_option maxRecDepth 100000
section
open Go Go.RowKit Go.Shelf
attribute [local go_sem] aO aM Oper.semAt_some
theorem iH1 (x:dP) (a:Option Addr) (m c:Nat) (w:World) :
  Calls Tryz.prog 118 #[jG0 x,.slice a m c] w λe w'=>e=.returned (.func (.func 182) #[] #[.pointer (some ⟨w.heap.size,0,none⟩),.pointer (some ⟨w.heap.size+1,0,none⟩)]) /\
   w'=(w.alloc (.cells #[.int .i64 x.i,.int .i64 x.t,.int .i64 x.d] 208)).alloc (.cells #[.slice a m c] 65):=by
 unfold jG0;have un:∀(fn:Fn) (first cap:Array Value) (w:World),(Instr.makeFunc fn first cap).run Tryz.prog w=.ok (.func fn first cap) w:=λ_ _ _ _=>rfl
 go_enter Tryz.func118,Tryz.ntmps118
 go_wp2_with fail
 go_ret;exact⟨rfl,rfl⟩
def lbD (L:List (List UInt8)) (i:Nat) (vS vA vL vI vD:Value) (nd:List Nat):BD :=
 { vS:=vS,vA:=vA,vL:=vL,vI:=vI,vD:=vD,sh:=shapeL L ((nodesA L).take i),al:=eX (rootS L) (fX L) (nodesA L) i,lab:=labelsL L ((nodesA L).take i),isl:=isL L ((nodesA L).take i),idl:=idsL L ((nodesA L).take i),nd:=nd }
def lbK (L:List (List UInt8)) (i:Nat) (x:dP) (ys:List dP) (vS vA vL vI vD:Value):BD :=
 { vS:=vS,vA:=vA,vL:=vL,vI:=vI,vD:=vD,sh:=shapeL L ((nodesA L).take i)++Ab ys.length true,al:=eX (rootS L) (fX L) (nodesA L) i++ys,lab:=labelsL L ((nodesA L).take i)++ys.map (pS L x),isl:=isL L ((nodesA L).take i),idl:=idsL L ((nodesA L).take i),nd:=uD L i }
structure LbU where
 (u7 u8 u10 u11 u12 u13 u29 u30 u31 u32 u33 u34 u35 u36 u37 u38 u39 u40 u41 u42 u43 u44 u45 u46 u47 u48 u49 u50 u51 u52 u53 u54 u55 u56 u57 u58 u59 u60 u61 u62 u63 u64 u65 u66 u67 u68 u69 u70 u71 u72 u73 u74 u75 u76 u77 u78 u79 u80 u81 u82 u83 u84 u85 u86 u87 u88 u89 u90 u91 u92 u93 u94 u95 u96 u97 u98 u99 u100 u101 u102 u103 u104 u105 u106 u107:Value)
def zJ (B:List ByteArray) (a:Option Addr) (c s b2 b3 b4 b5 b6 b7 b8:Nat) (ds:List Nat) (U:LbU):Act :=
 { tmps:=#[.slice a B.length c,.pointer (some ⟨s,0,none⟩),.pointer none,.int .i64 0,.int .i64 0,.pointer (some ⟨b4,0,none⟩),.pointer (some ⟨b6,0,none⟩),U.u7,U.u8,.pointer (some ⟨b8,0,none⟩),U.u10,U.u11,U.u12,U.u13,.slice a B.length c,.int .i64 0,.int .i64 0,.bool false,undef,.slice a B.length c,.int .i64 B.length,.slice (some ⟨b2,0,none⟩) B.length B.length,.agg #[.pointer none,.pointer none,.slice none 0 0,.pointer none,.slice (some ⟨b2,0,none⟩) B.length B.length],.pointer (some ⟨b3,0,none⟩),.slice (some ⟨b5,0,none⟩) 2 2,.slice a B.length c,.int .i64 B.length,.agg #[.int .i64 0,.int .i64 B.length,.int .i64 0],.slice (some ⟨b7,0,none⟩) 1 1,U.u29,U.u30,U.u31,U.u32,U.u33,U.u34,U.u35,U.u36,U.u37,U.u38,U.u39,U.u40,U.u41,U.u42,U.u43,U.u44,U.u45,U.u46,U.u47,U.u48,U.u49,U.u50,U.u51,U.u52,U.u53,U.u54,U.u55,U.u56,U.u57,U.u58,U.u59,U.u60,U.u61,U.u62,U.u63,U.u64,U.u65,U.u66,U.u67,U.u68,U.u69,U.u70,U.u71,U.u72,U.u73,U.u74,U.u75,U.u76,U.u77,U.u78,U.u79,U.u80,U.u81,U.u82,U.u83,U.u84,U.u85,U.u86,U.u87,U.u88,U.u89,U.u90,U.u91,U.u92,U.u93,U.u94,U.u95,U.u96,U.u97,U.u98,U.u99,U.u100,U.u101,U.u102,U.u103,U.u104,U.u105,U.u106,U.u107,undef,undef,undef,undef,undef,undef,undef,undef,undef,undef,undef,undef,undef,undef,undef,undef,undef,undef,undef,undef,undef,undef,undef,undef,undef],defers:=bN1 ds }
theorem mJ0 {L:List (List UInt8)} {i:Nat} {x:dP} (ag:OkL L) (hx:(nodesA L)[i]?=some x) (hh:jB L x=false) (vS0 vI0 vS vA vL vI vD:Value) :
  ({ ({ (lbK L i x (fX L x) vS0 vA vL vI0 vD) with vS:=vS,sh:=(shapeL L ((nodesA L).take i)++Ab (fX L x).length true)++[false] }:BD) with vI:=vI,isl:=isL L ((nodesA L).take i)++[false] }:BD)=lbD L (i+1) vS vA vL vI vD (uD L (i+1)):=by
 have e:=bM hx;unfold lbK lbD;rw[e,nU,qP0,xD,lK0,qL hx,ag.ndTo_succ hx,if_neg (by rw[hh];decide),if_neg (by rw[hh];decide),hh,An]
theorem eK1 {L:List (List UInt8)} {i:Nat} {x:dP} (ag:OkL L) (hx:(nodesA L)[i]?=some x) (hh:jB L x=true) (vS0 vI0 vD0 vS vA vL vI vD:Value) :
  ({ ({ ({ ({ (lbK L i x (fX L x) vS0 vA vL vI0 vD0) with vS:=vS,sh:=(shapeL L ((nodesA L).take i)++Ab (fX L x).length true)++[false] }:BD) with vI:=vI,isl:=isL L ((nodesA L).take i)++[true] }:BD) with nd:=(uD L i).set x.i i }:BD) with vD:=vD,idl:=idsL L ((nodesA L).take i)++[x.i] }:BD)=lbD L (i+1) vS vA vL vI vD (uD L (i+1)):=by
 have e:=bM hx;unfold lbK lbD;rw[e,nU,qP0,xD,lK0,qL hx,ag.ndTo_succ hx,if_pos hh,if_pos hh,hh]
structure pS1 (B:List ByteArray) (a:Option Addr) (c:Nat) (w:World) (s i:Nat) (ds:List Nat) (U:LbU) (wr:World):Prop where
 u10:U.u10=.int .i64 i
 le:i<=524287
 marks:lM wr s ds
 st:∃vS vA vL,Bst w wr s B.length (.slice a B.length c) (lbD (bls B) i vS vA vL U.u7 U.u8 (uD (bls B) i))
 off:offA (bls B) i<=524287
theorem nG1 {B:List ByteArray} {a:Option Addr} {c:Nat} {w:World} {s b2 b3 b4 b5 b6 b7 b8:Nat} {P:Program} {code:Code} {Q:Exit->Act->World->Prop} {ds:List Nat} {U:LbU} {w0:World} (h0:pS1 B a c w s 0 ds U w0)
  (round:∀(i:Nat) (ds:List Nat) (U:LbU) (wr:World),pS1 B a c w s i ds U wr->∀K:Act->World->Prop,(∀ds' U' w',pS1 B a c w s (i+1) ds' U' w'->K (zJ B a c s b2 b3 b4 b5 b6 b7 b8 ds' U') w')->code.wp P (Exit.then K Q) (zJ B a c s b2 b3 b4 b5 b6 b7 b8 ds U) wr) :
  (Code.loop code).wp P Q (zJ B a c s b2 b3 b4 b5 b6 b7 b8 ds U) w0:=by
 refine wp_loop (λa' wr=>∃i ds U,a'=zJ B a c s b2 b3 b4 b5 b6 b7 b8 ds U/\pS1 B a c w s i ds U wr) (λa' _=>600000-(intOf (a'.tmps.getD 10 undef)).toNat) ⟨0,ds,U,rfl,h0⟩ ?_;rintro a' wr ⟨i,ds,U,rfl,h⟩;refine round i ds U wr h _ (λds' U' w' h'=>⟨⟨i+1,ds',U',rfl,h'⟩,?_⟩);have e1:(zJ B a c s b2 b3 b4 b5 b6 b7 b8 ds U).tmps.getD 10 undef=U.u10:=rfl;have e2:(zJ B a c s b2 b3 b4 b5 b6 b7 b8 ds' U').tmps.getD 10 undef=U'.u10:=rfl;rw[e1,e2,h.u10,h'.u10]
 have:=h.le
 simp[intOf];omega
theorem zY0 (B:List ByteArray) (a:Option Addr) (c:Nat) (w:World) (lm:mP0 (bls B)=0) (ha:∀q,a=some q->q.block<w.heap.size) (hB_:B.length<=20000) (de:∀s∈B,s.size<=256) (ag:OkL (bls B)) (ac:aG w a 1 (B.map stC)) :
  Calls Tryz.prog 50 #[.slice a B.length c] w λe w' =>
   (524287<eA (bls B)->e=.returned (.tuple #[.pointer none,.int .i64 2])/\aB w w') /\
   (eA (bls B)<=524287->e=.returned (.tuple #[.pointer (some ⟨w.heap.size+2,0,none⟩),.int .i64 0])/\fB w' (w.heap.size+2) (bls B)/\aB w w'):=by
 have CK:Hid (∀u,aB w u->Calls Tryz.prog 117 #[.slice a B.length c] u λe w'=>e=.returned (.int .i64 0)/\u=w'):=λu hg=>by
  have h:=qK0 B a c u (by omega) (λs hs=>by have:=de s hs;omega) (ac.grows hg);rw[lm]at h;exact h
 have HAT:=Aa ac;have HA:=Aa ha;have HSZ:=Aa de;have HOK:=Aa ag;clear ac ha de ag lm;refine(callsIn_wide (n:=12)).1 (callsIn_of_wp_marks Tryz.func50 rfl trivial (wpIn_wide.2 ?_));simp only[Tryz.ntmps50,List.size_toArray,List.length_cons,List.length_nil,Nat.reduceAdd,Nat.reduceSub,Array.replicate_succ,Array.replicate_zero,List.push_toArray,List.append_toArray,List.nil_append,List.cons_append];have l9:=λ(Y:World)=>gR1 B.length Y (by omega);go_wp2_with (go_at_call 117;refine(CK.out _ (aB.alloc _ _)).mono ?_;rintro e w2 ⟨rfl,rfl⟩)
 clear CK l9;obtain⟨s,hs⟩:=exq w.heap.size;obtain⟨b2,cy⟩:=exq (w.heap.size+1);obtain⟨b3,iv⟩:=exq (w.heap.size+1+1);obtain⟨b4,yz⟩:=exq (w.heap.size+1+1+1);obtain⟨b5,hb5⟩:=exq (w.heap.size+1+1+1+1);obtain⟨b6,hb6⟩:=exq (w.heap.size+1+1+1+1+1);obtain⟨b7,hb7⟩:=exq (w.heap.size+1+1+1+1+1+1);obtain⟨b8,r9⟩:=exq (w.heap.size+1+1+1+1+1+1+1);rw[<-r9,<-hb7,<-hb6,<-hb5,<-yz,<-iv,<-cy,<-hs]
 have BST:Hid (∃vS vA,Bst w ((((((((w.alloc (.cells #[.slice a B.length c] 65)).alloc (.cells (madeCells #[.int .i64 0] B.length) 3)).alloc (.cells #[.pointer none,.pointer none,.slice none 0 0,.pointer none,.slice (some ⟨b2,0,none⟩) B.length B.length] 204)).alloc
   (.cells #[.pointer (some ⟨b3,0,none⟩)] 100)).alloc (.cells #[.bool true,.bool false] 4)).alloc (.cells #[.slice (some ⟨b5,0,none⟩) 2 2] 205)).alloc (.cells #[.int .i64 0,.int .i64 B.length,.int .i64 0] 208)).alloc (.cells #[.slice (some ⟨b7,0,none⟩) 1 1] 209))
   s B.length (.slice a B.length c) (lbD (bls B) 0 vS vA (.slice none 0 0) (.slice none 0 0) (.slice none 0 0) (uD (bls B) 0))):=by
  have h:=aX1 w B.length (.slice a B.length c) hB_ (b2:=b2) (b3:=b3) (b5:=b5) (b7:=b7) (by omega) (by omega) (by omega) (by omega);rw[<-hs]at h;refine⟨.slice (some ⟨b5,0,none⟩) 2 2,.slice (some ⟨b7,0,none⟩) 1 1,?_⟩
  have e:lbD (bls B) 0 (.slice (some ⟨b5,0,none⟩) 2 2) (.slice (some ⟨b7,0,none⟩) 1 1) (.slice none 0 0) (.slice none 0 0) (.slice none 0 0) (uD (bls B) 0) =
    { vS:=.slice (some ⟨b5,0,none⟩) 2 2,vA:=.slice (some ⟨b7,0,none⟩) 1 1,vL:=.slice none 0 0,vI:=.slice none 0 0,vD:=.slice none 0 0,sh:=[true,false],al:=[⟨0,B.length,0⟩],lab:=[],isl:=[],idl:=[],nd:=Ab B.length 0 }:=by
   unfold lbD;rw[cD1,dT]
   have e2:eX (rootS (bls B)) (fX (bls B)) (nodesA (bls B)) 0=[⟨0,B.length,0⟩]:=by
    unfold eX rootS;rw[dT];rfl
   rw[e2];rfl
  rw[e];exact h
 generalize ((((((((w.alloc (.cells #[.slice a B.length c] 65)).alloc (.cells (madeCells #[.int .i64 0] B.length) 3)).alloc (.cells #[.pointer none,.pointer none,.slice none 0 0,.pointer none,.slice (some ⟨b2,0,none⟩) B.length B.length] 204)).alloc
   (.cells #[.pointer (some ⟨b3,0,none⟩)] 100)).alloc (.cells #[.bool true,.bool false] 4)).alloc (.cells #[.slice (some ⟨b5,0,none⟩) 2 2] 205)).alloc (.cells #[.int .i64 0,.int .i64 B.length,.int .i64 0] 208)).alloc (.cells #[.slice (some ⟨b7,0,none⟩) 1 1] 209))=W0 at BST ⊢
 have HS:=Aa hs;have HB2:Hid (b2=s+1):=by rw[hs];exact cy
 have HB3:Hid (b3=s+2):=by rw[hs];exact iv
 have HB4:Hid (b4=s+3):=by rw[hs];exact yz
 have HB6:Hid (b6=s+5):=by rw[hs];exact hb6
 have HB8:Hid (b8=s+7):=by rw[hs];exact r9
 clear hs cy iv yz hb5 hb6 hb7 r9;refine nG1 (w:=w) (ds:=[]) (U:={ u7:=.slice none 0 0,u8:=.slice none 0 0,u10:=.int .i64 0,u11:=undef,u12:=undef,u13:=undef,u29:=undef,u30:=undef,u31:=undef,u32:=undef,u33:=undef,u34:=undef,u35:=undef,u36:=undef,u37:=undef,u38:=undef,u39:=undef,u40:=undef,u41:=undef,u42:=undef,u43:=undef,u44:=undef,u45:=undef,u46:=undef,u47:=undef,u48:=undef,u49:=undef,u50:=undef,u51:=undef,u52:=undef,u53:=undef,u54:=undef,u55:=undef,u56:=undef,u57:=undef,u58:=undef,u59:=undef,u60:=undef,u61:=undef,u62:=undef,u63:=undef,u64:=undef,u65:=undef,u66:=undef,u67:=undef,u68:=undef,u69:=undef,u70:=undef,u71:=undef,u72:=undef,u73:=undef,u74:=undef,u75:=undef,u76:=undef,u77:=undef,u78:=undef,u79:=undef,u80:=undef,u81:=undef,u82:=undef,u83:=undef,u84:=undef,u85:=undef,u86:=undef,u87:=undef,u88:=undef,u89:=undef,u90:=undef,u91:=undef,u92:=undef,u93:=undef,u94:=undef,u95:=undef,u96:=undef,u97:=undef,u98:=undef,u99:=undef,u100:=undef,u101:=undef,u102:=undef,u103:=undef,u104:=undef,u105:=undef,u106:=undef,u107:=undef }) ?start ?round
 case start =>
  obtain⟨vS,vA,h⟩:=BST.out;exact⟨rfl,Au _,lM.nil _ _,⟨vS,vA,_,h⟩,by rw[sZ];omega⟩
 case round =>
  rintro i ds ⟨u7,u8,u10,u11,u12,u13,u29,u30,u31,u32,u33,u34,u35,u36,u37,u38,u39,u40,u41,u42,u43,u44,u45,u46,u47,u48,u49,u50,u51,u52,u53,u54,u55,u56,u57,u58,u59,u60,u61,u62,u63,u64,u65,u66,u67,u68,u69,u70,u71,u72,u73,u74,u75,u76,u77,u78,u79,u80,u81,u82,u83,u84,u85,u86,u87,u88,u89,u90,u91,u92,u93,u94,u95,u96,u97,u98,u99,u100,u101,u102,u103,u104,u105,u106,u107⟩ wr ⟨hu,hi,hM,hB,hO⟩ K hK;simp only at hu;subst hu;dsimp only[zJ]
  dsimp only at hB
  have HM:=Aa hM;have HO:=Aa hO;obtain⟨vS,vA,vL,hB⟩:=hB;obtain⟨aA,cA,hvA,_,_,ac2⟩:=hB.oA.at_ pG0.len;simp only[lbD]at hvA;subst hvA;have ah:(eX (rootS (bls B)) (fX (bls B)) (nodesA (bls B)) i).length=offA (bls B) i:=rfl;obtain⟨N1,hN1⟩:=exq (offA (bls B) i);have c8:=hB.b8.cell (o:=0) rfl;simp only[lbD]at c8;rw[ah,<-hN1,<-HB8.out]at c8;have HBST:=Aa hB;have HN1:=Aa hN1;by_cases ae:i<N1
  case neg =>
   have dp:¬(i:Int)<N1:=by omega
   have hNi:(nodesA (bls B)).length<=i:=by
    rcases Bd i (nodesA (bls B)).length with h|h
    ·have:=HOK.out.off_gt h;omega
    ·exact h
   have htk:(nodesA (bls B)).take i=nodesA (bls B):=List.take_of_length_le hNi
   have aaz:offA (bls B) i=(nodesA (bls B)).length:=by
    unfold offA eX;rw[htk,<-HOK.out.fix]
   have ah8:eA (bls B)<=524287:=by
    rw[<-fH HOK.out.asc HOK.out.len,<-aaz];exact hO
   obtain⟨z1,z2,z3,z4,z5⟩:=HOK.out.sizes (by rw[dT];exact hB_) ah8;obtain⟨aS,cS,hvS,_,_,abw⟩:=hB.oS.at_ (enc:=rD) (λ_=>rfl);obtain⟨aI,cI,hvI,_,_,ac3⟩:=hB.oI.at_ (enc:=rD) (λ_=>rfl);obtain⟨aD,cD,hvD,_,_,ac4⟩:=hB.oD.at_ (enc:=kI) (λ_=>rfl);simp only[lbD,htk]at hvS hvI hvD abw ac3 ac4;obtain⟨SH,hSH⟩:=exq (shapeL (bls B) (nodesA (bls B)));obtain⟨IS,hIS⟩:=exq (isL (bls B) (nodesA (bls B)));obtain⟨ID,hID⟩:=exq (idsL (bls B) (nodesA (bls B)));rw[<-hSH]at z1 abw hvS;rw[<-hIS]at z2 ac3 hvI;rw[<-hID]at z4 z5 ac4 hvD
   have EE:Hid (LbE w wr s #[.pointer none,.pointer none,vL,.pointer none,.slice (some ⟨s+1,0,none⟩) B.length B.length] vL (.slice (some ⟨s+1,0,none⟩) B.length B.length) u7 u8 (labelsL (bls B) (nodesA (bls B))) (jY (bls B)) IS ID ds):=by
    have h2:=hB;unfold lbD at h2;rw[htk,HOK.out.ndTo_all hNi]at h2;rw[hIS,hID];exact⟨h2.b4,h2.b2,h2.oL,h2.oN,h2.oI,h2.oD,hM,h2.gr⟩
   have c6:wr.cell? ⟨b6,0,none⟩=some vS:=by rw[HB6.out];exact hB.b6.cell rfl
   have afg:b6<wr.heap.size:=by rw[HB6.out];exact hB.b6.lt
   subst hvS;subst hvI;subst hvD;have hss:w.heap.size<=s:=by rw[HS.out];exact Ad _
   have HSH:=Aa hSH;have HIS:=Aa hIS;have HID:=Aa hID;have HZ5:=Aa z5;clear ac2 hM hO ah hNi htk aaz z3 z5 hSH hIS hID ac3 ac4 hN1 ae hB;go_wp2_with fail
   have zf:=EE.out.b4.gr (aB.drew wr);obtain⟨T,hT⟩:∃T:Nat->Prop,T=λb=>b=b4\/b=b6:=⟨_,rfl⟩
   have iy:∀b,T b->b<wr.drew.heap.size:=λb hb=>by
    rw[hT]at hb;rcases hb with rfl|rfl
    ·rw[HB4.out];exact zf.lt
    ·exact afg
   have hT3:¬T b3:=λh=>by
    rw[hT]at h;have e3:=HB3.out;have e4:=HB4.out;have e6:=HB6.out;rcases h with h|h<;>omega
   have x4:∀y:Ext (cJ T) wr.drew,y.u.cell? ⟨b4,0,none⟩=some (.pointer (some ⟨b3,0,none⟩)):=gY (by rw[hT];exact Or.inl rfl) (by rw[HB4.out,HB3.out];exact zf.cell rfl);have x6:∀y:Ext (cJ T) wr.drew,y.u.cell? ⟨b6,0,none⟩=some (.slice aS SH.length cS):=gY (by rw[hT];exact Or.inr rfl) ((aB.drew wr).cell c6);have HT:=Aa hT;clear hT zf;refine oC ?_;refine lV (cJ T) (bB 9 [2,8]) (cJ.refl T) (nS T) (by kernel_rfl) (by kernel_rfl) (λd _ _ _ _ h=>by cases d<;>exact h) ?_
   iterate 2 (refine aH rfl (λK hK=>?_);go_simp;refine hK _ ?_;clear hK K)
   refine bH rfl rfl (λK hK=>?_);go_simp;refine(qA0 SH aS cS wr.drew z1 (abw.grows (aB.drew wr))).mono ?_;rintro e w1 ⟨rfl,iw,an⟩;refine⟨cJ.of_below an iy,hK _ _ ?_⟩;clear hK K;iterate 5 (refine aH rfl (λK hK=>?_);go_simp;refine hK _ ?_;clear hK K)
   have E1:=(EE.out.grows (aB.drew wr)).grows an;have c31:w1.cell? ⟨b3,0,none⟩=some (.pointer none):=by rw[HB3.out];exact E1.b3.cell rfl
   have f31:w1.frozen? ⟨b3,0,none⟩=false:=by rw[HB3.out];exact E1.b3.froz _
   refine bH rfl rfl (λK hK=>?_);go_simp;refine⟨cJ.set hT3 _ _,hK _ _ ?_⟩;clear hK K;refine cB ?_;simp only[gB];obtain⟨sb,mq⟩:=exq (wr.drew.heap.size+1);have e1s:=E1.set hss 0 (.pointer (some ⟨sb,0,none⟩))
   have abx:kL (w1.setCell ⟨s+2,0,none⟩ (.pointer (some ⟨sb,0,none⟩))) sb SH:=by
    rw[<-mq]at iw
    exact iU iw (oF _ _ _ _) (λh=>by
     have h1:sb=s+2:=h;have h2:=EE.out.b3.lt;have h3:wr.drew.heap.size=wr.heap.size:=rfl;omega) (nA E1.b3)
   obtain⟨V1,vu⟩:=exq (w1.setCell ⟨b3,0,none⟩ (.pointer (some ⟨sb,0,none⟩)));rw[<-HB3.out,<-vu]at e1s abx;have h6a:b6<V1.heap.size:=by rw[vu];simp;exact Aq afg (Ag (Ad _) an.size)
   try rw[show wr.heap.size+1=sb from mq.symm]
   try rw[<-mq]
   try rw[<-vu]
   clear hT3 iy x4 x6 E1 c31 f31 iw an vu mq HT T abw c6;go_wp2_with fail
   have zf:=e1s.b4.gr (aB.drew V1);obtain⟨T,hT⟩:∃T:Nat->Prop,T=λb=>b=b4\/b=b6:=⟨_,rfl⟩
   have iy:∀b,T b->b<V1.drew.heap.size:=λb hb=>by
    rw[hT]at hb;rcases hb with rfl|rfl
    ·rw[HB4.out];exact zf.lt
    ·exact h6a
   have hT3:¬T b3:=λh=>by
    rw[hT]at h;have e3:=HB3.out;have e4:=HB4.out;have e6:=HB6.out;rcases h with h|h<;>omega
   have x4:∀y:Ext (cJ T) V1.drew,y.u.cell? ⟨b4,0,none⟩=some (.pointer (some ⟨b3,0,none⟩)):=gY (by rw[hT];exact Or.inl rfl) (by rw[HB4.out,HB3.out];exact zf.cell rfl);have HT:=Aa hT;clear hT zf;refine oC ?_;refine lV (cJ T) (bB 9 [2,8]) (cJ.refl T) (nS T) (by kernel_rfl) (by kernel_rfl) (λd _ _ _ _ h=>by cases d<;>exact h) ?_
   iterate 2 (refine aH rfl (λK hK=>?_);go_simp;refine hK _ ?_;clear hK K)
   refine bH rfl rfl (λK hK=>?_);go_simp;refine(qA0 IS aI cI V1.drew (by omega) (iI0 (λ_=>rfl) e1s.oI)).mono ?_;rintro e w2 ⟨rfl,ic,af⟩;refine⟨cJ.of_below af iy,hK _ _ ?_⟩;clear hK K;iterate 5 (refine aH rfl (λK hK=>?_);go_simp;refine hK _ ?_;clear hK K)
   have E2:=(e1s.grows (aB.drew V1)).grows af;have c32:w2.cell? ⟨b3,1,none⟩=some (.pointer none):=by rw[HB3.out];exact E2.b3.cell rfl
   have f32:w2.frozen? ⟨b3,1,none⟩=false:=by rw[HB3.out];exact E2.b3.froz _
   refine bH rfl rfl (λK hK=>?_);go_simp;refine⟨cJ.set hT3 _ _,hK _ _ ?_⟩;clear hK K;refine cB ?_;simp only[gB];obtain⟨ib,sd⟩:=exq (V1.drew.heap.size+1);have e2s:=E2.set hss 1 (.pointer (some ⟨ib,0,none⟩))
   have aby:kL (w2.setCell ⟨s+2,1,none⟩ (.pointer (some ⟨ib,0,none⟩))) ib IS:=by
    rw[<-sd]at ic
    exact iU ic (oF _ _ _ _) (λh=>by
     have h1:ib=s+2:=h;have h2:=e1s.b3.lt;have h3:V1.drew.heap.size=V1.heap.size:=rfl;omega) (nA E2.b3)
   have aa0:sb≠s+2:=λh=>by
    have hc:=abx.c0;have h2:=e1s.b3;rw[h]at hc;have h3:=h2.cell (o:=0) (v:=.pointer (some ⟨sb,0,none⟩)) rfl;rw[hc]at h3;cases h3
   have ac5:kL (w2.setCell ⟨s+2,1,none⟩ (.pointer (some ⟨ib,0,none⟩))) sb SH:=iU ((abx.grows (aB.drew V1)).grows af) (oF _ _ _ _) aa0 (nA E2.b3);obtain⟨V2,p8⟩:=exq (w2.setCell ⟨b3,1,none⟩ (.pointer (some ⟨ib,0,none⟩)));rw[<-HB3.out,<-p8]at e2s aby ac5;have h6b:b6<V2.heap.size:=by rw[p8];simp;exact Aq h6a (Ag (Ad _) af.size)
   try rw[show V1.heap.size+1=ib from sd.symm]
   try rw[<-sd]
   try rw[<-p8]
   clear hT3 iy x4 E2 c32 f32 ic af p8 sd HT T e1s abx;go_wp2_with fail
   have zf:=e2s.b4.gr (aB.drew V2);obtain⟨T,hT⟩:∃T:Nat->Prop,T=λb=>b=b4\/b=b6:=⟨_,rfl⟩
   have iy:∀b,T b->b<V2.drew.heap.size:=λb hb=>by
    rw[hT]at hb;rcases hb with rfl|rfl
    ·rw[HB4.out];exact zf.lt
    ·exact h6b
   have hT3:¬T b3:=λh=>by
    rw[hT]at h;have e3:=HB3.out;have e4:=HB4.out;have e6:=HB6.out;rcases h with h|h<;>omega
   have x4:∀y:Ext (cJ T) V2.drew,y.u.cell? ⟨b4,0,none⟩=some (.pointer (some ⟨b3,0,none⟩)):=gY (by rw[hT];exact Or.inl rfl) (by rw[HB4.out,HB3.out];exact zf.cell rfl);have HT:=Aa hT;clear hT zf;refine oC ?_;refine lV (cJ T) (bB 9 [2,8]) (cJ.refl T) (nS T) (by kernel_rfl) (by kernel_rfl) (λd _ _ _ _ h=>by cases d<;>exact h) ?_
   iterate 2 (refine aH rfl (λK hK=>?_);go_simp;refine hK _ ?_;clear hK K)
   refine bH rfl rfl (λK hK=>?_);go_simp;refine(fR0 ID aD cD V2.drew (by omega) (λm hm=>by have:=HZ5.out m hm;omega) (iI0 (λ_=>rfl) e2s.oD)).mono ?_;rintro e w3 ⟨rfl,nu,ax⟩;refine⟨cJ.of_below ax iy,hK _ _ ?_⟩;clear hK K;iterate 5 (refine aH rfl (λK hK=>?_);go_simp;refine hK _ ?_;clear hK K)
   have E3:=(e2s.grows (aB.drew V2)).grows ax;have c33:w3.cell? ⟨b3,3,none⟩=some (.pointer none):=by rw[HB3.out];exact E3.b3.cell rfl
   have f33:w3.frozen? ⟨b3,3,none⟩=false:=by rw[HB3.out];exact E3.b3.froz _
   refine bH rfl rfl (λK hK=>?_);go_simp;refine⟨cJ.set hT3 _ _,hK _ _ ?_⟩;clear hK K;refine cB ?_;simp only[gB];obtain⟨pb,ed⟩:=exq V2.drew.heap.size;have p9:=E3.set hss 3 (.pointer (some ⟨pb,0,none⟩))
   have ac6:nG (w3.setCell ⟨s+2,3,none⟩ (.pointer (some ⟨pb,0,none⟩))) pb ID:=by
    rw[<-ed]at nu
    exact fZ0 nu (oF _ _ _ _) (λh=>by
     have h1:pb=s+2:=h;have h2:=e2s.b3.lt;have h3:V2.drew.heap.size=V2.heap.size:=rfl;omega) (nA E3.b3)
   have aek:ib≠s+2:=λh=>by
    have hc:=aby.c0;have h2:=e2s.b3;rw[h]at hc;have h3:=h2.cell (o:=0) (v:=.pointer (some ⟨sb,0,none⟩)) rfl;rw[hc]at h3;cases h3
   have ac7:kL (w3.setCell ⟨s+2,3,none⟩ (.pointer (some ⟨pb,0,none⟩))) sb SH:=iU ((ac5.grows (aB.drew V2)).grows ax) (oF _ _ _ _) aa0 (nA E3.b3);have ac8:kL (w3.setCell ⟨s+2,3,none⟩ (.pointer (some ⟨pb,0,none⟩))) ib IS:=iU ((aby.grows (aB.drew V2)).grows ax) (oF _ _ _ _) aek (nA E3.b3);obtain⟨V3,zg⟩:=exq (w3.setCell ⟨b3,3,none⟩ (.pointer (some ⟨pb,0,none⟩)));rw[<-HB3.out,<-zg]at p9 ac6 ac8 ac7;have c4f:V3.cell? ⟨b4,0,none⟩=some (.pointer (some ⟨b3,0,none⟩)):=by rw[HB4.out,HB3.out];exact p9.b4.cell rfl
   try rw[show V2.heap.size=pb from ed.symm]
   try rw[<-ed]
   try rw[<-zg]
   clear hT3 iy x4 E3 c33 f33 nu ax zg ed HT T e2s ac5 aby;go_wp2_with fail
   refine oZ (ds:=ds) (lo:=s) p9.mks λw' eo cy iv=>⟨.tuple #[.pointer (some ⟨b3,0,none⟩),.int .i64 0],by simp[results,Tryz.results50,go_sem],λcu=>by omega,λ_=>⟨by rw[HB3.out,HS.out],?_,bQ0 p9.gr p9.mks HS.out eo cy iv⟩⟩
   have ho:nY1 V3 w' (λk=>k∈ds):=eo
   have ce:∀(o:Nat) (v:Value),(#[.pointer (some ⟨sb,0,none⟩),.pointer (some ⟨ib,0,none⟩),vL,.pointer (some ⟨pb,0,none⟩),.slice (some ⟨s+1,0,none⟩) B.length B.length]:Array Value)[o]?=some v->w'.cell? ⟨s+2,o,none⟩=some v:=λo v hv=>by
    have hc:V3.cell? ⟨s+2,o,none⟩=some v:=p9.b3.cell hv;exact iC hc ho (tX p9.mks hc)
   rw[<-HS.out];have hb0:∀ {e:TypeId} {k:Nat} {α:Type} {enc:α->List Value} {v:Value} {xs:List α},aX V3 s e k enc v xs->aX w' 0 e k enc v xs:=λh=>(pA h ho (cY0 p9.mks _)).base (Au _)
   exact⟨⟨sb,ce 0 _ rfl,by rw[<-HSH.out];exact iU ac7 ho (tX p9.mks ac7.c0) (sB p9.mks)⟩,⟨ib,ce 1 _ rfl,by rw[<-HIS.out];exact iU ac8 ho (tX p9.mks ac8.c0) (sB p9.mks)⟩,
    ⟨vL,ce 2 _ rfl,(pA p9.oL ho (cY0 p9.mks _)).base (show s+2-2<=s by omega)⟩,⟨pb,ce 3 _ rfl,by rw[<-HID.out];exact fZ0 ac6 ho (tX p9.mks ac6.c0) (sB p9.mks)⟩,⟨_,ce 4 _ rfl,hb0 p9.oN⟩⟩
  case pos =>
   have dp:(i:Int)<N1:=by omega
   have hiN:i<(nodesA (bls B)).length:=by have:=HOK.out.off_le i;omega
   obtain⟨x,hx⟩:∃x,(nodesA (bls B))[i]?=some x:=⟨_,Ac hiN⟩;have oh:(eX (rootS (bls B)) (fX (bls B)) (nodesA (bls B)) i)[i]?=some x:=by rw[lD0 HOK.out.fix (by rw[ah];omega)];exact hx
   obtain⟨bA,oA,rfl,hcA⟩:=aG.get (enc:=cU0) ac2 (Ah (Ae oh));have e0:=hcA i x oh 0 _ rfl;have e1:=hcA i x oh 1 _ rfl;have e2:=hcA i x oh 2 _ rfl;rw[Be]at e0;have akb:N1<=524287:=by rw[hN1];exact hO
   have c1:∀o,(wr.alloc o).cell? ⟨s,0,none⟩=some (.slice a B.length c):=λo=>(hB.al o).b1.cell rfl;have HX:=Aa hx;clear ac2 hcA hx oh hB hM hO hN1 ah;go_wp2_with (go_at_call 118;refine(iH1 x a B.length c _).mono ?_;rintro e w2 ⟨rfl,rfl⟩)
   have hB:=HBST.out;have im:s<=wr.heap.size:=by rw[HS.out];exact hB.gr.size
   obtain⟨xb,oh⟩:=exq wr.heap.size;obtain⟨kb,hkb⟩:=exq (wr.heap.size+1);obtain⟨lb,iz⟩:=exq (wr.heap.size+1+1);rw[<-iz,<-hkb,<-oh];obtain⟨Wb,qw⟩:=exq (((wr.alloc (.cells #[.int .i64 x.i,.int .i64 x.t,.int .i64 x.d] 208)).alloc (.cells #[.int .i64 x.i,.int .i64 x.t,.int .i64 x.d] 208)).alloc (.cells #[.slice a B.length c] 65));rw[<-qw];have ah9:Wb.heap.size=wr.heap.size+1+1+1:=by rw[qw];simp
   have TX:TB Wb xb #[.int .i64 x.i,.int .i64 x.t,.int .i64 x.d] 208:=by
    rw[qw,oh];exact((TB.alloc wr _ _).keep (Af _ _ none) (RT.none _ _) (by decide:(Option.none:Option TypeId)≠_)).keep (Af _ _ none) (RT.none _ _) (by decide:(Option.none:Option TypeId)≠_)
   have TK:TB Wb kb #[.int .i64 x.i,.int .i64 x.t,.int .i64 x.d] 208:=by
    rw[qw,hkb]
    have:=(TB.alloc (wr.alloc (.cells #[.int .i64 x.i,.int .i64 x.t,.int .i64 x.d] 208)) #[.int .i64 x.i,.int .i64 x.t,.int .i64 x.d] 208).keep (Af _ (.cells #[.slice a B.length c] 65) none) (RT.none _ _) (by decide:(Option.none:Option TypeId)≠_)
    rwa [At]at this
   have TL:TB Wb lb #[.slice a B.length c] 65:=by
    rw[qw,iz]
    have:=TB.alloc ((wr.alloc (.cells #[.int .i64 x.i,.int .i64 x.t,.int .i64 x.d] 208)).alloc (.cells #[.int .i64 x.i,.int .i64 x.t,.int .i64 x.d] 208)) #[.slice a B.length c] 65
    rwa [At,At]at this
   have HBb:Hid (Bst w Wb s B.length (.slice a B.length c) (lbD (bls B) i vS (.slice (some ⟨bA,oA,none⟩) N1 cA) vL u7 u8 (uD (bls B) i))):=by
    rw[qw];have h:=((hB.al (.cells #[.int .i64 x.i,.int .i64 x.t,.int .i64 x.d] 208)).al (.cells #[.int .i64 x.i,.int .i64 x.t,.int .i64 x.d] 208)).al (.cells #[.slice a B.length c] 65);rw[show (eX (rootS (bls B)) (fX (bls B)) (nodesA (bls B)) i).length=N1 from HN1.out.symm]at h
    exact h
   have ya:lM Wb s ds:=by
    rw[qw];exact((HM.out.grown (row:=none) (Af _ _ _) (λ_ _ e=>by cases e)).grown (row:=none) (Af _ _ _) (λ_ _ e=>by cases e)).grown (row:=none) (Af _ _ _) (λ_ _ e=>by cases e)
   have ael:bA<wr.heap.size:=by
    have:=gX hB.oA bA rfl
    exact this
   have HHS:=Aa (show s<=wr.heap.size from im)
   have hxk:bA≠xb/\bA≠kb/\kb<Wb.heap.size/\lb<Wb.heap.size/\s<=Wb.heap.size:=⟨by omega,by omega,by omega,by omega,by omega⟩;clear oh hkb iz ah9 im ael;clear qw hB e0 e1 e2 c1 c8;obtain⟨S,hS⟩:∃S:Nat->Prop,S=λb=>b<s\/b=kb\/b=lb:=⟨_,rfl⟩
   have ac9:∀b,S b->b<Wb.heap.size:=λb hb=>by
    rw[hS]at hb;rcases hb with h|h|h<;>omega
   have nl:=HOK.out.good HX.out;have hSW:∀q,a=some q->S q.block:=λq hq=>by rw[hS];exact Or.inl (by rw[HS.out];exact HA.out q hq)
   have aia:aG Wb a 1 (B.map stC):=HAT.out.grows HBb.out.gr;have KS:=yE0 11 B a c kb lb x S Wb hB_ HSZ.out HOK.out.asc nl (by rw[hS];exact Or.inr (Or.inl rfl)) (by rw[hS];exact Or.inr (Or.inr rfl)) hSW ac9 (TK.cell rfl) (TK.cell rfl) (TK.cell rfl) (TL.cell rfl) aia;refine(wpIn_wide (n:=12)).1 ?_
   refine wpIn_rangeFunc_ownH (F:=Fence.wide) (n:=12) (α:=bC0 (bls B) x) rfl (by decide) (gf:=182) (lb:=#[.pointer (some ⟨kb,0,none⟩),.pointer (some ⟨lb,0,none⟩)]) rfl trivial (enters_of Tryz.func182 (by kernel_rfl) rfl) KS
    (λh k=>h.tr k) (λW l o o' hl ho hc hw b hb=>World.putObj_heap_other (λe=>by have:=ac9 b hb;omega)) (Below.refl _ _) (λ_=>rfl)
    (λpre W=>∃ny tp nz,LbJ w s B.length (.slice a B.length c) ds xb kb lb Wb.heap.size x (lbK (bls B) i x (pre.map (λy=>y.1)) ny tp nz u7 u8) W)
    (λ_ _ _=>False) ?hI (λ_ _ _ _ _ h _ _=>h) ?h0
    (λy a' W=>∃Bx v,Wb.heap.size<=Bx/\TB W Bx #[.int .i64 y.1.i,.int .i64 y.1.t,.int .i64 y.1.d] 208/\TB W (s+7) #[v] 209/\v.ownBlock≠some Bx /\
     a'={ tmps:=(zJ B a c s b2 b3 b4 b5 b6 b7 b8 ds { u7:=u7,u8:=u8,u10:=.int .i64 i,u11:=.pointer (some ⟨xb,0,none⟩),u12:=.pointer (some ⟨Bx,0,none⟩),u13:=u13,u29:=.int .i64 i,u30:=.slice (some ⟨bA,oA,none⟩) N1 cA,u31:=.int .i64 N1,u32:=.bool true,u33:=u33,u34:=u34,u35:=.slice (some ⟨bA,oA,none⟩) N1 cA,u36:=.int .i64 i,u37:=.pointer (some ⟨bA,oA+i*3,none⟩),u38:=.agg #[.int .i64 x.i,.int .i64 x.t,.int .i64 x.d],u39:=.agg #[.int .i64 x.i,.int .i64 x.t,.int .i64 x.d],u40:=.slice a B.length c,u41:=.func (.func 182) #[] #[.pointer (some ⟨kb,0,none⟩),.pointer (some ⟨lb,0,none⟩)],u42:=.agg #[.int .i64 y.1.i,.int .i64 y.1.t,.int .i64 y.1.d],u43:=u43,u44:=u44,u45:=u45,u46:=u46,u47:=u47,u48:=u48,u49:=u49,u50:=u50,u51:=u51,u52:=u52,u53:=u53,u54:=u54,u55:=u55,u56:=u56,u57:=u57,u58:=u58,u59:=u59,u60:=u60,u61:=u61,u62:=u62,u63:=u63,u64:=u64,u65:=u65,u66:=u66,u67:=u67,u68:=u68,u69:=u69,u70:=u70,u71:=u71,u72:=u72,u73:=u73,u74:=u74,u75:=u75,u76:=u76,u77:=u77,u78:=u78,u79:=u79,u80:=u80,u81:=u81,u82:=u82,u83:=u83,u84:=u84,u85:=u85,u86:=u86,u87:=u87,u88:=u88,u89:=u89,u90:=u90,u91:=u91,u92:=u92,u93:=u93,u94:=u94,u95:=u95,u96:=u96,u97:=u97,u98:=u98,u99:=u99,u100:=u100,u101:=u101,u102:=u102,u103:=u103,u104:=u104,u105:=u105,u106:=u106,u107:=u107 }).tmps,defers:=[] }) ?hAx ?assign ?body ?done ?stop
   case hI =>
    rintro pre V V' row ⟨ny,tp,nz,h⟩ hg hr;exact⟨ny,tp,nz,h.other hg (RT.of_not λq e=>(hr q e).2) (λq e=>by have:=(hr q e).1;omega) (λD hD e=>by have h1:=(hr D e).1;have h2:=(Array.getElem?_eq_some_iff.1 (ya.at_ D hD).2).1;omega)⟩
   case h0 =>
    refine⟨vS,.slice (some ⟨bA,oA,none⟩) N1 cA,vL,?_,TX,TK,TL,λe=>?_,λe=>?_,ya,Ad _⟩
    ·have h:=HBb.out
     simpa [lbD,lbK] using h
    ·have e1:some bA=some xb:=e
     exact hxk.1 (Option.some.inj e1)
    ·have e1:some bA=some kb:=e
     exact hxk.2.1 (Option.some.inj e1)
   case hAx =>
    rintro y a' _ V V' row ⟨Bx,v,k1,k2,k3,k4,k5⟩ hg hr;exact⟨Bx,v,k1,k2.keep hg (RT.of_not λq e=>(hr q e).2) (by decide),k3.keep hg (RT.of_not λq e=>(hr q e).2) (by decide),k4,k5⟩
   case assign =>
    rintro l pre y V K2 ⟨ny,tp,nz,h⟩ oe;dsimp only[jG0]
    gi_wp2
    exact oe _ _ ((KeepsOthers.alloc _ _).from _) (cJ.alloc (λb hb=>Aq (ac9 b hb) h.sz) _) ⟨ny,tp,nz,h.al _⟩ ⟨V.heap.size,tp,h.sz,TB.alloc _ _ _,(h.al _).st.b8,λe=>absurd (gX h.st.oA _ e) (Ax _),rfl⟩
   case body =>
    rintro l pre y a' V hl afh ⟨ny,tp,nz,h⟩ ⟨Bx,v,k1,TC,kb8,kne,rfl⟩ ah
    obtain rfl:tp=v:=by
     have e1:=h.st.b8;unfold TB at e1 kb8;dsimp only[lbK]at e1
     rw[e1]at kb8;simpa using kb8
    have HYK:=y.2;obtain⟨gy,hyd,lk,hy2⟩:=(bO0 HOK.out.asc nl).mem y.1 HYK;have aib:y.1.i<y.1.t:=by rcases gy.ne with h|h<;>omega
    have hyB:y.1.i<B.length:=by have:=gy.le;rw[dT]at this;omega
    obtain⟨sI,uy⟩:∃s,B[y.1.i]?=some s:=⟨_,Ac hyB⟩
    have hxd:x.d<sI.size:=by
     have:=gy.len y.1.i (Ad _) aib
     rw[eV uy,dO,hyd]at this;omega
    have px:pS (bls B) x y.1=sI[x.d]:=by
     unfold pS;rw[eV uy,List.getD_eq_getElem?_getD,pP hxd];rfl
    clear hyd lk hy2 gy;obtain⟨sb,so,rfl,cj⟩:=at1 (f:=λs:ByteArray=>Value.string s) (HAT.out.grows h.st.gr) (Ah (Ae uy));have aic:sb<s:=by rw[HS.out];exact HA.out _ rfl
    have HPL:Hid (pre.length+offA (bls B) i<6000000/\(shapeL (bls B) ((nodesA (bls B)).take i)).length<=2000000/\(labelsL (bls B) ((nodesA (bls B)).take i)).length<=1000000):=by
     have h1:=HOK.out.off_le (i+1);rw[mJ HX.out]at h1;have h2:=HOK.out.many (by rw[dT];exact hB_);have h3:=eY (bls B) i (by have:=(List.getElem?_eq_some_iff.1 HX.out).1;omega);have h4:=oT0 (bls B) i;have h5:=HO.out;show _/\_/\_
     omega
    have c6:V.cell? ⟨b6,0,none⟩=some ny:=by rw[HB6.out];exact h.st.b6.cell rfl
    obtain⟨Ls,hLs⟩:=exq (shapeL (bls B) ((nodesA (bls B)).take i)++Ab (pre.map (λy=>y.1)).length true);obtain⟨Ll,hLl⟩:=exq (labelsL (bls B) ((nodesA (bls B)).take i)++(pre.map (λy=>y.1)).map (pS (bls B) x));obtain⟨La,hLa⟩:=exq (eX (rootS (bls B)) (fX (bls B)) (nodesA (bls B)) i++pre.map (λy=>y.1));have oS:aX V s 4 1 rD ny Ls:=by rw[hLs];exact h.st.oS
    have aem:Ls.length+1<=9000000/\Ll.length+1<=9000000/\La.length+1<=9000000:=by
     have:=HPL.out
     rw[hLs,hLl,hLa];simp only[Ai,Ak,Aj];have e1:(eX (rootS (bls B)) (fX (bls B)) (nodesA (bls B)) i).length=offA (bls B) i:=rfl;omega
    have HLS:=Aa hLs;have HLL:=Aa hLl;have HLA:=Aa hLa;clear hLs hLl hLa;have hsV:s<=V.heap.size:=Ag hxk.2.2.2.2 h.sz;dsimp only[zJ]
    refine wpIn_block ?_;refine wpIn_seq_k λK1 hK1=>?_;refine kC1 (by rintro⟨_,_,h⟩;exact h) (by kernel_rfl) ?_;go_wp2_with (at_builtin;refine fG aD0 rfl _ _ rfl s ny _ true rfl oS (aB.refl _) _ 1 rfl #[.bool true] rfl rfl (by omega) hsV ?_;intro v5 w5 ho5 bv hf5 _;obtain⟨g5,p5,rfl⟩:=pQ ho5;have vv:=h.pushS ho5 bv hf5;have c6b:w5.cell? ⟨b6,0,none⟩=some ny:=(by rw[HB6.out];exact vv.2.2.2.cell rfl);have f6b:w5.frozen? ⟨b6,0,none⟩=false:=(by rw[HB6.out];exact vv.2.2.2.froz 0))
    obtain⟨V2,p8⟩:=exq (w5.setCell ⟨b6,0,none⟩ (.slice (some ⟨g5,0,none⟩) (Ls.length+1) p5));have J5:=vv.1;have KF5:=vv.2.1;have TC2:=vv.2.2.1 _ _ TC;rw[<-HB6.out,<-p8]at J5 KF5 TC2;rw[<-p8];clear vv p8 c6 c6b f6b oS ho5 bv hf5 TC kb8 cj;have J5d:=J5.dr;have q4:V2.drew.cell? ⟨b4,0,none⟩=some (.pointer (some ⟨b3,0,none⟩)):=by rw[HB4.out,HB3.out];exact J5d.st.b4.cell rfl
    have q3:V2.drew.cell? ⟨b3,2,none⟩=some nz:=by rw[HB3.out];exact J5d.st.b2.cell rfl
    have q1:V2.drew.cell? ⟨s,0,none⟩=some (.slice (some ⟨sb,so,none⟩) B.length c):=J5d.st.b1.cell rfl;have qc:V2.drew.cell? ⟨Bx,0,none⟩=some (.int .i64 y.1.i):=(aB.drew V2).cell (TC2.cell rfl);have qx:V2.drew.cell? ⟨xb,2,none⟩=some (.int .i64 x.d):=J5d.tx.cell rfl
    have qs:V2.drew.cell? ⟨sb,so+y.1.i,none⟩=some (.string sI):=by
     obtain⟨sb',so',e,cj⟩:=at1 (f:=λs:ByteArray=>Value.string s) (HAT.out.grows J5d.st.gr) (Ah (Ae uy));have e1:sb=sb'/\so=so':=by simpa using e
     rw[e1.1,e1.2];exact cj _ _ uy
    obtain⟨T,hT⟩:∃T:Nat->Prop,T=λb=>b=b4\/b=b3\/b=s\/b=Bx\/b=xb\/b<s:=⟨_,rfl⟩;have TCd:TB V2.drew Bx #[.int .i64 y.1.i,.int .i64 y.1.t,.int .i64 y.1.d] 208:=TC2;have b4d:TB V2.drew b4 #[.pointer (some ⟨s+2,0,none⟩)] 100:=by rw[HB4.out];exact J5d.st.b4
    have b3d:TB V2.drew b3 #[.pointer none,.pointer none,nz,.pointer none,.slice (some ⟨s+1,0,none⟩) B.length B.length] 204:=by rw[HB3.out];exact J5d.st.b2
    have iy:∀b,T b->b<V2.drew.heap.size:=λb hb=>by
     rw[hT]at hb;rcases hb with rfl|rfl|rfl|rfl|rfl|hb
     ·exact b4d.lt
     ·exact b3d.lt
     ·exact J5d.st.b1.lt
     ·exact TCd.lt
     ·exact J5d.tx.lt
     ·have:=J5d.st.b1.lt;omega
    have hTr:∀b,T b->nz.ownBlock≠some b:=λb hb=>by
     have hr:RT V2.drew nz.ownBlock (some 5):=RT.own J5d.st.oL;rw[hT]at hb;rcases hb with rfl|rfl|rfl|rfl|rfl|hb
     ·exact b4d.ne_row hr (by decide)
     ·exact b3d.ne_row hr (by decide)
     ·exact J5d.st.b1.ne_row hr (by decide)
     ·exact TCd.ne_row hr (by decide)
     ·exact J5d.tx.ne_row hr (by decide)
     ·intro e
      have:=aZ J5d.st.oL b e
      omega
    have z4:∀x:Ext (cJ T) V2.drew,x.u.cell? ⟨b4,0,none⟩=some (.pointer (some ⟨b3,0,none⟩)):=gY (by rw[hT];exact Or.inl rfl) q4;have z3:∀x:Ext (cJ T) V2.drew,x.u.cell? ⟨b3,2,none⟩=some nz:=gY (by rw[hT];exact Or.inr (Or.inl rfl)) q3;have z1:∀x:Ext (cJ T) V2.drew,x.u.cell? ⟨s,0,none⟩=some (.slice (some ⟨sb,so,none⟩) B.length c):=gY (by rw[hT];exact Or.inr (Or.inr (Or.inl rfl))) q1;have zc:∀x:Ext (cJ T) V2.drew,x.u.cell? ⟨Bx,0,none⟩=some (.int .i64 y.1.i):=gY (by rw[hT];exact Or.inr (Or.inr (Or.inr (Or.inl rfl)))) qc;have zx:∀z:Ext (cJ T) V2.drew,z.u.cell? ⟨xb,2,none⟩=some (.int .i64 x.d):=gY (by rw[hT];exact Or.inr (Or.inr (Or.inr (Or.inr (Or.inl rfl))))) qx;have zs:∀x:Ext (cJ T) V2.drew,x.u.cell? ⟨sb,so+y.1.i,none⟩=some (.string sI):=gY (by rw[hT];exact Or.inr (Or.inr (Or.inr (Or.inr (Or.inr aic))))) qs;have hyi:(y.1.i:Int)<B.length:=by omega
    have akc:(x.d:Int)<sI.size:=by omega
    have HT:=Aa hT;clear hT q4 q3 q1 qc qx qs;refine wpIn_seq_k λK2 oe=>?_;refine jV1 (cJ T) 15 (bB 15 [13,14]) (by rintro⟨_,_,h⟩;exact h) (by kernel_rfl) (cJ.refl T) (nS T) (by kernel_rfl) (by kernel_rfl) (λd _ _ _ _ h=>by cases d<;>exact h) ?_
    iterate 13 (refine aH rfl (λK hK=>?_);go_simp;refine hK _ ?_;clear hK K)
    refine bH rfl rfl (λK hK=>?_);go_simp;refine⟨cJ.alloc iy _,hK _ _ ?_⟩;clear hK K;refine bH rfl rfl (λK hK=>?_);have oL:aX V2.drew s 5 1 aY nz Ll:=by rw[HLL.out];exact J5d.st.oL
    refine cT1 bJ _ _ rfl s nz Ll sI[x.d] rfl oL V2.drew.heap.size 1 rfl #[.int .u8 (sI[x.d].toNat:Nat)] rfl rfl (by omega) (Ag hsV (Ag KF5.size (Ad _))) ?_;intro v6 w6 ho6 dl _;have hJ6:=J5d.pushL ho6 dl;obtain⟨g6,p6,rfl⟩:=pQ ho6;refine⟨λb hb=>?_,hK _ _ ?_⟩
    ·have e1:=dl.block b (iy b hb) (λe=>hTr b hb e.symm)
     have e2:=cJ.alloc iy (.cells #[.int .u8 (sI[x.d].toNat:Nat)] 5) b hb;rw[e1,<-e2];rfl
    clear hK K z4 z3 z1 zc zx zs;refine cB ?_;have c3b:w6.cell? ⟨b3,2,none⟩=some nz:=by rw[HB3.out];exact hJ6.2.2.2.cell rfl
    have f3b:w6.frozen? ⟨b3,2,none⟩=false:=by rw[HB3.out];exact hJ6.2.2.2.froz 2
    simp only[Ap,Av];go_wp2_with fail
    obtain⟨V3,zg⟩:=exq (w6.setCell ⟨b3,2,none⟩ (.slice (some ⟨g6,0,none⟩) (Ll.length+1) p6));have J6:=hJ6.1;have KF6:=hJ6.2.1;have TC3:=hJ6.2.2.1 _ _ TCd;rw[<-HB3.out,<-zg]at J6 KF6 TC3;rw[<-zg];have aid:s<=V3.heap.size:=Ag hxk.2.2.2.2 J6.sz;clear hJ6 zg c3b f3b oL ho6 dl TCd b4d b3d iy hTr J5d;have c8:V3.cell? ⟨b8,0,none⟩=some tp:=by rw[HB8.out];exact J6.st.b8.cell rfl
    have y0:V3.cell? ⟨Bx,0,none⟩=some (.int .i64 y.1.i):=TC3.cell rfl;have y1:V3.cell? ⟨Bx,1,none⟩=some (.int .i64 y.1.t):=TC3.cell rfl;have y2:V3.cell? ⟨Bx,2,none⟩=some (.int .i64 y.1.d):=TC3.cell rfl;have oA3:aX V3 s 208 3 cU0 tp La:=by rw[HLA.out];exact J6.st.oA
    refine kC1 (by rintro⟨_,_,h⟩;exact h) (by kernel_rfl) ?_;go_wp2_with (at_builtin;refine fG pG0 rfl _ _ rfl s tp La y.1 rfl oA3 (aB.refl _) _ 1 rfl #[.int .i64 y.1.i,.int .i64 y.1.t,.int .i64 y.1.d] rfl rfl (by omega) aid ?_;intro v7 w7 zh cw hf7 _;have hJ7:=J6.pushA zh cw hf7;obtain⟨g7,p7,rfl⟩:=pQ zh;have c8b:w7.cell? ⟨b8,0,none⟩=some tp:=(by rw[HB8.out];exact hJ7.2.2.cell rfl);have f8b:w7.frozen? ⟨b8,0,none⟩=false:=(by rw[HB8.out];exact hJ7.2.2.froz 0))
    have J7:=hJ7.1
    have E7:({ ({ ({ (lbK (bls B) i x (pre.map (λy=>y.1)) ny tp nz u7 u8) with vS:=.slice (some ⟨g5,0,none⟩) (Ls.length+1) p5,sh:=Ls++[true] }:BD) with vL:=.slice (some ⟨g6,0,none⟩) (Ll.length+1) p6,lab:=Ll++[sI[x.d]] }:BD) with vA:=.slice (some ⟨g7,0,none⟩) (La.length+1) p7,al:=La++[y.1] }:BD) =
      lbK (bls B) i x ((pre++[y]).map (λy=>y.1)) (.slice (some ⟨g5,0,none⟩) (Ls.length+1) p5) (.slice (some ⟨g7,0,none⟩) (La.length+1) p7) (.slice (some ⟨g6,0,none⟩) (Ll.length+1) p6) u7 u8:=by
     have e1:Ls++[true]=shapeL (bls B) ((nodesA (bls B)).take i)++Ab ((pre++[y]).map (λy=>y.1)).length true:=by
      rw[HLS.out,Ar,Ao,Ai];show _++(Ab _ true++[true])=_++Ab (_+1) true
      rw[List.replicate_succ']
     have e2:Ll++[sI[x.d]]=labelsL (bls B) ((nodesA (bls B)).take i)++((pre++[y]).map (λy=>y.1)).map (pS (bls B) x):=by
      rw[HLL.out,Ar,Ao,Ao,<-px];rfl
     have e3:La++[y.1]=eX (rootS (bls B)) (fX (bls B)) (nodesA (bls B)) i++(pre++[y]).map (λy=>y.1):=by
      rw[HLA.out,Ar,Ao];rfl
     unfold lbK;simp only[e1,e2,e3]
    rw[E7]at J7;have KF7:=hJ7.2.1;rw[<-HB8.out]at J7 KF7;exact⟨((KF5.trans ((KeepsOthers.drew V2).from _)).trans KF6).trans KF7,h.keepB J7,_,_,_,J7⟩
   case stop =>
    rintro D c pre W _ _ h _;exact h.elim
   case done =>
    rintro D xs V hD hxs ⟨ny,tp,nz,J⟩ hKD;rw[hxs]at J
    have MK:Hid (lM V s (D::ds)):=⟨λD' hD'=>by
     rcases List.mem_cons.1 hD' with rfl|h
     ·exact⟨Ag hxk.2.2.2.2 hD,hKD⟩
     ·exact J.mks.at_ D' h,List.nodup_cons.2 ⟨λja=>by have:=(Array.getElem?_eq_some_iff.1 (ya.at_ D ja).2).1;omega,ya.nodup⟩⟩
    have va:=mJ HX.out;obtain⟨N2,hN2⟩:=exq (offA (bls B) (i+1));obtain⟨aA',cA',afi,_,_,aa1⟩:=J.st.oA.at_ pG0.len;dsimp only[lbK]at afi
    subst afi
    have tq:(eX (rootS (bls B)) (fX (bls B)) (nodesA (bls B)) i++fX (bls B) x).length=N2:=by
     rw[Ai,hN2,va];rfl
    have c8:V.cell? ⟨b8,0,none⟩=some (.slice aA' N2 cA'):=by
     rw[HB8.out,<-tq];exact J.st.b8.cell rfl
    have HN2:=Aa hN2;by_cases cu:524287<N2
    ·have lj:(524287:Int)<N2:=by omega
     clear aa1 tq hN2 va;dsimp only[zJ]
     go_wp2_with fail
     refine oZ (ds:=D::ds) (lo:=s) MK.out λw' eo cy iv=>⟨.tuple #[.pointer none,.int .i64 2],by simp[results,Tryz.results50,go_sem],λ_=>⟨rfl,bQ0 J.st.gr MK.out HS.out eo cy iv⟩,λgv=>?_⟩
     exfalso
     have h1:=HOK.out.off_le (i+1);have h2:=fH HOK.out.asc HOK.out.len;have h3:=HN2.out;omega
    ·have lj:¬(524287:Int)<N2:=by omega
     have hsV:s<=V.heap.size:=Ag hxk.2.2.2.2 J.sz;obtain⟨Ls,hLs⟩:=exq (shapeL (bls B) ((nodesA (bls B)).take i)++Ab (fX (bls B) x).length true);have oS:aX V s 4 1 rD ny Ls:=by rw[hLs];exact J.st.oS
     have akd:Ls.length+1<=9000000:=by
      have h3:=eY (bls B) i (by have:=(List.getElem?_eq_some_iff.1 HX.out).1;omega);have h5:=HO.out;rw[hLs,Ai,Ak];omega
     have HLS:=Aa hLs;have c6:V.cell? ⟨b6,0,none⟩=some ny:=by rw[HB6.out];exact J.st.b6.cell rfl
     have HLEN2:=Aa tq;have HOFF:=Aa va;clear aa1 tq hN2 va hLs;dsimp only[zJ]
     go_wp2_with (at_builtin;refine fG aD0 rfl _ _ rfl s ny Ls false rfl oS (aB.refl _) _ 1 rfl #[.bool false] rfl rfl (by omega) hsV ?_;intro v5 w5 ho5 bv hf5 _;have vv:=J.pushS ho5 bv hf5;obtain⟨g5,p5,rfl⟩:=pQ ho5;have c6b:w5.cell? ⟨b6,0,none⟩=some ny:=(by rw[HB6.out];exact vv.2.2.2.cell rfl);have f6b:w5.frozen? ⟨b6,0,none⟩=false:=(by rw[HB6.out];exact vv.2.2.2.froz 0))
     have M6a:lM w5 s (D::ds):=MK.out.grown bv (MK.out.not_row (RT.own J.st.oS));have M6b:lM (w5.setCell ⟨s+5,0,none⟩ (.slice (some ⟨g5,0,none⟩) (Ls.length+1) p5)) s (D::ds):=M6a.grown (bG _ _ _ _) (M6a.not_row vv.2.2.2.rt);obtain⟨V2,p8⟩:=exq (w5.setCell ⟨b6,0,none⟩ (.slice (some ⟨g5,0,none⟩) (Ls.length+1) p5));have J5:=vv.1;rw[<-HB6.out,<-p8]at M6b;have M6:Hid (lM V2.drew s (D::ds)):=⟨λE hE=>M6b.at_ E hE,M6b.nodup⟩;clear M6a M6b;rw[<-HB6.out,<-p8]at J5;rw[<-p8];clear vv p8 c6 c6b f6b oS ho5 bv hf5 c8;have ada:s<=V2.drew.heap.size:=Ag hxk.2.2.2.2 J5.sz;have J5d:=J5.dr;have B6:=J5d.st;have TX6:=J5d.tx;obtain⟨Li,hLi⟩:=exq (isL (bls B) ((nodesA (bls B)).take i));obtain⟨Ld,hLd⟩:=exq (idsL (bls B) ((nodesA (bls B)).take i));have oI:aX V2.drew s 4 1 rD u7 Li:=by rw[hLi];exact B6.oI
     have aem:Li.length+1<=9000000/\Ld.length+1<=9000000:=by
      have h1:=(List.getElem?_eq_some_iff.1 HX.out).1;rw[hLi,hLd];unfold isL idsL;rw[Aj,Aj];have h2:=List.length_filter_le (jB (bls B)) ((nodesA (bls B)).take i);have h3:((nodesA (bls B)).take i).length<=i:=by rw[List.length_take];omega
      omega
     have HLI:=Aa hLi;have HLD:=Aa hLd;have q0:=TX6.cell (o:=0) (v:=.int .i64 x.i) rfl;have q1:=TX6.cell (o:=1) (v:=.int .i64 x.t) rfl;have q2:=TX6.cell (o:=2) (v:=.int .i64 x.d) rfl;have qs:=B6.b1.cell (o:=0) (v:=.slice a B.length c) rfl;have z0:∀y:Ext aB V2.drew,y.u.cell? ⟨xb,0,none⟩=some (.int .i64 x.i):=aF q0;have z1:∀y:Ext aB V2.drew,y.u.cell? ⟨xb,1,none⟩=some (.int .i64 x.t):=aF q1;have z2:∀y:Ext aB V2.drew,y.u.cell? ⟨xb,2,none⟩=some (.int .i64 x.d):=aF q2;have zs:∀y:Ext aB V2.drew,y.u.cell? ⟨s,0,none⟩=some (.slice a B.length c):=aF qs;clear hLi hLd q0 q1 q2 qs;by_cases jc:x.i<x.t
     case neg =>
      have aie:¬(x.i:Int)<x.t:=by omega
      have HH:Hid (jB (bls B) x=false):=by
       show _=_
       unfold jB;simp[jc]
      refine oC ?_;refine bK (bB 17 []) (by kernel_rfl) (λd _ _ _ _ h=>by cases d<;>exact h) ?_
      iterate 17 (refine aH rfl (λK hK=>?_);go_simp;refine hK _ ?_;clear hK K)
      refine cB ?_;simp only[gB];clear z0 z1 z2 zs;go_wp2_with (at_builtin;refine fG aD0 rfl _ _ rfl s u7 Li false rfl oI (aB.refl _) _ 1 rfl #[.bool false] rfl rfl (by omega) ada ?_;intro v7 w7 zh cw hf7 _;have hB7:=B6.pushI zh cw hf7;have TX7:=TX6.keep cw (RT.own oI) (by decide);have M7:=Aa (M6.out.grown cw (M6.out.not_row (RT.own oI))))
      have BB:=mJ0 HOK.out HX.out HH.out ny u7 (.slice (some ⟨g5,0,none⟩) (Ls.length+1) p5) (.slice aA' (eX (rootS (bls B)) (fX (bls B)) (nodesA (bls B)) i++fX (bls B) x).length cA') nz v7 u8;rw[<-HLS.out,<-HLI.out]at BB;have zi:=Eq.mp (congrArg (Bst w w7 s B.length _) BB) hB7;exact hK (D::ds) ⟨_,_,_,_,_,_,_,_,_,_,_,_,_,_,_,_,_,_,_,_,_,_,_,_,_,_,_,_,_,_,_,_,_,_,_,_,_,_,_,_,_,_,_,_,_,_,_,_,_,_,_,_,_,_,_,_,_,_,_,_,_,_,_,_,_,_,_,_,_,_,_,_,_,_,_,_,_,_,_,_,_,_,_,_,_⟩ _ ⟨by go_num,by omega,M7.out,⟨_,_,_,zi⟩,by have:=HN2.out;omega⟩
     case pos =>
      have hxB:x.i<B.length:=by have:=nl.le;rw[dT]at this;omega
      have aie:(x.i:Int)<x.t:=by omega
      have ake:(x.i:Int)<B.length:=by omega
      obtain⟨sX,hsX⟩:∃s,B[x.i]?=some s:=⟨_,Ac hxB⟩;obtain⟨sb,so,rfl,cj⟩:=at1 (f:=λs:ByteArray=>Value.string s) (HAT.out.grows B6.gr) (Ah (Ae hsX));have zS:∀y:Ext aB V2.drew,y.u.cell? ⟨sb,so+x.i,none⟩=some (.string sX):=aF (cj _ _ hsX);by_cases hh:sX.size=x.d
      case neg =>
       have vj:((sX.size:Int)==x.d)=false:=by rw[beq_eq_false_iff_ne];omega
       have HH:Hid (jB (bls B) x=false):=by
        show _=_
        unfold jB;rw[eV hsX,dO];simp[hh]
       clear hh hsX cj;refine oC ?_;refine bK (bB 17 []) (by kernel_rfl) (λd _ _ _ _ h=>by cases d<;>exact h) ?_
       iterate 17 (refine aH rfl (λK hK=>?_);go_simp;refine hK _ ?_;clear hK K)
       refine cB ?_;simp only[gB];clear z0 z1 z2 zs zS;go_wp2_with (at_builtin;refine fG aD0 rfl _ _ rfl s u7 Li false rfl oI (aB.refl _) _ 1 rfl #[.bool false] rfl rfl (by omega) ada ?_;intro v7 w7 zh cw hf7 _;have hB7:=B6.pushI zh cw hf7;have TX7:=TX6.keep cw (RT.own oI) (by decide);have M7:=Aa (M6.out.grown cw (M6.out.not_row (RT.own oI))))
       have BB:=mJ0 HOK.out HX.out HH.out ny u7 (.slice (some ⟨g5,0,none⟩) (Ls.length+1) p5) (.slice aA' (eX (rootS (bls B)) (fX (bls B)) (nodesA (bls B)) i++fX (bls B) x).length cA') nz v7 u8;rw[<-HLS.out,<-HLI.out]at BB;have zi:=Eq.mp (congrArg (Bst w w7 s B.length _) BB) hB7;exact hK (D::ds) ⟨_,_,_,_,_,_,_,_,_,_,_,_,_,_,_,_,_,_,_,_,_,_,_,_,_,_,_,_,_,_,_,_,_,_,_,_,_,_,_,_,_,_,_,_,_,_,_,_,_,_,_,_,_,_,_,_,_,_,_,_,_,_,_,_,_,_,_,_,_,_,_,_,_,_,_,_,_,_,_,_,_,_,_,_,_⟩ _ ⟨by go_num,by omega,M7.out,⟨_,_,_,zi⟩,by have:=HN2.out;omega⟩
      case pos =>
       have vj:((sX.size:Int)==x.d)=true:=by rw[hh];simp
       have HH:Hid (jB (bls B) x=true):=by
        show _=_
        unfold jB;rw[eV hsX,dO];simp[hh,jc]
       clear hh hsX cj;refine oC ?_;refine bK (bB 17 []) (by kernel_rfl) (λd _ _ _ _ h=>by cases d<;>exact h) ?_
       iterate 17 (refine aH rfl (λK hK=>?_);go_simp;refine hK _ ?_;clear hK K)
       refine cB ?_;simp only[gB];clear z0 z1 z2 zs zS;go_wp2_with (at_builtin;refine fG aD0 rfl _ _ rfl s u7 Li true rfl oI (aB.refl _) _ 1 rfl #[.bool true] rfl rfl (by omega) ada ?_;intro v7 w7 zh cw hf7 _;have hB7:=B6.pushI zh cw hf7;have TX7:=TX6.keep cw (RT.own oI) (by decide);have M7:=Aa (M6.out.grown cw (M6.out.not_row (RT.own oI))))
       have oN:=hB7.oN;have afj:(uD (bls B) i).length=B.length:=by rw[gG1,dT]
       have afk:x.i<(uD (bls B) i).length:=by rw[afj];omega
       obtain⟨ov,hov⟩:∃o,(uD (bls B) i)[x.i]?=some o:=⟨_,Ac afk⟩;have cN:w7.cell? ⟨b2,x.i,none⟩=some (.int .i64 ov):=by rw[HB2.out];exact dC (f:=λn:Nat=>Value.int .i64 n) oN hov
       have hSN:=hB7.setN afk i;have fN:w7.frozen? ⟨b2,x.i,none⟩=false:=by rw[HB2.out];exact hSN.1
       have z4:∀y:Ext aB w7.drew,y.u.cell? ⟨b4,0,none⟩=some (.pointer (some ⟨b3,0,none⟩)):=aF (by rw[HB4.out,HB3.out];exact hB7.dr.b4.cell rfl);have z3:∀y:Ext aB w7.drew,y.u.cell? ⟨b3,4,none⟩=some (.slice (some ⟨b2,0,none⟩) B.length B.length):=aF (by rw[HB3.out,HB2.out];exact hB7.dr.b2.cell rfl);have zx:∀y:Ext aB w7.drew,y.u.cell? ⟨xb,0,none⟩=some (.int .i64 x.i):=aF ((aB.drew w7).cell (TX7.cell rfl));clear oN hov afj;refine oC ?_;refine lC 8 (bB 8 []) (by kernel_rfl) (λd _ _ _ _ h=>by cases d<;>exact h) ?_
       iterate 8 (refine aH rfl (λK hK=>?_);go_simp;refine hK _ ?_;clear hK K)
       refine cB ?_;clear z4 z3 zx;simp only[Ap,Av];go_wp2_with fail
       simp only[gB];obtain⟨V8,hV8⟩:=exq ((w7.setCell ⟨b2,x.i,none⟩ (.int .i64 i)).drew);have B8:=hSN.2.dr;rw[<-HB2.out,<-hV8]at B8
       have M8:Hid (lM V8 s (D::ds)):=by
        have m2:=M7.out.grown (bG w7 (s+1) x.i (.int .i64 i)) (M7.out.not_row (RT.own hB7.oN));rw[hV8,HB2.out];exact⟨λE hE=>m2.at_ E hE,m2.nodup⟩
       have cx8:V8.cell? ⟨xb,0,none⟩=some (.int .i64 x.i):=by
        rw[hV8,HB2.out];exact(TX7.keep (bG w7 (s+1) x.i (.int .i64 i)) (RT.own hB7.oN) (by decide)).cell rfl
       have wx8:IntKind.u64.wrap (x.i:Int)=x.i:=by simp[Az,Ba,Aw];omega
       rw[<-hV8];have hs8:s<=V8.heap.size:=by rw[HS.out];exact B8.gr.size
       have oD:aX V8 s 213 1 kI u8 Ld:=by rw[HLD.out];exact B8.oD
       clear hSN hV8 cN fN;go_wp2_with (at_builtin;refine fG aQ1 rfl _ _ rfl s u8 Ld x.i rfl oD (aB.refl _) _ 1 rfl #[.int .u64 x.i] rfl rfl (by omega) hs8 ?_;intro v9 w9 ho9 fu hf9 _;have hB9:=B8.pushD ho9 fu;have M9:=Aa (M8.out.grown fu (M8.out.not_row (RT.own oD))))
       have BB:=eK1 HOK.out HX.out HH.out ny u7 u8 (.slice (some ⟨g5,0,none⟩) (Ls.length+1) p5) (.slice aA' (eX (rootS (bls B)) (fX (bls B)) (nodesA (bls B)) i++fX (bls B) x).length cA') nz v7 v9;rw[<-HLS.out,<-HLI.out,<-HLD.out]at BB;have zi:=Eq.mp (congrArg (Bst w w9 s B.length _) BB) hB9;exact hK (D::ds) ⟨_,_,_,_,_,_,_,_,_,_,_,_,_,_,_,_,_,_,_,_,_,_,_,_,_,_,_,_,_,_,_,_,_,_,_,_,_,_,_,_,_,_,_,_,_,_,_,_,_,_,_,_,_,_,_,_,_,_,_,_,_,_,_,_,_,_,_,_,_,_,_,_,_,_,_,_,_,_,_,_,_,_,_,_,_⟩ _ ⟨by go_num,by omega,M9.out,⟨_,_,_,zi⟩,by have:=HN2.out;omega⟩
end
section
open Go Go.RowKit Go.Shelf
theorem uV0 (B:List ByteArray) (a:Option Addr) (c:Nat) (w:World) (hB:B.length<=1099511627776) (de:∀s∈B,s.size<=1099511627776) (lm:mP0 (bls B)≠0) (ac:aG w a 1 (B.map stC)) :
  Calls Tryz.prog 50 #[.slice a B.length c] w λe w'=>e=.returned (.tuple #[.pointer none,.int .i64 (mP0 (bls B))])/\aB w w':=by
 obtain⟨K,hK⟩:=exq (mP0 (bls B))
 have CK:Hid (∀u,aB w u->Calls Tryz.prog 117 #[.slice a B.length c] u λe w'=>e=.returned (.int .i64 K)/\u=w'):=λu hg=>by
  rw[hK];exact qK0 B a c u hB de (ac.grows hg)
 rw[<-hK]at lm ⊢;have hKi:¬(K:Int)=0:=by omega
 clear ac de hK;go_enter Tryz.func50,Tryz.ntmps50
 go_wp2_with (go_at_call 117;refine(CK.out _ (aB.alloc _ _)).mono ?_;rintro e w2 ⟨rfl,rfl⟩)
 exact bodyPost_ret (v:=.tuple #[.pointer none,.int .i64 K]) (by simp[results,Tryz.results50,go_sem]) rfl ⟨rfl,aB.alloc _ _⟩
theorem uK (B:List ByteArray) (a:Option Addr) (c:Nat) (w:World) (hB:B.length<=1099511627776) (de:∀s∈B,s.size<=1099511627776) (ha:∀q,a=some q->q.block<w.heap.size) (ac:aG w a 1 (B.map stC)) :
  Calls Tryz.prog 50 #[.slice a B.length c] w λe w'=>aB w w' /\
   ((fY (bls B)=0/\∃tb,e=.returned (.tuple #[.pointer (some ⟨tb,0,none⟩),.int .i64 0])/\fB w' tb (bls B)/\w.heap.size+2<=tb)\/(fY (bls B)≠0/\e=.returned (.tuple #[.pointer none,.int .i64 (fY (bls B))]))):=by
 by_cases lm:mP0 (bls B)=0
 ·have h1:¬20000<(bls B).length:=λh=>by unfold mP0 at lm;rw[if_pos h]at lm;cases lm
  have h2:pJ (bls B)=false:=by
   unfold mP0 at lm;rw[if_neg h1]at lm
   cases h:pJ (bls B) with
   | false=>rfl
   | true=>rw[h]at lm;cases lm
  have ag:=jO1 h2;have hl:B.length<=20000:=by rw[dT]at h1;omega
  have ew:∀s∈B,s.size<=256:=λs hs=>by
   have:=ag.len (bl s) (by unfold bls;exact List.mem_map.2 ⟨s,hs,rfl⟩)
   rwa [dO]at this
  have hc:fY (bls B)=if 524287<eA (bls B) then 2 else 0:=by
   unfold fY;rw[if_neg h1,h2];rfl
  refine(zY0 B a c w lm ha hl ew ag ac).mono ?_;rintro e w' ⟨k1,k2⟩;rcases Bd 524287 (eA (bls B)) with h|h
  ·obtain⟨rfl,hg⟩:=k1 h
   rw[if_pos h]at hc;exact⟨hg,Or.inr ⟨by rw[hc];decide,by rw[hc];rfl⟩⟩
  ·obtain⟨rfl,ht,hg⟩:=k2 h
   rw[if_neg (by omega)]at hc;exact⟨hg,Or.inl ⟨hc,_,rfl,ht,Ad _⟩⟩
 ·have hc:fY (bls B)=mP0 (bls B):=by
   unfold fY mP0 at *;by_cases h1:20000<(bls B).length
   ·rw[if_pos h1,if_pos h1]
   ·rw[if_neg h1]at lm
    rw[if_neg h1,if_neg h1];by_cases h2:pJ (bls B)=true
    ·rw[if_pos h2,if_pos h2]
    ·rw[if_neg h2]at lm
     exact absurd rfl lm
  refine(uV0 B a c w hB de lm ac).mono ?_;rintro e w' ⟨rfl,hg⟩;exact⟨hg,Or.inr ⟨by rw[hc];exact lm,by rw[hc]⟩⟩
end
section
open Go Go.RowKit Go.Shelf
attribute [local go_sem] aO aM
theorem xP0 (L:List (List UInt8)) (tb:Nat) (s:ByteArray) (w:World) (ag:OkL L) (hl:L.length<=20000) (hc:eA L<=524287) (hs:s.size<=9223372036854775807) (ac:fB w tb L) :
  Calls Tryz.prog 105 #[.pointer (some ⟨tb,0,none⟩),.string s] w λe w'=>e=.returned (.tuple #[.int .i64 ((kD L (bl s)).1:Nat),.bool (kD L (bl s)).2])/\aB w w':=by
 by_cases cu:256<s.size
 ·have hb:(256:Int)<s.size:=by omega
  have hf:kD L (bl s)=(0,false):=qW λhm=>by
   have:=ag.len _ hm
   rw[dO]at this;omega
  rw[hf];clear ac ag hf;go_enter Tryz.func105,Tryz.ntmps105
  go_wp2_with fail
  go_ret2;exact⟨rfl,aB.refl _⟩
 ·have hb:¬(256:Int)<s.size:=by omega
  have HOK:=Aa ag;have CW:=Aa (zR0 L tb s w ag hl hc hs ac);have CI:=λ(i:Nat) (hn:gS L (bl s) i) (u:World) (hu:aB w u)=>Aa (xN0 L tb i (bl s) u ag hl hc hn (ac.grows hu));obtain⟨⟨r1,r2⟩,hR⟩:∃R,R=kD L (bl s):=⟨_,rfl⟩;rw[<-hR]at CI ⊢;have HR:=Aa hR;simp only at CI ⊢;clear ac ag hR;go_enter Tryz.func105,Tryz.ntmps105
  go_wp2_with fail
  refine CW.out.mono ?_;rintro e w1 ⟨k,b,rfl,hw,an⟩
  cases b with
  | true =>
   have CI1:=CI k (hw.1 rfl) w1 an;clear CI CW hw;go_wp2_with fail
   refine CI1.out.mono ?_;rintro e w2 ⟨rfl,af⟩;go_wp2
   go_ret2;exact⟨rfl,an.tr af⟩
  | false =>
   obtain⟨rfl,rfl⟩:r1=0/\r2=false:=by
    have h:=HR.out;rw[HOK.out.noNode (hw.2 rfl)]at h;simpa using h
   clear CI CW hw;go_wp2_with fail
   go_ret2;exact⟨rfl,an⟩
def pR1 (h:Nat×Nat):List Value:=[.int .i64 h.1,.int .i64 h.2]
theorem jU1:eG Tryz.prog 178 181 2 16 pR1 where
 sl:=Tryz.underlying178
 info:=gV (z:=.agg #[.int .i64 0,.int .i64 0]) (by kernel_rfl) rfl
 pos:=by decide
 by1:=by decide
 len _:=rfl
 one x u hu:=by
  simp[pR1]at hu;rcases hu with rfl|rfl<;>rfl
theorem fH0 (L:List (List UInt8)) (tb:Nat) (s:ByteArray) (w:World) (ag:OkL L) (hl:L.length<=20000) (hc:eA L<=524287) (hs:s.size<=140737488355328) (ac:fB w tb L) :
  Calls Tryz.prog 101 #[.pointer (some ⟨tb,0,none⟩),.string s] w λe w'=>∃v,e=.returned v/\aX w' w.heap.size 181 2 pR1 v (hitsL L (bl s) s.size)/\aB w w':=by
 have HOK:=Aa ag;have CD:=λ(i:Nat) (c:UInt8) (hi:i<(nodesA L).length) (u:World) (hu:aB w u)=>Aa (iO0 L tb i c u ag hl hc hi (ac.grows hu));have CI:=λ(i:Nat) (t:List UInt8) (hn:gS L t i) (u:World) (hu:aB w u)=>Aa (xN0 L tb i t u ag hl hc hn (ac.grows hu));obtain⟨H,hH⟩:=exq (hitsL L (bl s) s.size);rw[<-hH];have HH:=Aa hH;clear ac ag hH;go_enter Tryz.func101,Tryz.ntmps101
 go_wp2_with fail
 go_loopw [5,6,7,15] (λv f b i wr=>∃(k j:Nat) (ok:Bool),f=.int .i64 k/\b=.bool ok/\i=.int .i64 j/\j<=s.size/\Hid (aX wr w.heap.size 181 2 pR1 v (hitsL L (bl s) j))/\Hid (gS L ((bl s).take j) k)/\Hid (aB w wr)) (λ_ _ _ i _=>s.size-(intOf i).toNat)
 case atStart=>exact⟨0,0,true,rfl,rfl,rfl,Au _,aX.nil _ _ _ _ _,HOK.out.isRoot,aB.refl _⟩
 case round =>
  obtain⟨k,j,ok,rfl,rfl,rfl,hj,hO,hW,hG⟩:=hrel;by_cases ae:j<s.size
  ·have dp:(j:Int)<s.size:=by omega
   have hcj:(bl s)[j]?=some s[j]:=pP ae;have CD1:=CD k s[j] hW.out.lt wr hG.out;have HC:=Aa hcj;clear CD hcj;go_wp2_with fail
   refine CD1.out.mono ?_;rintro e w1 ⟨k1,b1,rfl,hd,an⟩;have HW1:=Aa (HOK.out.down_to hW.out hd);rw[<-bM HC.out]at HW1;have hg:=hG.out.tr an;have lq:=hO.out.grows an;clear hd CD1
   cases b1 with
   | false =>
    have he:Hid (H=hitsL L (bl s) j):=HH.out.trans (HOK.out.hits_stop (HW1.out.2 rfl) s.size hj);clear CI;go_wp2_with fail
    go_ret;exact⟨_,rfl,by rw[he.out];exact lq,hg⟩
   | true =>
    have CI1:=CI k1 _ (HW1.out.1 rfl) w1 hg;have ew:=qG L (bl s) j;by_cases hm:(bl s).take (j+1)∈L
    ·have e1:vL0 L (bl s) j=[((kD L ((bl s).take (j+1))).1,j+1)]:=if_pos hm
     have e2:(kD L ((bl s).take (j+1))).2=true:=by unfold kD;rw[if_pos hm]
     rw[e1]at ew;rw[e2]at CI1;have hid:=eX1 hm;have hLb:L.length<=20000:=hl;obtain⟨id,afl⟩:=exq ((kD L ((bl s).take (j+1))).1);rw[<-afl]at ew hid CI1;have HS2:=Aa ew;have wj:IntKind.i64.wrap ((j:Int)+1)=((j+1:Nat):Int):=by simp[Az,Ba,Aw];omega
     have gv:=HOK.out.hits_256 (s:=bl s) (n:=j) (by rw[dO];exact hj);generalize hitsL L (bl s) j=bk at lq HS2 gv;clear ew e1 e2 afl hm hO CI;go_wp2_with fail
     refine CI1.out.mono ?_;rintro e w2 ⟨rfl,af⟩;have qu:=hg.tr af;have tu:=lq.grows af;clear CI1 lq;go_wp2_with (at_builtin;refine fG jU1 rfl _ _ rfl w.heap.size _ bk (id,j+1) rfl tu (aB.refl _) _ 1 rfl #[.int .i64 id,.int .i64 (j+1:Nat)] rfl rfl (by omega) qu.size ?_;intro v6 w6 hO6 zj _ aif)
     have dl:=aif w qu (Ad _);rw[<-HS2.out]at hO6;go_roundw
     case rel=>exact⟨k1,j+1,true,rfl,rfl,by go_num,ae,hO6,HW1.out.1 rfl,dl⟩
     case measure=>simp[intOf];omega
    ·have e1:vL0 L (bl s) j=[]:=if_neg hm
     have e2:(kD L ((bl s).take (j+1)))=(0,false):=qW hm;rw[e1,An]at ew;rw[e2]at CI1;rw[<-ew]at lq;clear ew e1 e2 hm hO CI;go_wp2_with fail
     refine CI1.out.mono ?_;rintro e w2 ⟨rfl,af⟩;have qu:=hg.tr af;have tu:=lq.grows af;clear CI1 lq;go_wp2_with fail
     go_roundw
     case rel=>exact⟨k1,j+1,true,rfl,rfl,by go_num,ae,tu,HW1.out.1 rfl,qu⟩
     case measure=>simp[intOf];omega
  ·have dp:¬(j:Int)<s.size:=by omega
   obtain rfl:j=s.size:=by omega
   have lq:=hO.out;rw[<-HH.out]at lq;go_wp2_with fail
   go_ret;exact⟨_,rfl,lq,hG.out⟩
end
section
open Go Go.RowKit Go.Shelf
attribute [local go_sem] aO aM
structure GB (w0 w:World) (vP vD vS:Value) (P D:List Nat) (S:List ByteArray):Prop where
 p:aX w w0.heap.size 3 1 lK vP P
 d:aX w w0.heap.size 3 1 lK vD D
 s:aX w w0.heap.size 9 1 stC vS S
 pd:pF vP vD
 ps:pF vP vS
 ds:pF vD vS
 g:aB w0 w
section
variable {w0 w w':World} {vP vD vS v':Value} {P D P' D':List Nat} {S:List ByteArray}
theorem GB.grows (h:GB w0 w vP vD vS P D S) (hg:aB w w'):GB w0 w' vP vD vS P D S:=⟨h.p.grows hg,h.d.grows hg,h.s.grows hg,h.pd,h.ps,h.ds,h.g.tr hg⟩
theorem GB.appP (h:GB w0 w vP vD vS P D S) (ho:aX w' w0.heap.size 3 1 lK v' P') (hk:w.grownBy w' vP.ownBlock) (hf:uL w vP v'):GB w0 w' v' vD vS P' D S :=
 ⟨ho,gU h.d hk h.pd,gU h.s hk h.ps,h.pd.fresh (gX h.d) hf,h.ps.fresh (gX h.s) hf,h.ds,h.g.grown hk (aZ h.p)⟩
theorem GB.appD (h:GB w0 w vP vD vS P D S) (ho:aX w' w0.heap.size 3 1 lK v' D') (hk:w.grownBy w' vD.ownBlock) (hf:uL w vD v'):GB w0 w' vP v' vS P D' S :=
 ⟨gU h.p hk h.pd.symm,ho,gU h.s hk h.ds,(h.pd.symm.fresh (gX h.p) hf).symm,h.ps,h.ds.fresh (gX h.s) hf,h.g.grown hk (aZ h.d)⟩
theorem GB.ebP (h:GB w0 w vP vD vS P D S) (hk:w.grownBy w' vP.ownBlock):EB w0.heap.size w w' :=
 ⟨Below.grown (Below.refl _ _) hk h.g.size (aZ h.p),hk.size⟩
theorem GB.ebD (h:GB w0 w vP vD vS P D S) (hk:w.grownBy w' vD.ownBlock):EB w0.heap.size w w' :=
 ⟨Below.grown (Below.refl _ _) hk h.g.size (aZ h.d),hk.size⟩
theorem GB.newD (h:GB w0 w vP vD vS P D S):some w.heap.size≠vD.ownBlock:=λe=>Ax _ (gX h.d _ e.symm)
theorem GB.newP (h:GB w0 w vP vD vS P D S):some w.heap.size≠vP.ownBlock:=λe=>Ax _ (gX h.p _ e.symm)
theorem GB.setS {lb n c k:Nat} (h:GB w0 w vP vD (.slice (some ⟨lb,0,none⟩) n c) P D S) (hk:k<S.length) (y:ByteArray):w.frozen? ⟨lb,k,none⟩=false/\GB w0 (w.setCell ⟨lb,k,none⟩ (.string y)) vP vD (.slice (some ⟨lb,0,none⟩) n c) P D (S.set k y):=by
 obtain⟨h1,h2,h3⟩:=eW (f:=λs:ByteArray=>Value.string s) h.s hk y;have hg:=(aB.refl w).grownBy_set lb k (.string y);exact⟨h1,gU (v:=.slice (some ⟨lb,0,none⟩) n c) h.p hg h.ps.symm,gU (v:=.slice (some ⟨lb,0,none⟩) n c) h.d hg h.ds.symm,h3,h.pd,h.ps,h.ds,h.g.set (show w0.heap.size<=lb from h2) _⟩
end
theorem oU1 (n:Nat) (W:World) (h1:1<=n) (hn:n<=1048576):(Instr.makeSlice 109 (.int .i64 1) (.int .i64 n)).run Tryz.prog W=.ok (.slice (some ⟨W.heap.size,0,none⟩) 1 n) (W.alloc (.cells (madeCells #[.int .i64 0] (n*1)) 3)):=by
 obtain⟨i,h1,h2,h3,h4⟩:=xL0;have h:=run_make (P:=Tryz.prog) W 109 3 i (.int .i64 0) Tryz.underlying109 h1 h2 .i64 .i64 1 n (by omega) (by omega) (by rw[h4];omega) (by omega);rw[As,h3]at h;exact h
theorem eM1 {w:World} {n:Nat} (h1:1<=n) (hn:n<=1048576):aX (w.alloc (.cells (madeCells #[.int .i64 0] (n*1)) 3)) w.heap.size 3 1 lK (.slice (some ⟨w.heap.size,0,none⟩) 1 n) [0]:=by
 refine⟨rfl,Or.inr ⟨w.heap.size,n,madeCells #[.int .i64 0] (n*1),rfl,Ad _,?_,h1,by unfold maxLen;omega,by rw[size_madeCells],?_⟩⟩
 ·show (w.heap.push _)[w.heap.size]?=_
  simp
 ·rw[toList_madeCells_one,List.take_replicate,show min (([0]:List Nat).length*1) (n*1)=1 by simp;omega]
  rfl
theorem mB1:∃i,Tryz.prog.info? 9=some i/\i.zero=some (.string ⟨#[]⟩)/\i.size=1/\i.bytes=16:=by
 have h:(Tryz.prog.info? 9).map (λi=>(i.zero,i.size,i.bytes))=some (some (.string ⟨#[]⟩),1,16):=by kernel_rfl
 cases hi:Tryz.prog.info? 9 with
 | none=>rw[hi]at h;cases h
 | some i =>
  rw[hi]at h;simp only[Bc,Option.some.injEq,Prod.mk.injEq]at h;exact⟨i,rfl,h.1,h.2.1,h.2.2⟩
theorem qQ1 (n:Nat) (W:World) (hn:n<=1048576):(Instr.makeSlice 65 (.int .i64 n) (.int .i64 n)).run Tryz.prog W=.ok (.slice (some ⟨W.heap.size,0,none⟩) n n) (W.alloc (.cells (madeCells #[.string ⟨#[]⟩] (n*1)) 9)):=by
 obtain⟨i,h1,h2,h3,h4⟩:=mB1;have h:=run_make (P:=Tryz.prog) W 65 9 i (.string ⟨#[]⟩) Tryz.underlying65 h1 h2 .i64 .i64 n n (by omega) (Bf _) (by rw[h4];omega) (by omega);rw[As,h3]at h;exact h
theorem mI1 {w:World} {n:Nat} (hn:n<=1048576):aX (w.alloc (.cells (madeCells #[.string ⟨#[]⟩] (n*1)) 9)) w.heap.size 9 1 stC (.slice (some ⟨w.heap.size,0,none⟩) n n) (Ab n ⟨#[]⟩) :=
 jK (enc:=stC) (λ_=>rfl) (Ad _) (Ab n ⟨#[]⟩) (by
  rw[toList_madeCells_one,Am];unfold stC;rw[nJ,Ay]) (by simp) (by unfold maxLen;omega)
theorem oC1:∃i,Tryz.prog.info? 5=some i/\i.zero=some (.int .u8 0)/\i.size=1/\i.bytes=1:=by
 have h:(Tryz.prog.info? 5).map (λi=>(i.zero,i.size,i.bytes))=some (some (.int .u8 0),1,1):=by kernel_rfl
 cases hi:Tryz.prog.info? 5 with
 | none=>rw[hi]at h;cases h
 | some i =>
  rw[hi]at h;simp only[Bc,Option.some.injEq,Prod.mk.injEq]at h;exact⟨i,rfl,h.1,h.2.1,h.2.2⟩
theorem rD1 (n:Nat) (W:World) (hn:n<=1048576):(Instr.makeSlice 28 (.int .i64 n) (.int .i64 n)).run Tryz.prog W=.ok (.slice (some ⟨W.heap.size,0,none⟩) n n) (W.alloc (.cells (madeCells #[.int .u8 0] (n*1)) 5)):=by
 obtain⟨i,h1,h2,h3,h4⟩:=oC1;have h:=run_make (P:=Tryz.prog) W 28 5 i (.int .u8 0) Tryz.underlying28 h1 h2 .i64 .i64 n n (by omega) (Bf _) (by rw[h4];omega) (by omega);rw[As,h3]at h;exact h
theorem pN1 {w:World} {n:Nat} (hn:n<=1048576):aX (w.alloc (.cells (madeCells #[.int .u8 0] (n*1)) 5)) w.heap.size 5 1 aY (.slice (some ⟨w.heap.size,0,none⟩) n n) (Ab n 0) :=
 jK (enc:=aY) (λ_=>rfl) (Ad _) (Ab n 0) (by
  rw[toList_madeCells_one,Am];unfold aY;rw[nJ,Ay];rfl) (by simp) (by unfold maxLen;omega)
theorem OkL.ids_len {L:List (List UInt8)} (h:OkL L):(idsL L (nodesA L)).length=L.length:=by
 have hm:∀n∈idsL L (nodesA L),n<L.length:=λn hn=>by
  unfold idsL at hn;obtain⟨x,hx,rfl⟩:=List.mem_map.1 hn;have hh:=(List.mem_filter.1 hx).2;have hg:=mU h.asc (List.mem_filter.1 hx).1;unfold jB at hh;simp only[Bool.and_eq_true,decide_eq_true_eq]at hh
  have:=hg.le
  omega
 have hn:(idsL L (nodesA L)).Nodup:=by
  unfold idsL;rw[List.nodup_iff_pairwise_ne,List.pairwise_map]
  have hp:((nodesA L).filter (jB L)).Pairwise (λx y=>x∈nodesA L/\y∈nodesA L/\jB L x=true/\jB L y=true/\rD0 x y):=by
   have h1:=(jN h.asc).filter (jB L);refine List.Pairwise.imp_of_mem (λ{a b} ha hb gp=>?_) h1;exact⟨(List.mem_filter.1 ha).1,(List.mem_filter.1 hb).1,(List.mem_filter.1 ha).2,(List.mem_filter.1 hb).2,gp⟩
  refine hp.imp λ{x y} ⟨hx,hy,h1,h2,hb⟩ e=>?_;have gx:=mU h.asc hx;have gy:=mU h.asc hy;have a:=(qH h.asc gx h.pos x.i).2 ⟨h1,rfl⟩;have b:=(qH h.asc gy h.pos y.i).2 ⟨h2,rfl⟩;rw[e,b]at a
  have:=gy.inj h.asc gx (Option.some.inj a)
  subst this;rcases hb with hb|hb<;>omega
 have h1:=cG hn (l':=List.range L.length) λn hx=>List.mem_range.2 (hm n hx)
 have h2:=cG (List.nodup_range (n:=L.length)) (l':=idsL L (nodesA L)) λj hj=>by
  obtain⟨i,x,hx,hh,o7⟩:=h.node (List.mem_range.1 hj);unfold idsL;exact List.mem_map.2 ⟨x,List.mem_filter.2 ⟨Ae hx,hh⟩,o7⟩
 rw[List.length_range]at h1 h2;omega
end
section
open Go Go.RowKit Go.Shelf
attribute [local go_sem] aO aM
theorem hJ1 (L:List (List UInt8)) (sb ib pb:Nat) (la:Option Addr) (lc:Nat) (w:World) (ag:OkL L) (hl:L.length<=20000) (hc:eA L<=524287)
  (hs:kL w sb (shapeL L (nodesA L))) (hi:kL w ib (isL L (nodesA L))) (hd:nG w pb (idsL L (nodesA L))) (px:aG w la 1 ((labelsL L (nodesA L)).map aY)) :
  Calls Tryz.prog 151 #[.pointer (some ⟨sb,0,none⟩),.pointer (some ⟨ib,0,none⟩),.slice la (labelsL L (nodesA L)).length lc,.pointer (some ⟨pb,0,none⟩)] w λe w'=>∃v,e=.returned (.tuple #[v,.bool true])/\aX w' w.heap.size 9 1 stC v (L.map mkB)/\aB w w':=by
 obtain⟨z1,z2,z3,z4,z5⟩:=ag.sizes hl hc;have ul:(isL L (nodesA L)).length=(nodesA L).length:=by unfold isL;rw[Aj]
 have vr:(shapeL L (nodesA L)).length=2*(nodesA L).length+1:=by
  have h:=eY L (nodesA L).length (Ad _);rw[Bb,ag.off_all]at h;omega
 have jf:1<=(nodesA L).length:=(List.getElem?_eq_some_iff.1 ag.root0).1;have pz:(labelsL L (nodesA L)).length+1=(nodesA L).length:=by rw[ag.labels,Aj,List.length_drop];omega
 have hrk:eC (isL L (nodesA L)) (nodesA L).length=L.length:=by
  rw[gI0 L _ _ (Ad _),Bb,<-ag.ids_len];unfold idsL;rw[Aj]
 have jh:(nodesA L).length<=524287:=by rw[fH ag.asc ag.len];exact hc
 have me:∀m∈idsL L (nodesA L),m<18446744073709551616:=λm hm=>by have:=z5 m hm;omega
 obtain⟨n,hn⟩:=exq ((nodesA L).length);obtain⟨NL,hNL⟩:=exq L.length;obtain⟨M2,hM2⟩:=exq (2*n+1);obtain⟨LL,hLL⟩:=exq ((labelsL L (nodesA L)).length)
 have CIL:∀u,aB w u->Hid (Calls Tryz.prog 186 #[.pointer (some ⟨ib,0,none⟩)] u λe w'=>e=.returned (.int .i64 n)/\u=w'):=λu hu=>by
  have h:=sE _ ib u (hi.grows hu);rw[ul,<-hn]at h;exact h
 have CSL:∀u,aB w u->Hid (Calls Tryz.prog 186 #[.pointer (some ⟨sb,0,none⟩)] u λe w'=>e=.returned (.int .i64 M2)/\u=w'):=λu hu=>by
  have h:=sE _ sb u (hs.grows hu);rw[vr,<-hn,<-hM2]at h;exact h
 have CRK:∀u,aB w u->Hid (Calls Tryz.prog 123 #[.pointer (some ⟨ib,0,none⟩),.bool true,.int .i64 n] u λe w'=>e=.returned (.int .i64 NL)/\u=w'):=λu hu=>by
  have h:=qK (isL L (nodesA L)) ib true n u (by omega) (by omega) (hi.grows hu);rw[ul,<-hn,Nat.min_self,show jU (isL L (nodesA L)) true n=eC (isL L (nodesA L)) n from rfl,hn,hrk,<-hn,<-hNL]at h;exact h
 have CDL:∀u,aB w u->Hid (Calls Tryz.prog 152 #[.pointer (some ⟨pb,0,none⟩)] u λe w'=>e=.returned (.int .i64 NL)/\u=w'):=λu hu=>by
  have h:=jT _ pb u (hd.grows hu);rw[ag.ids_len,<-hNL]at h;exact h
 have CG:∀i u,aB w u->Hid (Calls Tryz.prog 213 #[.pointer (some ⟨sb,0,none⟩),.int .i64 (i:Nat)] u λe w'=>e=.returned (.bool (bitOf (shapeL L (nodesA L)) i))/\u=w'):=λi u hu=>gJ0 _ sb i u (by omega) (hs.grows hu)
 have CI:∀i x u,(nodesA L)[i]?=some x->aB w u->Hid (Calls Tryz.prog 213 #[.pointer (some ⟨ib,0,none⟩),.int .i64 (i:Nat)] u λe w'=>e=.returned (.bool (jB L x))/\u=w'):=λi x u hx hu=>by
  have h:=gJ0 _ ib i u (by omega) (hi.grows hu);rw[fF0 hx]at h;exact h
 have CP:∀k x u,(idsL L (nodesA L))[k]?=some x->aB w u->Hid (Calls Tryz.prog 153 #[.pointer (some ⟨pb,0,none⟩),.int .i64 (k:Nat)] u λe w'=>e=.returned (.tuple #[.int .u64 (x:Nat),.bool true])/\aB u w'):=λk x u hx hu=>sH _ pb k x u (hd.grows hu) (by omega) me hx;have C0:Hid (Calls Tryz.prog 213 #[.pointer (some ⟨sb,0,none⟩),.int .i64 0] w λe w'=>e=.returned (.bool true)/\w=w'):=(CG 0 w (aB.refl w)).out;have C1:Hid (Calls Tryz.prog 213 #[.pointer (some ⟨sb,0,none⟩),.int .i64 1] w λe w'=>e=.returned (.bool false)/\w=w'):=(CG 1 w (aB.refl w)).out;have HOK:=Aa ag;have HLAB:=Aa px;have HN:=Aa hn;have HNL:=Aa hNL;have HLL:=Aa hLL;have hLn:LL+1=n:=by omega
 have akf:n<=524287:=by omega
 have afm:1<=n:=by omega
 have akg:NL<=20000:=by omega
 have HCG:=Aa CG;have HCI:=Aa CI;have HCP:=Aa CP;have d1:¬(524287:Int)<n:=by omega
 have d2:IntKind.i64.wrap ((n:Int)*2)=((n:Int)*2):=by have:=rF (x:=n*2) (by omega);rw[Int.natCast_mul]at this;exact this
 have d3:((M2:Int) != 2*(n:Int)+1)=false:=by simp;omega
 have d4:IntKind.i64.wrap ((n:Int)-1)=LL:=by have:=rF (x:=LL) (by omega);rw[<-this];congr 1;omega
 have d6:((LL:Int) != LL)=false:=by simp
 have d7:((NL:Int) != NL)=false:=by simp
 have d5:¬(20000:Int)<NL:=by omega
 rw[<-hLL];clear ag px hn hNL hLL z1 z2 z3 z4 z5 ul vr jf pz hrk jh me hs hi hd CG CI CP hM2 hl hc;go_enter Tryz.func151,Tryz.ntmps151
 go_wp2_with fail
 refine(CIL w (aB.refl w)).out.mono ?_;rintro e w1 ⟨rfl,rfl⟩;go_wp2_with fail
 refine(CSL w (aB.refl w)).out.mono ?_;rintro e w2 ⟨rfl,rfl⟩;go_wp2_with fail
 refine(CRK w (aB.refl w)).out.mono ?_;rintro e w3 ⟨rfl,rfl⟩;go_wp2_with fail
 refine(CDL w (aB.refl w)).out.mono ?_;rintro e w4 ⟨rfl,rfl⟩;go_wp2_with fail
 refine(CDL w (aB.refl w)).out.mono ?_;rintro e w5 ⟨rfl,rfl⟩;go_wp2_with fail
 refine C0.out.mono ?_;rintro e w6 ⟨rfl,rfl⟩;go_wp2_with fail
 refine C1.out.mono ?_;rintro e w7 ⟨rfl,rfl⟩;clear C0 C1 CSL CIL CRK d1 d2 d3 d4 d5 d6 d7;go_wp2_with fail
 have l9:=λ(Y:World)=>oU1 n Y afm (by omega);refine pW0 (EB w.heap.size) (.quiet 0 (.quiet 2 (.alt (.late 1 (.quiet 4 (.late 3 (.quiet 5 .done)))) (.late 3 (.late 1 (.quiet 4 (.quiet 5 .done))))))) (λ(x:Nat×Nat)=>[(some 62,.int .i64 n),(some 63,.slice (some ⟨x.1,0,none⟩) 1 n),(some 64,.int .i64 n),(some 65,.slice (some ⟨x.2,0,none⟩) 1 n),(some 11,.slice (some ⟨x.1,0,none⟩) 1 n),(some 12,.slice (some ⟨x.2,0,none⟩) 1 n)]) (λ(x:Nat×Nat) w'=>GB w w' (.slice (some ⟨x.1,0,none⟩) 1 n) (.slice (some ⟨x.2,0,none⟩) 1 n) (.slice none 0 0) [0] [0] []) (EB.refl w.heap.size) (EB.trans w.heap.size) (by kernel_rfl) (by kernel_rfl) (λd _ _ _ _ h=>by cases d<;>exact h) ?_ ?_
 ·have lw:=aB.drew w
  have qo:w.heap.size<=w.drew.heap.size:=Ad _;generalize w.drew=Wd at *;have m1:=λ(Y:World)=>(eM1 (w:=Y) afm (by omega):aX _ _ _ _ _ _ _);simp only[Am]at m1;iterate 2 (refine jJ rfl (λK hK=>?_);go_simp;refine hK _ ?_;clear hK K)
  refine uH0 ?_ ?_
  ·refine dF rfl rfl (λK hK=>?_)
   go_simp;have o1:=m1 Wd;have g1:=aB.alloc Wd (.cells (madeCells #[.int .i64 0] n) 3);have s1:(Wd.alloc (.cells (madeCells #[.int .i64 0] n) 3)).heap.size=Wd.heap.size+1:=by simp
   refine⟨EB.of g1 qo,hK _ _ ?_⟩;clear hK K;generalize Wd.alloc (.cells (madeCells #[.int .i64 0] n) 3)=W1 at *;iterate 1 (refine jJ rfl (λK hK=>?_);go_simp;refine hK _ ?_;clear hK K)
   refine dF rfl rfl (λK hK=>?_);go_simp;have o2:=m1 W1;have g2:=aB.alloc W1 (.cells (madeCells #[.int .i64 0] n) 3);have dw:w.heap.size<=W1.heap.size:=by omega
   refine⟨EB.of g2 dw,hK _ _ ?_⟩;clear hK K;iterate 1 (refine jJ rfl (λK hK=>?_);go_simp;refine hK _ ?_;clear hK K)
   refine cK0 ?_
   exact⟨(Wd.heap.size,W1.heap.size),⟨(o1.grows g2).base qo,o2.base dw,aX.nil _ _ _ _ _,λq h1 h2=>by
    have a1:Wd.heap.size=q:=Option.some.inj h1;have a2:W1.heap.size=q:=Option.some.inj h2;omega,(pF.nil _ _ _).symm,(pF.nil _ _ _).symm,(lw.tr g1).tr g2⟩,by simp only[iM0,Al];go_simp⟩
  ·refine dF rfl rfl (λK hK=>?_)
   go_simp;have o1:=m1 Wd;have g1:=aB.alloc Wd (.cells (madeCells #[.int .i64 0] n) 3);have s1:(Wd.alloc (.cells (madeCells #[.int .i64 0] n) 3)).heap.size=Wd.heap.size+1:=by simp
   refine⟨EB.of g1 qo,hK _ _ ?_⟩;clear hK K;generalize Wd.alloc (.cells (madeCells #[.int .i64 0] n) 3)=W1 at *;refine dF rfl rfl (λK hK=>?_);go_simp;have o2:=m1 W1;have g2:=aB.alloc W1 (.cells (madeCells #[.int .i64 0] n) 3);have dw:w.heap.size<=W1.heap.size:=by omega
   refine⟨EB.of g2 dw,hK _ _ ?_⟩;clear hK K;iterate 2 (refine jJ rfl (λK hK=>?_);go_simp;refine hK _ ?_;clear hK K)
   refine cK0 ?_
   exact⟨(W1.heap.size,Wd.heap.size),⟨o2.base dw,(o1.grows g2).base qo,aX.nil _ _ _ _ _,λq h1 h2=>by
    have a1:W1.heap.size=q:=Option.some.inj h1;have a2:Wd.heap.size=q:=Option.some.inj h2;omega,(pF.nil _ _ _).symm,(pF.nil _ _ _).symm,(lw.tr g1).tr g2⟩,by simp only[iM0,Al];go_simp⟩
 ·clear l9
  rintro⟨b1,b2⟩ wA GA;simp only[iM0,Al];try simp only at GA
  have l9:=λ(Y:World)=>qQ1 NL Y (by omega);go_wp2_with fail
  refine(CDL wA GA.g).out.mono ?_;rintro e w8 ⟨rfl,rfl⟩;go_wp2_with fail
  obtain⟨lb,iz⟩:=exq wA.heap.size;obtain⟨WB,ni⟩:=exq (wA.alloc (.cells (madeCells #[.string ⟨#[]⟩] NL) 9));have jt:aB wA WB:=by rw[ni];exact aB.alloc _ _
  have hsO:aX WB w.heap.size 9 1 stC (.slice (some ⟨lb,0,none⟩) NL NL) (lN L 0):=by
   have h:=mI1 (w:=wA) (n:=NL) (by omega);rw[Am,<-ni,<-iz]at h;rw[uI0,<-HNL.out];exact h.base (by rw[iz];exact GA.g.size)
  have ae:∀q,(Value.slice (some ⟨b1,0,none⟩) 1 n).ownBlock=some q->q<lb:=λq h=>by rw[iz];exact gX GA.p q h
  have ay:∀q,(Value.slice (some ⟨b2,0,none⟩) 1 n).ownBlock=some q->q<lb:=λq h=>by rw[iz];exact gX GA.d q h
  have GS:Hid (GB w WB (.slice (some ⟨b1,0,none⟩) 1 n) (.slice (some ⟨b2,0,none⟩) 1 n) (.slice (some ⟨lb,0,none⟩) NL NL) (jI0 L (offA L 0)) (yE L (offA L 0)) (lN L 0)):=by
   rw[sZ,fH1,HOK.out.depT_one]
   exact⟨GA.p.grows jt,GA.d.grows jt,hsO,GA.pd,λq h1 h2=>by
    have a:=ae q h1;have b:lb=q:=Option.some.inj h2;omega,λq h1 h2=>by
    have a:=ay q h1;have b:lb=q:=Option.some.inj h2;omega,GA.g.tr jt⟩
  try rw[<-ni]
  try rw[<-iz]
  clear ni iz jt hsO ae ay GA l9 CDL;go_loopw [11,12,13,14,70] (λvP vD vA vK i wr=>∃I:Nat,I<=n/\i=.int .i64 I/\vA=.int .i64 (offA L I+I+1:Nat)/\vK=.int .i64 (eC (isL L (nodesA L)) I:Nat)/\Hid (GB w wr vP vD (.slice (some ⟨lb,0,none⟩) NL NL) (jI0 L (offA L I)) (yE L (offA L I)) (lN L I))) (λ_ _ _ _ i _=>n-(intOf i).toNat)
  case atStart=>exact⟨0,Au _,rfl,rfl,rfl,GS.out⟩
  case round =>
   clear GS;obtain⟨I,hI,rfl,rfl,rfl,HG⟩:=hrel;have va:=HOK.out.off_le I;obtain⟨O,hO⟩:=exq (offA L I);rw[<-hO]at HG va ⊢;obtain⟨aP,cP,hvP,_,_,_⟩:=HG.out.p.at_ (enc:=lK) (λ_=>rfl);rw[nO]at hvP;subst hvP;by_cases ae:I<n
   ·have hIi:(I:Int)<n:=by omega
    have hIO:(I:Int)<O:=by have:=HOK.out.off_gt (show I<(nodesA L).length by have:=HN.out;omega);omega
    obtain⟨x,hx⟩:∃x,(nodesA L)[I]?=some x:=⟨_,Ac (by have:=HN.out;omega)⟩;have HX:=Aa hx;have HO:=Aa hO;have hos:=mJ hx;have adb:=HOK.out.off_le (I+1);obtain⟨O2,tu⟩:=exq (offA L (I+1));rw[<-tu]at hos adb;have hOO:O<=O2:=by rw[hos,hO];omega
    have HO2:=Aa tu;obtain⟨dx,hdx⟩:=exq x.d;have HDX:=Aa hdx
    have ze:dx<=256:=by
     obtain⟨k,hk1,jp⟩:=List.mem_flatMap.1 (Ae hx);have h1:=((kY HOK.out.asc k).mem x jp).2.1;have h2:=List.mem_range.1 hk1;omega
    have hnN:=HN.out;have akh:O2<=524287:=by omega
    clear hx hO tu hdx hnN;go_wp2_with fail
    obtain⟨u0,rfl⟩:=exq wr;go_loopw [11,12,13] (λvP vD vA wx=>∃M:Nat,O<=M/\M<=O2/\vA=.int .i64 (M+I+1:Nat)/\Hid (GB w wx vP vD (.slice (some ⟨lb,0,none⟩) NL NL) (jI0 L M) (yE L M) (lN L I))) (λ_ _ vA _=>2000000-(intOf vA).toNat)
    case atStart=>exact⟨O,Ad _,hOO,rfl,HG.out⟩
    case round =>
     clear HG;obtain⟨M,ux,hM2,rfl,HGM⟩:=hrel;have CGM:=HCG.out (M+I+1) wr HGM.out.g;by_cases hM:M<O2
     ·have abz:M<offA L (I+1):=by have:=HO2.out;omega
      have hOM:offA L I<=M:=by have:=HO.out;omega
      rw[(iV0 HX.out hOM abz).1]at CGM;obtain⟨y,hy⟩:∃y,(nodesA L)[M]?=some y:=⟨_,Ac (by omega)⟩;have hyd:y.d=dx+1:=by rw[HDX.out];exact jH0 L x y (HOK.out.kid HX.out hOM abz hy)
      obtain⟨d1,ev⟩:=exq (dx+1);have HP1:Hid (jI0 L M++[I]=jI0 L (M+1)):=by show _=_;rw[zQ0,yR0 (by omega) hOM abz]
      have HD1:Hid (yE L M++[d1]=yE L (M+1)):=by show _=_;rw[lY0 hy,hyd,ev]
      have HDL:Hid ((yE L M).length=M):=rF0 (by omega);have hdp:(yE L M)[I]?=some dx:=by rw[fM0 (by omega) HX.out,HDX.out]
      obtain⟨qb,cQ,hvQ,_⟩:=fN0 HGM.out.d (by rw[HDL.out];omega);rw[HDL.out]at hvQ;subst hvQ;have hcd:wr.cell? ⟨qb,I,none⟩=some (.int .i64 dx):=dC (f:=λn:Nat=>Value.int .i64 n) HGM.out.d hdp
      have HFL:Hid (((yE L M).flatMap lK)[I]?=some (.int .i64 dx)):=by
       have h:=rC (enc:=lK) (k:=1) (λ_=>rfl) (yE L M) I 0 dx _ hdp rfl;rw[Am,Be]at h;exact h
      have hIM:(I:Int)<M:=by omega
      have wd1:IntKind.i64.wrap ((dx:Int)+1)=d1:=by have:=rF (x:=d1) (by omega);rw[<-this];congr 1;omega
      have HG0:=HGM.out.grows (aB.drew wr);obtain⟨aR,cR,hvR,_,_,_⟩:=HGM.out.p.at_ (enc:=lK) (λ_=>rfl);rw[nO]at hvR;subst hvR;have hnP:some qb≠(Value.slice aR M cR).ownBlock:=λh=>HGM.out.pd qb h.symm rfl;clear hyd ev hy hdp hOM abz;go_wp2_with fail
      refine CGM.out.mono ?_;rintro e w9 ⟨rfl,rfl⟩;clear CGM;go_wp2_with fail
      have z0:∀y:Ext (EK w.heap.size ⟨qb,I,none⟩ (.int .i64 dx)) wr.drew,y.u.cell? ⟨qb,I,none⟩=some (.int .i64 dx):=zN0 ((aB.drew wr).cell hcd);refine pW0 (EK w.heap.size ⟨qb,I,none⟩ (.int .i64 dx)) (.quiet 0 (.quiet 1 (.quiet 4 (.quiet 5 (.quiet 6 (.quiet 7 (.quiet 8 (.quiet 9 (.alt (.late 2 (.alt (.late 3 (.late 10 (.late 11 (.quiet 12 (.quiet 13 .done))))) (.late 10 (.late 3 (.late 11 (.quiet 12 (.quiet 13 .done))))))) (.late 10 (.late 2 (.late 3 (.late 11 (.quiet 12 (.quiet 13 .done))))))))))))))) (λ(x:Value×Value×Nat×Nat)=>[(some 82,.slice aR M cR),(some 83,.int .i64 I),(some 84,.slice (some ⟨x.2.2.1,0,none⟩) 1 1),(some 85,x.1),(some 86,.slice (some ⟨qb,0,none⟩) M cQ),(some 87,.slice (some ⟨qb,0,none⟩) M cQ),(some 88,.int .i64 I),(some 89,.pointer (some ⟨qb,I,none⟩)),(some 90,.int .i64 dx),(some 91,.int .i64 d1),(some 92,.slice (some ⟨x.2.2.2,0,none⟩) 1 1),(some 93,x.2.1),(some 11,x.1),(some 12,x.2.1)]) (λ(x:Value×Value×Nat×Nat) w'=>GB w w' x.1 x.2.1 (.slice (some ⟨lb,0,none⟩) NL NL) (jI0 L (M+1)) (yE L (M+1)) (lN L I)) (EK.refl w.heap.size ⟨qb,I,none⟩ (.int .i64 dx)) (EK.trans w.heap.size ⟨qb,I,none⟩ (.int .i64 dx)) (by kernel_rfl) (by kernel_rfl) (λd _ _ _ _ h=>by cases d<;>exact h) ?_ ?_
      ·clear HGM hcd
       generalize wr.drew=Wd at *;iterate 8 (refine jJ rfl (λK hK=>?_);go_simp;refine hK _ ?_;clear hK K)
       clear z0;have G0:=HG0;clear HG0;refine uH0 ?_ ?_
       ·refine dF rfl rfl (λK hK=>?_)
        go_simp;have cA:=oA1 Wd (.int .i64 (I:Nat)) 3;have g1:=aB.alloc Wd (.cells #[.int .i64 (I:Nat)] 3);have nPA:=G0.newP;have nDA:=G0.newD;have G1:=G0.grows g1;have e1:EK w.heap.size ⟨qb,I,none⟩ (.int .i64 dx) _ _:=⟨EB.of g1 G0.g.size,λh=>g1.cell h⟩;generalize Wd.alloc (.cells #[.int .i64 (I:Nat)] 3)=u1 at *;obtain⟨bA,hbA⟩:∃b,b=Wd.heap.size:=⟨_,rfl⟩;rw[<-hbA]at cA nPA nDA ⊢;clear hbA;refine⟨e1,hK _ _ ?_⟩;clear hK K e1 g1;refine uH0 ?_ ?_
        ·refine dF rfl rfl (λK hK=>?_)
         refine kT tJ _ _ rfl w.heap.size _ _ I rfl G1.p bA 1 rfl (nW1 cA) (by rw[nO];omega) G1.g.size ?_;intro v1 u2 ho2 jp hf2;have e2:EK w.heap.size ⟨qb,I,none⟩ (.int .i64 dx) _ _:=⟨G1.ebP jp,λh=>jp.cell h hnP⟩;have G2:=G1.appP ho2 jp hf2;refine⟨e2,hK _ _ ?_⟩;clear hK K e2 ho2 jp hf2;refine dF rfl rfl (λK hK=>?_);go_simp;have cC:=oA1 u2 (.int .i64 (d1:Nat)) 3;have g3:=aB.alloc u2 (.cells #[.int .i64 (d1:Nat)] 3);have nPC:=G2.newP;have nDC:=G2.newD;have G3:=G2.grows g3;have e3:EK w.heap.size ⟨qb,I,none⟩ (.int .i64 dx) _ _:=⟨EB.of g3 G2.g.size,λh=>g3.cell h⟩;generalize u2.alloc (.cells #[.int .i64 (d1:Nat)] 3)=u3 at *;obtain⟨bC,hbC⟩:∃b,b=u2.heap.size:=⟨_,rfl⟩;rw[<-hbC]at cC nPC nDC ⊢;clear hbC;refine⟨e3,hK _ _ ?_⟩;clear hK K e3 g3;refine dF rfl rfl (λK hK=>?_);refine zY tJ _ _ rfl w.heap.size qb cQ (yE L M) d1 (by rw[HDL.out];rfl) (by rw[HDL.out];exact G3.d) bC 1 rfl (nW1 cC) (by rw[HDL.out];omega) G3.g.size ?_;intro v2 u4 ho4 vc zk hx4;rw[HDL.out]at zk;have e4:EK w.heap.size ⟨qb,I,none⟩ (.int .i64 dx) _ _:=⟨G3.ebD vc,λ_=>hx4 I _ HFL.out⟩;clear hx4;have G4:=G3.appD ho4 vc zk;refine⟨e4,hK _ _ ?_⟩;clear hK K e4 ho4 vc zk;iterate 2 (refine jJ rfl (λK hK=>?_);go_simp;refine hK _ ?_;clear hK K)
         refine cK0 ?_;rw[HP1.out,HD1.out]at G4;exact⟨(v1,v2,bA,bC),G4,by simp only[iM0,Al];go_simp⟩
        ·refine dF rfl rfl (λK hK=>?_)
         go_simp;have cC:=oA1 u1 (.int .i64 (d1:Nat)) 3;have g2:=aB.alloc u1 (.cells #[.int .i64 (d1:Nat)] 3);have nPC:=G1.newP;have nDC:=G1.newD;have G2:=G1.grows g2;have e2:EK w.heap.size ⟨qb,I,none⟩ (.int .i64 dx) _ _:=⟨EB.of g2 G1.g.size,λh=>g2.cell h⟩;replace cA:=g2.cell cA;generalize u1.alloc (.cells #[.int .i64 (d1:Nat)] 3)=u2 at *;obtain⟨bC,hbC⟩:∃b,b=u1.heap.size:=⟨_,rfl⟩;rw[<-hbC]at cC nPC nDC ⊢;clear hbC;refine⟨e2,hK _ _ ?_⟩;clear hK K e2 g2;refine dF rfl rfl (λK hK=>?_);refine kT tJ _ _ rfl w.heap.size _ _ I rfl G2.p bA 1 rfl (nW1 cA) (by rw[nO];omega) G2.g.size ?_;intro v1 u3 ho3 il hf3;have e3:EK w.heap.size ⟨qb,I,none⟩ (.int .i64 dx) _ _:=⟨G2.ebP il,λh=>il.cell h hnP⟩;replace cC:=il.cell cC nPC;have G3:=G2.appP ho3 il hf3;refine⟨e3,hK _ _ ?_⟩;clear hK K e3 ho3 il hf3;refine dF rfl rfl (λK hK=>?_);refine zY tJ _ _ rfl w.heap.size qb cQ (yE L M) d1 (by rw[HDL.out];rfl) (by rw[HDL.out];exact G3.d) bC 1 rfl (nW1 cC) (by rw[HDL.out];omega) G3.g.size ?_;intro v2 u4 ho4 vc zk hx4;rw[HDL.out]at zk;have e4:EK w.heap.size ⟨qb,I,none⟩ (.int .i64 dx) _ _:=⟨G3.ebD vc,λ_=>hx4 I _ HFL.out⟩;clear hx4;have G4:=G3.appD ho4 vc zk;refine⟨e4,hK _ _ ?_⟩;clear hK K e4 ho4 vc zk;iterate 2 (refine jJ rfl (λK hK=>?_);go_simp;refine hK _ ?_;clear hK K)
         refine cK0 ?_;rw[HP1.out,HD1.out]at G4;exact⟨(v1,v2,bA,bC),G4,by simp only[iM0,Al];go_simp⟩
       ·refine dF rfl rfl (λK hK=>?_)
        go_simp;have cC:=oA1 Wd (.int .i64 (d1:Nat)) 3;have g1:=aB.alloc Wd (.cells #[.int .i64 (d1:Nat)] 3);have nPC:=G0.newP;have nDC:=G0.newD;have G1:=G0.grows g1;have e1:EK w.heap.size ⟨qb,I,none⟩ (.int .i64 dx) _ _:=⟨EB.of g1 G0.g.size,λh=>g1.cell h⟩;generalize Wd.alloc (.cells #[.int .i64 (d1:Nat)] 3)=u1 at *;obtain⟨bC,hbC⟩:∃b,b=Wd.heap.size:=⟨_,rfl⟩;rw[<-hbC]at cC nPC nDC ⊢;clear hbC;refine⟨e1,hK _ _ ?_⟩;clear hK K e1 g1;refine dF rfl rfl (λK hK=>?_);go_simp;have cA:=oA1 u1 (.int .i64 (I:Nat)) 3;have g2:=aB.alloc u1 (.cells #[.int .i64 (I:Nat)] 3);have nPA:=G1.newP;have nDA:=G1.newD;have G2:=G1.grows g2;have e2:EK w.heap.size ⟨qb,I,none⟩ (.int .i64 dx) _ _:=⟨EB.of g2 G1.g.size,λh=>g2.cell h⟩;replace cC:=g2.cell cC;generalize u1.alloc (.cells #[.int .i64 (I:Nat)] 3)=u2 at *;obtain⟨bA,hbA⟩:∃b,b=u1.heap.size:=⟨_,rfl⟩;rw[<-hbA]at cA nPA nDA ⊢;clear hbA;refine⟨e2,hK _ _ ?_⟩;clear hK K e2 g2;refine dF rfl rfl (λK hK=>?_);refine kT tJ _ _ rfl w.heap.size _ _ I rfl G2.p bA 1 rfl (nW1 cA) (by rw[nO];omega) G2.g.size ?_;intro v1 u3 ho3 il hf3;have e3:EK w.heap.size ⟨qb,I,none⟩ (.int .i64 dx) _ _:=⟨G2.ebP il,λh=>il.cell h hnP⟩;replace cC:=il.cell cC nPC;have G3:=G2.appP ho3 il hf3;refine⟨e3,hK _ _ ?_⟩;clear hK K e3 ho3 il hf3;refine dF rfl rfl (λK hK=>?_);refine zY tJ _ _ rfl w.heap.size qb cQ (yE L M) d1 (by rw[HDL.out];rfl) (by rw[HDL.out];exact G3.d) bC 1 rfl (nW1 cC) (by rw[HDL.out];omega) G3.g.size ?_;intro v2 u4 ho4 vc zk hx4;rw[HDL.out]at zk;have e4:EK w.heap.size ⟨qb,I,none⟩ (.int .i64 dx) _ _:=⟨G3.ebD vc,λ_=>hx4 I _ HFL.out⟩;clear hx4;have G4:=G3.appD ho4 vc zk;refine⟨e4,hK _ _ ?_⟩;clear hK K e4 ho4 vc zk;iterate 2 (refine jJ rfl (λK hK=>?_);go_simp;refine hK _ ?_;clear hK K)
        refine cK0 ?_;rw[HP1.out,HD1.out]at G4;exact⟨(v1,v2,bA,bC),G4,by simp only[iM0,Al];go_simp⟩
      ·rintro⟨v1,v2,b3,b4⟩ wC GC
       simp only[iM0,Al];try simp only at GC
       clear z0 HG0 HGM hcd;go_wp2_with fail
       go_roundw
       case rel=>exact⟨M+1,by omega,by omega,by go_num,GC⟩
       case measure=>simp[intOf];omega
     ·obtain rfl:M=O2:=by omega
      have hz:bitOf (shapeL L (nodesA L)) (M+I+1)=false:=by
       rw[show M+I+1=offA L (I+1)+(I+1) by have:=HO2.out;omega]
       exact(uP (L:=L) (i:=I+1) (by have:=HN.out;omega)).1
      rw[hz]at CGM;have CIx:=HCI.out I x wr HX.out HGM.out.g;have hrk:eC (isL L (nodesA L)) (I+1)=eC (isL L (nodesA L)) I+(if jB L x=true then 1 else 0):=by rw[gN,fF0 HX.out]
      have hrl:eC (isL L (nodesA L)) I<=I:=oB _ _;have adc:=λ(hh:jB L x=true)=>rL0 HX.out hh;obtain⟨K,hK⟩:=exq (eC (isL L (nodesA L)) I);rw[<-hK]at hrk hrl adc ⊢;have HRK:=Aa hrk;have HIDR:=Aa adc;have HAT:Hid ((M+I+1+1:Nat)=offA L (I+1)+(I+1)+1):=by show _=_;have:=HO2.out;omega
      have HMN:Hid (M<=(nodesA L).length):=adb;clear hz hrk adc hK hos adb hOO hM2 hM;go_wp2_with fail
      refine CGM.out.mono ?_;rintro e w9 ⟨rfl,rfl⟩;clear CGM;go_wp2_with fail
      refine CIx.out.mono ?_;rintro e w10 ⟨rfl,rfl⟩;clear CIx
      cases hh:jB L x with
      | false =>
       have HH:=Aa hh;clear hh;go_wp2_with fail
       go_roundw
       case rel=>exact⟨I+1,ae,by go_num,by rw[<-HAT.out];go_num,by rw[HRK.out,HH.out];go_num,by have h:=HGM.out;rw[HO2.out]at h;rw[HOK.out.strTo_no HX.out HH.out];exact h⟩
       case measure=>simp[intOf];omega
      | true =>
       have HH:=Aa hh;clear hh;have hid:=HIDR.out HH.out;have CPx:=HCP.out K x.i wr hid HGM.out.g;have hLx:L[x.i]?=some (spanS L x):=(HOK.out.here_at HX.out x.i).2 ⟨HH.out,rfl⟩;have o7:x.i<NL:=by rw[HNL.out];exact(List.getElem?_eq_some_iff.1 hLx).1
       obtain⟨X0,hX0⟩:=exq x.i;rw[<-hX0]at CPx o7;have HX0:=Aa hX0;have hxn:¬(NL:Int)<=X0:=by omega
       have aki:(X0:Int)<NL:=by omega
       have uNL:IntKind.u64.wrap (NL:Int)=NL:=by simp[Az,Ba,Aw];omega
       have wX0:IntKind.i64.wrap (X0:Int)=X0:=rF (by omega);have hd6:¬(256:Int)<dx:=by omega
       have l9:=λ(Y:World)=>rD1 dx Y (by omega);clear hid hLx hX0;go_wp2_with fail
       refine CPx.out.mono ?_;rintro e zm ⟨rfl,ade⟩;have HG11:=Aa (HGM.out.grows ade);clear CPx;have hdp:(yE L M)[I]?=some dx:=by rw[fM0 (by omega) HX.out,HDX.out]
       have HDL:Hid ((yE L M).length=M):=rF0 HMN.out;obtain⟨qb,cQ,hvQ,_⟩:=fN0 HG11.out.d (by rw[HDL.out];omega);rw[HDL.out]at hvQ;subst hvQ;have hcd:zm.cell? ⟨qb,I,none⟩=some (.int .i64 dx):=dC (f:=λn:Nat=>Value.int .i64 n) HG11.out.d hdp;obtain⟨ab,cP2,hvP,_⟩:=fN0 HG11.out.p (by rw[nO];omega);rw[nO]at hvP;subst hvP;have hIM:(I:Int)<M:=by omega
       clear hdp;go_wp2_with fail
       obtain⟨bb,qq⟩:=exq zm.heap.size;obtain⟨WU,hWU⟩:=exq (zm.alloc (.cells (madeCells #[.int .u8 0] dx) 5));have hgU:aB zm WU:=by rw[hWU];exact aB.alloc _ _
       have hbO:aX WU bb 5 1 aY (.slice (some ⟨bb,0,none⟩) dx dx) (Ab dx 0):=by
        have h:=pN1 (w:=zm) (n:=dx) (by omega);rw[Am,<-hWU,<-qq]at h;exact h
       rw[<-hWU,<-qq];have hz1:decide (NL<=X0)=false:=by simp;omega
       have oz:decide ((NL:Int)<=X0)=false:=by simp;omega
       have hz3:decide ((256:Int)<dx)=false:=by simp;omega
       try rw[hz1]
       try rw[oz]
       try rw[hz3]
       try rw[show (false||false)=false from rfl]
       clear hz1 oz hz3;have HBB:Hid (zm.heap.size<=bb):=Nat.le_of_eq qq.symm;have HAB:Hid (ab<zm.heap.size):=gX HG11.out.p ab rfl;clear hWU qq hcd l9 HGM;obtain⟨u1,rfl⟩:=exq wr;go_loopw [20] (λvX wx=>∃(X:Nat) (y:dP) (tl:List UInt8),vX=.int .i64 X/\X<=I/\Hid ((nodesA L)[X]?=some y/\spanS L y++tl=spanS L x)/\Hid (aX wx bb 5 1 aY (.slice (some ⟨bb,0,none⟩) dx dx) (Ab y.d 0++tl))/\Hid (aB zm wx)) (λvX _=>(intOf vX).toNat)
       case atStart=>exact⟨I,x,[],rfl,Ad _,⟨HX.out,An _⟩,by rw[An,<-HDX.out];exact hbO,hgU⟩
       case round =>
        clear hbO hgU;obtain⟨X,y,tl,rfl,hXI,hN,hB,hG⟩:=hrel;have HGX:=Aa (HG11.out.grows hG.out);by_cases hX:0<X
        ·obtain⟨z,c,hz,hpX,hc,hs,hd⟩:=HOK.out.climb hX hN.out.1
         have akj:(0:Int)<X:=by omega
         obtain⟨X1,hX1⟩:=exq (X-1);rw[<-hX1]at hc;have aig:X1<LL:=by rw[HLL.out];exact(List.getElem?_eq_some_iff.1 hc).1
         have hXl:(X:Int)<=LL:=by omega
         have akk:(X1:Int)<LL:=by omega
         obtain⟨lb2,lo,rfl,ci⟩:=at1 (f:=λb:UInt8=>Value.int .u8 b.toNat) (HLAB.out.grows HGX.out.g) (Ah (Ae hc));have rp:=ci X1 c hc;obtain⟨dy,hdy⟩:=exq y.d;obtain⟨pX,hpx⟩:=exq (dT1 L X);have hdX:wr.cell? ⟨qb,X,none⟩=some (.int .i64 dy):=dC (f:=λn:Nat=>Value.int .i64 n) HGX.out.d (by rw[fM0 (show X<M by omega) hN.out.1,hdy])
         have hpc:wr.cell? ⟨ab,X,none⟩=some (.int .i64 pX):=dC (f:=λn:Nat=>Value.int .i64 n) HGX.out.p (by rw[fN1 (show X<M by omega),hpx])
         have hXM:(X:Int)<M:=by omega
         obtain⟨d2,ij⟩:=exq z.d;have hdd:dy=d2+1:=by rw[hdy,hd,ij]
         have wX1:IntKind.i64.wrap ((X:Int)-1)=X1:=by have:=rF (x:=X1) (by omega);rw[<-this];congr 1;omega
         have hrl:(Ab y.d (0:UInt8)++tl).length=dx:=by
          obtain⟨_,_,he,_⟩:=hB.out.at_ bJ.len;injection he with _ h2 _
          exact h2.symm
         have jn:y.d<=dx:=by rw[<-hrl,Ai,Ak];omega
         have wd2:IntKind.i64.wrap ((dy:Int)-1)=d2:=by have:=rF (x:=d2) (by omega);rw[<-this];congr 1;omega
         have akl:(d2:Int)<dx:=by omega
         have k7:=hB.out.grows (aB.drew wr);have fg:wr.drew.cell? ⟨bb,d2,none⟩=some (.int .u8 ((0:UInt8).toNat:Nat)):=dC (f:=λb:UInt8=>Value.int .u8 b.toNat) k7 (by rw[List.getElem?_append_left (by rw[Ak];omega),List.getElem?_replicate,if_pos (by omega)]);obtain⟨hfr,_,eu⟩:=eW (f:=λb:UInt8=>Value.int .u8 b.toNat) k7 (k:=d2) (by rw[hrl];omega) c
         have HSET:Hid (aX (wr.drew.setCell ⟨bb,d2,none⟩ (.int .u8 (c.toNat:Nat))) bb 5 1 aY (.slice (some ⟨bb,0,none⟩) dx dx) (Ab z.d 0++(c::tl))):=by
          have e:(Ab y.d (0:UInt8)++tl).set d2 c=Ab z.d 0++(c::tl):=by rw[hd,ij];exact bR1
          rw[e]at eu;exact eu
         have aih:(wr.setCell ⟨bb,d2,none⟩ (.int .u8 (c.toNat:Nat))).cell? ⟨ab,X,none⟩=some (.int .i64 pX):=(World.cell?_setCell_other _ _ _ _ (λh=>by have h1:=congrArg Addr.block h;simp only at h1;have h2:=HAB.out;have h3:=HBB.out;omega)).trans hpc;have HN2:Hid ((nodesA L)[pX]?=some z/\spanS L z++(c::tl)=spanS L x):=⟨by rw[hpx];exact hz,by rw[<-hN.out.2,hs];simp⟩;have akm:pX<X:=by rw[hpx];exact hpX
         have HG2:Hid (aB zm (wr.drew.setCell ⟨bb,d2,none⟩ (.int .u8 (c.toNat:Nat)))):=hG.out.dr.set HBB.out _;have z0:∀q:Ext aB wr.drew,q.u.cell? ⟨qb,X,none⟩=some (.int .i64 dy):=aF ((aB.drew wr).cell hdX);have z1:∀q:Ext aB wr.drew,q.u.cell? ⟨lb2,lo+X1,none⟩=some (.int .u8 (c.toNat:Nat)):=aF ((aB.drew wr).cell rp);obtain⟨cc,afn⟩:∃q:Nat,q=c.toNat:=⟨_,rfl⟩;rw[<-afn]at z1 HG2 aih HSET;clear hz hpX hc hs hd hX1 ci rp hdy hpx hdX hpc ij hdd hrl jn k7 eu hN hB hG aig afn;go_wp2_with fail
         refine lC 12 (bB 12 []) (by kernel_rfl) (λd _ _ _ _ h=>by cases d<;>exact h) ?_
         iterate 12 (refine aH rfl (λK hK=>?_);go_simp;refine hK _ ?_;clear hK K)
         refine cB ?_;simp only[Ap,Av];clear z0 z1;go_wp2_with fail
         go_roundw
         case rel=>exact⟨pX,z,c::tl,by go_num,by omega,HN2.out,HSET.out,HG2.out⟩
         case measure=>simp[intOf];omega
        ·obtain rfl:X=0:=by omega
         have hy:y=rootS L:=by
          have h1:=hN.out.1;rw[HOK.out.root0]at h1;exact(Option.some.inj h1).symm
         have cd:Ab y.d (0:UInt8)++tl=spanS L x:=by
          rw[<-hN.out.2,hy];simp[spanS,rootS]
         have ju:=hB.out;rw[cd]at ju;have aax:=bZ0 ju;have im:X0<(lN L I).length:=by rw[sN,<-HNL.out];exact o7
         obtain⟨s0,lg⟩:∃s0,(lN L I)[X0]?=some s0:=⟨_,Ac im⟩;have hsc:wr.cell? ⟨lb,X0,none⟩=some (.string s0):=dC (f:=λs:ByteArray=>Value.string s) HGX.out.s lg;obtain⟨hfr,hGS⟩:=HGX.out.setS im (mkB (spanS L x));have e1:jI0 L M=jI0 L (offA L (I+1)):=by rw[<-HO2.out]
         have e2:yE L M=yE L (offA L (I+1)):=by rw[<-HO2.out]
         have e3:(lN L I).set X0 (mkB (spanS L x))=lN L (I+1):=by rw[HX0.out];exact(HOK.out.strTo_yes HX.out HH.out).symm
         rw[e1,e2,e3]at hGS;clear e1 e2 e3;have HGS:=Aa hGS;generalize mkB (spanS L x)=sx at aax HGS;clear hGS lg im ju cd hy hN hB hG;go_wp2_with fail
         go_roundw
         case rel=>exact⟨I+1,ae,by go_num,by rw[<-HAT.out];go_num,by rw[HRK.out,HH.out];go_num,HGS.out⟩
         case measure=>simp[intOf];omega
   ·obtain rfl:I=n:=by omega
    have hS:=HG.out.s;rw[HOK.out.strTo_all (m:=I) (by have:=HN.out;omega)]at hS;have hG:=HG.out.g;clear HG;go_wp2
    go_ret2;exact⟨_,rfl,hS,hG⟩
end
end Go.Proofs.YthgklnohcmaopaaGreatDoor
