/- The texts Lb2 Lb5 GroM, one behind the other. -/
import Derived.Test.YtheiocndipepaaaGreatDoorKq38
import Derived.Test.YtheiocndipepaaaGreatDoorKq36
import Derived.Test.YtheiocndipepaaaGreatDoorKq20
import Derived.Test.YtheiocndipepaaaGreatDoorKq26
import Derived.Test.YtheiocndipepaaaGreatDoorKq11
import Derived.Test.YtheiocndipepaaaGreatDoorKq23
open Go.Lib renaming hid → Aa
open List renaming replicate → Ab,mem_of_getElem? → Af,getElem?_eq_getElem → Ag,ne_nil_of_mem → Ah,length_append → Ai,map_append → Aj,append_assoc → Al,length_map → Ao,length_replicate → Ap,drop_succ_cons → Aq,map_replicate → As,drop_zero → Au
open Go.World renaming grownBy_alloc → Ac,size_alloc → An
open Nat renaming le_refl → Ad,le_trans → Ae,lt_of_lt_of_le → Ak,lt_irrefl → Ar,lt_or_ge → Av,zero_le → Aw,mul_one → Ay
open Int renaming toNat_natCast → Am,le_refl → Ax
open Option renaming map_some → At
set_option maxHeartbeats 4000000
namespace Go.Proofs.YtheiocndipepaaaGreatDoor
set_option maxRecDepth 100000
section
open Go Go.RowKit Go.Shelf
attribute [local go_sem] aM aK Oper.semAt_some
theorem gO1 (x:dK) (a:Option Addr) (m c:Nat) (w:World) :
  Calls Tryz.prog 85 #[jL0 x,.slice a m c] w λe w'=>e=.returned (.func (.func 138) #[] #[.pointer (some ⟨w.heap.size,0,none⟩),.pointer (some ⟨w.heap.size+1,0,none⟩)]) /\
   w'=(w.alloc (.cells #[.int .i64 x.i,.int .i64 x.t,.int .i64 x.d] 139)).alloc (.cells #[.slice a m c] 70):=by
 unfold jL0;have hmf:∀(fn:Fn) (first cap:Array Value) (w:World),(Instr.makeFunc fn first cap).run Tryz.prog w=.ok (.func fn first cap) w:=λ_ _ _ _=>rfl
 go_enter Tryz.func85,Tryz.ntmps85
 go_wp2_with fail
 go_ret;exact⟨rfl,rfl⟩
def lbD (L:List (List UInt8)) (i:Nat) (vS vA vL vI vD:Value) (nd:List Nat):BD :=
 { vS:=vS,vA:=vA,vL:=vL,vI:=vI,vD:=vD,sh:=shapeL L ((nodesA L).take i),al:=fD (rootS L) (fQ L) (nodesA L) i,lab:=labelsL L ((nodesA L).take i),isl:=isL L ((nodesA L).take i),idl:=idsL L ((nodesA L).take i),nd:=nd }
def lbK (L:List (List UInt8)) (i:Nat) (x:dK) (ys:List dK) (vS vA vL vI vD:Value):BD :=
 { vS:=vS,vA:=vA,vL:=vL,vI:=vI,vD:=vD,sh:=shapeL L ((nodesA L).take i)++Ab ys.length true,al:=fD (rootS L) (fQ L) (nodesA L) i++ys,lab:=labelsL L ((nodesA L).take i)++ys.map (qB L x),isl:=isL L ((nodesA L).take i),idl:=idsL L ((nodesA L).take i),nd:=vJ L i }
structure LbU where
 (u7 u8 u10 u11 u12 u13 u29 u30 u31 u32 u33 u34 u35 u36 u37 u38 u39 u40 u41 u42 u43 u44 u45 u46 u47 u48 u49 u50 u51 u52 u53 u54 u55 u56 u57 u58 u59 u60 u61 u62 u63 u64 u65 u66 u67 u68 u69 u70 u71 u72 u73 u74 u75 u76 u77 u78 u79 u80 u81 u82 u83 u84 u85 u86 u87 u88 u89 u90 u91 u92 u93 u94 u95 u96 u97 u98 u99 u100 u101 u102 u103 u104 u105 u106 u107:Value)
def aC0 (B:List ByteArray) (a:Option Addr) (c s b2 b3 b4 b5 b6 b7 b8:Nat) (ds:List Nat) (U:LbU):Act :=
 { tmps:=#[.slice a B.length c,.pointer (some ⟨s,0,none⟩),.pointer none,.int .i64 0,.int .i64 0,.pointer (some ⟨b4,0,none⟩),.pointer (some ⟨b6,0,none⟩),U.u7,U.u8,.pointer (some ⟨b8,0,none⟩),U.u10,U.u11,U.u12,U.u13,.slice a B.length c,.int .i64 0,.int .i64 0,.bool false,undef,.slice a B.length c,.int .i64 B.length,.slice (some ⟨b2,0,none⟩) B.length B.length,.agg #[.pointer none,.pointer none,.slice none 0 0,.pointer none,.slice (some ⟨b2,0,none⟩) B.length B.length],.pointer (some ⟨b3,0,none⟩),.slice (some ⟨b5,0,none⟩) 2 2,.slice a B.length c,.int .i64 B.length,.agg #[.int .i64 0,.int .i64 B.length,.int .i64 0],.slice (some ⟨b7,0,none⟩) 1 1,U.u29,U.u30,U.u31,U.u32,U.u33,U.u34,U.u35,U.u36,U.u37,U.u38,U.u39,U.u40,U.u41,U.u42,U.u43,U.u44,U.u45,U.u46,U.u47,U.u48,U.u49,U.u50,U.u51,U.u52,U.u53,U.u54,U.u55,U.u56,U.u57,U.u58,U.u59,U.u60,U.u61,U.u62,U.u63,U.u64,U.u65,U.u66,U.u67,U.u68,U.u69,U.u70,U.u71,U.u72,U.u73,U.u74,U.u75,U.u76,U.u77,U.u78,U.u79,U.u80,U.u81,U.u82,U.u83,U.u84,U.u85,U.u86,U.u87,U.u88,U.u89,U.u90,U.u91,U.u92,U.u93,U.u94,U.u95,U.u96,U.u97,U.u98,U.u99,U.u100,U.u101,U.u102,U.u103,U.u104,U.u105,U.u106,U.u107,undef,undef,undef,undef,undef,undef,undef,undef,undef,undef,undef,undef,undef,undef,undef,undef,undef,undef,undef,undef,undef,undef,undef,undef,undef],defers:=cT1 ds }
theorem kN0 {L:List (List UInt8)} {i:Nat} {x:dK} (ah:OkL L) (hx:(nodesA L)[i]?=some x) (hh:iP L x=false) (vS0 vI0 vS vA vL vI vD:Value) :
  ({ ({ (lbK L i x (fQ L x) vS0 vA vL vI0 vD) with vS:=vS,sh:=(shapeL L ((nodesA L).take i)++Ab (fQ L x).length true)++[false] }:BD) with vI:=vI,isl:=isL L ((nodesA L).take i)++[false] }:BD)=lbD L (i+1) vS vA vL vI vD (vJ L (i+1)):=by
 have e:=bN hx;unfold lbK lbD;rw[e,oE,rR0,yF,lK0,qV hx,ah.ndTo_succ hx,if_neg (by rw[hh];decide),if_neg (by rw[hh];decide),hh,List.append_nil]
theorem hC1 {L:List (List UInt8)} {i:Nat} {x:dK} (ah:OkL L) (hx:(nodesA L)[i]?=some x) (hh:iP L x=true) (vS0 vI0 vD0 vS vA vL vI vD:Value) :
  ({ ({ ({ ({ (lbK L i x (fQ L x) vS0 vA vL vI0 vD0) with vS:=vS,sh:=(shapeL L ((nodesA L).take i)++Ab (fQ L x).length true)++[false] }:BD) with vI:=vI,isl:=isL L ((nodesA L).take i)++[true] }:BD) with nd:=(vJ L i).set x.i i }:BD) with vD:=vD,idl:=idsL L ((nodesA L).take i)++[x.i] }:BD)=lbD L (i+1) vS vA vL vI vD (vJ L (i+1)):=by
 have e:=bN hx;unfold lbK lbD;rw[e,oE,rR0,yF,lK0,qV hx,ah.ndTo_succ hx,if_pos hh,if_pos hh,hh]
structure qB1 (B:List ByteArray) (a:Option Addr) (c:Nat) (w:World) (s i:Nat) (ds:List Nat) (U:LbU) (wr:World):Prop where
 u10:U.u10=.int .i64 i
 le:i<=524287
 marks:mD wr s ds
 st:∃vS vA vL,Bst w wr s B.length (.slice a B.length c) (lbD (bls B) i vS vA vL U.u7 U.u8 (vJ (bls B) i))
 off:offA (bls B) i<=524287
theorem nZ1 {B:List ByteArray} {a:Option Addr} {c:Nat} {w:World} {s b2 b3 b4 b5 b6 b7 b8:Nat} {P:Program} {code:Code} {Q:Exit->Act->World->Prop} {ds:List Nat} {U:LbU} {w0:World} (h0:qB1 B a c w s 0 ds U w0)
  (round:∀(i:Nat) (ds:List Nat) (U:LbU) (wr:World),qB1 B a c w s i ds U wr->∀K:Act->World->Prop,(∀ds' U' w',qB1 B a c w s (i+1) ds' U' w'->K (aC0 B a c s b2 b3 b4 b5 b6 b7 b8 ds' U') w')->code.wp P (Exit.then K Q) (aC0 B a c s b2 b3 b4 b5 b6 b7 b8 ds U) wr) :
  (Code.loop code).wp P Q (aC0 B a c s b2 b3 b4 b5 b6 b7 b8 ds U) w0:=by
 refine wp_loop (λa' wr=>∃i ds U,a'=aC0 B a c s b2 b3 b4 b5 b6 b7 b8 ds U/\qB1 B a c w s i ds U wr) (λa' _=>600000-(intOf (a'.tmps.getD 10 undef)).toNat) ⟨0,ds,U,rfl,h0⟩ ?_;rintro a' wr ⟨i,ds,U,rfl,h⟩;refine round i ds U wr h _ (λds' U' w' h'=>⟨⟨i+1,ds',U',rfl,h'⟩,?_⟩);have e1:(aC0 B a c s b2 b3 b4 b5 b6 b7 b8 ds U).tmps.getD 10 undef=U.u10:=rfl;have e2:(aC0 B a c s b2 b3 b4 b5 b6 b7 b8 ds' U').tmps.getD 10 undef=U'.u10:=rfl;rw[e1,e2,h.u10,h'.u10]
 have:=h.le
 simp[intOf];omega
theorem aH1 (B:List ByteArray) (a:Option Addr) (c:Nat) (w:World) (kw:nM0 (bls B)=0) (ha:∀q,a=some q->q.block<w.heap.size) (hB_:B.length<=20000) (di:∀s∈B,s.size<=256) (ah:OkL (bls B)) (ac:aF w a 1 (B.map stC)) :
  Calls Tryz.prog 35 #[.slice a B.length c] w λe w' =>
   (524287<eG (bls B)->e=.returned (.tuple #[.pointer none,.int .i64 2])/\Grows w w') /\
   (eG (bls B)<=524287->e=.returned (.tuple #[.pointer (some ⟨w.heap.size+2,0,none⟩),.int .i64 0])/\eF w' (w.heap.size+2) (bls B)/\Grows w w'):=by
 have CK:Hid (∀u,Grows w u->Calls Tryz.prog 84 #[.slice a B.length c] u λe w'=>e=.returned (.int .i64 0)/\u=w'):=λu hg=>by
  have h:=sH0 B a c u (by omega) (λs hs=>by have:=di s hs;omega) (ac.grows hg);rw[kw]at h;exact h
 have HAT:=Aa ac;have HA:=Aa ha;have HSZ:=Aa di;have HOK:=Aa ah;clear ac ha di ah kw;refine(callsIn_wide (n:=12)).1 (callsIn_of_wp_marks Tryz.func35 rfl trivial (wpIn_wide.2 ?_));simp only[Tryz.ntmps35,List.size_toArray,List.length_cons,List.length_nil,Nat.reduceAdd,Nat.reduceSub,Array.replicate_succ,Array.replicate_zero,List.push_toArray,List.append_toArray,List.nil_append,List.cons_append];have ke:=λ(Y:World)=>jS1 B.length Y (by omega);go_wp2_with (go_at_call 84;refine(CK.out _ (Grows.alloc _ _)).mono ?_;rintro e w2 ⟨rfl,rfl⟩)
 clear CK ke;obtain⟨s,hs⟩:=exq w.heap.size;obtain⟨b2,eo⟩:=exq (w.heap.size+1);obtain⟨b3,mn⟩:=exq (w.heap.size+1+1);obtain⟨b4,zw⟩:=exq (w.heap.size+1+1+1);obtain⟨b5,gh⟩:=exq (w.heap.size+1+1+1+1);obtain⟨b6,kj⟩:=exq (w.heap.size+1+1+1+1+1);obtain⟨b7,hb7⟩:=exq (w.heap.size+1+1+1+1+1+1);obtain⟨b8,hb8⟩:=exq (w.heap.size+1+1+1+1+1+1+1);rw[<-hb8,<-hb7,<-kj,<-gh,<-zw,<-mn,<-eo,<-hs]
 have BST:Hid (∃vS vA,Bst w ((((((((w.alloc (.cells #[.slice a B.length c] 70)).alloc (.cells (madeCells #[.int .i64 0] B.length) 3)).alloc (.cells #[.pointer none,.pointer none,.slice none 0 0,.pointer none,.slice (some ⟨b2,0,none⟩) B.length B.length] 135)).alloc
   (.cells #[.pointer (some ⟨b3,0,none⟩)] 67)).alloc (.cells #[.bool true,.bool false] 4)).alloc (.cells #[.slice (some ⟨b5,0,none⟩) 2 2] 136)).alloc (.cells #[.int .i64 0,.int .i64 B.length,.int .i64 0] 139)).alloc (.cells #[.slice (some ⟨b7,0,none⟩) 1 1] 140))
   s B.length (.slice a B.length c) (lbD (bls B) 0 vS vA (.slice none 0 0) (.slice none 0 0) (.slice none 0 0) (vJ (bls B) 0))):=by
  have h:=aZ1 w B.length (.slice a B.length c) hB_ (b2:=b2) (b3:=b3) (b5:=b5) (b7:=b7) (by omega) (by omega) (by omega) (by omega);rw[<-hs]at h;refine⟨.slice (some ⟨b5,0,none⟩) 2 2,.slice (some ⟨b7,0,none⟩) 1 1,?_⟩
  have e:lbD (bls B) 0 (.slice (some ⟨b5,0,none⟩) 2 2) (.slice (some ⟨b7,0,none⟩) 1 1) (.slice none 0 0) (.slice none 0 0) (.slice none 0 0) (vJ (bls B) 0) =
    { vS:=.slice (some ⟨b5,0,none⟩) 2 2,vA:=.slice (some ⟨b7,0,none⟩) 1 1,vL:=.slice none 0 0,vI:=.slice none 0 0,vD:=.slice none 0 0,sh:=[true,false],al:=[⟨0,B.length,0⟩],lab:=[],isl:=[],idl:=[],nd:=Ab B.length 0 }:=by
   unfold lbD;rw[cH1,cK]
   have e2:fD (rootS (bls B)) (fQ (bls B)) (nodesA (bls B)) 0=[⟨0,B.length,0⟩]:=by
    unfold fD rootS;rw[cK];rfl
   rw[e2];rfl
  rw[e];exact h
 generalize ((((((((w.alloc (.cells #[.slice a B.length c] 70)).alloc (.cells (madeCells #[.int .i64 0] B.length) 3)).alloc (.cells #[.pointer none,.pointer none,.slice none 0 0,.pointer none,.slice (some ⟨b2,0,none⟩) B.length B.length] 135)).alloc
   (.cells #[.pointer (some ⟨b3,0,none⟩)] 67)).alloc (.cells #[.bool true,.bool false] 4)).alloc (.cells #[.slice (some ⟨b5,0,none⟩) 2 2] 136)).alloc (.cells #[.int .i64 0,.int .i64 B.length,.int .i64 0] 139)).alloc (.cells #[.slice (some ⟨b7,0,none⟩) 1 1] 140))=W0 at BST ⊢
 have HS:=Aa hs;have HB2:Hid (b2=s+1):=by rw[hs];exact eo
 have HB3:Hid (b3=s+2):=by rw[hs];exact mn
 have HB4:Hid (b4=s+3):=by rw[hs];exact zw
 have HB6:Hid (b6=s+5):=by rw[hs];exact kj
 have HB8:Hid (b8=s+7):=by rw[hs];exact hb8
 clear hs eo mn zw gh kj hb7 hb8;refine nZ1 (w:=w) (ds:=[]) (U:={ u7:=.slice none 0 0,u8:=.slice none 0 0,u10:=.int .i64 0,u11:=undef,u12:=undef,u13:=undef,u29:=undef,u30:=undef,u31:=undef,u32:=undef,u33:=undef,u34:=undef,u35:=undef,u36:=undef,u37:=undef,u38:=undef,u39:=undef,u40:=undef,u41:=undef,u42:=undef,u43:=undef,u44:=undef,u45:=undef,u46:=undef,u47:=undef,u48:=undef,u49:=undef,u50:=undef,u51:=undef,u52:=undef,u53:=undef,u54:=undef,u55:=undef,u56:=undef,u57:=undef,u58:=undef,u59:=undef,u60:=undef,u61:=undef,u62:=undef,u63:=undef,u64:=undef,u65:=undef,u66:=undef,u67:=undef,u68:=undef,u69:=undef,u70:=undef,u71:=undef,u72:=undef,u73:=undef,u74:=undef,u75:=undef,u76:=undef,u77:=undef,u78:=undef,u79:=undef,u80:=undef,u81:=undef,u82:=undef,u83:=undef,u84:=undef,u85:=undef,u86:=undef,u87:=undef,u88:=undef,u89:=undef,u90:=undef,u91:=undef,u92:=undef,u93:=undef,u94:=undef,u95:=undef,u96:=undef,u97:=undef,u98:=undef,u99:=undef,u100:=undef,u101:=undef,u102:=undef,u103:=undef,u104:=undef,u105:=undef,u106:=undef,u107:=undef }) ?start ?round
 case start =>
  obtain⟨vS,vA,h⟩:=BST.out;exact⟨rfl,Aw _,mD.nil _ _,⟨vS,vA,_,h⟩,by rw[uB];omega⟩
 case round =>
  rintro i ds ⟨u7,u8,u10,u11,u12,u13,u29,u30,u31,u32,u33,u34,u35,u36,u37,u38,u39,u40,u41,u42,u43,u44,u45,u46,u47,u48,u49,u50,u51,u52,u53,u54,u55,u56,u57,u58,u59,u60,u61,u62,u63,u64,u65,u66,u67,u68,u69,u70,u71,u72,u73,u74,u75,u76,u77,u78,u79,u80,u81,u82,u83,u84,u85,u86,u87,u88,u89,u90,u91,u92,u93,u94,u95,u96,u97,u98,u99,u100,u101,u102,u103,u104,u105,u106,u107⟩ wr ⟨hu,hi,hM,hB,hO⟩ K hK;simp only at hu;subst hu;dsimp only[aC0]
  dsimp only at hB
  have HM:=Aa hM;have HO:=Aa hO;obtain⟨vS,vA,vL,hB⟩:=hB;obtain⟨aA,cA,hvA,_,_,adu⟩:=hB.oA.at_ oJ0.len;simp only[lbD]at hvA;subst hvA;have an:(fD (rootS (bls B)) (fQ (bls B)) (nodesA (bls B)) i).length=offA (bls B) i:=rfl;obtain⟨N1,hN1⟩:=exq (offA (bls B) i);have c8:=hB.b8.cell (o:=0) rfl;simp only[lbD]at c8;rw[an,<-hN1,<-HB8.out]at c8;have HBST:=Aa hB;have HN1:=Aa hN1;by_cases ae:i<N1
  case neg =>
   have et:¬(i:Int)<N1:=by omega
   have hNi:(nodesA (bls B)).length<=i:=by
    rcases Av i (nodesA (bls B)).length with h|h
    ·have:=HOK.out.off_gt h;omega
    ·exact h
   have htk:(nodesA (bls B)).take i=nodesA (bls B):=List.take_of_length_le hNi
   have abf:offA (bls B) i=(nodesA (bls B)).length:=by
    unfold offA fD;rw[htk,<-HOK.out.fix]
   have aiv:eG (bls B)<=524287:=by
    rw[<-eX HOK.out.asc HOK.out.len,<-abf];exact hO
   obtain⟨z1,z2,z3,z4,z5⟩:=HOK.out.sizes (by rw[cK];exact hB_) aiv;obtain⟨aS,cS,hvS,_,_,acg⟩:=hB.oS.at_ (enc:=rT) (λ_=>rfl);obtain⟨aI,cI,hvI,_,_,adv⟩:=hB.oI.at_ (enc:=rT) (λ_=>rfl);obtain⟨aD,cD,hvD,_,_,adw⟩:=hB.oD.at_ (enc:=kS) (λ_=>rfl);simp only[lbD,htk]at hvS hvI hvD acg adv adw;obtain⟨SH,hSH⟩:=exq (shapeL (bls B) (nodesA (bls B)));obtain⟨IS,hIS⟩:=exq (isL (bls B) (nodesA (bls B)));obtain⟨ID,hID⟩:=exq (idsL (bls B) (nodesA (bls B)));rw[<-hSH]at z1 acg hvS;rw[<-hIS]at z2 adv hvI;rw[<-hID]at z4 z5 adw hvD
   have EE:Hid (LbE w wr s #[.pointer none,.pointer none,vL,.pointer none,.slice (some ⟨s+1,0,none⟩) B.length B.length] vL (.slice (some ⟨s+1,0,none⟩) B.length B.length) u7 u8 (labelsL (bls B) (nodesA (bls B))) (kF (bls B)) IS ID ds):=by
    have h2:=hB;unfold lbD at h2;rw[htk,HOK.out.ndTo_all hNi]at h2;rw[hIS,hID];exact⟨h2.b4,h2.b2,h2.oL,h2.oN,h2.oI,h2.oD,hM,h2.gr⟩
   have c6:wr.cell? ⟨b6,0,none⟩=some vS:=by rw[HB6.out];exact hB.b6.cell rfl
   have af1:b6<wr.heap.size:=by rw[HB6.out];exact hB.b6.lt
   subst hvS;subst hvI;subst hvD;have hss:w.heap.size<=s:=by rw[HS.out];exact Ad _
   have HSH:=Aa hSH;have HIS:=Aa hIS;have HID:=Aa hID;have HZ5:=Aa z5;clear adu hM hO an hNi htk abf z3 z5 hSH hIS hID adv adw hN1 ae hB;go_wp2_with fail
   have e4W:=EE.out.b4.gr (Grows.drew wr);obtain⟨T,hT⟩:∃T:Nat->Prop,T=λb=>b=b4\/b=b6:=⟨_,rfl⟩
   have j6:∀b,T b->b<wr.drew.heap.size:=λb hb=>by
    rw[hT]at hb;rcases hb with rfl|rfl
    ·rw[HB4.out];exact e4W.lt
    ·exact af1
   have hT3:¬T b3:=λh=>by
    rw[hT]at h;have e3:=HB3.out;have e4:=HB4.out;have e6:=HB6.out;rcases h with h|h<;>omega
   have x4:∀y:Ext (bT T) wr.drew,y.u.cell? ⟨b4,0,none⟩=some (.pointer (some ⟨b3,0,none⟩)):=gQ (by rw[hT];exact Or.inl rfl) (by rw[HB4.out,HB3.out];exact e4W.cell rfl);have x6:∀y:Ext (bT T) wr.drew,y.u.cell? ⟨b6,0,none⟩=some (.slice aS SH.length cS):=gQ (by rw[hT];exact Or.inr rfl) ((Grows.drew wr).cell c6);have HT:=Aa hT;clear hT e4W;refine oK ?_;refine iV (bT T) (aU 9 [2,8]) (bT.refl T) (oB T) (by kernel_rfl) (by kernel_rfl) (λd _ _ _ _ h=>by cases d<;>exact h) ?_
   iterate 2 (refine aG rfl (λK hK=>?_);go_simp;refine hK _ ?_;clear hK K)
   refine aZ rfl rfl (λK hK=>?_);go_simp;refine(rJ0 SH aS cS wr.drew z1 (acg.grows (Grows.drew wr))).mono ?_;rintro e w1 ⟨rfl,fy,ag⟩;refine⟨bT.of_below ag j6,hK _ _ ?_⟩;clear hK K;iterate 5 (refine aG rfl (λK hK=>?_);go_simp;refine hK _ ?_;clear hK K)
   have E1:=(EE.out.grows (Grows.drew wr)).grows ag;have c31:w1.cell? ⟨b3,0,none⟩=some (.pointer none):=by rw[HB3.out];exact E1.b3.cell rfl
   have f31:w1.frozen? ⟨b3,0,none⟩=false:=by rw[HB3.out];exact E1.b3.froz _
   refine aZ rfl rfl (λK hK=>?_);go_simp;refine⟨bT.set hT3 _ _,hK _ _ ?_⟩;clear hK K;refine bH ?_;simp only[gG];obtain⟨sb,nt⟩:=exq (wr.drew.heap.size+1);have e1s:=E1.set hss 0 (.pointer (some ⟨sb,0,none⟩))
   have ach:jN (w1.setCell ⟨s+2,0,none⟩ (.pointer (some ⟨sb,0,none⟩))) sb SH:=by
    rw[<-nt]at fy
    exact fS fy (iQ _ _ _ _) (λh=>by
     have h1:sb=s+2:=h;have h2:=EE.out.b3.lt;have h3:wr.drew.heap.size=wr.heap.size:=rfl;omega) (nD E1.b3)
   obtain⟨V1,jv⟩:=exq (w1.setCell ⟨b3,0,none⟩ (.pointer (some ⟨sb,0,none⟩)));rw[<-HB3.out,<-jv]at e1s ach;have h6a:b6<V1.heap.size:=by rw[jv];simp;exact Ak af1 (Ae (Ad _) ag.size)
   try rw[show wr.heap.size+1=sb from nt.symm]
   try rw[<-nt]
   try rw[<-jv]
   clear hT3 j6 x4 x6 E1 c31 f31 fy ag jv nt HT T acg c6;go_wp2_with fail
   have e4W:=e1s.b4.gr (Grows.drew V1);obtain⟨T,hT⟩:∃T:Nat->Prop,T=λb=>b=b4\/b=b6:=⟨_,rfl⟩
   have j6:∀b,T b->b<V1.drew.heap.size:=λb hb=>by
    rw[hT]at hb;rcases hb with rfl|rfl
    ·rw[HB4.out];exact e4W.lt
    ·exact h6a
   have hT3:¬T b3:=λh=>by
    rw[hT]at h;have e3:=HB3.out;have e4:=HB4.out;have e6:=HB6.out;rcases h with h|h<;>omega
   have x4:∀y:Ext (bT T) V1.drew,y.u.cell? ⟨b4,0,none⟩=some (.pointer (some ⟨b3,0,none⟩)):=gQ (by rw[hT];exact Or.inl rfl) (by rw[HB4.out,HB3.out];exact e4W.cell rfl);have HT:=Aa hT;clear hT e4W;refine oK ?_;refine iV (bT T) (aU 9 [2,8]) (bT.refl T) (oB T) (by kernel_rfl) (by kernel_rfl) (λd _ _ _ _ h=>by cases d<;>exact h) ?_
   iterate 2 (refine aG rfl (λK hK=>?_);go_simp;refine hK _ ?_;clear hK K)
   refine aZ rfl rfl (λK hK=>?_);go_simp;refine(rJ0 IS aI cI V1.drew (by omega) (jH0 (λ_=>rfl) e1s.oI)).mono ?_;rintro e w2 ⟨rfl,ii,af⟩;refine⟨bT.of_below af j6,hK _ _ ?_⟩;clear hK K;iterate 5 (refine aG rfl (λK hK=>?_);go_simp;refine hK _ ?_;clear hK K)
   have E2:=(e1s.grows (Grows.drew V1)).grows af;have c32:w2.cell? ⟨b3,1,none⟩=some (.pointer none):=by rw[HB3.out];exact E2.b3.cell rfl
   have f32:w2.frozen? ⟨b3,1,none⟩=false:=by rw[HB3.out];exact E2.b3.froz _
   refine aZ rfl rfl (λK hK=>?_);go_simp;refine⟨bT.set hT3 _ _,hK _ _ ?_⟩;clear hK K;refine bH ?_;simp only[gG];obtain⟨ib,hib⟩:=exq (V1.drew.heap.size+1);have e2s:=E2.set hss 1 (.pointer (some ⟨ib,0,none⟩))
   have aci:jN (w2.setCell ⟨s+2,1,none⟩ (.pointer (some ⟨ib,0,none⟩))) ib IS:=by
    rw[<-hib]at ii
    exact fS ii (iQ _ _ _ _) (λh=>by
     have h1:ib=s+2:=h;have h2:=e1s.b3.lt;have h3:V1.drew.heap.size=V1.heap.size:=rfl;omega) (nD E2.b3)
   have abg:sb≠s+2:=λh=>by
    have hc:=ach.c0;have h2:=e1s.b3;rw[h]at hc;have h3:=h2.cell (o:=0) (v:=.pointer (some ⟨sb,0,none⟩)) rfl;rw[hc]at h3;cases h3
   have adx:jN (w2.setCell ⟨s+2,1,none⟩ (.pointer (some ⟨ib,0,none⟩))) sb SH:=fS ((ach.grows (Grows.drew V1)).grows af) (iQ _ _ _ _) abg (nD E2.b3);obtain⟨V2,o0⟩:=exq (w2.setCell ⟨b3,1,none⟩ (.pointer (some ⟨ib,0,none⟩)));rw[<-HB3.out,<-o0]at e2s aci adx;have h6b:b6<V2.heap.size:=by rw[o0];simp;exact Ak h6a (Ae (Ad _) af.size)
   try rw[show V1.heap.size+1=ib from hib.symm]
   try rw[<-hib]
   try rw[<-o0]
   clear hT3 j6 x4 E2 c32 f32 ii af o0 hib HT T e1s ach;go_wp2_with fail
   have e4W:=e2s.b4.gr (Grows.drew V2);obtain⟨T,hT⟩:∃T:Nat->Prop,T=λb=>b=b4\/b=b6:=⟨_,rfl⟩
   have j6:∀b,T b->b<V2.drew.heap.size:=λb hb=>by
    rw[hT]at hb;rcases hb with rfl|rfl
    ·rw[HB4.out];exact e4W.lt
    ·exact h6b
   have hT3:¬T b3:=λh=>by
    rw[hT]at h;have e3:=HB3.out;have e4:=HB4.out;have e6:=HB6.out;rcases h with h|h<;>omega
   have x4:∀y:Ext (bT T) V2.drew,y.u.cell? ⟨b4,0,none⟩=some (.pointer (some ⟨b3,0,none⟩)):=gQ (by rw[hT];exact Or.inl rfl) (by rw[HB4.out,HB3.out];exact e4W.cell rfl);have HT:=Aa hT;clear hT e4W;refine oK ?_;refine iV (bT T) (aU 9 [2,8]) (bT.refl T) (oB T) (by kernel_rfl) (by kernel_rfl) (λd _ _ _ _ h=>by cases d<;>exact h) ?_
   iterate 2 (refine aG rfl (λK hK=>?_);go_simp;refine hK _ ?_;clear hK K)
   refine aZ rfl rfl (λK hK=>?_);go_simp;refine(hJ0 ID aD cD V2.drew (by omega) (λm hm=>by have:=HZ5.out m hm;omega) (jH0 (λ_=>rfl) e2s.oD)).mono ?_;rintro e w3 ⟨rfl,ja,aw⟩;refine⟨bT.of_below aw j6,hK _ _ ?_⟩;clear hK K;iterate 5 (refine aG rfl (λK hK=>?_);go_simp;refine hK _ ?_;clear hK K)
   have E3:=(e2s.grows (Grows.drew V2)).grows aw;have c33:w3.cell? ⟨b3,3,none⟩=some (.pointer none):=by rw[HB3.out];exact E3.b3.cell rfl
   have f33:w3.frozen? ⟨b3,3,none⟩=false:=by rw[HB3.out];exact E3.b3.froz _
   refine aZ rfl rfl (λK hK=>?_);go_simp;refine⟨bT.set hT3 _ _,hK _ _ ?_⟩;clear hK K;refine bH ?_;simp only[gG];obtain⟨pb,fx⟩:=exq V2.drew.heap.size;have qv:=E3.set hss 3 (.pointer (some ⟨pb,0,none⟩))
   have ady:lE (w3.setCell ⟨s+2,3,none⟩ (.pointer (some ⟨pb,0,none⟩))) pb ID:=by
    rw[<-fx]at ja
    exact rF ja (iQ _ _ _ _) (λh=>by
     have h1:pb=s+2:=h;have h2:=e2s.b3.lt;have h3:V2.drew.heap.size=V2.heap.size:=rfl;omega) (nD E3.b3)
   have ae4:ib≠s+2:=λh=>by
    have hc:=aci.c0;have h2:=e2s.b3;rw[h]at hc;have h3:=h2.cell (o:=0) (v:=.pointer (some ⟨sb,0,none⟩)) rfl;rw[hc]at h3;cases h3
   have adz:jN (w3.setCell ⟨s+2,3,none⟩ (.pointer (some ⟨pb,0,none⟩))) sb SH:=fS ((adx.grows (Grows.drew V2)).grows aw) (iQ _ _ _ _) abg (nD E3.b3);have ad0:jN (w3.setCell ⟨s+2,3,none⟩ (.pointer (some ⟨pb,0,none⟩))) ib IS:=fS ((aci.grows (Grows.drew V2)).grows aw) (iQ _ _ _ _) ae4 (nD E3.b3);obtain⟨V3,me⟩:=exq (w3.setCell ⟨b3,3,none⟩ (.pointer (some ⟨pb,0,none⟩)));rw[<-HB3.out,<-me]at qv ady ad0 adz;have c4f:V3.cell? ⟨b4,0,none⟩=some (.pointer (some ⟨b3,0,none⟩)):=by rw[HB4.out,HB3.out];exact qv.b4.cell rfl
   try rw[show V2.heap.size=pb from fx.symm]
   try rw[<-fx]
   try rw[<-me]
   clear hT3 j6 x4 E3 c33 f33 ja aw me fx HT T e2s adx aci;go_wp2_with fail
   refine qP (ds:=ds) (lo:=s) qv.mks λw' fw eo mn=>⟨.tuple #[.pointer (some ⟨b3,0,none⟩),.int .i64 0],by simp[results,Tryz.results35,go_sem],λgk=>by omega,λ_=>⟨by rw[HB3.out,HS.out],?_,cH0 qv.gr qv.mks HS.out fw eo mn⟩⟩
   have ho:mY1 V3 w' (λk=>k∈ds):=fw
   have ce:∀(o:Nat) (v:Value),(#[.pointer (some ⟨sb,0,none⟩),.pointer (some ⟨ib,0,none⟩),vL,.pointer (some ⟨pb,0,none⟩),.slice (some ⟨s+1,0,none⟩) B.length B.length]:Array Value)[o]?=some v->w'.cell? ⟨s+2,o,none⟩=some v:=λo v hv=>by
    have hc:V3.cell? ⟨s+2,o,none⟩=some v:=qv.b3.cell hv;exact cO hc ho (uS qv.mks hc)
   rw[<-HS.out];have hb0:∀ {e:TypeId} {k:Nat} {α:Type} {enc:α->List Value} {v:Value} {xs:List α},aV V3 s e k enc v xs->aV w' 0 e k enc v xs:=λh=>(iY h ho (eJ0 qv.mks _)).base (Aw _)
   exact⟨⟨sb,ce 0 _ rfl,by rw[<-HSH.out];exact fS adz ho (uS qv.mks adz.c0) (sJ qv.mks)⟩,⟨ib,ce 1 _ rfl,by rw[<-HIS.out];exact fS ad0 ho (uS qv.mks ad0.c0) (sJ qv.mks)⟩,
    ⟨vL,ce 2 _ rfl,(iY qv.oL ho (eJ0 qv.mks _)).base (show s+2-2<=s by omega)⟩,⟨pb,ce 3 _ rfl,by rw[<-HID.out];exact rF ady ho (uS qv.mks ady.c0) (sJ qv.mks)⟩,⟨_,ce 4 _ rfl,hb0 qv.oN⟩⟩
  case pos =>
   have et:(i:Int)<N1:=by omega
   have hiN:i<(nodesA (bls B)).length:=by have:=HOK.out.off_le i;omega
   obtain⟨x,hx⟩:∃x,(nodesA (bls B))[i]?=some x:=⟨_,Ag hiN⟩;have pu:(fD (rootS (bls B)) (fQ (bls B)) (nodesA (bls B)) i)[i]?=some x:=by rw[jM0 HOK.out.fix (by rw[an];omega)];exact hx
   obtain⟨bA,oA,rfl,hcA⟩:=aF.get (enc:=dU0) adu (Ah (Af pu));have e0:=hcA i x pu 0 _ rfl;have e1:=hcA i x pu 1 _ rfl;have e2:=hcA i x pu 2 _ rfl;rw[Nat.add_zero]at e0;have akt:N1<=524287:=by rw[hN1];exact hO
   have c1:∀o,(wr.alloc o).cell? ⟨s,0,none⟩=some (.slice a B.length c):=λo=>(hB.al o).b1.cell rfl;have HX:=Aa hx;clear adu hcA hx pu hB hM hO hN1 an;go_wp2_with (go_at_call 85;refine(gO1 x a B.length c _).mono ?_;rintro e w2 ⟨rfl,rfl⟩)
   have hB:=HBST.out;have jx:s<=wr.heap.size:=by rw[HS.out];exact hB.gr.size
   obtain⟨xb,pu⟩:=exq wr.heap.size;obtain⟨kb,pq⟩:=exq (wr.heap.size+1);obtain⟨lb,pw⟩:=exq (wr.heap.size+1+1);rw[<-pw,<-pq,<-pu];obtain⟨Wb,hWb⟩:=exq (((wr.alloc (.cells #[.int .i64 x.i,.int .i64 x.t,.int .i64 x.d] 139)).alloc (.cells #[.int .i64 x.i,.int .i64 x.t,.int .i64 x.d] 139)).alloc (.cells #[.slice a B.length c] 70));rw[<-hWb];have aiw:Wb.heap.size=wr.heap.size+1+1+1:=by rw[hWb];simp
   have TX:TB Wb xb #[.int .i64 x.i,.int .i64 x.t,.int .i64 x.d] 139:=by
    rw[hWb,pu];exact((TB.alloc wr _ _).keep (Ac _ _ none) (RT.none _ _) (by decide:(Option.none:Option TypeId)≠_)).keep (Ac _ _ none) (RT.none _ _) (by decide:(Option.none:Option TypeId)≠_)
   have TK:TB Wb kb #[.int .i64 x.i,.int .i64 x.t,.int .i64 x.d] 139:=by
    rw[hWb,pq]
    have:=(TB.alloc (wr.alloc (.cells #[.int .i64 x.i,.int .i64 x.t,.int .i64 x.d] 139)) #[.int .i64 x.i,.int .i64 x.t,.int .i64 x.d] 139).keep (Ac _ (.cells #[.slice a B.length c] 70) none) (RT.none _ _) (by decide:(Option.none:Option TypeId)≠_)
    rwa [An]at this
   have TL:TB Wb lb #[.slice a B.length c] 70:=by
    rw[hWb,pw]
    have:=TB.alloc ((wr.alloc (.cells #[.int .i64 x.i,.int .i64 x.t,.int .i64 x.d] 139)).alloc (.cells #[.int .i64 x.i,.int .i64 x.t,.int .i64 x.d] 139)) #[.slice a B.length c] 70
    rwa [An,An]at this
   have HBb:Hid (Bst w Wb s B.length (.slice a B.length c) (lbD (bls B) i vS (.slice (some ⟨bA,oA,none⟩) N1 cA) vL u7 u8 (vJ (bls B) i))):=by
    rw[hWb];have h:=((hB.al (.cells #[.int .i64 x.i,.int .i64 x.t,.int .i64 x.d] 139)).al (.cells #[.int .i64 x.i,.int .i64 x.t,.int .i64 x.d] 139)).al (.cells #[.slice a B.length c] 70);rw[show (fD (rootS (bls B)) (fQ (bls B)) (nodesA (bls B)) i).length=N1 from HN1.out.symm]at h
    exact h
   have ze:mD Wb s ds:=by
    rw[hWb];exact((HM.out.grown (row:=none) (Ac _ _ _) (λ_ _ e=>by cases e)).grown (row:=none) (Ac _ _ _) (λ_ _ e=>by cases e)).grown (row:=none) (Ac _ _ _) (λ_ _ e=>by cases e)
   have ae5:bA<wr.heap.size:=by
    have:=gO hB.oA bA rfl
    exact this
   have HHS:=Aa (show s<=wr.heap.size from jx)
   have hxk:bA≠xb/\bA≠kb/\kb<Wb.heap.size/\lb<Wb.heap.size/\s<=Wb.heap.size:=⟨by omega,by omega,by omega,by omega,by omega⟩;clear pu pq pw aiw jx ae5;clear hWb hB e0 e1 e2 c1 c8;obtain⟨S,hS⟩:∃S:Nat->Prop,S=λb=>b<s\/b=kb\/b=lb:=⟨_,rfl⟩
   have ad1:∀b,S b->b<Wb.heap.size:=λb hb=>by
    rw[hS]at hb;rcases hb with h|h|h<;>omega
   have ji:=HOK.out.good HX.out;have hSW:∀q,a=some q->S q.block:=λq hq=>by rw[hS];exact Or.inl (by rw[HS.out];exact HA.out q hq)
   have aix:aF Wb a 1 (B.map stC):=HAT.out.grows HBb.out.gr;have KS:=cZ1 11 B a c kb lb x S Wb hB_ HSZ.out HOK.out.asc ji (by rw[hS];exact Or.inr (Or.inl rfl)) (by rw[hS];exact Or.inr (Or.inr rfl)) hSW ad1 (TK.cell rfl) (TK.cell rfl) (TK.cell rfl) (TL.cell rfl) aix;refine(wpIn_wide (n:=12)).1 ?_
   refine wpIn_rangeFunc_ownH (F:=Fence.wide) (n:=12) (α:=bN0 (bls B) x) rfl (by decide) (gf:=138) (lb:=#[.pointer (some ⟨kb,0,none⟩),.pointer (some ⟨lb,0,none⟩)]) rfl trivial (enters_of Tryz.func138 (by kernel_rfl) rfl) KS
    (λh k=>h.tr k) (λW l o o' hl ho hc hw b hb=>World.putObj_heap_other (λe=>by have:=ad1 b hb;omega)) (Below.refl _ _) (λ_=>rfl)
    (λpre W=>∃o5 ul o6,LbJ w s B.length (.slice a B.length c) ds xb kb lb Wb.heap.size x (lbK (bls B) i x (pre.map (λy=>y.1)) o5 ul o6 u7 u8) W)
    (λ_ _ _=>False) ?hI (λ_ _ _ _ _ h _ _=>h) ?h0
    (λy a' W=>∃Bx v,Wb.heap.size<=Bx/\TB W Bx #[.int .i64 y.1.i,.int .i64 y.1.t,.int .i64 y.1.d] 139/\TB W (s+7) #[v] 140/\v.ownBlock≠some Bx /\
     a'={ tmps:=(aC0 B a c s b2 b3 b4 b5 b6 b7 b8 ds { u7:=u7,u8:=u8,u10:=.int .i64 i,u11:=.pointer (some ⟨xb,0,none⟩),u12:=.pointer (some ⟨Bx,0,none⟩),u13:=u13,u29:=.int .i64 i,u30:=.slice (some ⟨bA,oA,none⟩) N1 cA,u31:=.int .i64 N1,u32:=.bool true,u33:=u33,u34:=u34,u35:=.slice (some ⟨bA,oA,none⟩) N1 cA,u36:=.int .i64 i,u37:=.pointer (some ⟨bA,oA+i*3,none⟩),u38:=.agg #[.int .i64 x.i,.int .i64 x.t,.int .i64 x.d],u39:=.agg #[.int .i64 x.i,.int .i64 x.t,.int .i64 x.d],u40:=.slice a B.length c,u41:=.func (.func 138) #[] #[.pointer (some ⟨kb,0,none⟩),.pointer (some ⟨lb,0,none⟩)],u42:=.agg #[.int .i64 y.1.i,.int .i64 y.1.t,.int .i64 y.1.d],u43:=u43,u44:=u44,u45:=u45,u46:=u46,u47:=u47,u48:=u48,u49:=u49,u50:=u50,u51:=u51,u52:=u52,u53:=u53,u54:=u54,u55:=u55,u56:=u56,u57:=u57,u58:=u58,u59:=u59,u60:=u60,u61:=u61,u62:=u62,u63:=u63,u64:=u64,u65:=u65,u66:=u66,u67:=u67,u68:=u68,u69:=u69,u70:=u70,u71:=u71,u72:=u72,u73:=u73,u74:=u74,u75:=u75,u76:=u76,u77:=u77,u78:=u78,u79:=u79,u80:=u80,u81:=u81,u82:=u82,u83:=u83,u84:=u84,u85:=u85,u86:=u86,u87:=u87,u88:=u88,u89:=u89,u90:=u90,u91:=u91,u92:=u92,u93:=u93,u94:=u94,u95:=u95,u96:=u96,u97:=u97,u98:=u98,u99:=u99,u100:=u100,u101:=u101,u102:=u102,u103:=u103,u104:=u104,u105:=u105,u106:=u106,u107:=u107 }).tmps,defers:=[] }) ?hAx ?assign ?body ?done ?stop
   case hI =>
    rintro pre V V' row ⟨o5,ul,o6,h⟩ hg hr;exact⟨o5,ul,o6,h.other hg (RT.of_not λq e=>(hr q e).2) (λq e=>by have:=(hr q e).1;omega) (λD hD e=>by have h1:=(hr D e).1;have h2:=(Array.getElem?_eq_some_iff.1 (ze.at_ D hD).2).1;omega)⟩
   case h0 =>
    refine⟨vS,.slice (some ⟨bA,oA,none⟩) N1 cA,vL,?_,TX,TK,TL,λe=>?_,λe=>?_,ze,Ad _⟩
    ·have h:=HBb.out
     simpa [lbD,lbK] using h
    ·have e1:some bA=some xb:=e
     exact hxk.1 (Option.some.inj e1)
    ·have e1:some bA=some kb:=e
     exact hxk.2.1 (Option.some.inj e1)
   case hAx =>
    rintro y a' _ V V' row ⟨Bx,v,k1,k2,k3,k4,k5⟩ hg hr;exact⟨Bx,v,k1,k2.keep hg (RT.of_not λq e=>(hr q e).2) (by decide),k3.keep hg (RT.of_not λq e=>(hr q e).2) (by decide),k4,k5⟩
   case assign =>
    rintro l pre y V K2 ⟨o5,ul,o6,h⟩ ml;dsimp only[jL0]
    gi_wp2
    exact ml _ _ ((KeepsOthers.alloc _ _).from _) (bT.alloc (λb hb=>Ak (ad1 b hb) h.sz) _) ⟨o5,ul,o6,h.al _⟩ ⟨V.heap.size,ul,h.sz,TB.alloc _ _ _,(h.al _).st.b8,λe=>absurd (gO h.st.oA _ e) (Ar _),rfl⟩
   case body =>
    rintro l pre y a' V hl af2 ⟨o5,ul,o6,h⟩ ⟨Bx,v,k1,TC,kb8,kne,rfl⟩ an
    obtain rfl:ul=v:=by
     have e1:=h.st.b8;unfold TB at e1 kb8;dsimp only[lbK]at e1
     rw[e1]at kb8;simpa using kb8
    have HYK:=y.2;obtain⟨gy,hyd,mu,hy2⟩:=(bO0 HOK.out.asc ji).mem y.1 HYK;have aiy:y.1.i<y.1.t:=by rcases gy.ne with h|h<;>omega
    have hyB:y.1.i<B.length:=by have:=gy.le;rw[cK]at this;omega
    obtain⟨sI,vs⟩:∃s,B[y.1.i]?=some s:=⟨_,Ag hyB⟩
    have hxd:x.d<sI.size:=by
     have:=gy.len y.1.i (Ad _) aiy
     rw[dY vs,dI,hyd]at this;omega
    have qq:qB (bls B) x y.1=sI[x.d]:=by
     unfold qB;rw[dY vs,List.getD_eq_getElem?_getD,nR hxd];rfl
    clear hyd mu hy2 gy;obtain⟨sb,so,rfl,er⟩:=at1 (f:=λs:ByteArray=>Value.string s) (HAT.out.grows h.st.gr) (Ah (Af vs));have aiz:sb<s:=by rw[HS.out];exact HA.out _ rfl
    have HPL:Hid (pre.length+offA (bls B) i<6000000/\(shapeL (bls B) ((nodesA (bls B)).take i)).length<=2000000/\(labelsL (bls B) ((nodesA (bls B)).take i)).length<=1000000):=by
     have h1:=HOK.out.off_le (i+1);rw[iO HX.out]at h1;have h2:=HOK.out.many (by rw[cK];exact hB_);have h3:=fC (bls B) i (by have:=(List.getElem?_eq_some_iff.1 HX.out).1;omega);have h4:=pF0 (bls B) i;have h5:=HO.out;show _/\_/\_
     omega
    have c6:V.cell? ⟨b6,0,none⟩=some o5:=by rw[HB6.out];exact h.st.b6.cell rfl
    obtain⟨Ls,hLs⟩:=exq (shapeL (bls B) ((nodesA (bls B)).take i)++Ab (pre.map (λy=>y.1)).length true);obtain⟨Ll,hLl⟩:=exq (labelsL (bls B) ((nodesA (bls B)).take i)++(pre.map (λy=>y.1)).map (qB (bls B) x));obtain⟨La,hLa⟩:=exq (fD (rootS (bls B)) (fQ (bls B)) (nodesA (bls B)) i++pre.map (λy=>y.1));have oS:aV V s 4 1 rT o5 Ls:=by rw[hLs];exact h.st.oS
    have ae6:Ls.length+1<=9000000/\Ll.length+1<=9000000/\La.length+1<=9000000:=by
     have:=HPL.out
     rw[hLs,hLl,hLa];simp only[Ai,Ap,Ao];have e1:(fD (rootS (bls B)) (fQ (bls B)) (nodesA (bls B)) i).length=offA (bls B) i:=rfl;omega
    have HLS:=Aa hLs;have HLL:=Aa hLl;have HLA:=Aa hLa;clear hLs hLl hLa;have hsV:s<=V.heap.size:=Ae hxk.2.2.2.2 h.sz;dsimp only[aC0]
    refine wpIn_block ?_;refine wpIn_seq_k λK1 hK1=>?_;refine kW1 (by rintro⟨_,_,h⟩;exact h) (by kernel_rfl) ?_;go_wp2_with (at_builtin;refine dE aS0 rfl _ _ rfl s o5 _ true rfl oS (Grows.refl _) _ 1 rfl #[.bool true] rfl rfl (by omega) hsV ?_;intro v5 w5 ho5 bg hf5 _;obtain⟨g5,p5,rfl⟩:=qK ho5;have xz:=h.pushS ho5 bg hf5;have c6b:w5.cell? ⟨b6,0,none⟩=some o5:=(by rw[HB6.out];exact xz.2.2.2.cell rfl);have f6b:w5.frozen? ⟨b6,0,none⟩=false:=(by rw[HB6.out];exact xz.2.2.2.froz 0))
    obtain⟨V2,o0⟩:=exq (w5.setCell ⟨b6,0,none⟩ (.slice (some ⟨g5,0,none⟩) (Ls.length+1) p5));have J5:=xz.1;have KF5:=xz.2.1;have TC2:=xz.2.2.1 _ _ TC;rw[<-HB6.out,<-o0]at J5 KF5 TC2;rw[<-o0];clear xz o0 c6 c6b f6b oS ho5 bg hf5 TC kb8 er;have J5d:=J5.dr;have q4:V2.drew.cell? ⟨b4,0,none⟩=some (.pointer (some ⟨b3,0,none⟩)):=by rw[HB4.out,HB3.out];exact J5d.st.b4.cell rfl
    have q3:V2.drew.cell? ⟨b3,2,none⟩=some o6:=by rw[HB3.out];exact J5d.st.b2.cell rfl
    have q1:V2.drew.cell? ⟨s,0,none⟩=some (.slice (some ⟨sb,so,none⟩) B.length c):=J5d.st.b1.cell rfl;have qc:V2.drew.cell? ⟨Bx,0,none⟩=some (.int .i64 y.1.i):=(Grows.drew V2).cell (TC2.cell rfl);have qx:V2.drew.cell? ⟨xb,2,none⟩=some (.int .i64 x.d):=J5d.tx.cell rfl
    have qs:V2.drew.cell? ⟨sb,so+y.1.i,none⟩=some (.string sI):=by
     obtain⟨sb',so',e,er⟩:=at1 (f:=λs:ByteArray=>Value.string s) (HAT.out.grows J5d.st.gr) (Ah (Af vs));have e1:sb=sb'/\so=so':=by simpa using e
     rw[e1.1,e1.2];exact er _ _ vs
    obtain⟨T,hT⟩:∃T:Nat->Prop,T=λb=>b=b4\/b=b3\/b=s\/b=Bx\/b=xb\/b<s:=⟨_,rfl⟩;have TCd:TB V2.drew Bx #[.int .i64 y.1.i,.int .i64 y.1.t,.int .i64 y.1.d] 139:=TC2;have b4d:TB V2.drew b4 #[.pointer (some ⟨s+2,0,none⟩)] 67:=by rw[HB4.out];exact J5d.st.b4
    have b3d:TB V2.drew b3 #[.pointer none,.pointer none,o6,.pointer none,.slice (some ⟨s+1,0,none⟩) B.length B.length] 135:=by rw[HB3.out];exact J5d.st.b2
    have j6:∀b,T b->b<V2.drew.heap.size:=λb hb=>by
     rw[hT]at hb;rcases hb with rfl|rfl|rfl|rfl|rfl|hb
     ·exact b4d.lt
     ·exact b3d.lt
     ·exact J5d.st.b1.lt
     ·exact TCd.lt
     ·exact J5d.tx.lt
     ·have:=J5d.st.b1.lt;omega
    have hTr:∀b,T b->o6.ownBlock≠some b:=λb hb=>by
     have hr:RT V2.drew o6.ownBlock (some 5):=RT.own J5d.st.oL;rw[hT]at hb;rcases hb with rfl|rfl|rfl|rfl|rfl|hb
     ·exact b4d.ne_row hr (by decide)
     ·exact b3d.ne_row hr (by decide)
     ·exact J5d.st.b1.ne_row hr (by decide)
     ·exact TCd.ne_row hr (by decide)
     ·exact J5d.tx.ne_row hr (by decide)
     ·intro e
      have:=bB J5d.st.oL b e
      omega
    have z4:∀x:Ext (bT T) V2.drew,x.u.cell? ⟨b4,0,none⟩=some (.pointer (some ⟨b3,0,none⟩)):=gQ (by rw[hT];exact Or.inl rfl) q4;have z3:∀x:Ext (bT T) V2.drew,x.u.cell? ⟨b3,2,none⟩=some o6:=gQ (by rw[hT];exact Or.inr (Or.inl rfl)) q3;have z1:∀x:Ext (bT T) V2.drew,x.u.cell? ⟨s,0,none⟩=some (.slice (some ⟨sb,so,none⟩) B.length c):=gQ (by rw[hT];exact Or.inr (Or.inr (Or.inl rfl))) q1;have zc:∀x:Ext (bT T) V2.drew,x.u.cell? ⟨Bx,0,none⟩=some (.int .i64 y.1.i):=gQ (by rw[hT];exact Or.inr (Or.inr (Or.inr (Or.inl rfl)))) qc;have zx:∀z:Ext (bT T) V2.drew,z.u.cell? ⟨xb,2,none⟩=some (.int .i64 x.d):=gQ (by rw[hT];exact Or.inr (Or.inr (Or.inr (Or.inr (Or.inl rfl))))) qx;have zs:∀x:Ext (bT T) V2.drew,x.u.cell? ⟨sb,so+y.1.i,none⟩=some (.string sI):=gQ (by rw[hT];exact Or.inr (Or.inr (Or.inr (Or.inr (Or.inr aiz))))) qs;have hyi:(y.1.i:Int)<B.length:=by omega
    have aku:(x.d:Int)<sI.size:=by omega
    have HT:=Aa hT;clear hT q4 q3 q1 qc qx qs;refine wpIn_seq_k λK2 ml=>?_;refine lE1 (bT T) 15 (aU 15 [13,14]) (by rintro⟨_,_,h⟩;exact h) (by kernel_rfl) (bT.refl T) (oB T) (by kernel_rfl) (by kernel_rfl) (λd _ _ _ _ h=>by cases d<;>exact h) ?_
    iterate 13 (refine aG rfl (λK hK=>?_);go_simp;refine hK _ ?_;clear hK K)
    refine aZ rfl rfl (λK hK=>?_);go_simp;refine⟨bT.alloc j6 _,hK _ _ ?_⟩;clear hK K;refine aZ rfl rfl (λK hK=>?_);have oL:aV V2.drew s 5 1 aX o6 Ll:=by rw[HLL.out];exact J5d.st.oL
    refine aL1 bI _ _ rfl s o6 Ll sI[x.d] rfl oL V2.drew.heap.size 1 rfl #[.int .u8 (sI[x.d].toNat:Nat)] rfl rfl (by omega) (Ae hsV (Ae KF5.size (Ad _))) ?_;intro v6 w6 ho6 cg _;have hJ6:=J5d.pushL ho6 cg;obtain⟨g6,p6,rfl⟩:=qK ho6;refine⟨λb hb=>?_,hK _ _ ?_⟩
    ·have e1:=cg.block b (j6 b hb) (λe=>hTr b hb e.symm)
     have e2:=bT.alloc j6 (.cells #[.int .u8 (sI[x.d].toNat:Nat)] 5) b hb;rw[e1,<-e2];rfl
    clear hK K z4 z3 z1 zc zx zs;refine bH ?_;have c3b:w6.cell? ⟨b3,2,none⟩=some o6:=by rw[HB3.out];exact hJ6.2.2.2.cell rfl
    have f3b:w6.frozen? ⟨b3,2,none⟩=false:=by rw[HB3.out];exact hJ6.2.2.2.froz 2
    simp only[Aq,Au];go_wp2_with fail
    obtain⟨V3,me⟩:=exq (w6.setCell ⟨b3,2,none⟩ (.slice (some ⟨g6,0,none⟩) (Ll.length+1) p6));have J6:=hJ6.1;have KF6:=hJ6.2.1;have TC3:=hJ6.2.2.1 _ _ TCd;rw[<-HB3.out,<-me]at J6 KF6 TC3;rw[<-me];have ai0:s<=V3.heap.size:=Ae hxk.2.2.2.2 J6.sz;clear hJ6 me c3b f3b oL ho6 cg TCd b4d b3d j6 hTr J5d;have c8:V3.cell? ⟨b8,0,none⟩=some ul:=by rw[HB8.out];exact J6.st.b8.cell rfl
    have y0:V3.cell? ⟨Bx,0,none⟩=some (.int .i64 y.1.i):=TC3.cell rfl;have y1:V3.cell? ⟨Bx,1,none⟩=some (.int .i64 y.1.t):=TC3.cell rfl;have y2:V3.cell? ⟨Bx,2,none⟩=some (.int .i64 y.1.d):=TC3.cell rfl;have oA3:aV V3 s 139 3 dU0 ul La:=by rw[HLA.out];exact J6.st.oA
    refine kW1 (by rintro⟨_,_,h⟩;exact h) (by kernel_rfl) ?_;go_wp2_with (at_builtin;refine dE oJ0 rfl _ _ rfl s ul La y.1 rfl oA3 (Grows.refl _) _ 1 rfl #[.int .i64 y.1.i,.int .i64 y.1.t,.int .i64 y.1.d] rfl rfl (by omega) ai0 ?_;intro v7 w7 ho7 cw hf7 _;have hJ7:=J6.pushA ho7 cw hf7;obtain⟨g7,p7,rfl⟩:=qK ho7;have c8b:w7.cell? ⟨b8,0,none⟩=some ul:=(by rw[HB8.out];exact hJ7.2.2.cell rfl);have f8b:w7.frozen? ⟨b8,0,none⟩=false:=(by rw[HB8.out];exact hJ7.2.2.froz 0))
    have J7:=hJ7.1
    have E7:({ ({ ({ (lbK (bls B) i x (pre.map (λy=>y.1)) o5 ul o6 u7 u8) with vS:=.slice (some ⟨g5,0,none⟩) (Ls.length+1) p5,sh:=Ls++[true] }:BD) with vL:=.slice (some ⟨g6,0,none⟩) (Ll.length+1) p6,lab:=Ll++[sI[x.d]] }:BD) with vA:=.slice (some ⟨g7,0,none⟩) (La.length+1) p7,al:=La++[y.1] }:BD) =
      lbK (bls B) i x ((pre++[y]).map (λy=>y.1)) (.slice (some ⟨g5,0,none⟩) (Ls.length+1) p5) (.slice (some ⟨g7,0,none⟩) (La.length+1) p7) (.slice (some ⟨g6,0,none⟩) (Ll.length+1) p6) u7 u8:=by
     have e1:Ls++[true]=shapeL (bls B) ((nodesA (bls B)).take i)++Ab ((pre++[y]).map (λy=>y.1)).length true:=by
      rw[HLS.out,Al,Aj,Ai];show _++(Ab _ true++[true])=_++Ab (_+1) true
      rw[List.replicate_succ']
     have e2:Ll++[sI[x.d]]=labelsL (bls B) ((nodesA (bls B)).take i)++((pre++[y]).map (λy=>y.1)).map (qB (bls B) x):=by
      rw[HLL.out,Al,Aj,Aj,<-qq];rfl
     have e3:La++[y.1]=fD (rootS (bls B)) (fQ (bls B)) (nodesA (bls B)) i++(pre++[y]).map (λy=>y.1):=by
      rw[HLA.out,Al,Aj];rfl
     unfold lbK;simp only[e1,e2,e3]
    rw[E7]at J7;have KF7:=hJ7.2.1;rw[<-HB8.out]at J7 KF7;exact⟨((KF5.trans ((KeepsOthers.drew V2).from _)).trans KF6).trans KF7,h.keepB J7,_,_,_,J7⟩
   case stop =>
    rintro D c pre W _ _ h _;exact h.elim
   case done =>
    rintro D xs V hD hxs ⟨o5,ul,o6,J⟩ hKD;rw[hxs]at J
    have MK:Hid (mD V s (D::ds)):=⟨λD' hD'=>by
     rcases List.mem_cons.1 hD' with rfl|h
     ·exact⟨Ae hxk.2.2.2.2 hD,hKD⟩
     ·exact J.mks.at_ D' h,List.nodup_cons.2 ⟨λjf=>by have:=(Array.getElem?_eq_some_iff.1 (ze.at_ D jf).2).1;omega,ze.nodup⟩⟩
    have vu:=iO HX.out;obtain⟨N2,hN2⟩:=exq (offA (bls B) (i+1));obtain⟨aA',cA',af3,_,_,abh⟩:=J.st.oA.at_ oJ0.len;dsimp only[lbK]at af3
    subst af3
    have ni:(fD (rootS (bls B)) (fQ (bls B)) (nodesA (bls B)) i++fQ (bls B) x).length=N2:=by
     rw[Ai,hN2,vu];rfl
    have c8:V.cell? ⟨b8,0,none⟩=some (.slice aA' N2 cA'):=by
     rw[HB8.out,<-ni];exact J.st.b8.cell rfl
    have HN2:=Aa hN2;by_cases gk:524287<N2
    ·have ud:(524287:Int)<N2:=by omega
     clear abh ni hN2 vu;dsimp only[aC0]
     go_wp2_with fail
     refine qP (ds:=D::ds) (lo:=s) MK.out λw' fw eo mn=>⟨.tuple #[.pointer none,.int .i64 2],by simp[results,Tryz.results35,go_sem],λ_=>⟨rfl,cH0 J.st.gr MK.out HS.out fw eo mn⟩,λia=>?_⟩
     exfalso
     have h1:=HOK.out.off_le (i+1);have h2:=eX HOK.out.asc HOK.out.len;have h3:=HN2.out;omega
    ·have ud:¬(524287:Int)<N2:=by omega
     have hsV:s<=V.heap.size:=Ae hxk.2.2.2.2 J.sz;obtain⟨Ls,hLs⟩:=exq (shapeL (bls B) ((nodesA (bls B)).take i)++Ab (fQ (bls B) x).length true);have oS:aV V s 4 1 rT o5 Ls:=by rw[hLs];exact J.st.oS
     have akv:Ls.length+1<=9000000:=by
      have h3:=fC (bls B) i (by have:=(List.getElem?_eq_some_iff.1 HX.out).1;omega);have h5:=HO.out;rw[hLs,Ai,Ap];omega
     have HLS:=Aa hLs;have c6:V.cell? ⟨b6,0,none⟩=some o5:=by rw[HB6.out];exact J.st.b6.cell rfl
     have HLEN2:=Aa ni;have HOFF:=Aa vu;clear abh ni hN2 vu hLs;dsimp only[aC0]
     go_wp2_with (at_builtin;refine dE aS0 rfl _ _ rfl s o5 Ls false rfl oS (Grows.refl _) _ 1 rfl #[.bool false] rfl rfl (by omega) hsV ?_;intro v5 w5 ho5 bg hf5 _;have xz:=J.pushS ho5 bg hf5;obtain⟨g5,p5,rfl⟩:=qK ho5;have c6b:w5.cell? ⟨b6,0,none⟩=some o5:=(by rw[HB6.out];exact xz.2.2.2.cell rfl);have f6b:w5.frozen? ⟨b6,0,none⟩=false:=(by rw[HB6.out];exact xz.2.2.2.froz 0))
     have M6a:mD w5 s (D::ds):=MK.out.grown bg (MK.out.not_row (RT.own J.st.oS));have M6b:mD (w5.setCell ⟨s+5,0,none⟩ (.slice (some ⟨g5,0,none⟩) (Ls.length+1) p5)) s (D::ds):=M6a.grown (aJ _ _ _ _) (M6a.not_row xz.2.2.2.rt);obtain⟨V2,o0⟩:=exq (w5.setCell ⟨b6,0,none⟩ (.slice (some ⟨g5,0,none⟩) (Ls.length+1) p5));have J5:=xz.1;rw[<-HB6.out,<-o0]at M6b;have M6:Hid (mD V2.drew s (D::ds)):=⟨λE hE=>M6b.at_ E hE,M6b.nodup⟩;clear M6a M6b;rw[<-HB6.out,<-o0]at J5;rw[<-o0];clear xz o0 c6 c6b f6b oS ho5 bg hf5 c8;have ad2:s<=V2.drew.heap.size:=Ae hxk.2.2.2.2 J5.sz;have J5d:=J5.dr;have B6:=J5d.st;have TX6:=J5d.tx;obtain⟨Li,hLi⟩:=exq (isL (bls B) ((nodesA (bls B)).take i));obtain⟨Ld,hLd⟩:=exq (idsL (bls B) ((nodesA (bls B)).take i));have oI:aV V2.drew s 4 1 rT u7 Li:=by rw[hLi];exact B6.oI
     have ae6:Li.length+1<=9000000/\Ld.length+1<=9000000:=by
      have h1:=(List.getElem?_eq_some_iff.1 HX.out).1;rw[hLi,hLd];unfold isL idsL;rw[Ao,Ao];have h2:=List.length_filter_le (iP (bls B)) ((nodesA (bls B)).take i);have h3:((nodesA (bls B)).take i).length<=i:=by rw[List.length_take];omega
      omega
     have HLI:=Aa hLi;have HLD:=Aa hLd;have q0:=TX6.cell (o:=0) (v:=.int .i64 x.i) rfl;have q1:=TX6.cell (o:=1) (v:=.int .i64 x.t) rfl;have q2:=TX6.cell (o:=2) (v:=.int .i64 x.d) rfl;have qs:=B6.b1.cell (o:=0) (v:=.slice a B.length c) rfl;have z0:∀y:Ext Grows V2.drew,y.u.cell? ⟨xb,0,none⟩=some (.int .i64 x.i):=aB q0;have z1:∀y:Ext Grows V2.drew,y.u.cell? ⟨xb,1,none⟩=some (.int .i64 x.t):=aB q1;have z2:∀y:Ext Grows V2.drew,y.u.cell? ⟨xb,2,none⟩=some (.int .i64 x.d):=aB q2;have zs:∀y:Ext Grows V2.drew,y.u.cell? ⟨s,0,none⟩=some (.slice a B.length c):=aB qs;clear hLi hLd q0 q1 q2 qs;by_cases ga:x.i<x.t
     case neg =>
      have ai1:¬(x.i:Int)<x.t:=by omega
      have HH:Hid (iP (bls B) x=false):=by
       show _=_
       unfold iP;simp[ga]
      refine oK ?_;refine bE (aU 17 []) (by kernel_rfl) (λd _ _ _ _ h=>by cases d<;>exact h) ?_
      iterate 17 (refine aG rfl (λK hK=>?_);go_simp;refine hK _ ?_;clear hK K)
      refine bH ?_;simp only[gG];clear z0 z1 z2 zs;go_wp2_with (at_builtin;refine dE aS0 rfl _ _ rfl s u7 Li false rfl oI (Grows.refl _) _ 1 rfl #[.bool false] rfl rfl (by omega) ad2 ?_;intro v7 w7 ho7 cw hf7 _;have hB7:=B6.pushI ho7 cw hf7;have TX7:=TX6.keep cw (RT.own oI) (by decide);have M7:=Aa (M6.out.grown cw (M6.out.not_row (RT.own oI))))
      have BB:=kN0 HOK.out HX.out HH.out o5 u7 (.slice (some ⟨g5,0,none⟩) (Ls.length+1) p5) (.slice aA' (fD (rootS (bls B)) (fQ (bls B)) (nodesA (bls B)) i++fQ (bls B) x).length cA') o6 v7 u8;rw[<-HLS.out,<-HLI.out]at BB;have aaq:=Eq.mp (congrArg (Bst w w7 s B.length _) BB) hB7;exact hK (D::ds) ⟨_,_,_,_,_,_,_,_,_,_,_,_,_,_,_,_,_,_,_,_,_,_,_,_,_,_,_,_,_,_,_,_,_,_,_,_,_,_,_,_,_,_,_,_,_,_,_,_,_,_,_,_,_,_,_,_,_,_,_,_,_,_,_,_,_,_,_,_,_,_,_,_,_,_,_,_,_,_,_,_,_,_,_,_,_⟩ _ ⟨by go_num,by omega,M7.out,⟨_,_,_,aaq⟩,by have:=HN2.out;omega⟩
     case pos =>
      have hxB:x.i<B.length:=by have:=ji.le;rw[cK]at this;omega
      have ai1:(x.i:Int)<x.t:=by omega
      have akw:(x.i:Int)<B.length:=by omega
      obtain⟨sX,hsX⟩:∃s,B[x.i]?=some s:=⟨_,Ag hxB⟩;obtain⟨sb,so,rfl,er⟩:=at1 (f:=λs:ByteArray=>Value.string s) (HAT.out.grows B6.gr) (Ah (Af hsX));have zS:∀y:Ext Grows V2.drew,y.u.cell? ⟨sb,so+x.i,none⟩=some (.string sX):=aB (er _ _ hsX);by_cases hh:sX.size=x.d
      case neg =>
       have ws:((sX.size:Int)==x.d)=false:=by rw[beq_eq_false_iff_ne];omega
       have HH:Hid (iP (bls B) x=false):=by
        show _=_
        unfold iP;rw[dY hsX,dI];simp[hh]
       clear hh hsX er;refine oK ?_;refine bE (aU 17 []) (by kernel_rfl) (λd _ _ _ _ h=>by cases d<;>exact h) ?_
       iterate 17 (refine aG rfl (λK hK=>?_);go_simp;refine hK _ ?_;clear hK K)
       refine bH ?_;simp only[gG];clear z0 z1 z2 zs zS;go_wp2_with (at_builtin;refine dE aS0 rfl _ _ rfl s u7 Li false rfl oI (Grows.refl _) _ 1 rfl #[.bool false] rfl rfl (by omega) ad2 ?_;intro v7 w7 ho7 cw hf7 _;have hB7:=B6.pushI ho7 cw hf7;have TX7:=TX6.keep cw (RT.own oI) (by decide);have M7:=Aa (M6.out.grown cw (M6.out.not_row (RT.own oI))))
       have BB:=kN0 HOK.out HX.out HH.out o5 u7 (.slice (some ⟨g5,0,none⟩) (Ls.length+1) p5) (.slice aA' (fD (rootS (bls B)) (fQ (bls B)) (nodesA (bls B)) i++fQ (bls B) x).length cA') o6 v7 u8;rw[<-HLS.out,<-HLI.out]at BB;have aaq:=Eq.mp (congrArg (Bst w w7 s B.length _) BB) hB7;exact hK (D::ds) ⟨_,_,_,_,_,_,_,_,_,_,_,_,_,_,_,_,_,_,_,_,_,_,_,_,_,_,_,_,_,_,_,_,_,_,_,_,_,_,_,_,_,_,_,_,_,_,_,_,_,_,_,_,_,_,_,_,_,_,_,_,_,_,_,_,_,_,_,_,_,_,_,_,_,_,_,_,_,_,_,_,_,_,_,_,_⟩ _ ⟨by go_num,by omega,M7.out,⟨_,_,_,aaq⟩,by have:=HN2.out;omega⟩
      case pos =>
       have ws:((sX.size:Int)==x.d)=true:=by rw[hh];simp
       have HH:Hid (iP (bls B) x=true):=by
        show _=_
        unfold iP;rw[dY hsX,dI];simp[hh,ga]
       clear hh hsX er;refine oK ?_;refine bE (aU 17 []) (by kernel_rfl) (λd _ _ _ _ h=>by cases d<;>exact h) ?_
       iterate 17 (refine aG rfl (λK hK=>?_);go_simp;refine hK _ ?_;clear hK K)
       refine bH ?_;simp only[gG];clear z0 z1 z2 zs zS;go_wp2_with (at_builtin;refine dE aS0 rfl _ _ rfl s u7 Li true rfl oI (Grows.refl _) _ 1 rfl #[.bool true] rfl rfl (by omega) ad2 ?_;intro v7 w7 ho7 cw hf7 _;have hB7:=B6.pushI ho7 cw hf7;have TX7:=TX6.keep cw (RT.own oI) (by decide);have M7:=Aa (M6.out.grown cw (M6.out.not_row (RT.own oI))))
       have oN:=hB7.oN;have af4:(vJ (bls B) i).length=B.length:=by rw[jN1,cK]
       have af5:x.i<(vJ (bls B) i).length:=by rw[af4];omega
       obtain⟨ov,hov⟩:∃o,(vJ (bls B) i)[x.i]?=some o:=⟨_,Ag af5⟩;have cN:w7.cell? ⟨b2,x.i,none⟩=some (.int .i64 ov):=by rw[HB2.out];exact cU (f:=λn:Nat=>Value.int .i64 n) oN hov
       have hSN:=hB7.setN af5 i;have fN:w7.frozen? ⟨b2,x.i,none⟩=false:=by rw[HB2.out];exact hSN.1
       have z4:∀y:Ext Grows w7.drew,y.u.cell? ⟨b4,0,none⟩=some (.pointer (some ⟨b3,0,none⟩)):=aB (by rw[HB4.out,HB3.out];exact hB7.dr.b4.cell rfl);have z3:∀y:Ext Grows w7.drew,y.u.cell? ⟨b3,4,none⟩=some (.slice (some ⟨b2,0,none⟩) B.length B.length):=aB (by rw[HB3.out,HB2.out];exact hB7.dr.b2.cell rfl);have zx:∀y:Ext Grows w7.drew,y.u.cell? ⟨xb,0,none⟩=some (.int .i64 x.i):=aB ((Grows.drew w7).cell (TX7.cell rfl));clear oN hov af4;refine oK ?_;refine qA 8 (aU 8 []) (by kernel_rfl) (λd _ _ _ _ h=>by cases d<;>exact h) ?_
       iterate 8 (refine aG rfl (λK hK=>?_);go_simp;refine hK _ ?_;clear hK K)
       refine bH ?_;clear z4 z3 zx;simp only[Aq,Au];go_wp2_with fail
       simp only[gG];obtain⟨V8,hV8⟩:=exq ((w7.setCell ⟨b2,x.i,none⟩ (.int .i64 i)).drew);have B8:=hSN.2.dr;rw[<-HB2.out,<-hV8]at B8
       have M8:Hid (mD V8 s (D::ds)):=by
        have m2:=M7.out.grown (aJ w7 (s+1) x.i (.int .i64 i)) (M7.out.not_row (RT.own hB7.oN));rw[hV8,HB2.out];exact⟨λE hE=>m2.at_ E hE,m2.nodup⟩
       have cx8:V8.cell? ⟨xb,0,none⟩=some (.int .i64 x.i):=by
        rw[hV8,HB2.out];exact(TX7.keep (aJ w7 (s+1) x.i (.int .i64 i)) (RT.own hB7.oN) (by decide)).cell rfl
       have wx8:IntKind.u64.wrap (x.i:Int)=x.i:=by simp[IntKind.wrap,IntKind.bits,IntKind.signed];omega
       rw[<-hV8];have hs8:s<=V8.heap.size:=by rw[HS.out];exact B8.gr.size
       have oD:aV V8 s 144 1 kS u8 Ld:=by rw[HLD.out];exact B8.oD
       clear hSN hV8 cN fN;go_wp2_with (at_builtin;refine dE yQ0 rfl _ _ rfl s u8 Ld x.i rfl oD (Grows.refl _) _ 1 rfl #[.int .u64 x.i] rfl rfl (by omega) hs8 ?_;intro v9 w9 ho9 dz hf9 _;have hB9:=B8.pushD ho9 dz;have M9:=Aa (M8.out.grown dz (M8.out.not_row (RT.own oD))))
       have BB:=hC1 HOK.out HX.out HH.out o5 u7 u8 (.slice (some ⟨g5,0,none⟩) (Ls.length+1) p5) (.slice aA' (fD (rootS (bls B)) (fQ (bls B)) (nodesA (bls B)) i++fQ (bls B) x).length cA') o6 v7 v9;rw[<-HLS.out,<-HLI.out,<-HLD.out]at BB;have aaq:=Eq.mp (congrArg (Bst w w9 s B.length _) BB) hB9;exact hK (D::ds) ⟨_,_,_,_,_,_,_,_,_,_,_,_,_,_,_,_,_,_,_,_,_,_,_,_,_,_,_,_,_,_,_,_,_,_,_,_,_,_,_,_,_,_,_,_,_,_,_,_,_,_,_,_,_,_,_,_,_,_,_,_,_,_,_,_,_,_,_,_,_,_,_,_,_,_,_,_,_,_,_,_,_,_,_,_,_⟩ _ ⟨by go_num,by omega,M9.out,⟨_,_,_,aaq⟩,by have:=HN2.out;omega⟩
end
section
open Go Go.RowKit Go.Shelf
theorem vZ0 (B:List ByteArray) (a:Option Addr) (c:Nat) (w:World) (hB:B.length<=1099511627776) (di:∀s∈B,s.size<=1099511627776) (kw:nM0 (bls B)≠0) (ac:aF w a 1 (B.map stC)) :
  Calls Tryz.prog 35 #[.slice a B.length c] w λe w'=>e=.returned (.tuple #[.pointer none,.int .i64 (nM0 (bls B))])/\Grows w w':=by
 obtain⟨K,hK⟩:=exq (nM0 (bls B))
 have CK:Hid (∀u,Grows w u->Calls Tryz.prog 84 #[.slice a B.length c] u λe w'=>e=.returned (.int .i64 K)/\u=w'):=λu hg=>by
  rw[hK];exact sH0 B a c u hB di (ac.grows hg)
 rw[<-hK]at kw ⊢;have hKi:¬(K:Int)=0:=by omega
 clear ac di hK;go_enter Tryz.func35,Tryz.ntmps35
 go_wp2_with (go_at_call 84;refine(CK.out _ (Grows.alloc _ _)).mono ?_;rintro e w2 ⟨rfl,rfl⟩)
 exact bodyPost_ret (v:=.tuple #[.pointer none,.int .i64 K]) (by simp[results,Tryz.results35,go_sem]) rfl ⟨rfl,Grows.alloc _ _⟩
theorem xP (B:List ByteArray) (a:Option Addr) (c:Nat) (w:World) (hB:B.length<=1099511627776) (di:∀s∈B,s.size<=1099511627776) (ha:∀q,a=some q->q.block<w.heap.size) (ac:aF w a 1 (B.map stC)) :
  Calls Tryz.prog 35 #[.slice a B.length c] w λe w'=>Grows w w' /\
   ((dC (bls B)=0/\∃tb,e=.returned (.tuple #[.pointer (some ⟨tb,0,none⟩),.int .i64 0])/\eF w' tb (bls B)/\w.heap.size+2<=tb)\/(dC (bls B)≠0/\e=.returned (.tuple #[.pointer none,.int .i64 (dC (bls B))]))):=by
 by_cases kw:nM0 (bls B)=0
 ·have h1:¬20000<(bls B).length:=λh=>by unfold nM0 at kw;rw[if_pos h]at kw;cases kw
  have h2:nP (bls B)=false:=by
   unfold nM0 at kw;rw[if_neg h1]at kw
   cases h:nP (bls B) with
   | false=>rfl
   | true=>rw[h]at kw;cases kw
  have ah:=bX1 h2;have hl:B.length<=20000:=by rw[cK]at h1;omega
  have im:∀s∈B,s.size<=256:=λs hs=>by
   have:=ah.len (bl s) (by unfold bls;exact List.mem_map.2 ⟨s,hs,rfl⟩)
   rwa [dI]at this
  have hc:dC (bls B)=if 524287<eG (bls B) then 2 else 0:=by
   unfold dC;rw[if_neg h1,h2];rfl
  refine(aH1 B a c w kw ha hl im ah ac).mono ?_;rintro e w' ⟨k1,k2⟩;rcases Av 524287 (eG (bls B)) with h|h
  ·obtain⟨rfl,hg⟩:=k1 h
   rw[if_pos h]at hc;exact⟨hg,Or.inr ⟨by rw[hc];decide,by rw[hc];rfl⟩⟩
  ·obtain⟨rfl,ht,hg⟩:=k2 h
   rw[if_neg (by omega)]at hc;exact⟨hg,Or.inl ⟨hc,_,rfl,ht,Ad _⟩⟩
 ·have hc:dC (bls B)=nM0 (bls B):=by
   unfold dC nM0 at *;by_cases h1:20000<(bls B).length
   ·rw[if_pos h1,if_pos h1]
   ·rw[if_neg h1]at kw
    rw[if_neg h1,if_neg h1];by_cases h2:nP (bls B)=true
    ·rw[if_pos h2,if_pos h2]
    ·rw[if_neg h2]at kw
     exact absurd rfl kw
  refine(vZ0 B a c w hB di kw ac).mono ?_;rintro e w' ⟨rfl,hg⟩;exact⟨hg,Or.inr ⟨by rw[hc];exact kw,by rw[hc]⟩⟩
end
section
open Go Go.RowKit Go.Shelf
attribute [local go_sem] aM aK
structure GB (w0 w:World) (vP vD vS:Value) (P D:List Nat) (S:List ByteArray):Prop where
 p:aV w w0.heap.size 3 1 kG vP P
 d:aV w w0.heap.size 3 1 kG vD D
 s:aV w w0.heap.size 9 1 stC vS S
 pd:qG vP vD
 ps:qG vP vS
 ds:qG vD vS
 g:Grows w0 w
section
variable {w0 w w':World} {vP vD vS v':Value} {P D P' D':List Nat} {S:List ByteArray}
theorem GB.grows (h:GB w0 w vP vD vS P D S) (hg:Grows w w'):GB w0 w' vP vD vS P D S:=⟨h.p.grows hg,h.d.grows hg,h.s.grows hg,h.pd,h.ps,h.ds,h.g.tr hg⟩
theorem GB.appP (h:GB w0 w vP vD vS P D S) (ho:aV w' w0.heap.size 3 1 kG v' P') (hk:w.grownBy w' vP.ownBlock) (hf:vM w vP v'):GB w0 w' v' vD vS P' D S :=
 ⟨ho,gU h.d hk h.pd,gU h.s hk h.ps,h.pd.fresh (gO h.d) hf,h.ps.fresh (gO h.s) hf,h.ds,h.g.grown hk (bB h.p)⟩
theorem GB.appD (h:GB w0 w vP vD vS P D S) (ho:aV w' w0.heap.size 3 1 kG v' D') (hk:w.grownBy w' vD.ownBlock) (hf:vM w vD v'):GB w0 w' vP v' vS P D' S :=
 ⟨gU h.p hk h.pd.symm,ho,gU h.s hk h.ds,(h.pd.symm.fresh (gO h.p) hf).symm,h.ps,h.ds.fresh (gO h.s) hf,h.g.grown hk (bB h.d)⟩
theorem GB.ebP (h:GB w0 w vP vD vS P D S) (hk:w.grownBy w' vP.ownBlock):EB w0.heap.size w w' :=
 ⟨Below.grown (Below.refl _ _) hk h.g.size (bB h.p),hk.size⟩
theorem GB.ebD (h:GB w0 w vP vD vS P D S) (hk:w.grownBy w' vD.ownBlock):EB w0.heap.size w w' :=
 ⟨Below.grown (Below.refl _ _) hk h.g.size (bB h.d),hk.size⟩
theorem GB.newD (h:GB w0 w vP vD vS P D S):some w.heap.size≠vD.ownBlock:=λe=>Ar _ (gO h.d _ e.symm)
theorem GB.newP (h:GB w0 w vP vD vS P D S):some w.heap.size≠vP.ownBlock:=λe=>Ar _ (gO h.p _ e.symm)
theorem GB.setS {lb n c k:Nat} (h:GB w0 w vP vD (.slice (some ⟨lb,0,none⟩) n c) P D S) (hk:k<S.length) (y:ByteArray):w.frozen? ⟨lb,k,none⟩=false/\GB w0 (w.setCell ⟨lb,k,none⟩ (.string y)) vP vD (.slice (some ⟨lb,0,none⟩) n c) P D (S.set k y):=by
 obtain⟨h1,h2,h3⟩:=eC (f:=λs:ByteArray=>Value.string s) h.s hk y;have hg:=(Grows.refl w).grownBy_set lb k (.string y);exact⟨h1,gU (v:=.slice (some ⟨lb,0,none⟩) n c) h.p hg h.ps.symm,gU (v:=.slice (some ⟨lb,0,none⟩) n c) h.d hg h.ds.symm,h3,h.pd,h.ps,h.ds,h.g.set (show w0.heap.size<=lb from h2) _⟩
end
theorem oY1 (n:Nat) (W:World) (h1:1<=n) (hn:n<=1048576):(Instr.makeSlice 77 (.int .i64 1) (.int .i64 n)).run Tryz.prog W=.ok (.slice (some ⟨W.heap.size,0,none⟩) 1 n) (W.alloc (.cells (madeCells #[.int .i64 0] (n*1)) 3)):=by
 obtain⟨i,h1,h2,h3,h4⟩:=dZ1;have h:=run_make (P:=Tryz.prog) W 77 3 i (.int .i64 0) Tryz.underlying77 h1 h2 .i64 .i64 1 n (by omega) (by omega) (by rw[h4];omega) (by omega);rw[Am,h3]at h;exact h
theorem jP1 {w:World} {n:Nat} (h1:1<=n) (hn:n<=1048576):aV (w.alloc (.cells (madeCells #[.int .i64 0] (n*1)) 3)) w.heap.size 3 1 kG (.slice (some ⟨w.heap.size,0,none⟩) 1 n) [0]:=by
 refine⟨rfl,Or.inr ⟨w.heap.size,n,madeCells #[.int .i64 0] (n*1),rfl,Ad _,?_,h1,by unfold maxLen;omega,by rw[size_madeCells],?_⟩⟩
 ·show (w.heap.push _)[w.heap.size]?=_
  simp
 ·rw[toList_madeCells_one,List.take_replicate,show min (([0]:List Nat).length*1) (n*1)=1 by simp;omega]
  rfl
theorem mI1:∃i,Tryz.prog.info? 9=some i/\i.zero=some (.string ⟨#[]⟩)/\i.size=1/\i.bytes=16:=by
 have h:(Tryz.prog.info? 9).map (λi=>(i.zero,i.size,i.bytes))=some (some (.string ⟨#[]⟩),1,16):=by kernel_rfl
 cases hi:Tryz.prog.info? 9 with
 | none=>rw[hi]at h;cases h
 | some i =>
  rw[hi]at h;simp only[At,Option.some.injEq,Prod.mk.injEq]at h;exact⟨i,rfl,h.1,h.2.1,h.2.2⟩
theorem qK1 (n:Nat) (W:World) (hn:n<=1048576):(Instr.makeSlice 70 (.int .i64 n) (.int .i64 n)).run Tryz.prog W=.ok (.slice (some ⟨W.heap.size,0,none⟩) n n) (W.alloc (.cells (madeCells #[.string ⟨#[]⟩] (n*1)) 9)):=by
 obtain⟨i,h1,h2,h3,h4⟩:=mI1;have h:=run_make (P:=Tryz.prog) W 70 9 i (.string ⟨#[]⟩) Tryz.underlying70 h1 h2 .i64 .i64 n n (by omega) (Ax _) (by rw[h4];omega) (by omega);rw[Am,h3]at h;exact h
theorem nB1 {w:World} {n:Nat} (hn:n<=1048576):aV (w.alloc (.cells (madeCells #[.string ⟨#[]⟩] (n*1)) 9)) w.heap.size 9 1 stC (.slice (some ⟨w.heap.size,0,none⟩) n n) (Ab n ⟨#[]⟩) :=
 jJ (enc:=stC) (λ_=>rfl) (Ad _) (Ab n ⟨#[]⟩) (by
  rw[toList_madeCells_one,Ay];unfold stC;rw[nY,As]) (by simp) (by unfold maxLen;omega)
theorem pN1:∃i,Tryz.prog.info? 5=some i/\i.zero=some (.int .u8 0)/\i.size=1/\i.bytes=1:=by
 have h:(Tryz.prog.info? 5).map (λi=>(i.zero,i.size,i.bytes))=some (some (.int .u8 0),1,1):=by kernel_rfl
 cases hi:Tryz.prog.info? 5 with
 | none=>rw[hi]at h;cases h
 | some i =>
  rw[hi]at h;simp only[At,Option.some.injEq,Prod.mk.injEq]at h;exact⟨i,rfl,h.1,h.2.1,h.2.2⟩
theorem rT1 (n:Nat) (W:World) (hn:n<=1048576):(Instr.makeSlice 36 (.int .i64 n) (.int .i64 n)).run Tryz.prog W=.ok (.slice (some ⟨W.heap.size,0,none⟩) n n) (W.alloc (.cells (madeCells #[.int .u8 0] (n*1)) 5)):=by
 obtain⟨i,h1,h2,h3,h4⟩:=pN1;have h:=run_make (P:=Tryz.prog) W 36 5 i (.int .u8 0) Tryz.underlying36 h1 h2 .i64 .i64 n n (by omega) (Ax _) (by rw[h4];omega) (by omega);rw[Am,h3]at h;exact h
theorem pJ1 {w:World} {n:Nat} (hn:n<=1048576):aV (w.alloc (.cells (madeCells #[.int .u8 0] (n*1)) 5)) w.heap.size 5 1 aX (.slice (some ⟨w.heap.size,0,none⟩) n n) (Ab n 0) :=
 jJ (enc:=aX) (λ_=>rfl) (Ad _) (Ab n 0) (by
  rw[toList_madeCells_one,Ay];unfold aX;rw[nY,As];rfl) (by simp) (by unfold maxLen;omega)
theorem OkL.ids_len {L:List (List UInt8)} (h:OkL L):(idsL L (nodesA L)).length=L.length:=by
 have hm:∀n∈idsL L (nodesA L),n<L.length:=λn hn=>by
  unfold idsL at hn;obtain⟨x,hx,rfl⟩:=List.mem_map.1 hn;have hh:=(List.mem_filter.1 hx).2;have hg:=nM h.asc (List.mem_filter.1 hx).1;unfold iP at hh;simp only[Bool.and_eq_true,decide_eq_true_eq]at hh
  have:=hg.le
  omega
 have hn:(idsL L (nodesA L)).Nodup:=by
  unfold idsL;rw[List.nodup_iff_pairwise_ne,List.pairwise_map]
  have hp:((nodesA L).filter (iP L)).Pairwise (λx y=>x∈nodesA L/\y∈nodesA L/\iP L x=true/\iP L y=true/\tM0 x y):=by
   have h1:=(jH h.asc).filter (iP L);refine List.Pairwise.imp_of_mem (λ{a b} ha hb fi=>?_) h1;exact⟨(List.mem_filter.1 ha).1,(List.mem_filter.1 hb).1,(List.mem_filter.1 ha).2,(List.mem_filter.1 hb).2,fi⟩
  refine hp.imp λ{x y} ⟨hx,hy,h1,h2,hb⟩ e=>?_;have gx:=nM h.asc hx;have gy:=nM h.asc hy;have a:=(qU h.asc gx h.pos x.i).2 ⟨h1,rfl⟩;have b:=(qU h.asc gy h.pos y.i).2 ⟨h2,rfl⟩;rw[e,b]at a
  have:=gy.inj h.asc gx (Option.some.inj a)
  subst this;rcases hb with hb|hb<;>omega
 have h1:=dJ hn (l':=List.range L.length) λn hx=>List.mem_range.2 (hm n hx)
 have h2:=dJ (List.nodup_range (n:=L.length)) (l':=idsL L (nodesA L)) λj hj=>by
  obtain⟨i,x,hx,hh,tw⟩:=h.node (List.mem_range.1 hj);unfold idsL;exact List.mem_map.2 ⟨x,List.mem_filter.2 ⟨Af hx,hh⟩,tw⟩
 rw[List.length_range]at h1 h2;omega
end
end Go.Proofs.YtheiocndipepaaaGreatDoor
