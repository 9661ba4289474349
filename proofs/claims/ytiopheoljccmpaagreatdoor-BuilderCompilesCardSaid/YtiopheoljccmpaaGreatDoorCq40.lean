/- The texts Lb2 Lb5, one behind the other. -/
import Derived.Test.YtiopheoljccmpaaGreatDoorCq37
import Derived.Test.YtiopheoljccmpaaGreatDoorCq36
open Go.Lib renaming hid → Aa
open List renaming replicate → Ab,getElem?_eq_getElem → Ae,mem_of_getElem? → Af,ne_nil_of_mem → Ag,length_append → Ah,map_append → Aj,append_assoc → Al,length_map → An,length_replicate → Ao,drop_succ_cons → Ap,drop_zero → Aq
open Go.World renaming grownBy_alloc → Ac,size_alloc → Am
open Nat renaming le_trans → Ad,le_refl → Ai,lt_of_lt_of_le → Ak,lt_or_ge → Ar,zero_le → As
set_option maxHeartbeats 4000000
namespace Go.Proofs.YtiopheoljccmpaaGreatDoor
set_option maxRecDepth 100000
section
open Go Go.RowKit Go.Shelf
attribute [local go_sem] aM aP Oper.semAt_some
theorem dL1 (x:eA) (a:Option Addr) (m c:Nat) (w:World) :
  Calls Tryz.prog 91 #[hX0 x,.slice a m c] w λe w'=>e=.returned (.func (.func 152) #[] #[.pointer (some ⟨w.heap.size,0,none⟩),.pointer (some ⟨w.heap.size+1,0,none⟩)]) /\
   w'=(w.alloc (.cells #[.int .i64 x.i,.int .i64 x.t,.int .i64 x.d] 170)).alloc (.cells #[.slice a m c] 71):=by
 unfold hX0;have hmf:∀(fn:Fn) (first cap:Array Value) (w:World),(Instr.makeFunc fn first cap).run Tryz.prog w=.ok (.func fn first cap) w:=λ_ _ _ _=>rfl
 go_enter Tryz.func91,Tryz.ntmps91
 go_wp2_with fail
 go_ret;exact⟨rfl,rfl⟩
def lbD (L:List (List UInt8)) (i:Nat) (vS vA vL vI vD:Value) (nd:List Nat):BD :=
 { vS:=vS,vA:=vA,vL:=vL,vI:=vI,vD:=vD,sh:=shapeL L ((nodesA L).take i),al:=eF (rootS L) (fH L) (nodesA L) i,lab:=labelsL L ((nodesA L).take i),isl:=isL L ((nodesA L).take i),idl:=idsL L ((nodesA L).take i),nd:=nd }
def lbK (L:List (List UInt8)) (i:Nat) (x:eA) (ys:List eA) (vS vA vL vI vD:Value):BD :=
 { vS:=vS,vA:=vA,vL:=vL,vI:=vI,vD:=vD,sh:=shapeL L ((nodesA L).take i)++Ab ys.length true,al:=eF (rootS L) (fH L) (nodesA L) i++ys,lab:=labelsL L ((nodesA L).take i)++ys.map (pG L x),isl:=isL L ((nodesA L).take i),idl:=idsL L ((nodesA L).take i),nd:=tZ L i }
structure LbU where
 (u7 u8 u10 u11 u12 u13 u29 u30 u31 u32 u33 u34 u35 u36 u37 u38 u39 u40 u41 u42 u43 u44 u45 u46 u47 u48 u49 u50 u51 u52 u53 u54 u55 u56 u57 u58 u59 u60 u61 u62 u63 u64 u65 u66 u67 u68 u69 u70 u71 u72 u73 u74 u75 u76 u77 u78 u79 u80 u81 u82 u83 u84 u85 u86 u87 u88 u89 u90 u91 u92 u93 u94 u95 u96 u97 u98 u99 u100 u101 u102 u103 u104 u105 u106 u107:Value)
def yI (B:List ByteArray) (a:Option Addr) (c s b2 b3 b4 b5 b6 b7 b8:Nat) (ds:List Nat) (U:LbU):Act :=
 { tmps:=#[.slice a B.length c,.pointer (some ⟨s,0,none⟩),.pointer none,.int .i64 0,.int .i64 0,.pointer (some ⟨b4,0,none⟩),.pointer (some ⟨b6,0,none⟩),U.u7,U.u8,.pointer (some ⟨b8,0,none⟩),U.u10,U.u11,U.u12,U.u13,.slice a B.length c,.int .i64 0,.int .i64 0,.bool false,undef,.slice a B.length c,.int .i64 B.length,.slice (some ⟨b2,0,none⟩) B.length B.length,.agg #[.pointer none,.pointer none,.slice none 0 0,.pointer none,.slice (some ⟨b2,0,none⟩) B.length B.length],.pointer (some ⟨b3,0,none⟩),.slice (some ⟨b5,0,none⟩) 2 2,.slice a B.length c,.int .i64 B.length,.agg #[.int .i64 0,.int .i64 B.length,.int .i64 0],.slice (some ⟨b7,0,none⟩) 1 1,U.u29,U.u30,U.u31,U.u32,U.u33,U.u34,U.u35,U.u36,U.u37,U.u38,U.u39,U.u40,U.u41,U.u42,U.u43,U.u44,U.u45,U.u46,U.u47,U.u48,U.u49,U.u50,U.u51,U.u52,U.u53,U.u54,U.u55,U.u56,U.u57,U.u58,U.u59,U.u60,U.u61,U.u62,U.u63,U.u64,U.u65,U.u66,U.u67,U.u68,U.u69,U.u70,U.u71,U.u72,U.u73,U.u74,U.u75,U.u76,U.u77,U.u78,U.u79,U.u80,U.u81,U.u82,U.u83,U.u84,U.u85,U.u86,U.u87,U.u88,U.u89,U.u90,U.u91,U.u92,U.u93,U.u94,U.u95,U.u96,U.u97,U.u98,U.u99,U.u100,U.u101,U.u102,U.u103,U.u104,U.u105,U.u106,U.u107,undef,undef,undef,undef,undef,undef,undef,undef,undef,undef,undef,undef,undef,undef,undef,undef,undef,undef,undef,undef,undef,undef,undef,undef,undef],defers:=xW0 ds }
theorem hF0 {L:List (List UInt8)} {i:Nat} {x:eA} (be:OkL L) (hx:(nodesA L)[i]?=some x) (hh:lQ L x=false) (vS0 vI0 vS vA vL vI vD:Value) :
  ({ ({ (lbK L i x (fH L x) vS0 vA vL vI0 vD) with vS:=vS,sh:=(shapeL L ((nodesA L).take i)++Ab (fH L x).length true)++[false] }:BD) with vI:=vI,isl:=isL L ((nodesA L).take i)++[false] }:BD)=lbD L (i+1) vS vA vL vI vD (tZ L (i+1)):=by
 have e:=aY hx;unfold lbK lbD;rw[e,iT,iW,wZ,gG,qJ hx,be.ndTo_succ hx,if_neg (by rw[hh];decide),if_neg (by rw[hh];decide),hh,List.append_nil]
theorem eD1 {L:List (List UInt8)} {i:Nat} {x:eA} (be:OkL L) (hx:(nodesA L)[i]?=some x) (hh:lQ L x=true) (vS0 vI0 vD0 vS vA vL vI vD:Value) :
  ({ ({ ({ ({ (lbK L i x (fH L x) vS0 vA vL vI0 vD0) with vS:=vS,sh:=(shapeL L ((nodesA L).take i)++Ab (fH L x).length true)++[false] }:BD) with vI:=vI,isl:=isL L ((nodesA L).take i)++[true] }:BD) with nd:=(tZ L i).set x.i i }:BD) with vD:=vD,idl:=idsL L ((nodesA L).take i)++[x.i] }:BD)=lbD L (i+1) vS vA vL vI vD (tZ L (i+1)):=by
 have e:=aY hx;unfold lbK lbD;rw[e,iT,iW,wZ,gG,qJ hx,be.ndTo_succ hx,if_pos hh,if_pos hh,hh]
structure kA1 (B:List ByteArray) (a:Option Addr) (c:Nat) (w:World) (s i:Nat) (ds:List Nat) (U:LbU) (wr:World):Prop where
 u10:U.u10=.int .i64 i
 le:i<=524287
 marks:jL wr s ds
 st:∃vS vA vL,Bst w wr s B.length (.slice a B.length c) (lbD (bls B) i vS vA vL U.u7 U.u8 (tZ (bls B) i))
 off:nZ (bls B) i<=524287
theorem iL1 {B:List ByteArray} {a:Option Addr} {c:Nat} {w:World} {s b2 b3 b4 b5 b6 b7 b8:Nat} {P:Program} {code:Code} {Q:Exit->Act->World->Prop} {ds:List Nat} {U:LbU} {w0:World} (h0:kA1 B a c w s 0 ds U w0)
  (round:∀(i:Nat) (ds:List Nat) (U:LbU) (wr:World),kA1 B a c w s i ds U wr->∀K:Act->World->Prop,(∀ds' U' w',kA1 B a c w s (i+1) ds' U' w'->K (yI B a c s b2 b3 b4 b5 b6 b7 b8 ds' U') w')->code.wp P (Exit.then K Q) (yI B a c s b2 b3 b4 b5 b6 b7 b8 ds U) wr) :
  (Code.loop code).wp P Q (yI B a c s b2 b3 b4 b5 b6 b7 b8 ds U) w0:=by
 refine wp_loop (λa' wr=>∃i ds U,a'=yI B a c s b2 b3 b4 b5 b6 b7 b8 ds U/\kA1 B a c w s i ds U wr) (λa' _=>600000-(intOf (a'.tmps.getD 10 undef)).toNat) ⟨0,ds,U,rfl,h0⟩ ?_;rintro a' wr ⟨i,ds,U,rfl,h⟩;refine round i ds U wr h _ (λds' U' w' h'=>⟨⟨i+1,ds',U',rfl,h'⟩,?_⟩);have e1:(yI B a c s b2 b3 b4 b5 b6 b7 b8 ds U).tmps.getD 10 undef=U.u10:=rfl;have e2:(yI B a c s b2 b3 b4 b5 b6 b7 b8 ds' U').tmps.getD 10 undef=U'.u10:=rfl;rw[e1,e2,h.u10,h'.u10]
 have:=h.le
 simp[intOf];omega
theorem yX0 (B:List ByteArray) (a:Option Addr) (c:Nat) (w:World) (qk:kV0 (bls B)=0) (ha:∀q,a=some q->q.block<w.heap.size) (hB_:B.length<=20000) (dm:∀s∈B,s.size<=256) (be:OkL (bls B)) (ah:aF w a 1 (B.map stC)) :
  Calls Tryz.prog 34 #[.slice a B.length c] w λe w' =>
   (524287<dF (bls B)->e=.returned (.tuple #[.pointer none,.int .i64 2])/\aB w w') /\
   (dF (bls B)<=524287->e=.returned (.tuple #[.pointer (some ⟨w.heap.size+2,0,none⟩),.int .i64 0])/\qT w' (w.heap.size+2) (bls B)/\aB w w'):=by
 have CK:Hid (∀u,aB w u->Calls Tryz.prog 90 #[.slice a B.length c] u λe w'=>e=.returned (.int .i64 0)/\u=w'):=λu hg=>by
  have h:=oR0 B a c u (by omega) (λs hs=>by have:=dm s hs;omega) (ah.grows hg);rw[qk]at h;exact h
 have HAT:=Aa ah;have HA:=Aa ha;have HSZ:=Aa dm;have HOK:=Aa be;clear ah ha dm be qk;refine(callsIn_wide (n:=12)).1 (callsIn_of_wp_marks Tryz.func34 rfl trivial (wpIn_wide.2 ?_));simp only[Tryz.ntmps34,List.size_toArray,List.length_cons,List.length_nil,Nat.reduceAdd,Nat.reduceSub,Array.replicate_succ,Array.replicate_zero,List.push_toArray,List.append_toArray,List.nil_append,List.cons_append];have ke:=λ(Y:World)=>bL1 B.length Y (by omega);go_wp2_with (go_at_call 90;refine(CK.out _ (aB.alloc _ _)).mono ?_;rintro e w2 ⟨rfl,rfl⟩)
 clear CK ke;obtain⟨s,hs⟩:=exq w.heap.size;obtain⟨b2,fp⟩:=exq (w.heap.size+1);obtain⟨b3,kn⟩:=exq (w.heap.size+1+1);obtain⟨b4,vx⟩:=exq (w.heap.size+1+1+1);obtain⟨b5,hb5⟩:=exq (w.heap.size+1+1+1+1);obtain⟨b6,hb6⟩:=exq (w.heap.size+1+1+1+1+1);obtain⟨b7,u9⟩:=exq (w.heap.size+1+1+1+1+1+1);obtain⟨b8,hb8⟩:=exq (w.heap.size+1+1+1+1+1+1+1);rw[<-hb8,<-u9,<-hb6,<-hb5,<-vx,<-kn,<-fp,<-hs]
 have BST:Hid (∃vS vA,Bst w ((((((((w.alloc (.cells #[.slice a B.length c] 71)).alloc (.cells (madeCells #[.int .i64 0] B.length) 3)).alloc (.cells #[.pointer none,.pointer none,.slice none 0 0,.pointer none,.slice (some ⟨b2,0,none⟩) B.length B.length] 167)).alloc
   (.cells #[.pointer (some ⟨b3,0,none⟩)] 94)).alloc (.cells #[.bool true,.bool false] 4)).alloc (.cells #[.slice (some ⟨b5,0,none⟩) 2 2] 121)).alloc (.cells #[.int .i64 0,.int .i64 B.length,.int .i64 0] 170)).alloc (.cells #[.slice (some ⟨b7,0,none⟩) 1 1] 171))
   s B.length (.slice a B.length c) (lbD (bls B) 0 vS vA (.slice none 0 0) (.slice none 0 0) (.slice none 0 0) (tZ (bls B) 0))):=by
  have h:=zN0 w B.length (.slice a B.length c) hB_ (b2:=b2) (b3:=b3) (b5:=b5) (b7:=b7) (by omega) (by omega) (by omega) (by omega);rw[<-hs]at h;refine⟨.slice (some ⟨b5,0,none⟩) 2 2,.slice (some ⟨b7,0,none⟩) 1 1,?_⟩
  have e:lbD (bls B) 0 (.slice (some ⟨b5,0,none⟩) 2 2) (.slice (some ⟨b7,0,none⟩) 1 1) (.slice none 0 0) (.slice none 0 0) (.slice none 0 0) (tZ (bls B) 0) =
    { vS:=.slice (some ⟨b5,0,none⟩) 2 2,vA:=.slice (some ⟨b7,0,none⟩) 1 1,vL:=.slice none 0 0,vI:=.slice none 0 0,vD:=.slice none 0 0,sh:=[true,false],al:=[⟨0,B.length,0⟩],lab:=[],isl:=[],idl:=[],nd:=Ab B.length 0 }:=by
   unfold lbD;rw[zJ0,cX]
   have e2:eF (rootS (bls B)) (fH (bls B)) (nodesA (bls B)) 0=[⟨0,B.length,0⟩]:=by
    unfold eF rootS;rw[cX];rfl
   rw[e2];rfl
  rw[e];exact h
 generalize ((((((((w.alloc (.cells #[.slice a B.length c] 71)).alloc (.cells (madeCells #[.int .i64 0] B.length) 3)).alloc (.cells #[.pointer none,.pointer none,.slice none 0 0,.pointer none,.slice (some ⟨b2,0,none⟩) B.length B.length] 167)).alloc
   (.cells #[.pointer (some ⟨b3,0,none⟩)] 94)).alloc (.cells #[.bool true,.bool false] 4)).alloc (.cells #[.slice (some ⟨b5,0,none⟩) 2 2] 121)).alloc (.cells #[.int .i64 0,.int .i64 B.length,.int .i64 0] 170)).alloc (.cells #[.slice (some ⟨b7,0,none⟩) 1 1] 171))=W0 at BST ⊢
 have HS:=Aa hs;have HB2:Hid (b2=s+1):=by rw[hs];exact fp
 have HB3:Hid (b3=s+2):=by rw[hs];exact kn
 have HB4:Hid (b4=s+3):=by rw[hs];exact vx
 have HB6:Hid (b6=s+5):=by rw[hs];exact hb6
 have HB8:Hid (b8=s+7):=by rw[hs];exact hb8
 clear hs fp kn vx hb5 hb6 u9 hb8;refine iL1 (w:=w) (ds:=[]) (U:={ u7:=.slice none 0 0,u8:=.slice none 0 0,u10:=.int .i64 0,u11:=undef,u12:=undef,u13:=undef,u29:=undef,u30:=undef,u31:=undef,u32:=undef,u33:=undef,u34:=undef,u35:=undef,u36:=undef,u37:=undef,u38:=undef,u39:=undef,u40:=undef,u41:=undef,u42:=undef,u43:=undef,u44:=undef,u45:=undef,u46:=undef,u47:=undef,u48:=undef,u49:=undef,u50:=undef,u51:=undef,u52:=undef,u53:=undef,u54:=undef,u55:=undef,u56:=undef,u57:=undef,u58:=undef,u59:=undef,u60:=undef,u61:=undef,u62:=undef,u63:=undef,u64:=undef,u65:=undef,u66:=undef,u67:=undef,u68:=undef,u69:=undef,u70:=undef,u71:=undef,u72:=undef,u73:=undef,u74:=undef,u75:=undef,u76:=undef,u77:=undef,u78:=undef,u79:=undef,u80:=undef,u81:=undef,u82:=undef,u83:=undef,u84:=undef,u85:=undef,u86:=undef,u87:=undef,u88:=undef,u89:=undef,u90:=undef,u91:=undef,u92:=undef,u93:=undef,u94:=undef,u95:=undef,u96:=undef,u97:=undef,u98:=undef,u99:=undef,u100:=undef,u101:=undef,u102:=undef,u103:=undef,u104:=undef,u105:=undef,u106:=undef,u107:=undef }) ?start ?round
 case start =>
  obtain⟨vS,vA,h⟩:=BST.out;exact⟨rfl,As _,jL.nil _ _,⟨vS,vA,_,h⟩,by rw[kB0];omega⟩
 case round =>
  rintro i ds ⟨u7,u8,u10,u11,u12,u13,u29,u30,u31,u32,u33,u34,u35,u36,u37,u38,u39,u40,u41,u42,u43,u44,u45,u46,u47,u48,u49,u50,u51,u52,u53,u54,u55,u56,u57,u58,u59,u60,u61,u62,u63,u64,u65,u66,u67,u68,u69,u70,u71,u72,u73,u74,u75,u76,u77,u78,u79,u80,u81,u82,u83,u84,u85,u86,u87,u88,u89,u90,u91,u92,u93,u94,u95,u96,u97,u98,u99,u100,u101,u102,u103,u104,u105,u106,u107⟩ wr ⟨hu,hi,hM,hB,hO⟩ K hK;simp only at hu;subst hu;dsimp only[yI]
  dsimp only at hB
  have HM:=Aa hM;have HO:=Aa hO;obtain⟨vS,vA,vL,hB⟩:=hB;obtain⟨aA,cA,hvA,_,_,aem⟩:=hB.oA.at_ mV0.len;simp only[lbD]at hvA;subst hvA;have ay:(eF (rootS (bls B)) (fH (bls B)) (nodesA (bls B)) i).length=nZ (bls B) i:=rfl;obtain⟨N1,hN1⟩:=exq (nZ (bls B) i);have c8:=hB.b8.cell (o:=0) rfl;simp only[lbD]at c8;rw[ay,<-hN1,<-HB8.out]at c8;have HBST:=Aa hB;have HN1:=Aa hN1;by_cases af:i<N1
  case neg =>
   have jk:¬(i:Int)<N1:=by omega
   have hNi:(nodesA (bls B)).length<=i:=by
    rcases Ar i (nodesA (bls B)).length with h|h
    ·have:=HOK.out.off_gt h;omega
    ·exact h
   have te:(nodesA (bls B)).take i=nodesA (bls B):=List.take_of_length_le hNi
   have ack:nZ (bls B) i=(nodesA (bls B)).length:=by
    unfold nZ eF;rw[te,<-HOK.out.fix]
   have aa0:dF (bls B)<=524287:=by
    rw[<-iP HOK.out.asc HOK.out.len,<-ack];exact hO
   obtain⟨z1,z2,z3,z4,z5⟩:=HOK.out.sizes (by rw[cX];exact hB_) aa0;obtain⟨aS,cS,hvS,_,_,ut⟩:=hB.oS.at_ (enc:=jJ) (λ_=>rfl);obtain⟨aI,cI,hvI,_,_,yb⟩:=hB.oI.at_ (enc:=jJ) (λ_=>rfl);obtain⟨aD,cD,hvD,_,_,ye⟩:=hB.oD.at_ (enc:=jR) (λ_=>rfl);simp only[lbD,te]at hvS hvI hvD ut yb ye;obtain⟨SH,hSH⟩:=exq (shapeL (bls B) (nodesA (bls B)));obtain⟨IS,hIS⟩:=exq (isL (bls B) (nodesA (bls B)));obtain⟨ID,hID⟩:=exq (idsL (bls B) (nodesA (bls B)));rw[<-hSH]at z1 ut hvS;rw[<-hIS]at z2 yb hvI;rw[<-hID]at z4 z5 ye hvD
   have EE:Hid (LbE w wr s #[.pointer none,.pointer none,vL,.pointer none,.slice (some ⟨s+1,0,none⟩) B.length B.length] vL (.slice (some ⟨s+1,0,none⟩) B.length B.length) u7 u8 (labelsL (bls B) (nodesA (bls B))) (kQ (bls B)) IS ID ds):=by
    have h2:=hB;unfold lbD at h2;rw[te,HOK.out.ndTo_all hNi]at h2;rw[hIS,hID];exact⟨h2.b4,h2.b2,h2.oL,h2.oN,h2.oI,h2.oD,hM,h2.gr⟩
   have c6:wr.cell? ⟨b6,0,none⟩=some vS:=by rw[HB6.out];exact hB.b6.cell rfl
   have agm:b6<wr.heap.size:=by rw[HB6.out];exact hB.b6.lt
   subst hvS;subst hvI;subst hvD;have hss:w.heap.size<=s:=by rw[HS.out];exact Ai _
   have HSH:=Aa hSH;have HIS:=Aa hIS;have HID:=Aa hID;have HZ5:=Aa z5;clear aem hM hO ay hNi te ack z3 z5 hSH hIS hID yb ye hN1 af hB;go_wp2_with fail
   have e4W:=EE.out.b4.gr (aB.drew wr);obtain⟨T,hT⟩:∃T:Nat->Prop,T=λb=>b=b4\/b=b6:=⟨_,rfl⟩
   have km:∀b,T b->b<wr.drew.heap.size:=λb hb=>by
    rw[hT]at hb;rcases hb with rfl|rfl
    ·rw[HB4.out];exact e4W.lt
    ·exact agm
   have hT3:¬T b3:=λh=>by
    rw[hT]at h;have e3:=HB3.out;have e4:=HB4.out;have e6:=HB6.out;rcases h with h|h<;>omega
   have x4:∀y:Ext (bV T) wr.drew,y.u.cell? ⟨b4,0,none⟩=some (.pointer (some ⟨b3,0,none⟩)):=gH (by rw[hT];exact Or.inl rfl) (by rw[HB4.out,HB3.out];exact e4W.cell rfl);have x6:∀y:Ext (bV T) wr.drew,y.u.cell? ⟨b6,0,none⟩=some (.slice aS SH.length cS):=gH (by rw[hT];exact Or.inr rfl) ((aB.drew wr).cell c6);have HT:=Aa hT;clear hT e4W;refine nH ?_;refine nF (bV T) (aT 9 [2,8]) (bV.refl T) (mV T) (by kernel_rfl) (by kernel_rfl) (λd _ _ _ _ h=>by cases d<;>exact h) ?_
   iterate 2 (refine aJ rfl (λK hK=>?_);go_simp;refine hK _ ?_;clear hK K)
   refine bM rfl rfl (λK hK=>?_);go_simp;refine(oS0 SH aS cS wr.drew z1 (ut.grows (aB.drew wr))).mono ?_;rintro e w1 ⟨rfl,lf,aq⟩;refine⟨bV.of_below aq km,hK _ _ ?_⟩;clear hK K;iterate 5 (refine aJ rfl (λK hK=>?_);go_simp;refine hK _ ?_;clear hK K)
   have E1:=(EE.out.grows (aB.drew wr)).grows aq;have c31:w1.cell? ⟨b3,0,none⟩=some (.pointer none):=by rw[HB3.out];exact E1.b3.cell rfl
   have f31:w1.frozen? ⟨b3,0,none⟩=false:=by rw[HB3.out];exact E1.b3.froz _
   refine bM rfl rfl (λK hK=>?_);go_simp;refine⟨bV.set hT3 _ _,hK _ _ ?_⟩;clear hK K;refine bN ?_;simp only[fJ];obtain⟨sb,wj⟩:=exq (wr.drew.heap.size+1);have e1s:=E1.set hss 0 (.pointer (some ⟨sb,0,none⟩))
   have ada:mZ (w1.setCell ⟨s+2,0,none⟩ (.pointer (some ⟨sb,0,none⟩))) sb SH:=by
    rw[<-wj]at lf
    exact kM lf (uX _ _ _ _) (λh=>by
     have h1:sb=s+2:=h;have h2:=EE.out.b3.lt;have h3:wr.drew.heap.size=wr.heap.size:=rfl;omega) (lT E1.b3)
   obtain⟨V1,hV1⟩:=exq (w1.setCell ⟨b3,0,none⟩ (.pointer (some ⟨sb,0,none⟩)));rw[<-HB3.out,<-hV1]at e1s ada;have h6a:b6<V1.heap.size:=by rw[hV1];simp;exact Ak agm (Ad (Ai _) aq.size)
   try rw[show wr.heap.size+1=sb from wj.symm]
   try rw[<-wj]
   try rw[<-hV1]
   clear hT3 km x4 x6 E1 c31 f31 lf aq hV1 wj HT T ut c6;go_wp2_with fail
   have e4W:=e1s.b4.gr (aB.drew V1);obtain⟨T,hT⟩:∃T:Nat->Prop,T=λb=>b=b4\/b=b6:=⟨_,rfl⟩
   have km:∀b,T b->b<V1.drew.heap.size:=λb hb=>by
    rw[hT]at hb;rcases hb with rfl|rfl
    ·rw[HB4.out];exact e4W.lt
    ·exact h6a
   have hT3:¬T b3:=λh=>by
    rw[hT]at h;have e3:=HB3.out;have e4:=HB4.out;have e6:=HB6.out;rcases h with h|h<;>omega
   have x4:∀y:Ext (bV T) V1.drew,y.u.cell? ⟨b4,0,none⟩=some (.pointer (some ⟨b3,0,none⟩)):=gH (by rw[hT];exact Or.inl rfl) (by rw[HB4.out,HB3.out];exact e4W.cell rfl);have HT:=Aa hT;clear hT e4W;refine nH ?_;refine nF (bV T) (aT 9 [2,8]) (bV.refl T) (mV T) (by kernel_rfl) (by kernel_rfl) (λd _ _ _ _ h=>by cases d<;>exact h) ?_
   iterate 2 (refine aJ rfl (λK hK=>?_);go_simp;refine hK _ ?_;clear hK K)
   refine bM rfl rfl (λK hK=>?_);go_simp;refine(oS0 IS aI cI V1.drew (by omega) (oY0 (λ_=>rfl) e1s.oI)).mono ?_;rintro e w2 ⟨rfl,ji,an⟩;refine⟨bV.of_below an km,hK _ _ ?_⟩;clear hK K;iterate 5 (refine aJ rfl (λK hK=>?_);go_simp;refine hK _ ?_;clear hK K)
   have E2:=(e1s.grows (aB.drew V1)).grows an;have c32:w2.cell? ⟨b3,1,none⟩=some (.pointer none):=by rw[HB3.out];exact E2.b3.cell rfl
   have f32:w2.frozen? ⟨b3,1,none⟩=false:=by rw[HB3.out];exact E2.b3.froz _
   refine bM rfl rfl (λK hK=>?_);go_simp;refine⟨bV.set hT3 _ _,hK _ _ ?_⟩;clear hK K;refine bN ?_;simp only[fJ];obtain⟨ib,hib⟩:=exq (V1.drew.heap.size+1);have e2s:=E2.set hss 1 (.pointer (some ⟨ib,0,none⟩))
   have adb:mZ (w2.setCell ⟨s+2,1,none⟩ (.pointer (some ⟨ib,0,none⟩))) ib IS:=by
    rw[<-hib]at ji
    exact kM ji (uX _ _ _ _) (λh=>by
     have h1:ib=s+2:=h;have h2:=e1s.b3.lt;have h3:V1.drew.heap.size=V1.heap.size:=rfl;omega) (lT E2.b3)
   have acl:sb≠s+2:=λh=>by
    have hc:=ada.c0;have h2:=e1s.b3;rw[h]at hc;have h3:=h2.cell (o:=0) (v:=.pointer (some ⟨sb,0,none⟩)) rfl;rw[hc]at h3;cases h3
   have aen:mZ (w2.setCell ⟨s+2,1,none⟩ (.pointer (some ⟨ib,0,none⟩))) sb SH:=kM ((ada.grows (aB.drew V1)).grows an) (uX _ _ _ _) acl (lT E2.b3);obtain⟨V2,qg⟩:=exq (w2.setCell ⟨b3,1,none⟩ (.pointer (some ⟨ib,0,none⟩)));rw[<-HB3.out,<-qg]at e2s adb aen;have h6b:b6<V2.heap.size:=by rw[qg];simp;exact Ak h6a (Ad (Ai _) an.size)
   try rw[show V1.heap.size+1=ib from hib.symm]
   try rw[<-hib]
   try rw[<-qg]
   clear hT3 km x4 E2 c32 f32 ji an qg hib HT T e1s ada;go_wp2_with fail
   have e4W:=e2s.b4.gr (aB.drew V2);obtain⟨T,hT⟩:∃T:Nat->Prop,T=λb=>b=b4\/b=b6:=⟨_,rfl⟩
   have km:∀b,T b->b<V2.drew.heap.size:=λb hb=>by
    rw[hT]at hb;rcases hb with rfl|rfl
    ·rw[HB4.out];exact e4W.lt
    ·exact h6b
   have hT3:¬T b3:=λh=>by
    rw[hT]at h;have e3:=HB3.out;have e4:=HB4.out;have e6:=HB6.out;rcases h with h|h<;>omega
   have x4:∀y:Ext (bV T) V2.drew,y.u.cell? ⟨b4,0,none⟩=some (.pointer (some ⟨b3,0,none⟩)):=gH (by rw[hT];exact Or.inl rfl) (by rw[HB4.out,HB3.out];exact e4W.cell rfl);have HT:=Aa hT;clear hT e4W;refine nH ?_;refine nF (bV T) (aT 9 [2,8]) (bV.refl T) (mV T) (by kernel_rfl) (by kernel_rfl) (λd _ _ _ _ h=>by cases d<;>exact h) ?_
   iterate 2 (refine aJ rfl (λK hK=>?_);go_simp;refine hK _ ?_;clear hK K)
   refine bM rfl rfl (λK hK=>?_);go_simp;refine(fX0 ID aD cD V2.drew (by omega) (λm hm=>by have:=HZ5.out m hm;omega) (oY0 (λ_=>rfl) e2s.oD)).mono ?_;rintro e w3 ⟨rfl,hv3,bu⟩;refine⟨bV.of_below bu km,hK _ _ ?_⟩;clear hK K;iterate 5 (refine aJ rfl (λK hK=>?_);go_simp;refine hK _ ?_;clear hK K)
   have E3:=(e2s.grows (aB.drew V2)).grows bu;have c33:w3.cell? ⟨b3,3,none⟩=some (.pointer none):=by rw[HB3.out];exact E3.b3.cell rfl
   have f33:w3.frozen? ⟨b3,3,none⟩=false:=by rw[HB3.out];exact E3.b3.froz _
   refine bM rfl rfl (λK hK=>?_);go_simp;refine⟨bV.set hT3 _ _,hK _ _ ?_⟩;clear hK K;refine bN ?_;simp only[fJ];obtain⟨pb,ma⟩:=exq V2.drew.heap.size;have tf:=E3.set hss 3 (.pointer (some ⟨pb,0,none⟩))
   have aeo:kR0 (w3.setCell ⟨s+2,3,none⟩ (.pointer (some ⟨pb,0,none⟩))) pb ID:=by
    rw[<-ma]at hv3
    exact nS0 hv3 (uX _ _ _ _) (λh=>by
     have h1:pb=s+2:=h;have h2:=e2s.b3.lt;have h3:V2.drew.heap.size=V2.heap.size:=rfl;omega) (lT E3.b3)
   have ae8:ib≠s+2:=λh=>by
    have hc:=adb.c0;have h2:=e2s.b3;rw[h]at hc;have h3:=h2.cell (o:=0) (v:=.pointer (some ⟨sb,0,none⟩)) rfl;rw[hc]at h3;cases h3
   have aep:mZ (w3.setCell ⟨s+2,3,none⟩ (.pointer (some ⟨pb,0,none⟩))) sb SH:=kM ((aen.grows (aB.drew V2)).grows bu) (uX _ _ _ _) acl (lT E3.b3);have aeq:mZ (w3.setCell ⟨s+2,3,none⟩ (.pointer (some ⟨pb,0,none⟩))) ib IS:=kM ((adb.grows (aB.drew V2)).grows bu) (uX _ _ _ _) ae8 (lT E3.b3);obtain⟨V3,hV3⟩:=exq (w3.setCell ⟨b3,3,none⟩ (.pointer (some ⟨pb,0,none⟩)));rw[<-HB3.out,<-hV3]at tf aeo aeq aep;have c4f:V3.cell? ⟨b4,0,none⟩=some (.pointer (some ⟨b3,0,none⟩)):=by rw[HB4.out,HB3.out];exact tf.b4.cell rfl
   try rw[show V2.heap.size=pb from ma.symm]
   try rw[<-ma]
   try rw[<-hV3]
   clear hT3 km x4 E3 c33 f33 hv3 bu hV3 ma HT T e2s aen adb;go_wp2_with fail
   refine oX (ds:=ds) (lo:=s) tf.mks λw' gh fp kn=>⟨.tuple #[.pointer (some ⟨b3,0,none⟩),.int .i64 0],by simp[results,Tryz.results34,go_sem],λda=>by omega,λ_=>⟨by rw[HB3.out,HS.out],?_,zM tf.gr tf.mks HS.out gh fp kn⟩⟩
   have ho:iT1 V3 w' (λk=>k∈ds):=gh
   have ce:∀(o:Nat) (v:Value),(#[.pointer (some ⟨sb,0,none⟩),.pointer (some ⟨ib,0,none⟩),vL,.pointer (some ⟨pb,0,none⟩),.slice (some ⟨s+1,0,none⟩) B.length B.length]:Array Value)[o]?=some v->w'.cell? ⟨s+2,o,none⟩=some v:=λo v hv=>by
    have hc:V3.cell? ⟨s+2,o,none⟩=some v:=tf.b3.cell hv;exact nK hc ho (sY tf.mks hc)
   rw[<-HS.out];have hb0:∀ {e:TypeId} {k:Nat} {α:Type} {enc:α->List Value} {v:Value} {xs:List α},aO V3 s e k enc v xs->aO w' 0 e k enc v xs:=λh=>(zK h ho (cO0 tf.mks _)).base (As _)
   exact⟨⟨sb,ce 0 _ rfl,by rw[<-HSH.out];exact kM aep ho (sY tf.mks aep.c0) (rR tf.mks)⟩,⟨ib,ce 1 _ rfl,by rw[<-HIS.out];exact kM aeq ho (sY tf.mks aeq.c0) (rR tf.mks)⟩,
    ⟨vL,ce 2 _ rfl,(zK tf.oL ho (cO0 tf.mks _)).base (show s+2-2<=s by omega)⟩,⟨pb,ce 3 _ rfl,by rw[<-HID.out];exact nS0 aeo ho (sY tf.mks aeo.c0) (rR tf.mks)⟩,⟨_,ce 4 _ rfl,hb0 tf.oN⟩⟩
  case pos =>
   have jk:(i:Int)<N1:=by omega
   have hiN:i<(nodesA (bls B)).length:=by have:=HOK.out.off_le i;omega
   obtain⟨x,hx⟩:∃x,(nodesA (bls B))[i]?=some x:=⟨_,Ae hiN⟩;have hxb:(eF (rootS (bls B)) (fH (bls B)) (nodesA (bls B)) i)[i]?=some x:=by rw[gY0 HOK.out.fix (by rw[ay];omega)];exact hx
   obtain⟨bA,oA,rfl,hcA⟩:=aF.get (enc:=bT0) aem (Ag (Af hxb));have e0:=hcA i x hxb 0 _ rfl;have e1:=hcA i x hxb 1 _ rfl;have e2:=hcA i x hxb 2 _ rfl;rw[Nat.add_zero]at e0;have ak6:N1<=524287:=by rw[hN1];exact hO
   have c1:∀o,(wr.alloc o).cell? ⟨s,0,none⟩=some (.slice a B.length c):=λo=>(hB.al o).b1.cell rfl;have HX:=Aa hx;clear aem hcA hx hxb hB hM hO hN1 ay;go_wp2_with (go_at_call 91;refine(dL1 x a B.length c _).mono ?_;rintro e w2 ⟨rfl,rfl⟩)
   have hB:=HBST.out;have kr:s<=wr.heap.size:=by rw[HS.out];exact hB.gr.size
   obtain⟨xb,hxb⟩:=exq wr.heap.size;obtain⟨kb,qv⟩:=exq (wr.heap.size+1);obtain⟨lb,yu⟩:=exq (wr.heap.size+1+1);rw[<-yu,<-qv,<-hxb];obtain⟨Wb,hWb⟩:=exq (((wr.alloc (.cells #[.int .i64 x.i,.int .i64 x.t,.int .i64 x.d] 170)).alloc (.cells #[.int .i64 x.i,.int .i64 x.t,.int .i64 x.d] 170)).alloc (.cells #[.slice a B.length c] 71));rw[<-hWb];have ai5:Wb.heap.size=wr.heap.size+1+1+1:=by rw[hWb];simp
   have TX:TB Wb xb #[.int .i64 x.i,.int .i64 x.t,.int .i64 x.d] 170:=by
    rw[hWb,hxb];exact((TB.alloc wr _ _).keep (Ac _ _ none) (RT.none _ _) (by decide:(Option.none:Option TypeId)≠_)).keep (Ac _ _ none) (RT.none _ _) (by decide:(Option.none:Option TypeId)≠_)
   have TK:TB Wb kb #[.int .i64 x.i,.int .i64 x.t,.int .i64 x.d] 170:=by
    rw[hWb,qv]
    have:=(TB.alloc (wr.alloc (.cells #[.int .i64 x.i,.int .i64 x.t,.int .i64 x.d] 170)) #[.int .i64 x.i,.int .i64 x.t,.int .i64 x.d] 170).keep (Ac _ (.cells #[.slice a B.length c] 71) none) (RT.none _ _) (by decide:(Option.none:Option TypeId)≠_)
    rwa [Am]at this
   have TL:TB Wb lb #[.slice a B.length c] 71:=by
    rw[hWb,yu]
    have:=TB.alloc ((wr.alloc (.cells #[.int .i64 x.i,.int .i64 x.t,.int .i64 x.d] 170)).alloc (.cells #[.int .i64 x.i,.int .i64 x.t,.int .i64 x.d] 170)) #[.slice a B.length c] 71
    rwa [Am,Am]at this
   have HBb:Hid (Bst w Wb s B.length (.slice a B.length c) (lbD (bls B) i vS (.slice (some ⟨bA,oA,none⟩) N1 cA) vL u7 u8 (tZ (bls B) i))):=by
    rw[hWb];have h:=((hB.al (.cells #[.int .i64 x.i,.int .i64 x.t,.int .i64 x.d] 170)).al (.cells #[.int .i64 x.i,.int .i64 x.t,.int .i64 x.d] 170)).al (.cells #[.slice a B.length c] 71);rw[show (eF (rootS (bls B)) (fH (bls B)) (nodesA (bls B)) i).length=N1 from HN1.out.symm]at h
    exact h
   have hMb:jL Wb s ds:=by
    rw[hWb];exact((HM.out.grown (row:=none) (Ac _ _ _) (λ_ _ e=>by cases e)).grown (row:=none) (Ac _ _ _) (λ_ _ e=>by cases e)).grown (row:=none) (Ac _ _ _) (λ_ _ e=>by cases e)
   have ae9:bA<wr.heap.size:=by
    have:=gP hB.oA bA rfl
    exact this
   have HHS:=Aa (show s<=wr.heap.size from kr)
   have hxk:bA≠xb/\bA≠kb/\kb<Wb.heap.size/\lb<Wb.heap.size/\s<=Wb.heap.size:=⟨by omega,by omega,by omega,by omega,by omega⟩;clear hxb qv yu ai5 kr ae9;clear hWb hB e0 e1 e2 c1 c8;obtain⟨S,hS⟩:∃S:Nat->Prop,S=λb=>b<s\/b=kb\/b=lb:=⟨_,rfl⟩
   have aer:∀b,S b->b<Wb.heap.size:=λb hb=>by
    rw[hS]at hb;rcases hb with h|h|h<;>omega
   have j4:=HOK.out.good HX.out;have hSW:∀q,a=some q->S q.block:=λq hq=>by rw[hS];exact Or.inl (by rw[HS.out];exact HA.out q hq)
   have ai6:aF Wb a 1 (B.map stC):=HAT.out.grows HBb.out.gr;have KS:=yP0 11 B a c kb lb x S Wb hB_ HSZ.out HOK.out.asc j4 (by rw[hS];exact Or.inr (Or.inl rfl)) (by rw[hS];exact Or.inr (Or.inr rfl)) hSW aer (TK.cell rfl) (TK.cell rfl) (TK.cell rfl) (TL.cell rfl) ai6;refine(wpIn_wide (n:=12)).1 ?_
   refine wpIn_rangeFunc_ownH (F:=Fence.wide) (n:=12) (α:=aE0 (bls B) x) rfl (by decide) (gf:=152) (lb:=#[.pointer (some ⟨kb,0,none⟩),.pointer (some ⟨lb,0,none⟩)]) rfl trivial (enters_of Tryz.func152 (by kernel_rfl) rfl) KS
    (λh k=>h.tr k) (λW l o o' hl ho hc hw b hb=>World.putObj_heap_other (λe=>by have:=aer b hb;omega)) (Below.refl _ _) (λ_=>rfl)
    (λpre W=>∃p4 ww p8,LbJ w s B.length (.slice a B.length c) ds xb kb lb Wb.heap.size x (lbK (bls B) i x (pre.map (λy=>y.1)) p4 ww p8 u7 u8) W)
    (λ_ _ _=>False) ?hI (λ_ _ _ _ _ h _ _=>h) ?h0
    (λy a' W=>∃Bx v,Wb.heap.size<=Bx/\TB W Bx #[.int .i64 y.1.i,.int .i64 y.1.t,.int .i64 y.1.d] 170/\TB W (s+7) #[v] 171/\v.ownBlock≠some Bx /\
     a'={ tmps:=(yI B a c s b2 b3 b4 b5 b6 b7 b8 ds { u7:=u7,u8:=u8,u10:=.int .i64 i,u11:=.pointer (some ⟨xb,0,none⟩),u12:=.pointer (some ⟨Bx,0,none⟩),u13:=u13,u29:=.int .i64 i,u30:=.slice (some ⟨bA,oA,none⟩) N1 cA,u31:=.int .i64 N1,u32:=.bool true,u33:=u33,u34:=u34,u35:=.slice (some ⟨bA,oA,none⟩) N1 cA,u36:=.int .i64 i,u37:=.pointer (some ⟨bA,oA+i*3,none⟩),u38:=.agg #[.int .i64 x.i,.int .i64 x.t,.int .i64 x.d],u39:=.agg #[.int .i64 x.i,.int .i64 x.t,.int .i64 x.d],u40:=.slice a B.length c,u41:=.func (.func 152) #[] #[.pointer (some ⟨kb,0,none⟩),.pointer (some ⟨lb,0,none⟩)],u42:=.agg #[.int .i64 y.1.i,.int .i64 y.1.t,.int .i64 y.1.d],u43:=u43,u44:=u44,u45:=u45,u46:=u46,u47:=u47,u48:=u48,u49:=u49,u50:=u50,u51:=u51,u52:=u52,u53:=u53,u54:=u54,u55:=u55,u56:=u56,u57:=u57,u58:=u58,u59:=u59,u60:=u60,u61:=u61,u62:=u62,u63:=u63,u64:=u64,u65:=u65,u66:=u66,u67:=u67,u68:=u68,u69:=u69,u70:=u70,u71:=u71,u72:=u72,u73:=u73,u74:=u74,u75:=u75,u76:=u76,u77:=u77,u78:=u78,u79:=u79,u80:=u80,u81:=u81,u82:=u82,u83:=u83,u84:=u84,u85:=u85,u86:=u86,u87:=u87,u88:=u88,u89:=u89,u90:=u90,u91:=u91,u92:=u92,u93:=u93,u94:=u94,u95:=u95,u96:=u96,u97:=u97,u98:=u98,u99:=u99,u100:=u100,u101:=u101,u102:=u102,u103:=u103,u104:=u104,u105:=u105,u106:=u106,u107:=u107 }).tmps,defers:=[] }) ?hAx ?assign ?body ?done ?stop
   case hI =>
    rintro pre V V' row ⟨p4,ww,p8,h⟩ hg hr;exact⟨p4,ww,p8,h.other hg (RT.of_not λq e=>(hr q e).2) (λq e=>by have:=(hr q e).1;omega) (λD hD e=>by have h1:=(hr D e).1;have h2:=(Array.getElem?_eq_some_iff.1 (hMb.at_ D hD).2).1;omega)⟩
   case h0 =>
    refine⟨vS,.slice (some ⟨bA,oA,none⟩) N1 cA,vL,?_,TX,TK,TL,λe=>?_,λe=>?_,hMb,Ai _⟩
    ·have h:=HBb.out
     simpa [lbD,lbK] using h
    ·have e1:some bA=some xb:=e
     exact hxk.1 (Option.some.inj e1)
    ·have e1:some bA=some kb:=e
     exact hxk.2.1 (Option.some.inj e1)
   case hAx =>
    rintro y a' _ V V' row ⟨Bx,v,k1,k2,k3,k4,k5⟩ hg hr;exact⟨Bx,v,k1,k2.keep hg (RT.of_not λq e=>(hr q e).2) (by decide),k3.keep hg (RT.of_not λq e=>(hr q e).2) (by decide),k4,k5⟩
   case assign =>
    rintro l pre y V K2 ⟨p4,ww,p8,h⟩ qp;dsimp only[hX0]
    gi_wp2
    exact qp _ _ ((KeepsOthers.alloc _ _).from _) (bV.alloc (λb hb=>Ak (aer b hb) h.sz) _) ⟨p4,ww,p8,h.al _⟩ ⟨V.heap.size,ww,h.sz,TB.alloc _ _ _,(h.al _).st.b8,λe=>absurd (gP h.st.oA _ e) (Nat.lt_irrefl _),rfl⟩
   case body =>
    rintro l pre y a' V hl af4 ⟨p4,ww,p8,h⟩ ⟨Bx,v,k1,TC,kb8,kne,rfl⟩ ay
    obtain rfl:ww=v:=by
     have e1:=h.st.b8;unfold TB at e1 kb8;dsimp only[lbK]at e1
     rw[e1]at kb8;simpa using kb8
    have HYK:=y.2;obtain⟨gy,hyd,rh,hy2⟩:=(yT HOK.out.asc j4).mem y.1 HYK;have ai7:y.1.i<y.1.t:=by rcases gy.ne with h|h<;>omega
    have hyB:y.1.i<B.length:=by have:=gy.le;rw[cX]at this;omega
    obtain⟨sI,yj⟩:∃s,B[y.1.i]?=some s:=⟨_,Ae hyB⟩
    have hxd:x.d<sI.size:=by
     have:=gy.len y.1.i (Ai _) ai7
     rw[dK yj,cJ,hyd]at this;omega
    have aa7:pG (bls B) x y.1=sI[x.d]:=by
     unfold pG;rw[dK yj,List.getD_eq_getElem?_getD,nR hxd];rfl
    clear hyd rh hy2 gy;obtain⟨sb,so,rfl,dz⟩:=at1 (f:=λs:ByteArray=>Value.string s) (HAT.out.grows h.st.gr) (Ag (Af yj));have ai8:sb<s:=by rw[HS.out];exact HA.out _ rfl
    have HPL:Hid (pre.length+nZ (bls B) i<6000000/\(shapeL (bls B) ((nodesA (bls B)).take i)).length<=2000000/\(labelsL (bls B) ((nodesA (bls B)).take i)).length<=1000000):=by
     have h1:=HOK.out.off_le (i+1);rw[mP HX.out]at h1;have h2:=HOK.out.many (by rw[cX];exact hB_);have h3:=fW (bls B) i (by have:=(List.getElem?_eq_some_iff.1 HX.out).1;omega);have h4:=mT0 (bls B) i;have h5:=HO.out;show _/\_/\_
     omega
    have c6:V.cell? ⟨b6,0,none⟩=some p4:=by rw[HB6.out];exact h.st.b6.cell rfl
    obtain⟨Ls,hLs⟩:=exq (shapeL (bls B) ((nodesA (bls B)).take i)++Ab (pre.map (λy=>y.1)).length true);obtain⟨Ll,hLl⟩:=exq (labelsL (bls B) ((nodesA (bls B)).take i)++(pre.map (λy=>y.1)).map (pG (bls B) x));obtain⟨La,hLa⟩:=exq (eF (rootS (bls B)) (fH (bls B)) (nodesA (bls B)) i++pre.map (λy=>y.1));have oS:aO V s 4 1 jJ p4 Ls:=by rw[hLs];exact h.st.oS
    have afa:Ls.length+1<=9000000/\Ll.length+1<=9000000/\La.length+1<=9000000:=by
     have:=HPL.out
     rw[hLs,hLl,hLa];simp only[Ah,Ao,An];have e1:(eF (rootS (bls B)) (fH (bls B)) (nodesA (bls B)) i).length=nZ (bls B) i:=rfl;omega
    have HLS:=Aa hLs;have HLL:=Aa hLl;have HLA:=Aa hLa;clear hLs hLl hLa;have hsV:s<=V.heap.size:=Ad hxk.2.2.2.2 h.sz;dsimp only[yI]
    refine wpIn_block ?_;refine wpIn_seq_k λK1 hK1=>?_;refine fC1 (by rintro⟨_,_,h⟩;exact h) (by kernel_rfl) ?_;go_wp2_with (at_builtin;refine aV fF rfl _ _ rfl s p4 _ true rfl oS (aB.refl _) _ 1 rfl #[.bool true] rfl rfl (by omega) hsV ?_;intro v5 w5 ho5 bg m8 _;obtain⟨g5,p5,rfl⟩:=mN ho5;have zo:=h.pushS ho5 bg m8;have c6b:w5.cell? ⟨b6,0,none⟩=some p4:=(by rw[HB6.out];exact zo.2.2.2.cell rfl);have f6b:w5.frozen? ⟨b6,0,none⟩=false:=(by rw[HB6.out];exact zo.2.2.2.froz 0))
    obtain⟨V2,qg⟩:=exq (w5.setCell ⟨b6,0,none⟩ (.slice (some ⟨g5,0,none⟩) (Ls.length+1) p5));have J5:=zo.1;have KF5:=zo.2.1;have TC2:=zo.2.2.1 _ _ TC;rw[<-HB6.out,<-qg]at J5 KF5 TC2;rw[<-qg];clear zo qg c6 c6b f6b oS ho5 bg m8 TC kb8 dz;have J5d:=J5.dr;have q4:V2.drew.cell? ⟨b4,0,none⟩=some (.pointer (some ⟨b3,0,none⟩)):=by rw[HB4.out,HB3.out];exact J5d.st.b4.cell rfl
    have q3:V2.drew.cell? ⟨b3,2,none⟩=some p8:=by rw[HB3.out];exact J5d.st.b2.cell rfl
    have q1:V2.drew.cell? ⟨s,0,none⟩=some (.slice (some ⟨sb,so,none⟩) B.length c):=J5d.st.b1.cell rfl;have qc:V2.drew.cell? ⟨Bx,0,none⟩=some (.int .i64 y.1.i):=(aB.drew V2).cell (TC2.cell rfl);have qx:V2.drew.cell? ⟨xb,2,none⟩=some (.int .i64 x.d):=J5d.tx.cell rfl
    have qs:V2.drew.cell? ⟨sb,so+y.1.i,none⟩=some (.string sI):=by
     obtain⟨sb',so',e,dz⟩:=at1 (f:=λs:ByteArray=>Value.string s) (HAT.out.grows J5d.st.gr) (Ag (Af yj));have e1:sb=sb'/\so=so':=by simpa using e
     rw[e1.1,e1.2];exact dz _ _ yj
    obtain⟨T,hT⟩:∃T:Nat->Prop,T=λb=>b=b4\/b=b3\/b=s\/b=Bx\/b=xb\/b<s:=⟨_,rfl⟩;have TCd:TB V2.drew Bx #[.int .i64 y.1.i,.int .i64 y.1.t,.int .i64 y.1.d] 170:=TC2;have b4d:TB V2.drew b4 #[.pointer (some ⟨s+2,0,none⟩)] 94:=by rw[HB4.out];exact J5d.st.b4
    have b3d:TB V2.drew b3 #[.pointer none,.pointer none,p8,.pointer none,.slice (some ⟨s+1,0,none⟩) B.length B.length] 167:=by rw[HB3.out];exact J5d.st.b2
    have km:∀b,T b->b<V2.drew.heap.size:=λb hb=>by
     rw[hT]at hb;rcases hb with rfl|rfl|rfl|rfl|rfl|hb
     ·exact b4d.lt
     ·exact b3d.lt
     ·exact J5d.st.b1.lt
     ·exact TCd.lt
     ·exact J5d.tx.lt
     ·have:=J5d.st.b1.lt;omega
    have hTr:∀b,T b->p8.ownBlock≠some b:=λb hb=>by
     have hr:RT V2.drew p8.ownBlock (some 5):=RT.own J5d.st.oL;rw[hT]at hb;rcases hb with rfl|rfl|rfl|rfl|rfl|hb
     ·exact b4d.ne_row hr (by decide)
     ·exact b3d.ne_row hr (by decide)
     ·exact J5d.st.b1.ne_row hr (by decide)
     ·exact TCd.ne_row hr (by decide)
     ·exact J5d.tx.ne_row hr (by decide)
     ·intro e
      have:=bF J5d.st.oL b e
      omega
    have z4:∀x:Ext (bV T) V2.drew,x.u.cell? ⟨b4,0,none⟩=some (.pointer (some ⟨b3,0,none⟩)):=gH (by rw[hT];exact Or.inl rfl) q4;have z3:∀x:Ext (bV T) V2.drew,x.u.cell? ⟨b3,2,none⟩=some p8:=gH (by rw[hT];exact Or.inr (Or.inl rfl)) q3;have z1:∀x:Ext (bV T) V2.drew,x.u.cell? ⟨s,0,none⟩=some (.slice (some ⟨sb,so,none⟩) B.length c):=gH (by rw[hT];exact Or.inr (Or.inr (Or.inl rfl))) q1;have zc:∀x:Ext (bV T) V2.drew,x.u.cell? ⟨Bx,0,none⟩=some (.int .i64 y.1.i):=gH (by rw[hT];exact Or.inr (Or.inr (Or.inr (Or.inl rfl)))) qc;have zx:∀z:Ext (bV T) V2.drew,z.u.cell? ⟨xb,2,none⟩=some (.int .i64 x.d):=gH (by rw[hT];exact Or.inr (Or.inr (Or.inr (Or.inr (Or.inl rfl))))) qx;have zs:∀x:Ext (bV T) V2.drew,x.u.cell? ⟨sb,so+y.1.i,none⟩=some (.string sI):=gH (by rw[hT];exact Or.inr (Or.inr (Or.inr (Or.inr (Or.inr ai8))))) qs;have hyi:(y.1.i:Int)<B.length:=by omega
    have ak7:(x.d:Int)<sI.size:=by omega
    have HT:=Aa hT;clear hT q4 q3 q1 qc qx qs;refine wpIn_seq_k λK2 qp=>?_;refine jM1 (bV T) 15 (aT 15 [13,14]) (by rintro⟨_,_,h⟩;exact h) (by kernel_rfl) (bV.refl T) (mV T) (by kernel_rfl) (by kernel_rfl) (λd _ _ _ _ h=>by cases d<;>exact h) ?_
    iterate 13 (refine aJ rfl (λK hK=>?_);go_simp;refine hK _ ?_;clear hK K)
    refine bM rfl rfl (λK hK=>?_);go_simp;refine⟨bV.alloc km _,hK _ _ ?_⟩;clear hK K;refine bM rfl rfl (λK hK=>?_);have oL:aO V2.drew s 5 1 aQ p8 Ll:=by rw[HLL.out];exact J5d.st.oL
    refine wV0 aR _ _ rfl s p8 Ll sI[x.d] rfl oL V2.drew.heap.size 1 rfl #[.int .u8 (sI[x.d].toNat:Nat)] rfl rfl (by omega) (Ad hsV (Ad KF5.size (Ai _))) ?_;intro v6 w6 ho6 de _;have hJ6:=J5d.pushL ho6 de;obtain⟨g6,p6,rfl⟩:=mN ho6;refine⟨λb hb=>?_,hK _ _ ?_⟩
    ·have e1:=de.block b (km b hb) (λe=>hTr b hb e.symm)
     have e2:=bV.alloc km (.cells #[.int .u8 (sI[x.d].toNat:Nat)] 5) b hb;rw[e1,<-e2];rfl
    clear hK K z4 z3 z1 zc zx zs;refine bN ?_;have c3b:w6.cell? ⟨b3,2,none⟩=some p8:=by rw[HB3.out];exact hJ6.2.2.2.cell rfl
    have f3b:w6.frozen? ⟨b3,2,none⟩=false:=by rw[HB3.out];exact hJ6.2.2.2.froz 2
    simp only[Ap,Aq];go_wp2_with fail
    obtain⟨V3,hV3⟩:=exq (w6.setCell ⟨b3,2,none⟩ (.slice (some ⟨g6,0,none⟩) (Ll.length+1) p6));have J6:=hJ6.1;have KF6:=hJ6.2.1;have TC3:=hJ6.2.2.1 _ _ TCd;rw[<-HB3.out,<-hV3]at J6 KF6 TC3;rw[<-hV3];have ai9:s<=V3.heap.size:=Ad hxk.2.2.2.2 J6.sz;clear hJ6 hV3 c3b f3b oL ho6 de TCd b4d b3d km hTr J5d;have c8:V3.cell? ⟨b8,0,none⟩=some ww:=by rw[HB8.out];exact J6.st.b8.cell rfl
    have y0:V3.cell? ⟨Bx,0,none⟩=some (.int .i64 y.1.i):=TC3.cell rfl;have y1:V3.cell? ⟨Bx,1,none⟩=some (.int .i64 y.1.t):=TC3.cell rfl;have y2:V3.cell? ⟨Bx,2,none⟩=some (.int .i64 y.1.d):=TC3.cell rfl;have oA3:aO V3 s 170 3 bT0 ww La:=by rw[HLA.out];exact J6.st.oA
    refine fC1 (by rintro⟨_,_,h⟩;exact h) (by kernel_rfl) ?_;go_wp2_with (at_builtin;refine aV mV0 rfl _ _ rfl s ww La y.1 rfl oA3 (aB.refl _) _ 1 rfl #[.int .i64 y.1.i,.int .i64 y.1.t,.int .i64 y.1.d] rfl rfl (by omega) ai9 ?_;intro v7 w7 we ck i9 _;have hJ7:=J6.pushA we ck i9;obtain⟨g7,p7,rfl⟩:=mN we;have c8b:w7.cell? ⟨b8,0,none⟩=some ww:=(by rw[HB8.out];exact hJ7.2.2.cell rfl);have f8b:w7.frozen? ⟨b8,0,none⟩=false:=(by rw[HB8.out];exact hJ7.2.2.froz 0))
    have J7:=hJ7.1
    have E7:({ ({ ({ (lbK (bls B) i x (pre.map (λy=>y.1)) p4 ww p8 u7 u8) with vS:=.slice (some ⟨g5,0,none⟩) (Ls.length+1) p5,sh:=Ls++[true] }:BD) with vL:=.slice (some ⟨g6,0,none⟩) (Ll.length+1) p6,lab:=Ll++[sI[x.d]] }:BD) with vA:=.slice (some ⟨g7,0,none⟩) (La.length+1) p7,al:=La++[y.1] }:BD) =
      lbK (bls B) i x ((pre++[y]).map (λy=>y.1)) (.slice (some ⟨g5,0,none⟩) (Ls.length+1) p5) (.slice (some ⟨g7,0,none⟩) (La.length+1) p7) (.slice (some ⟨g6,0,none⟩) (Ll.length+1) p6) u7 u8:=by
     have e1:Ls++[true]=shapeL (bls B) ((nodesA (bls B)).take i)++Ab ((pre++[y]).map (λy=>y.1)).length true:=by
      rw[HLS.out,Al,Aj,Ah];show _++(Ab _ true++[true])=_++Ab (_+1) true
      rw[List.replicate_succ']
     have e2:Ll++[sI[x.d]]=labelsL (bls B) ((nodesA (bls B)).take i)++((pre++[y]).map (λy=>y.1)).map (pG (bls B) x):=by
      rw[HLL.out,Al,Aj,Aj,<-aa7];rfl
     have e3:La++[y.1]=eF (rootS (bls B)) (fH (bls B)) (nodesA (bls B)) i++(pre++[y]).map (λy=>y.1):=by
      rw[HLA.out,Al,Aj];rfl
     unfold lbK;simp only[e1,e2,e3]
    rw[E7]at J7;have KF7:=hJ7.2.1;rw[<-HB8.out]at J7 KF7;exact⟨((KF5.trans ((KeepsOthers.drew V2).from _)).trans KF6).trans KF7,h.keepB J7,_,_,_,J7⟩
   case stop =>
    rintro D c pre W _ _ h _;exact h.elim
   case done =>
    rintro D xs V hD hxs ⟨p4,ww,p8,J⟩ hKD;rw[hxs]at J
    have MK:Hid (jL V s (D::ds)):=⟨λD' hD'=>by
     rcases List.mem_cons.1 hD' with rfl|h
     ·exact⟨Ad hxk.2.2.2.2 hD,hKD⟩
     ·exact J.mks.at_ D' h,List.nodup_cons.2 ⟨λjg=>by have:=(Array.getElem?_eq_some_iff.1 (hMb.at_ D jg).2).1;omega,hMb.nodup⟩⟩
    have pm:=mP HX.out;obtain⟨N2,hN2⟩:=exq (nZ (bls B) (i+1));obtain⟨aA',cA',agn,_,_,acm⟩:=J.st.oA.at_ mV0.len;dsimp only[lbK]at agn
    subst agn
    have qy:(eF (rootS (bls B)) (fH (bls B)) (nodesA (bls B)) i++fH (bls B) x).length=N2:=by
     rw[Ah,hN2,pm];rfl
    have c8:V.cell? ⟨b8,0,none⟩=some (.slice aA' N2 cA'):=by
     rw[HB8.out,<-qy];exact J.st.b8.cell rfl
    have HN2:=Aa hN2;by_cases da:524287<N2
    ·have zi:(524287:Int)<N2:=by omega
     clear acm qy hN2 pm;dsimp only[yI]
     go_wp2_with fail
     refine oX (ds:=D::ds) (lo:=s) MK.out λw' gh fp kn=>⟨.tuple #[.pointer none,.int .i64 2],by simp[results,Tryz.results34,go_sem],λ_=>⟨rfl,zM J.st.gr MK.out HS.out gh fp kn⟩,λo4=>?_⟩
     exfalso
     have h1:=HOK.out.off_le (i+1);have h2:=iP HOK.out.asc HOK.out.len;have h3:=HN2.out;omega
    ·have zi:¬(524287:Int)<N2:=by omega
     have hsV:s<=V.heap.size:=Ad hxk.2.2.2.2 J.sz;obtain⟨Ls,hLs⟩:=exq (shapeL (bls B) ((nodesA (bls B)).take i)++Ab (fH (bls B) x).length true);have oS:aO V s 4 1 jJ p4 Ls:=by rw[hLs];exact J.st.oS
     have ak8:Ls.length+1<=9000000:=by
      have h3:=fW (bls B) i (by have:=(List.getElem?_eq_some_iff.1 HX.out).1;omega);have h5:=HO.out;rw[hLs,Ah,Ao];omega
     have HLS:=Aa hLs;have c6:V.cell? ⟨b6,0,none⟩=some p4:=by rw[HB6.out];exact J.st.b6.cell rfl
     have HLEN2:=Aa qy;have HOFF:=Aa pm;clear acm qy hN2 pm hLs;dsimp only[yI]
     go_wp2_with (at_builtin;refine aV fF rfl _ _ rfl s p4 Ls false rfl oS (aB.refl _) _ 1 rfl #[.bool false] rfl rfl (by omega) hsV ?_;intro v5 w5 ho5 bg m8 _;have zo:=J.pushS ho5 bg m8;obtain⟨g5,p5,rfl⟩:=mN ho5;have c6b:w5.cell? ⟨b6,0,none⟩=some p4:=(by rw[HB6.out];exact zo.2.2.2.cell rfl);have f6b:w5.frozen? ⟨b6,0,none⟩=false:=(by rw[HB6.out];exact zo.2.2.2.froz 0))
     have M6a:jL w5 s (D::ds):=MK.out.grown bg (MK.out.not_row (RT.own J.st.oS));have M6b:jL (w5.setCell ⟨s+5,0,none⟩ (.slice (some ⟨g5,0,none⟩) (Ls.length+1) p5)) s (D::ds):=M6a.grown (aU _ _ _ _) (M6a.not_row zo.2.2.2.rt);obtain⟨V2,qg⟩:=exq (w5.setCell ⟨b6,0,none⟩ (.slice (some ⟨g5,0,none⟩) (Ls.length+1) p5));have J5:=zo.1;rw[<-HB6.out,<-qg]at M6b;have M6:Hid (jL V2.drew s (D::ds)):=⟨λE hE=>M6b.at_ E hE,M6b.nodup⟩;clear M6a M6b;rw[<-HB6.out,<-qg]at J5;rw[<-qg];clear zo qg c6 c6b f6b oS ho5 bg m8 c8;have aes:s<=V2.drew.heap.size:=Ad hxk.2.2.2.2 J5.sz;have J5d:=J5.dr;have B6:=J5d.st;have TX6:=J5d.tx;obtain⟨Li,hLi⟩:=exq (isL (bls B) ((nodesA (bls B)).take i));obtain⟨Ld,hLd⟩:=exq (idsL (bls B) ((nodesA (bls B)).take i));have oI:aO V2.drew s 4 1 jJ u7 Li:=by rw[hLi];exact B6.oI
     have afa:Li.length+1<=9000000/\Ld.length+1<=9000000:=by
      have h1:=(List.getElem?_eq_some_iff.1 HX.out).1;rw[hLi,hLd];unfold isL idsL;rw[An,An];have h2:=List.length_filter_le (lQ (bls B)) ((nodesA (bls B)).take i);have h3:((nodesA (bls B)).take i).length<=i:=by rw[List.length_take];omega
      omega
     have HLI:=Aa hLi;have HLD:=Aa hLd;have q0:=TX6.cell (o:=0) (v:=.int .i64 x.i) rfl;have q1:=TX6.cell (o:=1) (v:=.int .i64 x.t) rfl;have q2:=TX6.cell (o:=2) (v:=.int .i64 x.d) rfl;have qs:=B6.b1.cell (o:=0) (v:=.slice a B.length c) rfl;have z0:∀y:Ext aB V2.drew,y.u.cell? ⟨xb,0,none⟩=some (.int .i64 x.i):=aG q0;have z1:∀y:Ext aB V2.drew,y.u.cell? ⟨xb,1,none⟩=some (.int .i64 x.t):=aG q1;have z2:∀y:Ext aB V2.drew,y.u.cell? ⟨xb,2,none⟩=some (.int .i64 x.d):=aG q2;have zs:∀y:Ext aB V2.drew,y.u.cell? ⟨s,0,none⟩=some (.slice a B.length c):=aG qs;clear hLi hLd q0 q1 q2 qs;by_cases lg:x.i<x.t
     case neg =>
      have aja:¬(x.i:Int)<x.t:=by omega
      have HH:Hid (lQ (bls B) x=false):=by
       show _=_
       unfold lQ;simp[lg]
      refine nH ?_;refine bH (aT 17 []) (by kernel_rfl) (λd _ _ _ _ h=>by cases d<;>exact h) ?_
      iterate 17 (refine aJ rfl (λK hK=>?_);go_simp;refine hK _ ?_;clear hK K)
      refine bN ?_;simp only[fJ];clear z0 z1 z2 zs;go_wp2_with (at_builtin;refine aV fF rfl _ _ rfl s u7 Li false rfl oI (aB.refl _) _ 1 rfl #[.bool false] rfl rfl (by omega) aes ?_;intro v7 w7 we ck i9 _;have hB7:=B6.pushI we ck i9;have TX7:=TX6.keep ck (RT.own oI) (by decide);have M7:=Aa (M6.out.grown ck (M6.out.not_row (RT.own oI))))
      have BB:=hF0 HOK.out HX.out HH.out p4 u7 (.slice (some ⟨g5,0,none⟩) (Ls.length+1) p5) (.slice aA' (eF (rootS (bls B)) (fH (bls B)) (nodesA (bls B)) i++fH (bls B) x).length cA') p8 v7 u8;rw[<-HLS.out,<-HLI.out]at BB;have aby:=Eq.mp (congrArg (Bst w w7 s B.length _) BB) hB7;exact hK (D::ds) ⟨_,_,_,_,_,_,_,_,_,_,_,_,_,_,_,_,_,_,_,_,_,_,_,_,_,_,_,_,_,_,_,_,_,_,_,_,_,_,_,_,_,_,_,_,_,_,_,_,_,_,_,_,_,_,_,_,_,_,_,_,_,_,_,_,_,_,_,_,_,_,_,_,_,_,_,_,_,_,_,_,_,_,_,_,_⟩ _ ⟨by go_num,by omega,M7.out,⟨_,_,_,aby⟩,by have:=HN2.out;omega⟩
     case pos =>
      have hxB:x.i<B.length:=by have:=j4.le;rw[cX]at this;omega
      have aja:(x.i:Int)<x.t:=by omega
      have ak9:(x.i:Int)<B.length:=by omega
      obtain⟨sX,hsX⟩:∃s,B[x.i]?=some s:=⟨_,Ae hxB⟩;obtain⟨sb,so,rfl,dz⟩:=at1 (f:=λs:ByteArray=>Value.string s) (HAT.out.grows B6.gr) (Ag (Af hsX));have zS:∀y:Ext aB V2.drew,y.u.cell? ⟨sb,so+x.i,none⟩=some (.string sX):=aG (dz _ _ hsX);by_cases hh:sX.size=x.d
      case neg =>
       have y6:((sX.size:Int)==x.d)=false:=by rw[beq_eq_false_iff_ne];omega
       have HH:Hid (lQ (bls B) x=false):=by
        show _=_
        unfold lQ;rw[dK hsX,cJ];simp[hh]
       clear hh hsX dz;refine nH ?_;refine bH (aT 17 []) (by kernel_rfl) (λd _ _ _ _ h=>by cases d<;>exact h) ?_
       iterate 17 (refine aJ rfl (λK hK=>?_);go_simp;refine hK _ ?_;clear hK K)
       refine bN ?_;simp only[fJ];clear z0 z1 z2 zs zS;go_wp2_with (at_builtin;refine aV fF rfl _ _ rfl s u7 Li false rfl oI (aB.refl _) _ 1 rfl #[.bool false] rfl rfl (by omega) aes ?_;intro v7 w7 we ck i9 _;have hB7:=B6.pushI we ck i9;have TX7:=TX6.keep ck (RT.own oI) (by decide);have M7:=Aa (M6.out.grown ck (M6.out.not_row (RT.own oI))))
       have BB:=hF0 HOK.out HX.out HH.out p4 u7 (.slice (some ⟨g5,0,none⟩) (Ls.length+1) p5) (.slice aA' (eF (rootS (bls B)) (fH (bls B)) (nodesA (bls B)) i++fH (bls B) x).length cA') p8 v7 u8;rw[<-HLS.out,<-HLI.out]at BB;have aby:=Eq.mp (congrArg (Bst w w7 s B.length _) BB) hB7;exact hK (D::ds) ⟨_,_,_,_,_,_,_,_,_,_,_,_,_,_,_,_,_,_,_,_,_,_,_,_,_,_,_,_,_,_,_,_,_,_,_,_,_,_,_,_,_,_,_,_,_,_,_,_,_,_,_,_,_,_,_,_,_,_,_,_,_,_,_,_,_,_,_,_,_,_,_,_,_,_,_,_,_,_,_,_,_,_,_,_,_⟩ _ ⟨by go_num,by omega,M7.out,⟨_,_,_,aby⟩,by have:=HN2.out;omega⟩
      case pos =>
       have y6:((sX.size:Int)==x.d)=true:=by rw[hh];simp
       have HH:Hid (lQ (bls B) x=true):=by
        show _=_
        unfold lQ;rw[dK hsX,cJ];simp[hh,lg]
       clear hh hsX dz;refine nH ?_;refine bH (aT 17 []) (by kernel_rfl) (λd _ _ _ _ h=>by cases d<;>exact h) ?_
       iterate 17 (refine aJ rfl (λK hK=>?_);go_simp;refine hK _ ?_;clear hK K)
       refine bN ?_;simp only[fJ];clear z0 z1 z2 zs zS;go_wp2_with (at_builtin;refine aV fF rfl _ _ rfl s u7 Li true rfl oI (aB.refl _) _ 1 rfl #[.bool true] rfl rfl (by omega) aes ?_;intro v7 w7 we ck i9 _;have hB7:=B6.pushI we ck i9;have TX7:=TX6.keep ck (RT.own oI) (by decide);have M7:=Aa (M6.out.grown ck (M6.out.not_row (RT.own oI))))
       have oN:=hB7.oN;have ago:(tZ (bls B) i).length=B.length:=by rw[cD1,cX]
       have agp:x.i<(tZ (bls B) i).length:=by rw[ago];omega
       obtain⟨ov,hov⟩:∃o,(tZ (bls B) i)[x.i]?=some o:=⟨_,Ae agp⟩;have cN:w7.cell? ⟨b2,x.i,none⟩=some (.int .i64 ov):=by rw[HB2.out];exact eH (f:=λn:Nat=>Value.int .i64 n) oN hov
       have hSN:=hB7.setN agp i;have fN:w7.frozen? ⟨b2,x.i,none⟩=false:=by rw[HB2.out];exact hSN.1
       have z4:∀y:Ext aB w7.drew,y.u.cell? ⟨b4,0,none⟩=some (.pointer (some ⟨b3,0,none⟩)):=aG (by rw[HB4.out,HB3.out];exact hB7.dr.b4.cell rfl);have z3:∀y:Ext aB w7.drew,y.u.cell? ⟨b3,4,none⟩=some (.slice (some ⟨b2,0,none⟩) B.length B.length):=aG (by rw[HB3.out,HB2.out];exact hB7.dr.b2.cell rfl);have zx:∀y:Ext aB w7.drew,y.u.cell? ⟨xb,0,none⟩=some (.int .i64 x.i):=aG ((aB.drew w7).cell (TX7.cell rfl));clear oN hov ago;refine nH ?_;refine pD 8 (aT 8 []) (by kernel_rfl) (λd _ _ _ _ h=>by cases d<;>exact h) ?_
       iterate 8 (refine aJ rfl (λK hK=>?_);go_simp;refine hK _ ?_;clear hK K)
       refine bN ?_;clear z4 z3 zx;simp only[Ap,Aq];go_wp2_with fail
       simp only[fJ];obtain⟨V8,hV8⟩:=exq ((w7.setCell ⟨b2,x.i,none⟩ (.int .i64 i)).drew);have B8:=hSN.2.dr;rw[<-HB2.out,<-hV8]at B8
       have M8:Hid (jL V8 s (D::ds)):=by
        have m2:=M7.out.grown (aU w7 (s+1) x.i (.int .i64 i)) (M7.out.not_row (RT.own hB7.oN));rw[hV8,HB2.out];exact⟨λE hE=>m2.at_ E hE,m2.nodup⟩
       have cx8:V8.cell? ⟨xb,0,none⟩=some (.int .i64 x.i):=by
        rw[hV8,HB2.out];exact(TX7.keep (aU w7 (s+1) x.i (.int .i64 i)) (RT.own hB7.oN) (by decide)).cell rfl
       have wx8:IntKind.u64.wrap (x.i:Int)=x.i:=by simp[IntKind.wrap,IntKind.bits,IntKind.signed];omega
       rw[<-hV8];have rm:s<=V8.heap.size:=by rw[HS.out];exact B8.gr.size
       have oD:aO V8 s 142 1 jR u8 Ld:=by rw[HLD.out];exact B8.oD
       clear hSN hV8 cN fN;go_wp2_with (at_builtin;refine aV gC rfl _ _ rfl s u8 Ld x.i rfl oD (aB.refl _) _ 1 rfl #[.int .u64 x.i] rfl rfl (by omega) rm ?_;intro v9 w9 ho9 ft hf9 _;have hB9:=B8.pushD ho9 ft;have M9:=Aa (M8.out.grown ft (M8.out.not_row (RT.own oD))))
       have BB:=eD1 HOK.out HX.out HH.out p4 u7 u8 (.slice (some ⟨g5,0,none⟩) (Ls.length+1) p5) (.slice aA' (eF (rootS (bls B)) (fH (bls B)) (nodesA (bls B)) i++fH (bls B) x).length cA') p8 v7 v9;rw[<-HLS.out,<-HLI.out,<-HLD.out]at BB;have aby:=Eq.mp (congrArg (Bst w w9 s B.length _) BB) hB9;exact hK (D::ds) ⟨_,_,_,_,_,_,_,_,_,_,_,_,_,_,_,_,_,_,_,_,_,_,_,_,_,_,_,_,_,_,_,_,_,_,_,_,_,_,_,_,_,_,_,_,_,_,_,_,_,_,_,_,_,_,_,_,_,_,_,_,_,_,_,_,_,_,_,_,_,_,_,_,_,_,_,_,_,_,_,_,_,_,_,_,_⟩ _ ⟨by go_num,by omega,M9.out,⟨_,_,_,aby⟩,by have:=HN2.out;omega⟩
end
section
open Go Go.RowKit Go.Shelf
theorem tR0 (B:List ByteArray) (a:Option Addr) (c:Nat) (w:World) (hB:B.length<=1099511627776) (dm:∀s∈B,s.size<=1099511627776) (qk:kV0 (bls B)≠0) (ah:aF w a 1 (B.map stC)) :
  Calls Tryz.prog 34 #[.slice a B.length c] w λe w'=>e=.returned (.tuple #[.pointer none,.int .i64 (kV0 (bls B))])/\aB w w':=by
 obtain⟨K,hK⟩:=exq (kV0 (bls B))
 have CK:Hid (∀u,aB w u->Calls Tryz.prog 90 #[.slice a B.length c] u λe w'=>e=.returned (.int .i64 K)/\u=w'):=λu hg=>by
  rw[hK];exact oR0 B a c u hB dm (ah.grows hg)
 rw[<-hK]at qk ⊢;have hKi:¬(K:Int)=0:=by omega
 clear ah dm hK;go_enter Tryz.func34,Tryz.ntmps34
 go_wp2_with (go_at_call 90;refine(CK.out _ (aB.alloc _ _)).mono ?_;rintro e w2 ⟨rfl,rfl⟩)
 exact bodyPost_ret (v:=.tuple #[.pointer none,.int .i64 K]) (by simp[results,Tryz.results34,go_sem]) rfl ⟨rfl,aB.alloc _ _⟩
theorem cJ0 (B:List ByteArray) (a:Option Addr) (c:Nat) (w:World) (hB:B.length<=1099511627776) (dm:∀s∈B,s.size<=1099511627776) (ha:∀q,a=some q->q.block<w.heap.size) (ah:aF w a 1 (B.map stC)) :
  Calls Tryz.prog 34 #[.slice a B.length c] w λe w'=>aB w w' /\
   ((cH (bls B)=0/\∃tb,e=.returned (.tuple #[.pointer (some ⟨tb,0,none⟩),.int .i64 0])/\qT w' tb (bls B)/\w.heap.size+2<=tb)\/(cH (bls B)≠0/\e=.returned (.tuple #[.pointer none,.int .i64 (cH (bls B))]))):=by
 by_cases qk:kV0 (bls B)=0
 ·have h1:¬20000<(bls B).length:=λh=>by unfold kV0 at qk;rw[if_pos h]at qk;cases qk
  have h2:lU (bls B)=false:=by
   unfold kV0 at qk;rw[if_neg h1]at qk
   cases h:lU (bls B) with
   | false=>rfl
   | true=>rw[h]at qk;cases qk
  have be:=zI0 h2;have hl:B.length<=20000:=by rw[cX]at h1;omega
  have ir:∀s∈B,s.size<=256:=λs hs=>by
   have:=be.len (bl s) (by unfold bls;exact List.mem_map.2 ⟨s,hs,rfl⟩)
   rwa [cJ]at this
  have hc:cH (bls B)=if 524287<dF (bls B) then 2 else 0:=by
   unfold cH;rw[if_neg h1,h2];rfl
  refine(yX0 B a c w qk ha hl ir be ah).mono ?_;rintro e w' ⟨k1,k2⟩;rcases Ar 524287 (dF (bls B)) with h|h
  ·obtain⟨rfl,hg⟩:=k1 h
   rw[if_pos h]at hc;exact⟨hg,Or.inr ⟨by rw[hc];decide,by rw[hc];rfl⟩⟩
  ·obtain⟨rfl,ht,hg⟩:=k2 h
   rw[if_neg (by omega)]at hc;exact⟨hg,Or.inl ⟨hc,_,rfl,ht,Ai _⟩⟩
 ·have hc:cH (bls B)=kV0 (bls B):=by
   unfold cH kV0 at *;by_cases h1:20000<(bls B).length
   ·rw[if_pos h1,if_pos h1]
   ·rw[if_neg h1]at qk
    rw[if_neg h1,if_neg h1];by_cases h2:lU (bls B)=true
    ·rw[if_pos h2,if_pos h2]
    ·rw[if_neg h2]at qk
     exact absurd rfl qk
  refine(tR0 B a c w hB dm qk ah).mono ?_;rintro e w' ⟨rfl,hg⟩;exact⟨hg,Or.inr ⟨by rw[hc];exact qk,by rw[hc]⟩⟩
end
end Go.Proofs.YtiopheoljccmpaaGreatDoor
