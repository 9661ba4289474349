/- The texts Lb2 Lb5 Tri2 Tri3 GroM Grow, one behind the other. -/
import Derived.Test.YtjhajgffmnkocaaGreatDoorPq40
import Derived.Test.YtjhajgffmnkocaaGreatDoorPq39
import Derived.Test.YtjhajgffmnkocaaGreatDoorPq25
import Derived.Test.YtjhajgffmnkocaaGreatDoorPq20
import Derived.Test.YtjhajgffmnkocaaGreatDoorPq12
import Derived.Test.YtjhajgffmnkocaaGreatDoorPq22
open Go.Lib renaming hid → Aa
open List renaming replicate → Ab,getElem?_eq_getElem → Ac,mem_of_getElem? → Ae,range' → Af,ne_nil_of_mem → Ai,length_append → Aj,length_map → Ak,length_replicate → Al,getElem?_eq_none → An,foldl → Ao,map_append → Aq,drop_succ_cons → Ar,append_assoc → Av,append_nil → Az,drop_zero → Ba,getElem?_range' → Bb,take_nil → Bd,length_range' → Be,map_replicate → Bf,take_length → Bg
open Nat renaming le_refl → Ad,le_trans → Ah,mul_one → Ap,lt_of_lt_of_le → As,zero_le → Au,lt_irrefl → Bc,lt_or_ge → Bi,add_zero → Bj
open Go.World renaming grownBy_alloc → Ag,size_alloc → Aw
open Int renaming toNat_natCast → Am,le_refl → Bk
open Go.IntKind renaming signed → At,wrap → Ax,bits → Ay
open Option renaming map_some → Bh
set_option maxHeartbeats 16000000
namespace Go.Proofs.YtjhajgffmnkocaaGreatDoor
set_option maxRecDepth 100000
section
open Go Go.RowKit Go.Shelf
attribute [local go_sem] aO aM Oper.semAt_some
theorem cW1 (x:dC) (a:Option Addr) (m c:Nat) (w:World) :
  Calls Tryz.prog 165 #[jR0 x,.slice a m c] w λe w'=>e=.returned (.func (.func 212) #[] #[.pointer (some ⟨w.heap.size,0,none⟩),.pointer (some ⟨w.heap.size+1,0,none⟩)]) /\
   w'=(w.alloc (.cells #[.int .i64 x.i,.int .i64 x.t,.int .i64 x.d] 222)).alloc (.cells #[.slice a m c] 65):=by
 unfold jR0;have hmf:∀(fn:Fn) (first cap:Array Value) (w:World),(Instr.makeFunc fn first cap).run Tryz.prog w=.ok (.func fn first cap) w:=λ_ _ _ _=>rfl
 go_enter Tryz.func165,Tryz.ntmps165
 go_wp2_with fail
 go_ret;exact⟨rfl,rfl⟩
def lbD (L:List (List UInt8)) (i:Nat) (vS vA vL vI vD:Value) (nd:List Nat):BD :=
 { vS:=vS,vA:=vA,vL:=vL,vI:=vI,vD:=vD,sh:=shapeL L ((nodesA L).take i),al:=eI (rootS L) (eZ L) (nodesA L) i,lab:=labelsL L ((nodesA L).take i),isl:=isL L ((nodesA L).take i),idl:=idsL L ((nodesA L).take i),nd:=nd }
def lbK (L:List (List UInt8)) (i:Nat) (x:dC) (ys:List dC) (vS vA vL vI vD:Value):BD :=
 { vS:=vS,vA:=vA,vL:=vL,vI:=vI,vD:=vD,sh:=shapeL L ((nodesA L).take i)++Ab ys.length true,al:=eI (rootS L) (eZ L) (nodesA L) i++ys,lab:=labelsL L ((nodesA L).take i)++ys.map (oU L x),isl:=isL L ((nodesA L).take i),idl:=idsL L ((nodesA L).take i),nd:=tT L i }
structure LbU where
 (u7 u8 u10 u11 u12 u13 u29 u30 u31 u32 u33 u34 u35 u36 u37 u38 u39 u40 u41 u42 u43 u44 u45 u46 u47 u48 u49 u50 u51 u52 u53 u54 u55 u56 u57 u58 u59 u60 u61 u62 u63 u64 u65 u66 u67 u68 u69 u70 u71 u72 u73 u74 u75 u76 u77 u78 u79 u80 u81 u82 u83 u84 u85 u86 u87 u88 u89 u90 u91 u92 u93 u94 u95 u96 u97 u98 u99 u100 u101 u102 u103 u104 u105 u106 u107:Value)
def aF0 (B:List ByteArray) (a:Option Addr) (c s b2 b3 b4 b5 b6 b7 b8:Nat) (ds:List Nat) (U:LbU):Act :=
 { tmps:=#[.slice a B.length c,.pointer (some ⟨s,0,none⟩),.pointer none,.int .i64 0,.int .i64 0,.pointer (some ⟨b4,0,none⟩),.pointer (some ⟨b6,0,none⟩),U.u7,U.u8,.pointer (some ⟨b8,0,none⟩),U.u10,U.u11,U.u12,U.u13,.slice a B.length c,.int .i64 0,.int .i64 0,.bool false,undef,.slice a B.length c,.int .i64 B.length,.slice (some ⟨b2,0,none⟩) B.length B.length,.agg #[.pointer none,.pointer none,.slice none 0 0,.pointer none,.slice (some ⟨b2,0,none⟩) B.length B.length],.pointer (some ⟨b3,0,none⟩),.slice (some ⟨b5,0,none⟩) 2 2,.slice a B.length c,.int .i64 B.length,.agg #[.int .i64 0,.int .i64 B.length,.int .i64 0],.slice (some ⟨b7,0,none⟩) 1 1,U.u29,U.u30,U.u31,U.u32,U.u33,U.u34,U.u35,U.u36,U.u37,U.u38,U.u39,U.u40,U.u41,U.u42,U.u43,U.u44,U.u45,U.u46,U.u47,U.u48,U.u49,U.u50,U.u51,U.u52,U.u53,U.u54,U.u55,U.u56,U.u57,U.u58,U.u59,U.u60,U.u61,U.u62,U.u63,U.u64,U.u65,U.u66,U.u67,U.u68,U.u69,U.u70,U.u71,U.u72,U.u73,U.u74,U.u75,U.u76,U.u77,U.u78,U.u79,U.u80,U.u81,U.u82,U.u83,U.u84,U.u85,U.u86,U.u87,U.u88,U.u89,U.u90,U.u91,U.u92,U.u93,U.u94,U.u95,U.u96,U.u97,U.u98,U.u99,U.u100,U.u101,U.u102,U.u103,U.u104,U.u105,U.u106,U.u107,undef,undef,undef,undef,undef,undef,undef,undef,undef,undef,undef,undef,undef,undef,undef,undef,undef,undef,undef,undef,undef,undef,undef,undef,undef],defers:=bX1 ds }
theorem jS0 {L:List (List UInt8)} {i:Nat} {x:dC} (ag:OkL L) (hx:(nodesA L)[i]?=some x) (hh:iK L x=false) (vS0 vI0 vS vA vL vI vD:Value) :
  ({ ({ (lbK L i x (eZ L x) vS0 vA vL vI0 vD) with vS:=vS,sh:=(shapeL L ((nodesA L).take i)++Ab (eZ L x).length true)++[false] }:BD) with vI:=vI,isl:=isL L ((nodesA L).take i)++[false] }:BD)=lbD L (i+1) vS vA vL vI vD (tT L (i+1)):=by
 have e:=bJ hx;unfold lbK lbD;rw[e,nA,qO0,xB,jP0,qB hx,ag.ndTo_succ hx,if_neg (by rw[hh];decide),if_neg (by rw[hh];decide),hh,Az]
theorem eU1 {L:List (List UInt8)} {i:Nat} {x:dC} (ag:OkL L) (hx:(nodesA L)[i]?=some x) (hh:iK L x=true) (vS0 vI0 vD0 vS vA vL vI vD:Value) :
  ({ ({ ({ ({ (lbK L i x (eZ L x) vS0 vA vL vI0 vD0) with vS:=vS,sh:=(shapeL L ((nodesA L).take i)++Ab (eZ L x).length true)++[false] }:BD) with vI:=vI,isl:=isL L ((nodesA L).take i)++[true] }:BD) with nd:=(tT L i).set x.i i }:BD) with vD:=vD,idl:=idsL L ((nodesA L).take i)++[x.i] }:BD)=lbD L (i+1) vS vA vL vI vD (tT L (i+1)):=by
 have e:=bJ hx;unfold lbK lbD;rw[e,nA,qO0,xB,jP0,qB hx,ag.ndTo_succ hx,if_pos hh,if_pos hh,hh]
structure nS1 (B:List ByteArray) (a:Option Addr) (c:Nat) (w:World) (s i:Nat) (ds:List Nat) (U:LbU) (wr:World):Prop where
 u10:U.u10=.int .i64 i
 le:i<=524287
 marks:lE wr s ds
 st:∃vS vA vL,Bst w wr s B.length (.slice a B.length c) (lbD (bls B) i vS vA vL U.u7 U.u8 (tT (bls B) i))
 off:offA (bls B) i<=524287
theorem jA1 {B:List ByteArray} {a:Option Addr} {c:Nat} {w:World} {s b2 b3 b4 b5 b6 b7 b8:Nat} {P:Program} {code:Code} {Q:Exit->Act->World->Prop} {ds:List Nat} {U:LbU} {w0:World} (h0:nS1 B a c w s 0 ds U w0)
  (round:∀(i:Nat) (ds:List Nat) (U:LbU) (wr:World),nS1 B a c w s i ds U wr->∀K:Act->World->Prop,(∀ds' U' w',nS1 B a c w s (i+1) ds' U' w'->K (aF0 B a c s b2 b3 b4 b5 b6 b7 b8 ds' U') w')->code.wp P (Exit.then K Q) (aF0 B a c s b2 b3 b4 b5 b6 b7 b8 ds U) wr) :
  (Code.loop code).wp P Q (aF0 B a c s b2 b3 b4 b5 b6 b7 b8 ds U) w0:=by
 refine wp_loop (λa' wr=>∃i ds U,a'=aF0 B a c s b2 b3 b4 b5 b6 b7 b8 ds U/\nS1 B a c w s i ds U wr) (λa' _=>600000-(intOf (a'.tmps.getD 10 undef)).toNat) ⟨0,ds,U,rfl,h0⟩ ?_;rintro a' wr ⟨i,ds,U,rfl,h⟩;refine round i ds U wr h _ (λds' U' w' h'=>⟨⟨i+1,ds',U',rfl,h'⟩,?_⟩);have e1:(aF0 B a c s b2 b3 b4 b5 b6 b7 b8 ds U).tmps.getD 10 undef=U.u10:=rfl;have e2:(aF0 B a c s b2 b3 b4 b5 b6 b7 b8 ds' U').tmps.getD 10 undef=U'.u10:=rfl;rw[e1,e2,h.u10,h'.u10]
 have:=h.le
 simp[intOf];omega
theorem aJ1 (B:List ByteArray) (a:Option Addr) (c:Nat) (w:World) (lk:lP0 (bls B)=0) (ha:∀q,a=some q->q.block<w.heap.size) (hB_:B.length<=20000) (dm:∀s∈B,s.size<=256) (ag:OkL (bls B)) (ac:aG w a 1 (B.map stC)) :
  Calls Tryz.prog 94 #[.slice a B.length c] w λe w' =>
   (524287<gC (bls B)->e=.returned (.tuple #[.pointer none,.int .i64 2])/\aB w w') /\
   (gC (bls B)<=524287->e=.returned (.tuple #[.pointer (some ⟨w.heap.size+2,0,none⟩),.int .i64 0])/\eP w' (w.heap.size+2) (bls B)/\aB w w'):=by
 have CK:Hid (∀u,aB w u->Calls Tryz.prog 164 #[.slice a B.length c] u λe w'=>e=.returned (.int .i64 0)/\u=w'):=λu hg=>by
  have h:=pO0 B a c u (by omega) (λs hs=>by have:=dm s hs;omega) (ac.grows hg);rw[lk]at h;exact h
 have HAT:=Aa ac;have HA:=Aa ha;have HSZ:=Aa dm;have HOK:=Aa ag;clear ac ha dm ag lk;refine(callsIn_wide (n:=12)).1 (callsIn_of_wp_marks Tryz.func94 rfl trivial (wpIn_wide.2 ?_));simp only[Tryz.ntmps94,List.size_toArray,List.length_cons,List.length_nil,Nat.reduceAdd,Nat.reduceSub,Array.replicate_succ,Array.replicate_zero,List.push_toArray,List.append_toArray,List.nil_append,List.cons_append];have kh:=λ(Y:World)=>fL1 B.length Y (by omega);go_wp2_with (go_at_call 164;refine(CK.out _ (aB.alloc _ _)).mono ?_;rintro e w2 ⟨rfl,rfl⟩)
 clear CK kh;obtain⟨s,hs⟩:=exq w.heap.size;obtain⟨b2,dn⟩:=exq (w.heap.size+1);obtain⟨b3,jr⟩:=exq (w.heap.size+1+1);obtain⟨b4,vw⟩:=exq (w.heap.size+1+1+1);obtain⟨b5,il⟩:=exq (w.heap.size+1+1+1+1);obtain⟨b6,iw⟩:=exq (w.heap.size+1+1+1+1+1);obtain⟨b7,hb7⟩:=exq (w.heap.size+1+1+1+1+1+1);obtain⟨b8,hb8⟩:=exq (w.heap.size+1+1+1+1+1+1+1);rw[<-hb8,<-hb7,<-iw,<-il,<-vw,<-jr,<-dn,<-hs]
 have BST:Hid (∃vS vA,Bst w ((((((((w.alloc (.cells #[.slice a B.length c] 65)).alloc (.cells (madeCells #[.int .i64 0] B.length) 3)).alloc (.cells #[.pointer none,.pointer none,.slice none 0 0,.pointer none,.slice (some ⟨b2,0,none⟩) B.length B.length] 203)).alloc
   (.cells #[.pointer (some ⟨b3,0,none⟩)] 109)).alloc (.cells #[.bool true,.bool false] 4)).alloc (.cells #[.slice (some ⟨b5,0,none⟩) 2 2] 219)).alloc (.cells #[.int .i64 0,.int .i64 B.length,.int .i64 0] 222)).alloc (.cells #[.slice (some ⟨b7,0,none⟩) 1 1] 223))
   s B.length (.slice a B.length c) (lbD (bls B) 0 vS vA (.slice none 0 0) (.slice none 0 0) (.slice none 0 0) (tT (bls B) 0))):=by
  have h:=aU1 w B.length (.slice a B.length c) hB_ (b2:=b2) (b3:=b3) (b5:=b5) (b7:=b7) (by omega) (by omega) (by omega) (by omega);rw[<-hs]at h;refine⟨.slice (some ⟨b5,0,none⟩) 2 2,.slice (some ⟨b7,0,none⟩) 1 1,?_⟩
  have e:lbD (bls B) 0 (.slice (some ⟨b5,0,none⟩) 2 2) (.slice (some ⟨b7,0,none⟩) 1 1) (.slice none 0 0) (.slice none 0 0) (.slice none 0 0) (tT (bls B) 0) =
    { vS:=.slice (some ⟨b5,0,none⟩) 2 2,vA:=.slice (some ⟨b7,0,none⟩) 1 1,vL:=.slice none 0 0,vI:=.slice none 0 0,vD:=.slice none 0 0,sh:=[true,false],al:=[⟨0,B.length,0⟩],lab:=[],isl:=[],idl:=[],nd:=Ab B.length 0 }:=by
   unfold lbD;rw[bH1,cO]
   have e2:eI (rootS (bls B)) (eZ (bls B)) (nodesA (bls B)) 0=[⟨0,B.length,0⟩]:=by
    unfold eI rootS;rw[cO];rfl
   rw[e2];rfl
  rw[e];exact h
 generalize ((((((((w.alloc (.cells #[.slice a B.length c] 65)).alloc (.cells (madeCells #[.int .i64 0] B.length) 3)).alloc (.cells #[.pointer none,.pointer none,.slice none 0 0,.pointer none,.slice (some ⟨b2,0,none⟩) B.length B.length] 203)).alloc
   (.cells #[.pointer (some ⟨b3,0,none⟩)] 109)).alloc (.cells #[.bool true,.bool false] 4)).alloc (.cells #[.slice (some ⟨b5,0,none⟩) 2 2] 219)).alloc (.cells #[.int .i64 0,.int .i64 B.length,.int .i64 0] 222)).alloc (.cells #[.slice (some ⟨b7,0,none⟩) 1 1] 223))=W0 at BST ⊢
 have HS:=Aa hs;have HB2:Hid (b2=s+1):=by rw[hs];exact dn
 have HB3:Hid (b3=s+2):=by rw[hs];exact jr
 have HB4:Hid (b4=s+3):=by rw[hs];exact vw
 have HB6:Hid (b6=s+5):=by rw[hs];exact iw
 have HB8:Hid (b8=s+7):=by rw[hs];exact hb8
 clear hs dn jr vw il iw hb7 hb8;refine jA1 (w:=w) (ds:=[]) (U:={ u7:=.slice none 0 0,u8:=.slice none 0 0,u10:=.int .i64 0,u11:=undef,u12:=undef,u13:=undef,u29:=undef,u30:=undef,u31:=undef,u32:=undef,u33:=undef,u34:=undef,u35:=undef,u36:=undef,u37:=undef,u38:=undef,u39:=undef,u40:=undef,u41:=undef,u42:=undef,u43:=undef,u44:=undef,u45:=undef,u46:=undef,u47:=undef,u48:=undef,u49:=undef,u50:=undef,u51:=undef,u52:=undef,u53:=undef,u54:=undef,u55:=undef,u56:=undef,u57:=undef,u58:=undef,u59:=undef,u60:=undef,u61:=undef,u62:=undef,u63:=undef,u64:=undef,u65:=undef,u66:=undef,u67:=undef,u68:=undef,u69:=undef,u70:=undef,u71:=undef,u72:=undef,u73:=undef,u74:=undef,u75:=undef,u76:=undef,u77:=undef,u78:=undef,u79:=undef,u80:=undef,u81:=undef,u82:=undef,u83:=undef,u84:=undef,u85:=undef,u86:=undef,u87:=undef,u88:=undef,u89:=undef,u90:=undef,u91:=undef,u92:=undef,u93:=undef,u94:=undef,u95:=undef,u96:=undef,u97:=undef,u98:=undef,u99:=undef,u100:=undef,u101:=undef,u102:=undef,u103:=undef,u104:=undef,u105:=undef,u106:=undef,u107:=undef }) ?start ?round
 case start =>
  obtain⟨vS,vA,h⟩:=BST.out;exact⟨rfl,Au _,lE.nil _ _,⟨vS,vA,_,h⟩,by rw[sY];omega⟩
 case round =>
  rintro i ds ⟨u7,u8,u10,u11,u12,u13,u29,u30,u31,u32,u33,u34,u35,u36,u37,u38,u39,u40,u41,u42,u43,u44,u45,u46,u47,u48,u49,u50,u51,u52,u53,u54,u55,u56,u57,u58,u59,u60,u61,u62,u63,u64,u65,u66,u67,u68,u69,u70,u71,u72,u73,u74,u75,u76,u77,u78,u79,u80,u81,u82,u83,u84,u85,u86,u87,u88,u89,u90,u91,u92,u93,u94,u95,u96,u97,u98,u99,u100,u101,u102,u103,u104,u105,u106,u107⟩ wr ⟨hu,hi,hM,hB,hO⟩ K hK;simp only at hu;subst hu;dsimp only[aF0]
  dsimp only at hB
  have HM:=Aa hM;have HO:=Aa hO;obtain⟨vS,vA,vL,hB⟩:=hB;obtain⟨aA,cA,hvA,_,_,acx⟩:=hB.oA.at_ oL0.len;simp only[lbD]at hvA;subst hvA;have aj:(eI (rootS (bls B)) (eZ (bls B)) (nodesA (bls B)) i).length=offA (bls B) i:=rfl;obtain⟨N1,hN1⟩:=exq (offA (bls B) i);have c8:=hB.b8.cell (o:=0) rfl;simp only[lbD]at c8;rw[aj,<-hN1,<-HB8.out]at c8;have HBST:=Aa hB;have HN1:=Aa hN1;by_cases af:i<N1
  case neg =>
   have dz:¬(i:Int)<N1:=by omega
   have hNi:(nodesA (bls B)).length<=i:=by
    rcases Bi i (nodesA (bls B)).length with h|h
    ·have:=HOK.out.off_gt h;omega
    ·exact h
   have htk:(nodesA (bls B)).take i=nodesA (bls B):=List.take_of_length_le hNi
   have aat:offA (bls B) i=(nodesA (bls B)).length:=by
    unfold offA eI;rw[htk,<-HOK.out.fix]
   have aho:gC (bls B)<=524287:=by
    rw[<-dY HOK.out.asc HOK.out.len,<-aat];exact hO
   obtain⟨z1,z2,z3,z4,z5⟩:=HOK.out.sizes (by rw[cO];exact hB_) aho;obtain⟨aS,cS,hvS,_,_,abq⟩:=hB.oS.at_ (enc:=qQ) (λ_=>rfl);obtain⟨aI,cI,hvI,_,_,acy⟩:=hB.oI.at_ (enc:=qQ) (λ_=>rfl);obtain⟨aD,cD,hvD,_,_,acz⟩:=hB.oD.at_ (enc:=kF) (λ_=>rfl);simp only[lbD,htk]at hvS hvI hvD abq acy acz;obtain⟨SH,hSH⟩:=exq (shapeL (bls B) (nodesA (bls B)));obtain⟨IS,hIS⟩:=exq (isL (bls B) (nodesA (bls B)));obtain⟨ID,hID⟩:=exq (idsL (bls B) (nodesA (bls B)));rw[<-hSH]at z1 abq hvS;rw[<-hIS]at z2 acy hvI;rw[<-hID]at z4 z5 acz hvD
   have EE:Hid (LbE w wr s #[.pointer none,.pointer none,vL,.pointer none,.slice (some ⟨s+1,0,none⟩) B.length B.length] vL (.slice (some ⟨s+1,0,none⟩) B.length B.length) u7 u8 (labelsL (bls B) (nodesA (bls B))) (jO (bls B)) IS ID ds):=by
    have h2:=hB;unfold lbD at h2;rw[htk,HOK.out.ndTo_all hNi]at h2;rw[hIS,hID];exact⟨h2.b4,h2.b2,h2.oL,h2.oN,h2.oI,h2.oD,hM,h2.gr⟩
   have c6:wr.cell? ⟨b6,0,none⟩=some vS:=by rw[HB6.out];exact hB.b6.cell rfl
   have aey:b6<wr.heap.size:=by rw[HB6.out];exact hB.b6.lt
   subst hvS;subst hvI;subst hvD;have hss:w.heap.size<=s:=by rw[HS.out];exact Ad _
   have HSH:=Aa hSH;have HIS:=Aa hIS;have HID:=Aa hID;have HZ5:=Aa z5;clear acx hM hO aj hNi htk aat z3 z5 hSH hIS hID acy acz hN1 af hB;go_wp2_with fail
   have wj:=EE.out.b4.gr (aB.drew wr);obtain⟨T,hT⟩:∃T:Nat->Prop,T=λb=>b=b4\/b=b6:=⟨_,rfl⟩
   have jk:∀b,T b->b<wr.drew.heap.size:=λb hb=>by
    rw[hT]at hb;rcases hb with rfl|rfl
    ·rw[HB4.out];exact wj.lt
    ·exact aey
   have hT3:¬T b3:=λh=>by
    rw[hT]at h;have e3:=HB3.out;have e4:=HB4.out;have e6:=HB6.out;rcases h with h|h<;>omega
   have x4:∀y:Ext (bK T) wr.drew,y.u.cell? ⟨b4,0,none⟩=some (.pointer (some ⟨b3,0,none⟩)):=gN (by rw[hT];exact Or.inl rfl) (by rw[HB4.out,HB3.out];exact wj.cell rfl);have x6:∀y:Ext (bK T) wr.drew,y.u.cell? ⟨b6,0,none⟩=some (.slice aS SH.length cS):=gN (by rw[hT];exact Or.inr rfl) ((aB.drew wr).cell c6);have HT:=Aa hT;clear hT wj;refine nL ?_;refine lK (bK T) (bE 9 [2,8]) (bK.refl T) (nN T) (by kernel_rfl) (by kernel_rfl) (λd _ _ _ _ h=>by cases d<;>exact h) ?_
   iterate 2 (refine aH rfl (λK hK=>?_);go_simp;refine hK _ ?_;clear hK K)
   refine bG rfl rfl (λK hK=>?_);go_simp;refine(qC0 SH aS cS wr.drew z1 (abq.grows (aB.drew wr))).mono ?_;rintro e w1 ⟨rfl,ij,ai⟩;refine⟨bK.of_below ai jk,hK _ _ ?_⟩;clear hK K;iterate 5 (refine aH rfl (λK hK=>?_);go_simp;refine hK _ ?_;clear hK K)
   have E1:=(EE.out.grows (aB.drew wr)).grows ai;have c31:w1.cell? ⟨b3,0,none⟩=some (.pointer none):=by rw[HB3.out];exact E1.b3.cell rfl
   have f31:w1.frozen? ⟨b3,0,none⟩=false:=by rw[HB3.out];exact E1.b3.froz _
   refine bG rfl rfl (λK hK=>?_);go_simp;refine⟨bK.set hT3 _ _,hK _ _ ?_⟩;clear hK K;refine bN ?_;simp only[fO];obtain⟨sb,me⟩:=exq (wr.drew.heap.size+1);have e1s:=E1.set hss 0 (.pointer (some ⟨sb,0,none⟩))
   have abr:kE (w1.setCell ⟨s+2,0,none⟩ (.pointer (some ⟨sb,0,none⟩))) sb SH:=by
    rw[<-me]at ij
    exact iF ij (nK _ _ _ _) (λh=>by
     have h1:sb=s+2:=h;have h2:=EE.out.b3.lt;have h3:wr.drew.heap.size=wr.heap.size:=rfl;omega) (mE E1.b3)
   obtain⟨V1,hV1⟩:=exq (w1.setCell ⟨b3,0,none⟩ (.pointer (some ⟨sb,0,none⟩)));rw[<-HB3.out,<-hV1]at e1s abr;have h6a:b6<V1.heap.size:=by rw[hV1];simp;exact As aey (Ah (Ad _) ai.size)
   try rw[show wr.heap.size+1=sb from me.symm]
   try rw[<-me]
   try rw[<-hV1]
   clear hT3 jk x4 x6 E1 c31 f31 ij ai hV1 me HT T abq c6;go_wp2_with fail
   have wj:=e1s.b4.gr (aB.drew V1);obtain⟨T,hT⟩:∃T:Nat->Prop,T=λb=>b=b4\/b=b6:=⟨_,rfl⟩
   have jk:∀b,T b->b<V1.drew.heap.size:=λb hb=>by
    rw[hT]at hb;rcases hb with rfl|rfl
    ·rw[HB4.out];exact wj.lt
    ·exact h6a
   have hT3:¬T b3:=λh=>by
    rw[hT]at h;have e3:=HB3.out;have e4:=HB4.out;have e6:=HB6.out;rcases h with h|h<;>omega
   have x4:∀y:Ext (bK T) V1.drew,y.u.cell? ⟨b4,0,none⟩=some (.pointer (some ⟨b3,0,none⟩)):=gN (by rw[hT];exact Or.inl rfl) (by rw[HB4.out,HB3.out];exact wj.cell rfl);have HT:=Aa hT;clear hT wj;refine nL ?_;refine lK (bK T) (bE 9 [2,8]) (bK.refl T) (nN T) (by kernel_rfl) (by kernel_rfl) (λd _ _ _ _ h=>by cases d<;>exact h) ?_
   iterate 2 (refine aH rfl (λK hK=>?_);go_simp;refine hK _ ?_;clear hK K)
   refine bG rfl rfl (λK hK=>?_);go_simp;refine(qC0 IS aI cI V1.drew (by omega) (fM0 (λ_=>rfl) e1s.oI)).mono ?_;rintro e w2 ⟨rfl,gq,ae⟩;refine⟨bK.of_below ae jk,hK _ _ ?_⟩;clear hK K;iterate 5 (refine aH rfl (λK hK=>?_);go_simp;refine hK _ ?_;clear hK K)
   have E2:=(e1s.grows (aB.drew V1)).grows ae;have c32:w2.cell? ⟨b3,1,none⟩=some (.pointer none):=by rw[HB3.out];exact E2.b3.cell rfl
   have f32:w2.frozen? ⟨b3,1,none⟩=false:=by rw[HB3.out];exact E2.b3.froz _
   refine bG rfl rfl (λK hK=>?_);go_simp;refine⟨bK.set hT3 _ _,hK _ _ ?_⟩;clear hK K;refine bN ?_;simp only[fO];obtain⟨ib,ws⟩:=exq (V1.drew.heap.size+1);have e2s:=E2.set hss 1 (.pointer (some ⟨ib,0,none⟩))
   have abt:kE (w2.setCell ⟨s+2,1,none⟩ (.pointer (some ⟨ib,0,none⟩))) ib IS:=by
    rw[<-ws]at gq
    exact iF gq (nK _ _ _ _) (λh=>by
     have h1:ib=s+2:=h;have h2:=e1s.b3.lt;have h3:V1.drew.heap.size=V1.heap.size:=rfl;omega) (mE E2.b3)
   have aau:sb≠s+2:=λh=>by
    have hc:=abr.c0;have h2:=e1s.b3;rw[h]at hc;have h3:=h2.cell (o:=0) (v:=.pointer (some ⟨sb,0,none⟩)) rfl;rw[hc]at h3;cases h3
   have ac0:kE (w2.setCell ⟨s+2,1,none⟩ (.pointer (some ⟨ib,0,none⟩))) sb SH:=iF ((abr.grows (aB.drew V1)).grows ae) (nK _ _ _ _) aau (mE E2.b3);obtain⟨V2,jq⟩:=exq (w2.setCell ⟨b3,1,none⟩ (.pointer (some ⟨ib,0,none⟩)));rw[<-HB3.out,<-jq]at e2s abt ac0;have h6b:b6<V2.heap.size:=by rw[jq];simp;exact As h6a (Ah (Ad _) ae.size)
   try rw[show V1.heap.size+1=ib from ws.symm]
   try rw[<-ws]
   try rw[<-jq]
   clear hT3 jk x4 E2 c32 f32 gq ae jq ws HT T e1s abr;go_wp2_with fail
   have wj:=e2s.b4.gr (aB.drew V2);obtain⟨T,hT⟩:∃T:Nat->Prop,T=λb=>b=b4\/b=b6:=⟨_,rfl⟩
   have jk:∀b,T b->b<V2.drew.heap.size:=λb hb=>by
    rw[hT]at hb;rcases hb with rfl|rfl
    ·rw[HB4.out];exact wj.lt
    ·exact h6b
   have hT3:¬T b3:=λh=>by
    rw[hT]at h;have e3:=HB3.out;have e4:=HB4.out;have e6:=HB6.out;rcases h with h|h<;>omega
   have x4:∀y:Ext (bK T) V2.drew,y.u.cell? ⟨b4,0,none⟩=some (.pointer (some ⟨b3,0,none⟩)):=gN (by rw[hT];exact Or.inl rfl) (by rw[HB4.out,HB3.out];exact wj.cell rfl);have HT:=Aa hT;clear hT wj;refine nL ?_;refine lK (bK T) (bE 9 [2,8]) (bK.refl T) (nN T) (by kernel_rfl) (by kernel_rfl) (λd _ _ _ _ h=>by cases d<;>exact h) ?_
   iterate 2 (refine aH rfl (λK hK=>?_);go_simp;refine hK _ ?_;clear hK K)
   refine bG rfl rfl (λK hK=>?_);go_simp;refine(eS0 ID aD cD V2.drew (by omega) (λm hm=>by have:=HZ5.out m hm;omega) (fM0 (λ_=>rfl) e2s.oD)).mono ?_;rintro e w3 ⟨rfl,hv3,aw⟩;refine⟨bK.of_below aw jk,hK _ _ ?_⟩;clear hK K;iterate 5 (refine aH rfl (λK hK=>?_);go_simp;refine hK _ ?_;clear hK K)
   have E3:=(e2s.grows (aB.drew V2)).grows aw;have c33:w3.cell? ⟨b3,3,none⟩=some (.pointer none):=by rw[HB3.out];exact E3.b3.cell rfl
   have f33:w3.frozen? ⟨b3,3,none⟩=false:=by rw[HB3.out];exact E3.b3.froz _
   refine bG rfl rfl (λK hK=>?_);go_simp;refine⟨bK.set hT3 _ _,hK _ _ ?_⟩;clear hK K;refine bN ?_;simp only[fO];obtain⟨pb,ei⟩:=exq V2.drew.heap.size;have o8:=E3.set hss 3 (.pointer (some ⟨pb,0,none⟩))
   have ac1:lJ (w3.setCell ⟨s+2,3,none⟩ (.pointer (some ⟨pb,0,none⟩))) pb ID:=by
    rw[<-ei]at hv3
    exact yE hv3 (nK _ _ _ _) (λh=>by
     have h1:pb=s+2:=h;have h2:=e2s.b3.lt;have h3:V2.drew.heap.size=V2.heap.size:=rfl;omega) (mE E3.b3)
   have ad3:ib≠s+2:=λh=>by
    have hc:=abt.c0;have h2:=e2s.b3;rw[h]at hc;have h3:=h2.cell (o:=0) (v:=.pointer (some ⟨sb,0,none⟩)) rfl;rw[hc]at h3;cases h3
   have ac2:kE (w3.setCell ⟨s+2,3,none⟩ (.pointer (some ⟨pb,0,none⟩))) sb SH:=iF ((ac0.grows (aB.drew V2)).grows aw) (nK _ _ _ _) aau (mE E3.b3);have ac3:kE (w3.setCell ⟨s+2,3,none⟩ (.pointer (some ⟨pb,0,none⟩))) ib IS:=iF ((abt.grows (aB.drew V2)).grows aw) (nK _ _ _ _) ad3 (mE E3.b3);obtain⟨V3,ww⟩:=exq (w3.setCell ⟨b3,3,none⟩ (.pointer (some ⟨pb,0,none⟩)));rw[<-HB3.out,<-ww]at o8 ac1 ac3 ac2;have c4f:V3.cell? ⟨b4,0,none⟩=some (.pointer (some ⟨b3,0,none⟩)):=by rw[HB4.out,HB3.out];exact o8.b4.cell rfl
   try rw[show V2.heap.size=pb from ei.symm]
   try rw[<-ei]
   try rw[<-ww]
   clear hT3 jk x4 E3 c33 f33 hv3 aw ww ei HT T e2s ac0 abt;go_wp2_with fail
   refine pK (ds:=ds) (lo:=s) o8.mks λw' fi dn jr=>⟨.tuple #[.pointer (some ⟨b3,0,none⟩),.int .i64 0],by simp[results,Tryz.results94,go_sem],λia=>by omega,λ_=>⟨by rw[HB3.out,HS.out],?_,yQ o8.gr o8.mks HS.out fi dn jr⟩⟩
   have ho:mC1 V3 w' (λk=>k∈ds):=fi
   have ce:∀(o:Nat) (v:Value),(#[.pointer (some ⟨sb,0,none⟩),.pointer (some ⟨ib,0,none⟩),vL,.pointer (some ⟨pb,0,none⟩),.slice (some ⟨s+1,0,none⟩) B.length B.length]:Array Value)[o]?=some v->w'.cell? ⟨s+2,o,none⟩=some v:=λo v hv=>by
    have hc:V3.cell? ⟨s+2,o,none⟩=some v:=o8.b3.cell hv;exact gV hc ho (sN o8.mks hc)
   rw[<-HS.out];have hb0:∀ {e:TypeId} {k:Nat} {α:Type} {enc:α->List Value} {v:Value} {xs:List α},aU V3 s e k enc v xs->aU w' 0 e k enc v xs:=λh=>(pC h ho (dI0 o8.mks _)).base (Au _)
   exact⟨⟨sb,ce 0 _ rfl,by rw[<-HSH.out];exact iF ac2 ho (sN o8.mks ac2.c0) (rE o8.mks)⟩,⟨ib,ce 1 _ rfl,by rw[<-HIS.out];exact iF ac3 ho (sN o8.mks ac3.c0) (rE o8.mks)⟩,
    ⟨vL,ce 2 _ rfl,(pC o8.oL ho (dI0 o8.mks _)).base (show s+2-2<=s by omega)⟩,⟨pb,ce 3 _ rfl,by rw[<-HID.out];exact yE ac1 ho (sN o8.mks ac1.c0) (rE o8.mks)⟩,⟨_,ce 4 _ rfl,hb0 o8.oN⟩⟩
  case pos =>
   have dz:(i:Int)<N1:=by omega
   have hiN:i<(nodesA (bls B)).length:=by have:=HOK.out.off_le i;omega
   obtain⟨x,hx⟩:∃x,(nodesA (bls B))[i]?=some x:=⟨_,Ac hiN⟩;have ny:(eI (rootS (bls B)) (eZ (bls B)) (nodesA (bls B)) i)[i]?=some x:=by rw[hQ0 HOK.out.fix (by rw[aj];omega)];exact hx
   obtain⟨bA,oA,rfl,hcA⟩:=aG.get (enc:=bQ0) acx (Ai (Ae ny));have e0:=hcA i x ny 0 _ rfl;have e1:=hcA i x ny 1 _ rfl;have e2:=hcA i x ny 2 _ rfl;rw[Bj]at e0;have ajq:N1<=524287:=by rw[hN1];exact hO
   have c1:∀o,(wr.alloc o).cell? ⟨s,0,none⟩=some (.slice a B.length c):=λo=>(hB.al o).b1.cell rfl;have HX:=Aa hx;clear acx hcA hx ny hB hM hO hN1 aj;go_wp2_with (go_at_call 165;refine(cW1 x a B.length c _).mono ?_;rintro e w2 ⟨rfl,rfl⟩)
   have hB:=HBST.out;have jg:s<=wr.heap.size:=by rw[HS.out];exact hB.gr.size
   obtain⟨xb,ny⟩:=exq wr.heap.size;obtain⟨kb,hkb⟩:=exq (wr.heap.size+1);obtain⟨lb,nz⟩:=exq (wr.heap.size+1+1);rw[<-nz,<-hkb,<-ny];obtain⟨Wb,rk⟩:=exq (((wr.alloc (.cells #[.int .i64 x.i,.int .i64 x.t,.int .i64 x.d] 222)).alloc (.cells #[.int .i64 x.i,.int .i64 x.t,.int .i64 x.d] 222)).alloc (.cells #[.slice a B.length c] 65));rw[<-rk];have ahp:Wb.heap.size=wr.heap.size+1+1+1:=by rw[rk];simp
   have TX:TB Wb xb #[.int .i64 x.i,.int .i64 x.t,.int .i64 x.d] 222:=by
    rw[rk,ny];exact((TB.alloc wr _ _).keep (Ag _ _ none) (RT.none _ _) (by decide:(Option.none:Option TypeId)≠_)).keep (Ag _ _ none) (RT.none _ _) (by decide:(Option.none:Option TypeId)≠_)
   have TK:TB Wb kb #[.int .i64 x.i,.int .i64 x.t,.int .i64 x.d] 222:=by
    rw[rk,hkb]
    have:=(TB.alloc (wr.alloc (.cells #[.int .i64 x.i,.int .i64 x.t,.int .i64 x.d] 222)) #[.int .i64 x.i,.int .i64 x.t,.int .i64 x.d] 222).keep (Ag _ (.cells #[.slice a B.length c] 65) none) (RT.none _ _) (by decide:(Option.none:Option TypeId)≠_)
    rwa [Aw]at this
   have TL:TB Wb lb #[.slice a B.length c] 65:=by
    rw[rk,nz]
    have:=TB.alloc ((wr.alloc (.cells #[.int .i64 x.i,.int .i64 x.t,.int .i64 x.d] 222)).alloc (.cells #[.int .i64 x.i,.int .i64 x.t,.int .i64 x.d] 222)) #[.slice a B.length c] 65
    rwa [Aw,Aw]at this
   have HBb:Hid (Bst w Wb s B.length (.slice a B.length c) (lbD (bls B) i vS (.slice (some ⟨bA,oA,none⟩) N1 cA) vL u7 u8 (tT (bls B) i))):=by
    rw[rk];have h:=((hB.al (.cells #[.int .i64 x.i,.int .i64 x.t,.int .i64 x.d] 222)).al (.cells #[.int .i64 x.i,.int .i64 x.t,.int .i64 x.d] 222)).al (.cells #[.slice a B.length c] 65);rw[show (eI (rootS (bls B)) (eZ (bls B)) (nodesA (bls B)) i).length=N1 from HN1.out.symm]at h
    exact h
   have vg:lE Wb s ds:=by
    rw[rk];exact((HM.out.grown (row:=none) (Ag _ _ _) (λ_ _ e=>by cases e)).grown (row:=none) (Ag _ _ _) (λ_ _ e=>by cases e)).grown (row:=none) (Ag _ _ _) (λ_ _ e=>by cases e)
   have ad4:bA<wr.heap.size:=by
    have:=gH hB.oA bA rfl
    exact this
   have HHS:=Aa (show s<=wr.heap.size from jg)
   have hxk:bA≠xb/\bA≠kb/\kb<Wb.heap.size/\lb<Wb.heap.size/\s<=Wb.heap.size:=⟨by omega,by omega,by omega,by omega,by omega⟩;clear ny hkb nz ahp jg ad4;clear rk hB e0 e1 e2 c1 c8;obtain⟨S,hS⟩:∃S:Nat->Prop,S=λb=>b<s\/b=kb\/b=lb:=⟨_,rfl⟩
   have ac4:∀b,S b->b<Wb.heap.size:=λb hb=>by
    rw[hS]at hb;rcases hb with h|h|h<;>omega
   have hgx:=HOK.out.good HX.out;have hSW:∀q,a=some q->S q.block:=λq hq=>by rw[hS];exact Or.inl (by rw[HS.out];exact HA.out q hq)
   have ahq:aG Wb a 1 (B.map stC):=HAT.out.grows HBb.out.gr;have KS:=xP0 11 B a c kb lb x S Wb hB_ HSZ.out HOK.out.asc hgx (by rw[hS];exact Or.inr (Or.inl rfl)) (by rw[hS];exact Or.inr (Or.inr rfl)) hSW ac4 (TK.cell rfl) (TK.cell rfl) (TK.cell rfl) (TL.cell rfl) ahq;refine(wpIn_wide (n:=12)).1 ?_
   refine wpIn_rangeFunc_ownH (F:=Fence.wide) (n:=12) (α:=zN (bls B) x) rfl (by decide) (gf:=212) (lb:=#[.pointer (some ⟨kb,0,none⟩),.pointer (some ⟨lb,0,none⟩)]) rfl trivial (enters_of Tryz.func212 (by kernel_rfl) rfl) KS
    (λh k=>h.tr k) (λW l o o' hl ho hc hw b hb=>World.putObj_heap_other (λe=>by have:=ac4 b hb;omega)) (Below.refl _ _) (λ_=>rfl)
    (λpre W=>∃m9 rm na,LbJ w s B.length (.slice a B.length c) ds xb kb lb Wb.heap.size x (lbK (bls B) i x (pre.map (λy=>y.1)) m9 rm na u7 u8) W)
    (λ_ _ _=>False) ?hI (λ_ _ _ _ _ h _ _=>h) ?h0
    (λy a' W=>∃Bx v,Wb.heap.size<=Bx/\TB W Bx #[.int .i64 y.1.i,.int .i64 y.1.t,.int .i64 y.1.d] 222/\TB W (s+7) #[v] 223/\v.ownBlock≠some Bx /\
     a'={ tmps:=(aF0 B a c s b2 b3 b4 b5 b6 b7 b8 ds { u7:=u7,u8:=u8,u10:=.int .i64 i,u11:=.pointer (some ⟨xb,0,none⟩),u12:=.pointer (some ⟨Bx,0,none⟩),u13:=u13,u29:=.int .i64 i,u30:=.slice (some ⟨bA,oA,none⟩) N1 cA,u31:=.int .i64 N1,u32:=.bool true,u33:=u33,u34:=u34,u35:=.slice (some ⟨bA,oA,none⟩) N1 cA,u36:=.int .i64 i,u37:=.pointer (some ⟨bA,oA+i*3,none⟩),u38:=.agg #[.int .i64 x.i,.int .i64 x.t,.int .i64 x.d],u39:=.agg #[.int .i64 x.i,.int .i64 x.t,.int .i64 x.d],u40:=.slice a B.length c,u41:=.func (.func 212) #[] #[.pointer (some ⟨kb,0,none⟩),.pointer (some ⟨lb,0,none⟩)],u42:=.agg #[.int .i64 y.1.i,.int .i64 y.1.t,.int .i64 y.1.d],u43:=u43,u44:=u44,u45:=u45,u46:=u46,u47:=u47,u48:=u48,u49:=u49,u50:=u50,u51:=u51,u52:=u52,u53:=u53,u54:=u54,u55:=u55,u56:=u56,u57:=u57,u58:=u58,u59:=u59,u60:=u60,u61:=u61,u62:=u62,u63:=u63,u64:=u64,u65:=u65,u66:=u66,u67:=u67,u68:=u68,u69:=u69,u70:=u70,u71:=u71,u72:=u72,u73:=u73,u74:=u74,u75:=u75,u76:=u76,u77:=u77,u78:=u78,u79:=u79,u80:=u80,u81:=u81,u82:=u82,u83:=u83,u84:=u84,u85:=u85,u86:=u86,u87:=u87,u88:=u88,u89:=u89,u90:=u90,u91:=u91,u92:=u92,u93:=u93,u94:=u94,u95:=u95,u96:=u96,u97:=u97,u98:=u98,u99:=u99,u100:=u100,u101:=u101,u102:=u102,u103:=u103,u104:=u104,u105:=u105,u106:=u106,u107:=u107 }).tmps,defers:=[] }) ?hAx ?assign ?body ?done ?stop
   case hI =>
    rintro pre V V' row ⟨m9,rm,na,h⟩ hg hr;exact⟨m9,rm,na,h.other hg (RT.of_not λq e=>(hr q e).2) (λq e=>by have:=(hr q e).1;omega) (λD hD e=>by have h1:=(hr D e).1;have h2:=(Array.getElem?_eq_some_iff.1 (vg.at_ D hD).2).1;omega)⟩
   case h0 =>
    refine⟨vS,.slice (some ⟨bA,oA,none⟩) N1 cA,vL,?_,TX,TK,TL,λe=>?_,λe=>?_,vg,Ad _⟩
    ·have h:=HBb.out
     simpa [lbD,lbK] using h
    ·have e1:some bA=some xb:=e
     exact hxk.1 (Option.some.inj e1)
    ·have e1:some bA=some kb:=e
     exact hxk.2.1 (Option.some.inj e1)
   case hAx =>
    rintro y a' _ V V' row ⟨Bx,v,k1,k2,k3,k4,k5⟩ hg hr;exact⟨Bx,v,k1,k2.keep hg (RT.of_not λq e=>(hr q e).2) (by decide),k3.keep hg (RT.of_not λq e=>(hr q e).2) (by decide),k4,k5⟩
   case assign =>
    rintro l pre y V K2 ⟨m9,rm,na,h⟩ ld;dsimp only[jR0]
    gi_wp2
    exact ld _ _ ((KeepsOthers.alloc _ _).from _) (bK.alloc (λb hb=>As (ac4 b hb) h.sz) _) ⟨m9,rm,na,h.al _⟩ ⟨V.heap.size,rm,h.sz,TB.alloc _ _ _,(h.al _).st.b8,λe=>absurd (gH h.st.oA _ e) (Bc _),rfl⟩
   case body =>
    rintro l pre y a' V hl aez ⟨m9,rm,na,h⟩ ⟨Bx,v,k1,TC,kb8,kne,rfl⟩ aj
    obtain rfl:rm=v:=by
     have e1:=h.st.b8;unfold TB at e1 kb8;dsimp only[lbK]at e1
     rw[e1]at kb8;simpa using kb8
    have HYK:=y.2;obtain⟨gy,hyd,lj,hy2⟩:=(yY HOK.out.asc hgx).mem y.1 HYK;have ahr:y.1.i<y.1.t:=by rcases gy.ne with h|h<;>omega
    have hyB:y.1.i<B.length:=by have:=gy.le;rw[cO]at this;omega
    obtain⟨sI,s8⟩:∃s,B[y.1.i]?=some s:=⟨_,Ac hyB⟩
    have hxd:x.d<sI.size:=by
     have:=gy.len y.1.i (Ad _) ahr
     rw[eK s8,eE,hyd]at this;omega
    have o6:oU (bls B) x y.1=sI[x.d]:=by
     unfold oU;rw[eK s8,List.getD_eq_getElem?_getD,mX hxd];rfl
    clear hyd lj hy2 gy;obtain⟨sb,so,rfl,dg⟩:=at1 (f:=λs:ByteArray=>Value.string s) (HAT.out.grows h.st.gr) (Ai (Ae s8));have ahs:sb<s:=by rw[HS.out];exact HA.out _ rfl
    have HPL:Hid (pre.length+offA (bls B) i<6000000/\(shapeL (bls B) ((nodesA (bls B)).take i)).length<=2000000/\(labelsL (bls B) ((nodesA (bls B)).take i)).length<=1000000):=by
     have h1:=HOK.out.off_le (i+1);rw[iN HX.out]at h1;have h2:=HOK.out.many (by rw[cO];exact hB_);have h3:=eN (bls B) i (by have:=(List.getElem?_eq_some_iff.1 HX.out).1;omega);have h4:=mP0 (bls B) i;have h5:=HO.out;show _/\_/\_
     omega
    have c6:V.cell? ⟨b6,0,none⟩=some m9:=by rw[HB6.out];exact h.st.b6.cell rfl
    obtain⟨Ls,hLs⟩:=exq (shapeL (bls B) ((nodesA (bls B)).take i)++Ab (pre.map (λy=>y.1)).length true);obtain⟨Ll,hLl⟩:=exq (labelsL (bls B) ((nodesA (bls B)).take i)++(pre.map (λy=>y.1)).map (oU (bls B) x));obtain⟨La,hLa⟩:=exq (eI (rootS (bls B)) (eZ (bls B)) (nodesA (bls B)) i++pre.map (λy=>y.1));have oS:aU V s 4 1 qQ m9 Ls:=by rw[hLs];exact h.st.oS
    have ad5:Ls.length+1<=9000000/\Ll.length+1<=9000000/\La.length+1<=9000000:=by
     have:=HPL.out
     rw[hLs,hLl,hLa];simp only[Aj,Al,Ak];have e1:(eI (rootS (bls B)) (eZ (bls B)) (nodesA (bls B)) i).length=offA (bls B) i:=rfl;omega
    have HLS:=Aa hLs;have HLL:=Aa hLl;have HLA:=Aa hLa;clear hLs hLl hLa;have hsV:s<=V.heap.size:=Ah hxk.2.2.2.2 h.sz;dsimp only[aF0]
    refine wpIn_block ?_;refine wpIn_seq_k λK1 hK1=>?_;refine iL1 (by rintro⟨_,_,h⟩;exact h) (by kernel_rfl) ?_;go_wp2_with (at_builtin;refine eV aP0 rfl _ _ rfl s m9 _ true rfl oS (aB.refl _) _ 1 rfl #[.bool true] rfl rfl (by omega) hsV ?_;intro v5 w5 ho5 bi y8 _;obtain⟨g5,p5,rfl⟩:=pL ho5;have uf:=h.pushS ho5 bi y8;have c6b:w5.cell? ⟨b6,0,none⟩=some m9:=(by rw[HB6.out];exact uf.2.2.2.cell rfl);have f6b:w5.frozen? ⟨b6,0,none⟩=false:=(by rw[HB6.out];exact uf.2.2.2.froz 0))
    obtain⟨V2,jq⟩:=exq (w5.setCell ⟨b6,0,none⟩ (.slice (some ⟨g5,0,none⟩) (Ls.length+1) p5));have J5:=uf.1;have KF5:=uf.2.1;have TC2:=uf.2.2.1 _ _ TC;rw[<-HB6.out,<-jq]at J5 KF5 TC2;rw[<-jq];clear uf jq c6 c6b f6b oS ho5 bi y8 TC kb8 dg;have J5d:=J5.dr;have q4:V2.drew.cell? ⟨b4,0,none⟩=some (.pointer (some ⟨b3,0,none⟩)):=by rw[HB4.out,HB3.out];exact J5d.st.b4.cell rfl
    have q3:V2.drew.cell? ⟨b3,2,none⟩=some na:=by rw[HB3.out];exact J5d.st.b2.cell rfl
    have q1:V2.drew.cell? ⟨s,0,none⟩=some (.slice (some ⟨sb,so,none⟩) B.length c):=J5d.st.b1.cell rfl;have qc:V2.drew.cell? ⟨Bx,0,none⟩=some (.int .i64 y.1.i):=(aB.drew V2).cell (TC2.cell rfl);have qx:V2.drew.cell? ⟨xb,2,none⟩=some (.int .i64 x.d):=J5d.tx.cell rfl
    have qs:V2.drew.cell? ⟨sb,so+y.1.i,none⟩=some (.string sI):=by
     obtain⟨sb',so',e,dg⟩:=at1 (f:=λs:ByteArray=>Value.string s) (HAT.out.grows J5d.st.gr) (Ai (Ae s8));have e1:sb=sb'/\so=so':=by simpa using e
     rw[e1.1,e1.2];exact dg _ _ s8
    obtain⟨T,hT⟩:∃T:Nat->Prop,T=λb=>b=b4\/b=b3\/b=s\/b=Bx\/b=xb\/b<s:=⟨_,rfl⟩;have TCd:TB V2.drew Bx #[.int .i64 y.1.i,.int .i64 y.1.t,.int .i64 y.1.d] 222:=TC2;have b4d:TB V2.drew b4 #[.pointer (some ⟨s+2,0,none⟩)] 109:=by rw[HB4.out];exact J5d.st.b4
    have b3d:TB V2.drew b3 #[.pointer none,.pointer none,na,.pointer none,.slice (some ⟨s+1,0,none⟩) B.length B.length] 203:=by rw[HB3.out];exact J5d.st.b2
    have jk:∀b,T b->b<V2.drew.heap.size:=λb hb=>by
     rw[hT]at hb;rcases hb with rfl|rfl|rfl|rfl|rfl|hb
     ·exact b4d.lt
     ·exact b3d.lt
     ·exact J5d.st.b1.lt
     ·exact TCd.lt
     ·exact J5d.tx.lt
     ·have:=J5d.st.b1.lt;omega
    have hTr:∀b,T b->na.ownBlock≠some b:=λb hb=>by
     have hr:RT V2.drew na.ownBlock (some 5):=RT.own J5d.st.oL;rw[hT]at hb;rcases hb with rfl|rfl|rfl|rfl|rfl|hb
     ·exact b4d.ne_row hr (by decide)
     ·exact b3d.ne_row hr (by decide)
     ·exact J5d.st.b1.ne_row hr (by decide)
     ·exact TCd.ne_row hr (by decide)
     ·exact J5d.tx.ne_row hr (by decide)
     ·intro e
      have:=aX J5d.st.oL b e
      omega
    have z4:∀x:Ext (bK T) V2.drew,x.u.cell? ⟨b4,0,none⟩=some (.pointer (some ⟨b3,0,none⟩)):=gN (by rw[hT];exact Or.inl rfl) q4;have z3:∀x:Ext (bK T) V2.drew,x.u.cell? ⟨b3,2,none⟩=some na:=gN (by rw[hT];exact Or.inr (Or.inl rfl)) q3;have z1:∀x:Ext (bK T) V2.drew,x.u.cell? ⟨s,0,none⟩=some (.slice (some ⟨sb,so,none⟩) B.length c):=gN (by rw[hT];exact Or.inr (Or.inr (Or.inl rfl))) q1;have zc:∀x:Ext (bK T) V2.drew,x.u.cell? ⟨Bx,0,none⟩=some (.int .i64 y.1.i):=gN (by rw[hT];exact Or.inr (Or.inr (Or.inr (Or.inl rfl)))) qc;have zx:∀z:Ext (bK T) V2.drew,z.u.cell? ⟨xb,2,none⟩=some (.int .i64 x.d):=gN (by rw[hT];exact Or.inr (Or.inr (Or.inr (Or.inr (Or.inl rfl))))) qx;have zs:∀x:Ext (bK T) V2.drew,x.u.cell? ⟨sb,so+y.1.i,none⟩=some (.string sI):=gN (by rw[hT];exact Or.inr (Or.inr (Or.inr (Or.inr (Or.inr ahs))))) qs;have hyi:(y.1.i:Int)<B.length:=by omega
    have ajr:(x.d:Int)<sI.size:=by omega
    have HT:=Aa hT;clear hT q4 q3 q1 qc qx qs;refine wpIn_seq_k λK2 ld=>?_;refine iA1 (bK T) 15 (bE 15 [13,14]) (by rintro⟨_,_,h⟩;exact h) (by kernel_rfl) (bK.refl T) (nN T) (by kernel_rfl) (by kernel_rfl) (λd _ _ _ _ h=>by cases d<;>exact h) ?_
    iterate 13 (refine aH rfl (λK hK=>?_);go_simp;refine hK _ ?_;clear hK K)
    refine bG rfl rfl (λK hK=>?_);go_simp;refine⟨bK.alloc jk _,hK _ _ ?_⟩;clear hK K;refine bG rfl rfl (λK hK=>?_);have oL:aU V2.drew s 5 1 aV na Ll:=by rw[HLL.out];exact J5d.st.oL
    refine bA1 bI _ _ rfl s na Ll sI[x.d] rfl oL V2.drew.heap.size 1 rfl #[.int .u8 (sI[x.d].toNat:Nat)] rfl rfl (by omega) (Ah hsV (Ah KF5.size (Ad _))) ?_;intro v6 w6 ho6 dw _;have hJ6:=J5d.pushL ho6 dw;obtain⟨g6,p6,rfl⟩:=pL ho6;refine⟨λb hb=>?_,hK _ _ ?_⟩
    ·have e1:=dw.block b (jk b hb) (λe=>hTr b hb e.symm)
     have e2:=bK.alloc jk (.cells #[.int .u8 (sI[x.d].toNat:Nat)] 5) b hb;rw[e1,<-e2];rfl
    clear hK K z4 z3 z1 zc zx zs;refine bN ?_;have c3b:w6.cell? ⟨b3,2,none⟩=some na:=by rw[HB3.out];exact hJ6.2.2.2.cell rfl
    have f3b:w6.frozen? ⟨b3,2,none⟩=false:=by rw[HB3.out];exact hJ6.2.2.2.froz 2
    simp only[Ar,Ba];go_wp2_with fail
    obtain⟨V3,ww⟩:=exq (w6.setCell ⟨b3,2,none⟩ (.slice (some ⟨g6,0,none⟩) (Ll.length+1) p6));have J6:=hJ6.1;have KF6:=hJ6.2.1;have TC3:=hJ6.2.2.1 _ _ TCd;rw[<-HB3.out,<-ww]at J6 KF6 TC3;rw[<-ww];have aht:s<=V3.heap.size:=Ah hxk.2.2.2.2 J6.sz;clear hJ6 ww c3b f3b oL ho6 dw TCd b4d b3d jk hTr J5d;have c8:V3.cell? ⟨b8,0,none⟩=some rm:=by rw[HB8.out];exact J6.st.b8.cell rfl
    have y0:V3.cell? ⟨Bx,0,none⟩=some (.int .i64 y.1.i):=TC3.cell rfl;have y1:V3.cell? ⟨Bx,1,none⟩=some (.int .i64 y.1.t):=TC3.cell rfl;have y2:V3.cell? ⟨Bx,2,none⟩=some (.int .i64 y.1.d):=TC3.cell rfl;have oA3:aU V3 s 222 3 bQ0 rm La:=by rw[HLA.out];exact J6.st.oA
    refine iL1 (by rintro⟨_,_,h⟩;exact h) (by kernel_rfl) ?_;go_wp2_with (at_builtin;refine eV oL0 rfl _ _ rfl s rm La y.1 rfl oA3 (aB.refl _) _ 1 rfl #[.int .i64 y.1.i,.int .i64 y.1.t,.int .i64 y.1.d] rfl rfl (by omega) aht ?_;intro v7 w7 wy ep hf7 _;have hJ7:=J6.pushA wy ep hf7;obtain⟨g7,p7,rfl⟩:=pL wy;have c8b:w7.cell? ⟨b8,0,none⟩=some rm:=(by rw[HB8.out];exact hJ7.2.2.cell rfl);have f8b:w7.frozen? ⟨b8,0,none⟩=false:=(by rw[HB8.out];exact hJ7.2.2.froz 0))
    have J7:=hJ7.1
    have E7:({ ({ ({ (lbK (bls B) i x (pre.map (λy=>y.1)) m9 rm na u7 u8) with vS:=.slice (some ⟨g5,0,none⟩) (Ls.length+1) p5,sh:=Ls++[true] }:BD) with vL:=.slice (some ⟨g6,0,none⟩) (Ll.length+1) p6,lab:=Ll++[sI[x.d]] }:BD) with vA:=.slice (some ⟨g7,0,none⟩) (La.length+1) p7,al:=La++[y.1] }:BD) =
      lbK (bls B) i x ((pre++[y]).map (λy=>y.1)) (.slice (some ⟨g5,0,none⟩) (Ls.length+1) p5) (.slice (some ⟨g7,0,none⟩) (La.length+1) p7) (.slice (some ⟨g6,0,none⟩) (Ll.length+1) p6) u7 u8:=by
     have e1:Ls++[true]=shapeL (bls B) ((nodesA (bls B)).take i)++Ab ((pre++[y]).map (λy=>y.1)).length true:=by
      rw[HLS.out,Av,Aq,Aj];show _++(Ab _ true++[true])=_++Ab (_+1) true
      rw[List.replicate_succ']
     have e2:Ll++[sI[x.d]]=labelsL (bls B) ((nodesA (bls B)).take i)++((pre++[y]).map (λy=>y.1)).map (oU (bls B) x):=by
      rw[HLL.out,Av,Aq,Aq,<-o6];rfl
     have e3:La++[y.1]=eI (rootS (bls B)) (eZ (bls B)) (nodesA (bls B)) i++(pre++[y]).map (λy=>y.1):=by
      rw[HLA.out,Av,Aq];rfl
     unfold lbK;simp only[e1,e2,e3]
    rw[E7]at J7;have KF7:=hJ7.2.1;rw[<-HB8.out]at J7 KF7;exact⟨((KF5.trans ((KeepsOthers.drew V2).from _)).trans KF6).trans KF7,h.keepB J7,_,_,_,J7⟩
   case stop =>
    rintro D c pre W _ _ h _;exact h.elim
   case done =>
    rintro D xs V hD hxs ⟨m9,rm,na,J⟩ hKD;rw[hxs]at J
    have MK:Hid (lE V s (D::ds)):=⟨λD' hD'=>by
     rcases List.mem_cons.1 hD' with rfl|h
     ·exact⟨Ah hxk.2.2.2.2 hD,hKD⟩
     ·exact J.mks.at_ D' h,List.nodup_cons.2 ⟨λjd=>by have:=(Array.getElem?_eq_some_iff.1 (vg.at_ D jd).2).1;omega,vg.nodup⟩⟩
    have ta:=iN HX.out;obtain⟨N2,hN2⟩:=exq (offA (bls B) (i+1));obtain⟨aA',cA',ae0,_,_,aav⟩:=J.st.oA.at_ oL0.len;dsimp only[lbK]at ae0
    subst ae0
    have rp:(eI (rootS (bls B)) (eZ (bls B)) (nodesA (bls B)) i++eZ (bls B) x).length=N2:=by
     rw[Aj,hN2,ta];rfl
    have c8:V.cell? ⟨b8,0,none⟩=some (.slice aA' N2 cA'):=by
     rw[HB8.out,<-rp];exact J.st.b8.cell rfl
    have HN2:=Aa hN2;by_cases ia:524287<N2
    ·have q8:(524287:Int)<N2:=by omega
     clear aav rp hN2 ta;dsimp only[aF0]
     go_wp2_with fail
     refine pK (ds:=D::ds) (lo:=s) MK.out λw' fi dn jr=>⟨.tuple #[.pointer none,.int .i64 2],by simp[results,Tryz.results94,go_sem],λ_=>⟨rfl,yQ J.st.gr MK.out HS.out fi dn jr⟩,λgv=>?_⟩
     exfalso
     have h1:=HOK.out.off_le (i+1);have h2:=dY HOK.out.asc HOK.out.len;have h3:=HN2.out;omega
    ·have q8:¬(524287:Int)<N2:=by omega
     have hsV:s<=V.heap.size:=Ah hxk.2.2.2.2 J.sz;obtain⟨Ls,hLs⟩:=exq (shapeL (bls B) ((nodesA (bls B)).take i)++Ab (eZ (bls B) x).length true);have oS:aU V s 4 1 qQ m9 Ls:=by rw[hLs];exact J.st.oS
     have ajs:Ls.length+1<=9000000:=by
      have h3:=eN (bls B) i (by have:=(List.getElem?_eq_some_iff.1 HX.out).1;omega);have h5:=HO.out;rw[hLs,Aj,Al];omega
     have HLS:=Aa hLs;have c6:V.cell? ⟨b6,0,none⟩=some m9:=by rw[HB6.out];exact J.st.b6.cell rfl
     have HLEN2:=Aa rp;have HOFF:=Aa ta;clear aav rp hN2 ta hLs;dsimp only[aF0]
     go_wp2_with (at_builtin;refine eV aP0 rfl _ _ rfl s m9 Ls false rfl oS (aB.refl _) _ 1 rfl #[.bool false] rfl rfl (by omega) hsV ?_;intro v5 w5 ho5 bi y8 _;have uf:=J.pushS ho5 bi y8;obtain⟨g5,p5,rfl⟩:=pL ho5;have c6b:w5.cell? ⟨b6,0,none⟩=some m9:=(by rw[HB6.out];exact uf.2.2.2.cell rfl);have f6b:w5.frozen? ⟨b6,0,none⟩=false:=(by rw[HB6.out];exact uf.2.2.2.froz 0))
     have M6a:lE w5 s (D::ds):=MK.out.grown bi (MK.out.not_row (RT.own J.st.oS));have M6b:lE (w5.setCell ⟨s+5,0,none⟩ (.slice (some ⟨g5,0,none⟩) (Ls.length+1) p5)) s (D::ds):=M6a.grown (aQ _ _ _ _) (M6a.not_row uf.2.2.2.rt);obtain⟨V2,jq⟩:=exq (w5.setCell ⟨b6,0,none⟩ (.slice (some ⟨g5,0,none⟩) (Ls.length+1) p5));have J5:=uf.1;rw[<-HB6.out,<-jq]at M6b;have M6:Hid (lE V2.drew s (D::ds)):=⟨λE hE=>M6b.at_ E hE,M6b.nodup⟩;clear M6a M6b;rw[<-HB6.out,<-jq]at J5;rw[<-jq];clear uf jq c6 c6b f6b oS ho5 bi y8 c8;have ac5:s<=V2.drew.heap.size:=Ah hxk.2.2.2.2 J5.sz;have J5d:=J5.dr;have B6:=J5d.st;have TX6:=J5d.tx;obtain⟨Li,hLi⟩:=exq (isL (bls B) ((nodesA (bls B)).take i));obtain⟨Ld,hLd⟩:=exq (idsL (bls B) ((nodesA (bls B)).take i));have oI:aU V2.drew s 4 1 qQ u7 Li:=by rw[hLi];exact B6.oI
     have ad5:Li.length+1<=9000000/\Ld.length+1<=9000000:=by
      have h1:=(List.getElem?_eq_some_iff.1 HX.out).1;rw[hLi,hLd];unfold isL idsL;rw[Ak,Ak];have h2:=List.length_filter_le (iK (bls B)) ((nodesA (bls B)).take i);have h3:((nodesA (bls B)).take i).length<=i:=by rw[List.length_take];omega
      omega
     have HLI:=Aa hLi;have HLD:=Aa hLd;have q0:=TX6.cell (o:=0) (v:=.int .i64 x.i) rfl;have q1:=TX6.cell (o:=1) (v:=.int .i64 x.t) rfl;have q2:=TX6.cell (o:=2) (v:=.int .i64 x.d) rfl;have qs:=B6.b1.cell (o:=0) (v:=.slice a B.length c) rfl;have z0:∀y:Ext aB V2.drew,y.u.cell? ⟨xb,0,none⟩=some (.int .i64 x.i):=aF q0;have z1:∀y:Ext aB V2.drew,y.u.cell? ⟨xb,1,none⟩=some (.int .i64 x.t):=aF q1;have z2:∀y:Ext aB V2.drew,y.u.cell? ⟨xb,2,none⟩=some (.int .i64 x.d):=aF q2;have zs:∀y:Ext aB V2.drew,y.u.cell? ⟨s,0,none⟩=some (.slice a B.length c):=aF qs;clear hLi hLd q0 q1 q2 qs;by_cases jn:x.i<x.t
     case neg =>
      have ahu:¬(x.i:Int)<x.t:=by omega
      have HH:Hid (iK (bls B) x=false):=by
       show _=_
       unfold iK;simp[jn]
      refine nL ?_;refine bH (bE 17 []) (by kernel_rfl) (λd _ _ _ _ h=>by cases d<;>exact h) ?_
      iterate 17 (refine aH rfl (λK hK=>?_);go_simp;refine hK _ ?_;clear hK K)
      refine bN ?_;simp only[fO];clear z0 z1 z2 zs;go_wp2_with (at_builtin;refine eV aP0 rfl _ _ rfl s u7 Li false rfl oI (aB.refl _) _ 1 rfl #[.bool false] rfl rfl (by omega) ac5 ?_;intro v7 w7 wy ep hf7 _;have zf:=B6.pushI wy ep hf7;have TX7:=TX6.keep ep (RT.own oI) (by decide);have M7:=Aa (M6.out.grown ep (M6.out.not_row (RT.own oI))))
      have BB:=jS0 HOK.out HX.out HH.out m9 u7 (.slice (some ⟨g5,0,none⟩) (Ls.length+1) p5) (.slice aA' (eI (rootS (bls B)) (eZ (bls B)) (nodesA (bls B)) i++eZ (bls B) x).length cA') na v7 u8;rw[<-HLS.out,<-HLI.out]at BB;have wz:=Eq.mp (congrArg (Bst w w7 s B.length _) BB) zf;exact hK (D::ds) ⟨_,_,_,_,_,_,_,_,_,_,_,_,_,_,_,_,_,_,_,_,_,_,_,_,_,_,_,_,_,_,_,_,_,_,_,_,_,_,_,_,_,_,_,_,_,_,_,_,_,_,_,_,_,_,_,_,_,_,_,_,_,_,_,_,_,_,_,_,_,_,_,_,_,_,_,_,_,_,_,_,_,_,_,_,_⟩ _ ⟨by go_num,by omega,M7.out,⟨_,_,_,wz⟩,by have:=HN2.out;omega⟩
     case pos =>
      have hxB:x.i<B.length:=by have:=hgx.le;rw[cO]at this;omega
      have ahu:(x.i:Int)<x.t:=by omega
      have ajt:(x.i:Int)<B.length:=by omega
      obtain⟨sX,hsX⟩:∃s,B[x.i]?=some s:=⟨_,Ac hxB⟩;obtain⟨sb,so,rfl,dg⟩:=at1 (f:=λs:ByteArray=>Value.string s) (HAT.out.grows B6.gr) (Ai (Ae hsX));have zS:∀y:Ext aB V2.drew,y.u.cell? ⟨sb,so+x.i,none⟩=some (.string sX):=aF (dg _ _ hsX);by_cases hh:sX.size=x.d
      case neg =>
       have tj:((sX.size:Int)==x.d)=false:=by rw[beq_eq_false_iff_ne];omega
       have HH:Hid (iK (bls B) x=false):=by
        show _=_
        unfold iK;rw[eK hsX,eE];simp[hh]
       clear hh hsX dg;refine nL ?_;refine bH (bE 17 []) (by kernel_rfl) (λd _ _ _ _ h=>by cases d<;>exact h) ?_
       iterate 17 (refine aH rfl (λK hK=>?_);go_simp;refine hK _ ?_;clear hK K)
       refine bN ?_;simp only[fO];clear z0 z1 z2 zs zS;go_wp2_with (at_builtin;refine eV aP0 rfl _ _ rfl s u7 Li false rfl oI (aB.refl _) _ 1 rfl #[.bool false] rfl rfl (by omega) ac5 ?_;intro v7 w7 wy ep hf7 _;have zf:=B6.pushI wy ep hf7;have TX7:=TX6.keep ep (RT.own oI) (by decide);have M7:=Aa (M6.out.grown ep (M6.out.not_row (RT.own oI))))
       have BB:=jS0 HOK.out HX.out HH.out m9 u7 (.slice (some ⟨g5,0,none⟩) (Ls.length+1) p5) (.slice aA' (eI (rootS (bls B)) (eZ (bls B)) (nodesA (bls B)) i++eZ (bls B) x).length cA') na v7 u8;rw[<-HLS.out,<-HLI.out]at BB;have wz:=Eq.mp (congrArg (Bst w w7 s B.length _) BB) zf;exact hK (D::ds) ⟨_,_,_,_,_,_,_,_,_,_,_,_,_,_,_,_,_,_,_,_,_,_,_,_,_,_,_,_,_,_,_,_,_,_,_,_,_,_,_,_,_,_,_,_,_,_,_,_,_,_,_,_,_,_,_,_,_,_,_,_,_,_,_,_,_,_,_,_,_,_,_,_,_,_,_,_,_,_,_,_,_,_,_,_,_⟩ _ ⟨by go_num,by omega,M7.out,⟨_,_,_,wz⟩,by have:=HN2.out;omega⟩
      case pos =>
       have tj:((sX.size:Int)==x.d)=true:=by rw[hh];simp
       have HH:Hid (iK (bls B) x=true):=by
        show _=_
        unfold iK;rw[eK hsX,eE];simp[hh,jn]
       clear hh hsX dg;refine nL ?_;refine bH (bE 17 []) (by kernel_rfl) (λd _ _ _ _ h=>by cases d<;>exact h) ?_
       iterate 17 (refine aH rfl (λK hK=>?_);go_simp;refine hK _ ?_;clear hK K)
       refine bN ?_;simp only[fO];clear z0 z1 z2 zs zS;go_wp2_with (at_builtin;refine eV aP0 rfl _ _ rfl s u7 Li true rfl oI (aB.refl _) _ 1 rfl #[.bool true] rfl rfl (by omega) ac5 ?_;intro v7 w7 wy ep hf7 _;have zf:=B6.pushI wy ep hf7;have TX7:=TX6.keep ep (RT.own oI) (by decide);have M7:=Aa (M6.out.grown ep (M6.out.not_row (RT.own oI))))
       have oN:=zf.oN;have ae1:(tT (bls B) i).length=B.length:=by rw[dG1,cO]
       have ae2:x.i<(tT (bls B) i).length:=by rw[ae1];omega
       obtain⟨ov,hov⟩:∃o,(tT (bls B) i)[x.i]?=some o:=⟨_,Ac ae2⟩;have cN:w7.cell? ⟨b2,x.i,none⟩=some (.int .i64 ov):=by rw[HB2.out];exact cM (f:=λn:Nat=>Value.int .i64 n) oN hov
       have hSN:=zf.setN ae2 i;have fN:w7.frozen? ⟨b2,x.i,none⟩=false:=by rw[HB2.out];exact hSN.1
       have z4:∀y:Ext aB w7.drew,y.u.cell? ⟨b4,0,none⟩=some (.pointer (some ⟨b3,0,none⟩)):=aF (by rw[HB4.out,HB3.out];exact zf.dr.b4.cell rfl);have z3:∀y:Ext aB w7.drew,y.u.cell? ⟨b3,4,none⟩=some (.slice (some ⟨b2,0,none⟩) B.length B.length):=aF (by rw[HB3.out,HB2.out];exact zf.dr.b2.cell rfl);have zx:∀y:Ext aB w7.drew,y.u.cell? ⟨xb,0,none⟩=some (.int .i64 x.i):=aF ((aB.drew w7).cell (TX7.cell rfl));clear oN hov ae1;refine nL ?_;refine oV 8 (bE 8 []) (by kernel_rfl) (λd _ _ _ _ h=>by cases d<;>exact h) ?_
       iterate 8 (refine aH rfl (λK hK=>?_);go_simp;refine hK _ ?_;clear hK K)
       refine bN ?_;clear z4 z3 zx;simp only[Ar,Ba];go_wp2_with fail
       simp only[fO];obtain⟨V8,hV8⟩:=exq ((w7.setCell ⟨b2,x.i,none⟩ (.int .i64 i)).drew);have B8:=hSN.2.dr;rw[<-HB2.out,<-hV8]at B8
       have M8:Hid (lE V8 s (D::ds)):=by
        have m2:=M7.out.grown (aQ w7 (s+1) x.i (.int .i64 i)) (M7.out.not_row (RT.own zf.oN));rw[hV8,HB2.out];exact⟨λE hE=>m2.at_ E hE,m2.nodup⟩
       have cx8:V8.cell? ⟨xb,0,none⟩=some (.int .i64 x.i):=by
        rw[hV8,HB2.out];exact(TX7.keep (aQ w7 (s+1) x.i (.int .i64 i)) (RT.own zf.oN) (by decide)).cell rfl
       have wx8:IntKind.u64.wrap (x.i:Int)=x.i:=by simp[Ax,Ay,At];omega
       rw[<-hV8];have hs8:s<=V8.heap.size:=by rw[HS.out];exact B8.gr.size
       have oD:aU V8 s 154 1 kF u8 Ld:=by rw[HLD.out];exact B8.oD
       clear hSN hV8 cN fN;go_wp2_with (at_builtin;refine eV cG1 rfl _ _ rfl s u8 Ld x.i rfl oD (aB.refl _) _ 1 rfl #[.int .u64 x.i] rfl rfl (by omega) hs8 ?_;intro v9 w9 ho9 jb hf9 _;have y7:=B8.pushD ho9 jb;have M9:=Aa (M8.out.grown jb (M8.out.not_row (RT.own oD))))
       have BB:=eU1 HOK.out HX.out HH.out m9 u7 u8 (.slice (some ⟨g5,0,none⟩) (Ls.length+1) p5) (.slice aA' (eI (rootS (bls B)) (eZ (bls B)) (nodesA (bls B)) i++eZ (bls B) x).length cA') na v7 v9;rw[<-HLS.out,<-HLI.out,<-HLD.out]at BB;have wz:=Eq.mp (congrArg (Bst w w9 s B.length _) BB) y7;exact hK (D::ds) ⟨_,_,_,_,_,_,_,_,_,_,_,_,_,_,_,_,_,_,_,_,_,_,_,_,_,_,_,_,_,_,_,_,_,_,_,_,_,_,_,_,_,_,_,_,_,_,_,_,_,_,_,_,_,_,_,_,_,_,_,_,_,_,_,_,_,_,_,_,_,_,_,_,_,_,_,_,_,_,_,_,_,_,_,_,_⟩ _ ⟨by go_num,by omega,M9.out,⟨_,_,_,wz⟩,by have:=HN2.out;omega⟩
end
section
open Go Go.RowKit Go.Shelf
theorem uV0 (B:List ByteArray) (a:Option Addr) (c:Nat) (w:World) (hB:B.length<=1099511627776) (dm:∀s∈B,s.size<=1099511627776) (lk:lP0 (bls B)≠0) (ac:aG w a 1 (B.map stC)) :
  Calls Tryz.prog 94 #[.slice a B.length c] w λe w'=>e=.returned (.tuple #[.pointer none,.int .i64 (lP0 (bls B))])/\aB w w':=by
 obtain⟨K,hK⟩:=exq (lP0 (bls B))
 have CK:Hid (∀u,aB w u->Calls Tryz.prog 164 #[.slice a B.length c] u λe w'=>e=.returned (.int .i64 K)/\u=w'):=λu hg=>by
  rw[hK];exact pO0 B a c u hB dm (ac.grows hg)
 rw[<-hK]at lk ⊢;have hKi:¬(K:Int)=0:=by omega
 clear ac dm hK;go_enter Tryz.func94,Tryz.ntmps94
 go_wp2_with (go_at_call 164;refine(CK.out _ (aB.alloc _ _)).mono ?_;rintro e w2 ⟨rfl,rfl⟩)
 exact bodyPost_ret (v:=.tuple #[.pointer none,.int .i64 K]) (by simp[results,Tryz.results94,go_sem]) rfl ⟨rfl,aB.alloc _ _⟩
theorem uJ (B:List ByteArray) (a:Option Addr) (c:Nat) (w:World) (hB:B.length<=1099511627776) (dm:∀s∈B,s.size<=1099511627776) (ha:∀q,a=some q->q.block<w.heap.size) (ac:aG w a 1 (B.map stC)) :
  Calls Tryz.prog 94 #[.slice a B.length c] w λe w'=>aB w w' /\
   ((gP (bls B)=0/\∃tb,e=.returned (.tuple #[.pointer (some ⟨tb,0,none⟩),.int .i64 0])/\eP w' tb (bls B)/\w.heap.size+2<=tb)\/(gP (bls B)≠0/\e=.returned (.tuple #[.pointer none,.int .i64 (gP (bls B))]))):=by
 by_cases lk:lP0 (bls B)=0
 ·have h1:¬20000<(bls B).length:=λh=>by unfold lP0 at lk;rw[if_pos h]at lk;cases lk
  have h2:pE (bls B)=false:=by
   unfold lP0 at lk;rw[if_neg h1]at lk
   cases h:pE (bls B) with
   | false=>rfl
   | true=>rw[h]at lk;cases lk
  have ag:=iM1 h2;have hl:B.length<=20000:=by rw[cO]at h1;omega
  have iq:∀s∈B,s.size<=256:=λs hs=>by
   have:=ag.len (bl s) (by unfold bls;exact List.mem_map.2 ⟨s,hs,rfl⟩)
   rwa [eE]at this
  have hc:gP (bls B)=if 524287<gC (bls B) then 2 else 0:=by
   unfold gP;rw[if_neg h1,h2];rfl
  refine(aJ1 B a c w lk ha hl iq ag ac).mono ?_;rintro e w' ⟨k1,k2⟩;rcases Bi 524287 (gC (bls B)) with h|h
  ·obtain⟨rfl,hg⟩:=k1 h
   rw[if_pos h]at hc;exact⟨hg,Or.inr ⟨by rw[hc];decide,by rw[hc];rfl⟩⟩
  ·obtain⟨rfl,ht,hg⟩:=k2 h
   rw[if_neg (by omega)]at hc;exact⟨hg,Or.inl ⟨hc,_,rfl,ht,Ad _⟩⟩
 ·have hc:gP (bls B)=lP0 (bls B):=by
   unfold gP lP0 at *;by_cases h1:20000<(bls B).length
   ·rw[if_pos h1,if_pos h1]
   ·rw[if_neg h1]at lk
    rw[if_neg h1,if_neg h1];by_cases h2:pE (bls B)=true
    ·rw[if_pos h2,if_pos h2]
    ·rw[if_neg h2]at lk
     exact absurd rfl lk
  refine(uV0 B a c w hB dm lk ac).mono ?_;rintro e w' ⟨rfl,hg⟩;exact⟨hg,Or.inr ⟨by rw[hc];exact lk,by rw[hc]⟩⟩
end
section
open Go Go.RowKit Go.Shelf
attribute [local go_sem] aO aM
theorem iU0 (L:List (List UInt8)) (tb:Nat) (s:ByteArray) (w:World) (ag:OkL L) (hl:L.length<=20000) (hc:gC L<=524287) (hs:s.size<=9223372036854775807) (ac:eP w tb L) :
  Calls Tryz.prog 80 #[.pointer (some ⟨tb,0,none⟩),.string s] w λe w'=>e=.returned (.tuple #[.int .i64 ((lC L (bl s)).1:Nat),.bool (lC L (bl s)).2])/\aB w w':=by
 by_cases ia:256<s.size
 ·have hb:(256:Int)<s.size:=by omega
  have hf:lC L (bl s)=(0,false):=nS λhm=>by
   have:=ag.len _ hm
   rw[eE]at this;omega
  rw[hf];clear ac ag hf;go_enter Tryz.func80,Tryz.ntmps80
  go_wp2_with fail
  go_ret2;exact⟨rfl,aB.refl _⟩
 ·have hb:¬(256:Int)<s.size:=by omega
  have HOK:=Aa ag;have CW:=Aa (kN0 L tb s w ag hl hc hs ac);have CI:=λ(i:Nat) (hn:fU L (bl s) i) (u:World) (hu:aB w u)=>Aa (bM1 L tb i (bl s) u ag hl hc hn (ac.grows hu));obtain⟨⟨r1,r2⟩,hR⟩:∃R,R=lC L (bl s):=⟨_,rfl⟩;rw[<-hR]at CI ⊢;have HR:=Aa hR;simp only at CI ⊢;clear ac ag hR;go_enter Tryz.func80,Tryz.ntmps80
  go_wp2_with fail
  refine CW.out.mono ?_;rintro e w1 ⟨k,b,rfl,hw,ai⟩
  cases b with
  | true =>
   have CI1:=CI k (hw.1 rfl) w1 ai;clear CI CW hw;go_wp2_with fail
   refine CI1.out.mono ?_;rintro e w2 ⟨rfl,ae⟩;go_wp2
   go_ret2;exact⟨rfl,ai.tr ae⟩
  | false =>
   obtain⟨rfl,rfl⟩:r1=0/\r2=false:=by
    have h:=HR.out;rw[HOK.out.noNode (hw.2 rfl)]at h;simpa using h
   clear CI CW hw;go_wp2_with fail
   go_ret2;exact⟨rfl,ai⟩
theorem tG0 (a k:Nat):Af a (k+1)=Af a k++[a+k]:=by
 rw[<-List.range'_append_1 (s:=a) (m:=k) (n:=1)];simp
theorem rM (a n m:Nat):(Af a n).take m=Af a (min m n):=by
 apply List.ext_getElem?
 intro i;rw[List.getElem?_take];by_cases h:i<m
 ·rw[if_pos h]
  by_cases h2:i<n
  ·rw[Bb h2,Bb (by omega)]
  ·rw[An (by simp;omega),An (by simp;omega)]
 ·rw[if_neg h,An (by simp;omega)]
theorem uE0 (L:List (List UInt8)) (tb:Nat) (s:ByteArray) (ar:Int) (w:World) (ag:OkL L) (hl:L.length<=20000) (hc:gC L<=524287) (hs:s.size<=9223372036854775807) (ac:eP w tb L) :
  Calls Tryz.prog 75 #[.pointer (some ⟨tb,0,none⟩),.string s,.int .i64 ar] w λe w'=>∃v,e=.returned v/\aU w' w.heap.size 3 1 jS v ((fJ L (bl s)).take ar.toNat)/\aB w w':=by
 have CL:=Aa (tG L tb w ac);have NILR:∀ {l:List Nat},l=[]->aU w w.heap.size 3 1 jS (.slice none 0 0) l:=λh=>by rw[h];exact aU.nil _ _ _ _ _
 by_cases h0:L.length=0
 ·have R:=Aa (NILR (l:=(fJ L (bl s)).take ar.toNat) (by unfold fJ;rw[h0];exact Bd))
  have zb:((L.length:Int)==0)=true:=by rw[h0];rfl
  generalize L.length=N at *;clear ac ag NILR;go_enter Tryz.func75,Tryz.ntmps75
  go_wp2_with fail
  refine CL.out.mono ?_;rintro e w1 ⟨rfl,rfl⟩;go_wp2_with fail
  go_ret;exact⟨_,rfl,R.out,aB.refl _⟩
 have zb:((L.length:Int)==0)=false:=by rw[beq_eq_false_iff_ne];omega
 by_cases ia:256<s.size
 ·have hb:(256:Int)<s.size:=by omega
  have R:=Aa (NILR (l:=(fJ L (bl s)).take ar.toNat) (by rw[ag.below_long (by rw[eE];exact ia)];exact Bd));generalize L.length=N at *;clear ac ag NILR;go_enter Tryz.func75,Tryz.ntmps75
  go_wp2_with fail
  refine CL.out.mono ?_;rintro e w1 ⟨rfl,rfl⟩;go_wp2_with fail
  go_ret;exact⟨_,rfl,R.out,aB.refl _⟩
 have hb:¬(256:Int)<s.size:=by omega
 by_cases hm:ar<1
 ·have R:=Aa (NILR (l:=(fJ L (bl s)).take ar.toNat) (by rw[show ar.toNat=0 by omega];rfl))
  generalize L.length=N at *;clear ac ag NILR;go_enter Tryz.func75,Tryz.ntmps75
  go_wp2_with fail
  refine CL.out.mono ?_;rintro e w1 ⟨rfl,rfl⟩;go_wp2_with fail
  go_ret;exact⟨_,rfl,R.out,aB.refl _⟩
 obtain⟨M,rfl⟩:∃M:Nat,ar=M:=⟨ar.toNat,by omega⟩;rw[Am];obtain⟨RR,m8⟩:=exq ((fJ L (bl s)).take M);rw[<-m8];have HRR:=Aa m8;clear m8;have HOK:=Aa ag;have CW:=Aa (kN0 L tb s w ag hl hc hs ac);have CK:=λ(i:Nat) (hi:i<(nodesA L).length) (u:World) (hu:aB w u)=>Aa (jG0 L tb i u ag hl hc hi (ac.grows hu));have CI:=λ(i:Nat) (t:List UInt8) (hn:fU L t i) (u:World) (hu:aB w u)=>Aa (bM1 L tb i t u ag hl hc hn (ac.grows hu));obtain⟨ib,i1,i2⟩:=ac.i
 have hN:(nodesA L).length<=524287:=by
  have:=dY ag.asc ag.len
  omega
 have CG:∀(i:Nat) (x:dC),(nodesA L)[i]?=some x->∀u,aB w u->Hid (Calls Tryz.prog 143 #[.pointer (some ⟨ib,0,none⟩),.int .i64 i] u λe w'=>e=.returned (.bool (iK L x))/\u=w'):=λi x hx u hu=>by
  have h:=yD (isL L (nodesA L)) ib i u (by have:=(ag.sizes hl hc).2.1;omega) (i2.grows hu);rw[zG hx]at h;exact h
 have HL:Hid (0<L.length):=Nat.pos_of_ne_zero h0;have HL20:Hid (L.length<=20000):=hl;have HN:=Aa hN;generalize L.length=LN at CL zb;have zq:¬(M:Int)<1:=hm;clear ac ag i2 h0 ia hm hl hc;go_enter Tryz.func75,Tryz.ntmps75
 go_wp2_with fail
 refine CL.out.mono ?_;rintro e w1 ⟨rfl,rfl⟩;go_wp2_with fail
 refine CW.out.mono ?_;rintro e w2 ⟨k,ok,rfl,hw,ae⟩
 cases ok with
 | false =>
  have R:=Aa (NILR (l:=RR) (by rw[HRR.out,HOK.out.below_none (hw.2 rfl)];exact Bd));clear CL CW CK CI CG hw NILR;go_wp2_with fail
  go_ret;exact⟨_,rfl,R.out.grows ae,ae⟩
 | true =>
  obtain⟨x0,j4,ex0⟩:=hw.1 rfl;have ad6:=HOK.out.span_pos HL.out j4;have ae3:=(HOK.out.good j4).le
  have HB:Hid (fJ L (bl s)=Af x0.i (x0.t-x0.i)):=by
   have:=HOK.out.below_node j4
   rw[ex0]at this;exact this
  have HX0:=Aa j4;have G2:=Aa ae;have hkN:=(List.getElem?_eq_some_iff.1 j4).1;obtain⟨A,hA⟩:=exq x0.i;obtain⟨T,hT⟩:=exq x0.t;have HA:=Aa hA;have HT:=Aa hT
  have HR2:Hid (RR=(Af A (T-A)).take M):=by
   show _=_
   rw[HRR.out,HB.out,hA,hT]
  rw[<-hA,<-hT]at ad6;rw[<-hT]at ae3;have hT5:T<=20000:=Ah ae3.2 HL20.out;clear CL CW hw NILR j4 ex0 hA hT ae HB;go_wp2_with fail
  go_loopw [9] (λf wr=>∃i:Nat,f=.int .i64 i/\i<=524287/\Hid (∃x,(nodesA L)[i]?=some x/\x.i=A)/\Hid (aB w wr)) (λf _=>524288-(intOf f).toNat)
  case atStart=>exact⟨k,rfl,by omega,⟨x0,HX0.out,HA.out.symm⟩,G2.out⟩
  case round =>
   obtain⟨i,rfl,hi,hX,hG⟩:=hrel;obtain⟨x,hx,hxA⟩:=hX.out;have pm:=(List.getElem?_eq_some_iff.1 hx).1;have hxt:=HOK.out.span_pos HL.out hx;have i1r:=hG.out.cell i1;have CG1:=CG i x hx wr hG.out;have HX:=Aa hx;clear hX hx
   cases hh:iK L x with
   | false =>
    rw[hh]at CG1;have CK1:=CK i pm wr hG.out;obtain⟨k1,y,hy,hyi⟩:=HOK.out.first_kid HX.out hxt hh;have hgt:=HOK.out.off_gt pm;have gv:=HOK.out.off_le (i+1);have HY:Hid (∃x,(nodesA L)[offA L i]?=some x/\x.i=A):=⟨y,hy,hyi.trans hxA⟩;generalize offA L i=O at *;generalize offA L (i+1)=O1 at *;clear hy hyi hh CK CG CI;go_wp2_with fail
    refine CG1.out.mono ?_;rintro e w3 ⟨rfl,rfl⟩;go_wp2_with fail
    refine CK1.out.mono ?_;rintro e w4 ⟨rfl,cu⟩;have o0:=hG.out.tr cu;go_wp2_with fail
    go_roundw
    case rel=>exact⟨O,rfl,by omega,HY.out,o0⟩
    case measure=>simp[intOf];omega
   | true =>
    rw[hh]at CG1;have FND:=HOK.out.find_node HX.out;rw[if_pos hh,hxA]at FND;have CI1:=λ(u:World) (hu:aB w u)=>CI i _ ⟨x,HX.out,rfl⟩ u hu;rw[FND]at CI1;clear CG hh FND;go_wp2_with fail
    refine CG1.out.mono ?_;rintro e w3 ⟨rfl,rfl⟩;obtain⟨u3,rfl⟩:=exq wr;clear CG1;go_wp2_with fail
    go_loopw [10] (λf wr=>∃i:Nat,f=.int .i64 i/\i<=524287/\Hid (∃x,(nodesA L)[i]?=some x/\x.t=T)/\Hid (aB w wr)) (λf _=>524288-(intOf f).toNat)
    case atStart=>exact⟨k,rfl,by omega,⟨x0,HX0.out,HT.out.symm⟩,hG.out⟩
    case round =>
     obtain⟨j,rfl,hj,hY,hGj⟩:=hrel;obtain⟨y,hy,hyT⟩:=hY.out;have hjl:=(List.getElem?_eq_some_iff.1 hy).1;have hyt:=HOK.out.span_pos HL.out hy;have CK1:=CK j hjl wr hGj.out;have mg:=kW (L:=L) (show j<=j+1 by omega)
     have hgt:=HOK.out.off_gt hjl;have gv:=HOK.out.off_le (j+1);by_cases hk:offA L j<offA L (j+1)
     ·obtain⟨z,hz,hzt⟩:=HOK.out.last_kid hy hk
      obtain⟨Q,hQ⟩:=exq (offA L (j+1)-1);rw[<-hQ]at hz;have HZ:Hid (∃x,(nodesA L)[Q]?=some x/\x.t=T):=⟨z,hz,hzt.trans hyT⟩;generalize offA L j=O at *;generalize offA L (j+1)=O1 at *;have wQ:IntKind.i64.wrap ((O1:Int)-1)=Q:=by simp[Ax,Ay,At];omega
      have ak:((O:Int)==O1)=false:=by rw[beq_eq_false_iff_ne];omega
      clear hz hzt hy hY CK CI1;go_wp2_with fail
      refine CK1.out.mono ?_;rintro e w4 ⟨rfl,cu⟩;have o0:=hGj.out.tr cu;go_wp2_with fail
      go_roundw
      case rel=>exact⟨Q,by go_num,by omega,HZ.out,o0⟩
      case measure=>simp[intOf];omega
     ·obtain⟨hh,hyi⟩:=OkL.no_kid hy hyt hk
      have FND:=HOK.out.find_node hy;rw[if_pos hh]at FND;have CI2:=λ(u:World) (hu:aB w u)=>CI j _ ⟨y,hy,rfl⟩ u hu;rw[FND]at CI2;obtain⟨B,hB⟩:=exq y.i;rw[<-hB]at CI2;have hBT:B+1=T:=by omega
      have yo:((offA L j:Int)==offA L (j+1))=true:=by rw[beq_iff_eq];omega
      generalize offA L j=O at *;generalize offA L (j+1)=O1 at *;clear hh FND hy hY CK CI hB;go_wp2_with fail
      refine CK1.out.mono ?_;rintro e w4 ⟨rfl,cu⟩;have hg:=hGj.out.tr cu;have CI3:=CI1 w4 hg;clear CK1 CI1 cu;go_wp2_with fail
      refine CI3.out.mono ?_;rintro e w5 ⟨rfl,bi⟩;have du:=hg.tr bi;have CI4:=CI2 w5 du;clear CI3 CI2 bi hg;go_wp2_with fail
      refine CI4.out.mono ?_;rintro e w6 ⟨rfl,dw⟩;have G6:=Aa (du.tr dw);clear CI4 dw du;go_wp2_with fail
      go_loopw [17,18] (λv i wr=>∃q P:Nat,P=A+q/\i=.int .i64 P/\q<=T-A/\q<=M/\Hid (aU wr w.heap.size 3 1 jS v (Af A q))/\Hid (aB w wr)) (λ_ i _=>T-(intOf i).toNat)
      case atStart=>exact⟨0,A,rfl,rfl,Au _,Au _,aU.nil _ _ _ _ _,G6.out⟩
      case round =>
       obtain⟨q,P,hP,rfl,hq1,mm,hO,hGq⟩:=hrel;obtain⟨aq,cq,hve,_,_,_⟩:=hO.out.at_ (k:=1) (λx=>(rfl:(jS x).length=1));rw[Be]at hve;subst hve;by_cases jd:P<=B
       ·have ahv:(P:Int)<=B:=by omega
        by_cases hqm:q<M
        ·have ahw:(q:Int)<M:=by omega
         have tc:=hO.out;have hr:=tG0 A q;rw[<-hP]at hr;have HR:=Aa hr;have hlr:(Af A q).length=q:=Be;have hgs:=hGq.out.size;generalize Af A q=cd at tc HR hlr;obtain⟨P1,hP1⟩:=exq (P+1);have wP:IntKind.i64.wrap ((P:Int)+1)=P1:=by simp[Ax,Ay,At];omega
         have HP:=Aa hP;have HP1:=Aa hP1;clear hr hO hP hP1;go_wp2_with (at_builtin;refine eV nW rfl _ _ rfl w.heap.size _ cd P rfl tc (aB.refl _) _ 1 rfl #[.int .i64 P] rfl rfl (by omega) hgs ?_;intro v6 w6 zg hk6 _ ahx)
         have dw:=ahx w hGq.out (Ad _);rw[<-HR.out]at zg;go_roundw
         case rel=>exact⟨q+1,P1,by have:=HP.out;have:=HP1.out;omega,by go_num,by have:=HP.out;omega,by omega,zg,dw⟩
         case measure=>have:=HP.out;have:=HP1.out;simp[intOf];omega
        ·have ahw:¬(q:Int)<M:=by omega
         have tc:=hO.out
         rw[show Af A q=(Af A (T-A)).take M by
          rw[rM];congr 1
          omega]at tc
         clear hO hP;go_wp2_with fail
         go_ret;exact⟨_,rfl,by rw[HR2.out];exact tc,hGq.out⟩
       ·have ahv:¬(P:Int)<=B:=by omega
        have tc:=hO.out
        rw[show Af A q=(Af A (T-A)).take M by
         rw[rM];congr 1
         omega]at tc
        clear hO hP;go_wp2_with fail
        go_ret;exact⟨_,rfl,by rw[HR2.out];exact tc,hGq.out⟩
end
section
open Go Go.RowKit Go.Shelf
attribute [local go_sem] aO aM
structure GB (w0 w:World) (vP vD vS:Value) (P D:List Nat) (S:List ByteArray):Prop where
 p:aU w w0.heap.size 3 1 jS vP P
 d:aU w w0.heap.size 3 1 jS vD D
 s:aU w w0.heap.size 9 1 stC vS S
 pd:mZ vP vD
 ps:mZ vP vS
 ds:mZ vD vS
 g:aB w0 w
section
variable {w0 w w':World} {vP vD vS v':Value} {P D P' D':List Nat} {S:List ByteArray}
theorem GB.grows (h:GB w0 w vP vD vS P D S) (hg:aB w w'):GB w0 w' vP vD vS P D S:=⟨h.p.grows hg,h.d.grows hg,h.s.grows hg,h.pd,h.ps,h.ds,h.g.tr hg⟩
theorem GB.appP (h:GB w0 w vP vD vS P D S) (ho:aU w' w0.heap.size 3 1 jS v' P') (hk:w.grownBy w' vP.ownBlock) (hf:uW w vP v'):GB w0 w' v' vD vS P' D S :=
 ⟨ho,gT h.d hk h.pd,gT h.s hk h.ps,h.pd.fresh (gH h.d) hf,h.ps.fresh (gH h.s) hf,h.ds,h.g.grown hk (aX h.p)⟩
theorem GB.appD (h:GB w0 w vP vD vS P D S) (ho:aU w' w0.heap.size 3 1 jS v' D') (hk:w.grownBy w' vD.ownBlock) (hf:uW w vD v'):GB w0 w' vP v' vS P D' S :=
 ⟨gT h.p hk h.pd.symm,ho,gT h.s hk h.ds,(h.pd.symm.fresh (gH h.p) hf).symm,h.ps,h.ds.fresh (gH h.s) hf,h.g.grown hk (aX h.d)⟩
theorem GB.ebP (h:GB w0 w vP vD vS P D S) (hk:w.grownBy w' vP.ownBlock):EB w0.heap.size w w' :=
 ⟨Below.grown (Below.refl _ _) hk h.g.size (aX h.p),hk.size⟩
theorem GB.ebD (h:GB w0 w vP vD vS P D S) (hk:w.grownBy w' vD.ownBlock):EB w0.heap.size w w' :=
 ⟨Below.grown (Below.refl _ _) hk h.g.size (aX h.d),hk.size⟩
theorem GB.newD (h:GB w0 w vP vD vS P D S):some w.heap.size≠vD.ownBlock:=λe=>Bc _ (gH h.d _ e.symm)
theorem GB.newP (h:GB w0 w vP vD vS P D S):some w.heap.size≠vP.ownBlock:=λe=>Bc _ (gH h.p _ e.symm)
theorem GB.setS {lb n c k:Nat} (h:GB w0 w vP vD (.slice (some ⟨lb,0,none⟩) n c) P D S) (hk:k<S.length) (y:ByteArray):w.frozen? ⟨lb,k,none⟩=false/\GB w0 (w.setCell ⟨lb,k,none⟩ (.string y)) vP vD (.slice (some ⟨lb,0,none⟩) n c) P D (S.set k y):=by
 obtain⟨h1,h2,h3⟩:=eO (f:=λs:ByteArray=>Value.string s) h.s hk y;have hg:=(aB.refl w).grownBy_set lb k (.string y);exact⟨h1,gT (v:=.slice (some ⟨lb,0,none⟩) n c) h.p hg h.ps.symm,gT (v:=.slice (some ⟨lb,0,none⟩) n c) h.d hg h.ds.symm,h3,h.pd,h.ps,h.ds,h.g.set (show w0.heap.size<=lb from h2) _⟩
end
theorem nG1 (n:Nat) (W:World) (h1:1<=n) (hn:n<=1048576):(Instr.makeSlice 66 (.int .i64 1) (.int .i64 n)).run Tryz.prog W=.ok (.slice (some ⟨W.heap.size,0,none⟩) 1 n) (W.alloc (.cells (madeCells #[.int .i64 0] (n*1)) 3)):=by
 obtain⟨i,h1,h2,h3,h4⟩:=xB0;have h:=run_make (P:=Tryz.prog) W 66 3 i (.int .i64 0) Tryz.underlying66 h1 h2 .i64 .i64 1 n (by omega) (by omega) (by rw[h4];omega) (by omega);rw[Am,h3]at h;exact h
theorem eI1 {w:World} {n:Nat} (h1:1<=n) (hn:n<=1048576):aU (w.alloc (.cells (madeCells #[.int .i64 0] (n*1)) 3)) w.heap.size 3 1 jS (.slice (some ⟨w.heap.size,0,none⟩) 1 n) [0]:=by
 refine⟨rfl,Or.inr ⟨w.heap.size,n,madeCells #[.int .i64 0] (n*1),rfl,Ad _,?_,h1,by unfold maxLen;omega,by rw[size_madeCells],?_⟩⟩
 ·show (w.heap.push _)[w.heap.size]?=_
  simp
 ·rw[toList_madeCells_one,List.take_replicate,show min (([0]:List Nat).length*1) (n*1)=1 by simp;omega]
  rfl
theorem kC1:∃i,Tryz.prog.info? 9=some i/\i.zero=some (.string ⟨#[]⟩)/\i.size=1/\i.bytes=16:=by
 have h:(Tryz.prog.info? 9).map (λi=>(i.zero,i.size,i.bytes))=some (some (.string ⟨#[]⟩),1,16):=by kernel_rfl
 cases hi:Tryz.prog.info? 9 with
 | none=>rw[hi]at h;cases h
 | some i =>
  rw[hi]at h;simp only[Bh,Option.some.injEq,Prod.mk.injEq]at h;exact⟨i,rfl,h.1,h.2.1,h.2.2⟩
theorem oK1 (n:Nat) (W:World) (hn:n<=1048576):(Instr.makeSlice 65 (.int .i64 n) (.int .i64 n)).run Tryz.prog W=.ok (.slice (some ⟨W.heap.size,0,none⟩) n n) (W.alloc (.cells (madeCells #[.string ⟨#[]⟩] (n*1)) 9)):=by
 obtain⟨i,h1,h2,h3,h4⟩:=kC1;have h:=run_make (P:=Tryz.prog) W 65 9 i (.string ⟨#[]⟩) Tryz.underlying65 h1 h2 .i64 .i64 n n (by omega) (Bk _) (by rw[h4];omega) (by omega);rw[Am,h3]at h;exact h
theorem jY1 {w:World} {n:Nat} (hn:n<=1048576):aU (w.alloc (.cells (madeCells #[.string ⟨#[]⟩] (n*1)) 9)) w.heap.size 9 1 stC (.slice (some ⟨w.heap.size,0,none⟩) n n) (Ab n ⟨#[]⟩) :=
 jB (enc:=stC) (λ_=>rfl) (Ad _) (Ab n ⟨#[]⟩) (by
  rw[toList_madeCells_one,Ap];unfold stC;rw[nC,Bf]) (by simp) (by unfold maxLen;omega)
theorem nA1:∃i,Tryz.prog.info? 5=some i/\i.zero=some (.int .u8 0)/\i.size=1/\i.bytes=1:=by
 have h:(Tryz.prog.info? 5).map (λi=>(i.zero,i.size,i.bytes))=some (some (.int .u8 0),1,1):=by kernel_rfl
 cases hi:Tryz.prog.info? 5 with
 | none=>rw[hi]at h;cases h
 | some i =>
  rw[hi]at h;simp only[Bh,Option.some.injEq,Prod.mk.injEq]at h;exact⟨i,rfl,h.1,h.2.1,h.2.2⟩
theorem pH1 (n:Nat) (W:World) (hn:n<=1048576):(Instr.makeSlice 67 (.int .i64 n) (.int .i64 n)).run Tryz.prog W=.ok (.slice (some ⟨W.heap.size,0,none⟩) n n) (W.alloc (.cells (madeCells #[.int .u8 0] (n*1)) 5)):=by
 obtain⟨i,h1,h2,h3,h4⟩:=nA1;have h:=run_make (P:=Tryz.prog) W 67 5 i (.int .u8 0) Tryz.underlying67 h1 h2 .i64 .i64 n n (by omega) (Bk _) (by rw[h4];omega) (by omega);rw[Am,h3]at h;exact h
theorem mJ1 {w:World} {n:Nat} (hn:n<=1048576):aU (w.alloc (.cells (madeCells #[.int .u8 0] (n*1)) 5)) w.heap.size 5 1 aV (.slice (some ⟨w.heap.size,0,none⟩) n n) (Ab n 0) :=
 jB (enc:=aV) (λ_=>rfl) (Ad _) (Ab n 0) (by
  rw[toList_madeCells_one,Ap];unfold aV;rw[nC,Bf];rfl) (by simp) (by unfold maxLen;omega)
theorem OkL.ids_len {L:List (List UInt8)} (h:OkL L):(idsL L (nodesA L)).length=L.length:=by
 have hm:∀n∈idsL L (nodesA L),n<L.length:=λn hn=>by
  unfold idsL at hn;obtain⟨x,hx,rfl⟩:=List.mem_map.1 hn;have hh:=(List.mem_filter.1 hx).2;have hg:=mC h.asc (List.mem_filter.1 hx).1;unfold iK at hh;simp only[Bool.and_eq_true,decide_eq_true_eq]at hh
  have:=hg.le
  omega
 have hn:(idsL L (nodesA L)).Nodup:=by
  unfold idsL;rw[List.nodup_iff_pairwise_ne,List.pairwise_map]
  have hp:((nodesA L).filter (iK L)).Pairwise (λx y=>x∈nodesA L/\y∈nodesA L/\iK L x=true/\iK L y=true/\pN0 x y):=by
   have h1:=(iZ h.asc).filter (iK L);refine List.Pairwise.imp_of_mem (λ{a b} ha hb eo=>?_) h1;exact⟨(List.mem_filter.1 ha).1,(List.mem_filter.1 hb).1,(List.mem_filter.1 ha).2,(List.mem_filter.1 hb).2,eo⟩
  refine hp.imp λ{x y} ⟨hx,hy,h1,h2,hb⟩ e=>?_;have gx:=mC h.asc hx;have gy:=mC h.asc hy;have a:=(qI h.asc gx h.pos x.i).2 ⟨h1,rfl⟩;have b:=(qI h.asc gy h.pos y.i).2 ⟨h2,rfl⟩;rw[e,b]at a
  have:=gy.inj h.asc gx (Option.some.inj a)
  subst this;rcases hb with hb|hb<;>omega
 have h1:=cU hn (l':=List.range L.length) λn hx=>List.mem_range.2 (hm n hx)
 have h2:=cU (List.nodup_range (n:=L.length)) (l':=idsL L (nodesA L)) λj hj=>by
  obtain⟨i,x,hx,hh,qt⟩:=h.node (List.mem_range.1 hj);unfold idsL;exact List.mem_map.2 ⟨x,List.mem_filter.2 ⟨Ae hx,hh⟩,qt⟩
 rw[List.length_range]at h1 h2;omega
end
section
open Go Go.RowKit Go.Shelf
attribute [local go_sem] aO aM
theorem dN1 (L:List (List UInt8)) (sb ib pb:Nat) (la:Option Addr) (lc:Nat) (w:World) (ag:OkL L) (hl:L.length<=20000) (hc:gC L<=524287)
  (hs:kE w sb (shapeL L (nodesA L))) (hi:kE w ib (isL L (nodesA L))) (hd:lJ w pb (idsL L (nodesA L))) (o6:aG w la 1 ((labelsL L (nodesA L)).map aV)) :
  Calls Tryz.prog 193 #[.pointer (some ⟨sb,0,none⟩),.pointer (some ⟨ib,0,none⟩),.slice la (labelsL L (nodesA L)).length lc,.pointer (some ⟨pb,0,none⟩)] w λe w'=>∃v,e=.returned (.tuple #[v,.bool true])/\aU w' w.heap.size 9 1 stC v (L.map mkB)/\aB w w':=by
 obtain⟨z1,z2,z3,z4,z5⟩:=ag.sizes hl hc;have om:(isL L (nodesA L)).length=(nodesA L).length:=by unfold isL;rw[Ak]
 have ud:(shapeL L (nodesA L)).length=2*(nodesA L).length+1:=by
  have h:=eN L (nodesA L).length (Ad _);rw[Bg,ag.off_all]at h;omega
 have jl:1<=(nodesA L).length:=(List.getElem?_eq_some_iff.1 ag.root0).1;have wg:(labelsL L (nodesA L)).length+1=(nodesA L).length:=by rw[ag.labels,Ak,List.length_drop];omega
 have hrk:dT (isL L (nodesA L)) (nodesA L).length=L.length:=by
  rw[eM0 L _ _ (Ad _),Bg,<-ag.ids_len];unfold idsL;rw[Ak]
 have jw:(nodesA L).length<=524287:=by rw[dY ag.asc ag.len];exact hc
 have ly:∀m∈idsL L (nodesA L),m<18446744073709551616:=λm hm=>by have:=z5 m hm;omega
 obtain⟨n,hn⟩:=exq ((nodesA L).length);obtain⟨NL,hNL⟩:=exq L.length;obtain⟨M2,hM2⟩:=exq (2*n+1);obtain⟨LL,hLL⟩:=exq ((labelsL L (nodesA L)).length)
 have CIL:∀u,aB w u->Hid (Calls Tryz.prog 200 #[.pointer (some ⟨ib,0,none⟩)] u λe w'=>e=.returned (.int .i64 n)/\u=w'):=λu hu=>by
  have h:=sS _ ib u (hi.grows hu);rw[om,<-hn]at h;exact h
 have CSL:∀u,aB w u->Hid (Calls Tryz.prog 200 #[.pointer (some ⟨sb,0,none⟩)] u λe w'=>e=.returned (.int .i64 M2)/\u=w'):=λu hu=>by
  have h:=sS _ sb u (hs.grows hu);rw[ud,<-hn,<-hM2]at h;exact h
 have CRK:∀u,aB w u->Hid (Calls Tryz.prog 170 #[.pointer (some ⟨ib,0,none⟩),.bool true,.int .i64 n] u λe w'=>e=.returned (.int .i64 NL)/\u=w'):=λu hu=>by
  have h:=pT (isL L (nodesA L)) ib true n u (by omega) (by omega) (hi.grows hu);rw[om,<-hn,Nat.min_self,show jK (isL L (nodesA L)) true n=dT (isL L (nodesA L)) n from rfl,hn,hrk,<-hn,<-hNL]at h;exact h
 have CDL:∀u,aB w u->Hid (Calls Tryz.prog 127 #[.pointer (some ⟨pb,0,none⟩)] u λe w'=>e=.returned (.int .i64 NL)/\u=w'):=λu hu=>by
  have h:=gS _ pb u (hd.grows hu);rw[ag.ids_len,<-hNL]at h;exact h
 have CG:∀i u,aB w u->Hid (Calls Tryz.prog 143 #[.pointer (some ⟨sb,0,none⟩),.int .i64 (i:Nat)] u λe w'=>e=.returned (.bool (bitOf (shapeL L (nodesA L)) i))/\u=w'):=λi u hu=>yD _ sb i u (by omega) (hs.grows hu)
 have CI:∀i x u,(nodesA L)[i]?=some x->aB w u->Hid (Calls Tryz.prog 143 #[.pointer (some ⟨ib,0,none⟩),.int .i64 (i:Nat)] u λe w'=>e=.returned (.bool (iK L x))/\u=w'):=λi x u hx hu=>by
  have h:=yD _ ib i u (by omega) (hi.grows hu);rw[zG hx]at h;exact h
 have CP:∀k x u,(idsL L (nodesA L))[k]?=some x->aB w u->Hid (Calls Tryz.prog 128 #[.pointer (some ⟨pb,0,none⟩),.int .i64 (k:Nat)] u λe w'=>e=.returned (.tuple #[.int .u64 (x:Nat),.bool true])/\aB u w'):=λk x u hx hu=>tR _ pb k x u (hd.grows hu) (by omega) ly hx;have C0:Hid (Calls Tryz.prog 143 #[.pointer (some ⟨sb,0,none⟩),.int .i64 0] w λe w'=>e=.returned (.bool true)/\w=w'):=(CG 0 w (aB.refl w)).out;have C1:Hid (Calls Tryz.prog 143 #[.pointer (some ⟨sb,0,none⟩),.int .i64 1] w λe w'=>e=.returned (.bool false)/\w=w'):=(CG 1 w (aB.refl w)).out;have HOK:=Aa ag;have HLAB:=Aa o6;have HN:=Aa hn;have HNL:=Aa hNL;have HLL:=Aa hLL;have hLn:LL+1=n:=by omega
 have aju:n<=524287:=by omega
 have ae4:1<=n:=by omega
 have ajv:NL<=20000:=by omega
 have HCG:=Aa CG;have HCI:=Aa CI;have HCP:=Aa CP;have d1:¬(524287:Int)<n:=by omega
 have d2:IntKind.i64.wrap ((n:Int)*2)=((n:Int)*2):=by have:=qT (x:=n*2) (by omega);rw[Int.natCast_mul]at this;exact this
 have d3:((M2:Int) != 2*(n:Int)+1)=false:=by simp;omega
 have d4:IntKind.i64.wrap ((n:Int)-1)=LL:=by have:=qT (x:=LL) (by omega);rw[<-this];congr 1;omega
 have d6:((LL:Int) != LL)=false:=by simp
 have d7:((NL:Int) != NL)=false:=by simp
 have d5:¬(20000:Int)<NL:=by omega
 rw[<-hLL];clear ag o6 hn hNL hLL z1 z2 z3 z4 z5 om ud jl wg hrk jw ly hs hi hd CG CI CP hM2 hl hc;go_enter Tryz.func193,Tryz.ntmps193
 go_wp2_with fail
 refine(CIL w (aB.refl w)).out.mono ?_;rintro e w1 ⟨rfl,rfl⟩;go_wp2_with fail
 refine(CSL w (aB.refl w)).out.mono ?_;rintro e w2 ⟨rfl,rfl⟩;go_wp2_with fail
 refine(CRK w (aB.refl w)).out.mono ?_;rintro e w3 ⟨rfl,rfl⟩;go_wp2_with fail
 refine(CDL w (aB.refl w)).out.mono ?_;rintro e w4 ⟨rfl,rfl⟩;go_wp2_with fail
 refine(CDL w (aB.refl w)).out.mono ?_;rintro e w5 ⟨rfl,rfl⟩;go_wp2_with fail
 refine C0.out.mono ?_;rintro e w6 ⟨rfl,rfl⟩;go_wp2_with fail
 refine C1.out.mono ?_;rintro e w7 ⟨rfl,rfl⟩;clear C0 C1 CSL CIL CRK d1 d2 d3 d4 d5 d6 d7;go_wp2_with fail
 have kh:=λ(Y:World)=>nG1 n Y ae4 (by omega);refine xN0 (EB w.heap.size) (.quiet 0 (.quiet 2 (.alt (.late 1 (.quiet 4 (.late 3 (.quiet 5 .done)))) (.late 3 (.late 1 (.quiet 4 (.quiet 5 .done))))))) (λ(x:Nat×Nat)=>[(some 62,.int .i64 n),(some 63,.slice (some ⟨x.1,0,none⟩) 1 n),(some 64,.int .i64 n),(some 65,.slice (some ⟨x.2,0,none⟩) 1 n),(some 11,.slice (some ⟨x.1,0,none⟩) 1 n),(some 12,.slice (some ⟨x.2,0,none⟩) 1 n)]) (λ(x:Nat×Nat) w'=>GB w w' (.slice (some ⟨x.1,0,none⟩) 1 n) (.slice (some ⟨x.2,0,none⟩) 1 n) (.slice none 0 0) [0] [0] []) (EB.refl w.heap.size) (EB.trans w.heap.size) (by kernel_rfl) (by kernel_rfl) (λd _ _ _ _ h=>by cases d<;>exact h) ?_ ?_
 ·have j6:=aB.drew w
  have sj:w.heap.size<=w.drew.heap.size:=Ad _;generalize w.drew=Wd at *;have m1:=λ(Y:World)=>(eI1 (w:=Y) ae4 (by omega):aU _ _ _ _ _ _ _);simp only[Ap]at m1;iterate 2 (refine gZ rfl (λK hK=>?_);go_simp;refine hK _ ?_;clear hK K)
  refine jC0 ?_ ?_
  ·refine cH rfl rfl (λK hK=>?_)
   go_simp;have o1:=m1 Wd;have g1:=aB.alloc Wd (.cells (madeCells #[.int .i64 0] n) 3);have s1:(Wd.alloc (.cells (madeCells #[.int .i64 0] n) 3)).heap.size=Wd.heap.size+1:=by simp
   refine⟨EB.of g1 sj,hK _ _ ?_⟩;clear hK K;generalize Wd.alloc (.cells (madeCells #[.int .i64 0] n) 3)=W1 at *;iterate 1 (refine gZ rfl (λK hK=>?_);go_simp;refine hK _ ?_;clear hK K)
   refine cH rfl rfl (λK hK=>?_);go_simp;have o2:=m1 W1;have g2:=aB.alloc W1 (.cells (madeCells #[.int .i64 0] n) 3);have fe:w.heap.size<=W1.heap.size:=by omega
   refine⟨EB.of g2 fe,hK _ _ ?_⟩;clear hK K;iterate 1 (refine gZ rfl (λK hK=>?_);go_simp;refine hK _ ?_;clear hK K)
   refine aR0 ?_
   exact⟨(Wd.heap.size,W1.heap.size),⟨(o1.grows g2).base sj,o2.base fe,aU.nil _ _ _ _ _,λq h1 h2=>by
    have a1:Wd.heap.size=q:=Option.some.inj h1;have a2:W1.heap.size=q:=Option.some.inj h2;omega,(mZ.nil _ _ _).symm,(mZ.nil _ _ _).symm,(j6.tr g1).tr g2⟩,by simp only[kH0,Ao];go_simp⟩
  ·refine cH rfl rfl (λK hK=>?_)
   go_simp;have o1:=m1 Wd;have g1:=aB.alloc Wd (.cells (madeCells #[.int .i64 0] n) 3);have s1:(Wd.alloc (.cells (madeCells #[.int .i64 0] n) 3)).heap.size=Wd.heap.size+1:=by simp
   refine⟨EB.of g1 sj,hK _ _ ?_⟩;clear hK K;generalize Wd.alloc (.cells (madeCells #[.int .i64 0] n) 3)=W1 at *;refine cH rfl rfl (λK hK=>?_);go_simp;have o2:=m1 W1;have g2:=aB.alloc W1 (.cells (madeCells #[.int .i64 0] n) 3);have fe:w.heap.size<=W1.heap.size:=by omega
   refine⟨EB.of g2 fe,hK _ _ ?_⟩;clear hK K;iterate 2 (refine gZ rfl (λK hK=>?_);go_simp;refine hK _ ?_;clear hK K)
   refine aR0 ?_
   exact⟨(W1.heap.size,Wd.heap.size),⟨o2.base fe,(o1.grows g2).base sj,aU.nil _ _ _ _ _,λq h1 h2=>by
    have a1:W1.heap.size=q:=Option.some.inj h1;have a2:Wd.heap.size=q:=Option.some.inj h2;omega,(mZ.nil _ _ _).symm,(mZ.nil _ _ _).symm,(j6.tr g1).tr g2⟩,by simp only[kH0,Ao];go_simp⟩
 ·clear kh
  rintro⟨b1,b2⟩ wA GA;simp only[kH0,Ao];try simp only at GA
  have kh:=λ(Y:World)=>oK1 NL Y (by omega);go_wp2_with fail
  refine(CDL wA GA.g).out.mono ?_;rintro e w8 ⟨rfl,rfl⟩;go_wp2_with fail
  obtain⟨lb,nz⟩:=exq wA.heap.size;obtain⟨WB,m6⟩:=exq (wA.alloc (.cells (madeCells #[.string ⟨#[]⟩] NL) 9));have jv:aB wA WB:=by rw[m6];exact aB.alloc _ _
  have hsO:aU WB w.heap.size 9 1 stC (.slice (some ⟨lb,0,none⟩) NL NL) (lF L 0):=by
   have h:=jY1 (w:=wA) (n:=NL) (by omega);rw[Ap,<-m6,<-nz]at h;rw[rH0,<-HNL.out];exact h.base (by rw[nz];exact GA.g.size)
  have af:∀q,(Value.slice (some ⟨b1,0,none⟩) 1 n).ownBlock=some q->q<lb:=λq h=>by rw[nz];exact gH GA.p q h
  have az:∀q,(Value.slice (some ⟨b2,0,none⟩) 1 n).ownBlock=some q->q<lb:=λq h=>by rw[nz];exact gH GA.d q h
  have GS:Hid (GB w WB (.slice (some ⟨b1,0,none⟩) 1 n) (.slice (some ⟨b2,0,none⟩) 1 n) (.slice (some ⟨lb,0,none⟩) NL NL) (iA0 L (offA L 0)) (xJ L (offA L 0)) (lF L 0)):=by
   rw[sY,gM1,HOK.out.depT_one]
   exact⟨GA.p.grows jv,GA.d.grows jv,hsO,GA.pd,λq h1 h2=>by
    have a:=af q h1;have b:lb=q:=Option.some.inj h2;omega,λq h1 h2=>by
    have a:=az q h1;have b:lb=q:=Option.some.inj h2;omega,GA.g.tr jv⟩
  try rw[<-m6]
  try rw[<-nz]
  clear m6 nz jv hsO af az GA kh CDL;go_loopw [11,12,13,14,70] (λvP vD vA vK i wr=>∃I:Nat,I<=n/\i=.int .i64 I/\vA=.int .i64 (offA L I+I+1:Nat)/\vK=.int .i64 (dT (isL L (nodesA L)) I:Nat)/\Hid (GB w wr vP vD (.slice (some ⟨lb,0,none⟩) NL NL) (iA0 L (offA L I)) (xJ L (offA L I)) (lF L I))) (λ_ _ _ _ i _=>n-(intOf i).toNat)
  case atStart=>exact⟨0,Au _,rfl,rfl,rfl,GS.out⟩
  case round =>
   clear GS;obtain⟨I,hI,rfl,rfl,rfl,HG⟩:=hrel;have ta:=HOK.out.off_le I;obtain⟨O,hO⟩:=exq (offA L I);rw[<-hO]at HG ta ⊢;obtain⟨aP,cP,hvP,_,_,_⟩:=HG.out.p.at_ (enc:=jS) (λ_=>rfl);rw[nE]at hvP;subst hvP;by_cases af:I<n
   ·have hIi:(I:Int)<n:=by omega
    have hIO:(I:Int)<O:=by have:=HOK.out.off_gt (show I<(nodesA L).length by have:=HN.out;omega);omega
    obtain⟨x,hx⟩:∃x,(nodesA L)[I]?=some x:=⟨_,Ac (by have:=HN.out;omega)⟩;have HX:=Aa hx;have HO:=Aa hO;have hos:=iN hx;have ac6:=HOK.out.off_le (I+1);obtain⟨O2,ug⟩:=exq (offA L (I+1));rw[<-ug]at hos ac6;have hOO:O<=O2:=by rw[hos,hO];omega
    have HO2:=Aa ug;obtain⟨dx,hdx⟩:=exq x.d;have HDX:=Aa hdx
    have we:dx<=256:=by
     obtain⟨k,hk1,ig⟩:=List.mem_flatMap.1 (Ae hx);have h1:=((kN HOK.out.asc k).mem x ig).2.1;have h2:=List.mem_range.1 hk1;omega
    have hnN:=HN.out;have ajw:O2<=524287:=by omega
    clear hx hO ug hdx hnN;go_wp2_with fail
    obtain⟨u0,rfl⟩:=exq wr;go_loopw [11,12,13] (λvP vD vA wx=>∃M:Nat,O<=M/\M<=O2/\vA=.int .i64 (M+I+1:Nat)/\Hid (GB w wx vP vD (.slice (some ⟨lb,0,none⟩) NL NL) (iA0 L M) (xJ L M) (lF L I))) (λ_ _ vA _=>2000000-(intOf vA).toNat)
    case atStart=>exact⟨O,Ad _,hOO,rfl,HG.out⟩
    case round =>
     clear HG;obtain⟨M,vz,hM2,rfl,HGM⟩:=hrel;have CGM:=HCG.out (M+I+1) wr HGM.out.g;by_cases hM:M<O2
     ·have abu:M<offA L (I+1):=by have:=HO2.out;omega
      have hOM:offA L I<=M:=by have:=HO.out;omega
      rw[(kL0 HX.out hOM abu).1]at CGM;obtain⟨y,hy⟩:∃y,(nodesA L)[M]?=some y:=⟨_,Ac (by omega)⟩;have hyd:y.d=dx+1:=by rw[HDX.out];exact hT0 L x y (HOK.out.kid HX.out hOM abu hy)
      obtain⟨d1,fc⟩:=exq (dx+1);have HP1:Hid (iA0 L M++[I]=iA0 L (M+1)):=by show _=_;rw[xF0,zS0 (by omega) hOM abu]
      have HD1:Hid (xJ L M++[d1]=xJ L (M+1)):=by show _=_;rw[iZ0 hy,hyd,fc]
      have HDL:Hid ((xJ L M).length=M):=qX0 (by omega);have hdp:(xJ L M)[I]?=some dx:=by rw[gB0 (by omega) HX.out,HDX.out]
      obtain⟨qb,cQ,hvQ,_⟩:=fC0 HGM.out.d (by rw[HDL.out];omega);rw[HDL.out]at hvQ;subst hvQ;have hcd:wr.cell? ⟨qb,I,none⟩=some (.int .i64 dx):=cM (f:=λn:Nat=>Value.int .i64 n) HGM.out.d hdp
      have HFL:Hid (((xJ L M).flatMap jS)[I]?=some (.int .i64 dx)):=by
       have h:=qF (enc:=jS) (k:=1) (λ_=>rfl) (xJ L M) I 0 dx _ hdp rfl;rw[Ap,Bj]at h;exact h
      have hIM:(I:Int)<M:=by omega
      have wd1:IntKind.i64.wrap ((dx:Int)+1)=d1:=by have:=qT (x:=d1) (by omega);rw[<-this];congr 1;omega
      have HG0:=HGM.out.grows (aB.drew wr);obtain⟨aR,cR,hvR,_,_,_⟩:=HGM.out.p.at_ (enc:=jS) (λ_=>rfl);rw[nE]at hvR;subst hvR;have hnP:some qb≠(Value.slice aR M cR).ownBlock:=λh=>HGM.out.pd qb h.symm rfl;clear hyd fc hy hdp hOM abu;go_wp2_with fail
      refine CGM.out.mono ?_;rintro e w9 ⟨rfl,rfl⟩;clear CGM;go_wp2_with fail
      have z0:∀y:Ext (EK w.heap.size ⟨qb,I,none⟩ (.int .i64 dx)) wr.drew,y.u.cell? ⟨qb,I,none⟩=some (.int .i64 dx):=aC1 ((aB.drew wr).cell hcd);refine xN0 (EK w.heap.size ⟨qb,I,none⟩ (.int .i64 dx)) (.quiet 0 (.quiet 1 (.quiet 4 (.quiet 5 (.quiet 6 (.quiet 7 (.quiet 8 (.quiet 9 (.alt (.late 2 (.alt (.late 3 (.late 10 (.late 11 (.quiet 12 (.quiet 13 .done))))) (.late 10 (.late 3 (.late 11 (.quiet 12 (.quiet 13 .done))))))) (.late 10 (.late 2 (.late 3 (.late 11 (.quiet 12 (.quiet 13 .done))))))))))))))) (λ(x:Value×Value×Nat×Nat)=>[(some 82,.slice aR M cR),(some 83,.int .i64 I),(some 84,.slice (some ⟨x.2.2.1,0,none⟩) 1 1),(some 85,x.1),(some 86,.slice (some ⟨qb,0,none⟩) M cQ),(some 87,.slice (some ⟨qb,0,none⟩) M cQ),(some 88,.int .i64 I),(some 89,.pointer (some ⟨qb,I,none⟩)),(some 90,.int .i64 dx),(some 91,.int .i64 d1),(some 92,.slice (some ⟨x.2.2.2,0,none⟩) 1 1),(some 93,x.2.1),(some 11,x.1),(some 12,x.2.1)]) (λ(x:Value×Value×Nat×Nat) w'=>GB w w' x.1 x.2.1 (.slice (some ⟨lb,0,none⟩) NL NL) (iA0 L (M+1)) (xJ L (M+1)) (lF L I)) (EK.refl w.heap.size ⟨qb,I,none⟩ (.int .i64 dx)) (EK.trans w.heap.size ⟨qb,I,none⟩ (.int .i64 dx)) (by kernel_rfl) (by kernel_rfl) (λd _ _ _ _ h=>by cases d<;>exact h) ?_ ?_
      ·clear HGM hcd
       generalize wr.drew=Wd at *;iterate 8 (refine gZ rfl (λK hK=>?_);go_simp;refine hK _ ?_;clear hK K)
       clear z0;have G0:=HG0;clear HG0;refine jC0 ?_ ?_
       ·refine cH rfl rfl (λK hK=>?_)
        go_simp;have cA:=mE1 Wd (.int .i64 (I:Nat)) 3;have g1:=aB.alloc Wd (.cells #[.int .i64 (I:Nat)] 3);have nPA:=G0.newP;have nDA:=G0.newD;have G1:=G0.grows g1;have e1:EK w.heap.size ⟨qb,I,none⟩ (.int .i64 dx) _ _:=⟨EB.of g1 G0.g.size,λh=>g1.cell h⟩;generalize Wd.alloc (.cells #[.int .i64 (I:Nat)] 3)=u1 at *;obtain⟨bA,hbA⟩:∃b,b=Wd.heap.size:=⟨_,rfl⟩;rw[<-hbA]at cA nPA nDA ⊢;clear hbA;refine⟨e1,hK _ _ ?_⟩;clear hK K e1 g1;refine jC0 ?_ ?_
        ·refine cH rfl rfl (λK hK=>?_)
         refine tO nW _ _ rfl w.heap.size _ _ I rfl G1.p bA 1 rfl (mD1 cA) (by rw[nE];omega) G1.g.size ?_;intro v1 u2 ho2 ig hf2;have e2:EK w.heap.size ⟨qb,I,none⟩ (.int .i64 dx) _ _:=⟨G1.ebP ig,λh=>ig.cell h hnP⟩;have G2:=G1.appP ho2 ig hf2;refine⟨e2,hK _ _ ?_⟩;clear hK K e2 ho2 ig hf2;refine cH rfl rfl (λK hK=>?_);go_simp;have cC:=mE1 u2 (.int .i64 (d1:Nat)) 3;have g3:=aB.alloc u2 (.cells #[.int .i64 (d1:Nat)] 3);have nPC:=G2.newP;have nDC:=G2.newD;have G3:=G2.grows g3;have e3:EK w.heap.size ⟨qb,I,none⟩ (.int .i64 dx) _ _:=⟨EB.of g3 G2.g.size,λh=>g3.cell h⟩;generalize u2.alloc (.cells #[.int .i64 (d1:Nat)] 3)=u3 at *;obtain⟨bC,hbC⟩:∃b,b=u2.heap.size:=⟨_,rfl⟩;rw[<-hbC]at cC nPC nDC ⊢;clear hbC;refine⟨e3,hK _ _ ?_⟩;clear hK K e3 g3;refine cH rfl rfl (λK hK=>?_);refine aA0 nW _ _ rfl w.heap.size qb cQ (xJ L M) d1 (by rw[HDL.out];rfl) (by rw[HDL.out];exact G3.d) bC 1 rfl (mD1 cC) (by rw[HDL.out];omega) G3.g.size ?_;intro v2 u4 ho4 xa xg hx4;rw[HDL.out]at xg;have e4:EK w.heap.size ⟨qb,I,none⟩ (.int .i64 dx) _ _:=⟨G3.ebD xa,λ_=>hx4 I _ HFL.out⟩;clear hx4;have G4:=G3.appD ho4 xa xg;refine⟨e4,hK _ _ ?_⟩;clear hK K e4 ho4 xa xg;iterate 2 (refine gZ rfl (λK hK=>?_);go_simp;refine hK _ ?_;clear hK K)
         refine aR0 ?_;rw[HP1.out,HD1.out]at G4;exact⟨(v1,v2,bA,bC),G4,by simp only[kH0,Ao];go_simp⟩
        ·refine cH rfl rfl (λK hK=>?_)
         go_simp;have cC:=mE1 u1 (.int .i64 (d1:Nat)) 3;have g2:=aB.alloc u1 (.cells #[.int .i64 (d1:Nat)] 3);have nPC:=G1.newP;have nDC:=G1.newD;have G2:=G1.grows g2;have e2:EK w.heap.size ⟨qb,I,none⟩ (.int .i64 dx) _ _:=⟨EB.of g2 G1.g.size,λh=>g2.cell h⟩;replace cA:=g2.cell cA;generalize u1.alloc (.cells #[.int .i64 (d1:Nat)] 3)=u2 at *;obtain⟨bC,hbC⟩:∃b,b=u1.heap.size:=⟨_,rfl⟩;rw[<-hbC]at cC nPC nDC ⊢;clear hbC;refine⟨e2,hK _ _ ?_⟩;clear hK K e2 g2;refine cH rfl rfl (λK hK=>?_);refine tO nW _ _ rfl w.heap.size _ _ I rfl G2.p bA 1 rfl (mD1 cA) (by rw[nE];omega) G2.g.size ?_;intro v1 u3 ho3 ii hf3;have e3:EK w.heap.size ⟨qb,I,none⟩ (.int .i64 dx) _ _:=⟨G2.ebP ii,λh=>ii.cell h hnP⟩;replace cC:=ii.cell cC nPC;have G3:=G2.appP ho3 ii hf3;refine⟨e3,hK _ _ ?_⟩;clear hK K e3 ho3 ii hf3;refine cH rfl rfl (λK hK=>?_);refine aA0 nW _ _ rfl w.heap.size qb cQ (xJ L M) d1 (by rw[HDL.out];rfl) (by rw[HDL.out];exact G3.d) bC 1 rfl (mD1 cC) (by rw[HDL.out];omega) G3.g.size ?_;intro v2 u4 ho4 xa xg hx4;rw[HDL.out]at xg;have e4:EK w.heap.size ⟨qb,I,none⟩ (.int .i64 dx) _ _:=⟨G3.ebD xa,λ_=>hx4 I _ HFL.out⟩;clear hx4;have G4:=G3.appD ho4 xa xg;refine⟨e4,hK _ _ ?_⟩;clear hK K e4 ho4 xa xg;iterate 2 (refine gZ rfl (λK hK=>?_);go_simp;refine hK _ ?_;clear hK K)
         refine aR0 ?_;rw[HP1.out,HD1.out]at G4;exact⟨(v1,v2,bA,bC),G4,by simp only[kH0,Ao];go_simp⟩
       ·refine cH rfl rfl (λK hK=>?_)
        go_simp;have cC:=mE1 Wd (.int .i64 (d1:Nat)) 3;have g1:=aB.alloc Wd (.cells #[.int .i64 (d1:Nat)] 3);have nPC:=G0.newP;have nDC:=G0.newD;have G1:=G0.grows g1;have e1:EK w.heap.size ⟨qb,I,none⟩ (.int .i64 dx) _ _:=⟨EB.of g1 G0.g.size,λh=>g1.cell h⟩;generalize Wd.alloc (.cells #[.int .i64 (d1:Nat)] 3)=u1 at *;obtain⟨bC,hbC⟩:∃b,b=Wd.heap.size:=⟨_,rfl⟩;rw[<-hbC]at cC nPC nDC ⊢;clear hbC;refine⟨e1,hK _ _ ?_⟩;clear hK K e1 g1;refine cH rfl rfl (λK hK=>?_);go_simp;have cA:=mE1 u1 (.int .i64 (I:Nat)) 3;have g2:=aB.alloc u1 (.cells #[.int .i64 (I:Nat)] 3);have nPA:=G1.newP;have nDA:=G1.newD;have G2:=G1.grows g2;have e2:EK w.heap.size ⟨qb,I,none⟩ (.int .i64 dx) _ _:=⟨EB.of g2 G1.g.size,λh=>g2.cell h⟩;replace cC:=g2.cell cC;generalize u1.alloc (.cells #[.int .i64 (I:Nat)] 3)=u2 at *;obtain⟨bA,hbA⟩:∃b,b=u1.heap.size:=⟨_,rfl⟩;rw[<-hbA]at cA nPA nDA ⊢;clear hbA;refine⟨e2,hK _ _ ?_⟩;clear hK K e2 g2;refine cH rfl rfl (λK hK=>?_);refine tO nW _ _ rfl w.heap.size _ _ I rfl G2.p bA 1 rfl (mD1 cA) (by rw[nE];omega) G2.g.size ?_;intro v1 u3 ho3 ii hf3;have e3:EK w.heap.size ⟨qb,I,none⟩ (.int .i64 dx) _ _:=⟨G2.ebP ii,λh=>ii.cell h hnP⟩;replace cC:=ii.cell cC nPC;have G3:=G2.appP ho3 ii hf3;refine⟨e3,hK _ _ ?_⟩;clear hK K e3 ho3 ii hf3;refine cH rfl rfl (λK hK=>?_);refine aA0 nW _ _ rfl w.heap.size qb cQ (xJ L M) d1 (by rw[HDL.out];rfl) (by rw[HDL.out];exact G3.d) bC 1 rfl (mD1 cC) (by rw[HDL.out];omega) G3.g.size ?_;intro v2 u4 ho4 xa xg hx4;rw[HDL.out]at xg;have e4:EK w.heap.size ⟨qb,I,none⟩ (.int .i64 dx) _ _:=⟨G3.ebD xa,λ_=>hx4 I _ HFL.out⟩;clear hx4;have G4:=G3.appD ho4 xa xg;refine⟨e4,hK _ _ ?_⟩;clear hK K e4 ho4 xa xg;iterate 2 (refine gZ rfl (λK hK=>?_);go_simp;refine hK _ ?_;clear hK K)
        refine aR0 ?_;rw[HP1.out,HD1.out]at G4;exact⟨(v1,v2,bA,bC),G4,by simp only[kH0,Ao];go_simp⟩
      ·rintro⟨v1,v2,b3,b4⟩ wC GC
       simp only[kH0,Ao];try simp only at GC
       clear z0 HG0 HGM hcd;go_wp2_with fail
       go_roundw
       case rel=>exact⟨M+1,by omega,by omega,by go_num,GC⟩
       case measure=>simp[intOf];omega
     ·obtain rfl:M=O2:=by omega
      have hz:bitOf (shapeL L (nodesA L)) (M+I+1)=false:=by
       rw[show M+I+1=offA L (I+1)+(I+1) by have:=HO2.out;omega]
       exact(vB (L:=L) (i:=I+1) (by have:=HN.out;omega)).1
      rw[hz]at CGM;have CIx:=HCI.out I x wr HX.out HGM.out.g;have hrk:dT (isL L (nodesA L)) (I+1)=dT (isL L (nodesA L)) I+(if iK L x=true then 1 else 0):=by rw[gD,zG HX.out]
      have hrl:dT (isL L (nodesA L)) I<=I:=nM _ _;have ac7:=λ(hh:iK L x=true)=>rB0 HX.out hh;obtain⟨K,hK⟩:=exq (dT (isL L (nodesA L)) I);rw[<-hK]at hrk hrl ac7 ⊢;have HRK:=Aa hrk;have HIDR:=Aa ac7;have HAT:Hid ((M+I+1+1:Nat)=offA L (I+1)+(I+1)+1):=by show _=_;have:=HO2.out;omega
      have HMN:Hid (M<=(nodesA L).length):=ac6;clear hz hrk ac7 hK hos ac6 hOO hM2 hM;go_wp2_with fail
      refine CGM.out.mono ?_;rintro e w9 ⟨rfl,rfl⟩;clear CGM;go_wp2_with fail
      refine CIx.out.mono ?_;rintro e w10 ⟨rfl,rfl⟩;clear CIx
      cases hh:iK L x with
      | false =>
       have HH:=Aa hh;clear hh;go_wp2_with fail
       go_roundw
       case rel=>exact⟨I+1,af,by go_num,by rw[<-HAT.out];go_num,by rw[HRK.out,HH.out];go_num,by have h:=HGM.out;rw[HO2.out]at h;rw[HOK.out.strTo_no HX.out HH.out];exact h⟩
       case measure=>simp[intOf];omega
      | true =>
       have HH:=Aa hh;clear hh;have hid:=HIDR.out HH.out;have CPx:=HCP.out K x.i wr hid HGM.out.g;have hLx:L[x.i]?=some (spanS L x):=(HOK.out.here_at HX.out x.i).2 ⟨HH.out,rfl⟩;have qt:x.i<NL:=by rw[HNL.out];exact(List.getElem?_eq_some_iff.1 hLx).1
       obtain⟨X0,hX0⟩:=exq x.i;rw[<-hX0]at CPx qt;have HX0:=Aa hX0;have hxn:¬(NL:Int)<=X0:=by omega
       have ajx:(X0:Int)<NL:=by omega
       have uNL:IntKind.u64.wrap (NL:Int)=NL:=by simp[Ax,Ay,At];omega
       have wX0:IntKind.i64.wrap (X0:Int)=X0:=qT (by omega);have hd6:¬(256:Int)<dx:=by omega
       have kh:=λ(Y:World)=>pH1 dx Y (by omega);clear hid hLx hX0;go_wp2_with fail
       refine CPx.out.mono ?_;rintro e xh ⟨rfl,ac8⟩;have HG11:=Aa (HGM.out.grows ac8);clear CPx;have hdp:(xJ L M)[I]?=some dx:=by rw[gB0 (by omega) HX.out,HDX.out]
       have HDL:Hid ((xJ L M).length=M):=qX0 HMN.out;obtain⟨qb,cQ,hvQ,_⟩:=fC0 HG11.out.d (by rw[HDL.out];omega);rw[HDL.out]at hvQ;subst hvQ;have hcd:xh.cell? ⟨qb,I,none⟩=some (.int .i64 dx):=cM (f:=λn:Nat=>Value.int .i64 n) HG11.out.d hdp;obtain⟨ab,cP2,hvP,_⟩:=fC0 HG11.out.p (by rw[nE];omega);rw[nE]at hvP;subst hvP;have hIM:(I:Int)<M:=by omega
       clear hdp;go_wp2_with fail
       obtain⟨bb,j5⟩:=exq xh.heap.size;obtain⟨WU,hWU⟩:=exq (xh.alloc (.cells (madeCells #[.int .u8 0] dx) 5));have hgU:aB xh WU:=by rw[hWU];exact aB.alloc _ _
       have hbO:aU WU bb 5 1 aV (.slice (some ⟨bb,0,none⟩) dx dx) (Ab dx 0):=by
        have h:=mJ1 (w:=xh) (n:=dx) (by omega);rw[Ap,<-hWU,<-j5]at h;exact h
       rw[<-hWU,<-j5];have zy:decide (NL<=X0)=false:=by simp;omega
       have fw:decide ((NL:Int)<=X0)=false:=by simp;omega
       have hz3:decide ((256:Int)<dx)=false:=by simp;omega
       try rw[zy]
       try rw[fw]
       try rw[hz3]
       try rw[show (false||false)=false from rfl]
       clear zy fw hz3;have HBB:Hid (xh.heap.size<=bb):=Nat.le_of_eq j5.symm;have HAB:Hid (ab<xh.heap.size):=gH HG11.out.p ab rfl;clear hWU j5 hcd kh HGM;obtain⟨u1,rfl⟩:=exq wr;go_loopw [20] (λvX wx=>∃(X:Nat) (y:dC) (tl:List UInt8),vX=.int .i64 X/\X<=I/\Hid ((nodesA L)[X]?=some y/\spanS L y++tl=spanS L x)/\Hid (aU wx bb 5 1 aV (.slice (some ⟨bb,0,none⟩) dx dx) (Ab y.d 0++tl))/\Hid (aB xh wx)) (λvX _=>(intOf vX).toNat)
       case atStart=>exact⟨I,x,[],rfl,Ad _,⟨HX.out,Az _⟩,by rw[Az,<-HDX.out];exact hbO,hgU⟩
       case round =>
        clear hbO hgU;obtain⟨X,y,tl,rfl,hXI,hN,hB,hG⟩:=hrel;have HGX:=Aa (HG11.out.grows hG.out);by_cases hX:0<X
        ·obtain⟨z,c,hz,hpX,hc,hs,hd⟩:=HOK.out.climb hX hN.out.1
         have ajy:(0:Int)<X:=by omega
         obtain⟨X1,hX1⟩:=exq (X-1);rw[<-hX1]at hc;have ahy:X1<LL:=by rw[HLL.out];exact(List.getElem?_eq_some_iff.1 hc).1
         have vr:(X:Int)<=LL:=by omega
         have ajz:(X1:Int)<LL:=by omega
         obtain⟨lb2,lo,rfl,cr⟩:=at1 (f:=λb:UInt8=>Value.int .u8 b.toNat) (HLAB.out.grows HGX.out.g) (Ai (Ae hc));have jo:=cr X1 c hc;obtain⟨dy,hdy⟩:=exq y.d;obtain⟨pX,hpx⟩:=exq (cK1 L X);have hdX:wr.cell? ⟨qb,X,none⟩=some (.int .i64 dy):=cM (f:=λn:Nat=>Value.int .i64 n) HGX.out.d (by rw[gB0 (show X<M by omega) hN.out.1,hdy])
         have hpc:wr.cell? ⟨ab,X,none⟩=some (.int .i64 pX):=cM (f:=λn:Nat=>Value.int .i64 n) HGX.out.p (by rw[gJ1 (show X<M by omega),hpx])
         have hXM:(X:Int)<M:=by omega
         obtain⟨d2,ja⟩:=exq z.d;have hdd:dy=d2+1:=by rw[hdy,hd,ja]
         have wX1:IntKind.i64.wrap ((X:Int)-1)=X1:=by have:=qT (x:=X1) (by omega);rw[<-this];congr 1;omega
         have hrl:(Ab y.d (0:UInt8)++tl).length=dx:=by
          obtain⟨_,_,he,_⟩:=hB.out.at_ bI.len;injection he with _ h2 _
          exact h2.symm
         have j3:y.d<=dx:=by rw[<-hrl,Aj,Al];omega
         have wd2:IntKind.i64.wrap ((dy:Int)-1)=d2:=by have:=qT (x:=d2) (by omega);rw[<-this];congr 1;omega
         have aj0:(d2:Int)<dx:=by omega
         have lg:=hB.out.grows (aB.drew wr);have fo:wr.drew.cell? ⟨bb,d2,none⟩=some (.int .u8 ((0:UInt8).toNat:Nat)):=cM (f:=λb:UInt8=>Value.int .u8 b.toNat) lg (by rw[List.getElem?_append_left (by rw[Al];omega),List.getElem?_replicate,if_pos (by omega)]);obtain⟨hfr,_,fg⟩:=eO (f:=λb:UInt8=>Value.int .u8 b.toNat) lg (k:=d2) (by rw[hrl];omega) c
         have HSET:Hid (aU (wr.drew.setCell ⟨bb,d2,none⟩ (.int .u8 (c.toNat:Nat))) bb 5 1 aV (.slice (some ⟨bb,0,none⟩) dx dx) (Ab z.d 0++(c::tl))):=by
          have e:(Ab y.d (0:UInt8)++tl).set d2 c=Ab z.d 0++(c::tl):=by rw[hd,ja];exact xW0
          rw[e]at fg;exact fg
         have ahz:(wr.setCell ⟨bb,d2,none⟩ (.int .u8 (c.toNat:Nat))).cell? ⟨ab,X,none⟩=some (.int .i64 pX):=(World.cell?_setCell_other _ _ _ _ (λh=>by have h1:=congrArg Addr.block h;simp only at h1;have h2:=HAB.out;have h3:=HBB.out;omega)).trans hpc;have HN2:Hid ((nodesA L)[pX]?=some z/\spanS L z++(c::tl)=spanS L x):=⟨by rw[hpx];exact hz,by rw[<-hN.out.2,hs];simp⟩;have aj1:pX<X:=by rw[hpx];exact hpX
         have HG2:Hid (aB xh (wr.drew.setCell ⟨bb,d2,none⟩ (.int .u8 (c.toNat:Nat)))):=hG.out.dr.set HBB.out _;have z0:∀q:Ext aB wr.drew,q.u.cell? ⟨qb,X,none⟩=some (.int .i64 dy):=aF ((aB.drew wr).cell hdX);have z1:∀q:Ext aB wr.drew,q.u.cell? ⟨lb2,lo+X1,none⟩=some (.int .u8 (c.toNat:Nat)):=aF ((aB.drew wr).cell jo);obtain⟨cc,ae5⟩:∃q:Nat,q=c.toNat:=⟨_,rfl⟩;rw[<-ae5]at z1 HG2 ahz HSET;clear hz hpX hc hs hd hX1 cr jo hdy hpx hdX hpc ja hdd hrl j3 lg fg hN hB hG ahy ae5;go_wp2_with fail
         refine oV 12 (bE 12 []) (by kernel_rfl) (λd _ _ _ _ h=>by cases d<;>exact h) ?_
         iterate 12 (refine aH rfl (λK hK=>?_);go_simp;refine hK _ ?_;clear hK K)
         refine bN ?_;simp only[Ar,Ba];clear z0 z1;go_wp2_with fail
         go_roundw
         case rel=>exact⟨pX,z,c::tl,by go_num,by omega,HN2.out,HSET.out,HG2.out⟩
         case measure=>simp[intOf];omega
        ·obtain rfl:X=0:=by omega
         have hy:y=rootS L:=by
          have h1:=hN.out.1;rw[HOK.out.root0]at h1;exact(Option.some.inj h1).symm
         have cm:Ab y.d (0:UInt8)++tl=spanS L x:=by
          rw[<-hN.out.2,hy];simp[spanS,rootS]
         have jh:=hB.out;rw[cm]at jh;have aar:=yM jh;have jg:X0<(lF L I).length:=by rw[sV,<-HNL.out];exact qt
         obtain⟨s0,j8⟩:∃s0,(lF L I)[X0]?=some s0:=⟨_,Ac jg⟩;have hsc:wr.cell? ⟨lb,X0,none⟩=some (.string s0):=cM (f:=λs:ByteArray=>Value.string s) HGX.out.s j8;obtain⟨hfr,hGS⟩:=HGX.out.setS jg (mkB (spanS L x));have e1:iA0 L M=iA0 L (offA L (I+1)):=by rw[<-HO2.out]
         have e2:xJ L M=xJ L (offA L (I+1)):=by rw[<-HO2.out]
         have e3:(lF L I).set X0 (mkB (spanS L x))=lF L (I+1):=by rw[HX0.out];exact(HOK.out.strTo_yes HX.out HH.out).symm
         rw[e1,e2,e3]at hGS;clear e1 e2 e3;have HGS:=Aa hGS;generalize mkB (spanS L x)=sx at aar HGS;clear hGS j8 jg jh cm hy hN hB hG;go_wp2_with fail
         go_roundw
         case rel=>exact⟨I+1,af,by go_num,by rw[<-HAT.out];go_num,by rw[HRK.out,HH.out];go_num,HGS.out⟩
         case measure=>simp[intOf];omega
   ·obtain rfl:I=n:=by omega
    have hS:=HG.out.s;rw[HOK.out.strTo_all (m:=I) (by have:=HN.out;omega)]at hS;have hG:=HG.out.g;clear HG;go_wp2
    go_ret2;exact⟨_,rfl,hS,hG⟩
end
end Go.Proofs.YtjhajgffmnkocaaGreatDoor
