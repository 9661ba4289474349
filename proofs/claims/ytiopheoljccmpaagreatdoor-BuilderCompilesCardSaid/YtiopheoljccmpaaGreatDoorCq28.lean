/- The texts W11d W11e, one behind the other. -/
import Derived.Test.YtiopheoljccmpaaGreatDoorCq24
import Derived.Test.YtiopheoljccmpaaGreatDoorCq27
open Nat renaming le_refl → Aa,le_trans → At,zero_le → Au
open Go.Lib renaming hid → Ab
open List renaming length_append → Ac,mem_of_getElem? → Ad,getElem?_eq_getElem → Af,length_take → Ai,take_length → Aj,length_map → Ak,append_assoc → Al,drop_succ_cons → An,getElem?_map → Ao,length → Ap,length_nil → Aq,replicate → Ar,drop_zero → As
open Go.IntKind renaming signed → Ae,wrap → Ag,bits → Ah
open UInt8 renaming ofNat → Am
set_option maxHeartbeats 16000000
namespace Go.Proofs.YtiopheoljccmpaaGreatDoor
set_option maxRecDepth 100000
section
open Go Go.RowKit
attribute [local go_sem] aM aP
theorem jX0 (n:Nat):(#[Value.int .u8 ((n:Int)%256),.int .u8 ((n:Int)/256%256),.int .u8 ((n:Int)/65536%256),.int .u8 ((n:Int)/16777216%256)]:Array Value).toList=(leB 4 n).flatMap aQ:=by
 have h:leB 4 n=[Am n,Am (n/256),Am (n/65536),Am (n/16777216)]:=by
  unfold leB;simp[List.range_succ]
 rw[h,qB];simp only[List.map_cons,List.map_nil,UInt8.toNat_ofNat'];congr 1
theorem eZ1 {w:World} {n:Nat} {cs:Array Value} {t:TypeId} (h:cs.toList=(leB 4 n).flatMap aQ):aF (w.alloc (.cells cs t)) (some ⟨w.heap.size,0,none⟩) 1 ((leB 4 n).map aQ):=by
 have ae:=fY (enc:=aQ) (e:=t) (w:=w) (base:=0) (λ_=>rfl) (Au _) (leB 4 n) h (n:=4) (cE 4 n) (by decide);have h4:=cE 4 n;rw[<-h4]at ae;obtain⟨a,c,he,_,_,ah⟩:=aO.at_ aR.len ae;simp only[Value.slice.injEq]at he;rw[he.1];exact ah
theorem tU (v0:Value) (pre b:List UInt8) (ab:Option Addr) (cb:Nat) (w0 w:World) (ij:aB w0 w) (hp:pre.length<=1099511627776) (hb:b.length<=1099511627776) (dx:aO w w0.heap.size 5 1 aQ v0 pre) (ah:aF w ab 1 (b.map aQ)) (ko:ab=none->cb=0) (hd:∀q:Addr,ab=some q->some q.block≠v0.ownBlock) :
  Calls Tryz.prog 183 #[v0,.slice ab b.length cb] w λe w'=>∃v,e=.returned v/\aO w' w0.heap.size 5 1 aQ v (pre++dM b)/\aB w0 w':=by
 have HD:=Ab hd;have HC:=Ab (jX0 b.length);have hl4:=cE 4 b.length;clear hd;go_enter Tryz.func183,Tryz.ntmps183
 go_wp2_with (first|(at_builtin;refine aL0 aR rfl _ _ rfl w0.heap.size _ pre (leB 4 b.length) rfl (dx.grows (aB.alloc _ _)) (aB.refl _) _ 4 (by rw[hl4];rfl) (eZ1 HC.out) (λh=>by cases h) (by omega) (At ij.size (aB.alloc _ _).size) ?_;intro v1 w1 ax y9 _ aq;have ee:=aq w0 (ij.al _) (Aa _);have dw:=pK (ah.grows (aB.alloc _ _)) y9 HD.out;clear aq y9)|(at_builtin;refine dE aR rfl _ _ rfl w0.heap.size _ (pre++leB 4 b.length) b rfl ax (aB.refl _) ab cb rfl dw ko (by rw[Ac];omega) ee.size ?_;intro v2 w2 aj an))
 go_ret;exact⟨_,rfl,by unfold dM;rw[<-Al];exact aj,an w0 ee (Aa _)⟩
theorem yC (v0:Value) (pre b:List UInt8) (ab:Option Addr) (cb:Nat) (w0 w:World) (ij:aB w0 w) (hp:pre.length<=1099511627776) (hb:b.length<=1099511627776) (dx:aO w w0.heap.size 5 1 aQ v0 pre) (ah:aF w ab 1 (b.map aQ)) (ko:ab=none->cb=0) (hd:∀q:Addr,ab=some q->some q.block≠v0.ownBlock) :
  Calls Tryz.prog 104 #[v0,.slice ab b.length cb] w λe w'=>∃v,e=.returned v/\aO w' w0.heap.size 5 1 aQ v (pre++dM b)/\aB w0 w':=by
 have HD:=Ab hd;have HC:=Ab (jX0 b.length);have hl4:=cE 4 b.length;clear hd;go_enter Tryz.func104,Tryz.ntmps104
 go_wp2_with (first|(at_builtin;refine aL0 aR rfl _ _ rfl w0.heap.size _ pre (leB 4 b.length) rfl (dx.grows (aB.alloc _ _)) (aB.refl _) _ 4 (by rw[hl4];rfl) (eZ1 HC.out) (λh=>by cases h) (by omega) (At ij.size (aB.alloc _ _).size) ?_;intro v1 w1 ax y9 _ aq;have ee:=aq w0 (ij.al _) (Aa _);have dw:=pK (ah.grows (aB.alloc _ _)) y9 HD.out;clear aq y9)|(at_builtin;refine dE aR rfl _ _ rfl w0.heap.size _ (pre++leB 4 b.length) b rfl ax (aB.refl _) ab cb rfl dw ko (by rw[Ac];omega) ee.size ?_;intro v2 w2 aj an))
 go_ret;exact⟨_,rfl,by unfold dM;rw[<-Al];exact aj,an w0 ee (Aa _)⟩
end
section
open Go Go.RowKit
attribute [local go_sem] aM aP
structure fD (w1 W:World) (vS vL vI vD:Value) (S:List Bool) (Lb:List UInt8) (I:List Bool) (D:List Nat):Prop where
 s:aO W w1.heap.size 4 1 jJ vS S
 l:aO W w1.heap.size 5 1 aQ vL Lb
 i:aO W w1.heap.size 4 1 jJ vI I
 d:aO W w1.heap.size 142 1 jR vD D
 ap:qN vS vI
 g:aB w1 W
section
variable {w1 W w':World} {vS vL vI vD v':Value} {S S':List Bool} {Lb Lb':List UInt8} {I I':List Bool} {D D':List Nat}
theorem fD.grows (h:fD w1 W vS vL vI vD S Lb I D) (hg:aB W w'):fD w1 w' vS vL vI vD S Lb I D:=⟨h.s.grows hg,h.l.grows hg,h.i.grows hg,h.d.grows hg,h.ap,h.g.tr hg⟩
theorem fD.setS (h:fD w1 W vS vL vI vD S Lb I D) (ho:aO w' w1.heap.size 4 1 jJ v' S') (hk:W.grownBy w' vS.ownBlock) (hf:xS W vS v') (hg:aB w1 w'):fD w1 w' v' vL vI vD S' Lb I D :=
 ⟨ho,h.l.other h.s (by decide) hk,mF h.i hk h.ap,h.d.other h.s (by decide) hk,h.ap.fresh (gP h.i) hf,hg⟩
theorem fD.setL (h:fD w1 W vS vL vI vD S Lb I D) (ho:aO w' w1.heap.size 5 1 aQ v' Lb') (hk:W.grownBy w' vL.ownBlock) (hg:aB w1 w'):fD w1 w' vS v' vI vD S Lb' I D :=
 ⟨h.s.other h.l (by decide) hk,ho,h.i.other h.l (by decide) hk,h.d.other h.l (by decide) hk,h.ap,hg⟩
theorem fD.setI (h:fD w1 W vS vL vI vD S Lb I D) (ho:aO w' w1.heap.size 4 1 jJ v' I') (hk:W.grownBy w' vI.ownBlock) (hf:xS W vI v') (hg:aB w1 w'):fD w1 w' vS vL v' vD S Lb I' D :=
 ⟨mF h.s hk h.ap.symm,h.l.other h.i (by decide) hk,ho,h.d.other h.i (by decide) hk,(h.ap.symm.fresh (gP h.s) hf).symm,hg⟩
theorem fD.setD (h:fD w1 W vS vL vI vD S Lb I D) (ho:aO w' w1.heap.size 142 1 jR v' D') (hk:W.grownBy w' vD.ownBlock) (hg:aB w1 w'):fD w1 w' vS vL vI v' S Lb I D' :=
 ⟨h.s.other h.d (by decide) hk,h.l.other h.d (by decide) hk,h.i.other h.d (by decide) hk,ho,h.ap,hg⟩
end
def sL (L:List (List UInt8)) (A:List eA):List UInt8:=(A.drop 1).map λy=>(eX L y).getLastD 0
theorem aA0 (L:List (List UInt8)) {A:List eA} (x:eA) (h:A≠[]):sL L (A++[x])=sL L A++[(eX L x).getLastD 0]:=by
 unfold sL
 cases A with
 | nil=>exact absurd rfl h
 | cons a A=>simp
theorem wQ0 {s:ByteArray}:bl (s.extract 0 (s.size-1))=(bl s).dropLast:=by
 rw[eN1,List.dropLast_eq_take,cJ]
theorem yF0 {s:ByteArray} (h:s.size-1<s.size):(bl s).getLastD 0=s[s.size-1]:=by
 rw[List.getLastD_eq_getLast?,List.getLast?_eq_getElem?,cJ,nR h];rfl
theorem oP0 {B:List ByteArray} {k:Nat} {x:List UInt8} (h:(bls B)[k]?=some x):∃s,B[k]?=some s/\bl s=x:=by
 unfold bls at h;rw[Ao]at h
 cases hs:B[k]? with
 | none=>rw[hs]at h;cases h
 | some s=>rw[hs]at h;exact⟨s,rfl,Option.some.inj h⟩
theorem kG0 (B:List ByteArray) (a:Option Addr) (c:Nat) (w:World) (m6:cH (bls B)=0) (ah:aF w a 1 (B.map stC)) :
  Calls Tryz.prog 123 #[.slice a B.length c] w λe w'=>∃v,e=.returned v/\aO w' w.heap.size 5 1 aQ v (pA (bls B))/\aB w w':=by
 obtain⟨be,ay,aa0⟩:=nP m6;rw[cX]at ay
 have dm:∀s∈B,s.size<=256:=λs hs=>by
  have:=be.len (bl s) (List.mem_map.2 ⟨s,hs,rfl⟩)
  rwa [cJ]at this
 have hM:=iP be.asc be.len;rw[<-hM]at aa0;have CN:=Ab (rI0 B a c w ay dm ah);have HAT:=Ab ah;obtain⟨L,hL⟩:=exq (bls B);rw[<-hL]at be aa0 CN ⊢;have HL:=Ab hL;have HOK:=Ab be;obtain⟨A,hA⟩:=exq (nodesA L);have HA:=Ab hA;rw[<-hA]at aa0;clear ah dm hM hL be hA m6;go_enter Tryz.func123,Tryz.ntmps123
 go_wp2_with fail
 refine CN.out.mono ?_;rintro e w1 ⟨v1,N,rfl,ax,hN,aq⟩;obtain⟨a1,c1,rfl,_,_,dw⟩:=ax.at_ (enc:=stC) (λ_=>rfl);have hNA:bls N=A.map (eX L):=by rw[hN,HA.out,dA0 HOK.out.asc]
 have hNl:N.length=A.length:=by have:=congrArg Ap hNA;rwa [cX,Ak]at this
 have HNA:=Ab hNA;have HNL:=Ab hNl;have HW1:=Ab aq;have zh:∀q:Addr,a1=some q->q.block<w1.heap.size:=λq hq=>gP ax q.block (by rw[hq];rfl)
 have bj:∀k x,A[k]?=some x->∃(b o:Nat) (s:ByteArray),a1=some ⟨b,o,none⟩/\bl s=eX L x/\w1.cell? ⟨b,o+k,none⟩=some (.string s):=by
  intro k x hx;have hk:=(List.getElem?_eq_some_iff.1 hx).1;obtain⟨b,o,h1,hc⟩:=at1 dw (aH (k:=k) (by omega));obtain⟨s,hs⟩:∃s,N[k]?=some s:=⟨_,Af (by omega)⟩;refine⟨b,o,s,h1,?_,hc k s hs⟩;have h2:=rX hs;rw[hNA,Ao,hx]at h2;exact(Option.some.inj h2).symm
 have HC:=Ab bj;clear hNA hN dw ax bj CN;rw[hNl];go_wp2_with fail
 have dx:=fY (enc:=jJ) (e:=4) (w:=w1) (base:=w1.heap.size) (λ_=>rfl) (Aa _) [true,false] (cs:=#[.bool true,.bool false]) rfl (n:=2) rfl (by decide);have pj:fD w1 (w1.alloc (.cells #[.bool true,.bool false] 4)) (.slice (some ⟨w1.heap.size,0,none⟩) 2 2) (.slice none 0 0) (.slice none 0 0) (.slice none 0 0) [true,false] [] [] []:=⟨dx,aO.nil _ _ _ _ _,aO.nil _ _ _ _ _,aO.nil _ _ _ _ _,(qN.nil 0 0 _).symm,aB.alloc _ _⟩;clear dx;go_loopw [4,5,6,7,8,9] (λvS vL vI vD nx i wr=>∃(k q:Nat) (S I:List Bool) (Lb:List UInt8) (D:List Nat),k<=A.length/\i=.int .i64 k/\nx=.int .i64 q/\Hid (q=nZ L k/\S=shapeL L (A.take k)/\Lb=sL L (A.take k)/\I=isL L (A.take k)/\D=idsL L (A.take k))/\fD w1 wr vS vL vI vD S Lb I D) (λ_ _ _ _ _ i _=>A.length-(intOf i).toNat)
 case atStart=>exact⟨0,1,_,_,_,_,Au _,rfl,rfl,⟨rfl,rfl,rfl,rfl,rfl⟩,pj⟩
 case round =>
  obtain⟨k,q,S,I,Lb,D,hk,rfl,rfl,ak,fk⟩:=hrel;obtain⟨hq,hS,hLb,hI,hD⟩:=ak.out;have pm:=HOK.out.off_le k;rw[<-HA.out]at pm
  have hSl:S.length=q+k+1:=by
   have:=fW L k (by rw[<-HA.out];exact hk)
   rw[<-HA.out]at this;rw[hS,this,hq]
  have hLl:Lb.length<=524287:=by rw[hLb];unfold sL;rw[Ak,List.length_drop,Ai];omega
  have hIl:I.length<=524287:=by rw[hI];unfold isL;rw[Ak,Ai];omega
  have hDl:D.length<=524287:=by
   rw[hD];unfold idsL;rw[Ak]
   have:=List.length_filter_le (lQ L) (A.take k)
   rw[Ai]at this;omega
  by_cases af:k<A.length
  ·obtain⟨x,hx⟩:∃x,A[k]?=some x:=⟨_,Af af⟩
   obtain⟨b,o,s,rfl,hbs,dz⟩:=HC.out k x hx;have gh:=zh _ rfl;simp only at gh;have ad1:=HOK.out.off_gt (i:=k) (by rw[<-HA.out];exact af);rw[<-hq]at ad1;have rp:=HOK.out.good (i:=k) (by rw[<-HA.out];exact hx);have pq:=mP (L:=L) (i:=k) (by rw[<-HA.out];exact hx);rw[<-hq]at pq;obtain⟨O,hO⟩:=exq (nZ L (k+1));rw[<-hO]at pq;have ad2:=HOK.out.off_le (k+1);rw[<-HA.out,<-hO]at ad2;have hqO:q<=O:=by omega
   have HOS:=Ab pq;have HO:=Ab hO;have HQ:=Ab hq;have HX:=Ab hx;have HBS:=Ab hbs;have HSH:=Ab hS;have HLB:=Ab hLb;have HI:=Ab hI;have HD:=Ab hD;have HG:=Ab rp;clear hx hO hq hbs ak hS hLb hI hD rp pq;have di:(k:Int)<A.length:=by omega
   go_wp2_with fail
   obtain⟨u0,rfl⟩:=exq wr;go_loopw [4,8] (λvS nx wr=>∃(j:Nat) (S2:List Bool),q<=j/\j<=O/\nx=.int .i64 j/\Hid (S2=S++Ar (j-q) true)/\fD w1 wr vS u5 u6 u7 S2 Lb I D) (λ_ nx _=>O+1-(intOf nx).toNat)
   case atStart=>exact⟨q,S,Aa _,by omega,rfl,(by show _=_;simp),fk⟩
   case round =>
    obtain⟨j,S2,hj1,od,rfl,hS2,fk⟩:=hrel;have ake:S2.length=S.length+(j-q):=by rw[hS2.out,Ac,List.length_replicate]
    have oh:∀(P:Prop),(j<O->P)->(j=O->P)->P:=λP h1 h2=>by
     rcases Nat.lt_or_ge j O with h|h
     ·exact h1 h
     ·exact h2 (by omega)
    by_cases hjO:j<O
    ·obtain⟨y,hy⟩:∃y,A[j]?=some y:=⟨_,Af (by omega)⟩
     obtain⟨b2,o2,t,vw,zf,hct⟩:=HC.out j y hy;obtain⟨rfl,rfl⟩:b=b2/\o=o2:=by simpa using vw
     have rq:=(HOK.out.cond (i:=k) (k:=j) (x:=x) (y:=y) (by rw[<-HA.out];exact HX.out) (by rw[<-HQ.out];exact hj1) (by rw[<-HO.out];exact od) (by rw[<-HA.out];exact hy)).2 (by rw[<-HO.out];exact hjO);have aw:=HOK.out.ne (k:=j) (y:=y) (by omega) (by rw[<-HA.out];exact hy)
     have htp:1<=t.size:=by
      rw[<-cJ,zf]
      have:=List.length_pos_iff.2 aw
      omega
     obtain⟨p,hp⟩:=exq (t.extract 0 (t.size-1));have hps:p=s:=bD0 (by rw[hp,wQ0,zf,rq,HBS.out])
     have aih:t.size<=256:=by
      rw[<-cJ,zf,(HOK.out.good (i:=j) (by rw[<-HA.out];exact hy)).slen];obtain⟨d,ie,ig⟩:=List.mem_flatMap.1 (Ad (by rw[HA.out]at hy;exact hy))
      have:=((gY HOK.out.asc d).mem y ig).2.1
      have:=List.mem_range.1 ie
      omega
     have hpe:t.extract 0 (t.size-1)=s:=by rw[<-hp,hps]
     have ht1:(t.size:Int)-1=((t.size-1:Nat):Int):=by omega
     have ht3:IntKind.i64.wrap ((t.size-1:Nat):Int)=((t.size-1:Nat):Int):=by simp[Ag,Ah,Ae];omega
     have ht2:((t.size-1:Nat):Int)<=t.size:=by omega
     have z1:∀x:Ext aB wr.drew,x.u.cell? ⟨b,o+j,none⟩=some (.string t):=aG (fk.g.dr.cell hct);have z2:∀x:Ext aB wr.drew,x.u.cell? ⟨b,o+k,none⟩=some (.string s):=aG (fk.g.dr.cell dz);have hjM:(j:Int)<A.length:=by omega
     have akf:j<A.length:=by omega
     have hss:(s.toList==s.toList)=true:=by simp
     have HS3:Hid (S2++[true]=S++Ar (j+1-q) true):=by
      show _=_
      rw[hS2.out,Al,show j+1-q=(j-q)+1 by omega,List.replicate_succ']
     clear rq aw hp hps hy zf hct vw hS2 oh;have cy:=fk.grows (aB.drew wr);go_wp2_with fail
     refine bH (aT 22 []) (by kernel_rfl) (λd _ _ _ _ h=>by cases d<;>exact h) ?_
     iterate 22 (refine aJ rfl (λK hK=>?_);go_simp;refine hK _ ?_;clear hK K)
     refine bN ?_;clear z1 z2;go_wp2_with (at_builtin;refine aV fF rfl _ _ rfl w1.heap.size _ S2 true rfl cy.s (aB.refl _) _ 1 rfl #[.bool true] rfl rfl (by omega) cy.g.size ?_;intro v5 w5 ai m7 m8 bg;have bz:=cy.setS ai m7 m8 (bg w1 cy.g (Aa _)))
     go_roundw
     case rel=>exact⟨j+1,_,by omega,hjO,by go_num,HS3.out,bz⟩
     case measure=>simp[intOf];omega
    ·have HJ:Hid (j=O):=by show _=_;omega
     by_cases hjM:j<A.length
     ·obtain⟨y,hy⟩:∃y,A[j]?=some y:=⟨_,Af (by omega)⟩
      obtain⟨b2,o2,t,vw,zf,hct⟩:=HC.out j y hy;obtain⟨rfl,rfl⟩:b=b2/\o=o2:=by simpa using vw
      have rq:¬(eX L y).dropLast=eX L x:=λh=>hjO (by
       rw[HO.out];exact(HOK.out.cond (i:=k) (k:=j) (x:=x) (y:=y) (by rw[<-HA.out];exact HX.out) (by rw[<-HQ.out];exact hj1) (by rw[<-HO.out];exact od) (by rw[<-HA.out];exact hy)).1 h)
      have aw:=HOK.out.ne (k:=j) (y:=y) (by omega) (by rw[<-HA.out];exact hy)
      have htp:1<=t.size:=by
       rw[<-cJ,zf]
       have:=List.length_pos_iff.2 aw
       omega
      obtain⟨p,hp⟩:=exq (t.extract 0 (t.size-1))
      have hps:(p.toList==s.toList)=false:=by
       rw[beq_eq_false_iff_ne];intro h;exact rq (by rw[<-zf,<-HBS.out,<-dR h,hp,wQ0])
      have aih:t.size<=256:=by
       rw[<-cJ,zf,(HOK.out.good (i:=j) (by rw[<-HA.out];exact hy)).slen];obtain⟨d,ie,ig⟩:=List.mem_flatMap.1 (Ad (by rw[HA.out]at hy;exact hy))
       have:=((gY HOK.out.asc d).mem y ig).2.1
       have:=List.mem_range.1 ie
       omega
      have hpe:t.extract 0 (t.size-1)=p:=hp.symm;have ht1:(t.size:Int)-1=((t.size-1:Nat):Int):=by omega
      have ht3:IntKind.i64.wrap ((t.size-1:Nat):Int)=((t.size-1:Nat):Int):=by simp[Ag,Ah,Ae];omega
      have ht2:((t.size-1:Nat):Int)<=t.size:=by omega
      have z1:∀x:Ext aB wr.drew,x.u.cell? ⟨b,o+j,none⟩=some (.string t):=aG (fk.g.dr.cell hct);have z2:∀x:Ext aB wr.drew,x.u.cell? ⟨b,o+k,none⟩=some (.string s):=aG (fk.g.dr.cell dz);have cy:=fk.grows (aB.drew wr);clear rq aw hp hy zf hct vw;go_wp2_with fail
      refine bH (aT 22 []) (by kernel_rfl) (λd _ _ _ _ h=>by cases d<;>exact h) ?_
      iterate 22 (refine aJ rfl (λK hK=>?_);go_simp;refine hK _ ?_;clear hK K)
      refine bN ?_;clear z1 z2 hps hpe ht1 ht3 ht2;have ad3:=HJ.out;subst ad3;have aii:S2.length<=2000000:=by omega
      clear HC pj zh pm ad1 ad2 hqO fk
      have HS4:Hid (S2++[false]=shapeL L (A.take (k+1))):=by
       show _=_
       rw[aY HX.out,iT,hS2.out,HSH.out,show j-q=(fH L x).length by have:=HOS.out;omega]
      by_cases h0:k=0
      ·have jt:¬0<k:=by omega
       have HLB2:Hid (Lb=sL L (A.take (k+1))):=by
        show _=_
        rw[HLB.out,aY HX.out,h0];rfl
       clear h0;go_wp2_with (at_builtin;refine aV fF rfl _ _ rfl w1.heap.size _ S2 false rfl cy.s (aB.refl _) _ 1 rfl #[.bool false] rfl rfl (by omega) cy.g.size ?_;intro v5 w5 ai m7 m8 bg;have bz:=cy.setS ai m7 m8 (bg w1 cy.g (Aa _));have d1:=bz.g.cell dz)
       have CF:=nM B s a c w5 (by omega) (HAT.out.grows (HW1.out.tr bz.g));go_wp2_with fail
       refine CF.mono ?_;clear d1;rintro e w6 ⟨hfd,rfl⟩;rcases hfd with ⟨rfl,gj⟩|⟨kk,rfl,kp⟩
       ·have HI2:Hid (I++[false]=isL L (A.take (k+1))/\D=idsL L (A.take (k+1))):=by
         have hh:lQ L x=false:=by
          cases hh:lQ L x
          ·rfl
          ·have h1:=(iJ HOK.out.asc HG.out HOK.out.pos x.i).2 ⟨hh,rfl⟩
           have h1b:(bls B)[x.i]?=some (eX L x):=by rw[<-HL.out];exact h1
           obtain⟨s2,ir,jv⟩:=oP0 h1b;exact absurd (Ad (by rw[ir,bD0 (jv.trans HBS.out.symm)])) gj
         rw[aY HX.out,iW,gG,hh,HI.out,HD.out];exact⟨rfl,by simp⟩
        clear gj CF;go_wp2_with (at_builtin;refine aV fF rfl _ _ rfl w1.heap.size _ I false rfl bz.i (aB.refl _) _ 1 rfl #[.bool false] rfl rfl (by omega) bz.g.size ?_;intro v7 w7 bi lm i9 ck;have cm:=bz.setI bi lm i9 (ck w1 bz.g (Aa _)))
        go_roundw
        case rel=>exact⟨k+1,j,_,_,_,_,af,by go_num,rfl,⟨HO.out,HS4.out,HLB2.out,HI2.out.1,HI2.out.2⟩,cm⟩
        case measure=>simp[intOf];omega
       ·have HI2:Hid (I++[true]=isL L (A.take (k+1))/\D++[kk]=idsL L (A.take (k+1))):=by
         have h1:=(iJ HOK.out.asc HG.out HOK.out.pos kk).1 (by rw[<-HBS.out,HL.out];exact rX kp);rw[aY HX.out,iW,gG,h1.1,<-h1.2,HI.out,HD.out];exact⟨rfl,by simp⟩
        have ad4:kk<B.length:=(List.getElem?_eq_some_iff.1 kp).1;have ad5:IntKind.u64.wrap (kk:Int)=kk:=by simp[Ag,Ah,Ae];omega
        clear kp CF;go_wp2_with (first|(at_builtin;refine aV fF rfl _ _ rfl w1.heap.size _ I true rfl bz.i (aB.refl _) _ 1 rfl #[.bool true] rfl rfl (by omega) bz.g.size ?_;intro v7 w7 bi lm i9 ck;have cm:=bz.setI bi lm i9 (ck w1 bz.g (Aa _)))|(at_builtin;refine aV gC rfl _ _ rfl w1.heap.size _ D kk rfl cm.d (aB.refl _) _ 1 rfl #[.int .u64 kk] rfl rfl (by omega) cm.g.size ?_;intro v8 w8 f9 hk8 hf8 eo;have jp:=cm.setD f9 hk8 (eo w1 cm.g (Aa _))))
        go_roundw
        case rel=>exact⟨k+1,j,_,_,_,_,af,by go_num,rfl,⟨HO.out,HS4.out,HLB2.out,HI2.out.1,HI2.out.2⟩,jp⟩
        case measure=>simp[intOf];omega
      ·have jt:0<k:=by omega
       have dm:1<=s.size:=by
        rw[<-cJ,HBS.out];exact List.length_pos_iff.2 (HOK.out.ne (k:=k) (by omega) (by rw[<-HA.out];exact HX.out))
       have vu:s.size<=256:=by
        rw[<-cJ,HBS.out,HG.out.slen];obtain⟨d,ie,ig⟩:=List.mem_flatMap.1 (Ad (by have:=HX.out;rw[HA.out]at this;exact this))
        have:=((gY HOK.out.asc d).mem x ig).2.1
        have:=List.mem_range.1 ie
        omega
       have ir:s.size-1<s.size:=by omega
       have HLB2:Hid (Lb++[s[s.size-1]]=sL L (A.take (k+1))):=by
        show _=_
        rw[HLB.out,aY HX.out,aA0 L x (by intro h;have:=congrArg Ap h;rw[Ai,Aq]at this;omega),<-HBS.out,yF0 ir]
       have gk:(s.size:Int)-1=((s.size-1:Nat):Int):=by omega
       have jv:IntKind.i64.wrap ((s.size-1:Nat):Int)=((s.size-1:Nat):Int):=by simp[Ag,Ah,Ae];omega
       clear h0;go_wp2_with (at_builtin;refine aV fF rfl _ _ rfl w1.heap.size _ S2 false rfl cy.s (aB.refl _) _ 1 rfl #[.bool false] rfl rfl (by omega) cy.g.size ?_;intro v5 w5 ai m7 m8 bg;have bz:=cy.setS ai m7 m8 (bg w1 cy.g (Aa _));have d1:=bz.g.cell dz)
       have y1:∀x:Ext aB w5.drew,x.u.cell? ⟨b,o+k,none⟩=some (.string s):=aG (bz.g.dr.cell dz);have im:=bz.grows (aB.drew w5);refine pD 13 (aT 13 [12]) (by kernel_rfl) (λd _ _ _ _ h=>by cases d<;>exact h) ?_
       iterate 12 (refine aJ rfl (λK hK=>?_);go_simp;refine hK _ ?_;clear hK K)
       clear y1;refine bM rfl rfl (λK hK=>?_);go_simp;refine⟨aB.alloc _ _,hK _ _ ?_⟩;clear hK K;refine bN ?_;simp only[An,As];go_wp2_with (at_builtin;refine aV aR rfl _ _ rfl w1.heap.size _ Lb (s[s.size-1]) rfl im.l (aB.refl _) _ 1 rfl _ rfl rfl (by omega) im.g.size ?_;intro v6 w6 cp hk6 hf6 de;have dh:=im.setL cp hk6 (de w1 im.g (Aa _));have d1:=dh.g.cell dz)
       have CF:=nM B s a c w6 (by omega) (HAT.out.grows (HW1.out.tr dh.g));go_wp2_with fail
       refine CF.mono ?_;clear d1;rintro e w16 ⟨hfd,rfl⟩;rcases hfd with ⟨rfl,gj⟩|⟨kk,rfl,kp⟩
       ·have HI2:Hid (I++[false]=isL L (A.take (k+1))/\D=idsL L (A.take (k+1))):=by
         have hh:lQ L x=false:=by
          cases hh:lQ L x
          ·rfl
          ·have h1:=(iJ HOK.out.asc HG.out HOK.out.pos x.i).2 ⟨hh,rfl⟩
           have h1b:(bls B)[x.i]?=some (eX L x):=by rw[<-HL.out];exact h1
           obtain⟨s2,ir,jv⟩:=oP0 h1b;exact absurd (Ad (by rw[ir,bD0 (jv.trans HBS.out.symm)])) gj
         rw[aY HX.out,iW,gG,hh,HI.out,HD.out];exact⟨rfl,by simp⟩
        clear gj CF;go_wp2_with (at_builtin;refine aV fF rfl _ _ rfl w1.heap.size _ I false rfl dh.i (aB.refl _) _ 1 rfl #[.bool false] rfl rfl (by omega) dh.g.size ?_;intro v7 w7 bi lm i9 ck;have cm:=dh.setI bi lm i9 (ck w1 dh.g (Aa _)))
        go_roundw
        case rel=>exact⟨k+1,j,_,_,_,_,af,by go_num,rfl,⟨HO.out,HS4.out,HLB2.out,HI2.out.1,HI2.out.2⟩,cm⟩
        case measure=>simp[intOf];omega
       ·have HI2:Hid (I++[true]=isL L (A.take (k+1))/\D++[kk]=idsL L (A.take (k+1))):=by
         have h1:=(iJ HOK.out.asc HG.out HOK.out.pos kk).1 (by rw[<-HBS.out,HL.out];exact rX kp);rw[aY HX.out,iW,gG,h1.1,<-h1.2,HI.out,HD.out];exact⟨rfl,by simp⟩
        have ad4:kk<B.length:=(List.getElem?_eq_some_iff.1 kp).1;have ad5:IntKind.u64.wrap (kk:Int)=kk:=by simp[Ag,Ah,Ae];omega
        clear kp CF;go_wp2_with (first|(at_builtin;refine aV fF rfl _ _ rfl w1.heap.size _ I true rfl dh.i (aB.refl _) _ 1 rfl #[.bool true] rfl rfl (by omega) dh.g.size ?_;intro v7 w7 bi lm i9 ck;have cm:=dh.setI bi lm i9 (ck w1 dh.g (Aa _)))|(at_builtin;refine aV gC rfl _ _ rfl w1.heap.size _ D kk rfl cm.d (aB.refl _) _ 1 rfl #[.int .u64 kk] rfl rfl (by omega) cm.g.size ?_;intro v8 w8 f9 hk8 hf8 eo;have jp:=cm.setD f9 hk8 (eo w1 cm.g (Aa _))))
        go_roundw
        case rel=>exact⟨k+1,j,_,_,_,_,af,by go_num,rfl,⟨HO.out,HS4.out,HLB2.out,HI2.out.1,HI2.out.2⟩,jp⟩
        case measure=>simp[intOf];omega
     ·have akg:¬j<A.length:=hjM
      have cy:=fk.grows (aB.drew wr);go_wp2_with fail
      refine bH (aT 22 []) (by kernel_rfl) (λd _ _ _ _ h=>by cases d<;>exact h) ?_
      iterate 22 (refine aJ rfl (λK hK=>?_);go_simp;refine hK _ ?_;clear hK K)
      refine bN ?_;have ad3:=HJ.out;subst ad3;have aii:S2.length<=2000000:=by omega
      clear HC pj zh pm ad1 ad2 hqO fk
      have HS4:Hid (S2++[false]=shapeL L (A.take (k+1))):=by
       show _=_
       rw[aY HX.out,iT,hS2.out,HSH.out,show j-q=(fH L x).length by have:=HOS.out;omega]
      by_cases h0:k=0
      ·have jt:¬0<k:=by omega
       have HLB2:Hid (Lb=sL L (A.take (k+1))):=by
        show _=_
        rw[HLB.out,aY HX.out,h0];rfl
       clear h0;go_wp2_with (at_builtin;refine aV fF rfl _ _ rfl w1.heap.size _ S2 false rfl cy.s (aB.refl _) _ 1 rfl #[.bool false] rfl rfl (by omega) cy.g.size ?_;intro v5 w5 ai m7 m8 bg;have bz:=cy.setS ai m7 m8 (bg w1 cy.g (Aa _));have d1:=bz.g.cell dz)
       have CF:=nM B s a c w5 (by omega) (HAT.out.grows (HW1.out.tr bz.g));go_wp2_with fail
       refine CF.mono ?_;clear d1;rintro e w6 ⟨hfd,rfl⟩;rcases hfd with ⟨rfl,gj⟩|⟨kk,rfl,kp⟩
       ·have HI2:Hid (I++[false]=isL L (A.take (k+1))/\D=idsL L (A.take (k+1))):=by
         have hh:lQ L x=false:=by
          cases hh:lQ L x
          ·rfl
          ·have h1:=(iJ HOK.out.asc HG.out HOK.out.pos x.i).2 ⟨hh,rfl⟩
           have h1b:(bls B)[x.i]?=some (eX L x):=by rw[<-HL.out];exact h1
           obtain⟨s2,ir,jv⟩:=oP0 h1b;exact absurd (Ad (by rw[ir,bD0 (jv.trans HBS.out.symm)])) gj
         rw[aY HX.out,iW,gG,hh,HI.out,HD.out];exact⟨rfl,by simp⟩
        clear gj CF;go_wp2_with (at_builtin;refine aV fF rfl _ _ rfl w1.heap.size _ I false rfl bz.i (aB.refl _) _ 1 rfl #[.bool false] rfl rfl (by omega) bz.g.size ?_;intro v7 w7 bi lm i9 ck;have cm:=bz.setI bi lm i9 (ck w1 bz.g (Aa _)))
        go_roundw
        case rel=>exact⟨k+1,j,_,_,_,_,af,by go_num,rfl,⟨HO.out,HS4.out,HLB2.out,HI2.out.1,HI2.out.2⟩,cm⟩
        case measure=>simp[intOf];omega
       ·have HI2:Hid (I++[true]=isL L (A.take (k+1))/\D++[kk]=idsL L (A.take (k+1))):=by
         have h1:=(iJ HOK.out.asc HG.out HOK.out.pos kk).1 (by rw[<-HBS.out,HL.out];exact rX kp);rw[aY HX.out,iW,gG,h1.1,<-h1.2,HI.out,HD.out];exact⟨rfl,by simp⟩
        have ad4:kk<B.length:=(List.getElem?_eq_some_iff.1 kp).1;have ad5:IntKind.u64.wrap (kk:Int)=kk:=by simp[Ag,Ah,Ae];omega
        clear kp CF;go_wp2_with (first|(at_builtin;refine aV fF rfl _ _ rfl w1.heap.size _ I true rfl bz.i (aB.refl _) _ 1 rfl #[.bool true] rfl rfl (by omega) bz.g.size ?_;intro v7 w7 bi lm i9 ck;have cm:=bz.setI bi lm i9 (ck w1 bz.g (Aa _)))|(at_builtin;refine aV gC rfl _ _ rfl w1.heap.size _ D kk rfl cm.d (aB.refl _) _ 1 rfl #[.int .u64 kk] rfl rfl (by omega) cm.g.size ?_;intro v8 w8 f9 hk8 hf8 eo;have jp:=cm.setD f9 hk8 (eo w1 cm.g (Aa _))))
        go_roundw
        case rel=>exact⟨k+1,j,_,_,_,_,af,by go_num,rfl,⟨HO.out,HS4.out,HLB2.out,HI2.out.1,HI2.out.2⟩,jp⟩
        case measure=>simp[intOf];omega
      ·have jt:0<k:=by omega
       have dm:1<=s.size:=by
        rw[<-cJ,HBS.out];exact List.length_pos_iff.2 (HOK.out.ne (k:=k) (by omega) (by rw[<-HA.out];exact HX.out))
       have vu:s.size<=256:=by
        rw[<-cJ,HBS.out,HG.out.slen];obtain⟨d,ie,ig⟩:=List.mem_flatMap.1 (Ad (by have:=HX.out;rw[HA.out]at this;exact this))
        have:=((gY HOK.out.asc d).mem x ig).2.1
        have:=List.mem_range.1 ie
        omega
       have ir:s.size-1<s.size:=by omega
       have HLB2:Hid (Lb++[s[s.size-1]]=sL L (A.take (k+1))):=by
        show _=_
        rw[HLB.out,aY HX.out,aA0 L x (by intro h;have:=congrArg Ap h;rw[Ai,Aq]at this;omega),<-HBS.out,yF0 ir]
       have gk:(s.size:Int)-1=((s.size-1:Nat):Int):=by omega
       have jv:IntKind.i64.wrap ((s.size-1:Nat):Int)=((s.size-1:Nat):Int):=by simp[Ag,Ah,Ae];omega
       clear h0;go_wp2_with (at_builtin;refine aV fF rfl _ _ rfl w1.heap.size _ S2 false rfl cy.s (aB.refl _) _ 1 rfl #[.bool false] rfl rfl (by omega) cy.g.size ?_;intro v5 w5 ai m7 m8 bg;have bz:=cy.setS ai m7 m8 (bg w1 cy.g (Aa _));have d1:=bz.g.cell dz)
       have y1:∀x:Ext aB w5.drew,x.u.cell? ⟨b,o+k,none⟩=some (.string s):=aG (bz.g.dr.cell dz);have im:=bz.grows (aB.drew w5);refine pD 13 (aT 13 [12]) (by kernel_rfl) (λd _ _ _ _ h=>by cases d<;>exact h) ?_
       iterate 12 (refine aJ rfl (λK hK=>?_);go_simp;refine hK _ ?_;clear hK K)
       clear y1;refine bM rfl rfl (λK hK=>?_);go_simp;refine⟨aB.alloc _ _,hK _ _ ?_⟩;clear hK K;refine bN ?_;simp only[An,As];go_wp2_with (at_builtin;refine aV aR rfl _ _ rfl w1.heap.size _ Lb (s[s.size-1]) rfl im.l (aB.refl _) _ 1 rfl _ rfl rfl (by omega) im.g.size ?_;intro v6 w6 cp hk6 hf6 de;have dh:=im.setL cp hk6 (de w1 im.g (Aa _));have d1:=dh.g.cell dz)
       have CF:=nM B s a c w6 (by omega) (HAT.out.grows (HW1.out.tr dh.g));go_wp2_with fail
       refine CF.mono ?_;clear d1;rintro e w16 ⟨hfd,rfl⟩;rcases hfd with ⟨rfl,gj⟩|⟨kk,rfl,kp⟩
       ·have HI2:Hid (I++[false]=isL L (A.take (k+1))/\D=idsL L (A.take (k+1))):=by
         have hh:lQ L x=false:=by
          cases hh:lQ L x
          ·rfl
          ·have h1:=(iJ HOK.out.asc HG.out HOK.out.pos x.i).2 ⟨hh,rfl⟩
           have h1b:(bls B)[x.i]?=some (eX L x):=by rw[<-HL.out];exact h1
           obtain⟨s2,ir,jv⟩:=oP0 h1b;exact absurd (Ad (by rw[ir,bD0 (jv.trans HBS.out.symm)])) gj
         rw[aY HX.out,iW,gG,hh,HI.out,HD.out];exact⟨rfl,by simp⟩
        clear gj CF;go_wp2_with (at_builtin;refine aV fF rfl _ _ rfl w1.heap.size _ I false rfl dh.i (aB.refl _) _ 1 rfl #[.bool false] rfl rfl (by omega) dh.g.size ?_;intro v7 w7 bi lm i9 ck;have cm:=dh.setI bi lm i9 (ck w1 dh.g (Aa _)))
        go_roundw
        case rel=>exact⟨k+1,j,_,_,_,_,af,by go_num,rfl,⟨HO.out,HS4.out,HLB2.out,HI2.out.1,HI2.out.2⟩,cm⟩
        case measure=>simp[intOf];omega
       ·have HI2:Hid (I++[true]=isL L (A.take (k+1))/\D++[kk]=idsL L (A.take (k+1))):=by
         have h1:=(iJ HOK.out.asc HG.out HOK.out.pos kk).1 (by rw[<-HBS.out,HL.out];exact rX kp);rw[aY HX.out,iW,gG,h1.1,<-h1.2,HI.out,HD.out];exact⟨rfl,by simp⟩
        have ad4:kk<B.length:=(List.getElem?_eq_some_iff.1 kp).1;have ad5:IntKind.u64.wrap (kk:Int)=kk:=by simp[Ag,Ah,Ae];omega
        clear kp CF;go_wp2_with (first|(at_builtin;refine aV fF rfl _ _ rfl w1.heap.size _ I true rfl dh.i (aB.refl _) _ 1 rfl #[.bool true] rfl rfl (by omega) dh.g.size ?_;intro v7 w7 bi lm i9 ck;have cm:=dh.setI bi lm i9 (ck w1 dh.g (Aa _)))|(at_builtin;refine aV gC rfl _ _ rfl w1.heap.size _ D kk rfl cm.d (aB.refl _) _ 1 rfl #[.int .u64 kk] rfl rfl (by omega) cm.g.size ?_;intro v8 w8 f9 hk8 hf8 eo;have jp:=cm.setD f9 hk8 (eo w1 cm.g (Aa _))))
        go_roundw
        case rel=>exact⟨k+1,j,_,_,_,_,af,by go_num,rfl,⟨HO.out,HS4.out,HLB2.out,HI2.out.1,HI2.out.2⟩,jp⟩
        case measure=>simp[intOf];omega
  ·have di:¬(k:Int)<A.length:=by omega
   have fw:k=A.length:=by omega
   have HS:Hid (S=shapeL L (nodesA L)):=by show _=_;rw[hS,fw,Aj,HA.out]
   have HLb:Hid (Lb=labelsL L (nodesA L)):=by show _=_;rw[hLb,fw,Aj,HOK.out.labels,HA.out];rfl
   have HI:Hid (I=isL L (nodesA L)):=by show _=_;rw[hI,fw,Aj,HA.out]
   have HD:Hid (D=idsL L (nodesA L)):=by show _=_;rw[hD,fw,Aj,HA.out]
   have us:∀n∈D,n<18446744073709551616:=λn hn=>by
    rw[hD]at hn;unfold idsL at hn;obtain⟨x,hx,rfl⟩:=List.mem_map.1 hn;have ik:=List.mem_of_mem_take (List.mem_filter.1 hx).1;have hg:=tT HOK.out.asc (by rw[HA.out]at ik;exact ik)
    have:=hg.le
    rw[HL.out,cX]at this;omega
   have HD64:=Ab us;have hel:=yE S;have aa1:=yE I;have jd:=sZ D;have zn:gU D<=64:=lP.2 us;have ma:D.length*gU D<=524287*64:=Nat.mul_le_mul hDl zn;obtain⟨aS,cS,rfl,_,_,ut⟩:=fk.s.at_ (enc:=jJ) (λ_=>rfl);obtain⟨aL,cL,rfl,_,_,mc⟩:=fk.l.at_ aR.len;obtain⟨aI,cI,rfl,_,_,yb⟩:=fk.i.at_ (enc:=jJ) (λ_=>rfl);obtain⟨aD,cD,rfl,_,_,ye⟩:=fk.d.at_ (enc:=jR) (λ_=>rfl);have hnL:=bC fk.l;have ad6:∀q:Addr,aL=some q->q.block<wr.heap.size:=λq hq=>gP fk.l q.block (by rw[hq];rfl);have ev:=HW1.out.tr fk.g;obtain⟨b1,gh⟩:=exq (fE0 S);obtain⟨b3,kn⟩:=exq (fE0 I);obtain⟨b4,vx⟩:=exq (cG D);have CS:=Ab (pX0 S aS cS wr (by omega) ut);have CI:=λW (hg:aB wr W)=>Ab (pX0 I aI cI W (by omega) (yb.grows hg));have CD:=λW (hg:aB wr W)=>Ab (jG D aD cD W (by omega) HD64.out (ye.grows hg));rw[<-gh]at CS hel;rw[<-kn]at CI aa1;rw[<-vx]at CD jd;have HB1:=Ab gh;have HB3:=Ab kn;have HB4:=Ab vx;have HATL:=Ab mc;have aij:b1.length<=100000000:=by omega
   have aik:b3.length<=100000000:=by omega
   have ail:b4.length<=100000000:=by omega
   clear ak hS hLb hI hD fw us hel aa1 jd zn ma ut mc yb ye fk pj HC zh gh kn vx pm hSl;go_wp2_with fail
   refine CS.out.mono ?_;rintro e w2 ⟨v2,rfl,aj,an⟩;obtain⟨a2,c2,rfl,_,_,gz⟩:=aj.at_ aR.len;have ii:=bC aj;clear aj;go_wp2_with fail
   refine(tU (.slice none 0 0) [] b1 a2 c2 w2 w2 (aB.refl _) (by simp) (by omega) (aO.nil _ _ _ _ _) gz ii (λq _ h=>by cases h)).mono ?_;rintro e w3 ⟨v3,rfl,bd,bu⟩;rw[List.nil_append]at bd;have hp1:(dM b1).length<=100000004:=by unfold dM;rw[Ac,cE];omega
   have ep:=an.tr bu;go_wp2_with fail
   refine(tU v3 (dM b1) Lb aL cL w2 w3 bu (by omega) (by omega) bd (HATL.out.grows ep) hnL (zJ bd (λq hq=>Nat.lt_of_lt_of_le (ad6 q hq) an.size))).mono ?_;rintro e w4 ⟨v4,rfl,bv,cd⟩;obtain⟨P2,hP2⟩:=exq (dM b1++dM Lb);rw[<-hP2]at bv;have cz:P2.length<=200000008:=by rw[hP2,Ac];unfold dM at *;rw[Ac,cE] at *;rw[Ac,cE];omega
   have HP2:=Ab hP2;clear hP2 bd ep gz ii;have j5:=an.tr cd;go_wp2_with fail
   refine(CI w4 j5).out.mono ?_;rintro e w5 ⟨v5,rfl,ai,bg⟩;obtain⟨a5,c5,rfl,_,_,gw⟩:=ai.at_ aR.len;have x9:=bC ai;go_wp2_with fail
   refine(tU v4 P2 b3 a5 c5 w2 w5 (cd.tr bg) (by omega) (by omega) (bv.grows bg) gw x9 (λq hq hv=>by have h1:=gP bv _ hv.symm;have h2:=bF ai q.block (by rw[hq];rfl);omega)).mono ?_;rintro e w6 ⟨v6,rfl,cp,de⟩;obtain⟨P3,vy⟩:=exq (P2++dM b3);rw[<-vy]at cp;have il:P3.length<=400000012:=by rw[vy,Ac];unfold dM;rw[Ac,cE];omega
   have HP3:=Ab vy;clear vy bv ai j5 gw x9 bg;have hgC:=an.tr de;go_wp2_with fail
   refine(CD w6 hgC).out.mono ?_;rintro e w7 ⟨v7,rfl,bi,ck⟩;obtain⟨a7,c7,rfl,_,_,aaz⟩:=bi.at_ aR.len;have hn7:=bC bi;go_wp2_with fail
   refine(tU v6 P3 b4 a7 c7 w2 w7 (de.tr ck) (by omega) (by omega) (cp.grows ck) aaz hn7 (λq hq hv=>by have h1:=gP cp _ hv.symm;have h2:=bF bi q.block (by rw[hq];rfl);omega)).mono ?_;rintro e w8 ⟨v8,rfl,f9,eo⟩;go_wp2_with fail
   go_ret;refine⟨_,rfl,?_,ev.tr (an.tr eo)⟩
   have au:P3++dM b4=pA L:=by
    rw[HP3.out,HP2.out,HB1.out,HB3.out,HB4.out,HS.out,HLb.out,HI.out,HD.out];rfl
   rw[<-au];exact f9.base (ev.tr an).size
end
end Go.Proofs.YtiopheoljccmpaaGreatDoor
