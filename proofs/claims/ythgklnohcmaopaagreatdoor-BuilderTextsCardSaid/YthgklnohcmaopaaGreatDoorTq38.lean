/- The texts BvE LoC TrE Txt LbP, one behind the other. -/
import Derived.Test.YthgklnohcmaopaaGreatDoorTq29
import Derived.Test.YthgklnohcmaopaaGreatDoorTq37
import Derived.Test.YthgklnohcmaopaaGreatDoorTq26
import Derived.Test.YthgklnohcmaopaaGreatDoorTq30
import Derived.Test.YthgklnohcmaopaaGreatDoorTq5
open List renaming length_append → Aa,getElem?_eq_getElem → Ab,length_map → Ad,getElem?_map → Ae,mem_of_getElem? → Ag,getElem?_eq_none → Ak,flatMap_cons → An,ext_getElem? → Ao,take_length → Ap,length_drop → Aq,length_cons → Ar,nil_append → As,length → Av,range → Ax
open Go.Lib renaming hid → Ac
open Go.IntKind renaming signed → Af,wrap → Ah,bits → Ai
open Go.Op renaming bytesLess → Aj
open Nat renaming le_refl → Al,lt_of_lt_of_le → Am,zero_le → Au
open Option renaming map_some → At
open Go.World renaming cell? → Aw
set_option maxHeartbeats 4000000
namespace Go.Proofs.YthgklnohcmaopaaGreatDoor
set_option maxRecDepth 100000
section
open Go Go.RowKit
attribute [local go_sem] aK aP
theorem rE0 {l:List Bool} {k x:Nat} (h:(qV l)[k]?=some x):x<=l.length+512:=by
 unfold qV at h;rw[Ae]at h
 cases hg:(Ax ((l.length+511)/512))[k]? with
 | none=>rw[hg]at h;cases h
 | some g =>
  rw[hg]at h;have h1:fB l (512*g)=x:=Option.some.inj h;obtain⟨h2,h3⟩:=List.getElem?_eq_some_iff.1 hg;rw[List.length_range]at h2;rw[List.getElem_range]at h3
  have:=nG l (512*g)
  omega
theorem iV0 (l:List Bool) (vb:Nat) (w:World) (hl:l.length<=1048576) (ac:lB w vb l) :
  Calls Tryz.prog 131 #[.pointer (some ⟨vb,0,none⟩)] w λe w'=>∃v,e=.returned v/\aU w' w.heap.size 5 1 aV v (jC0 l)/\aB w w':=by
 have c0:=ac.c0;obtain⟨vW,c1,ru⟩:=ac.c1;obtain⟨aW,cW,rfl,_,_,i6⟩:=ru.at_ (enc:=kH) (λ_=>rfl);obtain⟨vC,c2,lm⟩:=ac.c2;obtain⟨aC,cC,rfl,_,_,my⟩:=lm.at_ (enc:=gU) (λ_=>rfl);have ac2:∀q:Addr,aW=some q->q.block<w.heap.size:=λq hq=>lT ru q.block (by rw[hq];rfl);have ac3:vb<w.heap.size:=World.block_lt_of_cell? w _ c0;have hq:=mQ l;have hCl:(qV l).length=(l.length+511)/512:=by simp[qV]
 obtain⟨Cs,hCs⟩:=exq (qV l);rw[<-hCs]at c2 my hCl
 have us:∀k x,Cs[k]?=some x->x<=1049088:=λk x hx=>by
  rw[hCs]at hx
  have:=rE0 hx
  omega
 obtain⟨Ws,hWs⟩:=exq (tK l);rw[<-hWs]at i6 hq c1;have ue:Ws.length<=16384:=by omega
 have dz:∀n∈Ws,n<18446744073709551616:=λn hn=>by
  rw[hWs]at hn;unfold tK at hn;obtain⟨k,_,rfl⟩:=List.mem_map.1 hn;exact vO l k
 have HE:Hid (jC0 l=leB 4 l.length++jA 8 Ws++jA 4 Cs):=by show _=_;rw[hWs,hCs];rfl
 have HW64:=Ac dz;have HCB:=Ac us;have HATC:=Ac my;have HATW:=Ac i6;have aaz:Cs.length<=2049:=by omega
 have wn:IntKind.u64.wrap (l.length:Int)=l.length:=by simp[Ah,Ai,Af];omega
 have z0:∀y:Ext (EB w.heap.size) w.drew,y.u.cell? ⟨vb,0,none⟩=some (.int .i64 l.length):=fO0 ac3 ((aB.drew w).cell c0);have z1:∀y:Ext (EB w.heap.size) w.drew,y.u.cell? ⟨vb,1,none⟩=some (.slice aW Ws.length cW):=fO0 ac3 ((aB.drew w).cell c1);obtain⟨n,ai⟩:=exq l.length;rw[<-ai]at HE wn z0 hl;have aby:=Ac ac2;clear ac c0 ru lm my i6 hq ac2 hCs hCl us hWs dz ai c1;go_enter Tryz.func131,Tryz.ntmps131
 go_wp2_with fail
 refine qK (EB w.heap.size) (aK0 [0,1,2,3,4,7,8,9,10,5,6,11,12] [5,6,11,12]) (EB.refl w.heap.size) (EB.trans w.heap.size) (by kernel_rfl) (by kernel_rfl) (λd _ _ _ _ h=>by cases d<;>exact h) ?_
 iterate 9 (refine aO rfl (λK hK=>?_);go_simp;refine hK _ ?_;clear hK K)
 clear z0 z1;refine cH rfl rfl (λK hK=>?_);go_simp;refine⟨EB.of (aB.alloc _ _) (Al _),hK _ _ ?_⟩;clear hK K;have rv:=nS (enc:=kH) (w:=w) (t:=213) (fz:=(0,0)) (cs:=#[.int .u64 n]) (λ_=>rfl) [n] rfl;obtain⟨W1,cq⟩:=exq ((w.alloc (.cells #[.int .u64 n] 213)).drew);have aj:aB w W1:=by rw[cq];exact(aB.alloc _ _).dr
 have ed:w.heap.size<W1.heap.size:=by rw[cq];simp
 have yy:aF W1 (some ⟨w.heap.size,0,none⟩) 1 ([n].map kH):=by rw[cq];exact rv.grows (aB.drew _)
 rw[<-cq];clear cq rv;refine cH rfl rfl (λK hK=>?_);go_simp;refine(aT0 (.slice none 0 0) [] 4 [n] (some ⟨w.heap.size,0,none⟩) 1 W1 W1 (aB.refl _) (by decide) (by simp) (by simp) (λm hm=>by obtain rfl:=List.mem_singleton.1 hm;omega) (aU.nil _ _ _ _ _) yy (λq _ h=>by cases h) (λq hq=>by cases hq;exact ed)).mono ?_;rintro e w2 ⟨v2,rfl,ag,af,acf⟩;rw[As]at ag;refine⟨EB.of af (Nat.le_of_lt ed),hK _ _ ?_⟩;clear hK K;have hp4:(jA 4 [n]).length=4:=by rw[qF];rfl
 have ac4:∀q:Addr,aW=some q->q.block<W1.heap.size:=λq hq=>Nat.lt_trans (aby.out q hq) ed;refine cH rfl rfl (λK hK=>?_);go_simp;refine(aT0 v2 (jA 4 [n]) 8 Ws aW cW W1 _ af (by decide) (by omega) (by omega) HW64.out ag (HATW.out.grows (aj.tr af)) (dJ0 ag ac4) (λr hr=>Am (ac4 r hr) af.size)).mono ?_;rintro e w3 ⟨v3,rfl,au,bg,ry⟩;refine⟨EB.both (aj.tr af) (aj.tr bg) ry,hK _ _ ?_⟩;clear hK K;refine cH rfl rfl (λK hK=>?_);go_simp;refine⟨EB.refl _ _,hK _ _ ?_⟩;clear hK K;refine bU ?_;have i9:=aj.tr bg;obtain⟨P3,ut⟩:=exq (jA 4 [n]++jA 8 Ws);rw[<-ut]at au;have je:P3.length<=4+8*16384:=by rw[ut,Aa,hp4,qF];omega
 have HE3:Hid (jC0 l=P3++jA 4 Cs):=by show _=_;rw[HE.out,ut];unfold jA;simp
 replace au:=au.base (base':=w.heap.size) aj.size;have c2r:=i9.cell c2;clear ut ag af bg aj yy hp4 HE c2;go_wp2_with fail
 go_loopw [3,25] (λout i wr=>∃(k:Nat) (acc:List UInt8),k<=Cs.length/\i=.int .i64 k/\Hid (acc=P3++jA 4 (Cs.take k))/\aU wr w.heap.size 5 1 aV out acc/\aB w wr) (λ_ i _=>Cs.length-(intOf i).toNat)
 case atStart=>exact⟨0,P3,Au _,rfl,(by show _=_;simp[jA]),au,i9⟩
 case round =>
  obtain⟨k,acc,hk,rfl,bh,aa,hg⟩:=hrel
  have js:acc.length<=4+8*16384+4*k:=by
   rw[bh.out,Aa,qF,List.length_take];omega
  by_cases ae:k<Cs.length
  ·obtain⟨x,hx⟩:∃x,Cs[k]?=some x:=⟨_,Ab ae⟩
   obtain⟨b,o,rfl,hc⟩:=at1 HATC.out (aH ae);have jl:=hg.cell (hc k x hx);have th:=HCB.out k x hx;have wx:IntKind.u64.wrap (x:Int)=x:=by simp[Ah,Ai,Af];omega
   have HN:Hid (acc++jA 4 [x]=P3++jA 4 (Cs.take (k+1))):=by
    show _=_
    rw[bT hx,zN,bh.out,List.append_assoc];simp[jA]
   have cy:(k:Int)<Cs.length:=by omega
   have rv:=nS (enc:=kH) (w:=wr) (t:=213) (fz:=(0,0)) (cs:=#[.int .u64 x]) (λ_=>rfl) [x] rfl;have CP:=aT0 _ acc 4 [x] (some ⟨wr.heap.size,0,none⟩) 1 w (wr.alloc (.cells #[.int .u64 x] 213)) (hg.al _) (by decide) (by omega) (by simp) (λm hm=>by obtain rfl:=List.mem_singleton.1 hm;omega) (aa.grows (aB.alloc _ _)) rv (pY0 aa (λr hr=>by cases hr;exact Al _)) (λr hr=>by cases hr;simp);clear hc hx bh rv;go_wp2_with fail
   refine CP.mono ?_;rintro e w5 ⟨v5,rfl,ak,bk,_⟩;go_wp2_with fail
   go_roundw
   case rel=>exact⟨k+1,_,ae,by go_num,HN.out,ak,bk⟩
   case measure=>simp[intOf];omega
  ·have cy:¬(k:Int)<Cs.length:=by omega
   have HF:Hid (acc=jC0 l):=by
    show _=_
    rw[bh.out,List.take_of_length_le (by omega),HE3.out]
   clear bh;go_wp2_with fail
   go_ret;exact⟨_,rfl,by rw[<-HF.out];exact aa,hg⟩
def fZ0 (L:List (List UInt8)):Nat:=if 20000<L.length then 2 else if mA L=true then 1 else 0
theorem jN0 (B:List ByteArray) (a:Option Addr) (c:Nat) (w:World) (hB:B.length<=1099511627776) (cw:∀s∈B,s.size<=1099511627776) (ac:aF w a 1 (B.map stC)) :
  Calls Tryz.prog 117 #[.slice a B.length c] w λe w'=>e=.returned (.int .i64 (fZ0 (bls B)))/\w=w':=by
 have HAT:=Ac ac;have HSZ:=Ac cw;clear ac cw;by_cases cr:20000<B.length
 ·have pw:(20000:Int)<B.length:=by omega
  have HF:Hid (fZ0 (bls B)=2):=by show _=_;unfold fZ0;rw[gJ,if_pos cr]
  go_enter Tryz.func117,Tryz.ntmps117
  go_wp2_with fail
  go_ret;exact⟨by rw[HF.out];rfl,rfl⟩
 have pw:¬(20000:Int)<B.length:=by omega
 have HF:Hid (fZ0 (bls B)=if mA (bls B)=true then 1 else 0):=by show _=_;unfold fZ0;rw[gJ,if_neg cr]
 have HIT:Hid (∀k,k<B.length->yB (bls B) k=true->fZ0 (bls B)=1):=λk hk hb=>by rw[HF.out,if_pos (nZ0 (by rw[gJ];exact hk) hb)]
 go_enter Tryz.func117,Tryz.ntmps117
 go_wp2_with fail
 go_loop [10] (λi=>∃k:Nat,k<=B.length/\i=.int .i64 k/\Hid (∀j,j<k->yB (bls B) j=false)) (λi=>B.length-(intOf i).toNat)
 case atStart=>exact⟨0,Au _,rfl,λj hj=>by omega⟩
 case round =>
  obtain⟨k,hk,rfl,ch⟩:=hrel;by_cases ae:k<B.length
  ·obtain⟨s,hx⟩:∃x,B[k]?=some x:=⟨_,Ab ae⟩
   obtain⟨b,o,rfl,hc⟩:=at1 HAT.out (aH ae);have hcw:=hc k s hx;have hn:=dO hx;have ahw:=HSZ.out s (Ag hx);have cy:(k:Int)<B.length:=by omega
   have HBD:Hid (yB (bls B) k=(decide (s.size<1)||decide (256<s.size)||(decide (0<k) && !Aj (nth (bls B) (k-1)) (bl s)))):=by show _=_;unfold yB;rw[hn,gS]
   have uu:s.toList=[]↔s.size<1:=by
    rw[<-iE0,<-gS];constructor
    ·intro h;rw[h];decide
    ·intro h;exact List.eq_nil_of_length_eq_zero (by omega)
   by_cases h1:s.size<1
   ·have HB:=Ac (HIT.out k ae (by rw[HBD.out];simp[h1]))
    have he1:s.toList.isEmpty=true:=by rw[uu.2 h1];rfl
    clear hc hx hn h1 uu;go_wp2_with fail
    go_ret;exact⟨by rw[HB.out];rfl,rfl⟩
   ·have ag8:s.toList.isEmpty=false:=by
     cases hh:s.toList.isEmpty
     ·rfl
     ·exact absurd (uu.1 (List.isEmpty_iff.1 hh)) h1
    clear uu;by_cases h2:256<s.size
    ·have h2i:(256:Int)<s.size:=by omega
     have HB:=Ac (HIT.out k ae (by rw[HBD.out];simp[h2]));clear hc hx hn;go_wp2_with fail
     go_ret;exact⟨by rw[HB.out];rfl,rfl⟩
    ·have h2i:¬(256:Int)<s.size:=by omega
     by_cases h0:k=0
     ·have h0i:¬0<k:=by omega
      have HN:Hid (∀j,j<k+1->yB (bls B) j=false):=λj hj=>by
       have gj:decide (s.size<1)=false:=decide_eq_false h1;have ma:decide (256<s.size)=false:=decide_eq_false h2;have s7:decide (0<k)=false:=decide_eq_false h0i;rw[show j=k by omega,HBD.out,gj,ma,s7];rfl
      clear hc hx hn h0;go_wp2_with fail
      go_round
      case rel=>exact⟨k+1,ae,by go_num,HN.out⟩
      case measure=>simp[intOf];omega
     ·have h0i:0<k:=by omega
      obtain⟨t,ig⟩:∃x,B[k-1]?=some x:=⟨_,Ab (by omega)⟩;have ahx:=hc (k-1) t ig;have hk1:(k:Int)-1=((k-1:Nat):Int):=by omega
      have kq:((k-1:Nat):Int)<B.length:=by omega
      have ky:IntKind.i64.wrap ((k-1:Nat):Int)=((k-1:Nat):Int):=by simp[Ah,Ai,Af];omega
      have hq:=HBD.out;rw[dO ig,iE0,iE0]at hq;have gj:decide (s.size<1)=false:=decide_eq_false h1;have ma:decide (256<s.size)=false:=decide_eq_false h2;have s7:decide (0<k)=true:=decide_eq_true h0i;rw[gj,ma,s7]at hq;simp only[Bool.false_or,Bool.true_and]at hq;have HQ:=Ac hq;clear hc hx hn h0 ig HBD hq gj ma s7;by_cases hl:Aj t.toList s.toList=true
      ·have l1:Aj s.toList t.toList=false:=by
        have:=mG hl;simpa using this
       have l2:(s.toList==t.toList)=false:=by
        rw[beq_eq_false_iff_ne];intro h;rw[h,bytesLess_irrefl]at hl;cases hl
       have HN:Hid (∀j,j<k+1->yB (bls B) j=false):=λj hj=>by
        rcases Nat.lt_or_ge j k with h|h
        ·exact ch.out j h
        ·rw[show j=k by omega,HQ.out,hl];rfl
       clear hl ch;go_wp2_with fail
       go_round
       case rel=>exact⟨k+1,ae,by go_num,HN.out⟩
       case measure=>simp[intOf];omega
      ·have jc:Aj t.toList s.toList=false:=by simpa using hl
       have HB:=Ac (HIT.out k ae (by rw[HQ.out,jc];rfl));by_cases he:s.toList=t.toList
       ·have l1:Aj s.toList t.toList=false:=by rw[he,bytesLess_irrefl]
        have l2:(s.toList==t.toList)=true:=by rw[he];simp
        clear hl jc he ch;go_wp2_with fail
        go_ret;exact⟨by rw[HB.out];rfl,rfl⟩
       ·have l1:Aj s.toList t.toList=true:=cQ jc (λh=>he h.symm)
        clear hl jc he ch;go_wp2_with fail
        go_ret;exact⟨by rw[HB.out];rfl,rfl⟩
  ·have cy:¬(k:Int)<B.length:=by omega
   have HB:Hid (fZ0 (bls B)=0):=by
    show _=_
    rw[HF.out,iB0 (λi hi=>ch.out i (by rw[gJ]at hi;omega))];rfl
   clear ch;go_wp2_with fail
   go_ret;exact⟨by rw[HB.out];rfl,rfl⟩
def iP (L:List (List UInt8)):List Nat:=(Ax L.length).map λj=>(nodesA L).findIdx λx=>nR L x&&x.i==j
structure oB (w:World) (tb:Nat) (L:List (List UInt8)):Prop where
 s:∃sb,w.cell? ⟨tb,0,none⟩=some (.pointer (some ⟨sb,0,none⟩))/\lB w sb (shapeL L (nodesA L))
 i:∃ib,w.cell? ⟨tb,1,none⟩=some (.pointer (some ⟨ib,0,none⟩))/\lB w ib (isL L (nodesA L))
 l:∃vL,w.cell? ⟨tb,2,none⟩=some vL/\aU w (tb-2) 5 1 aV vL (labelsL L (nodesA L))
 d:∃pb,w.cell? ⟨tb,3,none⟩=some (.pointer (some ⟨pb,0,none⟩))/\gA0 w pb (idsL L (nodesA L))
 n:∃vN,w.cell? ⟨tb,4,none⟩=some vN/\aU w 0 3 1 gU vN (iP L)
theorem oB.grows {w w':World} {tb:Nat} {L:List (List UInt8)} (h:oB w tb L) (hg:aB w w'):oB w' tb L:=by
 obtain⟨sb,s1,s2⟩:=h.s;obtain⟨ib,i1,i2⟩:=h.i;obtain⟨vL,l1,l2⟩:=h.l;obtain⟨pb,d1,d2⟩:=h.d;obtain⟨vN,n1,n2⟩:=h.n;exact⟨⟨sb,hg.cell s1,s2.grows hg⟩,⟨ib,hg.cell i1,i2.grows hg⟩,⟨vL,hg.cell l1,l2.grows hg⟩,⟨pb,hg.cell d1,d2.grows hg⟩,⟨vN,hg.cell n1,n2.grows hg⟩⟩
theorem OkL.sizes {L:List (List UInt8)} (aq:OkL L) (hl:L.length<=20000) (hc:gB L<=524287) :
  (shapeL L (nodesA L)).length<=1048576/\(isL L (nodesA L)).length<=524287/\(labelsL L (nodesA L)).length<=524287/\(idsL L (nodesA L)).length<=524287/\∀n∈idsL L (nodesA L),n<=20000:=by
 have hN:=iZ aq.asc aq.len;refine⟨?_,?_,?_,?_,?_⟩
 ·have h:=fM L (nodesA L).length (Al _)
  rw[Ap,aq.off_all]at h;omega
 ·unfold isL;rw[Ad];omega
 ·rw[aq.labels,Ad,Aq];omega
 ·unfold idsL
  rw[Ad]
  have:=List.length_filter_le (nR L) (nodesA L)
  omega
 ·intro n hn
  unfold idsL at hn;obtain⟨x,hx,rfl⟩:=List.mem_map.1 hn;have hg:=xF aq.asc (List.mem_filter.1 hx).1
  have:=hg.le
  omega
theorem kF0 (L:List (List UInt8)) (tb:Nat) (w:World) (aq:OkL L) (hl:L.length<=20000) (hc:gB L<=524287) (ac:oB w tb L) :
  Calls Tryz.prog 66 #[.pointer (some ⟨tb,0,none⟩)] w λe w'=>∃v,e=.returned v/\aU w' w.heap.size 5 1 aV v (rQ L)/\aB w w':=by
 obtain⟨z1,z2,z3,z4,z5⟩:=aq.sizes hl hc;obtain⟨sb,s1,s2⟩:=ac.s;obtain⟨ib,i1,i2⟩:=ac.i;obtain⟨vL,l1,l2⟩:=ac.l;obtain⟨pb,d1,d2⟩:=ac.d;have HE:Hid (rQ L=fF (jC0 (shapeL L (nodesA L)))++fF (labelsL L (nodesA L))++fF (jC0 (isL L (nodesA L)))++fF (cG (idsL L (nodesA L)))):=rfl;generalize shapeL L (nodesA L)=S at *;generalize isL L (nodesA L)=I at *;generalize labelsL L (nodesA L)=Lb at *;generalize idsL L (nodesA L)=D at *;have aa0:∀n∈D,n<18446744073709551616:=λn hn=>by have:=z5 n hn;omega
 have hel:=kV0 S;have ac5:=kV0 I;have ik:=uY D;have hwd:nQ D<=64:=pA.2 aa0;have kc:D.length*nQ D<=524287*64:=Nat.mul_le_mul z4 hwd;obtain⟨aL,cL,rfl,_,_,lq⟩:=l2.at_ bF.len;have hnL:=bJ l2;have af9:∀q:Addr,aL=some q->q.block<w.heap.size:=λq hq=>lT l2 q.block (by rw[hq];rfl);obtain⟨b1,ld⟩:=exq (jC0 S);obtain⟨b3,gp⟩:=exq (jC0 I);obtain⟨b4,px⟩:=exq (cG D);have CS:=Ac (iV0 S sb w z1 s2);have CI:=λW (hg:aB w W)=>Ac (iV0 I ib W (by omega) (i2.grows hg));have CD:=λW (hg:aB w W)=>Ac (cG0 D pb W (by omega) aa0 (d2.grows hg));rw[<-ld]at CS hel;rw[<-gp]at CI ac5;rw[<-px]at CD ik;have HB1:=Ac ld;have HB3:=Ac gp;have HB4:=Ac px;have HATL:=Ac lq;have ahy:b1.length<=100000000:=by omega
 have ahz:b3.length<=100000000:=by omega
 have ah0:b4.length<=100000000:=by omega
 clear ac aq hc aa0 hel ac5 ik hwd kc lq ld gp px s2 i2 l2 d2 z5;go_enter Tryz.func66,Tryz.ntmps66
 go_wp2_with fail
 refine CS.out.mono ?_;rintro e w2 ⟨v2,rfl,ag,af⟩;obtain⟨a2,c2,rfl,_,_,lr⟩:=ag.at_ bF.len;have ie:=bJ ag;clear ag;go_wp2_with fail
 refine(tQ (.slice none 0 0) [] b1 a2 c2 w2 w2 (aB.refl _) (by simp) (by omega) (aU.nil _ _ _ _ _) lr ie (λq _ h=>by cases h)).mono ?_;rintro e w3 ⟨v3,rfl,au,bg⟩;rw[As]at au;have hp1:(fF b1).length<=100000004:=by unfold fF;rw[Aa,dF];omega
 have du:=af.tr bg;have l1a:=du.cell l1;go_wp2_with fail
 refine(tQ v3 (fF b1) Lb aL cL w2 w3 bg (by omega) (by omega) au (HATL.out.grows du) hnL (dJ0 au (λq hq=>Am (af9 q hq) af.size))).mono ?_;rintro e w4 ⟨v4,rfl,cj,di⟩;obtain⟨P2,np⟩:=exq (fF b1++fF Lb);rw[<-np]at cj;have ct:P2.length<=200000008:=by rw[np,Aa];unfold fF at *;rw[Aa,dF] at *;rw[Aa,dF];omega
 have HP2:=Ac np;clear np au du lr ie;have jv:=af.tr di;have i1a:=jv.cell i1;go_wp2_with fail
 refine(CI w4 jv).out.mono ?_;rintro e w5 ⟨v5,rfl,ak,bk⟩;obtain⟨a5,c5,rfl,_,_,fj⟩:=ak.at_ bF.len;have hn5:=bJ ak;go_wp2_with fail
 refine(tQ v4 P2 b3 a5 c5 w2 w5 (di.tr bk) (by omega) (by omega) (cj.grows bk) fj hn5 (λq hq hv=>by have h1:=lT cj _ hv.symm;have h2:=bE ak q.block (by rw[hq];rfl);omega)).mono ?_;rintro e w6 ⟨v6,rfl,ji,dd⟩;obtain⟨P3,ut⟩:=exq (P2++fF b3);rw[<-ut]at ji;have je:P3.length<=400000012:=by rw[ut,Aa];unfold fF;rw[Aa,dF];omega
 have HP3:=Ac ut;clear ut cj ak jv fj hn5 bk;have uv:=af.tr dd;have d1a:=uv.cell d1;go_wp2_with fail
 refine(CD w6 uv).out.mono ?_;rintro e w7 ⟨v7,rfl,dv,dx⟩;obtain⟨a7,c7,rfl,_,_,aga⟩:=dv.at_ bF.len;have hn7:=bJ dv;go_wp2_with fail
 refine(tQ v6 P3 b4 a7 c7 w2 w7 (dd.tr dx) (by omega) (by omega) (ji.grows dx) aga hn7 (λq hq hv=>by have h1:=lT ji _ hv.symm;have h2:=bE dv q.block (by rw[hq];rfl);omega)).mono ?_;rintro e w8 ⟨v8,rfl,abz,dy⟩;go_wp2_with fail
 go_ret;refine⟨_,rfl,?_,af.tr dy⟩
 have aw:P3++fF b4=rQ L:=by
  rw[HP3.out,HP2.out,HB1.out,HB3.out,HB4.out,HE.out]
 rw[<-aw];exact abz.base af.size
theorem lB0 (L:List (List UInt8)) (tb:Nat) (w:World) (ac:oB w tb L) :
  Calls Tryz.prog 54 #[.pointer (some ⟨tb,0,none⟩)] w λe w'=>e=.returned (.int .i64 L.length)/\w=w':=by
 obtain⟨vN,n1,n2⟩:=ac.n;obtain⟨aN,cN,rfl,_,_,_⟩:=n2.at_ (enc:=gU) (λ_=>rfl);have an:(iP L).length=L.length:=by simp[iP]
 rw[an]at n1;clear ac n2 an;go_enter Tryz.func54,Tryz.ntmps54
 go_wp2_with fail
 go_ret;exact⟨rfl,rfl⟩
theorem nJ {L:List (List UInt8)} (aq:OkL L) {j i:Nat} {x:dV} (hj:j<L.length) (hi:(nodesA L)[i]?=some x) (hh:nR L x=true) (hx:x.i=j):(iP L)[j]?=some i:=by
 unfold iP;rw[Ae,List.getElem?_range hj,At];congr 1
 have ae:=(List.getElem?_eq_some_iff.1 hi).1;rw[List.findIdx_eq ae];obtain⟨h1,h2⟩:=List.getElem?_eq_some_iff.1 hi;refine⟨by rw[h2,hh,hx];simp,λk hk=>?_⟩;apply Classical.byContradiction
 intro ko;have ko:(nR L ((nodesA L)[k]'(by omega))&&((nodesA L)[k]'(by omega)).i==j)=true:=by simpa using ko
 simp only[Bool.and_eq_true,beq_iff_eq]at ko;have g1:=aq.good hi;have g2:=aq.good (Ab (show k<(nodesA L).length by omega))
 have e1:=(aR0 aq.asc g1 aq.pos j).2 ⟨hh,hx.symm⟩;have e2:=(aR0 aq.asc g2 aq.pos j).2 ⟨ko.1,ko.2.symm⟩;rw[e1]at e2
 have:=g1.inj aq.asc g2 (Option.some.inj e2)
 have:=aq.uniq hi (by rw[this];exact Ab (show k<(nodesA L).length by omega))
 omega
theorem xU0 (L:List (List UInt8)) (tb id:Nat) (w:World) (aq:OkL L) (hl:L.length<=20000) (hc:gB L<=524287) (hid:id<L.length) (ac:oB w tb L) :
  Calls Tryz.prog 55 #[.pointer (some ⟨tb,0,none⟩),.int .i64 id] w λe w'=>e=.returned (.tuple #[.string (mkB (nth L id)),.bool true])/\aB w w':=by
 obtain⟨z1,z2,z3,z4,z5⟩:=aq.sizes hl hc;obtain⟨i0,x0,l5,hh0,aa1⟩:=aq.node hid;have hn0:=nJ aq hid l5 hh0 aa1
 have kv:gP L x0=nth L id:=by
  have h1:=(aR0 aq.asc (aq.good l5) aq.pos id).2 ⟨hh0,aa1.symm⟩;rw[jR hid]at h1;exact(Option.some.inj h1).symm
 have ae8:(nth L id).length<=256:=aq.len _ (Ag (jR hid));have CL:=Ac (λ(u:World) (h:aB w u)=>lB0 L tb u (ac.grows h));obtain⟨vN,n1,n2⟩:=ac.n;obtain⟨aN,cN,rfl,_,_,ac6⟩:=n2.at_ (enc:=gU) (λ_=>rfl);have hNl:(iP L).length=L.length:=by simp[iP]
 rw[hNl]at n1;obtain⟨nb,no,rfl,hcN⟩:=at1 (f:=λn:Nat=>Value.int .i64 n) ac6 (aH (k:=id) (by rw[hNl];exact hid));have ac7:=hcN id _ hn0;obtain⟨vL,l1,l2⟩:=ac.l;obtain⟨sb,s1,s2⟩:=ac.s;have ah1:(id:Int)<L.length:=by omega
 have ah2:¬(id:Int)<0:=by omega
 have ah3:¬(L.length:Int)<=id:=by omega
 have HAT:=Ac ac;obtain⟨W1,cq⟩:=exq (w.alloc (.cells Tryz.zeroCells193 193));have g1:aB w W1:=by rw[cq];exact aB.alloc _ _
 have n1a:=g1.cell n1;have yz:=g1.cell ac7;rw[cq]at n1a yz
 have START:Hid (∃cs:Array Value,W1.heap[w.heap.size]?=some (.cells cs 193 (0,0))/\cs.size=256/\∀j b,([]:List UInt8)[j]?=some b->cs[256+j]?=some (.int .u8 (b.toNat:Nat))) :=
  ⟨Tryz.zeroCells193,by rw[cq];show (w.heap.push _)[w.heap.size]?=_;simp,by kernel_rfl,λj b h=>by simp at h⟩
 have NODE:Hid ((nodesA L)[i0]?=some x0/\gP L x0++[]=nth L id):=⟨l5,by rw[List.append_nil];exact kv⟩;have HOK:=Ac aq;have gb:w.heap.size<W1.heap.size:=by rw[cq];simp
 obtain⟨aL,cL,rfl,_,_,lq⟩:=l2.at_ bF.len;have HATL:=Ac lq;have HS2:=Ac s2;have HZ1:=Ac z1;have mm:∀q,aL=some q->q.block<w.heap.size:=λq hq=>lT l2 q.block (by rw[hq];rfl);have HBB:=Ac mm;obtain⟨ln,hln⟩:=exq ((labelsL L (nodesA L)).length);have HLN:=Ac hln;rw[<-hln]at l1;have ah4:ln<=524287:=by omega
 have hNN:Hid ((nodesA L).length<=524287/\ln+1=(nodesA L).length):=by
  have:=iZ aq.asc aq.len
  refine⟨by omega,?_⟩;rw[hln,aq.labels,Ad,Aq]
  have h0:0<(nodesA L).length:=by
   have:=(List.getElem?_eq_some_iff.1 l5).1;omega
  omega
 have hi0:i0<=524287:=by have:=(List.getElem?_eq_some_iff.1 l5).1;have:=hNN.out;omega
 clear ac n2 ac6 hcN hn0 n1 ac7 l5 hh0 aa1 kv z1 z2 z3 z4 z5 aq hc lq s2 mm l2 hln;go_enter Tryz.func55,Tryz.ntmps55
 go_wp2_with (go_at_call 54;refine(CL.out _ (by first|exact aB.refl _|assumption)).mono ?_;rintro e w2 ⟨rfl,rfl⟩;skip)
 rw[<-cq];have hz:decide (L.length<=id)=false:=by simp;omega
 rw[hz];clear cq n1a yz hz;go_loopw [7,8] (λu v wr=>∃(A i:Nat) (x:dV) (tl:List UInt8) (cs:Array Value),u=.int .i64 A/\v=.int .i64 i/\A<=256/\i<=524287/\Hid (A+tl.length=256/\(nodesA L)[i]?=some x/\gP L x++tl=nth L id)/\Hid (wr.heap[w.heap.size]?=some (.cells cs 193 (0,0))/\cs.size=256/\∀j b,tl[j]?=some b->cs[A+j]?=some (.int .u8 (b.toNat:Nat)))/\Hid (aB w wr)) (λ_ v _=>(intOf v).toNat)
 case atStart =>
  obtain⟨cs,k1,k2,k3⟩:=START.out;exact⟨256,i0,x0,[],cs,by go_num,rfl,Al _,hi0,⟨rfl,NODE.out.1,NODE.out.2⟩,⟨k1,k2,k3⟩,g1⟩
 case round =>
  clear START NODE hi0 g1 gb;obtain⟨A,i,x,tl,cs,rfl,rfl,hA,hi,hN,hB,hG⟩:=hrel;by_cases h0:0<i
  ·have h0i:(0:Int)<i:=by omega
   obtain⟨k1,k2,k3⟩:=hN.out;obtain⟨p,y,hy,oh,o1,o2,hm⟩:=HOK.out.parent h0 k2;have j9:=pV0 HOK.out.asc (HOK.out.good hy) hm;obtain⟨b,hb⟩:=exq ((nth L x.i).getD y.d 0);rw[<-hb]at j9;have xw:=(List.getElem?_eq_some_iff.1 k2).1
   have hA0:0<A:=by
    have:=congrArg Av k3
    rw[j9,Aa,Aa]at this;simp at this;omega
   obtain⟨A1,hA1⟩:=exq (A-1);obtain⟨i1,hi1⟩:=exq (i-1);have wA:IntKind.i64.wrap ((A:Int)-1)=A1:=by simp[Ah,Ai,Af];omega
   have wi:IntKind.i64.wrap ((i:Int)-1)=i1:=by simp[Ah,Ai,Af];omega
   have rz:(labelsL L (nodesA L))[i1]?=some b:=by
    rw[HOK.out.labels,Ae,List.getElem?_drop,show 1+i1=i by omega,k2,At,j9]
    simp
   obtain⟨lb,lo,rfl,cu⟩:=at1 (f:=λb:UInt8=>Value.int .u8 b.toNat) (HATL.out.grows hG.out) (List.ne_nil_of_mem (Ag rz));have hlc:=cu i1 b rz;have ah5:(i1:Int)<ln:=by have:=hNN.out;omega
   have ah6:(A1:Int)<256:=by omega
   have l1r:=hG.out.cell l1;have s1r:=hG.out.cell s1;obtain⟨m1,m2,m3⟩:=hB.out;obtain⟨ov,hov⟩:∃v,wr.cell? ⟨w.heap.size,A1,none⟩=some v:=⟨cs[A1]'(by omega),by simp[Aw,m1,show A1<cs.size by omega]⟩
   have hof:wr.frozen? ⟨w.heap.size,A1,none⟩=false:=by simp[World.frozen?,m1]
   obtain⟨W2,i7⟩:=exq (wr.setCell ⟨w.heap.size,A1,none⟩ (.int .u8 (b.toNat:Nat)));have g2:aB w W2:=by rw[i7];exact hG.out.set (Al _) _
   have B2:Hid (W2.heap[w.heap.size]?=some (.cells (cs.setIfInBounds A1 (.int .u8 (b.toNat:Nat))) 193 (0,0))):=by
    rw[i7];exact heap_setCell_same wr _ _ cs _ _ m1
   have hw2:w.heap.size<W2.heap.size:=(Array.getElem?_eq_some_iff.1 B2.out).1
   have B3:Hid (∀j c,(b::tl)[j]?=some c->(cs.setIfInBounds A1 (.int .u8 (b.toNat:Nat)))[A1+j]?=some (.int .u8 (c.toNat:Nat))):=λj c hj=>by
    cases j with
    | zero =>
     obtain rfl:b=c:=by simpa using hj
     rw[Nat.add_zero,Array.getElem?_setIfInBounds_self];simp;omega
    | succ j =>
     rw[Array.getElem?_setIfInBounds_ne (by omega),show A1+(j+1)=A+j by omega]
     exact m3 j c (by simpa using hj)
   have N2:Hid (A1+(b::tl).length=256/\(nodesA L)[p]?=some y/\gP L y++(b::tl)=nth L id):=⟨by rw[Ar];omega,hy,by rw[<-k3,j9];simp⟩;have CSZ:Hid ((cs.setIfInBounds A1 (.int .u8 (b.toNat:Nat))).size=256):=by show _=_;simpa using m2
   obtain⟨q1,q2,q3⟩:=sX0 hy o1 o2;obtain⟨pos,b9⟩:=exq (i+p+1);rw[<-b9]at q1 q2 q3
   have y6:pos<(shapeL L (nodesA L)).length:=by
    have h1:=fM L (nodesA L).length (Al _);rw[Ap,HOK.out.off_all]at h1;omega
   have CSEL:=Ac (λ(u:World) (hg:aB w u)=>mM0 (shapeL L (nodesA L)) sb true pos i u HZ1.out y6 q1 q2 (HS2.out.grows hg))
   have CRNK:Hid (∀(u:World),aB w u->Calls Tryz.prog 123 #[.pointer (some ⟨sb,0,none⟩),.bool false,.int .i64 pos] u λe w'=>e=.returned (.int .i64 ((p+1:Nat):Int))/\u=w'):=λu hg=>by
    have h:=bY0 (shapeL L (nodesA L)) sb false pos u HZ1.out (by have:=HZ1.out;omega) (HS2.out.grows hg);rw[show min pos (shapeL L (nodesA L)).length=pos by omega,q3]at h
    exact h
   have wp1:IntKind.i64.wrap (((p+1:Nat):Int)-1)=p:=by simp[Ah,Ai,Af];omega
   obtain⟨p1,hp1⟩:=exq (p+1);rw[<-hp1]at CRNK wp1;have z1:∀x:Ext aB W2.drew,x.u.cell? ⟨tb,0,none⟩=some (.pointer (some ⟨sb,0,none⟩)):=aG ((aB.drew W2).cell (g2.cell s1));have HPI:=Ac oh;clear hN hB k1 k2 k3 hy o1 o2 hm j9 hb xw hA1 hi1 rz cu m1 m2 m3 q1 q2 q3 b9 y6 hp1 oh;go_wp2_with fail
   rw[<-i7];clear i7 hov hof hlc l1r s1r;refine bP (bB 13 [9,10]) (by kernel_rfl) (λd _ _ _ _ h=>by cases d<;>exact h) ?_
   iterate 9 (refine aO rfl (λK hK=>?_);go_simp;refine hK _ ?_;clear hK K)
   clear z1;refine cH rfl rfl (λK hK=>?_);go_simp;refine(CSEL.out _ (g2.tr (aB.drew W2))).mono ?_;rintro e w3 ⟨rfl,bg⟩;refine⟨bg,hK _ _ ?_⟩;clear hK K;have g3:aB w w3:=(g2.tr (aB.drew W2)).tr bg;refine cH rfl rfl (λK hK=>?_);go_simp;refine(CRNK.out _ g3).mono ?_;rintro e w4 ⟨rfl,rfl⟩;refine⟨aB.refl _,hK _ _ ?_⟩;clear hK K;iterate 2 (refine aO rfl (λK hK=>?_);go_simp;refine hK _ ?_;clear hK K)
   refine bU ?_;have B4:w3.heap[w.heap.size]?=some (.cells (cs.setIfInBounds A1 (.int .u8 (b.toNat:Nat))) 193 (0,0)):=(Below.block ((aB.drew W2).tr bg) _ hw2).trans B2.out;replace B4:=Ac B4;clear bg B2 CSEL CRNK;go_wp2_with fail
   go_roundw
   case rel=>exact⟨A1,p,y,b::tl,_,by go_num,by go_num,by have:=N2.out.1;omega,by have:=HPI.out;omega,N2.out,⟨B4.out,CSZ.out,B3.out⟩,g3⟩
   case measure=>have:=HPI.out;simp[intOf];omega
  ·have h0i:¬(0:Int)<i:=by omega
   obtain rfl:i=0:=by omega
   obtain⟨k1,k2,k3⟩:=hN.out
   have hx:x=rootS L:=by
    have h1:=HOK.out.fix;have h2:(rootS L::(nodesA L).flatMap (fA L))[0]?=some x:=by rw[<-h1];exact k2
    simpa using h2.symm
   have qi:tl=nth L id:=by
    rw[<-k3,hx];simp[gP,rootS]
   have ag9:(convert 28 9 (.slice (some ⟨w.heap.size,A,none⟩) (256-A) (256-A))).run Tryz.prog wr=.ok (.string (mkB (nth L id))) wr:=by
    obtain⟨m1,m2,m3⟩:=hB.out;have hz:(mkB tl).size=tl.length:=by rw[Lib.size_eq,bQ]
    have hBy:Lib.Bytes wr w.heap.size A (mkB tl):=λj hj=>by
     rw[hz]at hj;have h3:=m3 j _ (Ab hj);unfold Aw;simp only[m1,Option.isSome_none,Bool.false_eq_true,if_false];exact h3
    have:=Lib.run_convert_whole (P:=Tryz.prog) wr 28 5 9 Tryz.underlying28 Tryz.underlying5 Tryz.underlying9 w.heap.size A (mkB tl) hBy (256-A)
    rw[hz,show tl.length=256-A by omega]at this
    rw[this,qi]
   have b9:0<tl.length:=by
    rw[qi];exact List.length_pos_iff.2 (HOK.out.pos _ (Ag (jR hid)))
   have hAi:(A:Int)<=256:=by omega
   have hAn:¬256=A:=by omega
   have G:=Ac hG.out;clear hN hB k1 k2 k3 hx qi b9 hG;go_wp2_with fail
   first
    | exact bodyPost_ret (v:=.tuple #[.string (mkB (nth L id)),.bool true]) (by simp[results,Tryz.results55,go_sem]) rfl ⟨rfl,G.out⟩
    | exact bodyPost_end (v:=.tuple #[.string (mkB (nth L id)),.bool true]) (by simp[results,Tryz.results55,go_sem]) rfl ⟨rfl,G.out⟩
end
section
open Go
theorem zK (L:List (List UInt8)):∀A:List dV,(labelsL L A).length=(A.flatMap (fA L)).length
 | []=>rfl
 | x::A=>by
  have:=zK L A
  unfold labelsL at *;rw[An,An,Aa,Aa,Ad,this]
theorem hJ0 (L:List (List UInt8)) (i:Nat):qQ L i=(labelsL L ((nodesA L).take i)).length+1:=by
 rw[zK];unfold qQ dX;rw[Ar]
theorem OkL.many {L:List (List UInt8)} (h:OkL L) (hl:L.length<=20000):(nodesA L).length<=5120001:=by
 have h1:=congrArg Av (nH0 h.asc);rw[Ad]at h1;have h2:=vP L 256;have h3:(yP0 L).length=(rC L 256).length:=rfl;omega
theorem sU (L:List (List UInt8)) (A:List dV) (x:dV):labelsL L (A++[x])=labelsL L A++(fA L x).map (mU L x):=by
 unfold labelsL;rw[List.flatMap_append];simp
def qR (L:List (List UInt8)) (i:Nat):List Nat:=(iP L).map λk=>if k<i then k else 0
theorem kD (L:List (List UInt8)):(iP L).length=L.length:=by simp[iP]
theorem sE0 {L:List (List UInt8)}:qR L 0=List.replicate L.length 0:=by
 unfold qR;apply Ao
 intro j;rw[Ae,List.getElem?_replicate];by_cases h:j<L.length
 ·rw[Ab (by rw[kD];exact h),if_pos h]
  simp
 ·rw[Ak (by rw[kD];omega),if_neg h];rfl
theorem OkL.ndTo_all {L:List (List UInt8)} (h:OkL L) {m:Nat} (hm:(nodesA L).length<=m):qR L m=iP L:=by
 unfold qR;have hl:=kD L;conv=>rhs;rw[<-List.map_id (iP L)]
 apply List.map_congr_left
 intro k hk;obtain⟨j,hj⟩:=List.mem_iff_getElem?.1 hk;have hjl:j<L.length:=by rw[<-hl];exact(List.getElem?_eq_some_iff.1 hj).1
 obtain⟨i,x,hi,hh,hx⟩:=h.node hjl
 have:=nJ h hjl hi hh hx
 rw[hj]at this;have ae:=(List.getElem?_eq_some_iff.1 hi).1;rw[if_pos (by have:=Option.some.inj this;omega)];rfl
theorem OkL.ndTo_succ {L:List (List UInt8)} (h:OkL L) {i:Nat} {x:dV} (hx:(nodesA L)[i]?=some x):qR L (i+1)=if nR L x=true then (qR L i).set x.i i else qR L i:=by
 have hl:=kD L
 have key:∀j,j<L.length->((iP L)[j]?=some i↔nR L x=true/\x.i=j):=λj hj=>by
  obtain⟨i',x',hi',hh',wy⟩:=h.node hj;have h1:=nJ h hj hi' hh' wy;rw[h1];constructor
  ·intro e
   have e2:i'=i:=Option.some.inj e;subst e2;rw[hx]at hi';cases hi'
   exact⟨hh',wy⟩
  ·rintro⟨a,b⟩
   have h2:=nJ h hj hx a b;rw[h1]at h2;exact h2
 apply Ao
 intro j;by_cases hj:j<L.length
 ·obtain⟨k,hk⟩:∃k,(iP L)[j]?=some k:=⟨_,Ab (by rw[hl];exact hj)⟩
  have e1:(qR L (i+1))[j]?=some (if k<i+1 then k else 0):=by unfold qR;rw[Ae,hk];rfl
  have e2:(qR L i)[j]?=some (if k<i then k else 0):=by unfold qR;rw[Ae,hk];rfl
  rw[e1];have kq:=key j hj;rw[hk]at kq;by_cases hh:nR L x=true
  ·rw[if_pos hh]
   by_cases hxj:x.i=j
   ·have:k=i:=Option.some.inj (kq.2 ⟨hh,hxj⟩)
    rw[hxj,List.getElem?_set_self (by unfold qR;rw[Ad,hl];exact hj),if_pos (by omega),this]
   ·have:k≠i:=λe=>hxj (kq.1 (by rw[e])).2
    rw[List.getElem?_set_ne hxj,e2];congr 1
    by_cases h3:k<i
    ·rw[if_pos h3,if_pos (by omega)]
    ·rw[if_neg h3,if_neg (by omega)]
  ·rw[if_neg hh,e2]
   have:k≠i:=λe=>hh (kq.1 (by rw[e])).1
   congr 1
   by_cases h3:k<i
   ·rw[if_pos h3,if_pos (by omega)]
   ·rw[if_neg h3,if_neg (by omega)]
 ·have hn:∀m,(qR L m)[j]?=none:=λm=>Ak (by unfold qR;rw[Ad,hl];omega)
  rw[hn];split
  ·rw[Ak (by rw[List.length_set];unfold qR;rw[Ad,hl];omega)]
  ·rw[hn]
theorem uW0 (L:List (List UInt8)) (i:Nat):(qR L i).length=L.length:=by unfold qR; rw[Ad,kD]
end
end Go.Proofs.YthgklnohcmaopaaGreatDoor
