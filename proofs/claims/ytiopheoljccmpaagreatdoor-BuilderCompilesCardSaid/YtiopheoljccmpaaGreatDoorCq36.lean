/- The texts BvE LoC TrE Txt LbP, one behind the other. -/
import Derived.Test.YtiopheoljccmpaaGreatDoorCq32
import Derived.Test.YtiopheoljccmpaaGreatDoorCq35
import Derived.Test.YtiopheoljccmpaaGreatDoorCq27
import Derived.Test.YtiopheoljccmpaaGreatDoorCq24
import Derived.Test.YtiopheoljccmpaaGreatDoorCq28
import Derived.Test.YtiopheoljccmpaaGreatDoorCq33
import Derived.Test.YtiopheoljccmpaaGreatDoorCq6
open List renaming length_append → Aa,getElem?_eq_getElem → Ab,length_map → Ad,getElem?_map → Ae,mem_of_getElem? → Ag,getElem?_eq_none → Ak,flatMap_cons → An,ext_getElem? → Ao,take_length → Ap,length_drop → Aq,length_cons → Ar,nil_append → As,length → Av,range → Ax
open Go.Lib renaming hid → Ac
open Go.IntKind renaming signed → Af,wrap → Ah,bits → Ai
open Go.Op renaming bytesLess → Aj
open Nat renaming le_refl → Al,lt_of_lt_of_le → Am,zero_le → Au
open Option renaming map_some → At
open Go.World renaming cell? → Aw
set_option maxHeartbeats 4000000
namespace Go.Proofs.YtiopheoljccmpaaGreatDoor
set_option maxRecDepth 100000
section
open Go Go.RowKit
attribute [local go_sem] aM aP
theorem uX0 {l:List Bool} {k x:Nat} (h:(uH l)[k]?=some x):x<=l.length+512:=by
 unfold uH at h;rw[Ae]at h
 cases hg:(Ax ((l.length+511)/512))[k]? with
 | none=>rw[hg]at h;cases h
 | some g =>
  rw[hg]at h;have h1:fE l (512*g)=x:=Option.some.inj h;obtain⟨h2,h3⟩:=List.getElem?_eq_some_iff.1 hg;rw[List.length_range]at h2;rw[List.getElem_range]at h3
  have:=nC l (512*g)
  omega
theorem oA0 (l:List Bool) (vb:Nat) (w:World) (hl:l.length<=1048576) (ah:mZ w vb l) :
  Calls Tryz.prog 105 #[.pointer (some ⟨vb,0,none⟩)] w λe w'=>∃v,e=.returned v/\aO w' w.heap.size 5 1 aQ v (fE0 l)/\aB w w':=by
 have c0:=ah.c0;obtain⟨vW,c1,aai⟩:=ah.c1;obtain⟨aW,cW,rfl,_,_,m9⟩:=aai.at_ (enc:=jR) (λ_=>rfl);obtain⟨vC,c2,rr⟩:=ah.c2;obtain⟨aC,cC,rfl,_,_,ux⟩:=rr.at_ (enc:=jP) (λ_=>rfl);have afy:∀q:Addr,aW=some q->q.block<w.heap.size:=λq hq=>gP aai q.block (by rw[hq];rfl);have afz:vb<w.heap.size:=World.block_lt_of_cell? w _ c0;have hq:=pQ l;have hCl:(uH l).length=(l.length+511)/512:=by simp[uH]
 obtain⟨Cs,hCs⟩:=exq (uH l);rw[<-hCs]at c2 ux hCl
 have qi:∀k x,Cs[k]?=some x->x<=1049088:=λk x hx=>by
  rw[hCs]at hx
  have:=uX0 hx
  omega
 obtain⟨Ws,hWs⟩:=exq (xR l);rw[<-hWs]at m9 hq c1;have hqb:Ws.length<=16384:=by omega
 have fy:∀n∈Ws,n<18446744073709551616:=λn hn=>by
  rw[hWs]at hn;unfold xR at hn;obtain⟨k,_,rfl⟩:=List.mem_map.1 hn;exact uR l k
 have HE:Hid (fE0 l=leB 4 l.length++kR 8 Ws++kR 4 Cs):=by show _=_;rw[hWs,hCs];rfl
 have HW64:=Ac fy;have HCB:=Ac qi;have HATC:=Ac ux;have HATW:=Ac m9;have aee:Cs.length<=2049:=by omega
 have wn:IntKind.u64.wrap (l.length:Int)=l.length:=by simp[Ah,Ai,Af];omega
 have z0:∀y:Ext (EB w.heap.size) w.drew,y.u.cell? ⟨vb,0,none⟩=some (.int .i64 l.length):=mR afz ((aB.drew w).cell c0);have z1:∀y:Ext (EB w.heap.size) w.drew,y.u.cell? ⟨vb,1,none⟩=some (.slice aW Ws.length cW):=mR afz ((aB.drew w).cell c1);obtain⟨n,aw⟩:=exq l.length;rw[<-aw]at HE wn z0 hl;have ae7:=Ac afy;clear ah c0 aai rr ux m9 hq afy hCs hCl qi hWs fy aw c1;go_enter Tryz.func105,Tryz.ntmps105
 go_wp2_with fail
 refine nF (EB w.heap.size) (oC [0,1,2,3,4,7,8,9,10,5,6,11,12] [5,6,11,12]) (EB.refl w.heap.size) (EB.trans w.heap.size) (by kernel_rfl) (by kernel_rfl) (λd _ _ _ _ h=>by cases d<;>exact h) ?_
 iterate 9 (refine aJ rfl (λK hK=>?_);go_simp;refine hK _ ?_;clear hK K)
 clear z0 z1;refine bM rfl rfl (λK hK=>?_);go_simp;refine⟨EB.of (aB.alloc _ _) (Al _),hK _ _ ?_⟩;clear hK K;have aa5:=qR (enc:=jR) (w:=w) (t:=142) (fz:=(0,0)) (cs:=#[.int .u64 n]) (λ_=>rfl) [n] rfl;obtain⟨W1,dv⟩:=exq ((w.alloc (.cells #[.int .u64 n] 142)).drew);have aq:aB w W1:=by rw[dv];exact(aB.alloc _ _).dr
 have gk:w.heap.size<W1.heap.size:=by rw[dv];simp
 have acf:aF W1 (some ⟨w.heap.size,0,none⟩) 1 ([n].map jR):=by rw[dv];exact aa5.grows (aB.drew _)
 rw[<-dv];clear dv aa5;refine bM rfl rfl (λK hK=>?_);go_simp;refine(eE0 (.slice none 0 0) [] 4 [n] (some ⟨w.heap.size,0,none⟩) 1 W1 W1 (aB.refl _) (by decide) (by simp) (by simp) (λm hm=>by obtain rfl:=List.mem_singleton.1 hm;omega) (aO.nil _ _ _ _ _) acf (λq _ h=>by cases h) (λq hq=>by cases hq;exact gk)).mono ?_;rintro e w2 ⟨v2,rfl,aj,an,afk⟩;rw[As]at aj;refine⟨EB.of an (Nat.le_of_lt gk),hK _ _ ?_⟩;clear hK K;have hp4:(kR 4 [n]).length=4:=by rw[tE];rfl
 have af0:∀q:Addr,aW=some q->q.block<W1.heap.size:=λq hq=>Nat.lt_trans (ae7.out q hq) gk;refine bM rfl rfl (λK hK=>?_);go_simp;refine(eE0 v2 (kR 4 [n]) 8 Ws aW cW W1 _ an (by decide) (by omega) (by omega) HW64.out aj (HATW.out.grows (aq.tr an)) (zJ aj af0) (λr hr=>Am (af0 r hr) an.size)).mono ?_;rintro e w3 ⟨v3,rfl,bd,bu,aa6⟩;refine⟨EB.both (aq.tr an) (aq.tr bu) aa6,hK _ _ ?_⟩;clear hK K;refine bM rfl rfl (λK hK=>?_);go_simp;refine⟨EB.refl _ _,hK _ _ ?_⟩;clear hK K;refine bN ?_;have jq:=aq.tr bu;obtain⟨P3,vy⟩:=exq (kR 4 [n]++kR 8 Ws);rw[<-vy]at bd;have il:P3.length<=4+8*16384:=by rw[vy,Aa,hp4,tE];omega
 have HE3:Hid (fE0 l=P3++kR 4 Cs):=by show _=_;rw[HE.out,vy];unfold kR;simp
 replace bd:=bd.base (base':=w.heap.size) aq.size;have c2r:=jq.cell c2;clear vy aj an bu aq acf hp4 HE c2;go_wp2_with fail
 go_loopw [3,25] (λout i wr=>∃(k:Nat) (acc:List UInt8),k<=Cs.length/\i=.int .i64 k/\Hid (acc=P3++kR 4 (Cs.take k))/\aO wr w.heap.size 5 1 aQ out acc/\aB w wr) (λ_ i _=>Cs.length-(intOf i).toNat)
 case atStart=>exact⟨0,P3,Au _,rfl,(by show _=_;simp[kR]),bd,jq⟩
 case round =>
  obtain⟨k,acc,hk,rfl,bk,ae,hg⟩:=hrel
  have li:acc.length<=4+8*16384+4*k:=by
   rw[bk.out,Aa,tE,List.length_take];omega
  by_cases af:k<Cs.length
  ·obtain⟨x,hx⟩:∃x,Cs[k]?=some x:=⟨_,Ab af⟩
   obtain⟨b,o,rfl,hc⟩:=at1 HATC.out (aH af);have jy:=hg.cell (hc k x hx);have hxb:=HCB.out k x hx;have wx:IntKind.u64.wrap (x:Int)=x:=by simp[Ah,Ai,Af];omega
   have HN:Hid (acc++kR 4 [x]=P3++kR 4 (Cs.take (k+1))):=by
    show _=_
    rw[aY hx,cU0,bk.out,List.append_assoc];simp[kR]
   have di:(k:Int)<Cs.length:=by omega
   have aa5:=qR (enc:=jR) (w:=wr) (t:=142) (fz:=(0,0)) (cs:=#[.int .u64 x]) (λ_=>rfl) [x] rfl;have CP:=eE0 _ acc 4 [x] (some ⟨wr.heap.size,0,none⟩) 1 w (wr.alloc (.cells #[.int .u64 x] 142)) (hg.al _) (by decide) (by omega) (by simp) (λm hm=>by obtain rfl:=List.mem_singleton.1 hm;omega) (ae.grows (aB.alloc _ _)) aa5 (vU0 ae (λr hr=>by cases hr;exact Al _)) (λr hr=>by cases hr;simp);clear hc hx bk aa5;go_wp2_with fail
   refine CP.mono ?_;rintro e w5 ⟨v5,rfl,ai,bg,_⟩;go_wp2_with fail
   go_roundw
   case rel=>exact⟨k+1,_,af,by go_num,HN.out,ai,bg⟩
   case measure=>simp[intOf];omega
  ·have di:¬(k:Int)<Cs.length:=by omega
   have HF:Hid (acc=fE0 l):=by
    show _=_
    rw[bk.out,List.take_of_length_le (by omega),HE3.out]
   clear bk;go_wp2_with fail
   go_ret;exact⟨_,rfl,by rw[<-HF.out];exact ae,hg⟩
def kV0 (L:List (List UInt8)):Nat:=if 20000<L.length then 2 else if lU L=true then 1 else 0
theorem oR0 (B:List ByteArray) (a:Option Addr) (c:Nat) (w:World) (hB:B.length<=1099511627776) (dm:∀s∈B,s.size<=1099511627776) (ah:aF w a 1 (B.map stC)) :
  Calls Tryz.prog 90 #[.slice a B.length c] w λe w'=>e=.returned (.int .i64 (kV0 (bls B)))/\w=w':=by
 have HAT:=Ac ah;have HSZ:=Ac dm;clear ah dm;by_cases da:20000<B.length
 ·have zi:(20000:Int)<B.length:=by omega
  have HF:Hid (kV0 (bls B)=2):=by show _=_;unfold kV0;rw[cX,if_pos da]
  go_enter Tryz.func90,Tryz.ntmps90
  go_wp2_with fail
  go_ret;exact⟨by rw[HF.out];rfl,rfl⟩
 have zi:¬(20000:Int)<B.length:=by omega
 have HF:Hid (kV0 (bls B)=if lU (bls B)=true then 1 else 0):=by show _=_;unfold kV0;rw[cX,if_neg da]
 have HIT:Hid (∀k,k<B.length->qM (bls B) k=true->kV0 (bls B)=1):=λk hk hb=>by rw[HF.out,if_pos (dT0 (by rw[cX];exact hk) hb)]
 go_enter Tryz.func90,Tryz.ntmps90
 go_wp2_with fail
 go_loop [10] (λi=>∃k:Nat,k<=B.length/\i=.int .i64 k/\Hid (∀j,j<k->qM (bls B) j=false)) (λi=>B.length-(intOf i).toNat)
 case atStart=>exact⟨0,Au _,rfl,λj hj=>by omega⟩
 case round =>
  obtain⟨k,hk,rfl,ak⟩:=hrel;by_cases af:k<B.length
  ·obtain⟨s,hx⟩:∃x,B[k]?=some x:=⟨_,Ab af⟩
   obtain⟨b,o,rfl,hc⟩:=at1 HAT.out (aH af);have lh:=hc k s hx;have hn:=dK hx;have aid:=HSZ.out s (Ag hx);have di:(k:Int)<B.length:=by omega
   have HBD:Hid (qM (bls B) k=(decide (s.size<1)||decide (256<s.size)||(decide (0<k) && !Aj (nth (bls B) (k-1)) (bl s)))):=by show _=_;unfold qM;rw[hn,cJ]
   have ac6:s.toList=[]↔s.size<1:=by
    rw[<-aQ0,<-cJ];constructor
    ·intro h;rw[h];decide
    ·intro h;exact List.eq_nil_of_length_eq_zero (by omega)
   by_cases h1:s.size<1
   ·have HB:=Ac (HIT.out k af (by rw[HBD.out];simp[h1]))
    have he1:s.toList.isEmpty=true:=by rw[ac6.2 h1];rfl
    clear hc hx hn h1 ac6;go_wp2_with fail
    go_ret;exact⟨by rw[HB.out];rfl,rfl⟩
   ·have ajs:s.toList.isEmpty=false:=by
     cases hh:s.toList.isEmpty
     ·rfl
     ·exact absurd (ac6.1 (List.isEmpty_iff.1 hh)) h1
    clear ac6;by_cases h2:256<s.size
    ·have h2i:(256:Int)<s.size:=by omega
     have HB:=Ac (HIT.out k af (by rw[HBD.out];simp[h2]));clear hc hx hn;go_wp2_with fail
     go_ret;exact⟨by rw[HB.out];rfl,rfl⟩
    ·have h2i:¬(256:Int)<s.size:=by omega
     by_cases h0:k=0
     ·have tj:¬0<k:=by omega
      have HN:Hid (∀j,j<k+1->qM (bls B) j=false):=λj hj=>by
       have ie:decide (s.size<1)=false:=decide_eq_false h1;have ig:decide (256<s.size)=false:=decide_eq_false h2;have tv:decide (0<k)=false:=decide_eq_false tj;rw[show j=k by omega,HBD.out,ie,ig,tv];rfl
      clear hc hx hn h0;go_wp2_with fail
      go_round
      case rel=>exact⟨k+1,af,by go_num,HN.out⟩
      case measure=>simp[intOf];omega
     ·have tj:0<k:=by omega
      obtain⟨t,ik⟩:∃x,B[k-1]?=some x:=⟨_,Ab (by omega)⟩;have aay:=hc (k-1) t ik;have y9:(k:Int)-1=((k-1:Nat):Int):=by omega
      have j7:((k-1:Nat):Int)<B.length:=by omega
      have o6:IntKind.i64.wrap ((k-1:Nat):Int)=((k-1:Nat):Int):=by simp[Ah,Ai,Af];omega
      have hq:=HBD.out;rw[dK ik,aQ0,aQ0]at hq;have ie:decide (s.size<1)=false:=decide_eq_false h1;have ig:decide (256<s.size)=false:=decide_eq_false h2;have tv:decide (0<k)=true:=decide_eq_true tj;rw[ie,ig,tv]at hq;simp only[Bool.false_or,Bool.true_and]at hq;have HQ:=Ac hq;clear hc hx hn h0 ik HBD hq ie ig tv;by_cases hl:Aj t.toList s.toList=true
      ·have l1:Aj s.toList t.toList=false:=by
        have:=kH hl;simpa using this
       have l2:(s.toList==t.toList)=false:=by
        rw[beq_eq_false_iff_ne];intro h;rw[h,bytesLess_irrefl]at hl;cases hl
       have HN:Hid (∀j,j<k+1->qM (bls B) j=false):=λj hj=>by
        rcases Nat.lt_or_ge j k with h|h
        ·exact ak.out j h
        ·rw[show j=k by omega,HQ.out,hl];rfl
       clear hl ak;go_wp2_with fail
       go_round
       case rel=>exact⟨k+1,af,by go_num,HN.out⟩
       case measure=>simp[intOf];omega
      ·have ja:Aj t.toList s.toList=false:=by simpa using hl
       have HB:=Ac (HIT.out k af (by rw[HQ.out,ja];rfl));by_cases he:s.toList=t.toList
       ·have l1:Aj s.toList t.toList=false:=by rw[he,bytesLess_irrefl]
        have l2:(s.toList==t.toList)=true:=by rw[he];simp
        clear hl ja he ak;go_wp2_with fail
        go_ret;exact⟨by rw[HB.out];rfl,rfl⟩
       ·have l1:Aj s.toList t.toList=true:=dB ja (λh=>he h.symm)
        clear hl ja he ak;go_wp2_with fail
        go_ret;exact⟨by rw[HB.out];rfl,rfl⟩
  ·have di:¬(k:Int)<B.length:=by omega
   have HB:Hid (kV0 (bls B)=0):=by
    show _=_
    rw[HF.out,yX (λi hi=>ak.out i (by rw[cX]at hi;omega))];rfl
   clear ak;go_wp2_with fail
   go_ret;exact⟨by rw[HB.out];rfl,rfl⟩
def kQ (L:List (List UInt8)):List Nat:=(Ax L.length).map λj=>(nodesA L).findIdx λx=>lQ L x&&x.i==j
structure qT (w:World) (tb:Nat) (L:List (List UInt8)):Prop where
 s:∃sb,w.cell? ⟨tb,0,none⟩=some (.pointer (some ⟨sb,0,none⟩))/\mZ w sb (shapeL L (nodesA L))
 i:∃ib,w.cell? ⟨tb,1,none⟩=some (.pointer (some ⟨ib,0,none⟩))/\mZ w ib (isL L (nodesA L))
 l:∃vL,w.cell? ⟨tb,2,none⟩=some vL/\aO w (tb-2) 5 1 aQ vL (labelsL L (nodesA L))
 d:∃pb,w.cell? ⟨tb,3,none⟩=some (.pointer (some ⟨pb,0,none⟩))/\kR0 w pb (idsL L (nodesA L))
 n:∃vN,w.cell? ⟨tb,4,none⟩=some vN/\aO w 0 3 1 jP vN (kQ L)
theorem qT.grows {w w':World} {tb:Nat} {L:List (List UInt8)} (h:qT w tb L) (hg:aB w w'):qT w' tb L:=by
 obtain⟨sb,s1,s2⟩:=h.s;obtain⟨ib,i1,i2⟩:=h.i;obtain⟨vL,l1,l2⟩:=h.l;obtain⟨pb,d1,d2⟩:=h.d;obtain⟨vN,n1,n2⟩:=h.n;exact⟨⟨sb,hg.cell s1,s2.grows hg⟩,⟨ib,hg.cell i1,i2.grows hg⟩,⟨vL,hg.cell l1,l2.grows hg⟩,⟨pb,hg.cell d1,d2.grows hg⟩,⟨vN,hg.cell n1,n2.grows hg⟩⟩
theorem OkL.sizes {L:List (List UInt8)} (be:OkL L) (hl:L.length<=20000) (hc:dF L<=524287) :
  (shapeL L (nodesA L)).length<=1048576/\(isL L (nodesA L)).length<=524287/\(labelsL L (nodesA L)).length<=524287/\(idsL L (nodesA L)).length<=524287/\∀n∈idsL L (nodesA L),n<=20000:=by
 have hN:=iP be.asc be.len;refine⟨?_,?_,?_,?_,?_⟩
 ·have h:=fW L (nodesA L).length (Al _)
  rw[Ap,be.off_all]at h;omega
 ·unfold isL;rw[Ad];omega
 ·rw[be.labels,Ad,Aq];omega
 ·unfold idsL
  rw[Ad]
  have:=List.length_filter_le (lQ L) (nodesA L)
  omega
 ·intro n hn
  unfold idsL at hn;obtain⟨x,hx,rfl⟩:=List.mem_map.1 hn;have hg:=tT be.asc (List.mem_filter.1 hx).1
  have:=hg.le
  omega
theorem oF0 (L:List (List UInt8)) (tb:Nat) (w:World) (be:OkL L) (hl:L.length<=20000) (hc:dF L<=524287) (ah:qT w tb L) :
  Calls Tryz.prog 50 #[.pointer (some ⟨tb,0,none⟩)] w λe w'=>∃v,e=.returned v/\aO w' w.heap.size 5 1 aQ v (pA L)/\aB w w':=by
 obtain⟨z1,z2,z3,z4,z5⟩:=be.sizes hl hc;obtain⟨sb,s1,s2⟩:=ah.s;obtain⟨ib,i1,i2⟩:=ah.i;obtain⟨vL,l1,l2⟩:=ah.l;obtain⟨pb,d1,d2⟩:=ah.d;have HE:Hid (pA L=dM (fE0 (shapeL L (nodesA L)))++dM (labelsL L (nodesA L))++dM (fE0 (isL L (nodesA L)))++dM (cG (idsL L (nodesA L)))):=rfl;generalize shapeL L (nodesA L)=S at *;generalize isL L (nodesA L)=I at *;generalize labelsL L (nodesA L)=Lb at *;generalize idsL L (nodesA L)=D at *;have us:∀n∈D,n<18446744073709551616:=λn hn=>by have:=z5 n hn;omega
 have hel:=yE S;have aa1:=yE I;have jd:=sZ D;have zn:gU D<=64:=lP.2 us;have ma:D.length*gU D<=524287*64:=Nat.mul_le_mul z4 zn;obtain⟨aL,cL,rfl,_,_,mc⟩:=l2.at_ aR.len;have hnL:=bC l2;have ad6:∀q:Addr,aL=some q->q.block<w.heap.size:=λq hq=>gP l2 q.block (by rw[hq];rfl);obtain⟨b1,gh⟩:=exq (fE0 S);obtain⟨b3,kn⟩:=exq (fE0 I);obtain⟨b4,vx⟩:=exq (cG D);have CS:=Ac (oA0 S sb w z1 s2);have CI:=λW (hg:aB w W)=>Ac (oA0 I ib W (by omega) (i2.grows hg));have CD:=λW (hg:aB w W)=>Ac (fH0 D pb W (by omega) us (d2.grows hg));rw[<-gh]at CS hel;rw[<-kn]at CI aa1;rw[<-vx]at CD jd;have HB1:=Ac gh;have HB3:=Ac kn;have HB4:=Ac vx;have HATL:=Ac mc;have aij:b1.length<=100000000:=by omega
 have aik:b3.length<=100000000:=by omega
 have ail:b4.length<=100000000:=by omega
 clear ah be hc us hel aa1 jd zn ma mc gh kn vx s2 i2 l2 d2 z5;go_enter Tryz.func50,Tryz.ntmps50
 go_wp2_with fail
 refine CS.out.mono ?_;rintro e w2 ⟨v2,rfl,aj,an⟩;obtain⟨a2,c2,rfl,_,_,gz⟩:=aj.at_ aR.len;have ii:=bC aj;clear aj;go_wp2_with fail
 refine(yC (.slice none 0 0) [] b1 a2 c2 w2 w2 (aB.refl _) (by simp) (by omega) (aO.nil _ _ _ _ _) gz ii (λq _ h=>by cases h)).mono ?_;rintro e w3 ⟨v3,rfl,bd,bu⟩;rw[As]at bd;have hp1:(dM b1).length<=100000004:=by unfold dM;rw[Aa,cE];omega
 have ep:=an.tr bu;have l1a:=ep.cell l1;go_wp2_with fail
 refine(yC v3 (dM b1) Lb aL cL w2 w3 bu (by omega) (by omega) bd (HATL.out.grows ep) hnL (zJ bd (λq hq=>Am (ad6 q hq) an.size))).mono ?_;rintro e w4 ⟨v4,rfl,bv,cd⟩;obtain⟨P2,hP2⟩:=exq (dM b1++dM Lb);rw[<-hP2]at bv;have cz:P2.length<=200000008:=by rw[hP2,Aa];unfold dM at *;rw[Aa,cE] at *;rw[Aa,cE];omega
 have HP2:=Ac hP2;clear hP2 bd ep gz ii;have j5:=an.tr cd;have i1a:=j5.cell i1;go_wp2_with fail
 refine(CI w4 j5).out.mono ?_;rintro e w5 ⟨v5,rfl,ai,bg⟩;obtain⟨a5,c5,rfl,_,_,gw⟩:=ai.at_ aR.len;have x9:=bC ai;go_wp2_with fail
 refine(yC v4 P2 b3 a5 c5 w2 w5 (cd.tr bg) (by omega) (by omega) (bv.grows bg) gw x9 (λq hq hv=>by have h1:=gP bv _ hv.symm;have h2:=bF ai q.block (by rw[hq];rfl);omega)).mono ?_;rintro e w6 ⟨v6,rfl,cp,de⟩;obtain⟨P3,vy⟩:=exq (P2++dM b3);rw[<-vy]at cp;have il:P3.length<=400000012:=by rw[vy,Aa];unfold dM;rw[Aa,cE];omega
 have HP3:=Ac vy;clear vy bv ai j5 gw x9 bg;have hgC:=an.tr de;have d1a:=hgC.cell d1;go_wp2_with fail
 refine(CD w6 hgC).out.mono ?_;rintro e w7 ⟨v7,rfl,bi,ck⟩;obtain⟨a7,c7,rfl,_,_,aaz⟩:=bi.at_ aR.len;have hn7:=bC bi;go_wp2_with fail
 refine(yC v6 P3 b4 a7 c7 w2 w7 (de.tr ck) (by omega) (by omega) (cp.grows ck) aaz hn7 (λq hq hv=>by have h1:=gP cp _ hv.symm;have h2:=bF bi q.block (by rw[hq];rfl);omega)).mono ?_;rintro e w8 ⟨v8,rfl,f9,eo⟩;go_wp2_with fail
 go_ret;refine⟨_,rfl,?_,an.tr eo⟩
 have au:P3++dM b4=pA L:=by
  rw[HP3.out,HP2.out,HB1.out,HB3.out,HB4.out,HE.out]
 rw[<-au];exact f9.base an.size
theorem nV0 (L:List (List UInt8)) (tb:Nat) (w:World) (ah:qT w tb L) :
  Calls Tryz.prog 38 #[.pointer (some ⟨tb,0,none⟩)] w λe w'=>e=.returned (.int .i64 L.length)/\w=w':=by
 obtain⟨vN,n1,n2⟩:=ah.n;obtain⟨aN,cN,rfl,_,_,_⟩:=n2.at_ (enc:=jP) (λ_=>rfl);have ay:(kQ L).length=L.length:=by simp[kQ]
 rw[ay]at n1;clear ah n2 ay;go_enter Tryz.func38,Tryz.ntmps38
 go_wp2_with fail
 go_ret;exact⟨rfl,rfl⟩
theorem qA {L:List (List UInt8)} (be:OkL L) {j i:Nat} {x:eA} (hj:j<L.length) (hi:(nodesA L)[i]?=some x) (hh:lQ L x=true) (hx:x.i=j):(kQ L)[j]?=some i:=by
 unfold kQ;rw[Ae,List.getElem?_range hj,At];congr 1
 have af:=(List.getElem?_eq_some_iff.1 hi).1;rw[List.findIdx_eq af];obtain⟨h1,h2⟩:=List.getElem?_eq_some_iff.1 hi;refine⟨by rw[h2,hh,hx];simp,λk hk=>?_⟩;apply Classical.byContradiction
 intro oz;have oz:(lQ L ((nodesA L)[k]'(by omega))&&((nodesA L)[k]'(by omega)).i==j)=true:=by simpa using oz
 simp only[Bool.and_eq_true,beq_iff_eq]at oz;have g1:=be.good hi;have g2:=be.good (Ab (show k<(nodesA L).length by omega))
 have e1:=(iJ be.asc g1 be.pos j).2 ⟨hh,hx.symm⟩;have e2:=(iJ be.asc g2 be.pos j).2 ⟨oz.1,oz.2.symm⟩;rw[e1]at e2
 have:=g1.inj be.asc g2 (Option.some.inj e2)
 have:=be.uniq hi (by rw[this];exact Ab (show k<(nodesA L).length by omega))
 omega
theorem bG1 (L:List (List UInt8)) (tb id:Nat) (w:World) (be:OkL L) (hl:L.length<=20000) (hc:dF L<=524287) (hid:id<L.length) (ah:qT w tb L) :
  Calls Tryz.prog 39 #[.pointer (some ⟨tb,0,none⟩),.int .i64 id] w λe w'=>e=.returned (.tuple #[.string (mkB (nth L id)),.bool true])/\aB w w':=by
 obtain⟨z1,z2,z3,z4,z5⟩:=be.sizes hl hc;obtain⟨i0,x0,ti,hh0,aef⟩:=be.node hid;have hn0:=qA be hid ti hh0 aef
 have m4:eX L x0=nth L id:=by
  have h1:=(iJ be.asc (be.good ti) be.pos id).2 ⟨hh0,aef.symm⟩;rw[jV hid]at h1;exact(Option.some.inj h1).symm
 have ahu:(nth L id).length<=256:=be.len _ (Ag (jV hid));have CL:=Ac (λ(u:World) (h:aB w u)=>nV0 L tb u (ah.grows h));obtain⟨vN,n1,n2⟩:=ah.n;obtain⟨aN,cN,rfl,_,_,af1⟩:=n2.at_ (enc:=jP) (λ_=>rfl);have hNl:(kQ L).length=L.length:=by simp[kQ]
 rw[hNl]at n1;obtain⟨nb,no,rfl,hcN⟩:=at1 (f:=λn:Nat=>Value.int .i64 n) af1 (aH (k:=id) (by rw[hNl];exact hid));have af2:=hcN id _ hn0;obtain⟨vL,l1,l2⟩:=ah.l;obtain⟨sb,s1,s2⟩:=ah.s;have akp:(id:Int)<L.length:=by omega
 have akq:¬(id:Int)<0:=by omega
 have akr:¬(L.length:Int)<=id:=by omega
 have HAT:=Ac ah;obtain⟨W1,dv⟩:=exq (w.alloc (.cells Tryz.zeroCells180 180));have g1:aB w W1:=by rw[dv];exact aB.alloc _ _
 have n1a:=g1.cell n1;have acg:=g1.cell af2;rw[dv]at n1a acg
 have START:Hid (∃cs:Array Value,W1.heap[w.heap.size]?=some (.cells cs 180 (0,0))/\cs.size=256/\∀j b,([]:List UInt8)[j]?=some b->cs[256+j]?=some (.int .u8 (b.toNat:Nat))) :=
  ⟨Tryz.zeroCells180,by rw[dv];show (w.heap.push _)[w.heap.size]?=_;simp,by kernel_rfl,λj b h=>by simp at h⟩
 have NODE:Hid ((nodesA L)[i0]?=some x0/\eX L x0++[]=nth L id):=⟨ti,by rw[List.append_nil];exact m4⟩;have HOK:=Ac be;have ed:w.heap.size<W1.heap.size:=by rw[dv];simp
 obtain⟨aL,cL,rfl,_,_,mc⟩:=l2.at_ aR.len;have HATL:=Ac mc;have HS2:=Ac s2;have HZ1:=Ac z1;have kc:∀q,aL=some q->q.block<w.heap.size:=λq hq=>gP l2 q.block (by rw[hq];rfl);have HBB:=Ac kc;obtain⟨ln,hln⟩:=exq ((labelsL L (nodesA L)).length);have HLN:=Ac hln;rw[<-hln]at l1;have aks:ln<=524287:=by omega
 have hNN:Hid ((nodesA L).length<=524287/\ln+1=(nodesA L).length):=by
  have:=iP be.asc be.len
  refine⟨by omega,?_⟩;rw[hln,be.labels,Ad,Aq]
  have h0:0<(nodesA L).length:=by
   have:=(List.getElem?_eq_some_iff.1 ti).1;omega
  omega
 have hi0:i0<=524287:=by have:=(List.getElem?_eq_some_iff.1 ti).1;have:=hNN.out;omega
 clear ah n2 af1 hcN hn0 n1 af2 ti hh0 aef m4 z1 z2 z3 z4 z5 be hc mc s2 kc l2 hln;go_enter Tryz.func39,Tryz.ntmps39
 go_wp2_with (go_at_call 38;refine(CL.out _ (by first|exact aB.refl _|assumption)).mono ?_;rintro e w2 ⟨rfl,rfl⟩;skip)
 rw[<-dv];have hz:decide (L.length<=id)=false:=by simp;omega
 rw[hz];clear dv n1a acg hz;go_loopw [7,8] (λu v wr=>∃(A i:Nat) (x:eA) (tl:List UInt8) (cs:Array Value),u=.int .i64 A/\v=.int .i64 i/\A<=256/\i<=524287/\Hid (A+tl.length=256/\(nodesA L)[i]?=some x/\eX L x++tl=nth L id)/\Hid (wr.heap[w.heap.size]?=some (.cells cs 180 (0,0))/\cs.size=256/\∀j b,tl[j]?=some b->cs[A+j]?=some (.int .u8 (b.toNat:Nat)))/\Hid (aB w wr)) (λ_ v _=>(intOf v).toNat)
 case atStart =>
  obtain⟨cs,k1,k2,k3⟩:=START.out;exact⟨256,i0,x0,[],cs,by go_num,rfl,Al _,hi0,⟨rfl,NODE.out.1,NODE.out.2⟩,⟨k1,k2,k3⟩,g1⟩
 case round =>
  clear START NODE hi0 g1 ed;obtain⟨A,i,x,tl,cs,rfl,rfl,hA,hi,hN,hB,hG⟩:=hrel;by_cases h0:0<i
  ·have tj:(0:Int)<i:=by omega
   obtain⟨k1,k2,k3⟩:=hN.out;obtain⟨p,y,hy,hpi,o1,o2,hm⟩:=HOK.out.parent h0 k2;have mz:=zC HOK.out.asc (HOK.out.good hy) hm;obtain⟨b,hb⟩:=exq ((nth L x.i).getD y.d 0);rw[<-hb]at mz;have hil:=(List.getElem?_eq_some_iff.1 k2).1
   have hA0:0<A:=by
    have:=congrArg Av k3
    rw[mz,Aa,Aa]at this;simp at this;omega
   obtain⟨A1,hA1⟩:=exq (A-1);obtain⟨i1,hi1⟩:=exq (i-1);have wA:IntKind.i64.wrap ((A:Int)-1)=A1:=by simp[Ah,Ai,Af];omega
   have wi:IntKind.i64.wrap ((i:Int)-1)=i1:=by simp[Ah,Ai,Af];omega
   have aa7:(labelsL L (nodesA L))[i1]?=some b:=by
    rw[HOK.out.labels,Ae,List.getElem?_drop,show 1+i1=i by omega,k2,At,mz]
    simp
   obtain⟨lb,lo,rfl,fu⟩:=at1 (f:=λb:UInt8=>Value.int .u8 b.toNat) (HATL.out.grows hG.out) (List.ne_nil_of_mem (Ag aa7));have hlc:=fu i1 b aa7;have akt:(i1:Int)<ln:=by have:=hNN.out;omega
   have aku:(A1:Int)<256:=by omega
   have l1r:=hG.out.cell l1;have s1r:=hG.out.cell s1;obtain⟨m1,m2,m3⟩:=hB.out;obtain⟨ov,hov⟩:∃v,wr.cell? ⟨w.heap.size,A1,none⟩=some v:=⟨cs[A1]'(by omega),by simp[Aw,m1,show A1<cs.size by omega]⟩
   have hof:wr.frozen? ⟨w.heap.size,A1,none⟩=false:=by simp[World.frozen?,m1]
   obtain⟨W2,ki⟩:=exq (wr.setCell ⟨w.heap.size,A1,none⟩ (.int .u8 (b.toNat:Nat)));have g2:aB w W2:=by rw[ki];exact hG.out.set (Al _) _
   have B2:Hid (W2.heap[w.heap.size]?=some (.cells (cs.setIfInBounds A1 (.int .u8 (b.toNat:Nat))) 180 (0,0))):=by
    rw[ki];exact heap_setCell_same wr _ _ cs _ _ m1
   have hw2:w.heap.size<W2.heap.size:=(Array.getElem?_eq_some_iff.1 B2.out).1
   have B3:Hid (∀j c,(b::tl)[j]?=some c->(cs.setIfInBounds A1 (.int .u8 (b.toNat:Nat)))[A1+j]?=some (.int .u8 (c.toNat:Nat))):=λj c hj=>by
    cases j with
    | zero =>
     obtain rfl:b=c:=by simpa using hj
     rw[Nat.add_zero,Array.getElem?_setIfInBounds_self];simp;omega
    | succ j =>
     rw[Array.getElem?_setIfInBounds_ne (by omega),show A1+(j+1)=A+j by omega]
     exact m3 j c (by simpa using hj)
   have N2:Hid (A1+(b::tl).length=256/\(nodesA L)[p]?=some y/\eX L y++(b::tl)=nth L id):=⟨by rw[Ar];omega,hy,by rw[<-k3,mz];simp⟩;have CSZ:Hid ((cs.setIfInBounds A1 (.int .u8 (b.toNat:Nat))).size=256):=by show _=_;simpa using m2
   obtain⟨q1,q2,q3⟩:=uZ0 hy o1 o2;obtain⟨pos,cu⟩:=exq (i+p+1);rw[<-cu]at q1 q2 q3
   have ach:pos<(shapeL L (nodesA L)).length:=by
    have h1:=fW L (nodesA L).length (Al _);rw[Ap,HOK.out.off_all]at h1;omega
   have CSEL:=Ac (λ(u:World) (hg:aB w u)=>sE0 (shapeL L (nodesA L)) sb true pos i u HZ1.out ach q1 q2 (HS2.out.grows hg))
   have CRNK:Hid (∀(u:World),aB w u->Calls Tryz.prog 96 #[.pointer (some ⟨sb,0,none⟩),.bool false,.int .i64 pos] u λe w'=>e=.returned (.int .i64 ((p+1:Nat):Int))/\u=w'):=λu hg=>by
    have h:=gC0 (shapeL L (nodesA L)) sb false pos u HZ1.out (by have:=HZ1.out;omega) (HS2.out.grows hg);rw[show min pos (shapeL L (nodesA L)).length=pos by omega,q3]at h
    exact h
   have wp1:IntKind.i64.wrap (((p+1:Nat):Int)-1)=p:=by simp[Ah,Ai,Af];omega
   obtain⟨p1,hp1⟩:=exq (p+1);rw[<-hp1]at CRNK wp1;have z1:∀x:Ext aB W2.drew,x.u.cell? ⟨tb,0,none⟩=some (.pointer (some ⟨sb,0,none⟩)):=aG ((aB.drew W2).cell (g2.cell s1));have HPI:=Ac hpi;clear hN hB k1 k2 k3 hy o1 o2 hm mz hb hil hA1 hi1 aa7 fu m1 m2 m3 q1 q2 q3 cu ach hp1 hpi;go_wp2_with fail
   rw[<-ki];clear ki hov hof hlc l1r s1r;refine bH (aT 13 [9,10]) (by kernel_rfl) (λd _ _ _ _ h=>by cases d<;>exact h) ?_
   iterate 9 (refine aJ rfl (λK hK=>?_);go_simp;refine hK _ ?_;clear hK K)
   clear z1;refine bM rfl rfl (λK hK=>?_);go_simp;refine(CSEL.out _ (g2.tr (aB.drew W2))).mono ?_;rintro e w3 ⟨rfl,bu⟩;refine⟨bu,hK _ _ ?_⟩;clear hK K;have g3:aB w w3:=(g2.tr (aB.drew W2)).tr bu;refine bM rfl rfl (λK hK=>?_);go_simp;refine(CRNK.out _ g3).mono ?_;rintro e w4 ⟨rfl,rfl⟩;refine⟨aB.refl _,hK _ _ ?_⟩;clear hK K;iterate 2 (refine aJ rfl (λK hK=>?_);go_simp;refine hK _ ?_;clear hK K)
   refine bN ?_;have B4:w3.heap[w.heap.size]?=some (.cells (cs.setIfInBounds A1 (.int .u8 (b.toNat:Nat))) 180 (0,0)):=(Below.block ((aB.drew W2).tr bu) _ hw2).trans B2.out;replace B4:=Ac B4;clear bu B2 CSEL CRNK;go_wp2_with fail
   go_roundw
   case rel=>exact⟨A1,p,y,b::tl,_,by go_num,by go_num,by have:=N2.out.1;omega,by have:=HPI.out;omega,N2.out,⟨B4.out,CSZ.out,B3.out⟩,g3⟩
   case measure=>have:=HPI.out;simp[intOf];omega
  ·have tj:¬(0:Int)<i:=by omega
   obtain rfl:i=0:=by omega
   obtain⟨k1,k2,k3⟩:=hN.out
   have hx:x=rootS L:=by
    have h1:=HOK.out.fix;have h2:(rootS L::(nodesA L).flatMap (fH L))[0]?=some x:=by rw[<-h1];exact k2
    simpa using h2.symm
   have zv:tl=nth L id:=by
    rw[<-k3,hx];simp[eX,rootS]
   have ajt:(convert 24 9 (.slice (some ⟨w.heap.size,A,none⟩) (256-A) (256-A))).run Tryz.prog wr=.ok (.string (mkB (nth L id))) wr:=by
    obtain⟨m1,m2,m3⟩:=hB.out;have hz:(mkB tl).size=tl.length:=by rw[Lib.size_eq,mU]
    have hBy:Lib.Bytes wr w.heap.size A (mkB tl):=λj hj=>by
     rw[hz]at hj;have h3:=m3 j _ (Ab hj);unfold Aw;simp only[m1,Option.isSome_none,Bool.false_eq_true,if_false];exact h3
    have:=Lib.run_convert_whole (P:=Tryz.prog) wr 24 5 9 Tryz.underlying24 Tryz.underlying5 Tryz.underlying9 w.heap.size A (mkB tl) hBy (256-A)
    rw[hz,show tl.length=256-A by omega]at this
    rw[this,zv]
   have cu:0<tl.length:=by
    rw[zv];exact List.length_pos_iff.2 (HOK.out.pos _ (Ag (jV hid)))
   have hAi:(A:Int)<=256:=by omega
   have hAn:¬256=A:=by omega
   have G:=Ac hG.out;clear hN hB k1 k2 k3 hx zv cu hG;go_wp2_with fail
   first
    | exact bodyPost_ret (v:=.tuple #[.string (mkB (nth L id)),.bool true]) (by simp[results,Tryz.results39,go_sem]) rfl ⟨rfl,G.out⟩
    | exact bodyPost_end (v:=.tuple #[.string (mkB (nth L id)),.bool true]) (by simp[results,Tryz.results39,go_sem]) rfl ⟨rfl,G.out⟩
end
section
open Go
theorem dJ0 (L:List (List UInt8)):∀A:List eA,(labelsL L A).length=(A.flatMap (fH L)).length
 | []=>rfl
 | x::A=>by
  have:=dJ0 L A
  unfold labelsL at *;rw[An,An,Aa,Aa,Ad,this]
theorem mT0 (L:List (List UInt8)) (i:Nat):nZ L i=(labelsL L ((nodesA L).take i)).length+1:=by
 rw[dJ0];unfold nZ eF;rw[Ar]
theorem OkL.many {L:List (List UInt8)} (h:OkL L) (hl:L.length<=20000):(nodesA L).length<=5120001:=by
 have h1:=congrArg Av (dA0 h.asc);rw[Ad]at h1;have h2:=rF L 256;have h3:(nR0 L).length=(pS L 256).length:=rfl;omega
theorem wZ (L:List (List UInt8)) (A:List eA) (x:eA):labelsL L (A++[x])=labelsL L A++(fH L x).map (pG L x):=by
 unfold labelsL;rw[List.flatMap_append];simp
def tZ (L:List (List UInt8)) (i:Nat):List Nat:=(kQ L).map λk=>if k<i then k else 0
theorem mE (L:List (List UInt8)):(kQ L).length=L.length:=by simp[kQ]
theorem zJ0 {L:List (List UInt8)}:tZ L 0=List.replicate L.length 0:=by
 unfold tZ;apply Ao
 intro j;rw[Ae,List.getElem?_replicate];by_cases h:j<L.length
 ·rw[Ab (by rw[mE];exact h),if_pos h]
  simp
 ·rw[Ak (by rw[mE];omega),if_neg h];rfl
theorem OkL.ndTo_all {L:List (List UInt8)} (h:OkL L) {m:Nat} (hm:(nodesA L).length<=m):tZ L m=kQ L:=by
 unfold tZ;have hl:=mE L;conv=>rhs;rw[<-List.map_id (kQ L)]
 apply List.map_congr_left
 intro k hk;obtain⟨j,hj⟩:=List.mem_iff_getElem?.1 hk;have hjl:j<L.length:=by rw[<-hl];exact(List.getElem?_eq_some_iff.1 hj).1
 obtain⟨i,x,hi,hh,hx⟩:=h.node hjl
 have:=qA h hjl hi hh hx
 rw[hj]at this;have af:=(List.getElem?_eq_some_iff.1 hi).1;rw[if_pos (by have:=Option.some.inj this;omega)];rfl
theorem OkL.ndTo_succ {L:List (List UInt8)} (h:OkL L) {i:Nat} {x:eA} (hx:(nodesA L)[i]?=some x):tZ L (i+1)=if lQ L x=true then (tZ L i).set x.i i else tZ L i:=by
 have hl:=mE L
 have key:∀j,j<L.length->((kQ L)[j]?=some i↔lQ L x=true/\x.i=j):=λj hj=>by
  obtain⟨i',x',hi',hh',hx'⟩:=h.node hj;have h1:=qA h hj hi' hh' hx';rw[h1];constructor
  ·intro e
   have e2:i'=i:=Option.some.inj e;subst e2;rw[hx]at hi';cases hi'
   exact⟨hh',hx'⟩
  ·rintro⟨a,b⟩
   have h2:=qA h hj hx a b;rw[h1]at h2;exact h2
 apply Ao
 intro j;by_cases hj:j<L.length
 ·obtain⟨k,hk⟩:∃k,(kQ L)[j]?=some k:=⟨_,Ab (by rw[hl];exact hj)⟩
  have e1:(tZ L (i+1))[j]?=some (if k<i+1 then k else 0):=by unfold tZ;rw[Ae,hk];rfl
  have e2:(tZ L i)[j]?=some (if k<i then k else 0):=by unfold tZ;rw[Ae,hk];rfl
  rw[e1];have j7:=key j hj;rw[hk]at j7;by_cases hh:lQ L x=true
  ·rw[if_pos hh]
   by_cases hxj:x.i=j
   ·have:k=i:=Option.some.inj (j7.2 ⟨hh,hxj⟩)
    rw[hxj,List.getElem?_set_self (by unfold tZ;rw[Ad,hl];exact hj),if_pos (by omega),this]
   ·have:k≠i:=λe=>hxj (j7.1 (by rw[e])).2
    rw[List.getElem?_set_ne hxj,e2];congr 1
    by_cases h3:k<i
    ·rw[if_pos h3,if_pos (by omega)]
    ·rw[if_neg h3,if_neg (by omega)]
  ·rw[if_neg hh,e2]
   have:k≠i:=λe=>hh (j7.1 (by rw[e])).1
   congr 1
   by_cases h3:k<i
   ·rw[if_pos h3,if_pos (by omega)]
   ·rw[if_neg h3,if_neg (by omega)]
 ·have hn:∀m,(tZ L m)[j]?=none:=λm=>Ak (by unfold tZ;rw[Ad,hl];omega)
  rw[hn];split
  ·rw[Ak (by rw[List.length_set];unfold tZ;rw[Ad,hl];omega)]
  ·rw[hn]
theorem cD1 (L:List (List UInt8)) (i:Nat):(tZ L i).length=L.length:=by unfold tZ; rw[Ad,mE]
end
end Go.Proofs.YtiopheoljccmpaaGreatDoor
