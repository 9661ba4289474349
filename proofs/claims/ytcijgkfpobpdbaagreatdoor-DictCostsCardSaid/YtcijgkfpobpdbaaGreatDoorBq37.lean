/- The texts BvE LoC TrE Txt LbP TriQ TriR GroP, one behind the other. -/
import Derived.Test.YtcijgkfpobpdbaaGreatDoorBq33
import Derived.Test.YtcijgkfpobpdbaaGreatDoorBq36
import Derived.Test.YtcijgkfpobpdbaaGreatDoorBq27
import Derived.Test.YtcijgkfpobpdbaaGreatDoorBq26
import Derived.Test.YtcijgkfpobpdbaaGreatDoorBq34
import Derived.Test.YtcijgkfpobpdbaaGreatDoorBq4
import Derived.Test.YtcijgkfpobpdbaaGreatDoorBq1
open List renaming getElem?_eq_getElem → Aa,getElem?_map → Ab,length_append → Ac,length_map → Ae,getElem?_eq_none → Af,getD_eq_getElem?_getD → Ai,mem_of_getElem? → Aj,getElem?_range → Ak,take_append_drop → Am,range → An,ext_getElem? → Ap,isPrefixOf_iff_prefix → Ar,filter_append → As,range' → At,append_assoc → Aw,findIdx_lt_length_of_exists → Ax,length_take → Ay,length_cons → Az,append_nil → Bb,replicate → Be,mem_range → Bf,getElem?_replicate → Bh,getElem?_set_self → Bj,nil_append → Bk,map_append → Bl,getElem?_set_ne → Bn,range'_append_1 → Bo,range_eq_range' → Bp,flatMap_append → Bq,map_congr_left → Br,getElem?_drop → Bs,flatMap_cons → Bv,take_add_one → Bw,mem_range'_1 → By,take_length → Bz,length_drop → Ca,append_inj' → Cc,cons_append → Cd,length → Ce,length_set → Cf,range_succ → Cg
open Go.Lib renaming hid → Ad
open Classical renaming byContradiction → Ag
open Nat renaming le_refl → Ah,lt_or_ge → Bc,lt_of_lt_of_le → Bd,zero_le → Bg,le_of_lt → Bi,eq_zero_or_pos → Bu,lt_trans → Cj,le_trans → Ck,sub_self → Cl
open Go.Op renaming bytesLess → Al
open Option renaming map_some → Ao,getD_some → Ba
open Go.IntKind renaming signed → Aq,wrap → Au,bits → Av
open Bool renaming false_eq_true → Bt,and_eq_true → Cb,false_or → Ch,true_and → Ci
open Go.World renaming cell? → Cm
set_option maxHeartbeats 4000000
namespace Go.Proofs.YtcijgkfpobpdbaaGreatDoor
set_option maxRecDepth 100000
section
open Go Go.RowKit
attribute [local go_sem] aQ aM
theorem xI0 {l:List Bool} {k x:Nat} (h:(uZ l)[k]?=some x):x<=l.length+512:=by
 unfold uZ at h;rw[Ab]at h
 cases hg:(An ((l.length+511)/512))[k]? with
 | none=>rw[hg]at h;cases h
 | some g =>
  rw[hg]at h;have h1:eA l (512*g)=x:=Option.some.inj h;obtain⟨h2,h3⟩:=List.getElem?_eq_some_iff.1 hg;rw[List.length_range]at h2;rw[List.getElem_range]at h3
  have:=nS l (512*g)
  omega
theorem gR0 (l:List Bool) (vb:Nat) (w:World) (hl:l.length<=1048576) (ac:kK w vb l) :
  Calls Tryz.prog 161 #[.pointer (some ⟨vb,0,none⟩)] w λe w'=>∃v,e=.returned v/\aU w' w.heap.size 5 1 aX v (oY l)/\Grows w w':=by
 have c0:=ac.c0;obtain⟨vW,c1,lf⟩:=ac.c1;obtain⟨aW,cW,rfl,_,_,io⟩:=lf.at_ (enc:=kO) (λ_=>rfl);obtain⟨vC,c2,j3⟩:=ac.c2;obtain⟨aC,cC,rfl,_,_,q8⟩:=j3.at_ (enc:=kH) (λ_=>rfl);have ae2:∀q:Addr,aW=some q->q.block<w.heap.size:=λq hq=>gP lf q.block (by rw[hq];rfl);have ae3:vb<w.heap.size:=World.block_lt_of_cell? w _ c0;have hq:=fV l;have hCl:(uZ l).length=(l.length+511)/512:=by simp[uZ]
 obtain⟨Cs,hCs⟩:=exq (uZ l);rw[<-hCs]at c2 q8 hCl
 have vn:∀k x,Cs[k]?=some x->x<=1049088:=λk x hx=>by
  rw[hCs]at hx
  have:=xI0 hx
  omega
 obtain⟨Ws,hWs⟩:=exq (nK l);rw[<-hWs]at io hq c1;have wz:Ws.length<=16384:=by omega
 have fw:∀n∈Ws,n<18446744073709551616:=λn hn=>by
  rw[hWs]at hn;unfold nK at hn;obtain⟨k,_,rfl⟩:=List.mem_map.1 hn;exact pT l k
 have HE:Hid (oY l=leB 4 l.length++kZ 8 Ws++kZ 4 Cs):=by show _=_;rw[hWs,hCs];rfl
 have HW64:=Ad fw;have HCB:=Ad vn;have HATC:=Ad q8;have HATW:=Ad io;have ac3:Cs.length<=2049:=by omega
 have wn:IntKind.u64.wrap (l.length:Int)=l.length:=by simp[Au,Av,Aq];omega
 have z0:∀y:Ext (EB w.heap.size) w.drew,y.u.cell? ⟨vb,0,none⟩=some (.int .i64 l.length):=nC ae3 ((Grows.drew w).cell c0);have z1:∀y:Ext (EB w.heap.size) w.drew,y.u.cell? ⟨vb,1,none⟩=some (.slice aW Ws.length cW):=nC ae3 ((Grows.drew w).cell c1);obtain⟨n,aj⟩:=exq l.length;rw[<-aj]at HE wn z0 hl;have aeb:=Ad ae2;clear ac c0 lf j3 q8 io hq ae2 hCs hCl vn hWs fw aj c1;go_enter Tryz.func161,Tryz.ntmps161
 go_wp2_with fail
 refine iR (EB w.heap.size) (lK [0,1,2,3,4,7,8,9,10,5,6,11,12] [5,6,11,12]) (EB.refl w.heap.size) (EB.trans w.heap.size) (by kernel_rfl) (by kernel_rfl) (λd _ _ _ _ h=>by cases d<;>exact h) ?_
 iterate 9 (refine aG rfl (λK hK=>?_);go_simp;refine hK _ ?_;clear hK K)
 clear z0 z1;refine aY rfl rfl (λK hK=>?_);go_simp;refine⟨EB.of (Grows.alloc _ _) (Ah _),hK _ _ ?_⟩;clear hK K;have ya:=mC0 (enc:=kO) (w:=w) (t:=164) (fz:=(0,0)) (cs:=#[.int .u64 n]) (λ_=>rfl) [n] rfl;obtain⟨W1,bi⟩:=exq ((w.alloc (.cells #[.int .u64 n] 164)).drew);have ah:Grows w W1:=by rw[bi];exact(Grows.alloc _ _).dr
 have ew:w.heap.size<W1.heap.size:=by rw[bi];simp
 have aaq:aF W1 (some ⟨w.heap.size,0,none⟩) 1 ([n].map kO):=by rw[bi];exact ya.grows (Grows.drew _)
 rw[<-bi];clear bi ya;refine aY rfl rfl (λK hK=>?_);go_simp;refine(iE0 (.slice none 0 0) [] 4 [n] (some ⟨w.heap.size,0,none⟩) 1 W1 W1 (Grows.refl _) (by decide) (by simp) (by simp) (λm hm=>by obtain rfl:=List.mem_singleton.1 hm;omega) (aU.nil _ _ _ _ _) aaq (λq _ h=>by cases h) (λq hq=>by cases hq;exact ew)).mono ?_;rintro e w2 ⟨v2,rfl,ai,af,ajf⟩;rw[Bk]at ai;refine⟨EB.of af (Bi ew),hK _ _ ?_⟩;clear hK K;have hp4:(kZ 4 [n]).length=4:=by rw[tQ];rfl
 have ae4:∀q:Addr,aW=some q->q.block<W1.heap.size:=λq hq=>Cj (aeb.out q hq) ew;refine aY rfl rfl (λK hK=>?_);go_simp;refine(iE0 v2 (kZ 4 [n]) 8 Ws aW cW W1 _ af (by decide) (by omega) (by omega) HW64.out ai (HATW.out.grows (ah.tr af)) (jF0 ai ae4) (λr hr=>Bd (ae4 r hr) af.size)).mono ?_;rintro e w3 ⟨v3,rfl,aw,ax,yb⟩;refine⟨EB.both (ah.tr af) (ah.tr ax) yb,hK _ _ ?_⟩;clear hK K;refine aY rfl rfl (λK hK=>?_);go_simp;refine⟨EB.refl _ _,hK _ _ ?_⟩;clear hK K;refine bH ?_;have gm:=ah.tr ax;obtain⟨P3,hP3⟩:=exq (kZ 4 [n]++kZ 8 Ws);rw[<-hP3]at aw;have lx:P3.length<=4+8*16384:=by rw[hP3,Ac,hp4,tQ];omega
 have HE3:Hid (oY l=P3++kZ 4 Cs):=by show _=_;rw[HE.out,hP3];unfold kZ;simp
 replace aw:=aw.base (base':=w.heap.size) ah.size;have c2r:=gm.cell c2;clear hP3 ai af ax ah aaq hp4 HE c2;go_wp2_with fail
 go_loopw [3,25] (λout i wr=>∃(k:Nat) (bv:List UInt8),k<=Cs.length/\i=.int .i64 k/\Hid (bv=P3++kZ 4 (Cs.take k))/\aU wr w.heap.size 5 1 aX out bv/\Grows w wr) (λ_ i _=>Cs.length-(intOf i).toNat)
 case atStart=>exact⟨0,P3,Bg _,rfl,(by show _=_;simp[kZ]),aw,gm⟩
 case round =>
  obtain⟨k,bv,hk,rfl,cm,aa,hg⟩:=hrel
  have ni:bv.length<=4+8*16384+4*k:=by
   rw[cm.out,Ac,tQ,Ay];omega
  by_cases ae:k<Cs.length
  ·obtain⟨x,hx⟩:∃x,Cs[k]?=some x:=⟨_,Aa ae⟩
   obtain⟨b,o,rfl,hc⟩:=at1 HATC.out (aH ae);have jb:=hg.cell (hc k x hx);have s6:=HCB.out k x hx;have wx:IntKind.u64.wrap (x:Int)=x:=by simp[Au,Av,Aq];omega
   have HN:Hid (bv++kZ 4 [x]=P3++kZ 4 (Cs.take (k+1))):=by
    show _=_
    rw[bI hx,dP0,cm.out,Aw];simp[kZ]
   have dg:(k:Int)<Cs.length:=by omega
   have ya:=mC0 (enc:=kO) (w:=wr) (t:=164) (fz:=(0,0)) (cs:=#[.int .u64 x]) (λ_=>rfl) [x] rfl;have CP:=iE0 _ bv 4 [x] (some ⟨wr.heap.size,0,none⟩) 1 w (wr.alloc (.cells #[.int .u64 x] 164)) (hg.al _) (by decide) (by omega) (by simp) (λm hm=>by obtain rfl:=List.mem_singleton.1 hm;omega) (aa.grows (Grows.alloc _ _)) ya (zS0 aa (λr hr=>by cases hr;exact Ah _)) (λr hr=>by cases hr;simp);clear hc hx cm ya;go_wp2_with fail
   refine CP.mono ?_;rintro e w5 ⟨v5,rfl,an,bg,_⟩;go_wp2_with fail
   go_roundw
   case rel=>exact⟨k+1,_,ae,by go_num,HN.out,an,bg⟩
   case measure=>simp[intOf];omega
  ·have dg:¬(k:Int)<Cs.length:=by omega
   have HF:Hid (bv=oY l):=by
    show _=_
    rw[cm.out,List.take_of_length_le (by omega),HE3.out]
   clear cm;go_wp2_with fail
   go_ret;exact⟨_,rfl,by rw[<-HF.out];exact aa,hg⟩
def mH0 (L:List (List UInt8)):Nat:=if 20000<L.length then 2 else if nJ L=true then 1 else 0
theorem qF0 (B:List ByteArray) (a:Option Addr) (c:Nat) (w:World) (hB:B.length<=1099511627776) (dp:∀s∈B,s.size<=1099511627776) (ac:aF w a 1 (B.map stC)) :
  Calls Tryz.prog 146 #[.slice a B.length c] w λe w'=>e=.returned (.int .i64 (mH0 (bls B)))/\w=w':=by
 have HAT:=Ad ac;have HSZ:=Ad dp;clear ac dp;by_cases fu:20000<B.length
 ·have se:(20000:Int)<B.length:=by omega
  have HF:Hid (mH0 (bls B)=2):=by show _=_;unfold mH0;rw[cG,if_pos fu]
  go_enter Tryz.func146,Tryz.ntmps146
  go_wp2_with fail
  go_ret;exact⟨by rw[HF.out];rfl,rfl⟩
 have se:¬(20000:Int)<B.length:=by omega
 have HF:Hid (mH0 (bls B)=if nJ (bls B)=true then 1 else 0):=by show _=_;unfold mH0;rw[cG,if_neg fu]
 have HIT:Hid (∀k,k<B.length->rE (bls B) k=true->mH0 (bls B)=1):=λk hk hb=>by rw[HF.out,if_pos (dR0 (by rw[cG];exact hk) hb)]
 go_enter Tryz.func146,Tryz.ntmps146
 go_wp2_with fail
 go_loop [10] (λi=>∃k:Nat,k<=B.length/\i=.int .i64 k/\Hid (∀j,j<k->rE (bls B) j=false)) (λi=>B.length-(intOf i).toNat)
 case atStart=>exact⟨0,Bg _,rfl,λj hj=>by omega⟩
 case round =>
  obtain⟨k,hk,rfl,az⟩:=hrel;by_cases ae:k<B.length
  ·obtain⟨s,hx⟩:∃x,B[k]?=some x:=⟨_,Aa ae⟩
   obtain⟨b,o,rfl,hc⟩:=at1 HAT.out (aH ae);have qi:=hc k s hx;have hn:=dV hx;have ahg:=HSZ.out s (Aj hx);have dg:(k:Int)<B.length:=by omega
   have HBD:Hid (rE (bls B) k=(decide (s.size<1)||decide (256<s.size)||(decide (0<k) && !Al (nth (bls B) (k-1)) (bl s)))):=by show _=_;unfold rE;rw[hn,dB]
   have abt:s.toList=[]↔s.size<1:=by
    rw[<-cK0,<-dB];constructor
    ·intro h;rw[h];decide
    ·intro h;exact List.eq_nil_of_length_eq_zero (by omega)
   by_cases h1:s.size<1
   ·have HB:=Ad (HIT.out k ae (by rw[HBD.out];simp[h1]))
    have he1:s.toList.isEmpty=true:=by rw[abt.2 h1];rfl
    clear hc hx hn h1 abt;go_wp2_with fail
    go_ret;exact⟨by rw[HB.out];rfl,rfl⟩
   ·have ait:s.toList.isEmpty=false:=by
     cases hh:s.toList.isEmpty
     ·rfl
     ·exact absurd (abt.1 (List.isEmpty_iff.1 hh)) h1
    clear abt;by_cases h2:256<s.size
    ·have zv:(256:Int)<s.size:=by omega
     have HB:=Ad (HIT.out k ae (by rw[HBD.out];simp[h2]));clear hc hx hn;go_wp2_with fail
     go_ret;exact⟨by rw[HB.out];rfl,rfl⟩
    ·have zv:¬(256:Int)<s.size:=by omega
     by_cases h0:k=0
     ·have sw:¬0<k:=by omega
      have HN:Hid (∀j,j<k+1->rE (bls B) j=false):=λj hj=>by
       have ee:decide (s.size<1)=false:=decide_eq_false h1;have ik:decide (256<s.size)=false:=decide_eq_false h2;have mi:decide (0<k)=false:=decide_eq_false sw;rw[show j=k by omega,HBD.out,ee,ik,mi];rfl
      clear hc hx hn h0;go_wp2_with fail
      go_round
      case rel=>exact⟨k+1,ae,by go_num,HN.out⟩
      case measure=>simp[intOf];omega
     ·have sw:0<k:=by omega
      obtain⟨t,gq⟩:∃x,B[k-1]?=some x:=⟨_,Aa (by omega)⟩;have xq:=hc (k-1) t gq;have vj:(k:Int)-1=((k-1:Nat):Int):=by omega
      have gw:((k-1:Nat):Int)<B.length:=by omega
      have ii:IntKind.i64.wrap ((k-1:Nat):Int)=((k-1:Nat):Int):=by simp[Au,Av,Aq];omega
      have hq:=HBD.out;rw[dV gq,cK0,cK0]at hq;have ee:decide (s.size<1)=false:=decide_eq_false h1;have ik:decide (256<s.size)=false:=decide_eq_false h2;have mi:decide (0<k)=true:=decide_eq_true sw;rw[ee,ik,mi]at hq;simp only[Ch,Ci]at hq;have HQ:=Ad hq;clear hc hx hn h0 gq HBD hq ee ik mi;by_cases hl:Al t.toList s.toList=true
      ·have l1:Al s.toList t.toList=false:=by
        have:=lL hl;simpa using this
       have l2:(s.toList==t.toList)=false:=by
        rw[beq_eq_false_iff_ne];intro h;rw[h,bytesLess_irrefl]at hl;cases hl
       have HN:Hid (∀j,j<k+1->rE (bls B) j=false):=λj hj=>by
        rcases Bc j k with h|h
        ·exact az.out j h
        ·rw[show j=k by omega,HQ.out,hl];rfl
       clear hl az;go_wp2_with fail
       go_round
       case rel=>exact⟨k+1,ae,by go_num,HN.out⟩
       case measure=>simp[intOf];omega
      ·have ji:Al t.toList s.toList=false:=by simpa using hl
       have HB:=Ad (HIT.out k ae (by rw[HQ.out,ji];rfl));by_cases he:s.toList=t.toList
       ·have l1:Al s.toList t.toList=false:=by rw[he,bytesLess_irrefl]
        have l2:(s.toList==t.toList)=true:=by rw[he];simp
        clear hl ji he az;go_wp2_with fail
        go_ret;exact⟨by rw[HB.out];rfl,rfl⟩
       ·have l1:Al s.toList t.toList=true:=dI ji (λh=>he h.symm)
        clear hl ji he az;go_wp2_with fail
        go_ret;exact⟨by rw[HB.out];rfl,rfl⟩
  ·have dg:¬(k:Int)<B.length:=by omega
   have HB:Hid (mH0 (bls B)=0):=by
    show _=_
    rw[HF.out,cB0 (λi hi=>az.out i (by rw[cG]at hi;omega))];rfl
   clear az;go_wp2_with fail
   go_ret;exact⟨by rw[HB.out];rfl,rfl⟩
def kG (L:List (List UInt8)):List Nat:=(An L.length).map λj=>(nodesA L).findIdx λx=>iI L x&&x.i==j
structure eD (w:World) (tb:Nat) (L:List (List UInt8)):Prop where
 s:∃sb,w.cell? ⟨tb,0,none⟩=some (.pointer (some ⟨sb,0,none⟩))/\kK w sb (shapeL L (nodesA L))
 i:∃ib,w.cell? ⟨tb,1,none⟩=some (.pointer (some ⟨ib,0,none⟩))/\kK w ib (isL L (nodesA L))
 l:∃vL,w.cell? ⟨tb,2,none⟩=some vL/\aU w (tb-2) 5 1 aX vL (labelsL L (nodesA L))
 d:∃pb,w.cell? ⟨tb,3,none⟩=some (.pointer (some ⟨pb,0,none⟩))/\lU w pb (idsL L (nodesA L))
 n:∃vN,w.cell? ⟨tb,4,none⟩=some vN/\aU w 0 3 1 kH vN (kG L)
theorem eD.grows {w w':World} {tb:Nat} {L:List (List UInt8)} (h:eD w tb L) (hg:Grows w w'):eD w' tb L:=by
 obtain⟨sb,s1,s2⟩:=h.s;obtain⟨ib,i1,i2⟩:=h.i;obtain⟨vL,l1,l2⟩:=h.l;obtain⟨pb,d1,d2⟩:=h.d;obtain⟨vN,n1,n2⟩:=h.n;exact⟨⟨sb,hg.cell s1,s2.grows hg⟩,⟨ib,hg.cell i1,i2.grows hg⟩,⟨vL,hg.cell l1,l2.grows hg⟩,⟨pb,hg.cell d1,d2.grows hg⟩,⟨vN,hg.cell n1,n2.grows hg⟩⟩
theorem OkL.sizes {L:List (List UInt8)} (ag:OkL L) (hl:L.length<=20000) (hc:dZ L<=524287) :
  (shapeL L (nodesA L)).length<=1048576/\(isL L (nodesA L)).length<=524287/\(labelsL L (nodesA L)).length<=524287/\(idsL L (nodesA L)).length<=524287/\∀n∈idsL L (nodesA L),n<=20000:=by
 have hN:=eH ag.asc ag.len;refine⟨?_,?_,?_,?_,?_⟩
 ·have h:=eW L (nodesA L).length (Ah _)
  rw[Bz,ag.off_all]at h;omega
 ·unfold isL;rw[Ae];omega
 ·rw[ag.labels,Ae,Ca];omega
 ·unfold idsL
  rw[Ae]
  have:=List.length_filter_le (iI L) (nodesA L)
  omega
 ·intro n hn
  unfold idsL at hn;obtain⟨x,hx,rfl⟩:=List.mem_map.1 hn;have hg:=mR ag.asc (List.mem_filter.1 hx).1
  have:=hg.le
  omega
theorem gX0 (L:List (List UInt8)) (tb:Nat) (w:World) (ag:OkL L) (hl:L.length<=20000) (hc:dZ L<=524287) (ac:eD w tb L) :
  Calls Tryz.prog 88 #[.pointer (some ⟨tb,0,none⟩)] w λe w'=>∃v,e=.returned v/\aU w' w.heap.size 5 1 aX v (loudE L)/\Grows w w':=by
 obtain⟨z1,z2,z3,z4,z5⟩:=ag.sizes hl hc;obtain⟨sb,s1,s2⟩:=ac.s;obtain⟨ib,i1,i2⟩:=ac.i;obtain⟨vL,l1,l2⟩:=ac.l;obtain⟨pb,d1,d2⟩:=ac.d;have HE:Hid (loudE L=eI (oY (shapeL L (nodesA L)))++eI (labelsL L (nodesA L))++eI (oY (isL L (nodesA L)))++eI (packE (idsL L (nodesA L)))):=rfl;generalize shapeL L (nodesA L)=S at *;generalize isL L (nodesA L)=I at *;generalize labelsL L (nodesA L)=Lb at *;generalize idsL L (nodesA L)=D at *;have mq:∀n∈D,n<18446744073709551616:=λn hn=>by have:=z5 n hn;omega
 have ou:=nZ S;have ae5:=nZ I;have ml:=cH0 D;have hwd:oX D<=64:=oK.2 mq;have fk:D.length*oX D<=524287*64:=Nat.mul_le_mul z4 hwd;obtain⟨aL,cL,rfl,_,_,ld⟩:=l2.at_ bK.len;have hnL:=bN l2;have ahs:∀q:Addr,aL=some q->q.block<w.heap.size:=λq hq=>gP l2 q.block (by rw[hq];rfl);obtain⟨b1,ga⟩:=exq (oY S);obtain⟨b3,lw⟩:=exq (oY I);obtain⟨b4,hb4⟩:=exq (packE D);have CS:=Ad (gR0 S sb w z1 s2);have CI:=λW (hg:Grows w W)=>Ad (gR0 I ib W (by omega) (i2.grows hg));have CD:=λW (hg:Grows w W)=>Ad (iD0 D pb W (by omega) mq (d2.grows hg));rw[<-ga]at CS ou;rw[<-lw]at CI ae5;rw[<-hb4]at CD ml;have HB1:=Ad ga;have HB3:=Ad lw;have HB4:=Ad hb4;have HATL:=Ad ld;have ajg:b1.length<=100000000:=by omega
 have ajh:b3.length<=100000000:=by omega
 have aji:b4.length<=100000000:=by omega
 clear ac ag hc mq ou ae5 ml hwd fk ld ga lw hb4 s2 i2 l2 d2 z5;go_enter Tryz.func88,Tryz.ntmps88
 go_wp2_with fail
 refine CS.out.mono ?_;rintro e w2 ⟨v2,rfl,ai,af⟩;obtain⟨a2,c2,rfl,_,_,iq⟩:=ai.at_ bK.len;have ix:=bN ai;clear ai;go_wp2_with fail
 refine(yV (.slice none 0 0) [] b1 a2 c2 w2 w2 (Grows.refl _) (by simp) (by omega) (aU.nil _ _ _ _ _) iq ix (λq _ h=>by cases h)).mono ?_;rintro e w3 ⟨v3,rfl,aw,ax⟩;rw[Bk]at aw;have hp1:(eI b1).length<=100000004:=by unfold eI;rw[Ac,bM];omega
 have fh:=af.tr ax;have l1a:=fh.cell l1;go_wp2_with fail
 refine(yV v3 (eI b1) Lb aL cL w2 w3 ax (by omega) (by omega) aw (HATL.out.grows fh) hnL (jF0 aw (λq hq=>Bd (ahs q hq) af.size))).mono ?_;rintro e w4 ⟨v4,rfl,cr,bu⟩;obtain⟨P2,hP2⟩:=exq (eI b1++eI Lb);rw[<-hP2]at cr;have nl:P2.length<=200000008:=by rw[hP2,Ac];unfold eI at *;rw[Ac,bM] at *;rw[Ac,bM];omega
 have HP2:=Ad hP2;clear hP2 aw fh iq ix;have kc:=af.tr bu;have i1a:=kc.cell i1;go_wp2_with fail
 refine(CI w4 kc).out.mono ?_;rintro e w5 ⟨v5,rfl,an,bg⟩;obtain⟨a5,c5,rfl,_,_,xv⟩:=an.at_ bK.len;have hn5:=bN an;go_wp2_with fail
 refine(yV v4 P2 b3 a5 c5 w2 w5 (bu.tr bg) (by omega) (by omega) (cr.grows bg) xv hn5 (λq hq hv=>by have h1:=gP cr _ hv.symm;have h2:=bB an q.block (by rw[hq];rfl);omega)).mono ?_;rintro e w6 ⟨v6,rfl,kr,cp⟩;obtain⟨P3,hP3⟩:=exq (P2++eI b3);rw[<-hP3]at kr;have lx:P3.length<=400000012:=by rw[hP3,Ac];unfold eI;rw[Ac,bM];omega
 have HP3:=Ad hP3;clear hP3 cr an kc xv hn5 bg;have hgC:=af.tr cp;have d1a:=hgC.cell d1;go_wp2_with fail
 refine(CD w6 hgC).out.mono ?_;rintro e w7 ⟨v7,rfl,ep,cu⟩;obtain⟨a7,c7,rfl,_,_,q9⟩:=ep.at_ bK.len;have hn7:=bN ep;go_wp2_with fail
 refine(yV v6 P3 b4 a7 c7 w2 w7 (cp.tr cu) (by omega) (by omega) (kr.grows cu) q9 hn7 (λq hq hv=>by have h1:=gP kr _ hv.symm;have h2:=bB ep q.block (by rw[hq];rfl);omega)).mono ?_;rintro e w8 ⟨v8,rfl,aec,fy⟩;go_wp2_with fail
 go_ret;refine⟨_,rfl,?_,af.tr fy⟩
 have au:P3++eI b4=loudE L:=by
  rw[HP3.out,HP2.out,HB1.out,HB3.out,HB4.out,HE.out]
 rw[<-au];exact aec.base af.size
theorem tR (L:List (List UInt8)) (tb:Nat) (w:World) (ac:eD w tb L) :
  Calls Tryz.prog 76 #[.pointer (some ⟨tb,0,none⟩)] w λe w'=>e=.returned (.int .i64 L.length)/\w=w':=by
 obtain⟨vN,n1,n2⟩:=ac.n;obtain⟨aN,cN,rfl,_,_,_⟩:=n2.at_ (enc:=kH) (λ_=>rfl);have ak:(kG L).length=L.length:=by simp[kG]
 rw[ak]at n1;clear ac n2 ak;go_enter Tryz.func76,Tryz.ntmps76
 go_wp2_with fail
 go_ret;exact⟨rfl,rfl⟩
theorem iZ {L:List (List UInt8)} (ag:OkL L) {j i:Nat} {x:dH} (hj:j<L.length) (hi:(nodesA L)[i]?=some x) (hh:iI L x=true) (hx:x.i=j):(kG L)[j]?=some i:=by
 unfold kG;rw[Ab,Ak hj,Ao];congr 1
 have ae:=(List.getElem?_eq_some_iff.1 hi).1;rw[List.findIdx_eq ae];obtain⟨h1,h2⟩:=List.getElem?_eq_some_iff.1 hi;refine⟨by rw[h2,hh,hx];simp,λk hk=>?_⟩;apply Ag
 intro o0;have o0:(iI L ((nodesA L)[k]'(by omega))&&((nodesA L)[k]'(by omega)).i==j)=true:=by simpa using o0
 simp only[Cb,beq_iff_eq]at o0;have g1:=ag.good hi;have g2:=ag.good (Aa (show k<(nodesA L).length by omega))
 have e1:=(qR ag.asc g1 ag.pos j).2 ⟨hh,hx.symm⟩;have e2:=(qR ag.asc g2 ag.pos j).2 ⟨o0.1,o0.2.symm⟩;rw[e1]at e2
 have:=g1.inj ag.asc g2 (Option.some.inj e2)
 have:=ag.uniq hi (by rw[this];exact Aa (show k<(nodesA L).length by omega))
 omega
theorem iC0 (L:List (List UInt8)) (tb id:Nat) (w:World) (ag:OkL L) (hl:L.length<=20000) (hc:dZ L<=524287) (hid:id<L.length) (ac:eD w tb L) :
  Calls Tryz.prog 77 #[.pointer (some ⟨tb,0,none⟩),.int .i64 id] w λe w'=>e=.returned (.tuple #[.string (mkB (nth L id)),.bool true])/\Grows w w':=by
 obtain⟨z1,z2,z3,z4,z5⟩:=ag.sizes hl hc;obtain⟨i0,x0,ki,hh0,ac4⟩:=ag.node hid;have hn0:=iZ ag hid ki hh0 ac4
 have mw:spanS L x0=nth L id:=by
  have h1:=(qR ag.asc (ag.good ki) ag.pos id).2 ⟨hh0,ac4.symm⟩;rw[gT hid]at h1;exact(Option.some.inj h1).symm
 have agw:(nth L id).length<=256:=ag.len _ (Aj (gT hid));have CL:=Ad (λ(u:World) (h:Grows w u)=>tR L tb u (ac.grows h));obtain⟨vN,n1,n2⟩:=ac.n;obtain⟨aN,cN,rfl,_,_,ae6⟩:=n2.at_ (enc:=kH) (λ_=>rfl);have hNl:(kG L).length=L.length:=by simp[kG]
 rw[hNl]at n1;obtain⟨nb,no,rfl,hcN⟩:=at1 (f:=λn:Nat=>Value.int .i64 n) ae6 (aH (k:=id) (by rw[hNl];exact hid));have ae7:=hcN id _ hn0;obtain⟨vL,l1,l2⟩:=ac.l;obtain⟨sb,s1,s2⟩:=ac.s;have ajj:(id:Int)<L.length:=by omega
 have ajk:¬(id:Int)<0:=by omega
 have ajl:¬(L.length:Int)<=id:=by omega
 have HAT:=Ad ac;obtain⟨W1,bi⟩:=exq (w.alloc (.cells Tryz.zeroCells215 215));have g1:Grows w W1:=by rw[bi];exact Grows.alloc _ _
 have n1a:=g1.cell n1;have aar:=g1.cell ae7;rw[bi]at n1a aar
 have START:Hid (∃cs:Array Value,W1.heap[w.heap.size]?=some (.cells cs 215 (0,0))/\cs.size=256/\∀j b,([]:List UInt8)[j]?=some b->cs[256+j]?=some (.int .u8 (b.toNat:Nat))) :=
  ⟨Tryz.zeroCells215,by rw[bi];show (w.heap.push _)[w.heap.size]?=_;simp,by kernel_rfl,λj b h=>by simp at h⟩
 have NODE:Hid ((nodesA L)[i0]?=some x0/\spanS L x0++[]=nth L id):=⟨ki,by rw[Bb];exact mw⟩;have HOK:=Ad ag;have gk:w.heap.size<W1.heap.size:=by rw[bi];simp
 obtain⟨aL,cL,rfl,_,_,ld⟩:=l2.at_ bK.len;have HATL:=Ad ld;have HS2:=Ad s2;have HZ1:=Ad z1;have mx:∀q,aL=some q->q.block<w.heap.size:=λq hq=>gP l2 q.block (by rw[hq];rfl);have HBB:=Ad mx;obtain⟨ln,xg⟩:=exq ((labelsL L (nodesA L)).length);have HLN:=Ad xg;rw[<-xg]at l1;have ajm:ln<=524287:=by omega
 have hNN:Hid ((nodesA L).length<=524287/\ln+1=(nodesA L).length):=by
  have:=eH ag.asc ag.len
  refine⟨by omega,?_⟩;rw[xg,ag.labels,Ae,Ca]
  have h0:0<(nodesA L).length:=by
   have:=(List.getElem?_eq_some_iff.1 ki).1;omega
  omega
 have hi0:i0<=524287:=by have:=(List.getElem?_eq_some_iff.1 ki).1;have:=hNN.out;omega
 clear ac n2 ae6 hcN hn0 n1 ae7 ki hh0 ac4 mw z1 z2 z3 z4 z5 ag hc ld s2 mx l2 xg;go_enter Tryz.func77,Tryz.ntmps77
 go_wp2_with (go_at_call 76;refine(CL.out _ (by first|exact Grows.refl _|assumption)).mono ?_;rintro e w2 ⟨rfl,rfl⟩;skip)
 rw[<-bi];have hz:decide (L.length<=id)=false:=by simp;omega
 rw[hz];clear bi n1a aar hz;go_loopw [7,8] (λu v wr=>∃(A i:Nat) (x:dH) (tl:List UInt8) (cs:Array Value),u=.int .i64 A/\v=.int .i64 i/\A<=256/\i<=524287/\Hid (A+tl.length=256/\(nodesA L)[i]?=some x/\spanS L x++tl=nth L id)/\Hid (wr.heap[w.heap.size]?=some (.cells cs 215 (0,0))/\cs.size=256/\∀j b,tl[j]?=some b->cs[A+j]?=some (.int .u8 (b.toNat:Nat)))/\Hid (Grows w wr)) (λ_ v _=>(intOf v).toNat)
 case atStart =>
  obtain⟨cs,k1,k2,k3⟩:=START.out;exact⟨256,i0,x0,[],cs,by go_num,rfl,Ah _,hi0,⟨rfl,NODE.out.1,NODE.out.2⟩,⟨k1,k2,k3⟩,g1⟩
 case round =>
  clear START NODE hi0 g1 gk;obtain⟨A,i,x,tl,cs,rfl,rfl,hA,hi,hN,hB,hG⟩:=hrel;by_cases h0:0<i
  ·have sw:(0:Int)<i:=by omega
   obtain⟨k1,k2,k3⟩:=hN.out;obtain⟨p,y,hy,hpi,o1,o2,hm⟩:=HOK.out.parent h0 k2;have o7:=vQ HOK.out.asc (HOK.out.good hy) hm;obtain⟨b,hb⟩:=exq ((nth L x.i).getD y.d 0);rw[<-hb]at o7;have qg:=(List.getElem?_eq_some_iff.1 k2).1
   have hA0:0<A:=by
    have:=congrArg Ce k3
    rw[o7,Ac,Ac]at this;simp at this;omega
   obtain⟨A1,hA1⟩:=exq (A-1);obtain⟨i1,hi1⟩:=exq (i-1);have wA:IntKind.i64.wrap ((A:Int)-1)=A1:=by simp[Au,Av,Aq];omega
   have wi:IntKind.i64.wrap ((i:Int)-1)=i1:=by simp[Au,Av,Aq];omega
   have pr:(labelsL L (nodesA L))[i1]?=some b:=by
    rw[HOK.out.labels,Ab,Bs,show 1+i1=i by omega,k2,Ao,o7]
    simp
   obtain⟨lb,lo,rfl,cw⟩:=at1 (f:=λb:UInt8=>Value.int .u8 b.toNat) (HATL.out.grows hG.out) (List.ne_nil_of_mem (Aj pr));have hlc:=cw i1 b pr;have ajn:(i1:Int)<ln:=by have:=hNN.out;omega
   have ajo:(A1:Int)<256:=by omega
   have l1r:=hG.out.cell l1;have s1r:=hG.out.cell s1;obtain⟨m1,m2,m3⟩:=hB.out;obtain⟨ov,hov⟩:∃v,wr.cell? ⟨w.heap.size,A1,none⟩=some v:=⟨cs[A1]'(by omega),by simp[Cm,m1,show A1<cs.size by omega]⟩
   have hof:wr.frozen? ⟨w.heap.size,A1,none⟩=false:=by simp[World.frozen?,m1]
   obtain⟨W2,fx⟩:=exq (wr.setCell ⟨w.heap.size,A1,none⟩ (.int .u8 (b.toNat:Nat)));have g2:Grows w W2:=by rw[fx];exact hG.out.set (Ah _) _
   have B2:Hid (W2.heap[w.heap.size]?=some (.cells (cs.setIfInBounds A1 (.int .u8 (b.toNat:Nat))) 215 (0,0))):=by
    rw[fx];exact heap_setCell_same wr _ _ cs _ _ m1
   have ug:w.heap.size<W2.heap.size:=(Array.getElem?_eq_some_iff.1 B2.out).1
   have B3:Hid (∀j c,(b::tl)[j]?=some c->(cs.setIfInBounds A1 (.int .u8 (b.toNat:Nat)))[A1+j]?=some (.int .u8 (c.toNat:Nat))):=λj c hj=>by
    cases j with
    | zero =>
     obtain rfl:b=c:=by simpa using hj
     rw[Nat.add_zero,Array.getElem?_setIfInBounds_self];simp;omega
    | succ j =>
     rw[Array.getElem?_setIfInBounds_ne (by omega),show A1+(j+1)=A+j by omega]
     exact m3 j c (by simpa using hj)
   have N2:Hid (A1+(b::tl).length=256/\(nodesA L)[p]?=some y/\spanS L y++(b::tl)=nth L id):=⟨by rw[Az];omega,hy,by rw[<-k3,o7];simp⟩;have CSZ:Hid ((cs.setIfInBounds A1 (.int .u8 (b.toNat:Nat))).size=256):=by show _=_;simpa using m2
   obtain⟨q1,q2,q3⟩:=jP0 hy o1 o2;obtain⟨pos,du⟩:=exq (i+p+1);rw[<-du]at q1 q2 q3
   have aas:pos<(shapeL L (nodesA L)).length:=by
    have h1:=eW L (nodesA L).length (Ah _);rw[Bz,HOK.out.off_all]at h1;omega
   have CSEL:=Ad (λ(u:World) (hg:Grows w u)=>wG (shapeL L (nodesA L)) sb true pos i u HZ1.out aas q1 q2 (HS2.out.grows hg))
   have CRNK:Hid (∀(u:World),Grows w u->Calls Tryz.prog 152 #[.pointer (some ⟨sb,0,none⟩),.bool false,.int .i64 pos] u λe w'=>e=.returned (.int .i64 ((p+1:Nat):Int))/\u=w'):=λu hg=>by
    have h:=qS (shapeL L (nodesA L)) sb false pos u HZ1.out (by have:=HZ1.out;omega) (HS2.out.grows hg);rw[show min pos (shapeL L (nodesA L)).length=pos by omega,q3]at h
    exact h
   have wp1:IntKind.i64.wrap (((p+1:Nat):Int)-1)=p:=by simp[Au,Av,Aq];omega
   obtain⟨p1,hp1⟩:=exq (p+1);rw[<-hp1]at CRNK wp1;have z1:∀x:Ext Grows W2.drew,x.u.cell? ⟨tb,0,none⟩=some (.pointer (some ⟨sb,0,none⟩)):=aB ((Grows.drew W2).cell (g2.cell s1));have HPI:=Ad hpi;clear hN hB k1 k2 k3 hy o1 o2 hm o7 hb qg hA1 hi1 pr cw m1 m2 m3 q1 q2 q3 du aas hp1 hpi;go_wp2_with fail
   rw[<-fx];clear fx hov hof hlc l1r s1r;refine bF (aV 13 [9,10]) (by kernel_rfl) (λd _ _ _ _ h=>by cases d<;>exact h) ?_
   iterate 9 (refine aG rfl (λK hK=>?_);go_simp;refine hK _ ?_;clear hK K)
   clear z1;refine aY rfl rfl (λK hK=>?_);go_simp;refine(CSEL.out _ (g2.tr (Grows.drew W2))).mono ?_;rintro e w3 ⟨rfl,ax⟩;refine⟨ax,hK _ _ ?_⟩;clear hK K;have g3:Grows w w3:=(g2.tr (Grows.drew W2)).tr ax;refine aY rfl rfl (λK hK=>?_);go_simp;refine(CRNK.out _ g3).mono ?_;rintro e w4 ⟨rfl,rfl⟩;refine⟨Grows.refl _,hK _ _ ?_⟩;clear hK K;iterate 2 (refine aG rfl (λK hK=>?_);go_simp;refine hK _ ?_;clear hK K)
   refine bH ?_;have B4:w3.heap[w.heap.size]?=some (.cells (cs.setIfInBounds A1 (.int .u8 (b.toNat:Nat))) 215 (0,0)):=(Below.block ((Grows.drew W2).tr ax) _ ug).trans B2.out;replace B4:=Ad B4;clear ax B2 CSEL CRNK;go_wp2_with fail
   go_roundw
   case rel=>exact⟨A1,p,y,b::tl,_,by go_num,by go_num,by have:=N2.out.1;omega,by have:=HPI.out;omega,N2.out,⟨B4.out,CSZ.out,B3.out⟩,g3⟩
   case measure=>have:=HPI.out;simp[intOf];omega
  ·have sw:¬(0:Int)<i:=by omega
   obtain rfl:i=0:=by omega
   obtain⟨k1,k2,k3⟩:=hN.out
   have hx:x=rootS L:=by
    have h1:=HOK.out.fix;have h2:(rootS L::(nodesA L).flatMap (eY L))[0]?=some x:=by rw[<-h1];exact k2
    simpa using h2.symm
   have me:tl=nth L id:=by
    rw[<-k3,hx];simp[spanS,rootS]
   have aat:(convert 42 9 (.slice (some ⟨w.heap.size,A,none⟩) (256-A) (256-A))).run Tryz.prog wr=.ok (.string (mkB (nth L id))) wr:=by
    obtain⟨m1,m2,m3⟩:=hB.out;have hz:(mkB tl).size=tl.length:=by rw[Lib.size_eq,fA]
    have hBy:Lib.Bytes wr w.heap.size A (mkB tl):=λj hj=>by
     rw[hz]at hj;have h3:=m3 j _ (Aa hj);unfold Cm;simp only[m1,Option.isSome_none,Bt,if_false];exact h3
    have:=Lib.run_convert_whole (P:=Tryz.prog) wr 42 5 9 Tryz.underlying42 Tryz.underlying5 Tryz.underlying9 w.heap.size A (mkB tl) hBy (256-A)
    rw[hz,show tl.length=256-A by omega]at this
    rw[this,me]
   have du:0<tl.length:=by
    rw[me];exact List.length_pos_iff.2 (HOK.out.pos _ (Aj (gT hid)))
   have hAi:(A:Int)<=256:=by omega
   have hAn:¬256=A:=by omega
   have G:=Ad hG.out;clear hN hB k1 k2 k3 hx me du hG;go_wp2_with fail
   first
    | exact bodyPost_ret (v:=.tuple #[.string (mkB (nth L id)),.bool true]) (by simp[results,Tryz.results77,go_sem]) rfl ⟨rfl,G.out⟩
    | exact bodyPost_end (v:=.tuple #[.string (mkB (nth L id)),.bool true]) (by simp[results,Tryz.results77,go_sem]) rfl ⟨rfl,G.out⟩
end
section
open Go
theorem eP0 (L:List (List UInt8)):∀A:List dH,(labelsL L A).length=(A.flatMap (eY L)).length
 | []=>rfl
 | x::A=>by
  have:=eP0 L A
  unfold labelsL at *;rw[Bv,Bv,Ac,Ac,Ae,this]
theorem mT0 (L:List (List UInt8)) (i:Nat):offA L i=(labelsL L ((nodesA L).take i)).length+1:=by
 rw[eP0];unfold offA eP;rw[Az]
theorem OkL.many {L:List (List UInt8)} (h:OkL L) (hl:L.length<=20000):(nodesA L).length<=5120001:=by
 have h1:=congrArg Ce (tH0 h.asc);rw[Ae]at h1;have h2:=cE0 L 256;have h3:(hU1 L).length=(vT L 256).length:=rfl;omega
theorem xV (L:List (List UInt8)) (A:List dH) (x:dH):labelsL L (A++[x])=labelsL L A++(eY L x).map (pS L x):=by
 unfold labelsL;rw[Bq];simp
def uN (L:List (List UInt8)) (i:Nat):List Nat:=(kG L).map λk=>if k<i then k else 0
theorem nB (L:List (List UInt8)):(kG L).length=L.length:=by simp[kG]
theorem zC0 {L:List (List UInt8)}:uN L 0=Be L.length 0:=by
 unfold uN;apply Ap
 intro j;rw[Ab,Bh];by_cases h:j<L.length
 ·rw[Aa (by rw[nB];exact h),if_pos h]
  simp
 ·rw[Af (by rw[nB];omega),if_neg h];rfl
theorem OkL.ndTo_all {L:List (List UInt8)} (h:OkL L) {m:Nat} (hm:(nodesA L).length<=m):uN L m=kG L:=by
 unfold uN;have hl:=nB L;conv=>rhs;rw[<-List.map_id (kG L)]
 apply Br
 intro k hk;obtain⟨j,hj⟩:=List.mem_iff_getElem?.1 hk;have hjl:j<L.length:=by rw[<-hl];exact(List.getElem?_eq_some_iff.1 hj).1
 obtain⟨i,x,hi,hh,hx⟩:=h.node hjl
 have:=iZ h hjl hi hh hx
 rw[hj]at this;have ae:=(List.getElem?_eq_some_iff.1 hi).1;rw[if_pos (by have:=Option.some.inj this;omega)];rfl
theorem OkL.ndTo_succ {L:List (List UInt8)} (h:OkL L) {i:Nat} {x:dH} (hx:(nodesA L)[i]?=some x):uN L (i+1)=if iI L x=true then (uN L i).set x.i i else uN L i:=by
 have hl:=nB L
 have key:∀j,j<L.length->((kG L)[j]?=some i↔iI L x=true/\x.i=j):=λj hj=>by
  obtain⟨i',x',hi',hh',hx'⟩:=h.node hj;have h1:=iZ h hj hi' hh' hx';rw[h1];constructor
  ·intro e
   have e2:i'=i:=Option.some.inj e;subst e2;rw[hx]at hi';cases hi'
   exact⟨hh',hx'⟩
  ·rintro⟨a,b⟩
   have h2:=iZ h hj hx a b;rw[h1]at h2;exact h2
 apply Ap
 intro j;by_cases hj:j<L.length
 ·obtain⟨k,hk⟩:∃k,(kG L)[j]?=some k:=⟨_,Aa (by rw[hl];exact hj)⟩
  have e1:(uN L (i+1))[j]?=some (if k<i+1 then k else 0):=by unfold uN;rw[Ab,hk];rfl
  have e2:(uN L i)[j]?=some (if k<i then k else 0):=by unfold uN;rw[Ab,hk];rfl
  rw[e1];have gw:=key j hj;rw[hk]at gw;by_cases hh:iI L x=true
  ·rw[if_pos hh]
   by_cases hxj:x.i=j
   ·have:k=i:=Option.some.inj (gw.2 ⟨hh,hxj⟩)
    rw[hxj,Bj (by unfold uN;rw[Ae,hl];exact hj),if_pos (by omega),this]
   ·have:k≠i:=λe=>hxj (gw.1 (by rw[e])).2
    rw[Bn hxj,e2];congr 1
    by_cases h3:k<i
    ·rw[if_pos h3,if_pos (by omega)]
    ·rw[if_neg h3,if_neg (by omega)]
  ·rw[if_neg hh,e2]
   have:k≠i:=λe=>hh (gw.1 (by rw[e])).1
   congr 1
   by_cases h3:k<i
   ·rw[if_pos h3,if_pos (by omega)]
   ·rw[if_neg h3,if_neg (by omega)]
 ·have hn:∀m,(uN L m)[j]?=none:=λm=>Af (by unfold uN;rw[Ae,hl];omega)
  rw[hn];split
  ·rw[Af (by rw[Cf];unfold uN;rw[Ae,hl];omega)]
  ·rw[hn]
theorem dJ1 (L:List (List UInt8)) (i:Nat):(uN L i).length=L.length:=by unfold uN; rw[Ae,nB]
end
section
open Go Go.RowKit
def fG (L:List (List UInt8)) (s:List UInt8) (i:Nat):Prop:=∃x,(nodesA L)[i]?=some x/\spanS L x=s
theorem OkL.root0 {L:List (List UInt8)} (h:OkL L):(nodesA L)[0]?=some (rootS L):=by rw[h.fix]; rfl
theorem OkL.isRoot {L:List (List UInt8)} (h:OkL L):fG L [] 0:=⟨rootS L,h.root0,by simp[spanS,rootS]⟩
theorem fG.lt {L:List (List UInt8)} {s:List UInt8} {i:Nat} (h:fG L s i):i<(nodesA L).length:=by
 obtain⟨x,hx,_⟩:=h;exact(List.getElem?_eq_some_iff.1 hx).1
theorem OkL.lab {L:List (List UInt8)} (h:OkL L) {k:Nat} {y:dH} (h1:1<=k) (hy:(nodesA L)[k]?=some y):(labelsL L (nodesA L))[k-1]?=some ((spanS L y).getLastD 0):=by
 rw[h.labels,Ab,Bs,show 1+(k-1)=k by omega,hy];rfl
theorem OkL.off_pos {L:List (List UInt8)} (i:Nat):1<=offA L i:=by
 have:=lP (L:=L) (Bg i)
 rw[tX]at this;exact this
theorem OkL.kid_at {L:List (List UInt8)} (h:OkL L) {i k:Nat} {x:dH} (hx:(nodesA L)[i]?=some x) (h1:offA L i<=k) (h2:k<offA L (i+1)) :
  ∃y c,(nodesA L)[k]?=some y/\(labelsL L (nodesA L))[k-1]?=some c/\spanS L y=spanS L x++[c]/\y∈eY L x:=by
 have hk:k<(nodesA L).length:=Bd h2 (h.off_le (i+1));obtain⟨y,hy⟩:∃y,(nodesA L)[k]?=some y:=⟨_,Aa hk⟩;have hm:=h.kid hx h1 h2 hy;have hs:=vQ h.asc (h.good hx) hm;refine⟨y,_,hy,h.lab (Ck (OkL.off_pos i) h1) hy,?_,hm⟩;rw[hs];simp
theorem OkL.kid_of {L:List (List UInt8)} (h:OkL L) {i k:Nat} {s:List UInt8} {c:UInt8} (hi:fG L s i) (hn:fG L (s++[c]) k):offA L i<=k/\k<offA L (i+1)/\(labelsL L (nodesA L))[k-1]?=some c:=by
 obtain⟨x,hx,ex⟩:=hi;obtain⟨y,hy,ey⟩:=hn
 have hk:1<=k:=by
  rcases Bu k with e|e
  ·subst e
   rw[h.root0]at hy;obtain rfl:=Option.some.inj hy;simp[spanS,rootS]at ey
  ·exact e
 obtain⟨p,z,hz,_,o1,o2,hm⟩:=h.parent hk hy;have hs:=vQ h.asc (h.good hz) hm;rw[ey]at hs;have e1:=(Cc hs rfl).1;have e2:=(h.good hx).inj h.asc (h.good hz) (ex.trans e1);subst e2;obtain rfl:=h.uniq hx hz;refine⟨o1,o2,?_⟩;rw[h.lab hk hy,ey];simp
theorem OkL.kid_is {L:List (List UInt8)} (h:OkL L) {i k:Nat} {s:List UInt8} {c:UInt8} (hi:fG L s i) (h1:offA L i<=k) (h2:k<offA L (i+1)) (hc:(labelsL L (nodesA L))[k-1]?=some c):fG L (s++[c]) k:=by
 obtain⟨x,hx,ex⟩:=hi;obtain⟨y,d,hy,hd,hs,_⟩:=h.kid_at hx h1 h2;rw[hc]at hd;obtain rfl:=Option.some.inj hd;exact⟨y,hy,by rw[hs,ex]⟩
theorem OkL.node_pre {L:List (List UInt8)} (h:OkL L) {s:List UInt8} {c:UInt8} {k:Nat} (hn:fG L (s++[c]) k):∃i,fG L s i:=by
 obtain⟨y,hy,ey⟩:=hn
 have hk:1<=k:=by
  rcases Bu k with e|e
  ·subst e
   rw[h.root0]at hy;obtain rfl:=Option.some.inj hy;simp[spanS,rootS]at ey
  ·exact e
 obtain⟨p,z,hz,_,o1,o2,hm⟩:=h.parent hk hy;have hs:=vQ h.asc (h.good hz) hm;rw[ey]at hs;exact⟨p,z,hz,(Cc hs rfl).1.symm⟩
theorem OkL.no_more {L:List (List UInt8)} (h:OkL L):∀(t:List UInt8) {s:List UInt8},(∀i, ¬fG L s i)->∀i, ¬fG L (s++t) i
 | [],s,hs,i=>by rw[Bb];exact hs i
 | c::t,s,hs,i=>by
  rw[show s++c::t=(s++[c])++t by simp]
  exact h.no_more t (λk hk=>by
   obtain⟨j,hj⟩:=h.node_pre hk;exact hs j hj) i
theorem sO:∀(p a b:List UInt8),Al (p++a) (p++b)=Al a b
 | [],_,_=>rfl
 | c::p,a,b=>by
  have hc:¬c<c:=λh:c.toNat<c.toNat=>Nat.lt_irrefl _ h;rw[Cd,Cd];simp only[Al,hc,decide_false,Ch,beq_self_eq_true,Ci];exact sO p a b
theorem OkL.lab_lt {L:List (List UInt8)} (h:OkL L) {i k m:Nat} {x:dH} {c d:UInt8} (hx:(nodesA L)[i]?=some x) (h1:offA L i<=k) (h2:k<m) (h3:m<offA L (i+1))
  (hc:(labelsL L (nodesA L))[k-1]?=some c) (hd:(labelsL L (nodesA L))[m-1]?=some d):c.toNat<d.toNat:=by
 obtain⟨y,c',hy,hc',sy,my⟩:=h.kid_at hx h1 (Cj h2 h3);obtain⟨z,d',hz,hd',sz,mz⟩:=h.kid_at hx (Ck h1 (Bi h2)) h3;rw[hc]at hc';obtain rfl:=Option.some.inj hc';rw[hd]at hd';obtain rfl:=Option.some.inj hd';obtain⟨hk,ek⟩:=List.getElem?_eq_some_iff.1 hy;obtain⟨hm,em⟩:=List.getElem?_eq_some_iff.1 hz;have hb:=List.pairwise_iff_getElem.1 (jE h.asc) k m hk hm h2;rw[ek,em]at hb;have d1:=kM0 L x y my;have d2:=kM0 L x z mz;have hi:y.i<z.i:=by rcases hb with hb|hb<;>omega
 have gy:=h.good hy;have gz:=h.good hz
 have hzl:z.i<L.length:=by
  have:=gz.le
  rcases gz.ne with h|h<;>omega
 have ae:=h.asc.lt _ _ hi hzl
 have ey:nth L y.i=spanS L x++(c::(nth L y.i).drop y.d):=by
  have:=Am y.d (nth L y.i)
  rw[show (nth L y.i).take y.d=spanS L y from rfl,sy]at this
  exact this.symm.trans (Aw _ _ _)
 have ez:nth L z.i=spanS L x++(d::(nth L z.i).drop z.d):=by
  have:=Am z.d (nth L z.i)
  rw[show (nth L z.i).take z.d=spanS L z from rfl,sz]at this
  exact this.symm.trans (Aw _ _ _)
 rw[ey,ez,sO]at ae;simp only[Al,Bool.or_eq_true,Cb,decide_eq_true_eq,beq_iff_eq]at ae;rcases ae with ae|⟨ae,_⟩
 ·exact ae
 ·subst ae
  have e:=gy.inj h.asc gz (by rw[sy,sz]);subst e
  have:=h.uniq hy hz
  omega
def iA1 (L:List (List UInt8)) (i:Nat) (c:UInt8) (k:Nat) (b:Bool):Prop :=
 (b=true->offA L i<=k/\k<offA L (i+1)/\(labelsL L (nodesA L))[k-1]?=some c)/\(b=false->∀k,offA L i<=k->k<offA L (i+1)->(labelsL L (nodesA L))[k-1]?≠some c)
def iY0 (L:List (List UInt8)) (s:List UInt8) (k:Nat) (b:Bool):Prop:=(b=true->fG L s k)/\(b=false->∀k, ¬fG L s k)
theorem OkL.down_to {L:List (List UInt8)} (h:OkL L) {i k:Nat} {s:List UInt8} {c:UInt8} {b:Bool} (hi:fG L s i) (hd:iA1 L i c k b):iY0 L (s++[c]) k b:=by
 refine⟨λhb=>?_,λhb m hm=>?_⟩
 ·obtain⟨h1,h2,h3⟩:=hd.1 hb
  exact h.kid_is hi h1 h2 h3
 ·obtain⟨h1,h2,h3⟩:=h.kid_of hi hm
  exact hd.2 hb m h1 h2 h3
theorem zB {L:List (List UInt8)} {A:List dH} {i:Nat} {x:dH} (hx:A[i]?=some x):bitOf (isL L A) i=iI L x:=by
 unfold bitOf isL;rw[Ai,Ab,hx];rfl
theorem gC0 (L:List (List UInt8)) (A:List dH):∀i,i<=A.length->eA (isL L A) i=((A.take i).filter (iI L)).length
 | 0,_=>rfl
 | i+1,h=>by
  obtain⟨x,hx⟩:∃x,A[i]?=some x:=⟨_,Aa h⟩;rw[gE,gC0 L A i (by omega),zB hx,Bw,hx,Option.toList_some,As,Ac];congr 1
  by_cases hh:iI L x=true
  ·simp[hh]
  ·simp[hh]
theorem rO0 {L:List (List UInt8)} {A:List dH} {i:Nat} {x:dH} (hx:A[i]?=some x) (hh:iI L x=true):(idsL L A)[eA (isL L A) i]?=some x.i:=by
 have hi:=(List.getElem?_eq_some_iff.1 hx).1;rw[gC0 L A i (Bi hi)];unfold idsL
 have e:A=A.take i++(x::A.drop (i+1)):=by
  have h1:=List.drop_eq_getElem_cons hi;rw[(List.getElem?_eq_some_iff.1 hx).2]at h1;rw[<-h1,Am]
 have e2:A.filter (iI L)=(A.take i).filter (iI L)++(x::(A.drop (i+1)).filter (iI L)):=by
  conv=>lhs;rw[e]
  rw[As,List.filter_cons,if_pos hh]
 rw[e2,Bl,List.getElem?_append_right (by simp),Ae,Cl];rfl
theorem OkL.here_at {L:List (List UInt8)} (h:OkL L) {i:Nat} {x:dH} (hx:(nodesA L)[i]?=some x) (j:Nat):L[j]?=some (spanS L x)↔iI L x=true/\j=x.i:=qR h.asc (h.good hx) h.pos j
theorem OkL.of_mem {L:List (List UInt8)} (h:OkL L) {j:Nat} {s:List UInt8} (hj:L[j]?=some s):∃i,fG L s i:=by
 have hl:=(List.getElem?_eq_some_iff.1 hj).1;obtain⟨i,x,hx,hh,rz⟩:=h.node hl;refine⟨i,x,hx,?_⟩
 have:=(h.here_at hx j).2 ⟨hh,rz.symm⟩
 rw[hj]at this;exact(Option.some.inj this).symm
theorem OkL.strs_inj {L:List (List UInt8)} (h:OkL L) {i j:Nat} {s:List UInt8} (hi:L[i]?=some s) (hj:L[j]?=some s):i=j:=by
 obtain⟨k,x,hx,ex⟩:=h.of_mem hi;have a:=((h.here_at hx i).1 (by rw[ex];exact hi)).2;have b:=((h.here_at hx j).1 (by rw[ex];exact hj)).2;omega
theorem tH.begins {L:List (List UInt8)} (hL:Asc L) {x:dH} (g:tH L x) {j:Nat} (hj:j<L.length):(x.i<=j/\j<x.t)↔spanS L x <+: nth L j:=by
 have aht:spanS L x <+: nth L j↔x.d<=(nth L x.i).length/\x.d<=pC (nth L x.i) (nth L j)\/x.d=0:=by
  rw[List.prefix_iff_eq_take];constructor
  ·intro h
   by_cases h0:x.d=0
   ·exact Or.inr h0
   ·have ae:x.i<x.t:=by rcases g.ne with h|h<;>omega
    have hl:=g.len x.i (Ah _) ae;refine Or.inl ⟨hl,?_⟩;rw[jF];have hs:=g.slen;rw[hs]at h;refine⟨hl,?_,h⟩
    have:=congrArg Ce h
    rw[hs,Ay]at this;omega
  ·rintro(⟨h1,h2⟩|h0)
   ·rw[g.slen]
    exact((jF _ _ _).1 h2).2.2
   ·simp[spanS,h0]
 rw[aht];constructor
 ·rintro⟨h1,h2⟩
  by_cases h0:x.d=0
  ·exact Or.inr h0
  ·have hl:=g.len x.i (Ah _) (by omega)
   exact Or.inl ⟨hl,qJ hl j h1 (λm m1 m2=>g.inn m m1 (by omega))⟩
 ·rintro(⟨h1,h2⟩|h0)
  ·by_cases hd:x.d=0
   ·refine⟨?_,?_⟩
    ·rcases g.lo with h|h<;>omega
    ·rcases g.hi with h|h<;>omega
   ·have ae:x.i<x.t:=by rcases g.ne with h|h<;>omega
    refine⟨?_,?_⟩
    ·apply Ag
     intro hc;rcases g.lo with h|h
     ·omega
     ·rw[aW0]at h2
      have:=hL.all (e:=x.d) (i:=j) (j:=x.i) (m:=x.i) (by have:=g.le;omega) (by omega) (Ah _) h2
      omega
    ·apply Ag
     intro hc;rcases g.hi with h|h
     ·omega
     ·have:=hL.all (e:=x.d) (i:=x.i) (j:=j) (m:=x.t) hj (by omega) (by omega) h2
      omega
  ·refine⟨?_,?_⟩
   ·rcases g.lo with h|h<;>omega
   ·rcases g.hi with h|h<;>omega
theorem OkL.node_of_pre {L:List (List UInt8)} (h:OkL L) {s:List UInt8} {j:Nat} {t:List UInt8} (hj:L[j]?=some (s++t)):∃i,fG L s i:=by
 obtain⟨k,hk⟩:=h.of_mem hj;apply Ag
 intro hc;exact h.no_more t (λi hi=>hc ⟨i,hi⟩) k hk
def jI (L:List (List UInt8)) (s:List UInt8):Nat×Bool:=if s∈L then (L.findIdx λx=>decide (x=s),true) else (0,false)
theorem mD {L:List (List UInt8)} {s:List UInt8} (h:s∉L):jI L s=(0,false):=if_neg h
theorem OkL.findT_of {L:List (List UInt8)} (h:OkL L) {s:List UInt8} {j:Nat} (hj:L[j]?=some s):jI L s=(j,true):=by
 have hm:=Aj hj;unfold jI;rw[if_pos hm];have h1:L.findIdx (λx=>decide (x=s))<L.length:=Ax ⟨s,hm,by simp⟩;have h2:=List.findIdx_getElem (w:=h1);have h3:L[L.findIdx (λx=>decide (x=s))]?=some s:=by rw[Aa h1];exact congrArg some (of_decide_eq_true h2)
 rw[h.strs_inj h3 hj]
theorem OkL.find_node {L:List (List UInt8)} (h:OkL L) {i:Nat} {x:dH} (hx:(nodesA L)[i]?=some x):jI L (spanS L x)=if iI L x=true then (x.i,true) else (0,false):=by
 split
 ·rename_i hh
  exact h.findT_of ((h.here_at hx x.i).2 ⟨hh,rfl⟩)
 ·rename_i hh
  refine mD λhm=>?_;obtain⟨j,hj⟩:=List.mem_iff_getElem?.1 hm;exact hh ((h.here_at hx j).1 hj).1
theorem qG0 {L:List (List UInt8)} {s:List UInt8} (h:s∈L):(jI L s).1<L.length:=by
 unfold jI;rw[if_pos h];exact Ax ⟨s,h,by simp⟩
theorem OkL.noNode {L:List (List UInt8)} (h:OkL L) {s:List UInt8} (hn:∀i, ¬fG L s i):jI L s=(0,false):=mD λhm=>by
 obtain⟨j,hj⟩:=List.mem_iff_getElem?.1 hm;obtain⟨i,hi⟩:=h.of_mem hj;exact hn i hi
structure qB (L:List (List UInt8)) (i:Nat) (c:UInt8) (f t:Nat):Prop where
 lo:offA L i<=f
 le:f<=t
 hi:t<=offA L (i+1)
 left:∀k d,offA L i<=k->k<f->(labelsL L (nodesA L))[k-1]?=some d->d.toNat<c.toNat
 right:∀k d,t<=k->k<offA L (i+1)->(labelsL L (nodesA L))[k-1]?=some d->c.toNat<=d.toNat
theorem qB.start (L:List (List UInt8)) (i:Nat) (c:UInt8):qB L i c (offA L i) (offA L (i+1)) :=
 ⟨Ah _,lP (by omega),Ah _,λk d h1 h2=>by omega,λk d h1 h2=>by omega⟩
theorem qB.less {L:List (List UInt8)} {i f t:Nat} {c:UInt8} (h:OkL L) {x:dH} (hx:(nodesA L)[i]?=some x) (I:qB L i c f t) {m:Nat} {d:UInt8} (h1:f<=m) (h2:m<t) (hd:(labelsL L (nodesA L))[m-1]?=some d) (hc:d.toNat<c.toNat):qB L i c (m+1) t:=by
 refine⟨by have:=I.lo;omega,by omega,I.hi,λk e a b he=>?_,I.right⟩;rcases Bc k m with q|q
 ·have:=h.lab_lt hx a q (by have:=I.hi;omega) he hd
  omega
 ·obtain rfl:k=m:=by omega
  rw[hd]at he;obtain rfl:=Option.some.inj he;exact hc
theorem qB.more {L:List (List UInt8)} {i f t:Nat} {c:UInt8} (h:OkL L) {x:dH} (hx:(nodesA L)[i]?=some x) (I:qB L i c f t) {m:Nat} {d:UInt8} (h1:f<=m) (h2:m<t) (hd:(labelsL L (nodesA L))[m-1]?=some d) (hc:¬d.toNat<c.toNat):qB L i c f m :=
 ⟨I.lo,h1,by have:=I.hi;omega,I.left,λk e a b he=>by
  rcases Bc m k with q|q
  ·have:=h.lab_lt hx (by have:=I.lo;omega) q b hd he
   omega
  ·obtain rfl:k=m:=by omega
   rw[hd]at he;obtain rfl:=Option.some.inj he;omega⟩
theorem qB.hit {L:List (List UInt8)} {i f:Nat} {c:UInt8} (I:qB L i c f f) (h1:f<offA L (i+1)) (hd:(labelsL L (nodesA L))[f-1]?=some c):iA1 L i c f true :=
 ⟨λ_=>⟨I.lo,h1,hd⟩,λh=>by cases h⟩
theorem qB.ends {L:List (List UInt8)} {i f:Nat} {c:UInt8} (I:qB L i c f f) (h1:¬f<offA L (i+1)):iA1 L i c f false :=
 ⟨λh=>(by cases h),λ_ k a b he=>by have:=I.left k c a (by omega) he;omega⟩
theorem qB.miss {L:List (List UInt8)} {i f:Nat} {c d:UInt8} (h:OkL L) {x:dH} (hx:(nodesA L)[i]?=some x) (I:qB L i c f f) (h1:f<offA L (i+1)) (hd:(labelsL L (nodesA L))[f-1]?=some d) (hc:d≠c):iA1 L i c f false :=
 ⟨λh=>(by cases h),λ_ k a b he=>by
  rcases Nat.lt_trichotomy k f with q|q|q
  ·have:=I.left k c a q he
   omega
  ·subst q
   rw[hd]at he;exact hc (Option.some.inj he)
  ·have h2:=h.lab_lt hx I.lo q b hd he
   have h3:=I.right f d (Ah _) h1 hd;omega⟩
theorem OkL.lab_get {L:List (List UInt8)} (h:OkL L) {i k:Nat} {x:dH} (hx:(nodesA L)[i]?=some x) (h1:offA L i<=k) (h2:k<offA L (i+1)):∃d,(labelsL L (nodesA L))[k-1]?=some d:=by
 obtain⟨_,c,_,hc,_⟩:=h.kid_at hx h1 h2;exact⟨c,hc⟩
theorem OkL.walk_stop {L:List (List UInt8)} (h:OkL L) {s:List UInt8} {n k:Nat} (hw:iY0 L (s.take n) k false):iY0 L s k false :=
 ⟨λh=>(by cases h),λ_=>by
  have:=h.no_more (s.drop n) (hw.2 rfl)
  rw[Am]at this;exact this⟩
def vP0 (L:List (List UInt8)) (s:List UInt8) (i:Nat):List (Nat×Nat):=if s.take (i+1)∈L then [((jI L (s.take (i+1))).1,i+1)] else []
def hitsL (L:List (List UInt8)) (s:List UInt8) (n:Nat):List (Nat×Nat):=(An n).flatMap (vP0 L s)
theorem qX (L:List (List UInt8)) (s:List UInt8) (n:Nat):hitsL L s (n+1)=hitsL L s n++vP0 L s n:=by
 unfold hitsL;rw[Cg,Bq];simp
theorem cL0 {L:List (List UInt8)} {s:List UInt8} {q:Nat×Nat}:∀ {n:Nat},q∈hitsL L s n->q.1<L.length/\q.2<=n
 | 0,h=>by cases h
 | n+1,h=>by
  rw[qX]at h;rcases List.mem_append.1 h with h|h
  ·have:=cL0 h
   omega
  ·unfold vP0 at h
   split at h
   ·rename_i hm
    obtain rfl:q=((jI L (s.take (n+1))).1,n+1):=by simpa using h
    exact⟨qG0 hm,Ah _⟩
   ·cases h
theorem OkL.hits_256 {L:List (List UInt8)} (h:OkL L) {s:List UInt8}:∀ {n:Nat},n<=s.length->(hitsL L s n).length<=min n 256
 | 0,_=>Bg _
 | n+1,hn=>by
  have ih:=h.hits_256 (s:=s) (n:=n) (by omega);rw[qX,Ac];have h1:(vP0 L s n).length<=1:=by unfold vP0;split<;>simp
  rcases Bc n 256 with q|q
  ·omega
  ·have h2:vP0 L s n=[]:=by
    unfold vP0;rw[if_neg];intro hc
    have:=h.len _ hc
    rw[Ay]at this;omega
   rw[h2];simp only[List.length_nil];omega
theorem OkL.hits_stop {L:List (List UInt8)} (h:OkL L) {s:List UInt8} {n:Nat} (hn:∀i, ¬fG L (s.take (n+1)) i):∀m,n<=m->hitsL L s m=hitsL L s n
 | 0,hm=>by
  obtain rfl:n=0:=by omega
  rfl
 | m+1,hm=>by
  rcases Bc m n with q|q
  ·obtain rfl:n=m+1:=by omega
   rfl
  ·rw[qX,h.hits_stop hn m q]
   have:vP0 L s m=[]:=by
    unfold vP0;rw[if_neg];intro hc;obtain⟨j,hj⟩:=List.mem_iff_getElem?.1 hc;obtain⟨i,hi⟩:=h.of_mem hj
    have e:s.take (m+1)=s.take (n+1)++(s.take (m+1)).drop (n+1):=by
     have h1:=Am (n+1) (s.take (m+1));rw[List.take_take,Nat.min_eq_left (by omega)]at h1;exact h1.symm
    rw[e]at hi;exact h.no_more _ hn i hi
   rw[this,Bb]
theorem tL {L:List (List UInt8)} {d t:Nat}:∀(f:Nat) {i:Nat},t-i<=f->i<t->∃y,(fB L d t i).getLast?=some y/\y.t=t
 | 0,i,h1,h2=>by omega
 | f+1,i,h1,h2=>by
  rw[eC h2];have hk:=uC L (d:=d) h2;by_cases he:dW L d t i<t
  ·obtain⟨y,hy,ht⟩:=tL f (i:=dW L d t i) (by omega) he
   refine⟨y,?_,ht⟩;rw[List.getLast?_cons,hy];rfl
  ·rw[gB he]
   exact⟨_,rfl,by show dW L d t i=t;omega⟩
theorem OkL.first_kid {L:List (List UInt8)} (h:OkL L) {i:Nat} {x:dH} (hx:(nodesA L)[i]?=some x) (hl:x.i<x.t) (hh:iI L x=false):offA L i<offA L (i+1)/\∃y,(nodesA L)[offA L i]?=some y/\y.i=x.i:=by
 have hk:eY L x=⟨x.i,dW L x.d x.t x.i,x.d+1⟩::fB L x.d x.t (dW L x.d x.t x.i):=by
  unfold eY cF;rw[hh];exact eC hl
 have h1:offA L i<offA L (i+1):=by
  rw[iN hx,hk,Az];omega
 refine⟨h1,⟨x.i,dW L x.d x.t x.i,x.d+1⟩,?_,rfl⟩;have h2:=sN h.fix hx (k:=offA L i) (Ah _) h1;rw[h2,hk];show (_::_)[offA L i-offA L i]?=_
 rw[Cl];rfl
theorem OkL.last_kid {L:List (List UInt8)} (h:OkL L) {i:Nat} {x:dH} (hx:(nodesA L)[i]?=some x) (h1:offA L i<offA L (i+1)):∃y,(nodesA L)[offA L (i+1)-1]?=some y/\y.t=x.t:=by
 have h2:=sN h.fix hx (k:=offA L (i+1)-1) (show offA L i<=_ by omega) (show _<offA L (i+1) by omega)
 have ho:=iN hx
 have ae:cF L x<x.t:=by
  apply Ag
  intro hc
  have:eY L x=[]:=gB hc
  rw[this]at ho;simp at ho;omega
 obtain⟨y,hy,ht⟩:=tL (L:=L) (d:=x.d) (t:=x.t) (x.t-cF L x) (Ah _) ae;refine⟨y,?_,ht⟩;rw[h2];show (eY L x)[offA L (i+1)-1-offA L i]?=_
 rw[List.getLast?_eq_getElem?]at hy;rw[ho,show offA L i+(eY L x).length-1-offA L i=(eY L x).length-1 by omega]
 exact hy
theorem OkL.no_kid {L:List (List UInt8)} {i:Nat} {x:dH} (hx:(nodesA L)[i]?=some x) (hl:x.i<x.t) (h1:¬offA L i<offA L (i+1)):iI L x=true/\x.t=x.i+1:=by
 have ho:=iN hx
 have ae:¬cF L x<x.t:=λhc=>by
  have:eY L x=_:=eC hc
  rw[this,Az]at ho;omega
 unfold cF at ae
 cases hh:iI L x with
 | true =>
  rw[hh]at ae;simp only[if_true]at ae;exact⟨rfl,by omega⟩
 | false =>
  rw[hh]at ae;simp only[Bt,if_false]at ae;exact absurd hl ae
theorem OkL.span_pos {L:List (List UInt8)} (h:OkL L) (hL:0<L.length) {i:Nat} {x:dH} (hx:(nodesA L)[i]?=some x):x.i<x.t:=by
 have g:=h.good hx;rcases g.ne with hl|hd
 ·exact hl
 ·have e:x=rootS L:=g.inj h.asc (kN0 L) (by
   have h1:=g.slen;rw[hd]at h1;rw[List.length_eq_zero_iff.1 h1];simp[spanS,rootS])
  rw[e];exact hL
def fQ (L:List (List UInt8)) (p:List UInt8):List Nat:=(An L.length).filter λj=>p.isPrefixOf (nth L j)
theorem OkL.below_node {L:List (List UInt8)} (h:OkL L) {i:Nat} {x:dH} (hx:(nodesA L)[i]?=some x):fQ L (spanS L x)=At x.i (x.t-x.i):=by
 have g:=h.good hx;have fo:=g.le;unfold fQ
 have e2:An L.length=An x.i++(At x.i (x.t-x.i)++At x.t (L.length-x.t)):=by
  have h1:At x.i (x.t-x.i)++At x.t (L.length-x.t)=At x.i (L.length-x.i):=by
   have:=Bo (s:=x.i) (m:=x.t-x.i) (n:=L.length-x.t)
   rw[show x.i+(x.t-x.i)=x.t by omega,show x.t-x.i+(L.length-x.t)=L.length-x.i by omega]at this
   exact this
  have h2:=Bo (s:=0) (m:=x.i) (n:=L.length-x.i);rw[Nat.zero_add,show x.i+(L.length-x.i)=L.length by omega]at h2
  rw[h1,Bp,Bp,h2]
 have key:∀j,j<L.length->((spanS L x).isPrefixOf (nth L j)=true↔x.i<=j/\j<x.t):=λj hj=>by
  rw[Ar];exact(g.begins h.asc hj).symm
 rw[e2,As,As]
 have f1:(An x.i).filter (λj=>(spanS L x).isPrefixOf (nth L j))=[]:=List.filter_eq_nil_iff.2 (λj hj=>by
  rw[Bf]at hj;rw[key j (by omega)];omega)
 have f3:(At x.t (L.length-x.t)).filter (λj=>(spanS L x).isPrefixOf (nth L j))=[]:=List.filter_eq_nil_iff.2 (λj hj=>by
  rw[By]at hj;rw[key j (by omega)];omega)
 rw[f1,f3,Bb,Bk,List.filter_eq_self];intro j hj;rw[By]at hj;exact(key j (by omega)).2 (by omega)
theorem OkL.below_none {L:List (List UInt8)} (h:OkL L) {p:List UInt8} (hn:∀i, ¬fG L p i):fQ L p=[]:=by
 unfold fQ;refine List.filter_eq_nil_iff.2 λj hj hp=>?_;rw[Bf]at hj;rw[Ar]at hp;obtain⟨t,ht⟩:=hp;obtain⟨i,hi⟩:=h.node_of_pre (j:=j) (s:=p) (t:=t) (by rw[ht];exact gT hj);exact hn i hi
theorem OkL.below_long {L:List (List UInt8)} (h:OkL L) {p:List UInt8} (hn:256<p.length):fQ L p=[]:=by
 unfold fQ;refine List.filter_eq_nil_iff.2 λj hj hp=>?_;rw[Bf]at hj;rw[Ar]at hp
 have:=hp.length_le
 have:=h.len _ (Aj (gT hj))
 omega
def cL1 (L:List (List UInt8)) (k:Nat):Nat:=(An (k+1)).countP λq=>decide (offA L (q+1)<=k)
theorem aE1 {L:List (List UInt8)} {p k:Nat} (hp:p<=k) (h1:offA L p<=k) (h2:k<offA L (p+1)):cL1 L k=p:=by
 unfold cL1;rw[qV _ p (k+1) (λq _=>?_)]
 ·omega
 ·rw[Bool.eq_iff_iff]
  simp only[decide_eq_true_eq];constructor
  ·intro h
   apply Ag
   intro hc
   have:=lP (L:=L) (show p+1<=q+1 by omega)
   omega
  ·intro h
   have:=lP (L:=L) (show q+1<=p by omega)
   omega
def mD0 (L:List (List UInt8)) (m:Nat):List Nat:=(An m).map (cL1 L)
def yG (L:List (List UInt8)) (m:Nat):List Nat:=((nodesA L).take m).map (·.d)
theorem cJ1 (L:List (List UInt8)) (m:Nat):mD0 L (m+1)=mD0 L m++[cL1 L m]:=by
 unfold mD0;rw[Cg,Bl];rfl
theorem nU (L:List (List UInt8)) (m:Nat):(mD0 L m).length=m:=by simp[mD0]
theorem dC1 {L:List (List UInt8)} {m k:Nat} (h:k<m):(mD0 L m)[k]?=some (cL1 L k):=by
 unfold mD0;rw[Ab,Ak h];rfl
theorem lN0 {L:List (List UInt8)} {m:Nat} {y:dH} (h:(nodesA L)[m]?=some y):yG L (m+1)=yG L m++[y.d]:=by
 unfold yG;rw[Bw,h,Bl];rfl
theorem rE0 {L:List (List UInt8)} {m:Nat} (h:m<=(nodesA L).length):(yG L m).length=m:=by
 unfold yG;rw[Ae,Ay];omega
theorem fZ0 {L:List (List UInt8)} {m k:Nat} {y:dH} (h:k<m) (hy:(nodesA L)[k]?=some y):(yG L m)[k]?=some y.d:=by
 unfold yG;rw[Ab,List.getElem?_take,if_pos h,hy];rfl
theorem OkL.depT_one {L:List (List UInt8)} (h:OkL L):yG L 1=[0]:=by
 rw[lN0 h.root0];rfl
theorem fR1 (L:List (List UInt8)):mD0 L 1=[0]:=by
 unfold mD0
 have:cL1 L 0=0:=by
  unfold cL1;have h:=lP (L:=L) (Bg 1);rw[tX]at h;rw[List.countP_eq_zero];intro q hq;obtain rfl:q=0:=by simpa using hq
  simp;omega
 simp[this]
def lW (L:List (List UInt8)) (i:Nat):List ByteArray:=(An L.length).map λj=>if (kG L).getD j 0<i then mkB (nth L j) else ⟨#[]⟩
theorem uF (L:List (List UInt8)) (i:Nat):(lW L i).length=L.length:=by simp[lW]
theorem vZ0 (L:List (List UInt8)):lW L 0=Be L.length (⟨#[]⟩:ByteArray):=by
 apply Ap
 intro j;unfold lW;rw[Ab,Bh];by_cases h:j<L.length
 ·rw[Ak h,if_pos h];simp
 ·rw[Af (by simp;omega),if_neg h];rfl
theorem OkL.strTo_all {L:List (List UInt8)} (h:OkL L) {m:Nat} (hm:(nodesA L).length<=m):lW L m=L.map mkB:=by
 apply Ap
 intro j;unfold lW;rw[Ab,Ab];by_cases hj:j<L.length
 ·rw[Ak hj,gT hj]
  obtain⟨i,x,hx,hh,rz⟩:=h.node hj;have hn:=iZ h hj hx hh rz;have hi:=(List.getElem?_eq_some_iff.1 hx).1;simp only[Ao];rw[Ai,hn,Ba,if_pos (by omega)]
 ·rw[Af (by simp;omega),Af (by omega)];rfl
theorem OkL.strTo_no {L:List (List UInt8)} (h:OkL L) {i:Nat} {x:dH} (hx:(nodesA L)[i]?=some x) (hh:iI L x=false):lW L (i+1)=lW L i:=by
 unfold lW;apply Br
 intro j hj;rw[Bf]at hj;obtain⟨k,y,hy,hh2,hyj⟩:=h.node hj;rw[Ai,iZ h hj hy hh2 hyj,Ba]
 have aj:k≠i:=by
  rintro rfl;rw[hx]at hy;obtain rfl:=Option.some.inj hy;rw[hh]at hh2;cases hh2
 by_cases hk:k<i
 ·rw[if_pos (by omega),if_pos hk]
 ·rw[if_neg (by omega),if_neg hk]
theorem OkL.strTo_yes {L:List (List UInt8)} (h:OkL L) {i:Nat} {x:dH} (hx:(nodesA L)[i]?=some x) (hh:iI L x=true):lW L (i+1)=(lW L i).set x.i (mkB (spanS L x)):=by
 have hL:L[x.i]?=some (spanS L x):=(h.here_at hx x.i).2 ⟨hh,rfl⟩;have hxl:=(List.getElem?_eq_some_iff.1 hL).1;apply Ap
 intro j;by_cases hj:j<L.length
 ·obtain⟨k,y,hy,hh2,hyj⟩:=h.node hj
  have hn:=iZ h hj hy hh2 hyj;by_cases he:j=x.i
  ·subst he
   rw[Bj (by rw[uF];exact hj)];unfold lW;rw[Ab,Ak hj,Ao]
   have dg:k=i:=by
    have e1:=(h.here_at hy x.i).2 ⟨hh2,hyj.symm⟩;rw[hL]at e1
    have:=(h.good hy).inj h.asc (h.good hx) (Option.some.inj e1).symm
    subst this;exact h.uniq hy hx
   rw[Ai,hn,Ba,if_pos (by omega),tY hL]
  ·rw[Bn (Ne.symm he)]
   unfold lW;rw[Ab,Ab,Ak hj,Ao,Ao,Ai,hn,Ba]
   have aj:k≠i:=by
    rintro rfl;rw[hx]at hy;obtain rfl:=Option.some.inj hy;exact he hyj.symm
   by_cases hk:k<i
   ·rw[if_pos (by omega),if_pos hk]
   ·rw[if_neg (by omega),if_neg hk]
 ·rw[Af (by rw[uF];omega),Af (by rw[Cf,uF];omega)]
theorem OkL.climb {L:List (List UInt8)} (h:OkL L) {X:Nat} {y:dH} (h0:0<X) (hy:(nodesA L)[X]?=some y):∃z c,(nodesA L)[cL1 L X]?=some z/\cL1 L X<X/\(labelsL L (nodesA L))[X-1]?=some c/\spanS L y=spanS L z++[c]/\y.d=z.d+1:=by
 obtain⟨p,z,hz,hpX,o1,o2,hm⟩:=h.parent h0 hy;have hs:=vQ h.asc (h.good hz) hm;rw[aE1 (Bi hpX) o1 o2];refine⟨z,_,hz,hpX,h.lab h0 hy,?_,kM0 L z y hm⟩;rw[hs];simp
theorem xD0 {d:Nat} {c:UInt8} {tl:List UInt8}:(Be (d+1) (0:UInt8)++tl).set d c=Be d 0++(c::tl):=by
 rw[List.replicate_succ',Aw,List.set_append_right _ _ (by simp)];simp
end
end Go.Proofs.YtcijgkfpobpdbaaGreatDoor
