/- The texts BvE LoC TrE Txt LbP TriQ TriR BvD Tri1 LoP GroP, one behind the other. -/
import Derived.Test.YtaogeadljgjpcaaGreatDoorRq33
import Derived.Test.YtaogeadljgjpcaaGreatDoorRq39
import Derived.Test.YtaogeadljgjpcaaGreatDoorRq25
import Derived.Test.YtaogeadljgjpcaaGreatDoorRq34
import Derived.Test.YtaogeadljgjpcaaGreatDoorRq6
import Derived.Test.YtaogeadljgjpcaaGreatDoorRq4
import Derived.Test.YtaogeadljgjpcaaGreatDoorRq22
import Derived.Test.YtaogeadljgjpcaaGreatDoorRq7
import Derived.Test.YtaogeadljgjpcaaGreatDoorRq23
open Go.Lib renaming hid → Aa
open List renaming length_append → Ab,getElem?_eq_getElem → Ac,getElem?_map → Ad,length_map → Af,getElem?_eq_none → Ai,mem_of_getElem? → Aj,getD_eq_getElem?_getD → Ak,getElem?_range → Ao,append_assoc → Ar,length_take → As,take_of_length_le → At,take_append_drop → Au,ext_getElem? → Av,take_length → Aw,flatMap_cons → Az,range → Ba,length_drop → Bb,ne_nil_of_mem → Bf,replicate → Bg,drop_eq_getElem_cons → Bk,ne_nil_of_length_pos → Bn,length_cons → Bp,getElem?_replicate → Bq,getElem?_set_self → Bs,append_nil → Bu,map_append → Bv,length → Bz,getElem?_set_ne → Ca,flatMap_append → Cb,map_congr_left → Cc,getElem?_drop → Cd,filter_append → Cg,getElem?_take → Ch,take_add_one → Cj,append_inj' → Cl,cons_append → Cm,nil_append → Cp,length_set → Cq,range_succ → Cr,drop_left' → Cu
open Go.IntKind renaming signed → Ae,wrap → Ag,bits → Ah
open Nat renaming le_refl → Al,zero_le → Aq,lt_or_ge → Bd,lt_of_lt_of_le → Be,le_of_lt → Br,eq_zero_or_pos → Cf,le_trans → Ci,mod_eq_of_lt → Cn,lt_succ_self → Co,lt_trans → Cx
open UInt8 renaming ofNat → Am
open Option renaming map_some → An,getD_some → Bc
open Go.Op renaming bytesLess → Ap
open Go.World renaming cell?_setCell_other → Ax,block_lt_of_cell? → Ay,cell?_setCell_same → Bo,frozen?_of_block → Bt,frozen?_setCell → By,cell? → Cy
open Int renaming tdiv_eq_ediv_of_nonneg → Bh,tmod_eq_emod_of_nonneg → Bi,natCast_mul → Bw,natCast_add → Ct
open Classical renaming byContradiction → Bj
open Bool renaming false_eq_true → Ce,and_eq_true → Ck,false_or → Cv,true_and → Cw
set_option maxHeartbeats 8000000
namespace Go.Proofs.YtaogeadljgjpcaaGreatDoor
set_option maxRecDepth 100000
section
open Go Go.RowKit
attribute [local go_sem] aQ aM
theorem wS0 {l:List Bool} {k x:Nat} (h:(tW l)[k]?=some x):x<=l.length+512:=by
 unfold tW at h;rw[Ad]at h
 cases hg:(Ba ((l.length+511)/512))[k]? with
 | none=>rw[hg]at h;cases h
 | some g =>
  rw[hg]at h;have h1:dY l (512*g)=x:=Option.some.inj h;obtain⟨h2,h3⟩:=List.getElem?_eq_some_iff.1 hg;rw[List.length_range]at h2;rw[List.getElem_range]at h3
  have:=nV l (512*g)
  omega
theorem eW0 (l:List Bool) (vb:Nat) (w:World) (hl:l.length<=1048576) (ac:kE w vb l) :
  Calls Tryz.prog 185 #[.pointer (some ⟨vb,0,none⟩)] w λe w'=>∃v,e=.returned v/\aV w' w.heap.size 5 1 aZ v (oP l)/\aB w w':=by
 have c0:=ac.c0;obtain⟨vW,c1,j7⟩:=ac.c1;obtain⟨aW,cW,rfl,_,_,gk⟩:=j7.at_ (enc:=kG) (λ_=>rfl);obtain⟨vC,c2,je⟩:=ac.c2;obtain⟨aC,cC,rfl,_,_,qf⟩:=je.at_ (enc:=lJ) (λ_=>rfl);have aew:∀q:Addr,aW=some q->q.block<w.heap.size:=λq hq=>gM j7 q.block (by rw[hq];rfl);have aex:vb<w.heap.size:=Ay w _ c0;have hq:=fW l;have hCl:(tW l).length=(l.length+511)/512:=by simp[tW]
 obtain⟨Cs,hCs⟩:=exq (tW l);rw[<-hCs]at c2 qf hCl
 have m0:∀k x,Cs[k]?=some x->x<=1049088:=λk x hx=>by
  rw[hCs]at hx
  have:=wS0 hx
  omega
 obtain⟨Ws,hWs⟩:=exq (nA l);rw[<-hWs]at gk hq c1;have vj:Ws.length<=16384:=by omega
 have fj:∀n∈Ws,n<18446744073709551616:=λn hn=>by
  rw[hWs]at hn;unfold nA at hn;obtain⟨k,_,rfl⟩:=List.mem_map.1 hn;exact oU l k
 have HE:Hid (oP l=leB 4 l.length++kW 8 Ws++kW 4 Cs):=by show _=_;rw[hWs,hCs];rfl
 have HW64:=Aa fj;have HCB:=Aa m0;have HATC:=Aa qf;have HATW:=Aa gk;have lr:Cs.length<=2049:=by omega
 have wn:IntKind.u64.wrap (l.length:Int)=l.length:=by simp[Ag,Ah,Ae];omega
 have z0:∀y:Ext (EB w.heap.size) w.drew,y.u.cell? ⟨vb,0,none⟩=some (.int .i64 l.length):=aT0 aex ((aB.drew w).cell c0);have z1:∀y:Ext (EB w.heap.size) w.drew,y.u.cell? ⟨vb,1,none⟩=some (.slice aW Ws.length cW):=aT0 aex ((aB.drew w).cell c1);obtain⟨n,aj⟩:=exq l.length;rw[<-aj]at HE wn z0 hl;have ad9:=Aa aew;clear ac c0 j7 je qf gk hq aew hCs hCl m0 hWs fj aj c1;go_enter Tryz.func185,Tryz.ntmps185
 go_wp2_with fail
 refine lP (EB w.heap.size) (oK [0,1,2,3,4,7,8,9,10,5,6,11,12] [5,6,11,12]) (EB.refl w.heap.size) (EB.trans w.heap.size) (by kernel_rfl) (by kernel_rfl) (λd _ _ _ _ h=>by cases d<;>exact h) ?_
 iterate 9 (refine aH rfl (λK hK=>?_);go_simp;refine hK _ ?_;clear hK K)
 clear z0 z1;refine bJ rfl rfl (λK hK=>?_);go_simp;refine⟨EB.of (aB.alloc _ _) (Al _),hK _ _ ?_⟩;clear hK K;have vx:=vY (enc:=kG) (w:=w) (t:=192) (fz:=(0,0)) (cs:=#[.int .u64 n]) (λ_=>rfl) [n] rfl;obtain⟨W1,bu⟩:=exq ((w.alloc (.cells #[.int .u64 n] 192)).drew);have aq:aB w W1:=by rw[bu];exact(aB.alloc _ _).dr
 have ed:w.heap.size<W1.heap.size:=by rw[bu];simp
 have aao:aG W1 (some ⟨w.heap.size,0,none⟩) 1 ([n].map kG):=by rw[bu];exact vx.grows (aB.drew _)
 rw[<-bu];clear bu vx;refine bJ rfl rfl (λK hK=>?_);go_simp;refine(fW0 (.slice none 0 0) [] 4 [n] (some ⟨w.heap.size,0,none⟩) 1 W1 W1 (aB.refl _) (by decide) (by simp) (by simp) (λm hm=>by obtain rfl:=List.mem_singleton.1 hm;omega) (aV.nil _ _ _ _ _) aao (λq _ h=>by cases h) (λq hq=>by cases hq;exact ed)).mono ?_;rintro e w2 ⟨v2,rfl,ai,af,aho⟩;rw[Cp]at ai;refine⟨EB.of af (Br ed),hK _ _ ?_⟩;clear hK K;have hp4:(kW 4 [n]).length=4:=by rw[tF];rfl
 have aey:∀q:Addr,aW=some q->q.block<W1.heap.size:=λq hq=>Cx (ad9.out q hq) ed;refine bJ rfl rfl (λK hK=>?_);go_simp;refine(fW0 v2 (kW 4 [n]) 8 Ws aW cW W1 _ af (by decide) (by omega) (by omega) HW64.out ai (HATW.out.grows (aq.tr af)) (kM0 ai aey) (λr hr=>Be (aey r hr) af.size)).mono ?_;rintro e w3 ⟨v3,rfl,au,ay,vy⟩;refine⟨EB.both (aq.tr af) (aq.tr ay) vy,hK _ _ ?_⟩;clear hK K;refine bJ rfl rfl (λK hK=>?_);go_simp;refine⟨EB.refl _ _,hK _ _ ?_⟩;clear hK K;refine bQ ?_;have j6:=aq.tr ay;obtain⟨P3,hP3⟩:=exq (kW 4 [n]++kW 8 Ws);rw[<-hP3]at au;have hp3:P3.length<=4+8*16384:=by rw[hP3,Ab,hp4,tF];omega
 have HE3:Hid (oP l=P3++kW 4 Cs):=by show _=_;rw[HE.out,hP3];unfold kW;simp
 replace au:=au.base (base':=w.heap.size) aq.size;have c2r:=j6.cell c2;clear hP3 ai af ay aq aao hp4 HE c2;go_wp2_with fail
 go_loopw [3,25] (λout i wr=>∃(k:Nat) (bz:List UInt8),k<=Cs.length/\i=.int .i64 k/\Hid (bz=P3++kW 4 (Cs.take k))/\aV wr w.heap.size 5 1 aZ out bz/\aB w wr) (λ_ i _=>Cs.length-(intOf i).toNat)
 case atStart=>exact⟨0,P3,Aq _,rfl,(by show _=_;simp[kW]),au,j6⟩
 case round =>
  obtain⟨k,bz,hk,rfl,cd,aa,hg⟩:=hrel
  have og:bz.length<=4+8*16384+4*k:=by
   rw[cd.out,Ab,tF,As];omega
  by_cases ae:k<Cs.length
  ·obtain⟨x,hx⟩:∃x,Cs[k]?=some x:=⟨_,Ac ae⟩
   obtain⟨b,o,rfl,hc⟩:=at1 HATC.out (aK ae);have gq:=hg.cell (hc k x hx);have ng:=HCB.out k x hx;have wx:IntKind.u64.wrap (x:Int)=x:=by simp[Ag,Ah,Ae];omega
   have HN:Hid (bz++kW 4 [x]=P3++kW 4 (Cs.take (k+1))):=by
    show _=_
    rw[bM hx,dA0,cd.out,Ar];simp[kW]
   have cn:(k:Int)<Cs.length:=by omega
   have vx:=vY (enc:=kG) (w:=wr) (t:=192) (fz:=(0,0)) (cs:=#[.int .u64 x]) (λ_=>rfl) [x] rfl;have CP:=fW0 _ bz 4 [x] (some ⟨wr.heap.size,0,none⟩) 1 w (wr.alloc (.cells #[.int .u64 x] 192)) (hg.al _) (by decide) (by omega) (by simp) (λm hm=>by obtain rfl:=List.mem_singleton.1 hm;omega) (aa.grows (aB.alloc _ _)) vx (aG1 aa (λr hr=>by cases hr;exact Al _)) (λr hr=>by cases hr;simp);clear hc hx cd vx;go_wp2_with fail
   refine CP.mono ?_;rintro e w5 ⟨v5,rfl,an,bk,_⟩;go_wp2_with fail
   go_roundw
   case rel=>exact⟨k+1,_,ae,by go_num,HN.out,an,bk⟩
   case measure=>simp[intOf];omega
  ·have cn:¬(k:Int)<Cs.length:=by omega
   have HF:Hid (bz=oP l):=by
    show _=_
    rw[cd.out,At (by omega),HE3.out]
   clear cd;go_wp2_with fail
   go_ret;exact⟨_,rfl,by rw[<-HF.out];exact aa,hg⟩
def mA0 (L:List (List UInt8)):Nat:=if 20000<L.length then 2 else if oR L=true then 1 else 0
theorem pJ0 (B:List ByteArray) (a:Option Addr) (c:Nat) (w:World) (hB:B.length<=1099511627776) (du:∀s∈B,s.size<=1099511627776) (ac:aG w a 1 (B.map stC)) :
  Calls Tryz.prog 170 #[.slice a B.length c] w λe w'=>e=.returned (.int .i64 (mA0 (bls B)))/\w=w':=by
 have HAT:=Aa ac;have HSZ:=Aa du;clear ac du;by_cases cy:20000<B.length
 ·have kr:(20000:Int)<B.length:=by omega
  have HF:Hid (mA0 (bls B)=2):=by show _=_;unfold mA0;rw[dP,if_pos cy]
  go_enter Tryz.func170,Tryz.ntmps170
  go_wp2_with fail
  go_ret;exact⟨by rw[HF.out];rfl,rfl⟩
 have kr:¬(20000:Int)<B.length:=by omega
 have HF:Hid (mA0 (bls B)=if oR (bls B)=true then 1 else 0):=by show _=_;unfold mA0;rw[dP,if_neg cy]
 have HIT:Hid (∀k,k<B.length->bT0 (bls B) k=true->mA0 (bls B)=1):=λk hk hb=>by rw[HF.out,if_pos (sN0 (by rw[dP];exact hk) hb)]
 go_enter Tryz.func170,Tryz.ntmps170
 go_wp2_with fail
 go_loop [10] (λi=>∃k:Nat,k<=B.length/\i=.int .i64 k/\Hid (∀j,j<k->bT0 (bls B) j=false)) (λi=>B.length-(intOf i).toNat)
 case atStart=>exact⟨0,Aq _,rfl,λj hj=>by omega⟩
 case round =>
  obtain⟨k,hk,rfl,cw⟩:=hrel;by_cases ae:k<B.length
  ·obtain⟨s,hx⟩:∃x,B[k]?=some x:=⟨_,Ac ae⟩
   obtain⟨b,o,rfl,hc⟩:=at1 HAT.out (aK ae);have hcw:=hc k s hx;have hn:=eO hx;have ajf:=HSZ.out s (Aj hx);have cn:(k:Int)<B.length:=by omega
   have HBD:Hid (bT0 (bls B) k=(decide (s.size<1)||decide (256<s.size)||(decide (0<k) && !Ap (nth (bls B) (k-1)) (bl s)))):=by show _=_;unfold bT0;rw[hn,dJ]
   have abq:s.toList=[]↔s.size<1:=by
    rw[<-mI0,<-dJ];constructor
    ·intro h;rw[h];decide
    ·intro h;exact List.eq_nil_of_length_eq_zero (by omega)
   by_cases h1:s.size<1
   ·have HB:=Aa (HIT.out k ae (by rw[HBD.out];simp[h1]))
    have he1:s.toList.isEmpty=true:=by rw[abq.2 h1];rfl
    clear hc hx hn h1 abq;go_wp2_with fail
    go_ret;exact⟨by rw[HB.out];rfl,rfl⟩
   ·have aix:s.toList.isEmpty=false:=by
     cases hh:s.toList.isEmpty
     ·rfl
     ·exact absurd (abq.1 (List.isEmpty_iff.1 hh)) h1
    clear abq;by_cases h2:256<s.size
    ·have h2i:(256:Int)<s.size:=by omega
     have HB:=Aa (HIT.out k ae (by rw[HBD.out];simp[h2]));clear hc hx hn;go_wp2_with fail
     go_ret;exact⟨by rw[HB.out];rfl,rfl⟩
    ·have h2i:¬(256:Int)<s.size:=by omega
     by_cases h0:k=0
     ·have h0i:¬0<k:=by omega
      have HN:Hid (∀j,j<k+1->bT0 (bls B) j=false):=λj hj=>by
       have er:decide (s.size<1)=false:=decide_eq_false h1;have g9:decide (256<s.size)=false:=decide_eq_false h2;have mf:decide (0<k)=false:=decide_eq_false h0i;rw[show j=k by omega,HBD.out,er,g9,mf];rfl
      clear hc hx hn h0;go_wp2_with fail
      go_round
      case rel=>exact⟨k+1,ae,by go_num,HN.out⟩
      case measure=>simp[intOf];omega
     ·have h0i:0<k:=by omega
      obtain⟨t,fu⟩:∃x,B[k-1]?=some x:=⟨_,Ac (by omega)⟩;have ajg:=hc (k-1) t fu;have hk1:(k:Int)-1=((k-1:Nat):Int):=by omega
      have jq:((k-1:Nat):Int)<B.length:=by omega
      have il:IntKind.i64.wrap ((k-1:Nat):Int)=((k-1:Nat):Int):=by simp[Ag,Ah,Ae];omega
      have hq:=HBD.out;rw[eO fu,mI0,mI0]at hq;have er:decide (s.size<1)=false:=decide_eq_false h1;have g9:decide (256<s.size)=false:=decide_eq_false h2;have mf:decide (0<k)=true:=decide_eq_true h0i;rw[er,g9,mf]at hq;simp only[Cv,Cw]at hq;have HQ:=Aa hq;clear hc hx hn h0 fu HBD hq er g9 mf;by_cases hl:Ap t.toList s.toList=true
      ·have l1:Ap s.toList t.toList=false:=by
        have:=oV hl;simpa using this
       have l2:(s.toList==t.toList)=false:=by
        rw[beq_eq_false_iff_ne];intro h;rw[h,bytesLess_irrefl]at hl;cases hl
       have HN:Hid (∀j,j<k+1->bT0 (bls B) j=false):=λj hj=>by
        rcases Bd j k with h|h
        ·exact cw.out j h
        ·rw[show j=k by omega,HQ.out,hl];rfl
       clear hl cw;go_wp2_with fail
       go_round
       case rel=>exact⟨k+1,ae,by go_num,HN.out⟩
       case measure=>simp[intOf];omega
      ·have lg:Ap t.toList s.toList=false:=by simpa using hl
       have HB:=Aa (HIT.out k ae (by rw[HQ.out,lg];rfl));by_cases he:s.toList=t.toList
       ·have l1:Ap s.toList t.toList=false:=by rw[he,bytesLess_irrefl]
        have l2:(s.toList==t.toList)=true:=by rw[he];simp
        clear hl lg he cw;go_wp2_with fail
        go_ret;exact⟨by rw[HB.out];rfl,rfl⟩
       ·have l1:Ap s.toList t.toList=true:=dT lg (λh=>he h.symm)
        clear hl lg he cw;go_wp2_with fail
        go_ret;exact⟨by rw[HB.out];rfl,rfl⟩
  ·have cn:¬(k:Int)<B.length:=by omega
   have HB:Hid (mA0 (bls B)=0):=by
    show _=_
    rw[HF.out,nF0 (λi hi=>cw.out i (by rw[dP]at hi;omega))];rfl
   clear cw;go_wp2_with fail
   go_ret;exact⟨by rw[HB.out];rfl,rfl⟩
def jZ (L:List (List UInt8)):List Nat:=(Ba L.length).map λj=>(nodesA L).findIdx λx=>jG L x&&x.i==j
structure eZ (w:World) (tb:Nat) (L:List (List UInt8)):Prop where
 s:∃sb,w.cell? ⟨tb,0,none⟩=some (.pointer (some ⟨sb,0,none⟩))/\kE w sb (shapeL L (nodesA L))
 i:∃ib,w.cell? ⟨tb,1,none⟩=some (.pointer (some ⟨ib,0,none⟩))/\kE w ib (isL L (nodesA L))
 l:∃vL,w.cell? ⟨tb,2,none⟩=some vL/\aV w (tb-2) 5 1 aZ vL (labelsL L (nodesA L))
 d:∃pb,w.cell? ⟨tb,3,none⟩=some (.pointer (some ⟨pb,0,none⟩))/\nD w pb (idsL L (nodesA L))
 n:∃vN,w.cell? ⟨tb,4,none⟩=some vN/\aV w 0 3 1 lJ vN (jZ L)
theorem eZ.grows {w w':World} {tb:Nat} {L:List (List UInt8)} (h:eZ w tb L) (hg:aB w w'):eZ w' tb L:=by
 obtain⟨sb,s1,s2⟩:=h.s;obtain⟨ib,i1,i2⟩:=h.i;obtain⟨vL,l1,l2⟩:=h.l;obtain⟨pb,d1,d2⟩:=h.d;obtain⟨vN,n1,n2⟩:=h.n;exact⟨⟨sb,hg.cell s1,s2.grows hg⟩,⟨ib,hg.cell i1,i2.grows hg⟩,⟨vL,hg.cell l1,l2.grows hg⟩,⟨pb,hg.cell d1,d2.grows hg⟩,⟨vN,hg.cell n1,n2.grows hg⟩⟩
theorem OkL.sizes {L:List (List UInt8)} (ag:OkL L) (hl:L.length<=20000) (hc:gB L<=524287) :
  (shapeL L (nodesA L)).length<=1048576/\(isL L (nodesA L)).length<=524287/\(labelsL L (nodesA L)).length<=524287/\(idsL L (nodesA L)).length<=524287/\∀n∈idsL L (nodesA L),n<=20000:=by
 have hN:=fB ag.asc ag.len;refine⟨?_,?_,?_,?_,?_⟩
 ·have h:=eK L (nodesA L).length (Al _)
  rw[Aw,ag.off_all]at h;omega
 ·unfold isL;rw[Af];omega
 ·rw[ag.labels,Af,Bb];omega
 ·unfold idsL
  rw[Af]
  have:=List.length_filter_le (jG L) (nodesA L)
  omega
 ·intro n hn
  unfold idsL at hn;obtain⟨x,hx,rfl⟩:=List.mem_map.1 hn;have hg:=mI ag.asc (List.mem_filter.1 hx).1
  have:=hg.le
  omega
theorem eX0 (L:List (List UInt8)) (tb:Nat) (w:World) (ag:OkL L) (hl:L.length<=20000) (hc:gB L<=524287) (ac:eZ w tb L) :
  Calls Tryz.prog 118 #[.pointer (some ⟨tb,0,none⟩)] w λe w'=>∃v,e=.returned v/\aV w' w.heap.size 5 1 aZ v (loudE L)/\aB w w':=by
 obtain⟨z1,z2,z3,z4,z5⟩:=ag.sizes hl hc;obtain⟨sb,s1,s2⟩:=ac.s;obtain⟨ib,i1,i2⟩:=ac.i;obtain⟨vL,l1,l2⟩:=ac.l;obtain⟨pb,d1,d2⟩:=ac.d;have HE:Hid (loudE L=eW (oP (shapeL L (nodesA L)))++eW (labelsL L (nodesA L))++eW (oP (isL L (nodesA L)))++eW (packE (idsL L (nodesA L)))):=rfl;generalize shapeL L (nodesA L)=S at *;generalize isL L (nodesA L)=I at *;generalize labelsL L (nodesA L)=Lb at *;generalize idsL L (nodesA L)=D at *;have lu:∀n∈D,n<18446744073709551616:=λn hn=>by have:=z5 n hn;omega
 have s9:=oB S;have aez:=oB I;have mm:=aH0 D;have hwd:oM D<=64:=nS.2 lu;have eo:D.length*oM D<=524287*64:=Nat.mul_le_mul z4 hwd;obtain⟨aL,cL,rfl,_,_,j5⟩:=l2.at_ bI.len;have hnL:=cJ l2;have ahp:∀q:Addr,aL=some q->q.block<w.heap.size:=λq hq=>gM l2 q.block (by rw[hq];rfl);obtain⟨b1,et⟩:=exq (oP S);obtain⟨b3,iv⟩:=exq (oP I);obtain⟨b4,vz⟩:=exq (packE D);have CS:=Aa (eW0 S sb w z1 s2);have CI:=λW (hg:aB w W)=>Aa (eW0 I ib W (by omega) (i2.grows hg));have CD:=λW (hg:aB w W)=>Aa (eZ0 D pb W (by omega) lu (d2.grows hg));rw[<-et]at CS s9;rw[<-iv]at CI aez;rw[<-vz]at CD mm;have HB1:=Aa et;have HB3:=Aa iv;have HB4:=Aa vz;have HATL:=Aa j5;have ajh:b1.length<=100000000:=by omega
 have aji:b3.length<=100000000:=by omega
 have ajj:b4.length<=100000000:=by omega
 clear ac ag hc lu s9 aez mm hwd eo j5 et iv vz s2 i2 l2 d2 z5;go_enter Tryz.func118,Tryz.ntmps118
 go_wp2_with fail
 refine CS.out.mono ?_;rintro e w2 ⟨v2,rfl,ai,af⟩;obtain⟨a2,c2,rfl,_,_,jo⟩:=ai.at_ bI.len;have km:=cJ ai;clear ai;go_wp2_with fail
 refine(yB (.slice none 0 0) [] b1 a2 c2 w2 w2 (aB.refl _) (by simp) (by omega) (aV.nil _ _ _ _ _) jo km (λq _ h=>by cases h)).mono ?_;rintro e w3 ⟨v3,rfl,au,ay⟩;rw[Cp]at au;have hp1:(eW b1).length<=100000004:=by unfold eW;rw[Ab,bP];omega
 have gh:=af.tr ay;have l1a:=gh.cell l1;go_wp2_with fail
 refine(yB v3 (eW b1) Lb aL cL w2 w3 ay (by omega) (by omega) au (HATL.out.grows gh) hnL (kM0 au (λq hq=>Be (ahp q hq) af.size))).mono ?_;rintro e w4 ⟨v4,rfl,dw,cp⟩;obtain⟨P2,hP2⟩:=exq (eW b1++eW Lb);rw[<-hP2]at dw;have hp2:P2.length<=200000008:=by rw[hP2,Ab];unfold eW at *;rw[Ab,bP] at *;rw[Ab,bP];omega
 have HP2:=Aa hP2;clear hP2 au gh jo km;have jm:=af.tr cp;have i1a:=jm.cell i1;go_wp2_with fail
 refine(CI w4 jm).out.mono ?_;rintro e w5 ⟨v5,rfl,an,bk⟩;obtain⟨a5,c5,rfl,_,_,om⟩:=an.at_ bI.len;have hn5:=cJ an;go_wp2_with fail
 refine(yB v4 P2 b3 a5 c5 w2 w5 (cp.tr bk) (by omega) (by omega) (dw.grows bk) om hn5 (λq hq hv=>by have h1:=gM dw _ hv.symm;have h2:=aY an q.block (by rw[hq];rfl);omega)).mono ?_;rintro e w6 ⟨v6,rfl,we,dn⟩;obtain⟨P3,hP3⟩:=exq (P2++eW b3);rw[<-hP3]at we;have hp3:P3.length<=400000012:=by rw[hP3,Ab];unfold eW;rw[Ab,bP];omega
 have HP3:=Aa hP3;clear hP3 dw an jm om hn5 bk;have hgC:=af.tr dn;have d1a:=hgC.cell d1;go_wp2_with fail
 refine(CD w6 hgC).out.mono ?_;rintro e w7 ⟨v7,rfl,fk,dd⟩;obtain⟨a7,c7,rfl,_,_,ahq⟩:=fk.at_ bI.len;have hn7:=cJ fk;go_wp2_with fail
 refine(yB v6 P3 b4 a7 c7 w2 w7 (dn.tr dd) (by omega) (by omega) (we.grows dd) ahq hn7 (λq hq hv=>by have h1:=gM we _ hv.symm;have h2:=aY fk q.block (by rw[hq];rfl);omega)).mono ?_;rintro e w8 ⟨v8,rfl,aea,fg⟩;go_wp2_with fail
 go_ret;refine⟨_,rfl,?_,af.tr fg⟩
 have aw:P3++eW b4=loudE L:=by
  rw[HP3.out,HP2.out,HB1.out,HB3.out,HB4.out,HE.out]
 rw[<-aw];exact aea.base af.size
theorem xQ (L:List (List UInt8)) (tb:Nat) (w:World) (ac:eZ w tb L) :
  Calls Tryz.prog 106 #[.pointer (some ⟨tb,0,none⟩)] w λe w'=>e=.returned (.int .i64 L.length)/\w=w':=by
 obtain⟨vN,n1,n2⟩:=ac.n;obtain⟨aN,cN,rfl,_,_,_⟩:=n2.at_ (enc:=lJ) (λ_=>rfl);have ah:(jZ L).length=L.length:=by simp[jZ]
 rw[ah]at n1;clear ac n2 ah;go_enter Tryz.func106,Tryz.ntmps106
 go_wp2_with fail
 go_ret;exact⟨rfl,rfl⟩
theorem jC {L:List (List UInt8)} (ag:OkL L) {j i:Nat} {x:dM} (hj:j<L.length) (hi:(nodesA L)[i]?=some x) (hh:jG L x=true) (hx:x.i=j):(jZ L)[j]?=some i:=by
 unfold jZ;rw[Ad,Ao hj,An];congr 1
 have ae:=(List.getElem?_eq_some_iff.1 hi).1;rw[List.findIdx_eq ae];obtain⟨h1,h2⟩:=List.getElem?_eq_some_iff.1 hi;refine⟨by rw[h2,hh,hx];simp,λk hk=>?_⟩;apply Bj
 intro nr;have nr:(jG L ((nodesA L)[k]'(by omega))&&((nodesA L)[k]'(by omega)).i==j)=true:=by simpa using nr
 simp only[Ck,beq_iff_eq]at nr;have g1:=ag.good hi;have g2:=ag.good (Ac (show k<(nodesA L).length by omega))
 have e1:=(pW ag.asc g1 ag.pos j).2 ⟨hh,hx.symm⟩;have e2:=(pW ag.asc g2 ag.pos j).2 ⟨nr.1,nr.2.symm⟩;rw[e1]at e2
 have:=g1.inj ag.asc g2 (Option.some.inj e2)
 have:=ag.uniq hi (by rw[this];exact Ac (show k<(nodesA L).length by omega))
 omega
theorem gL0 (L:List (List UInt8)) (tb id:Nat) (w:World) (ag:OkL L) (hl:L.length<=20000) (hc:gB L<=524287) (hid:id<L.length) (ac:eZ w tb L) :
  Calls Tryz.prog 107 #[.pointer (some ⟨tb,0,none⟩),.int .i64 id] w λe w'=>e=.returned (.tuple #[.string (mkB (nth L id)),.bool true])/\aB w w':=by
 obtain⟨z1,z2,z3,z4,z5⟩:=ag.sizes hl hc;obtain⟨i0,x0,mg,hh0,acw⟩:=ag.node hid;have hn0:=jC ag hid mg hh0 acw
 have kp:spanS L x0=nth L id:=by
  have h1:=(pW ag.asc (ag.good mg) ag.pos id).2 ⟨hh0,acw.symm⟩;rw[kJ hid]at h1;exact(Option.some.inj h1).symm
 have ag1:(nth L id).length<=256:=ag.len _ (Aj (kJ hid));have CL:=Aa (λ(u:World) (h:aB w u)=>xQ L tb u (ac.grows h));obtain⟨vN,n1,n2⟩:=ac.n;obtain⟨aN,cN,rfl,_,_,ae0⟩:=n2.at_ (enc:=lJ) (λ_=>rfl);have hNl:(jZ L).length=L.length:=by simp[jZ]
 rw[hNl]at n1;obtain⟨nb,no,rfl,hcN⟩:=at1 (f:=λn:Nat=>Value.int .i64 n) ae0 (aK (k:=id) (by rw[hNl];exact hid));have ae1:=hcN id _ hn0;obtain⟨vL,l1,l2⟩:=ac.l;obtain⟨sb,s1,s2⟩:=ac.s;have ajk:(id:Int)<L.length:=by omega
 have ajl:¬(id:Int)<0:=by omega
 have ajm:¬(L.length:Int)<=id:=by omega
 have HAT:=Aa ac;obtain⟨W1,bu⟩:=exq (w.alloc (.cells Tryz.zeroCells164 164));have g1:aB w W1:=by rw[bu];exact aB.alloc _ _
 have n1a:=g1.cell n1;have aap:=g1.cell ae1;rw[bu]at n1a aap
 have START:Hid (∃cs:Array Value,W1.heap[w.heap.size]?=some (.cells cs 164 (0,0))/\cs.size=256/\∀j b,([]:List UInt8)[j]?=some b->cs[256+j]?=some (.int .u8 (b.toNat:Nat))) :=
  ⟨Tryz.zeroCells164,by rw[bu];show (w.heap.push _)[w.heap.size]?=_;simp,by kernel_rfl,λj b h=>by simp at h⟩
 have NODE:Hid ((nodesA L)[i0]?=some x0/\spanS L x0++[]=nth L id):=⟨mg,by rw[Bu];exact kp⟩;have HOK:=Aa ag;have gn:w.heap.size<W1.heap.size:=by rw[bu];simp
 obtain⟨aL,cL,rfl,_,_,j5⟩:=l2.at_ bI.len;have HATL:=Aa j5;have HS2:=Aa s2;have HZ1:=Aa z1;have o9:∀q,aL=some q->q.block<w.heap.size:=λq hq=>gM l2 q.block (by rw[hq];rfl);have HBB:=Aa o9;obtain⟨ln,vl⟩:=exq ((labelsL L (nodesA L)).length);have HLN:=Aa vl;rw[<-vl]at l1;have ajn:ln<=524287:=by omega
 have hNN:Hid ((nodesA L).length<=524287/\ln+1=(nodesA L).length):=by
  have:=fB ag.asc ag.len
  refine⟨by omega,?_⟩;rw[vl,ag.labels,Af,Bb]
  have h0:0<(nodesA L).length:=by
   have:=(List.getElem?_eq_some_iff.1 mg).1;omega
  omega
 have pv:i0<=524287:=by have:=(List.getElem?_eq_some_iff.1 mg).1;have:=hNN.out;omega
 clear ac n2 ae0 hcN hn0 n1 ae1 mg hh0 acw kp z1 z2 z3 z4 z5 ag hc j5 s2 o9 l2 vl;go_enter Tryz.func107,Tryz.ntmps107
 go_wp2_with (go_at_call 106;refine(CL.out _ (by first|exact aB.refl _|assumption)).mono ?_;rintro e w2 ⟨rfl,rfl⟩;skip)
 rw[<-bu];have hz:decide (L.length<=id)=false:=by simp;omega
 rw[hz];clear bu n1a aap hz;go_loopw [7,8] (λu v wr=>∃(A i:Nat) (x:dM) (tl:List UInt8) (cs:Array Value),u=.int .i64 A/\v=.int .i64 i/\A<=256/\i<=524287/\Hid (A+tl.length=256/\(nodesA L)[i]?=some x/\spanS L x++tl=nth L id)/\Hid (wr.heap[w.heap.size]?=some (.cells cs 164 (0,0))/\cs.size=256/\∀j b,tl[j]?=some b->cs[A+j]?=some (.int .u8 (b.toNat:Nat)))/\Hid (aB w wr)) (λ_ v _=>(intOf v).toNat)
 case atStart =>
  obtain⟨cs,k1,k2,k3⟩:=START.out;exact⟨256,i0,x0,[],cs,by go_num,rfl,Al _,pv,⟨rfl,NODE.out.1,NODE.out.2⟩,⟨k1,k2,k3⟩,g1⟩
 case round =>
  clear START NODE pv g1 gn;obtain⟨A,i,x,tl,cs,rfl,rfl,hA,hi,hN,hB,hG⟩:=hrel;by_cases h0:0<i
  ·have h0i:(0:Int)<i:=by omega
   obtain⟨k1,k2,k3⟩:=hN.out;obtain⟨p,y,hy,hpi,o1,o2,hm⟩:=HOK.out.parent h0 k2;have px:=uV HOK.out.asc (HOK.out.good hy) hm;obtain⟨b,hb⟩:=exq ((nth L x.i).getD y.d 0);rw[<-hb]at px;have sw:=(List.getElem?_eq_some_iff.1 k2).1
   have hA0:0<A:=by
    have:=congrArg Bz k3
    rw[px,Ab,Ab]at this;simp at this;omega
   obtain⟨A1,hA1⟩:=exq (A-1);obtain⟨i1,zi⟩:=exq (i-1);have wA:IntKind.i64.wrap ((A:Int)-1)=A1:=by simp[Ag,Ah,Ae];omega
   have wi:IntKind.i64.wrap ((i:Int)-1)=i1:=by simp[Ag,Ah,Ae];omega
   have ow:(labelsL L (nodesA L))[i1]?=some b:=by
    rw[HOK.out.labels,Ad,Cd,show 1+i1=i by omega,k2,An,px]
    simp
   obtain⟨lb,lo,rfl,ci⟩:=at1 (f:=λb:UInt8=>Value.int .u8 b.toNat) (HATL.out.grows hG.out) (Bf (Aj ow));have hlc:=ci i1 b ow;have ajo:(i1:Int)<ln:=by have:=hNN.out;omega
   have ajp:(A1:Int)<256:=by omega
   have l1r:=hG.out.cell l1;have s1r:=hG.out.cell s1;obtain⟨m1,m2,m3⟩:=hB.out;obtain⟨ov,hov⟩:∃v,wr.cell? ⟨w.heap.size,A1,none⟩=some v:=⟨cs[A1]'(by omega),by simp[Cy,m1,show A1<cs.size by omega]⟩
   have hof:wr.frozen? ⟨w.heap.size,A1,none⟩=false:=by simp[World.frozen?,m1]
   obtain⟨W2,ei⟩:=exq (wr.setCell ⟨w.heap.size,A1,none⟩ (.int .u8 (b.toNat:Nat)));have g2:aB w W2:=by rw[ei];exact hG.out.set (Al _) _
   have B2:Hid (W2.heap[w.heap.size]?=some (.cells (cs.setIfInBounds A1 (.int .u8 (b.toNat:Nat))) 164 (0,0))):=by
    rw[ei];exact heap_setCell_same wr _ _ cs _ _ m1
   have s8:w.heap.size<W2.heap.size:=(Array.getElem?_eq_some_iff.1 B2.out).1
   have B3:Hid (∀j c,(b::tl)[j]?=some c->(cs.setIfInBounds A1 (.int .u8 (b.toNat:Nat)))[A1+j]?=some (.int .u8 (c.toNat:Nat))):=λj c hj=>by
    cases j with
    | zero =>
     obtain rfl:b=c:=by simpa using hj
     rw[Nat.add_zero,Array.getElem?_setIfInBounds_self];simp;omega
    | succ j =>
     rw[Array.getElem?_setIfInBounds_ne (by omega),show A1+(j+1)=A+j by omega]
     exact m3 j c (by simpa using hj)
   have N2:Hid (A1+(b::tl).length=256/\(nodesA L)[p]?=some y/\spanS L y++(b::tl)=nth L id):=⟨by rw[Bp];omega,hy,by rw[<-k3,px];simp⟩;have CSZ:Hid ((cs.setIfInBounds A1 (.int .u8 (b.toNat:Nat))).size=256):=by show _=_;simpa using m2
   obtain⟨q1,q2,q3⟩:=jY0 hy o1 o2;obtain⟨pos,dl⟩:=exq (i+p+1);rw[<-dl]at q1 q2 q3
   have aaq:pos<(shapeL L (nodesA L)).length:=by
    have h1:=eK L (nodesA L).length (Al _);rw[Aw,HOK.out.off_all]at h1;omega
   have CSEL:=Aa (λ(u:World) (hg:aB w u)=>uJ (shapeL L (nodesA L)) sb true pos i u HZ1.out aaq q1 q2 (HS2.out.grows hg))
   have CRNK:Hid (∀(u:World),aB w u->Calls Tryz.prog 176 #[.pointer (some ⟨sb,0,none⟩),.bool false,.int .i64 pos] u λe w'=>e=.returned (.int .i64 ((p+1:Nat):Int))/\u=w'):=λu hg=>by
    have h:=qR (shapeL L (nodesA L)) sb false pos u HZ1.out (by have:=HZ1.out;omega) (HS2.out.grows hg);rw[show min pos (shapeL L (nodesA L)).length=pos by omega,q3]at h
    exact h
   have wp1:IntKind.i64.wrap (((p+1:Nat):Int)-1)=p:=by simp[Ag,Ah,Ae];omega
   obtain⟨p1,hp1⟩:=exq (p+1);rw[<-hp1]at CRNK wp1;have z1:∀x:Ext aB W2.drew,x.u.cell? ⟨tb,0,none⟩=some (.pointer (some ⟨sb,0,none⟩)):=aF ((aB.drew W2).cell (g2.cell s1));have HPI:=Aa hpi;clear hN hB k1 k2 k3 hy o1 o2 hm px hb sw hA1 zi ow ci m1 m2 m3 q1 q2 q3 dl aaq hp1 hpi;go_wp2_with fail
   rw[<-ei];clear ei hov hof hlc l1r s1r;refine bK (bB 13 [9,10]) (by kernel_rfl) (λd _ _ _ _ h=>by cases d<;>exact h) ?_
   iterate 9 (refine aH rfl (λK hK=>?_);go_simp;refine hK _ ?_;clear hK K)
   clear z1;refine bJ rfl rfl (λK hK=>?_);go_simp;refine(CSEL.out _ (g2.tr (aB.drew W2))).mono ?_;rintro e w3 ⟨rfl,ay⟩;refine⟨ay,hK _ _ ?_⟩;clear hK K;have g3:aB w w3:=(g2.tr (aB.drew W2)).tr ay;refine bJ rfl rfl (λK hK=>?_);go_simp;refine(CRNK.out _ g3).mono ?_;rintro e w4 ⟨rfl,rfl⟩;refine⟨aB.refl _,hK _ _ ?_⟩;clear hK K;iterate 2 (refine aH rfl (λK hK=>?_);go_simp;refine hK _ ?_;clear hK K)
   refine bQ ?_;have B4:w3.heap[w.heap.size]?=some (.cells (cs.setIfInBounds A1 (.int .u8 (b.toNat:Nat))) 164 (0,0)):=(Below.block ((aB.drew W2).tr ay) _ s8).trans B2.out;replace B4:=Aa B4;clear ay B2 CSEL CRNK;go_wp2_with fail
   go_roundw
   case rel=>exact⟨A1,p,y,b::tl,_,by go_num,by go_num,by have:=N2.out.1;omega,by have:=HPI.out;omega,N2.out,⟨B4.out,CSZ.out,B3.out⟩,g3⟩
   case measure=>have:=HPI.out;simp[intOf];omega
  ·have h0i:¬(0:Int)<i:=by omega
   obtain rfl:i=0:=by omega
   obtain⟨k1,k2,k3⟩:=hN.out
   have hx:x=rootS L:=by
    have h1:=HOK.out.fix;have h2:(rootS L::(nodesA L).flatMap (fP L))[0]?=some x:=by rw[<-h1];exact k2
    simpa using h2.symm
   have ld:tl=nth L id:=by
    rw[<-k3,hx];simp[spanS,rootS]
   have aar:(convert 60 9 (.slice (some ⟨w.heap.size,A,none⟩) (256-A) (256-A))).run Tryz.prog wr=.ok (.string (mkB (nth L id))) wr:=by
    obtain⟨m1,m2,m3⟩:=hB.out;have hz:(mkB tl).size=tl.length:=by rw[Lib.size_eq,jK]
    have hBy:Lib.Bytes wr w.heap.size A (mkB tl):=λj hj=>by
     rw[hz]at hj;have h3:=m3 j _ (Ac hj);unfold Cy;simp only[m1,Option.isSome_none,Ce,if_false];exact h3
    have:=Lib.run_convert_whole (P:=Tryz.prog) wr 60 5 9 Tryz.underlying60 Tryz.underlying5 Tryz.underlying9 w.heap.size A (mkB tl) hBy (256-A)
    rw[hz,show tl.length=256-A by omega]at this
    rw[this,ld]
   have dl:0<tl.length:=by
    rw[ld];exact List.length_pos_iff.2 (HOK.out.pos _ (Aj (kJ hid)))
   have hAi:(A:Int)<=256:=by omega
   have hAn:¬256=A:=by omega
   have G:=Aa hG.out;clear hN hB k1 k2 k3 hx ld dl hG;go_wp2_with fail
   first
    | exact bodyPost_ret (v:=.tuple #[.string (mkB (nth L id)),.bool true]) (by simp[results,Tryz.results107,go_sem]) rfl ⟨rfl,G.out⟩
    | exact bodyPost_end (v:=.tuple #[.string (mkB (nth L id)),.bool true]) (by simp[results,Tryz.results107,go_sem]) rfl ⟨rfl,G.out⟩
end
section
open Go
theorem dG0 (L:List (List UInt8)):∀A:List dM,(labelsL L A).length=(A.flatMap (fP L)).length
 | []=>rfl
 | x::A=>by
  have:=dG0 L A
  unfold labelsL at *;rw[Az,Az,Ab,Ab,Af,this]
theorem nL0 (L:List (List UInt8)) (i:Nat):offA L i=(labelsL L ((nodesA L).take i)).length+1:=by
 rw[dG0];unfold offA eI;rw[Bp]
theorem OkL.many {L:List (List UInt8)} (h:OkL L) (hl:L.length<=20000):(nodesA L).length<=5120001:=by
 have h1:=congrArg Bz (sF0 h.asc);rw[Af]at h1;have h2:=zF L 256;have h3:(jB1 L).length=(uL L 256).length:=rfl;omega
theorem vG (L:List (List UInt8)) (A:List dM) (x:dM):labelsL L (A++[x])=labelsL L A++(fP L x).map (pO L x):=by
 unfold labelsL;rw[Cb];simp
def tL (L:List (List UInt8)) (i:Nat):List Nat:=(jZ L).map λk=>if k<i then k else 0
theorem mV (L:List (List UInt8)):(jZ L).length=L.length:=by simp[jZ]
theorem xQ0 {L:List (List UInt8)}:tL L 0=Bg L.length 0:=by
 unfold tL;apply Av
 intro j;rw[Ad,Bq];by_cases h:j<L.length
 ·rw[Ac (by rw[mV];exact h),if_pos h]
  simp
 ·rw[Ai (by rw[mV];omega),if_neg h];rfl
theorem OkL.ndTo_all {L:List (List UInt8)} (h:OkL L) {m:Nat} (hm:(nodesA L).length<=m):tL L m=jZ L:=by
 unfold tL;have hl:=mV L;conv=>rhs;rw[<-List.map_id (jZ L)]
 apply Cc
 intro k hk;obtain⟨j,hj⟩:=List.mem_iff_getElem?.1 hk;have hjl:j<L.length:=by rw[<-hl];exact(List.getElem?_eq_some_iff.1 hj).1
 obtain⟨i,x,hi,hh,hx⟩:=h.node hjl
 have:=jC h hjl hi hh hx
 rw[hj]at this;have ae:=(List.getElem?_eq_some_iff.1 hi).1;rw[if_pos (by have:=Option.some.inj this;omega)];rfl
theorem OkL.ndTo_succ {L:List (List UInt8)} (h:OkL L) {i:Nat} {x:dM} (hx:(nodesA L)[i]?=some x):tL L (i+1)=if jG L x=true then (tL L i).set x.i i else tL L i:=by
 have hl:=mV L
 have key:∀j,j<L.length->((jZ L)[j]?=some i↔jG L x=true/\x.i=j):=λj hj=>by
  obtain⟨i',x',yz,hh',qw⟩:=h.node hj;have h1:=jC h hj yz hh' qw;rw[h1];constructor
  ·intro e
   have e2:i'=i:=Option.some.inj e;subst e2;rw[hx]at yz;cases yz
   exact⟨hh',qw⟩
  ·rintro⟨a,b⟩
   have h2:=jC h hj hx a b;rw[h1]at h2;exact h2
 apply Av
 intro j;by_cases hj:j<L.length
 ·obtain⟨k,hk⟩:∃k,(jZ L)[j]?=some k:=⟨_,Ac (by rw[hl];exact hj)⟩
  have e1:(tL L (i+1))[j]?=some (if k<i+1 then k else 0):=by unfold tL;rw[Ad,hk];rfl
  have e2:(tL L i)[j]?=some (if k<i then k else 0):=by unfold tL;rw[Ad,hk];rfl
  rw[e1];have jq:=key j hj;rw[hk]at jq;by_cases hh:jG L x=true
  ·rw[if_pos hh]
   by_cases hxj:x.i=j
   ·have:k=i:=Option.some.inj (jq.2 ⟨hh,hxj⟩)
    rw[hxj,Bs (by unfold tL;rw[Af,hl];exact hj),if_pos (by omega),this]
   ·have:k≠i:=λe=>hxj (jq.1 (by rw[e])).2
    rw[Ca hxj,e2];congr 1
    by_cases h3:k<i
    ·rw[if_pos h3,if_pos (by omega)]
    ·rw[if_neg h3,if_neg (by omega)]
  ·rw[if_neg hh,e2]
   have:k≠i:=λe=>hh (jq.1 (by rw[e])).1
   congr 1
   by_cases h3:k<i
   ·rw[if_pos h3,if_pos (by omega)]
   ·rw[if_neg h3,if_neg (by omega)]
 ·have hn:∀m,(tL L m)[j]?=none:=λm=>Ai (by unfold tL;rw[Af,hl];omega)
  rw[hn];split
  ·rw[Ai (by rw[Cq];unfold tL;rw[Af,hl];omega)]
  ·rw[hn]
theorem iD1 (L:List (List UInt8)) (i:Nat):(tL L i).length=L.length:=by unfold tL; rw[Af,mV]
end
section
open Go Go.RowKit
def gT (L:List (List UInt8)) (s:List UInt8) (i:Nat):Prop:=∃x,(nodesA L)[i]?=some x/\spanS L x=s
theorem OkL.root0 {L:List (List UInt8)} (h:OkL L):(nodesA L)[0]?=some (rootS L):=by rw[h.fix]; rfl
theorem OkL.isRoot {L:List (List UInt8)} (h:OkL L):gT L [] 0:=⟨rootS L,h.root0,by simp[spanS,rootS]⟩
theorem gT.lt {L:List (List UInt8)} {s:List UInt8} {i:Nat} (h:gT L s i):i<(nodesA L).length:=by
 obtain⟨x,hx,_⟩:=h;exact(List.getElem?_eq_some_iff.1 hx).1
theorem OkL.lab {L:List (List UInt8)} (h:OkL L) {k:Nat} {y:dM} (h1:1<=k) (hy:(nodesA L)[k]?=some y):(labelsL L (nodesA L))[k-1]?=some ((spanS L y).getLastD 0):=by
 rw[h.labels,Ad,Cd,show 1+(k-1)=k by omega,hy];rfl
theorem OkL.off_pos {L:List (List UInt8)} (i:Nat):1<=offA L i:=by
 have:=mL (L:=L) (Aq i)
 rw[rU]at this;exact this
theorem OkL.kid_at {L:List (List UInt8)} (h:OkL L) {i k:Nat} {x:dM} (hx:(nodesA L)[i]?=some x) (h1:offA L i<=k) (h2:k<offA L (i+1)) :
  ∃y c,(nodesA L)[k]?=some y/\(labelsL L (nodesA L))[k-1]?=some c/\spanS L y=spanS L x++[c]/\y∈fP L x:=by
 have hk:k<(nodesA L).length:=Be h2 (h.off_le (i+1));obtain⟨y,hy⟩:∃y,(nodesA L)[k]?=some y:=⟨_,Ac hk⟩;have hm:=h.kid hx h1 h2 hy;have hs:=uV h.asc (h.good hx) hm;refine⟨y,_,hy,h.lab (Ci (OkL.off_pos i) h1) hy,?_,hm⟩;rw[hs];simp
theorem OkL.kid_of {L:List (List UInt8)} (h:OkL L) {i k:Nat} {s:List UInt8} {c:UInt8} (hi:gT L s i) (hn:gT L (s++[c]) k):offA L i<=k/\k<offA L (i+1)/\(labelsL L (nodesA L))[k-1]?=some c:=by
 obtain⟨x,hx,ex⟩:=hi;obtain⟨y,hy,ey⟩:=hn
 have hk:1<=k:=by
  rcases Cf k with e|e
  ·subst e
   rw[h.root0]at hy;obtain rfl:=Option.some.inj hy;simp[spanS,rootS]at ey
  ·exact e
 obtain⟨p,z,hz,_,o1,o2,hm⟩:=h.parent hk hy;have hs:=uV h.asc (h.good hz) hm;rw[ey]at hs;have e1:=(Cl hs rfl).1;have e2:=(h.good hx).inj h.asc (h.good hz) (ex.trans e1);subst e2;obtain rfl:=h.uniq hx hz;refine⟨o1,o2,?_⟩;rw[h.lab hk hy,ey];simp
theorem OkL.kid_is {L:List (List UInt8)} (h:OkL L) {i k:Nat} {s:List UInt8} {c:UInt8} (hi:gT L s i) (h1:offA L i<=k) (h2:k<offA L (i+1)) (hc:(labelsL L (nodesA L))[k-1]?=some c):gT L (s++[c]) k:=by
 obtain⟨x,hx,ex⟩:=hi;obtain⟨y,d,hy,hd,hs,_⟩:=h.kid_at hx h1 h2;rw[hc]at hd;obtain rfl:=Option.some.inj hd;exact⟨y,hy,by rw[hs,ex]⟩
theorem OkL.node_pre {L:List (List UInt8)} (h:OkL L) {s:List UInt8} {c:UInt8} {k:Nat} (hn:gT L (s++[c]) k):∃i,gT L s i:=by
 obtain⟨y,hy,ey⟩:=hn
 have hk:1<=k:=by
  rcases Cf k with e|e
  ·subst e
   rw[h.root0]at hy;obtain rfl:=Option.some.inj hy;simp[spanS,rootS]at ey
  ·exact e
 obtain⟨p,z,hz,_,o1,o2,hm⟩:=h.parent hk hy;have hs:=uV h.asc (h.good hz) hm;rw[ey]at hs;exact⟨p,z,hz,(Cl hs rfl).1.symm⟩
theorem OkL.no_more {L:List (List UInt8)} (h:OkL L):∀(t:List UInt8) {s:List UInt8},(∀i, ¬gT L s i)->∀i, ¬gT L (s++t) i
 | [],s,hs,i=>by rw[Bu];exact hs i
 | c::t,s,hs,i=>by
  rw[show s++c::t=(s++[c])++t by simp]
  exact h.no_more t (λk hk=>by
   obtain⟨j,hj⟩:=h.node_pre hk;exact hs j hj) i
theorem sD:∀(p a b:List UInt8),Ap (p++a) (p++b)=Ap a b
 | [],_,_=>rfl
 | c::p,a,b=>by
  have hc:¬c<c:=λh:c.toNat<c.toNat=>Nat.lt_irrefl _ h;rw[Cm,Cm];simp only[Ap,hc,decide_false,Cv,beq_self_eq_true,Cw];exact sD p a b
theorem OkL.lab_lt {L:List (List UInt8)} (h:OkL L) {i k m:Nat} {x:dM} {c d:UInt8} (hx:(nodesA L)[i]?=some x) (h1:offA L i<=k) (h2:k<m) (h3:m<offA L (i+1))
  (hc:(labelsL L (nodesA L))[k-1]?=some c) (hd:(labelsL L (nodesA L))[m-1]?=some d):c.toNat<d.toNat:=by
 obtain⟨y,c',hy,hc',sy,my⟩:=h.kid_at hx h1 (Cx h2 h3);obtain⟨z,d',hz,hd',sz,mz⟩:=h.kid_at hx (Ci h1 (Br h2)) h3;rw[hc]at hc';obtain rfl:=Option.some.inj hc';rw[hd]at hd';obtain rfl:=Option.some.inj hd';obtain⟨hk,ek⟩:=List.getElem?_eq_some_iff.1 hy;obtain⟨hm,em⟩:=List.getElem?_eq_some_iff.1 hz;have hb:=List.pairwise_iff_getElem.1 (jL h.asc) k m hk hm h2;rw[ek,em]at hb;have d1:=lF0 L x y my;have d2:=lF0 L x z mz;have hi:y.i<z.i:=by rcases hb with hb|hb<;>omega
 have gy:=h.good hy;have gz:=h.good hz
 have hzl:z.i<L.length:=by
  have:=gz.le
  rcases gz.ne with h|h<;>omega
 have ae:=h.asc.lt _ _ hi hzl
 have ey:nth L y.i=spanS L x++(c::(nth L y.i).drop y.d):=by
  have:=Au y.d (nth L y.i)
  rw[show (nth L y.i).take y.d=spanS L y from rfl,sy]at this
  exact this.symm.trans (Ar _ _ _)
 have ez:nth L z.i=spanS L x++(d::(nth L z.i).drop z.d):=by
  have:=Au z.d (nth L z.i)
  rw[show (nth L z.i).take z.d=spanS L z from rfl,sz]at this
  exact this.symm.trans (Ar _ _ _)
 rw[ey,ez,sD]at ae;simp only[Ap,Bool.or_eq_true,Ck,decide_eq_true_eq,beq_iff_eq]at ae;rcases ae with ae|⟨ae,_⟩
 ·exact ae
 ·subst ae
  have e:=gy.inj h.asc gz (by rw[sy,sz]);subst e
  have:=h.uniq hy hz
  omega
def jX1 (L:List (List UInt8)) (i:Nat) (c:UInt8) (k:Nat) (b:Bool):Prop :=
 (b=true->offA L i<=k/\k<offA L (i+1)/\(labelsL L (nodesA L))[k-1]?=some c)/\(b=false->∀k,offA L i<=k->k<offA L (i+1)->(labelsL L (nodesA L))[k-1]?≠some c)
def kP0 (L:List (List UInt8)) (s:List UInt8) (k:Nat) (b:Bool):Prop:=(b=true->gT L s k)/\(b=false->∀k, ¬gT L s k)
theorem OkL.down_to {L:List (List UInt8)} (h:OkL L) {i k:Nat} {s:List UInt8} {c:UInt8} {b:Bool} (hi:gT L s i) (hd:jX1 L i c k b):kP0 L (s++[c]) k b:=by
 refine⟨λhb=>?_,λhb m hm=>?_⟩
 ·obtain⟨h1,h2,h3⟩:=hd.1 hb
  exact h.kid_is hi h1 h2 h3
 ·obtain⟨h1,h2,h3⟩:=h.kid_of hi hm
  exact hd.2 hb m h1 h2 h3
theorem gZ0 {L:List (List UInt8)} {A:List dM} {i:Nat} {x:dM} (hx:A[i]?=some x):bitOf (isL L A) i=jG L x:=by
 unfold bitOf isL;rw[Ak,Ad,hx];rfl
theorem eG0 (L:List (List UInt8)) (A:List dM):∀i,i<=A.length->dY (isL L A) i=((A.take i).filter (jG L)).length
 | 0,_=>rfl
 | i+1,h=>by
  obtain⟨x,hx⟩:∃x,A[i]?=some x:=⟨_,Ac h⟩;rw[gK,eG0 L A i (by omega),gZ0 hx,Cj,hx,Option.toList_some,Cg,Ab];congr 1
  by_cases hh:jG L x=true
  ·simp[hh]
  ·simp[hh]
theorem rI0 {L:List (List UInt8)} {A:List dM} {i:Nat} {x:dM} (hx:A[i]?=some x) (hh:jG L x=true):(idsL L A)[dY (isL L A) i]?=some x.i:=by
 have hi:=(List.getElem?_eq_some_iff.1 hx).1;rw[eG0 L A i (Br hi)];unfold idsL
 have e:A=A.take i++(x::A.drop (i+1)):=by
  have h1:=Bk hi;rw[(List.getElem?_eq_some_iff.1 hx).2]at h1;rw[<-h1,Au]
 have e2:A.filter (jG L)=(A.take i).filter (jG L)++(x::(A.drop (i+1)).filter (jG L)):=by
  conv=>lhs;rw[e]
  rw[Cg,List.filter_cons,if_pos hh]
 rw[e2,Bv,List.getElem?_append_right (by simp),Af,Nat.sub_self];rfl
theorem OkL.here_at {L:List (List UInt8)} (h:OkL L) {i:Nat} {x:dM} (hx:(nodesA L)[i]?=some x) (j:Nat):L[j]?=some (spanS L x)↔jG L x=true/\j=x.i:=pW h.asc (h.good hx) h.pos j
theorem OkL.of_mem {L:List (List UInt8)} (h:OkL L) {j:Nat} {s:List UInt8} (hj:L[j]?=some s):∃i,gT L s i:=by
 have hl:=(List.getElem?_eq_some_iff.1 hj).1;obtain⟨i,x,hx,hh,nz⟩:=h.node hl;refine⟨i,x,hx,?_⟩
 have:=(h.here_at hx j).2 ⟨hh,nz.symm⟩
 rw[hj]at this;exact(Option.some.inj this).symm
theorem OkL.strs_inj {L:List (List UInt8)} (h:OkL L) {i j:Nat} {s:List UInt8} (hi:L[i]?=some s) (hj:L[j]?=some s):i=j:=by
 obtain⟨k,x,hx,ex⟩:=h.of_mem hi;have a:=((h.here_at hx i).1 (by rw[ex];exact hi)).2;have b:=((h.here_at hx j).1 (by rw[ex];exact hj)).2;omega
def kK (L:List (List UInt8)) (s:List UInt8):Nat×Bool:=if s∈L then (L.findIdx λx=>decide (x=s),true) else (0,false)
theorem qE {L:List (List UInt8)} {s:List UInt8} (h:s∉L):kK L s=(0,false):=if_neg h
theorem OkL.findT_of {L:List (List UInt8)} (h:OkL L) {s:List UInt8} {j:Nat} (hj:L[j]?=some s):kK L s=(j,true):=by
 have hm:=Aj hj;unfold kK;rw[if_pos hm];have h1:L.findIdx (λx=>decide (x=s))<L.length:=List.findIdx_lt_length_of_exists ⟨s,hm,by simp⟩;have h2:=List.findIdx_getElem (w:=h1);have h3:L[L.findIdx (λx=>decide (x=s))]?=some s:=by rw[Ac h1];exact congrArg some (of_decide_eq_true h2)
 rw[h.strs_inj h3 hj]
theorem OkL.find_node {L:List (List UInt8)} (h:OkL L) {i:Nat} {x:dM} (hx:(nodesA L)[i]?=some x):kK L (spanS L x)=if jG L x=true then (x.i,true) else (0,false):=by
 split
 ·rename_i hh
  exact h.findT_of ((h.here_at hx x.i).2 ⟨hh,rfl⟩)
 ·rename_i hh
  refine qE λhm=>?_;obtain⟨j,hj⟩:=List.mem_iff_getElem?.1 hm;exact hh ((h.here_at hx j).1 hj).1
theorem iE1 {L:List (List UInt8)} {s:List UInt8} (h:s∈L):(kK L s).1<L.length:=by
 grind [kK]
theorem OkL.noNode {L:List (List UInt8)} (h:OkL L) {s:List UInt8} (hn:∀i, ¬gT L s i):kK L s=(0,false):=qE λhm=>by
 obtain⟨j,hj⟩:=List.mem_iff_getElem?.1 hm;obtain⟨i,hi⟩:=h.of_mem hj;exact hn i hi
structure oY (L:List (List UInt8)) (i:Nat) (c:UInt8) (f t:Nat):Prop where
 lo:offA L i<=f
 le:f<=t
 hi:t<=offA L (i+1)
 left:∀k d,offA L i<=k->k<f->(labelsL L (nodesA L))[k-1]?=some d->d.toNat<c.toNat
 right:∀k d,t<=k->k<offA L (i+1)->(labelsL L (nodesA L))[k-1]?=some d->c.toNat<=d.toNat
theorem oY.start (L:List (List UInt8)) (i:Nat) (c:UInt8):oY L i c (offA L i) (offA L (i+1)) :=
 ⟨Al _,mL (by omega),Al _,by omega,by omega⟩
theorem oY.less {L:List (List UInt8)} {i f t:Nat} {c:UInt8} (h:OkL L) {x:dM} (hx:(nodesA L)[i]?=some x) (I:oY L i c f t) {m:Nat} {d:UInt8} (h1:f<=m) (h2:m<t) (hd:(labelsL L (nodesA L))[m-1]?=some d) (hc:d.toNat<c.toNat):oY L i c (m+1) t:=by
 refine⟨by have:=I.lo;omega,by omega,I.hi,λk e a b he=>?_,I.right⟩;rcases Bd k m with q|q
 ·have:=h.lab_lt hx a q (by have:=I.hi;omega) he hd
  omega
 grind
theorem oY.more {L:List (List UInt8)} {i f t:Nat} {c:UInt8} (h:OkL L) {x:dM} (hx:(nodesA L)[i]?=some x) (I:oY L i c f t) {m:Nat} {d:UInt8} (h1:f<=m) (h2:m<t) (hd:(labelsL L (nodesA L))[m-1]?=some d) (hc:¬d.toNat<c.toNat):oY L i c f m :=
 ⟨I.lo,h1,by have:=I.hi;omega,I.left,λk e a b he=>by
  rcases Bd m k with q|q
  ·have:=h.lab_lt hx (by have:=I.lo;omega) q b hd he
   omega
  grind⟩
theorem oY.hit {L:List (List UInt8)} {i f:Nat} {c:UInt8} (I:oY L i c f f) (h1:f<offA L (i+1)) (hd:(labelsL L (nodesA L))[f-1]?=some c):jX1 L i c f true :=
 ⟨λ_=>⟨I.lo,h1,hd⟩,λh=>by cases h⟩
theorem oY.ends {L:List (List UInt8)} {i f:Nat} {c:UInt8} (I:oY L i c f f) (h1:¬f<offA L (i+1)):jX1 L i c f false :=
 ⟨λh=>(by cases h),λ_ k a b he=>by have:=I.left k c a (by omega) he;omega⟩
theorem oY.miss {L:List (List UInt8)} {i f:Nat} {c d:UInt8} (h:OkL L) {x:dM} (hx:(nodesA L)[i]?=some x) (I:oY L i c f f) (h1:f<offA L (i+1)) (hd:(labelsL L (nodesA L))[f-1]?=some d) (hc:d≠c):jX1 L i c f false :=
 ⟨λh=>(by cases h),λ_ k a b he=>by
  rcases Nat.lt_trichotomy k f with q|q|q
  ·have:=I.left k c a q he
   omega
  ·simp_all
  ·have h2:=h.lab_lt hx I.lo q b hd he
   have h3:=I.right f d (Al _) h1 hd;omega⟩
theorem OkL.lab_get {L:List (List UInt8)} (h:OkL L) {i k:Nat} {x:dM} (hx:(nodesA L)[i]?=some x) (h1:offA L i<=k) (h2:k<offA L (i+1)):∃d,(labelsL L (nodesA L))[k-1]?=some d:=by
 obtain⟨_,c,_,hc,_⟩:=h.kid_at hx h1 h2;exact⟨c,hc⟩
theorem OkL.walk_stop {L:List (List UInt8)} (h:OkL L) {s:List UInt8} {n k:Nat} (hw:kP0 L (s.take n) k false):kP0 L s k false :=
 ⟨λh=>(by cases h),λ_=>by
  have:=h.no_more (s.drop n) (hw.2 rfl)
  simp_all⟩
def sK0 (L:List (List UInt8)) (s:List UInt8) (i:Nat):List (Nat×Nat):=if s.take (i+1)∈L then [((kK L (s.take (i+1))).1,i+1)] else []
def hitsL (L:List (List UInt8)) (s:List UInt8) (n:Nat):List (Nat×Nat):=(Ba n).flatMap (sK0 L s)
theorem qJ (L:List (List UInt8)) (s:List UInt8) (n:Nat):hitsL L s (n+1)=hitsL L s n++sK0 L s n:=by
 unfold hitsL;rw[Cr,Cb];simp
theorem kL0 {L:List (List UInt8)} {s:List UInt8} {q:Nat×Nat}:∀ {n:Nat},q∈hitsL L s n->q.1<L.length/\q.2<=n
 | 0,h=>by cases h
 | n+1,h=>by
  rw[qJ]at h;rcases List.mem_append.1 h with h|h
  ·have:=kL0 h
   omega
  ·unfold sK0 at h
   split at h
   ·rename_i hm
    obtain rfl:q=((kK L (s.take (n+1))).1,n+1):=by simpa using h
    grind [kK]
   ·cases h
theorem OkL.hits_256 {L:List (List UInt8)} (h:OkL L) {s:List UInt8}:∀ {n:Nat},n<=s.length->(hitsL L s n).length<=min n 256
 | 0,_=>Aq _
 | n+1,hn=>by
  have ih:=h.hits_256 (s:=s) (n:=n) (by omega);rw[qJ,Ab];have h1:(sK0 L s n).length<=1:=by unfold sK0;split<;>simp
  rcases Bd n 256 with q|q
  ·omega
  ·have h2:sK0 L s n=[]:=by
    unfold sK0;rw[if_neg];intro hc
    have:=h.len _ hc
    rw[As]at this;omega
   grind
theorem OkL.hits_stop {L:List (List UInt8)} (h:OkL L) {s:List UInt8} {n:Nat} (hn:∀i, ¬gT L (s.take (n+1)) i):∀m,n<=m->hitsL L s m=hitsL L s n
 | 0,hm=>by
  obtain rfl:n=0:=by omega
  rfl
 | m+1,hm=>by
  rcases Bd m n with q|q
  ·obtain rfl:n=m+1:=by omega
   rfl
  ·rw[qJ,h.hits_stop hn m q]
   have:sK0 L s m=[]:=by
    unfold sK0;rw[if_neg];intro hc;obtain⟨j,hj⟩:=List.mem_iff_getElem?.1 hc;obtain⟨i,hi⟩:=h.of_mem hj
    have e:s.take (m+1)=s.take (n+1)++(s.take (m+1)).drop (n+1):=by
     have h1:=Au (n+1) (s.take (m+1));rw[List.take_take,Nat.min_eq_left (by omega)]at h1;exact h1.symm
    rw[e]at hi;exact h.no_more _ hn i hi
   rw[this,Bu]
end
section
open Go Go.RowKit
attribute [local go_sem] aQ aM
theorem qY {x:Nat} (h:x<4611686018427387904):IntKind.i64.wrap (x:Int)=x:=by simp[Ag,Ah,Ae]; omega
theorem pY0 (b:List UInt8) (a:Option Addr) (c:Nat) (w:World) (hb:b.length<=8) (ac:aG w a 1 (b.map aZ)) :
  Calls Tryz.prog 239 #[.slice a b.length c] w λe w'=>e=.returned (.int .u64 (bO0 b))/\w=w':=by
 have HAT:=Aa ac;clear ac;go_enter Tryz.func239,Tryz.ntmps239
 go_wp2_with fail
 go_loopw [3,8] (λn i wr=>∃k:Nat,k<=b.length/\i=.int .i64 k/\n=.int .u64 (bO0 (b.take k))/\Hid (wr=w)) (λ_ i _=>b.length-(intOf i).toNat)
 case atStart=>exact⟨0,Aq _,rfl,rfl,rfl⟩
 case round =>
  obtain⟨k,hk,rfl,rfl,hw⟩:=hrel;obtain rfl:=hw.out;by_cases ae:k<b.length
  ·obtain⟨x,hx⟩:∃x,b[k]?=some x:=⟨_,Ac ae⟩
   obtain⟨ab,ao,rfl,hc⟩:=at1 (f:=λx:UInt8=>Value.int .u8 x.toNat) HAT.out (aK ae);have gq:=hc k x hx;have ld:(b.take k).length=k:=by rw[As];omega
   have HT:Hid (bO0 (b.take k)|||(x.toNat<<<(8*k))%18446744073709551616=bO0 (b.take (k+1))):=by
    show _=_
    rw[bM hx,<-mL1 (by rw[ld];omega),ld]
   have ae2:bO0 (b.take k)<18446744073709551616:=pI0 (by omega);obtain⟨N,hN⟩:=exq (bO0 (b.take k));obtain⟨v,hv⟩:=exq x.toNat;have aiy:v<256:=by rw[hv];exact x.toNat_lt
   obtain⟨S,hS⟩:=exq (8*k);rw[<-hN]at ae2 ⊢;rw[<-hv]at gq;rw[<-hN,<-hv,<-hS]at HT;have eS:IntKind.i64.wrap ((8:Int)*k)=S:=by simp[Ag,Ah,Ae];omega
   have uv:IntKind.u64.wrap (v:Int)=v:=by simp[Ag,Ah,Ae];omega
   have hor:=kD0 (x:=N) (v:=v) (S:=S) ae2;have mq:S<64:=by omega
   have hSm:min S 64=S:=by omega
   have cn:(k:Int)<b.length:=by omega
   clear hc hx ld hN hv hS;go_wp2_with fail
   go_roundw
   case rel=>exact⟨k+1,ae,by go_num,congrArg (λt:Nat=>Value.int .u64 (t:Int)) HT.out,trivial⟩
   case measure=>simp[intOf];omega
  ·obtain rfl:k=b.length:=by omega
   rw[Aw];go_wp2_with fail
   go_ret;exact⟨rfl,rfl⟩
theorem fT0 (l:List Bool) (vb i:Nat) (w:World) (hl:l.length<=1048576) (ac:kE w vb l) :
  Calls Tryz.prog 206 #[.pointer (some ⟨vb,0,none⟩),.int .i64 i] w λe w'=>e=.returned (.bool (bitOf l i))/\w=w':=by
 obtain⟨vW,h1,h2⟩:=ac.c1;obtain⟨aW,cW,rfl,_,_,gk⟩:=h2.at_ (enc:=kG) (λ_=>rfl);have qe:=fW l;rw[qe]at h1;have CL:=Aa (rV l vb w ac);have h0:(0:Int)<=i:=by omega
 by_cases hi:i<l.length
 ·obtain⟨bW,oW,rfl,vu⟩:=at1 (f:=λn:Nat=>Value.int .u64 n) gk (aK (k:=0) (by rw[qe];omega))
  obtain⟨Q,hQ⟩:=exq (i/64);obtain⟨S,hS⟩:=exq (i%64);obtain⟨q,hq⟩:=exq ((l.length+63)/64);have gq:=vu Q _ (pQ (by omega));have wg:=eX1 l i;rw[<-hQ,<-hS]at wg;obtain⟨x,hx⟩:=exq (nE l Q);have jl:x<18446744073709551616:=by rw[hx];exact oU l Q
  rw[<-hx]at gq wg;rw[<-hq]at h1;have s6:Q<q:=by omega
  have hQi:(Q:Int)<q:=by omega
  have eQ:(i:Int)/64=Q:=by omega
  have eQt:(i:Int).tdiv 64=Q:=by rw[Bh (by omega)];omega
  have eS:(i:Int)%64=S:=by omega
  have eSt:(i:Int).tmod 64=S:=by rw[Bi (by omega)];omega
  obtain⟨y,hy⟩:=exq (x>>>S);have jy:y<18446744073709551616:=by rw[hy];exact Nat.lt_of_le_of_lt (Nat.shiftRight_le _ _) jl
  have hsh:(x:Int)/2^S=(y:Nat):=by rw[hy];exact yQ x S
  have wl:=u64_and_nat y 1 jy (by decide);rw[<-hy]at wg;rw[wg]at wl;have hand:bits .and .u64 (y:Int) 1=((if bitOf l i then 1 else 0:Nat):Int):=wl
  clear wl;have sw:(i:Int)<l.length:=by omega
  have mq:S<64:=by omega
  have hSm:min S 64=S:=by omega
  generalize bitOf l i=bt at hand ⊢;clear ac h2 gk vu qe hQ hS hq hx hy wg;go_enter Tryz.func206,Tryz.ntmps206
  go_wp2_with fail
  refine CL.out.mono ?_;rintro e w2 ⟨rfl,rfl⟩
  cases bt with
  | true =>
   simp only[if_true]at hand;go_wp2_with fail
   go_ret;exact⟨rfl,rfl⟩
  | false =>
   simp only[Ce,if_false]at hand;go_wp2_with fail
   go_ret;exact⟨rfl,rfl⟩
 ·have sw:¬(i:Int)<l.length:=by omega
  rw[lI0 (by omega)];clear ac h2 gk qe;go_enter Tryz.func206,Tryz.ntmps206
  go_wp2_with fail
  refine CL.out.mono ?_;rintro e w2 ⟨rfl,rfl⟩;go_wp2_with fail
  go_ret;exact⟨rfl,rfl⟩
theorem lO1 {l:List Bool} {w:World} {bb bo bc k:Nat} (ac:aG w (some ⟨bb,bo,none⟩) 1 ((oP l).map aZ)) (ff:(oP l).length<=bc) (hk:k<(l.length+63)/64) :
  ∃a',(if bc=4+8*k then some ⟨bb,bo,none⟩ else some ⟨bb,bo+(4+8*k),none⟩)=a'/\aG w a' 1 ((leB 8 (nE l k)).map aZ):=by
 have s9:=oB l;obtain⟨a',h1,h2,_⟩:=aB0 (l:=4+8*k) (h:=4+8*k+8) ac (λh=>by cases h) (by omega) (by omega) ff;refine⟨a',?_,?_⟩
 ·rw[<-h1,An,iH]
 ·rw[List.drop_take,show 4+8*k+8-(4+8*k)=8 by omega,aF1 hk]at h2
  exact h2
theorem gO1 {l:List Bool} {w:World} {bb bo:Nat} (ac:aG w (some ⟨bb,bo,none⟩) 1 ((oP l).map aZ)):aG w (some ⟨bb,bo,none⟩) 1 ((leB 4 l.length).map aZ):=λ_=>by
 have s9:=oB l;obtain⟨b,o,h1,h2⟩:=ac (by intro h;have:=congrArg Bz h;rw[Af,List.length_nil]at this;omega);refine⟨b,o,h1,λi row hi j v hj=>h2 i row ?_ j v hj⟩;rw[<-zC0,Ad,Ch]at hi;rw[Ad];split at hi
 ·exact hi
 ·cases hi
theorem yI0 (l:List Bool) (k:Nat):bO0 (leB 8 (nE l k))=nE l k:=by
 rw[fS0];exact Cn (oU l k)
theorem xH0 {l:List Bool} (hl:l.length<=1048576):bO0 (leB 4 l.length)=l.length:=by
 rw[fS0];exact Cn (by rw[show (256:Nat)^4=4294967296 by decide];omega)
theorem qD0 (l:List Bool) (ba:Option Addr) (bc:Nat) (w:World) (hl:l.length<=1048576) (ff:(oP l).length<=bc) (ac:aG w ba 1 ((oP l).map aZ)) :
  Calls Tryz.prog 198 #[.slice ba (oP l).length bc] w λe w'=>∃vb,e=.returned (.tuple #[.pointer (some ⟨vb,0,none⟩),.int .i64 0])/\kE w' vb l/\aB w w':=by
 have s9:=oB l;obtain⟨bb,bo,rfl,_⟩:=at1 (f:=λx:UInt8=>Value.int .u8 x.toNat) ac (Bn (by omega))
 have CH:∀u c,aB w u->Hid (Calls Tryz.prog 239 #[.slice (some ⟨bb,bo,none⟩) 4 c] u λe w'=>e=.returned (.int .u64 l.length)/\u=w'):=λu c hu=>by
  have h:=pY0 (leB 4 l.length) _ c u (by rw[bP];decide) ((gO1 ac).grows hu);rw[bP,xH0 hl]at h;exact h
 obtain⟨N,hN⟩:=exq ((oP l).length);rw[<-hN]at s9 ff ⊢;have HN:=Aa hN;have HEL:=Aa s9;have HAT:=Aa ac;obtain⟨n,hn⟩:=exq l.length;have HNL:=Aa hn;rw[<-hn]at CH hl s9;obtain⟨q,hq⟩:=exq ((n+63)/64);have HQ:=Aa hq;have vj:q<=16384:=by omega
 have hN4:¬(N:Int)<4:=by omega
 have hN0:4<=N:=by omega
 have hN8:¬(N:Int)<4+8*(q:Int):=by omega
 have jc:¬(1048576:Int)<n:=by omega
 have wn:IntKind.i64.wrap (n:Int)=n:=qY (by omega);have w63:IntKind.i64.wrap ((n:Int)+63)=(n:Int)+63:=by have:=qY (x:=n+63) (by omega);rw[Ct]at this;exact this
 have e63:((n:Int)+63)/64=q:=by omega
 have ajq:((n:Int)+63).tdiv 64=q:=by rw[Bh (by omega)];exact e63
 have w8q:IntKind.i64.wrap (8*(q:Int))=8*(q:Int):=by have:=qY (x:=8*q) (by omega);rw[Bw]at this;exact this
 have w4q:IntKind.i64.wrap (4+8*(q:Int))=4+8*(q:Int):=by have:=qY (x:=4+8*q) (by omega);rw[Ct,Bw]at this;exact this
 clear ac hN hn hq s9;obtain⟨W1,bu⟩:=exq (w.alloc (.cells #[.int .i64 n,.slice none 0 0,.slice none 0 0] 289));obtain⟨pb,eo⟩:=exq w.heap.size;have da:=λj u h=>aT w #[.int .i64 n,.slice none 0 0,.slice none 0 0] 289 (0,0) j u h;rw[<-bu,<-eo]at da;have g1:aB w W1:=by rw[bu];exact aB.alloc _ _
 have c0:=da 0 _ rfl;have c1:=da 1 _ rfl;have c2:=da 2 _ rfl;have f1:W1.frozen? ⟨pb,1,none⟩=false:=by rw[bu,eo];exact frozen_of_row _ _ _ _ _ (heap_alloc_new w _)
 have f2:W1.frozen? ⟨pb,2,none⟩=false:=by rw[bu,eo];exact frozen_of_row _ _ _ _ _ (heap_alloc_new w _)
 have ed:W1.heap.size=pb+1:=by rw[bu,eo];simp
 have HPB:=Aa eo;clear da;go_enter Tryz.func198,Tryz.ntmps198
 go_wp2_with fail
 refine(CH _ _ (aB.refl _)).out.mono ?_;rintro e w2 ⟨rfl,rfl⟩;go_wp2_with fail
 refine(CH _ _ (aB.refl _)).out.mono ?_;rintro e w3 ⟨rfl,rfl⟩;go_wp2_with fail
 try rw[<-bu]
 try rw[<-eo]
 clear bu eo CH;go_loopw [35] (λi wr=>∃(k:Nat) (vW:Value),k<=q/\i=.int .i64 k/\wr.cell? ⟨pb,0,none⟩=some (.int .i64 n)/\wr.cell? ⟨pb,1,none⟩=some vW/\wr.cell? ⟨pb,2,none⟩=some (.slice none 0 0)/\wr.frozen? ⟨pb,1,none⟩=false/\wr.frozen? ⟨pb,2,none⟩=false/\aV wr (pb+1) 192 1 kG vW ((nA l).take k)/\Hid (aB w wr)) (λi _=>q-(intOf i).toNat)
 case atStart=>exact⟨0,_,Aq _,rfl,c0,c1,c2,f1,f2,aV.nil _ _ _ _ _,g1⟩
 case round =>
  clear c0 c1 c2 f1 f2 g1;obtain⟨k,vW,hk,rfl,c0,c1,c2,f1,f2,aa,hg⟩:=hrel;by_cases ae:k<q
  ·have cn:(k:Int)<q:=by omega
   have hx:=pQ (l:=l) (k:=k) (by have:=HQ.out;have:=HNL.out;omega);have HT:=Aa (bM hx);have ld:((nA l).take k).length=k:=by rw[As,fW];have:=HQ.out;have:=HNL.out;omega
   obtain⟨aW,cW,rfl,_,_,_⟩:=aa.at_ (enc:=kG) (λ_=>rfl);rw[ld]at c1 aa;obtain⟨a5,ta,ha5⟩:=lO1 HAT.out (by rw[<-HN.out];exact ff) (show k<(l.length+63)/64 by have:=HQ.out;have:=HNL.out;omega)
   have CN:∀x:Ext (EB (pb+1)) wr.drew,Calls Tryz.prog 239 #[.slice a5 8 (bc-(4+8*k))] x.u λe w'=>e=.returned (.int .u64 (nE l k))/\x.u=w':=λx=>by
    have h:=pY0 (leB 8 (nE l k)) a5 (bc-(4+8*k)) x.u (by rw[bP];decide) (ha5.grows (EB.grows hg.out.dr (x.h.mono (by have:=HPB.out;omega))));rw[bP,yI0]at h;exact h
   obtain⟨S,hS⟩:=exq (4+8*k);obtain⟨T,hT⟩:=exq (12+8*k);rw[<-hS]at ta CN;have w8:IntKind.i64.wrap (8*(k:Int))=8*(k:Int):=by have:=qY (x:=8*k) (by omega);rw[Bw]at this;exact this
   have w4:IntKind.i64.wrap (4+8*(k:Int))=S:=by have:=qY (x:=S) (by omega);rw[<-this];congr 1;omega
   have w12:IntKind.i64.wrap (12+8*(k:Int))=T:=by have:=qY (x:=T) (by omega);rw[<-this];congr 1;omega
   have hTN:T<=N:=by have:=HEL.out;have:=HQ.out;have:=HNL.out;omega
   have hTS:T-S=8:=by omega
   have hST:(S:Int)<=T:=by omega
   have hTb:(T:Int)<=bc:=by omega
   clear hS hT;obtain⟨y,hy⟩:=exq (nE l k);rw[<-hy]at CN HT;have mm:pb<wr.heap.size:=Ay wr _ c0;have z1:∀x:Ext (EB (pb+1)) wr.drew,x.u.cell? ⟨pb,1,none⟩=some (.slice aW k cW):=aT0 (Co _) ((aB.drew wr).cell c1);clear hx hy ha5;go_wp2_with fail
   refine rE0 (EB (pb+1)) 16 (bB 16 [14,15]) (EB.refl (pb+1)) (EB.trans (pb+1)) (by kernel_rfl) (by kernel_rfl) (λd _ _ _ _ h=>by cases d<;>exact h) ?_
   iterate 13 (refine aH rfl (λK hK=>?_);go_simp;refine hK _ ?_;clear hK K)
   refine aH rfl (λK hK=>?_);go_simp;apply Exists.intro
   refine⟨λx=>?_,hK _ ?_⟩
   ·go_at_call 239;exact dR (CN x)
   clear hK K;clear z1;refine bJ rfl rfl (λK hK=>?_);go_simp;refine⟨EB.of (aB.alloc _ _) (show pb+1<=wr.heap.size by omega),hK _ _ ?_⟩
   clear hK K;refine bJ rfl rfl (λK hK=>?_);refine sP zR0 _ _ rfl (pb+1) _ ((nA l).take k) y rfl ((aa.grows (aB.drew wr)).grows (aB.alloc _ _)) _ 1 rfl (pY1 (nL1 _ _ _)) (by rw[ld];omega) (by simp;omega) ?_;intro v5 w5 an pj zj;have dh:=aB.trans _ _ _ (aB.drew wr) (aB.alloc wr.drew (.cells #[.int .u64 y] 192))
   have zk:some pb≠(Value.slice aW k cW).ownBlock:=λh=>by
    have:=aY aa _ h.symm
    omega
   have hE5:=EB.own ((aa.grows (aB.drew wr)).grows (aB.alloc _ _)) pj (by simp;omega);have e0:=pj.cell (dh.cell c0) zk;have e1:=pj.cell (dh.cell c1) zk;have e2:=pj.cell (dh.cell c2) zk;have ef1:w5.frozen? ⟨pb,1,none⟩=false:=(Bt (a:=⟨pb,1,none⟩) (pj.block pb (by simp;omega) zk)).trans ((dh.froz (by show pb<_;omega)).trans f1)
   have ef2:w5.frozen? ⟨pb,2,none⟩=false:=(Bt (a:=⟨pb,2,none⟩) (pj.block pb (by simp;omega) zk)).trans ((dh.froz (by show pb<_;omega)).trans f2)
   have ahr:Hid (aB w w5):=EB.grows (hg.out.tr dh) (hE5.mono (by have:=HPB.out;omega));refine⟨hE5,hK _ _ ?_⟩;clear hK K;refine bQ ?_;simp only[List.drop_succ_cons,List.drop_zero];rw[<-HT.out]at an;have ahs:((nA l).take (k+1)).length=k+1:=by rw[As,fW];have:=HQ.out;have:=HNL.out;omega
   obtain⟨a6,c6,rfl,_,_,_⟩:=an.at_ (enc:=kG) (λ_=>rfl);rw[ahs]at an ⊢;clear pj zj dh hE5 aa c0 c1 c2 f1 f2 CN hg;go_wp2_with fail
   go_roundw
   case rel=>exact⟨k+1,_,ae,by go_num,(Ax _ _ _ _ (λh=>by cases h)).trans e0,Bo _ _ _ e1,(Ax _ _ _ _ (λh=>by cases h)).trans e2,(By _ _ _ _).trans ef1,(By _ _ _ _).trans ef2,nC an (p:=⟨pb,1,none⟩) (Co _) _,ahr.out.set (show w.heap.size<=pb by have:=HPB.out;omega) _⟩
   case measure=>simp[intOf];omega
  ·have cn:¬(k:Int)<q:=by omega
   have jt:k=q:=by omega
   rw[jt,At (by rw[fW];have:=HQ.out;have:=HNL.out;omega)]at aa;clear jt;obtain⟨aW,cW,rfl,_,_,gk⟩:=aa.at_ (enc:=kG) (λ_=>rfl);have qe:(nA l).length=q:=by rw[fW];have:=HQ.out;have:=HNL.out;omega
   have CC:=lC0 l pb (pb+1) _ wr (by have:=HNL.out;omega) (λr hr=>by have:=aY aa r hr;omega) c1 c2 f2 aa;rw[qe]at c1;go_wp2_with fail
   refine CC.mono ?_;rintro e w5 ⟨rfl,⟨vC,g2,je⟩,hj,ko⟩;have abn:pb<wr.heap.size:=Ay wr _ c0;have cz:=cZ0 ko abn;have d0:=(hj 0 (by decide)).trans c0;have d1:=(hj 1 (by decide)).trans c1
   have j7:=gS (v:=.slice (some ⟨pb,0,none⟩) 0 0) aa ko (λr h1 h2=>by
    have a1:pb=r:=Option.some.inj h1
    have:=aY aa r h2
    omega)
   have bk:aB w w5:=EB.grows hg.out (cz.mono (by have:=HPB.out;omega));have HV:Hid (kE w5 pb l):=⟨by rw[<-HNL.out];exact d0,⟨_,by rw[qe];exact d1,j7.base (Aq _)⟩,vC,g2,je.base (Aq _)⟩;have lg:l.length<=1048576:=by have:=HNL.out;omega
   have CE:=λ(W:World) (hW:aB w5 W)=>Aa (eW0 l pb W lg (HV.out.grows hW));have HATW:Hid (aG w5 aW 1 ((nA l).map kG)):=(eN0 (λ_=>rfl) j7);have z0:∀x:Ext aB w5.drew,x.u.cell? ⟨pb,0,none⟩=some (.int .i64 n):=aF ((aB.drew w5).cell d0);have z1:∀x:Ext aB w5.drew,x.u.cell? ⟨pb,1,none⟩=some (.slice aW q cW):=aF ((aB.drew w5).cell d1);have HG5:=Aa bk;obtain⟨R,hR⟩:=exq (n%64);have eR:(n:Int)%64=R:=by omega
   have eRt:(n:Int).tmod 64=R:=by rw[Bi (by omega)];exact eR
   have HR:=Aa hR;clear CC c0 c1 c2 f1 f2 aa gk hj ko cz j7 je g2 abn hR hg bk d0 d1 qe;by_cases t9:R=0
   ·subst t9
    go_wp2_with fail
    refine bK (oK [0,1,2,3,4,5,6,7,8,9,10,11,12,13,14,15,16,17,18,19,20,21,22,23,24,26,25,27,28,29] [25,27]) (by kernel_rfl) (λd _ _ _ _ h=>by cases d<;>exact h) ?_
    iterate 26 (refine aH rfl (λK hK=>?_);go_simp;refine hK _ ?_;clear hK K)
    clear z0 z1;refine bJ rfl rfl (λK hK=>?_);go_simp;refine((CE _ (aB.drew w5)).out).mono ?_;rintro e w8 ⟨v8,rfl,ug,fg⟩;refine⟨fg,hK _ _ ?_⟩;clear hK K;obtain⟨a8,c8,rfl,_,_,lm⟩:=ug.at_ bI.len;have lw:aB w w8:=HG5.out.dr.tr fg;have CQ:=Aa (mX (oP l) (oP l) a8 (some ⟨bb,bo,none⟩) c8 bc w8 lm (HAT.out.grows lw));rw[<-HN.out]at CQ ⊢;simp only[decide_true]at CQ;have HV8:=Aa (HV.out.grows ((aB.drew w5).tr fg));clear ug lm fg;refine bJ rfl rfl (λK hK=>?_);go_simp;refine(CQ.out).mono ?_;rintro e w9 ⟨rfl,rfl⟩;refine⟨aB.refl _,hK _ _ ?_⟩;clear hK K;iterate 2 (refine aH rfl (λK hK=>?_);go_simp;refine hK _ ?_;clear hK K)
    refine bQ ?_;go_wp2
    go_ret2;exact⟨pb,rfl,HV8.out,lw⟩
   ·have hRi:((R:Int)==0)=false:=by simp;omega
    have hRn:((R:Int) != 0)=true:=by simp;omega
    have hq0:0<q:=by have:=HQ.out;have:=HR.out;omega
    obtain⟨Q1,ze⟩:=exq (q-1);obtain⟨bW,oW,rfl,vu⟩:=at1 (f:=λn:Nat=>Value.int .u64 n) HATW.out (aK (k:=0) (by rw[fW];have:=HQ.out;have:=HNL.out;omega));have gq:=vu Q1 _ (pQ (by have:=HQ.out;have:=HNL.out;omega))
    have acx:nE l Q1/2^R=0:=by
     have h:=eU1 (l:=l) (q:=Q1) (by have:=HQ.out;have:=HNL.out;omega) (by have:=HQ.out;have:=HNL.out;have:=HR.out;omega) (by have:=HNL.out;have:=HR.out;omega);rw[<-HNL.out,<-HR.out]at h;exact h
    obtain⟨x,hx⟩:=exq (nE l Q1);rw[<-hx]at gq acx;have jl:x<18446744073709551616:=by rw[hx];exact oU l Q1
    have hsh:(x:Int)/2^R=0:=by
     have:(x:Int)/2^R=((x/2^R:Nat):Int):=by push_cast;rfl
     rw[this,acx];rfl
    have wQ1:IntKind.i64.wrap ((q:Int)-1)=Q1:=by have:=qY (x:=Q1) (by omega);rw[<-this];congr 1;omega
    have s6:Q1<q:=by omega
    have hQi:(Q1:Int)<q:=by omega
    have ajr:R<64:=by have:=HR.out;omega
    have hRm:min R 64=R:=by omega
    have z2:∀x':Ext aB w5.drew,x'.u.cell? ⟨bW,oW+Q1,none⟩=some (.int .u64 x):=aF ((aB.drew w5).cell gq);clear vu gq hx acx HATW ze hq0;go_wp2_with fail
    refine bK (oK [0,1,2,3,4,5,6,7,8,9,10,11,12,13,14,15,16,17,18,19,20,21,22,23,24,26,25,27,28,29] [25,27]) (by kernel_rfl) (λd _ _ _ _ h=>by cases d<;>exact h) ?_
    iterate 26 (refine aH rfl (λK hK=>?_);go_simp;refine hK _ ?_;clear hK K)
    clear z0 z1 z2;refine bJ rfl rfl (λK hK=>?_);go_simp;refine((CE _ (aB.drew w5)).out).mono ?_;rintro e w8 ⟨v8,rfl,ug,fg⟩;refine⟨fg,hK _ _ ?_⟩;clear hK K;obtain⟨a8,c8,rfl,_,_,lm⟩:=ug.at_ bI.len;have lw:aB w w8:=HG5.out.dr.tr fg;have CQ:=Aa (mX (oP l) (oP l) a8 (some ⟨bb,bo,none⟩) c8 bc w8 lm (HAT.out.grows lw));rw[<-HN.out]at CQ ⊢;simp only[decide_true]at CQ;have HV8:=Aa (HV.out.grows ((aB.drew w5).tr fg));clear ug lm fg;refine bJ rfl rfl (λK hK=>?_);go_simp;refine(CQ.out).mono ?_;rintro e w9 ⟨rfl,rfl⟩;refine⟨aB.refl _,hK _ _ ?_⟩;clear hK K;iterate 2 (refine aH rfl (λK hK=>?_);go_simp;refine hK _ ?_;clear hK K)
    refine bQ ?_;go_wp2
    go_ret2;exact⟨pb,rfl,HV8.out,lw⟩
end
section
open Go Go.RowKit Go.Shelf
attribute [local go_sem] aQ aM
theorem cV1 (L:List (List UInt8)) (tb i:Nat) (w:World) (ag:OkL L) (hl:L.length<=20000) (hc:gB L<=524287) (hi:i<(nodesA L).length) (ac:eZ w tb L) :
  Calls Tryz.prog 205 #[.pointer (some ⟨tb,0,none⟩),.int .i64 i] w λe w'=>e=.returned (.tuple #[.int .i64 (offA L i:Nat),.int .i64 (offA L (i+1):Nat)])/\aB w w':=by
 obtain⟨z1,z2,_,_,_⟩:=ag.sizes hl hc;obtain⟨sb,s1,s2⟩:=ac.s
 have uf:(shapeL L (nodesA L)).length=2*(nodesA L).length+1:=by
  have h:=eK L (nodesA L).length (Al _);rw[Aw,ag.off_all]at h;omega
 obtain⟨p1,p2,p3⟩:=uA (L:=L) (i:=i) (by omega);obtain⟨r1,r2,_⟩:=uA (L:=L) (i:=i+1) (by omega);have ho1:=ag.off_le i;have ho2:=ag.off_le (i+1);have hm:=mL (L:=L) (show i<=i+1 by omega)
 have CS1:=λ(u:World) (hu:aB w u)=>Aa (uJ (shapeL L (nodesA L)) sb false (offA L i+i) i u z1 (by omega) p1 p2 (s2.grows hu));have CS2:=λ(u:World) (hu:aB w u)=>Aa (uJ (shapeL L (nodesA L)) sb false (offA L (i+1)+(i+1)) (i+1) u z1 (by omega) r1 r2 (s2.grows hu))
 have CR:∀u,aB w u->Hid (Calls Tryz.prog 176 #[.pointer (some ⟨sb,0,none⟩),.bool true,.int .i64 (offA L i+i+1:Nat)] u λe w'=>e=.returned (.int .i64 (offA L i:Nat))/\u=w'):=λu hu=>by
  have h:=qR (shapeL L (nodesA L)) sb true (offA L i+i+1) u z1 (by omega) (s2.grows hu);rw[show min (offA L i+i+1) (shapeL L (nodesA L)).length=offA L i+i+1 by omega,p3]at h
  exact h
 obtain⟨A,hA⟩:=exq (offA L i);obtain⟨B,hB⟩:=exq (offA L (i+1));rw[<-hA]at CS1 CR ho1 hm ⊢;rw[<-hB]at CS2 ho2 hm ⊢;obtain⟨P,hP⟩:=exq (A+i);obtain⟨F,hF⟩:=exq (A+i+1);obtain⟨T,hT⟩:=exq (B+(i+1));obtain⟨j,hj⟩:=exq (i+1);rw[<-hP]at CS1;rw[<-hF]at CR;rw[<-hj]at hT;rw[<-hj,<-hT]at CS2
 have hN:(nodesA L).length<=524287:=by
  have:=fB ag.asc ag.len
  omega
 have w1:IntKind.i64.wrap ((P:Int)+1)=F:=by simp[Ag,Ah,Ae];omega
 have w2:IntKind.i64.wrap ((i:Int)+1)=j:=by simp[Ag,Ah,Ae];omega
 have w3:IntKind.i64.wrap ((A:Int)+T)=(A:Int)+T:=by simp[Ag,Ah,Ae];omega
 have w4:IntKind.i64.wrap ((A:Int)+T-F)=B:=by simp[Ag,Ah,Ae];omega
 clear hP hF hT hj hA hB p1 p2 p3 r1 r2 ac s2 uf z1 z2;go_enter Tryz.func205,Tryz.ntmps205
 go_wp2_with fail
 refine(CS1 w (aB.refl w)).out.mono ?_;rintro e w1' ⟨rfl,aq⟩;have s1a:=aq.cell s1;go_wp2_with fail
 refine(CS2 w1' aq).out.mono ?_;rintro e w2' ⟨rfl,af⟩;have hg:=aq.tr af;have s1b:=hg.cell s1;clear s1a aq af CS1 CS2 s1;go_wp2_with fail
 refine(CR w2' hg).out.mono ?_;rintro e w3' ⟨rfl,rfl⟩;clear CR;go_wp2_with fail
 go_ret2;exact⟨rfl,hg⟩
theorem jJ0 (L:List (List UInt8)) (tb i:Nat) (c:UInt8) (w:World) (ag:OkL L) (hl:L.length<=20000) (hc:gB L<=524287) (hi:i<(nodesA L).length) (ac:eZ w tb L) :
  Calls Tryz.prog 147 #[.pointer (some ⟨tb,0,none⟩),.int .i64 i,.int .u8 (c.toNat:Nat)] w λe w'=>∃(k:Nat) (b:Bool),e=.returned (.tuple #[.int .i64 k,.bool b])/\jX1 L i c k b/\aB w w':=by
 obtain⟨x,hx⟩:∃x,(nodesA L)[i]?=some x:=⟨_,Ac hi⟩;have CK:=λ(u:World) (hu:aB w u)=>Aa (cV1 L tb i u ag hl hc hi (ac.grows hu));obtain⟨_,_,z3,_,_⟩:=ag.sizes hl hc;obtain⟨vL,l1,l2⟩:=ac.l;obtain⟨aL,cL,rfl,_,_,j5⟩:=l2.at_ bI.len;have HATL:=Aa j5;obtain⟨ln,vl⟩:=exq ((labelsL L (nodesA L)).length);rw[<-vl]at l1;have HLN:=Aa vl;have ho2:=ag.off_le (i+1)
 have hN:(nodesA L).length<=524287/\ln+1=(nodesA L).length:=by
  have:=fB ag.asc ag.len
  refine⟨by omega,?_⟩;rw[vl,ag.labels,Af,Bb];omega
 have HX:=Aa hx;have HOK:=Aa ag;obtain⟨A,hA⟩:=exq (offA L i);obtain⟨B,hB⟩:=exq (offA L (i+1));rw[<-hA,<-hB]at CK;rw[<-hB]at ho2;have hA1:1<=A:=by rw[hA];exact OkL.off_pos i
 have START:Hid (oY L i c A B):=by
  rw[hA,hB];exact Aa (oY.start L i c)
 have HB:=Aa hB;have HA:=Aa hA;clear hx ac l2 j5 vl hA hB hl hc;go_enter Tryz.func147,Tryz.ntmps147
 go_wp2_with fail
 refine(CK w (aB.refl w)).out.mono ?_;rintro e w1 ⟨rfl,aq⟩;have G1:=Aa aq;clear aq;go_wp2_with fail
 go_loopw [8,9] (λf t wr=>∃F T:Nat,f=.int .i64 F/\t=.int .i64 T/\T<=B/\1<=F/\F<=T/\Hid (oY L i c F T)/\Hid (aB w wr)) (λf t _=>(intOf t).toNat-(intOf f).toNat)
 case atStart=>exact⟨A,B,rfl,rfl,Al _,hA1,START.out.le,START.out,G1.out⟩
 case round =>
  clear START;obtain⟨F,T,rfl,rfl,hTB,hF1,hFT,hI,hG⟩:=hrel;have l1r:=hG.out.cell l1;by_cases ae:F<T
  ·have dp:(F:Int)<T:=by omega
   obtain⟨M,hM⟩:=exq ((F+T)/2);obtain⟨M1,hM1⟩:=exq (M-1);have wFT:IntKind.i64.wrap ((F:Int)+T)=(F:Int)+T:=by simp[Ag,Ah,Ae];omega
   have eM:((F:Int)+T)/2=M:=by omega
   have wM1:IntKind.i64.wrap ((M:Int)-1)=M1:=by simp[Ag,Ah,Ae];omega
   have hFM:F<=M:=by omega
   have hMT:M<T:=by omega
   obtain⟨d,hd⟩:=HOK.out.lab_get HX.out (k:=M) (Ci hI.out.lo hFM) (by rw[<-HB.out];omega);rw[<-hM1]at hd;obtain⟨lb,lo,rfl,ci⟩:=at1 (f:=λb:UInt8=>Value.int .u8 b.toNat) (HATL.out.grows hG.out) (Bf (Aj hd));have hlc:=ci M1 d hd;have aht:(M1:Int)<ln:=by omega
   have HD:=Aa hd;have HM1:=Aa hM1;have vn:M<=524287:=by omega
   clear ci hd hM hM1;by_cases hdc:d.toNat<c.toNat
   ·have hdi:(d.toNat:Int)<c.toNat:=by omega
    have hI2:=Aa (hI.out.less HOK.out HX.out hFM hMT (by rw[<-HM1.out];exact HD.out) hdc);obtain⟨M2,zz⟩:=exq (M+1);have wM2:IntKind.i64.wrap ((M:Int)+1)=M2:=by simp[Ag,Ah,Ae];omega
    rw[<-zz]at hI2;go_wp2_with fail
    go_roundw
    case rel=>exact⟨M2,T,by go_num,rfl,hTB,by omega,by omega,hI2.out,hG.out⟩
    case measure=>simp[intOf];omega
   ·have hdi:¬(d.toNat:Int)<c.toNat:=by omega
    have hI2:=Aa (hI.out.more HOK.out HX.out hFM hMT (by rw[<-HM1.out];exact HD.out) hdc);go_wp2_with fail
    go_roundw
    case rel=>exact⟨F,M,rfl,by go_num,by omega,hF1,hFM,hI2.out,hG.out⟩
    case measure=>simp[intOf];omega
  ·have dp:¬(F:Int)<T:=by omega
   obtain rfl:F=T:=by omega
   have CK2:=CK wr hG.out;clear CK;go_wp2_with fail
   refine CK2.out.mono ?_;rintro e w2 ⟨rfl,af⟩;have pg:=hG.out.tr af;have l1s:=pg.cell l1;by_cases hFB:F<B
   ·have ahu:(F:Int)<B:=by omega
    obtain⟨M1,hM1⟩:=exq (F-1);have wM1:IntKind.i64.wrap ((F:Int)-1)=M1:=by simp[Ag,Ah,Ae];omega
    obtain⟨d,hd⟩:=HOK.out.lab_get HX.out (k:=F) hI.out.lo (by rw[<-HB.out];omega);rw[<-hM1]at hd;obtain⟨lb,lo,rfl,ci⟩:=at1 (f:=λb:UInt8=>Value.int .u8 b.toNat) (HATL.out.grows pg) (Bf (Aj hd));have aht:(M1:Int)<ln:=by omega
    have y0:∀y:Ext aB w2.drew,y.u.cell? ⟨lb,lo+M1,none⟩=some (.int .u8 d.toNat):=aF ((aB.drew w2).cell (ci M1 d hd));have y1:∀y:Ext aB w2.drew,y.u.cell? ⟨tb,2,none⟩=some (.slice (some ⟨lb,lo,none⟩) ln cL):=aF ((aB.drew w2).cell l1s);have HD:=Aa hd;have HM1:=Aa hM1;by_cases hdc:d=c
    ·have RES:Hid (jX1 L i c F true):=hI.out.hit (by rw[<-HB.out];exact hFB) (by rw[<-HM1.out,<-hdc];exact HD.out)
     have hdi:((d.toNat:Int)==c.toNat)=true:=by rw[hdc];simp
     clear ci hd hM1 l1s l1r hdc hI;go_wp2_with fail
     refine bK (bB 18 []) (by kernel_rfl) (λd _ _ _ _ h=>by cases d<;>exact h) ?_
     iterate 18 (refine aH rfl (λK hK=>?_);go_simp;refine hK _ ?_;clear hK K)
     refine bQ ?_;clear y0 y1;go_wp2
     go_ret2;exact⟨F,true,rfl,RES.out,pg.dr⟩
    ·have RES:Hid (jX1 L i c F false):=hI.out.miss HOK.out HX.out (by rw[<-HB.out];exact hFB) (by rw[<-HM1.out];exact HD.out) hdc
     have hdi:((d.toNat:Int)==c.toNat)=false:=by
      rw[beq_eq_false_iff_ne];intro h;exact hdc (UInt8.toNat_inj.1 (by omega))
     clear ci hd hM1 l1s l1r hdc hI;go_wp2_with fail
     refine bK (bB 18 []) (by kernel_rfl) (λd _ _ _ _ h=>by cases d<;>exact h) ?_
     iterate 18 (refine aH rfl (λK hK=>?_);go_simp;refine hK _ ?_;clear hK K)
     refine bQ ?_;clear y0 y1;go_wp2
     go_ret2;exact⟨F,false,rfl,RES.out,pg.dr⟩
   ·have ahu:¬(F:Int)<B:=by omega
    have RES:Hid (jX1 L i c F false):=hI.out.ends (by rw[<-HB.out];exact hFB);clear hI l1r;go_wp2_with fail
    refine bK (bB 18 []) (by kernel_rfl) (λd _ _ _ _ h=>by cases d<;>exact h) ?_
    iterate 18 (refine aH rfl (λK hK=>?_);go_simp;refine hK _ ?_;clear hK K)
    refine bQ ?_;go_wp2
    go_ret2;exact⟨F,false,rfl,RES.out,pg.dr⟩
theorem bF1 (L:List (List UInt8)) (tb i:Nat) (s:List UInt8) (w:World) (ag:OkL L) (hl:L.length<=20000) (hc:gB L<=524287) (hn:gT L s i) (ac:eZ w tb L) :
  Calls Tryz.prog 148 #[.pointer (some ⟨tb,0,none⟩),.int .i64 i] w λe w'=>e=.returned (.tuple #[.int .i64 ((kK L s).1:Nat),.bool (kK L s).2])/\aB w w':=by
 obtain⟨x,hx,rfl⟩:=hn;have sw:=(List.getElem?_eq_some_iff.1 hx).1;have hf:=ag.find_node hx;obtain⟨_,z2,_,z4,z5⟩:=ag.sizes hl hc;obtain⟨ib,i1,i2⟩:=ac.i;obtain⟨pb,d1,d2⟩:=ac.d
 have hN:(nodesA L).length<=524287:=by
  have:=fB ag.asc ag.len
  omega
 have CG:=Aa (fT0 (isL L (nodesA L)) ib i w (by omega) i2);rw[gZ0 hx]at CG;by_cases hh:jG L x=true
 ·rw[if_pos hh]at hf
  rw[hf];rw[hh]at CG;have hid:=rI0 hx hh;have ajs:(isL L (nodesA L)).length=(nodesA L).length:=by unfold isL;rw[Af]
  obtain⟨k,hk⟩:=exq (dY (isL L (nodesA L)) i);rw[<-hk]at hid
  have CR:∀u,aB w u->Hid (Calls Tryz.prog 176 #[.pointer (some ⟨ib,0,none⟩),.bool true,.int .i64 i] u λe w'=>e=.returned (.int .i64 (k:Nat))/\u=w'):=λu hu=>by
   have h:=qR (isL L (nodesA L)) ib true i u (by omega) (by omega) (i2.grows hu);rw[show min i (isL L (nodesA L)).length=i by omega]at h
   rw[hk];exact h
  have CP:=λ(u:World) (hu:aB w u)=>Aa (sQ (idsL L (nodesA L)) pb k x.i u (d2.grows hu) (by omega) (λn hn=>by have:=z5 n hn;omega) hid);have z0:∀y:Ext aB w.drew,y.u.cell? ⟨tb,3,none⟩=some (.pointer (some ⟨pb,0,none⟩)):=aF ((aB.drew w).cell d1);have z1':∀y:Ext aB w.drew,y.u.cell? ⟨tb,1,none⟩=some (.pointer (some ⟨ib,0,none⟩)):=aF ((aB.drew w).cell i1);have hx5:x.i<=20000:=z5 _ (Aj hid);have wx:IntKind.i64.wrap ((x.i:Nat):Int)=(x.i:Nat):=by simp[Ag,Ah,Ae];omega
  clear ac d2 i2 hid hx hk hf ag;go_enter Tryz.func148,Tryz.ntmps148
  go_wp2_with fail
  refine CG.out.mono ?_;rintro e w1 ⟨rfl,rfl⟩;go_wp2_with fail
  refine bK (bB 16 [10]) (by kernel_rfl) (λd _ _ _ _ h=>by cases d<;>exact h) ?_
  iterate 9 (refine aH rfl (λK hK=>?_);go_simp;refine hK _ ?_;clear hK K)
  refine aH rfl (λK hK=>?_);go_simp;apply Exists.intro
  refine⟨λx=>?_,hK _ ?_⟩
  ·go_at_call 176;exact dR (CR _ ((aB.drew w).tr x.h)).out
  clear hK K;clear z0 z1';refine bJ rfl rfl (λK hK=>?_);go_simp;refine((CP w.drew (aB.drew w)).out).mono ?_;rintro e w2 ⟨rfl,af⟩;refine⟨af,hK _ _ ?_⟩;clear hK K;iterate 5 (refine aH rfl (λK hK=>?_);go_simp;refine hK _ ?_;clear hK K)
  refine bQ ?_;go_wp2
  go_ret2;exact⟨rfl,(aB.drew w).tr af⟩
 ·rw[if_neg hh]at hf
  rw[hf];rw[show jG L x=false by simpa using hh]at CG
  clear ac d2 i2 hx hf ag;go_enter Tryz.func148,Tryz.ntmps148
  go_wp2_with fail
  refine CG.out.mono ?_;rintro e w1 ⟨rfl,rfl⟩;go_wp2
  go_ret2;exact⟨rfl,aB.refl _⟩
theorem zI0 (L:List (List UInt8)) (tb:Nat) (s:ByteArray) (w:World) (ag:OkL L) (hl:L.length<=20000) (hc:gB L<=524287) (hs:s.size<=9223372036854775807) (ac:eZ w tb L) :
  Calls Tryz.prog 152 #[.pointer (some ⟨tb,0,none⟩),.string s] w λe w'=>∃(k:Nat) (b:Bool),e=.returned (.tuple #[.int .i64 k,.bool b])/\kP0 L (bl s) k b/\aB w w':=by
 have HOK:=Aa ag;have CD:=λ(i:Nat) (c:UInt8) (hi:i<(nodesA L).length) (u:World) (hu:aB w u)=>Aa (jJ0 L tb i c u ag hl hc hi (ac.grows hu));clear ac ag;go_enter Tryz.func152,Tryz.ntmps152
 go_wp2_with fail
 go_loopw [6,7,8] (λf b i wr=>∃(k j:Nat) (ok:Bool),f=.int .i64 k/\b=.bool ok/\i=.int .i64 j/\j<=s.size/\Hid (kP0 L ((bl s).take j) k ok)/\Hid (aB w wr)) (λ_ _ i _=>s.size-(intOf i).toNat)
 case atStart=>exact⟨0,0,true,rfl,rfl,rfl,Aq _,⟨λ_=>HOK.out.isRoot,λh=>by cases h⟩,aB.refl _⟩
 case round =>
  obtain⟨k,j,ok,rfl,rfl,rfl,hj,hW,hG⟩:=hrel;by_cases ae:j<s.size
  ·have dp:(j:Int)<s.size:=by omega
   cases ok with
   | true =>
    have hcj:(bl s)[j]?=some s[j]:=oZ ae;have CD1:=CD k s[j] (hW.out.1 rfl).lt wr hG.out;have HC:=Aa hcj;clear CD hcj;go_wp2_with fail
    refine CD1.out.mono ?_;rintro e w1 ⟨k1,b1,rfl,hd,aq⟩;have HW1:=Aa (HOK.out.down_to (hW.out.1 rfl) hd);rw[<-bM HC.out]at HW1;go_wp2_with fail
    go_roundw
    case rel=>exact⟨k1,j+1,b1,rfl,rfl,by go_num,ae,HW1.out,hG.out.tr aq⟩
    case measure=>simp[intOf];omega
   | false =>
    have HW1:=Aa (HOK.out.walk_stop hW.out);go_wp2_with fail
    go_ret2;exact⟨k,false,rfl,HW1.out,hG.out⟩
  ·have dp:¬(j:Int)<s.size:=by omega
   obtain rfl:j=s.size:=by omega
   have HW1:=hW.out;rw[At (by rw[dJ];exact Al _)]at HW1
   cases ok with
   | true =>
    go_wp2_with fail
    go_ret2;first|exact⟨k,true,rfl,HW1,hG.out⟩|exact⟨k,.inr ⟨rfl,HW1,hG.out⟩⟩
   | false =>
    go_wp2_with fail
    go_ret2;first|exact⟨k,false,rfl,HW1,hG.out⟩|exact⟨k,.inl ⟨rfl,HW1,hG.out⟩⟩
theorem pZ1 (n:Nat) (h:n<4294967296):∃b0 b1 b2 b3:Nat,leB 4 n=[Am b0,Am b1,Am b2,Am b3]/\b0<256/\b1<256/\b2<256/\b3<256/\n=b0+b1*256+b2*65536+b3*16777216:=by
 refine⟨n%256,n/256%256,n/65536%256,n/16777216%256,?_,by omega,by omega,by omega,by omega,by omega⟩;unfold leB;simp[Ba,List.range.loop,aS0]
def rP (Ps:List (List UInt8)) (k:Nat):List UInt8:=(Ps.drop k).flatMap eW
theorem fY0 {Ps:List (List UInt8)} {k:Nat} {b:List UInt8} (h:Ps[k]?=some b):rP Ps k=leB 4 b.length++(b++rP Ps (k+1)):=by
 unfold rP;have hk:=(List.getElem?_eq_some_iff.1 h).1;rw[Bk hk,(List.getElem?_eq_some_iff.1 h).2,Az,eW,Ar]
theorem qX0:∀(l:List (List UInt8)),(∀b∈l,b.length<=1000000000)->(l.flatMap eW).length<=l.length*1000000004
 | [],_=>by simp
 | b::l,h=>by
  have h1:=qX0 l λx hx=>h x (List.mem_cons_of_mem _ hx);have h2:=h b List.mem_cons_self;rw[Az,Ab,eW,Ab,bP,Bp];omega
theorem EB.set1 {B:Nat} {w:World} {p:Addr} (h:B<=p.block) (v:Value):EB B w (w.setCell p v):=⟨Below.setCell (Below.refl _ _) h v,by simp⟩
structure qY0 (w:World) (v:Value) (b:List UInt8):Prop where
 out:∃a c,v=.slice a b.length c/\b.length<=c/\(a=none->c=0)/\aG w a 1 (b.map aZ)
theorem qY0.grows {w w':World} {v:Value} {b:List UInt8} (h:qY0 w v b) (hg:aB w w'):qY0 w' v b:=by
 obtain⟨a,c,h1,h2,h3,h4⟩:=h.out;exact⟨a,c,h1,h2,h3,h4.grows hg⟩
theorem rV0 (P0 P1 P2 P3:List UInt8) (a:Option Addr) (c:Nat) (w:World) (h0:P0.length<=1000000000) (h1:P1.length<=1000000000) (h2:P2.length<=1000000000) (h3:P3.length<=1000000000)
  (hc:(rP [P0,P1,P2,P3] 0).length<=c) (ac:aG w a 1 ((rP [P0,P1,P2,P3] 0).map aZ)) :
  Calls Tryz.prog 197 #[.slice a (rP [P0,P1,P2,P3] 0).length c] w λe w'=>∃v0 v1 v2 v3,e=.returned (.tuple #[.agg #[v0,v1,v2,v3],.bool true])/\qY0 w' v0 P0/\qY0 w' v1 P1/\qY0 w' v2 P2/\qY0 w' v3 P3/\aB w w':=by
 have ah:∀(k:Nat) (b:List UInt8),[P0,P1,P2,P3][k]?=some b->b.length<=1000000000:=λk b hb=>by
  match k,hb with
  | 0,hb =>
   obtain rfl:P0=b:=by simpa using hb
   exact h0
  | 1,hb =>
   obtain rfl:P1=b:=by simpa using hb
   exact h1
  | 2,hb =>
   obtain rfl:P2=b:=by simpa using hb
   exact h2
  | 3,hb =>
   obtain rfl:P3=b:=by simpa using hb
   exact h3
  | k+4,hb=>simp at hb
 have aj:rP [P0,P1,P2,P3] 0≠[]:=by
  rw[fY0 (k:=0) rfl];intro e
  have:=congrArg Bz e
  rw[Ab,bP]at this;simp at this
 obtain⟨ba,bo,rfl,_⟩:=at1 (f:=λx:UInt8=>Value.int .u8 x.toNat) ac aj;have START:Hid (qY0 w (.slice (some ⟨ba,bo,none⟩) (rP [P0,P1,P2,P3] 0).length c) (rP [P0,P1,P2,P3] 0)):=⟨_,c,rfl,hc,(λh=>by cases h),ac⟩;have HLEN:=Aa ah;obtain⟨Ps,hPs⟩:=exq ([P0,P1,P2,P3]);rw[<-hPs]at START HLEN hc ⊢;have HPS:=Aa hPs;have HL4:Hid (Ps.length=4):=by show _=_;rw[hPs];rfl
 obtain⟨pb,eo⟩:=exq w.heap.size;obtain⟨W1,bu⟩:=exq (w.alloc (.cells #[.slice none 0 0,.slice none 0 0,.slice none 0 0,.slice none 0 0] 269));have aq:aB w W1:=by rw[bu];exact aB.alloc _ _
 have ch:Hid (∃f,rC W1 pb 4 f):=by
  have h:=gA1 (m:=4) (aB.refl (w.alloc (.cells #[.slice none 0 0,.slice none 0 0,.slice none 0 0,.slice none 0 0] 269))) rfl;rw[<-bu,<-eo]at h;exact⟨_,h⟩
 have HPB:=Aa eo;clear ac ah h0 h1 h2 h3 hPs aj hc;go_enter Tryz.func197,Tryz.ntmps197
 go_wp2_with fail
 rw[<-bu,<-eo];clear bu eo;go_loopw [0,6] (λvb vi wr=>∃k:Nat,k<=4/\vi=.int .i64 k/\Hid (qY0 w vb (rP Ps k))/\Hid (∃f,rC wr pb 4 f/\∀j b,j<k->Ps[j]?=some b->qY0 w (f j) b)/\Hid (aB w wr)) (λ_ vi _=>4-(intOf vi).toNat)
 case atStart=>exact⟨0,by omega,rfl,START.out,by obtain⟨f,hf⟩:=ch.out;exact⟨f,hf,λj b h=>by omega⟩,aq⟩
 case round =>
  clear START ch aq;obtain⟨k,hk,rfl,hS,hR,hG⟩:=hrel;by_cases ae:k<4
  ·have cn:(k:Int)<4:=by omega
   obtain⟨b,hb⟩:∃b,Ps[k]?=some b:=⟨_,Ac (by rw[HL4.out];exact ae)⟩;have HB:=Aa hb;have gn:=HLEN.out k b hb;have HRS:=Aa (fY0 hb);obtain⟨a,c',rfl,ml,hc2,ac⟩:=hS.out;obtain⟨R,hRe⟩:=exq (rP Ps k);obtain⟨R2,rk⟩:=exq (rP Ps (k+1));obtain⟨n,hn⟩:=exq b.length;rw[<-hRe]at ml ac HRS ⊢;rw[<-rk,<-hn]at HRS;rw[<-hn]at gn;have HR2:=Aa rk;have HN:=Aa hn;obtain⟨RL,hRL⟩:=exq R.length;have aas:RL=4+(n+R2.length):=by rw[hRL,HRS.out,Ab,Ab,bP,hn]
   have ajt:RL<=4000000016:=by
    have h:=qX0 (Ps.drop k) λx hx=>by
     obtain⟨j,hj⟩:=List.mem_iff_getElem?.1 (List.mem_of_mem_drop hx);exact HLEN.out j x hj
    rw[Bb,HL4.out]at h;have h2:RL=((Ps.drop k).flatMap eW).length:=by rw[hRL,hRe];rfl
    omega
   have wRL:IntKind.i64.wrap ((RL:Int)-4)=(RL:Int)-4:=by have:=qY (x:=RL-4) (by omega);rw[Int.natCast_sub (by omega)]at this;exact this
   obtain⟨b0,b1,b2,b3,fc,h0,h1,h2,h3,fe⟩:=pZ1 n (by omega);obtain⟨bb,bo',rfl,be⟩:=at1 (f:=λx:UInt8=>Value.int .u8 x.toNat) (ac.grows hG.out) (Bn (by omega));have tN:∀x:Nat,x<256->((Am x).toNat:Int)=x:=λx hx=>by simp;omega
   have hRh:R=[Am b0,Am b1,Am b2,Am b3]++(b++R2):=by rw[HRS.out,fc]
   have q0:wr.cell? ⟨bb,bo',none⟩=some (.int .u8 b0):=by have:=be 0 (Am b0) (by rw[hRh];rfl);rw[tN _ h0]at this;exact this
   have q1:wr.cell? ⟨bb,bo'+1,none⟩=some (.int .u8 b1):=by have:=be 1 (Am b1) (by rw[hRh];rfl);rw[tN _ h1]at this;exact this
   have q2:wr.cell? ⟨bb,bo'+2,none⟩=some (.int .u8 b2):=by have:=be 2 (Am b2) (by rw[hRh];rfl);rw[tN _ h2]at this;exact this
   have q3:wr.cell? ⟨bb,bo'+3,none⟩=some (.int .u8 b3):=by have:=be 3 (Am b3) (by rw[hRh];rfl);rw[tN _ h3]at this;exact this
   have z0:∀x:Ext aB wr.drew,x.u.cell? ⟨bb,bo',none⟩=some (.int .u8 b0):=aF ((aB.drew wr).cell q0);have z1:∀x:Ext aB wr.drew,x.u.cell? ⟨bb,bo'+1,none⟩=some (.int .u8 b1):=aF ((aB.drew wr).cell q1);have z2:∀x:Ext aB wr.drew,x.u.cell? ⟨bb,bo'+2,none⟩=some (.int .u8 b2):=aF ((aB.drew wr).cell q2);have z3:∀x:Ext aB wr.drew,x.u.cell? ⟨bb,bo'+3,none⟩=some (.int .u8 b3):=aF ((aB.drew wr).cell q3);have i0:0<RL:=by omega
   have i1:(1:Int)<RL:=by omega
   have i2:(2:Int)<RL:=by omega
   have i3:(3:Int)<RL:=by omega
   have wi:∀x:Nat,x<256->IntKind.i64.wrap (x:Int)=x:=λx hx=>by simp[Ag,Ah,Ae];omega
   have w0:=wi b0 h0;have w1:=wi b1 h1;have w2:=wi b2 h2;have w3:=wi b3 h3;obtain⟨c1,c2,c3,s1,s2,m1,m2,m3,o1,o2,o3⟩:=yX0 h0 h1 h2 h3 fe;have aju:¬(RL:Int)<4:=by omega
   have zv:¬(RL:Int)-4<n:=by omega
   have HGW:=Aa hG.out;have HRE:=Aa hRe;have HRL:=Aa hRL;have HLR:=Aa aas;have HAT:=Aa ac;rw[<-hRL]at ml ⊢;clear fe be tN fc hRh q0 q1 q2 q3 wi hb hRe rk hn hRL aas ac;go_wp2_with fail
   refine bK (bB 23 []) (by kernel_rfl) (λd _ _ _ _ h=>by cases d<;>exact h) ?_
   iterate 23 (refine aH rfl (λK hK=>?_);go_simp;refine hK _ ?_;clear hK K)
   refine bQ ?_;clear z0 z1 z2 z3 i0 i1 i2 i3 w0 w1 w2 w3 m1 m2 m3 o1 o2 o3 h0 h1 h2 h3;obtain⟨T,hT⟩:=exq (4+n);have hTR:T<=RL:=by have:=HLR.out;omega
   have hT4:4<=T:=by omega
   have wT:IntKind.i64.wrap (4+(n:Int))=T:=by have:=qY (x:=T) (by omega);rw[<-this];congr 1;omega
   have hTc:(T:Int)<=c':=by omega
   have ajv:(T:Int)<=RL:=by omega
   have h4T:(4:Int)<=T:=by omega
   have hRc:(RL:Int)<=c':=by omega
   have hTn:T-4=n:=by omega
   have hRT:RL-T=R2.length:=by have:=HLR.out;omega
   obtain⟨a1,ie,ha1,io⟩:=aB0 (l:=4) (h:=T) HAT.out hc2 hT4 (by rw[<-HRL.out];exact hTR) (by rw[<-HRL.out];exact ml);obtain⟨a2,gw,ha2,km⟩:=aB0 (l:=T) (h:=RL) HAT.out hc2 hTR (by rw[HRL.out];exact Al _) (by rw[<-HRL.out];exact ml);rw[An,iH]at ie gw
   have e1:(R.take T).drop 4=b:=by
    rw[HRS.out,List.take_append,bP,At (by rw[bP];omega),show T-4=b.length by rw[<-HN.out];exact hTn,List.take_left,Cu (bP 4 n)]
   have e2:(R.take RL).drop T=R2:=by
    rw[HRL.out,Aw,HRS.out,<-Ar,Cu (by rw[Ab,bP,<-HN.out,hT])]
   rw[e1]at ha1;rw[e2]at ha2;have HA1:=Aa ha1;have HA2:=Aa ha2;obtain⟨f,ch,dz⟩:=hR.out;have qh:=ch.cell k ae;have us:=ch.froz k;have HROW:=Aa ch;have HSET:=Aa dz;clear e1 e2 ha1 ha2 hT ch dz;go_wp2_with fail
   refine lP (EB w.heap.size) (bB 12 [10]) (EB.refl w.heap.size) (EB.trans w.heap.size) (by kernel_rfl) (by kernel_rfl) (λd _ _ _ _ h=>by cases d<;>exact h) ?_
   iterate 10 (refine aH rfl (λK hK=>?_);go_simp;refine hK _ ?_;clear hK K)
   have ajw:wr.drew.frozen? ⟨pb,k,none⟩=false:=us;have ajx:wr.drew.cell? ⟨pb,k,none⟩=some (f k):=(aB.drew wr).cell qh;refine bJ rfl rfl (λK hK=>?_);go_simp;refine⟨EB.set1 (show w.heap.size<=pb by have:=HPB.out;omega) _,hK _ _ ?_⟩
   clear hK K;iterate 1 (refine aH rfl (λK hK=>?_);go_simp;refine hK _ ?_;clear hK K)
   refine bQ ?_;go_wp2_with fail
   go_roundw
   case rel =>
    refine⟨k+1,ae,by go_num,⟨a2,c'-T,by rw[<-HR2.out],by rw[<-HR2.out];omega,km,by rw[<-HR2.out];exact HA2.out⟩,⟨λj=>if j=k then .slice a1 n (c'-4) else f j,((HROW.out.set ae _).grows (aB.drew _)).grows (aB.drew _),λj b' hj hb'=>?_⟩,((hG.out.set (show w.heap.size<=pb by have:=HPB.out;omega) _).dr).dr⟩
    by_cases ma:j=k
    ·subst ma
     obtain rfl:b=b':=by have:=HB.out;rw[hb']at this;exact(Option.some.inj this).symm
     simp only[if_true];exact⟨a1,c'-4,by rw[<-HN.out],by rw[<-HN.out];omega,io,HA1.out⟩
    ·simp only[if_neg ma]
     exact HSET.out j b' (by omega) hb'
   case measure=>simp[intOf];omega
  ·obtain rfl:k=4:=by omega
   obtain⟨f,ch,dz⟩:=hR.out;have hP:=HPS.out;have s0:=dz 0 P0 (by omega) (by rw[hP];rfl);have s1:=dz 1 P1 (by omega) (by rw[hP];rfl);have s2:=dz 2 P2 (by omega) (by rw[hP];rfl);have s3:=dz 3 P3 (by omega) (by rw[hP];rfl);have c0:=ch.cell 0 (by omega);have c1:=ch.cell 1 (by omega);have c2:=ch.cell 2 (by omega);have c3:=ch.cell 3 (by omega);have f0:=ch.froz 0;have f1:=ch.froz 1;have f2:=ch.froz 2;have f3:=ch.froz 3;obtain⟨a0,d0,e0,x0,y0,t0⟩:=s0.out;obtain⟨a1,d1,e1,x1,y1,t1⟩:=s1.out;obtain⟨a2,d2,e2,x2,y2,t2⟩:=s2.out;obtain⟨a3,d3,e3,x3,y3,t3⟩:=s3.out;rw[e0]at c0;rw[e1]at c1;rw[e2]at c2;rw[e3]at c3;have hr4:rP Ps 4=[]:=by rw[hP];rfl
   have hS4:=hS.out;rw[hr4]at hS4;obtain⟨a,c',rfl,_,_,_⟩:=hS4.out;have H0:Hid (qY0 w (.slice a0 P0.length d0) P0):=⟨a0,d0,rfl,x0,y0,t0⟩;have H1:Hid (qY0 w (.slice a1 P1.length d1) P1):=⟨a1,d1,rfl,x1,y1,t1⟩;have H2:Hid (qY0 w (.slice a2 P2.length d2) P2):=⟨a2,d2,rfl,x2,y2,t2⟩;have H3:Hid (qY0 w (.slice a3 P3.length d3) P3):=⟨a3,d3,rfl,x3,y3,t3⟩;clear hR ch dz hP s0 s1 s2 s3 e0 e1 e2 e3 x0 x1 x2 x3 y0 y1 y2 y3 t0 t1 t2 t3 hr4 hS hS4;have hgs:∀ {u:World} (j:Nat) (v:Value),aB w u->aB w (u.setCell ⟨pb,j,none⟩ v):=λj v h=>h.set (show w.heap.size<=pb by have:=HPB.out;omega) v
   have hgf:=hgs 3 (.slice a3 P3.length d3) (hgs 2 (.slice a2 P2.length d2) (hgs 1 (.slice a1 P1.length d1) (hgs 0 (.slice a0 P0.length d0) hG.out)));have ne:∀i j:Nat,i≠j->(⟨pb,i,none⟩:Addr)≠⟨pb,j,none⟩:=λi j h e=>h (congrArg Addr.off e);obtain⟨W4,ox⟩:=exq ((((wr.setCell ⟨pb,0,none⟩ (.slice a0 P0.length d0)).setCell ⟨pb,1,none⟩ (.slice a1 P1.length d1)).setCell ⟨pb,2,none⟩ (.slice a2 P2.length d2)).setCell ⟨pb,3,none⟩ (.slice a3 P3.length d3))
   have HK:Hid (W4.cell? ⟨pb,0,none⟩=some (.slice a0 P0.length d0)/\W4.cell? ⟨pb,1,none⟩=some (.slice a1 P1.length d1)/\W4.cell? ⟨pb,2,none⟩=some (.slice a2 P2.length d2)/\W4.cell? ⟨pb,3,none⟩=some (.slice a3 P3.length d3)):=by
    have ot:∀ {u:World} {i j:Nat} {v x:Value},i≠j->u.cell? ⟨pb,i,none⟩=some x->(u.setCell ⟨pb,j,none⟩ v).cell? ⟨pb,i,none⟩=some x:=λ{u i j v x} h hc=>(Ax u _ _ _ (λe=>ne i j h (by first|exact e|exact e.symm))).trans hc
    have sm:∀ {u:World} {i:Nat} {v x:Value},u.cell? ⟨pb,i,none⟩=some x->(u.setCell ⟨pb,i,none⟩ v).cell? ⟨pb,i,none⟩=some v:=λ{u i v x} hc=>Bo u _ _ hc;rw[ox];exact⟨ot (by decide) (ot (by decide) (ot (by decide) (sm c0))),ot (by decide) (ot (by decide) (sm (ot (by decide) c1))),ot (by decide) (sm (ot (by decide) (ot (by decide) c2))),sm (ot (by decide) (ot (by decide) (ot (by decide) c3)))⟩
   rw[<-ox]at hgf;go_wp2_with fail
   rw[<-ox];obtain⟨k0,k1,k2,k3⟩:=HK.out;exact bodyPost_ret (v:=.tuple #[.agg #[.slice a0 P0.length d0,.slice a1 P1.length d1,.slice a2 P2.length d2,.slice a3 P3.length d3],.bool true]) (by simp[results,Tryz.results197,go_sem,k0,k1,k2,k3]) rfl ⟨_,_,_,_,rfl,H0.out.grows hgf,H1.out.grows hgf,H2.out.grows hgf,H3.out.grows hgf,hgf⟩
end
section
open Go Go.RowKit
def dD1 (L:List (List UInt8)) (k:Nat):Nat:=(Ba (k+1)).countP λq=>decide (offA L (q+1)<=k)
theorem wZ0 {L:List (List UInt8)} {p k:Nat} (hp:p<=k) (h1:offA L p<=k) (h2:k<offA L (p+1)):dD1 L k=p:=by
 unfold dD1;rw[qB _ p (k+1) (λq _=>?_)]
 ·omega
 ·rw[Bool.eq_iff_iff]
  simp only[decide_eq_true_eq];constructor
  ·intro h
   apply Bj
   intro hc
   have:=mL (L:=L) (show p+1<=q+1 by omega)
   omega
  ·intro h
   have:=mL (L:=L) (show q+1<=p by omega)
   omega
def jH0 (L:List (List UInt8)) (m:Nat):List Nat:=(Ba m).map (dD1 L)
def xG (L:List (List UInt8)) (m:Nat):List Nat:=((nodesA L).take m).map (·.d)
theorem yG0 (L:List (List UInt8)) (m:Nat):jH0 L (m+1)=jH0 L m++[dD1 L m]:=by
 unfold jH0;rw[Cr,Bv];rfl
theorem nO (L:List (List UInt8)) (m:Nat):(jH0 L m).length=m:=by simp[jH0]
theorem gI1 {L:List (List UInt8)} {m k:Nat} (h:k<m):(jH0 L m)[k]?=some (dD1 L k):=by
 unfold jH0;rw[Ad,Ao h];rfl
theorem iM0 {L:List (List UInt8)} {m:Nat} {y:dM} (h:(nodesA L)[m]?=some y):xG L (m+1)=xG L m++[y.d]:=by
 unfold xG;rw[Cj,h,Bv];rfl
theorem rM0 {L:List (List UInt8)} {m:Nat} (h:m<=(nodesA L).length):(xG L m).length=m:=by
 unfold xG;rw[Af,As];omega
theorem eI0 {L:List (List UInt8)} {m k:Nat} {y:dM} (h:k<m) (hy:(nodesA L)[k]?=some y):(xG L m)[k]?=some y.d:=by
 unfold xG;rw[Ad,Ch,if_pos h,hy];rfl
theorem OkL.depT_one {L:List (List UInt8)} (h:OkL L):xG L 1=[0]:=by
 rw[iM0 h.root0];rfl
theorem fU1 (L:List (List UInt8)):jH0 L 1=[0]:=by
 unfold jH0
 have:dD1 L 0=0:=by
  unfold dD1;have h:=mL (L:=L) (Aq 1);rw[rU]at h;rw[List.countP_eq_zero];intro q hq;obtain rfl:q=0:=by simpa using hq
  simp;omega
 simp[this]
def lL (L:List (List UInt8)) (i:Nat):List ByteArray:=(Ba L.length).map λj=>if (jZ L).getD j 0<i then mkB (nth L j) else ⟨#[]⟩
theorem tA (L:List (List UInt8)) (i:Nat):(lL L i).length=L.length:=by simp[lL]
theorem uJ0 (L:List (List UInt8)):lL L 0=Bg L.length (⟨#[]⟩:ByteArray):=by
 apply Av
 intro j;unfold lL;rw[Ad,Bq];by_cases h:j<L.length
 ·rw[Ao h,if_pos h];simp
 ·rw[Ai (by simp;omega),if_neg h];rfl
theorem OkL.strTo_all {L:List (List UInt8)} (h:OkL L) {m:Nat} (hm:(nodesA L).length<=m):lL L m=L.map mkB:=by
 apply Av
 intro j;unfold lL;rw[Ad,Ad];by_cases hj:j<L.length
 ·rw[Ao hj,kJ hj]
  obtain⟨i,x,hx,hh,nz⟩:=h.node hj;have hn:=jC h hj hx hh nz;have hi:=(List.getElem?_eq_some_iff.1 hx).1;simp only[An];rw[Ak,hn,Bc,if_pos (by omega)]
 ·rw[Ai (by simp;omega),Ai (by omega)];rfl
theorem OkL.strTo_no {L:List (List UInt8)} (h:OkL L) {i:Nat} {x:dM} (hx:(nodesA L)[i]?=some x) (hh:jG L x=false):lL L (i+1)=lL L i:=by
 unfold lL;apply Cc
 intro j hj;rw[List.mem_range]at hj;obtain⟨k,y,hy,hh2,hyj⟩:=h.node hj;rw[Ak,jC h hj hy hh2 hyj,Bc]
 have aj:k≠i:=by
  rintro rfl;rw[hx]at hy;obtain rfl:=Option.some.inj hy;rw[hh]at hh2;cases hh2
 by_cases hk:k<i
 ·rw[if_pos (by omega),if_pos hk]
 ·rw[if_neg (by omega),if_neg hk]
theorem OkL.strTo_yes {L:List (List UInt8)} (h:OkL L) {i:Nat} {x:dM} (hx:(nodesA L)[i]?=some x) (hh:jG L x=true):lL L (i+1)=(lL L i).set x.i (mkB (spanS L x)):=by
 have hL:L[x.i]?=some (spanS L x):=(h.here_at hx x.i).2 ⟨hh,rfl⟩;have hxl:=(List.getElem?_eq_some_iff.1 hL).1;apply Av
 intro j;by_cases hj:j<L.length
 ·obtain⟨k,y,hy,hh2,hyj⟩:=h.node hj
  have hn:=jC h hj hy hh2 hyj;by_cases he:j=x.i
  ·subst he
   rw[Bs (by rw[tA];exact hj)];unfold lL;rw[Ad,Ao hj,An]
   have cn:k=i:=by
    have e1:=(h.here_at hy x.i).2 ⟨hh2,hyj.symm⟩;rw[hL]at e1
    have:=(h.good hy).inj h.asc (h.good hx) (Option.some.inj e1).symm
    subst this;exact h.uniq hy hx
   rw[Ak,hn,Bc,if_pos (by omega),dS0 hL]
  ·rw[Ca (Ne.symm he)]
   unfold lL;rw[Ad,Ad,Ao hj,An,An,Ak,hn,Bc]
   have aj:k≠i:=by
    rintro rfl;rw[hx]at hy;obtain rfl:=Option.some.inj hy;exact he hyj.symm
   by_cases hk:k<i
   ·rw[if_pos (by omega),if_pos hk]
   ·rw[if_neg (by omega),if_neg hk]
 ·rw[Ai (by rw[tA];omega),Ai (by rw[Cq,tA];omega)]
theorem OkL.climb {L:List (List UInt8)} (h:OkL L) {X:Nat} {y:dM} (h0:0<X) (hy:(nodesA L)[X]?=some y):∃z c,(nodesA L)[dD1 L X]?=some z/\dD1 L X<X/\(labelsL L (nodesA L))[X-1]?=some c/\spanS L y=spanS L z++[c]/\y.d=z.d+1:=by
 obtain⟨p,z,hz,hpX,o1,o2,hm⟩:=h.parent h0 hy;have hs:=uV h.asc (h.good hz) hm;rw[wZ0 (Br hpX) o1 o2];refine⟨z,_,hz,hpX,h.lab h0 hy,?_,lF0 L z y hm⟩;rw[hs];simp
theorem aT1 {d:Nat} {c:UInt8} {tl:List UInt8}:(Bg (d+1) (0:UInt8)++tl).set d c=Bg d 0++(c::tl):=by
 rw[List.replicate_succ',Ar,List.set_append_right _ _ (by simp)];simp
end
end Go.Proofs.YtaogeadljgjpcaaGreatDoor
