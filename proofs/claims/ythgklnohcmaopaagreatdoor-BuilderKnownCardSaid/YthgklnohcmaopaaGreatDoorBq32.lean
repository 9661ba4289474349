/- The texts BvE LoC TrE Txt LbP TriQ GroP BvD LoP, one behind the other. -/
import Derived.Test.YthgklnohcmaopaaGreatDoorBq26
import Derived.Test.YthgklnohcmaopaaGreatDoorBq31
import Derived.Test.YthgklnohcmaopaaGreatDoorBq22
import Derived.Test.YthgklnohcmaopaaGreatDoorBq27
import Derived.Test.YthgklnohcmaopaaGreatDoorBq5
import Derived.Test.YthgklnohcmaopaaGreatDoorBq4
import Derived.Test.YthgklnohcmaopaaGreatDoorBq21
import Derived.Test.YthgklnohcmaopaaGreatDoorBq15
open Go.Lib renaming hid → Aa
open List renaming length_append → Ab,getElem?_map → Ac,getElem?_eq_getElem → Ad,length_map → Ae,getElem?_eq_none → Af,getElem?_range → Aj,getD_eq_getElem?_getD → Am,ext_getElem? → An,mem_of_getElem? → Ao,length_take → Ap,append_assoc → Au,take_of_length_le → Av,flatMap_cons → Ax,take_length → Ay,range → Ba,replicate → Bb,drop_eq_getElem_cons → Bf,ne_nil_of_length_pos → Bg,length_drop → Bi,length_cons → Bj,getElem?_replicate → Bk,getElem?_set_self → Bn,map_append → Bp,length → Bs,getElem?_set_ne → Bt,map_congr_left → Bu,getElem?_drop → Bw,filter_append → Bz,getElem?_take → Ca,take_add_one → Cc,nil_append → Cf,length_set → Cg,drop_left' → Ci
open Go.IntKind renaming signed → Ag,wrap → Ak,bits → Al
open UInt8 renaming ofNat → Ah
open Option renaming map_some → Ai,getD_some → Az
open Go.World renaming cell?_setCell_other → Aq,block_lt_of_cell? → Ar,cell?_setCell_same → Bh,frozen?_of_block → Bo,frozen?_setCell → Br,cell? → Cj
open Nat renaming le_refl → As,zero_le → At,lt_of_lt_of_le → Bv,le_of_lt → Cb,mod_eq_of_lt → Cd,lt_succ_self → Ce
open Go.Op renaming bytesLess → Aw
open Int renaming tdiv_eq_ediv_of_nonneg → Bc,tmod_eq_emod_of_nonneg → Bd,natCast_mul → Bq,natCast_add → Ch
open Classical renaming byContradiction → Be
open Bool renaming false_eq_true → By
set_option maxHeartbeats 8000000
namespace Go.Proofs.YthgklnohcmaopaaGreatDoor
set_option maxRecDepth 100000
section
open Go Go.RowKit
attribute [local go_sem] aM aO
theorem pD0 {l:List Bool} {k x:Nat} (h:(pK l)[k]?=some x):x<=l.length+512:=by
 unfold pK at h;rw[Ac]at h
 cases hg:(Ba ((l.length+511)/512))[k]? with
 | none=>rw[hg]at h;cases h
 | some g =>
  rw[hg]at h;have h1:cZ l (512*g)=x:=Option.some.inj h;obtain⟨h2,h3⟩:=List.getElem?_eq_some_iff.1 hg;rw[List.length_range]at h2;rw[List.getElem_range]at h3
  have:=kM l (512*g)
  omega
theorem yY (l:List Bool) (vb:Nat) (w:World) (hl:l.length<=1048576) (ac:gP w vb l) :
  Calls Tryz.prog 131 #[.pointer (some ⟨vb,0,none⟩)] w λe w'=>∃v,e=.returned v/\aT w' w.heap.size 5 1 aQ v (kZ l)/\aB w w':=by
 have c0:=ac.c0;obtain⟨vW,c1,ia⟩:=ac.c1;obtain⟨aW,cW,rfl,_,_,ei⟩:=ia.at_ (enc:=gT) (λ_=>rfl);obtain⟨vC,c2,fu⟩:=ac.c2;obtain⟨aC,cC,rfl,_,_,lu⟩:=fu.at_ (enc:=fI) (λ_=>rfl);have abv:∀q:Addr,aW=some q->q.block<w.heap.size:=λq hq=>eY ia q.block (by rw[hq];rfl);have abw:vb<w.heap.size:=Ar w _ c0;have hq:=eG l;have hCl:(pK l).length=(l.length+511)/512:=by simp[pK]
 obtain⟨Cs,hCs⟩:=exq (pK l);rw[<-hCs]at c2 lu hCl
 have hcb:∀k x,Cs[k]?=some x->x<=1049088:=λk x hx=>by
  rw[hCs]at hx
  have:=pD0 hx
  omega
 obtain⟨Ws,hWs⟩:=exq (jT l);rw[<-hWs]at ei hq c1;have qw:Ws.length<=16384:=by omega
 have dh:∀n∈Ws,n<18446744073709551616:=λn hn=>by
  rw[hWs]at hn;unfold jT at hn;obtain⟨k,_,rfl⟩:=List.mem_map.1 hn;exact lN l k
 have HE:Hid (kZ l=leB 4 l.length++iC 8 Ws++iC 4 Cs):=by show _=_;rw[hWs,hCs];rfl
 have HW64:=Aa dh;have HCB:=Aa hcb;have HATC:=Aa lu;have HATW:=Aa ei;have zt:Cs.length<=2049:=by omega
 have wn:IntKind.u64.wrap (l.length:Int)=l.length:=by simp[Ak,Al,Ag];omega
 have z0:∀y:Ext (EB w.heap.size) w.drew,y.u.cell? ⟨vb,0,none⟩=some (.int .i64 l.length):=sR abw ((aB.drew w).cell c0);have z1:∀y:Ext (EB w.heap.size) w.drew,y.u.cell? ⟨vb,1,none⟩=some (.slice aW Ws.length cW):=sR abw ((aB.drew w).cell c1);obtain⟨n,aq⟩:=exq l.length;rw[<-aq]at HE wn z0 hl;have aa4:=Aa abv;clear ac c0 ia fu lu ei hq abv hCs hCl hcb hWs dh aq c1;go_enter Tryz.func131,Tryz.ntmps131
 go_wp2_with fail
 refine mR (EB w.heap.size) (nN [0,1,2,3,4,7,8,9,10,5,6,11,12] [5,6,11,12]) (EB.refl w.heap.size) (EB.trans w.heap.size) (by kernel_rfl) (by kernel_rfl) (λd _ _ _ _ h=>by cases d<;>exact h) ?_
 iterate 9 (refine aK rfl (λK hK=>?_);go_simp;refine hK _ ?_;clear hK K)
 clear z0 z1;refine bU rfl rfl (λK hK=>?_);go_simp;refine⟨EB.of (aB.alloc _ _) (As _),hK _ _ ?_⟩;clear hK K;have pm:=mX (enc:=gT) (w:=w) (t:=213) (fz:=(0,0)) (cs:=#[.int .u64 n]) (λ_=>rfl) [n] rfl;obtain⟨W1,bz⟩:=exq ((w.alloc (.cells #[.int .u64 n] 213)).drew);have av:aB w W1:=by rw[bz];exact(aB.alloc _ _).dr
 have de:w.heap.size<W1.heap.size:=by rw[bz];simp
 have vt:aF W1 (some ⟨w.heap.size,0,none⟩) 1 ([n].map gT):=by rw[bz];exact pm.grows (aB.drew _)
 rw[<-bz];clear bz pm;refine bU rfl rfl (λK hK=>?_);go_simp;refine(yQ (.slice none 0 0) [] 4 [n] (some ⟨w.heap.size,0,none⟩) 1 W1 W1 (aB.refl _) (by decide) (by simp) (by simp) (λm hm=>by obtain rfl:=List.mem_singleton.1 hm;omega) (aT.nil _ _ _ _ _) vt (λq _ h=>by cases h) (λq hq=>by cases hq;exact de)).mono ?_;rintro e w2 ⟨v2,rfl,af,ah,afz⟩;rw[Cf]at af;refine⟨EB.of ah (Cb de),hK _ _ ?_⟩;clear hK K;have hp4:(iC 4 [n]).length=4:=by rw[nW];rfl
 have abx:∀q:Addr,aW=some q->q.block<W1.heap.size:=λq hq=>Nat.lt_trans (aa4.out q hq) de;refine bU rfl rfl (λK hK=>?_);go_simp;refine(yQ v2 (iC 4 [n]) 8 Ws aW cW W1 _ ah (by decide) (by omega) (by omega) HW64.out af (HATW.out.grows (av.tr ah)) (zU af abx) (λr hr=>Bv (abx r hr) ah.size)).mono ?_;rintro e w3 ⟨v3,rfl,an,bv,pq⟩;refine⟨EB.both (av.tr ah) (av.tr bv) pq,hK _ _ ?_⟩;clear hK K;refine bU rfl rfl (λK hK=>?_);go_simp;refine⟨EB.refl _ _,hK _ _ ?_⟩;clear hK K;refine bT ?_;have ix:=av.tr bv;obtain⟨P3,s6⟩:=exq (iC 4 [n]++iC 8 Ws);rw[<-s6]at an;have hp3:P3.length<=4+8*16384:=by rw[s6,Ab,hp4,nW];omega
 have HE3:Hid (kZ l=P3++iC 4 Cs):=by show _=_;rw[HE.out,s6];unfold iC;simp
 replace an:=an.base (base':=w.heap.size) av.size;have c2r:=ix.cell c2;clear s6 af ah bv av vt hp4 HE c2;go_wp2_with fail
 go_loopw [3,25] (λout i wr=>∃(k:Nat) (bd:List UInt8),k<=Cs.length/\i=.int .i64 k/\Hid (bd=P3++iC 4 (Cs.take k))/\aT wr w.heap.size 5 1 aQ out bd/\aB w wr) (λ_ i _=>Cs.length-(intOf i).toNat)
 case atStart=>exact⟨0,P3,At _,rfl,(by show _=_;simp[iC]),an,ix⟩
 case round =>
  obtain⟨k,bd,hk,rfl,bh,aa,hg⟩:=hrel
  have mg:bd.length<=4+8*16384+4*k:=by
   rw[bh.out,Ab,nW,Ap];omega
  by_cases ae:k<Cs.length
  ·obtain⟨x,hx⟩:∃x,Cs[k]?=some x:=⟨_,Ad ae⟩
   obtain⟨b,o,rfl,hc⟩:=at1 HATC.out (aH ae);have fg:=hg.cell (hc k x hx);have mj:=HCB.out k x hx;have wx:IntKind.u64.wrap (x:Int)=x:=by simp[Ak,Al,Ag];omega
   have HN:Hid (bd++iC 4 [x]=P3++iC 4 (Cs.take (k+1))):=by
    show _=_
    rw[bM hx,vZ,bh.out,Au];simp[iC]
   have cp:(k:Int)<Cs.length:=by omega
   have pm:=mX (enc:=gT) (w:=wr) (t:=213) (fz:=(0,0)) (cs:=#[.int .u64 x]) (λ_=>rfl) [x] rfl;have CP:=yQ _ bd 4 [x] (some ⟨wr.heap.size,0,none⟩) 1 w (wr.alloc (.cells #[.int .u64 x] 213)) (hg.al _) (by decide) (by omega) (by simp) (λm hm=>by obtain rfl:=List.mem_singleton.1 hm;omega) (aa.grows (aB.alloc _ _)) pm (pH0 aa (λr hr=>by cases hr;exact As _)) (λr hr=>by cases hr;simp);clear hc hx bh pm;go_wp2_with fail
   refine CP.mono ?_;rintro e w5 ⟨v5,rfl,ai,bk,_⟩;go_wp2_with fail
   go_roundw
   case rel=>exact⟨k+1,_,ae,by go_num,HN.out,ai,bk⟩
   case measure=>simp[intOf];omega
  ·have cp:¬(k:Int)<Cs.length:=by omega
   have HF:Hid (bd=kZ l):=by
    show _=_
    rw[bh.out,Av (by omega),HE3.out]
   clear bh;go_wp2_with fail
   go_ret;exact⟨_,rfl,by rw[<-HF.out];exact aa,hg⟩
def cT0 (L:List (List UInt8)):Nat:=if 20000<L.length then 2 else if lJ L=true then 1 else 0
theorem gV0 (B:List ByteArray) (a:Option Addr) (c:Nat) (w:World) (hB:B.length<=1099511627776) (cz:∀s∈B,s.size<=1099511627776) (ac:aF w a 1 (B.map stC)) :
  Calls Tryz.prog 117 #[.slice a B.length c] w λe w'=>e=.returned (.int .i64 (cT0 (bls B)))/\w=w':=by
 have HAT:=Aa ac;have HSZ:=Aa cz;clear ac cz;by_cases f6:20000<B.length
 ·have vh:(20000:Int)<B.length:=by omega
  have HF:Hid (cT0 (bls B)=2):=by show _=_;unfold cT0;rw[fT,if_pos f6]
  go_enter Tryz.func117,Tryz.ntmps117
  go_wp2_with fail
  go_ret;exact⟨by rw[HF.out];rfl,rfl⟩
 have vh:¬(20000:Int)<B.length:=by omega
 have HF:Hid (cT0 (bls B)=if lJ (bls B)=true then 1 else 0):=by show _=_;unfold cT0;rw[fT,if_neg f6]
 have HIT:Hid (∀k,k<B.length->uO (bls B) k=true->cT0 (bls B)=1):=λk hk hb=>by rw[HF.out,if_pos (kE0 (by rw[fT];exact hk) hb)]
 go_enter Tryz.func117,Tryz.ntmps117
 go_wp2_with fail
 go_loop [10] (λi=>∃k:Nat,k<=B.length/\i=.int .i64 k/\Hid (∀j,j<k->uO (bls B) j=false)) (λi=>B.length-(intOf i).toNat)
 case atStart=>exact⟨0,At _,rfl,λj hj=>by omega⟩
 case round =>
  obtain⟨k,hk,rfl,ch⟩:=hrel;by_cases ae:k<B.length
  ·obtain⟨s,hx⟩:∃x,B[k]?=some x:=⟨_,Ad ae⟩
   obtain⟨b,o,rfl,hc⟩:=at1 HAT.out (aH ae);have hcw:=hc k s hx;have hn:=dI hx;have af0:=HSZ.out s (Ao hx);have cp:(k:Int)<B.length:=by omega
   have HBD:Hid (uO (bls B) k=(decide (s.size<1)||decide (256<s.size)||(decide (0<k) && !Aw (nth (bls B) (k-1)) (bl s)))):=by show _=_;unfold uO;rw[hn,gJ]
   have s7:s.toList=[]↔s.size<1:=by
    rw[<-dD0,<-gJ];constructor
    ·intro h;rw[h];decide
    ·intro h;exact List.eq_nil_of_length_eq_zero (by omega)
   by_cases h1:s.size<1
   ·have HB:=Aa (HIT.out k ae (by rw[HBD.out];simp[h1]))
    have he1:s.toList.isEmpty=true:=by rw[s7.2 h1];rfl
    clear hc hx hn h1 s7;go_wp2_with fail
    go_ret;exact⟨by rw[HB.out];rfl,rfl⟩
   ·have afj:s.toList.isEmpty=false:=by
     cases hh:s.toList.isEmpty
     ·rfl
     ·exact absurd (s7.1 (List.isEmpty_iff.1 hh)) h1
    clear s7;by_cases h2:256<s.size
    ·have h2i:(256:Int)<s.size:=by omega
     have HB:=Aa (HIT.out k ae (by rw[HBD.out];simp[h2]));clear hc hx hn;go_wp2_with fail
     go_ret;exact⟨by rw[HB.out];rfl,rfl⟩
    ·have h2i:¬(256:Int)<s.size:=by omega
     by_cases h0:k=0
     ·have h0i:¬0<k:=by omega
      have HN:Hid (∀j,j<k+1->uO (bls B) j=false):=λj hj=>by
       have ii:decide (s.size<1)=false:=decide_eq_false h1;have lj:decide (256<s.size)=false:=decide_eq_false h2;have qp:decide (0<k)=false:=decide_eq_false h0i;rw[show j=k by omega,HBD.out,ii,lj,qp];rfl
      clear hc hx hn h0;go_wp2_with fail
      go_round
      case rel=>exact⟨k+1,ae,by go_num,HN.out⟩
      case measure=>simp[intOf];omega
     ·have h0i:0<k:=by omega
      obtain⟨t,jy⟩:∃x,B[k-1]?=some x:=⟨_,Ad (by omega)⟩;have af1:=hc (k-1) t jy;have hk1:(k:Int)-1=((k-1:Nat):Int):=by omega
      have ig:((k-1:Nat):Int)<B.length:=by omega
      have fc:IntKind.i64.wrap ((k-1:Nat):Int)=((k-1:Nat):Int):=by simp[Ak,Al,Ag];omega
      have hq:=HBD.out;rw[dI jy,dD0,dD0]at hq;have ii:decide (s.size<1)=false:=decide_eq_false h1;have lj:decide (256<s.size)=false:=decide_eq_false h2;have qp:decide (0<k)=true:=decide_eq_true h0i;rw[ii,lj,qp]at hq;simp only[Bool.false_or,Bool.true_and]at hq;have HQ:=Aa hq;clear hc hx hn h0 jy HBD hq ii lj qp;by_cases hl:Aw t.toList s.toList=true
      ·have l1:Aw s.toList t.toList=false:=by
        have:=lF hl;simpa using this
       have l2:(s.toList==t.toList)=false:=by
        rw[beq_eq_false_iff_ne];intro h;rw[h,bytesLess_irrefl]at hl;cases hl
       have HN:Hid (∀j,j<k+1->uO (bls B) j=false):=λj hj=>by
        rcases Nat.lt_or_ge j k with h|h
        ·exact ch.out j h
        ·rw[show j=k by omega,HQ.out,hl];rfl
       clear hl ch;go_wp2_with fail
       go_round
       case rel=>exact⟨k+1,ae,by go_num,HN.out⟩
       case measure=>simp[intOf];omega
      ·have kv:Aw t.toList s.toList=false:=by simpa using hl
       have HB:=Aa (HIT.out k ae (by rw[HQ.out,kv];rfl));by_cases he:s.toList=t.toList
       ·have l1:Aw s.toList t.toList=false:=by rw[he,bytesLess_irrefl]
        have l2:(s.toList==t.toList)=true:=by rw[he];simp
        clear hl kv he ch;go_wp2_with fail
        go_ret;exact⟨by rw[HB.out];rfl,rfl⟩
       ·have l1:Aw s.toList t.toList=true:=cT kv (λh=>he h.symm)
        clear hl kv he ch;go_wp2_with fail
        go_ret;exact⟨by rw[HB.out];rfl,rfl⟩
  ·have cp:¬(k:Int)<B.length:=by omega
   have HB:Hid (cT0 (bls B)=0):=by
    show _=_
    rw[HF.out,dS0 (λi hi=>ch.out i (by rw[fT]at hi;omega))];rfl
   clear ch;go_wp2_with fail
   go_ret;exact⟨by rw[HB.out];rfl,rfl⟩
def gK (L:List (List UInt8)):List Nat:=(Ba L.length).map λj=>(nodesA L).findIdx λx=>gE L x&&x.i==j
structure jB (w:World) (tb:Nat) (L:List (List UInt8)):Prop where
 s:∃sb,w.cell? ⟨tb,0,none⟩=some (.pointer (some ⟨sb,0,none⟩))/\gP w sb (shapeL L (nodesA L))
 i:∃ib,w.cell? ⟨tb,1,none⟩=some (.pointer (some ⟨ib,0,none⟩))/\gP w ib (isL L (nodesA L))
 l:∃vL,w.cell? ⟨tb,2,none⟩=some vL/\aT w (tb-2) 5 1 aQ vL (labelsL L (nodesA L))
 d:∃pb,w.cell? ⟨tb,3,none⟩=some (.pointer (some ⟨pb,0,none⟩))/\cH0 w pb (idsL L (nodesA L))
 n:∃vN,w.cell? ⟨tb,4,none⟩=some vN/\aT w 0 3 1 fI vN (gK L)
theorem jB.grows {w w':World} {tb:Nat} {L:List (List UInt8)} (h:jB w tb L) (hg:aB w w'):jB w' tb L:=by
 obtain⟨sb,s1,s2⟩:=h.s;obtain⟨ib,i1,i2⟩:=h.i;obtain⟨vL,l1,l2⟩:=h.l;obtain⟨pb,d1,d2⟩:=h.d;obtain⟨vN,n1,n2⟩:=h.n;exact⟨⟨sb,hg.cell s1,s2.grows hg⟩,⟨ib,hg.cell i1,i2.grows hg⟩,⟨vL,hg.cell l1,l2.grows hg⟩,⟨pb,hg.cell d1,d2.grows hg⟩,⟨vN,hg.cell n1,n2.grows hg⟩⟩
theorem OkL.sizes {L:List (List UInt8)} (au:OkL L) (hl:L.length<=20000) (hc:fG L<=524287) :
  (shapeL L (nodesA L)).length<=1048576/\(isL L (nodesA L)).length<=524287/\(labelsL L (nodesA L)).length<=524287/\(idsL L (nodesA L)).length<=524287/\∀n∈idsL L (nodesA L),n<=20000:=by
 have hN:=fW au.asc au.len;refine⟨?_,?_,?_,?_,?_⟩
 ·have h:=dU L (nodesA L).length (As _)
  rw[Ay,au.off_all]at h;omega
 ·unfold isL;rw[Ae];omega
 ·rw[au.labels,Ae,Bi];omega
 ·unfold idsL
  rw[Ae]
  have:=List.length_filter_le (gE L) (nodesA L)
  omega
 ·intro n hn
  unfold idsL at hn;obtain⟨x,hx,rfl⟩:=List.mem_map.1 hn;have hg:=kC au.asc (List.mem_filter.1 hx).1
  have:=hg.le
  omega
theorem zQ (L:List (List UInt8)) (tb:Nat) (w:World) (au:OkL L) (hl:L.length<=20000) (hc:fG L<=524287) (ac:jB w tb L) :
  Calls Tryz.prog 66 #[.pointer (some ⟨tb,0,none⟩)] w λe w'=>∃v,e=.returned v/\aT w' w.heap.size 5 1 aQ v (iT L)/\aB w w':=by
 obtain⟨z1,z2,z3,z4,z5⟩:=au.sizes hl hc;obtain⟨sb,s1,s2⟩:=ac.s;obtain⟨ib,i1,i2⟩:=ac.i;obtain⟨vL,l1,l2⟩:=ac.l;obtain⟨pb,d1,d2⟩:=ac.d;have HE:Hid (iT L=dM (kZ (shapeL L (nodesA L)))++dM (labelsL L (nodesA L))++dM (kZ (isL L (nodesA L)))++dM (bV (idsL L (nodesA L)))):=rfl;generalize shapeL L (nodesA L)=S at *;generalize isL L (nodesA L)=I at *;generalize labelsL L (nodesA L)=Lb at *;generalize idsL L (nodesA L)=D at *;have iy:∀n∈D,n<18446744073709551616:=λn hn=>by have:=z5 n hn;omega
 have re:=kV S;have aby:=kV I;have me:=pA D;have vu:lD D<=64:=mA.2 iy;have dn:D.length*lD D<=524287*64:=Nat.mul_le_mul z4 vu;obtain⟨aL,cL,rfl,_,_,kn⟩:=l2.at_ bE.len;have hnL:=bJ l2;have aen:∀q:Addr,aL=some q->q.block<w.heap.size:=λq hq=>eY l2 q.block (by rw[hq];rfl);obtain⟨b1,kc⟩:=exq (kZ S);obtain⟨b3,jf⟩:=exq (kZ I);obtain⟨b4,rh⟩:=exq (bV D);have CS:=Aa (yY S sb w z1 s2);have CI:=λW (hg:aB w W)=>Aa (yY I ib W (by omega) (i2.grows hg));have CD:=λW (hg:aB w W)=>Aa (yC D pb W (by omega) iy (d2.grows hg));rw[<-kc]at CS re;rw[<-jf]at CI aby;rw[<-rh]at CD me;have HB1:=Aa kc;have HB3:=Aa jf;have HB4:=Aa rh;have HATL:=Aa kn;have af2:b1.length<=100000000:=by omega
 have af3:b3.length<=100000000:=by omega
 have af4:b4.length<=100000000:=by omega
 clear ac au hc iy re aby me vu dn kn kc jf rh s2 i2 l2 d2 z5;go_enter Tryz.func66,Tryz.ntmps66
 go_wp2_with fail
 refine CS.out.mono ?_;rintro e w2 ⟨v2,rfl,af,ah⟩;obtain⟨a2,c2,rfl,_,_,ko⟩:=af.at_ bE.len;have jd:=bJ af;clear af;go_wp2_with fail
 refine(rQ (.slice none 0 0) [] b1 a2 c2 w2 w2 (aB.refl _) (by simp) (by omega) (aT.nil _ _ _ _ _) ko jd (λq _ h=>by cases h)).mono ?_;rintro e w3 ⟨v3,rfl,an,bv⟩;rw[Cf]at an;have hp1:(dM b1).length<=100000004:=by unfold dM;rw[Ab,bD];omega
 have eo:=ah.tr bv;have l1a:=eo.cell l1;go_wp2_with fail
 refine(rQ v3 (dM b1) Lb aL cL w2 w3 bv (by omega) (by omega) an (HATL.out.grows eo) hnL (zU an (λq hq=>Bv (aen q hq) ah.size))).mono ?_;rintro e w4 ⟨v4,rfl,cu,d8⟩;obtain⟨P2,hP2⟩:=exq (dM b1++dM Lb);rw[<-hP2]at cu;have k9:P2.length<=200000008:=by rw[hP2,Ab];unfold dM at *;rw[Ab,bD] at *;rw[Ab,bD];omega
 have HP2:=Aa hP2;clear hP2 an eo ko jd;have gi:=ah.tr d8;have i1a:=gi.cell i1;go_wp2_with fail
 refine(CI w4 gi).out.mono ?_;rintro e w5 ⟨v5,rfl,ai,bk⟩;obtain⟨a5,c5,rfl,_,_,o8⟩:=ai.at_ bE.len;have hn5:=bJ ai;go_wp2_with fail
 refine(rQ v4 P2 b3 a5 c5 w2 w5 (d8.tr bk) (by omega) (by omega) (cu.grows bk) o8 hn5 (λq hq hv=>by have h1:=eY cu _ hv.symm;have h2:=aV ai q.block (by rw[hq];rfl);omega)).mono ?_;rintro e w6 ⟨v6,rfl,ev,cy⟩;obtain⟨P3,s6⟩:=exq (P2++dM b3);rw[<-s6]at ev;have hp3:P3.length<=400000012:=by rw[s6,Ab];unfold dM;rw[Ab,bD];omega
 have HP3:=Aa s6;clear s6 cu ai gi o8 hn5 bk;have s8:=ah.tr cy;have d1a:=s8.cell d1;go_wp2_with fail
 refine(CD w6 s8).out.mono ?_;rintro e w7 ⟨v7,rfl,dv,d9⟩;obtain⟨a7,c7,rfl,_,_,aeo⟩:=dv.at_ bE.len;have hn7:=bJ dv;go_wp2_with fail
 refine(rQ v6 P3 b4 a7 c7 w2 w7 (cy.tr d9) (by omega) (by omega) (ev.grows d9) aeo hn7 (λq hq hv=>by have h1:=eY ev _ hv.symm;have h2:=aV dv q.block (by rw[hq];rfl);omega)).mono ?_;rintro e w8 ⟨v8,rfl,aa5,ej⟩;go_wp2_with fail
 go_ret;refine⟨_,rfl,?_,ah.tr ej⟩
 have ax:P3++dM b4=iT L:=by
  rw[HP3.out,HP2.out,HB1.out,HB3.out,HB4.out,HE.out]
 rw[<-ax];exact aa5.base ah.size
theorem rT (L:List (List UInt8)) (tb:Nat) (w:World) (ac:jB w tb L) :
  Calls Tryz.prog 54 #[.pointer (some ⟨tb,0,none⟩)] w λe w'=>e=.returned (.int .i64 L.length)/\w=w':=by
 obtain⟨vN,n1,n2⟩:=ac.n;obtain⟨aN,cN,rfl,_,_,_⟩:=n2.at_ (enc:=fI) (λ_=>rfl);have ak:(gK L).length=L.length:=by simp[gK]
 rw[ak]at n1;clear ac n2 ak;go_enter Tryz.func54,Tryz.ntmps54
 go_wp2_with fail
 go_ret;exact⟨rfl,rfl⟩
theorem fV {L:List (List UInt8)} (au:OkL L) {j i:Nat} {x:cY} (hj:j<L.length) (hi:(nodesA L)[i]?=some x) (hh:gE L x=true) (hx:x.i=j):(gK L)[j]?=some i:=by
 unfold gK;rw[Ac,Aj hj,Ai];congr 1
 have ae:=(List.getElem?_eq_some_iff.1 hi).1;rw[List.findIdx_eq ae];obtain⟨h1,h2⟩:=List.getElem?_eq_some_iff.1 hi;refine⟨by rw[h2,hh,hx];simp,λk hk=>?_⟩;apply Be
 intro j6;have j6:(gE L ((nodesA L)[k]'(by omega))&&((nodesA L)[k]'(by omega)).i==j)=true:=by simpa using j6
 simp only[Bool.and_eq_true,beq_iff_eq]at j6;have g1:=au.good hi;have g2:=au.good (Ad (show k<(nodesA L).length by omega))
 have e1:=(mI au.asc g1 au.pos j).2 ⟨hh,hx.symm⟩;have e2:=(mI au.asc g2 au.pos j).2 ⟨j6.1,j6.2.symm⟩;rw[e1]at e2
 have:=g1.inj au.asc g2 (Option.some.inj e2)
 have:=au.uniq hi (by rw[this];exact Ad (show k<(nodesA L).length by omega))
 omega
theorem fX0 (L:List (List UInt8)) (tb id:Nat) (w:World) (au:OkL L) (hl:L.length<=20000) (hc:fG L<=524287) (hid:id<L.length) (ac:jB w tb L) :
  Calls Tryz.prog 55 #[.pointer (some ⟨tb,0,none⟩),.int .i64 id] w λe w'=>e=.returned (.tuple #[.string (mkB (nth L id)),.bool true])/\aB w w':=by
 obtain⟨z1,z2,z3,z4,z5⟩:=au.sizes hl hc;obtain⟨i0,x0,kw,hh0,zu⟩:=au.node hid;have zv:=fV au hid kw hh0 zu
 have i6:spanS L x0=nth L id:=by
  have h1:=(mI au.asc (au.good kw) au.pos id).2 ⟨hh0,zu.symm⟩;rw[gA hid]at h1;exact(Option.some.inj h1).symm
 have ad1:(nth L id).length<=256:=au.len _ (Ao (gA hid));have CL:=Aa (λ(u:World) (h:aB w u)=>rT L tb u (ac.grows h));obtain⟨vN,n1,n2⟩:=ac.n;obtain⟨aN,cN,rfl,_,_,abz⟩:=n2.at_ (enc:=fI) (λ_=>rfl);have hNl:(gK L).length=L.length:=by simp[gK]
 rw[hNl]at n1;obtain⟨nb,no,rfl,hcN⟩:=at1 (f:=λn:Nat=>Value.int .i64 n) abz (aH (k:=id) (by rw[hNl];exact hid));have ab0:=hcN id _ zv;obtain⟨vL,l1,l2⟩:=ac.l;obtain⟨sb,s1,s2⟩:=ac.s;have af5:(id:Int)<L.length:=by omega
 have af6:¬(id:Int)<0:=by omega
 have af7:¬(L.length:Int)<=id:=by omega
 have HAT:=Aa ac;obtain⟨W1,bz⟩:=exq (w.alloc (.cells Tryz.zeroCells193 193));have g1:aB w W1:=by rw[bz];exact aB.alloc _ _
 have n1a:=g1.cell n1;have vv:=g1.cell ab0;rw[bz]at n1a vv
 have START:Hid (∃cs:Array Value,W1.heap[w.heap.size]?=some (.cells cs 193 (0,0))/\cs.size=256/\∀j b,([]:List UInt8)[j]?=some b->cs[256+j]?=some (.int .u8 (b.toNat:Nat))) :=
  ⟨Tryz.zeroCells193,by rw[bz];show (w.heap.push _)[w.heap.size]?=_;simp,by kernel_rfl,λj b h=>by simp at h⟩
 have NODE:Hid ((nodesA L)[i0]?=some x0/\spanS L x0++[]=nth L id):=⟨kw,by rw[List.append_nil];exact i6⟩;have HOK:=Aa au;have fk:w.heap.size<W1.heap.size:=by rw[bz];simp
 obtain⟨aL,cL,rfl,_,_,kn⟩:=l2.at_ bE.len;have HATL:=Aa kn;have HS2:=Aa s2;have HZ1:=Aa z1;have kz:∀q,aL=some q->q.block<w.heap.size:=λq hq=>eY l2 q.block (by rw[hq];rfl);have HBB:=Aa kz;obtain⟨ln,hln⟩:=exq ((labelsL L (nodesA L)).length);have HLN:=Aa hln;rw[<-hln]at l1;have af8:ln<=524287:=by omega
 have hNN:Hid ((nodesA L).length<=524287/\ln+1=(nodesA L).length):=by
  have:=fW au.asc au.len
  refine⟨by omega,?_⟩;rw[hln,au.labels,Ae,Bi]
  have h0:0<(nodesA L).length:=by
   have:=(List.getElem?_eq_some_iff.1 kw).1;omega
  omega
 have yk:i0<=524287:=by have:=(List.getElem?_eq_some_iff.1 kw).1;have:=hNN.out;omega
 clear ac n2 abz hcN zv n1 ab0 kw hh0 zu i6 z1 z2 z3 z4 z5 au hc kn s2 kz l2 hln;go_enter Tryz.func55,Tryz.ntmps55
 go_wp2_with (go_at_call 54;refine(CL.out _ (by first|exact aB.refl _|assumption)).mono ?_;rintro e w2 ⟨rfl,rfl⟩;skip)
 rw[<-bz];have hz:decide (L.length<=id)=false:=by simp;omega
 rw[hz];clear bz n1a vv hz;go_loopw [7,8] (λu v wr=>∃(A i:Nat) (x:cY) (tl:List UInt8) (cs:Array Value),u=.int .i64 A/\v=.int .i64 i/\A<=256/\i<=524287/\Hid (A+tl.length=256/\(nodesA L)[i]?=some x/\spanS L x++tl=nth L id)/\Hid (wr.heap[w.heap.size]?=some (.cells cs 193 (0,0))/\cs.size=256/\∀j b,tl[j]?=some b->cs[A+j]?=some (.int .u8 (b.toNat:Nat)))/\Hid (aB w wr)) (λ_ v _=>(intOf v).toNat)
 case atStart =>
  obtain⟨cs,k1,k2,k3⟩:=START.out;exact⟨256,i0,x0,[],cs,by go_num,rfl,As _,yk,⟨rfl,NODE.out.1,NODE.out.2⟩,⟨k1,k2,k3⟩,g1⟩
 case round =>
  clear START NODE yk g1 fk;obtain⟨A,i,x,tl,cs,rfl,rfl,hA,hi,hN,hB,hG⟩:=hrel;by_cases h0:0<i
  ·have h0i:(0:Int)<i:=by omega
   obtain⟨k1,k2,k3⟩:=hN.out;obtain⟨p,y,hy,uq,o1,o2,hm⟩:=HOK.out.parent h0 k2;have lk:=cV0 HOK.out.asc (HOK.out.good hy) hm;obtain⟨b,hb⟩:=exq ((nth L x.i).getD y.d 0);rw[<-hb]at lk;have sd:=(List.getElem?_eq_some_iff.1 k2).1
   have hA0:0<A:=by
    have:=congrArg Bs k3
    rw[lk,Ab,Ab]at this;simp at this;omega
   obtain⟨A1,hA1⟩:=exq (A-1);obtain⟨i1,hi1⟩:=exq (i-1);have wA:IntKind.i64.wrap ((A:Int)-1)=A1:=by simp[Ak,Al,Ag];omega
   have wi:IntKind.i64.wrap ((i:Int)-1)=i1:=by simp[Ak,Al,Ag];omega
   have kp:(labelsL L (nodesA L))[i1]?=some b:=by
    rw[HOK.out.labels,Ac,Bw,show 1+i1=i by omega,k2,Ai,lk]
    simp
   obtain⟨lb,lo,rfl,cj⟩:=at1 (f:=λb:UInt8=>Value.int .u8 b.toNat) (HATL.out.grows hG.out) (List.ne_nil_of_mem (Ao kp));have hlc:=cj i1 b kp;have af9:(i1:Int)<ln:=by have:=hNN.out;omega
   have aga:(A1:Int)<256:=by omega
   have l1r:=hG.out.cell l1;have s1r:=hG.out.cell s1;obtain⟨m1,m2,m3⟩:=hB.out;obtain⟨ov,hov⟩:∃v,wr.cell? ⟨w.heap.size,A1,none⟩=some v:=⟨cs[A1]'(by omega),by simp[Cj,m1,show A1<cs.size by omega]⟩
   have hof:wr.frozen? ⟨w.heap.size,A1,none⟩=false:=by simp[World.frozen?,m1]
   obtain⟨W2,ft⟩:=exq (wr.setCell ⟨w.heap.size,A1,none⟩ (.int .u8 (b.toNat:Nat)));have g2:aB w W2:=by rw[ft];exact hG.out.set (As _) _
   have B2:Hid (W2.heap[w.heap.size]?=some (.cells (cs.setIfInBounds A1 (.int .u8 (b.toNat:Nat))) 193 (0,0))):=by
    rw[ft];exact heap_setCell_same wr _ _ cs _ _ m1
   have hw2:w.heap.size<W2.heap.size:=(Array.getElem?_eq_some_iff.1 B2.out).1
   have B3:Hid (∀j c,(b::tl)[j]?=some c->(cs.setIfInBounds A1 (.int .u8 (b.toNat:Nat)))[A1+j]?=some (.int .u8 (c.toNat:Nat))):=λj c hj=>by
    cases j with
    | zero =>
     obtain rfl:b=c:=by simpa using hj
     rw[Nat.add_zero,Array.getElem?_setIfInBounds_self];simp;omega
    | succ j =>
     rw[Array.getElem?_setIfInBounds_ne (by omega),show A1+(j+1)=A+j by omega]
     exact m3 j c (by simpa using hj)
   have N2:Hid (A1+(b::tl).length=256/\(nodesA L)[p]?=some y/\spanS L y++(b::tl)=nth L id):=⟨by rw[Bj];omega,hy,by rw[<-k3,lk];simp⟩;have CSZ:Hid ((cs.setIfInBounds A1 (.int .u8 (b.toNat:Nat))).size=256):=by show _=_;simpa using m2
   obtain⟨q1,q2,q3⟩:=bP0 hy o1 o2;obtain⟨pos,ck⟩:=exq (i+p+1);rw[<-ck]at q1 q2 q3
   have vw:pos<(shapeL L (nodesA L)).length:=by
    have h1:=dU L (nodesA L).length (As _);rw[Ay,HOK.out.off_all]at h1;omega
   have CSEL:=Aa (λ(u:World) (hg:aB w u)=>jC0 (shapeL L (nodesA L)) sb true pos i u HZ1.out vw q1 q2 (HS2.out.grows hg))
   have CRNK:Hid (∀(u:World),aB w u->Calls Tryz.prog 123 #[.pointer (some ⟨sb,0,none⟩),.bool false,.int .i64 pos] u λe w'=>e=.returned (.int .i64 ((p+1:Nat):Int))/\u=w'):=λu hg=>by
    have h:=rR (shapeL L (nodesA L)) sb false pos u HZ1.out (by have:=HZ1.out;omega) (HS2.out.grows hg);rw[show min pos (shapeL L (nodesA L)).length=pos by omega,q3]at h
    exact h
   have wp1:IntKind.i64.wrap (((p+1:Nat):Int)-1)=p:=by simp[Ak,Al,Ag];omega
   obtain⟨p1,hp1⟩:=exq (p+1);rw[<-hp1]at CRNK wp1;have z1:∀x:Ext aB W2.drew,x.u.cell? ⟨tb,0,none⟩=some (.pointer (some ⟨sb,0,none⟩)):=aG ((aB.drew W2).cell (g2.cell s1));have HPI:=Aa uq;clear hN hB k1 k2 k3 hy o1 o2 hm lk hb sd hA1 hi1 kp cj m1 m2 m3 q1 q2 q3 ck vw hp1 uq;go_wp2_with fail
   rw[<-ft];clear ft hov hof hlc l1r s1r;refine bI (bB 13 [9,10]) (by kernel_rfl) (λd _ _ _ _ h=>by cases d<;>exact h) ?_
   iterate 9 (refine aK rfl (λK hK=>?_);go_simp;refine hK _ ?_;clear hK K)
   clear z1;refine bU rfl rfl (λK hK=>?_);go_simp;refine(CSEL.out _ (g2.tr (aB.drew W2))).mono ?_;rintro e w3 ⟨rfl,bv⟩;refine⟨bv,hK _ _ ?_⟩;clear hK K;have g3:aB w w3:=(g2.tr (aB.drew W2)).tr bv;refine bU rfl rfl (λK hK=>?_);go_simp;refine(CRNK.out _ g3).mono ?_;rintro e w4 ⟨rfl,rfl⟩;refine⟨aB.refl _,hK _ _ ?_⟩;clear hK K;iterate 2 (refine aK rfl (λK hK=>?_);go_simp;refine hK _ ?_;clear hK K)
   refine bT ?_;have B4:w3.heap[w.heap.size]?=some (.cells (cs.setIfInBounds A1 (.int .u8 (b.toNat:Nat))) 193 (0,0)):=(Below.block ((aB.drew W2).tr bv) _ hw2).trans B2.out;replace B4:=Aa B4;clear bv B2 CSEL CRNK;go_wp2_with fail
   go_roundw
   case rel=>exact⟨A1,p,y,b::tl,_,by go_num,by go_num,by have:=N2.out.1;omega,by have:=HPI.out;omega,N2.out,⟨B4.out,CSZ.out,B3.out⟩,g3⟩
   case measure=>have:=HPI.out;simp[intOf];omega
  ·have h0i:¬(0:Int)<i:=by omega
   obtain rfl:i=0:=by omega
   obtain⟨k1,k2,k3⟩:=hN.out
   have hx:x=rootS L:=by
    have h1:=HOK.out.fix;have h2:(rootS L::(nodesA L).flatMap (eC L))[0]?=some x:=by rw[<-h1];exact k2
    simpa using h2.symm
   have i5:tl=nth L id:=by
    rw[<-k3,hx];simp[spanS,rootS]
   have vx:(convert 28 9 (.slice (some ⟨w.heap.size,A,none⟩) (256-A) (256-A))).run Tryz.prog wr=.ok (.string (mkB (nth L id))) wr:=by
    obtain⟨m1,m2,m3⟩:=hB.out;have hz:(mkB tl).size=tl.length:=by rw[Lib.size_eq,gO]
    have hBy:Lib.Bytes wr w.heap.size A (mkB tl):=λj hj=>by
     rw[hz]at hj;have h3:=m3 j _ (Ad hj);unfold Cj;simp only[m1,Option.isSome_none,By,if_false];exact h3
    have:=Lib.run_convert_whole (P:=Tryz.prog) wr 28 5 9 Tryz.underlying28 Tryz.underlying5 Tryz.underlying9 w.heap.size A (mkB tl) hBy (256-A)
    rw[hz,show tl.length=256-A by omega]at this
    rw[this,i5]
   have ck:0<tl.length:=by
    rw[i5];exact List.length_pos_iff.2 (HOK.out.pos _ (Ao (gA hid)))
   have hAi:(A:Int)<=256:=by omega
   have hAn:¬256=A:=by omega
   have G:=Aa hG.out;clear hN hB k1 k2 k3 hx i5 ck hG;go_wp2_with fail
   first
    | exact bodyPost_ret (v:=.tuple #[.string (mkB (nth L id)),.bool true]) (by simp[results,Tryz.results55,go_sem]) rfl ⟨rfl,G.out⟩
    | exact bodyPost_end (v:=.tuple #[.string (mkB (nth L id)),.bool true]) (by simp[results,Tryz.results55,go_sem]) rfl ⟨rfl,G.out⟩
end
section
open Go
theorem wG (L:List (List UInt8)):∀A:List cY,(labelsL L A).length=(A.flatMap (eC L)).length
 | []=>rfl
 | x::A=>by
  have:=wG L A
  unfold labelsL at *;rw[Ax,Ax,Ab,Ab,Ae,this]
theorem eW0 (L:List (List UInt8)) (i:Nat):fP L i=(labelsL L ((nodesA L).take i)).length+1:=by
 rw[wG];unfold fP dH;rw[Bj]
theorem OkL.many {L:List (List UInt8)} (h:OkL L) (hl:L.length<=20000):(nodesA L).length<=5120001:=by
 have h1:=congrArg Bs (kQ0 h.asc);rw[Ae]at h1;have h2:=tC L 256;have h3:(uL0 L).length=(qI L 256).length:=rfl;omega
theorem qN (L:List (List UInt8)) (A:List cY) (x:cY):labelsL L (A++[x])=labelsL L A++(eC L x).map (lH L x):=by
 unfold labelsL;rw[List.flatMap_append];simp
def pE (L:List (List UInt8)) (i:Nat):List Nat:=(gK L).map λk=>if k<i then k else 0
theorem kB (L:List (List UInt8)):(gK L).length=L.length:=by simp[gK]
theorem mQ0 {L:List (List UInt8)}:pE L 0=Bb L.length 0:=by
 unfold pE;apply An
 intro j;rw[Ac,Bk];by_cases h:j<L.length
 ·rw[Ad (by rw[kB];exact h),if_pos h]
  simp
 ·rw[Af (by rw[kB];omega),if_neg h];rfl
theorem OkL.ndTo_all {L:List (List UInt8)} (h:OkL L) {m:Nat} (hm:(nodesA L).length<=m):pE L m=gK L:=by
 unfold pE;have hl:=kB L;conv=>rhs;rw[<-List.map_id (gK L)]
 apply Bu
 intro k hk;obtain⟨j,hj⟩:=List.mem_iff_getElem?.1 hk;have hjl:j<L.length:=by rw[<-hl];exact(List.getElem?_eq_some_iff.1 hj).1
 obtain⟨i,x,hi,hh,hx⟩:=h.node hjl
 have:=fV h hjl hi hh hx
 rw[hj]at this;have ae:=(List.getElem?_eq_some_iff.1 hi).1;rw[if_pos (by have:=Option.some.inj this;omega)];rfl
theorem OkL.ndTo_succ {L:List (List UInt8)} (h:OkL L) {i:Nat} {x:cY} (hx:(nodesA L)[i]?=some x):pE L (i+1)=if gE L x=true then (pE L i).set x.i i else pE L i:=by
 have hl:=kB L
 have key:∀j,j<L.length->((gK L)[j]?=some i↔gE L x=true/\x.i=j):=λj hj=>by
  obtain⟨i',x',yv,y7,hx'⟩:=h.node hj;have h1:=fV h hj yv y7 hx';rw[h1];constructor
  ·intro e
   have e2:i'=i:=Option.some.inj e;subst e2;rw[hx]at yv;cases yv
   exact⟨y7,hx'⟩
  ·rintro⟨a,b⟩
   have h2:=fV h hj hx a b;rw[h1]at h2;exact h2
 apply An
 intro j;by_cases hj:j<L.length
 ·obtain⟨k,hk⟩:∃k,(gK L)[j]?=some k:=⟨_,Ad (by rw[hl];exact hj)⟩
  have e1:(pE L (i+1))[j]?=some (if k<i+1 then k else 0):=by unfold pE;rw[Ac,hk];rfl
  have e2:(pE L i)[j]?=some (if k<i then k else 0):=by unfold pE;rw[Ac,hk];rfl
  rw[e1];have ig:=key j hj;rw[hk]at ig;by_cases hh:gE L x=true
  ·rw[if_pos hh]
   by_cases hxj:x.i=j
   ·have:k=i:=Option.some.inj (ig.2 ⟨hh,hxj⟩)
    rw[hxj,Bn (by unfold pE;rw[Ae,hl];exact hj),if_pos (by omega),this]
   ·have:k≠i:=λe=>hxj (ig.1 (by rw[e])).2
    rw[Bt hxj,e2];congr 1
    by_cases h3:k<i
    ·rw[if_pos h3,if_pos (by omega)]
    ·rw[if_neg h3,if_neg (by omega)]
  ·rw[if_neg hh,e2]
   have:k≠i:=λe=>hh (ig.1 (by rw[e])).1
   congr 1
   by_cases h3:k<i
   ·rw[if_pos h3,if_pos (by omega)]
   ·rw[if_neg h3,if_neg (by omega)]
 ·have hn:∀m,(pE L m)[j]?=none:=λm=>Af (by unfold pE;rw[Ae,hl];omega)
  rw[hn];split
  ·rw[Af (by rw[Cg];unfold pE;rw[Ae,hl];omega)]
  ·rw[hn]
theorem sR0 (L:List (List UInt8)) (i:Nat):(pE L i).length=L.length:=by unfold pE; rw[Ae,kB]
end
section
open Go Go.RowKit
theorem OkL.root0 {L:List (List UInt8)} (h:OkL L):(nodesA L)[0]?=some (rootS L):=by rw[h.fix]; rfl
theorem OkL.lab {L:List (List UInt8)} (h:OkL L) {k:Nat} {y:cY} (h1:1<=k) (hy:(nodesA L)[k]?=some y):(labelsL L (nodesA L))[k-1]?=some ((spanS L y).getLastD 0):=by
 rw[h.labels,Ac,Bw,show 1+(k-1)=k by omega,hy];rfl
theorem dK0 {L:List (List UInt8)} {A:List cY} {i:Nat} {x:cY} (hx:A[i]?=some x):bitOf (isL L A) i=gE L x:=by
 grind [bitOf,isL]
theorem yO (L:List (List UInt8)) (A:List cY):∀i,i<=A.length->cZ (isL L A) i=((A.take i).filter (gE L)).length
 | 0,_=>rfl
 | i+1,h=>by
  obtain⟨x,hx⟩:∃x,A[i]?=some x:=⟨_,Ad h⟩;rw[eO,yO L A i (by omega),dK0 hx,Cc,hx,Option.toList_some,Bz,Ab];congr 1
  by_cases hh:gE L x=true
  ·simp[hh]
  ·simp[hh]
theorem sV0 {L:List (List UInt8)} {A:List cY} {i:Nat} {x:cY} (hx:A[i]?=some x) (hh:gE L x=true):(idsL L A)[cZ (isL L A) i]?=some x.i:=by
 have hi:=(List.getElem?_eq_some_iff.1 hx).1;rw[yO L A i (Cb hi)];unfold idsL
 have e:A=A.take i++(x::A.drop (i+1)):=by
  have h1:=Bf hi;rw[(List.getElem?_eq_some_iff.1 hx).2]at h1;rw[<-h1,List.take_append_drop]
 have e2:A.filter (gE L)=(A.take i).filter (gE L)++(x::(A.drop (i+1)).filter (gE L)):=by
  conv=>lhs;rw[e]
  rw[Bz,List.filter_cons,if_pos hh]
 rw[e2,Bp,List.getElem?_append_right (by simp),Ae,Nat.sub_self];rfl
theorem OkL.here_at {L:List (List UInt8)} (h:OkL L) {i:Nat} {x:cY} (hx:(nodesA L)[i]?=some x) (j:Nat):L[j]?=some (spanS L x)↔gE L x=true/\j=x.i:=mI h.asc (h.good hx) h.pos j
def pZ0 (L:List (List UInt8)) (k:Nat):Nat:=(Ba (k+1)).countP λq=>decide (fP L (q+1)<=k)
theorem mI0 {L:List (List UInt8)} {p k:Nat} (hp:p<=k) (h1:fP L p<=k) (h2:k<fP L (p+1)):pZ0 L k=p:=by
 unfold pZ0;rw[qD _ p (k+1) (λq _=>?_)]
 ·omega
 ·rw[Bool.eq_iff_iff]
  simp only[decide_eq_true_eq];constructor
  ·intro h
   apply Be
   intro hc
   have:=sG (L:=L) (show p+1<=q+1 by omega)
   omega
  ·intro h
   have:=sG (L:=L) (show q+1<=p by omega)
   omega
def cD0 (L:List (List UInt8)) (m:Nat):List Nat:=(Ba m).map (pZ0 L)
def rI (L:List (List UInt8)) (m:Nat):List Nat:=((nodesA L).take m).map (·.d)
theorem nT0 (L:List (List UInt8)) (m:Nat):cD0 L (m+1)=cD0 L m++[pZ0 L m]:=by
 unfold cD0;rw[List.range_succ,Bp];rfl
theorem kL (L:List (List UInt8)) (m:Nat):(cD0 L m).length=m:=by simp[cD0]
theorem qM0 {L:List (List UInt8)} {m k:Nat} (h:k<m):(cD0 L m)[k]?=some (pZ0 L k):=by
 unfold cD0;rw[Ac,Aj h];rfl
theorem bR0 {L:List (List UInt8)} {m:Nat} {y:cY} (h:(nodesA L)[m]?=some y):rI L (m+1)=rI L m++[y.d]:=by
 unfold rI;rw[Cc,h,Bp];rfl
theorem fM0 {L:List (List UInt8)} {m:Nat} (h:m<=(nodesA L).length):(rI L m).length=m:=by
 unfold rI;rw[Ae,Ap];omega
theorem yG {L:List (List UInt8)} {m k:Nat} {y:cY} (h:k<m) (hy:(nodesA L)[k]?=some y):(rI L m)[k]?=some y.d:=by
 unfold rI;rw[Ac,Ca,if_pos h,hy];rfl
theorem OkL.depT_one {L:List (List UInt8)} (h:OkL L):rI L 1=[0]:=by
 rw[bR0 h.root0];rfl
theorem sA0 (L:List (List UInt8)):cD0 L 1=[0]:=by
 unfold cD0
 have:pZ0 L 0=0:=by
  unfold pZ0;have h:=sG (L:=L) (At 1);rw[uE]at h;rw[List.countP_eq_zero];intro q hq;obtain rfl:q=0:=by simpa using hq
  simp;omega
 simp[this]
def iS (L:List (List UInt8)) (i:Nat):List ByteArray:=(Ba L.length).map λj=>if (gK L).getD j 0<i then mkB (nth L j) else ⟨#[]⟩
theorem pC (L:List (List UInt8)) (i:Nat):(iS L i).length=L.length:=by simp[iS]
theorem hO0 (L:List (List UInt8)):iS L 0=Bb L.length (⟨#[]⟩:ByteArray):=by
 apply An
 intro j;unfold iS;rw[Ac,Bk];by_cases h:j<L.length
 ·rw[Aj h,if_pos h];simp
 ·rw[Af (by simp;omega),if_neg h];rfl
theorem OkL.strTo_all {L:List (List UInt8)} (h:OkL L) {m:Nat} (hm:(nodesA L).length<=m):iS L m=L.map mkB:=by
 apply An
 intro j;unfold iS;rw[Ac,Ac];by_cases hj:j<L.length
 ·rw[Aj hj,gA hj]
  obtain⟨i,x,hx,hh,qq⟩:=h.node hj;have hn:=fV h hj hx hh qq;have hi:=(List.getElem?_eq_some_iff.1 hx).1;simp only[Ai];rw[Am,hn,Az,if_pos (by omega)]
 ·rw[Af (by simp;omega),Af (by omega)];rfl
theorem OkL.strTo_no {L:List (List UInt8)} (h:OkL L) {i:Nat} {x:cY} (hx:(nodesA L)[i]?=some x) (hh:gE L x=false):iS L (i+1)=iS L i:=by
 unfold iS;apply Bu
 intro j hj;rw[List.mem_range]at hj;obtain⟨k,y,hy,hh2,hyj⟩:=h.node hj;rw[Am,fV h hj hy hh2 hyj,Az]
 have aq:k≠i:=by
  rintro rfl;rw[hx]at hy;obtain rfl:=Option.some.inj hy;rw[hh]at hh2;cases hh2
 by_cases hk:k<i
 ·rw[if_pos (by omega),if_pos hk]
 ·rw[if_neg (by omega),if_neg hk]
theorem OkL.strTo_yes {L:List (List UInt8)} (h:OkL L) {i:Nat} {x:cY} (hx:(nodesA L)[i]?=some x) (hh:gE L x=true):iS L (i+1)=(iS L i).set x.i (mkB (spanS L x)):=by
 have hL:L[x.i]?=some (spanS L x):=(h.here_at hx x.i).2 ⟨hh,rfl⟩;have hxl:=(List.getElem?_eq_some_iff.1 hL).1;apply An
 intro j;by_cases hj:j<L.length
 ·obtain⟨k,y,hy,hh2,hyj⟩:=h.node hj
  have hn:=fV h hj hy hh2 hyj;by_cases he:j=x.i
  ·subst he
   rw[Bn (by rw[pC];exact hj)];unfold iS;rw[Ac,Aj hj,Ai]
   have cp:k=i:=by
    have e1:=(h.here_at hy x.i).2 ⟨hh2,hyj.symm⟩;rw[hL]at e1
    have:=(h.good hy).inj h.asc (h.good hx) (Option.some.inj e1).symm
    subst this;exact h.uniq hy hx
   rw[Am,hn,Az,if_pos (by omega),bA0 hL]
  ·rw[Bt (Ne.symm he)]
   unfold iS;rw[Ac,Ac,Aj hj,Ai,Ai,Am,hn,Az]
   have aq:k≠i:=by
    rintro rfl;rw[hx]at hy;obtain rfl:=Option.some.inj hy;exact he hyj.symm
   by_cases hk:k<i
   ·rw[if_pos (by omega),if_pos hk]
   ·rw[if_neg (by omega),if_neg hk]
 ·rw[Af (by rw[pC];omega),Af (by rw[Cg,pC];omega)]
theorem OkL.climb {L:List (List UInt8)} (h:OkL L) {X:Nat} {y:cY} (h0:0<X) (hy:(nodesA L)[X]?=some y):∃z c,(nodesA L)[pZ0 L X]?=some z/\pZ0 L X<X/\(labelsL L (nodesA L))[X-1]?=some c/\spanS L y=spanS L z++[c]/\y.d=z.d+1:=by
 obtain⟨p,z,hz,hpX,o1,o2,hm⟩:=h.parent h0 hy;have hs:=cV0 h.asc (h.good hz) hm;rw[mI0 (Cb hpX) o1 o2];refine⟨z,_,hz,hpX,h.lab h0 hy,?_,lQ0 L z y hm⟩;rw[hs];simp
theorem nH0 {d:Nat} {c:UInt8} {tl:List UInt8}:(Bb (d+1) (0:UInt8)++tl).set d c=Bb d 0++(c::tl):=by
 rw[List.replicate_succ',Au,List.set_append_right _ _ (by simp)];simp
end
section
open Go Go.RowKit
attribute [local go_sem] aM aO
theorem mS {x:Nat} (h:x<4611686018427387904):IntKind.i64.wrap (x:Int)=x:=by simp[Ak,Al,Ag]; omega
theorem hG0 (b:List UInt8) (a:Option Addr) (c:Nat) (w:World) (hb:b.length<=8) (ac:aF w a 1 (b.map aQ)) :
  Calls Tryz.prog 211 #[.slice a b.length c] w λe w'=>e=.returned (.int .u64 (uA b))/\w=w':=by
 have HAT:=Aa ac;clear ac;go_enter Tryz.func211,Tryz.ntmps211
 go_wp2_with fail
 go_loopw [3,8] (λn i wr=>∃k:Nat,k<=b.length/\i=.int .i64 k/\n=.int .u64 (uA (b.take k))/\Hid (wr=w)) (λ_ i _=>b.length-(intOf i).toNat)
 case atStart=>exact⟨0,At _,rfl,rfl,rfl⟩
 case round =>
  obtain⟨k,hk,rfl,rfl,hw⟩:=hrel;obtain rfl:=hw.out;by_cases ae:k<b.length
  ·obtain⟨x,hx⟩:∃x,b[k]?=some x:=⟨_,Ad ae⟩
   obtain⟨ab,ao,rfl,hc⟩:=at1 (f:=λx:UInt8=>Value.int .u8 x.toNat) HAT.out (aH ae);have fg:=hc k x hx;have i5:(b.take k).length=k:=by rw[Ap];omega
   have HT:Hid (uA (b.take k)|||(x.toNat<<<(8*k))%18446744073709551616=uA (b.take (k+1))):=by
    show _=_
    rw[bM hx,<-vK0 (by rw[i5];omega),i5]
   have ab1:uA (b.take k)<18446744073709551616:=gX0 (by omega);obtain⟨N,hN⟩:=exq (uA (b.take k));obtain⟨v,hv⟩:=exq x.toNat;have afk:v<256:=by rw[hv];exact x.toNat_lt
   obtain⟨S,hS⟩:=exq (8*k);rw[<-hN]at ab1 ⊢;rw[<-hv]at fg;rw[<-hN,<-hv,<-hS]at HT;have eS:IntKind.i64.wrap ((8:Int)*k)=S:=by simp[Ak,Al,Ag];omega
   have uv:IntKind.u64.wrap (v:Int)=v:=by simp[Ak,Al,Ag];omega
   have r9:=aI0 (x:=N) (v:=v) (S:=S) ab1;have jk:S<64:=by omega
   have hSm:min S 64=S:=by omega
   have cp:(k:Int)<b.length:=by omega
   clear hc hx i5 hN hv hS;go_wp2_with fail
   go_roundw
   case rel=>exact⟨k+1,ae,by go_num,congrArg (λt:Nat=>Value.int .u64 (t:Int)) HT.out,trivial⟩
   case measure=>simp[intOf];omega
  ·obtain rfl:k=b.length:=by omega
   rw[Ay];go_wp2_with fail
   go_ret;exact⟨rfl,rfl⟩
theorem gF0 (l:List Bool) (vb i:Nat) (w:World) (hl:l.length<=1048576) (ac:gP w vb l) :
  Calls Tryz.prog 213 #[.pointer (some ⟨vb,0,none⟩),.int .i64 i] w λe w'=>e=.returned (.bool (bitOf l i))/\w=w':=by
 obtain⟨vW,h1,h2⟩:=ac.c1;obtain⟨aW,cW,rfl,_,_,ei⟩:=h2.at_ (enc:=gT) (λ_=>rfl);have mh:=eG l;rw[mh]at h1;have CL:=Aa (nY l vb w ac);have h0:(0:Int)<=i:=by omega
 by_cases hi:i<l.length
 ·obtain⟨bW,oW,rfl,pe⟩:=at1 (f:=λn:Nat=>Value.int .u64 n) ei (aH (k:=0) (by rw[mh];omega))
  obtain⟨Q,hQ⟩:=exq (i/64);obtain⟨S,hS⟩:=exq (i%64);obtain⟨q,hq⟩:=exq ((l.length+63)/64);have fg:=pe Q _ (lB (by omega));have pr:=qU0 l i;rw[<-hQ,<-hS]at pr;obtain⟨x,hx⟩:=exq (kD l Q);have fy:x<18446744073709551616:=by rw[hx];exact lN l Q
  rw[<-hx]at fg pr;rw[<-hq]at h1;have mz:Q<q:=by omega
  have hQi:(Q:Int)<q:=by omega
  have eQ:(i:Int)/64=Q:=by omega
  have eQt:(i:Int).tdiv 64=Q:=by rw[Bc (by omega)];omega
  have eS:(i:Int)%64=S:=by omega
  have eSt:(i:Int).tmod 64=S:=by rw[Bd (by omega)];omega
  obtain⟨y,hy⟩:=exq (x>>>S);have gn:y<18446744073709551616:=by rw[hy];exact Nat.lt_of_le_of_lt (Nat.shiftRight_le _ _) fy
  have hsh:(x:Int)/2^S=(y:Nat):=by rw[hy];exact rV x S
  have pt:=u64_and_nat y 1 gn (by decide);rw[<-hy]at pr;rw[pr]at pt;have hand:bits .and .u64 (y:Int) 1=((if bitOf l i then 1 else 0:Nat):Int):=pt
  clear pt;have sd:(i:Int)<l.length:=by omega
  have jk:S<64:=by omega
  have hSm:min S 64=S:=by omega
  generalize bitOf l i=bt at hand ⊢;clear ac h2 ei pe mh hQ hS hq hx hy pr;go_enter Tryz.func213,Tryz.ntmps213
  go_wp2_with fail
  refine CL.out.mono ?_;rintro e w2 ⟨rfl,rfl⟩
  cases bt with
  | true =>
   simp only[if_true]at hand;go_wp2_with fail
   go_ret;exact⟨rfl,rfl⟩
  | false =>
   simp only[By,if_false]at hand;go_wp2_with fail
   go_ret;exact⟨rfl,rfl⟩
 ·have sd:¬(i:Int)<l.length:=by omega
  rw[bY0 (by omega)];clear ac h2 ei mh;go_enter Tryz.func213,Tryz.ntmps213
  go_wp2_with fail
  refine CL.out.mono ?_;rintro e w2 ⟨rfl,rfl⟩;go_wp2_with fail
  go_ret;exact⟨rfl,rfl⟩
theorem wO0 {l:List Bool} {w:World} {bb bo bc k:Nat} (ac:aF w (some ⟨bb,bo,none⟩) 1 ((kZ l).map aQ)) (ep:(kZ l).length<=bc) (hk:k<(l.length+63)/64) :
  ∃a',(if bc=4+8*k then some ⟨bb,bo,none⟩ else some ⟨bb,bo+(4+8*k),none⟩)=a'/\aF w a' 1 ((leB 8 (kD l k)).map aQ):=by
 have re:=kV l;obtain⟨a',h1,h2,_⟩:=tZ (l:=4+8*k) (h:=4+8*k+8) ac (λh=>by cases h) (by omega) (by omega) ep;refine⟨a',?_,?_⟩
 ·rw[<-h1,Ai,jF]
 ·rw[List.drop_take,show 4+8*k+8-(4+8*k)=8 by omega,oS0 hk]at h2
  exact h2
theorem qI0 {l:List Bool} {w:World} {bb bo:Nat} (ac:aF w (some ⟨bb,bo,none⟩) 1 ((kZ l).map aQ)):aF w (some ⟨bb,bo,none⟩) 1 ((leB 4 l.length).map aQ):=λ_=>by
 have re:=kV l;obtain⟨b,o,h1,h2⟩:=ac (by intro h;have:=congrArg Bs h;rw[Ae,List.length_nil]at this;omega);refine⟨b,o,h1,λi row hi j v hj=>h2 i row ?_ j v hj⟩;rw[<-lH0,Ac,Ca]at hi;rw[Ac];split at hi
 ·exact hi
 ·cases hi
theorem lD0 (l:List Bool) (k:Nat):uA (leB 8 (kD l k))=kD l k:=by
 rw[xW];exact Cd (lN l k)
theorem mW0 {l:List Bool} (hl:l.length<=1048576):uA (leB 4 l.length)=l.length:=by
 rw[xW];exact Cd (by rw[show (256:Nat)^4=4294967296 by decide];omega)
theorem gW0 (l:List Bool) (ba:Option Addr) (bc:Nat) (w:World) (hl:l.length<=1048576) (ep:(kZ l).length<=bc) (ac:aF w ba 1 ((kZ l).map aQ)) :
  Calls Tryz.prog 149 #[.slice ba (kZ l).length bc] w λe w'=>∃vb,e=.returned (.tuple #[.pointer (some ⟨vb,0,none⟩),.int .i64 0])/\gP w' vb l/\aB w w':=by
 have re:=kV l;obtain⟨bb,bo,rfl,_⟩:=at1 (f:=λx:UInt8=>Value.int .u8 x.toNat) ac (Bg (by omega))
 have CH:∀u c,aB w u->Hid (Calls Tryz.prog 211 #[.slice (some ⟨bb,bo,none⟩) 4 c] u λe w'=>e=.returned (.int .u64 l.length)/\u=w'):=λu c hu=>by
  have h:=hG0 (leB 4 l.length) _ c u (by rw[bD];decide) ((qI0 ac).grows hu);rw[bD,mW0 hl]at h;exact h
 obtain⟨N,hN⟩:=exq ((kZ l).length);rw[<-hN]at re ep ⊢;have HN:=Aa hN;have HEL:=Aa re;have HAT:=Aa ac;obtain⟨n,hn⟩:=exq l.length;have HNL:=Aa hn;rw[<-hn]at CH hl re;obtain⟨q,hq⟩:=exq ((n+63)/64);have HQ:=Aa hq;have qw:q<=16384:=by omega
 have hN4:¬(N:Int)<4:=by omega
 have hN0:4<=N:=by omega
 have hN8:¬(N:Int)<4+8*(q:Int):=by omega
 have nu:¬(1048576:Int)<n:=by omega
 have wn:IntKind.i64.wrap (n:Int)=n:=mS (by omega);have w63:IntKind.i64.wrap ((n:Int)+63)=(n:Int)+63:=by have:=mS (x:=n+63) (by omega);rw[Ch]at this;exact this
 have e63:((n:Int)+63)/64=q:=by omega
 have agb:((n:Int)+63).tdiv 64=q:=by rw[Bc (by omega)];exact e63
 have w8q:IntKind.i64.wrap (8*(q:Int))=8*(q:Int):=by have:=mS (x:=8*q) (by omega);rw[Bq]at this;exact this
 have w4q:IntKind.i64.wrap (4+8*(q:Int))=4+8*(q:Int):=by have:=mS (x:=4+8*q) (by omega);rw[Ch,Bq]at this;exact this
 clear ac hN hn hq re;obtain⟨W1,bz⟩:=exq (w.alloc (.cells #[.int .i64 n,.slice none 0 0,.slice none 0 0] 277));obtain⟨pb,dn⟩:=exq w.heap.size;have dd:=λj u h=>aU w #[.int .i64 n,.slice none 0 0,.slice none 0 0] 277 (0,0) j u h;rw[<-bz,<-dn]at dd;have g1:aB w W1:=by rw[bz];exact aB.alloc _ _
 have c0:=dd 0 _ rfl;have c1:=dd 1 _ rfl;have c2:=dd 2 _ rfl;have f1:W1.frozen? ⟨pb,1,none⟩=false:=by rw[bz,dn];exact frozen_of_row _ _ _ _ _ (heap_alloc_new w _)
 have f2:W1.frozen? ⟨pb,2,none⟩=false:=by rw[bz,dn];exact frozen_of_row _ _ _ _ _ (heap_alloc_new w _)
 have de:W1.heap.size=pb+1:=by rw[bz,dn];simp
 have HPB:=Aa dn;clear dd;go_enter Tryz.func149,Tryz.ntmps149
 go_wp2_with fail
 refine(CH _ _ (aB.refl _)).out.mono ?_;rintro e w2 ⟨rfl,rfl⟩;go_wp2_with fail
 refine(CH _ _ (aB.refl _)).out.mono ?_;rintro e w3 ⟨rfl,rfl⟩;go_wp2_with fail
 try rw[<-bz]
 try rw[<-dn]
 clear bz dn CH;go_loopw [35] (λi wr=>∃(k:Nat) (vW:Value),k<=q/\i=.int .i64 k/\wr.cell? ⟨pb,0,none⟩=some (.int .i64 n)/\wr.cell? ⟨pb,1,none⟩=some vW/\wr.cell? ⟨pb,2,none⟩=some (.slice none 0 0)/\wr.frozen? ⟨pb,1,none⟩=false/\wr.frozen? ⟨pb,2,none⟩=false/\aT wr (pb+1) 213 1 gT vW ((jT l).take k)/\Hid (aB w wr)) (λi _=>q-(intOf i).toNat)
 case atStart=>exact⟨0,_,At _,rfl,c0,c1,c2,f1,f2,aT.nil _ _ _ _ _,g1⟩
 case round =>
  clear c0 c1 c2 f1 f2 g1;obtain⟨k,vW,hk,rfl,c0,c1,c2,f1,f2,aa,hg⟩:=hrel;by_cases ae:k<q
  ·have cp:(k:Int)<q:=by omega
   have hx:=lB (l:=l) (k:=k) (by have:=HQ.out;have:=HNL.out;omega);have HT:=Aa (bM hx);have i5:((jT l).take k).length=k:=by rw[Ap,eG];have:=HQ.out;have:=HNL.out;omega
   obtain⟨aW,cW,rfl,_,_,_⟩:=aa.at_ (enc:=gT) (λ_=>rfl);rw[i5]at c1 aa;obtain⟨a5,hif,zw⟩:=wO0 HAT.out (by rw[<-HN.out];exact ep) (show k<(l.length+63)/64 by have:=HQ.out;have:=HNL.out;omega)
   have CN:∀x:Ext (EB (pb+1)) wr.drew,Calls Tryz.prog 211 #[.slice a5 8 (bc-(4+8*k))] x.u λe w'=>e=.returned (.int .u64 (kD l k))/\x.u=w':=λx=>by
    have h:=hG0 (leB 8 (kD l k)) a5 (bc-(4+8*k)) x.u (by rw[bD];decide) (zw.grows (EB.grows hg.out.dr (x.h.mono (by have:=HPB.out;omega))));rw[bD,lD0]at h;exact h
   obtain⟨S,hS⟩:=exq (4+8*k);obtain⟨T,hT⟩:=exq (12+8*k);rw[<-hS]at hif CN;have w8:IntKind.i64.wrap (8*(k:Int))=8*(k:Int):=by have:=mS (x:=8*k) (by omega);rw[Bq]at this;exact this
   have w4:IntKind.i64.wrap (4+8*(k:Int))=S:=by have:=mS (x:=S) (by omega);rw[<-this];congr 1;omega
   have w12:IntKind.i64.wrap (12+8*(k:Int))=T:=by have:=mS (x:=T) (by omega);rw[<-this];congr 1;omega
   have hTN:T<=N:=by have:=HEL.out;have:=HQ.out;have:=HNL.out;omega
   have zy:T-S=8:=by omega
   have hST:(S:Int)<=T:=by omega
   have hTb:(T:Int)<=bc:=by omega
   clear hS hT;obtain⟨y,hy⟩:=exq (kD l k);rw[<-hy]at CN HT;have me:pb<wr.heap.size:=Ar wr _ c0;have z1:∀x:Ext (EB (pb+1)) wr.drew,x.u.cell? ⟨pb,1,none⟩=some (.slice aW k cW):=sR (Ce _) ((aB.drew wr).cell c1);clear hx hy zw;go_wp2_with fail
   refine hF0 (EB (pb+1)) 16 (bB 16 [14,15]) (EB.refl (pb+1)) (EB.trans (pb+1)) (by kernel_rfl) (by kernel_rfl) (λd _ _ _ _ h=>by cases d<;>exact h) ?_
   iterate 13 (refine aK rfl (λK hK=>?_);go_simp;refine hK _ ?_;clear hK K)
   refine aK rfl (λK hK=>?_);go_simp;apply Exists.intro
   refine⟨λx=>?_,hK _ ?_⟩
   ·go_at_call 211;exact pN (CN x)
   clear hK K;clear z1;refine bU rfl rfl (λK hK=>?_);go_simp;refine⟨EB.of (aB.alloc _ _) (show pb+1<=wr.heap.size by omega),hK _ _ ?_⟩
   clear hK K;refine bU rfl rfl (λK hK=>?_);refine nT nA0 _ _ rfl (pb+1) _ ((jT l).take k) y rfl ((aa.grows (aB.drew wr)).grows (aB.alloc _ _)) _ 1 rfl (zB0 (xM0 _ _ _)) (by rw[i5];omega) (by simp;omega) ?_;intro v5 w5 ai k7 q8;have cn:=aB.trans _ _ _ (aB.drew wr) (aB.alloc wr.drew (.cells #[.int .u64 y] 213))
   have q9:some pb≠(Value.slice aW k cW).ownBlock:=λh=>by
    have:=aV aa _ h.symm
    omega
   have hE5:=EB.own ((aa.grows (aB.drew wr)).grows (aB.alloc _ _)) k7 (by simp;omega);have e0:=k7.cell (cn.cell c0) q9;have e1:=k7.cell (cn.cell c1) q9;have e2:=k7.cell (cn.cell c2) q9;have ef1:w5.frozen? ⟨pb,1,none⟩=false:=(Bo (a:=⟨pb,1,none⟩) (k7.block pb (by simp;omega) q9)).trans ((cn.froz (by show pb<_;omega)).trans f1)
   have ef2:w5.frozen? ⟨pb,2,none⟩=false:=(Bo (a:=⟨pb,2,none⟩) (k7.block pb (by simp;omega) q9)).trans ((cn.froz (by show pb<_;omega)).trans f2)
   have aep:Hid (aB w w5):=EB.grows (hg.out.tr cn) (hE5.mono (by have:=HPB.out;omega));refine⟨hE5,hK _ _ ?_⟩;clear hK K;refine bT ?_;simp only[List.drop_succ_cons,List.drop_zero];rw[<-HT.out]at ai;have aeq:((jT l).take (k+1)).length=k+1:=by rw[Ap,eG];have:=HQ.out;have:=HNL.out;omega
   obtain⟨a6,c6,rfl,_,_,_⟩:=ai.at_ (enc:=gT) (λ_=>rfl);rw[aeq]at ai ⊢;clear k7 q8 cn hE5 aa c0 c1 c2 f1 f2 CN hg;go_wp2_with fail
   go_roundw
   case rel=>exact⟨k+1,_,ae,by go_num,(Aq _ _ _ _ (λh=>by cases h)).trans e0,Bh _ _ _ e1,(Aq _ _ _ _ (λh=>by cases h)).trans e2,(Br _ _ _ _).trans ef1,(Br _ _ _ _).trans ef2,jX ai (p:=⟨pb,1,none⟩) (Ce _) _,aep.out.set (show w.heap.size<=pb by have:=HPB.out;omega) _⟩
   case measure=>simp[intOf];omega
  ·have cp:¬(k:Int)<q:=by omega
   have gh:k=q:=by omega
   rw[gh,Av (by rw[eG];have:=HQ.out;have:=HNL.out;omega)]at aa;clear gh;obtain⟨aW,cW,rfl,_,_,ei⟩:=aa.at_ (enc:=gT) (λ_=>rfl);have mh:(jT l).length=q:=by rw[eG];have:=HQ.out;have:=HNL.out;omega
   have CC:=aH0 l pb (pb+1) _ wr (by have:=HNL.out;omega) (λr hr=>by have:=aV aa r hr;omega) c1 c2 f2 aa;rw[mh]at c1;go_wp2_with fail
   refine CC.mono ?_;rintro e w5 ⟨rfl,⟨vC,g2,fu⟩,hj,jg⟩;have sv:pb<wr.heap.size:=Ar wr _ c0;have ci:=vR jg sv;have d0:=(hj 0 (by decide)).trans c0;have d1:=(hj 1 (by decide)).trans c1
   have ia:=eW (v:=.slice (some ⟨pb,0,none⟩) 0 0) aa jg (λr h1 h2=>by
    have a1:pb=r:=Option.some.inj h1
    have:=aV aa r h2
    omega)
   have bk:aB w w5:=EB.grows hg.out (ci.mono (by have:=HPB.out;omega));have HV:Hid (gP w5 pb l):=⟨by rw[<-HNL.out];exact d0,⟨_,by rw[mh];exact d1,ia.base (At _)⟩,vC,g2,fu.base (At _)⟩;have kv:l.length<=1048576:=by have:=HNL.out;omega
   have CE:=λ(W:World) (hW:aB w5 W)=>Aa (yY l pb W kv (HV.out.grows hW));have HATW:Hid (aF w5 aW 1 ((jT l).map gT)):=(zJ (λ_=>rfl) ia);have z0:∀x:Ext aB w5.drew,x.u.cell? ⟨pb,0,none⟩=some (.int .i64 n):=aG ((aB.drew w5).cell d0);have z1:∀x:Ext aB w5.drew,x.u.cell? ⟨pb,1,none⟩=some (.slice aW q cW):=aG ((aB.drew w5).cell d1);have HG5:=Aa bk;obtain⟨R,hR⟩:=exq (n%64);have eR:(n:Int)%64=R:=by omega
   have eRt:(n:Int).tmod 64=R:=by rw[Bd (by omega)];exact eR
   have HR:=Aa hR;clear CC c0 c1 c2 f1 f2 aa ei hj jg ci ia fu g2 sv hR hg bk d0 d1 mh;by_cases qz:R=0
   ·subst qz
    go_wp2_with fail
    refine bI (nN [0,1,2,3,4,5,6,7,8,9,10,11,12,13,14,15,16,17,18,19,20,21,22,23,24,26,25,27,28,29] [25,27]) (by kernel_rfl) (λd _ _ _ _ h=>by cases d<;>exact h) ?_
    iterate 26 (refine aK rfl (λK hK=>?_);go_simp;refine hK _ ?_;clear hK K)
    clear z0 z1;refine bU rfl rfl (λK hK=>?_);go_simp;refine((CE _ (aB.drew w5)).out).mono ?_;rintro e w8 ⟨v8,rfl,lw,ej⟩;refine⟨ej,hK _ _ ?_⟩;clear hK K;obtain⟨a8,c8,rfl,_,_,fo⟩:=lw.at_ bE.len;have iz:aB w w8:=HG5.out.dr.tr ej;have CQ:=Aa (jV (kZ l) (kZ l) a8 (some ⟨bb,bo,none⟩) c8 bc w8 fo (HAT.out.grows iz));rw[<-HN.out]at CQ ⊢;simp only[decide_true]at CQ;have HV8:=Aa (HV.out.grows ((aB.drew w5).tr ej));clear lw fo ej;refine bU rfl rfl (λK hK=>?_);go_simp;refine(CQ.out).mono ?_;rintro e w9 ⟨rfl,rfl⟩;refine⟨aB.refl _,hK _ _ ?_⟩;clear hK K;iterate 2 (refine aK rfl (λK hK=>?_);go_simp;refine hK _ ?_;clear hK K)
    refine bT ?_;go_wp2
    go_ret2;exact⟨pb,rfl,HV8.out,iz⟩
   ·have hRi:((R:Int)==0)=false:=by simp;omega
    have hRn:((R:Int) != 0)=true:=by simp;omega
    have hq0:0<q:=by have:=HQ.out;have:=HR.out;omega
    obtain⟨Q1,qu⟩:=exq (q-1);obtain⟨bW,oW,rfl,pe⟩:=at1 (f:=λn:Nat=>Value.int .u64 n) HATW.out (aH (k:=0) (by rw[eG];have:=HQ.out;have:=HNL.out;omega));have fg:=pe Q1 _ (lB (by have:=HQ.out;have:=HNL.out;omega))
    have zz:kD l Q1/2^R=0:=by
     have h:=rF0 (l:=l) (q:=Q1) (by have:=HQ.out;have:=HNL.out;omega) (by have:=HQ.out;have:=HNL.out;have:=HR.out;omega) (by have:=HNL.out;have:=HR.out;omega);rw[<-HNL.out,<-HR.out]at h;exact h
    obtain⟨x,hx⟩:=exq (kD l Q1);rw[<-hx]at fg zz;have fy:x<18446744073709551616:=by rw[hx];exact lN l Q1
    have hsh:(x:Int)/2^R=0:=by
     have:(x:Int)/2^R=((x/2^R:Nat):Int):=by push_cast;rfl
     rw[this,zz];rfl
    have wQ1:IntKind.i64.wrap ((q:Int)-1)=Q1:=by have:=mS (x:=Q1) (by omega);rw[<-this];congr 1;omega
    have mz:Q1<q:=by omega
    have hQi:(Q1:Int)<q:=by omega
    have agc:R<64:=by have:=HR.out;omega
    have hRm:min R 64=R:=by omega
    have z2:∀x':Ext aB w5.drew,x'.u.cell? ⟨bW,oW+Q1,none⟩=some (.int .u64 x):=aG ((aB.drew w5).cell fg);clear pe fg hx zz HATW qu hq0;go_wp2_with fail
    refine bI (nN [0,1,2,3,4,5,6,7,8,9,10,11,12,13,14,15,16,17,18,19,20,21,22,23,24,26,25,27,28,29] [25,27]) (by kernel_rfl) (λd _ _ _ _ h=>by cases d<;>exact h) ?_
    iterate 26 (refine aK rfl (λK hK=>?_);go_simp;refine hK _ ?_;clear hK K)
    clear z0 z1 z2;refine bU rfl rfl (λK hK=>?_);go_simp;refine((CE _ (aB.drew w5)).out).mono ?_;rintro e w8 ⟨v8,rfl,lw,ej⟩;refine⟨ej,hK _ _ ?_⟩;clear hK K;obtain⟨a8,c8,rfl,_,_,fo⟩:=lw.at_ bE.len;have iz:aB w w8:=HG5.out.dr.tr ej;have CQ:=Aa (jV (kZ l) (kZ l) a8 (some ⟨bb,bo,none⟩) c8 bc w8 fo (HAT.out.grows iz));rw[<-HN.out]at CQ ⊢;simp only[decide_true]at CQ;have HV8:=Aa (HV.out.grows ((aB.drew w5).tr ej));clear lw fo ej;refine bU rfl rfl (λK hK=>?_);go_simp;refine(CQ.out).mono ?_;rintro e w9 ⟨rfl,rfl⟩;refine⟨aB.refl _,hK _ _ ?_⟩;clear hK K;iterate 2 (refine aK rfl (λK hK=>?_);go_simp;refine hK _ ?_;clear hK K)
    refine bT ?_;go_wp2
    go_ret2;exact⟨pb,rfl,HV8.out,iz⟩
end
section
open Go Go.RowKit Go.Shelf
attribute [local go_sem] aM aO
theorem zA0 (n:Nat) (h:n<4294967296):∃b0 b1 b2 b3:Nat,leB 4 n=[Ah b0,Ah b1,Ah b2,Ah b3]/\b0<256/\b1<256/\b2<256/\b3<256/\n=b0+b1*256+b2*65536+b3*16777216:=by
 refine⟨n%256,n/256%256,n/65536%256,n/16777216%256,?_,by omega,by omega,by omega,by omega,by omega⟩;unfold leB;simp[Ba,List.range.loop,tO]
def nL (Ps:List (List UInt8)) (k:Nat):List UInt8:=(Ps.drop k).flatMap dM
theorem zG {Ps:List (List UInt8)} {k:Nat} {b:List UInt8} (h:Ps[k]?=some b):nL Ps k=leB 4 b.length++(b++nL Ps (k+1)):=by
 unfold nL;have hk:=(List.getElem?_eq_some_iff.1 h).1;rw[Bf hk,(List.getElem?_eq_some_iff.1 h).2,Ax,dM,Au]
theorem gO0:∀(l:List (List UInt8)),(∀b∈l,b.length<=1000000000)->(l.flatMap dM).length<=l.length*1000000004
 | [],_=>by simp
 | b::l,h=>by
  have h1:=gO0 l (by simp_all);have h2:=h b List.mem_cons_self;rw[Ax,Ab,dM,Ab,bD,Bj];omega
theorem EB.set1 {B:Nat} {w:World} {p:Addr} (h:B<=p.block) (v:Value):EB B w (w.setCell p v):=⟨Below.setCell (Below.refl _ _) h v,by simp⟩
structure hJ0 (w:World) (v:Value) (b:List UInt8):Prop where
 out:∃a c,v=.slice a b.length c/\b.length<=c/\(a=none->c=0)/\aF w a 1 (b.map aQ)
theorem hJ0.grows {w w':World} {v:Value} {b:List UInt8} (h:hJ0 w v b) (hg:aB w w'):hJ0 w' v b:=by
 obtain⟨a,c,h1,h2,h3,h4⟩:=h.out;exact⟨a,c,h1,h2,h3,h4.grows hg⟩
theorem iB0 (P0 P1 P2 P3:List UInt8) (a:Option Addr) (c:Nat) (w:World) (h0:P0.length<=1000000000) (h1:P1.length<=1000000000) (h2:P2.length<=1000000000) (h3:P3.length<=1000000000)
  (hc:(nL [P0,P1,P2,P3] 0).length<=c) (ac:aF w a 1 ((nL [P0,P1,P2,P3] 0).map aQ)) :
  Calls Tryz.prog 148 #[.slice a (nL [P0,P1,P2,P3] 0).length c] w λe w'=>∃v0 v1 v2 v3,e=.returned (.tuple #[.agg #[v0,v1,v2,v3],.bool true])/\hJ0 w' v0 P0/\hJ0 w' v1 P1/\hJ0 w' v2 P2/\hJ0 w' v3 P3/\aB w w':=by
 have ak:∀(k:Nat) (b:List UInt8),[P0,P1,P2,P3][k]?=some b->b.length<=1000000000:=λk b hb=>by
  match k,hb with
  | 0,hb =>
   obtain rfl:P0=b:=by simpa using hb
   exact h0
  | 1,hb =>
   obtain rfl:P1=b:=by simpa using hb
   exact h1
  | 2,hb =>
   obtain rfl:P2=b:=by simpa using hb
   exact h2
  | 3,hb =>
   obtain rfl:P3=b:=by simpa using hb
   exact h3
  | k+4,hb=>simp at hb
 have aq:nL [P0,P1,P2,P3] 0≠[]:=by
  rw[zG (k:=0) rfl];intro e
  have:=congrArg Bs e
  rw[Ab,bD]at this;simp at this
 obtain⟨ba,bo,rfl,_⟩:=at1 (f:=λx:UInt8=>Value.int .u8 x.toNat) ac aq;have START:Hid (hJ0 w (.slice (some ⟨ba,bo,none⟩) (nL [P0,P1,P2,P3] 0).length c) (nL [P0,P1,P2,P3] 0)):=⟨_,c,rfl,hc,(λh=>by cases h),ac⟩;have HLEN:=Aa ak;obtain⟨Ps,hPs⟩:=exq ([P0,P1,P2,P3]);rw[<-hPs]at START HLEN hc ⊢;have HPS:=Aa hPs;have HL4:Hid (Ps.length=4):=by show _=_;rw[hPs];rfl
 obtain⟨pb,dn⟩:=exq w.heap.size;obtain⟨W1,bz⟩:=exq (w.alloc (.cells #[.slice none 0 0,.slice none 0 0,.slice none 0 0,.slice none 0 0] 243));have av:aB w W1:=by rw[bz];exact aB.alloc _ _
 have bj:Hid (∃f,nA W1 pb 4 f):=by
  have h:=qE0 (m:=4) (aB.refl (w.alloc (.cells #[.slice none 0 0,.slice none 0 0,.slice none 0 0,.slice none 0 0] 243))) rfl;rw[<-bz,<-dn]at h;exact⟨_,h⟩
 have HPB:=Aa dn;clear ac ak h0 h1 h2 h3 hPs aq hc;go_enter Tryz.func148,Tryz.ntmps148
 go_wp2_with fail
 rw[<-bz,<-dn];clear bz dn;go_loopw [0,6] (λvb vi wr=>∃k:Nat,k<=4/\vi=.int .i64 k/\Hid (hJ0 w vb (nL Ps k))/\Hid (∃f,nA wr pb 4 f/\∀j b,j<k->Ps[j]?=some b->hJ0 w (f j) b)/\Hid (aB w wr)) (λ_ vi _=>4-(intOf vi).toNat)
 case atStart=>exact⟨0,by omega,rfl,START.out,by obtain⟨f,hf⟩:=bj.out;exact⟨f,hf,λj b h=>by omega⟩,av⟩
 case round =>
  clear START bj av;obtain⟨k,hk,rfl,hS,hR,hG⟩:=hrel;by_cases ae:k<4
  ·have cp:(k:Int)<4:=by omega
   obtain⟨b,hb⟩:∃b,Ps[k]?=some b:=⟨_,Ad (by rw[HL4.out];exact ae)⟩;have HB:=Aa hb;have fk:=HLEN.out k b hb;have HRS:=Aa (zG hb);obtain⟨a,c',rfl,jz,up,ac⟩:=hS.out;obtain⟨R,hRe⟩:=exq (nL Ps k);obtain⟨R2,hR2⟩:=exq (nL Ps (k+1));obtain⟨n,hn⟩:=exq b.length;rw[<-hRe]at jz ac HRS ⊢;rw[<-hR2,<-hn]at HRS;rw[<-hn]at fk;have HR2:=Aa hR2;have HN:=Aa hn;obtain⟨RL,hRL⟩:=exq R.length;have vy:RL=4+(n+R2.length):=by rw[hRL,HRS.out,Ab,Ab,bD,hn]
   have agd:RL<=4000000016:=by
    have h:=gO0 (Ps.drop k) λx hx=>by
     obtain⟨j,hj⟩:=List.mem_iff_getElem?.1 (List.mem_of_mem_drop hx);exact HLEN.out j x hj
    rw[Bi,HL4.out]at h;have h2:RL=((Ps.drop k).flatMap dM).length:=by rw[hRL,hRe];rfl
    omega
   have wRL:IntKind.i64.wrap ((RL:Int)-4)=(RL:Int)-4:=by have:=mS (x:=RL-4) (by omega);rw[Int.natCast_sub (by omega)]at this;exact this
   obtain⟨b0,b1,b2,b3,db,h0,h1,h2,h3,kq⟩:=zA0 n (by omega);obtain⟨bb,vz,rfl,bi⟩:=at1 (f:=λx:UInt8=>Value.int .u8 x.toNat) (ac.grows hG.out) (Bg (by omega));have tN:∀x:Nat,x<256->((Ah x).toNat:Int)=x:=λx hx=>by simp;omega
   have hRh:R=[Ah b0,Ah b1,Ah b2,Ah b3]++(b++R2):=by rw[HRS.out,db]
   have q0:wr.cell? ⟨bb,vz,none⟩=some (.int .u8 b0):=by have:=bi 0 (Ah b0) (by rw[hRh];rfl);rw[tN _ h0]at this;exact this
   have q1:wr.cell? ⟨bb,vz+1,none⟩=some (.int .u8 b1):=by have:=bi 1 (Ah b1) (by rw[hRh];rfl);rw[tN _ h1]at this;exact this
   have q2:wr.cell? ⟨bb,vz+2,none⟩=some (.int .u8 b2):=by have:=bi 2 (Ah b2) (by rw[hRh];rfl);rw[tN _ h2]at this;exact this
   have q3:wr.cell? ⟨bb,vz+3,none⟩=some (.int .u8 b3):=by have:=bi 3 (Ah b3) (by rw[hRh];rfl);rw[tN _ h3]at this;exact this
   have z0:∀x:Ext aB wr.drew,x.u.cell? ⟨bb,vz,none⟩=some (.int .u8 b0):=aG ((aB.drew wr).cell q0);have z1:∀x:Ext aB wr.drew,x.u.cell? ⟨bb,vz+1,none⟩=some (.int .u8 b1):=aG ((aB.drew wr).cell q1);have z2:∀x:Ext aB wr.drew,x.u.cell? ⟨bb,vz+2,none⟩=some (.int .u8 b2):=aG ((aB.drew wr).cell q2);have z3:∀x:Ext aB wr.drew,x.u.cell? ⟨bb,vz+3,none⟩=some (.int .u8 b3):=aG ((aB.drew wr).cell q3);have i0:0<RL:=by omega
   have i1:(1:Int)<RL:=by omega
   have i2:(2:Int)<RL:=by omega
   have i3:(3:Int)<RL:=by omega
   have wi:∀x:Nat,x<256->IntKind.i64.wrap (x:Int)=x:=λx hx=>by simp[Ak,Al,Ag];omega
   have w0:=wi b0 h0;have w1:=wi b1 h1;have w2:=wi b2 h2;have w3:=wi b3 h3;obtain⟨c1,c2,c3,s1,s2,m1,m2,m3,o1,o2,o3⟩:=nU0 h0 h1 h2 h3 kq;have age:¬(RL:Int)<4:=by omega
   have y8:¬(RL:Int)-4<n:=by omega
   have HGW:=Aa hG.out;have HRE:=Aa hRe;have HRL:=Aa hRL;have HLR:=Aa vy;have HAT:=Aa ac;rw[<-hRL]at jz ⊢;clear kq bi tN db hRh q0 q1 q2 q3 wi hb hRe hR2 hn hRL vy ac;go_wp2_with fail
   refine bI (bB 23 []) (by kernel_rfl) (λd _ _ _ _ h=>by cases d<;>exact h) ?_
   iterate 23 (refine aK rfl (λK hK=>?_);go_simp;refine hK _ ?_;clear hK K)
   refine bT ?_;clear z0 z1 z2 z3 i0 i1 i2 i3 w0 w1 w2 w3 m1 m2 m3 o1 o2 o3 h0 h1 h2 h3;obtain⟨T,hT⟩:=exq (4+n);have z8:T<=RL:=by have:=HLR.out;omega
   have hT4:4<=T:=by omega
   have wT:IntKind.i64.wrap (4+(n:Int))=T:=by have:=mS (x:=T) (by omega);rw[<-this];congr 1;omega
   have hTc:(T:Int)<=c':=by omega
   have agf:(T:Int)<=RL:=by omega
   have h4T:(4:Int)<=T:=by omega
   have hRc:(RL:Int)<=c':=by omega
   have hTn:T-4=n:=by omega
   have hRT:RL-T=R2.length:=by have:=HLR.out;omega
   obtain⟨a1,gd,z9,jc⟩:=tZ (l:=4) (h:=T) HAT.out up hT4 (by rw[<-HRL.out];exact z8) (by rw[<-HRL.out];exact jz);obtain⟨a2,fh,ha2,jd⟩:=tZ (l:=T) (h:=RL) HAT.out up z8 (by rw[HRL.out];exact As _) (by rw[<-HRL.out];exact jz);rw[Ai,jF]at gd fh
   have e1:(R.take T).drop 4=b:=by
    rw[HRS.out,List.take_append,bD,Av (by rw[bD];omega),show T-4=b.length by rw[<-HN.out];exact hTn,List.take_left,Ci (bD 4 n)]
   have e2:(R.take RL).drop T=R2:=by
    rw[HRL.out,Ay,HRS.out,<-Au,Ci (by rw[Ab,bD,<-HN.out,hT])]
   rw[e1]at z9;rw[e2]at ha2;have HA1:=Aa z9;have HA2:=Aa ha2;obtain⟨f,bj,f8⟩:=hR.out;have hck:=bj.cell k ae;have og:=bj.froz k;have HROW:=Aa bj;have HSET:=Aa f8;clear e1 e2 z9 ha2 hT bj f8;go_wp2_with fail
   refine mR (EB w.heap.size) (bB 12 [10]) (EB.refl w.heap.size) (EB.trans w.heap.size) (by kernel_rfl) (by kernel_rfl) (λd _ _ _ _ h=>by cases d<;>exact h) ?_
   iterate 10 (refine aK rfl (λK hK=>?_);go_simp;refine hK _ ?_;clear hK K)
   have agh:wr.drew.frozen? ⟨pb,k,none⟩=false:=og;have agi:wr.drew.cell? ⟨pb,k,none⟩=some (f k):=(aB.drew wr).cell hck;refine bU rfl rfl (λK hK=>?_);go_simp;refine⟨EB.set1 (show w.heap.size<=pb by have:=HPB.out;omega) _,hK _ _ ?_⟩
   clear hK K;iterate 1 (refine aK rfl (λK hK=>?_);go_simp;refine hK _ ?_;clear hK K)
   refine bT ?_;go_wp2_with fail
   go_roundw
   case rel =>
    refine⟨k+1,ae,by go_num,⟨a2,c'-T,by rw[<-HR2.out],by rw[<-HR2.out];omega,jd,by rw[<-HR2.out];exact HA2.out⟩,⟨λj=>if j=k then .slice a1 n (c'-4) else f j,((HROW.out.set ae _).grows (aB.drew _)).grows (aB.drew _),λj b' hj hb'=>?_⟩,((hG.out.set (show w.heap.size<=pb by have:=HPB.out;omega) _).dr).dr⟩
    by_cases jb:j=k
    ·subst jb
     obtain rfl:b=b':=by have:=HB.out;rw[hb']at this;exact(Option.some.inj this).symm
     simp only[if_true];exact⟨a1,c'-4,by rw[<-HN.out],by rw[<-HN.out];omega,jc,HA1.out⟩
    ·simp only[if_neg jb]
     exact HSET.out j b' (by omega) hb'
   case measure=>simp[intOf];omega
  ·obtain rfl:k=4:=by omega
   obtain⟨f,bj,f8⟩:=hR.out;have hP:=HPS.out;have s0:=f8 0 P0 (by omega) (by rw[hP];rfl);have s1:=f8 1 P1 (by omega) (by rw[hP];rfl);have s2:=f8 2 P2 (by omega) (by rw[hP];rfl);have s3:=f8 3 P3 (by omega) (by rw[hP];rfl);have c0:=bj.cell 0 (by omega);have c1:=bj.cell 1 (by omega);have c2:=bj.cell 2 (by omega);have c3:=bj.cell 3 (by omega);have f0:=bj.froz 0;have f1:=bj.froz 1;have f2:=bj.froz 2;have f3:=bj.froz 3;obtain⟨a0,d0,e0,x0,y0,t0⟩:=s0.out;obtain⟨a1,d1,e1,x1,y1,t1⟩:=s1.out;obtain⟨a2,d2,e2,x2,y2,t2⟩:=s2.out;obtain⟨a3,d3,e3,x3,y3,t3⟩:=s3.out;rw[e0]at c0;rw[e1]at c1;rw[e2]at c2;rw[e3]at c3;have hr4:nL Ps 4=[]:=by rw[hP];rfl
   have hS4:=hS.out;rw[hr4]at hS4;obtain⟨a,c',rfl,_,_,_⟩:=hS4.out;have H0:Hid (hJ0 w (.slice a0 P0.length d0) P0):=⟨a0,d0,rfl,x0,y0,t0⟩;have H1:Hid (hJ0 w (.slice a1 P1.length d1) P1):=⟨a1,d1,rfl,x1,y1,t1⟩;have H2:Hid (hJ0 w (.slice a2 P2.length d2) P2):=⟨a2,d2,rfl,x2,y2,t2⟩;have H3:Hid (hJ0 w (.slice a3 P3.length d3) P3):=⟨a3,d3,rfl,x3,y3,t3⟩;clear hR bj f8 hP s0 s1 s2 s3 e0 e1 e2 e3 x0 x1 x2 x3 y0 y1 y2 y3 t0 t1 t2 t3 hr4 hS hS4;have hgs:∀ {u:World} (j:Nat) (v:Value),aB w u->aB w (u.setCell ⟨pb,j,none⟩ v):=λj v h=>h.set (show w.heap.size<=pb by have:=HPB.out;omega) v
   have hgf:=hgs 3 (.slice a3 P3.length d3) (hgs 2 (.slice a2 P2.length d2) (hgs 1 (.slice a1 P1.length d1) (hgs 0 (.slice a0 P0.length d0) hG.out)));have ne:∀i j:Nat,i≠j->(⟨pb,i,none⟩:Addr)≠⟨pb,j,none⟩:=λi j h e=>h (congrArg Addr.off e);obtain⟨W4,hW4⟩:=exq ((((wr.setCell ⟨pb,0,none⟩ (.slice a0 P0.length d0)).setCell ⟨pb,1,none⟩ (.slice a1 P1.length d1)).setCell ⟨pb,2,none⟩ (.slice a2 P2.length d2)).setCell ⟨pb,3,none⟩ (.slice a3 P3.length d3))
   have HK:Hid (W4.cell? ⟨pb,0,none⟩=some (.slice a0 P0.length d0)/\W4.cell? ⟨pb,1,none⟩=some (.slice a1 P1.length d1)/\W4.cell? ⟨pb,2,none⟩=some (.slice a2 P2.length d2)/\W4.cell? ⟨pb,3,none⟩=some (.slice a3 P3.length d3)):=by
    have ot:∀ {u:World} {i j:Nat} {v x:Value},i≠j->u.cell? ⟨pb,i,none⟩=some x->(u.setCell ⟨pb,j,none⟩ v).cell? ⟨pb,i,none⟩=some x:=λ{u i j v x} h hc=>(Aq u _ _ _ (λe=>ne i j h (by first|exact e|exact e.symm))).trans hc
    have sm:∀ {u:World} {i:Nat} {v x:Value},u.cell? ⟨pb,i,none⟩=some x->(u.setCell ⟨pb,i,none⟩ v).cell? ⟨pb,i,none⟩=some v:=λ{u i v x} hc=>Bh u _ _ hc;rw[hW4];exact⟨ot (by decide) (ot (by decide) (ot (by decide) (sm c0))),ot (by decide) (ot (by decide) (sm (ot (by decide) c1))),ot (by decide) (sm (ot (by decide) (ot (by decide) c2))),sm (ot (by decide) (ot (by decide) (ot (by decide) c3)))⟩
   rw[<-hW4]at hgf;go_wp2_with fail
   rw[<-hW4];obtain⟨k0,k1,k2,k3⟩:=HK.out;exact bodyPost_ret (v:=.tuple #[.agg #[.slice a0 P0.length d0,.slice a1 P1.length d1,.slice a2 P2.length d2,.slice a3 P3.length d3],.bool true]) (by simp[results,Tryz.results148,go_sem,k0,k1,k2,k3]) rfl ⟨_,_,_,_,rfl,H0.out.grows hgf,H1.out.grows hgf,H2.out.grows hgf,H3.out.grows hgf,hgf⟩
end
end Go.Proofs.YthgklnohcmaopaaGreatDoor
