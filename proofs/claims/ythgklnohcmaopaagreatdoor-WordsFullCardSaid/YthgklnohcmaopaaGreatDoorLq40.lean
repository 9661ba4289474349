/- The texts BvE LoC TrE Txt LbP TriQ TriR BvD Tri1 LoP GroP, one behind the other. -/
import Derived.Test.YthgklnohcmaopaaGreatDoorLq33
import Derived.Test.YthgklnohcmaopaaGreatDoorLq39
import Derived.Test.YthgklnohcmaopaaGreatDoorLq25
import Derived.Test.YthgklnohcmaopaaGreatDoorLq34
import Derived.Test.YthgklnohcmaopaaGreatDoorLq6
import Derived.Test.YthgklnohcmaopaaGreatDoorLq4
import Derived.Test.YthgklnohcmaopaaGreatDoorLq22
import Derived.Test.YthgklnohcmaopaaGreatDoorLq8
import Derived.Test.YthgklnohcmaopaaGreatDoorLq23
open Go.Lib renaming hid → Aa
open List renaming length_append → Ab,getElem?_eq_getElem → Ac,getElem?_map → Ad,length_map → Af,getElem?_eq_none → Ai,mem_of_getElem? → Aj,getElem?_range → An,getD_eq_getElem?_getD → Ap,append_assoc → Ar,length_take → As,take_of_length_le → At,take_append_drop → Au,ext_getElem? → Av,take_length → Aw,flatMap_cons → Az,range → Ba,length_drop → Bb,ne_nil_of_mem → Bf,replicate → Bg,drop_eq_getElem_cons → Bk,ne_nil_of_length_pos → Bn,length_cons → Bp,getElem?_replicate → Bq,getElem?_set_self → Bs,map_append → Bu,length → By,getElem?_set_ne → Bz,flatMap_append → Ca,map_congr_left → Cb,getElem?_drop → Cc,filter_append → Cf,getElem?_take → Cg,take_add_one → Ci,cons_append → Ck,nil_append → Cn,append_nil → Co,length_set → Cp,range_succ → Cq,drop_left' → Ct
open Go.IntKind renaming signed → Ae,wrap → Ag,bits → Ah
open Nat renaming le_refl → Ak,zero_le → Aq,lt_or_ge → Bd,lt_of_lt_of_le → Be,le_of_lt → Br,eq_zero_or_pos → Ce,le_trans → Ch,mod_eq_of_lt → Cl,lt_succ_self → Cm,lt_trans → Cw
open UInt8 renaming ofNat → Al
open Option renaming map_some → Am,getD_some → Bc
open Go.Op renaming bytesLess → Ao
open Go.World renaming cell?_setCell_other → Ax,block_lt_of_cell? → Ay,cell?_setCell_same → Bo,frozen?_of_block → Bt,frozen?_setCell → Bw,cell? → Cx
open Int renaming tdiv_eq_ediv_of_nonneg → Bh,tmod_eq_emod_of_nonneg → Bi,natCast_mul → Bv,natCast_add → Cr
open Classical renaming byContradiction → Bj
open Bool renaming false_eq_true → Cd,and_eq_true → Cj,false_or → Cu,true_and → Cv
set_option maxHeartbeats 8000000
namespace Go.Proofs.YthgklnohcmaopaaGreatDoor
set_option maxRecDepth 100000
section
open Go Go.RowKit
attribute [local go_sem] aO aM
theorem bZ1 {l:List Bool} {k x:Nat} (h:(uJ l)[k]?=some x):x<=l.length+512:=by
 unfold uJ at h;rw[Ad]at h
 cases hg:(Ba ((l.length+511)/512))[k]? with
 | none=>rw[hg]at h;cases h
 | some g =>
  rw[hg]at h;have h1:eC l (512*g)=x:=Option.some.inj h;obtain⟨h2,h3⟩:=List.getElem?_eq_some_iff.1 hg;rw[List.length_range]at h2;rw[List.getElem_range]at h3
  have:=oB l (512*g)
  omega
theorem gF0 (l:List Bool) (vb:Nat) (w:World) (hl:l.length<=1048576) (ac:kL w vb l) :
  Calls Tryz.prog 131 #[.pointer (some ⟨vb,0,none⟩)] w λe w'=>∃v,e=.returned v/\aX w' w.heap.size 5 1 aY v (oT l)/\aB w w':=by
 have c0:=ac.c0;obtain⟨vW,c1,kh⟩:=ac.c1;obtain⟨aW,cW,rfl,_,_,gl⟩:=kh.at_ (enc:=kI) (λ_=>rfl);obtain⟨vC,c2,je⟩:=ac.c2;obtain⟨aC,cC,rfl,_,_,rv⟩:=je.at_ (enc:=lK) (λ_=>rfl);have ae9:∀q:Addr,aW=some q->q.block<w.heap.size:=λq hq=>gX kh q.block (by rw[hq];rfl);have afa:vb<w.heap.size:=Ay w _ c0;have hq:=gI l;have hCl:(uJ l).length=(l.length+511)/512:=by simp[uJ]
 obtain⟨Cs,hCs⟩:=exq (uJ l);rw[<-hCs]at c2 rv hCl
 have nt:∀k x,Cs[k]?=some x->x<=1049088:=λk x hx=>by
  rw[hCs]at hx
  have:=bZ1 hx
  omega
 obtain⟨Ws,hWs⟩:=exq (mQ l);rw[<-hWs]at gl hq c1;have xx:Ws.length<=16384:=by omega
 have fk:∀n∈Ws,n<18446744073709551616:=λn hn=>by
  rw[hWs]at hn;unfold mQ at hn;obtain⟨k,_,rfl⟩:=List.mem_map.1 hn;exact pM l k
 have HE:Hid (oT l=leB 4 l.length++lG 8 Ws++lG 4 Cs):=by show _=_;rw[hWs,hCs];rfl
 have HW64:=Aa fk;have HCB:=Aa nt;have HATC:=Aa rv;have HATW:=Aa gl;have mc:Cs.length<=2049:=by omega
 have wn:IntKind.u64.wrap (l.length:Int)=l.length:=by simp[Ag,Ah,Ae];omega
 have z0:∀y:Ext (EB w.heap.size) w.drew,y.u.cell? ⟨vb,0,none⟩=some (.int .i64 l.length):=cO afa ((aB.drew w).cell c0);have z1:∀y:Ext (EB w.heap.size) w.drew,y.u.cell? ⟨vb,1,none⟩=some (.slice aW Ws.length cW):=cO afa ((aB.drew w).cell c1);obtain⟨n,aj⟩:=exq l.length;rw[<-aj]at HE wn z0 hl;have aei:=Aa ae9;clear ac c0 kh je rv gl hq ae9 hCs hCl nt hWs fk aj c1;go_enter Tryz.func131,Tryz.ntmps131
 go_wp2_with fail
 refine lV (EB w.heap.size) (oK [0,1,2,3,4,7,8,9,10,5,6,11,12] [5,6,11,12]) (EB.refl w.heap.size) (EB.trans w.heap.size) (by kernel_rfl) (by kernel_rfl) (λd _ _ _ _ h=>by cases d<;>exact h) ?_
 iterate 9 (refine aH rfl (λK hK=>?_);go_simp;refine hK _ ?_;clear hK K)
 clear z0 z1;refine bH rfl rfl (λK hK=>?_);go_simp;refine⟨EB.of (aB.alloc _ _) (Ak _),hK _ _ ?_⟩;clear hK K;have yx:=xP (enc:=kI) (w:=w) (t:=213) (fz:=(0,0)) (cs:=#[.int .u64 n]) (λ_=>rfl) [n] rfl;obtain⟨W1,bi⟩:=exq ((w.alloc (.cells #[.int .u64 n] 213)).drew);have an:aB w W1:=by rw[bi];exact(aB.alloc _ _).dr
 have dw:w.heap.size<W1.heap.size:=by rw[bi];simp
 have aau:aG W1 (some ⟨w.heap.size,0,none⟩) 1 ([n].map kI):=by rw[bi];exact yx.grows (aB.drew _)
 rw[<-bi];clear bi yx;refine bH rfl rfl (λK hK=>?_);go_simp;refine(fO0 (.slice none 0 0) [] 4 [n] (some ⟨w.heap.size,0,none⟩) 1 W1 W1 (aB.refl _) (by decide) (by simp) (by simp) (λm hm=>by obtain rfl:=List.mem_singleton.1 hm;omega) (aX.nil _ _ _ _ _) aau (λq _ h=>by cases h) (λq hq=>by cases hq;exact dw)).mono ?_;rintro e w2 ⟨v2,rfl,ai,af,ahz⟩;rw[Cn]at ai;refine⟨EB.of af (Br dw),hK _ _ ?_⟩;clear hK K;have hp4:(lG 4 [n]).length=4:=by rw[tE];rfl
 have afb:∀q:Addr,aW=some q->q.block<W1.heap.size:=λq hq=>Cw (aei.out q hq) dw;refine bH rfl rfl (λK hK=>?_);go_simp;refine(fO0 v2 (lG 4 [n]) 8 Ws aW cW W1 _ af (by decide) (by omega) (by omega) HW64.out ai (HATW.out.grows (an.tr af)) (kI0 ai afb) (λr hr=>Be (afb r hr) af.size)).mono ?_;rintro e w3 ⟨v3,rfl,au,ax,yy⟩;refine⟨EB.both (an.tr af) (an.tr ax) yy,hK _ _ ?_⟩;clear hK K;refine bH rfl rfl (λK hK=>?_);go_simp;refine⟨EB.refl _ _,hK _ _ ?_⟩;clear hK K;refine cB ?_;have ke:=an.tr ax;obtain⟨P3,hP3⟩:=exq (lG 4 [n]++lG 8 Ws);rw[<-hP3]at au;have hp3:P3.length<=4+8*16384:=by rw[hP3,Ab,hp4,tE];omega
 have HE3:Hid (oT l=P3++lG 4 Cs):=by show _=_;rw[HE.out,hP3];unfold lG;simp
 replace au:=au.base (base':=w.heap.size) an.size;have c2r:=ke.cell c2;clear hP3 ai af ax an aau hp4 HE c2;go_wp2_with fail
 go_loopw [3,25] (λout i wr=>∃(k:Nat) (bk:List UInt8),k<=Cs.length/\i=.int .i64 k/\Hid (bk=P3++lG 4 (Cs.take k))/\aX wr w.heap.size 5 1 aY out bk/\aB w wr) (λ_ i _=>Cs.length-(intOf i).toNat)
 case atStart=>exact⟨0,P3,Aq _,rfl,(by show _=_;simp[lG]),au,ke⟩
 case round =>
  obtain⟨k,bk,hk,rfl,b9,aa,hg⟩:=hrel
  have pm:bk.length<=4+8*16384+4*k:=by
   rw[b9.out,Ab,tE,As];omega
  by_cases ae:k<Cs.length
  ·obtain⟨x,hx⟩:∃x,Cs[k]?=some x:=⟨_,Ac ae⟩
   obtain⟨b,o,rfl,hc⟩:=at1 HATC.out (aK ae);have gn:=hg.cell (hc k x hx);have oh:=HCB.out k x hx;have wx:IntKind.u64.wrap (x:Int)=x:=by simp[Ag,Ah,Ae];omega
   have HN:Hid (bk++lG 4 [x]=P3++lG 4 (Cs.take (k+1))):=by
    show _=_
    rw[bM hx,dJ0,b9.out,Ar];simp[lG]
   have cn:(k:Int)<Cs.length:=by omega
   have yx:=xP (enc:=kI) (w:=wr) (t:=213) (fz:=(0,0)) (cs:=#[.int .u64 x]) (λ_=>rfl) [x] rfl;have CP:=fO0 _ bk 4 [x] (some ⟨wr.heap.size,0,none⟩) 1 w (wr.alloc (.cells #[.int .u64 x] 213)) (hg.al _) (by decide) (by omega) (by simp) (λm hm=>by obtain rfl:=List.mem_singleton.1 hm;omega) (aa.grows (aB.alloc _ _)) yx (zH0 aa (λr hr=>by cases hr;exact Ak _)) (λr hr=>by cases hr;simp);clear hc hx b9 yx;go_wp2_with fail
   refine CP.mono ?_;rintro e w5 ⟨v5,rfl,ar,bv,_⟩;go_wp2_with fail
   go_roundw
   case rel=>exact⟨k+1,_,ae,by go_num,HN.out,ar,bv⟩
   case measure=>simp[intOf];omega
  ·have cn:¬(k:Int)<Cs.length:=by omega
   have HF:Hid (bk=oT l):=by
    show _=_
    rw[b9.out,At (by omega),HE3.out]
   clear b9;go_wp2_with fail
   go_ret;exact⟨_,rfl,by rw[<-HF.out];exact aa,hg⟩
def mP0 (L:List (List UInt8)):Nat:=if 20000<L.length then 2 else if pJ L=true then 1 else 0
theorem qK0 (B:List ByteArray) (a:Option Addr) (c:Nat) (w:World) (hB:B.length<=1099511627776) (de:∀s∈B,s.size<=1099511627776) (ac:aG w a 1 (B.map stC)) :
  Calls Tryz.prog 117 #[.slice a B.length c] w λe w'=>e=.returned (.int .i64 (mP0 (bls B)))/\w=w':=by
 have HAT:=Aa ac;have HSZ:=Aa de;clear ac de;by_cases cu:20000<B.length
 ·have lj:(20000:Int)<B.length:=by omega
  have HF:Hid (mP0 (bls B)=2):=by show _=_;unfold mP0;rw[dT,if_pos cu]
  go_enter Tryz.func117,Tryz.ntmps117
  go_wp2_with fail
  go_ret;exact⟨by rw[HF.out];rfl,rfl⟩
 have lj:¬(20000:Int)<B.length:=by omega
 have HF:Hid (mP0 (bls B)=if pJ (bls B)=true then 1 else 0):=by show _=_;unfold mP0;rw[dT,if_neg cu]
 have HIT:Hid (∀k,k<B.length->cC0 (bls B) k=true->mP0 (bls B)=1):=λk hk hb=>by rw[HF.out,if_pos (uY0 (by rw[dT];exact hk) hb)]
 go_enter Tryz.func117,Tryz.ntmps117
 go_wp2_with fail
 go_loop [10] (λi=>∃k:Nat,k<=B.length/\i=.int .i64 k/\Hid (∀j,j<k->cC0 (bls B) j=false)) (λi=>B.length-(intOf i).toNat)
 case atStart=>exact⟨0,Aq _,rfl,λj hj=>by omega⟩
 case round =>
  obtain⟨k,hk,rfl,ct⟩:=hrel;by_cases ae:k<B.length
  ·obtain⟨s,hx⟩:∃x,B[k]?=some x:=⟨_,Ac ae⟩
   obtain⟨b,o,rfl,hc⟩:=at1 HAT.out (aK ae);have hcw:=hc k s hx;have hn:=eV hx;have ajr:=HSZ.out s (Aj hx);have cn:(k:Int)<B.length:=by omega
   have HBD:Hid (cC0 (bls B) k=(decide (s.size<1)||decide (256<s.size)||(decide (0<k) && !Ao (nth (bls B) (k-1)) (bl s)))):=by show _=_;unfold cC0;rw[hn,dO]
   have abu:s.toList=[]↔s.size<1:=by
    rw[<-nS0,<-dO];constructor
    ·intro h;rw[h];decide
    ·intro h;exact List.eq_nil_of_length_eq_zero (by omega)
   by_cases h1:s.size<1
   ·have HB:=Aa (HIT.out k ae (by rw[HBD.out];simp[h1]))
    have he1:s.toList.isEmpty=true:=by rw[abu.2 h1];rfl
    clear hc hx hn h1 abu;go_wp2_with fail
    go_ret;exact⟨by rw[HB.out];rfl,rfl⟩
   ·have ai8:s.toList.isEmpty=false:=by
     cases hh:s.toList.isEmpty
     ·rfl
     ·exact absurd (abu.1 (List.isEmpty_iff.1 hh)) h1
    clear abu;by_cases h2:256<s.size
    ·have h2i:(256:Int)<s.size:=by omega
     have HB:=Aa (HIT.out k ae (by rw[HBD.out];simp[h2]));clear hc hx hn;go_wp2_with fail
     go_ret;exact⟨by rw[HB.out];rfl,rfl⟩
    ·have h2i:¬(256:Int)<s.size:=by omega
     by_cases h0:k=0
     ·have h0i:¬0<k:=by omega
      have HN:Hid (∀j,j<k+1->cC0 (bls B) j=false):=λj hj=>by
       have ev:decide (s.size<1)=false:=decide_eq_false h1;have ij:decide (256<s.size)=false:=decide_eq_false h2;have oy:decide (0<k)=false:=decide_eq_false h0i;rw[show j=k by omega,HBD.out,ev,ij,oy];rfl
      clear hc hx hn h0;go_wp2_with fail
      go_round
      case rel=>exact⟨k+1,ae,by go_num,HN.out⟩
      case measure=>simp[intOf];omega
     ·have h0i:0<k:=by omega
      obtain⟨t,ie⟩:∃x,B[k-1]?=some x:=⟨_,Ac (by omega)⟩;have ajs:=hc (k-1) t ie;have hk1:(k:Int)-1=((k-1:Nat):Int):=by omega
      have jp:((k-1:Nat):Int)<B.length:=by omega
      have il:IntKind.i64.wrap ((k-1:Nat):Int)=((k-1:Nat):Int):=by simp[Ag,Ah,Ae];omega
      have hq:=HBD.out;rw[eV ie,nS0,nS0]at hq;have ev:decide (s.size<1)=false:=decide_eq_false h1;have ij:decide (256<s.size)=false:=decide_eq_false h2;have oy:decide (0<k)=true:=decide_eq_true h0i;rw[ev,ij,oy]at hq;simp only[Cu,Cv]at hq;have HQ:=Aa hq;clear hc hx hn h0 ie HBD hq ev ij oy;by_cases hl:Ao t.toList s.toList=true
      ·have l1:Ao s.toList t.toList=false:=by
        have:=pI hl;simpa using this
       have l2:(s.toList==t.toList)=false:=by
        rw[beq_eq_false_iff_ne];intro h;rw[h,bytesLess_irrefl]at hl;cases hl
       have HN:Hid (∀j,j<k+1->cC0 (bls B) j=false):=λj hj=>by
        rcases Bd j k with h|h
        ·exact ct.out j h
        ·rw[show j=k by omega,HQ.out,hl];rfl
       clear hl ct;go_wp2_with fail
       go_round
       case rel=>exact⟨k+1,ae,by go_num,HN.out⟩
       case measure=>simp[intOf];omega
      ·have ky:Ao t.toList s.toList=false:=by simpa using hl
       have HB:=Aa (HIT.out k ae (by rw[HQ.out,ky];rfl));by_cases he:s.toList=t.toList
       ·have l1:Ao s.toList t.toList=false:=by rw[he,bytesLess_irrefl]
        have l2:(s.toList==t.toList)=true:=by rw[he];simp
        clear hl ky he ct;go_wp2_with fail
        go_ret;exact⟨by rw[HB.out];rfl,rfl⟩
       ·have l1:Ao s.toList t.toList=true:=dW ky (λh=>he h.symm)
        clear hl ky he ct;go_wp2_with fail
        go_ret;exact⟨by rw[HB.out];rfl,rfl⟩
  ·have cn:¬(k:Int)<B.length:=by omega
   have HB:Hid (mP0 (bls B)=0):=by
    show _=_
    rw[HF.out,aI0 (λi hi=>ct.out i (by rw[dT]at hi;omega))];rfl
   clear ct;go_wp2_with fail
   go_ret;exact⟨by rw[HB.out];rfl,rfl⟩
def jY (L:List (List UInt8)):List Nat:=(Ba L.length).map λj=>(nodesA L).findIdx λx=>jB L x&&x.i==j
structure fB (w:World) (tb:Nat) (L:List (List UInt8)):Prop where
 s:∃sb,w.cell? ⟨tb,0,none⟩=some (.pointer (some ⟨sb,0,none⟩))/\kL w sb (shapeL L (nodesA L))
 i:∃ib,w.cell? ⟨tb,1,none⟩=some (.pointer (some ⟨ib,0,none⟩))/\kL w ib (isL L (nodesA L))
 l:∃vL,w.cell? ⟨tb,2,none⟩=some vL/\aX w (tb-2) 5 1 aY vL (labelsL L (nodesA L))
 d:∃pb,w.cell? ⟨tb,3,none⟩=some (.pointer (some ⟨pb,0,none⟩))/\nG w pb (idsL L (nodesA L))
 n:∃vN,w.cell? ⟨tb,4,none⟩=some vN/\aX w 0 3 1 lK vN (jY L)
theorem fB.grows {w w':World} {tb:Nat} {L:List (List UInt8)} (h:fB w tb L) (hg:aB w w'):fB w' tb L:=by
 obtain⟨sb,s1,s2⟩:=h.s;obtain⟨ib,i1,i2⟩:=h.i;obtain⟨vL,l1,l2⟩:=h.l;obtain⟨pb,d1,d2⟩:=h.d;obtain⟨vN,n1,n2⟩:=h.n;exact⟨⟨sb,hg.cell s1,s2.grows hg⟩,⟨ib,hg.cell i1,i2.grows hg⟩,⟨vL,hg.cell l1,l2.grows hg⟩,⟨pb,hg.cell d1,d2.grows hg⟩,⟨vN,hg.cell n1,n2.grows hg⟩⟩
theorem OkL.sizes {L:List (List UInt8)} (ag:OkL L) (hl:L.length<=20000) (hc:eA L<=524287) :
  (shapeL L (nodesA L)).length<=1048576/\(isL L (nodesA L)).length<=524287/\(labelsL L (nodesA L)).length<=524287/\(idsL L (nodesA L)).length<=524287/\∀n∈idsL L (nodesA L),n<=20000:=by
 have hN:=fH ag.asc ag.len;refine⟨?_,?_,?_,?_,?_⟩
 ·have h:=eY L (nodesA L).length (Ak _)
  rw[Aw,ag.off_all]at h;omega
 ·unfold isL;rw[Af];omega
 ·rw[ag.labels,Af,Bb];omega
 ·unfold idsL
  rw[Af]
  have:=List.length_filter_le (jB L) (nodesA L)
  omega
 ·intro n hn
  unfold idsL at hn;obtain⟨x,hx,rfl⟩:=List.mem_map.1 hn;have hg:=mU ag.asc (List.mem_filter.1 hx).1
  have:=hg.le
  omega
theorem iJ0 (L:List (List UInt8)) (tb:Nat) (w:World) (ag:OkL L) (hl:L.length<=20000) (hc:eA L<=524287) (ac:fB w tb L) :
  Calls Tryz.prog 66 #[.pointer (some ⟨tb,0,none⟩)] w λe w'=>∃v,e=.returned v/\aX w' w.heap.size 5 1 aY v (loudE L)/\aB w w':=by
 obtain⟨z1,z2,z3,z4,z5⟩:=ag.sizes hl hc;obtain⟨sb,s1,s2⟩:=ac.s;obtain⟨ib,i1,i2⟩:=ac.i;obtain⟨vL,l1,l2⟩:=ac.l;obtain⟨pb,d1,d2⟩:=ac.d;have HE:Hid (loudE L=fC (oT (shapeL L (nodesA L)))++fC (labelsL L (nodesA L))++fC (oT (isL L (nodesA L)))++fC (packE (idsL L (nodesA L)))):=rfl;generalize shapeL L (nodesA L)=S at *;generalize isL L (nodesA L)=I at *;generalize labelsL L (nodesA L)=Lb at *;generalize idsL L (nodesA L)=D at *;have me:∀n∈D,n<18446744073709551616:=λn hn=>by have:=z5 n hn;omega
 have uw:=nX S;have afc:=nX I;have nc:=aY0 D;have hwd:oV D<=64:=oE.2 me;have ed:D.length*oV D<=524287*64:=Nat.mul_le_mul z4 hwd;obtain⟨aL,cL,rfl,_,_,j9⟩:=l2.at_ bJ.len;have hnL:=cM l2;have ah0:∀q:Addr,aL=some q->q.block<w.heap.size:=λq hq=>gX l2 q.block (by rw[hq];rfl);obtain⟨b1,eo⟩:=exq (oT S);obtain⟨b3,iv⟩:=exq (oT I);obtain⟨b4,yz⟩:=exq (packE D);have CS:=Aa (gF0 S sb w z1 s2);have CI:=λW (hg:aB w W)=>Aa (gF0 I ib W (by omega) (i2.grows hg));have CD:=λW (hg:aB w W)=>Aa (gE0 D pb W (by omega) me (d2.grows hg));rw[<-eo]at CS uw;rw[<-iv]at CI afc;rw[<-yz]at CD nc;have HB1:=Aa eo;have HB3:=Aa iv;have HB4:=Aa yz;have HATL:=Aa j9;have ajt:b1.length<=100000000:=by omega
 have aju:b3.length<=100000000:=by omega
 have ajv:b4.length<=100000000:=by omega
 clear ac ag hc me uw afc nc hwd ed j9 eo iv yz s2 i2 l2 d2 z5;go_enter Tryz.func66,Tryz.ntmps66
 go_wp2_with fail
 refine CS.out.mono ?_;rintro e w2 ⟨v2,rfl,ai,af⟩;obtain⟨a2,c2,rfl,_,_,jl⟩:=ai.at_ bJ.len;have od:=cM ai;clear ai;go_wp2_with fail
 refine(yP (.slice none 0 0) [] b1 a2 c2 w2 w2 (aB.refl _) (by simp) (by omega) (aX.nil _ _ _ _ _) jl od (λq _ h=>by cases h)).mono ?_;rintro e w3 ⟨v3,rfl,au,ax⟩;rw[Cn]at au;have hp1:(fC b1).length<=100000004:=by unfold fC;rw[Ab,bN];omega
 have gk:=af.tr ax;have l1a:=gk.cell l1;go_wp2_with fail
 refine(yP v3 (fC b1) Lb aL cL w2 w3 ax (by omega) (by omega) au (HATL.out.grows gk) hnL (kI0 au (λq hq=>Be (ah0 q hq) af.size))).mono ?_;rintro e w4 ⟨v4,rfl,du,ch⟩;obtain⟨P2,hP2⟩:=exq (fC b1++fC Lb);rw[<-hP2]at du;have hp2:P2.length<=200000008:=by rw[hP2,Ab];unfold fC at *;rw[Ab,bN] at *;rw[Ab,bN];omega
 have HP2:=Aa hP2;clear hP2 au gk jl od;have jt:=af.tr ch;have i1a:=jt.cell i1;go_wp2_with fail
 refine(CI w4 jt).out.mono ?_;rintro e w5 ⟨v5,rfl,ar,bv⟩;obtain⟨a5,c5,rfl,_,_,pu⟩:=ar.at_ bJ.len;have hn5:=cM ar;go_wp2_with fail
 refine(yP v4 P2 b3 a5 c5 w2 w5 (ch.tr bv) (by omega) (by omega) (du.grows bv) pu hn5 (λq hq hv=>by have h1:=gX du _ hv.symm;have h2:=aZ ar q.block (by rw[hq];rfl);omega)).mono ?_;rintro e w6 ⟨v6,rfl,y8,dl⟩;obtain⟨P3,hP3⟩:=exq (P2++fC b3);rw[<-hP3]at y8;have hp3:P3.length<=400000012:=by rw[hP3,Ab];unfold fC;rw[Ab,bN];omega
 have HP3:=Aa hP3;clear hP3 du ar jt pu hn5 bv;have hgC:=af.tr dl;have d1a:=hgC.cell d1;go_wp2_with fail
 refine(CD w6 hgC).out.mono ?_;rintro e w7 ⟨v7,rfl,fx,cw⟩;obtain⟨a7,c7,rfl,_,_,ah1⟩:=fx.at_ bJ.len;have hn7:=cM fx;go_wp2_with fail
 refine(yP v6 P3 b4 a7 c7 w2 w7 (dl.tr cw) (by omega) (by omega) (y8.grows cw) ah1 hn7 (λq hq hv=>by have h1:=gX y8 _ hv.symm;have h2:=aZ fx q.block (by rw[hq];rfl);omega)).mono ?_;rintro e w8 ⟨v8,rfl,aej,fh⟩;go_wp2_with fail
 go_ret;refine⟨_,rfl,?_,af.tr fh⟩
 have av:P3++fC b4=loudE L:=by
  rw[HP3.out,HP2.out,HB1.out,HB3.out,HB4.out,HE.out]
 rw[<-av];exact aej.base af.size
theorem yM (L:List (List UInt8)) (tb:Nat) (w:World) (ac:fB w tb L) :
  Calls Tryz.prog 54 #[.pointer (some ⟨tb,0,none⟩)] w λe w'=>e=.returned (.int .i64 L.length)/\w=w':=by
 obtain⟨vN,n1,n2⟩:=ac.n;obtain⟨aN,cN,rfl,_,_,_⟩:=n2.at_ (enc:=lK) (λ_=>rfl);have ah:(jY L).length=L.length:=by simp[jY]
 rw[ah]at n1;clear ac n2 ah;go_enter Tryz.func54,Tryz.ntmps54
 go_wp2_with fail
 go_ret;exact⟨rfl,rfl⟩
theorem jC {L:List (List UInt8)} (ag:OkL L) {j i:Nat} {x:dP} (hj:j<L.length) (hi:(nodesA L)[i]?=some x) (hh:jB L x=true) (hx:x.i=j):(jY L)[j]?=some i:=by
 unfold jY;rw[Ad,An hj,Am];congr 1
 have ae:=(List.getElem?_eq_some_iff.1 hi).1;rw[List.findIdx_eq ae];obtain⟨h1,h2⟩:=List.getElem?_eq_some_iff.1 hi;refine⟨by rw[h2,hh,hx];simp,λk hk=>?_⟩;apply Bj
 intro ou;have ou:(jB L ((nodesA L)[k]'(by omega))&&((nodesA L)[k]'(by omega)).i==j)=true:=by simpa using ou
 simp only[Cj,beq_iff_eq]at ou;have g1:=ag.good hi;have g2:=ag.good (Ac (show k<(nodesA L).length by omega))
 have e1:=(qH ag.asc g1 ag.pos j).2 ⟨hh,hx.symm⟩;have e2:=(qH ag.asc g2 ag.pos j).2 ⟨ou.1,ou.2.symm⟩;rw[e1]at e2
 have:=g1.inj ag.asc g2 (Option.some.inj e2)
 have:=ag.uniq hi (by rw[this];exact Ac (show k<(nodesA L).length by omega))
 omega
theorem fA0 (L:List (List UInt8)) (tb id:Nat) (w:World) (ag:OkL L) (hl:L.length<=20000) (hc:eA L<=524287) (hid:id<L.length) (ac:fB w tb L) :
  Calls Tryz.prog 55 #[.pointer (some ⟨tb,0,none⟩),.int .i64 id] w λe w'=>e=.returned (.tuple #[.string (mkB (nth L id)),.bool true])/\aB w w':=by
 obtain⟨z1,z2,z3,z4,z5⟩:=ag.sizes hl hc;obtain⟨i0,x0,m8,hh0,ac0⟩:=ag.node hid;have hn0:=jC ag hid m8 hh0 ac0
 have lg:spanS L x0=nth L id:=by
  have h1:=(qH ag.asc (ag.good m8) ag.pos id).2 ⟨hh0,ac0.symm⟩;rw[iX hid]at h1;exact(Option.some.inj h1).symm
 have ahf:(nth L id).length<=256:=ag.len _ (Aj (iX hid));have CL:=Aa (λ(u:World) (h:aB w u)=>yM L tb u (ac.grows h));obtain⟨vN,n1,n2⟩:=ac.n;obtain⟨aN,cN,rfl,_,_,afd⟩:=n2.at_ (enc:=lK) (λ_=>rfl);have hNl:(jY L).length=L.length:=by simp[jY]
 rw[hNl]at n1;obtain⟨nb,no,rfl,hcN⟩:=at1 (f:=λn:Nat=>Value.int .i64 n) afd (aK (k:=id) (by rw[hNl];exact hid));have afe:=hcN id _ hn0;obtain⟨vL,l1,l2⟩:=ac.l;obtain⟨sb,s1,s2⟩:=ac.s;have ajw:(id:Int)<L.length:=by omega
 have ajx:¬(id:Int)<0:=by omega
 have ajy:¬(L.length:Int)<=id:=by omega
 have HAT:=Aa ac;obtain⟨W1,bi⟩:=exq (w.alloc (.cells Tryz.zeroCells193 193));have g1:aB w W1:=by rw[bi];exact aB.alloc _ _
 have n1a:=g1.cell n1;have aav:=g1.cell afe;rw[bi]at n1a aav
 have START:Hid (∃cs:Array Value,W1.heap[w.heap.size]?=some (.cells cs 193 (0,0))/\cs.size=256/\∀j b,([]:List UInt8)[j]?=some b->cs[256+j]?=some (.int .u8 (b.toNat:Nat))) :=
  ⟨Tryz.zeroCells193,by rw[bi];show (w.heap.push _)[w.heap.size]?=_;simp,by kernel_rfl,λj b h=>by simp at h⟩
 have NODE:Hid ((nodesA L)[i0]?=some x0/\spanS L x0++[]=nth L id):=⟨m8,by rw[Co];exact lg⟩;have HOK:=Aa ag;have gm:w.heap.size<W1.heap.size:=by rw[bi];simp
 obtain⟨aL,cL,rfl,_,_,j9⟩:=l2.at_ bJ.len;have HATL:=Aa j9;have HS2:=Aa s2;have HZ1:=Aa z1;have qq:∀q,aL=some q->q.block<w.heap.size:=λq hq=>gX l2 q.block (by rw[hq];rfl);have HBB:=Aa qq;obtain⟨ln,xy⟩:=exq ((labelsL L (nodesA L)).length);have HLN:=Aa xy;rw[<-xy]at l1;have ajz:ln<=524287:=by omega
 have hNN:Hid ((nodesA L).length<=524287/\ln+1=(nodesA L).length):=by
  have:=fH ag.asc ag.len
  refine⟨by omega,?_⟩;rw[xy,ag.labels,Af,Bb]
  have h0:0<(nodesA L).length:=by
   have:=(List.getElem?_eq_some_iff.1 m8).1;omega
  omega
 have re:i0<=524287:=by have:=(List.getElem?_eq_some_iff.1 m8).1;have:=hNN.out;omega
 clear ac n2 afd hcN hn0 n1 afe m8 hh0 ac0 lg z1 z2 z3 z4 z5 ag hc j9 s2 qq l2 xy;go_enter Tryz.func55,Tryz.ntmps55
 go_wp2_with (go_at_call 54;refine(CL.out _ (by first|exact aB.refl _|assumption)).mono ?_;rintro e w2 ⟨rfl,rfl⟩;skip)
 rw[<-bi];have hz:decide (L.length<=id)=false:=by simp;omega
 rw[hz];clear bi n1a aav hz;go_loopw [7,8] (λu v wr=>∃(A i:Nat) (x:dP) (tl:List UInt8) (cs:Array Value),u=.int .i64 A/\v=.int .i64 i/\A<=256/\i<=524287/\Hid (A+tl.length=256/\(nodesA L)[i]?=some x/\spanS L x++tl=nth L id)/\Hid (wr.heap[w.heap.size]?=some (.cells cs 193 (0,0))/\cs.size=256/\∀j b,tl[j]?=some b->cs[A+j]?=some (.int .u8 (b.toNat:Nat)))/\Hid (aB w wr)) (λ_ v _=>(intOf v).toNat)
 case atStart =>
  obtain⟨cs,k1,k2,k3⟩:=START.out;exact⟨256,i0,x0,[],cs,by go_num,rfl,Ak _,re,⟨rfl,NODE.out.1,NODE.out.2⟩,⟨k1,k2,k3⟩,g1⟩
 case round =>
  clear START NODE re g1 gm;obtain⟨A,i,x,tl,cs,rfl,rfl,hA,hi,hN,hB,hG⟩:=hrel;by_cases h0:0<i
  ·have h0i:(0:Int)<i:=by omega
   obtain⟨k1,k2,k3⟩:=hN.out;obtain⟨p,y,hy,hpi,o1,o2,hm⟩:=HOK.out.parent h0 k2;have rh:=vE HOK.out.asc (HOK.out.good hy) hm;obtain⟨b,hb⟩:=exq ((nth L x.i).getD y.d 0);rw[<-hb]at rh;have up:=(List.getElem?_eq_some_iff.1 k2).1
   have hA0:0<A:=by
    have:=congrArg By k3
    rw[rh,Ab,Ab]at this;simp at this;omega
   obtain⟨A1,hA1⟩:=exq (A-1);obtain⟨i1,hi1⟩:=exq (i-1);have wA:IntKind.i64.wrap ((A:Int)-1)=A1:=by simp[Ag,Ah,Ae];omega
   have wi:IntKind.i64.wrap ((i:Int)-1)=i1:=by simp[Ag,Ah,Ae];omega
   have px:(labelsL L (nodesA L))[i1]?=some b:=by
    rw[HOK.out.labels,Ad,Cc,show 1+i1=i by omega,k2,Am,rh]
    simp
   obtain⟨lb,lo,rfl,ci⟩:=at1 (f:=λb:UInt8=>Value.int .u8 b.toNat) (HATL.out.grows hG.out) (Bf (Aj px));have hlc:=ci i1 b px;have aj0:(i1:Int)<ln:=by have:=hNN.out;omega
   have aj1:(A1:Int)<256:=by omega
   have l1r:=hG.out.cell l1;have s1r:=hG.out.cell s1;obtain⟨m1,m2,m3⟩:=hB.out;obtain⟨ov,hov⟩:∃v,wr.cell? ⟨w.heap.size,A1,none⟩=some v:=⟨cs[A1]'(by omega),by simp[Cx,m1,show A1<cs.size by omega]⟩
   have hof:wr.frozen? ⟨w.heap.size,A1,none⟩=false:=by simp[World.frozen?,m1]
   obtain⟨W2,d9⟩:=exq (wr.setCell ⟨w.heap.size,A1,none⟩ (.int .u8 (b.toNat:Nat)));have g2:aB w W2:=by rw[d9];exact hG.out.set (Ak _) _
   have B2:Hid (W2.heap[w.heap.size]?=some (.cells (cs.setIfInBounds A1 (.int .u8 (b.toNat:Nat))) 193 (0,0))):=by
    rw[d9];exact heap_setCell_same wr _ _ cs _ _ m1
   have ut:w.heap.size<W2.heap.size:=(Array.getElem?_eq_some_iff.1 B2.out).1
   have B3:Hid (∀j c,(b::tl)[j]?=some c->(cs.setIfInBounds A1 (.int .u8 (b.toNat:Nat)))[A1+j]?=some (.int .u8 (c.toNat:Nat))):=λj c hj=>by
    cases j with
    | zero =>
     obtain rfl:b=c:=by simpa using hj
     rw[Nat.add_zero,Array.getElem?_setIfInBounds_self];simp;omega
    | succ j =>
     rw[Array.getElem?_setIfInBounds_ne (by omega),show A1+(j+1)=A+j by omega]
     exact m3 j c (by simpa using hj)
   have N2:Hid (A1+(b::tl).length=256/\(nodesA L)[p]?=some y/\spanS L y++(b::tl)=nth L id):=⟨by rw[Bp];omega,hy,by rw[<-k3,rh];simp⟩;have CSZ:Hid ((cs.setIfInBounds A1 (.int .u8 (b.toNat:Nat))).size=256):=by show _=_;simpa using m2
   obtain⟨q1,q2,q3⟩:=iV0 hy o1 o2;obtain⟨pos,dn⟩:=exq (i+p+1);rw[<-dn]at q1 q2 q3
   have aaw:pos<(shapeL L (nodesA L)).length:=by
    have h1:=eY L (nodesA L).length (Ak _);rw[Aw,HOK.out.off_all]at h1;omega
   have CSEL:=Aa (λ(u:World) (hg:aB w u)=>uR (shapeL L (nodesA L)) sb true pos i u HZ1.out aaw q1 q2 (HS2.out.grows hg))
   have CRNK:Hid (∀(u:World),aB w u->Calls Tryz.prog 123 #[.pointer (some ⟨sb,0,none⟩),.bool false,.int .i64 pos] u λe w'=>e=.returned (.int .i64 ((p+1:Nat):Int))/\u=w'):=λu hg=>by
    have h:=qK (shapeL L (nodesA L)) sb false pos u HZ1.out (by have:=HZ1.out;omega) (HS2.out.grows hg);rw[show min pos (shapeL L (nodesA L)).length=pos by omega,q3]at h
    exact h
   have wp1:IntKind.i64.wrap (((p+1:Nat):Int)-1)=p:=by simp[Ag,Ah,Ae];omega
   obtain⟨p1,hp1⟩:=exq (p+1);rw[<-hp1]at CRNK wp1;have z1:∀x:Ext aB W2.drew,x.u.cell? ⟨tb,0,none⟩=some (.pointer (some ⟨sb,0,none⟩)):=aF ((aB.drew W2).cell (g2.cell s1));have HPI:=Aa hpi;clear hN hB k1 k2 k3 hy o1 o2 hm rh hb up hA1 hi1 px ci m1 m2 m3 q1 q2 q3 dn aaw hp1 hpi;go_wp2_with fail
   rw[<-d9];clear d9 hov hof hlc l1r s1r;refine bK (bB 13 [9,10]) (by kernel_rfl) (λd _ _ _ _ h=>by cases d<;>exact h) ?_
   iterate 9 (refine aH rfl (λK hK=>?_);go_simp;refine hK _ ?_;clear hK K)
   clear z1;refine bH rfl rfl (λK hK=>?_);go_simp;refine(CSEL.out _ (g2.tr (aB.drew W2))).mono ?_;rintro e w3 ⟨rfl,ax⟩;refine⟨ax,hK _ _ ?_⟩;clear hK K;have g3:aB w w3:=(g2.tr (aB.drew W2)).tr ax;refine bH rfl rfl (λK hK=>?_);go_simp;refine(CRNK.out _ g3).mono ?_;rintro e w4 ⟨rfl,rfl⟩;refine⟨aB.refl _,hK _ _ ?_⟩;clear hK K;iterate 2 (refine aH rfl (λK hK=>?_);go_simp;refine hK _ ?_;clear hK K)
   refine cB ?_;have B4:w3.heap[w.heap.size]?=some (.cells (cs.setIfInBounds A1 (.int .u8 (b.toNat:Nat))) 193 (0,0)):=(Below.block ((aB.drew W2).tr ax) _ ut).trans B2.out;replace B4:=Aa B4;clear ax B2 CSEL CRNK;go_wp2_with fail
   go_roundw
   case rel=>exact⟨A1,p,y,b::tl,_,by go_num,by go_num,by have:=N2.out.1;omega,by have:=HPI.out;omega,N2.out,⟨B4.out,CSZ.out,B3.out⟩,g3⟩
   case measure=>have:=HPI.out;simp[intOf];omega
  ·have h0i:¬(0:Int)<i:=by omega
   obtain rfl:i=0:=by omega
   obtain⟨k1,k2,k3⟩:=hN.out
   have hx:x=rootS L:=by
    have h1:=HOK.out.fix;have h2:(rootS L::(nodesA L).flatMap (fX L))[0]?=some x:=by rw[<-h1];exact k2
    simpa using h2.symm
   have mj:tl=nth L id:=by
    rw[<-k3,hx];simp[spanS,rootS]
   have aax:(convert 28 9 (.slice (some ⟨w.heap.size,A,none⟩) (256-A) (256-A))).run Tryz.prog wr=.ok (.string (mkB (nth L id))) wr:=by
    obtain⟨m1,m2,m3⟩:=hB.out;have hz:(mkB tl).size=tl.length:=by rw[Lib.size_eq,jM]
    have hBy:Lib.Bytes wr w.heap.size A (mkB tl):=λj hj=>by
     rw[hz]at hj;have h3:=m3 j _ (Ac hj);unfold Cx;simp only[m1,Option.isSome_none,Cd,if_false];exact h3
    have:=Lib.run_convert_whole (P:=Tryz.prog) wr 28 5 9 Tryz.underlying28 Tryz.underlying5 Tryz.underlying9 w.heap.size A (mkB tl) hBy (256-A)
    rw[hz,show tl.length=256-A by omega]at this
    rw[this,mj]
   have dn:0<tl.length:=by
    rw[mj];exact List.length_pos_iff.2 (HOK.out.pos _ (Aj (iX hid)))
   have hAi:(A:Int)<=256:=by omega
   have hAn:¬256=A:=by omega
   have G:=Aa hG.out;clear hN hB k1 k2 k3 hx mj dn hG;go_wp2_with fail
   first
    | exact bodyPost_ret (v:=.tuple #[.string (mkB (nth L id)),.bool true]) (by simp[results,Tryz.results55,go_sem]) rfl ⟨rfl,G.out⟩
    | exact bodyPost_end (v:=.tuple #[.string (mkB (nth L id)),.bool true]) (by simp[results,Tryz.results55,go_sem]) rfl ⟨rfl,G.out⟩
end
section
open Go
theorem eM0 (L:List (List UInt8)):∀A:List dP,(labelsL L A).length=(A.flatMap (fX L)).length
 | []=>rfl
 | x::A=>by
  have:=eM0 L A
  unfold labelsL at *;rw[Az,Az,Ab,Ab,Af,this]
theorem oT0 (L:List (List UInt8)) (i:Nat):offA L i=(labelsL L ((nodesA L).take i)).length+1:=by
 rw[eM0];unfold offA eX;rw[Bp]
theorem OkL.many {L:List (List UInt8)} (h:OkL L) (hl:L.length<=20000):(nodesA L).length<=5120001:=by
 have h1:=congrArg By (uU0 h.asc);rw[Af]at h1;have h2:=zP L 256;have h3:(kB1 L).length=(wF L 256).length:=rfl;omega
theorem xD (L:List (List UInt8)) (A:List dP) (x:dP):labelsL L (A++[x])=labelsL L A++(fX L x).map (pS L x):=by
 unfold labelsL;rw[Ca];simp
def uD (L:List (List UInt8)) (i:Nat):List Nat:=(jY L).map λk=>if k<i then k else 0
theorem nF (L:List (List UInt8)):(jY L).length=L.length:=by simp[jY]
theorem cD1 {L:List (List UInt8)}:uD L 0=Bg L.length 0:=by
 unfold uD;apply Av
 intro j;rw[Ad,Bq];by_cases h:j<L.length
 ·rw[Ac (by rw[nF];exact h),if_pos h]
  simp
 ·rw[Ai (by rw[nF];omega),if_neg h];rfl
theorem OkL.ndTo_all {L:List (List UInt8)} (h:OkL L) {m:Nat} (hm:(nodesA L).length<=m):uD L m=jY L:=by
 unfold uD;have hl:=nF L;conv=>rhs;rw[<-List.map_id (jY L)]
 apply Cb
 intro k hk;obtain⟨j,hj⟩:=List.mem_iff_getElem?.1 hk;have ft:j<L.length:=by rw[<-hl];exact(List.getElem?_eq_some_iff.1 hj).1
 obtain⟨i,x,hi,hh,hx⟩:=h.node ft
 have:=jC h ft hi hh hx
 rw[hj]at this;have ae:=(List.getElem?_eq_some_iff.1 hi).1;rw[if_pos (by have:=Option.some.inj this;omega)];rfl
theorem OkL.ndTo_succ {L:List (List UInt8)} (h:OkL L) {i:Nat} {x:dP} (hx:(nodesA L)[i]?=some x):uD L (i+1)=if jB L x=true then (uD L i).set x.i i else uD L i:=by
 have hl:=nF L
 have key:∀j,j<L.length->((jY L)[j]?=some i↔jB L x=true/\x.i=j):=λj hj=>by
  obtain⟨i',x',hi',hh',q8⟩:=h.node hj;have h1:=jC h hj hi' hh' q8;rw[h1];constructor
  ·intro e
   have e2:i'=i:=Option.some.inj e;subst e2;rw[hx]at hi';cases hi'
   exact⟨hh',q8⟩
  ·rintro⟨a,b⟩
   have h2:=jC h hj hx a b;rw[h1]at h2;exact h2
 apply Av
 intro j;by_cases hj:j<L.length
 ·obtain⟨k,hk⟩:∃k,(jY L)[j]?=some k:=⟨_,Ac (by rw[hl];exact hj)⟩
  have e1:(uD L (i+1))[j]?=some (if k<i+1 then k else 0):=by unfold uD;rw[Ad,hk];rfl
  have e2:(uD L i)[j]?=some (if k<i then k else 0):=by unfold uD;rw[Ad,hk];rfl
  rw[e1];have jp:=key j hj;rw[hk]at jp;by_cases hh:jB L x=true
  ·rw[if_pos hh]
   by_cases hxj:x.i=j
   ·have:k=i:=Option.some.inj (jp.2 ⟨hh,hxj⟩)
    rw[hxj,Bs (by unfold uD;rw[Af,hl];exact hj),if_pos (by omega),this]
   ·have:k≠i:=λe=>hxj (jp.1 (by rw[e])).2
    rw[Bz hxj,e2];congr 1
    by_cases h3:k<i
    ·rw[if_pos h3,if_pos (by omega)]
    ·rw[if_neg h3,if_neg (by omega)]
  ·rw[if_neg hh,e2]
   have:k≠i:=λe=>hh (jp.1 (by rw[e])).1
   congr 1
   by_cases h3:k<i
   ·rw[if_pos h3,if_pos (by omega)]
   ·rw[if_neg h3,if_neg (by omega)]
 ·have hn:∀m,(uD L m)[j]?=none:=λm=>Ai (by unfold uD;rw[Af,hl];omega)
  rw[hn];split
  ·rw[Ai (by rw[Cp];unfold uD;rw[Af,hl];omega)]
  ·rw[hn]
theorem gG1 (L:List (List UInt8)) (i:Nat):(uD L i).length=L.length:=by unfold uD; rw[Af,nF]
end
section
open Go Go.RowKit
def gS (L:List (List UInt8)) (s:List UInt8) (i:Nat):Prop:=∃x,(nodesA L)[i]?=some x/\spanS L x=s
theorem OkL.root0 {L:List (List UInt8)} (h:OkL L):(nodesA L)[0]?=some (rootS L):=by rw[h.fix]; rfl
theorem OkL.isRoot {L:List (List UInt8)} (h:OkL L):gS L [] 0:=⟨rootS L,h.root0,by simp[spanS,rootS]⟩
theorem gS.lt {L:List (List UInt8)} {s:List UInt8} {i:Nat} (h:gS L s i):i<(nodesA L).length:=by
 obtain⟨x,hx,_⟩:=h;grind
theorem OkL.lab {L:List (List UInt8)} (h:OkL L) {k:Nat} {y:dP} (h1:1<=k) (hy:(nodesA L)[k]?=some y):(labelsL L (nodesA L))[k-1]?=some ((spanS L y).getLastD 0):=by
 rw[h.labels,Ad,Cc,show 1+(k-1)=k by omega,hy];rfl
theorem OkL.off_pos {L:List (List UInt8)} (i:Nat):1<=offA L i:=by
 have:=mX (L:=L) (Aq i)
 rw[sZ]at this;exact this
theorem OkL.kid_at {L:List (List UInt8)} (h:OkL L) {i k:Nat} {x:dP} (hx:(nodesA L)[i]?=some x) (h1:offA L i<=k) (h2:k<offA L (i+1)) :
  ∃y c,(nodesA L)[k]?=some y/\(labelsL L (nodesA L))[k-1]?=some c/\spanS L y=spanS L x++[c]/\y∈fX L x:=by
 have hk:k<(nodesA L).length:=Be h2 (h.off_le (i+1));obtain⟨y,hy⟩:∃y,(nodesA L)[k]?=some y:=by simp_all
 have hm:=h.kid hx h1 h2 hy;have hs:=vE h.asc (h.good hx) hm;refine⟨y,_,hy,h.lab (Ch (OkL.off_pos i) h1) hy,?_,hm⟩;rw[hs];simp
theorem OkL.kid_of {L:List (List UInt8)} (h:OkL L) {i k:Nat} {s:List UInt8} {c:UInt8} (hi:gS L s i) (hn:gS L (s++[c]) k):offA L i<=k/\k<offA L (i+1)/\(labelsL L (nodesA L))[k-1]?=some c:=by
 obtain⟨x,hx,ex⟩:=hi;obtain⟨y,hy,ey⟩:=hn
 have hk:1<=k:=by
  rcases Ce k with e|e
  ·subst e
   rw[h.root0]at hy;obtain rfl:=Option.some.inj hy;simp[spanS,rootS]at ey
  ·exact e
 obtain⟨p,z,hz,_,o1,o2,hm⟩:=h.parent hk hy;have hs:=vE h.asc (h.good hz) hm;rw[ey]at hs;have e1:=(List.append_inj' hs rfl).1;have e2:=(h.good hx).inj h.asc (h.good hz) (ex.trans e1);subst e2;obtain rfl:=h.uniq hx hz;refine⟨o1,o2,?_⟩;rw[h.lab hk hy,ey];simp
theorem OkL.kid_is {L:List (List UInt8)} (h:OkL L) {i k:Nat} {s:List UInt8} {c:UInt8} (hi:gS L s i) (h1:offA L i<=k) (h2:k<offA L (i+1)) (hc:(labelsL L (nodesA L))[k-1]?=some c):gS L (s++[c]) k:=by
 obtain⟨x,hx,ex⟩:=hi;obtain⟨y,d,hy,hd,hs,_⟩:=h.kid_at hx h1 h2;grind [gS]
theorem OkL.node_pre {L:List (List UInt8)} (h:OkL L) {s:List UInt8} {c:UInt8} {k:Nat} (hn:gS L (s++[c]) k):∃i,gS L s i:=by
 obtain⟨y,hy,ey⟩:=hn
 have hk:1<=k:=by
  rcases Ce k with e|e
  ·subst e
   rw[h.root0]at hy;obtain rfl:=Option.some.inj hy;simp[spanS,rootS]at ey
  ·exact e
 obtain⟨p,z,hz,_,o1,o2,hm⟩:=h.parent hk hy;have hs:=vE h.asc (h.good hz) hm;rw[ey]at hs;exact⟨p,z,hz,by simp_all⟩
theorem OkL.no_more {L:List (List UInt8)} (h:OkL L):∀(t:List UInt8) {s:List UInt8},(∀i, ¬gS L s i)->∀i, ¬gS L (s++t) i
 | [],s,hs,i=>by simp_all
 | c::t,s,hs,i=>by
  rw[show s++c::t=(s++[c])++t by simp]
  exact h.no_more t (λk hk=>by
   obtain⟨j,hj⟩:=h.node_pre hk;exact hs j hj) i
theorem tZ:∀(p a b:List UInt8),Ao (p++a) (p++b)=Ao a b
 | [],_,_=>rfl
 | c::p,a,b=>by
  have hc:¬c<c:=by simp_all
  rw[Ck,Ck];simp only[Ao,hc,decide_false,Cu,beq_self_eq_true,Cv];exact tZ p a b
theorem OkL.lab_lt {L:List (List UInt8)} (h:OkL L) {i k m:Nat} {x:dP} {c d:UInt8} (hx:(nodesA L)[i]?=some x) (h1:offA L i<=k) (h2:k<m) (h3:m<offA L (i+1))
  (hc:(labelsL L (nodesA L))[k-1]?=some c) (hd:(labelsL L (nodesA L))[m-1]?=some d):c.toNat<d.toNat:=by
 obtain⟨y,c',hy,hc',sy,my⟩:=h.kid_at hx h1 (Cw h2 h3);obtain⟨z,d',hz,hd',sz,mz⟩:=h.kid_at hx (Ch h1 (Br h2)) h3;rw[hc]at hc';obtain rfl:=Option.some.inj hc';rw[hd]at hd';obtain rfl:=Option.some.inj hd';obtain⟨hk,ek⟩:=List.getElem?_eq_some_iff.1 hy;obtain⟨hm,em⟩:=List.getElem?_eq_some_iff.1 hz;have hb:=List.pairwise_iff_getElem.1 (jN h.asc) k m hk hm h2;rw[ek,em]at hb;have d1:=jH0 L x y my;have d2:=jH0 L x z mz;have hi:y.i<z.i:=by rcases hb with hb|hb<;>omega
 have gy:=h.good hy;have gz:=h.good hz
 have hzl:z.i<L.length:=by
  have:=gz.le
  rcases gz.ne with h|h<;>omega
 have ae:=h.asc.lt _ _ hi hzl
 have ey:nth L y.i=spanS L x++(c::(nth L y.i).drop y.d):=by
  have:=Au y.d (nth L y.i)
  rw[show (nth L y.i).take y.d=spanS L y from rfl,sy]at this
  exact this.symm.trans (Ar _ _ _)
 have ez:nth L z.i=spanS L x++(d::(nth L z.i).drop z.d):=by
  have:=Au z.d (nth L z.i)
  rw[show (nth L z.i).take z.d=spanS L z from rfl,sz]at this
  exact this.symm.trans (Ar _ _ _)
 rw[ey,ez,tZ]at ae;simp only[Ao,Bool.or_eq_true,Cj,decide_eq_true_eq,beq_iff_eq]at ae;rcases ae with ae|⟨ae,_⟩
 ·exact ae
 ·subst ae
  have e:=gy.inj h.asc gz (by rw[sy,sz]);subst e
  have:=h.uniq hy hz
  omega
def jZ1 (L:List (List UInt8)) (i:Nat) (c:UInt8) (k:Nat) (b:Bool):Prop :=
 (b=true->offA L i<=k/\k<offA L (i+1)/\(labelsL L (nodesA L))[k-1]?=some c)/\(b=false->∀k,offA L i<=k->k<offA L (i+1)->(labelsL L (nodesA L))[k-1]?≠some c)
def jQ0 (L:List (List UInt8)) (s:List UInt8) (k:Nat) (b:Bool):Prop:=(b=true->gS L s k)/\(b=false->∀k, ¬gS L s k)
theorem OkL.down_to {L:List (List UInt8)} (h:OkL L) {i k:Nat} {s:List UInt8} {c:UInt8} {b:Bool} (hi:gS L s i) (hd:jZ1 L i c k b):jQ0 L (s++[c]) k b:=by
 refine⟨λhb=>?_,λhb m hm=>?_⟩
 ·obtain⟨h1,h2,h3⟩:=hd.1 hb
  exact h.kid_is hi h1 h2 h3
 ·obtain⟨h1,h2,h3⟩:=h.kid_of hi hm
  exact hd.2 hb m h1 h2 h3
theorem fF0 {L:List (List UInt8)} {A:List dP} {i:Nat} {x:dP} (hx:A[i]?=some x):bitOf (isL L A) i=jB L x:=by
 grind [bitOf,isL]
theorem gI0 (L:List (List UInt8)) (A:List dP):∀i,i<=A.length->eC (isL L A) i=((A.take i).filter (jB L)).length
 | 0,_=>rfl
 | i+1,h=>by
  obtain⟨x,hx⟩:∃x,A[i]?=some x:=⟨_,Ac h⟩;rw[gN,gI0 L A i (by omega),fF0 hx,Ci,hx,Option.toList_some,Cf,Ab];congr 1
  by_cases hh:jB L x=true
  ·simp[hh]
  ·simp[hh]
theorem rL0 {L:List (List UInt8)} {A:List dP} {i:Nat} {x:dP} (hx:A[i]?=some x) (hh:jB L x=true):(idsL L A)[eC (isL L A) i]?=some x.i:=by
 have hi:=(List.getElem?_eq_some_iff.1 hx).1;rw[gI0 L A i (Br hi)];unfold idsL
 have e:A=A.take i++(x::A.drop (i+1)):=by
  have h1:=Bk hi;rw[(List.getElem?_eq_some_iff.1 hx).2]at h1;rw[<-h1,Au]
 have e2:A.filter (jB L)=(A.take i).filter (jB L)++(x::(A.drop (i+1)).filter (jB L)):=by
  conv=>lhs;rw[e]
  rw[Cf,List.filter_cons,if_pos hh]
 rw[e2,Bu,List.getElem?_append_right (by simp),Af,Nat.sub_self];rfl
theorem OkL.here_at {L:List (List UInt8)} (h:OkL L) {i:Nat} {x:dP} (hx:(nodesA L)[i]?=some x) (j:Nat):L[j]?=some (spanS L x)↔jB L x=true/\j=x.i:=qH h.asc (h.good hx) h.pos j
theorem OkL.of_mem {L:List (List UInt8)} (h:OkL L) {j:Nat} {s:List UInt8} (hj:L[j]?=some s):∃i,gS L s i:=by
 have hl:=(List.getElem?_eq_some_iff.1 hj).1;obtain⟨i,x,hx,hh,o7⟩:=h.node hl;refine⟨i,x,hx,?_⟩
 have:=(h.here_at hx j).2 ⟨hh,o7.symm⟩
 rw[hj]at this;exact(Option.some.inj this).symm
theorem OkL.strs_inj {L:List (List UInt8)} (h:OkL L) {i j:Nat} {s:List UInt8} (hi:L[i]?=some s) (hj:L[j]?=some s):i=j:=by
 obtain⟨k,x,hx,ex⟩:=h.of_mem hi;have a:=((h.here_at hx i).1 (by rw[ex];exact hi)).2;have b:=((h.here_at hx j).1 (by rw[ex];exact hj)).2;omega
def kD (L:List (List UInt8)) (s:List UInt8):Nat×Bool:=if s∈L then (L.findIdx λx=>decide (x=s),true) else (0,false)
theorem qW {L:List (List UInt8)} {s:List UInt8} (h:s∉L):kD L s=(0,false):=if_neg h
theorem OkL.findT_of {L:List (List UInt8)} (h:OkL L) {s:List UInt8} {j:Nat} (hj:L[j]?=some s):kD L s=(j,true):=by
 have hm:=Aj hj;unfold kD;rw[if_pos hm];have h1:L.findIdx (λx=>decide (x=s))<L.length:=List.findIdx_lt_length_of_exists ⟨s,hm,by simp⟩;have h2:=List.findIdx_getElem (w:=h1);have h3:L[L.findIdx (λx=>decide (x=s))]?=some s:=by rw[Ac h1];exact congrArg some (of_decide_eq_true h2)
 rw[h.strs_inj h3 hj]
theorem OkL.find_node {L:List (List UInt8)} (h:OkL L) {i:Nat} {x:dP} (hx:(nodesA L)[i]?=some x):kD L (spanS L x)=if jB L x=true then (x.i,true) else (0,false):=by
 split
 ·rename_i hh
  exact h.findT_of ((h.here_at hx x.i).2 ⟨hh,rfl⟩)
 ·rename_i hh
  refine qW λhm=>?_;obtain⟨j,hj⟩:=List.mem_iff_getElem?.1 hm;exact hh ((h.here_at hx j).1 hj).1
theorem eX1 {L:List (List UInt8)} {s:List UInt8} (h:s∈L):(kD L s).1<L.length:=by
 grind [kD]
theorem OkL.noNode {L:List (List UInt8)} (h:OkL L) {s:List UInt8} (hn:∀i, ¬gS L s i):kD L s=(0,false):=qW λhm=>by
 obtain⟨j,hj⟩:=List.mem_iff_getElem?.1 hm;obtain⟨i,hi⟩:=h.of_mem hj;exact hn i hi
structure pB (L:List (List UInt8)) (i:Nat) (c:UInt8) (f t:Nat):Prop where
 lo:offA L i<=f
 le:f<=t
 hi:t<=offA L (i+1)
 left:∀k d,offA L i<=k->k<f->(labelsL L (nodesA L))[k-1]?=some d->d.toNat<c.toNat
 right:∀k d,t<=k->k<offA L (i+1)->(labelsL L (nodesA L))[k-1]?=some d->c.toNat<=d.toNat
theorem pB.start (L:List (List UInt8)) (i:Nat) (c:UInt8):pB L i c (offA L i) (offA L (i+1)) :=
 ⟨Ak _,mX (by omega),Ak _,by omega,by omega⟩
theorem pB.less {L:List (List UInt8)} {i f t:Nat} {c:UInt8} (h:OkL L) {x:dP} (hx:(nodesA L)[i]?=some x) (I:pB L i c f t) {m:Nat} {d:UInt8} (h1:f<=m) (h2:m<t) (hd:(labelsL L (nodesA L))[m-1]?=some d) (hc:d.toNat<c.toNat):pB L i c (m+1) t:=by
 refine⟨by have:=I.lo;omega,by omega,I.hi,λk e a b he=>?_,I.right⟩;rcases Bd k m with q|q
 ·have:=h.lab_lt hx a q (by have:=I.hi;omega) he hd
  omega
 grind
theorem pB.more {L:List (List UInt8)} {i f t:Nat} {c:UInt8} (h:OkL L) {x:dP} (hx:(nodesA L)[i]?=some x) (I:pB L i c f t) {m:Nat} {d:UInt8} (h1:f<=m) (h2:m<t) (hd:(labelsL L (nodesA L))[m-1]?=some d) (hc:¬d.toNat<c.toNat):pB L i c f m :=
 ⟨I.lo,h1,by have:=I.hi;omega,I.left,λk e a b he=>by
  rcases Bd m k with q|q
  ·have:=h.lab_lt hx (by have:=I.lo;omega) q b hd he
   omega
  grind⟩
theorem pB.hit {L:List (List UInt8)} {i f:Nat} {c:UInt8} (I:pB L i c f f) (h1:f<offA L (i+1)) (hd:(labelsL L (nodesA L))[f-1]?=some c):jZ1 L i c f true :=
 ⟨λ_=>⟨I.lo,h1,hd⟩,λh=>by cases h⟩
theorem pB.ends {L:List (List UInt8)} {i f:Nat} {c:UInt8} (I:pB L i c f f) (h1:¬f<offA L (i+1)):jZ1 L i c f false :=
 ⟨λh=>(by cases h),λ_ k a b he=>by have:=I.left k c a (by omega) he;omega⟩
theorem pB.miss {L:List (List UInt8)} {i f:Nat} {c d:UInt8} (h:OkL L) {x:dP} (hx:(nodesA L)[i]?=some x) (I:pB L i c f f) (h1:f<offA L (i+1)) (hd:(labelsL L (nodesA L))[f-1]?=some d) (hc:d≠c):jZ1 L i c f false :=
 ⟨λh=>(by cases h),λ_ k a b he=>by
  rcases Nat.lt_trichotomy k f with q|q|q
  ·have:=I.left k c a q he
   omega
  ·simp_all
  ·have h2:=h.lab_lt hx I.lo q b hd he
   have h3:=I.right f d (Ak _) h1 hd;omega⟩
theorem OkL.lab_get {L:List (List UInt8)} (h:OkL L) {i k:Nat} {x:dP} (hx:(nodesA L)[i]?=some x) (h1:offA L i<=k) (h2:k<offA L (i+1)):∃d,(labelsL L (nodesA L))[k-1]?=some d:=by
 obtain⟨_,c,_,hc,_⟩:=h.kid_at hx h1 h2;exact⟨c,hc⟩
theorem OkL.walk_stop {L:List (List UInt8)} (h:OkL L) {s:List UInt8} {n k:Nat} (hw:jQ0 L (s.take n) k false):jQ0 L s k false :=
 ⟨λh=>(by cases h),λ_=>by
  have:=h.no_more (s.drop n) (hw.2 rfl)
  simp_all⟩
def vL0 (L:List (List UInt8)) (s:List UInt8) (i:Nat):List (Nat×Nat):=if s.take (i+1)∈L then [((kD L (s.take (i+1))).1,i+1)] else []
def hitsL (L:List (List UInt8)) (s:List UInt8) (n:Nat):List (Nat×Nat):=(Ba n).flatMap (vL0 L s)
theorem qG (L:List (List UInt8)) (s:List UInt8) (n:Nat):hitsL L s (n+1)=hitsL L s n++vL0 L s n:=by
 unfold hitsL;rw[Cq,Ca];simp
theorem lH0 {L:List (List UInt8)} {s:List UInt8} {q:Nat×Nat}:∀ {n:Nat},q∈hitsL L s n->q.1<L.length/\q.2<=n
 | 0,h=>by cases h
 | n+1,h=>by
  rw[qG]at h;rcases List.mem_append.1 h with h|h
  ·have:=lH0 h
   omega
  ·unfold vL0 at h
   split at h
   ·rename_i hm
    obtain rfl:q=((kD L (s.take (n+1))).1,n+1):=by simpa using h
    grind [kD]
   ·cases h
theorem OkL.hits_256 {L:List (List UInt8)} (h:OkL L) {s:List UInt8}:∀ {n:Nat},n<=s.length->(hitsL L s n).length<=min n 256
 | 0,_=>Aq _
 | n+1,hn=>by
  have ih:=h.hits_256 (s:=s) (n:=n) (by omega);rw[qG,Ab];have h1:(vL0 L s n).length<=1:=by unfold vL0;split<;>simp
  rcases Bd n 256 with q|q
  ·omega
  ·have h2:vL0 L s n=[]:=by
    unfold vL0;rw[if_neg];intro hc
    have:=h.len _ hc
    rw[As]at this;omega
   grind
theorem OkL.hits_stop {L:List (List UInt8)} (h:OkL L) {s:List UInt8} {n:Nat} (hn:∀i, ¬gS L (s.take (n+1)) i):∀m,n<=m->hitsL L s m=hitsL L s n
 | 0,hm=>by
  obtain rfl:n=0:=by omega
  rfl
 | m+1,hm=>by
  rcases Bd m n with q|q
  ·obtain rfl:n=m+1:=by omega
   rfl
  ·rw[qG,h.hits_stop hn m q]
   have:vL0 L s m=[]:=by
    unfold vL0;rw[if_neg];intro hc;obtain⟨j,hj⟩:=List.mem_iff_getElem?.1 hc;obtain⟨i,hi⟩:=h.of_mem hj
    have e:s.take (m+1)=s.take (n+1)++(s.take (m+1)).drop (n+1):=by
     have h1:=Au (n+1) (s.take (m+1));rw[List.take_take,Nat.min_eq_left (by omega)]at h1;exact h1.symm
    rw[e]at hi;exact h.no_more _ hn i hi
   rw[this,Co]
end
section
open Go Go.RowKit
attribute [local go_sem] aO aM
theorem rF {x:Nat} (h:x<4611686018427387904):IntKind.i64.wrap (x:Int)=x:=by simp[Ag,Ah,Ae]; omega
theorem qC0 (b:List UInt8) (a:Option Addr) (c:Nat) (w:World) (hb:b.length<=8) (ac:aG w a 1 (b.map aY)) :
  Calls Tryz.prog 211 #[.slice a b.length c] w λe w'=>e=.returned (.int .u64 (zH b))/\w=w':=by
 have HAT:=Aa ac;clear ac;go_enter Tryz.func211,Tryz.ntmps211
 go_wp2_with fail
 go_loopw [3,8] (λn i wr=>∃k:Nat,k<=b.length/\i=.int .i64 k/\n=.int .u64 (zH (b.take k))/\Hid (wr=w)) (λ_ i _=>b.length-(intOf i).toNat)
 case atStart=>exact⟨0,Aq _,rfl,rfl,rfl⟩
 case round =>
  obtain⟨k,hk,rfl,rfl,hw⟩:=hrel;obtain rfl:=hw.out;by_cases ae:k<b.length
  ·obtain⟨x,hx⟩:∃x,b[k]?=some x:=⟨_,Ac ae⟩
   obtain⟨ab,ao,rfl,hc⟩:=at1 (f:=λx:UInt8=>Value.int .u8 x.toNat) HAT.out (aK ae);have gn:=hc k x hx;have mj:(b.take k).length=k:=by rw[As];omega
   have HT:Hid (zH (b.take k)|||(x.toNat<<<(8*k))%18446744073709551616=zH (b.take (k+1))):=by
    show _=_
    rw[bM hx,<-mG1 (by rw[mj];omega),mj]
   have aff:zH (b.take k)<18446744073709551616:=sK0 (by omega);obtain⟨N,hN⟩:=exq (zH (b.take k));obtain⟨v,hv⟩:=exq x.toNat;have ai9:v<256:=by rw[hv];exact x.toNat_lt
   obtain⟨S,hS⟩:=exq (8*k);rw[<-hN]at aff ⊢;rw[<-hv]at gn;rw[<-hN,<-hv,<-hS]at HT;have eS:IntKind.i64.wrap ((8:Int)*k)=S:=by simp[Ag,Ah,Ae];omega
   have uv:IntKind.u64.wrap (v:Int)=v:=by simp[Ag,Ah,Ae];omega
   have tf:=kW0 (x:=N) (v:=v) (S:=S) aff;have nh:S<64:=by omega
   have hSm:min S 64=S:=by omega
   have cn:(k:Int)<b.length:=by omega
   clear hc hx mj hN hv hS;go_wp2_with fail
   go_roundw
   case rel=>exact⟨k+1,ae,by go_num,congrArg (λt:Nat=>Value.int .u64 (t:Int)) HT.out,trivial⟩
   case measure=>simp[intOf];omega
  ·obtain rfl:k=b.length:=by omega
   rw[Aw];go_wp2_with fail
   go_ret;exact⟨rfl,rfl⟩
theorem gJ0 (l:List Bool) (vb i:Nat) (w:World) (hl:l.length<=1048576) (ac:kL w vb l) :
  Calls Tryz.prog 213 #[.pointer (some ⟨vb,0,none⟩),.int .i64 i] w λe w'=>e=.returned (.bool (bitOf l i))/\w=w':=by
 obtain⟨vW,h1,h2⟩:=ac.c1;obtain⟨aW,cW,rfl,_,_,gl⟩:=h2.at_ (enc:=kI) (λ_=>rfl);have ru:=gI l;rw[ru]at h1;have CL:=Aa (sE l vb w ac);have h0:(0:Int)<=i:=by omega
 by_cases hi:i<l.length
 ·obtain⟨bW,oW,rfl,yu⟩:=at1 (f:=λn:Nat=>Value.int .u64 n) gl (aK (k:=0) (by rw[ru];omega))
  obtain⟨Q,hQ⟩:=exq (i/64);obtain⟨S,hS⟩:=exq (i%64);obtain⟨q,hq⟩:=exq ((l.length+63)/64);have gn:=yu Q _ (pR (by omega));have y9:=iE1 l i;rw[<-hQ,<-hS]at y9;obtain⟨x,hx⟩:=exq (nH l Q);have ji:x<18446744073709551616:=by rw[hx];exact pM l Q
  rw[<-hx]at gn y9;rw[<-hq]at h1;have ur:Q<q:=by omega
  have hQi:(Q:Int)<q:=by omega
  have eQ:(i:Int)/64=Q:=by omega
  have eQt:(i:Int).tdiv 64=Q:=by rw[Bh (by omega)];omega
  have eS:(i:Int)%64=S:=by omega
  have eSt:(i:Int).tmod 64=S:=by rw[Bi (by omega)];omega
  obtain⟨y,hy⟩:=exq (x>>>S);have j6:y<18446744073709551616:=by rw[hy];exact Nat.lt_of_le_of_lt (Nat.shiftRight_le _ _) ji
  have hsh:(x:Int)/2^S=(y:Nat):=by rw[hy];exact zC x S
  have za:=u64_and_nat y 1 j6 (by decide);rw[<-hy]at y9;rw[y9]at za;have hand:bits .and .u64 (y:Int) 1=((if bitOf l i then 1 else 0:Nat):Int):=za
  clear za;have up:(i:Int)<l.length:=by omega
  have nh:S<64:=by omega
  have hSm:min S 64=S:=by omega
  generalize bitOf l i=bt at hand ⊢;clear ac h2 gl yu ru hQ hS hq hx hy y9;go_enter Tryz.func213,Tryz.ntmps213
  go_wp2_with fail
  refine CL.out.mono ?_;rintro e w2 ⟨rfl,rfl⟩
  cases bt with
  | true =>
   simp only[if_true]at hand;go_wp2_with fail
   go_ret;exact⟨rfl,rfl⟩
  | false =>
   simp only[Cd,if_false]at hand;go_wp2_with fail
   go_ret;exact⟨rfl,rfl⟩
 ·have up:¬(i:Int)<l.length:=by omega
  rw[kM0 (by omega)];clear ac h2 gl ru;go_enter Tryz.func213,Tryz.ntmps213
  go_wp2_with fail
  refine CL.out.mono ?_;rintro e w2 ⟨rfl,rfl⟩;go_wp2_with fail
  go_ret;exact⟨rfl,rfl⟩
theorem lK1 {l:List Bool} {w:World} {bb bo bc k:Nat} (ac:aG w (some ⟨bb,bo,none⟩) 1 ((oT l).map aY)) (fg:(oT l).length<=bc) (hk:k<(l.length+63)/64) :
  ∃a',(if bc=4+8*k then some ⟨bb,bo,none⟩ else some ⟨bb,bo+(4+8*k),none⟩)=a'/\aG w a' 1 ((leB 8 (nH l k)).map aY):=by
 have uw:=nX l;obtain⟨a',h1,h2,_⟩:=zD (l:=4+8*k) (h:=4+8*k+8) ac (λh=>by cases h) (by omega) (by omega) fg;refine⟨a',?_,?_⟩
 ·rw[<-h1,Am,jQ]
 ·rw[List.drop_take,show 4+8*k+8-(4+8*k)=8 by omega,bK1 hk]at h2
  exact h2
theorem jK1 {l:List Bool} {w:World} {bb bo:Nat} (ac:aG w (some ⟨bb,bo,none⟩) 1 ((oT l).map aY)):aG w (some ⟨bb,bo,none⟩) 1 ((leB 4 l.length).map aY):=λ_=>by
 have uw:=nX l;obtain⟨b,o,h1,h2⟩:=ac (by intro h;have:=congrArg By h;rw[Af,List.length_nil]at this;omega);refine⟨b,o,h1,λi row hi j v hj=>h2 i row ?_ j v hj⟩;rw[<-bQ1,Ad,Cg]at hi;rw[Ad];split at hi
 ·exact hi
 ·cases hi
theorem bD1 (l:List Bool) (k:Nat):zH (leB 8 (nH l k))=nH l k:=by
 rw[fU0];exact Cl (pM l k)
theorem zP0 {l:List Bool} (hl:l.length<=1048576):zH (leB 4 l.length)=l.length:=by
 rw[fU0];exact Cl (by rw[show (256:Nat)^4=4294967296 by decide];omega)
theorem qQ0 (l:List Bool) (ba:Option Addr) (bc:Nat) (w:World) (hl:l.length<=1048576) (fg:(oT l).length<=bc) (ac:aG w ba 1 ((oT l).map aY)) :
  Calls Tryz.prog 149 #[.slice ba (oT l).length bc] w λe w'=>∃vb,e=.returned (.tuple #[.pointer (some ⟨vb,0,none⟩),.int .i64 0])/\kL w' vb l/\aB w w':=by
 have uw:=nX l;obtain⟨bb,bo,rfl,_⟩:=at1 (f:=λx:UInt8=>Value.int .u8 x.toNat) ac (Bn (by omega))
 have CH:∀u c,aB w u->Hid (Calls Tryz.prog 211 #[.slice (some ⟨bb,bo,none⟩) 4 c] u λe w'=>e=.returned (.int .u64 l.length)/\u=w'):=λu c hu=>by
  have h:=qC0 (leB 4 l.length) _ c u (by rw[bN];decide) ((jK1 ac).grows hu);rw[bN,zP0 hl]at h;exact h
 obtain⟨N,hN⟩:=exq ((oT l).length);rw[<-hN]at uw fg ⊢;have HN:=Aa hN;have HEL:=Aa uw;have HAT:=Aa ac;obtain⟨n,hn⟩:=exq l.length;have HNL:=Aa hn;rw[<-hn]at CH hl uw;obtain⟨q,hq⟩:=exq ((n+63)/64);have HQ:=Aa hq;have xx:q<=16384:=by omega
 have hN4:¬(N:Int)<4:=by omega
 have hN0:4<=N:=by omega
 have hN8:¬(N:Int)<4+8*(q:Int):=by omega
 have l7:¬(1048576:Int)<n:=by omega
 have wn:IntKind.i64.wrap (n:Int)=n:=rF (by omega);have w63:IntKind.i64.wrap ((n:Int)+63)=(n:Int)+63:=by have:=rF (x:=n+63) (by omega);rw[Cr]at this;exact this
 have e63:((n:Int)+63)/64=q:=by omega
 have aj2:((n:Int)+63).tdiv 64=q:=by rw[Bh (by omega)];exact e63
 have w8q:IntKind.i64.wrap (8*(q:Int))=8*(q:Int):=by have:=rF (x:=8*q) (by omega);rw[Bv]at this;exact this
 have w4q:IntKind.i64.wrap (4+8*(q:Int))=4+8*(q:Int):=by have:=rF (x:=4+8*q) (by omega);rw[Cr,Bv]at this;exact this
 clear ac hN hn hq uw;obtain⟨W1,bi⟩:=exq (w.alloc (.cells #[.int .i64 n,.slice none 0 0,.slice none 0 0] 277));obtain⟨pb,ed⟩:=exq w.heap.size;have da:=λj u h=>aT w #[.int .i64 n,.slice none 0 0,.slice none 0 0] 277 (0,0) j u h;rw[<-bi,<-ed]at da;have g1:aB w W1:=by rw[bi];exact aB.alloc _ _
 have c0:=da 0 _ rfl;have c1:=da 1 _ rfl;have c2:=da 2 _ rfl;have f1:W1.frozen? ⟨pb,1,none⟩=false:=by rw[bi,ed];exact frozen_of_row _ _ _ _ _ (heap_alloc_new w _)
 have f2:W1.frozen? ⟨pb,2,none⟩=false:=by rw[bi,ed];exact frozen_of_row _ _ _ _ _ (heap_alloc_new w _)
 have dw:W1.heap.size=pb+1:=by rw[bi,ed];simp
 have HPB:=Aa ed;clear da;go_enter Tryz.func149,Tryz.ntmps149
 go_wp2_with fail
 refine(CH _ _ (aB.refl _)).out.mono ?_;rintro e w2 ⟨rfl,rfl⟩;go_wp2_with fail
 refine(CH _ _ (aB.refl _)).out.mono ?_;rintro e w3 ⟨rfl,rfl⟩;go_wp2_with fail
 try rw[<-bi]
 try rw[<-ed]
 clear bi ed CH;go_loopw [35] (λi wr=>∃(k:Nat) (vW:Value),k<=q/\i=.int .i64 k/\wr.cell? ⟨pb,0,none⟩=some (.int .i64 n)/\wr.cell? ⟨pb,1,none⟩=some vW/\wr.cell? ⟨pb,2,none⟩=some (.slice none 0 0)/\wr.frozen? ⟨pb,1,none⟩=false/\wr.frozen? ⟨pb,2,none⟩=false/\aX wr (pb+1) 213 1 kI vW ((mQ l).take k)/\Hid (aB w wr)) (λi _=>q-(intOf i).toNat)
 case atStart=>exact⟨0,_,Aq _,rfl,c0,c1,c2,f1,f2,aX.nil _ _ _ _ _,g1⟩
 case round =>
  clear c0 c1 c2 f1 f2 g1;obtain⟨k,vW,hk,rfl,c0,c1,c2,f1,f2,aa,hg⟩:=hrel;by_cases ae:k<q
  ·have cn:(k:Int)<q:=by omega
   have hx:=pR (l:=l) (k:=k) (by have:=HQ.out;have:=HNL.out;omega);have HT:=Aa (bM hx);have mj:((mQ l).take k).length=k:=by rw[As,gI];have:=HQ.out;have:=HNL.out;omega
   obtain⟨aW,cW,rfl,_,_,_⟩:=aa.at_ (enc:=kI) (λ_=>rfl);rw[mj]at c1 aa;obtain⟨a5,ol,ha5⟩:=lK1 HAT.out (by rw[<-HN.out];exact fg) (show k<(l.length+63)/64 by have:=HQ.out;have:=HNL.out;omega)
   have CN:∀x:Ext (EB (pb+1)) wr.drew,Calls Tryz.prog 211 #[.slice a5 8 (bc-(4+8*k))] x.u λe w'=>e=.returned (.int .u64 (nH l k))/\x.u=w':=λx=>by
    have h:=qC0 (leB 8 (nH l k)) a5 (bc-(4+8*k)) x.u (by rw[bN];decide) (ha5.grows (EB.grows hg.out.dr (x.h.mono (by have:=HPB.out;omega))));rw[bN,bD1]at h;exact h
   obtain⟨S,hS⟩:=exq (4+8*k);obtain⟨T,hT⟩:=exq (12+8*k);rw[<-hS]at ol CN;have w8:IntKind.i64.wrap (8*(k:Int))=8*(k:Int):=by have:=rF (x:=8*k) (by omega);rw[Bv]at this;exact this
   have w4:IntKind.i64.wrap (4+8*(k:Int))=S:=by have:=rF (x:=S) (by omega);rw[<-this];congr 1;omega
   have w12:IntKind.i64.wrap (12+8*(k:Int))=T:=by have:=rF (x:=T) (by omega);rw[<-this];congr 1;omega
   have hTN:T<=N:=by have:=HEL.out;have:=HQ.out;have:=HNL.out;omega
   have hTS:T-S=8:=by omega
   have hST:(S:Int)<=T:=by omega
   have hTb:(T:Int)<=bc:=by omega
   clear hS hT;obtain⟨y,hy⟩:=exq (nH l k);rw[<-hy]at CN HT;have nc:pb<wr.heap.size:=Ay wr _ c0;have z1:∀x:Ext (EB (pb+1)) wr.drew,x.u.cell? ⟨pb,1,none⟩=some (.slice aW k cW):=cO (Cm _) ((aB.drew wr).cell c1);clear hx hy ha5;go_wp2_with fail
   refine qB0 (EB (pb+1)) 16 (bB 16 [14,15]) (EB.refl (pb+1)) (EB.trans (pb+1)) (by kernel_rfl) (by kernel_rfl) (λd _ _ _ _ h=>by cases d<;>exact h) ?_
   iterate 13 (refine aH rfl (λK hK=>?_);go_simp;refine hK _ ?_;clear hK K)
   refine aH rfl (λK hK=>?_);go_simp;apply Exists.intro
   refine⟨λx=>?_,hK _ ?_⟩
   ·go_at_call 211;exact dU (CN x)
   clear hK K;clear z1;refine bH rfl rfl (λK hK=>?_);go_simp;refine⟨EB.of (aB.alloc _ _) (show pb+1<=wr.heap.size by omega),hK _ _ ?_⟩
   clear hK K;refine bH rfl rfl (λK hK=>?_);refine kT aQ1 _ _ rfl (pb+1) _ ((mQ l).take k) y rfl ((aa.grows (aB.drew wr)).grows (aB.alloc _ _)) _ 1 rfl (pY1 (oA1 _ _ _)) (by rw[mj];omega) (by simp;omega) ?_;intro v5 w5 ar qv hf5;have d8:=aB.trans _ _ _ (aB.drew wr) (aB.alloc wr.drew (.cells #[.int .u64 y] 213))
   have hnr:some pb≠(Value.slice aW k cW).ownBlock:=λh=>by
    have:=aZ aa _ h.symm
    omega
   have hE5:=EB.own ((aa.grows (aB.drew wr)).grows (aB.alloc _ _)) qv (by simp;omega);have e0:=qv.cell (d8.cell c0) hnr;have e1:=qv.cell (d8.cell c1) hnr;have e2:=qv.cell (d8.cell c2) hnr;have ef1:w5.frozen? ⟨pb,1,none⟩=false:=(Bt (a:=⟨pb,1,none⟩) (qv.block pb (by simp;omega) hnr)).trans ((d8.froz (by show pb<_;omega)).trans f1)
   have ef2:w5.frozen? ⟨pb,2,none⟩=false:=(Bt (a:=⟨pb,2,none⟩) (qv.block pb (by simp;omega) hnr)).trans ((d8.froz (by show pb<_;omega)).trans f2)
   have ah2:Hid (aB w w5):=EB.grows (hg.out.tr d8) (hE5.mono (by have:=HPB.out;omega));refine⟨hE5,hK _ _ ?_⟩;clear hK K;refine cB ?_;simp only[List.drop_succ_cons,List.drop_zero];rw[<-HT.out]at ar;have ah3:((mQ l).take (k+1)).length=k+1:=by rw[As,gI];have:=HQ.out;have:=HNL.out;omega
   obtain⟨a6,c6,rfl,_,_,_⟩:=ar.at_ (enc:=kI) (λ_=>rfl);rw[ah3]at ar ⊢;clear qv hf5 d8 hE5 aa c0 c1 c2 f1 f2 CN hg;go_wp2_with fail
   go_roundw
   case rel=>exact⟨k+1,_,ae,by go_num,(Ax _ _ _ _ (λh=>by cases h)).trans e0,Bo _ _ _ e1,(Ax _ _ _ _ (λh=>by cases h)).trans e2,(Bw _ _ _ _).trans ef1,(Bw _ _ _ _).trans ef2,mG ar (p:=⟨pb,1,none⟩) (Cm _) _,ah2.out.set (show w.heap.size<=pb by have:=HPB.out;omega) _⟩
   case measure=>simp[intOf];omega
  ·have cn:¬(k:Int)<q:=by omega
   have jr:k=q:=by omega
   rw[jr,At (by rw[gI];have:=HQ.out;have:=HNL.out;omega)]at aa;clear jr;obtain⟨aW,cW,rfl,_,_,gl⟩:=aa.at_ (enc:=kI) (λ_=>rfl);have ru:(mQ l).length=q:=by rw[gI];have:=HQ.out;have:=HNL.out;omega
   have CC:=kV0 l pb (pb+1) _ wr (by have:=HNL.out;omega) (λr hr=>by have:=aZ aa r hr;omega) c1 c2 f2 aa;rw[ru]at c1;go_wp2_with fail
   refine CC.mono ?_;rintro e w5 ⟨rfl,⟨vC,g2,je⟩,hj,lf⟩;have abq:pb<wr.heap.size:=Ay wr _ c0;have cv:=eB0 lf abq;have d0:=(hj 0 (by decide)).trans c0;have d1:=(hj 1 (by decide)).trans c1
   have kh:=gU (v:=.slice (some ⟨pb,0,none⟩) 0 0) aa lf (λr h1 h2=>by
    have a1:pb=r:=Option.some.inj h1
    have:=aZ aa r h2
    omega)
   have bv:aB w w5:=EB.grows hg.out (cv.mono (by have:=HPB.out;omega));have HV:Hid (kL w5 pb l):=⟨by rw[<-HNL.out];exact d0,⟨_,by rw[ru];exact d1,kh.base (Aq _)⟩,vC,g2,je.base (Aq _)⟩;have ky:l.length<=1048576:=by have:=HNL.out;omega
   have CE:=λ(W:World) (hW:aB w5 W)=>Aa (gF0 l pb W ky (HV.out.grows hW));have HATW:Hid (aG w5 aW 1 ((mQ l).map kI)):=(iI0 (λ_=>rfl) kh);have z0:∀x:Ext aB w5.drew,x.u.cell? ⟨pb,0,none⟩=some (.int .i64 n):=aF ((aB.drew w5).cell d0);have z1:∀x:Ext aB w5.drew,x.u.cell? ⟨pb,1,none⟩=some (.slice aW q cW):=aF ((aB.drew w5).cell d1);have HG5:=Aa bv;obtain⟨R,hR⟩:=exq (n%64);have eR:(n:Int)%64=R:=by omega
   have eRt:(n:Int).tmod 64=R:=by rw[Bi (by omega)];exact eR
   have HR:=Aa hR;clear CC c0 c1 c2 f1 f2 aa gl hj lf cv kh je g2 abq hR hg bv d0 d1 ru;by_cases vm:R=0
   ·subst vm
    go_wp2_with fail
    refine bK (oK [0,1,2,3,4,5,6,7,8,9,10,11,12,13,14,15,16,17,18,19,20,21,22,23,24,26,25,27,28,29] [25,27]) (by kernel_rfl) (λd _ _ _ _ h=>by cases d<;>exact h) ?_
    iterate 26 (refine aH rfl (λK hK=>?_);go_simp;refine hK _ ?_;clear hK K)
    clear z0 z1;refine bH rfl rfl (λK hK=>?_);go_simp;refine((CE _ (aB.drew w5)).out).mono ?_;rintro e w8 ⟨v8,rfl,vs,fh⟩;refine⟨fh,hK _ _ ?_⟩;clear hK K;obtain⟨a8,c8,rfl,_,_,ma⟩:=vs.at_ bJ.len;have mf:aB w w8:=HG5.out.dr.tr fh;have CQ:=Aa (mH (oT l) (oT l) a8 (some ⟨bb,bo,none⟩) c8 bc w8 ma (HAT.out.grows mf));rw[<-HN.out]at CQ ⊢;simp only[decide_true]at CQ;have HV8:=Aa (HV.out.grows ((aB.drew w5).tr fh));clear vs ma fh;refine bH rfl rfl (λK hK=>?_);go_simp;refine(CQ.out).mono ?_;rintro e w9 ⟨rfl,rfl⟩;refine⟨aB.refl _,hK _ _ ?_⟩;clear hK K;iterate 2 (refine aH rfl (λK hK=>?_);go_simp;refine hK _ ?_;clear hK K)
    refine cB ?_;go_wp2
    go_ret2;exact⟨pb,rfl,HV8.out,mf⟩
   ·have hRi:((R:Int)==0)=false:=by simp;omega
    have hRn:((R:Int) != 0)=true:=by simp;omega
    have hq0:0<q:=by have:=HQ.out;have:=HR.out;omega
    obtain⟨Q1,hQ1⟩:=exq (q-1);obtain⟨bW,oW,rfl,yu⟩:=at1 (f:=λn:Nat=>Value.int .u64 n) HATW.out (aK (k:=0) (by rw[gI];have:=HQ.out;have:=HNL.out;omega));have gn:=yu Q1 _ (pR (by have:=HQ.out;have:=HNL.out;omega))
    have ac1:nH l Q1/2^R=0:=by
     have h:=gO1 (l:=l) (q:=Q1) (by have:=HQ.out;have:=HNL.out;omega) (by have:=HQ.out;have:=HNL.out;have:=HR.out;omega) (by have:=HNL.out;have:=HR.out;omega);rw[<-HNL.out,<-HR.out]at h;exact h
    obtain⟨x,hx⟩:=exq (nH l Q1);rw[<-hx]at gn ac1;have ji:x<18446744073709551616:=by rw[hx];exact pM l Q1
    have hsh:(x:Int)/2^R=0:=by
     have:(x:Int)/2^R=((x/2^R:Nat):Int):=by push_cast;rfl
     rw[this,ac1];rfl
    have wQ1:IntKind.i64.wrap ((q:Int)-1)=Q1:=by have:=rF (x:=Q1) (by omega);rw[<-this];congr 1;omega
    have ur:Q1<q:=by omega
    have hQi:(Q1:Int)<q:=by omega
    have aj3:R<64:=by have:=HR.out;omega
    have hRm:min R 64=R:=by omega
    have z2:∀x':Ext aB w5.drew,x'.u.cell? ⟨bW,oW+Q1,none⟩=some (.int .u64 x):=aF ((aB.drew w5).cell gn);clear yu gn hx ac1 HATW hQ1 hq0;go_wp2_with fail
    refine bK (oK [0,1,2,3,4,5,6,7,8,9,10,11,12,13,14,15,16,17,18,19,20,21,22,23,24,26,25,27,28,29] [25,27]) (by kernel_rfl) (λd _ _ _ _ h=>by cases d<;>exact h) ?_
    iterate 26 (refine aH rfl (λK hK=>?_);go_simp;refine hK _ ?_;clear hK K)
    clear z0 z1 z2;refine bH rfl rfl (λK hK=>?_);go_simp;refine((CE _ (aB.drew w5)).out).mono ?_;rintro e w8 ⟨v8,rfl,vs,fh⟩;refine⟨fh,hK _ _ ?_⟩;clear hK K;obtain⟨a8,c8,rfl,_,_,ma⟩:=vs.at_ bJ.len;have mf:aB w w8:=HG5.out.dr.tr fh;have CQ:=Aa (mH (oT l) (oT l) a8 (some ⟨bb,bo,none⟩) c8 bc w8 ma (HAT.out.grows mf));rw[<-HN.out]at CQ ⊢;simp only[decide_true]at CQ;have HV8:=Aa (HV.out.grows ((aB.drew w5).tr fh));clear vs ma fh;refine bH rfl rfl (λK hK=>?_);go_simp;refine(CQ.out).mono ?_;rintro e w9 ⟨rfl,rfl⟩;refine⟨aB.refl _,hK _ _ ?_⟩;clear hK K;iterate 2 (refine aH rfl (λK hK=>?_);go_simp;refine hK _ ?_;clear hK K)
    refine cB ?_;go_wp2
    go_ret2;exact⟨pb,rfl,HV8.out,mf⟩
end
section
open Go Go.RowKit Go.Shelf
attribute [local go_sem] aO aM
theorem bE1 (L:List (List UInt8)) (tb i:Nat) (w:World) (ag:OkL L) (hl:L.length<=20000) (hc:eA L<=524287) (hi:i<(nodesA L).length) (ac:fB w tb L) :
  Calls Tryz.prog 225 #[.pointer (some ⟨tb,0,none⟩),.int .i64 i] w λe w'=>e=.returned (.tuple #[.int .i64 (offA L i:Nat),.int .i64 (offA L (i+1):Nat)])/\aB w w':=by
 obtain⟨z1,z2,_,_,_⟩:=ag.sizes hl hc;obtain⟨sb,s1,s2⟩:=ac.s
 have vr:(shapeL L (nodesA L)).length=2*(nodesA L).length+1:=by
  have h:=eY L (nodesA L).length (Ak _);rw[Aw,ag.off_all]at h;omega
 obtain⟨p1,p2,p3⟩:=uP (L:=L) (i:=i) (by omega);obtain⟨r1,r2,_⟩:=uP (L:=L) (i:=i+1) (by omega);have ho1:=ag.off_le i;have ho2:=ag.off_le (i+1);have hm:=mX (L:=L) (show i<=i+1 by omega)
 have CS1:=λ(u:World) (hu:aB w u)=>Aa (uR (shapeL L (nodesA L)) sb false (offA L i+i) i u z1 (by omega) p1 p2 (s2.grows hu));have CS2:=λ(u:World) (hu:aB w u)=>Aa (uR (shapeL L (nodesA L)) sb false (offA L (i+1)+(i+1)) (i+1) u z1 (by omega) r1 r2 (s2.grows hu))
 have CR:∀u,aB w u->Hid (Calls Tryz.prog 123 #[.pointer (some ⟨sb,0,none⟩),.bool true,.int .i64 (offA L i+i+1:Nat)] u λe w'=>e=.returned (.int .i64 (offA L i:Nat))/\u=w'):=λu hu=>by
  have h:=qK (shapeL L (nodesA L)) sb true (offA L i+i+1) u z1 (by omega) (s2.grows hu);rw[show min (offA L i+i+1) (shapeL L (nodesA L)).length=offA L i+i+1 by omega,p3]at h
  exact h
 obtain⟨A,hA⟩:=exq (offA L i);obtain⟨B,hB⟩:=exq (offA L (i+1));rw[<-hA]at CS1 CR ho1 hm ⊢;rw[<-hB]at CS2 ho2 hm ⊢;obtain⟨P,hP⟩:=exq (A+i);obtain⟨F,hF⟩:=exq (A+i+1);obtain⟨T,hT⟩:=exq (B+(i+1));obtain⟨j,hj⟩:=exq (i+1);rw[<-hP]at CS1;rw[<-hF]at CR;rw[<-hj]at hT;rw[<-hj,<-hT]at CS2
 have hN:(nodesA L).length<=524287:=by
  have:=fH ag.asc ag.len
  omega
 have w1:IntKind.i64.wrap ((P:Int)+1)=F:=by simp[Ag,Ah,Ae];omega
 have w2:IntKind.i64.wrap ((i:Int)+1)=j:=by simp[Ag,Ah,Ae];omega
 have w3:IntKind.i64.wrap ((A:Int)+T)=(A:Int)+T:=by simp[Ag,Ah,Ae];omega
 have w4:IntKind.i64.wrap ((A:Int)+T-F)=B:=by simp[Ag,Ah,Ae];omega
 clear hP hF hT hj hA hB p1 p2 p3 r1 r2 ac s2 vr z1 z2;go_enter Tryz.func225,Tryz.ntmps225
 go_wp2_with fail
 refine(CS1 w (aB.refl w)).out.mono ?_;rintro e w1' ⟨rfl,an⟩;have s1a:=an.cell s1;go_wp2_with fail
 refine(CS2 w1' an).out.mono ?_;rintro e w2' ⟨rfl,af⟩;have hg:=an.tr af;have s1b:=hg.cell s1;clear s1a an af CS1 CS2 s1;go_wp2_with fail
 refine(CR w2' hg).out.mono ?_;rintro e w3' ⟨rfl,rfl⟩;clear CR;go_wp2_with fail
 go_ret2;exact⟨rfl,hg⟩
theorem iO0 (L:List (List UInt8)) (tb i:Nat) (c:UInt8) (w:World) (ag:OkL L) (hl:L.length<=20000) (hc:eA L<=524287) (hi:i<(nodesA L).length) (ac:fB w tb L) :
  Calls Tryz.prog 165 #[.pointer (some ⟨tb,0,none⟩),.int .i64 i,.int .u8 (c.toNat:Nat)] w λe w'=>∃(k:Nat) (b:Bool),e=.returned (.tuple #[.int .i64 k,.bool b])/\jZ1 L i c k b/\aB w w':=by
 obtain⟨x,hx⟩:∃x,(nodesA L)[i]?=some x:=⟨_,Ac hi⟩;have CK:=λ(u:World) (hu:aB w u)=>Aa (bE1 L tb i u ag hl hc hi (ac.grows hu));obtain⟨_,_,z3,_,_⟩:=ag.sizes hl hc;obtain⟨vL,l1,l2⟩:=ac.l;obtain⟨aL,cL,rfl,_,_,j9⟩:=l2.at_ bJ.len;have HATL:=Aa j9;obtain⟨ln,xy⟩:=exq ((labelsL L (nodesA L)).length);rw[<-xy]at l1;have HLN:=Aa xy;have ho2:=ag.off_le (i+1)
 have hN:(nodesA L).length<=524287/\ln+1=(nodesA L).length:=by
  have:=fH ag.asc ag.len
  refine⟨by omega,?_⟩;rw[xy,ag.labels,Af,Bb];omega
 have HX:=Aa hx;have HOK:=Aa ag;obtain⟨A,hA⟩:=exq (offA L i);obtain⟨B,hB⟩:=exq (offA L (i+1));rw[<-hA,<-hB]at CK;rw[<-hB]at ho2;have hA1:1<=A:=by rw[hA];exact OkL.off_pos i
 have START:Hid (pB L i c A B):=by
  rw[hA,hB];exact Aa (pB.start L i c)
 have HB:=Aa hB;have HA:=Aa hA;clear hx ac l2 j9 xy hA hB hl hc;go_enter Tryz.func165,Tryz.ntmps165
 go_wp2_with fail
 refine(CK w (aB.refl w)).out.mono ?_;rintro e w1 ⟨rfl,an⟩;have G1:=Aa an;clear an;go_wp2_with fail
 go_loopw [8,9] (λf t wr=>∃F T:Nat,f=.int .i64 F/\t=.int .i64 T/\T<=B/\1<=F/\F<=T/\Hid (pB L i c F T)/\Hid (aB w wr)) (λf t _=>(intOf t).toNat-(intOf f).toNat)
 case atStart=>exact⟨A,B,rfl,rfl,Ak _,hA1,START.out.le,START.out,G1.out⟩
 case round =>
  clear START;obtain⟨F,T,rfl,rfl,hTB,hF1,hFT,hI,hG⟩:=hrel;have l1r:=hG.out.cell l1;by_cases ae:F<T
  ·have dp:(F:Int)<T:=by omega
   obtain⟨M,hM⟩:=exq ((F+T)/2);obtain⟨M1,ux⟩:=exq (M-1);have wFT:IntKind.i64.wrap ((F:Int)+T)=(F:Int)+T:=by simp[Ag,Ah,Ae];omega
   have eM:((F:Int)+T)/2=M:=by omega
   have wM1:IntKind.i64.wrap ((M:Int)-1)=M1:=by simp[Ag,Ah,Ae];omega
   have hFM:F<=M:=by omega
   have hMT:M<T:=by omega
   obtain⟨d,hd⟩:=HOK.out.lab_get HX.out (k:=M) (Ch hI.out.lo hFM) (by rw[<-HB.out];omega);rw[<-ux]at hd;obtain⟨lb,lo,rfl,ci⟩:=at1 (f:=λb:UInt8=>Value.int .u8 b.toNat) (HATL.out.grows hG.out) (Bf (Aj hd));have hlc:=ci M1 d hd;have ah4:(M1:Int)<ln:=by omega
   have HD:=Aa hd;have HM1:=Aa ux;have ya:M<=524287:=by omega
   clear ci hd hM ux;by_cases vt:d.toNat<c.toNat
   ·have hdi:(d.toNat:Int)<c.toNat:=by omega
    have hI2:=Aa (hI.out.less HOK.out HX.out hFM hMT (by rw[<-HM1.out];exact HD.out) vt);obtain⟨M2,hM2⟩:=exq (M+1);have wM2:IntKind.i64.wrap ((M:Int)+1)=M2:=by simp[Ag,Ah,Ae];omega
    rw[<-hM2]at hI2;go_wp2_with fail
    go_roundw
    case rel=>exact⟨M2,T,by go_num,rfl,hTB,by omega,by omega,hI2.out,hG.out⟩
    case measure=>simp[intOf];omega
   ·have hdi:¬(d.toNat:Int)<c.toNat:=by omega
    have hI2:=Aa (hI.out.more HOK.out HX.out hFM hMT (by rw[<-HM1.out];exact HD.out) vt);go_wp2_with fail
    go_roundw
    case rel=>exact⟨F,M,rfl,by go_num,by omega,hF1,hFM,hI2.out,hG.out⟩
    case measure=>simp[intOf];omega
  ·have dp:¬(F:Int)<T:=by omega
   obtain rfl:F=T:=by omega
   have CK2:=CK wr hG.out;clear CK;go_wp2_with fail
   refine CK2.out.mono ?_;rintro e w2 ⟨rfl,af⟩;have qu:=hG.out.tr af;have l1s:=qu.cell l1;by_cases hFB:F<B
   ·have ah5:(F:Int)<B:=by omega
    obtain⟨M1,ux⟩:=exq (F-1);have wM1:IntKind.i64.wrap ((F:Int)-1)=M1:=by simp[Ag,Ah,Ae];omega
    obtain⟨d,hd⟩:=HOK.out.lab_get HX.out (k:=F) hI.out.lo (by rw[<-HB.out];omega);rw[<-ux]at hd;obtain⟨lb,lo,rfl,ci⟩:=at1 (f:=λb:UInt8=>Value.int .u8 b.toNat) (HATL.out.grows qu) (Bf (Aj hd));have ah4:(M1:Int)<ln:=by omega
    have y0:∀y:Ext aB w2.drew,y.u.cell? ⟨lb,lo+M1,none⟩=some (.int .u8 d.toNat):=aF ((aB.drew w2).cell (ci M1 d hd));have y1:∀y:Ext aB w2.drew,y.u.cell? ⟨tb,2,none⟩=some (.slice (some ⟨lb,lo,none⟩) ln cL):=aF ((aB.drew w2).cell l1s);have HD:=Aa hd;have HM1:=Aa ux;by_cases vt:d=c
    ·have RES:Hid (jZ1 L i c F true):=hI.out.hit (by rw[<-HB.out];exact hFB) (by rw[<-HM1.out,<-vt];exact HD.out)
     have hdi:((d.toNat:Int)==c.toNat)=true:=by rw[vt];simp
     clear ci hd ux l1s l1r vt hI;go_wp2_with fail
     refine bK (bB 18 []) (by kernel_rfl) (λd _ _ _ _ h=>by cases d<;>exact h) ?_
     iterate 18 (refine aH rfl (λK hK=>?_);go_simp;refine hK _ ?_;clear hK K)
     refine cB ?_;clear y0 y1;go_wp2
     go_ret2;exact⟨F,true,rfl,RES.out,qu.dr⟩
    ·have RES:Hid (jZ1 L i c F false):=hI.out.miss HOK.out HX.out (by rw[<-HB.out];exact hFB) (by rw[<-HM1.out];exact HD.out) vt
     have hdi:((d.toNat:Int)==c.toNat)=false:=by
      rw[beq_eq_false_iff_ne];intro h;exact vt (UInt8.toNat_inj.1 (by omega))
     clear ci hd ux l1s l1r vt hI;go_wp2_with fail
     refine bK (bB 18 []) (by kernel_rfl) (λd _ _ _ _ h=>by cases d<;>exact h) ?_
     iterate 18 (refine aH rfl (λK hK=>?_);go_simp;refine hK _ ?_;clear hK K)
     refine cB ?_;clear y0 y1;go_wp2
     go_ret2;exact⟨F,false,rfl,RES.out,qu.dr⟩
   ·have ah5:¬(F:Int)<B:=by omega
    have RES:Hid (jZ1 L i c F false):=hI.out.ends (by rw[<-HB.out];exact hFB);clear hI l1r;go_wp2_with fail
    refine bK (bB 18 []) (by kernel_rfl) (λd _ _ _ _ h=>by cases d<;>exact h) ?_
    iterate 18 (refine aH rfl (λK hK=>?_);go_simp;refine hK _ ?_;clear hK K)
    refine cB ?_;go_wp2
    go_ret2;exact⟨F,false,rfl,RES.out,qu.dr⟩
theorem xN0 (L:List (List UInt8)) (tb i:Nat) (s:List UInt8) (w:World) (ag:OkL L) (hl:L.length<=20000) (hc:eA L<=524287) (hn:gS L s i) (ac:fB w tb L) :
  Calls Tryz.prog 166 #[.pointer (some ⟨tb,0,none⟩),.int .i64 i] w λe w'=>e=.returned (.tuple #[.int .i64 ((kD L s).1:Nat),.bool (kD L s).2])/\aB w w':=by
 obtain⟨x,hx,rfl⟩:=hn;have up:=(List.getElem?_eq_some_iff.1 hx).1;have hf:=ag.find_node hx;obtain⟨_,z2,_,z4,z5⟩:=ag.sizes hl hc;obtain⟨ib,i1,i2⟩:=ac.i;obtain⟨pb,d1,d2⟩:=ac.d
 have hN:(nodesA L).length<=524287:=by
  have:=fH ag.asc ag.len
  omega
 have CG:=Aa (gJ0 (isL L (nodesA L)) ib i w (by omega) i2);rw[fF0 hx]at CG;by_cases hh:jB L x=true
 ·rw[if_pos hh]at hf
  rw[hf];rw[hh]at CG;have hid:=rL0 hx hh;have aj4:(isL L (nodesA L)).length=(nodesA L).length:=by unfold isL;rw[Af]
  obtain⟨k,hk⟩:=exq (eC (isL L (nodesA L)) i);rw[<-hk]at hid
  have CR:∀u,aB w u->Hid (Calls Tryz.prog 123 #[.pointer (some ⟨ib,0,none⟩),.bool true,.int .i64 i] u λe w'=>e=.returned (.int .i64 (k:Nat))/\u=w'):=λu hu=>by
   have h:=qK (isL L (nodesA L)) ib true i u (by omega) (by omega) (i2.grows hu);rw[show min i (isL L (nodesA L)).length=i by omega]at h
   rw[hk];exact h
  have CP:=λ(u:World) (hu:aB w u)=>Aa (sH (idsL L (nodesA L)) pb k x.i u (d2.grows hu) (by omega) (λn hn=>by have:=z5 n hn;omega) hid);have z0:∀y:Ext aB w.drew,y.u.cell? ⟨tb,3,none⟩=some (.pointer (some ⟨pb,0,none⟩)):=aF ((aB.drew w).cell d1);have z1':∀y:Ext aB w.drew,y.u.cell? ⟨tb,1,none⟩=some (.pointer (some ⟨ib,0,none⟩)):=aF ((aB.drew w).cell i1);have hx5:x.i<=20000:=z5 _ (Aj hid);have wx:IntKind.i64.wrap ((x.i:Nat):Int)=(x.i:Nat):=by simp[Ag,Ah,Ae];omega
  clear ac d2 i2 hid hx hk hf ag;go_enter Tryz.func166,Tryz.ntmps166
  go_wp2_with fail
  refine CG.out.mono ?_;rintro e w1 ⟨rfl,rfl⟩;go_wp2_with fail
  refine bK (bB 16 [10]) (by kernel_rfl) (λd _ _ _ _ h=>by cases d<;>exact h) ?_
  iterate 9 (refine aH rfl (λK hK=>?_);go_simp;refine hK _ ?_;clear hK K)
  refine aH rfl (λK hK=>?_);go_simp;apply Exists.intro
  refine⟨λx=>?_,hK _ ?_⟩
  ·go_at_call 123;exact dU (CR _ ((aB.drew w).tr x.h)).out
  clear hK K;clear z0 z1';refine bH rfl rfl (λK hK=>?_);go_simp;refine((CP w.drew (aB.drew w)).out).mono ?_;rintro e w2 ⟨rfl,af⟩;refine⟨af,hK _ _ ?_⟩;clear hK K;iterate 5 (refine aH rfl (λK hK=>?_);go_simp;refine hK _ ?_;clear hK K)
  refine cB ?_;go_wp2
  go_ret2;exact⟨rfl,(aB.drew w).tr af⟩
 ·rw[if_neg hh]at hf
  rw[hf];rw[show jB L x=false by simpa using hh]at CG
  clear ac d2 i2 hx hf ag;go_enter Tryz.func166,Tryz.ntmps166
  go_wp2_with fail
  refine CG.out.mono ?_;rintro e w1 ⟨rfl,rfl⟩;go_wp2
  go_ret2;exact⟨rfl,aB.refl _⟩
theorem zR0 (L:List (List UInt8)) (tb:Nat) (s:ByteArray) (w:World) (ag:OkL L) (hl:L.length<=20000) (hc:eA L<=524287) (hs:s.size<=9223372036854775807) (ac:fB w tb L) :
  Calls Tryz.prog 168 #[.pointer (some ⟨tb,0,none⟩),.string s] w λe w'=>∃(k:Nat) (b:Bool),e=.returned (.tuple #[.int .i64 k,.bool b])/\jQ0 L (bl s) k b/\aB w w':=by
 have HOK:=Aa ag;have CD:=λ(i:Nat) (c:UInt8) (hi:i<(nodesA L).length) (u:World) (hu:aB w u)=>Aa (iO0 L tb i c u ag hl hc hi (ac.grows hu));clear ac ag;go_enter Tryz.func168,Tryz.ntmps168
 go_wp2_with fail
 go_loopw [6,7,8] (λf b i wr=>∃(k j:Nat) (ok:Bool),f=.int .i64 k/\b=.bool ok/\i=.int .i64 j/\j<=s.size/\Hid (jQ0 L ((bl s).take j) k ok)/\Hid (aB w wr)) (λ_ _ i _=>s.size-(intOf i).toNat)
 case atStart=>exact⟨0,0,true,rfl,rfl,rfl,Aq _,⟨λ_=>HOK.out.isRoot,λh=>by cases h⟩,aB.refl _⟩
 case round =>
  obtain⟨k,j,ok,rfl,rfl,rfl,hj,hW,hG⟩:=hrel;by_cases ae:j<s.size
  ·have dp:(j:Int)<s.size:=by omega
   cases ok with
   | true =>
    have hcj:(bl s)[j]?=some s[j]:=pP ae;have CD1:=CD k s[j] (hW.out.1 rfl).lt wr hG.out;have HC:=Aa hcj;clear CD hcj;go_wp2_with fail
    refine CD1.out.mono ?_;rintro e w1 ⟨k1,b1,rfl,hd,an⟩;have HW1:=Aa (HOK.out.down_to (hW.out.1 rfl) hd);rw[<-bM HC.out]at HW1;go_wp2_with fail
    go_roundw
    case rel=>exact⟨k1,j+1,b1,rfl,rfl,by go_num,ae,HW1.out,hG.out.tr an⟩
    case measure=>simp[intOf];omega
   | false =>
    have HW1:=Aa (HOK.out.walk_stop hW.out);go_wp2_with fail
    go_ret2;exact⟨k,false,rfl,HW1.out,hG.out⟩
  ·have dp:¬(j:Int)<s.size:=by omega
   obtain rfl:j=s.size:=by omega
   have HW1:=hW.out;rw[At (by rw[dO];exact Ak _)]at HW1
   cases ok with
   | true =>
    go_wp2_with fail
    go_ret2;first|exact⟨k,true,rfl,HW1,hG.out⟩|exact⟨k,.inr ⟨rfl,HW1,hG.out⟩⟩
   | false =>
    go_wp2_with fail
    go_ret2;first|exact⟨k,false,rfl,HW1,hG.out⟩|exact⟨k,.inl ⟨rfl,HW1,hG.out⟩⟩
theorem qJ1 (n:Nat) (h:n<4294967296):∃b0 b1 b2 b3:Nat,leB 4 n=[Al b0,Al b1,Al b2,Al b3]/\b0<256/\b1<256/\b2<256/\b3<256/\n=b0+b1*256+b2*65536+b3*16777216:=by
 refine⟨n%256,n/256%256,n/65536%256,n/16777216%256,?_,by omega,by omega,by omega,by omega,by omega⟩;unfold leB;simp[Ba,List.range.loop,bT0]
def sA (Ps:List (List UInt8)) (k:Nat):List UInt8:=(Ps.drop k).flatMap fC
theorem hT0 {Ps:List (List UInt8)} {k:Nat} {b:List UInt8} (h:Ps[k]?=some b):sA Ps k=leB 4 b.length++(b++sA Ps (k+1)):=by
 unfold sA;have hk:=(List.getElem?_eq_some_iff.1 h).1;rw[Bk hk,(List.getElem?_eq_some_iff.1 h).2,Az,fC,Ar]
theorem qR0:∀(l:List (List UInt8)),(∀b∈l,b.length<=1000000000)->(l.flatMap fC).length<=l.length*1000000004
 | [],_=>by simp
 | b::l,h=>by
  have h1:=qR0 l (by simp_all);have h2:=h b List.mem_cons_self;rw[Az,Ab,fC,Ab,bN,Bp];omega
theorem EB.set1 {B:Nat} {w:World} {p:Addr} (h:B<=p.block) (v:Value):EB B w (w.setCell p v):=⟨Below.setCell (Below.refl _ _) h v,by simp⟩
structure qY0 (w:World) (v:Value) (b:List UInt8):Prop where
 out:∃a c,v=.slice a b.length c/\b.length<=c/\(a=none->c=0)/\aG w a 1 (b.map aY)
theorem qY0.grows {w w':World} {v:Value} {b:List UInt8} (h:qY0 w v b) (hg:aB w w'):qY0 w' v b:=by
 obtain⟨a,c,h1,h2,h3,h4⟩:=h.out;exact⟨a,c,h1,h2,h3,h4.grows hg⟩
theorem tW0 (P0 P1 P2 P3:List UInt8) (a:Option Addr) (c:Nat) (w:World) (h0:P0.length<=1000000000) (h1:P1.length<=1000000000) (h2:P2.length<=1000000000) (h3:P3.length<=1000000000)
  (hc:(sA [P0,P1,P2,P3] 0).length<=c) (ac:aG w a 1 ((sA [P0,P1,P2,P3] 0).map aY)) :
  Calls Tryz.prog 148 #[.slice a (sA [P0,P1,P2,P3] 0).length c] w λe w'=>∃v0 v1 v2 v3,e=.returned (.tuple #[.agg #[v0,v1,v2,v3],.bool true])/\qY0 w' v0 P0/\qY0 w' v1 P1/\qY0 w' v2 P2/\qY0 w' v3 P3/\aB w w':=by
 have ah:∀(k:Nat) (b:List UInt8),[P0,P1,P2,P3][k]?=some b->b.length<=1000000000:=λk b hb=>by
  match k,hb with
  | 0,hb =>
   obtain rfl:P0=b:=by simpa using hb
   exact h0
  | 1,hb =>
   obtain rfl:P1=b:=by simpa using hb
   exact h1
  | 2,hb =>
   obtain rfl:P2=b:=by simpa using hb
   exact h2
  | 3,hb =>
   obtain rfl:P3=b:=by simpa using hb
   exact h3
  | k+4,hb=>simp at hb
 have aj:sA [P0,P1,P2,P3] 0≠[]:=by
  rw[hT0 (k:=0) rfl];intro e
  have:=congrArg By e
  rw[Ab,bN]at this;simp at this
 obtain⟨ba,bo,rfl,_⟩:=at1 (f:=λx:UInt8=>Value.int .u8 x.toNat) ac aj;have START:Hid (qY0 w (.slice (some ⟨ba,bo,none⟩) (sA [P0,P1,P2,P3] 0).length c) (sA [P0,P1,P2,P3] 0)):=⟨_,c,rfl,hc,(λh=>by cases h),ac⟩;have HLEN:=Aa ah;obtain⟨Ps,hPs⟩:=exq ([P0,P1,P2,P3]);rw[<-hPs]at START HLEN hc ⊢;have HPS:=Aa hPs;have HL4:Hid (Ps.length=4):=by show _=_;rw[hPs];rfl
 obtain⟨pb,ed⟩:=exq w.heap.size;obtain⟨W1,bi⟩:=exq (w.alloc (.cells #[.slice none 0 0,.slice none 0 0,.slice none 0 0,.slice none 0 0] 243));have an:aB w W1:=by rw[bi];exact aB.alloc _ _
 have cd:Hid (∃f,rJ W1 pb 4 f):=by
  have h:=gJ1 (m:=4) (aB.refl (w.alloc (.cells #[.slice none 0 0,.slice none 0 0,.slice none 0 0,.slice none 0 0] 243))) rfl;rw[<-bi,<-ed]at h;exact⟨_,h⟩
 have HPB:=Aa ed;clear ac ah h0 h1 h2 h3 hPs aj hc;go_enter Tryz.func148,Tryz.ntmps148
 go_wp2_with fail
 rw[<-bi,<-ed];clear bi ed;go_loopw [0,6] (λvb vi wr=>∃k:Nat,k<=4/\vi=.int .i64 k/\Hid (qY0 w vb (sA Ps k))/\Hid (∃f,rJ wr pb 4 f/\∀j b,j<k->Ps[j]?=some b->qY0 w (f j) b)/\Hid (aB w wr)) (λ_ vi _=>4-(intOf vi).toNat)
 case atStart=>exact⟨0,by omega,rfl,START.out,by obtain⟨f,hf⟩:=cd.out;exact⟨f,hf,λj b h=>by omega⟩,an⟩
 case round =>
  clear START cd an;obtain⟨k,hk,rfl,hS,hR,hG⟩:=hrel;by_cases ae:k<4
  ·have cn:(k:Int)<4:=by omega
   obtain⟨b,hb⟩:∃b,Ps[k]?=some b:=⟨_,Ac (by rw[HL4.out];exact ae)⟩;have HB:=Aa hb;have gm:=HLEN.out k b hb;have HRS:=Aa (hT0 hb);obtain⟨a,c',rfl,o9,hc2,ac⟩:=hS.out;obtain⟨R,hRe⟩:=exq (sA Ps k);obtain⟨R2,ti⟩:=exq (sA Ps (k+1));obtain⟨n,hn⟩:=exq b.length;rw[<-hRe]at o9 ac HRS ⊢;rw[<-ti,<-hn]at HRS;rw[<-hn]at gm;have HR2:=Aa ti;have HN:=Aa hn;obtain⟨RL,hRL⟩:=exq R.length;have aay:RL=4+(n+R2.length):=by rw[hRL,HRS.out,Ab,Ab,bN,hn]
   have aj5:RL<=4000000016:=by
    have h:=qR0 (Ps.drop k) λx hx=>by
     obtain⟨j,hj⟩:=List.mem_iff_getElem?.1 (List.mem_of_mem_drop hx);exact HLEN.out j x hj
    rw[Bb,HL4.out]at h;have h2:RL=((Ps.drop k).flatMap fC).length:=by rw[hRL,hRe];rfl
    omega
   have wRL:IntKind.i64.wrap ((RL:Int)-4)=(RL:Int)-4:=by have:=rF (x:=RL-4) (by omega);rw[Int.natCast_sub (by omega)]at this;exact this
   obtain⟨b0,b1,b2,b3,fe,h0,h1,h2,h3,ff⟩:=qJ1 n (by omega);obtain⟨bb,bo',rfl,bh⟩:=at1 (f:=λx:UInt8=>Value.int .u8 x.toNat) (ac.grows hG.out) (Bn (by omega));have tN:∀x:Nat,x<256->((Al x).toNat:Int)=x:=λx hx=>by simp;omega
   have hRh:R=[Al b0,Al b1,Al b2,Al b3]++(b++R2):=by rw[HRS.out,fe]
   have q0:wr.cell? ⟨bb,bo',none⟩=some (.int .u8 b0):=by have:=bh 0 (Al b0) (by rw[hRh];rfl);rw[tN _ h0]at this;exact this
   have q1:wr.cell? ⟨bb,bo'+1,none⟩=some (.int .u8 b1):=by have:=bh 1 (Al b1) (by rw[hRh];rfl);rw[tN _ h1]at this;exact this
   have q2:wr.cell? ⟨bb,bo'+2,none⟩=some (.int .u8 b2):=by have:=bh 2 (Al b2) (by rw[hRh];rfl);rw[tN _ h2]at this;exact this
   have q3:wr.cell? ⟨bb,bo'+3,none⟩=some (.int .u8 b3):=by have:=bh 3 (Al b3) (by rw[hRh];rfl);rw[tN _ h3]at this;exact this
   have z0:∀x:Ext aB wr.drew,x.u.cell? ⟨bb,bo',none⟩=some (.int .u8 b0):=aF ((aB.drew wr).cell q0);have z1:∀x:Ext aB wr.drew,x.u.cell? ⟨bb,bo'+1,none⟩=some (.int .u8 b1):=aF ((aB.drew wr).cell q1);have z2:∀x:Ext aB wr.drew,x.u.cell? ⟨bb,bo'+2,none⟩=some (.int .u8 b2):=aF ((aB.drew wr).cell q2);have z3:∀x:Ext aB wr.drew,x.u.cell? ⟨bb,bo'+3,none⟩=some (.int .u8 b3):=aF ((aB.drew wr).cell q3);have i0:0<RL:=by omega
   have i1:(1:Int)<RL:=by omega
   have i2:(2:Int)<RL:=by omega
   have i3:(3:Int)<RL:=by omega
   have wi:∀x:Nat,x<256->IntKind.i64.wrap (x:Int)=x:=λx hx=>by simp[Ag,Ah,Ae];omega
   have w0:=wi b0 h0;have w1:=wi b1 h1;have w2:=wi b2 h2;have w3:=wi b3 h3;obtain⟨c1,c2,c3,s1,s2,m1,m2,m3,o1,o2,o3⟩:=zM0 h0 h1 h2 h3 ff;have aj6:¬(RL:Int)<4:=by omega
   have hge:¬(RL:Int)-4<n:=by omega
   have HGW:=Aa hG.out;have HRE:=Aa hRe;have HRL:=Aa hRL;have HLR:=Aa aay;have HAT:=Aa ac;rw[<-hRL]at o9 ⊢;clear ff bh tN fe hRh q0 q1 q2 q3 wi hb hRe ti hn hRL aay ac;go_wp2_with fail
   refine bK (bB 23 []) (by kernel_rfl) (λd _ _ _ _ h=>by cases d<;>exact h) ?_
   iterate 23 (refine aH rfl (λK hK=>?_);go_simp;refine hK _ ?_;clear hK K)
   refine cB ?_;clear z0 z1 z2 z3 i0 i1 i2 i3 w0 w1 w2 w3 m1 m2 m3 o1 o2 o3 h0 h1 h2 h3;obtain⟨T,hT⟩:=exq (4+n);have hTR:T<=RL:=by have:=HLR.out;omega
   have hT4:4<=T:=by omega
   have wT:IntKind.i64.wrap (4+(n:Int))=T:=by have:=rF (x:=T) (by omega);rw[<-this];congr 1;omega
   have hTc:(T:Int)<=c':=by omega
   have aj7:(T:Int)<=RL:=by omega
   have h4T:(4:Int)<=T:=by omega
   have hRc:(RL:Int)<=c':=by omega
   have hTn:T-4=n:=by omega
   have hRT:RL-T=R2.length:=by have:=HLR.out;omega
   obtain⟨a1,iw,ha1,jf⟩:=zD (l:=4) (h:=T) HAT.out hc2 hT4 (by rw[<-HRL.out];exact hTR) (by rw[<-HRL.out];exact o9);obtain⟨a2,ic,ha2,od⟩:=zD (l:=T) (h:=RL) HAT.out hc2 hTR (by rw[HRL.out];exact Ak _) (by rw[<-HRL.out];exact o9);rw[Am,jQ]at iw ic
   have e1:(R.take T).drop 4=b:=by
    rw[HRS.out,List.take_append,bN,At (by rw[bN];omega),show T-4=b.length by rw[<-HN.out];exact hTn,List.take_left,Ct (bN 4 n)]
   have e2:(R.take RL).drop T=R2:=by
    rw[HRL.out,Aw,HRS.out,<-Ar,Ct (by rw[Ab,bN,<-HN.out,hT])]
   rw[e1]at ha1;rw[e2]at ha2;have HA1:=Aa ha1;have HA2:=Aa ha2;obtain⟨f,cd,eu⟩:=hR.out;have rz:=cd.cell k ae;have ww:=cd.froz k;have HROW:=Aa cd;have HSET:=Aa eu;clear e1 e2 ha1 ha2 hT cd eu;go_wp2_with fail
   refine lV (EB w.heap.size) (bB 12 [10]) (EB.refl w.heap.size) (EB.trans w.heap.size) (by kernel_rfl) (by kernel_rfl) (λd _ _ _ _ h=>by cases d<;>exact h) ?_
   iterate 10 (refine aH rfl (λK hK=>?_);go_simp;refine hK _ ?_;clear hK K)
   have aj8:wr.drew.frozen? ⟨pb,k,none⟩=false:=ww;have aj9:wr.drew.cell? ⟨pb,k,none⟩=some (f k):=(aB.drew wr).cell rz;refine bH rfl rfl (λK hK=>?_);go_simp;refine⟨EB.set1 (show w.heap.size<=pb by have:=HPB.out;omega) _,hK _ _ ?_⟩
   clear hK K;iterate 1 (refine aH rfl (λK hK=>?_);go_simp;refine hK _ ?_;clear hK K)
   refine cB ?_;go_wp2_with fail
   go_roundw
   case rel =>
    refine⟨k+1,ae,by go_num,⟨a2,c'-T,by rw[<-HR2.out],by rw[<-HR2.out];omega,od,by rw[<-HR2.out];exact HA2.out⟩,⟨λj=>if j=k then .slice a1 n (c'-4) else f j,((HROW.out.set ae _).grows (aB.drew _)).grows (aB.drew _),λj b' hj hb'=>?_⟩,((hG.out.set (show w.heap.size<=pb by have:=HPB.out;omega) _).dr).dr⟩
    by_cases mw:j=k
    ·subst mw
     obtain rfl:b=b':=by have:=HB.out;rw[hb']at this;exact(Option.some.inj this).symm
     simp only[if_true];exact⟨a1,c'-4,by rw[<-HN.out],by rw[<-HN.out];omega,jf,HA1.out⟩
    ·simp only[if_neg mw]
     exact HSET.out j b' (by omega) hb'
   case measure=>simp[intOf];omega
  ·obtain rfl:k=4:=by omega
   obtain⟨f,cd,eu⟩:=hR.out;have hP:=HPS.out;have s0:=eu 0 P0 (by omega) (by rw[hP];rfl);have s1:=eu 1 P1 (by omega) (by rw[hP];rfl);have s2:=eu 2 P2 (by omega) (by rw[hP];rfl);have s3:=eu 3 P3 (by omega) (by rw[hP];rfl);have c0:=cd.cell 0 (by omega);have c1:=cd.cell 1 (by omega);have c2:=cd.cell 2 (by omega);have c3:=cd.cell 3 (by omega);have f0:=cd.froz 0;have f1:=cd.froz 1;have f2:=cd.froz 2;have f3:=cd.froz 3;obtain⟨a0,d0,e0,x0,y0,t0⟩:=s0.out;obtain⟨a1,d1,e1,x1,y1,t1⟩:=s1.out;obtain⟨a2,d2,e2,x2,y2,t2⟩:=s2.out;obtain⟨a3,d3,e3,x3,y3,t3⟩:=s3.out;rw[e0]at c0;rw[e1]at c1;rw[e2]at c2;rw[e3]at c3;have hr4:sA Ps 4=[]:=by rw[hP];rfl
   have hS4:=hS.out;rw[hr4]at hS4;obtain⟨a,c',rfl,_,_,_⟩:=hS4.out;have H0:Hid (qY0 w (.slice a0 P0.length d0) P0):=⟨a0,d0,rfl,x0,y0,t0⟩;have H1:Hid (qY0 w (.slice a1 P1.length d1) P1):=⟨a1,d1,rfl,x1,y1,t1⟩;have H2:Hid (qY0 w (.slice a2 P2.length d2) P2):=⟨a2,d2,rfl,x2,y2,t2⟩;have H3:Hid (qY0 w (.slice a3 P3.length d3) P3):=⟨a3,d3,rfl,x3,y3,t3⟩;clear hR cd eu hP s0 s1 s2 s3 e0 e1 e2 e3 x0 x1 x2 x3 y0 y1 y2 y3 t0 t1 t2 t3 hr4 hS hS4;have hgs:∀ {u:World} (j:Nat) (v:Value),aB w u->aB w (u.setCell ⟨pb,j,none⟩ v):=λj v h=>h.set (show w.heap.size<=pb by have:=HPB.out;omega) v
   have hgf:=hgs 3 (.slice a3 P3.length d3) (hgs 2 (.slice a2 P2.length d2) (hgs 1 (.slice a1 P1.length d1) (hgs 0 (.slice a0 P0.length d0) hG.out)));have ne:∀i j:Nat,i≠j->(⟨pb,i,none⟩:Addr)≠⟨pb,j,none⟩:=λi j h e=>h (congrArg Addr.off e);obtain⟨W4,py⟩:=exq ((((wr.setCell ⟨pb,0,none⟩ (.slice a0 P0.length d0)).setCell ⟨pb,1,none⟩ (.slice a1 P1.length d1)).setCell ⟨pb,2,none⟩ (.slice a2 P2.length d2)).setCell ⟨pb,3,none⟩ (.slice a3 P3.length d3))
   have HK:Hid (W4.cell? ⟨pb,0,none⟩=some (.slice a0 P0.length d0)/\W4.cell? ⟨pb,1,none⟩=some (.slice a1 P1.length d1)/\W4.cell? ⟨pb,2,none⟩=some (.slice a2 P2.length d2)/\W4.cell? ⟨pb,3,none⟩=some (.slice a3 P3.length d3)):=by
    have ot:∀ {u:World} {i j:Nat} {v x:Value},i≠j->u.cell? ⟨pb,i,none⟩=some x->(u.setCell ⟨pb,j,none⟩ v).cell? ⟨pb,i,none⟩=some x:=λ{u i j v x} h hc=>(Ax u _ _ _ (λe=>ne i j h (by first|exact e|exact e.symm))).trans hc
    have sm:∀ {u:World} {i:Nat} {v x:Value},u.cell? ⟨pb,i,none⟩=some x->(u.setCell ⟨pb,i,none⟩ v).cell? ⟨pb,i,none⟩=some v:=λ{u i v x} hc=>Bo u _ _ hc;rw[py];exact⟨ot (by decide) (ot (by decide) (ot (by decide) (sm c0))),ot (by decide) (ot (by decide) (sm (ot (by decide) c1))),ot (by decide) (sm (ot (by decide) (ot (by decide) c2))),sm (ot (by decide) (ot (by decide) (ot (by decide) c3)))⟩
   rw[<-py]at hgf;go_wp2_with fail
   rw[<-py];obtain⟨k0,k1,k2,k3⟩:=HK.out;exact bodyPost_ret (v:=.tuple #[.agg #[.slice a0 P0.length d0,.slice a1 P1.length d1,.slice a2 P2.length d2,.slice a3 P3.length d3],.bool true]) (by simp[results,Tryz.results148,go_sem,k0,k1,k2,k3]) rfl ⟨_,_,_,_,rfl,H0.out.grows hgf,H1.out.grows hgf,H2.out.grows hgf,H3.out.grows hgf,hgf⟩
end
section
open Go Go.RowKit
def dT1 (L:List (List UInt8)) (k:Nat):Nat:=(Ba (k+1)).countP λq=>decide (offA L (q+1)<=k)
theorem yR0 {L:List (List UInt8)} {p k:Nat} (hp:p<=k) (h1:offA L p<=k) (h2:k<offA L (p+1)):dT1 L k=p:=by
 unfold dT1;rw[qP _ p (k+1) (λq _=>?_)]
 ·omega
 ·rw[Bool.eq_iff_iff]
  simp only[decide_eq_true_eq];constructor
  ·intro h
   apply Bj
   intro hc
   have:=mX (L:=L) (show p+1<=q+1 by omega)
   omega
  ·intro h
   have:=mX (L:=L) (show q+1<=p by omega)
   omega
def jI0 (L:List (List UInt8)) (m:Nat):List Nat:=(Ba m).map (dT1 L)
def yE (L:List (List UInt8)) (m:Nat):List Nat:=((nodesA L).take m).map (·.d)
theorem zQ0 (L:List (List UInt8)) (m:Nat):jI0 L (m+1)=jI0 L m++[dT1 L m]:=by
 unfold jI0;rw[Cq,Bu];rfl
theorem nO (L:List (List UInt8)) (m:Nat):(jI0 L m).length=m:=by simp[jI0]
theorem fN1 {L:List (List UInt8)} {m k:Nat} (h:k<m):(jI0 L m)[k]?=some (dT1 L k):=by
 unfold jI0;rw[Ad,An h];rfl
theorem lY0 {L:List (List UInt8)} {m:Nat} {y:dP} (h:(nodesA L)[m]?=some y):yE L (m+1)=yE L m++[y.d]:=by
 unfold yE;rw[Ci,h,Bu];rfl
theorem rF0 {L:List (List UInt8)} {m:Nat} (h:m<=(nodesA L).length):(yE L m).length=m:=by
 unfold yE;rw[Af,As];omega
theorem fM0 {L:List (List UInt8)} {m k:Nat} {y:dP} (h:k<m) (hy:(nodesA L)[k]?=some y):(yE L m)[k]?=some y.d:=by
 unfold yE;rw[Ad,Cg,if_pos h,hy];rfl
theorem OkL.depT_one {L:List (List UInt8)} (h:OkL L):yE L 1=[0]:=by
 rw[lY0 h.root0];rfl
theorem fH1 (L:List (List UInt8)):jI0 L 1=[0]:=by
 unfold jI0
 have:dT1 L 0=0:=by
  unfold dT1;have h:=mX (L:=L) (Aq 1);rw[sZ]at h;rw[List.countP_eq_zero];intro q hq;obtain rfl:q=0:=by simpa using hq
  simp;omega
 simp[this]
def lN (L:List (List UInt8)) (i:Nat):List ByteArray:=(Ba L.length).map λj=>if (jY L).getD j 0<i then mkB (nth L j) else ⟨#[]⟩
theorem sN (L:List (List UInt8)) (i:Nat):(lN L i).length=L.length:=by simp[lN]
theorem uI0 (L:List (List UInt8)):lN L 0=Bg L.length (⟨#[]⟩:ByteArray):=by
 apply Av
 intro j;unfold lN;rw[Ad,Bq];by_cases h:j<L.length
 ·rw[An h,if_pos h];simp
 ·rw[Ai (by simp;omega),if_neg h];rfl
theorem OkL.strTo_all {L:List (List UInt8)} (h:OkL L) {m:Nat} (hm:(nodesA L).length<=m):lN L m=L.map mkB:=by
 apply Av
 intro j;unfold lN;rw[Ad,Ad];by_cases hj:j<L.length
 ·rw[An hj,iX hj]
  obtain⟨i,x,hx,hh,o7⟩:=h.node hj;have hn:=jC h hj hx hh o7;have hi:=(List.getElem?_eq_some_iff.1 hx).1;simp only[Am];rw[Ap,hn,Bc,if_pos (by omega)]
 ·rw[Ai (by simp;omega),Ai (by omega)];rfl
theorem OkL.strTo_no {L:List (List UInt8)} (h:OkL L) {i:Nat} {x:dP} (hx:(nodesA L)[i]?=some x) (hh:jB L x=false):lN L (i+1)=lN L i:=by
 unfold lN;apply Cb
 intro j hj;rw[List.mem_range]at hj;obtain⟨k,y,hy,hh2,hyj⟩:=h.node hj;rw[Ap,jC h hj hy hh2 hyj,Bc]
 have aj:k≠i:=by
  rintro rfl;rw[hx]at hy;obtain rfl:=Option.some.inj hy;rw[hh]at hh2;cases hh2
 by_cases hk:k<i
 ·rw[if_pos (by omega),if_pos hk]
 ·rw[if_neg (by omega),if_neg hk]
theorem OkL.strTo_yes {L:List (List UInt8)} (h:OkL L) {i:Nat} {x:dP} (hx:(nodesA L)[i]?=some x) (hh:jB L x=true):lN L (i+1)=(lN L i).set x.i (mkB (spanS L x)):=by
 have hL:L[x.i]?=some (spanS L x):=(h.here_at hx x.i).2 ⟨hh,rfl⟩;have hxl:=(List.getElem?_eq_some_iff.1 hL).1;apply Av
 intro j;by_cases hj:j<L.length
 ·obtain⟨k,y,hy,hh2,hyj⟩:=h.node hj
  have hn:=jC h hj hy hh2 hyj;by_cases he:j=x.i
  ·subst he
   rw[Bs (by rw[sN];exact hj)];unfold lN;rw[Ad,An hj,Am]
   have cn:k=i:=by
    have e1:=(h.here_at hy x.i).2 ⟨hh2,hyj.symm⟩;rw[hL]at e1
    have:=(h.good hy).inj h.asc (h.good hx) (Option.some.inj e1).symm
    subst this;exact h.uniq hy hx
   rw[Ap,hn,Bc,if_pos (by omega),eE0 hL]
  ·rw[Bz (Ne.symm he)]
   unfold lN;rw[Ad,Ad,An hj,Am,Am,Ap,hn,Bc]
   have aj:k≠i:=by
    rintro rfl;rw[hx]at hy;obtain rfl:=Option.some.inj hy;exact he hyj.symm
   by_cases hk:k<i
   ·rw[if_pos (by omega),if_pos hk]
   ·rw[if_neg (by omega),if_neg hk]
 ·rw[Ai (by rw[sN];omega),Ai (by rw[Cp,sN];omega)]
theorem OkL.climb {L:List (List UInt8)} (h:OkL L) {X:Nat} {y:dP} (h0:0<X) (hy:(nodesA L)[X]?=some y):∃z c,(nodesA L)[dT1 L X]?=some z/\dT1 L X<X/\(labelsL L (nodesA L))[X-1]?=some c/\spanS L y=spanS L z++[c]/\y.d=z.d+1:=by
 obtain⟨p,z,hz,hpX,o1,o2,hm⟩:=h.parent h0 hy;have hs:=vE h.asc (h.good hz) hm;rw[yR0 (Br hpX) o1 o2];refine⟨z,_,hz,hpX,h.lab h0 hy,?_,jH0 L z y hm⟩;rw[hs];simp
theorem bR1 {d:Nat} {c:UInt8} {tl:List UInt8}:(Bg (d+1) (0:UInt8)++tl).set d c=Bg d 0++(c::tl):=by
 rw[List.replicate_succ',Ar,List.set_append_right _ _ (by simp)];simp
end
end Go.Proofs.YthgklnohcmaopaaGreatDoor
