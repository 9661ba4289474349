/- The texts BvE LoC TrE Txt LbP TriQ TriR GroP, one behind the other. -/
import Derived.Test.YtheiocndipepaaaGreatDoorKq32
import Derived.Test.YtheiocndipepaaaGreatDoorKq35
import Derived.Test.YtheiocndipepaaaGreatDoorKq26
import Derived.Test.YtheiocndipepaaaGreatDoorKq25
import Derived.Test.YtheiocndipepaaaGreatDoorKq33
import Derived.Test.YtheiocndipepaaaGreatDoorKq4
import Derived.Test.YtheiocndipepaaaGreatDoorKq1
open List renaming getElem?_eq_getElem → Aa,getElem?_map → Ab,length_append → Ac,length_map → Ae,getElem?_eq_none → Af,getD_eq_getElem?_getD → Ai,mem_of_getElem? → Aj,getElem?_range → Ak,range → Am,take_append_drop → Ao,ext_getElem? → Ap,isPrefixOf_iff_prefix → Ar,filter_append → As,range' → At,append_assoc → Aw,length_take → Ax,append_nil → Az,replicate → Bc,mem_range → Bd,length_cons → Bf,getElem?_replicate → Bg,getElem?_set_self → Bi,nil_append → Bj,map_append → Bk,getElem?_set_ne → Bl,range'_append_1 → Bn,range_eq_range' → Bo,flatMap_append → Bp,map_congr_left → Bq,getElem?_drop → Br,flatMap_cons → Bt,take_add_one → Bu,mem_range'_1 → Bv,take_length → Bw,length_drop → By,append_inj' → Ca,cons_append → Cb,length → Cc,length_set → Cd,range_succ → Ce
open Go.Lib renaming hid → Ad
open Classical renaming byContradiction → Ag
open Nat renaming le_refl → Ah,lt_or_ge → Ba,lt_of_lt_of_le → Bb,zero_le → Be,le_of_lt → Bh,eq_zero_or_pos → Bs,lt_trans → Ch,le_trans → Ci,sub_self → Cj
open Go.Op renaming bytesLess → Al
open Option renaming map_some → An,getD_some → Ay
open Go.IntKind renaming signed → Aq,wrap → Au,bits → Av
open Bool renaming and_eq_true → Bz,false_or → Cf,true_and → Cg
open Go.World renaming cell? → Ck
set_option maxHeartbeats 4000000
namespace Go.Proofs.YtheiocndipepaaaGreatDoor
set_option maxRecDepth 100000
section
open Go Go.RowKit
attribute [local go_sem] aM aK
theorem eF1 {l:List Bool} {k x:Nat} (h:(vV l)[k]?=some x):x<=l.length+512:=by
 unfold vV at h;rw[Ab]at h
 cases hg:(Am ((l.length+511)/512))[k]? with
 | none=>rw[hg]at h;cases h
 | some g =>
  rw[hg]at h;have h1:eK l (512*g)=x:=Option.some.inj h;obtain⟨h2,h3⟩:=List.getElem?_eq_some_iff.1 hg;rw[List.length_range]at h2;rw[List.getElem_range]at h3
  have:=oV l (512*g)
  omega
theorem gJ0 (l:List Bool) (vb:Nat) (w:World) (hl:l.length<=1048576) (ac:jN w vb l) :
  Calls Tryz.prog 100 #[.pointer (some ⟨vb,0,none⟩)] w λe w'=>∃v,e=.returned v/\aV w' w.heap.size 5 1 aX v (pH l)/\Grows w w':=by
 have c0:=ac.c0;obtain⟨vW,c1,ma⟩:=ac.c1;obtain⟨aW,cW,rfl,_,_,i7⟩:=ma.at_ (enc:=kS) (λ_=>rfl);obtain⟨vC,c2,kh⟩:=ac.c2;obtain⟨aC,cC,rfl,_,_,s8⟩:=kh.at_ (enc:=kG) (λ_=>rfl);have afs:∀q:Addr,aW=some q->q.block<w.heap.size:=λq hq=>gO ma q.block (by rw[hq];rfl);have aft:vb<w.heap.size:=World.block_lt_of_cell? w _ c0;have hq:=gE l;have hCl:(vV l).length=(l.length+511)/512:=by simp[vV]
 obtain⟨Cs,hCs⟩:=exq (vV l);rw[<-hCs]at c2 s8 hCl
 have uk:∀k x,Cs[k]?=some x->x<=1049088:=λk x hx=>by
  rw[hCs]at hx
  have:=eF1 hx
  omega
 obtain⟨Ws,hWs⟩:=exq (nK l);rw[<-hWs]at i7 hq c1;have y8:Ws.length<=16384:=by omega
 have gl:∀n∈Ws,n<18446744073709551616:=λn hn=>by
  rw[hWs]at hn;unfold nK at hn;obtain⟨k,_,rfl⟩:=List.mem_map.1 hn;exact qF l k
 have HE:Hid (pH l=leB 4 l.length++lV 8 Ws++lV 4 Cs):=by show _=_;rw[hWs,hCs];rfl
 have HW64:=Ad gl;have HCB:=Ad uk;have HATC:=Ad s8;have HATW:=Ad i7;have ads:Cs.length<=2049:=by omega
 have wn:IntKind.u64.wrap (l.length:Int)=l.length:=by simp[Au,Av,Aq];omega
 have z0:∀y:Ext (EB w.heap.size) w.drew,y.u.cell? ⟨vb,0,none⟩=some (.int .i64 l.length):=nN aft ((Grows.drew w).cell c0);have z1:∀y:Ext (EB w.heap.size) w.drew,y.u.cell? ⟨vb,1,none⟩=some (.slice aW Ws.length cW):=nN aft ((Grows.drew w).cell c1);obtain⟨n,ai⟩:=exq l.length;rw[<-ai]at HE wn z0 hl;have ae2:=Ad afs;clear ac c0 ma kh s8 i7 hq afs hCs hCl uk hWs gl ai c1;go_enter Tryz.func100,Tryz.ntmps100
 go_wp2_with fail
 refine iV (EB w.heap.size) (lT [0,1,2,3,4,7,8,9,10,5,6,11,12] [5,6,11,12]) (EB.refl w.heap.size) (EB.trans w.heap.size) (by kernel_rfl) (by kernel_rfl) (λd _ _ _ _ h=>by cases d<;>exact h) ?_
 iterate 9 (refine aG rfl (λK hK=>?_);go_simp;refine hK _ ?_;clear hK K)
 clear z0 z1;refine aZ rfl rfl (λK hK=>?_);go_simp;refine⟨EB.of (Grows.alloc _ _) (Ah _),hK _ _ ?_⟩;clear hK K;have zu:=mI0 (enc:=kS) (w:=w) (t:=144) (fz:=(0,0)) (cs:=#[.int .u64 n]) (λ_=>rfl) [n] rfl;obtain⟨W1,bi⟩:=exq ((w.alloc (.cells #[.int .u64 n] 144)).drew);have ag:Grows w W1:=by rw[bi];exact(Grows.alloc _ _).dr
 have ei:w.heap.size<W1.heap.size:=by rw[bi];simp
 have aa9:aF W1 (some ⟨w.heap.size,0,none⟩) 1 ([n].map kS):=by rw[bi];exact zu.grows (Grows.drew _)
 rw[<-bi];clear bi zu;refine aZ rfl rfl (λK hK=>?_);go_simp;refine(iR0 (.slice none 0 0) [] 4 [n] (some ⟨w.heap.size,0,none⟩) 1 W1 W1 (Grows.refl _) (by decide) (by simp) (by simp) (λm hm=>by obtain rfl:=List.mem_singleton.1 hm;omega) (aV.nil _ _ _ _ _) aa9 (λq _ h=>by cases h) (λq hq=>by cases hq;exact ei)).mono ?_;rintro e w2 ⟨v2,rfl,aj,af,aki⟩;rw[Bj]at aj;refine⟨EB.of af (Bh ei),hK _ _ ?_⟩;clear hK K;have hp4:(lV 4 [n]).length=4:=by rw[tU];rfl
 have afu:∀q:Addr,aW=some q->q.block<W1.heap.size:=λq hq=>Ch (ae2.out q hq) ei;refine aZ rfl rfl (λK hK=>?_);go_simp;refine(iR0 v2 (lV 4 [n]) 8 Ws aW cW W1 _ af (by decide) (by omega) (by omega) HW64.out aj (HATW.out.grows (ag.tr af)) (lZ0 aj afu) (λr hr=>Bb (afu r hr) af.size)).mono ?_;rintro e w3 ⟨v3,rfl,ax,aw,zv⟩;refine⟨EB.both (ag.tr af) (ag.tr aw) zv,hK _ _ ?_⟩;clear hK K;refine aZ rfl rfl (λK hK=>?_);go_simp;refine⟨EB.refl _ _,hK _ _ ?_⟩;clear hK K;refine bH ?_;have mc:=ag.tr aw;obtain⟨P3,hP3⟩:=exq (lV 4 [n]++lV 8 Ws);rw[<-hP3]at ax;have mo:P3.length<=4+8*16384:=by rw[hP3,Ac,hp4,tU];omega
 have HE3:Hid (pH l=P3++lV 4 Cs):=by show _=_;rw[HE.out,hP3];unfold lV;simp
 replace ax:=ax.base (base':=w.heap.size) ag.size;have c2r:=mc.cell c2;clear hP3 aj af aw ag aa9 hp4 HE c2;go_wp2_with fail
 go_loopw [3,25] (λout i wr=>∃(k:Nat) (cd:List UInt8),k<=Cs.length/\i=.int .i64 k/\Hid (cd=P3++lV 4 (Cs.take k))/\aV wr w.heap.size 5 1 aX out cd/\Grows w wr) (λ_ i _=>Cs.length-(intOf i).toNat)
 case atStart=>exact⟨0,P3,Be _,rfl,(by show _=_;simp[lV]),ax,mc⟩
 case round =>
  obtain⟨k,cd,hk,rfl,cr,aa,hg⟩:=hrel
  have om:cd.length<=4+8*16384+4*k:=by
   rw[cr.out,Ac,tU,Ax];omega
  by_cases ae:k<Cs.length
  ·obtain⟨x,hx⟩:∃x,Cs[k]?=some x:=⟨_,Aa ae⟩
   obtain⟨b,o,rfl,hc⟩:=at1 HATC.out (aH ae);have jp:=hg.cell (hc k x hx);have pu:=HCB.out k x hx;have wx:IntKind.u64.wrap (x:Int)=x:=by simp[Au,Av,Aq];omega
   have HN:Hid (cd++lV 4 [x]=P3++lV 4 (Cs.take (k+1))):=by
    show _=_
    rw[bN hx,eQ0,cr.out,Aw];simp[lV]
   have cy:(k:Int)<Cs.length:=by omega
   have zu:=mI0 (enc:=kS) (w:=wr) (t:=144) (fz:=(0,0)) (cs:=#[.int .u64 x]) (λ_=>rfl) [x] rfl;have CP:=iR0 _ cd 4 [x] (some ⟨wr.heap.size,0,none⟩) 1 w (wr.alloc (.cells #[.int .u64 x] 144)) (hg.al _) (by decide) (by omega) (by simp) (λm hm=>by obtain rfl:=List.mem_singleton.1 hm;omega) (aa.grows (Grows.alloc _ _)) zu (dQ1 aa (λr hr=>by cases hr;exact Ah _)) (λr hr=>by cases hr;simp);clear hc hx cr zu;go_wp2_with fail
   refine CP.mono ?_;rintro e w5 ⟨v5,rfl,ak,bg,_⟩;go_wp2_with fail
   go_roundw
   case rel=>exact⟨k+1,_,ae,by go_num,HN.out,ak,bg⟩
   case measure=>simp[intOf];omega
  ·have cy:¬(k:Int)<Cs.length:=by omega
   have HF:Hid (cd=pH l):=by
    show _=_
    rw[cr.out,List.take_of_length_le (by omega),HE3.out]
   clear cr;go_wp2_with fail
   go_ret;exact⟨_,rfl,by rw[<-HF.out];exact aa,hg⟩
def nM0 (L:List (List UInt8)):Nat:=if 20000<L.length then 2 else if nP L=true then 1 else 0
theorem sH0 (B:List ByteArray) (a:Option Addr) (c:Nat) (w:World) (hB:B.length<=1099511627776) (di:∀s∈B,s.size<=1099511627776) (ac:aF w a 1 (B.map stC)) :
  Calls Tryz.prog 84 #[.slice a B.length c] w λe w'=>e=.returned (.int .i64 (nM0 (bls B)))/\w=w':=by
 have HAT:=Ad ac;have HSZ:=Ad di;clear ac di;by_cases gk:20000<B.length
 ·have ud:(20000:Int)<B.length:=by omega
  have HF:Hid (nM0 (bls B)=2):=by show _=_;unfold nM0;rw[cK,if_pos gk]
  go_enter Tryz.func84,Tryz.ntmps84
  go_wp2_with fail
  go_ret;exact⟨by rw[HF.out];rfl,rfl⟩
 have ud:¬(20000:Int)<B.length:=by omega
 have HF:Hid (nM0 (bls B)=if nP (bls B)=true then 1 else 0):=by show _=_;unfold nM0;rw[cK,if_neg gk]
 have HIT:Hid (∀k,k<B.length->rQ (bls B) k=true->nM0 (bls B)=1):=λk hk hb=>by rw[HF.out,if_pos (eF0 (by rw[cK];exact hk) hb)]
 go_enter Tryz.func84,Tryz.ntmps84
 go_wp2_with fail
 go_loop [10] (λi=>∃k:Nat,k<=B.length/\i=.int .i64 k/\Hid (∀j,j<k->rQ (bls B) j=false)) (λi=>B.length-(intOf i).toNat)
 case atStart=>exact⟨0,Be _,rfl,λj hj=>by omega⟩
 case round =>
  obtain⟨k,hk,rfl,ay⟩:=hrel;by_cases ae:k<B.length
  ·obtain⟨s,hx⟩:∃x,B[k]?=some x:=⟨_,Aa ae⟩
   obtain⟨b,o,rfl,hc⟩:=at1 HAT.out (aH ae);have rj:=hc k s hx;have hn:=dY hx;have aif:=HSZ.out s (Aj hx);have cy:(k:Int)<B.length:=by omega
   have HBD:Hid (rQ (bls B) k=(decide (s.size<1)||decide (256<s.size)||(decide (0<k) && !Al (nth (bls B) (k-1)) (bl s)))):=by show _=_;unfold rQ;rw[hn,dI]
   have ace:s.toList=[]↔s.size<1:=by
    rw[<-cA0,<-dI];constructor
    ·intro h;rw[h];decide
    ·intro h;exact List.eq_nil_of_length_eq_zero (by omega)
   by_cases h1:s.size<1
   ·have HB:=Ad (HIT.out k ae (by rw[HBD.out];simp[h1]))
    have he1:s.toList.isEmpty=true:=by rw[ace.2 h1];rfl
    clear hc hx hn h1 ace;go_wp2_with fail
    go_ret;exact⟨by rw[HB.out];rfl,rfl⟩
   ·have ajw:s.toList.isEmpty=false:=by
     cases hh:s.toList.isEmpty
     ·rfl
     ·exact absurd (ace.1 (List.isEmpty_iff.1 hh)) h1
    clear ace;by_cases h2:256<s.size
    ·have h2i:(256:Int)<s.size:=by omega
     have HB:=Ad (HIT.out k ae (by rw[HBD.out];simp[h2]));clear hc hx hn;go_wp2_with fail
     go_ret;exact⟨by rw[HB.out];rfl,rfl⟩
    ·have h2i:¬(256:Int)<s.size:=by omega
     by_cases h0:k=0
     ·have uh:¬0<k:=by omega
      have HN:Hid (∀j,j<k+1->rQ (bls B) j=false):=λj hj=>by
       have fe:decide (s.size<1)=false:=decide_eq_false h1;have jb:decide (256<s.size)=false:=decide_eq_false h2;have m6:decide (0<k)=false:=decide_eq_false uh;rw[show j=k by omega,HBD.out,fe,jb,m6];rfl
      clear hc hx hn h0;go_wp2_with fail
      go_round
      case rel=>exact⟨k+1,ae,by go_num,HN.out⟩
      case measure=>simp[intOf];omega
     ·have uh:0<k:=by omega
      obtain⟨t,ik⟩:∃x,B[k-1]?=some x:=⟨_,Aa (by omega)⟩;have zk:=hc (k-1) t ik;have lh:(k:Int)-1=((k-1:Nat):Int):=by omega
      have fj:((k-1:Nat):Int)<B.length:=by omega
      have iz:IntKind.i64.wrap ((k-1:Nat):Int)=((k-1:Nat):Int):=by simp[Au,Av,Aq];omega
      have hq:=HBD.out;rw[dY ik,cA0,cA0]at hq;have fe:decide (s.size<1)=false:=decide_eq_false h1;have jb:decide (256<s.size)=false:=decide_eq_false h2;have m6:decide (0<k)=true:=decide_eq_true uh;rw[fe,jb,m6]at hq;simp only[Cf,Cg]at hq;have HQ:=Ad hq;clear hc hx hn h0 ik HBD hq fe jb m6;by_cases hl:Al t.toList s.toList=true
      ·have l1:Al s.toList t.toList=false:=by
        have:=lO hl;simpa using this
       have l2:(s.toList==t.toList)=false:=by
        rw[beq_eq_false_iff_ne];intro h;rw[h,bytesLess_irrefl]at hl;cases hl
       have HN:Hid (∀j,j<k+1->rQ (bls B) j=false):=λj hj=>by
        rcases Ba j k with h|h
        ·exact ay.out j h
        ·rw[show j=k by omega,HQ.out,hl];rfl
       clear hl ay;go_wp2_with fail
       go_round
       case rel=>exact⟨k+1,ae,by go_num,HN.out⟩
       case measure=>simp[intOf];omega
      ·have jn:Al t.toList s.toList=false:=by simpa using hl
       have HB:=Ad (HIT.out k ae (by rw[HQ.out,jn];rfl));by_cases he:s.toList=t.toList
       ·have l1:Al s.toList t.toList=false:=by rw[he,bytesLess_irrefl]
        have l2:(s.toList==t.toList)=true:=by rw[he];simp
        clear hl jn he ay;go_wp2_with fail
        go_ret;exact⟨by rw[HB.out];rfl,rfl⟩
       ·have l1:Al s.toList t.toList=true:=dM jn (λh=>he h.symm)
        clear hl jn he ay;go_wp2_with fail
        go_ret;exact⟨by rw[HB.out];rfl,rfl⟩
  ·have cy:¬(k:Int)<B.length:=by omega
   have HB:Hid (nM0 (bls B)=0):=by
    show _=_
    rw[HF.out,aJ0 (λi hi=>ay.out i (by rw[cK]at hi;omega))];rfl
   clear ay;go_wp2_with fail
   go_ret;exact⟨by rw[HB.out];rfl,rfl⟩
def kF (L:List (List UInt8)):List Nat:=(Am L.length).map λj=>(nodesA L).findIdx λx=>iP L x&&x.i==j
structure eF (w:World) (tb:Nat) (L:List (List UInt8)):Prop where
 s:∃sb,w.cell? ⟨tb,0,none⟩=some (.pointer (some ⟨sb,0,none⟩))/\jN w sb (shapeL L (nodesA L))
 i:∃ib,w.cell? ⟨tb,1,none⟩=some (.pointer (some ⟨ib,0,none⟩))/\jN w ib (isL L (nodesA L))
 l:∃vL,w.cell? ⟨tb,2,none⟩=some vL/\aV w (tb-2) 5 1 aX vL (labelsL L (nodesA L))
 d:∃pb,w.cell? ⟨tb,3,none⟩=some (.pointer (some ⟨pb,0,none⟩))/\lE w pb (idsL L (nodesA L))
 n:∃vN,w.cell? ⟨tb,4,none⟩=some vN/\aV w 0 3 1 kG vN (kF L)
theorem eF.grows {w w':World} {tb:Nat} {L:List (List UInt8)} (h:eF w tb L) (hg:Grows w w'):eF w' tb L:=by
 obtain⟨sb,s1,s2⟩:=h.s;obtain⟨ib,i1,i2⟩:=h.i;obtain⟨vL,l1,l2⟩:=h.l;obtain⟨pb,d1,d2⟩:=h.d;obtain⟨vN,n1,n2⟩:=h.n;exact⟨⟨sb,hg.cell s1,s2.grows hg⟩,⟨ib,hg.cell i1,i2.grows hg⟩,⟨vL,hg.cell l1,l2.grows hg⟩,⟨pb,hg.cell d1,d2.grows hg⟩,⟨vN,hg.cell n1,n2.grows hg⟩⟩
theorem OkL.sizes {L:List (List UInt8)} (ah:OkL L) (hl:L.length<=20000) (hc:eG L<=524287) :
  (shapeL L (nodesA L)).length<=1048576/\(isL L (nodesA L)).length<=524287/\(labelsL L (nodesA L)).length<=524287/\(idsL L (nodesA L)).length<=524287/\∀n∈idsL L (nodesA L),n<=20000:=by
 have hN:=eX ah.asc ah.len;refine⟨?_,?_,?_,?_,?_⟩
 ·have h:=fC L (nodesA L).length (Ah _)
  rw[Bw,ah.off_all]at h;omega
 ·unfold isL;rw[Ae];omega
 ·rw[ah.labels,Ae,By];omega
 ·unfold idsL
  rw[Ae]
  have:=List.length_filter_le (iP L) (nodesA L)
  omega
 ·intro n hn
  unfold idsL at hn;obtain⟨x,hx,rfl⟩:=List.mem_map.1 hn;have hg:=nM ah.asc (List.mem_filter.1 hx).1
  have:=hg.le
  omega
theorem iU0 (L:List (List UInt8)) (tb:Nat) (w:World) (ah:OkL L) (hl:L.length<=20000) (hc:eG L<=524287) (ac:eF w tb L) :
  Calls Tryz.prog 51 #[.pointer (some ⟨tb,0,none⟩)] w λe w'=>∃v,e=.returned v/\aV w' w.heap.size 5 1 aX v (loudE L)/\Grows w w':=by
 obtain⟨z1,z2,z3,z4,z5⟩:=ah.sizes hl hc;obtain⟨sb,s1,s2⟩:=ac.s;obtain⟨ib,i1,i2⟩:=ac.i;obtain⟨vL,l1,l2⟩:=ac.l;obtain⟨pb,d1,d2⟩:=ac.d;have HE:Hid (loudE L=fG (pH (shapeL L (nodesA L)))++fG (labelsL L (nodesA L))++fG (pH (isL L (nodesA L)))++fG (packE (idsL L (nodesA L)))):=rfl;generalize shapeL L (nodesA L)=S at *;generalize isL L (nodesA L)=I at *;generalize labelsL L (nodesA L)=Lb at *;generalize idsL L (nodesA L)=D at *;have m9:∀n∈D,n<18446744073709551616:=λn hn=>by have:=z5 n hn;omega
 have qo:=oT S;have afv:=oT I;have m8:=cE0 D;have hwd:pF D<=64:=oY.2 m9;have fx:D.length*pF D<=524287*64:=Nat.mul_le_mul z4 hwd;obtain⟨aL,cL,rfl,_,_,l9⟩:=l2.at_ bI.len;have hnL:=bQ l2;have aiq:∀q:Addr,aL=some q->q.block<w.heap.size:=λq hq=>gO l2 q.block (by rw[hq];rfl);obtain⟨b1,fw⟩:=exq (pH S);obtain⟨b3,mn⟩:=exq (pH I);obtain⟨b4,zw⟩:=exq (packE D);have CS:=Ad (gJ0 S sb w z1 s2);have CI:=λW (hg:Grows w W)=>Ad (gJ0 I ib W (by omega) (i2.grows hg));have CD:=λW (hg:Grows w W)=>Ad (gA0 D pb W (by omega) m9 (d2.grows hg));rw[<-fw]at CS qo;rw[<-mn]at CI afv;rw[<-zw]at CD m8;have HB1:=Ad fw;have HB3:=Ad mn;have HB4:=Ad zw;have HATL:=Ad l9;have akj:b1.length<=100000000:=by omega
 have akk:b3.length<=100000000:=by omega
 have akl:b4.length<=100000000:=by omega
 clear ac ah hc m9 qo afv m8 hwd fx l9 fw mn zw s2 i2 l2 d2 z5;go_enter Tryz.func51,Tryz.ntmps51
 go_wp2_with fail
 refine CS.out.mono ?_;rintro e w2 ⟨v2,rfl,aj,af⟩;obtain⟨a2,c2,rfl,_,_,qp⟩:=aj.at_ bI.len;have ig:=bQ aj;clear aj;go_wp2_with fail
 refine(zJ (.slice none 0 0) [] b1 a2 c2 w2 w2 (Grows.refl _) (by simp) (by omega) (aV.nil _ _ _ _ _) qp ig (λq _ h=>by cases h)).mono ?_;rintro e w3 ⟨v3,rfl,ax,aw⟩;rw[Bj]at ax;have hp1:(fG b1).length<=100000004:=by unfold fG;rw[Ac,bM];omega
 have fp:=af.tr aw;have l1a:=fp.cell l1;go_wp2_with fail
 refine(zJ v3 (fG b1) Lb aL cL w2 w3 aw (by omega) (by omega) ax (HATL.out.grows fp) hnL (lZ0 ax (λq hq=>Bb (aiq q hq) af.size))).mono ?_;rintro e w4 ⟨v4,rfl,cu,bj⟩;obtain⟨P2,hP2⟩:=exq (fG b1++fG Lb);rw[<-hP2]at cu;have pr:P2.length<=200000008:=by rw[hP2,Ac];unfold fG at *;rw[Ac,bM] at *;rw[Ac,bM];omega
 have HP2:=Ad hP2;clear hP2 ax fp qp ig;have kt:=af.tr bj;have i1a:=kt.cell i1;go_wp2_with fail
 refine(CI w4 kt).out.mono ?_;rintro e w5 ⟨v5,rfl,ak,bg⟩;obtain⟨a5,c5,rfl,_,_,lz⟩:=ak.at_ bI.len;have xv:=bQ ak;go_wp2_with fail
 refine(zJ v4 P2 b3 a5 c5 w2 w5 (bj.tr bg) (by omega) (by omega) (cu.grows bg) lz xv (λq hq hv=>by have h1:=gO cu _ hv.symm;have h2:=bB ak q.block (by rw[hq];rfl);omega)).mono ?_;rintro e w6 ⟨v6,rfl,lq,cg⟩;obtain⟨P3,hP3⟩:=exq (P2++fG b3);rw[<-hP3]at lq;have mo:P3.length<=400000012:=by rw[hP3,Ac];unfold fG;rw[Ac,bM];omega
 have HP3:=Ad hP3;clear hP3 cu ak kt lz xv bg;have hgC:=af.tr cg;have d1a:=hgC.cell d1;go_wp2_with fail
 refine(CD w6 hgC).out.mono ?_;rintro e w7 ⟨v7,rfl,du,cw⟩;obtain⟨a7,c7,rfl,_,_,ta⟩:=du.at_ bI.len;have hn7:=bQ du;go_wp2_with fail
 refine(zJ v6 P3 b4 a7 c7 w2 w7 (cg.tr cw) (by omega) (by omega) (lq.grows cw) ta hn7 (λq hq hv=>by have h1:=gO lq _ hv.symm;have h2:=bB du q.block (by rw[hq];rfl);omega)).mono ?_;rintro e w8 ⟨v8,rfl,ae3,fq⟩;go_wp2_with fail
 go_ret;refine⟨_,rfl,?_,af.tr fq⟩
 have au:P3++fG b4=loudE L:=by
  rw[HP3.out,HP2.out,HB1.out,HB3.out,HB4.out,HE.out]
 rw[<-au];exact ae3.base af.size
theorem uM (L:List (List UInt8)) (tb:Nat) (w:World) (ac:eF w tb L) :
  Calls Tryz.prog 39 #[.pointer (some ⟨tb,0,none⟩)] w λe w'=>e=.returned (.int .i64 L.length)/\w=w':=by
 obtain⟨vN,n1,n2⟩:=ac.n;obtain⟨aN,cN,rfl,_,_,_⟩:=n2.at_ (enc:=kG) (λ_=>rfl);have an:(kF L).length=L.length:=by simp[kF]
 rw[an]at n1;clear ac n2 an;go_enter Tryz.func39,Tryz.ntmps39
 go_wp2_with fail
 go_ret;exact⟨rfl,rfl⟩
theorem jC {L:List (List UInt8)} (ah:OkL L) {j i:Nat} {x:dK} (hj:j<L.length) (hi:(nodesA L)[i]?=some x) (hh:iP L x=true) (hx:x.i=j):(kF L)[j]?=some i:=by
 unfold kF;rw[Ab,Ak hj,An];congr 1
 have ae:=(List.getElem?_eq_some_iff.1 hi).1;rw[List.findIdx_eq ae];obtain⟨h1,h2⟩:=List.getElem?_eq_some_iff.1 hi;refine⟨by rw[h2,hh,hx];simp,λk hk=>?_⟩;apply Ag
 intro p9;have p9:(iP L ((nodesA L)[k]'(by omega))&&((nodesA L)[k]'(by omega)).i==j)=true:=by simpa using p9
 simp only[Bz,beq_iff_eq]at p9;have g1:=ah.good hi;have g2:=ah.good (Aa (show k<(nodesA L).length by omega))
 have e1:=(qU ah.asc g1 ah.pos j).2 ⟨hh,hx.symm⟩;have e2:=(qU ah.asc g2 ah.pos j).2 ⟨p9.1,p9.2.symm⟩;rw[e1]at e2
 have:=g1.inj ah.asc g2 (Option.some.inj e2)
 have:=ah.uniq hi (by rw[this];exact Aa (show k<(nodesA L).length by omega))
 omega
theorem jI0 (L:List (List UInt8)) (tb id:Nat) (w:World) (ah:OkL L) (hl:L.length<=20000) (hc:eG L<=524287) (hid:id<L.length) (ac:eF w tb L) :
  Calls Tryz.prog 40 #[.pointer (some ⟨tb,0,none⟩),.int .i64 id] w λe w'=>e=.returned (.tuple #[.string (mkB (nth L id)),.bool true])/\Grows w w':=by
 obtain⟨z1,z2,z3,z4,z5⟩:=ah.sizes hl hc;obtain⟨i0,x0,ld,hh0,adt⟩:=ah.node hid;have hn0:=jC ah hid ld hh0 adt
 have nj:spanS L x0=nth L id:=by
  have h1:=(qU ah.asc (ah.good ld) ah.pos id).2 ⟨hh0,adt.symm⟩;rw[iZ hid]at h1;exact(Option.some.inj h1).symm
 have ahv:(nth L id).length<=256:=ah.len _ (Aj (iZ hid));have CL:=Ad (λ(u:World) (h:Grows w u)=>uM L tb u (ac.grows h));obtain⟨vN,n1,n2⟩:=ac.n;obtain⟨aN,cN,rfl,_,_,afw⟩:=n2.at_ (enc:=kG) (λ_=>rfl);have hNl:(kF L).length=L.length:=by simp[kF]
 rw[hNl]at n1;obtain⟨nb,no,rfl,hcN⟩:=at1 (f:=λn:Nat=>Value.int .i64 n) afw (aH (k:=id) (by rw[hNl];exact hid));have afx:=hcN id _ hn0;obtain⟨vL,l1,l2⟩:=ac.l;obtain⟨sb,s1,s2⟩:=ac.s;have akm:(id:Int)<L.length:=by omega
 have akn:¬(id:Int)<0:=by omega
 have ako:¬(L.length:Int)<=id:=by omega
 have HAT:=Ad ac;obtain⟨W1,bi⟩:=exq (w.alloc (.cells Tryz.zeroCells151 151));have g1:Grows w W1:=by rw[bi];exact Grows.alloc _ _
 have n1a:=g1.cell n1;have aba:=g1.cell afx;rw[bi]at n1a aba
 have START:Hid (∃cs:Array Value,W1.heap[w.heap.size]?=some (.cells cs 151 (0,0))/\cs.size=256/\∀j b,([]:List UInt8)[j]?=some b->cs[256+j]?=some (.int .u8 (b.toNat:Nat))) :=
  ⟨Tryz.zeroCells151,by rw[bi];show (w.heap.push _)[w.heap.size]?=_;simp,by kernel_rfl,λj b h=>by simp at h⟩
 have NODE:Hid ((nodesA L)[i0]?=some x0/\spanS L x0++[]=nth L id):=⟨ld,by rw[Az];exact nj⟩;have HOK:=Ad ah;have gp:w.heap.size<W1.heap.size:=by rw[bi];simp
 obtain⟨aL,cL,rfl,_,_,l9⟩:=l2.at_ bI.len;have HATL:=Ad l9;have HS2:=Ad s2;have HZ1:=Ad z1;have nl:∀q,aL=some q->q.block<w.heap.size:=λq hq=>gO l2 q.block (by rw[hq];rfl);have HBB:=Ad nl;obtain⟨ln,za⟩:=exq ((labelsL L (nodesA L)).length);have HLN:=Ad za;rw[<-za]at l1;have akp:ln<=524287:=by omega
 have hNN:Hid ((nodesA L).length<=524287/\ln+1=(nodesA L).length):=by
  have:=eX ah.asc ah.len
  refine⟨by omega,?_⟩;rw[za,ah.labels,Ae,By]
  have h0:0<(nodesA L).length:=by
   have:=(List.getElem?_eq_some_iff.1 ld).1;omega
  omega
 have hi0:i0<=524287:=by have:=(List.getElem?_eq_some_iff.1 ld).1;have:=hNN.out;omega
 clear ac n2 afw hcN hn0 n1 afx ld hh0 adt nj z1 z2 z3 z4 z5 ah hc l9 s2 nl l2 za;go_enter Tryz.func40,Tryz.ntmps40
 go_wp2_with (go_at_call 39;refine(CL.out _ (by first|exact Grows.refl _|assumption)).mono ?_;rintro e w2 ⟨rfl,rfl⟩;skip)
 rw[<-bi];have hz:decide (L.length<=id)=false:=by simp;omega
 rw[hz];clear bi n1a aba hz;go_loopw [7,8] (λu v wr=>∃(A i:Nat) (x:dK) (tl:List UInt8) (cs:Array Value),u=.int .i64 A/\v=.int .i64 i/\A<=256/\i<=524287/\Hid (A+tl.length=256/\(nodesA L)[i]?=some x/\spanS L x++tl=nth L id)/\Hid (wr.heap[w.heap.size]?=some (.cells cs 151 (0,0))/\cs.size=256/\∀j b,tl[j]?=some b->cs[A+j]?=some (.int .u8 (b.toNat:Nat)))/\Hid (Grows w wr)) (λ_ v _=>(intOf v).toNat)
 case atStart =>
  obtain⟨cs,k1,k2,k3⟩:=START.out;exact⟨256,i0,x0,[],cs,by go_num,rfl,Ah _,hi0,⟨rfl,NODE.out.1,NODE.out.2⟩,⟨k1,k2,k3⟩,g1⟩
 case round =>
  clear START NODE hi0 g1 gp;obtain⟨A,i,x,tl,cs,rfl,rfl,hA,hi,hN,hB,hG⟩:=hrel;by_cases h0:0<i
  ·have uh:(0:Int)<i:=by omega
   obtain⟨k1,k2,k3⟩:=hN.out;obtain⟨p,y,hy,hpi,o1,o2,hm⟩:=HOK.out.parent h0 k2;have rz:=wU HOK.out.asc (HOK.out.good hy) hm;obtain⟨b,hb⟩:=exq ((nth L x.i).getD y.d 0);rw[<-hb]at rz;have ri:=(List.getElem?_eq_some_iff.1 k2).1
   have hA0:0<A:=by
    have:=congrArg Cc k3
    rw[rz,Ac,Ac]at this;simp at this;omega
   obtain⟨A1,hA1⟩:=exq (A-1);obtain⟨i1,hi1⟩:=exq (i-1);have wA:IntKind.i64.wrap ((A:Int)-1)=A1:=by simp[Au,Av,Aq];omega
   have wi:IntKind.i64.wrap ((i:Int)-1)=i1:=by simp[Au,Av,Aq];omega
   have qq:(labelsL L (nodesA L))[i1]?=some b:=by
    rw[HOK.out.labels,Ab,Br,show 1+i1=i by omega,k2,An,rz]
    simp
   obtain⟨lb,lo,rfl,bh⟩:=at1 (f:=λb:UInt8=>Value.int .u8 b.toNat) (HATL.out.grows hG.out) (List.ne_nil_of_mem (Aj qq));have hlc:=bh i1 b qq;have akq:(i1:Int)<ln:=by have:=hNN.out;omega
   have akr:(A1:Int)<256:=by omega
   have l1r:=hG.out.cell l1;have s1r:=hG.out.cell s1;obtain⟨m1,m2,m3⟩:=hB.out;obtain⟨ov,hov⟩:∃v,wr.cell? ⟨w.heap.size,A1,none⟩=some v:=⟨cs[A1]'(by omega),by simp[Ck,m1,show A1<cs.size by omega]⟩
   have hof:wr.frozen? ⟨w.heap.size,A1,none⟩=false:=by simp[World.frozen?,m1]
   obtain⟨W2,gm⟩:=exq (wr.setCell ⟨w.heap.size,A1,none⟩ (.int .u8 (b.toNat:Nat)));have g2:Grows w W2:=by rw[gm];exact hG.out.set (Ah _) _
   have B2:Hid (W2.heap[w.heap.size]?=some (.cells (cs.setIfInBounds A1 (.int .u8 (b.toNat:Nat))) 151 (0,0))):=by
    rw[gm];exact heap_setCell_same wr _ _ cs _ _ m1
   have vq:w.heap.size<W2.heap.size:=(Array.getElem?_eq_some_iff.1 B2.out).1
   have B3:Hid (∀j c,(b::tl)[j]?=some c->(cs.setIfInBounds A1 (.int .u8 (b.toNat:Nat)))[A1+j]?=some (.int .u8 (c.toNat:Nat))):=λj c hj=>by
    cases j with
    | zero =>
     obtain rfl:b=c:=by simpa using hj
     rw[Nat.add_zero,Array.getElem?_setIfInBounds_self];simp;omega
    | succ j =>
     rw[Array.getElem?_setIfInBounds_ne (by omega),show A1+(j+1)=A+j by omega]
     exact m3 j c (by simpa using hj)
   have N2:Hid (A1+(b::tl).length=256/\(nodesA L)[p]?=some y/\spanS L y++(b::tl)=nth L id):=⟨by rw[Bf];omega,hy,by rw[<-k3,rz];simp⟩;have CSZ:Hid ((cs.setIfInBounds A1 (.int .u8 (b.toNat:Nat))).size=256):=by show _=_;simpa using m2
   obtain⟨q1,q2,q3⟩:=nK0 hy o1 o2;obtain⟨pos,dm⟩:=exq (i+p+1);rw[<-dm]at q1 q2 q3
   have abb:pos<(shapeL L (nodesA L)).length:=by
    have h1:=fC L (nodesA L).length (Ah _);rw[Bw,HOK.out.off_all]at h1;omega
   have CSEL:=Ad (λ(u:World) (hg:Grows w u)=>xE (shapeL L (nodesA L)) sb true pos i u HZ1.out abb q1 q2 (HS2.out.grows hg))
   have CRNK:Hid (∀(u:World),Grows w u->Calls Tryz.prog 90 #[.pointer (some ⟨sb,0,none⟩),.bool false,.int .i64 pos] u λe w'=>e=.returned (.int .i64 ((p+1:Nat):Int))/\u=w'):=λu hg=>by
    have h:=rC (shapeL L (nodesA L)) sb false pos u HZ1.out (by have:=HZ1.out;omega) (HS2.out.grows hg);rw[show min pos (shapeL L (nodesA L)).length=pos by omega,q3]at h
    exact h
   have wp1:IntKind.i64.wrap (((p+1:Nat):Int)-1)=p:=by simp[Au,Av,Aq];omega
   obtain⟨p1,hp1⟩:=exq (p+1);rw[<-hp1]at CRNK wp1;have z1:∀x:Ext Grows W2.drew,x.u.cell? ⟨tb,0,none⟩=some (.pointer (some ⟨sb,0,none⟩)):=aB ((Grows.drew W2).cell (g2.cell s1));have HPI:=Ad hpi;clear hN hB k1 k2 k3 hy o1 o2 hm rz hb ri hA1 hi1 qq bh m1 m2 m3 q1 q2 q3 dm abb hp1 hpi;go_wp2_with fail
   rw[<-gm];clear gm hov hof hlc l1r s1r;refine bE (aU 13 [9,10]) (by kernel_rfl) (λd _ _ _ _ h=>by cases d<;>exact h) ?_
   iterate 9 (refine aG rfl (λK hK=>?_);go_simp;refine hK _ ?_;clear hK K)
   clear z1;refine aZ rfl rfl (λK hK=>?_);go_simp;refine(CSEL.out _ (g2.tr (Grows.drew W2))).mono ?_;rintro e w3 ⟨rfl,aw⟩;refine⟨aw,hK _ _ ?_⟩;clear hK K;have g3:Grows w w3:=(g2.tr (Grows.drew W2)).tr aw;refine aZ rfl rfl (λK hK=>?_);go_simp;refine(CRNK.out _ g3).mono ?_;rintro e w4 ⟨rfl,rfl⟩;refine⟨Grows.refl _,hK _ _ ?_⟩;clear hK K;iterate 2 (refine aG rfl (λK hK=>?_);go_simp;refine hK _ ?_;clear hK K)
   refine bH ?_;have B4:w3.heap[w.heap.size]?=some (.cells (cs.setIfInBounds A1 (.int .u8 (b.toNat:Nat))) 151 (0,0)):=(Below.block ((Grows.drew W2).tr aw) _ vq).trans B2.out;replace B4:=Ad B4;clear aw B2 CSEL CRNK;go_wp2_with fail
   go_roundw
   case rel=>exact⟨A1,p,y,b::tl,_,by go_num,by go_num,by have:=N2.out.1;omega,by have:=HPI.out;omega,N2.out,⟨B4.out,CSZ.out,B3.out⟩,g3⟩
   case measure=>have:=HPI.out;simp[intOf];omega
  ·have uh:¬(0:Int)<i:=by omega
   obtain rfl:i=0:=by omega
   obtain⟨k1,k2,k3⟩:=hN.out
   have hx:x=rootS L:=by
    have h1:=HOK.out.fix;have h2:(rootS L::(nodesA L).flatMap (fQ L))[0]?=some x:=by rw[<-h1];exact k2
    simpa using h2.symm
   have j7:tl=nth L id:=by
    rw[<-k3,hx];simp[spanS,rootS]
   have abc:(convert 36 9 (.slice (some ⟨w.heap.size,A,none⟩) (256-A) (256-A))).run Tryz.prog wr=.ok (.string (mkB (nth L id))) wr:=by
    obtain⟨m1,m2,m3⟩:=hB.out;have hz:(mkB tl).size=tl.length:=by rw[Lib.size_eq,gZ]
    have hBy:Lib.Bytes wr w.heap.size A (mkB tl):=λj hj=>by
     rw[hz]at hj;have h3:=m3 j _ (Aa hj);unfold Ck;simp only[m1,Option.isSome_none,Bool.false_eq_true,if_false];exact h3
    have:=Lib.run_convert_whole (P:=Tryz.prog) wr 36 5 9 Tryz.underlying36 Tryz.underlying5 Tryz.underlying9 w.heap.size A (mkB tl) hBy (256-A)
    rw[hz,show tl.length=256-A by omega]at this
    rw[this,j7]
   have dm:0<tl.length:=by
    rw[j7];exact List.length_pos_iff.2 (HOK.out.pos _ (Aj (iZ hid)))
   have hAi:(A:Int)<=256:=by omega
   have hAn:¬256=A:=by omega
   have G:=Ad hG.out;clear hN hB k1 k2 k3 hx j7 dm hG;go_wp2_with fail
   first
    | exact bodyPost_ret (v:=.tuple #[.string (mkB (nth L id)),.bool true]) (by simp[results,Tryz.results40,go_sem]) rfl ⟨rfl,G.out⟩
    | exact bodyPost_end (v:=.tuple #[.string (mkB (nth L id)),.bool true]) (by simp[results,Tryz.results40,go_sem]) rfl ⟨rfl,G.out⟩
end
section
open Go
theorem fS0 (L:List (List UInt8)):∀A:List dK,(labelsL L A).length=(A.flatMap (fQ L)).length
 | []=>rfl
 | x::A=>by
  have:=fS0 L A
  unfold labelsL at *;rw[Bt,Bt,Ac,Ac,Ae,this]
theorem pF0 (L:List (List UInt8)) (i:Nat):offA L i=(labelsL L ((nodesA L).take i)).length+1:=by
 rw[fS0];unfold offA fD;rw[Bf]
theorem OkL.many {L:List (List UInt8)} (h:OkL L) (hl:L.length<=20000):(nodesA L).length<=5120001:=by
 have h1:=congrArg Cc (wV0 h.asc);rw[Ae]at h1;have h2:=aL0 L 256;have h3:(kR1 L).length=(wJ L 256).length:=rfl;omega
theorem yF (L:List (List UInt8)) (A:List dK) (x:dK):labelsL L (A++[x])=labelsL L A++(fQ L x).map (qB L x):=by
 unfold labelsL;rw[Bp];simp
def vJ (L:List (List UInt8)) (i:Nat):List Nat:=(kF L).map λk=>if k<i then k else 0
theorem nE (L:List (List UInt8)):(kF L).length=L.length:=by simp[kF]
theorem cH1 {L:List (List UInt8)}:vJ L 0=Bc L.length 0:=by
 unfold vJ;apply Ap
 intro j;rw[Ab,Bg];by_cases h:j<L.length
 ·rw[Aa (by rw[nE];exact h),if_pos h]
  simp
 ·rw[Af (by rw[nE];omega),if_neg h];rfl
theorem OkL.ndTo_all {L:List (List UInt8)} (h:OkL L) {m:Nat} (hm:(nodesA L).length<=m):vJ L m=kF L:=by
 unfold vJ;have hl:=nE L;conv=>rhs;rw[<-List.map_id (kF L)]
 apply Bq
 intro k hk;obtain⟨j,hj⟩:=List.mem_iff_getElem?.1 hk;have hjl:j<L.length:=by rw[<-hl];exact(List.getElem?_eq_some_iff.1 hj).1
 obtain⟨i,x,hi,hh,hx⟩:=h.node hjl
 have:=jC h hjl hi hh hx
 rw[hj]at this;have ae:=(List.getElem?_eq_some_iff.1 hi).1;rw[if_pos (by have:=Option.some.inj this;omega)];rfl
theorem OkL.ndTo_succ {L:List (List UInt8)} (h:OkL L) {i:Nat} {x:dK} (hx:(nodesA L)[i]?=some x):vJ L (i+1)=if iP L x=true then (vJ L i).set x.i i else vJ L i:=by
 have hl:=nE L
 have key:∀j,j<L.length->((kF L)[j]?=some i↔iP L x=true/\x.i=j):=λj hj=>by
  obtain⟨i',x',hi',hh',hx'⟩:=h.node hj;have h1:=jC h hj hi' hh' hx';rw[h1];constructor
  ·intro e
   have e2:i'=i:=Option.some.inj e;subst e2;rw[hx]at hi';cases hi'
   exact⟨hh',hx'⟩
  ·rintro⟨a,b⟩
   have h2:=jC h hj hx a b;rw[h1]at h2;exact h2
 apply Ap
 intro j;by_cases hj:j<L.length
 ·obtain⟨k,hk⟩:∃k,(kF L)[j]?=some k:=⟨_,Aa (by rw[hl];exact hj)⟩
  have e1:(vJ L (i+1))[j]?=some (if k<i+1 then k else 0):=by unfold vJ;rw[Ab,hk];rfl
  have e2:(vJ L i)[j]?=some (if k<i then k else 0):=by unfold vJ;rw[Ab,hk];rfl
  rw[e1];have fj:=key j hj;rw[hk]at fj;by_cases hh:iP L x=true
  ·rw[if_pos hh]
   by_cases hxj:x.i=j
   ·have:k=i:=Option.some.inj (fj.2 ⟨hh,hxj⟩)
    rw[hxj,Bi (by unfold vJ;rw[Ae,hl];exact hj),if_pos (by omega),this]
   ·have:k≠i:=λe=>hxj (fj.1 (by rw[e])).2
    rw[Bl hxj,e2];congr 1
    by_cases h3:k<i
    ·rw[if_pos h3,if_pos (by omega)]
    ·rw[if_neg h3,if_neg (by omega)]
  ·rw[if_neg hh,e2]
   have:k≠i:=λe=>hh (fj.1 (by rw[e])).1
   congr 1
   by_cases h3:k<i
   ·rw[if_pos h3,if_pos (by omega)]
   ·rw[if_neg h3,if_neg (by omega)]
 ·have hn:∀m,(vJ L m)[j]?=none:=λm=>Af (by unfold vJ;rw[Ae,hl];omega)
  rw[hn];split
  ·rw[Af (by rw[Cd];unfold vJ;rw[Ae,hl];omega)]
  ·rw[hn]
theorem jN1 (L:List (List UInt8)) (i:Nat):(vJ L i).length=L.length:=by unfold vJ; rw[Ae,nE]
end
section
open Go Go.RowKit
def fR (L:List (List UInt8)) (s:List UInt8) (i:Nat):Prop:=∃x,(nodesA L)[i]?=some x/\spanS L x=s
theorem OkL.root0 {L:List (List UInt8)} (h:OkL L):(nodesA L)[0]?=some (rootS L):=by rw[h.fix]; rfl
theorem OkL.isRoot {L:List (List UInt8)} (h:OkL L):fR L [] 0:=⟨rootS L,h.root0,by simp[spanS,rootS]⟩
theorem fR.lt {L:List (List UInt8)} {s:List UInt8} {i:Nat} (h:fR L s i):i<(nodesA L).length:=by
 obtain⟨x,hx,_⟩:=h;exact(List.getElem?_eq_some_iff.1 hx).1
theorem OkL.lab {L:List (List UInt8)} (h:OkL L) {k:Nat} {y:dK} (h1:1<=k) (hy:(nodesA L)[k]?=some y):(labelsL L (nodesA L))[k-1]?=some ((spanS L y).getLastD 0):=by
 rw[h.labels,Ab,Br,show 1+(k-1)=k by omega,hy];rfl
theorem OkL.off_pos {L:List (List UInt8)} (i:Nat):1<=offA L i:=by
 have:=lM (L:=L) (Be i)
 rw[uB]at this;exact this
theorem OkL.kid_at {L:List (List UInt8)} (h:OkL L) {i k:Nat} {x:dK} (hx:(nodesA L)[i]?=some x) (h1:offA L i<=k) (h2:k<offA L (i+1)) :
  ∃y c,(nodesA L)[k]?=some y/\(labelsL L (nodesA L))[k-1]?=some c/\spanS L y=spanS L x++[c]/\y∈fQ L x:=by
 have hk:k<(nodesA L).length:=Bb h2 (h.off_le (i+1));obtain⟨y,hy⟩:∃y,(nodesA L)[k]?=some y:=⟨_,Aa hk⟩;have hm:=h.kid hx h1 h2 hy;have hs:=wU h.asc (h.good hx) hm;refine⟨y,_,hy,h.lab (Ci (OkL.off_pos i) h1) hy,?_,hm⟩;rw[hs];simp
theorem OkL.kid_of {L:List (List UInt8)} (h:OkL L) {i k:Nat} {s:List UInt8} {c:UInt8} (hi:fR L s i) (hn:fR L (s++[c]) k):offA L i<=k/\k<offA L (i+1)/\(labelsL L (nodesA L))[k-1]?=some c:=by
 obtain⟨x,hx,ex⟩:=hi;obtain⟨y,hy,ey⟩:=hn
 have hk:1<=k:=by
  rcases Bs k with e|e
  ·subst e
   rw[h.root0]at hy;obtain rfl:=Option.some.inj hy;simp[spanS,rootS]at ey
  ·exact e
 obtain⟨p,z,hz,_,o1,o2,hm⟩:=h.parent hk hy;have hs:=wU h.asc (h.good hz) hm;rw[ey]at hs;have e1:=(Ca hs rfl).1;have e2:=(h.good hx).inj h.asc (h.good hz) (ex.trans e1);subst e2;obtain rfl:=h.uniq hx hz;refine⟨o1,o2,?_⟩;rw[h.lab hk hy,ey];simp
theorem OkL.kid_is {L:List (List UInt8)} (h:OkL L) {i k:Nat} {s:List UInt8} {c:UInt8} (hi:fR L s i) (h1:offA L i<=k) (h2:k<offA L (i+1)) (hc:(labelsL L (nodesA L))[k-1]?=some c):fR L (s++[c]) k:=by
 obtain⟨x,hx,ex⟩:=hi;obtain⟨y,d,hy,hd,hs,_⟩:=h.kid_at hx h1 h2;rw[hc]at hd;obtain rfl:=Option.some.inj hd;exact⟨y,hy,by rw[hs,ex]⟩
theorem OkL.node_pre {L:List (List UInt8)} (h:OkL L) {s:List UInt8} {c:UInt8} {k:Nat} (hn:fR L (s++[c]) k):∃i,fR L s i:=by
 obtain⟨y,hy,ey⟩:=hn
 have hk:1<=k:=by
  rcases Bs k with e|e
  ·subst e
   rw[h.root0]at hy;obtain rfl:=Option.some.inj hy;simp[spanS,rootS]at ey
  ·exact e
 obtain⟨p,z,hz,_,o1,o2,hm⟩:=h.parent hk hy;have hs:=wU h.asc (h.good hz) hm;rw[ey]at hs;exact⟨p,z,hz,(Ca hs rfl).1.symm⟩
theorem OkL.no_more {L:List (List UInt8)} (h:OkL L):∀(t:List UInt8) {s:List UInt8},(∀i, ¬fR L s i)->∀i, ¬fR L (s++t) i
 | [],s,hs,i=>by rw[Az];exact hs i
 | c::t,s,hs,i=>by
  rw[show s++c::t=(s++[c])++t by simp]
  exact h.no_more t (λk hk=>by
   obtain⟨j,hj⟩:=h.node_pre hk;exact hs j hj) i
theorem tD:∀(p a b:List UInt8),Al (p++a) (p++b)=Al a b
 | [],_,_=>rfl
 | c::p,a,b=>by
  have hc:¬c<c:=λh:c.toNat<c.toNat=>Nat.lt_irrefl _ h;rw[Cb,Cb];simp only[Al,hc,decide_false,Cf,beq_self_eq_true,Cg];exact tD p a b
theorem OkL.lab_lt {L:List (List UInt8)} (h:OkL L) {i k m:Nat} {x:dK} {c d:UInt8} (hx:(nodesA L)[i]?=some x) (h1:offA L i<=k) (h2:k<m) (h3:m<offA L (i+1))
  (hc:(labelsL L (nodesA L))[k-1]?=some c) (hd:(labelsL L (nodesA L))[m-1]?=some d):c.toNat<d.toNat:=by
 obtain⟨y,c',hy,hc',sy,my⟩:=h.kid_at hx h1 (Ch h2 h3);obtain⟨z,d',hz,hd',sz,mz⟩:=h.kid_at hx (Ci h1 (Bh h2)) h3;rw[hc]at hc';obtain rfl:=Option.some.inj hc';rw[hd]at hd';obtain rfl:=Option.some.inj hd';obtain⟨hk,ek⟩:=List.getElem?_eq_some_iff.1 hy;obtain⟨hm,em⟩:=List.getElem?_eq_some_iff.1 hz;have hb:=List.pairwise_iff_getElem.1 (jH h.asc) k m hk hm h2;rw[ek,em]at hb;have d1:=kF0 L x y my;have d2:=kF0 L x z mz;have hi:y.i<z.i:=by rcases hb with hb|hb<;>omega
 have gy:=h.good hy;have gz:=h.good hz
 have hzl:z.i<L.length:=by
  have:=gz.le
  rcases gz.ne with h|h<;>omega
 have ae:=h.asc.lt _ _ hi hzl
 have ey:nth L y.i=spanS L x++(c::(nth L y.i).drop y.d):=by
  have:=Ao y.d (nth L y.i)
  rw[show (nth L y.i).take y.d=spanS L y from rfl,sy]at this
  exact this.symm.trans (Aw _ _ _)
 have ez:nth L z.i=spanS L x++(d::(nth L z.i).drop z.d):=by
  have:=Ao z.d (nth L z.i)
  rw[show (nth L z.i).take z.d=spanS L z from rfl,sz]at this
  exact this.symm.trans (Aw _ _ _)
 rw[ey,ez,tD]at ae;simp only[Al,Bool.or_eq_true,Bz,decide_eq_true_eq,beq_iff_eq]at ae;rcases ae with ae|⟨ae,_⟩
 ·exact ae
 ·subst ae
  have e:=gy.inj h.asc gz (by rw[sy,sz]);subst e
  have:=h.uniq hy hz
  omega
def lA1 (L:List (List UInt8)) (i:Nat) (c:UInt8) (k:Nat) (b:Bool):Prop :=
 (b=true->offA L i<=k/\k<offA L (i+1)/\(labelsL L (nodesA L))[k-1]?=some c)/\(b=false->∀k,offA L i<=k->k<offA L (i+1)->(labelsL L (nodesA L))[k-1]?≠some c)
def mL0 (L:List (List UInt8)) (s:List UInt8) (k:Nat) (b:Bool):Prop:=(b=true->fR L s k)/\(b=false->∀k, ¬fR L s k)
theorem OkL.down_to {L:List (List UInt8)} (h:OkL L) {i k:Nat} {s:List UInt8} {c:UInt8} {b:Bool} (hi:fR L s i) (hd:lA1 L i c k b):mL0 L (s++[c]) k b:=by
 refine⟨λhb=>?_,λhb m hm=>?_⟩
 ·obtain⟨h1,h2,h3⟩:=hd.1 hb
  exact h.kid_is hi h1 h2 h3
 ·obtain⟨h1,h2,h3⟩:=h.kid_of hi hm
  exact hd.2 hb m h1 h2 h3
theorem aZ0 {L:List (List UInt8)} {A:List dK} {i:Nat} {x:dK} (hx:A[i]?=some x):bitOf (isL L A) i=iP L x:=by
 unfold bitOf isL;rw[Ai,Ab,hx];rfl
theorem gF0 (L:List (List UInt8)) (A:List dK):∀i,i<=A.length->eK (isL L A) i=((A.take i).filter (iP L)).length
 | 0,_=>rfl
 | i+1,h=>by
  obtain⟨x,hx⟩:∃x,A[i]?=some x:=⟨_,Aa h⟩;rw[gK,gF0 L A i (by omega),aZ0 hx,Bu,hx,Option.toList_some,As,Ac];congr 1
  by_cases hh:iP L x=true
  ·simp[hh]
  ·simp[hh]
theorem sZ0 {L:List (List UInt8)} {A:List dK} {i:Nat} {x:dK} (hx:A[i]?=some x) (hh:iP L x=true):(idsL L A)[eK (isL L A) i]?=some x.i:=by
 have hi:=(List.getElem?_eq_some_iff.1 hx).1;rw[gF0 L A i (Bh hi)];unfold idsL
 have e:A=A.take i++(x::A.drop (i+1)):=by
  have h1:=List.drop_eq_getElem_cons hi;rw[(List.getElem?_eq_some_iff.1 hx).2]at h1;rw[<-h1,Ao]
 have e2:A.filter (iP L)=(A.take i).filter (iP L)++(x::(A.drop (i+1)).filter (iP L)):=by
  conv=>lhs;rw[e]
  rw[As,List.filter_cons,if_pos hh]
 rw[e2,Bk,List.getElem?_append_right (by simp),Ae,Cj];rfl
theorem OkL.here_at {L:List (List UInt8)} (h:OkL L) {i:Nat} {x:dK} (hx:(nodesA L)[i]?=some x) (j:Nat):L[j]?=some (spanS L x)↔iP L x=true/\j=x.i:=qU h.asc (h.good hx) h.pos j
theorem OkL.of_mem {L:List (List UInt8)} (h:OkL L) {j:Nat} {s:List UInt8} (hj:L[j]?=some s):∃i,fR L s i:=by
 have hl:=(List.getElem?_eq_some_iff.1 hj).1;obtain⟨i,x,hx,hh,tw⟩:=h.node hl;refine⟨i,x,hx,?_⟩
 have:=(h.here_at hx j).2 ⟨hh,tw.symm⟩
 rw[hj]at this;exact(Option.some.inj this).symm
theorem OkL.strs_inj {L:List (List UInt8)} (h:OkL L) {i j:Nat} {s:List UInt8} (hi:L[i]?=some s) (hj:L[j]?=some s):i=j:=by
 obtain⟨k,x,hx,ex⟩:=h.of_mem hi;have a:=((h.here_at hx i).1 (by rw[ex];exact hi)).2;have b:=((h.here_at hx j).1 (by rw[ex];exact hj)).2;omega
theorem tE.begins {L:List (List UInt8)} (hL:Asc L) {x:dK} (g:tE L x) {j:Nat} (hj:j<L.length):(x.i<=j/\j<x.t)↔spanS L x <+: nth L j:=by
 have air:spanS L x <+: nth L j↔x.d<=(nth L x.i).length/\x.d<=nG (nth L x.i) (nth L j)\/x.d=0:=by
  rw[List.prefix_iff_eq_take];constructor
  ·intro h
   by_cases h0:x.d=0
   ·exact Or.inr h0
   ·have ae:x.i<x.t:=by rcases g.ne with h|h<;>omega
    have hl:=g.len x.i (Ah _) ae;refine Or.inl ⟨hl,?_⟩;rw[jK];have hs:=g.slen;rw[hs]at h;refine⟨hl,?_,h⟩
    have:=congrArg Cc h
    rw[hs,Ax]at this;omega
  ·rintro(⟨h1,h2⟩|h0)
   ·rw[g.slen]
    exact((jK _ _ _).1 h2).2.2
   ·simp[spanS,h0]
 rw[air];constructor
 ·rintro⟨h1,h2⟩
  by_cases h0:x.d=0
  ·exact Or.inr h0
  ·have hl:=g.len x.i (Ah _) (by omega)
   exact Or.inl ⟨hl,rJ hl j h1 (λm m1 m2=>g.inn m m1 (by omega))⟩
 ·rintro(⟨h1,h2⟩|h0)
  ·by_cases hd:x.d=0
   ·refine⟨?_,?_⟩
    ·rcases g.lo with h|h<;>omega
    ·rcases g.hi with h|h<;>omega
   ·have ae:x.i<x.t:=by rcases g.ne with h|h<;>omega
    refine⟨?_,?_⟩
    ·apply Ag
     intro hc;rcases g.lo with h|h
     ·omega
     ·rw[aB0]at h2
      have:=hL.all (e:=x.d) (i:=j) (j:=x.i) (m:=x.i) (by have:=g.le;omega) (by omega) (Ah _) h2
      omega
    ·apply Ag
     intro hc;rcases g.hi with h|h
     ·omega
     ·have:=hL.all (e:=x.d) (i:=x.i) (j:=j) (m:=x.t) hj (by omega) (by omega) h2
      omega
  ·refine⟨?_,?_⟩
   ·rcases g.lo with h|h<;>omega
   ·rcases g.hi with h|h<;>omega
theorem OkL.node_of_pre {L:List (List UInt8)} (h:OkL L) {s:List UInt8} {j:Nat} {t:List UInt8} (hj:L[j]?=some (s++t)):∃i,fR L s i:=by
 obtain⟨k,hk⟩:=h.of_mem hj;apply Ag
 intro hc;exact h.no_more t (λi hi=>hc ⟨i,hi⟩) k hk
def jB (L:List (List UInt8)) (s:List UInt8):Nat×Bool:=if s∈L then (L.findIdx λx=>decide (x=s),true) else (0,false)
theorem mM {L:List (List UInt8)} {s:List UInt8} (h:s∉L):jB L s=(0,false):=if_neg h
theorem OkL.findT_of {L:List (List UInt8)} (h:OkL L) {s:List UInt8} {j:Nat} (hj:L[j]?=some s):jB L s=(j,true):=by
 have hm:=Aj hj;unfold jB;rw[if_pos hm];have h1:L.findIdx (λx=>decide (x=s))<L.length:=List.findIdx_lt_length_of_exists ⟨s,hm,by simp⟩;have h2:=List.findIdx_getElem (w:=h1);have h3:L[L.findIdx (λx=>decide (x=s))]?=some s:=by rw[Aa h1];exact congrArg some (of_decide_eq_true h2)
 rw[h.strs_inj h3 hj]
theorem OkL.find_node {L:List (List UInt8)} (h:OkL L) {i:Nat} {x:dK} (hx:(nodesA L)[i]?=some x):jB L (spanS L x)=if iP L x=true then (x.i,true) else (0,false):=by
 split
 ·rename_i hh
  exact h.findT_of ((h.here_at hx x.i).2 ⟨hh,rfl⟩)
 ·rename_i hh
  refine mM λhm=>?_;obtain⟨j,hj⟩:=List.mem_iff_getElem?.1 hm;exact hh ((h.here_at hx j).1 hj).1
theorem gK1 {L:List (List UInt8)} {s:List UInt8} (h:s∈L):(jB L s).1<L.length:=by
 grind [jB]
theorem OkL.noNode {L:List (List UInt8)} (h:OkL L) {s:List UInt8} (hn:∀i, ¬fR L s i):jB L s=(0,false):=mM λhm=>by
 obtain⟨j,hj⟩:=List.mem_iff_getElem?.1 hm;obtain⟨i,hi⟩:=h.of_mem hj;exact hn i hi
structure qH (L:List (List UInt8)) (i:Nat) (c:UInt8) (f t:Nat):Prop where
 lo:offA L i<=f
 le:f<=t
 hi:t<=offA L (i+1)
 left:∀k d,offA L i<=k->k<f->(labelsL L (nodesA L))[k-1]?=some d->d.toNat<c.toNat
 right:∀k d,t<=k->k<offA L (i+1)->(labelsL L (nodesA L))[k-1]?=some d->c.toNat<=d.toNat
theorem qH.start (L:List (List UInt8)) (i:Nat) (c:UInt8):qH L i c (offA L i) (offA L (i+1)) :=
 ⟨Ah _,lM (by omega),Ah _,by omega,by omega⟩
theorem qH.less {L:List (List UInt8)} {i f t:Nat} {c:UInt8} (h:OkL L) {x:dK} (hx:(nodesA L)[i]?=some x) (I:qH L i c f t) {m:Nat} {d:UInt8} (h1:f<=m) (h2:m<t) (hd:(labelsL L (nodesA L))[m-1]?=some d) (hc:d.toNat<c.toNat):qH L i c (m+1) t:=by
 refine⟨by have:=I.lo;omega,by omega,I.hi,λk e a b he=>?_,I.right⟩;rcases Ba k m with q|q
 ·have:=h.lab_lt hx a q (by have:=I.hi;omega) he hd
  omega
 grind
theorem qH.more {L:List (List UInt8)} {i f t:Nat} {c:UInt8} (h:OkL L) {x:dK} (hx:(nodesA L)[i]?=some x) (I:qH L i c f t) {m:Nat} {d:UInt8} (h1:f<=m) (h2:m<t) (hd:(labelsL L (nodesA L))[m-1]?=some d) (hc:¬d.toNat<c.toNat):qH L i c f m :=
 ⟨I.lo,h1,by have:=I.hi;omega,I.left,λk e a b he=>by
  rcases Ba m k with q|q
  ·have:=h.lab_lt hx (by have:=I.lo;omega) q b hd he
   omega
  grind⟩
theorem qH.hit {L:List (List UInt8)} {i f:Nat} {c:UInt8} (I:qH L i c f f) (h1:f<offA L (i+1)) (hd:(labelsL L (nodesA L))[f-1]?=some c):lA1 L i c f true :=
 ⟨λ_=>⟨I.lo,h1,hd⟩,λh=>by cases h⟩
theorem qH.ends {L:List (List UInt8)} {i f:Nat} {c:UInt8} (I:qH L i c f f) (h1:¬f<offA L (i+1)):lA1 L i c f false :=
 ⟨λh=>(by cases h),λ_ k a b he=>by have:=I.left k c a (by omega) he;omega⟩
theorem qH.miss {L:List (List UInt8)} {i f:Nat} {c d:UInt8} (h:OkL L) {x:dK} (hx:(nodesA L)[i]?=some x) (I:qH L i c f f) (h1:f<offA L (i+1)) (hd:(labelsL L (nodesA L))[f-1]?=some d) (hc:d≠c):lA1 L i c f false :=
 ⟨λh=>(by cases h),λ_ k a b he=>by
  rcases Nat.lt_trichotomy k f with q|q|q
  ·have:=I.left k c a q he
   omega
  ·simp_all
  ·have h2:=h.lab_lt hx I.lo q b hd he
   have h3:=I.right f d (Ah _) h1 hd;omega⟩
theorem OkL.lab_get {L:List (List UInt8)} (h:OkL L) {i k:Nat} {x:dK} (hx:(nodesA L)[i]?=some x) (h1:offA L i<=k) (h2:k<offA L (i+1)):∃d,(labelsL L (nodesA L))[k-1]?=some d:=by
 obtain⟨_,c,_,hc,_⟩:=h.kid_at hx h1 h2;exact⟨c,hc⟩
theorem OkL.walk_stop {L:List (List UInt8)} (h:OkL L) {s:List UInt8} {n k:Nat} (hw:mL0 L (s.take n) k false):mL0 L s k false :=
 ⟨λh=>(by cases h),λ_=>by
  have:=h.no_more (s.drop n) (hw.2 rfl)
  simp_all⟩
def wD0 (L:List (List UInt8)) (s:List UInt8) (i:Nat):List (Nat×Nat):=if s.take (i+1)∈L then [((jB L (s.take (i+1))).1,i+1)] else []
def hitsL (L:List (List UInt8)) (s:List UInt8) (n:Nat):List (Nat×Nat):=(Am n).flatMap (wD0 L s)
theorem rB (L:List (List UInt8)) (s:List UInt8) (n:Nat):hitsL L s (n+1)=hitsL L s n++wD0 L s n:=by
 unfold hitsL;rw[Ce,Bp];simp
theorem aK0 {L:List (List UInt8)} {s:List UInt8} {q:Nat×Nat}:∀ {n:Nat},q∈hitsL L s n->q.1<L.length/\q.2<=n
 | 0,h=>by cases h
 | n+1,h=>by
  rw[rB]at h;rcases List.mem_append.1 h with h|h
  ·have:=aK0 h
   omega
  ·unfold wD0 at h
   split at h
   ·rename_i hm
    obtain rfl:q=((jB L (s.take (n+1))).1,n+1):=by simpa using h
    grind [jB]
   ·cases h
theorem OkL.hits_256 {L:List (List UInt8)} (h:OkL L) {s:List UInt8}:∀ {n:Nat},n<=s.length->(hitsL L s n).length<=min n 256
 | 0,_=>Be _
 | n+1,hn=>by
  have ih:=h.hits_256 (s:=s) (n:=n) (by omega);rw[rB,Ac];have h1:(wD0 L s n).length<=1:=by unfold wD0;split<;>simp
  rcases Ba n 256 with q|q
  ·omega
  ·have h2:wD0 L s n=[]:=by
    unfold wD0;rw[if_neg];intro hc
    have:=h.len _ hc
    rw[Ax]at this;omega
   grind
theorem OkL.hits_stop {L:List (List UInt8)} (h:OkL L) {s:List UInt8} {n:Nat} (hn:∀i, ¬fR L (s.take (n+1)) i):∀m,n<=m->hitsL L s m=hitsL L s n
 | 0,hm=>by
  obtain rfl:n=0:=by omega
  rfl
 | m+1,hm=>by
  rcases Ba m n with q|q
  ·obtain rfl:n=m+1:=by omega
   rfl
  ·rw[rB,h.hits_stop hn m q]
   have:wD0 L s m=[]:=by
    unfold wD0;rw[if_neg];intro hc;obtain⟨j,hj⟩:=List.mem_iff_getElem?.1 hc;obtain⟨i,hi⟩:=h.of_mem hj
    have e:s.take (m+1)=s.take (n+1)++(s.take (m+1)).drop (n+1):=by
     have h1:=Ao (n+1) (s.take (m+1));rw[List.take_take,Nat.min_eq_left (by omega)]at h1;exact h1.symm
    rw[e]at hi;exact h.no_more _ hn i hi
   rw[this,Az]
theorem uC {L:List (List UInt8)} {d t:Nat}:∀(f:Nat) {i:Nat},t-i<=f->i<t->∃y,(fI L d t i).getLast?=some y/\y.t=t
 | 0,i,h1,h2=>by omega
 | f+1,i,h1,h2=>by
  rw[eN h2];have hk:=uI L (d:=d) h2;by_cases he:eB L d t i<t
  ·obtain⟨y,hy,ht⟩:=uC f (i:=eB L d t i) (by omega) he
   refine⟨y,?_,ht⟩;rw[List.getLast?_cons,hy];rfl
  ·rw[gI he]
   exact⟨_,rfl,by grind⟩
theorem OkL.first_kid {L:List (List UInt8)} (h:OkL L) {i:Nat} {x:dK} (hx:(nodesA L)[i]?=some x) (hl:x.i<x.t) (hh:iP L x=false):offA L i<offA L (i+1)/\∃y,(nodesA L)[offA L i]?=some y/\y.i=x.i:=by
 have hk:fQ L x=⟨x.i,eB L x.d x.t x.i,x.d+1⟩::fI L x.d x.t (eB L x.d x.t x.i):=by
  unfold fQ cJ;rw[hh];exact eN hl
 have h1:offA L i<offA L (i+1):=by
  rw[iO hx,hk,Bf];omega
 refine⟨h1,⟨x.i,eB L x.d x.t x.i,x.d+1⟩,?_,rfl⟩;have h2:=uF h.fix hx (k:=offA L i) (Ah _) h1;rw[h2,hk];show (_::_)[offA L i-offA L i]?=_
 rw[Cj];rfl
theorem OkL.last_kid {L:List (List UInt8)} (h:OkL L) {i:Nat} {x:dK} (hx:(nodesA L)[i]?=some x) (h1:offA L i<offA L (i+1)):∃y,(nodesA L)[offA L (i+1)-1]?=some y/\y.t=x.t:=by
 have h2:=uF h.fix hx (k:=offA L (i+1)-1) (show offA L i<=_ by omega) (show _<offA L (i+1) by omega)
 have ho:=iO hx
 have ae:cJ L x<x.t:=by
  apply Ag
  intro hc
  have:fQ L x=[]:=gI hc
  rw[this]at ho;simp at ho;omega
 obtain⟨y,hy,ht⟩:=uC (L:=L) (d:=x.d) (t:=x.t) (x.t-cJ L x) (Ah _) ae;refine⟨y,?_,ht⟩;rw[h2];grind [fQ,offA]
theorem OkL.no_kid {L:List (List UInt8)} {i:Nat} {x:dK} (hx:(nodesA L)[i]?=some x) (hl:x.i<x.t) (h1:¬offA L i<offA L (i+1)):iP L x=true/\x.t=x.i+1:=by
 have ho:=iO hx
 have ae:¬cJ L x<x.t:=λhc=>by
  have:fQ L x=_:=eN hc
  simp_all
 unfold cJ at ae;grind
theorem OkL.span_pos {L:List (List UInt8)} (h:OkL L) (hL:0<L.length) {i:Nat} {x:dK} (hx:(nodesA L)[i]?=some x):x.i<x.t:=by
 have g:=h.good hx;rcases g.ne with hl|hd
 ·exact hl
 ·have e:x=rootS L:=g.inj h.asc (mO0 L) (by
   grind [spanS,rootS])
  rw[e];exact hL
def gA (L:List (List UInt8)) (p:List UInt8):List Nat:=(Am L.length).filter λj=>p.isPrefixOf (nth L j)
theorem OkL.below_node {L:List (List UInt8)} (h:OkL L) {i:Nat} {x:dK} (hx:(nodesA L)[i]?=some x):gA L (spanS L x)=At x.i (x.t-x.i):=by
 have g:=h.good hx;have ia:=g.le;unfold gA
 have e2:Am L.length=Am x.i++(At x.i (x.t-x.i)++At x.t (L.length-x.t)):=by
  have h1:At x.i (x.t-x.i)++At x.t (L.length-x.t)=At x.i (L.length-x.i):=by
   have:=Bn (s:=x.i) (m:=x.t-x.i) (n:=L.length-x.t)
   rw[show x.i+(x.t-x.i)=x.t by omega,show x.t-x.i+(L.length-x.t)=L.length-x.i by omega]at this
   exact this
  have h2:=Bn (s:=0) (m:=x.i) (n:=L.length-x.i);rw[Nat.zero_add,show x.i+(L.length-x.i)=L.length by omega]at h2
  rw[h1,Bo,Bo,h2]
 have key:∀j,j<L.length->((spanS L x).isPrefixOf (nth L j)=true↔x.i<=j/\j<x.t):=λj hj=>by
  rw[Ar];exact(g.begins h.asc hj).symm
 rw[e2,As,As]
 have f1:(Am x.i).filter (λj=>(spanS L x).isPrefixOf (nth L j))=[]:=List.filter_eq_nil_iff.2 (λj hj=>by
  rw[Bd]at hj;rw[key j (by omega)];omega)
 have f3:(At x.t (L.length-x.t)).filter (λj=>(spanS L x).isPrefixOf (nth L j))=[]:=List.filter_eq_nil_iff.2 (λj hj=>by
  rw[Bv]at hj;rw[key j (by omega)];omega)
 rw[f1,f3,Az,Bj,List.filter_eq_self];intro j hj;rw[Bv]at hj;exact(key j (by omega)).2 (by omega)
theorem OkL.below_none {L:List (List UInt8)} (h:OkL L) {p:List UInt8} (hn:∀i, ¬fR L p i):gA L p=[]:=by
 unfold gA;refine List.filter_eq_nil_iff.2 λj hj hp=>?_;rw[Bd]at hj;rw[Ar]at hp;obtain⟨t,ht⟩:=hp;obtain⟨i,hi⟩:=h.node_of_pre (j:=j) (s:=p) (t:=t) (by rw[ht];exact iZ hj);exact hn i hi
theorem OkL.below_long {L:List (List UInt8)} (h:OkL L) {p:List UInt8} (hn:256<p.length):gA L p=[]:=by
 unfold gA;refine List.filter_eq_nil_iff.2 λj hj hp=>?_;rw[Bd]at hj;rw[Ar]at hp
 have:=hp.length_le
 have:=h.len _ (Aj (iZ hj))
 omega
def eN1 (L:List (List UInt8)) (k:Nat):Nat:=(Am (k+1)).countP λq=>decide (offA L (q+1)<=k)
theorem zZ0 {L:List (List UInt8)} {p k:Nat} (hp:p<=k) (h1:offA L p<=k) (h2:k<offA L (p+1)):eN1 L k=p:=by
 unfold eN1;rw[rK _ p (k+1) (λq _=>?_)]
 ·omega
 ·rw[Bool.eq_iff_iff]
  simp only[decide_eq_true_eq];constructor
  ·intro h
   apply Ag
   intro hc
   have:=lM (L:=L) (show p+1<=q+1 by omega)
   omega
  ·intro h
   have:=lM (L:=L) (show q+1<=p by omega)
   omega
def jT0 (L:List (List UInt8)) (m:Nat):List Nat:=(Am m).map (eN1 L)
def yY (L:List (List UInt8)) (m:Nat):List Nat:=((nodesA L).take m).map (·.d)
theorem yF0 (L:List (List UInt8)) (m:Nat):jT0 L (m+1)=jT0 L m++[eN1 L m]:=by
 unfold jT0;rw[Ce,Bk];rfl
theorem nX (L:List (List UInt8)) (m:Nat):(jT0 L m).length=m:=by simp[jT0]
theorem jI1 {L:List (List UInt8)} {m k:Nat} (h:k<m):(jT0 L m)[k]?=some (eN1 L k):=by
 unfold jT0;rw[Ab,Ak h];rfl
theorem lF0 {L:List (List UInt8)} {m:Nat} {y:dK} (h:(nodesA L)[m]?=some y):yY L (m+1)=yY L m++[y.d]:=by
 unfold yY;rw[Bu,h,Bk];rfl
theorem sJ0 {L:List (List UInt8)} {m:Nat} (h:m<=(nodesA L).length):(yY L m).length=m:=by
 unfold yY;rw[Ae,Ax];omega
theorem iH0 {L:List (List UInt8)} {m k:Nat} {y:dK} (h:k<m) (hy:(nodesA L)[k]?=some y):(yY L m)[k]?=some y.d:=by
 unfold yY;rw[Ab,List.getElem?_take,if_pos h,hy];rfl
theorem OkL.depT_one {L:List (List UInt8)} (h:OkL L):yY L 1=[0]:=by
 rw[lF0 h.root0];rfl
theorem gC1 (L:List (List UInt8)):jT0 L 1=[0]:=by
 unfold jT0
 have:eN1 L 0=0:=by
  unfold eN1;have h:=lM (L:=L) (Be 1);rw[uB]at h;rw[List.countP_eq_zero];intro q hq;obtain rfl:q=0:=by simpa using hq
  simp;omega
 simp[this]
def mG (L:List (List UInt8)) (i:Nat):List ByteArray:=(Am L.length).map λj=>if (kF L).getD j 0<i then mkB (nth L j) else ⟨#[]⟩
theorem uD (L:List (List UInt8)) (i:Nat):(mG L i).length=L.length:=by simp[mG]
theorem uP0 (L:List (List UInt8)):mG L 0=Bc L.length (⟨#[]⟩:ByteArray):=by
 apply Ap
 intro j;unfold mG;rw[Ab,Bg];by_cases h:j<L.length
 ·rw[Ak h,if_pos h];simp
 ·rw[Af (by simp;omega),if_neg h];rfl
theorem OkL.strTo_all {L:List (List UInt8)} (h:OkL L) {m:Nat} (hm:(nodesA L).length<=m):mG L m=L.map mkB:=by
 apply Ap
 intro j;unfold mG;rw[Ab,Ab];by_cases hj:j<L.length
 ·rw[Ak hj,iZ hj]
  obtain⟨i,x,hx,hh,tw⟩:=h.node hj;have hn:=jC h hj hx hh tw;have hi:=(List.getElem?_eq_some_iff.1 hx).1;simp only[An];rw[Ai,hn,Ay,if_pos (by omega)]
 ·rw[Af (by simp;omega),Af (by omega)];rfl
theorem OkL.strTo_no {L:List (List UInt8)} (h:OkL L) {i:Nat} {x:dK} (hx:(nodesA L)[i]?=some x) (hh:iP L x=false):mG L (i+1)=mG L i:=by
 unfold mG;apply Bq
 intro j hj;rw[Bd]at hj;obtain⟨k,y,hy,hh2,hyj⟩:=h.node hj;rw[Ai,jC h hj hy hh2 hyj,Ay]
 have ai:k≠i:=by
  rintro rfl;rw[hx]at hy;obtain rfl:=Option.some.inj hy;rw[hh]at hh2;cases hh2
 by_cases hk:k<i
 ·rw[if_pos (by omega),if_pos hk]
 ·rw[if_neg (by omega),if_neg hk]
theorem OkL.strTo_yes {L:List (List UInt8)} (h:OkL L) {i:Nat} {x:dK} (hx:(nodesA L)[i]?=some x) (hh:iP L x=true):mG L (i+1)=(mG L i).set x.i (mkB (spanS L x)):=by
 have hL:L[x.i]?=some (spanS L x):=(h.here_at hx x.i).2 ⟨hh,rfl⟩;have hxl:=(List.getElem?_eq_some_iff.1 hL).1;apply Ap
 intro j;by_cases hj:j<L.length
 ·obtain⟨k,y,hy,hh2,hyj⟩:=h.node hj
  have hn:=jC h hj hy hh2 hyj;by_cases he:j=x.i
  ·subst he
   rw[Bi (by rw[uD];exact hj)];unfold mG;rw[Ab,Ak hj,An]
   have cy:k=i:=by
    have e1:=(h.here_at hy x.i).2 ⟨hh2,hyj.symm⟩;rw[hL]at e1
    have:=(h.good hy).inj h.asc (h.good hx) (Option.some.inj e1).symm
    subst this;exact h.uniq hy hx
   rw[Ai,hn,Ay,if_pos (by omega),xV hL]
  ·rw[Bl (Ne.symm he)]
   unfold mG;rw[Ab,Ab,Ak hj,An,An,Ai,hn,Ay]
   have ai:k≠i:=by
    rintro rfl;rw[hx]at hy;obtain rfl:=Option.some.inj hy;exact he hyj.symm
   by_cases hk:k<i
   ·rw[if_pos (by omega),if_pos hk]
   ·rw[if_neg (by omega),if_neg hk]
 ·rw[Af (by rw[uD];omega),Af (by rw[Cd,uD];omega)]
theorem OkL.climb {L:List (List UInt8)} (h:OkL L) {X:Nat} {y:dK} (h0:0<X) (hy:(nodesA L)[X]?=some y):∃z c,(nodesA L)[eN1 L X]?=some z/\eN1 L X<X/\(labelsL L (nodesA L))[X-1]?=some c/\spanS L y=spanS L z++[c]/\y.d=z.d+1:=by
 obtain⟨p,z,hz,hpX,o1,o2,hm⟩:=h.parent h0 hy;have hs:=wU h.asc (h.good hz) hm;rw[zZ0 (Bh hpX) o1 o2];refine⟨z,_,hz,hpX,h.lab h0 hy,?_,kF0 L z y hm⟩;rw[hs];simp
theorem cW1 {d:Nat} {c:UInt8} {tl:List UInt8}:(Bc (d+1) (0:UInt8)++tl).set d c=Bc d 0++(c::tl):=by
 rw[List.replicate_succ',Aw,List.set_append_right _ _ (by simp)];simp
end
end Go.Proofs.YtheiocndipepaaaGreatDoor
