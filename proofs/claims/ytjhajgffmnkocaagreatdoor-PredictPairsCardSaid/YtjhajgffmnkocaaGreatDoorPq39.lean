/- The texts BvE LoC TrE Txt LbP TriQ TriR BvD Tri1 LoP GroP, one behind the other. -/
import Derived.Test.YtjhajgffmnkocaaGreatDoorPq30
import Derived.Test.YtjhajgffmnkocaaGreatDoorPq38
import Derived.Test.YtjhajgffmnkocaaGreatDoorPq25
import Derived.Test.YtjhajgffmnkocaaGreatDoorPq31
import Derived.Test.YtjhajgffmnkocaaGreatDoorPq6
import Derived.Test.YtjhajgffmnkocaaGreatDoorPq4
import Derived.Test.YtjhajgffmnkocaaGreatDoorPq23
import Derived.Test.YtjhajgffmnkocaaGreatDoorPq7
import Derived.Test.YtjhajgffmnkocaaGreatDoorPq22
open Go.Lib renaming hid → Aa
open List renaming length_append → Ab,getElem?_eq_getElem → Ac,getElem?_map → Ad,length_map → Af,mem_of_getElem? → Aj,getElem?_eq_none → Ak,getD_eq_getElem?_getD → Am,getElem?_range → Ap,length_take → Ar,append_assoc → At,range → Au,take_of_length_le → Av,take_append_drop → Aw,ext_getElem? → Ax,isPrefixOf_iff_prefix → Ay,take_length → Az,filter_append → Bb,range' → Bd,flatMap_cons → Be,length_drop → Bf,length_cons → Bg,append_nil → Bi,ne_nil_of_mem → Bn,replicate → Bo,mem_range → Bp,drop_eq_getElem_cons → Bs,ne_nil_of_length_pos → Bt,length → Bu,getElem?_replicate → Bw,getElem?_set_self → Bz,nil_append → Cb,map_append → Cc,getElem?_set_ne → Cf,range'_append_1 → Cg,range_eq_range' → Ch,flatMap_append → Ci,map_congr_left → Cj,getElem?_drop → Ck,getElem?_take → Cn,take_add_one → Cp,mem_range'_1 → Cq,append_inj' → Ct,cons_append → Cu,length_set → Cx,range_succ → Cy,drop_left' → Da
open Go.IntKind renaming signed → Ae,wrap → Ag,bits → Ah
open Nat renaming le_refl → Ai,zero_le → As,lt_or_ge → Bj,lt_of_lt_of_le → Bk,le_of_lt → By,eq_zero_or_pos → Cm,le_trans → Co,mod_eq_of_lt → Cv,lt_succ_self → Cw,lt_trans → De,sub_self → Df
open Classical renaming byContradiction → Al
open UInt8 renaming ofNat → An
open Option renaming map_some → Ao,getD_some → Bh
open Go.Op renaming bytesLess → Aq
open Go.World renaming cell?_setCell_other → Ba,block_lt_of_cell? → Bc,cell?_setCell_same → Bv,frozen?_of_block → Ca,frozen?_setCell → Ce,cell? → Dg
open Int renaming tdiv_eq_ediv_of_nonneg → Bq,tmod_eq_emod_of_nonneg → Br,natCast_mul → Cd,natCast_add → Cz
open Bool renaming false_eq_true → Cl,and_eq_true → Cr,false_or → Dc,true_and → Dd
set_option maxHeartbeats 8000000
namespace Go.Proofs.YtjhajgffmnkocaaGreatDoor
set_option maxRecDepth 100000
section
open Go Go.RowKit
attribute [local go_sem] aO aM
theorem aN1 {l:List Bool} {k x:Nat} (h:(tV l)[k]?=some x):x<=l.length+512:=by
 unfold tV at h;rw[Ad]at h
 cases hg:(Au ((l.length+511)/512))[k]? with
 | none=>rw[hg]at h;cases h
 | some g =>
  rw[hg]at h;have h1:dT l (512*g)=x:=Option.some.inj h;obtain⟨h2,h3⟩:=List.getElem?_eq_some_iff.1 hg;rw[List.length_range]at h2;rw[List.getElem_range]at h3
  have:=nM l (512*g)
  omega
theorem eC0 (l:List Bool) (vb:Nat) (w:World) (hl:l.length<=1048576) (ac:kE w vb l) :
  Calls Tryz.prog 179 #[.pointer (some ⟨vb,0,none⟩)] w λe w'=>∃v,e=.returned v/\aU w' w.heap.size 5 1 aV v (oB l)/\aB w w':=by
 have c0:=ac.c0;obtain⟨vW,c1,kq⟩:=ac.c1;obtain⟨aW,cW,rfl,_,_,ic⟩:=kq.at_ (enc:=kF) (λ_=>rfl);obtain⟨vC,c2,jp⟩:=ac.c2;obtain⟨aC,cC,rfl,_,_,qk⟩:=jp.at_ (enc:=jS) (λ_=>rfl);have aeq:∀q:Addr,aW=some q->q.block<w.heap.size:=λq hq=>gH kq q.block (by rw[hq];rfl);have aer:vb<w.heap.size:=Bc w _ c0;have hq:=fM l;have hCl:(tV l).length=(l.length+511)/512:=by simp[tV]
 obtain⟨Cs,hCs⟩:=exq (tV l);rw[<-hCs]at c2 qk hCl
 have hcb:∀k x,Cs[k]?=some x->x<=1049088:=λk x hx=>by
  rw[hCs]at hx
  have:=aN1 hx
  omega
 obtain⟨Ws,hWs⟩:=exq (mO l);rw[<-hWs]at ic hq c1;have ve:Ws.length<=16384:=by omega
 have fp:∀n∈Ws,n<18446744073709551616:=λn hn=>by
  rw[hWs]at hn;unfold mO at hn;obtain⟨k,_,rfl⟩:=List.mem_map.1 hn;exact oR l k
 have HE:Hid (oB l=leB 4 l.length++kK 8 Ws++kK 4 Cs):=by show _=_;rw[hWs,hCs];rfl
 have HW64:=Aa fp;have HCB:=Aa hcb;have HATC:=Aa qk;have HATW:=Aa ic;have abo:Cs.length<=2049:=by omega
 have wn:IntKind.u64.wrap (l.length:Int)=l.length:=by simp[Ag,Ah,Ae];omega
 have z0:∀y:Ext (EB w.heap.size) w.drew,y.u.cell? ⟨vb,0,none⟩=some (.int .i64 l.length):=mU aer ((aB.drew w).cell c0);have z1:∀y:Ext (EB w.heap.size) w.drew,y.u.cell? ⟨vb,1,none⟩=some (.slice aW Ws.length cW):=mU aer ((aB.drew w).cell c1);obtain⟨n,ak⟩:=exq l.length;rw[<-ak]at HE wn z0 hl;have ad1:=Aa aeq;clear ac c0 kq jp qk ic hq aeq hCs hCl hcb hWs fp ak c1;go_enter Tryz.func179,Tryz.ntmps179
 go_wp2_with fail
 refine lK (EB w.heap.size) (nU [0,1,2,3,4,7,8,9,10,5,6,11,12] [5,6,11,12]) (EB.refl w.heap.size) (EB.trans w.heap.size) (by kernel_rfl) (by kernel_rfl) (λd _ _ _ _ h=>by cases d<;>exact h) ?_
 iterate 9 (refine aH rfl (λK hK=>?_);go_simp;refine hK _ ?_;clear hK K)
 clear z0 z1;refine bG rfl rfl (λK hK=>?_);go_simp;refine⟨EB.of (aB.alloc _ _) (Ai _),hK _ _ ?_⟩;clear hK K;have vu:=oZ (enc:=kF) (w:=w) (t:=154) (fz:=(0,0)) (cs:=#[.int .u64 n]) (λ_=>rfl) [n] rfl;obtain⟨W1,bh⟩:=exq ((w.alloc (.cells #[.int .u64 n] 154)).drew);have ai:aB w W1:=by rw[bh];exact(aB.alloc _ _).dr
 have fe:w.heap.size<W1.heap.size:=by rw[bh];simp
 have aao:aG W1 (some ⟨w.heap.size,0,none⟩) 1 ([n].map kF):=by rw[bh];exact vu.grows (aB.drew _)
 rw[<-bh];clear bh vu;refine bG rfl rfl (λK hK=>?_);go_simp;refine(eI0 (.slice none 0 0) [] 4 [n] (some ⟨w.heap.size,0,none⟩) 1 W1 W1 (aB.refl _) (by decide) (by simp) (by simp) (λm hm=>by obtain rfl:=List.mem_singleton.1 hm;omega) (aU.nil _ _ _ _ _) aao (λq _ h=>by cases h) (λq hq=>by cases hq;exact fe)).mono ?_;rintro e w2 ⟨v2,rfl,ah,ae,ai5⟩;rw[Cb]at ah;refine⟨EB.of ae (By fe),hK _ _ ?_⟩;clear hK K;have hp4:(kK 4 [n]).length=4:=by rw[tL];rfl
 have aes:∀q:Addr,aW=some q->q.block<W1.heap.size:=λq hq=>De (ad1.out q hq) fe;refine bG rfl rfl (λK hK=>?_);go_simp;refine(eI0 v2 (kK 4 [n]) 8 Ws aW cW W1 _ ae (by decide) (by omega) (by omega) HW64.out ah (HATW.out.grows (ai.tr ae)) (kM0 ah aes) (λr hr=>Bk (aes r hr) ae.size)).mono ?_;rintro e w3 ⟨v3,rfl,av,aw,vv⟩;refine⟨EB.both (ai.tr ae) (ai.tr aw) vv,hK _ _ ?_⟩;clear hK K;refine bG rfl rfl (λK hK=>?_);go_simp;refine⟨EB.refl _ _,hK _ _ ?_⟩;clear hK K;refine bN ?_;have kp:=ai.tr aw;obtain⟨P3,hP3⟩:=exq (kK 4 [n]++kK 8 Ws);rw[<-hP3]at av;have hp3:P3.length<=4+8*16384:=by rw[hP3,Ab,hp4,tL];omega
 have HE3:Hid (oB l=P3++kK 4 Cs):=by show _=_;rw[HE.out,hP3];unfold kK;simp
 replace av:=av.base (base':=w.heap.size) ai.size;have c2r:=kp.cell c2;clear hP3 ah ae aw ai aao hp4 HE c2;go_wp2_with fail
 go_loopw [3,25] (λout i wr=>∃(k:Nat) (cd:List UInt8),k<=Cs.length/\i=.int .i64 k/\Hid (cd=P3++kK 4 (Cs.take k))/\aU wr w.heap.size 5 1 aV out cd/\aB w wr) (λ_ i _=>Cs.length-(intOf i).toNat)
 case atStart=>exact⟨0,P3,As _,rfl,(by show _=_;simp[kK]),av,kp⟩
 case round =>
  obtain⟨k,cd,hk,rfl,ci,aa,hg⟩:=hrel
  have mw:cd.length<=4+8*16384+4*k:=by
   rw[ci.out,Ab,tL,Ar];omega
  by_cases af:k<Cs.length
  ·obtain⟨x,hx⟩:∃x,Cs[k]?=some x:=⟨_,Ac af⟩
   obtain⟨b,o,rfl,hc⟩:=at1 HATC.out (aJ af);have jc:=hg.cell (hc k x hx);have ny:=HCB.out k x hx;have wx:IntKind.u64.wrap (x:Int)=x:=by simp[Ag,Ah,Ae];omega
   have HN:Hid (cd++kK 4 [x]=P3++kK 4 (Cs.take (k+1))):=by
    show _=_
    rw[bJ hx,cU0,ci.out,At];simp[kK]
   have cz:(k:Int)<Cs.length:=by omega
   have vu:=oZ (enc:=kF) (w:=wr) (t:=154) (fz:=(0,0)) (cs:=#[.int .u64 x]) (λ_=>rfl) [x] rfl;have CP:=eI0 _ cd 4 [x] (some ⟨wr.heap.size,0,none⟩) 1 w (wr.alloc (.cells #[.int .u64 x] 154)) (hg.al _) (by decide) (by omega) (by simp) (λm hm=>by obtain rfl:=List.mem_singleton.1 hm;omega) (aa.grows (aB.alloc _ _)) vu (cH1 aa (λr hr=>by cases hr;exact Ai _)) (λr hr=>by cases hr;simp);clear hc hx ci vu;go_wp2_with fail
   refine CP.mono ?_;rintro e w5 ⟨v5,rfl,au,bi,_⟩;go_wp2_with fail
   go_roundw
   case rel=>exact⟨k+1,_,af,by go_num,HN.out,au,bi⟩
   case measure=>simp[intOf];omega
  ·have cz:¬(k:Int)<Cs.length:=by omega
   have HF:Hid (cd=oB l):=by
    show _=_
    rw[ci.out,Av (by omega),HE3.out]
   clear ci;go_wp2_with fail
   go_ret;exact⟨_,rfl,by rw[<-HF.out];exact aa,hg⟩
def lP0 (L:List (List UInt8)):Nat:=if 20000<L.length then 2 else if pE L=true then 1 else 0
theorem pO0 (B:List ByteArray) (a:Option Addr) (c:Nat) (w:World) (hB:B.length<=1099511627776) (dm:∀s∈B,s.size<=1099511627776) (ac:aG w a 1 (B.map stC)) :
  Calls Tryz.prog 164 #[.slice a B.length c] w λe w'=>e=.returned (.int .i64 (lP0 (bls B)))/\w=w':=by
 have HAT:=Aa ac;have HSZ:=Aa dm;clear ac dm;by_cases ia:20000<B.length
 ·have q8:(20000:Int)<B.length:=by omega
  have HF:Hid (lP0 (bls B)=2):=by show _=_;unfold lP0;rw[cO,if_pos ia]
  go_enter Tryz.func164,Tryz.ntmps164
  go_wp2_with fail
  go_ret;exact⟨by rw[HF.out];rfl,rfl⟩
 have q8:¬(20000:Int)<B.length:=by omega
 have HF:Hid (lP0 (bls B)=if pE (bls B)=true then 1 else 0):=by show _=_;unfold lP0;rw[cO,if_neg ia]
 have HIT:Hid (∀k,k<B.length->bP0 (bls B) k=true->lP0 (bls B)=1):=λk hk hb=>by rw[HF.out,if_pos (rE0 (by rw[cO];exact hk) hb)]
 go_enter Tryz.func164,Tryz.ntmps164
 go_wp2_with fail
 go_loop [10] (λi=>∃k:Nat,k<=B.length/\i=.int .i64 k/\Hid (∀j,j<k->bP0 (bls B) j=false)) (λi=>B.length-(intOf i).toNat)
 case atStart=>exact⟨0,As _,rfl,λj hj=>by omega⟩
 case round =>
  obtain⟨k,hk,rfl,cp⟩:=hrel;by_cases af:k<B.length
  ·obtain⟨s,hx⟩:∃x,B[k]?=some x:=⟨_,Ac af⟩
   obtain⟨b,o,rfl,hc⟩:=at1 HAT.out (aJ af);have hcw:=hc k s hx;have hn:=eK hx;have ai6:=HSZ.out s (Aj hx);have cz:(k:Int)<B.length:=by omega
   have HBD:Hid (bP0 (bls B) k=(decide (s.size<1)||decide (256<s.size)||(decide (0<k) && !Aq (nth (bls B) (k-1)) (bl s)))):=by show _=_;unfold bP0;rw[hn,eE]
   have abp:s.toList=[]↔s.size<1:=by
    rw[<-oM0,<-eE];constructor
    ·intro h;rw[h];decide
    ·intro h;exact List.eq_nil_of_length_eq_zero (by omega)
   by_cases h1:s.size<1
   ·have HB:=Aa (HIT.out k af (by rw[HBD.out];simp[h1]))
    have he1:s.toList.isEmpty=true:=by rw[abp.2 h1];rfl
    clear hc hx hn h1 abp;go_wp2_with fail
    go_ret;exact⟨by rw[HB.out];rfl,rfl⟩
   ·have aio:s.toList.isEmpty=false:=by
     cases hh:s.toList.isEmpty
     ·rfl
     ·exact absurd (abp.1 (List.isEmpty_iff.1 hh)) h1
    clear abp;by_cases h2:256<s.size
    ·have h2i:(256:Int)<s.size:=by omega
     have HB:=Aa (HIT.out k af (by rw[HBD.out];simp[h2]));clear hc hx hn;go_wp2_with fail
     go_ret;exact⟨by rw[HB.out];rfl,rfl⟩
    ·have h2i:¬(256:Int)<s.size:=by omega
     by_cases h0:k=0
     ·have zb:¬0<k:=by omega
      have HN:Hid (∀j,j<k+1->bP0 (bls B) j=false):=λj hj=>by
       have fc:decide (s.size<1)=false:=decide_eq_false h1;have ja:decide (256<s.size)=false:=decide_eq_false h2;have lf:decide (0<k)=false:=decide_eq_false zb;rw[show j=k by omega,HBD.out,fc,ja,lf];rfl
      clear hc hx hn h0;go_wp2_with fail
      go_round
      case rel=>exact⟨k+1,af,by go_num,HN.out⟩
      case measure=>simp[intOf];omega
     ·have zb:0<k:=by omega
      obtain⟨t,i5⟩:∃x,B[k-1]?=some x:=⟨_,Ac (by omega)⟩;have ai7:=hc (k-1) t i5;have hk1:(k:Int)-1=((k-1:Nat):Int):=by omega
      have ig:((k-1:Nat):Int)<B.length:=by omega
      have ii:IntKind.i64.wrap ((k-1:Nat):Int)=((k-1:Nat):Int):=by simp[Ag,Ah,Ae];omega
      have hq:=HBD.out;rw[eK i5,oM0,oM0]at hq;have fc:decide (s.size<1)=false:=decide_eq_false h1;have ja:decide (256<s.size)=false:=decide_eq_false h2;have lf:decide (0<k)=true:=decide_eq_true zb;rw[fc,ja,lf]at hq;simp only[Dc,Dd]at hq;have HQ:=Aa hq;clear hc hx hn h0 i5 HBD hq fc ja lf;by_cases hl:Aq t.toList s.toList=true
      ·have l1:Aq s.toList t.toList=false:=by
        have:=oE hl;simpa using this
       have l2:(s.toList==t.toList)=false:=by
        rw[beq_eq_false_iff_ne];intro h;rw[h,bytesLess_irrefl]at hl;cases hl
       have HN:Hid (∀j,j<k+1->bP0 (bls B) j=false):=λj hj=>by
        rcases Bj j k with h|h
        ·exact cp.out j h
        ·rw[show j=k by omega,HQ.out,hl];rfl
       clear hl cp;go_wp2_with fail
       go_round
       case rel=>exact⟨k+1,af,by go_num,HN.out⟩
       case measure=>simp[intOf];omega
      ·have np:Aq t.toList s.toList=false:=by simpa using hl
       have HB:=Aa (HIT.out k af (by rw[HQ.out,np];rfl));by_cases he:s.toList=t.toList
       ·have l1:Aq s.toList t.toList=false:=by rw[he,bytesLess_irrefl]
        have l2:(s.toList==t.toList)=true:=by rw[he];simp
        clear hl np he cp;go_wp2_with fail
        go_ret;exact⟨by rw[HB.out];rfl,rfl⟩
       ·have l1:Aq s.toList t.toList=true:=dO np (λh=>he h.symm)
        clear hl np he cp;go_wp2_with fail
        go_ret;exact⟨by rw[HB.out];rfl,rfl⟩
  ·have cz:¬(k:Int)<B.length:=by omega
   have HB:Hid (lP0 (bls B)=0):=by
    show _=_
    rw[HF.out,oH0 (λi hi=>cp.out i (by rw[cO]at hi;omega))];rfl
   clear cp;go_wp2_with fail
   go_ret;exact⟨by rw[HB.out];rfl,rfl⟩
def jO (L:List (List UInt8)):List Nat:=(Au L.length).map λj=>(nodesA L).findIdx λx=>iK L x&&x.i==j
structure eP (w:World) (tb:Nat) (L:List (List UInt8)):Prop where
 s:∃sb,w.cell? ⟨tb,0,none⟩=some (.pointer (some ⟨sb,0,none⟩))/\kE w sb (shapeL L (nodesA L))
 i:∃ib,w.cell? ⟨tb,1,none⟩=some (.pointer (some ⟨ib,0,none⟩))/\kE w ib (isL L (nodesA L))
 l:∃vL,w.cell? ⟨tb,2,none⟩=some vL/\aU w (tb-2) 5 1 aV vL (labelsL L (nodesA L))
 d:∃pb,w.cell? ⟨tb,3,none⟩=some (.pointer (some ⟨pb,0,none⟩))/\lJ w pb (idsL L (nodesA L))
 n:∃vN,w.cell? ⟨tb,4,none⟩=some vN/\aU w 0 3 1 jS vN (jO L)
theorem eP.grows {w w':World} {tb:Nat} {L:List (List UInt8)} (h:eP w tb L) (hg:aB w w'):eP w' tb L:=by
 obtain⟨sb,s1,s2⟩:=h.s;obtain⟨ib,i1,i2⟩:=h.i;obtain⟨vL,l1,l2⟩:=h.l;obtain⟨pb,d1,d2⟩:=h.d;obtain⟨vN,n1,n2⟩:=h.n;exact⟨⟨sb,hg.cell s1,s2.grows hg⟩,⟨ib,hg.cell i1,i2.grows hg⟩,⟨vL,hg.cell l1,l2.grows hg⟩,⟨pb,hg.cell d1,d2.grows hg⟩,⟨vN,hg.cell n1,n2.grows hg⟩⟩
theorem OkL.sizes {L:List (List UInt8)} (ag:OkL L) (hl:L.length<=20000) (hc:gC L<=524287) :
  (shapeL L (nodesA L)).length<=1048576/\(isL L (nodesA L)).length<=524287/\(labelsL L (nodesA L)).length<=524287/\(idsL L (nodesA L)).length<=524287/\∀n∈idsL L (nodesA L),n<=20000:=by
 have hN:=dY ag.asc ag.len;refine⟨?_,?_,?_,?_,?_⟩
 ·have h:=eN L (nodesA L).length (Ai _)
  rw[Az,ag.off_all]at h;omega
 ·unfold isL;rw[Af];omega
 ·rw[ag.labels,Af,Bf];omega
 ·unfold idsL
  rw[Af]
  have:=List.length_filter_le (iK L) (nodesA L)
  omega
 ·intro n hn
  unfold idsL at hn;obtain⟨x,hx,rfl⟩:=List.mem_map.1 hn;have hg:=mC ag.asc (List.mem_filter.1 hx).1
  have:=hg.le
  omega
theorem fL0 (L:List (List UInt8)) (tb:Nat) (w:World) (ag:OkL L) (hl:L.length<=20000) (hc:gC L<=524287) (ac:eP w tb L) :
  Calls Tryz.prog 110 #[.pointer (some ⟨tb,0,none⟩)] w λe w'=>∃v,e=.returned v/\aU w' w.heap.size 5 1 aV v (loudE L)/\aB w w':=by
 obtain⟨z1,z2,z3,z4,z5⟩:=ag.sizes hl hc;obtain⟨sb,s1,s2⟩:=ac.s;obtain⟨ib,i1,i2⟩:=ac.i;obtain⟨vL,l1,l2⟩:=ac.l;obtain⟨pb,d1,d2⟩:=ac.d;have HE:Hid (loudE L=eU (oB (shapeL L (nodesA L)))++eU (labelsL L (nodesA L))++eU (oB (isL L (nodesA L)))++eU (packE (idsL L (nodesA L)))):=rfl;generalize shapeL L (nodesA L)=S at *;generalize isL L (nodesA L)=I at *;generalize labelsL L (nodesA L)=Lb at *;generalize idsL L (nodesA L)=D at *;have ly:∀n∈D,n<18446744073709551616:=λn hn=>by have:=z5 n hn;omega
 have ze:=nI S;have aet:=nI I;have ou:=zH D;have hwd:nZ D<=64:=nF.2 ly;have ei:D.length*nZ D<=524287*64:=Nat.mul_le_mul z4 hwd;obtain⟨aL,cL,rfl,_,_,ko⟩:=l2.at_ bI.len;have hnL:=cF l2;have ahf:∀q:Addr,aL=some q->q.block<w.heap.size:=λq hq=>gH l2 q.block (by rw[hq];rfl);obtain⟨b1,fi⟩:=exq (oB S);obtain⟨b3,jr⟩:=exq (oB I);obtain⟨b4,vw⟩:=exq (packE D);have CS:=Aa (eC0 S sb w z1 s2);have CI:=λW (hg:aB w W)=>Aa (eC0 I ib W (by omega) (i2.grows hg));have CD:=λW (hg:aB w W)=>Aa (fU0 D pb W (by omega) ly (d2.grows hg));rw[<-fi]at CS ze;rw[<-jr]at CI aet;rw[<-vw]at CD ou;have HB1:=Aa fi;have HB3:=Aa jr;have HB4:=Aa vw;have HATL:=Aa ko;have ai8:b1.length<=100000000:=by omega
 have ai9:b3.length<=100000000:=by omega
 have aja:b4.length<=100000000:=by omega
 clear ac ag hc ly ze aet ou hwd ei ko fi jr vw s2 i2 l2 d2 z5;go_enter Tryz.func110,Tryz.ntmps110
 go_wp2_with fail
 refine CS.out.mono ?_;rintro e w2 ⟨v2,rfl,ah,ae⟩;obtain⟨a2,c2,rfl,_,_,o5⟩:=ah.at_ bI.len;have nl:=cF ah;clear ah;go_wp2_with fail
 refine(xZ (.slice none 0 0) [] b1 a2 c2 w2 w2 (aB.refl _) (by simp) (by omega) (aU.nil _ _ _ _ _) o5 nl (λq _ h=>by cases h)).mono ?_;rintro e w3 ⟨v3,rfl,av,aw⟩;rw[Cb]at av;have hp1:(eU b1).length<=100000004:=by unfold eU;rw[Ab,bM];omega
 have ik:=ae.tr aw;have l1a:=ik.cell l1;go_wp2_with fail
 refine(xZ v3 (eU b1) Lb aL cL w2 w3 aw (by omega) (by omega) av (HATL.out.grows ik) hnL (kM0 av (λq hq=>Bk (ahf q hq) ae.size))).mono ?_;rintro e w4 ⟨v4,rfl,ee,cu⟩;obtain⟨P2,hP2⟩:=exq (eU b1++eU Lb);rw[<-hP2]at ee;have hp2:P2.length<=200000008:=by rw[hP2,Ab];unfold eU at *;rw[Ab,bM] at *;rw[Ab,bM];omega
 have HP2:=Aa hP2;clear hP2 av ik o5 nl;have jv:=ae.tr cu;have i1a:=jv.cell i1;go_wp2_with fail
 refine(CI w4 jv).out.mono ?_;rintro e w5 ⟨v5,rfl,au,bi⟩;obtain⟨a5,c5,rfl,_,_,ji⟩:=au.at_ bI.len;have hn5:=cF au;go_wp2_with fail
 refine(xZ v4 P2 b3 a5 c5 w2 w5 (cu.tr bi) (by omega) (by omega) (ee.grows bi) ji hn5 (λq hq hv=>by have h1:=gH ee _ hv.symm;have h2:=aX au q.block (by rw[hq];rfl);omega)).mono ?_;rintro e w6 ⟨v6,rfl,mh,dw⟩;obtain⟨P3,hP3⟩:=exq (P2++eU b3);rw[<-hP3]at mh;have hp3:P3.length<=400000012:=by rw[hP3,Ab];unfold eU;rw[Ab,bM];omega
 have HP3:=Aa hP3;clear hP3 ee au jv ji hn5 bi;have hgC:=ae.tr dw;have d1a:=hgC.cell d1;go_wp2_with fail
 refine(CD w6 hgC).out.mono ?_;rintro e w7 ⟨v7,rfl,fu,ep⟩;obtain⟨a7,c7,rfl,_,_,ahg⟩:=fu.at_ bI.len;have hn7:=cF fu;go_wp2_with fail
 refine(xZ v6 P3 b4 a7 c7 w2 w7 (dw.tr ep) (by omega) (by omega) (mh.grows ep) ahg hn7 (λq hq hv=>by have h1:=gH mh _ hv.symm;have h2:=aX fu q.block (by rw[hq];rfl);omega)).mono ?_;rintro e w8 ⟨v8,rfl,ad2,fq⟩;go_wp2_with fail
 go_ret;refine⟨_,rfl,?_,ae.tr fq⟩
 have ax:P3++eU b4=loudE L:=by
  rw[HP3.out,HP2.out,HB1.out,HB3.out,HB4.out,HE.out]
 rw[<-ax];exact ad2.base ae.size
theorem tG (L:List (List UInt8)) (tb:Nat) (w:World) (ac:eP w tb L) :
  Calls Tryz.prog 98 #[.pointer (some ⟨tb,0,none⟩)] w λe w'=>e=.returned (.int .i64 L.length)/\w=w':=by
 obtain⟨vN,n1,n2⟩:=ac.n;obtain⟨aN,cN,rfl,_,_,_⟩:=n2.at_ (enc:=jS) (λ_=>rfl);have aj:(jO L).length=L.length:=by simp[jO]
 rw[aj]at n1;clear ac n2 aj;go_enter Tryz.func98,Tryz.ntmps98
 go_wp2_with fail
 go_ret;exact⟨rfl,rfl⟩
theorem iY {L:List (List UInt8)} (ag:OkL L) {j i:Nat} {x:dC} (hj:j<L.length) (hi:(nodesA L)[i]?=some x) (hh:iK L x=true) (hx:x.i=j):(jO L)[j]?=some i:=by
 unfold jO;rw[Ad,Ap hj,Ao];congr 1
 have af:=(List.getElem?_eq_some_iff.1 hi).1;rw[List.findIdx_eq af];obtain⟨h1,h2⟩:=List.getElem?_eq_some_iff.1 hi;refine⟨by rw[h2,hh,hx];simp,λk hk=>?_⟩;apply Al
 intro oc;have oc:(iK L ((nodesA L)[k]'(by omega))&&((nodesA L)[k]'(by omega)).i==j)=true:=by simpa using oc
 simp only[Cr,beq_iff_eq]at oc;have g1:=ag.good hi;have g2:=ag.good (Ac (show k<(nodesA L).length by omega))
 have e1:=(qI ag.asc g1 ag.pos j).2 ⟨hh,hx.symm⟩;have e2:=(qI ag.asc g2 ag.pos j).2 ⟨oc.1,oc.2.symm⟩;rw[e1]at e2
 have:=g1.inj ag.asc g2 (Option.some.inj e2)
 have:=ag.uniq hi (by rw[this];exact Ac (show k<(nodesA L).length by omega))
 omega
theorem eV0 (L:List (List UInt8)) (tb id:Nat) (w:World) (ag:OkL L) (hl:L.length<=20000) (hc:gC L<=524287) (hid:id<L.length) (ac:eP w tb L) :
  Calls Tryz.prog 99 #[.pointer (some ⟨tb,0,none⟩),.int .i64 id] w λe w'=>e=.returned (.tuple #[.string (mkB (nth L id)),.bool true])/\aB w w':=by
 obtain⟨z1,z2,z3,z4,z5⟩:=ag.sizes hl hc;obtain⟨i0,x0,j4,hh0,acv⟩:=ag.node hid;have hn0:=iY ag hid j4 hh0 acv
 have j8:spanS L x0=nth L id:=by
  have h1:=(qI ag.asc (ag.good j4) ag.pos id).2 ⟨hh0,acv.symm⟩;rw[iP hid]at h1;exact(Option.some.inj h1).symm
 have agu:(nth L id).length<=256:=ag.len _ (Aj (iP hid));have CL:=Aa (λ(u:World) (h:aB w u)=>tG L tb u (ac.grows h));obtain⟨vN,n1,n2⟩:=ac.n;obtain⟨aN,cN,rfl,_,_,aeu⟩:=n2.at_ (enc:=jS) (λ_=>rfl);have hNl:(jO L).length=L.length:=by simp[jO]
 rw[hNl]at n1;obtain⟨nb,no,rfl,hcN⟩:=at1 (f:=λn:Nat=>Value.int .i64 n) aeu (aJ (k:=id) (by rw[hNl];exact hid));have aev:=hcN id _ hn0;obtain⟨vL,l1,l2⟩:=ac.l;obtain⟨sb,s1,s2⟩:=ac.s;have ajb:(id:Int)<L.length:=by omega
 have ajc:¬(id:Int)<0:=by omega
 have ajd:¬(L.length:Int)<=id:=by omega
 have HAT:=Aa ac;obtain⟨W1,bh⟩:=exq (w.alloc (.cells Tryz.zeroCells195 195));have g1:aB w W1:=by rw[bh];exact aB.alloc _ _
 have n1a:=g1.cell n1;have aap:=g1.cell aev;rw[bh]at n1a aap
 have START:Hid (∃cs:Array Value,W1.heap[w.heap.size]?=some (.cells cs 195 (0,0))/\cs.size=256/\∀j b,([]:List UInt8)[j]?=some b->cs[256+j]?=some (.int .u8 (b.toNat:Nat))) :=
  ⟨Tryz.zeroCells195,by rw[bh];show (w.heap.push _)[w.heap.size]?=_;simp,by kernel_rfl,λj b h=>by simp at h⟩
 have NODE:Hid ((nodesA L)[i0]?=some x0/\spanS L x0++[]=nth L id):=⟨j4,by rw[Bi];exact j8⟩;have HOK:=Aa ag;have gd:w.heap.size<W1.heap.size:=by rw[bh];simp
 obtain⟨aL,cL,rfl,_,_,ko⟩:=l2.at_ bI.len;have HATL:=Aa ko;have HS2:=Aa s2;have HZ1:=Aa z1;have j5:∀q,aL=some q->q.block<w.heap.size:=λq hq=>gH l2 q.block (by rw[hq];rfl);have HBB:=Aa j5;obtain⟨ln,vl⟩:=exq ((labelsL L (nodesA L)).length);have HLN:=Aa vl;rw[<-vl]at l1;have aje:ln<=524287:=by omega
 have hNN:Hid ((nodesA L).length<=524287/\ln+1=(nodesA L).length):=by
  have:=dY ag.asc ag.len
  refine⟨by omega,?_⟩;rw[vl,ag.labels,Af,Bf]
  have h0:0<(nodesA L).length:=by
   have:=(List.getElem?_eq_some_iff.1 j4).1;omega
  omega
 have hi0:i0<=524287:=by have:=(List.getElem?_eq_some_iff.1 j4).1;have:=hNN.out;omega
 clear ac n2 aeu hcN hn0 n1 aev j4 hh0 acv j8 z1 z2 z3 z4 z5 ag hc ko s2 j5 l2 vl;go_enter Tryz.func99,Tryz.ntmps99
 go_wp2_with (go_at_call 98;refine(CL.out _ (by first|exact aB.refl _|assumption)).mono ?_;rintro e w2 ⟨rfl,rfl⟩;skip)
 rw[<-bh];have hz:decide (L.length<=id)=false:=by simp;omega
 rw[hz];clear bh n1a aap hz;go_loopw [7,8] (λu v wr=>∃(A i:Nat) (x:dC) (tl:List UInt8) (cs:Array Value),u=.int .i64 A/\v=.int .i64 i/\A<=256/\i<=524287/\Hid (A+tl.length=256/\(nodesA L)[i]?=some x/\spanS L x++tl=nth L id)/\Hid (wr.heap[w.heap.size]?=some (.cells cs 195 (0,0))/\cs.size=256/\∀j b,tl[j]?=some b->cs[A+j]?=some (.int .u8 (b.toNat:Nat)))/\Hid (aB w wr)) (λ_ v _=>(intOf v).toNat)
 case atStart =>
  obtain⟨cs,k1,k2,k3⟩:=START.out;exact⟨256,i0,x0,[],cs,by go_num,rfl,Ai _,hi0,⟨rfl,NODE.out.1,NODE.out.2⟩,⟨k1,k2,k3⟩,g1⟩
 case round =>
  clear START NODE hi0 g1 gd;obtain⟨A,i,x,tl,cs,rfl,rfl,hA,hi,hN,hB,hG⟩:=hrel;by_cases h0:0<i
  ·have zb:(0:Int)<i:=by omega
   obtain⟨k1,k2,k3⟩:=hN.out;obtain⟨p,y,hy,hpi,o1,o2,hm⟩:=HOK.out.parent h0 k2;have p8:=tW HOK.out.asc (HOK.out.good hy) hm;obtain⟨b,hb⟩:=exq ((nth L x.i).getD y.d 0);rw[<-hb]at p8;have pm:=(List.getElem?_eq_some_iff.1 k2).1
   have hA0:0<A:=by
    have:=congrArg Bu k3
    rw[p8,Ab,Ab]at this;simp at this;omega
   obtain⟨A1,hA1⟩:=exq (A-1);obtain⟨i1,hi1⟩:=exq (i-1);have wA:IntKind.i64.wrap ((A:Int)-1)=A1:=by simp[Ag,Ah,Ae];omega
   have wi:IntKind.i64.wrap ((i:Int)-1)=i1:=by simp[Ag,Ah,Ae];omega
   have o6:(labelsL L (nodesA L))[i1]?=some b:=by
    rw[HOK.out.labels,Ad,Ck,show 1+i1=i by omega,k2,Ao,p8]
    simp
   obtain⟨lb,lo,rfl,cr⟩:=at1 (f:=λb:UInt8=>Value.int .u8 b.toNat) (HATL.out.grows hG.out) (Bn (Aj o6));have hlc:=cr i1 b o6;have ajf:(i1:Int)<ln:=by have:=hNN.out;omega
   have ajg:(A1:Int)<256:=by omega
   have l1r:=hG.out.cell l1;have s1r:=hG.out.cell s1;obtain⟨m1,m2,m3⟩:=hB.out;obtain⟨ov,hov⟩:∃v,wr.cell? ⟨w.heap.size,A1,none⟩=some v:=⟨cs[A1]'(by omega),by simp[Dg,m1,show A1<cs.size by omega]⟩
   have hof:wr.frozen? ⟨w.heap.size,A1,none⟩=false:=by simp[World.frozen?,m1]
   obtain⟨W2,iv⟩:=exq (wr.setCell ⟨w.heap.size,A1,none⟩ (.int .u8 (b.toNat:Nat)));have g2:aB w W2:=by rw[iv];exact hG.out.set (Ai _) _
   have B2:Hid (W2.heap[w.heap.size]?=some (.cells (cs.setIfInBounds A1 (.int .u8 (b.toNat:Nat))) 195 (0,0))):=by
    rw[iv];exact heap_setCell_same wr _ _ cs _ _ m1
   have pq:w.heap.size<W2.heap.size:=(Array.getElem?_eq_some_iff.1 B2.out).1
   have B3:Hid (∀j c,(b::tl)[j]?=some c->(cs.setIfInBounds A1 (.int .u8 (b.toNat:Nat)))[A1+j]?=some (.int .u8 (c.toNat:Nat))):=λj c hj=>by
    cases j with
    | zero =>
     obtain rfl:b=c:=by simpa using hj
     rw[Nat.add_zero,Array.getElem?_setIfInBounds_self];simp;omega
    | succ j =>
     rw[Array.getElem?_setIfInBounds_ne (by omega),show A1+(j+1)=A+j by omega]
     exact m3 j c (by simpa using hj)
   have N2:Hid (A1+(b::tl).length=256/\(nodesA L)[p]?=some y/\spanS L y++(b::tl)=nth L id):=⟨by rw[Bg];omega,hy,by rw[<-k3,p8];simp⟩;have CSZ:Hid ((cs.setIfInBounds A1 (.int .u8 (b.toNat:Nat))).size=256):=by show _=_;simpa using m2
   obtain⟨q1,q2,q3⟩:=kL0 hy o1 o2;obtain⟨pos,di⟩:=exq (i+p+1);rw[<-di]at q1 q2 q3
   have aaq:pos<(shapeL L (nodesA L)).length:=by
    have h1:=eN L (nodesA L).length (Ai _);rw[Az,HOK.out.off_all]at h1;omega
   have CSEL:=Aa (λ(u:World) (hg:aB w u)=>uA (shapeL L (nodesA L)) sb true pos i u HZ1.out aaq q1 q2 (HS2.out.grows hg))
   have CRNK:Hid (∀(u:World),aB w u->Calls Tryz.prog 170 #[.pointer (some ⟨sb,0,none⟩),.bool false,.int .i64 pos] u λe w'=>e=.returned (.int .i64 ((p+1:Nat):Int))/\u=w'):=λu hg=>by
    have h:=pT (shapeL L (nodesA L)) sb false pos u HZ1.out (by have:=HZ1.out;omega) (HS2.out.grows hg);rw[show min pos (shapeL L (nodesA L)).length=pos by omega,q3]at h
    exact h
   have wp1:IntKind.i64.wrap (((p+1:Nat):Int)-1)=p:=by simp[Ag,Ah,Ae];omega
   obtain⟨p1,hp1⟩:=exq (p+1);rw[<-hp1]at CRNK wp1;have z1:∀x:Ext aB W2.drew,x.u.cell? ⟨tb,0,none⟩=some (.pointer (some ⟨sb,0,none⟩)):=aF ((aB.drew W2).cell (g2.cell s1));have HPI:=Aa hpi;clear hN hB k1 k2 k3 hy o1 o2 hm p8 hb pm hA1 hi1 o6 cr m1 m2 m3 q1 q2 q3 di aaq hp1 hpi;go_wp2_with fail
   rw[<-iv];clear iv hov hof hlc l1r s1r;refine bH (bE 13 [9,10]) (by kernel_rfl) (λd _ _ _ _ h=>by cases d<;>exact h) ?_
   iterate 9 (refine aH rfl (λK hK=>?_);go_simp;refine hK _ ?_;clear hK K)
   clear z1;refine bG rfl rfl (λK hK=>?_);go_simp;refine(CSEL.out _ (g2.tr (aB.drew W2))).mono ?_;rintro e w3 ⟨rfl,aw⟩;refine⟨aw,hK _ _ ?_⟩;clear hK K;have g3:aB w w3:=(g2.tr (aB.drew W2)).tr aw;refine bG rfl rfl (λK hK=>?_);go_simp;refine(CRNK.out _ g3).mono ?_;rintro e w4 ⟨rfl,rfl⟩;refine⟨aB.refl _,hK _ _ ?_⟩;clear hK K;iterate 2 (refine aH rfl (λK hK=>?_);go_simp;refine hK _ ?_;clear hK K)
   refine bN ?_;have B4:w3.heap[w.heap.size]?=some (.cells (cs.setIfInBounds A1 (.int .u8 (b.toNat:Nat))) 195 (0,0)):=(Below.block ((aB.drew W2).tr aw) _ pq).trans B2.out;replace B4:=Aa B4;clear aw B2 CSEL CRNK;go_wp2_with fail
   go_roundw
   case rel=>exact⟨A1,p,y,b::tl,_,by go_num,by go_num,by have:=N2.out.1;omega,by have:=HPI.out;omega,N2.out,⟨B4.out,CSZ.out,B3.out⟩,g3⟩
   case measure=>have:=HPI.out;simp[intOf];omega
  ·have zb:¬(0:Int)<i:=by omega
   obtain rfl:i=0:=by omega
   obtain⟨k1,k2,k3⟩:=hN.out
   have hx:x=rootS L:=by
    have h1:=HOK.out.fix;have h2:(rootS L::(nodesA L).flatMap (eZ L))[0]?=some x:=by rw[<-h1];exact k2
    simpa using h2.symm
   have nj:tl=nth L id:=by
    rw[<-k3,hx];simp[spanS,rootS]
   have aar:(convert 67 9 (.slice (some ⟨w.heap.size,A,none⟩) (256-A) (256-A))).run Tryz.prog wr=.ok (.string (mkB (nth L id))) wr:=by
    obtain⟨m1,m2,m3⟩:=hB.out;have hz:(mkB tl).size=tl.length:=by rw[Lib.size_eq,iR]
    have hBy:Lib.Bytes wr w.heap.size A (mkB tl):=λj hj=>by
     rw[hz]at hj;have h3:=m3 j _ (Ac hj);unfold Dg;simp only[m1,Option.isSome_none,Cl,if_false];exact h3
    have:=Lib.run_convert_whole (P:=Tryz.prog) wr 67 5 9 Tryz.underlying67 Tryz.underlying5 Tryz.underlying9 w.heap.size A (mkB tl) hBy (256-A)
    rw[hz,show tl.length=256-A by omega]at this
    rw[this,nj]
   have di:0<tl.length:=by
    rw[nj];exact List.length_pos_iff.2 (HOK.out.pos _ (Aj (iP hid)))
   have hAi:(A:Int)<=256:=by omega
   have hAn:¬256=A:=by omega
   have G:=Aa hG.out;clear hN hB k1 k2 k3 hx nj di hG;go_wp2_with fail
   first
    | exact bodyPost_ret (v:=.tuple #[.string (mkB (nth L id)),.bool true]) (by simp[results,Tryz.results99,go_sem]) rfl ⟨rfl,G.out⟩
    | exact bodyPost_end (v:=.tuple #[.string (mkB (nth L id)),.bool true]) (by simp[results,Tryz.results99,go_sem]) rfl ⟨rfl,G.out⟩
end
section
open Go
theorem dW0 (L:List (List UInt8)):∀A:List dC,(labelsL L A).length=(A.flatMap (eZ L)).length
 | []=>rfl
 | x::A=>by
  have:=dW0 L A
  unfold labelsL at *;rw[Be,Be,Ab,Ab,Af,this]
theorem mP0 (L:List (List UInt8)) (i:Nat):offA L i=(labelsL L ((nodesA L).take i)).length+1:=by
 rw[dW0];unfold offA eI;rw[Bg]
theorem OkL.many {L:List (List UInt8)} (h:OkL L) (hl:L.length<=20000):(nodesA L).length<=5120001:=by
 have h1:=congrArg Bu (tF0 h.asc);rw[Af]at h1;have h2:=zA L 256;have h3:(iH1 L).length=(tU L 256).length:=rfl;omega
theorem xB (L:List (List UInt8)) (A:List dC) (x:dC):labelsL L (A++[x])=labelsL L A++(eZ L x).map (oU L x):=by
 unfold labelsL;rw[Ci];simp
def tT (L:List (List UInt8)) (i:Nat):List Nat:=(jO L).map λk=>if k<i then k else 0
theorem mI (L:List (List UInt8)):(jO L).length=L.length:=by simp[jO]
theorem bH1 {L:List (List UInt8)}:tT L 0=Bo L.length 0:=by
 unfold tT;apply Ax
 intro j;rw[Ad,Bw];by_cases h:j<L.length
 ·rw[Ac (by rw[mI];exact h),if_pos h]
  simp
 ·rw[Ak (by rw[mI];omega),if_neg h];rfl
theorem OkL.ndTo_all {L:List (List UInt8)} (h:OkL L) {m:Nat} (hm:(nodesA L).length<=m):tT L m=jO L:=by
 unfold tT;have hl:=mI L;conv=>rhs;rw[<-List.map_id (jO L)]
 apply Cj
 intro k hk;obtain⟨j,hj⟩:=List.mem_iff_getElem?.1 hk;have hjl:j<L.length:=by rw[<-hl];exact(List.getElem?_eq_some_iff.1 hj).1
 obtain⟨i,x,hi,hh,hx⟩:=h.node hjl
 have:=iY h hjl hi hh hx
 rw[hj]at this;have af:=(List.getElem?_eq_some_iff.1 hi).1;rw[if_pos (by have:=Option.some.inj this;omega)];rfl
theorem OkL.ndTo_succ {L:List (List UInt8)} (h:OkL L) {i:Nat} {x:dC} (hx:(nodesA L)[i]?=some x):tT L (i+1)=if iK L x=true then (tT L i).set x.i i else tT L i:=by
 have hl:=mI L
 have key:∀j,j<L.length->((jO L)[j]?=some i↔iK L x=true/\x.i=j):=λj hj=>by
  obtain⟨i',x',hi',hh',hx'⟩:=h.node hj;have h1:=iY h hj hi' hh' hx';rw[h1];constructor
  ·intro e
   have e2:i'=i:=Option.some.inj e;subst e2;rw[hx]at hi';cases hi'
   exact⟨hh',hx'⟩
  ·rintro⟨a,b⟩
   have h2:=iY h hj hx a b;rw[h1]at h2;exact h2
 apply Ax
 intro j;by_cases hj:j<L.length
 ·obtain⟨k,hk⟩:∃k,(jO L)[j]?=some k:=⟨_,Ac (by rw[hl];exact hj)⟩
  have e1:(tT L (i+1))[j]?=some (if k<i+1 then k else 0):=by unfold tT;rw[Ad,hk];rfl
  have e2:(tT L i)[j]?=some (if k<i then k else 0):=by unfold tT;rw[Ad,hk];rfl
  rw[e1];have ig:=key j hj;rw[hk]at ig;by_cases hh:iK L x=true
  ·rw[if_pos hh]
   by_cases hxj:x.i=j
   ·have:k=i:=Option.some.inj (ig.2 ⟨hh,hxj⟩)
    rw[hxj,Bz (by unfold tT;rw[Af,hl];exact hj),if_pos (by omega),this]
   ·have:k≠i:=λe=>hxj (ig.1 (by rw[e])).2
    rw[Cf hxj,e2];congr 1
    by_cases h3:k<i
    ·rw[if_pos h3,if_pos (by omega)]
    ·rw[if_neg h3,if_neg (by omega)]
  ·rw[if_neg hh,e2]
   have:k≠i:=λe=>hh (ig.1 (by rw[e])).1
   congr 1
   by_cases h3:k<i
   ·rw[if_pos h3,if_pos (by omega)]
   ·rw[if_neg h3,if_neg (by omega)]
 ·have hn:∀m,(tT L m)[j]?=none:=λm=>Ak (by unfold tT;rw[Af,hl];omega)
  rw[hn];split
  ·rw[Ak (by rw[Cx];unfold tT;rw[Af,hl];omega)]
  ·rw[hn]
theorem dG1 (L:List (List UInt8)) (i:Nat):(tT L i).length=L.length:=by unfold tT; rw[Af,mI]
end
section
open Go Go.RowKit
def fU (L:List (List UInt8)) (s:List UInt8) (i:Nat):Prop:=∃x,(nodesA L)[i]?=some x/\spanS L x=s
theorem OkL.root0 {L:List (List UInt8)} (h:OkL L):(nodesA L)[0]?=some (rootS L):=by rw[h.fix]; rfl
theorem OkL.isRoot {L:List (List UInt8)} (h:OkL L):fU L [] 0:=⟨rootS L,h.root0,by simp[spanS,rootS]⟩
theorem fU.lt {L:List (List UInt8)} {s:List UInt8} {i:Nat} (h:fU L s i):i<(nodesA L).length:=by
 obtain⟨x,hx,_⟩:=h;exact(List.getElem?_eq_some_iff.1 hx).1
theorem OkL.lab {L:List (List UInt8)} (h:OkL L) {k:Nat} {y:dC} (h1:1<=k) (hy:(nodesA L)[k]?=some y):(labelsL L (nodesA L))[k-1]?=some ((spanS L y).getLastD 0):=by
 rw[h.labels,Ad,Ck,show 1+(k-1)=k by omega,hy];rfl
theorem OkL.off_pos {L:List (List UInt8)} (i:Nat):1<=offA L i:=by
 have:=kW (L:=L) (As i)
 rw[sY]at this;exact this
theorem OkL.kid_at {L:List (List UInt8)} (h:OkL L) {i k:Nat} {x:dC} (hx:(nodesA L)[i]?=some x) (h1:offA L i<=k) (h2:k<offA L (i+1)) :
  ∃y c,(nodesA L)[k]?=some y/\(labelsL L (nodesA L))[k-1]?=some c/\spanS L y=spanS L x++[c]/\y∈eZ L x:=by
 have hk:k<(nodesA L).length:=Bk h2 (h.off_le (i+1));obtain⟨y,hy⟩:∃y,(nodesA L)[k]?=some y:=⟨_,Ac hk⟩;have hm:=h.kid hx h1 h2 hy;have hs:=tW h.asc (h.good hx) hm;refine⟨y,_,hy,h.lab (Co (OkL.off_pos i) h1) hy,?_,hm⟩;rw[hs];simp
theorem OkL.kid_of {L:List (List UInt8)} (h:OkL L) {i k:Nat} {s:List UInt8} {c:UInt8} (hi:fU L s i) (hn:fU L (s++[c]) k):offA L i<=k/\k<offA L (i+1)/\(labelsL L (nodesA L))[k-1]?=some c:=by
 obtain⟨x,hx,ex⟩:=hi;obtain⟨y,hy,ey⟩:=hn
 have hk:1<=k:=by
  rcases Cm k with e|e
  ·subst e
   rw[h.root0]at hy;obtain rfl:=Option.some.inj hy;simp[spanS,rootS]at ey
  ·exact e
 obtain⟨p,z,hz,_,o1,o2,hm⟩:=h.parent hk hy;have hs:=tW h.asc (h.good hz) hm;rw[ey]at hs;have e1:=(Ct hs rfl).1;have e2:=(h.good hx).inj h.asc (h.good hz) (ex.trans e1);subst e2;obtain rfl:=h.uniq hx hz;refine⟨o1,o2,?_⟩;rw[h.lab hk hy,ey];simp
theorem OkL.kid_is {L:List (List UInt8)} (h:OkL L) {i k:Nat} {s:List UInt8} {c:UInt8} (hi:fU L s i) (h1:offA L i<=k) (h2:k<offA L (i+1)) (hc:(labelsL L (nodesA L))[k-1]?=some c):fU L (s++[c]) k:=by
 obtain⟨x,hx,ex⟩:=hi;obtain⟨y,d,hy,hd,hs,_⟩:=h.kid_at hx h1 h2;rw[hc]at hd;obtain rfl:=Option.some.inj hd;exact⟨y,hy,by rw[hs,ex]⟩
theorem OkL.node_pre {L:List (List UInt8)} (h:OkL L) {s:List UInt8} {c:UInt8} {k:Nat} (hn:fU L (s++[c]) k):∃i,fU L s i:=by
 obtain⟨y,hy,ey⟩:=hn
 have hk:1<=k:=by
  rcases Cm k with e|e
  ·subst e
   rw[h.root0]at hy;obtain rfl:=Option.some.inj hy;simp[spanS,rootS]at ey
  ·exact e
 obtain⟨p,z,hz,_,o1,o2,hm⟩:=h.parent hk hy;have hs:=tW h.asc (h.good hz) hm;rw[ey]at hs;exact⟨p,z,hz,(Ct hs rfl).1.symm⟩
theorem OkL.no_more {L:List (List UInt8)} (h:OkL L):∀(t:List UInt8) {s:List UInt8},(∀i, ¬fU L s i)->∀i, ¬fU L (s++t) i
 | [],s,hs,i=>by rw[Bi];exact hs i
 | c::t,s,hs,i=>by
  rw[show s++c::t=(s++[c])++t by simp]
  exact h.no_more t (λk hk=>by
   obtain⟨j,hj⟩:=h.node_pre hk;exact hs j hj) i
theorem sE:∀(p a b:List UInt8),Aq (p++a) (p++b)=Aq a b
 | [],_,_=>rfl
 | c::p,a,b=>by
  have hc:¬c<c:=λh:c.toNat<c.toNat=>Nat.lt_irrefl _ h;rw[Cu,Cu];simp only[Aq,hc,decide_false,Dc,beq_self_eq_true,Dd];exact sE p a b
theorem OkL.lab_lt {L:List (List UInt8)} (h:OkL L) {i k m:Nat} {x:dC} {c d:UInt8} (hx:(nodesA L)[i]?=some x) (h1:offA L i<=k) (h2:k<m) (h3:m<offA L (i+1))
  (hc:(labelsL L (nodesA L))[k-1]?=some c) (hd:(labelsL L (nodesA L))[m-1]?=some d):c.toNat<d.toNat:=by
 obtain⟨y,c',hy,hc',sy,my⟩:=h.kid_at hx h1 (De h2 h3);obtain⟨z,d',hz,hd',sz,mz⟩:=h.kid_at hx (Co h1 (By h2)) h3;rw[hc]at hc';obtain rfl:=Option.some.inj hc';rw[hd]at hd';obtain rfl:=Option.some.inj hd';obtain⟨hk,ek⟩:=List.getElem?_eq_some_iff.1 hy;obtain⟨hm,em⟩:=List.getElem?_eq_some_iff.1 hz;have hb:=List.pairwise_iff_getElem.1 (iZ h.asc) k m hk hm h2;rw[ek,em]at hb;have d1:=hT0 L x y my;have d2:=hT0 L x z mz;have hi:y.i<z.i:=by rcases hb with hb|hb<;>omega
 have gy:=h.good hy;have gz:=h.good hz
 have hzl:z.i<L.length:=by
  have:=gz.le
  rcases gz.ne with h|h<;>omega
 have af:=h.asc.lt _ _ hi hzl
 have ey:nth L y.i=spanS L x++(c::(nth L y.i).drop y.d):=by
  have:=Aw y.d (nth L y.i)
  rw[show (nth L y.i).take y.d=spanS L y from rfl,sy]at this
  exact this.symm.trans (At _ _ _)
 have ez:nth L z.i=spanS L x++(d::(nth L z.i).drop z.d):=by
  have:=Aw z.d (nth L z.i)
  rw[show (nth L z.i).take z.d=spanS L z from rfl,sz]at this
  exact this.symm.trans (At _ _ _)
 rw[ey,ez,sE]at af;simp only[Aq,Bool.or_eq_true,Cr,decide_eq_true_eq,beq_iff_eq]at af;rcases af with af|⟨af,_⟩
 ·exact af
 ·subst af
  have e:=gy.inj h.asc gz (by rw[sy,sz]);subst e
  have:=h.uniq hy hz
  omega
def iN1 (L:List (List UInt8)) (i:Nat) (c:UInt8) (k:Nat) (b:Bool):Prop :=
 (b=true->offA L i<=k/\k<offA L (i+1)/\(labelsL L (nodesA L))[k-1]?=some c)/\(b=false->∀k,offA L i<=k->k<offA L (i+1)->(labelsL L (nodesA L))[k-1]?≠some c)
def jL0 (L:List (List UInt8)) (s:List UInt8) (k:Nat) (b:Bool):Prop:=(b=true->fU L s k)/\(b=false->∀k, ¬fU L s k)
theorem OkL.down_to {L:List (List UInt8)} (h:OkL L) {i k:Nat} {s:List UInt8} {c:UInt8} {b:Bool} (hi:fU L s i) (hd:iN1 L i c k b):jL0 L (s++[c]) k b:=by
 refine⟨λhb=>?_,λhb m hm=>?_⟩
 ·obtain⟨h1,h2,h3⟩:=hd.1 hb
  exact h.kid_is hi h1 h2 h3
 ·obtain⟨h1,h2,h3⟩:=h.kid_of hi hm
  exact hd.2 hb m h1 h2 h3
theorem zG {L:List (List UInt8)} {A:List dC} {i:Nat} {x:dC} (hx:A[i]?=some x):bitOf (isL L A) i=iK L x:=by
 unfold bitOf isL;rw[Am,Ad,hx];rfl
theorem eM0 (L:List (List UInt8)) (A:List dC):∀i,i<=A.length->dT (isL L A) i=((A.take i).filter (iK L)).length
 | 0,_=>rfl
 | i+1,h=>by
  obtain⟨x,hx⟩:∃x,A[i]?=some x:=⟨_,Ac h⟩;rw[gD,eM0 L A i (by omega),zG hx,Cp,hx,Option.toList_some,Bb,Ab];congr 1
  by_cases hh:iK L x=true
  ·simp[hh]
  ·simp[hh]
theorem rB0 {L:List (List UInt8)} {A:List dC} {i:Nat} {x:dC} (hx:A[i]?=some x) (hh:iK L x=true):(idsL L A)[dT (isL L A) i]?=some x.i:=by
 have hi:=(List.getElem?_eq_some_iff.1 hx).1;rw[eM0 L A i (By hi)];unfold idsL
 have e:A=A.take i++(x::A.drop (i+1)):=by
  have h1:=Bs hi;rw[(List.getElem?_eq_some_iff.1 hx).2]at h1;rw[<-h1,Aw]
 have e2:A.filter (iK L)=(A.take i).filter (iK L)++(x::(A.drop (i+1)).filter (iK L)):=by
  conv=>lhs;rw[e]
  rw[Bb,List.filter_cons,if_pos hh]
 rw[e2,Cc,List.getElem?_append_right (by simp),Af,Df];rfl
theorem OkL.here_at {L:List (List UInt8)} (h:OkL L) {i:Nat} {x:dC} (hx:(nodesA L)[i]?=some x) (j:Nat):L[j]?=some (spanS L x)↔iK L x=true/\j=x.i:=qI h.asc (h.good hx) h.pos j
theorem OkL.of_mem {L:List (List UInt8)} (h:OkL L) {j:Nat} {s:List UInt8} (hj:L[j]?=some s):∃i,fU L s i:=by
 have hl:=(List.getElem?_eq_some_iff.1 hj).1;obtain⟨i,x,hx,hh,qt⟩:=h.node hl;refine⟨i,x,hx,?_⟩
 have:=(h.here_at hx j).2 ⟨hh,qt.symm⟩
 rw[hj]at this;exact(Option.some.inj this).symm
theorem OkL.strs_inj {L:List (List UInt8)} (h:OkL L) {i j:Nat} {s:List UInt8} (hi:L[i]?=some s) (hj:L[j]?=some s):i=j:=by
 obtain⟨k,x,hx,ex⟩:=h.of_mem hi;have a:=((h.here_at hx i).1 (by rw[ex];exact hi)).2;have b:=((h.here_at hx j).1 (by rw[ex];exact hj)).2;omega
theorem tM.begins {L:List (List UInt8)} (hL:Asc L) {x:dC} (g:tM L x) {j:Nat} (hj:j<L.length):(x.i<=j/\j<x.t)↔spanS L x <+: nth L j:=by
 have ahh:spanS L x <+: nth L j↔x.d<=(nth L x.i).length/\x.d<=nX (nth L x.i) (nth L j)\/x.d=0:=by
  rw[List.prefix_iff_eq_take];constructor
  ·intro h
   by_cases h0:x.d=0
   ·exact Or.inr h0
   ·have af:x.i<x.t:=by rcases g.ne with h|h<;>omega
    have hl:=g.len x.i (Ai _) af;refine Or.inl ⟨hl,?_⟩;rw[jA];have hs:=g.slen;rw[hs]at h;refine⟨hl,?_,h⟩
    have:=congrArg Bu h
    rw[hs,Ar]at this;omega
  ·rintro(⟨h1,h2⟩|h0)
   ·rw[g.slen]
    exact((jA _ _ _).1 h2).2.2
   ·simp[spanS,h0]
 rw[ahh];constructor
 ·rintro⟨h1,h2⟩
  by_cases h0:x.d=0
  ·exact Or.inr h0
  ·have hl:=g.len x.i (Ai _) (by omega)
   exact Or.inl ⟨hl,pR hl j h1 (λm m1 m2=>g.inn m m1 (by omega))⟩
 ·rintro(⟨h1,h2⟩|h0)
  ·by_cases hd:x.d=0
   ·refine⟨?_,?_⟩
    ·rcases g.lo with h|h<;>omega
    ·rcases g.hi with h|h<;>omega
   ·have af:x.i<x.t:=by rcases g.ne with h|h<;>omega
    refine⟨?_,?_⟩
    ·apply Al
     intro hc;rcases g.lo with h|h
     ·omega
     ·rw[aG0]at h2
      have:=hL.all (e:=x.d) (i:=j) (j:=x.i) (m:=x.i) (by have:=g.le;omega) (by omega) (Ai _) h2
      omega
    ·apply Al
     intro hc;rcases g.hi with h|h
     ·omega
     ·have:=hL.all (e:=x.d) (i:=x.i) (j:=j) (m:=x.t) hj (by omega) (by omega) h2
      omega
  ·refine⟨?_,?_⟩
   ·rcases g.lo with h|h<;>omega
   ·rcases g.hi with h|h<;>omega
theorem OkL.node_of_pre {L:List (List UInt8)} (h:OkL L) {s:List UInt8} {j:Nat} {t:List UInt8} (hj:L[j]?=some (s++t)):∃i,fU L s i:=by
 obtain⟨k,hk⟩:=h.of_mem hj;apply Al
 intro hc;exact h.no_more t (λi hi=>hc ⟨i,hi⟩) k hk
def lC (L:List (List UInt8)) (s:List UInt8):Nat×Bool:=if s∈L then (L.findIdx λx=>decide (x=s),true) else (0,false)
theorem nS {L:List (List UInt8)} {s:List UInt8} (h:s∉L):lC L s=(0,false):=if_neg h
theorem OkL.findT_of {L:List (List UInt8)} (h:OkL L) {s:List UInt8} {j:Nat} (hj:L[j]?=some s):lC L s=(j,true):=by
 have hm:=Aj hj;unfold lC;rw[if_pos hm];have h1:L.findIdx (λx=>decide (x=s))<L.length:=List.findIdx_lt_length_of_exists ⟨s,hm,by simp⟩;have h2:=List.findIdx_getElem (w:=h1);have h3:L[L.findIdx (λx=>decide (x=s))]?=some s:=by rw[Ac h1];exact congrArg some (of_decide_eq_true h2)
 rw[h.strs_inj h3 hj]
theorem OkL.find_node {L:List (List UInt8)} (h:OkL L) {i:Nat} {x:dC} (hx:(nodesA L)[i]?=some x):lC L (spanS L x)=if iK L x=true then (x.i,true) else (0,false):=by
 split
 ·rename_i hh
  exact h.findT_of ((h.here_at hx x.i).2 ⟨hh,rfl⟩)
 ·rename_i hh
  refine nS λhm=>?_;obtain⟨j,hj⟩:=List.mem_iff_getElem?.1 hm;exact hh ((h.here_at hx j).1 hj).1
theorem findT_lt {L:List (List UInt8)} {s:List UInt8} (h:s∈L):(lC L s).1<L.length:=by
 grind [lC]
theorem OkL.noNode {L:List (List UInt8)} (h:OkL L) {s:List UInt8} (hn:∀i, ¬fU L s i):lC L s=(0,false):=nS λhm=>by
 obtain⟨j,hj⟩:=List.mem_iff_getElem?.1 hm;obtain⟨i,hi⟩:=h.of_mem hj;exact hn i hi
structure oH (L:List (List UInt8)) (i:Nat) (c:UInt8) (f t:Nat):Prop where
 lo:offA L i<=f
 le:f<=t
 hi:t<=offA L (i+1)
 left:∀k d,offA L i<=k->k<f->(labelsL L (nodesA L))[k-1]?=some d->d.toNat<c.toNat
 right:∀k d,t<=k->k<offA L (i+1)->(labelsL L (nodesA L))[k-1]?=some d->c.toNat<=d.toNat
theorem oH.start (L:List (List UInt8)) (i:Nat) (c:UInt8):oH L i c (offA L i) (offA L (i+1)) :=
 ⟨Ai _,kW (by omega),Ai _,by omega,by omega⟩
theorem oH.less {L:List (List UInt8)} {i f t:Nat} {c:UInt8} (h:OkL L) {x:dC} (hx:(nodesA L)[i]?=some x) (I:oH L i c f t) {m:Nat} {d:UInt8} (h1:f<=m) (h2:m<t) (hd:(labelsL L (nodesA L))[m-1]?=some d) (hc:d.toNat<c.toNat):oH L i c (m+1) t:=by
 refine⟨by have:=I.lo;omega,by omega,I.hi,λk e a b he=>?_,I.right⟩;rcases Bj k m with q|q
 ·have:=h.lab_lt hx a q (by have:=I.hi;omega) he hd
  omega
 grind
theorem oH.more {L:List (List UInt8)} {i f t:Nat} {c:UInt8} (h:OkL L) {x:dC} (hx:(nodesA L)[i]?=some x) (I:oH L i c f t) {m:Nat} {d:UInt8} (h1:f<=m) (h2:m<t) (hd:(labelsL L (nodesA L))[m-1]?=some d) (hc:¬d.toNat<c.toNat):oH L i c f m :=
 ⟨I.lo,h1,by have:=I.hi;omega,I.left,λk e a b he=>by
  rcases Bj m k with q|q
  ·have:=h.lab_lt hx (by have:=I.lo;omega) q b hd he
   omega
  grind⟩
theorem oH.hit {L:List (List UInt8)} {i f:Nat} {c:UInt8} (I:oH L i c f f) (h1:f<offA L (i+1)) (hd:(labelsL L (nodesA L))[f-1]?=some c):iN1 L i c f true :=
 ⟨λ_=>⟨I.lo,h1,hd⟩,λh=>by cases h⟩
theorem oH.ends {L:List (List UInt8)} {i f:Nat} {c:UInt8} (I:oH L i c f f) (h1:¬f<offA L (i+1)):iN1 L i c f false :=
 ⟨λh=>(by cases h),λ_ k a b he=>by have:=I.left k c a (by omega) he;omega⟩
theorem oH.miss {L:List (List UInt8)} {i f:Nat} {c d:UInt8} (h:OkL L) {x:dC} (hx:(nodesA L)[i]?=some x) (I:oH L i c f f) (h1:f<offA L (i+1)) (hd:(labelsL L (nodesA L))[f-1]?=some d) (hc:d≠c):iN1 L i c f false :=
 ⟨λh=>(by cases h),λ_ k a b he=>by
  rcases Nat.lt_trichotomy k f with q|q|q
  ·have:=I.left k c a q he
   omega
  ·simp_all
  ·have h2:=h.lab_lt hx I.lo q b hd he
   have h3:=I.right f d (Ai _) h1 hd;omega⟩
theorem OkL.lab_get {L:List (List UInt8)} (h:OkL L) {i k:Nat} {x:dC} (hx:(nodesA L)[i]?=some x) (h1:offA L i<=k) (h2:k<offA L (i+1)):∃d,(labelsL L (nodesA L))[k-1]?=some d:=by
 obtain⟨_,c,_,hc,_⟩:=h.kid_at hx h1 h2;exact⟨c,hc⟩
theorem OkL.walk_stop {L:List (List UInt8)} (h:OkL L) {s:List UInt8} {n k:Nat} (hw:jL0 L (s.take n) k false):jL0 L s k false :=
 ⟨λh=>(by cases h),λ_=>by
  have:=h.no_more (s.drop n) (hw.2 rfl)
  simp_all⟩
def vN0 (L:List (List UInt8)) (s:List UInt8) (i:Nat):List (Nat×Nat):=if s.take (i+1)∈L then [((lC L (s.take (i+1))).1,i+1)] else []
def uY (L:List (List UInt8)) (s:List UInt8) (n:Nat):List (Nat×Nat):=(Au n).flatMap (vN0 L s)
theorem pO (L:List (List UInt8)) (s:List UInt8) (n:Nat):uY L s (n+1)=uY L s n++vN0 L s n:=by
 unfold uY;rw[Cy,Ci];simp
theorem gC1 (L:List (List UInt8)) (s:List UInt8):∀n,(uY L s n).length<=n
 | 0=>Ai _
 | n+1=>by
  have:=gC1 L s n
  rw[pO,Ab];grind [vN0]
theorem bN1 {L:List (List UInt8)} {s:List UInt8} {q:Nat×Nat}:∀ {n:Nat},q∈uY L s n->q.1<L.length/\q.2<=n
 | 0,h=>by cases h
 | n+1,h=>by
  rw[pO]at h;rcases List.mem_append.1 h with h|h
  ·have:=bN1 h
   omega
  ·unfold vN0 at h
   split at h
   ·rename_i hm
    obtain rfl:q=((lC L (s.take (n+1))).1,n+1):=by simpa using h
    grind [lC]
   ·cases h
theorem OkL.hits_256 {L:List (List UInt8)} (h:OkL L) {s:List UInt8}:∀ {n:Nat},n<=s.length->(uY L s n).length<=min n 256
 | 0,_=>As _
 | n+1,hn=>by
  have ih:=h.hits_256 (s:=s) (n:=n) (by omega);rw[pO,Ab];have h1:(vN0 L s n).length<=1:=by unfold vN0;split<;>simp
  rcases Bj n 256 with q|q
  ·omega
  ·have h2:vN0 L s n=[]:=by
    unfold vN0;rw[if_neg];intro hc
    have:=h.len _ hc
    rw[Ar]at this;omega
   grind
theorem OkL.hits_stop {L:List (List UInt8)} (h:OkL L) {s:List UInt8} {n:Nat} (hn:∀i, ¬fU L (s.take (n+1)) i):∀m,n<=m->uY L s m=uY L s n
 | 0,hm=>by
  obtain rfl:n=0:=by omega
  rfl
 | m+1,hm=>by
  rcases Bj m n with q|q
  ·obtain rfl:n=m+1:=by omega
   rfl
  ·rw[pO,h.hits_stop hn m q]
   have:vN0 L s m=[]:=by
    unfold vN0;rw[if_neg];intro hc;obtain⟨j,hj⟩:=List.mem_iff_getElem?.1 hc;obtain⟨i,hi⟩:=h.of_mem hj
    have e:s.take (m+1)=s.take (n+1)++(s.take (m+1)).drop (n+1):=by
     have h1:=Aw (n+1) (s.take (m+1));rw[List.take_take,Nat.min_eq_left (by omega)]at h1;exact h1.symm
    rw[e]at hi;exact h.no_more _ hn i hi
   rw[this,Bi]
theorem sM {L:List (List UInt8)} {d t:Nat}:∀(f:Nat) {i:Nat},t-i<=f->i<t->∃y,(eW L d t i).getLast?=some y/\y.t=t
 | 0,i,h1,h2=>by omega
 | f+1,i,h1,h2=>by
  rw[dV h2];have hk:=rS L (d:=d) h2;by_cases he:dP L d t i<t
  ·obtain⟨y,hy,ht⟩:=sM f (i:=dP L d t i) (by omega) he
   refine⟨y,?_,ht⟩;rw[List.getLast?_cons,hy];rfl
  ·rw[fV he]
   exact⟨_,rfl,by grind⟩
theorem OkL.first_kid {L:List (List UInt8)} (h:OkL L) {i:Nat} {x:dC} (hx:(nodesA L)[i]?=some x) (hl:x.i<x.t) (hh:iK L x=false):offA L i<offA L (i+1)/\∃y,(nodesA L)[offA L i]?=some y/\y.i=x.i:=by
 have hk:eZ L x=⟨x.i,dP L x.d x.t x.i,x.d+1⟩::eW L x.d x.t (dP L x.d x.t x.i):=by
  unfold eZ bQ;rw[hh];exact dV hl
 have h1:offA L i<offA L (i+1):=by
  rw[iN hx,hk,Bg];omega
 refine⟨h1,⟨x.i,dP L x.d x.t x.i,x.d+1⟩,?_,rfl⟩;have h2:=tF h.fix hx (k:=offA L i) (Ai _) h1;rw[h2,hk];show (_::_)[offA L i-offA L i]?=_
 rw[Df];rfl
theorem OkL.last_kid {L:List (List UInt8)} (h:OkL L) {i:Nat} {x:dC} (hx:(nodesA L)[i]?=some x) (h1:offA L i<offA L (i+1)):∃y,(nodesA L)[offA L (i+1)-1]?=some y/\y.t=x.t:=by
 have h2:=tF h.fix hx (k:=offA L (i+1)-1) (show offA L i<=_ by omega) (show _<offA L (i+1) by omega)
 have ho:=iN hx
 have af:bQ L x<x.t:=by
  apply Al
  intro hc
  have:eZ L x=[]:=fV hc
  rw[this]at ho;simp at ho;omega
 obtain⟨y,hy,ht⟩:=sM (L:=L) (d:=x.d) (t:=x.t) (x.t-bQ L x) (Ai _) af;refine⟨y,?_,ht⟩;rw[h2];grind [eZ,offA]
theorem OkL.no_kid {L:List (List UInt8)} {i:Nat} {x:dC} (hx:(nodesA L)[i]?=some x) (hl:x.i<x.t) (h1:¬offA L i<offA L (i+1)):iK L x=true/\x.t=x.i+1:=by
 have ho:=iN hx
 have af:¬bQ L x<x.t:=λhc=>by
  have:eZ L x=_:=dV hc
  simp_all
 unfold bQ at af;grind
theorem OkL.span_pos {L:List (List UInt8)} (h:OkL L) (hL:0<L.length) {i:Nat} {x:dC} (hx:(nodesA L)[i]?=some x):x.i<x.t:=by
 have g:=h.good hx;rcases g.ne with hl|hd
 ·exact hl
 ·have e:x=rootS L:=g.inj h.asc (iK0 L) (by
   grind [spanS,rootS])
  rw[e];exact hL
def fJ (L:List (List UInt8)) (p:List UInt8):List Nat:=(Au L.length).filter λj=>p.isPrefixOf (nth L j)
theorem OkL.below_node {L:List (List UInt8)} (h:OkL L) {i:Nat} {x:dC} (hx:(nodesA L)[i]?=some x):fJ L (spanS L x)=Bd x.i (x.t-x.i):=by
 have g:=h.good hx;have gv:=g.le;unfold fJ
 have e2:Au L.length=Au x.i++(Bd x.i (x.t-x.i)++Bd x.t (L.length-x.t)):=by
  have h1:Bd x.i (x.t-x.i)++Bd x.t (L.length-x.t)=Bd x.i (L.length-x.i):=by
   have:=Cg (s:=x.i) (m:=x.t-x.i) (n:=L.length-x.t)
   rw[show x.i+(x.t-x.i)=x.t by omega,show x.t-x.i+(L.length-x.t)=L.length-x.i by omega]at this
   exact this
  have h2:=Cg (s:=0) (m:=x.i) (n:=L.length-x.i);rw[Nat.zero_add,show x.i+(L.length-x.i)=L.length by omega]at h2
  rw[h1,Ch,Ch,h2]
 have key:∀j,j<L.length->((spanS L x).isPrefixOf (nth L j)=true↔x.i<=j/\j<x.t):=λj hj=>by
  rw[Ay];exact(g.begins h.asc hj).symm
 rw[e2,Bb,Bb]
 have f1:(Au x.i).filter (λj=>(spanS L x).isPrefixOf (nth L j))=[]:=List.filter_eq_nil_iff.2 (λj hj=>by
  rw[Bp]at hj;rw[key j (by omega)];omega)
 have f3:(Bd x.t (L.length-x.t)).filter (λj=>(spanS L x).isPrefixOf (nth L j))=[]:=List.filter_eq_nil_iff.2 (λj hj=>by
  rw[Cq]at hj;rw[key j (by omega)];omega)
 rw[f1,f3,Bi,Cb,List.filter_eq_self];intro j hj;rw[Cq]at hj;exact(key j (by omega)).2 (by omega)
theorem OkL.below_none {L:List (List UInt8)} (h:OkL L) {p:List UInt8} (hn:∀i, ¬fU L p i):fJ L p=[]:=by
 unfold fJ;refine List.filter_eq_nil_iff.2 λj hj hp=>?_;rw[Bp]at hj;rw[Ay]at hp;obtain⟨t,ht⟩:=hp;obtain⟨i,hi⟩:=h.node_of_pre (j:=j) (s:=p) (t:=t) (by rw[ht];exact iP hj);exact hn i hi
theorem OkL.below_long {L:List (List UInt8)} (h:OkL L) {p:List UInt8} (hn:256<p.length):fJ L p=[]:=by
 unfold fJ;refine List.filter_eq_nil_iff.2 λj hj hp=>?_;rw[Bp]at hj;rw[Ay]at hp
 have:=hp.length_le
 have:=h.len _ (Aj (iP hj))
 omega
end
section
open Go Go.RowKit
attribute [local go_sem] aO aM
theorem qT {x:Nat} (h:x<4611686018427387904):IntKind.i64.wrap (x:Int)=x:=by simp[Ag,Ah,Ae]; omega
theorem pL0 (b:List UInt8) (a:Option Addr) (c:Nat) (w:World) (hb:b.length<=8) (ac:aG w a 1 (b.map aV)) :
  Calls Tryz.prog 234 #[.slice a b.length c] w λe w'=>e=.returned (.int .u64 (yP b))/\w=w':=by
 have HAT:=Aa ac;clear ac;go_enter Tryz.func234,Tryz.ntmps234
 go_wp2_with fail
 go_loopw [3,8] (λn i wr=>∃k:Nat,k<=b.length/\i=.int .i64 k/\n=.int .u64 (yP (b.take k))/\Hid (wr=w)) (λ_ i _=>b.length-(intOf i).toNat)
 case atStart=>exact⟨0,As _,rfl,rfl,rfl⟩
 case round =>
  obtain⟨k,hk,rfl,rfl,hw⟩:=hrel;obtain rfl:=hw.out;by_cases af:k<b.length
  ·obtain⟨x,hx⟩:∃x,b[k]?=some x:=⟨_,Ac af⟩
   obtain⟨ab,ao,rfl,hc⟩:=at1 (f:=λx:UInt8=>Value.int .u8 x.toNat) HAT.out (aJ af);have jc:=hc k x hx;have nj:(b.take k).length=k:=by rw[Ar];omega
   have HT:Hid (yP (b.take k)|||(x.toNat<<<(8*k))%18446744073709551616=yP (b.take (k+1))):=by
    show _=_
    rw[bJ hx,<-jD1 (by rw[nj];omega),nj]
   have aew:yP (b.take k)<18446744073709551616:=pR0 (by omega);obtain⟨N,hN⟩:=exq (yP (b.take k));obtain⟨v,hv⟩:=exq x.toNat;have aip:v<256:=by rw[hv];exact x.toNat_lt
   obtain⟨S,hS⟩:=exq (8*k);rw[<-hN]at aew ⊢;rw[<-hv]at jc;rw[<-hN,<-hv,<-hS]at HT;have eS:IntKind.i64.wrap ((8:Int)*k)=S:=by simp[Ag,Ah,Ae];omega
   have uv:IntKind.u64.wrap (v:Int)=v:=by simp[Ag,Ah,Ae];omega
   have z9:=kU0 (x:=N) (v:=v) (S:=S) aew;have m5:S<64:=by omega
   have hSm:min S 64=S:=by omega
   have cz:(k:Int)<b.length:=by omega
   clear hc hx nj hN hv hS;go_wp2_with fail
   go_roundw
   case rel=>exact⟨k+1,af,by go_num,congrArg (λt:Nat=>Value.int .u64 (t:Int)) HT.out,trivial⟩
   case measure=>simp[intOf];omega
  ·obtain rfl:k=b.length:=by omega
   rw[Az];go_wp2_with fail
   go_ret;exact⟨rfl,rfl⟩
theorem yD (l:List Bool) (vb i:Nat) (w:World) (hl:l.length<=1048576) (ac:kE w vb l) :
  Calls Tryz.prog 143 #[.pointer (some ⟨vb,0,none⟩),.int .i64 i] w λe w'=>e=.returned (.bool (bitOf l i))/\w=w':=by
 obtain⟨vW,h1,h2⟩:=ac.c1;obtain⟨aW,cW,rfl,_,_,ic⟩:=h2.at_ (enc:=kF) (λ_=>rfl);have qj:=fM l;rw[qj]at h1;have CL:=Aa (sS l vb w ac);have h0:(0:Int)<=i:=by omega
 by_cases hi:i<l.length
 ·obtain⟨bW,oW,rfl,vp⟩:=at1 (f:=λn:Nat=>Value.int .u64 n) ic (aJ (k:=0) (by rw[qj];omega))
  obtain⟨Q,hQ⟩:=exq (i/64);obtain⟨S,hS⟩:=exq (i%64);obtain⟨q,hq⟩:=exq ((l.length+63)/64);have jc:=vp Q _ (pJ (by omega));have vx:=eJ1 l i;rw[<-hQ,<-hS]at vx;obtain⟨x,hx⟩:=exq (mY l Q);have ju:x<18446744073709551616:=by rw[hx];exact oR l Q
  rw[<-hx]at jc vx;rw[<-hq]at h1;have s5:Q<q:=by omega
  have hQi:(Q:Int)<q:=by omega
  have eQ:(i:Int)/64=Q:=by omega
  have eQt:(i:Int).tdiv 64=Q:=by rw[Bq (by omega)];omega
  have eS:(i:Int)%64=S:=by omega
  have eSt:(i:Int).tmod 64=S:=by rw[Br (by omega)];omega
  obtain⟨y,hy⟩:=exq (x>>>S);have ke:y<18446744073709551616:=by rw[hy];exact Nat.lt_of_le_of_lt (Nat.shiftRight_le _ _) ju
  have hsh:(x:Int)/2^S=(y:Nat):=by rw[hy];exact aY0 x S
  have vy:=u64_and_nat y 1 ke (by decide);rw[<-hy]at vx;rw[vx]at vy;have hand:bits .and .u64 (y:Int) 1=((if bitOf l i then 1 else 0:Nat):Int):=vy
  clear vy;have pm:(i:Int)<l.length:=by omega
  have m5:S<64:=by omega
  have hSm:min S 64=S:=by omega
  generalize bitOf l i=bt at hand ⊢;clear ac h2 ic vp qj hQ hS hq hx hy vx;go_enter Tryz.func143,Tryz.ntmps143
  go_wp2_with fail
  refine CL.out.mono ?_;rintro e w2 ⟨rfl,rfl⟩
  cases bt with
  | true =>
   simp only[if_true]at hand;go_wp2_with fail
   go_ret;exact⟨rfl,rfl⟩
  | false =>
   simp only[Cl,if_false]at hand;go_wp2_with fail
   go_ret;exact⟨rfl,rfl⟩
 ·have pm:¬(i:Int)<l.length:=by omega
  rw[jB0 (by omega)];clear ac h2 ic qj;go_enter Tryz.func143,Tryz.ntmps143
  go_wp2_with fail
  refine CL.out.mono ?_;rintro e w2 ⟨rfl,rfl⟩;go_wp2_with fail
  go_ret;exact⟨rfl,rfl⟩
theorem kG1 {l:List Bool} {w:World} {bb bo bc k:Nat} (ac:aG w (some ⟨bb,bo,none⟩) 1 ((oB l).map aV)) (fo:(oB l).length<=bc) (hk:k<(l.length+63)/64) :
  ∃a',(if bc=4+8*k then some ⟨bb,bo,none⟩ else some ⟨bb,bo+(4+8*k),none⟩)=a'/\aG w a' 1 ((leB 8 (mY l k)).map aV):=by
 have ze:=nI l;obtain⟨a',h1,h2,_⟩:=zX (l:=4+8*k) (h:=4+8*k+8) ac (λh=>by cases h) (by omega) (by omega) fo;refine⟨a',?_,?_⟩
 ·rw[<-h1,Ao,iE]
 ·rw[List.drop_take,show 4+8*k+8-(4+8*k)=8 by omega,zL0 hk]at h2
  exact h2
theorem eC1 {l:List Bool} {w:World} {bb bo:Nat} (ac:aG w (some ⟨bb,bo,none⟩) 1 ((oB l).map aV)):aG w (some ⟨bb,bo,none⟩) 1 ((leB 4 l.length).map aV):=λ_=>by
 have ze:=nI l;obtain⟨b,o,h1,h2⟩:=ac (by intro h;have:=congrArg Bu h;rw[Af,List.length_nil]at this;omega);refine⟨b,o,h1,λi row hi j v hj=>h2 i row ?_ j v hj⟩;rw[<-aB1,Ad,Cn]at hi;rw[Ad];split at hi
 ·exact hi
 ·cases hi
theorem bQ1 (l:List Bool) (k:Nat):yP (leB 8 (mY l k))=mY l k:=by
 rw[fB0];exact Cv (oR l k)
theorem aH1 {l:List Bool} (hl:l.length<=1048576):yP (leB 4 l.length)=l.length:=by
 rw[fB0];exact Cv (by rw[show (256:Nat)^4=4294967296 by decide];omega)
theorem pH0 (l:List Bool) (ba:Option Addr) (bc:Nat) (w:World) (hl:l.length<=1048576) (fo:(oB l).length<=bc) (ac:aG w ba 1 ((oB l).map aV)) :
  Calls Tryz.prog 192 #[.slice ba (oB l).length bc] w λe w'=>∃vb,e=.returned (.tuple #[.pointer (some ⟨vb,0,none⟩),.int .i64 0])/\kE w' vb l/\aB w w':=by
 have ze:=nI l;obtain⟨bb,bo,rfl,_⟩:=at1 (f:=λx:UInt8=>Value.int .u8 x.toNat) ac (Bt (by omega))
 have CH:∀u c,aB w u->Hid (Calls Tryz.prog 234 #[.slice (some ⟨bb,bo,none⟩) 4 c] u λe w'=>e=.returned (.int .u64 l.length)/\u=w'):=λu c hu=>by
  have h:=pL0 (leB 4 l.length) _ c u (by rw[bM];decide) ((eC1 ac).grows hu);rw[bM,aH1 hl]at h;exact h
 obtain⟨N,hN⟩:=exq ((oB l).length);rw[<-hN]at ze fo ⊢;have HN:=Aa hN;have HEL:=Aa ze;have HAT:=Aa ac;obtain⟨n,hn⟩:=exq l.length;have HNL:=Aa hn;rw[<-hn]at CH hl ze;obtain⟨q,hq⟩:=exq ((n+63)/64);have HQ:=Aa hq;have ve:q<=16384:=by omega
 have hN4:¬(N:Int)<4:=by omega
 have hN0:4<=N:=by omega
 have hN8:¬(N:Int)<4+8*(q:Int):=by omega
 have lh:¬(1048576:Int)<n:=by omega
 have wn:IntKind.i64.wrap (n:Int)=n:=qT (by omega);have w63:IntKind.i64.wrap ((n:Int)+63)=(n:Int)+63:=by have:=qT (x:=n+63) (by omega);rw[Cz]at this;exact this
 have e63:((n:Int)+63)/64=q:=by omega
 have ajh:((n:Int)+63).tdiv 64=q:=by rw[Bq (by omega)];exact e63
 have w8q:IntKind.i64.wrap (8*(q:Int))=8*(q:Int):=by have:=qT (x:=8*q) (by omega);rw[Cd]at this;exact this
 have w4q:IntKind.i64.wrap (4+8*(q:Int))=4+8*(q:Int):=by have:=qT (x:=4+8*q) (by omega);rw[Cz,Cd]at this;exact this
 clear ac hN hn hq ze;obtain⟨W1,bh⟩:=exq (w.alloc (.cells #[.int .i64 n,.slice none 0 0,.slice none 0 0] 266));obtain⟨pb,ei⟩:=exq w.heap.size;have er:=λj u h=>aT w #[.int .i64 n,.slice none 0 0,.slice none 0 0] 266 (0,0) j u h;rw[<-bh,<-ei]at er;have g1:aB w W1:=by rw[bh];exact aB.alloc _ _
 have c0:=er 0 _ rfl;have c1:=er 1 _ rfl;have c2:=er 2 _ rfl;have f1:W1.frozen? ⟨pb,1,none⟩=false:=by rw[bh,ei];exact frozen_of_row _ _ _ _ _ (heap_alloc_new w _)
 have f2:W1.frozen? ⟨pb,2,none⟩=false:=by rw[bh,ei];exact frozen_of_row _ _ _ _ _ (heap_alloc_new w _)
 have fe:W1.heap.size=pb+1:=by rw[bh,ei];simp
 have HPB:=Aa ei;clear er;go_enter Tryz.func192,Tryz.ntmps192
 go_wp2_with fail
 refine(CH _ _ (aB.refl _)).out.mono ?_;rintro e w2 ⟨rfl,rfl⟩;go_wp2_with fail
 refine(CH _ _ (aB.refl _)).out.mono ?_;rintro e w3 ⟨rfl,rfl⟩;go_wp2_with fail
 try rw[<-bh]
 try rw[<-ei]
 clear bh ei CH;go_loopw [35] (λi wr=>∃(k:Nat) (vW:Value),k<=q/\i=.int .i64 k/\wr.cell? ⟨pb,0,none⟩=some (.int .i64 n)/\wr.cell? ⟨pb,1,none⟩=some vW/\wr.cell? ⟨pb,2,none⟩=some (.slice none 0 0)/\wr.frozen? ⟨pb,1,none⟩=false/\wr.frozen? ⟨pb,2,none⟩=false/\aU wr (pb+1) 154 1 kF vW ((mO l).take k)/\Hid (aB w wr)) (λi _=>q-(intOf i).toNat)
 case atStart=>exact⟨0,_,As _,rfl,c0,c1,c2,f1,f2,aU.nil _ _ _ _ _,g1⟩
 case round =>
  clear c0 c1 c2 f1 f2 g1;obtain⟨k,vW,hk,rfl,c0,c1,c2,f1,f2,aa,hg⟩:=hrel;by_cases af:k<q
  ·have cz:(k:Int)<q:=by omega
   have hx:=pJ (l:=l) (k:=k) (by have:=HQ.out;have:=HNL.out;omega);have HT:=Aa (bJ hx);have nj:((mO l).take k).length=k:=by rw[Ar,fM];have:=HQ.out;have:=HNL.out;omega
   obtain⟨aW,cW,rfl,_,_,_⟩:=aa.at_ (enc:=kF) (λ_=>rfl);rw[nj]at c1 aa;obtain⟨a5,hif,ha5⟩:=kG1 HAT.out (by rw[<-HN.out];exact fo) (show k<(l.length+63)/64 by have:=HQ.out;have:=HNL.out;omega)
   have CN:∀x:Ext (EB (pb+1)) wr.drew,Calls Tryz.prog 234 #[.slice a5 8 (bc-(4+8*k))] x.u λe w'=>e=.returned (.int .u64 (mY l k))/\x.u=w':=λx=>by
    have h:=pL0 (leB 8 (mY l k)) a5 (bc-(4+8*k)) x.u (by rw[bM];decide) (ha5.grows (EB.grows hg.out.dr (x.h.mono (by have:=HPB.out;omega))));rw[bM,bQ1]at h;exact h
   obtain⟨S,hS⟩:=exq (4+8*k);obtain⟨T,hT⟩:=exq (12+8*k);rw[<-hS]at hif CN;have w8:IntKind.i64.wrap (8*(k:Int))=8*(k:Int):=by have:=qT (x:=8*k) (by omega);rw[Cd]at this;exact this
   have w4:IntKind.i64.wrap (4+8*(k:Int))=S:=by have:=qT (x:=S) (by omega);rw[<-this];congr 1;omega
   have w12:IntKind.i64.wrap (12+8*(k:Int))=T:=by have:=qT (x:=T) (by omega);rw[<-this];congr 1;omega
   have hTN:T<=N:=by have:=HEL.out;have:=HQ.out;have:=HNL.out;omega
   have hTS:T-S=8:=by omega
   have hST:(S:Int)<=T:=by omega
   have hTb:(T:Int)<=bc:=by omega
   clear hS hT;obtain⟨y,hy⟩:=exq (mY l k);rw[<-hy]at CN HT;have ou:pb<wr.heap.size:=Bc wr _ c0;have z1:∀x:Ext (EB (pb+1)) wr.drew,x.u.cell? ⟨pb,1,none⟩=some (.slice aW k cW):=mU (Cw _) ((aB.drew wr).cell c1);clear hx hy ha5;go_wp2_with fail
   refine pV0 (EB (pb+1)) 16 (bE 16 [14,15]) (EB.refl (pb+1)) (EB.trans (pb+1)) (by kernel_rfl) (by kernel_rfl) (λd _ _ _ _ h=>by cases d<;>exact h) ?_
   iterate 13 (refine aH rfl (λK hK=>?_);go_simp;refine hK _ ?_;clear hK K)
   refine aH rfl (λK hK=>?_);go_simp;apply Exists.intro
   refine⟨λx=>?_,hK _ ?_⟩
   ·go_at_call 234;exact cX (CN x)
   clear hK K;clear z1;refine bG rfl rfl (λK hK=>?_);go_simp;refine⟨EB.of (aB.alloc _ _) (show pb+1<=wr.heap.size by omega),hK _ _ ?_⟩
   clear hK K;refine bG rfl rfl (λK hK=>?_);refine tO cG1 _ _ rfl (pb+1) _ ((mO l).take k) y rfl ((aa.grows (aB.drew wr)).grows (aB.alloc _ _)) _ 1 rfl (nX1 (mE1 _ _ _)) (by rw[nj];omega) (by simp;omega) ?_;intro v5 w5 au pr y8;have du:=aB.trans _ _ _ (aB.drew wr) (aB.alloc wr.drew (.cells #[.int .u64 y] 154))
   have y9:some pb≠(Value.slice aW k cW).ownBlock:=λh=>by
    have:=aX aa _ h.symm
    omega
   have hE5:=EB.own ((aa.grows (aB.drew wr)).grows (aB.alloc _ _)) pr (by simp;omega);have e0:=pr.cell (du.cell c0) y9;have e1:=pr.cell (du.cell c1) y9;have e2:=pr.cell (du.cell c2) y9;have ef1:w5.frozen? ⟨pb,1,none⟩=false:=(Ca (a:=⟨pb,1,none⟩) (pr.block pb (by simp;omega) y9)).trans ((du.froz (by show pb<_;omega)).trans f1)
   have ef2:w5.frozen? ⟨pb,2,none⟩=false:=(Ca (a:=⟨pb,2,none⟩) (pr.block pb (by simp;omega) y9)).trans ((du.froz (by show pb<_;omega)).trans f2)
   have ahi:Hid (aB w w5):=EB.grows (hg.out.tr du) (hE5.mono (by have:=HPB.out;omega));refine⟨hE5,hK _ _ ?_⟩;clear hK K;refine bN ?_;simp only[List.drop_succ_cons,List.drop_zero];rw[<-HT.out]at au;have ahj:((mO l).take (k+1)).length=k+1:=by rw[Ar,fM];have:=HQ.out;have:=HNL.out;omega
   obtain⟨a6,c6,rfl,_,_,_⟩:=au.at_ (enc:=kF) (λ_=>rfl);rw[ahj]at au ⊢;clear pr y8 du hE5 aa c0 c1 c2 f1 f2 CN hg;go_wp2_with fail
   go_roundw
   case rel=>exact⟨k+1,_,af,by go_num,(Ba _ _ _ _ (λh=>by cases h)).trans e0,Bv _ _ _ e1,(Ba _ _ _ _ (λh=>by cases h)).trans e2,(Ce _ _ _ _).trans ef1,(Ce _ _ _ _).trans ef2,mM au (p:=⟨pb,1,none⟩) (Cw _) _,ahi.out.set (show w.heap.size<=pb by have:=HPB.out;omega) _⟩
   case measure=>simp[intOf];omega
  ·have cz:¬(k:Int)<q:=by omega
   have jt:k=q:=by omega
   rw[jt,Av (by rw[fM];have:=HQ.out;have:=HNL.out;omega)]at aa;clear jt;obtain⟨aW,cW,rfl,_,_,ic⟩:=aa.at_ (enc:=kF) (λ_=>rfl);have qj:(mO l).length=q:=by rw[fM];have:=HQ.out;have:=HNL.out;omega
   have CC:=gX0 l pb (pb+1) _ wr (by have:=HNL.out;omega) (λr hr=>by have:=aX aa r hr;omega) c1 c2 f2 aa;rw[qj]at c1;go_wp2_with fail
   refine CC.mono ?_;rintro e w5 ⟨rfl,⟨vC,g2,jp⟩,hj,mq⟩;have abl:pb<wr.heap.size:=Bc wr _ c0;have de:=cG0 mq abl;have d0:=(hj 0 (by decide)).trans c0;have d1:=(hj 1 (by decide)).trans c1
   have kq:=gT (v:=.slice (some ⟨pb,0,none⟩) 0 0) aa mq (λr h1 h2=>by
    have a1:pb=r:=Option.some.inj h1
    have:=aX aa r h2
    omega)
   have bi:aB w w5:=EB.grows hg.out (de.mono (by have:=HPB.out;omega));have HV:Hid (kE w5 pb l):=⟨by rw[<-HNL.out];exact d0,⟨_,by rw[qj];exact d1,kq.base (As _)⟩,vC,g2,jp.base (As _)⟩;have np:l.length<=1048576:=by have:=HNL.out;omega
   have CE:=λ(W:World) (hW:aB w5 W)=>Aa (eC0 l pb W np (HV.out.grows hW));have HATW:Hid (aG w5 aW 1 ((mO l).map kF)):=(fM0 (λ_=>rfl) kq);have z0:∀x:Ext aB w5.drew,x.u.cell? ⟨pb,0,none⟩=some (.int .i64 n):=aF ((aB.drew w5).cell d0);have z1:∀x:Ext aB w5.drew,x.u.cell? ⟨pb,1,none⟩=some (.slice aW q cW):=aF ((aB.drew w5).cell d1);have HG5:=Aa bi;obtain⟨R,hR⟩:=exq (n%64);have eR:(n:Int)%64=R:=by omega
   have eRt:(n:Int).tmod 64=R:=by rw[Br (by omega)];exact eR
   have HR:=Aa hR;clear CC c0 c1 c2 f1 f2 aa ic hj mq de kq jp g2 abl hR hg bi d0 d1 qj;by_cases y6:R=0
   ·subst y6
    go_wp2_with fail
    refine bH (nU [0,1,2,3,4,5,6,7,8,9,10,11,12,13,14,15,16,17,18,19,20,21,22,23,24,26,25,27,28,29] [25,27]) (by kernel_rfl) (λd _ _ _ _ h=>by cases d<;>exact h) ?_
    iterate 26 (refine aH rfl (λK hK=>?_);go_simp;refine hK _ ?_;clear hK K)
    clear z0 z1;refine bG rfl rfl (λK hK=>?_);go_simp;refine((CE _ (aB.drew w5)).out).mono ?_;rintro e w8 ⟨v8,rfl,ue,fq⟩;refine⟨fq,hK _ _ ?_⟩;clear hK K;obtain⟨a8,c8,rfl,_,_,lx⟩:=ue.at_ bI.len;have lz:aB w w8:=HG5.out.dr.tr fq;have CQ:=Aa (mS (oB l) (oB l) a8 (some ⟨bb,bo,none⟩) c8 bc w8 lx (HAT.out.grows lz));rw[<-HN.out]at CQ ⊢;simp only[decide_true]at CQ;have HV8:=Aa (HV.out.grows ((aB.drew w5).tr fq));clear ue lx fq;refine bG rfl rfl (λK hK=>?_);go_simp;refine(CQ.out).mono ?_;rintro e w9 ⟨rfl,rfl⟩;refine⟨aB.refl _,hK _ _ ?_⟩;clear hK K;iterate 2 (refine aH rfl (λK hK=>?_);go_simp;refine hK _ ?_;clear hK K)
    refine bN ?_;go_wp2
    go_ret2;exact⟨pb,rfl,HV8.out,lz⟩
   ·have hRi:((R:Int)==0)=false:=by simp;omega
    have hRn:((R:Int) != 0)=true:=by simp;omega
    have hq0:0<q:=by have:=HQ.out;have:=HR.out;omega
    obtain⟨Q1,yy⟩:=exq (q-1);obtain⟨bW,oW,rfl,vp⟩:=at1 (f:=λn:Nat=>Value.int .u64 n) HATW.out (aJ (k:=0) (by rw[fM];have:=HQ.out;have:=HNL.out;omega));have jc:=vp Q1 _ (pJ (by have:=HQ.out;have:=HNL.out;omega))
    have acw:mY l Q1/2^R=0:=by
     have h:=eO1 (l:=l) (q:=Q1) (by have:=HQ.out;have:=HNL.out;omega) (by have:=HQ.out;have:=HNL.out;have:=HR.out;omega) (by have:=HNL.out;have:=HR.out;omega);rw[<-HNL.out,<-HR.out]at h;exact h
    obtain⟨x,hx⟩:=exq (mY l Q1);rw[<-hx]at jc acw;have ju:x<18446744073709551616:=by rw[hx];exact oR l Q1
    have hsh:(x:Int)/2^R=0:=by
     have:(x:Int)/2^R=((x/2^R:Nat):Int):=by push_cast;rfl
     rw[this,acw];rfl
    have wQ1:IntKind.i64.wrap ((q:Int)-1)=Q1:=by have:=qT (x:=Q1) (by omega);rw[<-this];congr 1;omega
    have s5:Q1<q:=by omega
    have hQi:(Q1:Int)<q:=by omega
    have aji:R<64:=by have:=HR.out;omega
    have hRm:min R 64=R:=by omega
    have z2:∀x':Ext aB w5.drew,x'.u.cell? ⟨bW,oW+Q1,none⟩=some (.int .u64 x):=aF ((aB.drew w5).cell jc);clear vp jc hx acw HATW yy hq0;go_wp2_with fail
    refine bH (nU [0,1,2,3,4,5,6,7,8,9,10,11,12,13,14,15,16,17,18,19,20,21,22,23,24,26,25,27,28,29] [25,27]) (by kernel_rfl) (λd _ _ _ _ h=>by cases d<;>exact h) ?_
    iterate 26 (refine aH rfl (λK hK=>?_);go_simp;refine hK _ ?_;clear hK K)
    clear z0 z1 z2;refine bG rfl rfl (λK hK=>?_);go_simp;refine((CE _ (aB.drew w5)).out).mono ?_;rintro e w8 ⟨v8,rfl,ue,fq⟩;refine⟨fq,hK _ _ ?_⟩;clear hK K;obtain⟨a8,c8,rfl,_,_,lx⟩:=ue.at_ bI.len;have lz:aB w w8:=HG5.out.dr.tr fq;have CQ:=Aa (mS (oB l) (oB l) a8 (some ⟨bb,bo,none⟩) c8 bc w8 lx (HAT.out.grows lz));rw[<-HN.out]at CQ ⊢;simp only[decide_true]at CQ;have HV8:=Aa (HV.out.grows ((aB.drew w5).tr fq));clear ue lx fq;refine bG rfl rfl (λK hK=>?_);go_simp;refine(CQ.out).mono ?_;rintro e w9 ⟨rfl,rfl⟩;refine⟨aB.refl _,hK _ _ ?_⟩;clear hK K;iterate 2 (refine aH rfl (λK hK=>?_);go_simp;refine hK _ ?_;clear hK K)
    refine bN ?_;go_wp2
    go_ret2;exact⟨pb,rfl,HV8.out,lz⟩
end
section
open Go Go.RowKit Go.Shelf
attribute [local go_sem] aO aM
theorem jG0 (L:List (List UInt8)) (tb i:Nat) (w:World) (ag:OkL L) (hl:L.length<=20000) (hc:gC L<=524287) (hi:i<(nodesA L).length) (ac:eP w tb L) :
  Calls Tryz.prog 144 #[.pointer (some ⟨tb,0,none⟩),.int .i64 i] w λe w'=>e=.returned (.tuple #[.int .i64 (offA L i:Nat),.int .i64 (offA L (i+1):Nat)])/\aB w w':=by
 obtain⟨z1,z2,_,_,_⟩:=ag.sizes hl hc;obtain⟨sb,s1,s2⟩:=ac.s
 have ud:(shapeL L (nodesA L)).length=2*(nodesA L).length+1:=by
  have h:=eN L (nodesA L).length (Ai _);rw[Az,ag.off_all]at h;omega
 obtain⟨p1,p2,p3⟩:=vB (L:=L) (i:=i) (by omega);obtain⟨r1,r2,_⟩:=vB (L:=L) (i:=i+1) (by omega);have ho1:=ag.off_le i;have ho2:=ag.off_le (i+1);have hm:=kW (L:=L) (show i<=i+1 by omega)
 have CS1:=λ(u:World) (hu:aB w u)=>Aa (uA (shapeL L (nodesA L)) sb false (offA L i+i) i u z1 (by omega) p1 p2 (s2.grows hu));have CS2:=λ(u:World) (hu:aB w u)=>Aa (uA (shapeL L (nodesA L)) sb false (offA L (i+1)+(i+1)) (i+1) u z1 (by omega) r1 r2 (s2.grows hu))
 have CR:∀u,aB w u->Hid (Calls Tryz.prog 170 #[.pointer (some ⟨sb,0,none⟩),.bool true,.int .i64 (offA L i+i+1:Nat)] u λe w'=>e=.returned (.int .i64 (offA L i:Nat))/\u=w'):=λu hu=>by
  have h:=pT (shapeL L (nodesA L)) sb true (offA L i+i+1) u z1 (by omega) (s2.grows hu);rw[show min (offA L i+i+1) (shapeL L (nodesA L)).length=offA L i+i+1 by omega,p3]at h
  exact h
 obtain⟨A,hA⟩:=exq (offA L i);obtain⟨B,hB⟩:=exq (offA L (i+1));rw[<-hA]at CS1 CR ho1 hm ⊢;rw[<-hB]at CS2 ho2 hm ⊢;obtain⟨P,hP⟩:=exq (A+i);obtain⟨F,hF⟩:=exq (A+i+1);obtain⟨T,hT⟩:=exq (B+(i+1));obtain⟨j,hj⟩:=exq (i+1);rw[<-hP]at CS1;rw[<-hF]at CR;rw[<-hj]at hT;rw[<-hj,<-hT]at CS2
 have hN:(nodesA L).length<=524287:=by
  have:=dY ag.asc ag.len
  omega
 have w1:IntKind.i64.wrap ((P:Int)+1)=F:=by simp[Ag,Ah,Ae];omega
 have w2:IntKind.i64.wrap ((i:Int)+1)=j:=by simp[Ag,Ah,Ae];omega
 have w3:IntKind.i64.wrap ((A:Int)+T)=(A:Int)+T:=by simp[Ag,Ah,Ae];omega
 have w4:IntKind.i64.wrap ((A:Int)+T-F)=B:=by simp[Ag,Ah,Ae];omega
 clear hP hF hT hj hA hB p1 p2 p3 r1 r2 ac s2 ud z1 z2;go_enter Tryz.func144,Tryz.ntmps144
 go_wp2_with fail
 refine(CS1 w (aB.refl w)).out.mono ?_;rintro e w1' ⟨rfl,ai⟩;have s1a:=ai.cell s1;go_wp2_with fail
 refine(CS2 w1' ai).out.mono ?_;rintro e w2' ⟨rfl,ae⟩;have hg:=ai.tr ae;have s1b:=hg.cell s1;clear s1a ai ae CS1 CS2 s1;go_wp2_with fail
 refine(CR w2' hg).out.mono ?_;rintro e w3' ⟨rfl,rfl⟩;clear CR;go_wp2_with fail
 go_ret2;exact⟨rfl,hg⟩
theorem aV1 (L:List (List UInt8)) (tb i:Nat) (c:UInt8) (w:World) (ag:OkL L) (hl:L.length<=20000) (hc:gC L<=524287) (hi:i<(nodesA L).length) (ac:eP w tb L) :
  Calls Tryz.prog 199 #[.pointer (some ⟨tb,0,none⟩),.int .i64 i,.int .u8 (c.toNat:Nat)] w λe w'=>∃(k:Nat) (b:Bool),e=.returned (.tuple #[.int .i64 k,.bool b])/\iN1 L i c k b/\aB w w':=by
 obtain⟨x,hx⟩:∃x,(nodesA L)[i]?=some x:=⟨_,Ac hi⟩;have CK:=λ(u:World) (hu:aB w u)=>Aa (jG0 L tb i u ag hl hc hi (ac.grows hu));obtain⟨_,_,z3,_,_⟩:=ag.sizes hl hc;obtain⟨vL,l1,l2⟩:=ac.l;obtain⟨aL,cL,rfl,_,_,ko⟩:=l2.at_ bI.len;have HATL:=Aa ko;obtain⟨ln,vl⟩:=exq ((labelsL L (nodesA L)).length);rw[<-vl]at l1;have HLN:=Aa vl;have ho2:=ag.off_le (i+1)
 have hN:(nodesA L).length<=524287/\ln+1=(nodesA L).length:=by
  have:=dY ag.asc ag.len
  refine⟨by omega,?_⟩;rw[vl,ag.labels,Af,Bf];omega
 have HX:=Aa hx;have HOK:=Aa ag;obtain⟨A,hA⟩:=exq (offA L i);obtain⟨B,hB⟩:=exq (offA L (i+1));rw[<-hA,<-hB]at CK;rw[<-hB]at ho2;have hA1:1<=A:=by rw[hA];exact OkL.off_pos i
 have START:Hid (oH L i c A B):=by
  rw[hA,hB];exact Aa (oH.start L i c)
 have HB:=Aa hB;have HA:=Aa hA;clear hx ac l2 ko vl hA hB hl hc;go_enter Tryz.func199,Tryz.ntmps199
 go_wp2_with fail
 refine(CK w (aB.refl w)).out.mono ?_;rintro e w1 ⟨rfl,ai⟩;have G1:=Aa ai;clear ai;go_wp2_with fail
 go_loopw [8,9] (λf t wr=>∃F T:Nat,f=.int .i64 F/\t=.int .i64 T/\T<=B/\1<=F/\F<=T/\Hid (oH L i c F T)/\Hid (aB w wr)) (λf t _=>(intOf t).toNat-(intOf f).toNat)
 case atStart=>exact⟨A,B,rfl,rfl,Ai _,hA1,START.out.le,START.out,G1.out⟩
 case round =>
  clear START;obtain⟨F,T,rfl,rfl,hTB,hF1,hFT,hI,hG⟩:=hrel;have l1r:=hG.out.cell l1;by_cases af:F<T
  ·have dz:(F:Int)<T:=by omega
   obtain⟨M,hM⟩:=exq ((F+T)/2);obtain⟨M1,vz⟩:=exq (M-1);have wFT:IntKind.i64.wrap ((F:Int)+T)=(F:Int)+T:=by simp[Ag,Ah,Ae];omega
   have eM:((F:Int)+T)/2=M:=by omega
   have wM1:IntKind.i64.wrap ((M:Int)-1)=M1:=by simp[Ag,Ah,Ae];omega
   have hFM:F<=M:=by omega
   have hMT:M<T:=by omega
   obtain⟨d,hd⟩:=HOK.out.lab_get HX.out (k:=M) (Co hI.out.lo hFM) (by rw[<-HB.out];omega);rw[<-vz]at hd;obtain⟨lb,lo,rfl,cr⟩:=at1 (f:=λb:UInt8=>Value.int .u8 b.toNat) (HATL.out.grows hG.out) (Bn (Aj hd));have hlc:=cr M1 d hd;have ahk:(M1:Int)<ln:=by omega
   have HD:=Aa hd;have HM1:=Aa vz;have vg:M<=524287:=by omega
   clear cr hd hM vz;by_cases hdc:d.toNat<c.toNat
   ·have hdi:(d.toNat:Int)<c.toNat:=by omega
    have hI2:=Aa (hI.out.less HOK.out HX.out hFM hMT (by rw[<-HM1.out];exact HD.out) hdc);obtain⟨M2,hM2⟩:=exq (M+1);have wM2:IntKind.i64.wrap ((M:Int)+1)=M2:=by simp[Ag,Ah,Ae];omega
    rw[<-hM2]at hI2;go_wp2_with fail
    go_roundw
    case rel=>exact⟨M2,T,by go_num,rfl,hTB,by omega,by omega,hI2.out,hG.out⟩
    case measure=>simp[intOf];omega
   ·have hdi:¬(d.toNat:Int)<c.toNat:=by omega
    have hI2:=Aa (hI.out.more HOK.out HX.out hFM hMT (by rw[<-HM1.out];exact HD.out) hdc);go_wp2_with fail
    go_roundw
    case rel=>exact⟨F,M,rfl,by go_num,by omega,hF1,hFM,hI2.out,hG.out⟩
    case measure=>simp[intOf];omega
  ·have dz:¬(F:Int)<T:=by omega
   obtain rfl:F=T:=by omega
   have CK2:=CK wr hG.out;clear CK;go_wp2_with fail
   refine CK2.out.mono ?_;rintro e w2 ⟨rfl,ae⟩;have o0:=hG.out.tr ae;have l1s:=o0.cell l1;by_cases hFB:F<B
   ·have ahl:(F:Int)<B:=by omega
    obtain⟨M1,vz⟩:=exq (F-1);have wM1:IntKind.i64.wrap ((F:Int)-1)=M1:=by simp[Ag,Ah,Ae];omega
    obtain⟨d,hd⟩:=HOK.out.lab_get HX.out (k:=F) hI.out.lo (by rw[<-HB.out];omega);rw[<-vz]at hd;obtain⟨lb,lo,rfl,cr⟩:=at1 (f:=λb:UInt8=>Value.int .u8 b.toNat) (HATL.out.grows o0) (Bn (Aj hd));have ahk:(M1:Int)<ln:=by omega
    have y0:∀y:Ext aB w2.drew,y.u.cell? ⟨lb,lo+M1,none⟩=some (.int .u8 d.toNat):=aF ((aB.drew w2).cell (cr M1 d hd));have y1:∀y:Ext aB w2.drew,y.u.cell? ⟨tb,2,none⟩=some (.slice (some ⟨lb,lo,none⟩) ln cL):=aF ((aB.drew w2).cell l1s);have HD:=Aa hd;have HM1:=Aa vz;by_cases hdc:d=c
    ·have RES:Hid (iN1 L i c F true):=hI.out.hit (by rw[<-HB.out];exact hFB) (by rw[<-HM1.out,<-hdc];exact HD.out)
     have hdi:((d.toNat:Int)==c.toNat)=true:=by rw[hdc];simp
     clear cr hd vz l1s l1r hdc hI;go_wp2_with fail
     refine bH (bE 18 []) (by kernel_rfl) (λd _ _ _ _ h=>by cases d<;>exact h) ?_
     iterate 18 (refine aH rfl (λK hK=>?_);go_simp;refine hK _ ?_;clear hK K)
     refine bN ?_;clear y0 y1;go_wp2
     go_ret2;exact⟨F,true,rfl,RES.out,o0.dr⟩
    ·have RES:Hid (iN1 L i c F false):=hI.out.miss HOK.out HX.out (by rw[<-HB.out];exact hFB) (by rw[<-HM1.out];exact HD.out) hdc
     have hdi:((d.toNat:Int)==c.toNat)=false:=by
      rw[beq_eq_false_iff_ne];intro h;exact hdc (UInt8.toNat_inj.1 (by omega))
     clear cr hd vz l1s l1r hdc hI;go_wp2_with fail
     refine bH (bE 18 []) (by kernel_rfl) (λd _ _ _ _ h=>by cases d<;>exact h) ?_
     iterate 18 (refine aH rfl (λK hK=>?_);go_simp;refine hK _ ?_;clear hK K)
     refine bN ?_;clear y0 y1;go_wp2
     go_ret2;exact⟨F,false,rfl,RES.out,o0.dr⟩
   ·have ahl:¬(F:Int)<B:=by omega
    have RES:Hid (iN1 L i c F false):=hI.out.ends (by rw[<-HB.out];exact hFB);clear hI l1r;go_wp2_with fail
    refine bH (bE 18 []) (by kernel_rfl) (λd _ _ _ _ h=>by cases d<;>exact h) ?_
    iterate 18 (refine aH rfl (λK hK=>?_);go_simp;refine hK _ ?_;clear hK K)
    refine bN ?_;go_wp2
    go_ret2;exact⟨F,false,rfl,RES.out,o0.dr⟩
theorem bM1 (L:List (List UInt8)) (tb i:Nat) (s:List UInt8) (w:World) (ag:OkL L) (hl:L.length<=20000) (hc:gC L<=524287) (hn:fU L s i) (ac:eP w tb L) :
  Calls Tryz.prog 145 #[.pointer (some ⟨tb,0,none⟩),.int .i64 i] w λe w'=>e=.returned (.tuple #[.int .i64 ((lC L s).1:Nat),.bool (lC L s).2])/\aB w w':=by
 obtain⟨x,hx,rfl⟩:=hn;have pm:=(List.getElem?_eq_some_iff.1 hx).1;have hf:=ag.find_node hx;obtain⟨_,z2,_,z4,z5⟩:=ag.sizes hl hc;obtain⟨ib,i1,i2⟩:=ac.i;obtain⟨pb,d1,d2⟩:=ac.d
 have hN:(nodesA L).length<=524287:=by
  have:=dY ag.asc ag.len
  omega
 have CG:=Aa (yD (isL L (nodesA L)) ib i w (by omega) i2);rw[zG hx]at CG;by_cases hh:iK L x=true
 ·rw[if_pos hh]at hf
  rw[hf];rw[hh]at CG;have hid:=rB0 hx hh;have ajj:(isL L (nodesA L)).length=(nodesA L).length:=by unfold isL;rw[Af]
  obtain⟨k,hk⟩:=exq (dT (isL L (nodesA L)) i);rw[<-hk]at hid
  have CR:∀u,aB w u->Hid (Calls Tryz.prog 170 #[.pointer (some ⟨ib,0,none⟩),.bool true,.int .i64 i] u λe w'=>e=.returned (.int .i64 (k:Nat))/\u=w'):=λu hu=>by
   have h:=pT (isL L (nodesA L)) ib true i u (by omega) (by omega) (i2.grows hu);rw[show min i (isL L (nodesA L)).length=i by omega]at h
   rw[hk];exact h
  have CP:=λ(u:World) (hu:aB w u)=>Aa (tR (idsL L (nodesA L)) pb k x.i u (d2.grows hu) (by omega) (λn hn=>by have:=z5 n hn;omega) hid);have z0:∀y:Ext aB w.drew,y.u.cell? ⟨tb,3,none⟩=some (.pointer (some ⟨pb,0,none⟩)):=aF ((aB.drew w).cell d1);have z1':∀y:Ext aB w.drew,y.u.cell? ⟨tb,1,none⟩=some (.pointer (some ⟨ib,0,none⟩)):=aF ((aB.drew w).cell i1);have hx5:x.i<=20000:=z5 _ (Aj hid);have wx:IntKind.i64.wrap ((x.i:Nat):Int)=(x.i:Nat):=by simp[Ag,Ah,Ae];omega
  clear ac d2 i2 hid hx hk hf ag;go_enter Tryz.func145,Tryz.ntmps145
  go_wp2_with fail
  refine CG.out.mono ?_;rintro e w1 ⟨rfl,rfl⟩;go_wp2_with fail
  refine bH (bE 16 [10]) (by kernel_rfl) (λd _ _ _ _ h=>by cases d<;>exact h) ?_
  iterate 9 (refine aH rfl (λK hK=>?_);go_simp;refine hK _ ?_;clear hK K)
  refine aH rfl (λK hK=>?_);go_simp;apply Exists.intro
  refine⟨λx=>?_,hK _ ?_⟩
  ·go_at_call 170;exact cX (CR _ ((aB.drew w).tr x.h)).out
  clear hK K;clear z0 z1';refine bG rfl rfl (λK hK=>?_);go_simp;refine((CP w.drew (aB.drew w)).out).mono ?_;rintro e w2 ⟨rfl,ae⟩;refine⟨ae,hK _ _ ?_⟩;clear hK K;iterate 5 (refine aH rfl (λK hK=>?_);go_simp;refine hK _ ?_;clear hK K)
  refine bN ?_;go_wp2
  go_ret2;exact⟨rfl,(aB.drew w).tr ae⟩
 ·rw[if_neg hh]at hf
  rw[hf];rw[show iK L x=false by simpa using hh]at CG
  clear ac d2 i2 hx hf ag;go_enter Tryz.func145,Tryz.ntmps145
  go_wp2_with fail
  refine CG.out.mono ?_;rintro e w1 ⟨rfl,rfl⟩;go_wp2
  go_ret2;exact⟨rfl,aB.refl _⟩
theorem kN0 (L:List (List UInt8)) (tb:Nat) (s:ByteArray) (w:World) (ag:OkL L) (hl:L.length<=20000) (hc:gC L<=524287) (hs:s.size<=9223372036854775807) (ac:eP w tb L) :
  Calls Tryz.prog 142 #[.pointer (some ⟨tb,0,none⟩),.string s] w λe w'=>∃(k:Nat) (b:Bool),e=.returned (.tuple #[.int .i64 k,.bool b])/\jL0 L (bl s) k b/\aB w w':=by
 have HOK:=Aa ag;have CD:=λ(i:Nat) (c:UInt8) (hi:i<(nodesA L).length) (u:World) (hu:aB w u)=>Aa (aV1 L tb i c u ag hl hc hi (ac.grows hu));clear ac ag;go_enter Tryz.func142,Tryz.ntmps142
 go_wp2_with fail
 go_loopw [6,7,8] (λf b i wr=>∃(k j:Nat) (ok:Bool),f=.int .i64 k/\b=.bool ok/\i=.int .i64 j/\j<=s.size/\Hid (jL0 L ((bl s).take j) k ok)/\Hid (aB w wr)) (λ_ _ i _=>s.size-(intOf i).toNat)
 case atStart=>exact⟨0,0,true,rfl,rfl,rfl,As _,⟨λ_=>HOK.out.isRoot,λh=>by cases h⟩,aB.refl _⟩
 case round =>
  obtain⟨k,j,ok,rfl,rfl,rfl,hj,hW,hG⟩:=hrel;by_cases af:j<s.size
  ·have dz:(j:Int)<s.size:=by omega
   cases ok with
   | true =>
    have hcj:(bl s)[j]?=some s[j]:=mX af;have CD1:=CD k s[j] (hW.out.1 rfl).lt wr hG.out;have HC:=Aa hcj;clear CD hcj;go_wp2_with fail
    refine CD1.out.mono ?_;rintro e w1 ⟨k1,b1,rfl,hd,ai⟩;have HW1:=Aa (HOK.out.down_to (hW.out.1 rfl) hd);rw[<-bJ HC.out]at HW1;go_wp2_with fail
    go_roundw
    case rel=>exact⟨k1,j+1,b1,rfl,rfl,by go_num,af,HW1.out,hG.out.tr ai⟩
    case measure=>simp[intOf];omega
   | false =>
    have HW1:=Aa (HOK.out.walk_stop hW.out);go_wp2_with fail
    go_ret2;exact⟨k,false,rfl,HW1.out,hG.out⟩
  ·have dz:¬(j:Int)<s.size:=by omega
   obtain rfl:j=s.size:=by omega
   have HW1:=hW.out;rw[Av (by rw[eE];exact Ai _)]at HW1
   cases ok with
   | true =>
    go_wp2_with fail
    go_ret2;first|exact⟨k,true,rfl,HW1,hG.out⟩|exact⟨k,.inr ⟨rfl,HW1,hG.out⟩⟩
   | false =>
    go_wp2_with fail
    go_ret2;first|exact⟨k,false,rfl,HW1,hG.out⟩|exact⟨k,.inl ⟨rfl,HW1,hG.out⟩⟩
theorem oB1 (n:Nat) (h:n<4294967296):∃b0 b1 b2 b3:Nat,leB 4 n=[An b0,An b1,An b2,An b3]/\b0<256/\b1<256/\b2<256/\b3<256/\n=b0+b1*256+b2*65536+b3*16777216:=by
 refine⟨n%256,n/256%256,n/65536%256,n/16777216%256,?_,by omega,by omega,by omega,by omega,by omega⟩;unfold leB;simp[Au,List.range.loop,yN]
def rH (Ps:List (List UInt8)) (k:Nat):List UInt8:=(Ps.drop k).flatMap eU
theorem fK0 {Ps:List (List UInt8)} {k:Nat} {b:List UInt8} (h:Ps[k]?=some b):rH Ps k=leB 4 b.length++(b++rH Ps (k+1)):=by
 unfold rH;have hk:=(List.getElem?_eq_some_iff.1 h).1;rw[Bs hk,(List.getElem?_eq_some_iff.1 h).2,Be,eU,At]
theorem qA0:∀(l:List (List UInt8)),(∀b∈l,b.length<=1000000000)->(l.flatMap eU).length<=l.length*1000000004
 | [],_=>by simp
 | b::l,h=>by
  have h1:=qA0 l λx hx=>h x (List.mem_cons_of_mem _ hx);have h2:=h b List.mem_cons_self;rw[Be,Ab,eU,Ab,bM,Bg];omega
theorem EB.set1 {B:Nat} {w:World} {p:Addr} (h:B<=p.block) (v:Value):EB B w (w.setCell p v):=⟨Below.setCell (Below.refl _ _) h v,by simp⟩
structure pC0 (w:World) (v:Value) (b:List UInt8):Prop where
 out:∃a c,v=.slice a b.length c/\b.length<=c/\(a=none->c=0)/\aG w a 1 (b.map aV)
theorem pC0.grows {w w':World} {v:Value} {b:List UInt8} (h:pC0 w v b) (hg:aB w w'):pC0 w' v b:=by
 obtain⟨a,c,h1,h2,h3,h4⟩:=h.out;exact⟨a,c,h1,h2,h3,h4.grows hg⟩
theorem rT0 (P0 P1 P2 P3:List UInt8) (a:Option Addr) (c:Nat) (w:World) (h0:P0.length<=1000000000) (h1:P1.length<=1000000000) (h2:P2.length<=1000000000) (h3:P3.length<=1000000000)
  (hc:(rH [P0,P1,P2,P3] 0).length<=c) (ac:aG w a 1 ((rH [P0,P1,P2,P3] 0).map aV)) :
  Calls Tryz.prog 191 #[.slice a (rH [P0,P1,P2,P3] 0).length c] w λe w'=>∃v0 v1 v2 v3,e=.returned (.tuple #[.agg #[v0,v1,v2,v3],.bool true])/\pC0 w' v0 P0/\pC0 w' v1 P1/\pC0 w' v2 P2/\pC0 w' v3 P3/\aB w w':=by
 have aj:∀(k:Nat) (b:List UInt8),[P0,P1,P2,P3][k]?=some b->b.length<=1000000000:=λk b hb=>by
  match k,hb with
  | 0,hb =>
   obtain rfl:P0=b:=by simpa using hb
   exact h0
  | 1,hb =>
   obtain rfl:P1=b:=by simpa using hb
   exact h1
  | 2,hb =>
   obtain rfl:P2=b:=by simpa using hb
   exact h2
  | 3,hb =>
   obtain rfl:P3=b:=by simpa using hb
   exact h3
  | k+4,hb=>simp at hb
 have ak:rH [P0,P1,P2,P3] 0≠[]:=by
  rw[fK0 (k:=0) rfl];intro e
  have:=congrArg Bu e
  rw[Ab,bM]at this;simp at this
 obtain⟨ba,bo,rfl,_⟩:=at1 (f:=λx:UInt8=>Value.int .u8 x.toNat) ac ak;have START:Hid (pC0 w (.slice (some ⟨ba,bo,none⟩) (rH [P0,P1,P2,P3] 0).length c) (rH [P0,P1,P2,P3] 0)):=⟨_,c,rfl,hc,(λh=>by cases h),ac⟩;have HLEN:=Aa aj;obtain⟨Ps,hPs⟩:=exq ([P0,P1,P2,P3]);rw[<-hPs]at START HLEN hc ⊢;have HPS:=Aa hPs;have HL4:Hid (Ps.length=4):=by show _=_;rw[hPs];rfl
 obtain⟨pb,ei⟩:=exq w.heap.size;obtain⟨W1,bh⟩:=exq (w.alloc (.cells #[.slice none 0 0,.slice none 0 0,.slice none 0 0,.slice none 0 0] 253));have ai:aB w W1:=by rw[bh];exact aB.alloc _ _
 have cm:Hid (∃f,qX W1 pb 4 f):=by
  have h:=fB1 (m:=4) (aB.refl (w.alloc (.cells #[.slice none 0 0,.slice none 0 0,.slice none 0 0,.slice none 0 0] 253))) rfl;rw[<-bh,<-ei]at h;exact⟨_,h⟩
 have HPB:=Aa ei;clear ac aj h0 h1 h2 h3 hPs ak hc;go_enter Tryz.func191,Tryz.ntmps191
 go_wp2_with fail
 rw[<-bh,<-ei];clear bh ei;go_loopw [0,6] (λvb vi wr=>∃k:Nat,k<=4/\vi=.int .i64 k/\Hid (pC0 w vb (rH Ps k))/\Hid (∃f,qX wr pb 4 f/\∀j b,j<k->Ps[j]?=some b->pC0 w (f j) b)/\Hid (aB w wr)) (λ_ vi _=>4-(intOf vi).toNat)
 case atStart=>exact⟨0,by omega,rfl,START.out,by obtain⟨f,hf⟩:=cm.out;exact⟨f,hf,λj b h=>by omega⟩,ai⟩
 case round =>
  clear START cm ai;obtain⟨k,hk,rfl,hS,hR,hG⟩:=hrel;by_cases af:k<4
  ·have cz:(k:Int)<4:=by omega
   obtain⟨b,hb⟩:∃b,Ps[k]?=some b:=⟨_,Ac (by rw[HL4.out];exact af)⟩;have HB:=Aa hb;have gd:=HLEN.out k b hb;have HRS:=Aa (fK0 hb);obtain⟨a,c',rfl,nu,hc2,ac⟩:=hS.out;obtain⟨R,hRe⟩:=exq (rH Ps k);obtain⟨R2,q9⟩:=exq (rH Ps (k+1));obtain⟨n,hn⟩:=exq b.length;rw[<-hRe]at nu ac HRS ⊢;rw[<-q9,<-hn]at HRS;rw[<-hn]at gd;have HR2:=Aa q9;have HN:=Aa hn;obtain⟨RL,hRL⟩:=exq R.length;have aas:RL=4+(n+R2.length):=by rw[hRL,HRS.out,Ab,Ab,bM,hn]
   have ajk:RL<=4000000016:=by
    have h:=qA0 (Ps.drop k) λx hx=>by
     obtain⟨j,hj⟩:=List.mem_iff_getElem?.1 (List.mem_of_mem_drop hx);exact HLEN.out j x hj
    rw[Bf,HL4.out]at h;have h2:RL=((Ps.drop k).flatMap eU).length:=by rw[hRL,hRe];rfl
    omega
   have wRL:IntKind.i64.wrap ((RL:Int)-4)=(RL:Int)-4:=by have:=qT (x:=RL-4) (by omega);rw[Int.natCast_sub (by omega)]at this;exact this
   obtain⟨b0,b1,b2,b3,fk,h0,h1,h2,h3,fy⟩:=oB1 n (by omega);obtain⟨bb,bo',rfl,bk⟩:=at1 (f:=λx:UInt8=>Value.int .u8 x.toNat) (ac.grows hG.out) (Bt (by omega));have tN:∀x:Nat,x<256->((An x).toNat:Int)=x:=λx hx=>by simp;omega
   have hRh:R=[An b0,An b1,An b2,An b3]++(b++R2):=by rw[HRS.out,fk]
   have q0:wr.cell? ⟨bb,bo',none⟩=some (.int .u8 b0):=by have:=bk 0 (An b0) (by rw[hRh];rfl);rw[tN _ h0]at this;exact this
   have q1:wr.cell? ⟨bb,bo'+1,none⟩=some (.int .u8 b1):=by have:=bk 1 (An b1) (by rw[hRh];rfl);rw[tN _ h1]at this;exact this
   have q2:wr.cell? ⟨bb,bo'+2,none⟩=some (.int .u8 b2):=by have:=bk 2 (An b2) (by rw[hRh];rfl);rw[tN _ h2]at this;exact this
   have q3:wr.cell? ⟨bb,bo'+3,none⟩=some (.int .u8 b3):=by have:=bk 3 (An b3) (by rw[hRh];rfl);rw[tN _ h3]at this;exact this
   have z0:∀x:Ext aB wr.drew,x.u.cell? ⟨bb,bo',none⟩=some (.int .u8 b0):=aF ((aB.drew wr).cell q0);have z1:∀x:Ext aB wr.drew,x.u.cell? ⟨bb,bo'+1,none⟩=some (.int .u8 b1):=aF ((aB.drew wr).cell q1);have z2:∀x:Ext aB wr.drew,x.u.cell? ⟨bb,bo'+2,none⟩=some (.int .u8 b2):=aF ((aB.drew wr).cell q2);have z3:∀x:Ext aB wr.drew,x.u.cell? ⟨bb,bo'+3,none⟩=some (.int .u8 b3):=aF ((aB.drew wr).cell q3);have i0:0<RL:=by omega
   have i1:(1:Int)<RL:=by omega
   have i2:(2:Int)<RL:=by omega
   have i3:(3:Int)<RL:=by omega
   have wi:∀x:Nat,x<256->IntKind.i64.wrap (x:Int)=x:=λx hx=>by simp[Ag,Ah,Ae];omega
   have w0:=wi b0 h0;have w1:=wi b1 h1;have w2:=wi b2 h2;have w3:=wi b3 h3;obtain⟨c1,c2,c3,s1,s2,m1,m2,m3,o1,o2,o3⟩:=vY0 h0 h1 h2 h3 fy;have ajl:¬(RL:Int)<4:=by omega
   have yv:¬(RL:Int)-4<n:=by omega
   have HGW:=Aa hG.out;have HRE:=Aa hRe;have HRL:=Aa hRL;have HLR:=Aa aas;have HAT:=Aa ac;rw[<-hRL]at nu ⊢;clear fy bk tN fk hRh q0 q1 q2 q3 wi hb hRe q9 hn hRL aas ac;go_wp2_with fail
   refine bH (bE 23 []) (by kernel_rfl) (λd _ _ _ _ h=>by cases d<;>exact h) ?_
   iterate 23 (refine aH rfl (λK hK=>?_);go_simp;refine hK _ ?_;clear hK K)
   refine bN ?_;clear z0 z1 z2 z3 i0 i1 i2 i3 w0 w1 w2 w3 m1 m2 m3 o1 o2 o3 h0 h1 h2 h3;obtain⟨T,hT⟩:=exq (4+n);have hTR:T<=RL:=by have:=HLR.out;omega
   have hT4:4<=T:=by omega
   have wT:IntKind.i64.wrap (4+(n:Int))=T:=by have:=qT (x:=T) (by omega);rw[<-this];congr 1;omega
   have hTc:(T:Int)<=c':=by omega
   have ajm:(T:Int)<=RL:=by omega
   have h4T:(4:Int)<=T:=by omega
   have hRc:(RL:Int)<=c':=by omega
   have hTn:T-4=n:=by omega
   have hRT:RL-T=R2.length:=by have:=HLR.out;omega
   obtain⟨a1,ij,ha1,jl⟩:=zX (l:=4) (h:=T) HAT.out hc2 hT4 (by rw[<-HRL.out];exact hTR) (by rw[<-HRL.out];exact nu);obtain⟨a2,gq,ha2,nl⟩:=zX (l:=T) (h:=RL) HAT.out hc2 hTR (by rw[HRL.out];exact Ai _) (by rw[<-HRL.out];exact nu);rw[Ao,iE]at ij gq
   have e1:(R.take T).drop 4=b:=by
    rw[HRS.out,List.take_append,bM,Av (by rw[bM];omega),show T-4=b.length by rw[<-HN.out];exact hTn,List.take_left,Da (bM 4 n)]
   have e2:(R.take RL).drop T=R2:=by
    rw[HRL.out,Az,HRS.out,<-At,Da (by rw[Ab,bM,<-HN.out,hT])]
   rw[e1]at ha1;rw[e2]at ha2;have HA1:=Aa ha1;have HA2:=Aa ha2;obtain⟨f,cm,fg⟩:=hR.out;have hck:=cm.cell k af;have uo:=cm.froz k;have HROW:=Aa cm;have HSET:=Aa fg;clear e1 e2 ha1 ha2 hT cm fg;go_wp2_with fail
   refine lK (EB w.heap.size) (bE 12 [10]) (EB.refl w.heap.size) (EB.trans w.heap.size) (by kernel_rfl) (by kernel_rfl) (λd _ _ _ _ h=>by cases d<;>exact h) ?_
   iterate 10 (refine aH rfl (λK hK=>?_);go_simp;refine hK _ ?_;clear hK K)
   have ajn:wr.drew.frozen? ⟨pb,k,none⟩=false:=uo;have ajo:wr.drew.cell? ⟨pb,k,none⟩=some (f k):=(aB.drew wr).cell hck;refine bG rfl rfl (λK hK=>?_);go_simp;refine⟨EB.set1 (show w.heap.size<=pb by have:=HPB.out;omega) _,hK _ _ ?_⟩
   clear hK K;iterate 1 (refine aH rfl (λK hK=>?_);go_simp;refine hK _ ?_;clear hK K)
   refine bN ?_;go_wp2_with fail
   go_roundw
   case rel =>
    refine⟨k+1,af,by go_num,⟨a2,c'-T,by rw[<-HR2.out],by rw[<-HR2.out];omega,nl,by rw[<-HR2.out];exact HA2.out⟩,⟨λj=>if j=k then .slice a1 n (c'-4) else f j,((HROW.out.set af _).grows (aB.drew _)).grows (aB.drew _),λj b' hj hb'=>?_⟩,((hG.out.set (show w.heap.size<=pb by have:=HPB.out;omega) _).dr).dr⟩
    by_cases mj:j=k
    ·subst mj
     obtain rfl:b=b':=by have:=HB.out;rw[hb']at this;exact(Option.some.inj this).symm
     simp only[if_true];exact⟨a1,c'-4,by rw[<-HN.out],by rw[<-HN.out];omega,jl,HA1.out⟩
    ·simp only[if_neg mj]
     exact HSET.out j b' (by omega) hb'
   case measure=>simp[intOf];omega
  ·obtain rfl:k=4:=by omega
   obtain⟨f,cm,fg⟩:=hR.out;have hP:=HPS.out;have s0:=fg 0 P0 (by omega) (by rw[hP];rfl);have s1:=fg 1 P1 (by omega) (by rw[hP];rfl);have s2:=fg 2 P2 (by omega) (by rw[hP];rfl);have s3:=fg 3 P3 (by omega) (by rw[hP];rfl);have c0:=cm.cell 0 (by omega);have c1:=cm.cell 1 (by omega);have c2:=cm.cell 2 (by omega);have c3:=cm.cell 3 (by omega);have f0:=cm.froz 0;have f1:=cm.froz 1;have f2:=cm.froz 2;have f3:=cm.froz 3;obtain⟨a0,d0,e0,x0,y0,t0⟩:=s0.out;obtain⟨a1,d1,e1,x1,y1,t1⟩:=s1.out;obtain⟨a2,d2,e2,x2,y2,t2⟩:=s2.out;obtain⟨a3,d3,e3,x3,y3,t3⟩:=s3.out;rw[e0]at c0;rw[e1]at c1;rw[e2]at c2;rw[e3]at c3;have hr4:rH Ps 4=[]:=by rw[hP];rfl
   have hS4:=hS.out;rw[hr4]at hS4;obtain⟨a,c',rfl,_,_,_⟩:=hS4.out;have H0:Hid (pC0 w (.slice a0 P0.length d0) P0):=⟨a0,d0,rfl,x0,y0,t0⟩;have H1:Hid (pC0 w (.slice a1 P1.length d1) P1):=⟨a1,d1,rfl,x1,y1,t1⟩;have H2:Hid (pC0 w (.slice a2 P2.length d2) P2):=⟨a2,d2,rfl,x2,y2,t2⟩;have H3:Hid (pC0 w (.slice a3 P3.length d3) P3):=⟨a3,d3,rfl,x3,y3,t3⟩;clear hR cm fg hP s0 s1 s2 s3 e0 e1 e2 e3 x0 x1 x2 x3 y0 y1 y2 y3 t0 t1 t2 t3 hr4 hS hS4;have hgs:∀ {u:World} (j:Nat) (v:Value),aB w u->aB w (u.setCell ⟨pb,j,none⟩ v):=λj v h=>h.set (show w.heap.size<=pb by have:=HPB.out;omega) v
   have hgf:=hgs 3 (.slice a3 P3.length d3) (hgs 2 (.slice a2 P2.length d2) (hgs 1 (.slice a1 P1.length d1) (hgs 0 (.slice a0 P0.length d0) hG.out)));have ne:∀i j:Nat,i≠j->(⟨pb,i,none⟩:Addr)≠⟨pb,j,none⟩:=λi j h e=>h (congrArg Addr.off e);obtain⟨W4,o7⟩:=exq ((((wr.setCell ⟨pb,0,none⟩ (.slice a0 P0.length d0)).setCell ⟨pb,1,none⟩ (.slice a1 P1.length d1)).setCell ⟨pb,2,none⟩ (.slice a2 P2.length d2)).setCell ⟨pb,3,none⟩ (.slice a3 P3.length d3))
   have HK:Hid (W4.cell? ⟨pb,0,none⟩=some (.slice a0 P0.length d0)/\W4.cell? ⟨pb,1,none⟩=some (.slice a1 P1.length d1)/\W4.cell? ⟨pb,2,none⟩=some (.slice a2 P2.length d2)/\W4.cell? ⟨pb,3,none⟩=some (.slice a3 P3.length d3)):=by
    have ot:∀ {u:World} {i j:Nat} {v x:Value},i≠j->u.cell? ⟨pb,i,none⟩=some x->(u.setCell ⟨pb,j,none⟩ v).cell? ⟨pb,i,none⟩=some x:=λ{u i j v x} h hc=>(Ba u _ _ _ (λe=>ne i j h (by first|exact e|exact e.symm))).trans hc
    have sm:∀ {u:World} {i:Nat} {v x:Value},u.cell? ⟨pb,i,none⟩=some x->(u.setCell ⟨pb,i,none⟩ v).cell? ⟨pb,i,none⟩=some v:=λ{u i v x} hc=>Bv u _ _ hc;rw[o7];exact⟨ot (by decide) (ot (by decide) (ot (by decide) (sm c0))),ot (by decide) (ot (by decide) (sm (ot (by decide) c1))),ot (by decide) (sm (ot (by decide) (ot (by decide) c2))),sm (ot (by decide) (ot (by decide) (ot (by decide) c3)))⟩
   rw[<-o7]at hgf;go_wp2_with fail
   rw[<-o7];obtain⟨k0,k1,k2,k3⟩:=HK.out;exact bodyPost_ret (v:=.tuple #[.agg #[.slice a0 P0.length d0,.slice a1 P1.length d1,.slice a2 P2.length d2,.slice a3 P3.length d3],.bool true]) (by simp[results,Tryz.results191,go_sem,k0,k1,k2,k3]) rfl ⟨_,_,_,_,rfl,H0.out.grows hgf,H1.out.grows hgf,H2.out.grows hgf,H3.out.grows hgf,hgf⟩
end
section
open Go Go.RowKit
def cK1 (L:List (List UInt8)) (k:Nat):Nat:=(Au (k+1)).countP λq=>decide (offA L (q+1)<=k)
theorem zS0 {L:List (List UInt8)} {p k:Nat} (hp:p<=k) (h1:offA L p<=k) (h2:k<offA L (p+1)):cK1 L k=p:=by
 unfold cK1;rw[qP _ p (k+1) (λq _=>?_)]
 ·omega
 ·rw[Bool.eq_iff_iff]
  simp only[decide_eq_true_eq];constructor
  ·intro h
   apply Al
   intro hc
   have:=kW (L:=L) (show p+1<=q+1 by omega)
   omega
  ·intro h
   have:=kW (L:=L) (show q+1<=p by omega)
   omega
def iA0 (L:List (List UInt8)) (m:Nat):List Nat:=(Au m).map (cK1 L)
def xJ (L:List (List UInt8)) (m:Nat):List Nat:=((nodesA L).take m).map (·.d)
theorem xF0 (L:List (List UInt8)) (m:Nat):iA0 L (m+1)=iA0 L m++[cK1 L m]:=by
 unfold iA0;rw[Cy,Cc];rfl
theorem nE (L:List (List UInt8)) (m:Nat):(iA0 L m).length=m:=by simp[iA0]
theorem gJ1 {L:List (List UInt8)} {m k:Nat} (h:k<m):(iA0 L m)[k]?=some (cK1 L k):=by
 unfold iA0;rw[Ad,Ap h];rfl
theorem iZ0 {L:List (List UInt8)} {m:Nat} {y:dC} (h:(nodesA L)[m]?=some y):xJ L (m+1)=xJ L m++[y.d]:=by
 unfold xJ;rw[Cp,h,Cc];rfl
theorem qX0 {L:List (List UInt8)} {m:Nat} (h:m<=(nodesA L).length):(xJ L m).length=m:=by
 unfold xJ;rw[Af,Ar];omega
theorem gB0 {L:List (List UInt8)} {m k:Nat} {y:dC} (h:k<m) (hy:(nodesA L)[k]?=some y):(xJ L m)[k]?=some y.d:=by
 unfold xJ;rw[Ad,Cn,if_pos h,hy];rfl
theorem OkL.depT_one {L:List (List UInt8)} (h:OkL L):xJ L 1=[0]:=by
 rw[iZ0 h.root0];rfl
theorem gM1 (L:List (List UInt8)):iA0 L 1=[0]:=by
 unfold iA0
 have:cK1 L 0=0:=by
  unfold cK1;have h:=kW (L:=L) (As 1);rw[sY]at h;rw[List.countP_eq_zero];intro q hq;obtain rfl:q=0:=by simpa using hq
  simp;omega
 simp[this]
def lF (L:List (List UInt8)) (i:Nat):List ByteArray:=(Au L.length).map λj=>if (jO L).getD j 0<i then mkB (nth L j) else ⟨#[]⟩
theorem sV (L:List (List UInt8)) (i:Nat):(lF L i).length=L.length:=by simp[lF]
theorem rH0 (L:List (List UInt8)):lF L 0=Bo L.length (⟨#[]⟩:ByteArray):=by
 apply Ax
 intro j;unfold lF;rw[Ad,Bw];by_cases h:j<L.length
 ·rw[Ap h,if_pos h];simp
 ·rw[Ak (by simp;omega),if_neg h];rfl
theorem OkL.strTo_all {L:List (List UInt8)} (h:OkL L) {m:Nat} (hm:(nodesA L).length<=m):lF L m=L.map mkB:=by
 apply Ax
 intro j;unfold lF;rw[Ad,Ad];by_cases hj:j<L.length
 ·rw[Ap hj,iP hj]
  obtain⟨i,x,hx,hh,qt⟩:=h.node hj;have hn:=iY h hj hx hh qt;have hi:=(List.getElem?_eq_some_iff.1 hx).1;simp only[Ao];rw[Am,hn,Bh,if_pos (by omega)]
 ·rw[Ak (by simp;omega),Ak (by omega)];rfl
theorem OkL.strTo_no {L:List (List UInt8)} (h:OkL L) {i:Nat} {x:dC} (hx:(nodesA L)[i]?=some x) (hh:iK L x=false):lF L (i+1)=lF L i:=by
 unfold lF;apply Cj
 intro j hj;rw[Bp]at hj;obtain⟨k,y,hy,hh2,hyj⟩:=h.node hj;rw[Am,iY h hj hy hh2 hyj,Bh]
 have ak:k≠i:=by
  rintro rfl;rw[hx]at hy;obtain rfl:=Option.some.inj hy;rw[hh]at hh2;cases hh2
 by_cases hk:k<i
 ·rw[if_pos (by omega),if_pos hk]
 ·rw[if_neg (by omega),if_neg hk]
theorem OkL.strTo_yes {L:List (List UInt8)} (h:OkL L) {i:Nat} {x:dC} (hx:(nodesA L)[i]?=some x) (hh:iK L x=true):lF L (i+1)=(lF L i).set x.i (mkB (spanS L x)):=by
 have hL:L[x.i]?=some (spanS L x):=(h.here_at hx x.i).2 ⟨hh,rfl⟩;have hxl:=(List.getElem?_eq_some_iff.1 hL).1;apply Ax
 intro j;by_cases hj:j<L.length
 ·obtain⟨k,y,hy,hh2,hyj⟩:=h.node hj
  have hn:=iY h hj hy hh2 hyj;by_cases he:j=x.i
  ·subst he
   rw[Bz (by rw[sV];exact hj)];unfold lF;rw[Ad,Ap hj,Ao]
   have cz:k=i:=by
    have e1:=(h.here_at hy x.i).2 ⟨hh2,hyj.symm⟩;rw[hL]at e1
    have:=(h.good hy).inj h.asc (h.good hx) (Option.some.inj e1).symm
    subst this;exact h.uniq hy hx
   rw[Am,hn,Bh,if_pos (by omega),vY hL]
  ·rw[Cf (Ne.symm he)]
   unfold lF;rw[Ad,Ad,Ap hj,Ao,Ao,Am,hn,Bh]
   have ak:k≠i:=by
    rintro rfl;rw[hx]at hy;obtain rfl:=Option.some.inj hy;exact he hyj.symm
   by_cases hk:k<i
   ·rw[if_pos (by omega),if_pos hk]
   ·rw[if_neg (by omega),if_neg hk]
 ·rw[Ak (by rw[sV];omega),Ak (by rw[Cx,sV];omega)]
theorem OkL.climb {L:List (List UInt8)} (h:OkL L) {X:Nat} {y:dC} (h0:0<X) (hy:(nodesA L)[X]?=some y):∃z c,(nodesA L)[cK1 L X]?=some z/\cK1 L X<X/\(labelsL L (nodesA L))[X-1]?=some c/\spanS L y=spanS L z++[c]/\y.d=z.d+1:=by
 obtain⟨p,z,hz,hpX,o1,o2,hm⟩:=h.parent h0 hy;have hs:=tW h.asc (h.good hz) hm;rw[zS0 (By hpX) o1 o2];refine⟨z,_,hz,hpX,h.lab h0 hy,?_,hT0 L z y hm⟩;rw[hs];simp
theorem xW0 {d:Nat} {c:UInt8} {tl:List UInt8}:(Bo (d+1) (0:UInt8)++tl).set d c=Bo d 0++(c::tl):=by
 rw[List.replicate_succ',At,List.set_append_right _ _ (by simp)];simp
end
end Go.Proofs.YtjhajgffmnkocaaGreatDoor
