/- The texts Bbld R18e ImgL ChapP Wk18P WkH Chap Wk18, one behind the other. -/
import Derived.Test.YthgklnohcmaopaaGreatDoorTq40
import Derived.Test.YthgklnohcmaopaaGreatDoorTq39
import Derived.Test.YthgklnohcmaopaaGreatDoorTq37
import Derived.Test.YthgklnohcmaopaaGreatDoorTq41
import Derived.Test.YthgklnohcmaopaaGreatDoorTq38
import Derived.Test.YthgklnohcmaopaaGreatDoorTq2
import Derived.Test.YthgklnohcmaopaaGreatDoorTq16
import Derived.Test.YthgklnohcmaopaaGreatDoorTq21
open Go.Lib renaming hid → Aa
open List renaming length_map → Ab,getElem?_eq_getElem → Ac,getElem?_map → Ad,range → Ae,mem_of_getElem? → Ai,length_range → Aj
open Nat renaming le_refl → Af,le_trans → Ah,zero_le → Ak
open Int renaming toNat_of_nonneg → Ag
set_option maxHeartbeats 8000000
namespace Go.Proofs.YthgklnohcmaopaaGreatDoor
set_option maxRecDepth 100000
section
open Go Go.RowKit Go.Shelf
attribute [local go_sem] aK aP
def bV (p:List bD) (m:Option Mx) (l:List En) (w:World) (e:Ending) (w':World):Prop :=
 aB w w'/\∃v,e=.returned (.tuple #[v,.int .i64 (lW p m l).1])/\aU w' w.heap.size 5 1 aV v (lW p m l).2
theorem nR0 (p:List bD) (mv:Value) (m:Option Mx) (l:List En) (pa a:Option Addr) (pc c:Nat) (w:World) (he:Env w) (hp:p.length<=4611686018427387904) (hl:l.length<=140737488355328) (hs:∀x∈l,x.r.size<9223372036854775807/\x.s.size<9223372036854775807)
  (jq:aF w pa 2 (p.map bH)) (hm:wD0 w mv m) (ac:aF w a 5 (l.map aZ)) (hc:cS0 p m l≠0) :
  Calls Tryz.prog 15 #[.slice pa p.length pc,mv,.slice a l.length c] w (bV p m l w):=by
 have du:aB w (w.alloc (.cells #[.slice a l.length c] 24)):=aB.alloc _ _;have CC:=Aa (zO p mv m l pa a pc c _ (he.grows du) hp hl hs (jq.grows du) (hm.grows du) (ac.grows du));have bz:(w.alloc (.cells #[.slice a l.length c] 24)).cell? ⟨w.heap.size,0,none⟩=some (.slice a l.length c):=aM w _ _ (0,0) 0 _ rfl;unfold bV lW;rw[if_neg hc];obtain⟨f,hf⟩:=exq (cS0 p m l);rw[<-hf]at CC hc ⊢;clear he hs jq hm ac hf du;go_enter Tryz.func15,Tryz.ntmps15
 go_wp2_with fail
 refine CC.out.mono ?_;rintro e w1 ⟨rfl,aj⟩;go_wp2
 go_ret2;exact⟨aB.trans _ _ _ (aB.alloc _ _) aj,_,rfl,aU.nil _ _ _ _ _⟩
theorem bU1 {k:Nat} (h:k<=1048576):(Lit.int .i64 (k:Int)).wf=true:=by
 simp[Lit.wf,IntKind.min,IntKind.max,IntKind.bits,IntKind.signed];omega
theorem bV.long {p:List bD} {m:Mx} {l:List En} {w w':World} (hc:cS0 p (some m) l=0) (h:¬(gC (bls (qX (sortS l)))=0/\gC (bls (jC (sortS l)))=0)) (hg:aB w w'):bV p (some m) l w (.returned (.tuple #[.slice none 0 0,.int .i64 2])) w':=by
 unfold bV lW;rw[if_pos hc];simp only;rw[if_neg h];exact⟨hg,_,rfl,aU.nil _ _ _ _ _⟩
theorem bV.join {p:List bD} {m:Mx} {l:List En} {w w':World} {e:Ending} (hc:cS0 p (some m) l=0) (h:gC (bls (qX (sortS l)))=0/\gC (bls (jC (sortS l)))=0) (hg:aB w w')
  (hj:(eE (imgP p m (sortS l))=0->∃v,e=.returned (.tuple #[v,.int .i64 0])/\aU w' w.heap.size 5 1 aV v (gD (imgP p m (sortS l))))/\(eE (imgP p m (sortS l))≠0->e=.returned (.tuple #[.slice none 0 0,.int .i64 (eE (imgP p m (sortS l)))]))):bV p (some m) l w e w':=by
 unfold bV lW;rw[if_pos hc];simp only;rw[if_pos h];refine⟨hg,?_⟩;by_cases h0:eE (imgP p m (sortS l))=0
 ·rw[if_pos h0];exact hj.1 h0
 ·rw[if_neg h0];exact⟨_,hj.2 h0,aU.nil _ _ _ _ _⟩
theorem tJ0 (p:List bD) (mb bm:Nat) (m:Mx) (l:List En) (pa a:Option Addr) (pc c:Nat) (w:World) (he:Env w) (hp:p.length<=4611686018427387904) (hs:∀x∈l,tL x) (hz:∀x∈l,x.r.size<=1099511627776/\x.s.size<=1099511627776) (hl:l.length<=20000) (hv:aQ p=true)
  (jq:aF w pa 2 (p.map bH)) (hm:gG w mb bm m) (ac:aF w a 5 (l.map aZ)) (hc:cS0 p (some m) l=0) :
  Calls Tryz.prog 15 #[.slice pa p.length pc,.pointer (some ⟨mb,0,none⟩),.slice a l.length c] w (bV p (some m) l w):=by
 have du:aB w (w.alloc (.cells #[.slice a l.length c] 24)):=aB.alloc _ _;have CC:=Aa (zO p (.pointer (some ⟨mb,0,none⟩)) (some m) l pa a pc c _ (he.grows du) hp (by omega) (λx hx=>by have:=hz x hx;omega) (jq.grows du) (wD0.grows (m:=some m) ⟨mb,bm,rfl,hm⟩ du) (ac.grows du));have bz:(w.alloc (.cells #[.slice a l.length c] 24)).cell? ⟨w.heap.size,0,none⟩=some (.slice a l.length c):=aM w _ _ (0,0) 0 _ rfl;have sg:=Aa (cF0 w #[.slice a l.length c] 24 0);rw[hc]at CC;have HCH:=Aa hc;obtain⟨es,tq⟩:=exq (sortS l);have HSO:=Aa tq;have HE:=Aa he;have HPT:=Aa jq;have HM:=Aa hm;have HAT:=Aa ac;have HZ:=Aa hz;have HS:=Aa hs;have HGA:=Aa du;clear he hs hz jq hm ac hc tq;go_enter Tryz.func15,Tryz.ntmps15
 go_wp2_with fail
 obtain⟨wA,hwA⟩:=exq (w.alloc (.cells #[.slice a l.length c] 24));have adk:w.heap.size<wA.heap.size:=by rw[hwA];simp
 rw[<-hwA]at HGA CC sg bz ⊢;have HSZ:=Aa adk;obtain⟨eb,ck⟩:=exq w.heap.size;have HEB:=Aa ck;have HF:Hid (wA.frozen? ⟨eb,0,none⟩=false):=by rw[ck];exact sg
 rw[<-ck]at bz ⊢;clear hwA sg du adk ck;refine CC.out.mono ?_;rintro e w1 ⟨rfl,aj⟩;have si:=aj.cell bz;have CS:=Aa (rL0 l a c w1 (by omega) HS.out (HAT.out.grows (aB.trans _ _ _ HGA.out aj)));clear CC bz;go_wp2_with fail
 refine CS.out.mono ?_;rintro e w2 ⟨v2,rfl,gn,af⟩;rw[<-HSO.out]at gn;have tq:=HSO.out;have HES:Hid (∀x∈es,x∈l):=λx hx=>by rw[tq]at hx;exact(((gH l).2 x).1 hx).1
 have hel:es.length<=l.length:=by rw[tq];exact dB ((gH l).1.imp λ{a b} km e=>by rw[e,eW]at km;cases km) λy hy=>(((gH l).2 y).1 hy).1
 have hf2:w2.frozen? ⟨eb,0,none⟩=false:=((aB.trans _ _ _ aj af).froz (by rw[HEB.out];exact HSZ.out)).trans HF.out;have sj:=af.cell si;have ei:aB w w2:=aB.trans _ _ _ HGA.out (aB.trans _ _ _ aj af);have t9:eb<w1.heap.size:=by rw[HEB.out];exact Nat.lt_of_lt_of_le HSZ.out aj.size
 have hv3:=nI gn (p:=⟨eb,0,none⟩) t9 v2;obtain⟨sa,sc,rfl,_,_,fw⟩:=hv3.at_ gF;have ev:aB w (w2.setCell ⟨eb,0,none⟩ (.slice sa es.length sc)):=ei.set (by rw[HEB.out];exact Af _) _;have m6:(w2.setCell ⟨eb,0,none⟩ (.slice sa es.length sc)).cell? ⟨eb,0,none⟩=some (.slice sa es.length sc):=World.cell?_setCell_same _ _ _ (by rw[sj];first|done|rfl)
 obtain⟨w3,hw3⟩:=exq (w2.setCell ⟨eb,0,none⟩ (.slice sa es.length sc));clear CS aj af si gn hv3 tq HF;go_wp2_with fail
 rw[<-hw3]at fw ev m6 ⊢;clear hw3 hf2 sj ei t9 HSZ HGA;have HAE:=Aa fw;have HCE:=Aa m6;clear fw m6;have CR:=Aa (kZ0 (λx=>x.r) _ yW0 wQ0 es sa sc w3 (by omega) (HAE.out.grows (aB.refl _)));obtain⟨BR,hBR⟩:=exq (qX es);rw[show rT (es.map λx=>x.r)=BR from hBR.symm]at CR
 have HBR:=Aa hBR;have hlR:BR.length<=20000:=by rw[hBR];have:=uZ (es.map λx=>x.r);rw[Ab]at this;unfold qX;omega
 have HZR:Hid (∀s∈BR,s.size<=1099511627776):=λs hs=>by
  rw[hBR]at hs;obtain⟨x,hx,rfl⟩:=List.mem_map.1 (hX0 hs);exact(HZ.out x (HES.out x hx)).1
 clear hBR;refine CR.out.mono ?_;rintro e w4 ⟨gw,bR,agv,rfl,hbR,hOR⟩;obtain⟨a',c',e',_,_,hAR⟩:=hOR.at_ (k:=1) (λx=>(rfl:(stC x).length=1));have e'':=(Value.slice.inj e').1;subst e'';have CLR:=Aa (zD BR (some ⟨bR,0,none⟩) agv w4 (by omega) HZR.out (λq hq=>by cases hq;exact hbR) hAR);clear CR e' hAR hOR hbR HZR;go_wp2_with fail
 refine CLR.out.mono ?_;rintro e w5 ⟨fu,hTR⟩;clear CLR;have g5:=aB.trans _ _ _ gw fu;clear gw fu;rcases hTR with ⟨hkR,tr,rfl,hTR,_⟩|⟨hkR,rfl⟩
 ·have HTR:=Aa hTR
  have HKR:=Aa hkR;have aad:=g5.cell HCE.out;clear hTR hkR;go_wp2_with fail
  have CS:=Aa (kZ0 (λx=>x.s) _ yT0 wF0 es sa sc w5 (by omega) (HAE.out.grows g5));obtain⟨BS,hBS⟩:=exq (jC es);rw[show rT (es.map λx=>x.s)=BS from hBS.symm]at CS
  have HBS:=Aa hBS;have hlS:BS.length<=20000:=by rw[hBS];have:=uZ (es.map λx=>x.s);rw[Ab]at this;unfold jC;omega
  have HZS:Hid (∀s∈BS,s.size<=1099511627776):=λs hs=>by
   rw[hBS]at hs;obtain⟨x,hx,rfl⟩:=List.mem_map.1 (hX0 hs);exact(HZ.out x (HES.out x hx)).2
  clear hBS;refine CS.out.mono ?_;rintro e w6 ⟨abf,bS,agw,rfl,hbS,hOS⟩;obtain⟨a',c',e',_,_,hAS⟩:=hOS.at_ (k:=1) (λx=>(rfl:(stC x).length=1));have e'':=(Value.slice.inj e').1;subst e'';have CLS:=Aa (zD BS (some ⟨bS,0,none⟩) agw w6 (by omega) HZS.out (λq hq=>by cases hq;exact hbS) hAS);clear CS e' hAS hOS hbS;go_wp2_with fail
  refine CLS.out.mono ?_;rintro e w7 ⟨mr,hTS⟩;clear CLS;have g7:=aB.trans _ _ _ g5 (aB.trans _ _ _ abf mr);have G57:=Aa (aB.trans _ _ _ abf mr);clear abf mr aad;rcases hTS with ⟨hkS,ts,rfl,hTS,_⟩|⟨hkS,rfl⟩
  ·have HTS:=Aa hTS
   have HKS:=Aa hkS;have tu:=@run_makeMap Tryz.prog;have CLn:=λW h=>Aa (lB0 (bls BS) ts W (hTS.grows (w':=W) h));obtain⟨w8,hw8⟩:=exq ((w7.alloc (.map #[] 0)).alloc (.cells #[.map (some w7.heap.size)] 105));have dy:aB w7 w8:=by rw[hw8];exact(aB.alloc _ _).al _
   have n9:=(World.ownsMap_made w7 Tryz.prog 9 (plainElem (H:=Unit) Tryz.prog 3)).alloc (.cells #[.map (some w7.heap.size)] 105);rw[<-hw8]at n9
   have m7:w8.cell? ⟨w7.heap.size+1,0,none⟩=some (.map (some w7.heap.size)):=by
    rw[hw8];have ed:(w7.alloc (.map #[] 0)).heap.size=w7.heap.size+1:=by simp
    have h:=aM (w7.alloc (.map #[] 0)) #[.map (some w7.heap.size)] 105 (0,0) 0 _ rfl;rw[ed]at h;exact h
   obtain⟨adl,adm,hcS⟩:=nD hkS;have gb:(bls BS).length=BS.length:=by unfold bls;rw[Ab]
   have CT:=λk W h hk=>Aa (xU0 (bls BS) ts k W adl adm hcS hk (hTS.grows (w':=W) h))
   have HGT:Hid (∀k,k<BS.length->BS[k]?=some (mkB (nth (bls BS) k))):=λk hk=>by
    rw[HBS.out]at hk ⊢;exact vG0 hk
   have HND:Hid BS.Nodup:=by rw[HBS.out];exact yN _
   rw[gb]at CT CLn;clear hTS hkS adl adm hcS gb;go_wp2_with fail
   rw[<-hw8];have CL8:=CLn w8 dy;clear CLn;obtain⟨mp,hmp⟩:=exq w7.heap.size;obtain⟨ib,zf⟩:=exq (mp+1);rw[<-hmp,<-zf]at m7 ⊢;rw[<-hmp]at n9;have HMP:=Aa hmp;have HIB:=Aa zf;clear hw8 tu hmp zf;refine CL8.out.mono ?_;rintro e w9 ⟨rfl,rfl⟩;clear CL8;go_wp2_with fail
   go_loopw [54] (λi wr=>∃(k:Nat) (D:DataW Unit),k<=BS.length/\i=.int .i64 k/\wr.cell? ⟨ib,0,none⟩=some (.map (some mp))/\wr.ownsMap Tryz.prog 9 (plainElem Tryz.prog 3) mp k D/\Hid (IdM BS k D)/\aB w7 wr) (λi _=>BS.length-(intOf i).toNat)
   case atStart=>exact⟨0,_,Ak _,rfl,m7,n9,wM0 _ _,dy⟩
   case round =>
    clear m7 n9 dy;obtain⟨k,D,hk,rfl,cu,aa,hM,hg⟩:=hrel;by_cases ae:k<BS.length
    ·have CT1:=CT k wr hg ae
     obtain⟨sk,nj⟩:=exq (mkB (nth (bls BS) k));have ou:=HGT.out k ae;rw[<-nj]at CT1 ou;have agx:sk.size<=maxLen:=Ah (HZS.out sk (Ai ou)) (by unfold maxLen;omega);have HBK:=Aa ou;have cy:(k:Int)<BS.length:=by omega
     have hwk:=bU1 (k:=k) (by omega);have hkm:k<maxLen:=by unfold maxLen;omega
     clear CT nj ou;go_wp2_with fail
     refine CT1.out.mono ?_;rintro e w10 ⟨rfl,gh⟩;have aaz:=gh.cell cu;have ag:=bC aa gh;have af:=aB.trans _ _ _ hg gh;clear CT1 cu aa;go_wp2_with (at_mapUpdate;refine wpList_mapUpdate_own _ rfl _ _ _ 105 rfl 9 3 (Maps.string_keyed Tryz.underlying9) Tryz.underlying105 _ mp k D rfl ag hkm _ _ (.string sk.data.toList) rfl rfl (WideMaps.keyOf_string_mk Tryz.underlying9 agx) _ [] (plainElem_int Tryz.underlying3 hwk) ?_;intro w11 aae j8)
     have hM2:=Aa (yS0 hM.out ag HND.out HBK.out);have agy:w11.cell? ⟨ib,0,none⟩=some (.map (some mp)):=aY j8 aaz (by rw[HIB.out];simp);have bg:=af.grown j8 (λq hq=>by cases hq;rw[HMP.out];exact Af _);clear aaz ag hM hg af gh j8;go_roundw
     case rel=>exact⟨k+1,_,ae,by go_num,agy,aae,hM2,bg⟩
     case measure=>simp[intOf];omega
    ·obtain rfl:k=BS.length:=by omega
     have HID:Hid (yE0 wr ib BS):=⟨_,_,_,cu,aa,hM.out⟩;clear CT cu aa hM HND HGT;go_wp2_with fail
     have G20:=Aa (aB.trans _ _ _ g7 hg);have abg:=aB.trans _ _ _ ev (aB.trans _ _ _ g7 hg);have CPE:=Aa (mP0 p pa pc wr hv (HPT.out.grows abg));have G5r:=Aa (aB.trans _ _ _ G57.out hg);have G7r:=Aa hg;clear hg g7 g5;refine CPE.out.mono ?_;rintro e w21 ⟨v1,rfl,jp,sn⟩;clear CPE;have oc:=sn.cell (G20.out.cell HCE.out);have CI:=Aa (tZ pI0 _ aA1 uV0 es sa sc w21 (by omega) (HAE.out.grows (aB.trans _ _ _ G20.out sn)));have HV1:=Aa jp;clear jp;go_wp2_with fail
     refine CI.out.mono ?_;rintro e io ⟨vi,v2,rfl,gn⟩;clear CI;have HV2:=Aa gn;have od:=vi.cell oc;have ml:=λ(Y:World)=>vN0 es.length Y (by omega);have G22:=Aa (aB.trans _ _ _ sn vi);have G2122:=Aa vi;have HS21:Hid (w.heap.size<=w21.heap.size):=Ah abg.size sn.size;clear gn oc sn vi;go_wp2_with fail
     have ax:=bL0 (w:=io) (n:=es.length) (by omega);have hrl:(Ae es.length).length=es.length:=Aj;rw[Nat.mul_one]at ax;have ka:List.replicate es.length 0=jT (Ae es.length) 0 0:=by rw[nM,hrl]
     rw[ka]at ax;clear ka;obtain⟨w23,vj⟩:=exq (io.alloc (.cells (madeCells #[.int .i64 0] es.length) 3));have adn:aB io w23:=by rw[vj];exact aB.alloc _ _
     have su:io.heap.size<w23.heap.size:=by rw[vj];simp
     rw[<-vj]at ax ⊢;obtain⟨ob,uw⟩:=exq io.heap.size;rw[<-uw]at su ⊢;have sv:aU w23 io.heap.size 3 1 gU (.slice (some ⟨ob,0,none⟩) es.length es.length) (jT (Ae es.length) 0 0):=by rw[uw];exact ax
     have HOB:=Aa uw;have ado:io.heap.size<=ob:=by rw[uw];exact Af _
     have HOBE:=Aa ado
     have X22:Aside (yE0 io ib BS/\io.cell? ⟨eb,0,none⟩=some (.slice sa es.length sc)/\aF io sa 5 (es.map aZ)/\oB io tr (bls BR)/\oB io ts (bls BS)/\aU io w.heap.size 5 1 aV v1 (yR0 p)/\aU io w.heap.size 3 1 gU v2 (qP pI0 es es.length)/\gG io mb bm m/\Env io/\aB w io):=by
      have g1:=aB.trans _ _ _ G20.out G22.out;have g0:=aB.trans _ _ _ ev g1;exact⟨HID.out.grows G22.out,od,HAE.out.grows g1,HTR.out.grows (aB.trans _ _ _ G5r.out G22.out),HTS.out.grows (aB.trans _ _ _ G7r.out G22.out),(HV1.out.grows G2122.out).base abg.size,HV2.out.base HS21.out,HM.out.grows g0,HE.out.grows g0,g0⟩
     clear vj ax ml od uw ado;go_loopw [79] (λi wr=>∃(k:Nat),k<=es.length/\i=.int .i64 k/\Hid (aU wr io.heap.size 3 1 gU (.slice (some ⟨ob,0,none⟩) es.length es.length) (jT (Ae es.length) 0 k))/\aB io wr/\ob<wr.heap.size) (λi _=>es.length-(intOf i).toNat)
     case atStart=>exact⟨0,Ak _,rfl,sv,adn,su⟩
     case round =>
      clear sv adn su;obtain⟨k,hk,rfl,aa,hg,xm⟩:=hrel;by_cases ae:k<es.length
      ·have cy:(k:Int)<es.length:=by omega
       obtain⟨z,hz⟩:∃z,(jT (Ae es.length) 0 k)[k]?=some z:=⟨_,Ac (by rw[kM _ _ (by omega)];omega)⟩;have e1:=dN (f:=λn:Nat=>Value.int .i64 n) aa.out hz;obtain⟨f1,_,au⟩:=eF (f:=λn:Nat=>Value.int .i64 n) aa.out (k:=k) (by rw[kM _ _ (by omega)];omega) k;rw[pM (List.getElem?_range ae)]at au;have HO:=Aa au;clear hz aa au;go_wp2_with fail
       go_roundw
       case rel=>exact⟨k+1,ae,by go_num,HO.out,hg.set HOBE.out _,by simpa using xm⟩
       case measure=>simp[intOf];omega
      ·obtain rfl:k=es.length:=by omega
       have ag:aU wr io.heap.size 3 1 gU (.slice (some ⟨ob,0,none⟩) es.length es.length) (Ae es.length):=by
        have h:=aa.out;have e9:=pG (Ae es.length) 0;rw[Aj]at e9;rwa [e9]at h
       have HMS:Hid (∀x∈es,x.s∈BS):=λx hx=>by rw[HBS.out];exact jE0 (List.mem_map_of_mem hx)
       have OA:=Aa (bZ1 (es:=es) (BS:=BS) (ib:=ib) (eb:=eb) (sc:=sc) (ob:=ob) (sa:=sa) (wB:=io) (w0:=wr) (by omega) (by omega) hg HOBE.out X22.out.1 X22.out.2.1 X22.out.2.2.1 ag xm HMS.out (λx hx=>Ah (HZ.out x (HES.out x hx)).2 (by unfold maxLen;omega)));have CSS:=Aa (xW OA.out.1 es.length (Ae es.length).toArray wr (by simp) (λi hi=>by unfold Fd;simp[hi]) OA.out.2);clear aa ag;go_wp2_with fail
       refine CSS.out.mono ?_;rintro e w30 ⟨rfl,dk,xa,hwd,SD⟩;have adp:=kQ0 hg HOBE.out SD;have HL:=Aa (vA0 (_wB:=io) xa hwd HMS.out OA.out.1.row SD);have vk:=adp.cell X22.out.2.1;clear CSS SD xa hwd OA hg xm;obtain⟨O,hO⟩:=exq (mS (xU BS es) es.length BS.length);rw[<-hO]at HL;have HO:=Aa hO;obtain⟨so,hso⟩:=exq (O.map λi=>es.getD i eK);have HSO2:=Aa hso;have adq:so.length=es.length:=by rw[hso,Ab];exact HL.out.2.1
       have HG30:=Aa adp;obtain⟨iu,yo,yq,yu,yv⟩:=cO1;clear hO hso;go_wp2_with (at_make;refine wpList_make_full _ rfl _ _ 24 rfl w30.heap.size 30 iu eK.agg 5 Tryz.underlying24 yo yq yu .i64 .i64 _ _ es.length rfl rfl rfl rfl (by rw[yv];omega) (by unfold maxLen;omega) (Af _) ?_;intro w31 m8 zk)
       have adr:=(aB.refl w30).grown zk (λq hq=>by cases hq);obtain⟨sb,p4⟩:=exq w30.heap.size;rw[<-p4]at m8 ⊢;obtain⟨hS0,_⟩:=fY0.made (so:=so) m8;have ads:w30.heap.size<=sb:=by rw[p4];exact Af _
       have HSBE:=Aa ads;clear m8 zk p4 ads yo yq yu yv vk;go_wp2_with fail
       go_loopw [95] (λi wr=>∃(k:Nat),k<=es.length/\i=.int .i64 k/\fY0 wr sb es.length so k/\aB w30 wr) (λi _=>es.length-(intOf i).toNat)
       case atStart=>exact⟨0,Ak _,rfl,hS0,adr⟩
       case round =>
        clear hS0 adr;obtain⟨k,hk,rfl,hS,hg⟩:=hrel;by_cases ae:k<es.length
        ·obtain⟨o,ho⟩:∃o,O[k]?=some o:=⟨_,Ac (by rw[HL.out.2.1];exact ae)⟩
         have hoe:=HL.out.2.2 o (Ai ho);obtain⟨b1,o1,e1,ix⟩:=at1 (f:=λn:Nat=>Value.int .i64 n) HL.out.1 (aH (List.getElem?_eq_some_iff.1 ho).1);obtain⟨rfl,rfl⟩:ob=b1/\0=o1:=by simpa using e1
         have hoc:=hg.cell (ix k o ho);rw[Nat.zero_add]at hoc;obtain⟨⟨xr,xs,xl,xt,xc⟩,hx⟩:∃x,es[o]?=some x:=⟨_,Ac hoe⟩;have gr:=aB.trans _ _ _ HG30.out hg;have hec:=gr.cell X22.out.2.1;obtain⟨ba,oa,rfl,ci⟩:=(X22.out.2.2.1.grows gr).get (aH hoe);have c0:wr.cell? ⟨ba,oa+o*5,none⟩=some (.string xr):=ci o _ hx 0 _ rfl;have c1:wr.cell? ⟨ba,oa+o*5+1,none⟩=some (.string xs):=ci o _ hx 1 _ rfl;have c2:wr.cell? ⟨ba,oa+o*5+2,none⟩=some (.int .i64 xl):=ci o _ hx 2 _ rfl;have c3:wr.cell? ⟨ba,oa+o*5+3,none⟩=some (.int .i64 xt):=ci o _ hx 3 _ rfl;have c4:wr.cell? ⟨ba,oa+o*5+4,none⟩=some (.int .i64 xc):=ci o _ hx 4 _ rfl
         have nj:so[k]?=some ⟨xr,xs,xl,xt,xc⟩:=by
          rw[HSO2.out,Ad,ho];simp only[Option.map_some];rw[List.getD_eq_getElem?_getD,hx];rfl
         have HST:=Aa (hS.step ae nj);obtain⟨q0,d0⟩:=hS.cell (j:=k*5) (by omega);have S1:=hS.set (j:=k*5) (Af _) (.string xr);obtain⟨q1,d1⟩:=S1.cell (j:=k*5+1) (by omega);have S2:=S1.set (j:=k*5+1) (by omega) (.string xs);obtain⟨q2,d2⟩:=S2.cell (j:=k*5+2) (by omega);have S3:=S2.set (j:=k*5+2) (by omega) (.int .i64 xl);obtain⟨q3,d3⟩:=S3.cell (j:=k*5+3) (by omega);have S4:=S3.set (j:=k*5+3) (by omega) (.int .i64 xt);obtain⟨q4,d4⟩:=S4.cell (j:=k*5+4) (by omega);have f0:=hS.froz (k*5);have f1:=hS.froz (k*5+1);have f2:=hS.froz (k*5+2);have f3:=hS.froz (k*5+3);have f4:=hS.froz (k*5+4);have hoi:(o:Int)<es.length:=by omega
         have cy:(k:Int)<es.length:=by omega
         clear ho ix hx ci nj hS e1 S1 S2 S3 S4;go_wp2_with fail
         go_roundw
         case rel=>exact⟨k+1,ae,by go_num,HST.out,((((hg.set HSBE.out _).set HSBE.out _).set HSBE.out _).set HSBE.out _).set HSBE.out _⟩
         case measure=>simp[intOf];omega
        ·obtain rfl:k=es.length:=by omega
         rw[<-adq]at hS;have hSA:=hS.at_;go_wp2_with fail
         have CI2:=Aa (tZ uC0 _ aN1 xF0 so (some ⟨sb,0,none⟩) es.length wr (by omega) hSA);rw[adq]at CI2;refine CI2.out.mono ?_;rintro e w40 ⟨abh,v4,rfl,vc⟩;obtain⟨a4,c4,rfl,_,_,sw⟩:=vc.at_ (k:=1) (λx=>(rfl:(gU x).length=1));have HAT4:=Aa sw;have F40:=Aa (aB.refl w40);have G40:=Aa (aB.trans _ _ _ HG30.out (aB.trans _ _ _ hg abh));have HO40:=Aa (HL.out.1.grows (aB.trans _ _ _ hg abh));obtain⟨v2a,v2c,rfl,_,_,lr⟩:=X22.out.2.2.2.2.2.2.1.at_ (k:=1) (λx=>(rfl:(gU x).length=1));have HAT2:=Aa lr;obtain⟨a40,c40,rfl,zm,adt⟩:=dU X22.out.2.2.2.2.2.1;have PP40:=Aa (And.intro (zm.grows G40.out) adt);clear zm adt;have ab4:=G40.out.cell X22.out.2.1;clear CI2 abh vc sw lr hg hS hSA;go_wp2_with fail
         refine(lK0 w40 mb bm m (X22.out.2.2.2.2.2.2.2.1.grows G40.out)).mono ?_;rintro e w41 ⟨v41,rfl,adu,vl⟩;obtain⟨a41,c41,rfl,zn,adv⟩:=dU adu;have PP41:=Aa (And.intro zn adv);have G41:=Aa (aB.trans _ _ _ G40.out vl);have E41:=Aa vl;have F41:=Aa (aB.trans _ _ _ F40.out vl);clear adu zn adv vl;go_wp2_with fail
         obtain⟨okR,lR,cR⟩:=nD HKR.out;obtain⟨okS,lS,cS⟩:=nD HKS.out;refine(kF0 (bls BR) tr w41 okR lR cR (X22.out.2.2.2.1.grows G41.out)).mono ?_;rintro e w42 ⟨v42,rfl,adw,vm⟩;obtain⟨a42,c42,rfl,zo,adx⟩:=dU adw;have PP42:=Aa (And.intro zo adx);have G42:=Aa (aB.trans _ _ _ G41.out vm);have E42:=Aa vm;have F42:=Aa (aB.trans _ _ _ F41.out vm);clear adw zo adx vm;go_wp2_with fail
         have xw:=xP pI0 es es.length;have aik:=xP uC0 so es.length;obtain⟨_,_,_,hck⟩:=mJ HCH.out;have acn:=(jK hv).1
         have HNN:Hid (∀x∈es,0<=x.l/\x.l<64/\0<=x.t/\x.t<64/\0<=x.c/\x.c<=30000):=λx hx=>by
          have:=uT (hck x (HES.out x hx));omega
         have HMZ:Hid (∀x∈es,x.s.size<=maxLen):=λx hx=>Ah (HZ.out x (HES.out x hx)).2 (by unfold maxLen;omega);clear hck;refine(lD (qP pI0 es es.length) v2a v2c w42 (by omega) (λn hn=>by have:=qS hn;omega) (HAT2.out.grows G42.out)).mono ?_;rintro e w43 ⟨v43,rfl,ady,vn⟩;obtain⟨a43,c43,rfl,zp,adz⟩:=dU ady;have PP43:=Aa (And.intro zp adz);have G43:=Aa (aB.trans _ _ _ G42.out vn);have E43:=Aa vn;have F43:=Aa (aB.trans _ _ _ F42.out vn);clear ady zp adz vn;go_wp2_with fail
         refine(kF0 (bls BS) ts w43 okS lS cS (X22.out.2.2.2.2.1.grows G43.out)).mono ?_;rintro e w44 ⟨v44,rfl,ad0,vo⟩;obtain⟨a44,c44,rfl,zq,ad1⟩:=dU ad0;have PP44:=Aa (And.intro zq ad1);have G44:=Aa (aB.trans _ _ _ G43.out vo);have E44:=Aa vo;have F44:=Aa (aB.trans _ _ _ F43.out vo);clear ad0 zq ad1 vo;have vp:=G44.out.cell X22.out.2.1;go_wp2_with fail
         refine(nH (lG0 BS) _ #[.pointer (some ⟨ib,0,none⟩)] zK0 es eb sa sc w44 (by omega) (λx hx=>by have:=xA (HMS.out x hx);omega) (X22.out.2.2.1.grows G44.out) vp (λx hx W hW=>vK0 BS ib (lG0 BS x) x W (X22.out.1.grows (aB.trans _ _ _ G44.out hW)) (bB0 (HMS.out x hx)) (HMZ.out x hx))).mono ?_;rintro e w45 ⟨vq,v45,rfl,ad2⟩;obtain⟨a45,c45,rfl,zr,ad3⟩:=dU ad2;have PP45:=Aa (And.intro zr ad3);have G45:=Aa (aB.trans _ _ _ G44.out vq);have E45:=Aa vq;have F45:=Aa (aB.trans _ _ _ F44.out vq);clear ad2 zr ad3 vq;have vr:=G45.out.cell X22.out.2.1;go_wp2_with fail
         refine(nH (λx=>x.l.toNat) _ #[] zW0 es eb sa sc w45 (by omega) (λx hx=>by have:=HNN.out x hx;show x.l.toNat<_;omega) (X22.out.2.2.1.grows G45.out) vr (λx hx W hW=>by rw[show ((x.l.toNat:Nat):Int)=x.l from Ag (HNN.out x hx).1];exact vH0 x W)).mono ?_
         rintro e w46 ⟨vs,v46,rfl,ad4⟩;obtain⟨a46,c46,rfl,zt,ad5⟩:=dU ad4;have PP46:=Aa (And.intro zt ad5);have G46:=Aa (aB.trans _ _ _ G45.out vs);have E46:=Aa vs;have F46:=Aa (aB.trans _ _ _ F45.out vs);clear ad4 zt ad5 vs;have vt:=G46.out.cell X22.out.2.1;go_wp2_with fail
         refine(nH (λx=>x.t.toNat) _ #[] aU1 es eb sa sc w46 (by omega) (λx hx=>by have:=HNN.out x hx;show x.t.toNat<_;omega) (X22.out.2.2.1.grows G46.out) vt (λx hx W hW=>by rw[show ((x.t.toNat:Nat):Int)=x.t from Ag (HNN.out x hx).2.2.1];exact wZ0 x W)).mono ?_
         rintro e w47 ⟨vu,v47,rfl,ad6⟩;obtain⟨a47,c47,rfl,zu,ad7⟩:=dU ad6;have PP47:=Aa (And.intro zu ad7);have G47:=Aa (aB.trans _ _ _ G46.out vu);have E47:=Aa vu;have F47:=Aa (aB.trans _ _ _ F46.out vu);clear ad6 zu ad7 vu;have vv:=G47.out.cell X22.out.2.1;go_wp2_with fail
         refine(nH (λx=>x.c.toNat) _ #[] wB0 es eb sa sc w47 (by omega) (λx hx=>by have:=HNN.out x hx;show x.c.toNat<_;omega) (X22.out.2.2.1.grows G47.out) vv (λx hx W hW=>by rw[show ((x.c.toNat:Nat):Int)=x.c from Ag (HNN.out x hx).2.2.2.2.1];exact sG0 x W)).mono ?_
         rintro e w48 ⟨vw,v48,rfl,ad8⟩;obtain⟨a48,c48,rfl,zv,ad9⟩:=dU ad8;have PP48:=Aa (And.intro zv ad9);have G48:=Aa (aB.trans _ _ _ G47.out vw);have E48:=Aa vw;have F48:=Aa (aB.trans _ _ _ F47.out vw);clear ad8 zv ad9 vw;have CO:=Aa (lD O (some ⟨ob,0,none⟩) es.length w48 (by rw[HL.out.2.1];omega) (λn hn=>by have:=HL.out.2.2 n hn;omega) (HO40.out.grows F48.out));rw[HL.out.2.1]at CO;go_wp2_with fail
         refine(CO.out).mono ?_;rintro e w49 ⟨v49,rfl,aea,vx⟩;obtain⟨a49,c49,rfl,zw,aeb⟩:=dU aea;have PP49:=Aa (And.intro zw aeb);have G49:=Aa (aB.trans _ _ _ G48.out vx);have E49:=Aa vx;have F49:=Aa (aB.trans _ _ _ F48.out vx);clear aea zw aeb vx;go_wp2_with fail
         refine(lD (qP uC0 so es.length) a4 c4 w49 (by omega) (λn hn=>by have:=qS hn;omega) (HAT4.out.grows F49.out)).mono ?_;rintro e vy ⟨v50,rfl,aec,vz⟩;obtain⟨a50,c50,rfl,zy,aed⟩:=dU aec;have PP50:=Aa (And.intro zy aed);have G50:=Aa (aB.trans _ _ _ G49.out vz);have E50:=Aa vz;have F50:=Aa (aB.trans _ _ _ F49.out vz);clear aec zy aed vz;go_wp2_with fail
         obtain⟨P,hP⟩:∃P:List aR,P=[⟨⟨#[112,111,115]⟩,yR0 p,a40,c40⟩,⟨⟨#[109,97,116,114,105,120]⟩,m.enc,a41,c41⟩,⟨⟨#[114,101,97,100,105,110,103,115]⟩,rQ (bls BR),a42,c42⟩,⟨⟨#[102,105,114,115,116]⟩,cG (qP pI0 es es.length),a43,c43⟩,⟨⟨#[115,117,114,102,97,99,101,115]⟩,rQ (bls BS),a44,c44⟩,⟨⟨#[115,117,114,102,97,99,101]⟩,cG (es.map (lG0 BS)),a45,c45⟩,⟨⟨#[108,101,102,116]⟩,cG (es.map λx=>x.l.toNat),a46,c46⟩,⟨⟨#[114,105,103,104,116]⟩,cG (es.map λx=>x.t.toNat),a47,c47⟩,⟨⟨#[99,111,115,116]⟩,cG (es.map λx=>x.c.toNat),a48,c48⟩,⟨⟨#[111,114,100,101,114]⟩,cG O,a49,c49⟩,⟨⟨#[97,116]⟩,cG (qP uC0 so es.length),a50,c50⟩]:=⟨_,rfl⟩;have hPl:P.length=11:=by rw[hP];rfl
         obtain⟨W9,hW9⟩:=exq (vy.alloc (.cells (P.flatMap jZ).toArray 119))
         have hPA:jE vy P:=by
          have T50:=aB.refl vy;have T49:=aB.trans _ _ _ E50.out T50;have T48:=aB.trans _ _ _ E49.out T49;have T47:=aB.trans _ _ _ E48.out T48;have T46:=aB.trans _ _ _ E47.out T47;have T45:=aB.trans _ _ _ E46.out T46;have T44:=aB.trans _ _ _ E45.out T45;have T43:=aB.trans _ _ _ E44.out T44;have T42:=aB.trans _ _ _ E43.out T43;have T41:=aB.trans _ _ _ E42.out T42;have T40:=aB.trans _ _ _ E41.out T41;have ok1:=mJ HCH.out;rw[hP];refine⟨λq hq=>?_,λq hq=>?_,λq hq=>?_,λq hq=>?_⟩<;>simp only[List.mem_cons,List.mem_nil_iff,or_false]at hq
          ·rcases hq with rfl|rfl|rfl|rfl|rfl|rfl|rfl|rfl|rfl|rfl|rfl
           ·exact PP40.out.1.grows T40
           ·exact PP41.out.1.grows T41
           ·exact PP42.out.1.grows T42
           ·exact PP43.out.1.grows T43
           ·exact PP44.out.1.grows T44
           ·exact PP45.out.1.grows T45
           ·exact PP46.out.1.grows T46
           ·exact PP47.out.1.grows T47
           ·exact PP48.out.1.grows T48
           ·exact PP49.out.1.grows T49
           ·exact PP50.out.1.grows T50
          ·rcases hq with rfl|rfl|rfl|rfl|rfl|rfl|rfl|rfl|rfl|rfl|rfl
           ·exact PP40.out.2
           ·exact PP41.out.2
           ·exact PP42.out.2
           ·exact PP43.out.2
           ·exact PP44.out.2
           ·exact PP45.out.2
           ·exact PP46.out.2
           ·exact PP47.out.2
           ·exact PP48.out.2
           ·exact PP49.out.2
           ·exact PP50.out.2
          ·rcases hq with rfl|rfl|rfl|rfl|rfl|rfl|rfl|rfl|rfl|rfl|rfl<;>simp[ByteArray.size]
          ·rcases hq with rfl|rfl|rfl|rfl|rfl|rfl|rfl|rfl|rfl|rfl|rfl
           ·have h:=kH0 hv;show (yR0 p).length<=_;omega
           ·have h:=tU0 HM.out.ok;show m.enc.length<=_;omega
           ·have h:=eN0 okR lR cR;show (rQ _).length<=_;omega
           ·have h:=dM (l:=qP pI0 es es.length) (λn hn=>by have:=qS hn;omega);show (cG _).length<=_;omega
           ·have h:=eN0 okS lS cS;show (rQ _).length<=_;omega
           ·have h:=dM (l:=es.map (lG0 BS)) (λn hn=>by obtain⟨x,hx,rfl⟩:=List.mem_map.1 hn;have:=xA (HMS.out x hx);omega);rw[Ab]at h;show (cG _).length<=_;omega
           ·have h:=dM (l:=es.map λx=>x.l.toNat) (λn hn=>by obtain⟨x,hx,rfl⟩:=List.mem_map.1 hn;have:=HNN.out x hx;show x.l.toNat<_;omega);rw[Ab]at h;show (cG _).length<=_;omega
           ·have h:=dM (l:=es.map λx=>x.t.toNat) (λn hn=>by obtain⟨x,hx,rfl⟩:=List.mem_map.1 hn;have:=HNN.out x hx;show x.t.toNat<_;omega);rw[Ab]at h;show (cG _).length<=_;omega
           ·have h:=dM (l:=es.map λx=>x.c.toNat) (λn hn=>by obtain⟨x,hx,rfl⟩:=List.mem_map.1 hn;have:=HNN.out x hx;show x.c.toNat<_;omega);rw[Ab]at h;show (cG _).length<=_;omega
           ·have h:=dM (l:=O) (λn hn=>by have:=HL.out.2.2 n hn;omega);have:=HL.out.2.1;show (cG _).length<=_;omega
           ·have h:=dM (l:=qP uC0 so es.length) (λn hn=>by have:=qS hn;omega);show (cG _).length<=_;omega
         have hPC:aF W9 (some ⟨vy.heap.size,0,none⟩) 2 (P.map jZ):=by
          rw[hW9];exact iI0 P vy _ (by omega)
         have fy:aB vy W9:=by rw[hW9];exact aB.alloc _ _
         have CJ:=Aa (jJ0 P (some ⟨vy.heap.size,0,none⟩) 11 W9 (X22.out.2.2.2.2.2.2.2.2.1.grows (aB.trans _ _ _ G50.out fy)) (by omega) hPC (hPA.grows fy));rw[hPl]at CJ
         have HPB:Hid (P.map bare=imgP p m es):=by
          show _=_
          rw[hP];unfold imgP wP0 rJ wP0;rw[<-HBR.out,<-HBS.out,<-HO.out,<-HSO2.out];rfl
         have abi:W9=vy.alloc (.cells (P.flatMap jZ).toArray 119):=hW9;rw[hP]at abi;have HW9:=Aa abi;have CJ2:∀W,W=W9->Hid (Calls Tryz.prog 64 #[.slice (some ⟨vy.heap.size,0,none⟩) 11 11] W (bK0 P W9)):=by rintro _ rfl;exact CJ
         have G9:=Aa fy;clear hP hW9 abi hPA hPC CJ fy;refine(CJ2 _ ?_).out.mono ?_
         ·rw[HW9.out];rfl
         rintro e w51 ⟨lx,hj1,hgJ⟩;have GW:=aB.trans _ _ _ X22.out.2.2.2.2.2.2.2.2.2 (aB.trans _ _ _ G50.out (aB.trans _ _ _ G9.out hgJ));by_cases wc:eE P=0
         ·obtain⟨v,rfl,hv'⟩:=lx wc
          clear lx hj1;have aee:=hv'.base (aB.trans _ _ _ X22.out.2.2.2.2.2.2.2.2.2 (aB.trans _ _ _ G50.out G9.out)).size;have HV':=Aa aee;clear hv' aee;go_wp2_with fail
          go_ret2;refine bV.join HCH.out ⟨by rw[<-HSO.out,<-HBR.out];exact HKR.out,by rw[<-HSO.out,<-HBS.out];exact HKS.out⟩ GW ?_;rw[<-HSO.out,<-HPB.out,nF,lC];exact⟨λ_=>⟨v,rfl,HV'.out⟩,λh=>absurd wc h⟩
         ·obtain rfl:=hj1 wc
          clear lx hj1;go_wp2_with fail
          go_ret2;refine bV.join HCH.out ⟨by rw[<-HSO.out,<-HBR.out];exact HKR.out,by rw[<-HSO.out,<-HBS.out];exact HKS.out⟩ GW ?_;rw[<-HSO.out,<-HPB.out,nF,lC];exact⟨λh=>absurd h wc,λ_=>rfl⟩
  ·have HK:=Aa hkS
   have hfi:(gC (bls BS):Int)≠0:=by omega
   obtain⟨f,hf⟩:∃f:Int,f=gC (bls BS):=⟨_,rfl⟩;rw[<-hf]at hfi ⊢;have hfb:(f != 0)=true:=by simpa using hfi
   clear hf hkS hfi;go_wp2
   go_ret2;exact bV.long HCH.out (λh=>HK.out (by rw[HBS.out,HSO.out];exact h.2)) (aB.trans _ _ _ ev g7)
 ·have HK:=Aa hkR
  have hfi:(gC (bls BR):Int)≠0:=by omega
  obtain⟨f,hf⟩:∃f:Int,f=gC (bls BR):=⟨_,rfl⟩;rw[<-hf]at hfi ⊢;have hfb:(f != 0)=true:=by simpa using hfi
  clear hf hkR hfi;go_wp2
  go_ret2;exact bV.long HCH.out (λh=>HK.out (by rw[HBR.out,HSO.out];exact h.1)) (aB.trans _ _ _ ev g5)
theorem mT0 (p:List bD) (mv:Value) (m:Option Mx) (l:List En) (pa a:Option Addr) (pc c:Nat) (w:World) (he:Env w) (hp:p.length<=4611686018427387904) (hl:l.length<=140737488355328) (hs:∀x∈l,tL x) (hz:∀x∈l,x.r.size<=1099511627776/\x.s.size<=1099511627776)
  (jq:aF w pa 2 (p.map bH)) (hm:wD0 w mv m) (ac:aF w a 5 (l.map aZ)) :
  Calls Tryz.prog 15 #[.slice pa p.length pc,mv,.slice a l.length c] w (bV p m l w):=by
 by_cases hc:cS0 p m l=0
 ·cases m with
  | none =>
   unfold cS0 at hc;split at hc<;>cases hc
  | some m =>
   obtain⟨mb,bm,rfl,tu⟩:=hm;exact tJ0 p mb bm m l pa a pc c w he hp hs hz (by have:=mJ hc;omega) (mJ hc).2.2.1 jq tu ac hc
 ·exact nR0 p mv m l pa a pc c w he hp hl (λx hx=>by have:=hz x hx;omega) jq hm ac hc
theorem zV {p:List bD} {m:Option Mx} {l:List En} (h:eB0 p m l=0):cS0 p m l=0/\gC (bls (qX (sortS l)))=0/\gC (bls (jC (sortS l)))=0:=by
 unfold eB0 at h;split at h
 ·rename_i hc
  split at h
  ·rename_i hk;exact⟨hc,hk⟩
  ·cases h
 ·rename_i hc;exact absurd h hc
theorem buildB_bad {p:List bD} {m:Option Mx} {l:List En} (h:eB0 p m l≠0):lW p m l=(eB0 p m l,[]):=by
 unfold lW eB0 at *;by_cases hc:cS0 p m l=0
 ·rw[if_pos hc]at h ⊢
  rw[if_pos hc];by_cases hk:gC (bls (qX (sortS l)))=0/\gC (bls (jC (sortS l)))=0
  ·rw[if_pos hk]at h;exact absurd rfl h
  ·rw[if_neg hk]
   cases m with
   | none=>unfold cS0 at hc;split at hc<;>cases hc
   | some m=>simp only;rw[if_neg hk]
 ·rw[if_neg hc,if_neg hc]
theorem gN0 {p:List bD} {m:Mx} {l:List En} (h:eB0 p (some m) l=0) (h14:eE (imgP p m (sortS l))=0):lW p (some m) l=(0,gD (imgP p m (sortS l))):=by
 obtain⟨h1,h2⟩:=zV h;unfold lW;rw[if_pos h1];simp only;rw[if_pos h2,if_pos h14]
theorem bJ1 {p:List bD} {m:Mx} {l:List En} (hm:m.OK) (hl:l.length<=300) (h:eB0 p (some m) l=0):eE (imgP p m (sortS l))=0:=by
 obtain⟨h1,h2,h3⟩:=zV h;obtain⟨n1,n2,n3,n4⟩:=mJ h1;have hp:=(jK n3).1;have gk:=Ah (xE0 l) hl
 have key:∀f:En->ByteArray,gC (bls (rT ((sortS l).map f)))=0->gB (bls (rT ((sortS l).map f)))<=76801:=λf h=>by
  have h1:=aD0 (nD h).1.len _ (Af _);have h2:=uZ ((sortS l).map f);rw[Ab]at h2;unfold bls at h1 ⊢;rw[Ab]at h1;unfold gB;rw[Ab];omega
 refine qJ0 hm n3 (by omega) h2 h3 (key _ h2) (key _ h3) λx hx=>?_
 have:=uT (n4 x (vF0 hx))
 omega
theorem srcB {x:jS0} (hl:aG0 x=true) (aq:mH0 x):(∀y∈x.e,tL y)/\(∀y∈x.e,y.r.size<=1099511627776/\y.s.size<=1099511627776)/\(∀y∈x.p,y.name.size<=9223372036854775807):=by
 obtain⟨h1,h2,_⟩:=oZ0 hl;exact⟨aq.e,λy hy=>by have:=h2 y hy;omega,λy hy=>by have:=h1 y hy;omega⟩
theorem sN0 (x:jS0) (A:iW0) (w:World) (he:Env w) (aq:mH0 x) (hz:∀y∈x.e,y.r.size<=1099511627776/\y.s.size<=1099511627776) (ac:yI w A x) :
  Calls Tryz.prog 18 #[A.agg x] w (bV x.p (pA0 x) x.e w):=by
 have ka:=hz;have sx:=aq;have HAT0:=ac;obtain⟨pa,pc,sa,sc,ea,ec⟩:=A;obtain⟨xp,xd,xs,xe⟩:=x;obtain⟨W0,et⟩:=exq (w.alloc (.cells #[.slice pa xp.length pc,.int .i64 xd,.slice sa xs.length sc,.slice ea xe.length ec] 26));have ft:aB w W0:=by rw[et];exact aB.alloc _ _
 have eo:=λj u h=>aM w #[.slice pa xp.length pc,.int .i64 xd,.slice sa xs.length sc,.slice ea xe.length ec] 26 (0,0) j u h;rw[<-et]at eo;have q0:=eo 0 _ rfl;have q1:=eo 1 _ rfl;have q2:=eo 2 _ rfl;have q3:=eo 3 _ rfl;have HQ:=Aa (And.intro q0 (And.intro q1 (And.intro q2 q3)));have HSA:=Aa (ac.grows ft);have HG0:=Aa ft;clear eo;have CM:=Aa (mD0 ⟨xp,xd,xs,xe⟩ ⟨pa,pc,sa,sc,ea,ec⟩ W0.drew sx (HSA.out.grows (aB.drew W0)));have CB:=λ(W:World) (mv:Value) (h:aB W0 W) (hm:wD0 W mv (pA0 ⟨xp,xd,xs,xe⟩))=>Aa (mT0 xp mv (pA0 ⟨xp,xd,xs,xe⟩) xe pa ea pc ec W (he.grows (aB.trans _ _ _ HG0.out h)) (by have:=sx.lp;simp only at this;omega) sx.le sx.e ka (HSA.out.p.grows h) hm (HSA.out.e.grows h));obtain⟨SM,hSM⟩:=exq (pA0 ⟨xp,xd,xs,xe⟩);show Calls _ _ #[.agg #[.slice pa xp.length pc,.int .i64 xd,.slice sa xs.length sc,.slice ea xe.length ec]] _ (bV xp (pA0 ⟨xp,xd,xs,xe⟩) xe w)
 rw[<-hSM]at CM CB ⊢;unfold iW0.agg iW0.cells at CM;simp only at CM;have z0:∀x:Ext aB W0.drew,x.u.cell? ⟨w.heap.size,0,none⟩=some (.slice pa xp.length pc):=aG ((aB.drew W0).cell q0);have z1:∀x:Ext aB W0.drew,x.u.cell? ⟨w.heap.size,1,none⟩=some (.int .i64 xd):=aG ((aB.drew W0).cell q1);have z2:∀x:Ext aB W0.drew,x.u.cell? ⟨w.heap.size,2,none⟩=some (.slice sa xs.length sc):=aG ((aB.drew W0).cell q2);have z3:∀x:Ext aB W0.drew,x.u.cell? ⟨w.heap.size,3,none⟩=some (.slice ea xe.length ec):=aG ((aB.drew W0).cell q3);clear hSM q0 q1 q2 q3 ac aq hz he ka sx HAT0 ft;go_enter Tryz.func18,Tryz.ntmps18
 go_wp2_with fail
 rw[<-et];clear et;refine bP (aK0 [0,1,2,4,5,3,6,7,8,9,10] [3,6]) (by kernel_rfl) (λd _ _ _ _ h=>by cases d<;>exact h) ?_
 iterate 5 (refine aO rfl (λK hK=>?_);go_simp;refine hK _ ?_;clear hK K)
 clear z0 z1 z2 z3;refine cH rfl rfl (λK hK=>?_);go_simp;refine(CM.out).mono ?_;rintro e w1 ⟨mv,rfl,hm,aj⟩;refine⟨aj,hK _ _ ?_⟩;clear hK K;have tc:=aB.trans _ _ _ HG0.out (aB.trans _ _ _ (aB.drew W0) aj);refine cH rfl rfl (λK hK=>?_);go_simp;refine((CB w1 mv (aB.trans _ _ _ (aB.drew W0) aj) hm).out).mono ?_;rintro e w2 ⟨af,v,rfl,hv⟩;refine⟨af,hK _ _ ?_⟩;clear hK K;iterate 4 (refine aO rfl (λK hK=>?_);go_simp;refine hK _ ?_;clear hK K)
 refine bU ?_;go_wp2_with fail
 go_ret2;exact⟨aB.trans _ _ _ tc af,_,rfl,hv.base tc.size⟩
end
section
open Go Go.RowKit Go.Shelf
def chapP:List bD:=[⟨⟨#[66,79,83]⟩,0⟩,⟨⟨#[110,111,117,110]⟩,0⟩]
def bO0:List En:=[⟨⟨#[227,129,139]⟩,⟨#[232,154,138]⟩,1,1,30⟩,⟨⟨#[227,129,139]⟩,⟨#[231,167,145]⟩,1,1,20⟩,⟨⟨#[227,129,139,227,129,141]⟩,⟨#[230,159,191]⟩,1,1,40⟩]
def uW:jS0:=⟨chapP,10,[],bO0⟩
end
section
open Go Go.RowKit
def chapM:Mx:=newM 2 10
def chapX:List En:=sortS bO0
theorem xD0:pA0 uW=some chapM:=by
 unfold pA0 uW;rw[if_pos (by decide +kernel)];rfl
theorem fC0:eB0 chapP (some chapM) bO0=0:=by decide +kernel
theorem lS0:qP pI0 chapX chapX.length=[0,2]:=by decide +kernel
theorem eP0:chapX.map (lG0 (jC chapX))=[1,2,0]:=by decide +kernel
theorem sT0:(chapX.map λx=>x.c.toNat)=[20,30,40]:=by decide +kernel
theorem lR0:wP0 chapX=[2,0,1]:=by decide +kernel
theorem aX1:qP uC0 (rJ chapX) chapX.length=[0,1,2]:=by decide +kernel
theorem zC0:chapM.OK:=hU0 (n:=2) (d:=10) (by decide)
theorem pL0:eE (imgP chapP chapM chapX)=0:=bJ1 zC0 (by decide) fC0
theorem nW0:lW chapP (some chapM) bO0=(0,gD (imgP chapP chapM chapX)):=gN0 fC0 pL0
end
section
open Go Go.RowKit Go.Shelf
attribute [local go_sem] aK aP
theorem tM0:∀y∈bO0,tL y:=λy hy=>by
 rcases List.mem_cons.1 hy with rfl|hy
 ·exact⟨by decide,by decide,by decide,by decide,by decide⟩
 ·rcases List.mem_cons.1 hy with rfl|hy
  ·exact⟨by decide,by decide,by decide,by decide,by decide⟩
  ·rcases List.mem_cons.1 hy with rfl|hy
   ·exact⟨by decide,by decide,by decide,by decide,by decide⟩
   ·cases hy
theorem lO0:mH0 uW where
 p:=by decide
 s:=λy hy=>by cases hy
 e:=tM0
 d:=(show (Lit.int .i64 10).wf=true by kernel_rfl)
 lp:=by decide
 ls:=by decide
 le:=by decide
theorem gV0 (p:List bD) (m:Mx) (es:List En):(imgP p m es).map (·.name)=[⟨#[112,111,115]⟩,⟨#[109,97,116,114,105,120]⟩,⟨#[114,101,97,100,105,110,103,115]⟩,⟨#[102,105,114,115,116]⟩,⟨#[115,117,114,102,97,99,101,115]⟩,⟨#[115,117,114,102,97,99,101]⟩,⟨#[108,101,102,116]⟩,⟨#[114,105,103,104,116]⟩,⟨#[99,111,115,116]⟩,⟨#[111,114,100,101,114]⟩,⟨#[97,116]⟩]:=rfl
theorem cQ1 {p:List bD} {m:Mx} {es:List En} {j k:Nat} {a b:aR} (ha:(imgP p m es)[j]?=some a) (hb:(imgP p m es)[k]?=some b) (h:j<k):a.name≠b.name:=λe=>by
 have hn:((imgP p m es).map (·.name)).Nodup:=by rw[gV0];decide +kernel
 have h1:((imgP p m es).map (·.name))[j]?=some a.name:=by rw[Ad,ha];rfl
 have h2:((imgP p m es).map (·.name))[k]?=some a.name:=by rw[Ad,hb,e];rfl
 have:=vC0 hn h1 h2
 omega
theorem iY0 {P Q:List aR} (h:Q.map bare=P.map bare) {k:Nat} {p:aR} (hp:P[k]?=some p):∃q,Q[k]?=some q/\q.name=p.name/\q.data=p.data:=by
 have h1:(Q.map bare)[k]?=some (bare p):=by rw[h,Ad,hp];rfl
 rw[Ad]at h1
 cases hq:Q[k]? with
 | none=>rw[hq]at h1;cases h1
 | some q =>
  rw[hq]at h1;have e:bare q=bare p:=Option.some.inj h1;have e1:(bare q).name=(bare p).name:=by rw[e]
  have e2:(bare q).data=(bare p).data:=by rw[e]
  exact⟨q,rfl,e1,e2⟩
theorem gM0 (w:World):Calls Tryz.prog 14 #[] w λe w'=>∃A:iW0,e=.returned (A.agg uW)/\yI w' A uW/\aB w w':=by
 obtain⟨W0,et⟩:=exq (w.alloc (.cells #[.slice (some ⟨w.heap.size+1,0,none⟩) 2 2,.int .i64 10,.slice none 0 0,.slice (some ⟨w.heap.size+1+1,0,none⟩) 3 3] 26));obtain⟨W1,cq⟩:=exq (W0.alloc (.cells (chapP.flatMap bH).toArray 73));obtain⟨W2,i7⟩:=exq (W1.alloc (.cells (bO0.flatMap aZ).toArray 30));have ft:aB w W0:=by rw[et];exact aB.alloc _ _
 have aj:aB W0 W1:=by rw[cq];exact aB.alloc _ _
 have af:aB W1 W2:=by rw[i7];exact aB.alloc _ _
 have kv:W0.heap.size=w.heap.size+1:=by rw[et];simp
 have ed:W1.heap.size=w.heap.size+1+1:=by rw[cq];simp[kv]
 have hp:aF W2 (some ⟨w.heap.size+1,0,none⟩) 2 (chapP.map bH):=by
  have h:=nS (enc:=bH) (k:=2) (w:=W0) (t:=73) (fz:=(0,0)) (cs:=(chapP.flatMap bH).toArray) (λ_=>rfl) chapP rfl;rw[kv,<-cq]at h;exact h.grows af
 have he:aF W2 (some ⟨w.heap.size+1+1,0,none⟩) 5 (bO0.map aZ):=by
  have h:=nS (enc:=aZ) (k:=5) (w:=W1) (t:=30) (fz:=(0,0)) (cs:=(bO0.flatMap aZ).toArray) (λ_=>rfl) bO0 rfl;rw[ed,<-i7]at h;exact h
 have HSRC:Hid (yI W2 ⟨some ⟨w.heap.size+1,0,none⟩,2,none,0,some ⟨w.heap.size+1+1,0,none⟩,3⟩ uW/\aB w W2):=⟨⟨hp,aF.nil _ _ _,he⟩,aB.trans _ _ _ ft (aB.trans _ _ _ aj af)⟩;obtain⟨bc,_⟩:=cX (w:=w) (cs:=#[.slice (some ⟨w.heap.size+1,0,none⟩) 2 2,.int .i64 10,.slice none 0 0,.slice (some ⟨w.heap.size+1+1,0,none⟩) 3 3]) (t:=26) (w':=W2) (by rw[<-et];exact aB.trans _ _ _ aj af);have b0:=bc 0 _ rfl;have b1:=bc 1 _ rfl;have b2:=bc 2 _ rfl;have b3:=bc 3 _ rfl
 have hE:W2=((w.alloc (.cells #[.slice (some ⟨w.heap.size+1,0,none⟩) 2 2,.int .i64 10,.slice none 0 0,.slice (some ⟨w.heap.size+1+1,0,none⟩) 3 3] 26)).alloc (.cells #[.string ⟨#[66,79,83]⟩,.int .i64 0,.string ⟨#[110,111,117,110]⟩,.int .i64 0] 73)).alloc (.cells #[.string ⟨#[227,129,139]⟩,.string ⟨#[232,154,138]⟩,.int .i64 1,.int .i64 1,.int .i64 30,.string ⟨#[227,129,139]⟩,.string ⟨#[231,167,145]⟩,.int .i64 1,.int .i64 1,.int .i64 20,.string ⟨#[227,129,139,227,129,141]⟩,.string ⟨#[230,159,191]⟩,.int .i64 1,.int .i64 1,.int .i64 40] 30):=by
  rw[i7,cq,et];rfl
 have HE:=Aa hE;clear et cq i7 ft aj af kv ed hp he bc hE;go_enter Tryz.func14,Tryz.ntmps14
 go_wp2_with fail
 rw[<-HE.out];refine bodyPost_ret (v:=.agg #[.slice (some ⟨w.heap.size+1,0,none⟩) 2 2,.int .i64 10,.slice none 0 0,.slice (some ⟨w.heap.size+1+1,0,none⟩) 3 3]) (by simp[results,Tryz.results14,go_sem,b0,b1,b2,b3]) rfl ⟨_,rfl,HSRC.out.1,HSRC.out.2⟩
theorem works18_any (w:World) (he:Env w):Calls Tryz.prog 21 #[] w λe w'=>e=.returned (.bool true)/\aB w w':=by
 have HE:=Aa he;have aq:=lO0;have CI:=λ(A:iW0) (W:World) (hW:aB w W) (ac:yI W A uW)=>Aa (sN0 uW A W (HE.out.grows hW) aq (by decide) ac);have key:lW uW.p (pA0 uW) uW.e=(0,gD (imgP chapP chapM chapX)):=by rw[xD0];exact nW0
 unfold bV at CI;rw[key]at CI;have h14:=pL0;have HNE:=Aa (λ(j k:Nat) (a b:aR)=>cQ1 (p:=chapP) (m:=chapM) (es:=chapX) (j:=j) (k:=k) (a:=a) (b:=b));have HP3:Hid (∃p,(imgP chapP chapM chapX)[3]?=some p/\p.name=⟨#[102,105,114,115,116]⟩/\p.data=cG [0,2]):=⟨_,rfl,rfl,by show cG (qP pI0 chapX chapX.length)=_;rw[lS0]⟩
 have HP5:Hid (∃p,(imgP chapP chapM chapX)[5]?=some p/\p.name=⟨#[115,117,114,102,97,99,101]⟩/\p.data=cG [1,2,0]):=⟨_,rfl,rfl,by show cG (chapX.map (lG0 (jC chapX)))=_;rw[eP0]⟩
 have HP8:Hid (∃p,(imgP chapP chapM chapX)[8]?=some p/\p.name=⟨#[99,111,115,116]⟩/\p.data=cG [20,30,40]):=⟨_,rfl,rfl,by show cG (chapX.map λx=>x.c.toNat)=_;rw[sT0]⟩
 have HP9:Hid (∃p,(imgP chapP chapM chapX)[9]?=some p/\p.name=⟨#[111,114,100,101,114]⟩/\p.data=cG [2,0,1]):=⟨_,rfl,rfl,by show cG (wP0 chapX)=_;rw[lR0]⟩
 have HP10:Hid (∃p,(imgP chapP chapM chapX)[10]?=some p/\p.name=⟨#[97,116]⟩/\p.data=cG [0,1,2]):=⟨_,rfl,rfl,by show cG (qP uC0 (rJ chapX) chapX.length)=_;rw[aX1]⟩
 have hPl:(imgP chapP chapM chapX).length=11:=rfl;have h9:gD (imgP chapP chapM chapX)=gD (imgP chapP chapM chapX):=rfl;generalize imgP chapP chapM chapX=P at *;obtain⟨FL,hFL⟩:=exq ((gD P).length);have CS:=λ(ba:Option Addr) (bc:Nat) (W:World) (hW:aB w W) h1 h2 h3 h4=>Aa (iJ0 P ba bc W (HE.out.grows hW) h14 h1 h2 h3 h4);have HPL:=Aa hPl;clear aq key hPl h9 he h14;go_enter Tryz.func21,Tryz.ntmps21
 go_wp2_with fail
 refine(gM0 w).mono ?_;rintro e w1 ⟨A,rfl,gd,aj⟩;go_wp2_with fail
 refine(CI A w1 aj gd).out.mono ?_;rintro e w2 ⟨af,v2,rfl,gn⟩;try simp only at gn
 have dh:=aB.trans _ _ _ aj af;obtain⟨a2,c2,rfl,h2c,h2m,lr⟩:=gn.at_ bF.len;have ie:=bJ gn;have CS2:=CS a2 c2 w2 dh h2c h2m ie lr;rw[<-hFL]at CS2 ⊢;clear CI CS gd aj af gn lr ie h2c hFL;go_wp2_with fail
 refine CS2.out.mono ?_;rintro e w3 ⟨bg,Q,qa,qc,rfl,nz,j4,hqp⟩;have i9:=aB.trans _ _ _ dh bg
 have tj:Q.length=11:=by
  have:=congrArg List.length nz
  rw[Ab,Ab,HPL.out]at this;exact this
 have CN:∀(k:Nat) (nm:ByteArray) (l:List Nat) (W:World),aB w3 W->(∃p,P[k]?=some p/\p.name=nm/\p.data=cG l)->l.length<=100000->(∀n∈l,n<9223372036854775808) ->
   Hid (Calls Tryz.prog 82 #[.slice qa 11 qc,.string nm] W λe w'=>∃v,e=.returned v/\aU w' W.heap.size 3 1 gU v l/\aB W w'):=λk nm l W hW ⟨p,hp,qm,hd⟩ hl hn=>by
  obtain⟨q,hq,e1,e2⟩:=iY0 nz hp
  have h:=eK0 Q k q l qa qc W (by omega) (j4.grows hW) (hqp.grows hW) hq (λj p' hj hp'=>by
   have h1:∃p2,P[j]?=some p2:=⟨_,Ac (by have:=(List.getElem?_eq_some_iff.1 hp).1;omega)⟩;obtain⟨p2,ct⟩:=h1;obtain⟨q2,tg,e3,_⟩:=iY0 nz ct;rw[hp']at tg;rw[Option.some.inj tg,e3,e1];exact HNE.out j k p2 p ct hp hj) (by rw[e2,hd]) hl hn
  rw[tj,e1,qm]at h;exact h
 rw[tj];have HCN:=Aa CN;clear CS2 bg nz j4 hqp tj CN HNE HPL;go_wp2_with fail
 refine(HCN.out 3 ⟨#[102,105,114,115,116]⟩ [0,2] w3 (aB.refl w3) HP3.out (by decide) (by decide)).out.mono ?_;rintro e w4 ⟨v4,rfl,vc,di⟩;obtain⟨a4,c4,oe,_,_,sw⟩:=vc.at_ (k:=1) (λx=>(rfl:(gU x).length=1));rw[show ([0,2]:List Nat).length=2 from rfl]at oe
 subst oe;have px:=nS (enc:=gU) (k:=1) (w:=w4) (t:=3) (fz:=(0,0)) (cs:=#[.int .i64 0,.int .i64 2]) (λ_=>rfl) [0,2] rfl;have CA4:=Aa (vY [0,2] a4 (some ⟨w4.heap.size,0,none⟩) c4 2 _ (by decide) (sw.grows (aB.alloc _ _)) px);have aef:=aB.trans _ _ _ (aB.refl w3) (aB.trans _ _ _ di (aB.alloc w4 (.cells #[.int .i64 0,.int .i64 2] 3)));clear vc sw px di;go_wp2_with fail
 refine CA4.out.mono ?_;rintro e w5 ⟨rfl,bk⟩;have aeg:=aB.trans _ _ _ aef bk;clear CA4 aef bk;go_wp2_with fail
 refine(HCN.out 5 ⟨#[115,117,114,102,97,99,101]⟩ [1,2,0] w5 (aeg) HP5.out (by decide) (by decide)).out.mono ?_;rintro e w6 ⟨v6,rfl,hv6,dd⟩;obtain⟨a6,c6,oe,_,_,aeh⟩:=hv6.at_ (k:=1) (λx=>(rfl:(gU x).length=1));rw[show ([1,2,0]:List Nat).length=3 from rfl]at oe
 subst oe;have xo:=nS (enc:=gU) (k:=1) (w:=w6) (t:=3) (fz:=(0,0)) (cs:=#[.int .i64 1,.int .i64 2,.int .i64 0]) (λ_=>rfl) [1,2,0] rfl;have CA6:=Aa (vY [1,2,0] a6 (some ⟨w6.heap.size,0,none⟩) c6 3 _ (by decide) (aeh.grows (aB.alloc _ _)) xo);have aei:=aB.trans _ _ _ (aeg) (aB.trans _ _ _ dd (aB.alloc w6 (.cells #[.int .i64 1,.int .i64 2,.int .i64 0] 3)));clear hv6 aeh xo dd;go_wp2_with fail
 refine CA6.out.mono ?_;rintro e w7 ⟨rfl,dx⟩;have aej:=aB.trans _ _ _ aei dx;clear CA6 aei dx;go_wp2_with fail
 refine(HCN.out 8 ⟨#[99,111,115,116]⟩ [20,30,40] w7 (aej) HP8.out (by decide) (by decide)).out.mono ?_;rintro e w8 ⟨v8,rfl,hv8,dy⟩;obtain⟨a8,c8,oe,_,_,m0⟩:=hv8.at_ (k:=1) (λx=>(rfl:(gU x).length=1));rw[show ([20,30,40]:List Nat).length=3 from rfl]at oe
 subst oe;have hb8:=nS (enc:=gU) (k:=1) (w:=w8) (t:=3) (fz:=(0,0)) (cs:=#[.int .i64 20,.int .i64 30,.int .i64 40]) (λ_=>rfl) [20,30,40] rfl;have CA8:=Aa (vY [20,30,40] a8 (some ⟨w8.heap.size,0,none⟩) c8 3 _ (by decide) (m0.grows (aB.alloc _ _)) hb8);have aek:=aB.trans _ _ _ (aej) (aB.trans _ _ _ dy (aB.alloc w8 (.cells #[.int .i64 20,.int .i64 30,.int .i64 40] 3)));clear hv8 m0 hb8 dy;go_wp2_with fail
 refine CA8.out.mono ?_;rintro e w9 ⟨rfl,fy⟩;have ael:=aB.trans _ _ _ aek fy;clear CA8 aek fy;go_wp2_with fail
 refine(HCN.out 9 ⟨#[111,114,100,101,114]⟩ [2,0,1] w9 (ael) HP9.out (by decide) (by decide)).out.mono ?_;rintro e w10 ⟨v10,rfl,aem,gh⟩;obtain⟨a10,c10,oe,_,_,zz⟩:=aem.at_ (k:=1) (λx=>(rfl:(gU x).length=1));rw[show ([2,0,1]:List Nat).length=3 from rfl]at oe
 subst oe;have aen:=nS (enc:=gU) (k:=1) (w:=w10) (t:=3) (fz:=(0,0)) (cs:=#[.int .i64 2,.int .i64 0,.int .i64 1]) (λ_=>rfl) [2,0,1] rfl;have CA10:=Aa (vY [2,0,1] a10 (some ⟨w10.heap.size,0,none⟩) c10 3 _ (by decide) (zz.grows (aB.alloc _ _)) aen);have z8:=aB.trans _ _ _ (ael) (aB.trans _ _ _ gh (aB.alloc w10 (.cells #[.int .i64 2,.int .i64 0,.int .i64 1] 3)));clear aem zz aen gh;go_wp2_with fail
 refine CA10.out.mono ?_;rintro e w11 ⟨rfl,va⟩;have z9:=aB.trans _ _ _ z8 va;clear CA10 z8 va;go_wp2_with fail
 refine(HCN.out 10 ⟨#[97,116]⟩ [0,1,2] w11 (z9) HP10.out (by decide) (by decide)).out.mono ?_;rintro e w12 ⟨v12,rfl,aeo,dn⟩;obtain⟨a12,c12,oe,_,_,aaa⟩:=aeo.at_ (k:=1) (λx=>(rfl:(gU x).length=1));rw[show ([0,1,2]:List Nat).length=3 from rfl]at oe
 subst oe;have aep:=nS (enc:=gU) (k:=1) (w:=w12) (t:=3) (fz:=(0,0)) (cs:=#[.int .i64 0,.int .i64 1,.int .i64 2]) (λ_=>rfl) [0,1,2] rfl;have CA12:=Aa (vY [0,1,2] a12 (some ⟨w12.heap.size,0,none⟩) c12 3 _ (by decide) (aaa.grows (aB.alloc _ _)) aep);have aab:=aB.trans _ _ _ (z9) (aB.trans _ _ _ dn (aB.alloc w12 (.cells #[.int .i64 0,.int .i64 1,.int .i64 2] 3)));clear aeo aaa aep dn;go_wp2_with fail
 refine CA12.out.mono ?_;rintro e w13 ⟨rfl,lc⟩;have ab3:=aB.trans _ _ _ aab lc;clear CA12 aab lc;go_wp2
 go_ret;exact⟨rfl,aB.trans _ _ _ i9 ab3⟩
end
end Go.Proofs.YthgklnohcmaopaaGreatDoor
