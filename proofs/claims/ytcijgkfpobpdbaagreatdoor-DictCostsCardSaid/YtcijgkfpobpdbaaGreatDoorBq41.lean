/- The texts Bbld R18e Dct ImgL DicS DicA DicO ChapP Wk18P WkH, one behind the other. -/
import Derived.Test.YtcijgkfpobpdbaaGreatDoorBq38
import Derived.Test.YtcijgkfpobpdbaaGreatDoorBq39
import Derived.Test.YtcijgkfpobpdbaaGreatDoorBq36
import Derived.Test.YtcijgkfpobpdbaaGreatDoorBq40
import Derived.Test.YtcijgkfpobpdbaaGreatDoorBq37
import Derived.Test.YtcijgkfpobpdbaaGreatDoorBq8
import Derived.Test.YtcijgkfpobpdbaaGreatDoorBq18
import Derived.Test.YtcijgkfpobpdbaaGreatDoorBq24
import Derived.Test.YtcijgkfpobpdbaaGreatDoorBq23
open Go.Lib renaming hid → Aa
open List renaming length_map → Ab,mem_of_getElem? → Ac,getElem?_map → Ad,range → Ae,getElem?_eq_getElem → Af,getElem?_range → Aj,length_append → Ak,length_range → Al,range' → An
open Nat renaming le_refl → Ag,le_trans → Ai,zero_le → Am
open Int renaming toNat_of_nonneg → Ah
set_option maxHeartbeats 4000000
namespace Go.Proofs.YtcijgkfpobpdbaaGreatDoor
set_option maxRecDepth 100000
section
open Go Go.RowKit Go.Shelf
attribute [local go_sem] aQ aM
def cZ (p:List cJ) (m:Option Mx) (l:List En) (w:World) (e:Ending) (w':World):Prop :=
 Grows w w'/\∃v,e=.returned (.tuple #[v,.int .i64 (pQ p m l).1])/\aU w' w.heap.size 5 1 aX v (pQ p m l).2
theorem sO0 (p:List cJ) (mv:Value) (m:Option Mx) (l:List En) (pa a:Option Addr) (pc c:Nat) (w:World) (he:Env w) (hp:p.length<=4611686018427387904) (hl:l.length<=140737488355328) (hs:∀x∈l,x.r.size<9223372036854775807/\x.s.size<9223372036854775807)
  (l7:aF w pa 2 (p.map bE)) (hm:dT1 w mv m) (ac:aF w a 5 (l.map aJ)) (hc:mC p m l≠0) :
  Calls Tryz.prog 27 #[.slice pa p.length pc,mv,.slice a l.length c] w (cZ p m l w):=by
 have fh:Grows w (w.alloc (.cells #[.slice a l.length c] 24)):=Grows.alloc _ _;have CC:=Aa (dS0 p mv m l pa a pc c _ (he.grows fh) hp hl hs (l7.grows fh) (hm.grows fh) (ac.grows fh));have bk:(w.alloc (.cells #[.slice a l.length c] 24)).cell? ⟨w.heap.size,0,none⟩=some (.slice a l.length c):=aT w _ _ (0,0) 0 _ rfl;unfold cZ pQ;rw[if_neg hc];obtain⟨f,hf⟩:=exq (mC p m l);rw[<-hf]at CC hc ⊢;clear he hs l7 hm ac hf fh;go_enter Tryz.func27,Tryz.ntmps27
 go_wp2_with fail
 refine CC.out.mono ?_;rintro e w1 ⟨rfl,ah⟩;go_wp2
 go_ret2;exact⟨Grows.trans _ _ _ (Grows.alloc _ _) ah,_,rfl,aU.nil _ _ _ _ _⟩
theorem lR1 {k:Nat} (h:k<=1048576):(Lit.int .i64 (k:Int)).wf=true:=by
 simp[Lit.wf,IntKind.min,IntKind.max,IntKind.bits,IntKind.signed];omega
theorem cZ.long {p:List cJ} {m:Mx} {l:List En} {w w':World} (hc:mC p (some m) l=0) (h:¬(cY (bls (readL (sortS l)))=0/\cY (bls (surfL (sortS l)))=0)) (hg:Grows w w'):cZ p (some m) l w (.returned (.tuple #[.slice none 0 0,.int .i64 2])) w':=by
 unfold cZ pQ;rw[if_pos hc];simp only;rw[if_neg h];exact⟨hg,_,rfl,aU.nil _ _ _ _ _⟩
theorem cZ.join {p:List cJ} {m:Mx} {l:List En} {w w':World} {e:Ending} (hc:mC p (some m) l=0) (h:cY (bls (readL (sortS l)))=0/\cY (bls (surfL (sortS l)))=0) (hg:Grows w w')
  (hj:(fO (imgP p m (sortS l))=0->∃v,e=.returned (.tuple #[v,.int .i64 0])/\aU w' w.heap.size 5 1 aX v (file14 (imgP p m (sortS l))))/\(fO (imgP p m (sortS l))≠0->e=.returned (.tuple #[.slice none 0 0,.int .i64 (fO (imgP p m (sortS l)))]))):cZ p (some m) l w e w':=by
 unfold cZ pQ;rw[if_pos hc];simp only;rw[if_pos h];refine⟨hg,?_⟩;by_cases h0:fO (imgP p m (sortS l))=0
 ·rw[if_pos h0];exact hj.1 h0
 ·rw[if_neg h0];exact⟨_,hj.2 h0,aU.nil _ _ _ _ _⟩
theorem kW0 (p:List cJ) (mb bm:Nat) (m:Mx) (l:List En) (pa a:Option Addr) (pc c:Nat) (w:World) (he:Env w) (hp:p.length<=4611686018427387904) (hs:∀x∈l,uO x) (hz:∀x∈l,x.r.size<=1099511627776/\x.s.size<=1099511627776) (hl:l.length<=20000) (hv:dC p=true)
  (l7:aF w pa 2 (p.map bE)) (hm:fK w mb bm m) (ac:aF w a 5 (l.map aJ)) (hc:mC p (some m) l=0) :
  Calls Tryz.prog 27 #[.slice pa p.length pc,.pointer (some ⟨mb,0,none⟩),.slice a l.length c] w (cZ p (some m) l w):=by
 have fh:Grows w (w.alloc (.cells #[.slice a l.length c] 24)):=Grows.alloc _ _;have CC:=Aa (dS0 p (.pointer (some ⟨mb,0,none⟩)) (some m) l pa a pc c _ (he.grows fh) hp (by omega) (λx hx=>by have:=hz x hx;omega) (l7.grows fh) (dT1.grows (m:=some m) ⟨mb,bm,rfl,hm⟩ fh) (ac.grows fh));have bk:(w.alloc (.cells #[.slice a l.length c] 24)).cell? ⟨w.heap.size,0,none⟩=some (.slice a l.length c):=aT w _ _ (0,0) 0 _ rfl;have yx:=Aa (gF0 w #[.slice a l.length c] 24 0);rw[hc]at CC;have HCH:=Aa hc;obtain⟨es,pw⟩:=exq (sortS l);have HSO:=Aa pw;have HE:=Aa he;have HPT:=Aa l7;have HM:=Aa hm;have HAT:=Aa ac;have HZ:=Aa hz;have HS:=Aa hs;have HGA:=Aa fh;clear he hs hz l7 hm ac hc pw;go_enter Tryz.func27,Tryz.ntmps27
 go_wp2_with fail
 obtain⟨wA,hwA⟩:=exq (w.alloc (.cells #[.slice a l.length c] 24));have afg:w.heap.size<wA.heap.size:=by rw[hwA];simp
 rw[<-hwA]at HGA CC yx bk ⊢;have HSZ:=Aa afg;obtain⟨eb,dw⟩:=exq w.heap.size;have HEB:=Aa dw;have HF:Hid (wA.frozen? ⟨eb,0,none⟩=false):=by rw[dw];exact yx
 rw[<-dw]at bk ⊢;clear hwA yx fh afg dw;refine CC.out.mono ?_;rintro e w1 ⟨rfl,ah⟩;have yy:=ah.cell bk;have CS:=Aa (yF0 l a c w1 (by omega) HS.out (HAT.out.grows (Grows.trans _ _ _ HGA.out ah)));clear CC bk;go_wp2_with fail
 refine CS.out.mono ?_;rintro e w2 ⟨v2,rfl,fm,af⟩;rw[<-HSO.out]at fm;have pw:=HSO.out;have HES:Hid (∀x∈es,x∈l):=λx hx=>by rw[pw]at hx;exact(((dX l).2 x).1 hx).1
 have ou:es.length<=l.length:=by rw[pw];exact dG ((dX l).1.imp λ{a b} ev e=>by rw[e,fU]at ev;cases ev) λy hy=>(((dX l).2 y).1 hy).1
 have hf2:w2.frozen? ⟨eb,0,none⟩=false:=((Grows.trans _ _ _ ah af).froz (by rw[HEB.out];exact HSZ.out)).trans HF.out;have yz:=af.cell yy;have pu:Grows w w2:=Grows.trans _ _ _ HGA.out (Grows.trans _ _ _ ah af);have adf:eb<w1.heap.size:=by rw[HEB.out];exact Nat.lt_of_lt_of_le HSZ.out ah.size
 have j5:=nE fm (p:=⟨eb,0,none⟩) adf v2;obtain⟨sa,sc,rfl,_,_,ei⟩:=j5.at_ lA;have px:Grows w (w2.setCell ⟨eb,0,none⟩ (.slice sa es.length sc)):=pu.set (by rw[HEB.out];exact Ag _) _;have rh:(w2.setCell ⟨eb,0,none⟩ (.slice sa es.length sc)).cell? ⟨eb,0,none⟩=some (.slice sa es.length sc):=World.cell?_setCell_same _ _ _ (by rw[yz];first|done|rfl)
 obtain⟨w3,hw3⟩:=exq (w2.setCell ⟨eb,0,none⟩ (.slice sa es.length sc));clear CS ah af yy fm j5 pw HF;go_wp2_with fail
 rw[<-hw3]at ei px rh ⊢;clear hw3 hf2 yz pu adf HSZ HGA;have HAE:=Aa ei;have HCE:=Aa rh;clear ei rh;have CR:=Aa (qW0 (λx=>x.r) _ kV1 dF1 es sa sc w3 (by omega) (HAE.out.grows (Grows.refl _)));obtain⟨BR,hBR⟩:=exq (readL es);rw[show mF (es.map λx=>x.r)=BR from hBR.symm]at CR
 have HBR:=Aa hBR;have hlR:BR.length<=20000:=by rw[hBR];have:=oH (es.map λx=>x.r);rw[Ab]at this;unfold readL;omega
 have HZR:Hid (∀s∈BR,s.size<=1099511627776):=λs hs=>by
  rw[hBR]at hs;obtain⟨x,hx,rfl⟩:=List.mem_map.1 (rQ hs);exact(HZ.out x (HES.out x hx)).1
 clear hBR;refine CR.out.mono ?_;rintro e w4 ⟨cy,bR,ah4,rfl,hbR,hOR⟩;obtain⟨a',c',e',_,_,hAR⟩:=hOR.at_ (k:=1) (λx=>(rfl:(stC x).length=1));have e'':=(Value.slice.inj e').1;subst e'';have CLR:=Aa (wF BR (some ⟨bR,0,none⟩) ah4 w4 (by omega) HZR.out (λq hq=>by cases hq;exact hbR) hAR);clear CR e' hAR hOR hbR HZR;go_wp2_with fail
 refine CLR.out.mono ?_;rintro e w5 ⟨di,hTR⟩;clear CLR;have g5:=Grows.trans _ _ _ cy di;clear cy di;rcases hTR with ⟨vl,tr,rfl,hTR,_⟩|⟨vl,rfl⟩
 ·have HTR:=Aa hTR
  have HKR:=Aa vl;have abe:=g5.cell HCE.out;clear hTR vl;go_wp2_with fail
  have CS:=Aa (qW0 (λx=>x.s) _ lI1 eY1 es sa sc w5 (by omega) (HAE.out.grows g5));obtain⟨BS,hBS⟩:=exq (surfL es);rw[show mF (es.map λx=>x.s)=BS from hBS.symm]at CS
  have HBS:=Aa hBS;have hlS:BS.length<=20000:=by rw[hBS];have:=oH (es.map λx=>x.s);rw[Ab]at this;unfold surfL;omega
  have HZS:Hid (∀s∈BS,s.size<=1099511627776):=λs hs=>by
   rw[hBS]at hs;obtain⟨x,hx,rfl⟩:=List.mem_map.1 (rQ hs);exact(HZ.out x (HES.out x hx)).2
  clear hBS;refine CS.out.mono ?_;rintro e w6 ⟨ri,bS,ah5,rfl,hbS,hOS⟩;obtain⟨a',c',e',_,_,hAS⟩:=hOS.at_ (k:=1) (λx=>(rfl:(stC x).length=1));have e'':=(Value.slice.inj e').1;subst e'';have CLS:=Aa (wF BS (some ⟨bS,0,none⟩) ah5 w6 (by omega) HZS.out (λq hq=>by cases hq;exact hbS) hAS);clear CS e' hAS hOS hbS;go_wp2_with fail
  refine CLS.out.mono ?_;rintro e w7 ⟨rj,hTS⟩;clear CLS;have g7:=Grows.trans _ _ _ g5 (Grows.trans _ _ _ ri rj);have G57:=Aa (Grows.trans _ _ _ ri rj);clear ri rj abe;rcases hTS with ⟨yj,ts,rfl,hTS,_⟩|⟨yj,rfl⟩
  ·have HTS:=Aa hTS
   have HKS:=Aa yj;have vd:=@run_makeMap Tryz.prog;have CLn:=λW h=>Aa (tR (bls BS) ts W (hTS.grows (w':=W) h));obtain⟨w8,hw8⟩:=exq ((w7.alloc (.map #[] 0)).alloc (.cells #[.map (some w7.heap.size)] 126));have fy:Grows w7 w8:=by rw[hw8];exact(Grows.alloc _ _).al _
   have s8:=(World.ownsMap_made w7 Tryz.prog 9 (plainElem (H:=Unit) Tryz.prog 3)).alloc (.cells #[.map (some w7.heap.size)] 126);rw[<-hw8]at s8
   have rk:w8.cell? ⟨w7.heap.size+1,0,none⟩=some (.map (some w7.heap.size)):=by
    rw[hw8];have ew:(w7.alloc (.map #[] 0)).heap.size=w7.heap.size+1:=by simp
    have h:=aT (w7.alloc (.map #[] 0)) #[.map (some w7.heap.size)] 126 (0,0) 0 _ rfl;rw[ew]at h;exact h
   obtain⟨afh,afi,hcS⟩:=dP yj;have gk:(bls BS).length=BS.length:=by unfold bls;rw[Ab]
   have CT:=λk W h hk=>Aa (iC0 (bls BS) ts k W afh afi hcS hk (hTS.grows (w':=W) h))
   have HGT:Hid (∀k,k<BS.length->BS[k]?=some (mkB (nth (bls BS) k))):=λk hk=>by
    rw[HBS.out]at hk ⊢;exact eZ1 hk
   have HND:Hid BS.Nodup:=by rw[HBS.out];exact kV _
   rw[gk]at CT CLn;clear hTS yj afh afi hcS gk;go_wp2_with fail
   rw[<-hw8];have CL8:=CLn w8 fy;clear CLn;obtain⟨mp,hmp⟩:=exq w7.heap.size;obtain⟨ib,yu⟩:=exq (mp+1);rw[<-hmp,<-yu]at rk ⊢;rw[<-hmp]at s8;have HMP:=Aa hmp;have HIB:=Aa yu;clear hw8 vd hmp yu;refine CL8.out.mono ?_;rintro e w9 ⟨rfl,rfl⟩;clear CL8;go_wp2_with fail
   go_loopw [54] (λi wr=>∃(k:Nat) (D:DataW Unit),k<=BS.length/\i=.int .i64 k/\wr.cell? ⟨ib,0,none⟩=some (.map (some mp))/\wr.ownsMap Tryz.prog 9 (plainElem Tryz.prog 3) mp k D/\Hid (IdM BS k D)/\Grows w7 wr) (λi _=>BS.length-(intOf i).toNat)
   case atStart=>exact⟨0,_,Am _,rfl,rk,s8,gF1 _ _,fy⟩
   case round =>
    clear rk s8 fy;obtain⟨k,D,hk,rfl,cw,aa,hM,hg⟩:=hrel;by_cases ae:k<BS.length
    ·have CT1:=CT k wr hg ae
     obtain⟨sk,hsk⟩:=exq (mkB (nth (bls BS) k));have ud:=HGT.out k ae;rw[<-hsk]at CT1 ud;have ah6:sk.size<=maxLen:=Ai (HZS.out sk (Ac ud)) (by unfold maxLen;omega);have HBK:=Aa ud;have dg:(k:Int)<BS.length:=by omega
     have hwk:=lR1 (k:=k) (by omega);have hkm:k<maxLen:=by unfold maxLen;omega
     clear CT hsk ud;go_wp2_with fail
     refine CT1.out.mono ?_;rintro e w10 ⟨rfl,mo⟩;have ac3:=mo.cell cw;have ai:=cB aa mo;have af:=Grows.trans _ _ _ hg mo;clear CT1 cw aa;go_wp2_with (at_mapUpdate;refine wpList_mapUpdate_own _ rfl _ _ _ 126 rfl 9 3 (Maps.string_keyed Tryz.underlying9) Tryz.underlying126 _ mp k D rfl ai hkm _ _ (.string sk.data.toList) rfl rfl (WideMaps.keyOf_string_mk Tryz.underlying9 ah6) _ [] (plainElem_int Tryz.underlying3 hwk) ?_;intro y6 abf n8)
     have hM2:=Aa (kW1 hM.out ai HND.out HBK.out);have ah7:y6.cell? ⟨ib,0,none⟩=some (.map (some mp)):=bQ n8 ac3 (by rw[HIB.out];simp);have ax:=af.grown n8 (λq hq=>by cases hq;rw[HMP.out];exact Ag _);clear ac3 ai hM hg af mo n8;go_roundw
     case rel=>exact⟨k+1,_,ae,by go_num,ah7,abf,hM2,ax⟩
     case measure=>simp[intOf];omega
    ·obtain rfl:k=BS.length:=by omega
     have HID:Hid (hS1 wr ib BS):=⟨_,_,_,cw,aa,hM.out⟩;clear CT cw aa hM HND HGT;go_wp2_with fail
     have G20:=Aa (Grows.trans _ _ _ g7 hg);have adg:=Grows.trans _ _ _ px (Grows.trans _ _ _ g7 hg);have CPE:=Aa (sL0 p pa pc wr hv (HPT.out.grows adg));have G5r:=Aa (Grows.trans _ _ _ G57.out hg);have G7r:=Aa hg;clear hg g7 g5;refine CPE.out.mono ?_;rintro e w21 ⟨v1,rfl,gj,y7⟩;clear CPE;have s9:=y7.cell (G20.out.cell HCE.out);have CI:=Aa (bR0 rG _ lD1 hE1 es sa sc w21 (by omega) (HAE.out.grows (Grows.trans _ _ _ G20.out y7)));have HV1:=Aa gj;clear gj;go_wp2_with fail
     refine CI.out.mono ?_;rintro e ma ⟨aby,v2,rfl,fm⟩;clear CI;have HV2:=Aa fm;have ta:=aby.cell s9;have jy:=λ(Y:World)=>eI1 es.length Y (by omega);have G22:=Aa (Grows.trans _ _ _ y7 aby);have G2122:=Aa aby;have HS21:Hid (w.heap.size<=w21.heap.size):=Ai adg.size y7.size;clear fm s9 y7 aby;go_wp2_with fail
     have bj:=iB0 (w:=ma) (n:=es.length) (by omega);have hrl:(Ae es.length).length=es.length:=Al;rw[Nat.mul_one]at bj;have qf:List.replicate es.length 0=mP (Ae es.length) 0 0:=by rw[qF,hrl]
     rw[qf]at bj;clear qf;obtain⟨w23,abz⟩:=exq (ma.alloc (.cells (madeCells #[.int .i64 0] es.length) 3));have afj:Grows ma w23:=by rw[abz];exact Grows.alloc _ _
     have y8:ma.heap.size<w23.heap.size:=by rw[abz];simp
     rw[<-abz]at bj ⊢;obtain⟨ob,tq⟩:=exq ma.heap.size;rw[<-tq]at y8 ⊢;have y9:aU w23 ma.heap.size 3 1 kH (.slice (some ⟨ob,0,none⟩) es.length es.length) (mP (Ae es.length) 0 0):=by rw[tq];exact bj
     have HOB:=Aa tq;have afk:ma.heap.size<=ob:=by rw[tq];exact Ag _
     have HOBE:=Aa afk
     have X22:Aside (hS1 ma ib BS/\ma.cell? ⟨eb,0,none⟩=some (.slice sa es.length sc)/\aF ma sa 5 (es.map aJ)/\eD ma tr (bls BR)/\eD ma ts (bls BS)/\aU ma w.heap.size 5 1 aX v1 (posE p)/\aU ma w.heap.size 3 1 kH v2 (gM rG es es.length)/\fK ma mb bm m/\Env ma/\Grows w ma):=by
      have g1:=Grows.trans _ _ _ G20.out G22.out;have g0:=Grows.trans _ _ _ px g1;exact⟨HID.out.grows G22.out,ta,HAE.out.grows g1,HTR.out.grows (Grows.trans _ _ _ G5r.out G22.out),HTS.out.grows (Grows.trans _ _ _ G7r.out G22.out),(HV1.out.grows G2122.out).base adg.size,HV2.out.base HS21.out,HM.out.grows g0,HE.out.grows g0,g0⟩
     clear abz bj jy ta tq afk;go_loopw [79] (λi wr=>∃(k:Nat),k<=es.length/\i=.int .i64 k/\Hid (aU wr ma.heap.size 3 1 kH (.slice (some ⟨ob,0,none⟩) es.length es.length) (mP (Ae es.length) 0 k))/\Grows ma wr/\ob<wr.heap.size) (λi _=>es.length-(intOf i).toNat)
     case atStart=>exact⟨0,Am _,rfl,y9,afj,y8⟩
     case round =>
      clear y9 afj y8;obtain⟨k,hk,rfl,aa,hg,t9⟩:=hrel;by_cases ae:k<es.length
      ·have dg:(k:Int)<es.length:=by omega
       obtain⟨z,hz⟩:∃z,(mP (Ae es.length) 0 k)[k]?=some z:=⟨_,Af (by rw[mX _ _ (by omega)];omega)⟩;have e1:=cX (f:=λn:Nat=>Value.int .i64 n) aa.out hz;obtain⟨f1,_,aw⟩:=eU (f:=λn:Nat=>Value.int .i64 n) aa.out (k:=k) (by rw[mX _ _ (by omega)];omega) k;rw[sZ (Aj ae)]at aw;have HO:=Aa aw;clear hz aa aw;go_wp2_with fail
       go_roundw
       case rel=>exact⟨k+1,ae,by go_num,HO.out,hg.set HOBE.out _,by simpa using t9⟩
       case measure=>simp[intOf];omega
      ·obtain rfl:k=es.length:=by omega
       have ai:aU wr ma.heap.size 3 1 kH (.slice (some ⟨ob,0,none⟩) es.length es.length) (Ae es.length):=by
        have h:=aa.out;have e9:=tJ (Ae es.length) 0;rw[Al]at e9;rwa [e9]at h
       have HMS:Hid (∀x∈es,x.s∈BS):=λx hx=>by rw[HBS.out];exact hV0 (List.mem_map_of_mem hx)
       have OA:=Aa (mP1 (es:=es) (BS:=BS) (ib:=ib) (eb:=eb) (sc:=sc) (ob:=ob) (sa:=sa) (wB:=ma) (w0:=wr) (by omega) (by omega) hg HOBE.out X22.out.1 X22.out.2.1 X22.out.2.2.1 ai t9 HMS.out (λx hx=>Ai (HZ.out x (HES.out x hx)).2 (by unfold maxLen;omega)));have CSS:=Aa (cN0 OA.out.1 es.length (Ae es.length).toArray wr (by simp) (λi hi=>by unfold Fd;simp[hi]) OA.out.2);clear aa ai;go_wp2_with fail
       refine CSS.out.mono ?_;rintro e w30 ⟨rfl,dk,tj,hwd,SD⟩;have afl:=rS0 hg HOBE.out SD;have HL:=Aa (cU1 (_wB:=ma) tj hwd HMS.out OA.out.1.row SD);have aaa:=afl.cell X22.out.2.1;clear CSS SD tj hwd OA hg t9;obtain⟨O,hO⟩:=exq (grpsL (jX BS es) es.length BS.length);rw[<-hO]at HL;have HO:=Aa hO;obtain⟨so,hso⟩:=exq (O.map λi=>es.getD i enZero);have HSO2:=Aa hso;have afm:so.length=es.length:=by rw[hso,Ab];exact HL.out.2.1
       have HG30:=Aa afl;obtain⟨iu,hiu,hzu,hsu,vk⟩:=mM1;clear hO hso;go_wp2_with (at_make;refine wpList_make_full _ rfl _ _ 24 rfl w30.heap.size 59 iu enZero.agg 5 Tryz.underlying24 hiu hzu hsu .i64 .i64 _ _ es.length rfl rfl rfl rfl (by rw[vk];omega) (by unfold maxLen;omega) (Ag _) ?_;intro w31 rm aaz)
       have afn:=(Grows.refl w30).grown aaz (λq hq=>by cases hq);obtain⟨sb,m4⟩:=exq w30.heap.size;rw[<-m4]at rm ⊢;obtain⟨hS0,_⟩:=mF0.made (so:=so) rm;have afo:w30.heap.size<=sb:=by rw[m4];exact Ag _
       have HSBE:=Aa afo;clear rm aaz m4 afo hiu hzu hsu vk aaa;go_wp2_with fail
       go_loopw [95] (λi wr=>∃(k:Nat),k<=es.length/\i=.int .i64 k/\mF0 wr sb es.length so k/\Grows w30 wr) (λi _=>es.length-(intOf i).toNat)
       case atStart=>exact⟨0,Am _,rfl,hS0,afn⟩
       case round =>
        clear hS0 afn;obtain⟨k,hk,rfl,hS,hg⟩:=hrel;by_cases ae:k<es.length
        ·obtain⟨o,ho⟩:∃o,O[k]?=some o:=⟨_,Af (by rw[HL.out.2.1];exact ae)⟩
         have hoe:=HL.out.2.2 o (Ac ho);obtain⟨b1,o1,e1,mj⟩:=at1 (f:=λn:Nat=>Value.int .i64 n) HL.out.1 (aH (List.getElem?_eq_some_iff.1 ho).1);obtain⟨rfl,rfl⟩:ob=b1/\0=o1:=by simpa using e1
         have hoc:=hg.cell (mj k o ho);rw[Nat.zero_add]at hoc;obtain⟨⟨xr,xs,xl,xt,xc⟩,hx⟩:∃x,es[o]?=some x:=⟨_,Af hoe⟩;have gr:=Grows.trans _ _ _ HG30.out hg;have hec:=gr.cell X22.out.2.1;obtain⟨ba,oa,rfl,be⟩:=(X22.out.2.2.1.grows gr).get (aH hoe);have c0:wr.cell? ⟨ba,oa+o*5,none⟩=some (.string xr):=be o _ hx 0 _ rfl;have c1:wr.cell? ⟨ba,oa+o*5+1,none⟩=some (.string xs):=be o _ hx 1 _ rfl;have c2:wr.cell? ⟨ba,oa+o*5+2,none⟩=some (.int .i64 xl):=be o _ hx 2 _ rfl;have c3:wr.cell? ⟨ba,oa+o*5+3,none⟩=some (.int .i64 xt):=be o _ hx 3 _ rfl;have c4:wr.cell? ⟨ba,oa+o*5+4,none⟩=some (.int .i64 xc):=be o _ hx 4 _ rfl
         have hsk:so[k]?=some ⟨xr,xs,xl,xt,xc⟩:=by
          rw[HSO2.out,Ad,ho];simp only[Option.map_some];rw[List.getD_eq_getElem?_getD,hx];rfl
         have HST:=Aa (hS.step ae hsk);obtain⟨q0,d0⟩:=hS.cell (j:=k*5) (by omega);have S1:=hS.set (j:=k*5) (Ag _) (.string xr);obtain⟨q1,d1⟩:=S1.cell (j:=k*5+1) (by omega);have S2:=S1.set (j:=k*5+1) (by omega) (.string xs);obtain⟨q2,d2⟩:=S2.cell (j:=k*5+2) (by omega);have S3:=S2.set (j:=k*5+2) (by omega) (.int .i64 xl);obtain⟨q3,d3⟩:=S3.cell (j:=k*5+3) (by omega);have S4:=S3.set (j:=k*5+3) (by omega) (.int .i64 xt);obtain⟨q4,d4⟩:=S4.cell (j:=k*5+4) (by omega);have f0:=hS.froz (k*5);have f1:=hS.froz (k*5+1);have f2:=hS.froz (k*5+2);have f3:=hS.froz (k*5+3);have f4:=hS.froz (k*5+4);have hoi:(o:Int)<es.length:=by omega
         have dg:(k:Int)<es.length:=by omega
         clear ho mj hx be hsk hS e1 S1 S2 S3 S4;go_wp2_with fail
         go_roundw
         case rel=>exact⟨k+1,ae,by go_num,HST.out,((((hg.set HSBE.out _).set HSBE.out _).set HSBE.out _).set HSBE.out _).set HSBE.out _⟩
         case measure=>simp[intOf];omega
        ·obtain rfl:k=es.length:=by omega
         rw[<-afm]at hS;have hSA:=hS.at_;go_wp2_with fail
         have CI2:=Aa (bR0 hU0 _ kN1 gG1 so (some ⟨sb,0,none⟩) es.length wr (by omega) hSA);rw[afm]at CI2;refine CI2.out.mono ?_;rintro e w40 ⟨adh,v4,rfl,mc⟩;obtain⟨a4,c4,rfl,_,_,ig⟩:=mc.at_ (k:=1) (λx=>(rfl:(kH x).length=1));have HAT4:=Aa ig;have F40:=Aa (Grows.refl w40);have G40:=Aa (Grows.trans _ _ _ HG30.out (Grows.trans _ _ _ hg adh));have HO40:=Aa (HL.out.1.grows (Grows.trans _ _ _ hg adh));obtain⟨v2a,v2c,rfl,_,_,iq⟩:=X22.out.2.2.2.2.2.2.1.at_ (k:=1) (λx=>(rfl:(kH x).length=1));have HAT2:=Aa iq;obtain⟨a40,c40,rfl,aa0,afp⟩:=fD X22.out.2.2.2.2.2.1;have PP40:=Aa (And.intro (aa0.grows G40.out) afp);clear aa0 afp;have aeh:=G40.out.cell X22.out.2.1;clear CI2 adh mc ig iq hg hS hSA;go_wp2_with fail
         refine(vJ0 w40 mb bm m (X22.out.2.2.2.2.2.2.2.1.grows G40.out)).mono ?_;rintro e w41 ⟨v41,rfl,afq,ab0⟩;obtain⟨a41,c41,rfl,aa1,afr⟩:=fD afq;have PP41:=Aa (And.intro aa1 afr);have G41:=Aa (Grows.trans _ _ _ G40.out ab0);have E41:=Aa ab0;have F41:=Aa (Grows.trans _ _ _ F40.out ab0);clear afq aa1 afr ab0;go_wp2_with fail
         obtain⟨okR,lR,cR⟩:=dP HKR.out;obtain⟨okS,lS,cS⟩:=dP HKS.out;refine(gX0 (bls BR) tr w41 okR lR cR (X22.out.2.2.2.1.grows G41.out)).mono ?_;rintro e w42 ⟨v42,rfl,afs,ab1⟩;obtain⟨a42,c42,rfl,aa2,aft⟩:=fD afs;have PP42:=Aa (And.intro aa2 aft);have G42:=Aa (Grows.trans _ _ _ G41.out ab1);have E42:=Aa ab1;have F42:=Aa (Grows.trans _ _ _ F41.out ab1);clear afs aa2 aft ab1;go_wp2_with fail
         have qg:=bL0 rG es es.length;have aju:=bL0 hU0 so es.length;obtain⟨_,_,_,hck⟩:=dY HCH.out;have aeu:=(dJ hv).1
         have HNN:Hid (∀x∈es,0<=x.l/\x.l<64/\0<=x.t/\x.t<64/\0<=x.c/\x.c<=30000):=λx hx=>by
          have:=rM (hck x (HES.out x hx));omega
         have HMZ:Hid (∀x∈es,x.s.size<=maxLen):=λx hx=>Ai (HZ.out x (HES.out x hx)).2 (by unfold maxLen;omega);clear hck;refine(nQ (gM rG es es.length) v2a v2c w42 (by omega) (λn hn=>by have:=iQ hn;omega) (HAT2.out.grows G42.out)).mono ?_;rintro e w43 ⟨v43,rfl,afu,ab2⟩;obtain⟨a43,c43,rfl,aa3,afv⟩:=fD afu;have PP43:=Aa (And.intro aa3 afv);have G43:=Aa (Grows.trans _ _ _ G42.out ab2);have E43:=Aa ab2;have F43:=Aa (Grows.trans _ _ _ F42.out ab2);clear afu aa3 afv ab2;go_wp2_with fail
         refine(gX0 (bls BS) ts w43 okS lS cS (X22.out.2.2.2.2.1.grows G43.out)).mono ?_;rintro e w44 ⟨v44,rfl,afw,ab3⟩;obtain⟨a44,c44,rfl,aa4,afx⟩:=fD afw;have PP44:=Aa (And.intro aa4 afx);have G44:=Aa (Grows.trans _ _ _ G43.out ab3);have E44:=Aa ab3;have F44:=Aa (Grows.trans _ _ _ F43.out ab3);clear afw aa4 afx ab3;have aab:=G44.out.cell X22.out.2.1;go_wp2_with fail
         refine(qZ (yE BS) _ #[.pointer (some ⟨ib,0,none⟩)] jE1 es eb sa sc w44 (by omega) (λx hx=>by have:=pG (HMS.out x hx);omega) (X22.out.2.2.1.grows G44.out) aab (λx hx W hW=>gR1 BS ib (yE BS x) x W (X22.out.1.grows (Grows.trans _ _ _ G44.out hW)) (kP (HMS.out x hx)) (HMZ.out x hx))).mono ?_;rintro e w45 ⟨ab4,v45,rfl,afy⟩;obtain⟨a45,c45,rfl,aa5,afz⟩:=fD afy;have PP45:=Aa (And.intro aa5 afz);have G45:=Aa (Grows.trans _ _ _ G44.out ab4);have E45:=Aa ab4;have F45:=Aa (Grows.trans _ _ _ F44.out ab4);clear afy aa5 afz ab4;have aac:=G45.out.cell X22.out.2.1;go_wp2_with fail
         refine(qZ (λx=>x.l.toNat) _ #[] kJ1 es eb sa sc w45 (by omega) (λx hx=>by have:=HNN.out x hx;show x.l.toNat<_;omega) (X22.out.2.2.1.grows G45.out) aac (λx hx W hW=>by rw[show ((x.l.toNat:Nat):Int)=x.l from Ah (HNN.out x hx).1];exact dY1 x W)).mono ?_
         rintro e w46 ⟨ab5,v46,rfl,af0⟩;obtain⟨a46,c46,rfl,aa6,af1⟩:=fD af0;have PP46:=Aa (And.intro aa6 af1);have G46:=Aa (Grows.trans _ _ _ G45.out ab5);have E46:=Aa ab5;have F46:=Aa (Grows.trans _ _ _ F45.out ab5);clear af0 aa6 af1 ab5;have aad:=G46.out.cell X22.out.2.1;go_wp2_with fail
         refine(qZ (λx=>x.t.toNat) _ #[] jX1 es eb sa sc w46 (by omega) (λx hx=>by have:=HNN.out x hx;show x.t.toNat<_;omega) (X22.out.2.2.1.grows G46.out) aad (λx hx W hW=>by rw[show ((x.t.toNat:Nat):Int)=x.t from Ah (HNN.out x hx).2.2.1];exact eP1 x W)).mono ?_
         rintro e w47 ⟨ab6,v47,rfl,af2⟩;obtain⟨a47,c47,rfl,aa7,af3⟩:=fD af2;have PP47:=Aa (And.intro aa7 af3);have G47:=Aa (Grows.trans _ _ _ G46.out ab6);have E47:=Aa ab6;have F47:=Aa (Grows.trans _ _ _ F46.out ab6);clear af2 aa7 af3 ab6;have aae:=G47.out.cell X22.out.2.1;go_wp2_with fail
         refine(qZ (λx=>x.c.toNat) _ #[] gA1 es eb sa sc w47 (by omega) (λx hx=>by have:=HNN.out x hx;show x.c.toNat<_;omega) (X22.out.2.2.1.grows G47.out) aae (λx hx W hW=>by rw[show ((x.c.toNat:Nat):Int)=x.c from Ah (HNN.out x hx).2.2.2.2.1];exact xR0 x W)).mono ?_
         rintro e w48 ⟨ab7,v48,rfl,af4⟩;obtain⟨a48,c48,rfl,aa8,af5⟩:=fD af4;have PP48:=Aa (And.intro aa8 af5);have G48:=Aa (Grows.trans _ _ _ G47.out ab7);have E48:=Aa ab7;have F48:=Aa (Grows.trans _ _ _ F47.out ab7);clear af4 aa8 af5 ab7;have CO:=Aa (nQ O (some ⟨ob,0,none⟩) es.length w48 (by rw[HL.out.2.1];omega) (λn hn=>by have:=HL.out.2.2 n hn;omega) (HO40.out.grows F48.out));rw[HL.out.2.1]at CO;go_wp2_with fail
         refine(CO.out).mono ?_;rintro e w49 ⟨v49,rfl,af6,ab8⟩;obtain⟨a49,c49,rfl,aa9,af7⟩:=fD af6;have PP49:=Aa (And.intro aa9 af7);have G49:=Aa (Grows.trans _ _ _ G48.out ab8);have E49:=Aa ab8;have F49:=Aa (Grows.trans _ _ _ F48.out ab8);clear af6 aa9 af7 ab8;go_wp2_with fail
         refine(nQ (gM hU0 so es.length) a4 c4 w49 (by omega) (λn hn=>by have:=iQ hn;omega) (HAT4.out.grows F49.out)).mono ?_;rintro e w50 ⟨v50,rfl,af8,ab9⟩;obtain⟨a50,c50,rfl,aba,af9⟩:=fD af8;have PP50:=Aa (And.intro aba af9);have G50:=Aa (Grows.trans _ _ _ G49.out ab9);have E50:=Aa ab9;have F50:=Aa (Grows.trans _ _ _ F49.out ab9);clear af8 aba af9 ab9;go_wp2_with fail
         obtain⟨P,hP⟩:∃P:List bD,P=[⟨⟨#[112,111,115]⟩,posE p,a40,c40⟩,⟨⟨#[109,97,116,114,105,120]⟩,m.enc,a41,c41⟩,⟨⟨#[114,101,97,100,105,110,103,115]⟩,loudE (bls BR),a42,c42⟩,⟨⟨#[102,105,114,115,116]⟩,packE (gM rG es es.length),a43,c43⟩,⟨⟨#[115,117,114,102,97,99,101,115]⟩,loudE (bls BS),a44,c44⟩,⟨⟨#[115,117,114,102,97,99,101]⟩,packE (es.map (yE BS)),a45,c45⟩,⟨⟨#[108,101,102,116]⟩,packE (es.map λx=>x.l.toNat),a46,c46⟩,⟨⟨#[114,105,103,104,116]⟩,packE (es.map λx=>x.t.toNat),a47,c47⟩,⟨⟨#[99,111,115,116]⟩,packE (es.map λx=>x.c.toNat),a48,c48⟩,⟨⟨#[111,114,100,101,114]⟩,packE O,a49,c49⟩,⟨⟨#[97,116]⟩,packE (gM hU0 so es.length),a50,c50⟩]:=⟨_,rfl⟩;have hPl:P.length=11:=by rw[hP];rfl
         obtain⟨W9,hW9⟩:=exq (w50.alloc (.cells (P.flatMap lG).toArray 137))
         have hPA:iV w50 P:=by
          have T50:=Grows.refl w50;have T49:=Grows.trans _ _ _ E50.out T50;have T48:=Grows.trans _ _ _ E49.out T49;have T47:=Grows.trans _ _ _ E48.out T48;have T46:=Grows.trans _ _ _ E47.out T47;have T45:=Grows.trans _ _ _ E46.out T46;have T44:=Grows.trans _ _ _ E45.out T45;have T43:=Grows.trans _ _ _ E44.out T44;have T42:=Grows.trans _ _ _ E43.out T43;have T41:=Grows.trans _ _ _ E42.out T42;have T40:=Grows.trans _ _ _ E41.out T41;have ok1:=dY HCH.out;rw[hP];refine⟨λq hq=>?_,λq hq=>?_,λq hq=>?_,λq hq=>?_⟩<;>simp only[List.mem_cons,List.mem_nil_iff,or_false]at hq
          ·rcases hq with rfl|rfl|rfl|rfl|rfl|rfl|rfl|rfl|rfl|rfl|rfl
           ·exact PP40.out.1.grows T40
           ·exact PP41.out.1.grows T41
           ·exact PP42.out.1.grows T42
           ·exact PP43.out.1.grows T43
           ·exact PP44.out.1.grows T44
           ·exact PP45.out.1.grows T45
           ·exact PP46.out.1.grows T46
           ·exact PP47.out.1.grows T47
           ·exact PP48.out.1.grows T48
           ·exact PP49.out.1.grows T49
           ·exact PP50.out.1.grows T50
          ·rcases hq with rfl|rfl|rfl|rfl|rfl|rfl|rfl|rfl|rfl|rfl|rfl
           ·exact PP40.out.2
           ·exact PP41.out.2
           ·exact PP42.out.2
           ·exact PP43.out.2
           ·exact PP44.out.2
           ·exact PP45.out.2
           ·exact PP46.out.2
           ·exact PP47.out.2
           ·exact PP48.out.2
           ·exact PP49.out.2
           ·exact PP50.out.2
          ·rcases hq with rfl|rfl|rfl|rfl|rfl|rfl|rfl|rfl|rfl|rfl|rfl<;>simp[ByteArray.size]
          ·rcases hq with rfl|rfl|rfl|rfl|rfl|rfl|rfl|rfl|rfl|rfl|rfl
           ·have h:=pM0 hv;show (posE p).length<=_;omega
           ·have h:=bP1 HM.out.ok;show m.enc.length<=_;omega
           ·have h:=kY0 okR lR cR;show (loudE _).length<=_;omega
           ·have h:=eN (l:=gM rG es es.length) (λn hn=>by have:=iQ hn;omega);show (packE _).length<=_;omega
           ·have h:=kY0 okS lS cS;show (loudE _).length<=_;omega
           ·have h:=eN (l:=es.map (yE BS)) (λn hn=>by obtain⟨x,hx,rfl⟩:=List.mem_map.1 hn;have:=pG (HMS.out x hx);omega);rw[Ab]at h;show (packE _).length<=_;omega
           ·have h:=eN (l:=es.map λx=>x.l.toNat) (λn hn=>by obtain⟨x,hx,rfl⟩:=List.mem_map.1 hn;have:=HNN.out x hx;show x.l.toNat<_;omega);rw[Ab]at h;show (packE _).length<=_;omega
           ·have h:=eN (l:=es.map λx=>x.t.toNat) (λn hn=>by obtain⟨x,hx,rfl⟩:=List.mem_map.1 hn;have:=HNN.out x hx;show x.t.toNat<_;omega);rw[Ab]at h;show (packE _).length<=_;omega
           ·have h:=eN (l:=es.map λx=>x.c.toNat) (λn hn=>by obtain⟨x,hx,rfl⟩:=List.mem_map.1 hn;have:=HNN.out x hx;show x.c.toNat<_;omega);rw[Ab]at h;show (packE _).length<=_;omega
           ·have h:=eN (l:=O) (λn hn=>by have:=HL.out.2.2 n hn;omega);have:=HL.out.2.1;show (packE _).length<=_;omega
           ·have h:=eN (l:=gM hU0 so es.length) (λn hn=>by have:=iQ hn;omega);show (packE _).length<=_;omega
         have hPC:aF W9 (some ⟨w50.heap.size,0,none⟩) 2 (P.map lG):=by
          rw[hW9];exact mP0 P w50 _ (by omega)
         have jl:Grows w50 W9:=by rw[hW9];exact Grows.alloc _ _
         have CJ:=Aa (qX0 P (some ⟨w50.heap.size,0,none⟩) 11 W9 (X22.out.2.2.2.2.2.2.2.2.1.grows (Grows.trans _ _ _ G50.out jl)) (by omega) hPC (hPA.grows jl));rw[hPl]at CJ
         have HPB:Hid (P.map bare=imgP p m es):=by
          show _=_
          rw[hP];unfold imgP zW gI zW;rw[<-HBR.out,<-HBS.out,<-HO.out,<-HSO2.out];rfl
         have adi:W9=w50.alloc (.cells (P.flatMap lG).toArray 137):=hW9;rw[hP]at adi;have HW9:=Aa adi;have CJ2:∀W,W=W9->Hid (Calls Tryz.prog 86 #[.slice (some ⟨w50.heap.size,0,none⟩) 11 11] W (rN0 P W9)):=by rintro _ rfl;exact CJ
         have G9:=Aa jl;clear hP hW9 adi hPA hPC CJ jl;refine(CJ2 _ ?_).out.mono ?_
         ·rw[HW9.out];rfl
         rintro e w51 ⟨qe,hj1,hgJ⟩;have GW:=Grows.trans _ _ _ X22.out.2.2.2.2.2.2.2.2.2 (Grows.trans _ _ _ G50.out (Grows.trans _ _ _ G9.out hgJ));by_cases aca:fO P=0
         ·obtain⟨v,rfl,hv'⟩:=qe aca
          clear qe hj1;have ul:=hv'.base (Grows.trans _ _ _ X22.out.2.2.2.2.2.2.2.2.2 (Grows.trans _ _ _ G50.out G9.out)).size;have HV':=Aa ul;clear hv' ul;go_wp2_with fail
          go_ret2;refine cZ.join HCH.out ⟨by rw[<-HSO.out,<-HBR.out];exact HKR.out,by rw[<-HSO.out,<-HBS.out];exact HKS.out⟩ GW ?_;rw[<-HSO.out,<-HPB.out,qK,nY];exact⟨λ_=>⟨v,rfl,HV'.out⟩,λh=>absurd aca h⟩
         ·obtain rfl:=hj1 aca
          clear qe hj1;go_wp2_with fail
          go_ret2;refine cZ.join HCH.out ⟨by rw[<-HSO.out,<-HBR.out];exact HKR.out,by rw[<-HSO.out,<-HBS.out];exact HKS.out⟩ GW ?_;rw[<-HSO.out,<-HPB.out,qK,nY];exact⟨λh=>absurd h aca,λ_=>rfl⟩
  ·have HK:=Aa yj
   have re:(cY (bls BS):Int)≠0:=by omega
   obtain⟨f,hf⟩:∃f:Int,f=cY (bls BS):=⟨_,rfl⟩;rw[<-hf]at re ⊢;have hfb:(f != 0)=true:=by simpa using re
   clear hf yj re;go_wp2
   go_ret2;exact cZ.long HCH.out (λh=>HK.out (by rw[HBS.out,HSO.out];exact h.2)) (Grows.trans _ _ _ px g7)
 ·have HK:=Aa vl
  have re:(cY (bls BR):Int)≠0:=by omega
  obtain⟨f,hf⟩:∃f:Int,f=cY (bls BR):=⟨_,rfl⟩;rw[<-hf]at re ⊢;have hfb:(f != 0)=true:=by simpa using re
  clear hf vl re;go_wp2
  go_ret2;exact cZ.long HCH.out (λh=>HK.out (by rw[HBR.out,HSO.out];exact h.1)) (Grows.trans _ _ _ px g5)
theorem rX0 (p:List cJ) (mv:Value) (m:Option Mx) (l:List En) (pa a:Option Addr) (pc c:Nat) (w:World) (he:Env w) (hp:p.length<=4611686018427387904) (hl:l.length<=140737488355328) (hs:∀x∈l,uO x) (hz:∀x∈l,x.r.size<=1099511627776/\x.s.size<=1099511627776)
  (l7:aF w pa 2 (p.map bE)) (hm:dT1 w mv m) (ac:aF w a 5 (l.map aJ)) :
  Calls Tryz.prog 27 #[.slice pa p.length pc,mv,.slice a l.length c] w (cZ p m l w):=by
 by_cases hc:mC p m l=0
 ·cases m with
  | none =>
   unfold mC at hc;split at hc<;>cases hc
  | some m =>
   obtain⟨mb,bm,rfl,vd⟩:=hm;exact kW0 p mb bm m l pa a pc c w he hp hs hz (by have:=dY hc;omega) (dY hc).2.2.1 l7 vd ac hc
 ·exact sO0 p mv m l pa a pc c w he hp hl (λx hx=>by have:=hz x hx;omega) l7 hm ac hc
theorem mT {p:List cJ} {m:Option Mx} {l:List En} (h:iT p m l=0):mC p m l=0/\cY (bls (readL (sortS l)))=0/\cY (bls (surfL (sortS l)))=0:=by
 unfold iT at h;split at h
 ·rename_i hc
  split at h
  ·rename_i hk;exact⟨hc,hk⟩
  ·cases h
 ·rename_i hc;exact absurd h hc
theorem uZ0 {p:List cJ} {m:Option Mx} {l:List En} (h:iT p m l≠0):pQ p m l=(iT p m l,[]):=by
 unfold pQ iT at *;by_cases hc:mC p m l=0
 ·rw[if_pos hc]at h ⊢
  rw[if_pos hc];by_cases hk:cY (bls (readL (sortS l)))=0/\cY (bls (surfL (sortS l)))=0
  ·rw[if_pos hk]at h;exact absurd rfl h
  ·rw[if_neg hk]
   cases m with
   | none=>unfold mC at hc;split at hc<;>cases hc
   | some m=>simp only;rw[if_neg hk]
 ·rw[if_neg hc,if_neg hc]
theorem rU {p:List cJ} {m:Mx} {l:List En} (h:iT p (some m) l=0) (rp:fO (imgP p m (sortS l))=0):pQ p (some m) l=(0,file14 (imgP p m (sortS l))):=by
 obtain⟨h1,h2⟩:=mT h;unfold pQ;rw[if_pos h1];simp only;rw[if_pos h2,if_pos rp]
theorem yQ0 {p:List cJ} {m:Mx} {l:List En} (hm:m.OK) (hl:l.length<=300) (h:iT p (some m) l=0):fO (imgP p m (sortS l))=0:=by
 obtain⟨h1,h2,h3⟩:=mT h;obtain⟨n1,n2,n3,n4⟩:=dY h1;have hp:=(dJ n3).1;refine yM0 hm n3 (Ai (gZ0 l) hl) h2 h3 λx hx=>?_
 have:=rM (n4 x (uE hx))
 omega
end
section
open Go Go.RowKit Go.Shelf
structure cO (w:World) (db:Nat) (p:List cJ) (m:Mx) (es:List En):Prop where
 p:∃vP,w.cell? ⟨db,0,none⟩=some vP/\aU w 0 147 2 bE vP p
 m:∃mb bm,w.cell? ⟨db,1,none⟩=some (.pointer (some ⟨mb,0,none⟩))/\fK w mb bm m
 r:∃tb,w.cell? ⟨db,2,none⟩=some (.pointer (some ⟨tb,0,none⟩))/\eD w tb (bls (readL es))
 s:∃tb,w.cell? ⟨db,3,none⟩=some (.pointer (some ⟨tb,0,none⟩))/\eD w tb (bls (surfL es))
 f:∃pb,w.cell? ⟨db,4,none⟩=some (.pointer (some ⟨pb,0,none⟩))/\lU w pb (gM rG es es.length)
 i:∃pb,w.cell? ⟨db,5,none⟩=some (.pointer (some ⟨pb,0,none⟩))/\lU w pb (es.map (yE (surfL es)))
 l:∃pb,w.cell? ⟨db,6,none⟩=some (.pointer (some ⟨pb,0,none⟩))/\lU w pb (es.map λx=>x.l.toNat)
 t:∃pb,w.cell? ⟨db,7,none⟩=some (.pointer (some ⟨pb,0,none⟩))/\lU w pb (es.map λx=>x.t.toNat)
 c:∃pb,w.cell? ⟨db,8,none⟩=some (.pointer (some ⟨pb,0,none⟩))/\lU w pb (es.map λx=>x.c.toNat)
 o:∃pb,w.cell? ⟨db,9,none⟩=some (.pointer (some ⟨pb,0,none⟩))/\lU w pb (zW es)
 a:∃pb,w.cell? ⟨db,10,none⟩=some (.pointer (some ⟨pb,0,none⟩))/\lU w pb (gM hU0 (gI es) es.length)
theorem cO.grows {w w':World} {db:Nat} {p:List cJ} {m:Mx} {es:List En} (h:cO w db p m es) (hg:Grows w w'):cO w' db p m es where
 p:=let ⟨v,h1,h2⟩:=h.p;⟨v,hg.cell h1,h2.grows hg⟩
 m:=let ⟨a,b,h1,h2⟩:=h.m;⟨a,b,hg.cell h1,h2.grows hg⟩
 r:=let ⟨v,h1,h2⟩:=h.r;⟨v,hg.cell h1,h2.grows hg⟩
 s:=let ⟨v,h1,h2⟩:=h.s;⟨v,hg.cell h1,h2.grows hg⟩
 f:=let ⟨v,h1,h2⟩:=h.f;⟨v,hg.cell h1,h2.grows hg⟩
 i:=let ⟨v,h1,h2⟩:=h.i;⟨v,hg.cell h1,h2.grows hg⟩
 l:=let ⟨v,h1,h2⟩:=h.l;⟨v,hg.cell h1,h2.grows hg⟩
 t:=let ⟨v,h1,h2⟩:=h.t;⟨v,hg.cell h1,h2.grows hg⟩
 c:=let ⟨v,h1,h2⟩:=h.c;⟨v,hg.cell h1,h2.grows hg⟩
 o:=let ⟨v,h1,h2⟩:=h.o;⟨v,hg.cell h1,h2.grows hg⟩
 a:=let ⟨v,h1,h2⟩:=h.a;⟨v,hg.cell h1,h2.grows hg⟩
structure cH (p:List cJ) (m:Mx) (es:List En):Prop where
 chk:mC p (some m) es=0
 idem:sortS es=es
 rd:cY (bls (readL es))=0
 sf:cY (bls (surfL es))=0
theorem cH.srt {p:List cJ} {m:Mx} {es:List En} (h:cH p m es):fE es:=by
 have:=(dX es).1
 rwa [h.idem]at this
theorem cH.len {p:List cJ} {m:Mx} {es:List En} (h:cH p m es):es.length<=20000:=(dY h.chk).2.1
theorem cH.num {p:List cJ} {m:Mx} {es:List En} (h:cH p m es):∀x∈es,0<=x.l/\x.l<p.length/\0<=x.t/\x.t<p.length/\0<=x.c/\x.c<=30000:=λx hx=>rM ((dY h.chk).2.2.2 x hx)
theorem cH.okR {p:List cJ} {m:Mx} {es:List En} (h:cH p m es):OkL (bls (readL es)):=(dP h.rd).1
theorem cH.okS {p:List cJ} {m:Mx} {es:List En} (h:cH p m es):OkL (bls (surfL es)):=(dP h.sf).1
theorem fL1 {p:List cJ} {m:Option Mx} {l l':List En} (hl:l'.length<=l.length) (hm:∀x∈l',x∈l) (h:mC p m l=0):mC p m l'=0:=by
 cases m with
 | none =>
  unfold mC at h ⊢;split at h
  ·cases h
  ·cases h
 | some m =>
  obtain⟨h1,h2,h3,h4⟩:=dY h;unfold mC;rw[if_neg (by simpa using h3)];simp only;rw[if_pos h1,if_neg (by omega)]
  have key:∀ {l:List En},(∀x∈l,oP x p.length=0)->fF p.length l=0:=λ{l} hk=>by
   induction l with
   | nil=>rfl
   | cons x l ih =>
    unfold fF;rw[if_pos (hk x (by simp))];exact ih λy hy=>hk y (by simp[hy])
  exact key λx hx=>h4 x (hm x hx)
theorem nV0 (l:List En):sortS (sortS l)=sortS l:=by
 refine xR.unique (l:=sortS l) (dX _) ⟨(dX l).1,λy=>⟨λhy=>⟨hy,λz hz hk=>?_⟩,λh=>h.1⟩⟩;exact((dX l).2 y |>.1 hy).2 z (((dX l).2 z).1 hz).1 hk
theorem lB {p:List cJ} {m:Mx} {l:List En} (h:iT p (some m) l=0):cH p m (sortS l):=by
 obtain⟨h1,h2,h3⟩:=mT h;exact⟨fL1 (gZ0 l) (λx hx=>uE hx) h1,nV0 l,h2,h3⟩
theorem cH.make {p:List cJ} {m:Mx} {es:List En} (h:cH p m es):iT p (some m) es=0:=by
 unfold iT;rw[if_pos h.chk,h.idem,if_pos ⟨h.rd,h.sf⟩]
end
section
open Go Go.RowKit Go.Shelf
attribute [local go_sem] aQ aM
theorem nD1 {x:yZ} (hl:qE x=true) (ag:tG x):(∀y∈x.e,uO y)/\(∀y∈x.e,y.r.size<=1099511627776/\y.s.size<=1099511627776)/\(∀y∈x.p,y.name.size<=9223372036854775807):=by
 obtain⟨h1,h2,_⟩:=uD hl;exact⟨ag.e,λy hy=>by have:=h2 y hy;omega,λy hy=>by have:=h1 y hy;omega⟩
theorem kP0 (x:yZ) (A:nM) (w:World) (he:Env w) (ag:tG x) (hz:∀y∈x.e,y.r.size<=1099511627776/\y.s.size<=1099511627776) (ac:oZ w A x) :
  Calls Tryz.prog 26 #[A.agg x] w (cZ x.p (srcM x) x.e w):=by
 have qf:=hz;have kh:=ag;have HAT0:=ac;obtain⟨pa,pc,sa,sc,ea,ec⟩:=A;obtain⟨xp,xd,xs,xe⟩:=x;obtain⟨W0,bh⟩:=exq (w.alloc (.cells #[.slice pa xp.length pc,.int .i64 xd,.slice sa xs.length sc,.slice ea xe.length ec] 26));have cd:Grows w W0:=by rw[bh];exact Grows.alloc _ _
 have dm:=λj u h=>aT w #[.slice pa xp.length pc,.int .i64 xd,.slice sa xs.length sc,.slice ea xe.length ec] 26 (0,0) j u h;rw[<-bh]at dm;have q0:=dm 0 _ rfl;have q1:=dm 1 _ rfl;have q2:=dm 2 _ rfl;have q3:=dm 3 _ rfl;have HQ:=Aa (And.intro q0 (And.intro q1 (And.intro q2 q3)));have HSA:=Aa (ac.grows cd);have HG0:=Aa cd;clear dm;have CM:=Aa (sS0 ⟨xp,xd,xs,xe⟩ ⟨pa,pc,sa,sc,ea,ec⟩ W0.drew kh (HSA.out.grows (Grows.drew W0)));have CB:=λ(W:World) (mv:Value) (h:Grows W0 W) (hm:dT1 W mv (srcM ⟨xp,xd,xs,xe⟩))=>Aa (rX0 xp mv (srcM ⟨xp,xd,xs,xe⟩) xe pa ea pc ec W (he.grows (Grows.trans _ _ _ HG0.out h)) (by have:=kh.lp;simp only at this;omega) kh.le kh.e qf (HSA.out.p.grows h) hm (HSA.out.e.grows h));obtain⟨SM,vf⟩:=exq (srcM ⟨xp,xd,xs,xe⟩);show Calls _ _ #[.agg #[.slice pa xp.length pc,.int .i64 xd,.slice sa xs.length sc,.slice ea xe.length ec]] _ (cZ xp (srcM ⟨xp,xd,xs,xe⟩) xe w)
 rw[<-vf]at CM CB ⊢;unfold nM.agg nM.cells at CM;simp only at CM;have z0:∀x:Ext Grows W0.drew,x.u.cell? ⟨w.heap.size,0,none⟩=some (.slice pa xp.length pc):=aB ((Grows.drew W0).cell q0);have z1:∀x:Ext Grows W0.drew,x.u.cell? ⟨w.heap.size,1,none⟩=some (.int .i64 xd):=aB ((Grows.drew W0).cell q1);have z2:∀x:Ext Grows W0.drew,x.u.cell? ⟨w.heap.size,2,none⟩=some (.slice sa xs.length sc):=aB ((Grows.drew W0).cell q2);have z3:∀x:Ext Grows W0.drew,x.u.cell? ⟨w.heap.size,3,none⟩=some (.slice ea xe.length ec):=aB ((Grows.drew W0).cell q3);clear vf q0 q1 q2 q3 ac ag hz he qf kh HAT0 cd;go_enter Tryz.func26,Tryz.ntmps26
 go_wp2_with fail
 rw[<-bh];clear bh;refine bF (lK [0,1,2,4,5,3,6,7,8,9,10] [3,6]) (by kernel_rfl) (λd _ _ _ _ h=>by cases d<;>exact h) ?_
 iterate 5 (refine aG rfl (λK hK=>?_);go_simp;refine hK _ ?_;clear hK K)
 clear z0 z1 z2 z3;refine aY rfl rfl (λK hK=>?_);go_simp;refine(CM.out).mono ?_;rintro e w1 ⟨mv,rfl,hm,ah⟩;refine⟨ah,hK _ _ ?_⟩;clear hK K;have hgW:=Grows.trans _ _ _ HG0.out (Grows.trans _ _ _ (Grows.drew W0) ah);refine aY rfl rfl (λK hK=>?_);go_simp;refine((CB w1 mv (Grows.trans _ _ _ (Grows.drew W0) ah) hm).out).mono ?_;rintro e w2 ⟨af,v,rfl,hv⟩;refine⟨af,hK _ _ ?_⟩;clear hK K;iterate 4 (refine aG rfl (λK hK=>?_);go_simp;refine hK _ ?_;clear hK K)
 refine bH ?_;go_wp2_with fail
 go_ret2;exact⟨Grows.trans _ _ _ hgW af,_,rfl,hv.base hgW.size⟩
end
section
open Go Go.RowKit
def tY0 (l:List Nat) (N id a b:Nat):Prop:=l[id]?=some a/\(id+1<l.length->l[id+1]?=some b)/\(¬id+1<l.length->b=N)
theorem qY {k:Nat->Nat} {n S id:Nat} (hk:∀i,i<n->k i<S) (h:id<S):tY0 (pQ0 k n S) n id (grpsL k n id).length (grpsL k n (id+1)).length:=by
 refine⟨gI0 h,λh1=>?_,λh1=>?_⟩
 ·rw[iJ]at h1
  exact gI0 h1
 ·rw[iJ]at h1
  rw[show id+1=S by omega,jJ hk]
theorem xY0 {k:Nat->Nat} {n S id:Nat} (hk:∀i,i<n->k i<S) (h:id<S):(grpsL k n id).length<=(grpsL k n (id+1)).length/\(grpsL k n (id+1)).length<=n/\((grpsL k n S).take (grpsL k n (id+1)).length).drop (grpsL k n id).length=grp k n id:=by
 have h1:=lP1 hk h;have h2:=iX1 hk h;rw[oL0 hk h]at h1 h2;exact⟨h1.1,h1.2,h2⟩
theorem xQ0 {n a b:Nat} (hb:b<=n):((Ae n).take b).drop a=An a (b-a):=by
 apply List.ext_getElem?
 intro i;rw[List.getElem?_drop,List.getElem?_take];by_cases h:a+i<b
 ·rw[if_pos h,Aj (by omega),List.getElem?_range' (by omega)]
  simp
 ·rw[if_neg h,List.getElem?_eq_none (by simp;omega)]
theorem cH.row_r {p:List cJ} {m:Mx} {es:List En} (h:cH p m es) {id:Nat} {s:ByteArray} (hs:(readL es)[id]?=some s) :
  ∃a b,tY0 (gM rG es es.length) es.length id a b/\a<=b/\b<=es.length/\(An a (b-a)).map (λj=>es.getD j enZero)=exactL es s:=by
 have hid:=(List.getElem?_eq_some_iff.1 hs).1;have hk:∀i,i<es.length->keyRE (readL es) es i<(readL es).length:=λi hi=>uL hi;obtain⟨h1,h2,h3⟩:=xY0 hk hid;refine⟨_,_,by rw[sY h.srt];exact qY hk hid,h1,h2,?_⟩;rw[uK h.srt,xQ0 h2]at h3;rw[h3];exact fA1 hs
theorem cH.row_s {p:List cJ} {m:Mx} {es:List En} (_:cH p m es) {id:Nat} {s:ByteArray} (hs:(surfL es)[id]?=some s) :
  ∃a b,tY0 (gM hU0 (gI es) es.length) es.length id a b/\a<=b/\b<=es.length/\(((zW es).take b).drop a).map (λj=>es.getD j enZero)=ofL es s:=by
 have hid:=(List.getElem?_eq_some_iff.1 hs).1;have hk:∀i,i<es.length->jX (surfL es) es i<(surfL es).length:=λi hi=>pG (jV (Ac (pE hi)));obtain⟨h1,h2,h3⟩:=xY0 hk hid;refine⟨_,_,by rw[qL0];exact qY hk hid,h1,h2,?_⟩;have h4:((zW es).take (grpsL (jX (surfL es) es) es.length (id+1)).length).drop (grpsL (jX (surfL es) es) es.length id).length=grp (jX (surfL es) es) es.length id:=h3;rw[h4];exact dS1 hs
theorem cH.rows {p:List cJ} {m:Mx} {es:List En} (h:cH p m es) {a k:Nat} (hk:0<k) (ha:a+k<=(readL es).length) :
  tY0 (gM rG es es.length) es.length a (grpsL (keyRE (readL es) es) es.length a).length (grpsL (keyRE (readL es) es) es.length (a+1)).length /\
  tY0 (gM rG es es.length) es.length (a+k-1) (grpsL (keyRE (readL es) es) es.length (a+k-1)).length (grpsL (keyRE (readL es) es) es.length (a+k)).length /\
  (grpsL (keyRE (readL es) es) es.length a).length<=(grpsL (keyRE (readL es) es) es.length (a+k)).length/\(grpsL (keyRE (readL es) es) es.length (a+k)).length<=es.length:=by
 have gw:∀i,i<es.length->keyRE (readL es) es i<(readL es).length:=λi hi=>uL hi;refine⟨by rw[sY h.srt];exact qY gw (by omega),?_,?_,?_⟩
 ·have:=qY (k:=keyRE (readL es) es) (n:=es.length) (S:=(readL es).length) (id:=a+k-1) gw (by omega)
  rw[show a+k-1+1=a+k by omega]at this
  rw[sY h.srt];exact this
 ·obtain⟨r,hr⟩:=jN (k:=keyRE (readL es) es) (n:=es.length) (show a<=a+k by omega)
  rw[hr,Ak];omega
 ·obtain⟨r,hr⟩:=jN (k:=keyRE (readL es) es) (n:=es.length) ha
  have:=jJ gw
  rw[hr,Ak]at this;omega
theorem cH.len_r {p:List cJ} {m:Mx} {es:List En} (h:cH p m es):∀x∈es,x.r.size<=256:=λx hx=>by
 obtain⟨j,hj⟩:=List.mem_iff_getElem?.1 (jS hx)
 have:=h.okR.len _ (Ac (mO hj))
 rwa [dB]at this
theorem cH.len_s {p:List cJ} {m:Mx} {es:List En} (h:cH p m es):∀x∈es,x.s.size<=256:=λx hx=>by
 obtain⟨j,hj⟩:=List.mem_iff_getElem?.1 (jV hx)
 have:=h.okS.len _ (Ac (mO hj))
 rwa [dB]at this
theorem jV1 {α:Type} {R:α->α->Prop} {l:List α} (h:l.Pairwise R) {i:Nat} {x y:α} (hx:l[i]?=some x) (hy:l[i+1]?=some y):R x y:=by
 obtain⟨h1,e1⟩:=List.getElem?_eq_some_iff.1 hx;obtain⟨h2,e2⟩:=List.getElem?_eq_some_iff.1 hy
 have:=List.pairwise_iff_getElem.1 h i (i+1) h1 h2 (by omega)
 rwa [e1,e2]at this
end
section
open Go Go.RowKit Go.Shelf
def mV:List cJ:=[⟨⟨#[66,79,83]⟩,0⟩,⟨⟨#[110,111,117,110]⟩,0⟩]
def kR0:List En:=[⟨⟨#[227,129,139]⟩,⟨#[232,154,138]⟩,1,1,30⟩,⟨⟨#[227,129,139]⟩,⟨#[231,167,145]⟩,1,1,20⟩,⟨⟨#[227,129,139,227,129,141]⟩,⟨#[230,159,191]⟩,1,1,40⟩]
def hP0:yZ:=⟨mV,10,[],kR0⟩
end
section
open Go Go.RowKit
def nV:Mx:=newM 2 10
def iW:List En:=sortS kR0
theorem gS1:srcM hP0=some nV:=by
 unfold srcM hP0;rw[if_pos (by decide +kernel)];rfl
theorem kC0:iT mV (some nV) kR0=0:=by decide +kernel
theorem jA1:nV.OK:=fC0 (n:=2) (d:=10) (by decide)
end
section
open Go Go.RowKit Go.Shelf
attribute [local go_sem] aQ aM
theorem bZ1:∀y∈kR0,uO y:=λy hy=>by
 rcases List.mem_cons.1 hy with rfl|hy
 ·exact⟨by decide,by decide,by decide,by decide,by decide⟩
 ·rcases List.mem_cons.1 hy with rfl|hy
  ·exact⟨by decide,by decide,by decide,by decide,by decide⟩
  ·rcases List.mem_cons.1 hy with rfl|hy
   ·exact⟨by decide,by decide,by decide,by decide,by decide⟩
   ·cases hy
theorem tN0:tG hP0 where
 p:=by decide
 s:=λy hy=>by cases hy
 e:=bZ1
 d:=(show (Lit.int .i64 10).wf=true by kernel_rfl)
 lp:=by decide
 ls:=by decide
 le:=by decide
theorem oU0 (p:List cJ) (m:Mx) (es:List En):(imgP p m es).map (·.name)=[⟨#[112,111,115]⟩,⟨#[109,97,116,114,105,120]⟩,⟨#[114,101,97,100,105,110,103,115]⟩,⟨#[102,105,114,115,116]⟩,⟨#[115,117,114,102,97,99,101,115]⟩,⟨#[115,117,114,102,97,99,101]⟩,⟨#[108,101,102,116]⟩,⟨#[114,105,103,104,116]⟩,⟨#[99,111,115,116]⟩,⟨#[111,114,100,101,114]⟩,⟨#[97,116]⟩]:=rfl
theorem mC1 {p:List cJ} {m:Mx} {es:List En} {j k:Nat} {a b:bD} (ha:(imgP p m es)[j]?=some a) (hb:(imgP p m es)[k]?=some b) (h:j<k):a.name≠b.name:=λe=>by
 have hn:((imgP p m es).map (·.name)).Nodup:=by rw[oU0];decide +kernel
 have h1:((imgP p m es).map (·.name))[j]?=some a.name:=by rw[Ad,ha];rfl
 have h2:((imgP p m es).map (·.name))[k]?=some a.name:=by rw[Ad,hb,e];rfl
 have:=sG hn h1 h2
 omega
theorem rI0 {P Q:List bD} (h:Q.map bare=P.map bare) {k:Nat} {p:bD} (hp:P[k]?=some p):∃q,Q[k]?=some q/\q.name=p.name/\q.data=p.data:=by
 have h1:(Q.map bare)[k]?=some (bare p):=by rw[h,Ad,hp];rfl
 rw[Ad]at h1
 cases hq:Q[k]? with
 | none=>rw[hq]at h1;cases h1
 | some q =>
  rw[hq]at h1;have e:bare q=bare p:=Option.some.inj h1;have e1:(bare q).name=(bare p).name:=by rw[e]
  have e2:(bare q).data=(bare p).data:=by rw[e]
  exact⟨q,rfl,e1,e2⟩
end
end Go.Proofs.YtcijgkfpobpdbaaGreatDoor
