/- The texts Bbld R18e ImgL CmpP R18f ChapP Wk18P WkH Chap Wk18, one behind the other. -/
import Derived.Test.YtiopheoljccmpaaGreatDoorCq38
import Derived.Test.YtiopheoljccmpaaGreatDoorCq37
import Derived.Test.YtiopheoljccmpaaGreatDoorCq35
import Derived.Test.YtiopheoljccmpaaGreatDoorCq40
import Derived.Test.YtiopheoljccmpaaGreatDoorCq36
import Derived.Test.YtiopheoljccmpaaGreatDoorCq2
import Derived.Test.YtiopheoljccmpaaGreatDoorCq16
import Derived.Test.YtiopheoljccmpaaGreatDoorCq22
import Derived.Test.YtiopheoljccmpaaGreatDoorCq18
import Derived.Test.YtiopheoljccmpaaGreatDoorCq39
open Go.Lib renaming hid → Aa
open List renaming length_map → Ab,getElem?_eq_getElem → Ad,getElem?_map → Af,range → Ah,length → Aj,length_singleton → Ak,mem_of_getElem? → Al,map_cons → Am,sum_cons → An,map_singleton → Ao,sum_singleton → Ap,length_append → Ar,length_range → As,map_map → At,map_append → Au,sum_append → Av
open Nat renaming zero_le → Ac,le_trans → Ae,le_refl → Ag
open Int renaming toNat_of_nonneg → Ai,lt_of_lt_of_le → Aq,le_of_lt → Aw
set_option maxHeartbeats 8000000
namespace Go.Proofs.YtiopheoljccmpaaGreatDoor
set_option maxRecDepth 100000
section
open Go Go.RowKit Go.Shelf
attribute [local go_sem] aM aP
def cF (p:List bT) (m:Option Mx) (l:List En) (w:World) (e:Ending) (w':World):Prop :=
 aB w w'/\∃v,e=.returned (.tuple #[v,.int .i64 (jS p m l).1])/\aO w' w.heap.size 5 1 aQ v (jS p m l).2
theorem qP0 (p:List bT) (mv:Value) (m:Option Mx) (l:List En) (pa a:Option Addr) (pc c:Nat) (w:World) (he:Env w) (hp:p.length<=4611686018427387904) (hl:l.length<=140737488355328) (hs:∀x∈l,x.r.size<9223372036854775807/\x.s.size<9223372036854775807)
  (jz:aF w pa 2 (p.map bI)) (hm:dX1 w mv m) (ah:aF w a 5 (l.map bE)) (hc:nU p m l≠0) :
  Calls Tryz.prog 10 #[.slice pa p.length pc,mv,.slice a l.length c] w (cF p m l w):=by
 have ep:aB w (w.alloc (.cells #[.slice a l.length c] 41)):=aB.alloc _ _;have CC:=Aa (cZ0 p mv m l pa a pc c _ (he.grows ep) hp hl hs (jz.grows ep) (hm.grows ep) (ah.grows ep));have cj:(w.alloc (.cells #[.slice a l.length c] 41)).cell? ⟨w.heap.size,0,none⟩=some (.slice a l.length c):=aX w _ _ (0,0) 0 _ rfl;unfold cF jS;rw[if_neg hc];obtain⟨f,hf⟩:=exq (nU p m l);rw[<-hf]at CC hc ⊢;clear he hs jz hm ah hf ep;go_enter Tryz.func10,Tryz.ntmps10
 go_wp2_with fail
 refine CC.out.mono ?_;rintro e w1 ⟨rfl,aq⟩;go_wp2
 go_ret2;exact⟨aB.trans _ _ _ (aB.alloc _ _) aq,_,rfl,aO.nil _ _ _ _ _⟩
theorem eR1 {k:Nat} (h:k<=1048576):(Lit.int .i64 (k:Int)).wf=true:=by
 simp[Lit.wf,IntKind.min,IntKind.max,IntKind.bits,IntKind.signed];omega
theorem cF.long {p:List bT} {m:Mx} {l:List En} {w w':World} (hc:nU p (some m) l=0) (h:¬(cH (bls (fX (sortS l)))=0/\cH (bls (cT (sortS l)))=0)) (hg:aB w w'):cF p (some m) l w (.returned (.tuple #[.slice none 0 0,.int .i64 2])) w':=by
 unfold cF jS;rw[if_pos hc];simp only;rw[if_neg h];exact⟨hg,_,rfl,aO.nil _ _ _ _ _⟩
theorem cF.join {p:List bT} {m:Mx} {l:List En} {w w':World} {e:Ending} (hc:nU p (some m) l=0) (h:cH (bls (fX (sortS l)))=0/\cH (bls (cT (sortS l)))=0) (hg:aB w w')
  (hj:(cZ (imgP p m (sortS l))=0->∃v,e=.returned (.tuple #[v,.int .i64 0])/\aO w' w.heap.size 5 1 aQ v (file14 (imgP p m (sortS l))))/\(cZ (imgP p m (sortS l))≠0->e=.returned (.tuple #[.slice none 0 0,.int .i64 (cZ (imgP p m (sortS l)))]))):cF p (some m) l w e w':=by
 unfold cF jS;rw[if_pos hc];simp only;rw[if_pos h];refine⟨hg,?_⟩;by_cases h0:cZ (imgP p m (sortS l))=0
 ·rw[if_pos h0];exact hj.1 h0
 ·rw[if_neg h0];exact⟨_,hj.2 h0,aO.nil _ _ _ _ _⟩
theorem wU0 (p:List bT) (mb bm:Nat) (m:Mx) (l:List En) (pa a:Option Addr) (pc c:Nat) (w:World) (he:Env w) (hp:p.length<=4611686018427387904) (hs:∀x∈l,xM x) (hz:∀x∈l,x.r.size<=1099511627776/\x.s.size<=1099511627776) (hl:l.length<=20000) (hv:bP p=true)
  (jz:aF w pa 2 (p.map bI)) (hm:gA w mb bm m) (ah:aF w a 5 (l.map bE)) (hc:nU p (some m) l=0) :
  Calls Tryz.prog 10 #[.slice pa p.length pc,.pointer (some ⟨mb,0,none⟩),.slice a l.length c] w (cF p (some m) l w):=by
 have ep:aB w (w.alloc (.cells #[.slice a l.length c] 41)):=aB.alloc _ _;have CC:=Aa (cZ0 p (.pointer (some ⟨mb,0,none⟩)) (some m) l pa a pc c _ (he.grows ep) hp (by omega) (λx hx=>by have:=hz x hx;omega) (jz.grows ep) (dX1.grows (m:=some m) ⟨mb,bm,rfl,hm⟩ ep) (ah.grows ep));have cj:(w.alloc (.cells #[.slice a l.length c] 41)).cell? ⟨w.heap.size,0,none⟩=some (.slice a l.length c):=aX w _ _ (0,0) 0 _ rfl;have aal:=Aa (fN0 w #[.slice a l.length c] 41 0);rw[hc]at CC;have HCH:=Aa hc;obtain⟨es,pt⟩:=exq (sortS l);have HSO:=Aa pt;have HE:=Aa he;have HPT:=Aa jz;have HM:=Aa hm;have HAT:=Aa ah;have HZ:=Aa hz;have HS:=Aa hs;have HGA:=Aa ep;clear he hs hz jz hm ah hc pt;go_enter Tryz.func10,Tryz.ntmps10
 go_wp2_with fail
 obtain⟨wA,hwA⟩:=exq (w.alloc (.cells #[.slice a l.length c] 41));have agq:w.heap.size<wA.heap.size:=by rw[hwA];simp
 rw[<-hwA]at HGA CC aal cj ⊢;have HSZ:=Aa agq;obtain⟨eb,ff⟩:=exq w.heap.size;have HEB:=Aa ff;have HF:Hid (wA.frozen? ⟨eb,0,none⟩=false):=by rw[ff];exact aal
 rw[<-ff]at cj ⊢;clear hwA aal ep agq ff;refine CC.out.mono ?_;rintro e w1 ⟨rfl,aq⟩;have aaa:=aq.cell cj;have CS:=Aa (uT0 l a c w1 (by omega) HS.out (HAT.out.grows (aB.trans _ _ _ HGA.out aq)));clear CC cj;go_wp2_with fail
 refine CS.out.mono ?_;rintro e w2 ⟨v2,rfl,ji,an⟩;rw[<-HSO.out]at ji;have pt:=HSO.out;have HES:Hid (∀x∈es,x∈l):=λx hx=>by rw[pt]at hx;exact(((fZ l).2 x).1 hx).1
 have hel:es.length<=l.length:=by rw[pt];exact dI ((fZ l).1.imp λ{a b} qd e=>by rw[e,eO]at qd;cases qd) λy hy=>(((fZ l).2 y).1 hy).1
 have hf2:w2.frozen? ⟨eb,0,none⟩=false:=((aB.trans _ _ _ aq an).froz (by rw[HEB.out];exact HSZ.out)).trans HF.out;have aab:=an.cell aaa;have ej:aB w w2:=aB.trans _ _ _ HGA.out (aB.trans _ _ _ aq an);have uh:eb<w1.heap.size:=by rw[HEB.out];exact Nat.lt_of_lt_of_le HSZ.out aq.size
 have hv3:=pV ji (p:=⟨eb,0,none⟩) uh v2;obtain⟨sa,sc,rfl,_,_,iv⟩:=hv3.at_ gM;have gd:aB w (w2.setCell ⟨eb,0,none⟩ (.slice sa es.length sc)):=ej.set (by rw[HEB.out];exact Ag _) _;have ve:(w2.setCell ⟨eb,0,none⟩ (.slice sa es.length sc)).cell? ⟨eb,0,none⟩=some (.slice sa es.length sc):=World.cell?_setCell_same _ _ _ (by rw[aab];first|done|rfl)
 obtain⟨w3,hw3⟩:=exq (w2.setCell ⟨eb,0,none⟩ (.slice sa es.length sc));clear CS aq an aaa ji hv3 pt HF;go_wp2_with fail
 rw[<-hw3]at iv gd ve ⊢;clear hw3 hf2 aab ej uh HSZ HGA;have HAE:=Aa iv;have HCE:=Aa ve;clear iv ve;have CR:=Aa (oG0 (λx=>x.r) _ gI1 cB1 es sa sc w3 (by omega) (HAE.out.grows (aB.refl _)));obtain⟨BR,hBR⟩:=exq (fX es);rw[show kT (es.map λx=>x.r)=BR from hBR.symm]at CR
 have HBR:=Aa hBR;have hlR:BR.length<=20000:=by rw[hBR];have:=lH (es.map λx=>x.r);rw[Ab]at this;unfold fX;omega
 have HZR:Hid (∀s∈BR,s.size<=1099511627776):=λs hs=>by
  rw[hBR]at hs;obtain⟨x,hx,rfl⟩:=List.mem_map.1 (rG hs);exact(HZ.out x (HES.out x hx)).1
 clear hBR;refine CR.out.mono ?_;rintro e w4 ⟨d8,bR,ajb,rfl,hbR,hOR⟩;obtain⟨a',c',e',_,_,hAR⟩:=hOR.at_ (k:=1) (λx=>(rfl:(stC x).length=1));have e'':=(Value.slice.inj e').1;subst e'';have CLR:=Aa (cJ0 BR (some ⟨bR,0,none⟩) ajb w4 (by omega) HZR.out (λq hq=>by cases hq;exact hbR) hAR);clear CR e' hAR hOR hbR HZR;go_wp2_with fail
 refine CLR.out.mono ?_;rintro e w5 ⟨fh,hTR⟩;clear CLR;have g5:=aB.trans _ _ _ d8 fh;clear d8 fh;rcases hTR with ⟨uy,tr,rfl,hTR,_⟩|⟨uy,rfl⟩
 ·have HTR:=Aa hTR
  have HKR:=Aa uy;have acu:=g5.cell HCE.out;clear hTR uy;go_wp2_with fail
  have CS:=Aa (oG0 (λx=>x.s) _ gL1 cM1 es sa sc w5 (by omega) (HAE.out.grows g5));obtain⟨BS,hBS⟩:=exq (cT es);rw[show kT (es.map λx=>x.s)=BS from hBS.symm]at CS
  have HBS:=Aa hBS;have hlS:BS.length<=20000:=by rw[hBS];have:=lH (es.map λx=>x.s);rw[Ab]at this;unfold cT;omega
  have HZS:Hid (∀s∈BS,s.size<=1099511627776):=λs hs=>by
   rw[hBS]at hs;obtain⟨x,hx,rfl⟩:=List.mem_map.1 (rG hs);exact(HZ.out x (HES.out x hx)).2
  clear hBS;refine CS.out.mono ?_;rintro e w6 ⟨rk,bS,ajc,rfl,hbS,hOS⟩;obtain⟨a',c',e',_,_,hAS⟩:=hOS.at_ (k:=1) (λx=>(rfl:(stC x).length=1));have e'':=(Value.slice.inj e').1;subst e'';have CLS:=Aa (cJ0 BS (some ⟨bS,0,none⟩) ajc w6 (by omega) HZS.out (λq hq=>by cases hq;exact hbS) hAS);clear CS e' hAS hOS hbS;go_wp2_with fail
  refine CLS.out.mono ?_;rintro e w7 ⟨aet,hTS⟩;clear CLS;have g7:=aB.trans _ _ _ g5 (aB.trans _ _ _ rk aet);have G57:=Aa (aB.trans _ _ _ rk aet);clear rk aet acu;rcases hTS with ⟨wg,ts,rfl,hTS,_⟩|⟨wg,rfl⟩
  ·have HTS:=Aa hTS
   have HKS:=Aa wg;have hmm:=@run_makeMap Tryz.prog;have CLn:=λW h=>Aa (nV0 (bls BS) ts W (hTS.grows (w':=W) h));obtain⟨w8,hw8⟩:=exq ((w7.alloc (.map #[] 0)).alloc (.cells #[.map (some w7.heap.size)] 99));have eo:aB w7 w8:=by rw[hw8];exact(aB.alloc _ _).al _
   have wz:=(World.ownsMap_made w7 Tryz.prog 9 (plainElem (H:=Unit) Tryz.prog 3)).alloc (.cells #[.map (some w7.heap.size)] 99);rw[<-hw8]at wz
   have vg:w8.cell? ⟨w7.heap.size+1,0,none⟩=some (.map (some w7.heap.size)):=by
    rw[hw8];have gk:(w7.alloc (.map #[] 0)).heap.size=w7.heap.size+1:=by simp
    have h:=aX (w7.alloc (.map #[] 0)) #[.map (some w7.heap.size)] 99 (0,0) 0 _ rfl;rw[gk]at h;exact h
   obtain⟨agr,ags,hcS⟩:=nP wg;have ed:(bls BS).length=BS.length:=by unfold bls;rw[Ab]
   have CT:=λk W h hk=>Aa (bG1 (bls BS) ts k W agr ags hcS hk (hTS.grows (w':=W) h))
   have HGT:Hid (∀k,k<BS.length->BS[k]?=some (mkB (nth (bls BS) k))):=λk hk=>by
    rw[HBS.out]at hk ⊢;exact dQ1 hk
   have HND:Hid BS.Nodup:=by rw[HBS.out];exact mC _
   rw[ed]at CT CLn;clear hTS wg agr ags hcS ed;go_wp2_with fail
   rw[<-hw8];have CL8:=CLn w8 eo;clear CLn;obtain⟨mp,hmp⟩:=exq w7.heap.size;obtain⟨ib,hib⟩:=exq (mp+1);rw[<-hmp,<-hib]at vg ⊢;rw[<-hmp]at wz;have HMP:=Aa hmp;have HIB:=Aa hib;clear hw8 hmm hmp hib;refine CL8.out.mono ?_;rintro e w9 ⟨rfl,rfl⟩;clear CL8;go_wp2_with fail
   go_loopw [54] (λi wr=>∃(k:Nat) (D:DataW Unit),k<=BS.length/\i=.int .i64 k/\wr.cell? ⟨ib,0,none⟩=some (.map (some mp))/\wr.ownsMap Tryz.prog 9 (plainElem Tryz.prog 3) mp k D/\Hid (IdM BS k D)/\aB w7 wr) (λi _=>BS.length-(intOf i).toNat)
   case atStart=>exact⟨0,_,Ac _,rfl,vg,wz,aZ1 _ _,eo⟩
   case round =>
    clear vg wz eo;obtain⟨k,D,hk,rfl,fu,ae,hM,hg⟩:=hrel;by_cases af:k<BS.length
    ·have CT1:=CT k wr hg af
     obtain⟨sk,uk⟩:=exq (mkB (nth (bls BS) k));have x7:=HGT.out k af;rw[<-uk]at CT1 x7;have ajd:sk.size<=maxLen:=Ae (HZS.out sk (Al x7)) (by unfold maxLen;omega);have HBK:=Aa x7;have di:(k:Int)<BS.length:=by omega
     have hwk:=eR1 (k:=k) (by omega);have hkm:k<maxLen:=by unfold maxLen;omega
     clear CT uk x7;go_wp2_with fail
     refine CT1.out.mono ?_;rintro e w10 ⟨rfl,et⟩;have aee:=et.cell fu;have aj:=bQ ae et;have an:=aB.trans _ _ _ hg et;clear CT1 fu ae;go_wp2_with (at_mapUpdate;refine wpList_mapUpdate_own _ rfl _ _ _ 99 rfl 9 3 (Maps.string_keyed Tryz.underlying9) Tryz.underlying99 _ mp k D rfl aj hkm _ _ (.string sk.data.toList) rfl rfl (WideMaps.keyOf_string_mk Tryz.underlying9 ajd) _ [] (plainElem_int Tryz.underlying3 hwk) ?_;intro w11 ia p9)
     have hM2:=Aa (hR1 hM.out aj HND.out HBK.out);have aje:w11.cell? ⟨ib,0,none⟩=some (.map (some mp)):=bB p9 aee (by rw[HIB.out];simp);have bu:=an.grown p9 (λq hq=>by cases hq;rw[HMP.out];exact Ag _);clear aee aj hM hg an et p9;go_roundw
     case rel=>exact⟨k+1,_,af,by go_num,aje,ia,hM2,bu⟩
     case measure=>simp[intOf];omega
    ·obtain rfl:k=BS.length:=by omega
     have HID:Hid (eT1 wr ib BS):=⟨_,_,_,fu,ae,hM.out⟩;clear CT fu ae hM HND HGT;go_wp2_with fail
     have G20:=Aa (aB.trans _ _ _ g7 hg);have aeu:=aB.trans _ _ _ gd (aB.trans _ _ _ g7 hg);have CPE:=Aa (rW0 p pa pc wr hv (HPT.out.grows aeu));have G5r:=Aa (aB.trans _ _ _ G57.out hg);have G7r:=Aa hg;clear hg g7 g5;refine CPE.out.mono ?_;rintro e w21 ⟨v1,rfl,lf,abz⟩;clear CPE;have xa:=abz.cell (G20.out.cell HCE.out);have CI:=Aa (zI newR _ gS1 bF1 es sa sc w21 (by omega) (HAE.out.grows (aB.trans _ _ _ G20.out abz)));have HV1:=Aa lf;clear lf;go_wp2_with fail
     refine CI.out.mono ?_;rintro e mn ⟨adc,v2,rfl,ji⟩;clear CI;have HV2:=Aa ji;have xg:=adc.cell xa;have ke:=λ(Y:World)=>bL1 es.length Y (by omega);have G22:=Aa (aB.trans _ _ _ abz adc);have G2122:=Aa adc;have HS21:Hid (w.heap.size<=w21.heap.size):=Ae aeu.size abz.size;clear ji xa abz adc;go_wp2_with fail
     have cg:=eF0 (w:=mn) (n:=es.length) (by omega);have hrl:(Ah es.length).length=es.length:=As;rw[Nat.mul_one]at cg;have lw:List.replicate es.length 0=lO (Ah es.length) 0 0:=by rw[qK,hrl]
     rw[lw]at cg;clear lw;obtain⟨w23,ade⟩:=exq (mn.alloc (.cells (madeCells #[.int .i64 0] es.length) 3));have agt:aB mn w23:=by rw[ade];exact aB.alloc _ _
     have aam:mn.heap.size<w23.heap.size:=by rw[ade];simp
     rw[<-ade]at cg ⊢;obtain⟨ob,xn⟩:=exq mn.heap.size;rw[<-xn]at aam ⊢;have aac:aO w23 mn.heap.size 3 1 jP (.slice (some ⟨ob,0,none⟩) es.length es.length) (lO (Ah es.length) 0 0):=by rw[xn];exact cg
     have HOB:=Aa xn;have agu:mn.heap.size<=ob:=by rw[xn];exact Ag _
     have HOBE:=Aa agu
     have X22:Aside (eT1 mn ib BS/\mn.cell? ⟨eb,0,none⟩=some (.slice sa es.length sc)/\aF mn sa 5 (es.map bE)/\qT mn tr (bls BR)/\qT mn ts (bls BS)/\aO mn w.heap.size 5 1 aQ v1 (zK0 p)/\aO mn w.heap.size 3 1 jP v2 (idxL newR es es.length)/\gA mn mb bm m/\Env mn/\aB w mn):=by
      have g1:=aB.trans _ _ _ G20.out G22.out;have g0:=aB.trans _ _ _ gd g1;exact⟨HID.out.grows G22.out,xg,HAE.out.grows g1,HTR.out.grows (aB.trans _ _ _ G5r.out G22.out),HTS.out.grows (aB.trans _ _ _ G7r.out G22.out),(HV1.out.grows G2122.out).base aeu.size,HV2.out.base HS21.out,HM.out.grows g0,HE.out.grows g0,g0⟩
     clear ade cg ke xg xn agu;go_loopw [79] (λi wr=>∃(k:Nat),k<=es.length/\i=.int .i64 k/\Hid (aO wr mn.heap.size 3 1 jP (.slice (some ⟨ob,0,none⟩) es.length es.length) (lO (Ah es.length) 0 k))/\aB mn wr/\ob<wr.heap.size) (λi _=>es.length-(intOf i).toNat)
     case atStart=>exact⟨0,Ac _,rfl,aac,agt,aam⟩
     case round =>
      clear aac agt aam;obtain⟨k,hk,rfl,ae,hg,uj⟩:=hrel;by_cases af:k<es.length
      ·have di:(k:Int)<es.length:=by omega
       obtain⟨z,hz⟩:∃z,(lO (Ah es.length) 0 k)[k]?=some z:=⟨_,Ad (by rw[mK _ _ (by omega)];omega)⟩;have e1:=eH (f:=λn:Nat=>Value.int .i64 n) ae.out hz;obtain⟨f1,_,bd⟩:=fM (f:=λn:Nat=>Value.int .i64 n) ae.out (k:=k) (by rw[mK _ _ (by omega)];omega) k;rw[sR (List.getElem?_range af)]at bd;have HO:=Aa bd;clear hz ae bd;go_wp2_with fail
       go_roundw
       case rel=>exact⟨k+1,af,by go_num,HO.out,hg.set HOBE.out _,by simpa using uj⟩
       case measure=>simp[intOf];omega
      ·obtain rfl:k=es.length:=by omega
       have aj:aO wr mn.heap.size 3 1 jP (.slice (some ⟨ob,0,none⟩) es.length es.length) (Ah es.length):=by
        have h:=ae.out;have e9:=sF (Ah es.length) 0;rw[As]at e9;rwa [e9]at h
       have HMS:Hid (∀x∈es,x.s∈BS):=λx hx=>by rw[HBS.out];exact nX0 (List.mem_map_of_mem hx)
       have OA:=Aa (iY1 (es:=es) (BS:=BS) (ib:=ib) (eb:=eb) (sc:=sc) (ob:=ob) (sa:=sa) (wB:=mn) (w0:=wr) (by omega) (by omega) hg HOBE.out X22.out.1 X22.out.2.1 X22.out.2.2.1 aj uj HMS.out (λx hx=>Ae (HZ.out x (HES.out x hx)).2 (by unfold maxLen;omega)));have CSS:=Aa (bV0 OA.out.1 es.length (Ah es.length).toArray wr (by simp) (λi hi=>by unfold Fd;simp[hi]) OA.out.2);clear ae aj;go_wp2_with fail
       refine CSS.out.mono ?_;rintro e w30 ⟨rfl,dk,hsd,zn,SD⟩;have agv:=oE0 hg HOBE.out SD;have HL:=Aa (eK1 (_wB:=mn) hsd zn HMS.out OA.out.1.row SD);have aan:=agv.cell X22.out.2.1;clear CSS SD hsd zn OA hg uj;obtain⟨O,hO⟩:=exq (grpsL (keySE BS es) es.length BS.length);rw[<-hO]at HL;have HO:=Aa hO;obtain⟨so,hso⟩:=exq (O.map λi=>es.getD i enZero);have HSO2:=Aa hso;have agw:so.length=es.length:=by rw[hso,Ab];exact HL.out.2.1
       have HG30:=Aa agv;obtain⟨iu,hiu,hzu,hsu,hbu⟩:=jJ1;clear hO hso;go_wp2_with (at_make;refine wpList_make_full _ rfl _ _ 41 rfl w30.heap.size 89 iu enZero.agg 5 Tryz.underlying41 hiu hzu hsu .i64 .i64 _ _ es.length rfl rfl rfl rfl (by rw[hbu];omega) (by unfold maxLen;omega) (Ag _) ?_;intro w31 vh acn)
       have agx:=(aB.refl w30).grown acn (λq hq=>by cases hq);obtain⟨sb,wj⟩:=exq w30.heap.size;rw[<-wj]at vh ⊢;obtain⟨hS0,_⟩:=kS0.made (so:=so) vh;have agy:w30.heap.size<=sb:=by rw[wj];exact Ag _
       have HSBE:=Aa agy;clear vh acn wj agy hiu hzu hsu hbu aan;go_wp2_with fail
       go_loopw [95] (λi wr=>∃(k:Nat),k<=es.length/\i=.int .i64 k/\kS0 wr sb es.length so k/\aB w30 wr) (λi _=>es.length-(intOf i).toNat)
       case atStart=>exact⟨0,Ac _,rfl,hS0,agx⟩
       case round =>
        clear hS0 agx;obtain⟨k,hk,rfl,hS,hg⟩:=hrel;by_cases af:k<es.length
        ·obtain⟨o,ho⟩:∃o,O[k]?=some o:=⟨_,Ad (by rw[HL.out.2.1];exact af)⟩
         have hoe:=HL.out.2.2 o (Al ho);obtain⟨b1,o1,e1,jr⟩:=at1 (f:=λn:Nat=>Value.int .i64 n) HL.out.1 (aH (List.getElem?_eq_some_iff.1 ho).1);obtain⟨rfl,rfl⟩:ob=b1/\0=o1:=by simpa using e1
         have hoc:=hg.cell (jr k o ho);rw[Nat.zero_add]at hoc;obtain⟨⟨xr,xs,xl,xt,xc⟩,hx⟩:∃x,es[o]?=some x:=⟨_,Ad hoe⟩;have gr:=aB.trans _ _ _ HG30.out hg;have hec:=gr.cell X22.out.2.1;obtain⟨ba,oa,rfl,cn⟩:=(X22.out.2.2.1.grows gr).get (aH hoe);have c0:wr.cell? ⟨ba,oa+o*5,none⟩=some (.string xr):=cn o _ hx 0 _ rfl;have c1:wr.cell? ⟨ba,oa+o*5+1,none⟩=some (.string xs):=cn o _ hx 1 _ rfl;have c2:wr.cell? ⟨ba,oa+o*5+2,none⟩=some (.int .i64 xl):=cn o _ hx 2 _ rfl;have c3:wr.cell? ⟨ba,oa+o*5+3,none⟩=some (.int .i64 xt):=cn o _ hx 3 _ rfl;have c4:wr.cell? ⟨ba,oa+o*5+4,none⟩=some (.int .i64 xc):=cn o _ hx 4 _ rfl
         have uk:so[k]?=some ⟨xr,xs,xl,xt,xc⟩:=by
          rw[HSO2.out,Af,ho];simp only[Option.map_some];rw[List.getD_eq_getElem?_getD,hx];rfl
         have HST:=Aa (hS.step af uk);obtain⟨q0,d0⟩:=hS.cell (j:=k*5) (by omega);have S1:=hS.set (j:=k*5) (Ag _) (.string xr);obtain⟨q1,d1⟩:=S1.cell (j:=k*5+1) (by omega);have S2:=S1.set (j:=k*5+1) (by omega) (.string xs);obtain⟨q2,d2⟩:=S2.cell (j:=k*5+2) (by omega);have S3:=S2.set (j:=k*5+2) (by omega) (.int .i64 xl);obtain⟨q3,d3⟩:=S3.cell (j:=k*5+3) (by omega);have S4:=S3.set (j:=k*5+3) (by omega) (.int .i64 xt);obtain⟨q4,d4⟩:=S4.cell (j:=k*5+4) (by omega);have f0:=hS.froz (k*5);have f1:=hS.froz (k*5+1);have f2:=hS.froz (k*5+2);have f3:=hS.froz (k*5+3);have f4:=hS.froz (k*5+4);have hoi:(o:Int)<es.length:=by omega
         have di:(k:Int)<es.length:=by omega
         clear ho jr hx cn uk hS e1 S1 S2 S3 S4;go_wp2_with fail
         go_roundw
         case rel=>exact⟨k+1,af,by go_num,HST.out,((((hg.set HSBE.out _).set HSBE.out _).set HSBE.out _).set HSBE.out _).set HSBE.out _⟩
         case measure=>simp[intOf];omega
        ·obtain rfl:k=es.length:=by omega
         rw[<-agw]at hS;have hSA:=hS.at_;go_wp2_with fail
         have CI2:=Aa (zI iB0 _ iF1 aT1 so (some ⟨sb,0,none⟩) es.length wr (by omega) hSA);rw[agw]at CI2;refine CI2.out.mono ?_;rintro e w40 ⟨px,v4,rfl,hv4⟩;obtain⟨a4,c4,rfl,_,_,me⟩:=hv4.at_ (k:=1) (λx=>(rfl:(jP x).length=1));have HAT4:=Aa me;have F40:=Aa (aB.refl w40);have G40:=Aa (aB.trans _ _ _ HG30.out (aB.trans _ _ _ hg px));have HO40:=Aa (HL.out.1.grows (aB.trans _ _ _ hg px));obtain⟨v2a,v2c,rfl,_,_,gz⟩:=X22.out.2.2.2.2.2.2.1.at_ (k:=1) (λx=>(rfl:(jP x).length=1));have HAT2:=Aa gz;obtain⟨a40,c40,rfl,sj,abb⟩:=cB X22.out.2.2.2.2.2.1;have PP40:=Aa (And.intro (sj.grows G40.out) abb);clear sj abb;have afd:=G40.out.cell X22.out.2.1;clear CI2 px hv4 me gz hg hS hSA;go_wp2_with fail
         refine(qQ0 w40 mb bm m (X22.out.2.2.2.2.2.2.2.1.grows G40.out)).mono ?_;rintro e w41 ⟨v41,rfl,abc,ng⟩;obtain⟨a41,c41,rfl,sn,abd⟩:=cB abc;have PP41:=Aa (And.intro sn abd);have G41:=Aa (aB.trans _ _ _ G40.out ng);have E41:=Aa ng;have F41:=Aa (aB.trans _ _ _ F40.out ng);clear abc sn abd ng;go_wp2_with fail
         obtain⟨okR,lR,cR⟩:=nP HKR.out;obtain⟨okS,lS,cS⟩:=nP HKS.out;refine(oF0 (bls BR) tr w41 okR lR cR (X22.out.2.2.2.1.grows G41.out)).mono ?_;rintro e w42 ⟨v42,rfl,abe,nh⟩;obtain⟨a42,c42,rfl,su,abf⟩:=cB abe;have PP42:=Aa (And.intro su abf);have G42:=Aa (aB.trans _ _ _ G41.out nh);have E42:=Aa nh;have F42:=Aa (aB.trans _ _ _ F41.out nh);clear abe su abf nh;go_wp2_with fail
         have hil:=oM newR es es.length;have aiu:=oM iB0 so es.length;obtain⟨_,_,_,hck⟩:=jH HCH.out;have afq:=(fK hv).1
         have HNN:Hid (∀x∈es,0<=x.l/\x.l<64/\0<=x.t/\x.t<64/\0<=x.c/\x.c<=30000):=λx hx=>by
          have:=kJ (hck x (HES.out x hx));omega
         have HMZ:Hid (∀x∈es,x.s.size<=maxLen):=λx hx=>Ae (HZ.out x (HES.out x hx)).2 (by unfold maxLen;omega);clear hck;refine(nO (idxL newR es es.length) v2a v2c w42 (by omega) (λn hn=>by have:=oR hn;omega) (HAT2.out.grows G42.out)).mono ?_;rintro e w43 ⟨v43,rfl,abg,ni⟩;obtain⟨a43,c43,rfl,sw,abh⟩:=cB abg;have PP43:=Aa (And.intro sw abh);have G43:=Aa (aB.trans _ _ _ G42.out ni);have E43:=Aa ni;have F43:=Aa (aB.trans _ _ _ F42.out ni);clear abg sw abh ni;go_wp2_with fail
         refine(oF0 (bls BS) ts w43 okS lS cS (X22.out.2.2.2.2.1.grows G43.out)).mono ?_;rintro e w44 ⟨v44,rfl,abi,nj⟩;obtain⟨a44,c44,rfl,sx,abj⟩:=cB abi;have PP44:=Aa (And.intro sx abj);have G44:=Aa (aB.trans _ _ _ G43.out nj);have E44:=Aa nj;have F44:=Aa (aB.trans _ _ _ F43.out nj);clear abi sx abj nj;have aao:=G44.out.cell X22.out.2.1;go_wp2_with fail
         refine(pZ (sidE BS) _ #[.pointer (some ⟨ib,0,none⟩)] gO1 es eb sa sc w44 (by omega) (λx hx=>by have:=qV (HMS.out x hx);omega) (X22.out.2.2.1.grows G44.out) aao (λx hx W hW=>cK1 BS ib (sidE BS x) x W (X22.out.1.grows (aB.trans _ _ _ G44.out hW)) (nN (HMS.out x hx)) (HMZ.out x hx))).mono ?_;rintro e w45 ⟨np,v45,rfl,abk⟩;obtain⟨a45,c45,rfl,sy,abl⟩:=cB abk;have PP45:=Aa (And.intro sy abl);have G45:=Aa (aB.trans _ _ _ G44.out np);have E45:=Aa np;have F45:=Aa (aB.trans _ _ _ F44.out np);clear abk sy abl np;have aap:=G45.out.cell X22.out.2.1;go_wp2_with fail
         refine(pZ (λx=>x.l.toNat) _ #[] fP1 es eb sa sc w45 (by omega) (λx hx=>by have:=HNN.out x hx;show x.l.toNat<_;omega) (X22.out.2.2.1.grows G45.out) aap (λx hx W hW=>by rw[show ((x.l.toNat:Nat):Int)=x.l from Ai (HNN.out x hx).1];exact bY1 x W)).mono ?_
         rintro e w46 ⟨nr,v46,rfl,abm⟩;obtain⟨a46,c46,rfl,s5,abn⟩:=cB abm;have PP46:=Aa (And.intro s5 abn);have G46:=Aa (aB.trans _ _ _ G45.out nr);have E46:=Aa nr;have F46:=Aa (aB.trans _ _ _ F45.out nr);clear abm s5 abn nr;have aaq:=G46.out.cell X22.out.2.1;go_wp2_with fail
         refine(pZ (λx=>x.t.toNat) _ #[] fZ1 es eb sa sc w46 (by omega) (λx hx=>by have:=HNN.out x hx;show x.t.toNat<_;omega) (X22.out.2.2.1.grows G46.out) aaq (λx hx W hW=>by rw[show ((x.t.toNat:Nat):Int)=x.t from Ai (HNN.out x hx).2.2.1];exact dV1 x W)).mono ?_
         rintro e w47 ⟨nu,v47,rfl,abo⟩;obtain⟨a47,c47,rfl,s6,abp⟩:=cB abo;have PP47:=Aa (And.intro s6 abp);have G47:=Aa (aB.trans _ _ _ G46.out nu);have E47:=Aa nu;have F47:=Aa (aB.trans _ _ _ F46.out nu);clear abo s6 abp nu;have aar:=G47.out.cell X22.out.2.1;go_wp2_with fail
         refine(pZ (λx=>x.c.toNat) _ #[] cH1 es eb sa sc w47 (by omega) (λx hx=>by have:=HNN.out x hx;show x.c.toNat<_;omega) (X22.out.2.2.1.grows G47.out) aar (λx hx W hW=>by rw[show ((x.c.toNat:Nat):Int)=x.c from Ai (HNN.out x hx).2.2.2.2.1];exact wJ0 x W)).mono ?_
         rintro e w48 ⟨ny,v48,rfl,abq⟩;obtain⟨a48,c48,rfl,s7,abr⟩:=cB abq;have PP48:=Aa (And.intro s7 abr);have G48:=Aa (aB.trans _ _ _ G47.out ny);have E48:=Aa ny;have F48:=Aa (aB.trans _ _ _ F47.out ny);clear abq s7 abr ny;have CO:=Aa (nO O (some ⟨ob,0,none⟩) es.length w48 (by rw[HL.out.2.1];omega) (λn hn=>by have:=HL.out.2.2 n hn;omega) (HO40.out.grows F48.out));rw[HL.out.2.1]at CO;go_wp2_with fail
         refine(CO.out).mono ?_;rintro e w49 ⟨v49,rfl,abt,nz⟩;obtain⟨a49,c49,rfl,s8,abu⟩:=cB abt;have PP49:=Aa (And.intro s8 abu);have G49:=Aa (aB.trans _ _ _ G48.out nz);have E49:=Aa nz;have F49:=Aa (aB.trans _ _ _ F48.out nz);clear abt s8 abu nz;go_wp2_with fail
         refine(nO (idxL iB0 so es.length) a4 c4 w49 (by omega) (λn hn=>by have:=oR hn;omega) (HAT4.out.grows F49.out)).mono ?_;rintro e ot ⟨v50,rfl,abv,n5⟩;obtain⟨a50,c50,rfl,s9,abw⟩:=cB abv;have PP50:=Aa (And.intro s9 abw);have G50:=Aa (aB.trans _ _ _ G49.out n5);have E50:=Aa n5;have F50:=Aa (aB.trans _ _ _ F49.out n5);clear abv s9 abw n5;go_wp2_with fail
         obtain⟨P,hP⟩:∃P:List bD,P=[⟨⟨#[112,111,115]⟩,zK0 p,a40,c40⟩,⟨⟨#[109,97,116,114,105,120]⟩,m.enc,a41,c41⟩,⟨⟨#[114,101,97,100,105,110,103,115]⟩,pA (bls BR),a42,c42⟩,⟨⟨#[102,105,114,115,116]⟩,cG (idxL newR es es.length),a43,c43⟩,⟨⟨#[115,117,114,102,97,99,101,115]⟩,pA (bls BS),a44,c44⟩,⟨⟨#[115,117,114,102,97,99,101]⟩,cG (es.map (sidE BS)),a45,c45⟩,⟨⟨#[108,101,102,116]⟩,cG (es.map λx=>x.l.toNat),a46,c46⟩,⟨⟨#[114,105,103,104,116]⟩,cG (es.map λx=>x.t.toNat),a47,c47⟩,⟨⟨#[99,111,115,116]⟩,cG (es.map λx=>x.c.toNat),a48,c48⟩,⟨⟨#[111,114,100,101,114]⟩,cG O,a49,c49⟩,⟨⟨#[97,116]⟩,cG (idxL iB0 so es.length),a50,c50⟩]:=⟨_,rfl⟩;have hPl:P.length=11:=by rw[hP];rfl
         obtain⟨W9,hW9⟩:=exq (ot.alloc (.cells (P.flatMap iL).toArray 113))
         have hPA:gX ot P:=by
          have T50:=aB.refl ot;have T49:=aB.trans _ _ _ E50.out T50;have T48:=aB.trans _ _ _ E49.out T49;have T47:=aB.trans _ _ _ E48.out T48;have T46:=aB.trans _ _ _ E47.out T47;have T45:=aB.trans _ _ _ E46.out T46;have T44:=aB.trans _ _ _ E45.out T45;have T43:=aB.trans _ _ _ E44.out T44;have T42:=aB.trans _ _ _ E43.out T43;have T41:=aB.trans _ _ _ E42.out T42;have T40:=aB.trans _ _ _ E41.out T41;have ok1:=jH HCH.out;rw[hP];refine⟨λq hq=>?_,λq hq=>?_,λq hq=>?_,λq hq=>?_⟩<;>simp only[List.mem_cons,List.mem_nil_iff,or_false]at hq
          ·rcases hq with rfl|rfl|rfl|rfl|rfl|rfl|rfl|rfl|rfl|rfl|rfl
           ·exact PP40.out.1.grows T40
           ·exact PP41.out.1.grows T41
           ·exact PP42.out.1.grows T42
           ·exact PP43.out.1.grows T43
           ·exact PP44.out.1.grows T44
           ·exact PP45.out.1.grows T45
           ·exact PP46.out.1.grows T46
           ·exact PP47.out.1.grows T47
           ·exact PP48.out.1.grows T48
           ·exact PP49.out.1.grows T49
           ·exact PP50.out.1.grows T50
          ·rcases hq with rfl|rfl|rfl|rfl|rfl|rfl|rfl|rfl|rfl|rfl|rfl
           ·exact PP40.out.2
           ·exact PP41.out.2
           ·exact PP42.out.2
           ·exact PP43.out.2
           ·exact PP44.out.2
           ·exact PP45.out.2
           ·exact PP46.out.2
           ·exact PP47.out.2
           ·exact PP48.out.2
           ·exact PP49.out.2
           ·exact PP50.out.2
          ·rcases hq with rfl|rfl|rfl|rfl|rfl|rfl|rfl|rfl|rfl|rfl|rfl<;>simp[ByteArray.size]
          ·rcases hq with rfl|rfl|rfl|rfl|rfl|rfl|rfl|rfl|rfl|rfl|rfl
           ·have h:=pC0 hv;show (zK0 p).length<=_;omega
           ·have h:=vX0 HM.out.ok;show m.enc.length<=_;omega
           ·have h:=gU0 okR lR cR;show (pA _).length<=_;omega
           ·have h:=eC (l:=idxL newR es es.length) (λn hn=>by have:=oR hn;omega);show (cG _).length<=_;omega
           ·have h:=gU0 okS lS cS;show (pA _).length<=_;omega
           ·have h:=eC (l:=es.map (sidE BS)) (λn hn=>by obtain⟨x,hx,rfl⟩:=List.mem_map.1 hn;have:=qV (HMS.out x hx);omega);rw[Ab]at h;show (cG _).length<=_;omega
           ·have h:=eC (l:=es.map λx=>x.l.toNat) (λn hn=>by obtain⟨x,hx,rfl⟩:=List.mem_map.1 hn;have:=HNN.out x hx;show x.l.toNat<_;omega);rw[Ab]at h;show (cG _).length<=_;omega
           ·have h:=eC (l:=es.map λx=>x.t.toNat) (λn hn=>by obtain⟨x,hx,rfl⟩:=List.mem_map.1 hn;have:=HNN.out x hx;show x.t.toNat<_;omega);rw[Ab]at h;show (cG _).length<=_;omega
           ·have h:=eC (l:=es.map λx=>x.c.toNat) (λn hn=>by obtain⟨x,hx,rfl⟩:=List.mem_map.1 hn;have:=HNN.out x hx;show x.c.toNat<_;omega);rw[Ab]at h;show (cG _).length<=_;omega
           ·have h:=eC (l:=O) (λn hn=>by have:=HL.out.2.2 n hn;omega);have:=HL.out.2.1;show (cG _).length<=_;omega
           ·have h:=eC (l:=idxL iB0 so es.length) (λn hn=>by have:=oR hn;omega);show (cG _).length<=_;omega
         have hPC:aF W9 (some ⟨ot.heap.size,0,none⟩) 2 (P.map iL):=by
          rw[hW9];exact aP0 P ot _ (by omega)
         have ft:aB ot W9:=by rw[hW9];exact aB.alloc _ _
         have CJ:=Aa (oT0 P (some ⟨ot.heap.size,0,none⟩) 11 W9 (X22.out.2.2.2.2.2.2.2.2.1.grows (aB.trans _ _ _ G50.out ft)) (by omega) hPC (hPA.grows ft));rw[hPl]at CJ
         have HPB:Hid (P.map bare=imgP p m es):=by
          show _=_
          rw[hP];unfold imgP nA0 iF nA0;rw[<-HBR.out,<-HBS.out,<-HO.out,<-HSO2.out];rfl
         have vd:W9=ot.alloc (.cells (P.flatMap iL).toArray 113):=hW9;rw[hP]at vd;have HW9:=Aa vd;have CJ2:∀W,W=W9->Hid (Calls Tryz.prog 48 #[.slice (some ⟨ot.heap.size,0,none⟩) 11 11] W (tA P W9)):=by rintro _ rfl;exact CJ
         have G9:=Aa ft;clear hP hW9 vd hPA hPC CJ ft;refine(CJ2 _ ?_).out.mono ?_
         ·rw[HW9.out];rfl
         rintro e w51 ⟨ow,hj1,hgJ⟩;have GW:=aB.trans _ _ _ X22.out.2.2.2.2.2.2.2.2.2 (aB.trans _ _ _ G50.out (aB.trans _ _ _ G9.out hgJ));by_cases adf:cZ P=0
         ·obtain⟨v,rfl,hv'⟩:=ow adf
          clear ow hj1;have agz:=hv'.base (aB.trans _ _ _ X22.out.2.2.2.2.2.2.2.2.2 (aB.trans _ _ _ G50.out G9.out)).size;have HV':=Aa agz;clear hv' agz;go_wp2_with fail
          go_ret2;refine cF.join HCH.out ⟨by rw[<-HSO.out,<-HBR.out];exact HKR.out,by rw[<-HSO.out,<-HBS.out];exact HKS.out⟩ GW ?_;rw[<-HSO.out,<-HPB.out,mG,kG];exact⟨λ_=>⟨v,rfl,HV'.out⟩,λh=>absurd adf h⟩
         ·obtain rfl:=hj1 adf
          clear ow hj1;go_wp2_with fail
          go_ret2;refine cF.join HCH.out ⟨by rw[<-HSO.out,<-HBR.out];exact HKR.out,by rw[<-HSO.out,<-HBS.out];exact HKS.out⟩ GW ?_;rw[<-HSO.out,<-HPB.out,mG,kG];exact⟨λh=>absurd h adf,λ_=>rfl⟩
  ·have HK:=Aa wg
   have qj:(cH (bls BS):Int)≠0:=by omega
   obtain⟨f,hf⟩:∃f:Int,f=cH (bls BS):=⟨_,rfl⟩;rw[<-hf]at qj ⊢;have hfb:(f != 0)=true:=by simpa using qj
   clear hf wg qj;go_wp2
   go_ret2;exact cF.long HCH.out (λh=>HK.out (by rw[HBS.out,HSO.out];exact h.2)) (aB.trans _ _ _ gd g7)
 ·have HK:=Aa uy
  have qj:(cH (bls BR):Int)≠0:=by omega
  obtain⟨f,hf⟩:∃f:Int,f=cH (bls BR):=⟨_,rfl⟩;rw[<-hf]at qj ⊢;have hfb:(f != 0)=true:=by simpa using qj
  clear hf uy qj;go_wp2
  go_ret2;exact cF.long HCH.out (λh=>HK.out (by rw[HBR.out,HSO.out];exact h.1)) (aB.trans _ _ _ gd g5)
theorem cW0 (p:List bT) (mv:Value) (m:Option Mx) (l:List En) (pa a:Option Addr) (pc c:Nat) (w:World) (he:Env w) (hp:p.length<=4611686018427387904) (hl:l.length<=140737488355328) (hs:∀x∈l,xM x) (hz:∀x∈l,x.r.size<=1099511627776/\x.s.size<=1099511627776)
  (jz:aF w pa 2 (p.map bI)) (hm:dX1 w mv m) (ah:aF w a 5 (l.map bE)) :
  Calls Tryz.prog 10 #[.slice pa p.length pc,mv,.slice a l.length c] w (cF p m l w):=by
 by_cases hc:nU p m l=0
 ·cases m with
  | none =>
   unfold nU at hc;split at hc<;>cases hc
  | some m =>
   obtain⟨mb,bm,rfl,hmm⟩:=hm;exact wU0 p mb bm m l pa a pc c w he hp hs hz (by have:=jH hc;omega) (jH hc).2.2.1 jz hmm ah hc
 ·exact qP0 p mv m l pa a pc c w he hp hl (λx hx=>by have:=hz x hx;omega) jz hm ah hc
theorem kA {p:List bT} {m:Option Mx} {l:List En} (h:lE p m l=0):nU p m l=0/\cH (bls (fX (sortS l)))=0/\cH (bls (cT (sortS l)))=0:=by
 unfold lE at h;split at h
 ·rename_i hc
  split at h
  ·rename_i hk;exact⟨hc,hk⟩
  ·cases h
 ·rename_i hc;exact absurd h hc
theorem sG0 {p:List bT} {m:Option Mx} {l:List En} (h:lE p m l≠0):jS p m l=(lE p m l,[]):=by
 unfold jS lE at *;by_cases hc:nU p m l=0
 ·rw[if_pos hc]at h ⊢
  rw[if_pos hc];by_cases hk:cH (bls (fX (sortS l)))=0/\cH (bls (cT (sortS l)))=0
  ·rw[if_pos hk]at h;exact absurd rfl h
  ·rw[if_neg hk]
   cases m with
   | none=>unfold nU at hc;split at hc<;>cases hc
   | some m=>simp only;rw[if_neg hk]
 ·rw[if_neg hc,if_neg hc]
theorem aD0 {p:List bT} {m:Mx} {l:List En} (h:lE p (some m) l=0) (yn:cZ (imgP p m (sortS l))=0):jS p (some m) l=(0,file14 (imgP p m (sortS l))):=by
 obtain⟨h1,h2⟩:=kA h;unfold jS;rw[if_pos h1];simp only;rw[if_pos h2,if_pos yn]
theorem fN1 {p:List bT} {m:Mx} {l:List En} (hm:m.OK) (hl:l.length<=300) (h:lE p (some m) l=0):cZ (imgP p m (sortS l))=0:=by
 obtain⟨h1,h2,h3⟩:=kA h;obtain⟨n1,n2,n3,n4⟩:=jH h1;have hp:=(fK n3).1;have kr:=Ae (yG l) hl
 have key:∀f:En->ByteArray,cH (bls (kT ((sortS l).map f)))=0->dF (bls (kT ((sortS l).map f)))<=76801:=λf h=>by
  have h1:=cB0 (nP h).1.len _ (Ag _);have h2:=lH ((sortS l).map f);rw[Ab]at h2;unfold bls at h1 ⊢;rw[Ab]at h1;unfold dF;rw[Ab];omega
 refine uG0 hm n3 (by omega) h2 h3 (key _ h2) (key _ h3) λx hx=>?_
 have:=kJ (n4 x (sH hx))
 omega
theorem uL0 (x:bM1) (A:uC0) (w:World) (he:Env w) (be:hJ1 x) (hz:∀y∈x.e,y.r.size<=1099511627776/\y.s.size<=1099511627776) (ah:iZ0 w A x) :
  Calls Tryz.prog 16 #[A.agg x] w (cF x.p (yQ0 x) x.e w):=by
 have lw:=hz;have ab0:=be;have HAT0:=ah;obtain⟨pa,pc,sa,sc,ea,ec⟩:=A;obtain⟨xp,xd,xs,xe⟩:=x;obtain⟨W0,gv⟩:=exq (w.alloc (.cells #[.slice pa xp.length pc,.int .i64 xd,.slice sa xs.length sc,.slice ea xe.length ec] 56));have ij:aB w W0:=by rw[gv];exact aB.alloc _ _
 have jf:=λj u h=>aX w #[.slice pa xp.length pc,.int .i64 xd,.slice sa xs.length sc,.slice ea xe.length ec] 56 (0,0) j u h;rw[<-gv]at jf;have q0:=jf 0 _ rfl;have q1:=jf 1 _ rfl;have q2:=jf 2 _ rfl;have q3:=jf 3 _ rfl;have HQ:=Aa (And.intro q0 (And.intro q1 (And.intro q2 q3)));have HSA:=Aa (ah.grows ij);have HG0:=Aa ij;clear jf;have CM:=Aa (qC0 ⟨xp,xd,xs,xe⟩ ⟨pa,pc,sa,sc,ea,ec⟩ W0.drew ab0 (HSA.out.grows (aB.drew W0)));have CB:=λ(W:World) (mv:Value) (h:aB W0 W) (hm:dX1 W mv (yQ0 ⟨xp,xd,xs,xe⟩))=>Aa (cW0 xp mv (yQ0 ⟨xp,xd,xs,xe⟩) xe pa ea pc ec W (he.grows (aB.trans _ _ _ HG0.out h)) (by have:=ab0.lp;simp only at this;omega) ab0.le ab0.e lw (HSA.out.p.grows h) hm (HSA.out.e.grows h));obtain⟨SM,hSM⟩:=exq (yQ0 ⟨xp,xd,xs,xe⟩);show Calls _ _ #[.agg #[.slice pa xp.length pc,.int .i64 xd,.slice sa xs.length sc,.slice ea xe.length ec]] _ (cF xp (yQ0 ⟨xp,xd,xs,xe⟩) xe w)
 rw[<-hSM]at CM CB ⊢;unfold uC0.agg uC0.cells at CM;simp only at CM;have z0:∀x:Ext aB W0.drew,x.u.cell? ⟨w.heap.size,0,none⟩=some (.slice pa xp.length pc):=aG ((aB.drew W0).cell q0);have z1:∀x:Ext aB W0.drew,x.u.cell? ⟨w.heap.size,1,none⟩=some (.int .i64 xd):=aG ((aB.drew W0).cell q1);have z2:∀x:Ext aB W0.drew,x.u.cell? ⟨w.heap.size,2,none⟩=some (.slice sa xs.length sc):=aG ((aB.drew W0).cell q2);have z3:∀x:Ext aB W0.drew,x.u.cell? ⟨w.heap.size,3,none⟩=some (.slice ea xe.length ec):=aG ((aB.drew W0).cell q3);clear hSM q0 q1 q2 q3 ah be hz he lw ab0 HAT0 ij;go_enter Tryz.func16,Tryz.ntmps16
 go_wp2_with fail
 rw[<-gv];clear gv;refine bH (oC [0,1,2,4,5,3,6,7,8,9,10] [3,6]) (by kernel_rfl) (λd _ _ _ _ h=>by cases d<;>exact h) ?_
 iterate 5 (refine aJ rfl (λK hK=>?_);go_simp;refine hK _ ?_;clear hK K)
 clear z0 z1 z2 z3;refine bM rfl rfl (λK hK=>?_);go_simp;refine(CM.out).mono ?_;rintro e w1 ⟨mv,rfl,hm,aq⟩;refine⟨aq,hK _ _ ?_⟩;clear hK K;have hgW:=aB.trans _ _ _ HG0.out (aB.trans _ _ _ (aB.drew W0) aq);refine bM rfl rfl (λK hK=>?_);go_simp;refine((CB w1 mv (aB.trans _ _ _ (aB.drew W0) aq) hm).out).mono ?_;rintro e w2 ⟨an,v,rfl,hv⟩;refine⟨an,hK _ _ ?_⟩;clear hK K;iterate 4 (refine aJ rfl (λK hK=>?_);go_simp;refine hK _ ?_;clear hK K)
 refine bN ?_;go_wp2_with fail
 go_ret2;exact⟨aB.trans _ _ _ hgW an,_,rfl,hv.base hgW.size⟩
end
section
open Go Go.RowKit
theorem uM {α:Type} [DecidableEq α] (f:α->Nat):∀ {l l':List α},l.Nodup->(∀x∈l,x∈l')->(l.map f).sum<=(l'.map f).sum
 | [],_,_,_=>Ac _
 | x::r,l',hn,hs=>by
  obtain⟨h1,h2⟩:=List.nodup_cons.1 hn;have hx:=hs x (by simp);have hr:=uM f (l':=l'.erase x) h2 λy hy=>(List.mem_erase_of_ne (λ(e:y=x)=>h1 (by rw[<-e];exact hy))).2 (hs y (by simp[hy]));have hp:=((List.perm_cons_erase hx).map f).sum_nat;rw[Am,An]at hp ⊢;omega
theorem zU (L:List (List UInt8)):∀m,m<=L.length->iG L m<=1+((L.take m).map Aj).sum
 | 0,_=>by simp[iG]
 | m+1,hm=>by
  have h1:=zU L m (by omega);rw[List.take_succ_eq_append_getElem (by omega),Au,Av,Ao,Ap]
  have h2:nth L m=L[m]:=by
   have:=jV (L:=L) (j:=m) (by omega)
   rw[Ad (by omega)]at this;exact(Option.some.inj this).symm
  unfold iG sA0;rw[h2];omega
theorem cI0 (f:En->ByteArray) (l:List En):dF (bls (kT ((sortS l).map f)))<=1+(l.map λx=>(f x).size).sum:=by
 have h1:=zU (bls (kT ((sortS l).map f))) _ (Ag _);rw[List.take_length]at h1;have h2:=uM (λs:ByteArray=>s.size) (mC ((sortS l).map f)) λ_ h=>rG h;have h3:=uM (λx:En=>(f x).size) (l:=sortS l) (l':=l) ((fZ l).1.imp λ{a b} qd e=>by rw[e,eO]at qd;cases qd) λ_ h=>sH h
 have h4:((bls (kT ((sortS l).map f))).map Aj).sum=((kT ((sortS l).map f)).map λs:ByteArray=>s.size).sum:=by
  unfold bls;rw[At];rfl
 rw[At]at h2;unfold dF;have h5:(((sortS l).map ((λs:ByteArray=>s.size) ∘ f)).sum)=((sortS l).map λx=>(f x).size).sum:=rfl;omega
theorem smallC {p:List bT} {m:Mx} {l:List En} (hm:m.OK) (hr:(l.map λx=>x.r.size).sum<=20000) (hs:(l.map λx=>x.s.size).sum<=20000) (h:lE p (some m) l=0):cZ (imgP p m (sortS l))=0:=by
 obtain⟨h1,h2,h3⟩:=kA h;obtain⟨n1,n2,n3,n4⟩:=jH h1;have hp:=(fK n3).1;have kr:=yG l;have k1:=cI0 (·.r) l;have k2:=cI0 (·.s) l;have k3:dF (bls (fX (sortS l)))<=20001:=Ae k1 (by omega);have k4:dF (bls (cT (sortS l)))<=20001:=Ae k2 (by omega);refine iY0 hm n3 (by omega) h2 h3 (by omega) (by omega) (by omega) λx hx=>?_
 have:=kJ (n4 x (sH hx))
 omega
theorem qX0 (c:UInt8) (s:ByteArray):((splitS c s).map λx=>x.size).sum<=s.size:=by
 have h:=vZ c (yS c s.data.toList);rw[aO0]at h
 have h1:∀l:List (List UInt8),(l.map λx=>x.length+1).sum=(l.map Aj).sum+l.length:=λl=>by
  induction l with
  | nil=>rfl
  | cons a r ih=>simp only[Am,An,List.length_cons,ih];omega
 have h2:(splitS c s).map (λx=>x.size)=(splitL c s.data.toList).map Aj:=by
  rw[show splitS c s=(splitL c s.data.toList).map mkB from fY0 c s,At]
  rfl
 have h3:=h1 (splitL c s.data.toList);have h4:(splitL c s.data.toList).length≠0:=λe=>yS c s.data.toList (List.length_eq_zero_iff.1 e);rw[h2,Lib.size_eq];omega
theorem oD0 (s:ByteArray) (L:List bT):(readS s L).1.r.size<=s.size/\(readS s L).1.s.size<=s.size:=by
 have hz:(enZero.r.size<=s.size/\enZero.s.size<=s.size):=⟨Ac _,Ac _⟩;unfold readS;split
 ·rename_i r x a b c h
  have h1:r.size<=s.size:=dN (c:=9) (by rw[h];simp);have h2:x.size<=s.size:=dN (c:=9) (by rw[h];simp);split
  ·dsimp only
   split
   ·exact⟨h1,h2⟩
   ·exact hz
  ·exact hz
 ·exact hz
theorem rD (L:List bT) (f:En->Nat) (hf:∀s,f (readS s L).1<=s.size):∀(ls:List ByteArray) (i:Nat) (out:List En),((bU L ls i out).1.map f).sum<=(out.map f).sum+(ls.map λx=>x.size).sum
 | [],i,out=>by simp[bU]
 | s::r,i,out=>by
  rw[kX,Am,An];split
  ·have:=rD L f hf r (i+1) out;omega
  ·split
   ·simp
   ·have:=rD L f hf r (i+1) (out++[(readS s L).1])
    rw[Au,Av,Ao,Ap]at this
    have:=hf s
    omega
theorem parseS_sum (text:ByteArray) (L:List bT) (f:En->Nat) (hf:∀s,f (readS s L).1<=s.size):((eK text L).1.map f).sum<=text.size:=by
 have h1:=rD L f hf (splitS 10 text) 0 [];have h2:=qX0 10 text;unfold eK;split
 ·split
  ·simp
  ·rw[List.map_nil,List.sum_nil]at h1
   omega
 ·simp
theorem rA0 {s:ByteArray} {L:List bT} (hs:s.size<=1048576) (hL:L.length<=64):xM (readS s L).1:=by
 obtain⟨h1,h2⟩:=oD0 s L
 have wf:∀z:Int,0<=z->z<=1048576->(Lit.int .i64 z).wf=true:=λz h0 hz=>by
  obtain⟨n,rfl⟩:=Int.eq_ofNat_of_zero_le h0;exact eR1 (by omega)
 have key:0<=(readS s L).1.l/\(readS s L).1.l<=64/\0<=(readS s L).1.t/\(readS s L).1.t<=64/\0<=(readS s L).1.c/\(readS s L).1.c<=30000:=by
  have hz:0<=enZero.l/\enZero.l<=64/\0<=enZero.t/\enZero.t<=64/\0<=enZero.c/\enZero.c<=30000:=by decide
  unfold readS;split
  ·split
   ·dsimp only
    split
    ·rename_i hc
     obtain⟨a1,a2,a3,a4,a5,a6⟩:=kJ (x:=⟨_,_,_,_,_⟩) hc;have ky:(L.length:Int)<=64:=by omega
     exact⟨a1,Aw (Aq a2 ky),a3,Aw (Aq a4 ky),a5,a6⟩
    ·exact hz
   ·exact hz
  ·exact hz
 obtain⟨k1,k2,k3,k4,k5,k6⟩:=key;exact⟨by unfold maxLen;omega,by unfold maxLen;omega,wf _ k1 (by omega),wf _ k3 (by omega),wf _ k5 (by omega)⟩
theorem oG (L:List bT) (Q:En->Prop):∀(ls:List ByteArray) (i:Nat) (out:List En),(∀s∈ls,Q (readS s L).1)->(∀x∈out,Q x)->out.length<=20000->(∀x∈(bU L ls i out).1,Q x)/\(bU L ls i out).1.length<=20000
 | [],i,out,_,ho,hl=>⟨ho,hl⟩
 | s::r,i,out,hs,ho,hl=>by
  have hr:∀s∈r,Q (readS s L).1:=λx hx=>hs x (by simp[hx]);rw[kX];split
  ·exact oG L Q r (i+1) out hr ho hl
  ·split
   ·exact⟨(λx hx=>by cases hx),Ac _⟩
   ·rename_i he
    have h2:out.length≠20000:=λe=>he (by
     unfold qX;by_cases h0:(readS s L).2=0
     ·rw[if_pos ⟨h0,e⟩];decide
     ·rw[if_neg (λh=>h0 h.1)];exact h0)
    refine oG L Q r (i+1) _ hr (λx hx=>?_) (by rw[Ar,Ak];omega);rcases List.mem_append.1 hx with h|h
    ·exact ho x h
    ·rw[List.mem_singleton.1 h];exact hs s (by simp)
theorem kZ0 {text:ByteArray} {L:List bT} (ht:text.size<=1048576) (hL:L.length<=64):(∀x∈(eK text L).1,xM x/\x.r.size<=1048576/\x.s.size<=1048576)/\(eK text L).1.length<=20000:=by
 unfold eK;split
 ·rw[if_neg (by omega)]
  refine oG L _ _ _ _ (λs hs=>?_) (λx hx=>by cases hx) (Ac _);have h1:=dN hs;obtain⟨h2,h3⟩:=oD0 s L;exact⟨rA0 (by omega) hL,by omega,by omega⟩
 ·exact⟨(λx hx=>by cases hx),Ac _⟩
theorem dP0:∀(ls:List (Nat×ByteArray)) (out:List bT),out.length<=64->(∀q∈out,q.name.size<=16)->(uB ls out).1.length<=64/\∀q∈(uB ls out).1,q.name.size<=16
 | [],out,h1,h2=>by
  rw[uB];split
  ·exact⟨Ac _,λq hq=>by cases hq⟩
  ·exact⟨h1,h2⟩
 | x::r,out,h1,h2=>by
  rw[uB];split
  ·exact⟨Ac _,λq hq=>by cases hq⟩
  ·rename_i he
   unfold eE at he;split at he
   ·exact absurd (by decide) he
   ·rename_i hk
    split at he
    ·exact absurd (by decide) he
    ·split at he
     ·exact absurd (by decide) he
     ·refine dP0 r _ (by rw[Ar,Ak];omega) λq hq=>?_
      rcases List.mem_append.1 hq with h|h
      ·exact h2 q h
      ·rw[List.mem_singleton.1 h]
       exact(lU0 (by simpa using λe=>hk (.inr (.inl e)))).2.1
theorem qB0 (text:ByteArray):(iZ text).1.length<=64/\∀q∈(iZ text).1,q.name.size<=16:=by
 unfold iZ;split
 ·exact⟨Ac _,λq hq=>by cases hq⟩
 ·exact dP0 _ _ (Ac _) λq hq=>by cases hq
theorem qZ {p:List bT}:∀ {ls:List ByteArray} {i:Nat} {st:nY},(kZ p ls i st).2.2=0->∃m,(kZ p ls i st).1=some m
 | [],_,none,h=>by exact absurd h (by show ¬(5:Int)=0;decide)
 | [],_,some (m,_),_=>⟨m,rfl⟩
 | s::r,i,st,h=>by
  rw[rS]at h ⊢;split
  ·rename_i h1;rw[if_pos h1]at h;exact qZ h
  ·rename_i h1
   rw[if_neg h1]at h;split
   ·rename_i h2;rw[if_pos h2]at h;exact qZ h
   ·rename_i h2;rw[if_neg h2]at h;exact absurd h h2
theorem zP0 {text:ByteArray} {p:List bT} (h:(xN text p).2.2=0):∃m,(xN text p).1=some m:=by
 unfold xN at h ⊢;split
 ·rename_i h1;rw[if_pos h1]at h;exact absurd h (by decide)
 ·rename_i h1
  rw[if_neg h1]at h;split
  ·rename_i h2;rw[if_pos h2]at h;exact qZ h
  ·rename_i h2;rw[if_neg h2]at h;exact absurd h (by decide)
def jK1 (t1 t2 t3:ByteArray):(Int×Int)×Int×List UInt8 :=
 if (iZ t1).2.2≠0 then ((1,(iZ t1).2.1),(iZ t1).2.2,[])
 else if (xN t2 (iZ t1).1).2.2≠0 then ((2,(xN t2 (iZ t1).1).2.1),(xN t2 (iZ t1).1).2.2,[])
 else if (eK t3 (iZ t1).1).2.2≠0 then ((3,(eK t3 (iZ t1).1).2.1),(eK t3 (iZ t1).1).2.2,[])
 else ((0,0),jS (iZ t1).1 (xN t2 (iZ t1).1).1 (eK t3 (iZ t1).1).1)
def yD (r:(Int×Int)×Int×List UInt8) (w:World) (e:Ending) (w':World):Prop :=
 ∃v,e=.returned (.tuple #[v,.agg #[.int .i64 r.1.1,.int .i64 r.1.2],.int .i64 r.2.1])/\aO w' w.heap.size 5 1 aQ v r.2.2/\aB w w'
end
section
open Go Go.RowKit Go.Shelf
attribute [local go_sem] aM aP
theorem rbuild_gen (p:List bT) (mv:Value) (m:Option Mx) (l:List En) (pa a:Option Addr) (pc c:Nat) (w:World) (hp:p.length<=4611686018427387904) (ga:∀x∈p,x.name.size<=9223372036854775807) (hl:l.length<=20000) (yn:∀m',m=some m'->m'.OK->lE p m l=0->cZ (imgP p m' (sortS l))=0) (hs:∀x∈l,x.r.size<=1099511627776/\x.s.size<=1099511627776)
  (jz:aF w pa 2 (p.map bI)) (hm:iS1 w mv m) (ah:aF w a 5 (l.map bE)) :
  Calls Tryz.prog 14 #[.slice pa p.length pc,mv,.slice a l.length c] w (cF p m l w):=by
 have HM:=Aa hm;have HPT:=Aa jz;by_cases ke:lE p m l=0
 ·cases m with
  | none =>
   have:=(kA ke).1
   unfold nU at this;split at this<;>cases this
  | some m =>
   obtain⟨rb,rfl,hr⟩:=hm;have CM:=Aa (pP0 p rb m l pa a pc c w hp ga hs jz hr ah (kA ke).1);replace yn:=yn m rfl hr.ok ke;have HG:=Aa (aD0 ke yn);obtain⟨h1,h2,h3⟩:=kA ke;obtain⟨n1,n2,n3,n4⟩:=jH h1;have ajf:=(fK n3).1
   have HN:Hid (∀x∈sortS l,0<=x.l/\x.l<64/\0<=x.t/\x.t<64/\0<=x.c/\x.c<=30000):=λx hx=>by
    have:=kJ (n4 x (sH hx));omega
   have CI:=λ(W:World) (hW:aB w W) (sa:Option Addr) (sc:Nat) (hsa:aF W sa 5 ((sortS l).map bE))=>Aa (tN0 p rb m (sortS l) pa sa pc sc W n3 (Ae (yG l) (by omega)) HN.out (HPT.out.grows hW) (hr.grows hW) hsa h2 h3 yn);have HMK:=Aa ke;unfold cF;rw[HG.out];clear hs jz hr ah ke yn h1 h2 h3 n1 n2 n3 n4 ajf HG HM;generalize file14 (imgP p m (sortS l))=FB at CI ⊢;obtain⟨es,pt⟩:=exq (sortS l);rw[<-pt]at CI;have HES:=Aa pt;clear pt;go_enter Tryz.func14,Tryz.ntmps14
   go_wp2_with fail
   refine CM.out.mono ?_;rintro e w1 ⟨aq,rp,_⟩;obtain⟨sa,sc,rfl,pu⟩:=rp HMK.out;rw[<-HES.out]at pu ⊢;clear rp;obtain⟨W2,ki⟩:=exq (w1.alloc (.cells #[.slice pa p.length pc,.pointer (some ⟨rb,0,none⟩),.slice sa es.length sc] 128));have an:aB w1 W2:=by rw[ki];exact aB.alloc _ _
   obtain⟨bc,_⟩:=cO (w:=w1) (cs:=#[.slice pa p.length pc,.pointer (some ⟨rb,0,none⟩),.slice sa es.length sc]) (t:=128) (w':=W2) (by rw[ki];exact aB.refl _);have b0:=bc 0 _ rfl;have b1:=bc 1 _ rfl;have b2:=bc 2 _ rfl;have afb:=pu.grows an;have ej:=aB.trans _ _ _ aq an;rw[ki]at b0 b1 b2;clear bc pu aq an;go_wp2_with fail
   rw[<-ki];clear b0 b1 b2 ki;refine(CI _ ej sa sc afb).out.mono ?_;rintro e w3 ⟨bu,v,rfl,hv⟩;go_wp2
   go_ret2;exact⟨aB.trans _ _ _ ej bu,_,rfl,hv.base ej.size⟩
 ·have HB:=Aa (sG0 ke)
  have HMK:=Aa ke
  have CM:Hid (Calls Tryz.prog 64 #[.slice pa p.length pc,mv,.slice a l.length c] w (dC p mv m l pa pc w)):=by
   by_cases hc:nU p m l=0
   ·cases m with
    | none=>unfold nU at hc;split at hc<;>cases hc
    | some m =>
     obtain⟨rb,rfl,hr⟩:=hm;exact pP0 p rb m l pa a pc c w hp ga hs jz hr ah hc
   ·exact xO0 p mv m l pa a pc c w hp ga (by omega) hs jz hm ah hc
  unfold cF;rw[HB.out];simp only;obtain⟨E,hE⟩:=exq (lE p m l);have hE0:E≠0:=by rw[hE];exact ke
  have hEb:(E != 0)=true:=by simpa using hE0
  have HE:=Aa hE;rw[<-hE];clear hs jz hm ah ke HB HM HPT hE hE0;go_enter Tryz.func14,Tryz.ntmps14
  go_wp2_with fail
  refine CM.out.mono ?_;rintro e w1 ⟨aq,_,fq⟩;have hb:=fq HMK.out;rw[<-HE.out]at hb;unfold fB1 at hb;subst hb;clear fq CM;go_wp2
  go_ret2;exact⟨(aB.trans _ _ _ aq (aB.alloc _ _)),_,rfl,aO.nil _ _ _ _ _⟩
end
section
open Go Go.RowKit Go.Shelf
def chapP:List bT:=[⟨⟨#[66,79,83]⟩,0⟩,⟨⟨#[110,111,117,110]⟩,0⟩]
def eU0:List En:=[⟨⟨#[227,129,139]⟩,⟨#[232,154,138]⟩,1,1,30⟩,⟨⟨#[227,129,139]⟩,⟨#[231,167,145]⟩,1,1,20⟩,⟨⟨#[227,129,139,227,129,141]⟩,⟨#[230,159,191]⟩,1,1,40⟩]
def yU:bM1:=⟨chapP,10,[],eU0⟩
end
section
open Go Go.RowKit
def chapM:Mx:=newM 2 10
def chapX:List En:=sortS eU0
theorem dC1:yQ0 yU=some chapM:=by
 unfold yQ0 yU;rw[if_pos (by decide +kernel)];rfl
theorem kM0:lE chapP (some chapM) eU0=0:=by decide +kernel
theorem sZ0:idxL newR chapX chapX.length=[0,2]:=by decide +kernel
theorem gZ0:chapX.map (sidE (cT chapX))=[1,2,0]:=by decide +kernel
theorem xV0:(chapX.map λx=>x.c.toNat)=[20,30,40]:=by decide +kernel
theorem rZ0:nA0 chapX=[2,0,1]:=by decide +kernel
theorem iN1:idxL iB0 (iF chapX) chapX.length=[0,1,2]:=by decide +kernel
theorem hP1:chapM.OK:=yN (n:=2) (d:=10) (by decide)
theorem zU0:cZ (imgP chapP chapM chapX)=0:=fN1 hP1 (by decide) kM0
theorem tB0:jS chapP (some chapM) eU0=(0,file14 (imgP chapP chapM chapX)):=aD0 kM0 zU0
end
section
open Go Go.RowKit Go.Shelf
attribute [local go_sem] aM aP
theorem wT0:∀y∈eU0,xM y:=λy hy=>by
 rcases List.mem_cons.1 hy with rfl|hy
 ·exact⟨by decide,by decide,by decide,by decide,by decide⟩
 ·rcases List.mem_cons.1 hy with rfl|hy
  ·exact⟨by decide,by decide,by decide,by decide,by decide⟩
  ·rcases List.mem_cons.1 hy with rfl|hy
   ·exact⟨by decide,by decide,by decide,by decide,by decide⟩
   ·cases hy
theorem tO0:hJ1 yU where
 p:=by decide
 s:=λy hy=>by cases hy
 e:=wT0
 d:=(show (Lit.int .i64 10).wf=true by kernel_rfl)
 lp:=by decide
 ls:=by decide
 le:=by decide
theorem lG0 (p:List bT) (m:Mx) (es:List En):(imgP p m es).map (·.name)=[⟨#[112,111,115]⟩,⟨#[109,97,116,114,105,120]⟩,⟨#[114,101,97,100,105,110,103,115]⟩,⟨#[102,105,114,115,116]⟩,⟨#[115,117,114,102,97,99,101,115]⟩,⟨#[115,117,114,102,97,99,101]⟩,⟨#[108,101,102,116]⟩,⟨#[114,105,103,104,116]⟩,⟨#[99,111,115,116]⟩,⟨#[111,114,100,101,114]⟩,⟨#[97,116]⟩]:=rfl
theorem jE1 {p:List bT} {m:Mx} {es:List En} {j k:Nat} {a b:bD} (ha:(imgP p m es)[j]?=some a) (hb:(imgP p m es)[k]?=some b) (h:j<k):a.name≠b.name:=λe=>by
 have hn:((imgP p m es).map (·.name)).Nodup:=by rw[lG0];decide +kernel
 have h1:((imgP p m es).map (·.name))[j]?=some a.name:=by rw[Af,ha];rfl
 have h2:((imgP p m es).map (·.name))[k]?=some a.name:=by rw[Af,hb,e];rfl
 have:=fZ0 hn h1 h2
 omega
theorem oJ0 {P Q:List bD} (h:Q.map bare=P.map bare) {k:Nat} {p:bD} (hp:P[k]?=some p):∃q,Q[k]?=some q/\q.name=p.name/\q.data=p.data:=by
 have h1:(Q.map bare)[k]?=some (bare p):=by rw[h,Af,hp];rfl
 rw[Af]at h1
 cases hq:Q[k]? with
 | none=>rw[hq]at h1;cases h1
 | some q =>
  rw[hq]at h1;have e:bare q=bare p:=Option.some.inj h1;have e1:(bare q).name=(bare p).name:=by rw[e]
  have e2:(bare q).data=(bare p).data:=by rw[e]
  exact⟨q,rfl,e1,e2⟩
theorem mR0 (w:World):Calls Tryz.prog 15 #[] w λe w'=>∃A:uC0,e=.returned (A.agg yU)/\iZ0 w' A yU/\aB w w':=by
 obtain⟨W0,gv⟩:=exq (w.alloc (.cells #[.slice (some ⟨w.heap.size+1,0,none⟩) 2 2,.int .i64 10,.slice none 0 0,.slice (some ⟨w.heap.size+1+1,0,none⟩) 3 3] 56));obtain⟨W1,dv⟩:=exq (W0.alloc (.cells (chapP.flatMap bI).toArray 74));obtain⟨W2,ki⟩:=exq (W1.alloc (.cells (eU0.flatMap bE).toArray 89));have ij:aB w W0:=by rw[gv];exact aB.alloc _ _
 have aq:aB W0 W1:=by rw[dv];exact aB.alloc _ _
 have an:aB W1 W2:=by rw[ki];exact aB.alloc _ _
 have m4:W0.heap.size=w.heap.size+1:=by rw[gv];simp
 have gk:W1.heap.size=w.heap.size+1+1:=by rw[dv];simp[m4]
 have hp:aF W2 (some ⟨w.heap.size+1,0,none⟩) 2 (chapP.map bI):=by
  have h:=qR (enc:=bI) (k:=2) (w:=W0) (t:=74) (fz:=(0,0)) (cs:=(chapP.flatMap bI).toArray) (λ_=>rfl) chapP rfl;rw[m4,<-dv]at h;exact h.grows an
 have he:aF W2 (some ⟨w.heap.size+1+1,0,none⟩) 5 (eU0.map bE):=by
  have h:=qR (enc:=bE) (k:=5) (w:=W1) (t:=89) (fz:=(0,0)) (cs:=(eU0.flatMap bE).toArray) (λ_=>rfl) eU0 rfl;rw[gk,<-ki]at h;exact h
 have HSRC:Hid (iZ0 W2 ⟨some ⟨w.heap.size+1,0,none⟩,2,none,0,some ⟨w.heap.size+1+1,0,none⟩,3⟩ yU/\aB w W2):=⟨⟨hp,aF.nil _ _ _,he⟩,aB.trans _ _ _ ij (aB.trans _ _ _ aq an)⟩;obtain⟨bc,_⟩:=cO (w:=w) (cs:=#[.slice (some ⟨w.heap.size+1,0,none⟩) 2 2,.int .i64 10,.slice none 0 0,.slice (some ⟨w.heap.size+1+1,0,none⟩) 3 3]) (t:=56) (w':=W2) (by rw[<-gv];exact aB.trans _ _ _ aq an);have b0:=bc 0 _ rfl;have b1:=bc 1 _ rfl;have b2:=bc 2 _ rfl;have b3:=bc 3 _ rfl
 have hE:W2=((w.alloc (.cells #[.slice (some ⟨w.heap.size+1,0,none⟩) 2 2,.int .i64 10,.slice none 0 0,.slice (some ⟨w.heap.size+1+1,0,none⟩) 3 3] 56)).alloc (.cells #[.string ⟨#[66,79,83]⟩,.int .i64 0,.string ⟨#[110,111,117,110]⟩,.int .i64 0] 74)).alloc (.cells #[.string ⟨#[227,129,139]⟩,.string ⟨#[232,154,138]⟩,.int .i64 1,.int .i64 1,.int .i64 30,.string ⟨#[227,129,139]⟩,.string ⟨#[231,167,145]⟩,.int .i64 1,.int .i64 1,.int .i64 20,.string ⟨#[227,129,139,227,129,141]⟩,.string ⟨#[230,159,191]⟩,.int .i64 1,.int .i64 1,.int .i64 40] 89):=by
  rw[ki,dv,gv];rfl
 have HE:=Aa hE;clear gv dv ki ij aq an m4 gk hp he bc hE;go_enter Tryz.func15,Tryz.ntmps15
 go_wp2_with fail
 rw[<-HE.out];refine bodyPost_ret (v:=.agg #[.slice (some ⟨w.heap.size+1,0,none⟩) 2 2,.int .i64 10,.slice none 0 0,.slice (some ⟨w.heap.size+1+1,0,none⟩) 3 3]) (by simp[results,Tryz.results15,go_sem,b0,b1,b2,b3]) rfl ⟨_,rfl,HSRC.out.1,HSRC.out.2⟩
theorem works18_any (w:World) (he:Env w):Calls Tryz.prog 6 #[] w λe w'=>e=.returned (.bool true)/\aB w w':=by
 have HE:=Aa he;have be:=tO0;have CI:=λ(A:uC0) (W:World) (hW:aB w W) (ah:iZ0 W A yU)=>Aa (uL0 yU A W (HE.out.grows hW) be (by decide) ah);have key:jS yU.p (yQ0 yU) yU.e=(0,file14 (imgP chapP chapM chapX)):=by rw[dC1];exact tB0
 unfold cF at CI;rw[key]at CI;have yn:=zU0;have HNE:=Aa (λ(j k:Nat) (a b:bD)=>jE1 (p:=chapP) (m:=chapM) (es:=chapX) (j:=j) (k:=k) (a:=a) (b:=b));have HP3:Hid (∃p,(imgP chapP chapM chapX)[3]?=some p/\p.name=⟨#[102,105,114,115,116]⟩/\p.data=cG [0,2]):=⟨_,rfl,rfl,by show cG (idxL newR chapX chapX.length)=_;rw[sZ0]⟩
 have HP5:Hid (∃p,(imgP chapP chapM chapX)[5]?=some p/\p.name=⟨#[115,117,114,102,97,99,101]⟩/\p.data=cG [1,2,0]):=⟨_,rfl,rfl,by show cG (chapX.map (sidE (cT chapX)))=_;rw[gZ0]⟩
 have HP8:Hid (∃p,(imgP chapP chapM chapX)[8]?=some p/\p.name=⟨#[99,111,115,116]⟩/\p.data=cG [20,30,40]):=⟨_,rfl,rfl,by show cG (chapX.map λx=>x.c.toNat)=_;rw[xV0]⟩
 have HP9:Hid (∃p,(imgP chapP chapM chapX)[9]?=some p/\p.name=⟨#[111,114,100,101,114]⟩/\p.data=cG [2,0,1]):=⟨_,rfl,rfl,by show cG (nA0 chapX)=_;rw[rZ0]⟩
 have HP10:Hid (∃p,(imgP chapP chapM chapX)[10]?=some p/\p.name=⟨#[97,116]⟩/\p.data=cG [0,1,2]):=⟨_,rfl,rfl,by show cG (idxL iB0 (iF chapX) chapX.length)=_;rw[iN1]⟩
 have hPl:(imgP chapP chapM chapX).length=11:=rfl;have h9:file14 (imgP chapP chapM chapX)=file14 (imgP chapP chapM chapX):=rfl;generalize imgP chapP chapM chapX=P at *;obtain⟨FL,hFL⟩:=exq ((file14 P).length);have CS:=λ(ba:Option Addr) (bc:Nat) (W:World) (hW:aB w W) h1 h2 h3 h4=>Aa (lV0 P ba bc W (HE.out.grows hW) yn h1 h2 h3 h4);have HPL:=Aa hPl;clear be key hPl h9 he yn;go_enter Tryz.func6,Tryz.ntmps6
 go_wp2_with fail
 refine(mR0 w).mono ?_;rintro e w1 ⟨A,rfl,jn,aq⟩;go_wp2_with fail
 refine(CI A w1 aq jn).out.mono ?_;rintro e w2 ⟨an,v2,rfl,ji⟩;try simp only at ji
 have gq:=aB.trans _ _ _ aq an;obtain⟨a2,c2,rfl,h2c,h2m,gz⟩:=ji.at_ aR.len;have ii:=bC ji;have CS2:=CS a2 c2 w2 gq h2c h2m ii gz;rw[<-hFL]at CS2 ⊢;clear CI CS jn aq an ji gz ii h2c hFL;go_wp2_with fail
 refine CS2.out.mono ?_;rintro e w3 ⟨bu,Q,qa,qc,rfl,wu,py,hqp⟩;have jq:=aB.trans _ _ _ gq bu
 have hQl:Q.length=11:=by
  have:=congrArg Aj wu
  rw[Ab,Ab,HPL.out]at this;exact this
 have CN:∀(k:Nat) (nm:ByteArray) (l:List Nat) (W:World),aB w3 W->(∃p,P[k]?=some p/\p.name=nm/\p.data=cG l)->l.length<=100000->(∀n∈l,n<9223372036854775808) ->
   Hid (Calls Tryz.prog 19 #[.slice qa 11 qc,.string nm] W λe w'=>∃v,e=.returned v/\aO w' W.heap.size 3 1 jP v l/\aB W w'):=λk nm l W hW ⟨p,hp,i7,hd⟩ hl hn=>by
  obtain⟨q,hq,e1,e2⟩:=oJ0 wu hp
  have h:=iR0 Q k q l qa qc W (by omega) (py.grows hW) (hqp.grows hW) hq (λj p' hj hp'=>by
   have h1:∃p2,P[j]?=some p2:=⟨_,Ad (by have:=(List.getElem?_eq_some_iff.1 hp).1;omega)⟩;obtain⟨p2,cz⟩:=h1;obtain⟨q2,b9,e3,_⟩:=oJ0 wu cz;rw[hp']at b9;rw[Option.some.inj b9,e3,e1];exact HNE.out j k p2 p cz hp hj) (by rw[e2,hd]) hl hn
  rw[hQl,e1,i7]at h;exact h
 rw[hQl];have HCN:=Aa CN;clear CS2 bu wu py hqp hQl CN HNE HPL;go_wp2_with fail
 refine(HCN.out 3 ⟨#[102,105,114,115,116]⟩ [0,2] w3 (aB.refl w3) HP3.out (by decide) (by decide)).out.mono ?_;rintro e w4 ⟨v4,rfl,hv4,cd⟩;obtain⟨a4,c4,io,_,_,me⟩:=hv4.at_ (k:=1) (λx=>(rfl:(jP x).length=1));rw[show ([0,2]:List Nat).length=2 from rfl]at io
 subst io;have vx:=qR (enc:=jP) (k:=1) (w:=w4) (t:=3) (fz:=(0,0)) (cs:=#[.int .i64 0,.int .i64 2]) (λ_=>rfl) [0,2] rfl;have CA4:=Aa (zY [0,2] a4 (some ⟨w4.heap.size,0,none⟩) c4 2 _ (by decide) (me.grows (aB.alloc _ _)) vx);have ag0:=aB.trans _ _ _ (aB.refl w3) (aB.trans _ _ _ cd (aB.alloc w4 (.cells #[.int .i64 0,.int .i64 2] 3)));clear hv4 me vx cd;go_wp2_with fail
 refine CA4.out.mono ?_;rintro e w5 ⟨rfl,bg⟩;have ag1:=aB.trans _ _ _ ag0 bg;clear CA4 ag0 bg;go_wp2_with fail
 refine(HCN.out 5 ⟨#[115,117,114,102,97,99,101]⟩ [1,2,0] w5 (ag1) HP5.out (by decide) (by decide)).out.mono ?_;rintro e w6 ⟨v6,rfl,hv6,de⟩;obtain⟨a6,c6,io,_,_,yf⟩:=hv6.at_ (k:=1) (λx=>(rfl:(jP x).length=1));rw[show ([1,2,0]:List Nat).length=3 from rfl]at io
 subst io;have hb6:=qR (enc:=jP) (k:=1) (w:=w6) (t:=3) (fz:=(0,0)) (cs:=#[.int .i64 1,.int .i64 2,.int .i64 0]) (λ_=>rfl) [1,2,0] rfl;have CA6:=Aa (zY [1,2,0] a6 (some ⟨w6.heap.size,0,none⟩) c6 3 _ (by decide) (yf.grows (aB.alloc _ _)) hb6);have ag2:=aB.trans _ _ _ (ag1) (aB.trans _ _ _ de (aB.alloc w6 (.cells #[.int .i64 1,.int .i64 2,.int .i64 0] 3)));clear hv6 yf hb6 de;go_wp2_with fail
 refine CA6.out.mono ?_;rintro e w7 ⟨rfl,ck⟩;have ag3:=aB.trans _ _ _ ag2 ck;clear CA6 ag2 ck;go_wp2_with fail
 refine(HCN.out 8 ⟨#[99,111,115,116]⟩ [20,30,40] w7 (ag3) HP8.out (by decide) (by decide)).out.mono ?_;rintro e w8 ⟨v8,rfl,hv8,eo⟩;obtain⟨a8,c8,io,_,_,pr⟩:=hv8.at_ (k:=1) (λx=>(rfl:(jP x).length=1));rw[show ([20,30,40]:List Nat).length=3 from rfl]at io
 subst io;have hb8:=qR (enc:=jP) (k:=1) (w:=w8) (t:=3) (fz:=(0,0)) (cs:=#[.int .i64 20,.int .i64 30,.int .i64 40]) (λ_=>rfl) [20,30,40] rfl;have CA8:=Aa (zY [20,30,40] a8 (some ⟨w8.heap.size,0,none⟩) c8 3 _ (by decide) (pr.grows (aB.alloc _ _)) hb8);have ag4:=aB.trans _ _ _ (ag3) (aB.trans _ _ _ eo (aB.alloc w8 (.cells #[.int .i64 20,.int .i64 30,.int .i64 40] 3)));clear hv8 pr hb8 eo;go_wp2_with fail
 refine CA8.out.mono ?_;rintro e w9 ⟨rfl,ft⟩;have ag5:=aB.trans _ _ _ ag4 ft;clear CA8 ag4 ft;go_wp2_with fail
 refine(HCN.out 9 ⟨#[111,114,100,101,114]⟩ [2,0,1] w9 (ag5) HP9.out (by decide) (by decide)).out.mono ?_;rintro e w10 ⟨v10,rfl,ag6,et⟩;obtain⟨a10,c10,io,_,_,aco⟩:=ag6.at_ (k:=1) (λx=>(rfl:(jP x).length=1));rw[show ([2,0,1]:List Nat).length=3 from rfl]at io
 subst io;have ag7:=qR (enc:=jP) (k:=1) (w:=w10) (t:=3) (fz:=(0,0)) (cs:=#[.int .i64 2,.int .i64 0,.int .i64 1]) (λ_=>rfl) [2,0,1] rfl;have CA10:=Aa (zY [2,0,1] a10 (some ⟨w10.heap.size,0,none⟩) c10 3 _ (by decide) (aco.grows (aB.alloc _ _)) ag7);have acp:=aB.trans _ _ _ (ag5) (aB.trans _ _ _ et (aB.alloc w10 (.cells #[.int .i64 2,.int .i64 0,.int .i64 1] 3)));clear ag6 aco ag7 et;go_wp2_with fail
 refine CA10.out.mono ?_;rintro e w11 ⟨rfl,gm⟩;have acq:=aB.trans _ _ _ acp gm;clear CA10 acp gm;go_wp2_with fail
 refine(HCN.out 10 ⟨#[97,116]⟩ [0,1,2] w11 (acq) HP10.out (by decide) (by decide)).out.mono ?_;rintro e w12 ⟨v12,rfl,ag8,fe⟩;obtain⟨a12,c12,io,_,_,acr⟩:=ag8.at_ (k:=1) (λx=>(rfl:(jP x).length=1));rw[show ([0,1,2]:List Nat).length=3 from rfl]at io
 subst io;have ag9:=qR (enc:=jP) (k:=1) (w:=w12) (t:=3) (fz:=(0,0)) (cs:=#[.int .i64 0,.int .i64 1,.int .i64 2]) (λ_=>rfl) [0,1,2] rfl;have CA12:=Aa (zY [0,1,2] a12 (some ⟨w12.heap.size,0,none⟩) c12 3 _ (by decide) (acr.grows (aB.alloc _ _)) ag9);have acs:=aB.trans _ _ _ (acq) (aB.trans _ _ _ fe (aB.alloc w12 (.cells #[.int .i64 0,.int .i64 1,.int .i64 2] 3)));clear ag8 acr ag9 fe;go_wp2_with fail
 refine CA12.out.mono ?_;rintro e w13 ⟨rfl,aha⟩;have afc:=aB.trans _ _ _ acs aha;clear CA12 acs aha;go_wp2
 go_ret;exact⟨rfl,aB.trans _ _ _ jq afc⟩
end
end Go.Proofs.YtiopheoljccmpaaGreatDoor
