/- The texts Bbld R18e Dct ImgL DicS DicA DicO ChapP Wk18P WkH Chap19, one behind the other. -/
import Derived.Test.YtheiocndipepaaaGreatDoorKq37
import Derived.Test.YtheiocndipepaaaGreatDoorKq38
import Derived.Test.YtheiocndipepaaaGreatDoorKq35
import Derived.Test.YtheiocndipepaaaGreatDoorKq39
import Derived.Test.YtheiocndipepaaaGreatDoorKq36
import Derived.Test.YtheiocndipepaaaGreatDoorKq4
import Derived.Test.YtheiocndipepaaaGreatDoorKq14
import Derived.Test.YtheiocndipepaaaGreatDoorKq23
import Derived.Test.YtheiocndipepaaaGreatDoorKq22
open Go.Lib renaming hid → Aa
open List renaming filter_cons → Ab,length_map → Ac,range → Ad,mem_of_getElem? → Ae,getElem?_map → Af,getElem?_eq_getElem → Ag,getElem?_range → Al,length_append → Am,length_range → An,filter_congr → Ao,length_cons → Ap,range' → At
open Nat renaming le_refl → Ah,le_trans → Aj,zero_le → Aq
open Int renaming toNat_of_nonneg → Ai
open Bool renaming and_eq_true → Ak,eq_iff_iff → Ar
open ByteArray renaming size → As
set_option maxHeartbeats 4000000
namespace Go.Proofs.YtheiocndipepaaaGreatDoor
set_option maxRecDepth 100000
section
open Go Go.RowKit Go.Shelf
attribute [local go_sem] aM aK
def cM (p:List cH) (m:Option Mx) (l:List En) (w:World) (e:Ending) (w':World):Prop :=
 Grows w w'/\∃v,e=.returned (.tuple #[v,.int .i64 (nQ p m l).1])/\aV w' w.heap.size 5 1 aX v (nQ p m l).2
theorem uM0 (p:List cH) (mv:Value) (m:Option Mx) (l:List En) (pa a:Option Addr) (pc c:Nat) (w:World) (he:Env w) (hp:p.length<=4611686018427387904) (hl:l.length<=140737488355328) (hs:∀x∈l,x.r.size<9223372036854775807/\x.s.size<9223372036854775807)
  (ms:aF w pa 2 (p.map bG)) (hm:fC1 w mv m) (ac:aF w a 5 (l.map aQ)) (hc:mL p m l≠0) :
  Calls Tryz.prog 11 #[.slice pa p.length pc,mv,.slice a l.length c] w (cM p m l w):=by
 have fp:Grows w (w.alloc (.cells #[.slice a l.length c] 24)):=Grows.alloc _ _;have CC:=Aa (fT0 p mv m l pa a pc c _ (he.grows fp) hp hl hs (ms.grows fp) (hm.grows fp) (ac.grows fp));have bu:(w.alloc (.cells #[.slice a l.length c] 24)).cell? ⟨w.heap.size,0,none⟩=some (.slice a l.length c):=aT w _ _ (0,0) 0 _ rfl;unfold cM nQ;rw[if_neg hc];obtain⟨f,hf⟩:=exq (mL p m l);rw[<-hf]at CC hc ⊢;clear he hs ms hm ac hf fp;go_enter Tryz.func11,Tryz.ntmps11
 go_wp2_with fail
 refine CC.out.mono ?_;rintro e w1 ⟨rfl,ag⟩;go_wp2
 go_ret2;exact⟨Grows.trans _ _ _ (Grows.alloc _ _) ag,_,rfl,aV.nil _ _ _ _ _⟩
theorem pR1 {k:Nat} (h:k<=1048576):(Lit.int .i64 (k:Int)).wf=true:=by
 simp[Lit.wf,IntKind.min,IntKind.max,IntKind.bits,IntKind.signed];omega
theorem cM.long {p:List cH} {m:Mx} {l:List En} {w w':World} (hc:mL p (some m) l=0) (h:¬(dC (bls (readL (sortS l)))=0/\dC (bls (surfL (sortS l)))=0)) (hg:Grows w w'):cM p (some m) l w (.returned (.tuple #[.slice none 0 0,.int .i64 2])) w':=by
 unfold cM nQ;rw[if_pos hc];simp only;rw[if_neg h];exact⟨hg,_,rfl,aV.nil _ _ _ _ _⟩
theorem cM.join {p:List cH} {m:Mx} {l:List En} {w w':World} {e:Ending} (hc:mL p (some m) l=0) (h:dC (bls (readL (sortS l)))=0/\dC (bls (surfL (sortS l)))=0) (hg:Grows w w')
  (hj:(fK (imgP p m (sortS l))=0->∃v,e=.returned (.tuple #[v,.int .i64 0])/\aV w' w.heap.size 5 1 aX v (file14 (imgP p m (sortS l))))/\(fK (imgP p m (sortS l))≠0->e=.returned (.tuple #[.slice none 0 0,.int .i64 (fK (imgP p m (sortS l)))]))):cM p (some m) l w e w':=by
 unfold cM nQ;rw[if_pos hc];simp only;rw[if_pos h];refine⟨hg,?_⟩;by_cases h0:fK (imgP p m (sortS l))=0
 ·rw[if_pos h0];exact hj.1 h0
 ·rw[if_neg h0];exact⟨_,hj.2 h0,aV.nil _ _ _ _ _⟩
theorem mU0 (p:List cH) (mb bm:Nat) (m:Mx) (l:List En) (pa a:Option Addr) (pc c:Nat) (w:World) (he:Env w) (hp:p.length<=4611686018427387904) (hs:∀x∈l,rZ x) (hz:∀x∈l,x.r.size<=1099511627776/\x.s.size<=1099511627776) (hl:l.length<=20000) (hv:dF p=true)
  (ms:aF w pa 2 (p.map bG)) (hm:fM w mb bm m) (ac:aF w a 5 (l.map aQ)) (hc:mL p (some m) l=0) :
  Calls Tryz.prog 11 #[.slice pa p.length pc,.pointer (some ⟨mb,0,none⟩),.slice a l.length c] w (cM p (some m) l w):=by
 have fp:Grows w (w.alloc (.cells #[.slice a l.length c] 24)):=Grows.alloc _ _;have CC:=Aa (fT0 p (.pointer (some ⟨mb,0,none⟩)) (some m) l pa a pc c _ (he.grows fp) hp (by omega) (λx hx=>by have:=hz x hx;omega) (ms.grows fp) (fC1.grows (m:=some m) ⟨mb,bm,rfl,hm⟩ fp) (ac.grows fp));have bu:(w.alloc (.cells #[.slice a l.length c] 24)).cell? ⟨w.heap.size,0,none⟩=some (.slice a l.length c):=aT w _ _ (0,0) 0 _ rfl;have aae:=Aa (iP0 w #[.slice a l.length c] 24 0);rw[hc]at CC;have HCH:=Aa hc;obtain⟨es,na⟩:=exq (sortS l);have HSO:=Aa na;have HE:=Aa he;have HPT:=Aa ms;have HM:=Aa hm;have HAT:=Aa ac;have HZ:=Aa hz;have HS:=Aa hs;have HGA:=Aa fp;clear he hs hz ms hm ac hc na;go_enter Tryz.func11,Tryz.ntmps11
 go_wp2_with fail
 obtain⟨wA,hwA⟩:=exq (w.alloc (.cells #[.slice a l.length c] 24));have af6:w.heap.size<wA.heap.size:=by rw[hwA];simp
 rw[<-hwA]at HGA CC aae bu ⊢;have HSZ:=Aa af6;obtain⟨eb,dh⟩:=exq w.heap.size;have HEB:=Aa dh;have HF:Hid (wA.frozen? ⟨eb,0,none⟩=false):=by rw[dh];exact aae
 rw[<-dh]at bu ⊢;clear hwA aae fp af6 dh;refine CC.out.mono ?_;rintro e w1 ⟨rfl,ag⟩;have aaa:=ag.cell bu;have CS:=Aa (mK0 l a c w1 (by omega) HS.out (HAT.out.grows (Grows.trans _ _ _ HGA.out ag)));clear CC bu;go_wp2_with fail
 refine CS.out.mono ?_;rintro e w2 ⟨v2,rfl,ii,af⟩;rw[<-HSO.out]at ii;have na:=HSO.out;have HES:Hid (∀x∈es,x∈l):=λx hx=>by rw[na]at hx;exact(((dR l).2 x).1 hx).1
 have qo:es.length<=l.length:=by rw[na];exact dJ ((dR l).1.imp λ{a b} fi e=>by rw[e,fF]at fi;cases fi) λy hy=>(((dR l).2 y).1 hy).1
 have hf2:w2.frozen? ⟨eb,0,none⟩=false:=((Grows.trans _ _ _ ag af).froz (by rw[HEB.out];exact HSZ.out)).trans HF.out;have aab:=af.cell aaa;have qt:Grows w w2:=Grows.trans _ _ _ HGA.out (Grows.trans _ _ _ ag af);have ad3:eb<w1.heap.size:=by rw[HEB.out];exact Nat.lt_of_lt_of_le HSZ.out ag.size
 have ja:=nH ii (p:=⟨eb,0,none⟩) ad3 v2;obtain⟨sa,sc,rfl,_,_,d9⟩:=ja.at_ lW;have qu:Grows w (w2.setCell ⟨eb,0,none⟩ (.slice sa es.length sc)):=qt.set (by rw[HEB.out];exact Ah _) _;have td:(w2.setCell ⟨eb,0,none⟩ (.slice sa es.length sc)).cell? ⟨eb,0,none⟩=some (.slice sa es.length sc):=World.cell?_setCell_same _ _ _ (by rw[aab];first|done|rfl)
 obtain⟨w3,hw3⟩:=exq (w2.setCell ⟨eb,0,none⟩ (.slice sa es.length sc));clear CS ag af aaa ii ja na HF;go_wp2_with fail
 rw[<-hw3]at d9 qu td ⊢;clear hw3 hf2 aab qt ad3 HSZ HGA;have HAE:=Aa d9;have HCE:=Aa td;clear d9 td;have CR:=Aa (sX0 (λx=>x.r) _ nS1 hS1 es sa sc w3 (by omega) (HAE.out.grows (Grows.refl _)));obtain⟨BR,hBR⟩:=exq (readL es);rw[show mO (es.map λx=>x.r)=BR from hBR.symm]at CR
 have HBR:=Aa hBR;have hlR:BR.length<=20000:=by rw[hBR];have:=oJ (es.map λx=>x.r);rw[Ac]at this;unfold readL;omega
 have HZR:Hid (∀s∈BR,s.size<=1099511627776):=λs hs=>by
  rw[hBR]at hs;obtain⟨x,hx,rfl⟩:=List.mem_map.1 (sP hs);exact(HZ.out x (HES.out x hx)).1
 clear hBR;refine CR.out.mono ?_;rintro e w4 ⟨dl,bR,ai2,rfl,hbR,hOR⟩;obtain⟨a',c',e',_,_,hAR⟩:=hOR.at_ (k:=1) (λx=>(rfl:(stC x).length=1));have e'':=(Value.slice.inj e').1;subst e'';have CLR:=Aa (xP BR (some ⟨bR,0,none⟩) ai2 w4 (by omega) HZR.out (λq hq=>by cases hq;exact hbR) hAR);clear CR e' hAR hOR hbR HZR;go_wp2_with fail
 refine CLR.out.mono ?_;rintro e w5 ⟨dp,hTR⟩;clear CLR;have g5:=Grows.trans _ _ _ dl dp;clear dl dp;rcases hTR with ⟨xx,tr,rfl,hTR,_⟩|⟨xx,rfl⟩
 ·have HTR:=Aa hTR
  have HKR:=Aa xx;have ab1:=g5.cell HCE.out;clear hTR xx;go_wp2_with fail
  have CS:=Aa (sX0 (λx=>x.s) _ oE1 gR1 es sa sc w5 (by omega) (HAE.out.grows g5));obtain⟨BS,hBS⟩:=exq (surfL es);rw[show mO (es.map λx=>x.s)=BS from hBS.symm]at CS
  have HBS:=Aa hBS;have hlS:BS.length<=20000:=by rw[hBS];have:=oJ (es.map λx=>x.s);rw[Ac]at this;unfold surfL;omega
  have HZS:Hid (∀s∈BS,s.size<=1099511627776):=λs hs=>by
   rw[hBS]at hs;obtain⟨x,hx,rfl⟩:=List.mem_map.1 (sP hs);exact(HZ.out x (HES.out x hx)).2
  clear hBS;refine CS.out.mono ?_;rintro e w6 ⟨te,bS,ai3,rfl,hbS,hOS⟩;obtain⟨a',c',e',_,_,hAS⟩:=hOS.at_ (k:=1) (λx=>(rfl:(stC x).length=1));have e'':=(Value.slice.inj e').1;subst e'';have CLS:=Aa (xP BS (some ⟨bS,0,none⟩) ai3 w6 (by omega) HZS.out (λq hq=>by cases hq;exact hbS) hAS);clear CS e' hAS hOS hbS;go_wp2_with fail
  refine CLS.out.mono ?_;rintro e w7 ⟨tf,hTS⟩;clear CLS;have g7:=Grows.trans _ _ _ g5 (Grows.trans _ _ _ te tf);have G57:=Aa (Grows.trans _ _ _ te tf);clear te tf ab1;rcases hTS with ⟨z9,ts,rfl,hTS,_⟩|⟨z9,rfl⟩
  ·have HTS:=Aa hTS
   have HKS:=Aa z9;have xh:=@run_makeMap Tryz.prog;have CLn:=λW h=>Aa (uM (bls BS) ts W (hTS.grows (w':=W) h));obtain⟨w8,hw8⟩:=exq ((w7.alloc (.map #[] 0)).alloc (.cells #[.map (some w7.heap.size)] 73));have fq:Grows w7 w8:=by rw[hw8];exact(Grows.alloc _ _).al _
   have um:=(World.ownsMap_made w7 Tryz.prog 9 (plainElem (H:=Unit) Tryz.prog 3)).alloc (.cells #[.map (some w7.heap.size)] 73);rw[<-hw8]at um
   have tg:w8.cell? ⟨w7.heap.size+1,0,none⟩=some (.map (some w7.heap.size)):=by
    rw[hw8];have ei:(w7.alloc (.map #[] 0)).heap.size=w7.heap.size+1:=by simp
    have h:=aT (w7.alloc (.map #[] 0)) #[.map (some w7.heap.size)] 73 (0,0) 0 _ rfl;rw[ei]at h;exact h
   obtain⟨af7,af8,hcS⟩:=dO z9;have gp:(bls BS).length=BS.length:=by unfold bls;rw[Ac]
   have CT:=λk W h hk=>Aa (jI0 (bls BS) ts k W af7 af8 hcS hk (hTS.grows (w':=W) h))
   have HGT:Hid (∀k,k<BS.length->BS[k]?=some (mkB (nth (bls BS) k))):=λk hk=>by
    rw[HBS.out]at hk ⊢;exact fJ1 hk
   have HND:Hid BS.Nodup:=by rw[HBS.out];exact lC _
   rw[gp]at CT CLn;clear hTS z9 af7 af8 hcS gp;go_wp2_with fail
   rw[<-hw8];have CL8:=CLn w8 fq;clear CLn;obtain⟨mp,hmp⟩:=exq w7.heap.size;obtain⟨ib,hib⟩:=exq (mp+1);rw[<-hmp,<-hib]at tg ⊢;rw[<-hmp]at um;have HMP:=Aa hmp;have HIB:=Aa hib;clear hw8 xh hmp hib;refine CL8.out.mono ?_;rintro e w9 ⟨rfl,rfl⟩;clear CL8;go_wp2_with fail
   go_loopw [54] (λi wr=>∃(k:Nat) (D:DataW Unit),k<=BS.length/\i=.int .i64 k/\wr.cell? ⟨ib,0,none⟩=some (.map (some mp))/\wr.ownsMap Tryz.prog 9 (plainElem Tryz.prog 3) mp k D/\Hid (IdM BS k D)/\Grows w7 wr) (λi _=>BS.length-(intOf i).toNat)
   case atStart=>exact⟨0,_,Aq _,rfl,tg,um,jB1 _ _,fq⟩
   case round =>
    clear tg um fq;obtain⟨k,D,hk,rfl,bh,aa,hM,hg⟩:=hrel;by_cases ae:k<BS.length
    ·have CT1:=CT k wr hg ae
     obtain⟨sk,hsk⟩:=exq (mkB (nth (bls BS) k));have vn:=HGT.out k ae;rw[<-hsk]at CT1 vn;have ai4:sk.size<=maxLen:=Aj (HZS.out sk (Ae vn)) (by unfold maxLen;omega);have HBK:=Aa vn;have cy:(k:Int)<BS.length:=by omega
     have hwk:=pR1 (k:=k) (by omega);have hkm:k<maxLen:=by unfold maxLen;omega
     clear CT hsk vn;go_wp2_with fail
     refine CT1.out.mono ?_;rintro e w10 ⟨rfl,fu⟩;have ads:=fu.cell bh;have aj:=cG aa fu;have af:=Grows.trans _ _ _ hg fu;clear CT1 bh aa;go_wp2_with (at_mapUpdate;refine wpList_mapUpdate_own _ rfl _ _ _ 73 rfl 9 3 (Maps.string_keyed Tryz.underlying9) Tryz.underlying73 _ mp k D rfl aj hkm _ _ (.string sk.data.toList) rfl rfl (WideMaps.keyOf_string_mk Tryz.underlying9 ai4) _ [] (plainElem_int Tryz.underlying3 hwk) ?_;intro w11 ab2 o7)
     have hM2:=Aa (mB1 hM.out aj HND.out HBK.out);have ai5:w11.cell? ⟨ib,0,none⟩=some (.map (some mp)):=cF o7 ads (by rw[HIB.out];simp);have aw:=af.grown o7 (λq hq=>by cases hq;rw[HMP.out];exact Ah _);clear ads aj hM hg af fu o7;go_roundw
     case rel=>exact⟨k+1,_,ae,by go_num,ai5,ab2,hM2,aw⟩
     case measure=>simp[intOf];omega
    ·obtain rfl:k=BS.length:=by omega
     have HID:Hid (kZ1 wr ib BS):=⟨_,_,_,bh,aa,hM.out⟩;clear CT bh aa hM HND HGT;go_wp2_with fail
     have G20:=Aa (Grows.trans _ _ _ g7 hg);have ad4:=Grows.trans _ _ _ qu (Grows.trans _ _ _ g7 hg);have CPE:=Aa (tQ0 p pa pc wr hv (HPT.out.grows ad4));have G5r:=Aa (Grows.trans _ _ _ G57.out hg);have G7r:=Aa hg;clear hg g7 g5;refine CPE.out.mono ?_;rintro e w21 ⟨v1,rfl,fy,aar⟩;clear CPE;have un:=aar.cell (G20.out.cell HCE.out);have CI:=Aa (bE0 rS _ lI1 kB1 es sa sc w21 (by omega) (HAE.out.grows (Grows.trans _ _ _ G20.out aar)));have HV1:=Aa fy;clear fy;go_wp2_with fail
     refine CI.out.mono ?_;rintro e mw ⟨acj,v2,rfl,ii⟩;clear CI;have HV2:=Aa ii;have uo:=acj.cell un;have ke:=λ(Y:World)=>jS1 es.length Y (by omega);have G22:=Aa (Grows.trans _ _ _ aar acj);have G2122:=Aa acj;have HS21:Hid (w.heap.size<=w21.heap.size):=Aj ad4.size aar.size;clear ii un aar acj;go_wp2_with fail
     have bk:=gN0 (w:=mw) (n:=es.length) (by omega);have hrl:(Ad es.length).length=es.length:=An;rw[Nat.mul_one]at bk;have rh:List.replicate es.length 0=mU (Ad es.length) 0 0:=by rw[rI,hrl]
     rw[rh]at bk;clear rh;obtain⟨w23,ack⟩:=exq (mw.alloc (.cells (madeCells #[.int .i64 0] es.length) 3));have af9:Grows mw w23:=by rw[ack];exact Grows.alloc _ _
     have aaf:mw.heap.size<w23.heap.size:=by rw[ack];simp
     rw[<-ack]at bk ⊢;obtain⟨ob,vg⟩:=exq mw.heap.size;rw[<-vg]at aaf ⊢;have aac:aV w23 mw.heap.size 3 1 kG (.slice (some ⟨ob,0,none⟩) es.length es.length) (mU (Ad es.length) 0 0):=by rw[vg];exact bk
     have HOB:=Aa vg;have aga:mw.heap.size<=ob:=by rw[vg];exact Ah _
     have HOBE:=Aa aga
     have X22:Aside (kZ1 mw ib BS/\mw.cell? ⟨eb,0,none⟩=some (.slice sa es.length sc)/\aF mw sa 5 (es.map aQ)/\eF mw tr (bls BR)/\eF mw ts (bls BS)/\aV mw w.heap.size 5 1 aX v1 (posE p)/\aV mw w.heap.size 3 1 kG v2 (gT rS es es.length)/\fM mw mb bm m/\Env mw/\Grows w mw):=by
      have g1:=Grows.trans _ _ _ G20.out G22.out;have g0:=Grows.trans _ _ _ qu g1;exact⟨HID.out.grows G22.out,uo,HAE.out.grows g1,HTR.out.grows (Grows.trans _ _ _ G5r.out G22.out),HTS.out.grows (Grows.trans _ _ _ G7r.out G22.out),(HV1.out.grows G2122.out).base ad4.size,HV2.out.base HS21.out,HM.out.grows g0,HE.out.grows g0,g0⟩
     clear ack bk ke uo vg aga;go_loopw [79] (λi wr=>∃(k:Nat),k<=es.length/\i=.int .i64 k/\Hid (aV wr mw.heap.size 3 1 kG (.slice (some ⟨ob,0,none⟩) es.length es.length) (mU (Ad es.length) 0 k))/\Grows mw wr/\ob<wr.heap.size) (λi _=>es.length-(intOf i).toNat)
     case atStart=>exact⟨0,Aq _,rfl,aac,af9,aaf⟩
     case round =>
      clear aac af9 aaf;obtain⟨k,hk,rfl,aa,hg,vl⟩:=hrel;by_cases ae:k<es.length
      ·have cy:(k:Int)<es.length:=by omega
       obtain⟨z,hz⟩:∃z,(mU (Ad es.length) 0 k)[k]?=some z:=⟨_,Ag (by rw[nC _ _ (by omega)];omega)⟩;have e1:=cU (f:=λn:Nat=>Value.int .i64 n) aa.out hz;obtain⟨f1,_,ax⟩:=eC (f:=λn:Nat=>Value.int .i64 n) aa.out (k:=k) (by rw[nC _ _ (by omega)];omega) k;rw[uY (Al ae)]at ax;have HO:=Aa ax;clear hz aa ax;go_wp2_with fail
       go_roundw
       case rel=>exact⟨k+1,ae,by go_num,HO.out,hg.set HOBE.out _,by simpa using vl⟩
       case measure=>simp[intOf];omega
      ·obtain rfl:k=es.length:=by omega
       have aj:aV wr mw.heap.size 3 1 kG (.slice (some ⟨ob,0,none⟩) es.length es.length) (Ad es.length):=by
        have h:=aa.out;have e9:=uP (Ad es.length) 0;rw[An]at e9;rwa [e9]at h
       have HMS:Hid (∀x∈es,x.s∈BS):=λx hx=>by rw[HBS.out];exact gW0 (List.mem_map_of_mem hx)
       have OA:=Aa (pO1 (es:=es) (BS:=BS) (ib:=ib) (eb:=eb) (sc:=sc) (ob:=ob) (sa:=sa) (wB:=mw) (w0:=wr) (by omega) (by omega) hg HOBE.out X22.out.1 X22.out.2.1 X22.out.2.2.1 aj vl HMS.out (λx hx=>Aj (HZ.out x (HES.out x hx)).2 (by unfold maxLen;omega)));have CSS:=Aa (dW0 OA.out.1 es.length (Ad es.length).toArray wr (by simp) (λi hi=>by unfold Fd;simp[hi]) OA.out.2);clear aa aj;go_wp2_with fail
       refine CSS.out.mono ?_;rintro e w30 ⟨rfl,dk,vd,hwd,SD⟩;have agb:=tG0 hg HOBE.out SD;have HL:=Aa (iS1 (_wB:=mw) vd hwd HMS.out OA.out.1.row SD);have aal:=agb.cell X22.out.2.1;clear CSS SD vd hwd OA hg vl;obtain⟨O,hO⟩:=exq (grpsL (jW BS es) es.length BS.length);rw[<-hO]at HL;have HO:=Aa hO;obtain⟨so,hso⟩:=exq (O.map λi=>es.getD i enZero);have HSO2:=Aa hso;have agc:so.length=es.length:=by rw[hso,Ac];exact HL.out.2.1
       have HG30:=Aa agb;obtain⟨iu,hiu,hzu,hsu,sn⟩:=oR1;clear hO hso;go_wp2_with (at_make;refine wpList_make_full _ rfl _ _ 24 rfl w30.heap.size 52 iu enZero.agg 5 Tryz.underlying24 hiu hzu hsu .i64 .i64 _ _ es.length rfl rfl rfl rfl (by rw[sn];omega) (by unfold maxLen;omega) (Ah _) ?_;intro w31 th abi)
       have agd:=(Grows.refl w30).grown abi (λq hq=>by cases hq);obtain⟨sb,nt⟩:=exq w30.heap.size;rw[<-nt]at th ⊢;obtain⟨hS0,_⟩:=nP0.made (so:=so) th;have age:w30.heap.size<=sb:=by rw[nt];exact Ah _
       have HSBE:=Aa age;clear th abi nt age hiu hzu hsu sn aal;go_wp2_with fail
       go_loopw [95] (λi wr=>∃(k:Nat),k<=es.length/\i=.int .i64 k/\nP0 wr sb es.length so k/\Grows w30 wr) (λi _=>es.length-(intOf i).toNat)
       case atStart=>exact⟨0,Aq _,rfl,hS0,agd⟩
       case round =>
        clear hS0 agd;obtain⟨k,hk,rfl,hS,hg⟩:=hrel;by_cases ae:k<es.length
        ·obtain⟨o,ho⟩:∃o,O[k]?=some o:=⟨_,Ag (by rw[HL.out.2.1];exact ae)⟩
         have hoe:=HL.out.2.2 o (Ae ho);obtain⟨b1,o1,e1,m7⟩:=at1 (f:=λn:Nat=>Value.int .i64 n) HL.out.1 (aH (List.getElem?_eq_some_iff.1 ho).1);obtain⟨rfl,rfl⟩:ob=b1/\0=o1:=by simpa using e1
         have hoc:=hg.cell (m7 k o ho);rw[Nat.zero_add]at hoc;obtain⟨⟨xr,xs,xl,xt,xc⟩,hx⟩:∃x,es[o]?=some x:=⟨_,Ag hoe⟩;have gr:=Grows.trans _ _ _ HG30.out hg;have hec:=gr.cell X22.out.2.1;obtain⟨ba,oa,rfl,be⟩:=(X22.out.2.2.1.grows gr).get (aH hoe);have c0:wr.cell? ⟨ba,oa+o*5,none⟩=some (.string xr):=be o _ hx 0 _ rfl;have c1:wr.cell? ⟨ba,oa+o*5+1,none⟩=some (.string xs):=be o _ hx 1 _ rfl;have c2:wr.cell? ⟨ba,oa+o*5+2,none⟩=some (.int .i64 xl):=be o _ hx 2 _ rfl;have c3:wr.cell? ⟨ba,oa+o*5+3,none⟩=some (.int .i64 xt):=be o _ hx 3 _ rfl;have c4:wr.cell? ⟨ba,oa+o*5+4,none⟩=some (.int .i64 xc):=be o _ hx 4 _ rfl
         have hsk:so[k]?=some ⟨xr,xs,xl,xt,xc⟩:=by
          rw[HSO2.out,Af,ho];simp only[Option.map_some];rw[List.getD_eq_getElem?_getD,hx];rfl
         have HST:=Aa (hS.step ae hsk);obtain⟨q0,d0⟩:=hS.cell (j:=k*5) (by omega);have S1:=hS.set (j:=k*5) (Ah _) (.string xr);obtain⟨q1,d1⟩:=S1.cell (j:=k*5+1) (by omega);have S2:=S1.set (j:=k*5+1) (by omega) (.string xs);obtain⟨q2,d2⟩:=S2.cell (j:=k*5+2) (by omega);have S3:=S2.set (j:=k*5+2) (by omega) (.int .i64 xl);obtain⟨q3,d3⟩:=S3.cell (j:=k*5+3) (by omega);have S4:=S3.set (j:=k*5+3) (by omega) (.int .i64 xt);obtain⟨q4,d4⟩:=S4.cell (j:=k*5+4) (by omega);have f0:=hS.froz (k*5);have f1:=hS.froz (k*5+1);have f2:=hS.froz (k*5+2);have f3:=hS.froz (k*5+3);have f4:=hS.froz (k*5+4);have hoi:(o:Int)<es.length:=by omega
         have cy:(k:Int)<es.length:=by omega
         clear ho m7 hx be hsk hS e1 S1 S2 S3 S4;go_wp2_with fail
         go_roundw
         case rel=>exact⟨k+1,ae,by go_num,HST.out,((((hg.set HSBE.out _).set HSBE.out _).set HSBE.out _).set HSBE.out _).set HSBE.out _⟩
         case measure=>simp[intOf];omega
        ·obtain rfl:k=es.length:=by omega
         rw[<-agc]at hS;have hSA:=hS.at_;go_wp2_with fail
         have CI2:=Aa (bE0 gD0 _ lY1 kK1 so (some ⟨sb,0,none⟩) es.length wr (by omega) hSA);rw[agc]at CI2;refine CI2.out.mono ?_;rintro e w40 ⟨ad5,v4,rfl,jw⟩;obtain⟨a4,c4,rfl,_,_,iw⟩:=jw.at_ (k:=1) (λx=>(rfl:(kG x).length=1));have HAT4:=Aa iw;have F40:=Aa (Grows.refl w40);have G40:=Aa (Grows.trans _ _ _ HG30.out (Grows.trans _ _ _ hg ad5));have HO40:=Aa (HL.out.1.grows (Grows.trans _ _ _ hg ad5));obtain⟨v2a,v2c,rfl,_,_,qp⟩:=X22.out.2.2.2.2.2.2.1.at_ (k:=1) (λx=>(rfl:(kG x).length=1));have HAT2:=Aa qp;obtain⟨a40,c40,rfl,abj,agf⟩:=eZ X22.out.2.2.2.2.2.1;have PP40:=Aa (And.intro (abj.grows G40.out) agf);clear abj agf;have ae8:=G40.out.cell X22.out.2.1;clear CI2 ad5 jw iw qp hg hS hSA;go_wp2_with fail
         refine(vA0 w40 mb bm m (X22.out.2.2.2.2.2.2.2.1.grows G40.out)).mono ?_;rintro e w41 ⟨v41,rfl,agh,acl⟩;obtain⟨a41,c41,rfl,abk,agi⟩:=eZ agh;have PP41:=Aa (And.intro abk agi);have G41:=Aa (Grows.trans _ _ _ G40.out acl);have E41:=Aa acl;have F41:=Aa (Grows.trans _ _ _ F40.out acl);clear agh abk agi acl;go_wp2_with fail
         obtain⟨okR,lR,cR⟩:=dO HKR.out;obtain⟨okS,lS,cS⟩:=dO HKS.out;refine(iU0 (bls BR) tr w41 okR lR cR (X22.out.2.2.2.1.grows G41.out)).mono ?_;rintro e w42 ⟨v42,rfl,agj,acm⟩;obtain⟨a42,c42,rfl,abl,agk⟩:=eZ agj;have PP42:=Aa (And.intro abl agk);have G42:=Aa (Grows.trans _ _ _ G41.out acm);have E42:=Aa acm;have F42:=Aa (Grows.trans _ _ _ F41.out acm);clear agj abl agk acm;go_wp2_with fail
         have ri:=bY0 rS es es.length;have akx:=bY0 gD0 so es.length;obtain⟨_,_,_,hck⟩:=eE HCH.out;have afk:=(dN hv).1
         have HNN:Hid (∀x∈es,0<=x.l/\x.l<64/\0<=x.t/\x.t<64/\0<=x.c/\x.c<=30000):=λx hx=>by
          have:=sM (hck x (HES.out x hx));omega
         have HMZ:Hid (∀x∈es,x.s.size<=maxLen):=λx hx=>Aj (HZ.out x (HES.out x hx)).2 (by unfold maxLen;omega);clear hck;refine(oP (gT rS es es.length) v2a v2c w42 (by omega) (λn hn=>by have:=iX hn;omega) (HAT2.out.grows G42.out)).mono ?_;rintro e w43 ⟨v43,rfl,agl,acn⟩;obtain⟨a43,c43,rfl,abm,agm⟩:=eZ agl;have PP43:=Aa (And.intro abm agm);have G43:=Aa (Grows.trans _ _ _ G42.out acn);have E43:=Aa acn;have F43:=Aa (Grows.trans _ _ _ F42.out acn);clear agl abm agm acn;go_wp2_with fail
         refine(iU0 (bls BS) ts w43 okS lS cS (X22.out.2.2.2.2.1.grows G43.out)).mono ?_;rintro e w44 ⟨v44,rfl,agn,aco⟩;obtain⟨a44,c44,rfl,abn,ago⟩:=eZ agn;have PP44:=Aa (And.intro abn ago);have G44:=Aa (Grows.trans _ _ _ G43.out aco);have E44:=Aa aco;have F44:=Aa (Grows.trans _ _ _ F43.out aco);clear agn abn ago aco;have aam:=G44.out.cell X22.out.2.1;go_wp2_with fail
         refine(rE (yX BS) _ #[.pointer (some ⟨ib,0,none⟩)] nF1 es eb sa sc w44 (by omega) (λx hx=>by have:=qO (HMS.out x hx);omega) (X22.out.2.2.1.grows G44.out) aam (λx hx W hW=>gY1 BS ib (yX BS x) x W (X22.out.1.grows (Grows.trans _ _ _ G44.out hW)) (kN (HMS.out x hx)) (HMZ.out x hx))).mono ?_;rintro e w45 ⟨acp,v45,rfl,agp⟩;obtain⟨a45,c45,rfl,abo,agq⟩:=eZ agp;have PP45:=Aa (And.intro abo agq);have G45:=Aa (Grows.trans _ _ _ G44.out acp);have E45:=Aa acp;have F45:=Aa (Grows.trans _ _ _ F44.out acp);clear agp abo agq acp;have aan:=G45.out.cell X22.out.2.1;go_wp2_with fail
         refine(rE (λx=>x.l.toNat) _ #[] mP1 es eb sa sc w45 (by omega) (λx hx=>by have:=HNN.out x hx;show x.l.toNat<_;omega) (X22.out.2.2.1.grows G45.out) aan (λx hx W hW=>by rw[show ((x.l.toNat:Nat):Int)=x.l from Ai (HNN.out x hx).1];exact kC1 x W)).mono ?_
         rintro e w46 ⟨acq,v46,rfl,agr⟩;obtain⟨a46,c46,rfl,abp,ags⟩:=eZ agr;have PP46:=Aa (And.intro abp ags);have G46:=Aa (Grows.trans _ _ _ G45.out acq);have E46:=Aa acq;have F46:=Aa (Grows.trans _ _ _ F45.out acq);clear agr abp ags acq;have aao:=G46.out.cell X22.out.2.1;go_wp2_with fail
         refine(rE (λx=>x.t.toNat) _ #[] lK1 es eb sa sc w46 (by omega) (λx hx=>by have:=HNN.out x hx;show x.t.toNat<_;omega) (X22.out.2.2.1.grows G46.out) aao (λx hx W hW=>by rw[show ((x.t.toNat:Nat):Int)=x.t from Ai (HNN.out x hx).2.2.1];exact iY1 x W)).mono ?_
         rintro e w47 ⟨acr,v47,rfl,agt⟩;obtain⟨a47,c47,rfl,abq,agu⟩:=eZ agt;have PP47:=Aa (And.intro abq agu);have G47:=Aa (Grows.trans _ _ _ G46.out acr);have E47:=Aa acr;have F47:=Aa (Grows.trans _ _ _ F46.out acr);clear agt abq agu acr;have aap:=G47.out.cell X22.out.2.1;go_wp2_with fail
         refine(rE (λx=>x.c.toNat) _ #[] iC1 es eb sa sc w47 (by omega) (λx hx=>by have:=HNN.out x hx;show x.c.toNat<_;omega) (X22.out.2.2.1.grows G47.out) aap (λx hx W hW=>by rw[show ((x.c.toNat:Nat):Int)=x.c from Ai (HNN.out x hx).2.2.2.2.1];exact yI0 x W)).mono ?_
         rintro e w48 ⟨acs,v48,rfl,agv⟩;obtain⟨a48,c48,rfl,abr,agw⟩:=eZ agv;have PP48:=Aa (And.intro abr agw);have G48:=Aa (Grows.trans _ _ _ G47.out acs);have E48:=Aa acs;have F48:=Aa (Grows.trans _ _ _ F47.out acs);clear agv abr agw acs;have CO:=Aa (oP O (some ⟨ob,0,none⟩) es.length w48 (by rw[HL.out.2.1];omega) (λn hn=>by have:=HL.out.2.2 n hn;omega) (HO40.out.grows F48.out));rw[HL.out.2.1]at CO;go_wp2_with fail
         refine(CO.out).mono ?_;rintro e w49 ⟨v49,rfl,agx,acu⟩;obtain⟨a49,c49,rfl,abt,agy⟩:=eZ agx;have PP49:=Aa (And.intro abt agy);have G49:=Aa (Grows.trans _ _ _ G48.out acu);have E49:=Aa acu;have F49:=Aa (Grows.trans _ _ _ F48.out acu);clear agx abt agy acu;go_wp2_with fail
         refine(oP (gT gD0 so es.length) a4 c4 w49 (by omega) (λn hn=>by have:=iX hn;omega) (HAT4.out.grows F49.out)).mono ?_;rintro e w50 ⟨v50,rfl,agz,acv⟩;obtain⟨a50,c50,rfl,abu,ag0⟩:=eZ agz;have PP50:=Aa (And.intro abu ag0);have G50:=Aa (Grows.trans _ _ _ G49.out acv);have E50:=Aa acv;have F50:=Aa (Grows.trans _ _ _ F49.out acv);clear agz abu ag0 acv;go_wp2_with fail
         obtain⟨P,hP⟩:∃P:List bF,P=[⟨⟨#[112,111,115]⟩,posE p,a40,c40⟩,⟨⟨#[109,97,116,114,105,120]⟩,m.enc,a41,c41⟩,⟨⟨#[114,101,97,100,105,110,103,115]⟩,loudE (bls BR),a42,c42⟩,⟨⟨#[102,105,114,115,116]⟩,packE (gT rS es es.length),a43,c43⟩,⟨⟨#[115,117,114,102,97,99,101,115]⟩,loudE (bls BS),a44,c44⟩,⟨⟨#[115,117,114,102,97,99,101]⟩,packE (es.map (yX BS)),a45,c45⟩,⟨⟨#[108,101,102,116]⟩,packE (es.map λx=>x.l.toNat),a46,c46⟩,⟨⟨#[114,105,103,104,116]⟩,packE (es.map λx=>x.t.toNat),a47,c47⟩,⟨⟨#[99,111,115,116]⟩,packE (es.map λx=>x.c.toNat),a48,c48⟩,⟨⟨#[111,114,100,101,114]⟩,packE O,a49,c49⟩,⟨⟨#[97,116]⟩,packE (gT gD0 so es.length),a50,c50⟩]:=⟨_,rfl⟩;have hPl:P.length=11:=by rw[hP];rfl
         obtain⟨W9,hW9⟩:=exq (w50.alloc (.cells (P.flatMap lZ).toArray 85))
         have hPA:jA w50 P:=by
          have T50:=Grows.refl w50;have T49:=Grows.trans _ _ _ E50.out T50;have T48:=Grows.trans _ _ _ E49.out T49;have T47:=Grows.trans _ _ _ E48.out T48;have T46:=Grows.trans _ _ _ E47.out T47;have T45:=Grows.trans _ _ _ E46.out T46;have T44:=Grows.trans _ _ _ E45.out T45;have T43:=Grows.trans _ _ _ E44.out T44;have T42:=Grows.trans _ _ _ E43.out T43;have T41:=Grows.trans _ _ _ E42.out T42;have T40:=Grows.trans _ _ _ E41.out T41;have ok1:=eE HCH.out;rw[hP];refine⟨λq hq=>?_,λq hq=>?_,λq hq=>?_,λq hq=>?_⟩<;>simp only[List.mem_cons,List.mem_nil_iff,or_false]at hq
          ·rcases hq with rfl|rfl|rfl|rfl|rfl|rfl|rfl|rfl|rfl|rfl|rfl
           ·exact PP40.out.1.grows T40
           ·exact PP41.out.1.grows T41
           ·exact PP42.out.1.grows T42
           ·exact PP43.out.1.grows T43
           ·exact PP44.out.1.grows T44
           ·exact PP45.out.1.grows T45
           ·exact PP46.out.1.grows T46
           ·exact PP47.out.1.grows T47
           ·exact PP48.out.1.grows T48
           ·exact PP49.out.1.grows T49
           ·exact PP50.out.1.grows T50
          ·rcases hq with rfl|rfl|rfl|rfl|rfl|rfl|rfl|rfl|rfl|rfl|rfl
           ·exact PP40.out.2
           ·exact PP41.out.2
           ·exact PP42.out.2
           ·exact PP43.out.2
           ·exact PP44.out.2
           ·exact PP45.out.2
           ·exact PP46.out.2
           ·exact PP47.out.2
           ·exact PP48.out.2
           ·exact PP49.out.2
           ·exact PP50.out.2
          ·rcases hq with rfl|rfl|rfl|rfl|rfl|rfl|rfl|rfl|rfl|rfl|rfl<;>simp[As]
          ·rcases hq with rfl|rfl|rfl|rfl|rfl|rfl|rfl|rfl|rfl|rfl|rfl
           ·have h:=rO0 hv;show (posE p).length<=_;omega
           ·have h:=cB1 HM.out.ok;show m.enc.length<=_;omega
           ·have h:=mR0 okR lR cR;show (loudE _).length<=_;omega
           ·have h:=fA (l:=gT rS es es.length) (λn hn=>by have:=iX hn;omega);show (packE _).length<=_;omega
           ·have h:=mR0 okS lS cS;show (loudE _).length<=_;omega
           ·have h:=fA (l:=es.map (yX BS)) (λn hn=>by obtain⟨x,hx,rfl⟩:=List.mem_map.1 hn;have:=qO (HMS.out x hx);omega);rw[Ac]at h;show (packE _).length<=_;omega
           ·have h:=fA (l:=es.map λx=>x.l.toNat) (λn hn=>by obtain⟨x,hx,rfl⟩:=List.mem_map.1 hn;have:=HNN.out x hx;show x.l.toNat<_;omega);rw[Ac]at h;show (packE _).length<=_;omega
           ·have h:=fA (l:=es.map λx=>x.t.toNat) (λn hn=>by obtain⟨x,hx,rfl⟩:=List.mem_map.1 hn;have:=HNN.out x hx;show x.t.toNat<_;omega);rw[Ac]at h;show (packE _).length<=_;omega
           ·have h:=fA (l:=es.map λx=>x.c.toNat) (λn hn=>by obtain⟨x,hx,rfl⟩:=List.mem_map.1 hn;have:=HNN.out x hx;show x.c.toNat<_;omega);rw[Ac]at h;show (packE _).length<=_;omega
           ·have h:=fA (l:=O) (λn hn=>by have:=HL.out.2.2 n hn;omega);have:=HL.out.2.1;show (packE _).length<=_;omega
           ·have h:=fA (l:=gT gD0 so es.length) (λn hn=>by have:=iX hn;omega);show (packE _).length<=_;omega
         have hPC:aF W9 (some ⟨w50.heap.size,0,none⟩) 2 (P.map lZ):=by
          rw[hW9];exact nU0 P w50 _ (by omega)
         have dz:Grows w50 W9:=by rw[hW9];exact Grows.alloc _ _
         have CJ:=Aa (rQ0 P (some ⟨w50.heap.size,0,none⟩) 11 W9 (X22.out.2.2.2.2.2.2.2.2.1.grows (Grows.trans _ _ _ G50.out dz)) (by omega) hPC (hPA.grows dz));rw[hPl]at CJ
         have HPB:Hid (P.map bare=imgP p m es):=by
          show _=_
          rw[hP];unfold imgP aE0 gP aE0;rw[<-HBR.out,<-HBS.out,<-HO.out,<-HSO2.out];rfl
         have ad6:W9=w50.alloc (.cells (P.flatMap lZ).toArray 85):=hW9;rw[hP]at ad6;have HW9:=Aa ad6;have CJ2:∀W,W=W9->Hid (Calls Tryz.prog 49 #[.slice (some ⟨w50.heap.size,0,none⟩) 11 11] W (rB0 P W9)):=by rintro _ rfl;exact CJ
         have G9:=Aa dz;clear hP hW9 ad6 hPA hPC CJ dz;refine(CJ2 _ ?_).out.mono ?_
         ·rw[HW9.out];rfl
         rintro e w51 ⟨re,hj1,hgJ⟩;have GW:=Grows.trans _ _ _ X22.out.2.2.2.2.2.2.2.2.2 (Grows.trans _ _ _ G50.out (Grows.trans _ _ _ G9.out hgJ));by_cases acw:fK P=0
         ·obtain⟨v,rfl,hv'⟩:=re acw
          clear re hj1;have vv:=hv'.base (Grows.trans _ _ _ X22.out.2.2.2.2.2.2.2.2.2 (Grows.trans _ _ _ G50.out G9.out)).size;have HV':=Aa vv;clear hv' vv;go_wp2_with fail
          go_ret2;refine cM.join HCH.out ⟨by rw[<-HSO.out,<-HBR.out];exact HKR.out,by rw[<-HSO.out,<-HBS.out];exact HKS.out⟩ GW ?_;rw[<-HSO.out,<-HPB.out,qX,oO];exact⟨λ_=>⟨v,rfl,HV'.out⟩,λh=>absurd acw h⟩
         ·obtain rfl:=hj1 acw
          clear re hj1;go_wp2_with fail
          go_ret2;refine cM.join HCH.out ⟨by rw[<-HSO.out,<-HBR.out];exact HKR.out,by rw[<-HSO.out,<-HBS.out];exact HKS.out⟩ GW ?_;rw[<-HSO.out,<-HPB.out,qX,oO];exact⟨λh=>absurd h acw,λ_=>rfl⟩
  ·have HK:=Aa z9
   have tc:(dC (bls BS):Int)≠0:=by omega
   obtain⟨f,hf⟩:∃f:Int,f=dC (bls BS):=⟨_,rfl⟩;rw[<-hf]at tc ⊢;have hfb:(f != 0)=true:=by simpa using tc
   clear hf z9 tc;go_wp2
   go_ret2;exact cM.long HCH.out (λh=>HK.out (by rw[HBS.out,HSO.out];exact h.2)) (Grows.trans _ _ _ qu g7)
 ·have HK:=Aa xx
  have tc:(dC (bls BR):Int)≠0:=by omega
  obtain⟨f,hf⟩:∃f:Int,f=dC (bls BR):=⟨_,rfl⟩;rw[<-hf]at tc ⊢;have hfb:(f != 0)=true:=by simpa using tc
  clear hf xx tc;go_wp2
  go_ret2;exact cM.long HCH.out (λh=>HK.out (by rw[HBR.out,HSO.out];exact h.1)) (Grows.trans _ _ _ qu g5)
theorem eO0 (p:List cH) (mv:Value) (m:Option Mx) (l:List En) (pa a:Option Addr) (pc c:Nat) (w:World) (he:Env w) (hp:p.length<=4611686018427387904) (hl:l.length<=140737488355328) (hs:∀x∈l,rZ x) (hz:∀x∈l,x.r.size<=1099511627776/\x.s.size<=1099511627776)
  (ms:aF w pa 2 (p.map bG)) (hm:fC1 w mv m) (ac:aF w a 5 (l.map aQ)) :
  Calls Tryz.prog 11 #[.slice pa p.length pc,mv,.slice a l.length c] w (cM p m l w):=by
 by_cases hc:mL p m l=0
 ·cases m with
  | none =>
   unfold mL at hc;split at hc<;>cases hc
  | some m =>
   obtain⟨mb,bm,rfl,xh⟩:=hm;exact mU0 p mb bm m l pa a pc c w he hp hs hz (by have:=eE hc;omega) (eE hc).2.2.1 ms xh ac hc
 ·exact uM0 p mv m l pa a pc c w he hp hl (λx hx=>by have:=hz x hx;omega) ms hm ac hc
theorem nV {p:List cH} {m:Option Mx} {l:List En} (h:iL p m l=0):mL p m l=0/\dC (bls (readL (sortS l)))=0/\dC (bls (surfL (sortS l)))=0:=by
 unfold iL at h;split at h
 ·rename_i hc
  split at h
  ·rename_i hk;exact⟨hc,hk⟩
  ·cases h
 ·rename_i hc;exact absurd h hc
theorem xB0 {p:List cH} {m:Option Mx} {l:List En} (h:iL p m l≠0):nQ p m l=(iL p m l,[]):=by
 unfold nQ iL at *;by_cases hc:mL p m l=0
 ·rw[if_pos hc]at h ⊢
  rw[if_pos hc];by_cases hk:dC (bls (readL (sortS l)))=0/\dC (bls (surfL (sortS l)))=0
  ·rw[if_pos hk]at h;exact absurd rfl h
  ·rw[if_neg hk]
   cases m with
   | none=>unfold mL at hc;split at hc<;>cases hc
   | some m=>simp only;rw[if_neg hk]
 ·rw[if_neg hc,if_neg hc]
theorem iH {p:List cH} {m:Mx} {l:List En} (h:iL p (some m) l=0) (jm:fK (imgP p m (sortS l))=0):nQ p (some m) l=(0,file14 (imgP p m (sortS l))):=by
 obtain⟨h1,h2⟩:=nV h;unfold nQ;rw[if_pos h1];simp only;rw[if_pos h2,if_pos jm]
theorem cJ0 {p:List cH} {m:Mx} {l:List En} (hm:m.OK) (hl:l.length<=300) (h:iL p (some m) l=0):fK (imgP p m (sortS l))=0:=by
 obtain⟨h1,h2,h3⟩:=nV h;obtain⟨n1,n2,n3,n4⟩:=eE h1;have hp:=(dN n3).1;refine cX1 hm n3 (Aj (iX0 l) hl) h2 h3 λx hx=>?_
 have:=sM (n4 x (kR hx))
 omega
end
section
open Go Go.RowKit Go.Shelf
structure cB (w:World) (db:Nat) (p:List cH) (m:Mx) (es:List En):Prop where
 p:∃vP,w.cell? ⟨db,0,none⟩=some vP/\aV w 0 126 2 bG vP p
 m:∃mb bm,w.cell? ⟨db,1,none⟩=some (.pointer (some ⟨mb,0,none⟩))/\fM w mb bm m
 r:∃tb,w.cell? ⟨db,2,none⟩=some (.pointer (some ⟨tb,0,none⟩))/\eF w tb (bls (readL es))
 s:∃tb,w.cell? ⟨db,3,none⟩=some (.pointer (some ⟨tb,0,none⟩))/\eF w tb (bls (surfL es))
 f:∃pb,w.cell? ⟨db,4,none⟩=some (.pointer (some ⟨pb,0,none⟩))/\lE w pb (gT rS es es.length)
 i:∃pb,w.cell? ⟨db,5,none⟩=some (.pointer (some ⟨pb,0,none⟩))/\lE w pb (es.map (yX (surfL es)))
 l:∃pb,w.cell? ⟨db,6,none⟩=some (.pointer (some ⟨pb,0,none⟩))/\lE w pb (es.map λx=>x.l.toNat)
 t:∃pb,w.cell? ⟨db,7,none⟩=some (.pointer (some ⟨pb,0,none⟩))/\lE w pb (es.map λx=>x.t.toNat)
 c:∃pb,w.cell? ⟨db,8,none⟩=some (.pointer (some ⟨pb,0,none⟩))/\lE w pb (es.map λx=>x.c.toNat)
 o:∃pb,w.cell? ⟨db,9,none⟩=some (.pointer (some ⟨pb,0,none⟩))/\lE w pb (aE0 es)
 a:∃pb,w.cell? ⟨db,10,none⟩=some (.pointer (some ⟨pb,0,none⟩))/\lE w pb (gT gD0 (gP es) es.length)
theorem cB.grows {w w':World} {db:Nat} {p:List cH} {m:Mx} {es:List En} (h:cB w db p m es) (hg:Grows w w'):cB w' db p m es where
 p:=let ⟨v,h1,h2⟩:=h.p;⟨v,hg.cell h1,h2.grows hg⟩
 m:=let ⟨a,b,h1,h2⟩:=h.m;⟨a,b,hg.cell h1,h2.grows hg⟩
 r:=let ⟨v,h1,h2⟩:=h.r;⟨v,hg.cell h1,h2.grows hg⟩
 s:=let ⟨v,h1,h2⟩:=h.s;⟨v,hg.cell h1,h2.grows hg⟩
 f:=let ⟨v,h1,h2⟩:=h.f;⟨v,hg.cell h1,h2.grows hg⟩
 i:=let ⟨v,h1,h2⟩:=h.i;⟨v,hg.cell h1,h2.grows hg⟩
 l:=let ⟨v,h1,h2⟩:=h.l;⟨v,hg.cell h1,h2.grows hg⟩
 t:=let ⟨v,h1,h2⟩:=h.t;⟨v,hg.cell h1,h2.grows hg⟩
 c:=let ⟨v,h1,h2⟩:=h.c;⟨v,hg.cell h1,h2.grows hg⟩
 o:=let ⟨v,h1,h2⟩:=h.o;⟨v,hg.cell h1,h2.grows hg⟩
 a:=let ⟨v,h1,h2⟩:=h.a;⟨v,hg.cell h1,h2.grows hg⟩
structure bP (p:List cH) (m:Mx) (es:List En):Prop where
 chk:mL p (some m) es=0
 idem:sortS es=es
 rd:dC (bls (readL es))=0
 sf:dC (bls (surfL es))=0
theorem bP.srt {p:List cH} {m:Mx} {es:List En} (h:bP p m es):dZ es:=by
 have:=(dR es).1
 rwa [h.idem]at this
theorem bP.len {p:List cH} {m:Mx} {es:List En} (h:bP p m es):es.length<=20000:=(eE h.chk).2.1
theorem bP.num {p:List cH} {m:Mx} {es:List En} (h:bP p m es):∀x∈es,0<=x.l/\x.l<p.length/\0<=x.t/\x.t<p.length/\0<=x.c/\x.c<=30000:=λx hx=>sM ((eE h.chk).2.2.2 x hx)
theorem bP.okR {p:List cH} {m:Mx} {es:List En} (h:bP p m es):OkL (bls (readL es)):=(dO h.rd).1
theorem bP.okS {p:List cH} {m:Mx} {es:List En} (h:bP p m es):OkL (bls (surfL es)):=(dO h.sf).1
theorem iO1 {p:List cH} {m:Option Mx} {l l':List En} (hl:l'.length<=l.length) (hm:∀x∈l',x∈l) (h:mL p m l=0):mL p m l'=0:=by
 cases m with
 | none =>
  unfold mL at h ⊢;split at h
  ·cases h
  ·cases h
 | some m =>
  obtain⟨h1,h2,h3,h4⟩:=eE h;unfold mL;rw[if_neg (by simpa using h3)];simp only;rw[if_pos h1,if_neg (by omega)]
  have key:∀ {l:List En},(∀x∈l,pA x p.length=0)->fP p.length l=0:=λ{l} hk=>by
   induction l with
   | nil=>rfl
   | cons x l ih =>
    unfold fP;rw[if_pos (hk x (by simp))];exact ih λy hy=>hk y (by simp[hy])
  exact key λx hx=>h4 x (hm x hx)
theorem qV0 (l:List En):sortS (sortS l)=sortS l:=by
 refine yD.unique (l:=sortS l) (dR _) ⟨(dR l).1,λy=>⟨λhy=>⟨hy,λz hz hk=>?_⟩,λh=>h.1⟩⟩;exact((dR l).2 y |>.1 hy).2 z (((dR l).2 z).1 hz).1 hk
theorem qO0 (l:List En):(sortS l).Nodup:=(dR l).1.imp λ{a b} h e=>by
 subst e;exact absurd h (by rw[fF];decide)
theorem mC {p:List cH} {m:Mx} {l:List En} (h:iL p (some m) l=0):bP p m (sortS l):=by
 obtain⟨h1,h2,h3⟩:=nV h;exact⟨iO1 (iX0 l) (λx hx=>kR hx) h1,qV0 l,h2,h3⟩
theorem bP.make {p:List cH} {m:Mx} {es:List En} (h:bP p m es):iL p (some m) es=0:=by
 unfold iL;rw[if_pos h.chk,h.idem,if_pos ⟨h.rd,h.sf⟩]
end
section
open Go Go.RowKit Go.Shelf
attribute [local go_sem] aM aK
theorem oL1 {x:zB} (hl:pY x=true) (ah:sO x):(∀y∈x.e,rZ y)/\(∀y∈x.e,y.r.size<=1099511627776/\y.s.size<=1099511627776)/\(∀y∈x.p,y.name.size<=9223372036854775807):=by
 obtain⟨h1,h2,_⟩:=jL hl;exact⟨ah.e,λy hy=>by have:=h2 y hy;omega,λy hy=>by have:=h1 y hy;omega⟩
theorem qQ (x:zB) (A:kQ) (w:World) (he:Env w) (ah:sO x) (hz:∀y∈x.e,y.r.size<=1099511627776/\y.s.size<=1099511627776) (ac:mV w A x) :
  Calls Tryz.prog 10 #[A.agg x] w (cM x.p (srcM x) x.e w):=by
 have rh:=hz;have ky:=ah;have HAT0:=ac;obtain⟨pa,pc,sa,sc,ea,ec⟩:=A;obtain⟨xp,xd,xs,xe⟩:=x;obtain⟨W0,b9⟩:=exq (w.alloc (.cells #[.slice pa xp.length pc,.int .i64 xd,.slice sa xs.length sc,.slice ea xe.length ec] 26));have cp:Grows w W0:=by rw[b9];exact Grows.alloc _ _
 have ev:=λj u h=>aT w #[.slice pa xp.length pc,.int .i64 xd,.slice sa xs.length sc,.slice ea xe.length ec] 26 (0,0) j u h;rw[<-b9]at ev;have q0:=ev 0 _ rfl;have q1:=ev 1 _ rfl;have q2:=ev 2 _ rfl;have q3:=ev 3 _ rfl;have HQ:=Aa (And.intro q0 (And.intro q1 (And.intro q2 q3)));have HSA:=Aa (ac.grows cp);have HG0:=Aa cp;clear ev;have CM:=Aa (eG0 ⟨xp,xd,xs,xe⟩ ⟨pa,pc,sa,sc,ea,ec⟩ W0.drew ky (HSA.out.grows (Grows.drew W0)));have CB:=λ(W:World) (mv:Value) (h:Grows W0 W) (hm:fC1 W mv (srcM ⟨xp,xd,xs,xe⟩))=>Aa (eO0 xp mv (srcM ⟨xp,xd,xs,xe⟩) xe pa ea pc ec W (he.grows (Grows.trans _ _ _ HG0.out h)) (by have:=ky.lp;simp only at this;omega) ky.le ky.e rh (HSA.out.p.grows h) hm (HSA.out.e.grows h));obtain⟨SM,xq⟩:=exq (srcM ⟨xp,xd,xs,xe⟩);show Calls _ _ #[.agg #[.slice pa xp.length pc,.int .i64 xd,.slice sa xs.length sc,.slice ea xe.length ec]] _ (cM xp (srcM ⟨xp,xd,xs,xe⟩) xe w)
 rw[<-xq]at CM CB ⊢;unfold kQ.agg kQ.cells at CM;simp only at CM;have z0:∀x:Ext Grows W0.drew,x.u.cell? ⟨w.heap.size,0,none⟩=some (.slice pa xp.length pc):=aB ((Grows.drew W0).cell q0);have z1:∀x:Ext Grows W0.drew,x.u.cell? ⟨w.heap.size,1,none⟩=some (.int .i64 xd):=aB ((Grows.drew W0).cell q1);have z2:∀x:Ext Grows W0.drew,x.u.cell? ⟨w.heap.size,2,none⟩=some (.slice sa xs.length sc):=aB ((Grows.drew W0).cell q2);have z3:∀x:Ext Grows W0.drew,x.u.cell? ⟨w.heap.size,3,none⟩=some (.slice ea xe.length ec):=aB ((Grows.drew W0).cell q3);clear xq q0 q1 q2 q3 ac ah hz he rh ky HAT0 cp;go_enter Tryz.func10,Tryz.ntmps10
 go_wp2_with fail
 rw[<-b9];clear b9;refine bE (lT [0,1,2,4,5,3,6,7,8,9,10] [3,6]) (by kernel_rfl) (λd _ _ _ _ h=>by cases d<;>exact h) ?_
 iterate 5 (refine aG rfl (λK hK=>?_);go_simp;refine hK _ ?_;clear hK K)
 clear z0 z1 z2 z3;refine aZ rfl rfl (λK hK=>?_);go_simp;refine(CM.out).mono ?_;rintro e w1 ⟨mv,rfl,hm,ag⟩;refine⟨ag,hK _ _ ?_⟩;clear hK K;have hgW:=Grows.trans _ _ _ HG0.out (Grows.trans _ _ _ (Grows.drew W0) ag);refine aZ rfl rfl (λK hK=>?_);go_simp;refine((CB w1 mv (Grows.trans _ _ _ (Grows.drew W0) ag) hm).out).mono ?_;rintro e w2 ⟨af,v,rfl,hv⟩;refine⟨af,hK _ _ ?_⟩;clear hK K;iterate 4 (refine aG rfl (λK hK=>?_);go_simp;refine hK _ ?_;clear hK K)
 refine bH ?_;go_wp2_with fail
 go_ret2;exact⟨Grows.trans _ _ _ hgW af,_,rfl,hv.base hgW.size⟩
end
section
open Go Go.RowKit
def uB0 (l:List Nat) (N id a b:Nat):Prop:=l[id]?=some a/\(id+1<l.length->l[id+1]?=some b)/\(¬id+1<l.length->b=N)
theorem qR {k:Nat->Nat} {n S id:Nat} (hk:∀i,i<n->k i<S) (h:id<S):uB0 (tH0 k n S) n id (grpsL k n id).length (grpsL k n (id+1)).length:=by
 refine⟨iM0 h,λh1=>?_,λh1=>?_⟩
 ·rw[iN]at h1
  exact iM0 h1
 ·rw[iN]at h1
  rw[show id+1=S by omega,jO hk]
theorem bV1 {k:Nat->Nat} {n S id:Nat} (hk:∀i,i<n->k i<S) (h:id<S):(grpsL k n id).length<=(grpsL k n (id+1)).length/\(grpsL k n (id+1)).length<=n/\((grpsL k n S).take (grpsL k n (id+1)).length).drop (grpsL k n id).length=grp k n id:=by
 have h1:=pI1 hk h;have h2:=lW1 hk h;rw[qX0 hk h]at h1 h2;exact⟨h1.1,h1.2,h2⟩
theorem cJ1 {n a b:Nat} (hb:b<=n):((Ad n).take b).drop a=At a (b-a):=by
 apply List.ext_getElem?
 intro i;rw[List.getElem?_drop,List.getElem?_take];by_cases h:a+i<b
 ·rw[if_pos h,Al (by omega),List.getElem?_range' (by omega)]
  simp
 ·rw[if_neg h,List.getElem?_eq_none (by simp;omega)]
theorem bP.row_r {p:List cH} {m:Mx} {es:List En} (h:bP p m es) {id:Nat} {s:ByteArray} (hs:(readL es)[id]?=some s) :
  ∃a b,uB0 (gT rS es es.length) es.length id a b/\a<=b/\b<=es.length/\(At a (b-a)).map (λj=>es.getD j enZero)=exactL es s:=by
 have hid:=(List.getElem?_eq_some_iff.1 hs).1;have hk:∀i,i<es.length->keyRE (readL es) es i<(readL es).length:=λi hi=>vB hi;obtain⟨h1,h2,h3⟩:=bV1 hk hid;refine⟨_,_,by rw[tF h.srt];exact qR hk hid,h1,h2,?_⟩;rw[tI h.srt,cJ1 h2]at h3;rw[h3];exact kN1 hs
theorem bP.row_s {p:List cH} {m:Mx} {es:List En} (_:bP p m es) {id:Nat} {s:ByteArray} (hs:(surfL es)[id]?=some s) :
  ∃a b,uB0 (gT gD0 (gP es) es.length) es.length id a b/\a<=b/\b<=es.length/\(((aE0 es).take b).drop a).map (λj=>es.getD j enZero)=ofL es s:=by
 have hid:=(List.getElem?_eq_some_iff.1 hs).1;have hk:∀i,i<es.length->jW (surfL es) es i<(surfL es).length:=λi hi=>qO (jV (Ae (fM0 hi)));obtain⟨h1,h2,h3⟩:=bV1 hk hid;refine⟨_,_,by rw[rS0];exact qR hk hid,h1,h2,?_⟩;have h4:((aE0 es).take (grpsL (jW (surfL es) es) es.length (id+1)).length).drop (grpsL (jW (surfL es) es) es.length id).length=grp (jW (surfL es) es) es.length id:=h3;rw[h4];exact jL1 hs
theorem bP.rows {p:List cH} {m:Mx} {es:List En} (h:bP p m es) {a k:Nat} (hk:0<k) (ha:a+k<=(readL es).length) :
  uB0 (gT rS es es.length) es.length a (grpsL (keyRE (readL es) es) es.length a).length (grpsL (keyRE (readL es) es) es.length (a+1)).length /\
  uB0 (gT rS es es.length) es.length (a+k-1) (grpsL (keyRE (readL es) es) es.length (a+k-1)).length (grpsL (keyRE (readL es) es) es.length (a+k)).length /\
  (grpsL (keyRE (readL es) es) es.length a).length<=(grpsL (keyRE (readL es) es) es.length (a+k)).length/\(grpsL (keyRE (readL es) es) es.length (a+k)).length<=es.length:=by
 have fj:∀i,i<es.length->keyRE (readL es) es i<(readL es).length:=λi hi=>vB hi;refine⟨by rw[tF h.srt];exact qR fj (by omega),?_,?_,?_⟩
 ·have:=qR (k:=keyRE (readL es) es) (n:=es.length) (S:=(readL es).length) (id:=a+k-1) fj (by omega)
  rw[show a+k-1+1=a+k by omega]at this
  rw[tF h.srt];exact this
 ·obtain⟨r,hr⟩:=jQ (k:=keyRE (readL es) es) (n:=es.length) (show a<=a+k by omega)
  rw[hr,Am];omega
 ·obtain⟨r,hr⟩:=jQ (k:=keyRE (readL es) es) (n:=es.length) ha
  have:=jO fj
  rw[hr,Am]at this;omega
theorem jN0 {α:Type} {p q:α->Bool}:∀ {l:List α},(∀x∈l,p x=true->q x=false)->(l.filter λx=>p x||q x).Perm (l.filter p++l.filter q)
 | [],_=>List.Perm.nil
 | x::l,h=>by
  have ih:=jN0 (l:=l) λy hy=>h y (by simp[hy]);have hx:=h x (by simp)
  cases hp:p x with
  | true =>
   rw[Ab,Ab,Ab,hp,hx hp];simpa using ih
  | false =>
   cases hq:q x with
   | true =>
    rw[Ab,Ab,Ab,hp,hq];simp only[Bool.or_true,if_true,Bool.false_eq_true,if_false];exact(ih.cons x).trans List.perm_middle.symm
   | false =>
    rw[Ab,Ab,Ab,hp,hq];simpa using ih
theorem mA0 (es:List En) (g:En->ByteArray) (s:ByteArray):∀m,m<=s.size+1->((Ad m).flatMap λn=>es.filter λx=>decide (g x=cutB s n)).Perm (es.filter λx=>begB s (g x)&&decide ((g x).size<m))
 | 0,_=>by simp
 | m+1,hm=>by
  rw[List.range_succ,List.flatMap_append,List.flatMap_cons,List.flatMap_nil,List.append_nil];have h1:=(mA0 es g s m (by omega)).append_right (es.filter λx=>decide (g x=cutB s m));refine h1.trans ((jN0 (l:=es) (p:=λx=>begB s (g x)&&decide ((g x).size<m)) (q:=λx=>decide (g x=cutB s m)) ?_).symm.trans ?_)
  ·intro x _ hx
   simp only[Ak,decide_eq_true_eq]at hx;rw[decide_eq_false_iff_not,zM (by omega)];omega
  ·refine List.Perm.of_eq (Ao λx _=>?_)
   rw[Ar];simp only[Bool.or_eq_true,Ak,decide_eq_true_eq,zM (show m<=s.size by omega)]
   constructor
   ·rintro(⟨a,b⟩|⟨a,b⟩)
    ·exact⟨a,by omega⟩
    ·exact⟨a,by omega⟩
   ·rintro⟨a,b⟩
    rcases Nat.lt_or_ge (g x).size m with c|c
    ·exact Or.inl ⟨a,c⟩
    ·exact Or.inr ⟨a,by omega⟩
theorem rU0 (es:List En) (g:En->ByteArray) (s:ByteArray) (h:∀x∈es,(g x).size<=256):((Ad (min s.size 256+1)).flatMap λn=>es.filter λx=>decide (g x=cutB s n)).Perm (es.filter λx=>begB s (g x)):=by
 refine(mA0 es g s (min s.size 256+1) (by omega)).trans (List.Perm.of_eq (Ao λx hx=>?_));rw[Ar];simp only[Ak,decide_eq_true_eq];constructor
 ·exact λh=>h.1
 ·intro hb
  have:=zI0 hb
  have:=h x hx
  exact⟨hb,by omega⟩
theorem bP.len_r {p:List cH} {m:Mx} {es:List En} (h:bP p m es):∀x∈es,x.r.size<=256:=λx hx=>by
 obtain⟨j,hj⟩:=List.mem_iff_getElem?.1 (mX hx)
 have:=h.okR.len _ (Ae (mY hj))
 rwa [dI]at this
theorem bP.len_s {p:List cH} {m:Mx} {es:List En} (h:bP p m es):∀x∈es,x.s.size<=256:=λx hx=>by
 obtain⟨j,hj⟩:=List.mem_iff_getElem?.1 (jV hx)
 have:=h.okS.len _ (Ae (mY hj))
 rwa [dI]at this
theorem bP.pref_perm {p:List cH} {m:Mx} {es:List En} (h:bP p m es) (s:ByteArray):(prefL es s).Perm (es.filter λx=>begB s x.r):=rU0 es (·.r) s h.len_r
theorem bP.writes_perm {p:List cH} {m:Mx} {es:List En} (h:bP p m es) (s:ByteArray):(writesL es s).Perm (es.filter λx=>begB s x.s):=rU0 es (·.s) s h.len_s
theorem bP.nodup {p:List cH} {m:Mx} {es:List En} (h:bP p m es):es.Nodup:=by
 have:=qO0 es
 rwa [h.idem]at this
def tru (b:Bool):Nat:=if b then 1 else 0
theorem jS0 {α:Type} [DecidableEq α] {x:α}:∀ {l:List α},x∉l->(l.filter λy=>decide (y=x)).length=0:=λ{l} h=>by
 rw[List.length_eq_zero_iff,List.filter_eq_nil_iff];intro y hy e;exact h (of_decide_eq_true e▸hy)
theorem lC0 {α:Type} [DecidableEq α] {x:α}:∀ {l:List α},l.Nodup->x∈l->(l.filter λy=>decide (y=x)).length=1
 | [],_,h=>by cases h
 | y::l,hn,h=>by
  obtain⟨h1,h2⟩:=List.nodup_cons.1 hn;rw[Ab];by_cases e:y=x
  ·subst e
   rw[if_pos (by simp),Ap,jS0 h1]
  ·rw[if_neg (by simpa using e)]
   rcases List.mem_cons.1 h with h|h
   ·exact absurd h.symm e
   ·exact lC0 h2 h
def cntE (l:List En) (x:En):Nat:=(l.filter λy=>decide (y=x)).length
theorem jG {es:List En} (hn:es.Nodup) {x:En} (hx:x∈es) (q:En->Bool):cntE (es.filter q) x=tru (q x):=by
 unfold cntE tru;have ig:(es.filter q).Nodup:=hn.sublist List.filter_sublist;by_cases h:q x=true
 ·rw[if_pos h]
  exact lC0 ig (List.mem_filter.2 ⟨hx,h⟩)
 ·rw[if_neg h]
  exact jS0 λhc=>h (List.mem_filter.1 hc).2
theorem tJ0 {l l':List En} (h:l.Perm l') (x:En):cntE l x=cntE l' x:=(h.filter _).length_eq
theorem bP.cnt_pref {p:List cH} {m:Mx} {es:List En} (h:bP p m es) (s:ByteArray) {x:En} (hx:x∈es):cntE (prefL es s) x=tru (begB s x.r):=by
 rw[tJ0 (h.pref_perm s),jG h.nodup hx]
theorem bP.cnt_writes {p:List cH} {m:Mx} {es:List En} (h:bP p m es) (s:ByteArray) {x:En} (hx:x∈es):cntE (writesL es s) x=tru (begB s x.s):=by
 rw[tJ0 (h.writes_perm s),jG h.nodup hx]
theorem vY (es:List En) (p:ByteArray):underL es p (es.length:Int)=es.filter λx=>begB x.r p:=by
 unfold underL;rw[Int.toNat_natCast,List.take_of_length_le (List.length_filter_le _ _)]
theorem gB1 (s:ByteArray):begB s ⟨#[]⟩=true:=by
 unfold begB;rw[List.isPrefixOf_iff_prefix];exact List.nil_prefix
theorem pJ (es:List En):underL es ⟨#[]⟩ (es.length:Int)=es:=by
 rw[vY,List.filter_eq_self];intro x _;exact gB1 _
def jK0 (f:En->Nat):List En->Nat
 | []=>0
 | x::l=>f x+jK0 f l
theorem kA0 (f:En->Nat):∀(l:List En) (x:En),jK0 f (l++[x])=jK0 f l+f x
 | [],x=>by simp[jK0]
 | y::l,x=>by rw[List.cons_append,jK0,jK0,kA0 f l x];omega
theorem rL (q:En->Bool):∀(l:List En),jK0 (λx=>tru (q x)) l=(l.filter q).length
 | []=>rfl
 | x::l=>by
  rw[jK0,rL q l,Ab];unfold tru;by_cases h:q x=true
  ·rw[if_pos h,if_pos h,Ap];omega
  ·rw[if_neg h,if_neg h];omega
theorem uN (f g:En->Nat):∀(l:List En),jK0 (λx=>f x+g x) l=jK0 f l+jK0 g l
 | []=>rfl
 | x::l=>by rw[jK0,jK0,jK0,uN f g l];omega
def oK1 (s:ByteArray) (x:En):Nat:=tru (decide (x.r=s))+tru (begB s x.r)+tru (begB x.r s)+tru (decide (x.s=s))+tru (begB s x.s)
theorem bP.sum5 {p:List cH} {m:Mx} {es:List En} (h:bP p m es) (s:ByteArray):jK0 (oK1 s) es=(exactL es s).length+(prefL es s).length+(underL es s (es.length:Int)).length+(ofL es s).length+(writesL es s).length:=by
 rw[(h.pref_perm s).length_eq,(h.writes_perm s).length_eq,vY];have e:oK1 s=λx=>tru (decide (x.r=s))+tru (begB s x.r)+tru (begB x.r s)+tru (decide (x.s=s))+tru (begB s x.s):=rfl;rw[e,uN,uN,uN,uN,rL,rL,rL,rL,rL];rfl
def qR1 (g:En->ByteArray) (x y:En):Prop:=(g x).size<=(g y).size/\(g x=g y->lessS x y=true)
theorem tD0 {s:ByteArray} {n:Nat} (hn:n<=s.size):(cutB s n).size=n:=by
 unfold cutB;rw[Lib.size_eq,gZ,List.length_take,dI];omega
theorem fH0 {es:List En} (hs:dZ es) (g:En->ByteArray) (s:ByteArray) {m:Nat} (hm:m<=s.size+1):((Ad m).flatMap λn=>es.filter λx=>decide (g x=cutB s n)).Pairwise (qR1 g):=by
 rw[List.pairwise_flatMap];refine⟨λn hn=>?_,?_⟩
 ·have h1:(es.filter λx=>decide (g x=cutB s n)).Pairwise λx y=>lessS x y=true:=List.Pairwise.filter _ hs
  refine List.Pairwise.imp_of_mem (λ{x y} hx hy p8=>?_) h1;have ex:=of_decide_eq_true (List.mem_filter.1 hx).2;have ey:=of_decide_eq_true (List.mem_filter.1 hy).2;exact⟨by rw[ex,ey];exact Ah _,λ_=>p8⟩
 ·refine List.Pairwise.imp_of_mem (λ{a b} ha hb fi=>?_) (List.pairwise_lt_range (n:=m))
  intro x hx y hy;rw[List.mem_range]at ha hb;have ex:=of_decide_eq_true (List.mem_filter.1 hx).2;have ey:=of_decide_eq_true (List.mem_filter.1 hy).2;have s1:=tD0 (s:=s) (n:=a) (by omega);have s2:=tD0 (s:=s) (n:=b) (by omega);refine⟨by rw[ex,ey,s1,s2];omega,λe=>?_⟩;rw[ex,ey]at e
  have:=congrArg As e
  omega
theorem xU0 {es:List En} (hs:dZ es) (s:ByteArray):(prefL es s).Pairwise (qR1 (·.r)):=fH0 hs (·.r) s (by omega)
theorem mS0 {es:List En} (hs:dZ es) (s:ByteArray):(writesL es s).Pairwise (qR1 (·.s)):=fH0 hs (·.s) s (by omega)
theorem qR0 {es:List En} (hs:dZ es) (s:ByteArray) (n:Int):(underL es s n).Pairwise λx y=>lessS x y=true :=
 List.Pairwise.sublist (List.take_sublist _ _) (List.Pairwise.filter _ hs)
theorem fM1 {es:List En} (hs:dZ es) (s:ByteArray):(ofL es s).Pairwise λx y=>lessS x y=true:=List.Pairwise.filter _ hs
theorem dA0 {α:Type} {R:α->α->Prop} {l:List α} (h:l.Pairwise R) {i:Nat} {x y:α} (hx:l[i]?=some x) (hy:l[i+1]?=some y):R x y:=by
 obtain⟨h1,e1⟩:=List.getElem?_eq_some_iff.1 hx;obtain⟨h2,e2⟩:=List.getElem?_eq_some_iff.1 hy
 have:=List.pairwise_iff_getElem.1 h i (i+1) h1 h2 (by omega)
 rwa [e1,e2]at this
end
section
open Go Go.RowKit Go.Shelf
def eH:List cH:=[⟨⟨#[66,79,83]⟩,0⟩,⟨⟨#[110,111,117,110]⟩,0⟩]
def iS0:List En:=[⟨⟨#[227,129,139]⟩,⟨#[232,154,138]⟩,1,1,30⟩,⟨⟨#[227,129,139]⟩,⟨#[231,167,145]⟩,1,1,20⟩,⟨⟨#[227,129,139,227,129,141]⟩,⟨#[230,159,191]⟩,1,1,40⟩]
def sZ:zB:=⟨eH,10,[],iS0⟩
end
section
open Go Go.RowKit
def eU:Mx:=newM 2 10
def cX:List En:=sortS iS0
theorem iV0:srcM sZ=some eU:=by
 unfold srcM sZ;rw[if_pos (by decide +kernel)];rfl
theorem pK:iL eH (some eU) iS0=0:=by decide +kernel
theorem oH0:eU.OK:=gM0 (n:=2) (d:=10) (by decide)
end
section
open Go Go.RowKit Go.Shelf
attribute [local go_sem] aM aK
theorem zS0:∀y∈iS0,rZ y:=λy hy=>by
 rcases List.mem_cons.1 hy with rfl|hy
 ·exact⟨by decide,by decide,by decide,by decide,by decide⟩
 ·rcases List.mem_cons.1 hy with rfl|hy
  ·exact⟨by decide,by decide,by decide,by decide,by decide⟩
  ·rcases List.mem_cons.1 hy with rfl|hy
   ·exact⟨by decide,by decide,by decide,by decide,by decide⟩
   ·cases hy
theorem rD:sO sZ where
 p:=by decide
 s:=λy hy=>by cases hy
 e:=zS0
 d:=(show (Lit.int .i64 10).wf=true by kernel_rfl)
 lp:=by decide
 ls:=by decide
 le:=by decide
theorem qF0 (p:List cH) (m:Mx) (es:List En):(imgP p m es).map (·.name)=[⟨#[112,111,115]⟩,⟨#[109,97,116,114,105,120]⟩,⟨#[114,101,97,100,105,110,103,115]⟩,⟨#[102,105,114,115,116]⟩,⟨#[115,117,114,102,97,99,101,115]⟩,⟨#[115,117,114,102,97,99,101]⟩,⟨#[108,101,102,116]⟩,⟨#[114,105,103,104,116]⟩,⟨#[99,111,115,116]⟩,⟨#[111,114,100,101,114]⟩,⟨#[97,116]⟩]:=rfl
theorem oU1 {p:List cH} {m:Mx} {es:List En} {j k:Nat} {a b:bF} (ha:(imgP p m es)[j]?=some a) (hb:(imgP p m es)[k]?=some b) (h:j<k):a.name≠b.name:=λe=>by
 have hn:((imgP p m es).map (·.name)).Nodup:=by rw[qF0];decide +kernel
 have h1:((imgP p m es).map (·.name))[j]?=some a.name:=by rw[Af,ha];rfl
 have h2:((imgP p m es).map (·.name))[k]?=some a.name:=by rw[Af,hb,e];rfl
 have:=tK hn h1 h2
 omega
theorem rM0 {P Q:List bF} (h:Q.map bare=P.map bare) {k:Nat} {p:bF} (hp:P[k]?=some p):∃q,Q[k]?=some q/\q.name=p.name/\q.data=p.data:=by
 have h1:(Q.map bare)[k]?=some (bare p):=by rw[h,Af,hp];rfl
 rw[Af]at h1
 cases hq:Q[k]? with
 | none=>rw[hq]at h1;cases h1
 | some q =>
  rw[hq]at h1;have e:bare q=bare p:=Option.some.inj h1;have e1:(bare q).name=(bare p).name:=by rw[e]
  have e2:(bare q).data=(bare p).data:=by rw[e]
  exact⟨q,rfl,e1,e2⟩
theorem oU (w:World):Calls Tryz.prog 28 #[] w λe w'=>∃A:kQ,e=.returned (A.agg sZ)/\mV w' A sZ/\Grows w w':=by
 obtain⟨W0,b9⟩:=exq (w.alloc (.cells #[.slice (some ⟨w.heap.size+1,0,none⟩) 2 2,.int .i64 10,.slice none 0 0,.slice (some ⟨w.heap.size+1+1,0,none⟩) 3 3] 26));obtain⟨W1,bi⟩:=exq (W0.alloc (.cells (eH.flatMap bG).toArray 126));obtain⟨W2,gm⟩:=exq (W1.alloc (.cells (iS0.flatMap aQ).toArray 52));have cp:Grows w W0:=by rw[b9];exact Grows.alloc _ _
 have ag:Grows W0 W1:=by rw[bi];exact Grows.alloc _ _
 have af:Grows W1 W2:=by rw[gm];exact Grows.alloc _ _
 have nj:W0.heap.size=w.heap.size+1:=by rw[b9];simp
 have ei:W1.heap.size=w.heap.size+1+1:=by rw[bi];simp[nj]
 have hp:aF W2 (some ⟨w.heap.size+1,0,none⟩) 2 (eH.map bG):=by
  have h:=mI0 (enc:=bG) (k:=2) (w:=W0) (t:=126) (fz:=(0,0)) (cs:=(eH.flatMap bG).toArray) (λ_=>rfl) eH rfl;rw[nj,<-bi]at h;exact h.grows af
 have he:aF W2 (some ⟨w.heap.size+1+1,0,none⟩) 5 (iS0.map aQ):=by
  have h:=mI0 (enc:=aQ) (k:=5) (w:=W1) (t:=52) (fz:=(0,0)) (cs:=(iS0.flatMap aQ).toArray) (λ_=>rfl) iS0 rfl;rw[ei,<-gm]at h;exact h
 have HSRC:Hid (mV W2 ⟨some ⟨w.heap.size+1,0,none⟩,2,none,0,some ⟨w.heap.size+1+1,0,none⟩,3⟩ sZ/\Grows w W2):=⟨⟨hp,aF.nil _ _ _,he⟩,Grows.trans _ _ _ cp (Grows.trans _ _ _ ag af)⟩;obtain⟨bc,_⟩:=bK (w:=w) (cs:=#[.slice (some ⟨w.heap.size+1,0,none⟩) 2 2,.int .i64 10,.slice none 0 0,.slice (some ⟨w.heap.size+1+1,0,none⟩) 3 3]) (t:=26) (w':=W2) (by rw[<-b9];exact Grows.trans _ _ _ ag af);have b0:=bc 0 _ rfl;have b1:=bc 1 _ rfl;have b2:=bc 2 _ rfl;have b3:=bc 3 _ rfl
 have hE:W2=((w.alloc (.cells #[.slice (some ⟨w.heap.size+1,0,none⟩) 2 2,.int .i64 10,.slice none 0 0,.slice (some ⟨w.heap.size+1+1,0,none⟩) 3 3] 26)).alloc (.cells #[.string ⟨#[66,79,83]⟩,.int .i64 0,.string ⟨#[110,111,117,110]⟩,.int .i64 0] 126)).alloc (.cells #[.string ⟨#[227,129,139]⟩,.string ⟨#[232,154,138]⟩,.int .i64 1,.int .i64 1,.int .i64 30,.string ⟨#[227,129,139]⟩,.string ⟨#[231,167,145]⟩,.int .i64 1,.int .i64 1,.int .i64 20,.string ⟨#[227,129,139,227,129,141]⟩,.string ⟨#[230,159,191]⟩,.int .i64 1,.int .i64 1,.int .i64 40] 52):=by
  rw[gm,bi,b9];rfl
 have HE:=Aa hE;clear b9 bi gm cp ag af nj ei hp he bc hE;go_enter Tryz.func28,Tryz.ntmps28
 go_wp2_with fail
 rw[<-HE.out];refine bodyPost_ret (v:=.agg #[.slice (some ⟨w.heap.size+1,0,none⟩) 2 2,.int .i64 10,.slice none 0 0,.slice (some ⟨w.heap.size+1+1,0,none⟩) 3 3]) (by simp[results,Tryz.results28,go_sem,b0,b1,b2,b3]) rfl ⟨_,rfl,HSRC.out.1,HSRC.out.2⟩
end
end Go.Proofs.YtheiocndipepaaaGreatDoor
