/- The texts W11 W11b W11c, one behind the other. -/
import Derived.Test.YtcijgkfpobpdbaaGreatDoorBq21
import Derived.Test.YtcijgkfpobpdbaaGreatDoorBq3
import Derived.Shelf.SlSorted.Search
import Derived.Test.YtcijgkfpobpdbaaGreatDoorBq4
open List renaming getElem?_eq_getElem → Aa,mem_of_getElem? → Ac,getElem?_map → Af
open Go.Op renaming bytesLess → Ab
open Go.Lib renaming hid → Ad
open Go.IntKind renaming signed → Ae,wrap → Ag,bits → Ah
open Nat renaming zero_le → Ai
set_option maxHeartbeats 8000000
namespace Go.Proofs.YtcijgkfpobpdbaaGreatDoor
set_option maxRecDepth 100000
section
open Go Go.RowKit
attribute [local go_sem] aQ aM
theorem oT0 (s t:ByteArray) (w:World) (_:s.size<=1099511627776) (_:t.size<=1099511627776) :
  Calls Tryz.prog 253 #[.string s,.string t] w λe w'=>e=.returned (.int .i64 (pC (bl s) (bl t)))/\Grows w w':=by
 obtain⟨C,hC⟩:=exq (pC (bl s) (bl t));rw[<-hC];have hCs:=zD (bl s) (bl t);rw[<-hC,dB,dB]at hCs;have HC:=Ad hC;clear hC;go_enter Tryz.func253,Tryz.ntmps253
 go_wp2_with fail
 go_loopw [5] (λn wr=>∃k:Nat,k<=C/\n=.int .i64 k/\Grows w wr) (λn _=>C+1-(intOf n).toNat)
 case atStart=>exact⟨0,Ai _,rfl,Grows.refl _⟩
 case round =>
  obtain⟨k,hk,rfl,hg⟩:=hrel;by_cases h1:k<s.size
  ·by_cases h2:k<t.size
   ·have acx:=bW0 (a:=bl s) (b:=bl t) (e:=k) (by rw[<-HC.out];exact hk) (by rw[dB];exact h1) (by rw[dB];exact h2)
    rw[mZ h1,mZ h2,<-HC.out]at acx;have HI:=Ad acx;clear acx;by_cases he:s[k]=t[k]
    ·have ae:k+1<=C:=HI.out.2 (by rw[he])
     have hb:((s[k].toNat:Int)==t[k].toNat)=true:=by rw[he];simp
     clear he;go_wp2_with fail
     refine bF (aV 19 []) (by kernel_rfl) (λd _ _ _ _ h=>by cases d<;>exact h) ?_
     iterate 19 (refine aG rfl (λK hK=>?_);go_simp;refine hK _ ?_;clear hK K)
     refine bH ?_;go_wp2_with fail
     go_roundw
     case rel=>exact⟨k+1,ae,by go_num,hg.dr⟩
     case measure=>simp[intOf];omega
    ·have ae:¬k+1<=C:=λh=>he (Option.some.inj (HI.out.1 h))
     have hb:((s[k].toNat:Int)==t[k].toNat)=false:=by
      rw[beq_eq_false_iff_ne];intro h;exact he (UInt8.toNat_inj.1 (by omega))
     have hkC:k=C:=by omega
     subst hkC;clear he;go_wp2_with fail
     refine bF (aV 19 []) (by kernel_rfl) (λd _ _ _ _ h=>by cases d<;>exact h) ?_
     iterate 19 (refine aG rfl (λK hK=>?_);go_simp;refine hK _ ?_;clear hK K)
     refine bH ?_;go_wp2_with fail
     go_ret;exact⟨rfl,hg.dr⟩
   ·have zv:¬(k:Int)<t.size:=by omega
    have hkC:k=C:=by omega
    subst hkC;go_wp2_with fail
    refine bF (aV 19 []) (by kernel_rfl) (λd _ _ _ _ h=>by cases d<;>exact h) ?_
    iterate 19 (refine aG rfl (λK hK=>?_);go_simp;refine hK _ ?_;clear hK K)
    refine bH ?_;go_wp2_with fail
    go_ret;exact⟨rfl,hg.dr⟩
  ·have h1i:¬(k:Int)<s.size:=by omega
   have hkC:k=C:=by omega
   subst hkC;go_wp2_with fail
   refine bF (aV 19 []) (by kernel_rfl) (λd _ _ _ _ h=>by cases d<;>exact h) ?_
   iterate 19 (refine aG rfl (λK hK=>?_);go_simp;refine hK _ ?_;clear hK K)
   refine bH ?_;go_wp2_with fail
   go_ret;exact⟨rfl,hg.dr⟩
def bls (B:List ByteArray):List (List UInt8):=B.map bl
theorem dV {B:List ByteArray} {k:Nat} {s:ByteArray} (h:B[k]?=some s):nth (bls B) k=bl s:=tY (by unfold bls; rw[Af,h]; rfl)
theorem vR0 (B:List ByteArray) (a:Option Addr) (c:Nat) (w:World) (hB:B.length<=20000) (hs:∀s∈B,s.size<=256) (ac:aF w a 1 (B.map stC)) :
  Calls Tryz.prog 198 #[.slice a B.length c] w λe w'=>e=.returned (.int .i64 (dZ (bls B)))/\Grows w w':=by
 have HAT:=Ad ac;have HS:=Ad hs;clear ac hs;go_enter Tryz.func198,Tryz.ntmps198
 go_wp2_with fail
 go_loopw [3,4] (λn i wr=>∃k N:Nat,k<=B.length/\i=.int .i64 k/\n=.int .i64 N/\N<=1+k*256/\Hid (N=lM (bls B) k)/\Grows w wr) (λ_ i _=>B.length-(intOf i).toNat)
 case atStart=>exact⟨0,1,Ai _,rfl,rfl,by omega,rfl,Grows.refl _⟩
 case round =>
  obtain⟨k,N,hk,rfl,rfl,hN,az,hg⟩:=hrel;by_cases ae:k<B.length
  ·obtain⟨s,hx⟩:∃x,B[k]?=some x:=⟨_,Aa ae⟩
   obtain⟨b,o,rfl,hc⟩:=at1 HAT.out (aH ae);have qi:=hc k s hx;have jb:=hg.cell qi;have hs:=HS.out s (Ac hx);have hn:=dV hx;by_cases h0:k=0
   ·have du:¬(0:Int)<k:=by omega
    have HN:Hid (N+s.size=lM (bls B) (k+1)):=by
     show _=_
     rw[lM,xS0,<-az.out,hn,dB,if_pos h0];rfl
    clear hc hx hn h0;go_wp2_with fail
    go_roundw
    case rel=>exact⟨k+1,N+s.size,by omega,by go_num,by go_num,by omega,HN.out,hg⟩
    case measure=>simp[intOf];omega
   ·obtain⟨t,gq⟩:∃x,B[k-1]?=some x:=⟨_,Aa (by omega)⟩
    have xq:=hc (k-1) t gq;have ht:=HS.out t (Ac gq);obtain⟨C,hC⟩:=exq (pC (bl t) (bl s));have hCs:=(zD (bl t) (bl s)).2;rw[<-hC,dB]at hCs
    have HN:Hid (N+s.size-C=lM (bls B) (k+1)):=by
     show _=_
     rw[lM,xS0,if_neg h0,<-az.out,hn,dB];unfold cAt;rw[hn,dV gq,<-hC];omega
    have gv:=oT0 t s;rw[<-hC]at gv;have du:(0:Int)<k:=by omega
    have vj:(k:Int)-1=((k-1:Nat):Int):=by omega
    have y1:∀x:Ext Grows wr.drew,x.u.cell? ⟨b,o+k,none⟩=some (.string s):=aB (hg.dr.cell qi);have y2:∀x:Ext Grows wr.drew,x.u.cell? ⟨b,o+(k-1),none⟩=some (.string t):=aB (hg.dr.cell xq);have hw5:IntKind.i64.wrap ((N:Int)+s.size-C)=((N+s.size-C:Nat):Int):=by simp[Ag,Ah,Ae];omega
    have gw:((k-1:Nat):Int)<B.length:=by omega
    have ii:IntKind.i64.wrap ((k-1:Nat):Int)=((k-1:Nat):Int):=by simp[Ag,Ah,Ae];omega
    clear hc hx hn hC gq az;go_wp2_with fail
    refine bF (aV 13 [10,11,12]) (by kernel_rfl) (λd _ _ _ _ h=>by cases d<;>exact h) ?_
    iterate 10 (refine aG rfl (λK hK=>?_);go_simp;refine hK _ ?_;clear hK K)
    refine aY rfl rfl (λK hK=>?_);go_simp;refine(gv _ (by omega) (by omega)).mono ?_;rintro e w1 ⟨rfl,ah⟩;refine⟨ah,hK _ _ ?_⟩;clear hK K;iterate 2 (refine aY rfl rfl (λK hK=>?_);go_simp;refine⟨Grows.refl _,hK _ _ ?_⟩;clear hK K)
    refine bH ?_;go_wp2_with fail
    go_roundw
    case rel=>exact⟨k+1,N+s.size-C,ae,by go_num,by go_num,by omega,HN.out,hg.dr.tr ah⟩
    case measure=>simp[intOf];omega
  ·have ja:k=B.length:=by omega
   have dg:¬(k:Int)<B.length:=by omega
   have HF:Hid (N=dZ (bls B)):=by show _=_;rw[az.out,ja];unfold dZ bls;rw[List.length_map]
   clear az ja;go_wp2_with fail
   go_ret;exact⟨by rw[<-HF.out];rfl,hg⟩
theorem cG (B:List ByteArray):(bls B).length=B.length:=by simp[bls]
theorem cK0 (s:ByteArray):bl s=s.toList:=(Lib.toList_data s).symm
theorem dU0 (B:List ByteArray) (a:Option Addr) (c:Nat) (w:World) (hB:B.length<=1099511627776) (dp:∀s∈B,s.size<=1099511627776) (ac:aF w a 1 (B.map stC)) :
  Calls Tryz.prog 137 #[.slice a B.length c] w λe w'=>e=.returned (.int .i64 (cY (bls B)))/\Grows w w':=by
 have HAT:=Ad ac;have HSZ:=Ad dp;clear ac dp;by_cases fu:20000<B.length
 ·have se:(20000:Int)<B.length:=by omega
  have HF:Hid (cY (bls B)=2):=by show _=_;unfold cY;rw[cG,if_pos fu]
  go_enter Tryz.func137,Tryz.ntmps137
  go_wp2_with fail
  go_ret;exact⟨by rw[HF.out];rfl,Grows.refl _⟩
 have se:¬(20000:Int)<B.length:=by omega
 have HF:Hid (cY (bls B)=if nJ (bls B)=true then 1 else if 524287<dZ (bls B) then 2 else 0):=by show _=_;unfold cY;rw[cG,if_neg fu]
 have HIT:Hid (∀k,k<B.length->rE (bls B) k=true->cY (bls B)=1):=λk hk hb=>by rw[HF.out,if_pos (dR0 (by rw[cG];exact hk) hb)]
 go_enter Tryz.func137,Tryz.ntmps137
 go_wp2_with fail
 go_loopw [3] (λi wr=>∃k:Nat,k<=B.length/\i=.int .i64 k/\Hid (∀j,j<k->rE (bls B) j=false)/\Grows w wr) (λi _=>B.length-(intOf i).toNat)
 case atStart=>exact⟨0,Ai _,rfl,λj hj=>by omega,Grows.refl _⟩
 case round =>
  obtain⟨k,hk,rfl,az,hg⟩:=hrel;by_cases ae:k<B.length
  ·obtain⟨s,hx⟩:∃x,B[k]?=some x:=⟨_,Aa ae⟩
   obtain⟨b,o,rfl,hc⟩:=at1 HAT.out (aH ae);have qi:=hc k s hx;have hn:=dV hx;have ahg:=HSZ.out s (Ac hx);have y1:∀x:Ext Grows wr.drew,x.u.cell? ⟨b,o+k,none⟩=some (.string s):=aB (hg.dr.cell qi);have HBD:Hid (rE (bls B) k=(decide (s.size<1)||decide (256<s.size)||(decide (0<k) && !Ab (nth (bls B) (k-1)) (bl s)))):=by show _=_;unfold rE;rw[hn,dB]
   by_cases h1:s.size<1
   ·have h1i:(s.size:Int)<1:=by omega
    have HB:=Ad (HIT.out k ae (by rw[HBD.out];simp[h1]));clear hc hx hn qi;go_wp2_with fail
    refine bF (aV 30 []) (by kernel_rfl) (λd _ _ _ _ h=>by cases d<;>exact h) ?_
    iterate 30 (refine aG rfl (λK hK=>?_);go_simp;refine hK _ ?_;clear hK K)
    refine bH ?_;go_wp2_with fail
    go_ret;exact⟨by rw[HB.out];rfl,hg.dr⟩
   ·have h1i:¬(s.size:Int)<1:=by omega
    have ga:decide ((s.size:Int)<1)=false:=by simpa using h1i
    by_cases h2:256<s.size
    ·have zv:(256:Int)<s.size:=by omega
     have HB:=Ad (HIT.out k ae (by rw[HBD.out];simp[h2]));clear hc hx hn qi;go_wp2_with fail
     refine bF (aV 30 []) (by kernel_rfl) (λd _ _ _ _ h=>by cases d<;>exact h) ?_
     iterate 30 (refine aG rfl (λK hK=>?_);go_simp;refine hK _ ?_;clear hK K)
     refine bH ?_;go_wp2_with fail
     go_ret;exact⟨by rw[HB.out];rfl,hg.dr⟩
    ·have zv:¬(256:Int)<s.size:=by omega
     have d8:decide ((256:Int)<s.size)=false:=by simpa using zv
     by_cases h0:k=0
     ·have sw:¬0<k:=by omega
      have HN:Hid (∀j,j<k+1->rE (bls B) j=false):=λj hj=>by
       have ee:decide (s.size<1)=false:=decide_eq_false h1;have ik:decide (256<s.size)=false:=decide_eq_false h2;have mi:decide (0<k)=false:=decide_eq_false sw;rw[show j=k by omega,HBD.out,ee,ik,mi];rfl
      clear hc hx hn qi h0;go_wp2_with fail
      refine bF (aV 30 []) (by kernel_rfl) (λd _ _ _ _ h=>by cases d<;>exact h) ?_
      iterate 30 (refine aG rfl (λK hK=>?_);go_simp;refine hK _ ?_;clear hK K)
      refine bH ?_;go_wp2_with fail
      go_roundw
      case rel=>exact⟨k+1,ae,by go_num,HN.out,hg.dr⟩
      case measure=>simp[intOf];omega
     ·have sw:0<k:=by omega
      obtain⟨t,gq⟩:∃x,B[k-1]?=some x:=⟨_,Aa (by omega)⟩;have xq:=hc (k-1) t gq;have y2:∀x:Ext Grows wr.drew,x.u.cell? ⟨b,o+(k-1),none⟩=some (.string t):=aB (hg.dr.cell xq);have vj:(k:Int)-1=((k-1:Nat):Int):=by omega
      have gw:((k-1:Nat):Int)<B.length:=by omega
      have ii:IntKind.i64.wrap ((k-1:Nat):Int)=((k-1:Nat):Int):=by simp[Ag,Ah,Ae];omega
      have hq:=HBD.out;rw[dV gq,cK0,cK0]at hq;have ee:decide (s.size<1)=false:=decide_eq_false h1;have ik:decide (256<s.size)=false:=decide_eq_false h2;have mi:decide (0<k)=true:=decide_eq_true sw;rw[ee,ik,mi]at hq;simp only[Bool.false_or,Bool.true_and]at hq;have HQ:=Ad hq;clear hc hx hn qi h0 gq xq HBD hq ee ik mi;by_cases hl:Ab t.toList s.toList=true
      ·have l1:Ab s.toList t.toList=false:=by
        have:=lL hl;simpa using this
       have l2:(s.toList==t.toList)=false:=by
        rw[beq_eq_false_iff_ne];intro h;rw[h,bytesLess_irrefl]at hl;cases hl
       have HN:Hid (∀j,j<k+1->rE (bls B) j=false):=λj hj=>by
        rcases Nat.lt_or_ge j k with h|h
        ·exact az.out j h
        ·rw[show j=k by omega,HQ.out,hl];rfl
       clear hl az;go_wp2_with fail
       refine bF (aV 30 []) (by kernel_rfl) (λd _ _ _ _ h=>by cases d<;>exact h) ?_
       iterate 30 (refine aG rfl (λK hK=>?_);go_simp;refine hK _ ?_;clear hK K)
       refine bH ?_;go_wp2_with fail
       go_roundw
       case rel=>exact⟨k+1,ae,by go_num,HN.out,hg.dr⟩
       case measure=>simp[intOf];omega
      ·have ji:Ab t.toList s.toList=false:=by simpa using hl
       have HB:=Ad (HIT.out k ae (by rw[HQ.out,ji];rfl));by_cases he:s.toList=t.toList
       ·have l1:Ab s.toList t.toList=false:=by rw[he,bytesLess_irrefl]
        have l2:(s.toList==t.toList)=true:=by rw[he];simp
        clear hl ji he az;go_wp2_with fail
        refine bF (aV 30 []) (by kernel_rfl) (λd _ _ _ _ h=>by cases d<;>exact h) ?_
        iterate 30 (refine aG rfl (λK hK=>?_);go_simp;refine hK _ ?_;clear hK K)
        refine bH ?_;go_wp2_with fail
        go_ret;exact⟨by rw[HB.out];rfl,hg.dr⟩
       ·have l1:Ab s.toList t.toList=true:=dI ji (λh=>he h.symm)
        clear hl ji he az;go_wp2_with fail
        refine bF (aV 30 []) (by kernel_rfl) (λd _ _ _ _ h=>by cases d<;>exact h) ?_
        iterate 30 (refine aG rfl (λK hK=>?_);go_simp;refine hK _ ?_;clear hK K)
        refine bH ?_;go_wp2_with fail
        go_ret;exact⟨by rw[HB.out];rfl,hg.dr⟩
  ·have ja:k=B.length:=by omega
   have dg:¬(k:Int)<B.length:=by omega
   have il:nJ (bls B)=false:=cB0 (λi hi=>az.out i (by rw[cG]at hi;omega));have ag:=yT0 il
   have aak:∀s∈B,s.size<=256:=λs hs=>by
    have:=ag.len (bl s) (List.mem_map.2 ⟨s,hs,rfl⟩)
    rwa [dB]at this
   have CC:=vR0 B a c wr (by omega) aak (HAT.out.grows hg);have HF2:Hid (cY (bls B)=if 524287<dZ (bls B) then 2 else 0):=by show _=_;rw[HF.out,il];rfl
   obtain⟨N,hN⟩:=exq (dZ (bls B));rw[<-hN]at CC HF2;clear az ja il ag aak hN;go_wp2_with fail
   refine CC.mono ?_;rintro e w1 ⟨rfl,ah⟩;by_cases aal:524287<N
   ·have hNi:(524287:Int)<N:=by omega
    have HB:Hid (cY (bls B)=2):=by show _=_;rw[HF2.out,if_pos aal]
    go_wp2_with fail
    go_ret;exact⟨by rw[HB.out];rfl,hg.tr ah⟩
   ·have hNi:¬(524287:Int)<N:=by omega
    have HB:Hid (cY (bls B)=0):=by show _=_;rw[HF2.out,if_neg aal]
    go_wp2_with fail
    go_ret;exact⟨by rw[HB.out];rfl,hg.tr ah⟩
theorem mO {B:List ByteArray} {k:Nat} {s:ByteArray} (h:B[k]?=some s):(bls B)[k]?=some (bl s):=by unfold bls; rw[Af,h]; rfl
end
end Go.Proofs.YtcijgkfpobpdbaaGreatDoor
