/- The texts W11 W11b W11c, one behind the other. -/
import Derived.Test.YtheiocndipepaaaGreatDoorKq20
import Derived.Test.YtheiocndipepaaaGreatDoorKq3
import Derived.Shelf.SlSorted.Search
import Derived.Test.YtheiocndipepaaaGreatDoorKq4
open List renaming getElem?_eq_getElem → Aa,mem_of_getElem? → Ac,getElem?_map → Af
open Go.Op renaming bytesLess → Ab
open Go.Lib renaming hid → Ad
open Go.IntKind renaming signed → Ae,wrap → Ag,bits → Ah
open Nat renaming zero_le → Ai
set_option maxHeartbeats 8000000
namespace Go.Proofs.YtheiocndipepaaaGreatDoor
set_option maxRecDepth 100000
section
open Go Go.RowKit
attribute [local go_sem] aM aK
theorem pA0 (s t:ByteArray) (w:World) (_:s.size<=1099511627776) (_:t.size<=1099511627776) :
  Calls Tryz.prog 222 #[.string s,.string t] w λe w'=>e=.returned (.int .i64 (nG (bl s) (bl t)))/\Grows w w':=by
 obtain⟨C,hC⟩:=exq (nG (bl s) (bl t));rw[<-hC];have hCs:=bQ0 (bl s) (bl t);rw[<-hC,dI,dI]at hCs;have HC:=Ad hC;clear hC;go_enter Tryz.func222,Tryz.ntmps222
 go_wp2_with fail
 go_loopw [5] (λn wr=>∃k:Nat,k<=C/\n=.int .i64 k/\Grows w wr) (λn _=>C+1-(intOf n).toNat)
 case atStart=>exact⟨0,Ai _,rfl,Grows.refl _⟩
 case round =>
  obtain⟨k,hk,rfl,hg⟩:=hrel;by_cases h1:k<s.size
  ·by_cases h2:k<t.size
   ·have adm:=bP0 (a:=bl s) (b:=bl t) (e:=k) (by rw[<-HC.out];exact hk) (by rw[dI];exact h1) (by rw[dI];exact h2)
    rw[nR h1,nR h2,<-HC.out]at adm;have HI:=Ad adm;clear adm;by_cases he:s[k]=t[k]
    ·have ae:k+1<=C:=HI.out.2 (by rw[he])
     have hb:((s[k].toNat:Int)==t[k].toNat)=true:=by rw[he];simp
     clear he;go_wp2_with fail
     refine bE (aU 19 []) (by kernel_rfl) (λd _ _ _ _ h=>by cases d<;>exact h) ?_
     iterate 19 (refine aG rfl (λK hK=>?_);go_simp;refine hK _ ?_;clear hK K)
     refine bH ?_;go_wp2_with fail
     go_roundw
     case rel=>exact⟨k+1,ae,by go_num,hg.dr⟩
     case measure=>simp[intOf];omega
    ·have ae:¬k+1<=C:=λh=>he (Option.some.inj (HI.out.1 h))
     have hb:((s[k].toNat:Int)==t[k].toNat)=false:=by
      rw[beq_eq_false_iff_ne];intro h;exact he (UInt8.toNat_inj.1 (by omega))
     have hkC:k=C:=by omega
     subst hkC;clear he;go_wp2_with fail
     refine bE (aU 19 []) (by kernel_rfl) (λd _ _ _ _ h=>by cases d<;>exact h) ?_
     iterate 19 (refine aG rfl (λK hK=>?_);go_simp;refine hK _ ?_;clear hK K)
     refine bH ?_;go_wp2_with fail
     go_ret;exact⟨rfl,hg.dr⟩
   ·have h2i:¬(k:Int)<t.size:=by omega
    have hkC:k=C:=by omega
    subst hkC;go_wp2_with fail
    refine bE (aU 19 []) (by kernel_rfl) (λd _ _ _ _ h=>by cases d<;>exact h) ?_
    iterate 19 (refine aG rfl (λK hK=>?_);go_simp;refine hK _ ?_;clear hK K)
    refine bH ?_;go_wp2_with fail
    go_ret;exact⟨rfl,hg.dr⟩
  ·have h1i:¬(k:Int)<s.size:=by omega
   have hkC:k=C:=by omega
   subst hkC;go_wp2_with fail
   refine bE (aU 19 []) (by kernel_rfl) (λd _ _ _ _ h=>by cases d<;>exact h) ?_
   iterate 19 (refine aG rfl (λK hK=>?_);go_simp;refine hK _ ?_;clear hK K)
   refine bH ?_;go_wp2_with fail
   go_ret;exact⟨rfl,hg.dr⟩
def bls (B:List ByteArray):List (List UInt8):=B.map bl
theorem dY {B:List ByteArray} {k:Nat} {s:ByteArray} (h:B[k]?=some s):nth (bls B) k=bl s:=xV (by unfold bls; rw[Af,h]; rfl)
theorem uH0 (B:List ByteArray) (a:Option Addr) (c:Nat) (w:World) (hB:B.length<=20000) (hs:∀s∈B,s.size<=256) (ac:aF w a 1 (B.map stC)) :
  Calls Tryz.prog 185 #[.slice a B.length c] w λe w'=>e=.returned (.int .i64 (eG (bls B)))/\Grows w w':=by
 have HAT:=Ad ac;have HS:=Ad hs;clear ac hs;go_enter Tryz.func185,Tryz.ntmps185
 go_wp2_with fail
 go_loopw [3,4] (λn i wr=>∃k N:Nat,k<=B.length/\i=.int .i64 k/\n=.int .i64 N/\N<=1+k*256/\Hid (N=lK (bls B) k)/\Grows w wr) (λ_ i _=>B.length-(intOf i).toNat)
 case atStart=>exact⟨0,1,Ai _,rfl,rfl,by omega,rfl,Grows.refl _⟩
 case round =>
  obtain⟨k,N,hk,rfl,rfl,hN,ay,hg⟩:=hrel;by_cases ae:k<B.length
  ·obtain⟨s,hx⟩:∃x,B[k]?=some x:=⟨_,Aa ae⟩
   obtain⟨b,o,rfl,hc⟩:=at1 HAT.out (aH ae);have rj:=hc k s hx;have jp:=hg.cell rj;have hs:=HS.out s (Ac hx);have hn:=dY hx;by_cases h0:k=0
   ·have dm:¬(0:Int)<k:=by omega
    have HN:Hid (N+s.size=lK (bls B) (k+1)):=by
     show _=_
     rw[lK,eD1,<-ay.out,hn,dI,if_pos h0];rfl
    clear hc hx hn h0;go_wp2_with fail
    go_roundw
    case rel=>exact⟨k+1,N+s.size,by omega,by go_num,by go_num,by omega,HN.out,hg⟩
    case measure=>simp[intOf];omega
   ·obtain⟨t,ik⟩:∃x,B[k-1]?=some x:=⟨_,Aa (by omega)⟩
    have zk:=hc (k-1) t ik;have ht:=HS.out t (Ac ik);obtain⟨C,hC⟩:=exq (nG (bl t) (bl s));have hCs:=(bQ0 (bl t) (bl s)).2;rw[<-hC,dI]at hCs
    have HN:Hid (N+s.size-C=lK (bls B) (k+1)):=by
     show _=_
     rw[lK,eD1,if_neg h0,<-ay.out,hn,dI];unfold cAt;rw[hn,dY ik,<-hC];omega
    have il:=pA0 t s;rw[<-hC]at il;have dm:(0:Int)<k:=by omega
    have lh:(k:Int)-1=((k-1:Nat):Int):=by omega
    have y1:∀x:Ext Grows wr.drew,x.u.cell? ⟨b,o+k,none⟩=some (.string s):=aB (hg.dr.cell rj);have y2:∀x:Ext Grows wr.drew,x.u.cell? ⟨b,o+(k-1),none⟩=some (.string t):=aB (hg.dr.cell zk);have hw5:IntKind.i64.wrap ((N:Int)+s.size-C)=((N+s.size-C:Nat):Int):=by simp[Ag,Ah,Ae];omega
    have fj:((k-1:Nat):Int)<B.length:=by omega
    have iz:IntKind.i64.wrap ((k-1:Nat):Int)=((k-1:Nat):Int):=by simp[Ag,Ah,Ae];omega
    clear hc hx hn hC ik ay;go_wp2_with fail
    refine bE (aU 13 [10,11,12]) (by kernel_rfl) (λd _ _ _ _ h=>by cases d<;>exact h) ?_
    iterate 10 (refine aG rfl (λK hK=>?_);go_simp;refine hK _ ?_;clear hK K)
    refine aZ rfl rfl (λK hK=>?_);go_simp;refine(il _ (by omega) (by omega)).mono ?_;rintro e w1 ⟨rfl,ag⟩;refine⟨ag,hK _ _ ?_⟩;clear hK K;iterate 2 (refine aZ rfl rfl (λK hK=>?_);go_simp;refine⟨Grows.refl _,hK _ _ ?_⟩;clear hK K)
    refine bH ?_;go_wp2_with fail
    go_roundw
    case rel=>exact⟨k+1,N+s.size-C,ae,by go_num,by go_num,by omega,HN.out,hg.dr.tr ag⟩
    case measure=>simp[intOf];omega
  ·have jo:k=B.length:=by omega
   have cy:¬(k:Int)<B.length:=by omega
   have HF:Hid (N=eG (bls B)):=by show _=_;rw[ay.out,jo];unfold eG bls;rw[List.length_map]
   clear ay jo;go_wp2_with fail
   go_ret;exact⟨by rw[<-HF.out];rfl,hg⟩
theorem cK (B:List ByteArray):(bls B).length=B.length:=by simp[bls]
theorem cA0 (s:ByteArray):bl s=s.toList:=(Lib.toList_data s).symm
theorem eC0 (B:List ByteArray) (a:Option Addr) (c:Nat) (w:World) (hB:B.length<=1099511627776) (di:∀s∈B,s.size<=1099511627776) (ac:aF w a 1 (B.map stC)) :
  Calls Tryz.prog 129 #[.slice a B.length c] w λe w'=>e=.returned (.int .i64 (dC (bls B)))/\Grows w w':=by
 have HAT:=Ad ac;have HSZ:=Ad di;clear ac di;by_cases gk:20000<B.length
 ·have ud:(20000:Int)<B.length:=by omega
  have HF:Hid (dC (bls B)=2):=by show _=_;unfold dC;rw[cK,if_pos gk]
  go_enter Tryz.func129,Tryz.ntmps129
  go_wp2_with fail
  go_ret;exact⟨by rw[HF.out];rfl,Grows.refl _⟩
 have ud:¬(20000:Int)<B.length:=by omega
 have HF:Hid (dC (bls B)=if nP (bls B)=true then 1 else if 524287<eG (bls B) then 2 else 0):=by show _=_;unfold dC;rw[cK,if_neg gk]
 have HIT:Hid (∀k,k<B.length->rQ (bls B) k=true->dC (bls B)=1):=λk hk hb=>by rw[HF.out,if_pos (eF0 (by rw[cK];exact hk) hb)]
 go_enter Tryz.func129,Tryz.ntmps129
 go_wp2_with fail
 go_loopw [3] (λi wr=>∃k:Nat,k<=B.length/\i=.int .i64 k/\Hid (∀j,j<k->rQ (bls B) j=false)/\Grows w wr) (λi _=>B.length-(intOf i).toNat)
 case atStart=>exact⟨0,Ai _,rfl,λj hj=>by omega,Grows.refl _⟩
 case round =>
  obtain⟨k,hk,rfl,ay,hg⟩:=hrel;by_cases ae:k<B.length
  ·obtain⟨s,hx⟩:∃x,B[k]?=some x:=⟨_,Aa ae⟩
   obtain⟨b,o,rfl,hc⟩:=at1 HAT.out (aH ae);have rj:=hc k s hx;have hn:=dY hx;have aif:=HSZ.out s (Ac hx);have y1:∀x:Ext Grows wr.drew,x.u.cell? ⟨b,o+k,none⟩=some (.string s):=aB (hg.dr.cell rj);have HBD:Hid (rQ (bls B) k=(decide (s.size<1)||decide (256<s.size)||(decide (0<k) && !Ab (nth (bls B) (k-1)) (bl s)))):=by show _=_;unfold rQ;rw[hn,dI]
   by_cases h1:s.size<1
   ·have h1i:(s.size:Int)<1:=by omega
    have HB:=Ad (HIT.out k ae (by rw[HBD.out];simp[h1]));clear hc hx hn rj;go_wp2_with fail
    refine bE (aU 30 []) (by kernel_rfl) (λd _ _ _ _ h=>by cases d<;>exact h) ?_
    iterate 30 (refine aG rfl (λK hK=>?_);go_simp;refine hK _ ?_;clear hK K)
    refine bH ?_;go_wp2_with fail
    go_ret;exact⟨by rw[HB.out];rfl,hg.dr⟩
   ·have h1i:¬(s.size:Int)<1:=by omega
    have fw:decide ((s.size:Int)<1)=false:=by simpa using h1i
    by_cases h2:256<s.size
    ·have h2i:(256:Int)<s.size:=by omega
     have HB:=Ad (HIT.out k ae (by rw[HBD.out];simp[h2]));clear hc hx hn rj;go_wp2_with fail
     refine bE (aU 30 []) (by kernel_rfl) (λd _ _ _ _ h=>by cases d<;>exact h) ?_
     iterate 30 (refine aG rfl (λK hK=>?_);go_simp;refine hK _ ?_;clear hK K)
     refine bH ?_;go_wp2_with fail
     go_ret;exact⟨by rw[HB.out];rfl,hg.dr⟩
    ·have h2i:¬(256:Int)<s.size:=by omega
     have eo:decide ((256:Int)<s.size)=false:=by simpa using h2i
     by_cases h0:k=0
     ·have uh:¬0<k:=by omega
      have HN:Hid (∀j,j<k+1->rQ (bls B) j=false):=λj hj=>by
       have fe:decide (s.size<1)=false:=decide_eq_false h1;have jb:decide (256<s.size)=false:=decide_eq_false h2;have m6:decide (0<k)=false:=decide_eq_false uh;rw[show j=k by omega,HBD.out,fe,jb,m6];rfl
      clear hc hx hn rj h0;go_wp2_with fail
      refine bE (aU 30 []) (by kernel_rfl) (λd _ _ _ _ h=>by cases d<;>exact h) ?_
      iterate 30 (refine aG rfl (λK hK=>?_);go_simp;refine hK _ ?_;clear hK K)
      refine bH ?_;go_wp2_with fail
      go_roundw
      case rel=>exact⟨k+1,ae,by go_num,HN.out,hg.dr⟩
      case measure=>simp[intOf];omega
     ·have uh:0<k:=by omega
      obtain⟨t,ik⟩:∃x,B[k-1]?=some x:=⟨_,Aa (by omega)⟩;have zk:=hc (k-1) t ik;have y2:∀x:Ext Grows wr.drew,x.u.cell? ⟨b,o+(k-1),none⟩=some (.string t):=aB (hg.dr.cell zk);have lh:(k:Int)-1=((k-1:Nat):Int):=by omega
      have fj:((k-1:Nat):Int)<B.length:=by omega
      have iz:IntKind.i64.wrap ((k-1:Nat):Int)=((k-1:Nat):Int):=by simp[Ag,Ah,Ae];omega
      have hq:=HBD.out;rw[dY ik,cA0,cA0]at hq;have fe:decide (s.size<1)=false:=decide_eq_false h1;have jb:decide (256<s.size)=false:=decide_eq_false h2;have m6:decide (0<k)=true:=decide_eq_true uh;rw[fe,jb,m6]at hq;simp only[Bool.false_or,Bool.true_and]at hq;have HQ:=Ad hq;clear hc hx hn rj h0 ik zk HBD hq fe jb m6;by_cases hl:Ab t.toList s.toList=true
      ·have l1:Ab s.toList t.toList=false:=by
        have:=lO hl;simpa using this
       have l2:(s.toList==t.toList)=false:=by
        rw[beq_eq_false_iff_ne];intro h;rw[h,bytesLess_irrefl]at hl;cases hl
       have HN:Hid (∀j,j<k+1->rQ (bls B) j=false):=λj hj=>by
        rcases Nat.lt_or_ge j k with h|h
        ·exact ay.out j h
        ·rw[show j=k by omega,HQ.out,hl];rfl
       clear hl ay;go_wp2_with fail
       refine bE (aU 30 []) (by kernel_rfl) (λd _ _ _ _ h=>by cases d<;>exact h) ?_
       iterate 30 (refine aG rfl (λK hK=>?_);go_simp;refine hK _ ?_;clear hK K)
       refine bH ?_;go_wp2_with fail
       go_roundw
       case rel=>exact⟨k+1,ae,by go_num,HN.out,hg.dr⟩
       case measure=>simp[intOf];omega
      ·have jn:Ab t.toList s.toList=false:=by simpa using hl
       have HB:=Ad (HIT.out k ae (by rw[HQ.out,jn];rfl));by_cases he:s.toList=t.toList
       ·have l1:Ab s.toList t.toList=false:=by rw[he,bytesLess_irrefl]
        have l2:(s.toList==t.toList)=true:=by rw[he];simp
        clear hl jn he ay;go_wp2_with fail
        refine bE (aU 30 []) (by kernel_rfl) (λd _ _ _ _ h=>by cases d<;>exact h) ?_
        iterate 30 (refine aG rfl (λK hK=>?_);go_simp;refine hK _ ?_;clear hK K)
        refine bH ?_;go_wp2_with fail
        go_ret;exact⟨by rw[HB.out];rfl,hg.dr⟩
       ·have l1:Ab s.toList t.toList=true:=dM jn (λh=>he h.symm)
        clear hl jn he ay;go_wp2_with fail
        refine bE (aU 30 []) (by kernel_rfl) (λd _ _ _ _ h=>by cases d<;>exact h) ?_
        iterate 30 (refine aG rfl (λK hK=>?_);go_simp;refine hK _ ?_;clear hK K)
        refine bH ?_;go_wp2_with fail
        go_ret;exact⟨by rw[HB.out];rfl,hg.dr⟩
  ·have jo:k=B.length:=by omega
   have cy:¬(k:Int)<B.length:=by omega
   have jg:nP (bls B)=false:=aJ0 (λi hi=>ay.out i (by rw[cK]at hi;omega));have ah:=bX1 jg
   have aa3:∀s∈B,s.size<=256:=λs hs=>by
    have:=ah.len (bl s) (List.mem_map.2 ⟨s,hs,rfl⟩)
    rwa [dI]at this
   have CC:=uH0 B a c wr (by omega) aa3 (HAT.out.grows hg);have HF2:Hid (dC (bls B)=if 524287<eG (bls B) then 2 else 0):=by show _=_;rw[HF.out,jg];rfl
   obtain⟨N,hN⟩:=exq (eG (bls B));rw[<-hN]at CC HF2;clear ay jo jg ah aa3 hN;go_wp2_with fail
   refine CC.mono ?_;rintro e w1 ⟨rfl,ag⟩;by_cases aa4:524287<N
   ·have hNi:(524287:Int)<N:=by omega
    have HB:Hid (dC (bls B)=2):=by show _=_;rw[HF2.out,if_pos aa4]
    go_wp2_with fail
    go_ret;exact⟨by rw[HB.out];rfl,hg.tr ag⟩
   ·have hNi:¬(524287:Int)<N:=by omega
    have HB:Hid (dC (bls B)=0):=by show _=_;rw[HF2.out,if_neg aa4]
    go_wp2_with fail
    go_ret;exact⟨by rw[HB.out];rfl,hg.tr ag⟩
theorem mY {B:List ByteArray} {k:Nat} {s:ByteArray} (h:B[k]?=some s):(bls B)[k]?=some (bl s):=by unfold bls; rw[Af,h]; rfl
end
end Go.Proofs.YtheiocndipepaaaGreatDoor
