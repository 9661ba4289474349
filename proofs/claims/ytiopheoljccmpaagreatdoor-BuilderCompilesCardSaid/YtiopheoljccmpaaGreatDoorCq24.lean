/- The texts W11 W11b W11c, one behind the other. -/
import Derived.Test.YtiopheoljccmpaaGreatDoorCq20
import Derived.Test.YtiopheoljccmpaaGreatDoorCq6
import Derived.Shelf.SlSorted.Search
open List renaming getElem?_eq_getElem → Aa,mem_of_getElem? → Ac,take_of_length_le → Aj,getElem?_map → Ak,length → Al
open Go.Lib renaming hid → Ab
open Go.Op renaming bytesLess → Ad
open Go.IntKind renaming signed → Ae,wrap → Ah,bits → Ai
open Nat renaming zero_le → Af,le_refl → Ag
set_option maxHeartbeats 8000000
namespace Go.Proofs.YtiopheoljccmpaaGreatDoor
set_option maxRecDepth 100000
section
open Go Go.RowKit
attribute [local go_sem] aM aP
theorem lM0 (s t:ByteArray) (w:World) (_:s.size<=1099511627776) (_:t.size<=1099511627776) :
  Calls Tryz.prog 238 #[.string s,.string t] w λe w'=>e=.returned (.int .i64 (mS (bl s) (bl t)))/\aB w w':=by
 obtain⟨C,hC⟩:=exq (mS (bl s) (bl t));rw[<-hC];have hCs:=bG0 (bl s) (bl t);rw[<-hC,cJ,cJ]at hCs;have HC:=Ab hC;clear hC;go_enter Tryz.func238,Tryz.ntmps238
 go_wp2_with fail
 go_loopw [5] (λn wr=>∃k:Nat,k<=C/\n=.int .i64 k/\aB w wr) (λn _=>C+1-(intOf n).toNat)
 case atStart=>exact⟨0,Af _,rfl,aB.refl _⟩
 case round =>
  obtain⟨k,hk,rfl,hg⟩:=hrel;by_cases h1:k<s.size
  ·by_cases h2:k<t.size
   ·have ady:=zF (a:=bl s) (b:=bl t) (e:=k) (by rw[<-HC.out];exact hk) (by rw[cJ];exact h1) (by rw[cJ];exact h2)
    rw[nR h1,nR h2,<-HC.out]at ady;have HI:=Ab ady;clear ady;by_cases he:s[k]=t[k]
    ·have af:k+1<=C:=HI.out.2 (by rw[he])
     have hb:((s[k].toNat:Int)==t[k].toNat)=true:=by rw[he];simp
     clear he;go_wp2_with fail
     refine bH (aT 19 []) (by kernel_rfl) (λd _ _ _ _ h=>by cases d<;>exact h) ?_
     iterate 19 (refine aJ rfl (λK hK=>?_);go_simp;refine hK _ ?_;clear hK K)
     refine bN ?_;go_wp2_with fail
     go_roundw
     case rel=>exact⟨k+1,af,by go_num,hg.dr⟩
     case measure=>simp[intOf];omega
    ·have af:¬k+1<=C:=λh=>he (Option.some.inj (HI.out.1 h))
     have hb:((s[k].toNat:Int)==t[k].toNat)=false:=by
      rw[beq_eq_false_iff_ne];intro h;exact he (UInt8.toNat_inj.1 (by omega))
     have hkC:k=C:=by omega
     subst hkC;clear he;go_wp2_with fail
     refine bH (aT 19 []) (by kernel_rfl) (λd _ _ _ _ h=>by cases d<;>exact h) ?_
     iterate 19 (refine aJ rfl (λK hK=>?_);go_simp;refine hK _ ?_;clear hK K)
     refine bN ?_;go_wp2_with fail
     go_ret;exact⟨rfl,hg.dr⟩
   ·have h2i:¬(k:Int)<t.size:=by omega
    have hkC:k=C:=by omega
    subst hkC;go_wp2_with fail
    refine bH (aT 19 []) (by kernel_rfl) (λd _ _ _ _ h=>by cases d<;>exact h) ?_
    iterate 19 (refine aJ rfl (λK hK=>?_);go_simp;refine hK _ ?_;clear hK K)
    refine bN ?_;go_wp2_with fail
    go_ret;exact⟨rfl,hg.dr⟩
  ·have h1i:¬(k:Int)<s.size:=by omega
   have hkC:k=C:=by omega
   subst hkC;go_wp2_with fail
   refine bH (aT 19 []) (by kernel_rfl) (λd _ _ _ _ h=>by cases d<;>exact h) ?_
   iterate 19 (refine aJ rfl (λK hK=>?_);go_simp;refine hK _ ?_;clear hK K)
   refine bN ?_;go_wp2_with fail
   go_ret;exact⟨rfl,hg.dr⟩
def bls (B:List ByteArray):List (List UInt8):=B.map bl
theorem dK {B:List ByteArray} {k:Nat} {s:ByteArray} (h:B[k]?=some s):nth (bls B) k=bl s:=pE0 (by unfold bls; rw[Ak,h]; rfl)
theorem rL0 (B:List ByteArray) (a:Option Addr) (c:Nat) (w:World) (hB:B.length<=20000) (hs:∀s∈B,s.size<=256) (ah:aF w a 1 (B.map stC)) :
  Calls Tryz.prog 174 #[.slice a B.length c] w λe w'=>e=.returned (.int .i64 (dF (bls B)))/\aB w w':=by
 have HAT:=Ab ah;have HS:=Ab hs;clear ah hs;go_enter Tryz.func174,Tryz.ntmps174
 go_wp2_with fail
 go_loopw [3,4] (λn i wr=>∃k N:Nat,k<=B.length/\i=.int .i64 k/\n=.int .i64 N/\N<=1+k*256/\Hid (N=iG (bls B) k)/\aB w wr) (λ_ i _=>B.length-(intOf i).toNat)
 case atStart=>exact⟨0,1,Af _,rfl,rfl,by omega,rfl,aB.refl _⟩
 case round =>
  obtain⟨k,N,hk,rfl,rfl,hN,ak,hg⟩:=hrel;by_cases af:k<B.length
  ·obtain⟨s,hx⟩:∃x,B[k]?=some x:=⟨_,Aa af⟩
   obtain⟨b,o,rfl,hc⟩:=at1 HAT.out (aH af);have lh:=hc k s hx;have jy:=hg.cell lh;have hs:=HS.out s (Ac hx);have hn:=dK hx;by_cases h0:k=0
   ·have cu:¬(0:Int)<k:=by omega
    have HN:Hid (N+s.size=iG (bls B) (k+1)):=by
     show _=_
     rw[iG,sA0,<-ak.out,hn,cJ,if_pos h0];rfl
    clear hc hx hn h0;go_wp2_with fail
    go_roundw
    case rel=>exact⟨k+1,N+s.size,by omega,by go_num,by go_num,by omega,HN.out,hg⟩
    case measure=>simp[intOf];omega
   ·obtain⟨t,ik⟩:∃x,B[k-1]?=some x:=⟨_,Aa (by omega)⟩
    have aay:=hc (k-1) t ik;have ht:=HS.out t (Ac ik);obtain⟨C,hC⟩:=exq (mS (bl t) (bl s));have hCs:=(bG0 (bl t) (bl s)).2;rw[<-hC,cJ]at hCs
    have HN:Hid (N+s.size-C=iG (bls B) (k+1)):=by
     show _=_
     rw[iG,sA0,if_neg h0,<-ak.out,hn,cJ];unfold cAt;rw[hn,dK ik,<-hC];omega
    have fm:=lM0 t s;rw[<-hC]at fm;have cu:(0:Int)<k:=by omega
    have y9:(k:Int)-1=((k-1:Nat):Int):=by omega
    have y1:∀x:Ext aB wr.drew,x.u.cell? ⟨b,o+k,none⟩=some (.string s):=aG (hg.dr.cell lh);have y2:∀x:Ext aB wr.drew,x.u.cell? ⟨b,o+(k-1),none⟩=some (.string t):=aG (hg.dr.cell aay);have hw5:IntKind.i64.wrap ((N:Int)+s.size-C)=((N+s.size-C:Nat):Int):=by simp[Ah,Ai,Ae];omega
    have j7:((k-1:Nat):Int)<B.length:=by omega
    have o6:IntKind.i64.wrap ((k-1:Nat):Int)=((k-1:Nat):Int):=by simp[Ah,Ai,Ae];omega
    clear hc hx hn hC ik ak;go_wp2_with fail
    refine bH (aT 13 [10,11,12]) (by kernel_rfl) (λd _ _ _ _ h=>by cases d<;>exact h) ?_
    iterate 10 (refine aJ rfl (λK hK=>?_);go_simp;refine hK _ ?_;clear hK K)
    refine bM rfl rfl (λK hK=>?_);go_simp;refine(fm _ (by omega) (by omega)).mono ?_;rintro e w1 ⟨rfl,aq⟩;refine⟨aq,hK _ _ ?_⟩;clear hK K;iterate 2 (refine bM rfl rfl (λK hK=>?_);go_simp;refine⟨aB.refl _,hK _ _ ?_⟩;clear hK K)
    refine bN ?_;go_wp2_with fail
    go_roundw
    case rel=>exact⟨k+1,N+s.size-C,af,by go_num,by go_num,by omega,HN.out,hg.dr.tr aq⟩
    case measure=>simp[intOf];omega
  ·have fw:k=B.length:=by omega
   have di:¬(k:Int)<B.length:=by omega
   have HF:Hid (N=dF (bls B)):=by show _=_;rw[ak.out,fw];unfold dF bls;rw[List.length_map]
   clear ak fw;go_wp2_with fail
   go_ret;exact⟨by rw[<-HF.out];rfl,hg⟩
theorem cX (B:List ByteArray):(bls B).length=B.length:=by simp[bls]
theorem aQ0 (s:ByteArray):bl s=s.toList:=(Lib.toList_data s).symm
theorem dI0 (B:List ByteArray) (a:Option Addr) (c:Nat) (w:World) (hB:B.length<=1099511627776) (dm:∀s∈B,s.size<=1099511627776) (ah:aF w a 1 (B.map stC)) :
  Calls Tryz.prog 116 #[.slice a B.length c] w λe w'=>e=.returned (.int .i64 (cH (bls B)))/\aB w w':=by
 have HAT:=Ab ah;have HSZ:=Ab dm;clear ah dm;by_cases da:20000<B.length
 ·have zi:(20000:Int)<B.length:=by omega
  have HF:Hid (cH (bls B)=2):=by show _=_;unfold cH;rw[cX,if_pos da]
  go_enter Tryz.func116,Tryz.ntmps116
  go_wp2_with fail
  go_ret;exact⟨by rw[HF.out];rfl,aB.refl _⟩
 have zi:¬(20000:Int)<B.length:=by omega
 have HF:Hid (cH (bls B)=if lU (bls B)=true then 1 else if 524287<dF (bls B) then 2 else 0):=by show _=_;unfold cH;rw[cX,if_neg da]
 have HIT:Hid (∀k,k<B.length->qM (bls B) k=true->cH (bls B)=1):=λk hk hb=>by rw[HF.out,if_pos (dT0 (by rw[cX];exact hk) hb)]
 go_enter Tryz.func116,Tryz.ntmps116
 go_wp2_with fail
 go_loopw [3] (λi wr=>∃k:Nat,k<=B.length/\i=.int .i64 k/\Hid (∀j,j<k->qM (bls B) j=false)/\aB w wr) (λi _=>B.length-(intOf i).toNat)
 case atStart=>exact⟨0,Af _,rfl,λj hj=>by omega,aB.refl _⟩
 case round =>
  obtain⟨k,hk,rfl,ak,hg⟩:=hrel;by_cases af:k<B.length
  ·obtain⟨s,hx⟩:∃x,B[k]?=some x:=⟨_,Aa af⟩
   obtain⟨b,o,rfl,hc⟩:=at1 HAT.out (aH af);have lh:=hc k s hx;have hn:=dK hx;have aid:=HSZ.out s (Ac hx);have y1:∀x:Ext aB wr.drew,x.u.cell? ⟨b,o+k,none⟩=some (.string s):=aG (hg.dr.cell lh);have HBD:Hid (qM (bls B) k=(decide (s.size<1)||decide (256<s.size)||(decide (0<k) && !Ad (nth (bls B) (k-1)) (bl s)))):=by show _=_;unfold qM;rw[hn,cJ]
   by_cases h1:s.size<1
   ·have h1i:(s.size:Int)<1:=by omega
    have HB:=Ab (HIT.out k af (by rw[HBD.out];simp[h1]));clear hc hx hn lh;go_wp2_with fail
    refine bH (aT 30 []) (by kernel_rfl) (λd _ _ _ _ h=>by cases d<;>exact h) ?_
    iterate 30 (refine aJ rfl (λK hK=>?_);go_simp;refine hK _ ?_;clear hK K)
    refine bN ?_;go_wp2_with fail
    go_ret;exact⟨by rw[HB.out];rfl,hg.dr⟩
   ·have h1i:¬(s.size:Int)<1:=by omega
    have gh:decide ((s.size:Int)<1)=false:=by simpa using h1i
    by_cases h2:256<s.size
    ·have h2i:(256:Int)<s.size:=by omega
     have HB:=Ab (HIT.out k af (by rw[HBD.out];simp[h2]));clear hc hx hn lh;go_wp2_with fail
     refine bH (aT 30 []) (by kernel_rfl) (λd _ _ _ _ h=>by cases d<;>exact h) ?_
     iterate 30 (refine aJ rfl (λK hK=>?_);go_simp;refine hK _ ?_;clear hK K)
     refine bN ?_;go_wp2_with fail
     go_ret;exact⟨by rw[HB.out];rfl,hg.dr⟩
    ·have h2i:¬(256:Int)<s.size:=by omega
     have fp:decide ((256:Int)<s.size)=false:=by simpa using h2i
     by_cases h0:k=0
     ·have tj:¬0<k:=by omega
      have HN:Hid (∀j,j<k+1->qM (bls B) j=false):=λj hj=>by
       have ie:decide (s.size<1)=false:=decide_eq_false h1;have ig:decide (256<s.size)=false:=decide_eq_false h2;have tv:decide (0<k)=false:=decide_eq_false tj;rw[show j=k by omega,HBD.out,ie,ig,tv];rfl
      clear hc hx hn lh h0;go_wp2_with fail
      refine bH (aT 30 []) (by kernel_rfl) (λd _ _ _ _ h=>by cases d<;>exact h) ?_
      iterate 30 (refine aJ rfl (λK hK=>?_);go_simp;refine hK _ ?_;clear hK K)
      refine bN ?_;go_wp2_with fail
      go_roundw
      case rel=>exact⟨k+1,af,by go_num,HN.out,hg.dr⟩
      case measure=>simp[intOf];omega
     ·have tj:0<k:=by omega
      obtain⟨t,ik⟩:∃x,B[k-1]?=some x:=⟨_,Aa (by omega)⟩;have aay:=hc (k-1) t ik;have y2:∀x:Ext aB wr.drew,x.u.cell? ⟨b,o+(k-1),none⟩=some (.string t):=aG (hg.dr.cell aay);have y9:(k:Int)-1=((k-1:Nat):Int):=by omega
      have j7:((k-1:Nat):Int)<B.length:=by omega
      have o6:IntKind.i64.wrap ((k-1:Nat):Int)=((k-1:Nat):Int):=by simp[Ah,Ai,Ae];omega
      have hq:=HBD.out;rw[dK ik,aQ0,aQ0]at hq;have ie:decide (s.size<1)=false:=decide_eq_false h1;have ig:decide (256<s.size)=false:=decide_eq_false h2;have tv:decide (0<k)=true:=decide_eq_true tj;rw[ie,ig,tv]at hq;simp only[Bool.false_or,Bool.true_and]at hq;have HQ:=Ab hq;clear hc hx hn lh h0 ik aay HBD hq ie ig tv;by_cases hl:Ad t.toList s.toList=true
      ·have l1:Ad s.toList t.toList=false:=by
        have:=kH hl;simpa using this
       have l2:(s.toList==t.toList)=false:=by
        rw[beq_eq_false_iff_ne];intro h;rw[h,bytesLess_irrefl]at hl;cases hl
       have HN:Hid (∀j,j<k+1->qM (bls B) j=false):=λj hj=>by
        rcases Nat.lt_or_ge j k with h|h
        ·exact ak.out j h
        ·rw[show j=k by omega,HQ.out,hl];rfl
       clear hl ak;go_wp2_with fail
       refine bH (aT 30 []) (by kernel_rfl) (λd _ _ _ _ h=>by cases d<;>exact h) ?_
       iterate 30 (refine aJ rfl (λK hK=>?_);go_simp;refine hK _ ?_;clear hK K)
       refine bN ?_;go_wp2_with fail
       go_roundw
       case rel=>exact⟨k+1,af,by go_num,HN.out,hg.dr⟩
       case measure=>simp[intOf];omega
      ·have ja:Ad t.toList s.toList=false:=by simpa using hl
       have HB:=Ab (HIT.out k af (by rw[HQ.out,ja];rfl));by_cases he:s.toList=t.toList
       ·have l1:Ad s.toList t.toList=false:=by rw[he,bytesLess_irrefl]
        have l2:(s.toList==t.toList)=true:=by rw[he];simp
        clear hl ja he ak;go_wp2_with fail
        refine bH (aT 30 []) (by kernel_rfl) (λd _ _ _ _ h=>by cases d<;>exact h) ?_
        iterate 30 (refine aJ rfl (λK hK=>?_);go_simp;refine hK _ ?_;clear hK K)
        refine bN ?_;go_wp2_with fail
        go_ret;exact⟨by rw[HB.out];rfl,hg.dr⟩
       ·have l1:Ad s.toList t.toList=true:=dB ja (λh=>he h.symm)
        clear hl ja he ak;go_wp2_with fail
        refine bH (aT 30 []) (by kernel_rfl) (λd _ _ _ _ h=>by cases d<;>exact h) ?_
        iterate 30 (refine aJ rfl (λK hK=>?_);go_simp;refine hK _ ?_;clear hK K)
        refine bN ?_;go_wp2_with fail
        go_ret;exact⟨by rw[HB.out];rfl,hg.dr⟩
  ·have fw:k=B.length:=by omega
   have di:¬(k:Int)<B.length:=by omega
   have ko:lU (bls B)=false:=yX (λi hi=>ak.out i (by rw[cX]at hi;omega));have be:=zI0 ko
   have vu:∀s∈B,s.size<=256:=λs hs=>by
    have:=be.len (bl s) (List.mem_map.2 ⟨s,hs,rfl⟩)
    rwa [cJ]at this
   have CC:=rL0 B a c wr (by omega) vu (HAT.out.grows hg);have HF2:Hid (cH (bls B)=if 524287<dF (bls B) then 2 else 0):=by show _=_;rw[HF.out,ko];rfl
   obtain⟨N,hN⟩:=exq (dF (bls B));rw[<-hN]at CC HF2;clear ak fw ko be vu hN;go_wp2_with fail
   refine CC.mono ?_;rintro e w1 ⟨rfl,aq⟩;by_cases ab7:524287<N
   ·have hNi:(524287:Int)<N:=by omega
    have HB:Hid (cH (bls B)=2):=by show _=_;rw[HF2.out,if_pos ab7]
    go_wp2_with fail
    go_ret;exact⟨by rw[HB.out];rfl,hg.tr aq⟩
   ·have hNi:¬(524287:Int)<N:=by omega
    have HB:Hid (cH (bls B)=0):=by show _=_;rw[HF2.out,if_neg ab7]
    go_wp2_with fail
    go_ret;exact⟨by rw[HB.out];rfl,hg.tr aq⟩
theorem pY0 (B:List ByteArray) (s:ByteArray):bls (B++[s])=bls B++[bl s]:=by simp[bls]
theorem fY1 (B C:List ByteArray):bls (B++C)=bls B++bls C:=by simp[bls]
theorem rX {B:List ByteArray} {k:Nat} {s:ByteArray} (h:B[k]?=some s):(bls B)[k]?=some (bl s):=by unfold bls; rw[Ak,h]; rfl
theorem eM1 {B:List ByteArray} {s:ByteArray} (h:B[B.length-1]?=some s):(bls B).getLastD []=bl s:=by
 have h2:=rX h;rw[List.getLastD_eq_getLast?,List.getLast?_eq_getElem?,cX,h2];rfl
theorem tH0 (B:List ByteArray) (a:Option Addr) (c n:Nat) (w:World) (hB:B.length<=20000) (hn:n<=256) (dm:∀s∈B,s.size<=256) (ah:aF w a 1 (B.map stC)) :
  Calls Tryz.prog 241 #[.slice a B.length c,.int .i64 n] w λe w'=>∃v N,e=.returned v/\aO w' w.heap.size 9 1 stC v N/\bls N=aL1 (bls B) n/\aB w w':=by
 have HAT:=Ab ah;have HSZ:=Ab dm;clear ah dm;go_enter Tryz.func241,Tryz.ntmps241
 go_wp2_with fail
 go_loopw [5,6] (λout i wr=>∃(k:Nat) (acc:List ByteArray),k<=B.length/\i=.int .i64 k/\acc.length<=k/\Hid (bls acc=((bls B).take k).foldl (dV n) [])/\aO wr w.heap.size 9 1 stC out acc/\aB w wr) (λ_ i _=>B.length-(intOf i).toNat)
 case atStart=>exact⟨0,[],Af _,rfl,Ag _,rfl,aO.nil _ _ _ _ _,aB.refl _⟩
 case round =>
  obtain⟨k,acc,hk,rfl,li,bk,ae,hg⟩:=hrel;by_cases af:k<B.length
  ·obtain⟨s,hx⟩:∃x,B[k]?=some x:=⟨_,Aa af⟩
   obtain⟨b,o,rfl,hc⟩:=at1 HAT.out (aH af);have lh:=hc k s hx;have hs:=HSZ.out s (Ac hx);have y1:∀x:Ext aB wr.drew,x.u.cell? ⟨b,o+k,none⟩=some (.string s):=aG (hg.dr.cell lh);have c1:wr.drew.cell? ⟨b,o+k,none⟩=some (.string s):=hg.dr.cell lh
   have HST:Hid (((bls B).take (k+1)).foldl (dV n) []=dV n (bls acc) (bl s)):=by
    show _=_
    rw[aY (rX hx),List.foldl_append,<-bk.out];rfl
   have di:(k:Int)<B.length:=by omega
   clear hc hx lh bk;by_cases x8:n<=s.size
   ·have ko:decide ((n:Int)<=s.size)=true:=by simpa using x8
    have hn0:(0:Int)<=n:=by omega
    have hni:(n:Int)<=s.size:=by omega
    have adz:=eN1 (s:=s) (n:=n);obtain⟨q,hq⟩:=exq (s.extract 0 n);rw[<-hq]at adz;have HCUT:=Ab adz
    have jb:∀W:World,(Instr.slice 9 (.string s) none (some (.int .i64 n)) none).run Tryz.prog W=.ok (.string q) W:=λW=>by
     rw[hq];exact run_slice_string_h W _ s Tryz.underlying9 .i64 n hn0 hni
    clear adz hq;by_cases he:acc.length=0
    ·have aie:=List.eq_nil_of_length_eq_zero he
     subst aie
     have HN:Hid (bls ([]++[q])=((bls B).take (k+1)).foldl (dV n) []):=by
      show _=_
      rw[HST.out,pY0];unfold dV;rw[if_pos ⟨by rw[cJ];exact x8,Or.inl rfl⟩,HCUT.out]
     obtain⟨ao,co,rfl,_,_,rj⟩:=ae.at_ (enc:=stC) (λ_=>rfl);have ax:=ae.grows (aB.drew wr);clear rj;go_wp2_with fail
     refine bH (aT 27 []) (by kernel_rfl) (λd _ _ _ _ h=>by cases d<;>exact h) ?_
     iterate 27 (refine aJ rfl (λK hK=>?_);go_simp;refine hK _ ?_;clear hK K)
     refine bN ?_;go_wp2_with (at_builtin;refine dQ bP0 rfl _ _ rfl w.heap.size _ [] q rfl ax (aB.refl _) _ 1 rfl #[.string q] rfl rfl (by simp) hg.dr.size ?_;intro v' w5 ai bg)
     go_roundw
     case rel=>exact⟨k+1,_,af,by go_num,by simp,HN.out,ai,bg w hg.dr (Ag _)⟩
     case measure=>simp[intOf];omega
    ·obtain⟨p,hp⟩:∃p,acc[acc.length-1]?=some p:=⟨_,Aa (by omega)⟩
     have HP:=Ab (eM1 hp);obtain⟨ao,co,rfl,_,_,rj⟩:=ae.at_ (enc:=stC) (λ_=>rfl);obtain⟨b2,o2,rfl,th⟩:=at1 rj (aH (k:=acc.length-1) (by omega));have y2:∀x:Ext aB wr.drew,x.u.cell? ⟨b2,o2+(acc.length-1),none⟩=some (.string p):=aG ((aB.drew wr).cell (th _ _ hp));have hb0:((acc.length:Int)==0)=false:=by rw[beq_eq_false_iff_ne];omega
     have y9:(acc.length:Int)-1=((acc.length-1:Nat):Int):=by omega
     have j7:((acc.length-1:Nat):Int)<acc.length:=by omega
     have o6:IntKind.i64.wrap ((acc.length-1:Nat):Int)=((acc.length-1:Nat):Int):=by simp[Ah,Ai,Ae];omega
     have ax:=ae.grows (aB.drew wr);have aw:¬bls acc=[]:=λh=>he (by have:=congrArg Al h;rw[cX]at this;simpa using this);have HNE:=Ab aw;clear rj th hp aw;by_cases mj:p=q
     ·have l2:(p.toList==q.toList)=true:=by rw[mj];simp
      have HN:Hid (bls acc=((bls B).take (k+1)).foldl (dV n) []):=by
       show _=_
       rw[HST.out];unfold dV;rw[if_neg (λh=>h.2.elim HNE.out (λh2=>h2 (by rw[HP.out,mj,HCUT.out])))]
      clear mj;go_wp2_with fail
      refine bH (aT 27 []) (by kernel_rfl) (λd _ _ _ _ h=>by cases d<;>exact h) ?_
      iterate 27 (refine aJ rfl (λK hK=>?_);go_simp;refine hK _ ?_;clear hK K)
      refine bN ?_;go_wp2_with fail
      go_roundw
      case rel=>exact⟨k+1,_,af,by go_num,by omega,HN.out,ax,hg.dr⟩
      case measure=>simp[intOf];omega
     ·have l2:(p.toList==q.toList)=false:=by
       rw[beq_eq_false_iff_ne];exact λh=>mj (dR h)
      have HN:Hid (bls (acc++[q])=((bls B).take (k+1)).foldl (dV n) []):=by
       show _=_
       rw[HST.out,pY0];unfold dV;rw[if_pos ⟨by rw[cJ];exact x8,Or.inr (λh=>mj (bD0 (by rw[<-HP.out,h,HCUT.out])))⟩,HCUT.out]
      clear mj;go_wp2_with fail
      refine bH (aT 27 []) (by kernel_rfl) (λd _ _ _ _ h=>by cases d<;>exact h) ?_
      iterate 27 (refine aJ rfl (λK hK=>?_);go_simp;refine hK _ ?_;clear hK K)
      refine bN ?_;go_wp2_with (at_builtin;refine dQ bP0 rfl _ _ rfl w.heap.size _ acc q rfl ax (aB.refl _) _ 1 rfl #[.string q] rfl rfl (by omega) hg.dr.size ?_;intro v' w5 ai bg)
      go_roundw
      case rel=>exact⟨k+1,_,af,by go_num,by simp;omega,HN.out,ai,bg w hg.dr (Ag _)⟩
      case measure=>simp[intOf];omega
   ·have ko:decide ((n:Int)<=s.size)=false:=by simp;omega
    have hnp:¬n<=s.size:=x8
    have HN:Hid (bls acc=((bls B).take (k+1)).foldl (dV n) []):=by
     show _=_
     rw[HST.out];unfold dV;rw[if_neg (λh=>x8 (by have:=h.1;rwa [cJ]at this))]
    have ax:=ae.grows (aB.drew wr);go_wp2_with fail
    refine bH (aT 27 []) (by kernel_rfl) (λd _ _ _ _ h=>by cases d<;>exact h) ?_
    iterate 27 (refine aJ rfl (λK hK=>?_);go_simp;refine hK _ ?_;clear hK K)
    refine bN ?_;go_wp2_with fail
    go_roundw
    case rel=>exact⟨k+1,_,af,by go_num,by omega,HN.out,ax,hg.dr⟩
    case measure=>simp[intOf];omega
  ·have di:¬(k:Int)<B.length:=by omega
   have HF:Hid (bls acc=aL1 (bls B) n):=by
    show _=_
    rw[bk.out,Aj (by rw[cX];omega)];rfl
   clear bk;go_wp2_with fail
   go_ret;exact⟨_,rfl,acc,ae,HF.out,hg⟩
theorem rI0 (B:List ByteArray) (a:Option Addr) (c:Nat) (w:World) (hB:B.length<=20000) (dm:∀s∈B,s.size<=256) (ah:aF w a 1 (B.map stC)) :
  Calls Tryz.prog 181 #[.slice a B.length c] w λe w'=>∃v N,e=.returned v/\aO w' w.heap.size 9 1 stC v N/\bls N=nR0 (bls B)/\aB w w':=by
 have HAT:=Ab ah;have HSZ:=Ab dm;clear ah dm;go_enter Tryz.func181,Tryz.ntmps181
 go_wp2_with fail
 have dx:=fY (enc:=stC) (e:=9) (w:=w) (base:=w.heap.size) (λ_=>rfl) (Ag _) [(⟨#[]⟩:ByteArray)] (cs:=#[.string ⟨#[]⟩]) rfl (n:=1) rfl (by decide);go_loopw [3,4] (λout i wr=>∃(k:Nat) (acc:List ByteArray),k<=256/\i=.int .i64 ((k:Int)+1)/\Hid (bls acc=pS (bls B) k)/\aO wr w.heap.size 9 1 stC out acc/\aB w wr) (λ_ i _=>257-(intOf i).toNat)
 case atStart=>exact⟨0,[(⟨#[]⟩:ByteArray)],by omega,rfl,rfl,dx,aB.alloc _ _⟩
 case round =>
  obtain⟨k,acc,hk,rfl,bk,ae,hg⟩:=hrel
  have li:acc.length<=1+k*20000:=by
   have h1:=rF (bls B) k;rw[<-bk.out,cX,cX]at h1
   have:=Nat.mul_le_mul_left k hB
   omega
  by_cases af:k<256
  ·have di:(k:Int)+1<=256:=by omega
   have CL:=tH0 B a c (k+1) wr hB (by omega) HSZ.out (HAT.out.grows hg);have gp:((k+1:Nat):Int)=(k:Int)+1:=by omega
   rw[gp]at CL;go_wp2_with fail
   refine CL.mono ?_;rintro e w1 ⟨v1,N,rfl,ax,hN,aq⟩
   have hNl:N.length<=20000:=by
    have h1:=congrArg Al hN;rw[cX]at h1
    have:=pH0 (bls B) (k+1)
    rw[cX]at this;omega
   have HN:Hid (bls (acc++N)=pS (bls B) (k+1)):=by show _=_;rw[fY1,wX,bk.out,hN]
   obtain⟨a1,c1,rfl,_,_,dw⟩:=ax.at_ (enc:=stC) (λ_=>rfl);have j6:=bC ax;have ix:=ae.grows aq;have ep:=hg.tr aq;clear hN CL ae ax aq bk;go_wp2_with (at_builtin;refine dE bP0 rfl _ _ rfl w.heap.size _ acc N rfl ix (aB.refl _) a1 c1 rfl dw j6 (by omega) ep.size ?_;intro v2 w2 aj an)
   go_roundw
   case rel=>exact⟨k+1,_,af,by go_num,HN.out,aj,an w ep (Ag _)⟩
   case measure=>simp[intOf];omega
  ·have di:¬(k:Int)+1<=256:=by omega
   have HF:Hid (bls acc=nR0 (bls B)):=by show _=_;rw[bk.out,show k=256 by omega];rfl
   clear bk;go_wp2_with fail
   go_ret;exact⟨_,rfl,acc,ae,HF.out,hg⟩
theorem nM (B:List ByteArray) (s:ByteArray) (a:Option Addr) (c:Nat) (w:World) (hB:B.length<=1099511627776) (ah:aF w a 1 (B.map stC)) :
  Calls Tryz.prog 182 #[.slice a B.length c,.string s] w λe w'=>((e=.returned (.int .i64 (-1))/\s∉B)\/∃k:Nat,e=.returned (.int .i64 k)/\B[k]?=some s)/\w=w':=by
 have HAT:=Ab ah;clear ah;go_enter Tryz.func182,Tryz.ntmps182
 go_wp2_with fail
 go_loop [5] (λi=>∃k:Nat,k<=B.length/\i=.int .i64 k/\Hid (s∉B.take k)) (λi=>B.length-(intOf i).toNat)
 case atStart=>exact⟨0,Af _,rfl,(by show ¬_;simp)⟩
 case round =>
  obtain⟨k,hk,rfl,gj⟩:=hrel;by_cases af:k<B.length
  ·obtain⟨t,hx⟩:∃x,B[k]?=some x:=⟨_,Aa af⟩
   obtain⟨b,o,rfl,hc⟩:=at1 HAT.out (aH af);have lh:=hc k t hx;have HX:=Ab hx;by_cases he:t=s
   ·have hb:(t.toList==s.toList)=true:=by rw[he];simp
    have HE:=Ab he;clear hc hx he;go_wp2
    go_ret;exact⟨Or.inr ⟨k,rfl,by rw[HX.out,HE.out]⟩,rfl⟩
   ·have hb:(t.toList==s.toList)=false:=by rw[beq_eq_false_iff_ne];exact λh=>he (dR h)
    have HN:Hid (s∉B.take (k+1)):=by
     show ¬_
     rw[aY hx,List.mem_append,not_or];exact⟨gj.out,by simpa using Ne.symm he⟩
    clear hc hx he;go_wp2
    go_round
    case rel=>exact⟨k+1,af,by go_num,HN.out⟩
    case measure=>simp[intOf];omega
  ·have di:¬(k:Int)<B.length:=by omega
   have HF:Hid (s∉B):=by
    have h:=gj.out;rw[Aj (by omega)]at h;exact h
   clear gj;go_wp2
   go_ret;exact⟨Or.inl ⟨rfl,HF.out⟩,rfl⟩
end
end Go.Proofs.YtiopheoljccmpaaGreatDoor
