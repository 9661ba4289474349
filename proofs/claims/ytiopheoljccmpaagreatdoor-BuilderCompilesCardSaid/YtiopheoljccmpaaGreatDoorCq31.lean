/- The texts BvP, one behind the other. -/
import Derived.Test.YtiopheoljccmpaaGreatDoorCq23
import Derived.Test.YtiopheoljccmpaaGreatDoorCq27
import Derived.Test.YtiopheoljccmpaaGreatDoorCq20
open List renaming length_append → Aa,append_assoc → Ab
open UInt8 renaming ofNat → Ac
open Go.Lib renaming hid → Ad
open Nat renaming zero_le → Ae,le_refl → Af
set_option maxHeartbeats 4000000
namespace Go.Proofs.YtiopheoljccmpaaGreatDoor
set_option maxRecDepth 100000
open Go Go.RowKit
attribute [local go_sem] aM aP
theorem kG1 (x k:Nat):x>>>(8*k)=x/256^k:=by
 rw[Nat.shiftRight_eq_div_pow,Nat.pow_mul]
theorem EB.both {a w w':World} (h1:aB a w) (h2:aB a w') (hs:w.heap.size<=w'.heap.size):EB a.heap.size w w' :=
 ⟨⟨(Below.os h2).trans (Below.os h1).symm,(Below.tape h2).trans (Below.tape h1).symm,(Below.output h2).trans (Below.output h1).symm,hs,λk hk=>(Below.block h2 k hk).trans (Below.block h1 k hk).symm⟩,hs⟩
def kR (size:Nat) (l:List Nat):List UInt8:=(l.map (leB size)).flatten
theorem cU0 (size:Nat) (l:List Nat) (x:Nat):kR size (l++[x])=kR size l++leB size x:=by simp[kR]
theorem tE (size:Nat) (l:List Nat):(kR size l).length=size*l.length:=jF size l
theorem eE0 (v0:Value) (pre:List UInt8) (size:Nat) (l:List Nat) (a:Option Addr) (c:Nat) (w0 w:World) (ij:aB w0 w) (hs:size<=8) (hp:pre.length<=1099511627776) (hl:l.length<=1099511627776) (hn:∀n∈l,n<18446744073709551616)
  (dx:aO w w0.heap.size 5 1 aQ v0 pre) (ah:aF w a 1 (l.map jR)) (hd:∀q:Addr,a=some q->some q.block≠v0.ownBlock) (af:∀q:Addr,a=some q->q.block<w.heap.size) :
  Calls Tryz.prog 169 #[v0,.int .i64 size,.slice a l.length c] w λe w'=>∃v,e=.returned v/\aO w' w0.heap.size 5 1 aQ v (pre++kR size l)/\aB w0 w'/\w.heap.size<=w'.heap.size:=by
 have HN:=Ad hn;have HLT:=Ad af;have HD:=Ad hd;have HAT:=Ad ah;clear hn ah hd af;go_enter Tryz.func169,Tryz.ntmps169
 go_wp2_with fail
 go_loopw [0,12] (λout i wr=>∃(k:Nat) (acc:List UInt8),k<=l.length/\i=.int .i64 k/\Hid (acc=pre++kR size (l.take k))/\Hid (aF wr a 1 (l.map jR))/\Hid (∀q:Addr,a=some q->some q.block≠out.ownBlock)/\w.heap.size<=wr.heap.size/\aO wr w0.heap.size 5 1 aQ out acc/\aB w0 wr) (λ_ i _=>l.length-(intOf i).toNat)
 case atStart=>exact⟨0,pre,Ae _,rfl,(by show _=_;simp[kR]),HAT.out,HD.out,Af _,dx,ij⟩
 case round =>
  obtain⟨k,acc,hk,rfl,bk,uq,hdr,uu,ae,hg⟩:=hrel;by_cases af:k<l.length
  ·obtain⟨x,hx⟩:∃x,l[k]?=some x:=⟨_,List.getElem?_eq_getElem af⟩
   obtain⟨b,o,rfl,hc⟩:=at1 uq.out (aH af);have jy:=hc k x hx;have l6:=HN.out x (List.mem_of_getElem? hx);have HS:Hid (acc++leB size x=pre++kR size (l.take (k+1))):=by show _=_;rw[aY hx,cU0,bk.out,Ab]
   have li:acc.length<=1099511627776+8*1099511627776:=by
    rw[bk.out,Aa,tE,List.length_take]
    have:size*min k l.length<=8*1099511627776:=Nat.mul_le_mul hs (by omega)
    omega
   have ed:=HLT.out _ rfl;simp only at ed;have di:(k:Int)<l.length:=by omega
   clear hc hx bk;go_wp2_with fail
   obtain⟨u0,rfl⟩:=exq wr;go_loopw [0,9] (λout t wr=>∃(j:Nat) (cq:List UInt8),j<=size/\t=.int .i64 j/\Hid (cq=acc++leB j x)/\Hid (aF wr (some ⟨b,o,none⟩) 1 (l.map jR))/\Hid (∀q:Addr,some ⟨b,o,none⟩=some q->some q.block≠out.ownBlock)/\w.heap.size<=wr.heap.size/\aO wr w0.heap.size 5 1 aQ out cq/\aB w0 wr) (λ_ t _=>size-(intOf t).toNat)
   case atStart=>exact⟨0,acc,Ae _,rfl,(by show _=_;simp[leB]),uq.out,hdr.out,uu,ae,hg⟩
   case round =>
    obtain⟨j,cq,hj,rfl,dy,uq,hdr,uu,ae,hg⟩:=hrel;have afw:cq.length<=10000000000000+j:=by rw[dy.out,Aa,cE];omega
    by_cases hjs:j<size
    ·have i6:(j:Int)<size:=by omega
     obtain⟨R,hR⟩:=exq (8*j);have eR:(8:Int)*j=R:=by omega
     have HN2:Hid (cq++[Ac (x>>>R)]=acc++leB (j+1) x):=by
      show _=_
      rw[cF1,hR,kG1,dy.out,Ab]
     have HB:Hid ([Value.int .u8 ((x:Int)/2^R%256)]=aQ (Ac (x>>>R))):=by
      show _=_
      rw[uU];exact zR _
     have hRb:R<=56:=by omega
     have aki:b<wr.heap.size:=by omega
     clear hR dy;go_wp2_with (at_builtin;refine aV aR rfl _ _ rfl w0.heap.size _ cq (Ac (x>>>R)) rfl ae (aB.refl _) _ 1 rfl _ (by exact HB.out) rfl (by omega) hg.size ?_;intro v' w5 ai m7 m8 bg)
     have hd5:∀q:Addr,some ⟨b,o,none⟩=some q->some q.block≠v'.ownBlock:=λq hq hv=>by
      rcases m8 with hf|⟨r,hr,o4⟩
      ·exact hdr.out q hq (hv.trans hf)
      ·rw[hr]at hv
       have h1:=Option.some.inj hv;have h2:=Option.some.inj hq;subst h2;simp only at h1;omega
     go_roundw
     case rel=>exact⟨j+1,_,hjs,by go_num,HN2.out,pK uq.out m7 hdr.out,hd5,Nat.le_trans uu m7.size,ai,bg w0 hg (Af _)⟩
     case measure=>simp[intOf];omega
    ·have i6:¬(j:Int)<size:=by omega
     have HF:Hid (cq=pre++kR size (l.take (k+1))):=by show _=_;rw[dy.out,<-HS.out,show j=size by omega]
     clear dy;go_wp2_with fail
     go_roundw
     case rel=>exact⟨k+1,_,af,by go_num,HF.out,uq.out,hdr.out,uu,ae,hg⟩
     case measure=>simp[intOf];omega
  ·have di:¬(k:Int)<l.length:=by omega
   have HF:Hid (acc=pre++kR size l):=by show _=_;rw[bk.out,List.take_of_length_le (by omega)]
   clear bk;go_wp2_with fail
   go_ret;exact⟨_,rfl,by rw[<-HF.out];exact ae,hg,uu⟩
end Go.Proofs.YtiopheoljccmpaaGreatDoor
