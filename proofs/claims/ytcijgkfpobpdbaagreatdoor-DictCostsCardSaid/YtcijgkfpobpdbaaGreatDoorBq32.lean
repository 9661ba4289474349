/- The texts BvP, one behind the other. -/
import Derived.Test.YtcijgkfpobpdbaaGreatDoorBq24
import Derived.Test.YtcijgkfpobpdbaaGreatDoorBq27
import Derived.Test.YtcijgkfpobpdbaaGreatDoorBq21
open List renaming length_append → Aa,append_assoc → Ab
open UInt8 renaming ofNat → Ac
open Go.Lib renaming hid → Ad
open Nat renaming zero_le → Ae,le_refl → Af
set_option maxHeartbeats 4000000
namespace Go.Proofs.YtcijgkfpobpdbaaGreatDoor
set_option maxRecDepth 100000
open Go Go.RowKit
attribute [local go_sem] aQ aM
theorem nG1 (x k:Nat):x>>>(8*k)=x/256^k:=by
 rw[Nat.shiftRight_eq_div_pow,Nat.pow_mul]
theorem EB.both {a w w':World} (h1:Grows a w) (h2:Grows a w') (hs:w.heap.size<=w'.heap.size):EB a.heap.size w w' :=
 ⟨⟨(Below.os h2).trans (Below.os h1).symm,(Below.tape h2).trans (Below.tape h1).symm,(Below.output h2).trans (Below.output h1).symm,hs,λk hk=>(Below.block h2 k hk).trans (Below.block h1 k hk).symm⟩,hs⟩
def kZ (size:Nat) (l:List Nat):List UInt8:=(l.map (leB size)).flatten
theorem dP0 (size:Nat) (l:List Nat) (x:Nat):kZ size (l++[x])=kZ size l++leB size x:=by simp[kZ]
theorem tQ (size:Nat) (l:List Nat):(kZ size l).length=size*l.length:=mE size l
theorem iE0 (v0:Value) (pre:List UInt8) (size:Nat) (l:List Nat) (a:Option Addr) (c:Nat) (w0 w:World) (cd:Grows w0 w) (hs:size<=8) (hp:pre.length<=1099511627776) (hl:l.length<=1099511627776) (hn:∀n∈l,n<18446744073709551616)
  (jz:aU w w0.heap.size 5 1 aX v0 pre) (ac:aF w a 1 (l.map kO)) (hd:∀q:Addr,a=some q->some q.block≠v0.ownBlock) (ae:∀q:Addr,a=some q->q.block<w.heap.size) :
  Calls Tryz.prog 223 #[v0,.int .i64 size,.slice a l.length c] w λe w'=>∃v,e=.returned v/\aU w' w0.heap.size 5 1 aX v (pre++kZ size l)/\Grows w0 w'/\w.heap.size<=w'.heap.size:=by
 have HN:=Ad hn;have HLT:=Ad ae;have HD:=Ad hd;have HAT:=Ad ac;clear hn ac hd ae;go_enter Tryz.func223,Tryz.ntmps223
 go_wp2_with fail
 go_loopw [0,12] (λout i wr=>∃(k:Nat) (bv:List UInt8),k<=l.length/\i=.int .i64 k/\Hid (bv=pre++kZ size (l.take k))/\Hid (aF wr a 1 (l.map kO))/\Hid (∀q:Addr,a=some q->some q.block≠out.ownBlock)/\w.heap.size<=wr.heap.size/\aU wr w0.heap.size 5 1 aX out bv/\Grows w0 wr) (λ_ i _=>l.length-(intOf i).toNat)
 case atStart=>exact⟨0,pre,Ae _,rfl,(by show _=_;simp[kZ]),HAT.out,HD.out,Af _,jz,cd⟩
 case round =>
  obtain⟨k,bv,hk,rfl,cm,xw,hdr,qy,aa,hg⟩:=hrel;by_cases ae:k<l.length
  ·obtain⟨x,hx⟩:∃x,l[k]?=some x:=⟨_,List.getElem?_eq_getElem ae⟩
   obtain⟨b,o,rfl,hc⟩:=at1 xw.out (aH ae);have jb:=hc k x hx;have j9:=HN.out x (List.mem_of_getElem? hx);have HS:Hid (bv++leB size x=pre++kZ size (l.take (k+1))):=by show _=_;rw[bI hx,dP0,cm.out,Ab]
   have ni:bv.length<=1099511627776+8*1099511627776:=by
    rw[cm.out,Aa,tQ,List.length_take]
    have:size*min k l.length<=8*1099511627776:=Nat.mul_le_mul hs (by omega)
    omega
   have gk:=HLT.out _ rfl;simp only at gk;have dg:(k:Int)<l.length:=by omega
   clear hc hx cm;go_wp2_with fail
   obtain⟨u0,rfl⟩:=exq wr;go_loopw [0,9] (λout t wr=>∃(j:Nat) (fe:List UInt8),j<=size/\t=.int .i64 j/\Hid (fe=bv++leB j x)/\Hid (aF wr (some ⟨b,o,none⟩) 1 (l.map kO))/\Hid (∀q:Addr,some ⟨b,o,none⟩=some q->some q.block≠out.ownBlock)/\w.heap.size<=wr.heap.size/\aU wr w0.heap.size 5 1 aX out fe/\Grows w0 wr) (λ_ t _=>size-(intOf t).toNat)
   case atStart=>exact⟨0,bv,Ae _,rfl,(by show _=_;simp[leB]),xw.out,hdr.out,qy,aa,hg⟩
   case round =>
    obtain⟨j,fe,hj,rfl,ic,xw,hdr,qy,aa,hg⟩:=hrel;have ahj:fe.length<=10000000000000+j:=by rw[ic.out,Aa,bM];omega
    by_cases hjs:j<size
    ·have gu:(j:Int)<size:=by omega
     obtain⟨R,hR⟩:=exq (8*j);have eR:(8:Int)*j=R:=by omega
     have HN2:Hid (fe++[Ac (x>>>R)]=bv++leB (j+1) x):=by
      show _=_
      rw[dI1,hR,nG1,ic.out,Ab]
     have HB:Hid ([Value.int .u8 ((x:Int)/2^R%256)]=aX (Ac (x>>>R))):=by
      show _=_
      rw[aZ0];exact jS0 _
     have hRb:R<=56:=by omega
     have aja:b<wr.heap.size:=by omega
     clear hR ic;go_wp2_with (at_builtin;refine cK bK rfl _ _ rfl w0.heap.size _ fe (Ac (x>>>R)) rfl aa (Grows.refl _) _ 1 rfl _ (by exact HB.out) rfl (by omega) hg.size ?_;intro v' w5 an qk hf5 bg)
     have hd5:∀q:Addr,some ⟨b,o,none⟩=some q->some q.block≠v'.ownBlock:=λq hq hv=>by
      rcases hf5 with hf|⟨r,hr,fo⟩
      ·exact hdr.out q hq (hv.trans hf)
      ·rw[hr]at hv
       have h1:=Option.some.inj hv;have h2:=Option.some.inj hq;subst h2;simp only at h1;omega
     go_roundw
     case rel=>exact⟨j+1,_,hjs,by go_num,HN2.out,oF xw.out qk hdr.out,hd5,Nat.le_trans qy qk.size,an,bg w0 hg (Af _)⟩
     case measure=>simp[intOf];omega
    ·have gu:¬(j:Int)<size:=by omega
     have HF:Hid (fe=pre++kZ size (l.take (k+1))):=by show _=_;rw[ic.out,<-HS.out,show j=size by omega]
     clear ic;go_wp2_with fail
     go_roundw
     case rel=>exact⟨k+1,_,ae,by go_num,HF.out,xw.out,hdr.out,qy,aa,hg⟩
     case measure=>simp[intOf];omega
  ·have dg:¬(k:Int)<l.length:=by omega
   have HF:Hid (bv=pre++kZ size l):=by show _=_;rw[cm.out,List.take_of_length_le (by omega)]
   clear cm;go_wp2_with fail
   go_ret;exact⟨_,rfl,by rw[<-HF.out];exact aa,hg,qy⟩
end Go.Proofs.YtcijgkfpobpdbaaGreatDoor
