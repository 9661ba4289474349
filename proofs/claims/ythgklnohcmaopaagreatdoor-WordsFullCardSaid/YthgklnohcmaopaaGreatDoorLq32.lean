/- The texts BvP, one behind the other. -/
import Derived.Test.YthgklnohcmaopaaGreatDoorLq23
import Derived.Test.YthgklnohcmaopaaGreatDoorLq25
import Derived.Test.YthgklnohcmaopaaGreatDoorLq20
open List renaming length_append → Aa,append_assoc → Ab
open UInt8 renaming ofNat → Ac
open Go.Lib renaming hid → Ad
open Nat renaming zero_le → Ae,le_refl → Af
set_option maxHeartbeats 4000000
namespace Go.Proofs.YthgklnohcmaopaaGreatDoor
set_option maxRecDepth 100000
open Go Go.RowKit
attribute [local go_sem] aO aM
theorem qN1 (x k:Nat):x>>>(8*k)=x/256^k:=by
 rw[Nat.shiftRight_eq_div_pow,Nat.pow_mul]
theorem EB.both {a w w':World} (h1:aB a w) (h2:aB a w') (hs:w.heap.size<=w'.heap.size):EB a.heap.size w w' :=
 ⟨⟨(Below.os h2).trans (Below.os h1).symm,(Below.tape h2).trans (Below.tape h1).symm,(Below.output h2).trans (Below.output h1).symm,hs,λk hk=>(Below.block h2 k hk).trans (Below.block h1 k hk).symm⟩,hs⟩
def lG (size:Nat) (l:List Nat):List UInt8:=(l.map (leB size)).flatten
theorem dJ0 (size:Nat) (l:List Nat) (x:Nat):lG size (l++[x])=lG size l++leB size x:=by simp[lG]
theorem tE (size:Nat) (l:List Nat):(lG size l).length=size*l.length:=pD size l
theorem fO0 (v0:Value) (pre:List UInt8) (size:Nat) (l:List Nat) (a:Option Addr) (c:Nat) (w0 w:World) (dh:aB w0 w) (hs:size<=8) (hp:pre.length<=1099511627776) (hl:l.length<=1099511627776) (hn:∀n∈l,n<18446744073709551616)
  (ig:aX w w0.heap.size 5 1 aY v0 pre) (ac:aG w a 1 (l.map kI)) (hd:∀q:Addr,a=some q->some q.block≠v0.ownBlock) (ae:∀q:Addr,a=some q->q.block<w.heap.size) :
  Calls Tryz.prog 195 #[v0,.int .i64 size,.slice a l.length c] w λe w'=>∃v,e=.returned v/\aX w' w0.heap.size 5 1 aY v (pre++lG size l)/\aB w0 w'/\w.heap.size<=w'.heap.size:=by
 have HN:=Ad hn;have HLT:=Ad ae;have HD:=Ad hd;have HAT:=Ad ac;clear hn ac hd ae;go_enter Tryz.func195,Tryz.ntmps195
 go_wp2_with fail
 go_loopw [0,12] (λout i wr=>∃(k:Nat) (bk:List UInt8),k<=l.length/\i=.int .i64 k/\Hid (bk=pre++lG size (l.take k))/\Hid (aG wr a 1 (l.map kI))/\Hid (∀q:Addr,a=some q->some q.block≠out.ownBlock)/\w.heap.size<=wr.heap.size/\aX wr w0.heap.size 5 1 aY out bk/\aB w0 wr) (λ_ i _=>l.length-(intOf i).toNat)
 case atStart=>exact⟨0,pre,Ae _,rfl,(by show _=_;simp[lG]),HAT.out,HD.out,Af _,ig,dh⟩
 case round =>
  obtain⟨k,bk,hk,rfl,b9,yo,hdr,rs,aa,hg⟩:=hrel;by_cases ae:k<l.length
  ·obtain⟨x,hx⟩:∃x,l[k]?=some x:=⟨_,List.getElem?_eq_getElem ae⟩
   obtain⟨b,o,rfl,hc⟩:=at1 yo.out (aK ae);have gn:=hc k x hx;have ji:=HN.out x (List.mem_of_getElem? hx);have HS:Hid (bk++leB size x=pre++lG size (l.take (k+1))):=by show _=_;rw[bM hx,dJ0,b9.out,Ab]
   have pm:bk.length<=1099511627776+8*1099511627776:=by
    rw[b9.out,Aa,tE,List.length_take]
    have:size*min k l.length<=8*1099511627776:=Nat.mul_le_mul hs (by omega)
    omega
   have gm:=HLT.out _ rfl;simp only at gm;have cn:(k:Int)<l.length:=by omega
   clear hc hx b9;go_wp2_with fail
   obtain⟨u0,rfl⟩:=exq wr;go_loopw [0,9] (λout t wr=>∃(j:Nat) (ei:List UInt8),j<=size/\t=.int .i64 j/\Hid (ei=bk++leB j x)/\Hid (aG wr (some ⟨b,o,none⟩) 1 (l.map kI))/\Hid (∀q:Addr,some ⟨b,o,none⟩=some q->some q.block≠out.ownBlock)/\w.heap.size<=wr.heap.size/\aX wr w0.heap.size 5 1 aY out ei/\aB w0 wr) (λ_ t _=>size-(intOf t).toNat)
   case atStart=>exact⟨0,bk,Ae _,rfl,(by show _=_;simp[leB]),yo.out,hdr.out,rs,aa,hg⟩
   case round =>
    obtain⟨j,ei,hj,rfl,ga,yo,hdr,rs,aa,hg⟩:=hrel;have ahq:ei.length<=10000000000000+j:=by rw[ga.out,Aa,bN];omega
    by_cases hjs:j<size
    ·have gi:(j:Int)<size:=by omega
     obtain⟨R,hR⟩:=exq (8*j);have eR:(8:Int)*j=R:=by omega
     have HN2:Hid (ei++[Ac (x>>>R)]=bk++leB (j+1) x):=by
      show _=_
      rw[fM1,hR,qN1,ga.out,Ab]
     have HB:Hid ([Value.int .u8 ((x:Int)/2^R%256)]=aY (Ac (x>>>R))):=by
      show _=_
      rw[zC];exact iP0 _
     have hRb:R<=56:=by omega
     have ajo:b<wr.heap.size:=by omega
     clear hR ga;go_wp2_with (at_builtin;refine fG bJ rfl _ _ rfl w0.heap.size _ ei (Ac (x>>>R)) rfl aa (aB.refl _) _ 1 rfl _ (by exact HB.out) rfl (by omega) hg.size ?_;intro v' w5 ar qv hf5 bv)
     have hd5:∀q:Addr,some ⟨b,o,none⟩=some q->some q.block≠v'.ownBlock:=λq hq hv=>by
      rcases hf5 with hf|⟨r,hr,gv⟩
      ·exact hdr.out q hq (hv.trans hf)
      ·rw[hr]at hv
       have h1:=Option.some.inj hv;have h2:=Option.some.inj hq;subst h2;simp only at h1;omega
     go_roundw
     case rel=>exact⟨j+1,_,hjs,by go_num,HN2.out,fP0 yo.out qv hdr.out,hd5,Nat.le_trans rs qv.size,ar,bv w0 hg (Af _)⟩
     case measure=>simp[intOf];omega
    ·have gi:¬(j:Int)<size:=by omega
     have HF:Hid (ei=pre++lG size (l.take (k+1))):=by show _=_;rw[ga.out,<-HS.out,show j=size by omega]
     clear ga;go_wp2_with fail
     go_roundw
     case rel=>exact⟨k+1,_,ae,by go_num,HF.out,yo.out,hdr.out,rs,aa,hg⟩
     case measure=>simp[intOf];omega
  ·have cn:¬(k:Int)<l.length:=by omega
   have HF:Hid (bk=pre++lG size l):=by show _=_;rw[b9.out,List.take_of_length_le (by omega)]
   clear b9;go_wp2_with fail
   go_ret;exact⟨_,rfl,by rw[<-HF.out];exact aa,hg,rs⟩
end Go.Proofs.YthgklnohcmaopaaGreatDoor
