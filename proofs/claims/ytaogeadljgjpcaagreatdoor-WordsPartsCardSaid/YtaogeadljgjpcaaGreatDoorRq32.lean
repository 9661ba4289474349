/- The texts BvP, one behind the other. -/
import Derived.Test.YtaogeadljgjpcaaGreatDoorRq23
import Derived.Test.YtaogeadljgjpcaaGreatDoorRq25
import Derived.Test.YtaogeadljgjpcaaGreatDoorRq20
open List renaming length_append → Aa,append_assoc → Ab
open UInt8 renaming ofNat → Ac
open Go.Lib renaming hid → Ad
open Nat renaming zero_le → Ae,le_refl → Af
set_option maxHeartbeats 4000000
namespace Go.Proofs.YtaogeadljgjpcaaGreatDoor
set_option maxRecDepth 100000
open Go Go.RowKit
attribute [local go_sem] aQ aM
theorem pO1 (x k:Nat):x>>>(8*k)=x/256^k:=by
 rw[Nat.shiftRight_eq_div_pow,Nat.pow_mul]
theorem EB.both {a w w':World} (h1:aB a w) (h2:aB a w') (hs:w.heap.size<=w'.heap.size):EB a.heap.size w w' :=
 ⟨⟨(Below.os h2).trans (Below.os h1).symm,(Below.tape h2).trans (Below.tape h1).symm,(Below.output h2).trans (Below.output h1).symm,hs,λk hk=>(Below.block h2 k hk).trans (Below.block h1 k hk).symm⟩,hs⟩
def kW (size:Nat) (l:List Nat):List UInt8:=(l.map (leB size)).flatten
theorem dA0 (size:Nat) (l:List Nat) (x:Nat):kW size (l++[x])=kW size l++leB size x:=by simp[kW]
theorem tF (size:Nat) (l:List Nat):(kW size l).length=size*l.length:=pR size l
theorem fW0 (v0:Value) (pre:List UInt8) (size:Nat) (l:List Nat) (a:Option Addr) (c:Nat) (w0 w:World) (dg:aB w0 w) (hs:size<=8) (hp:pre.length<=1099511627776) (hl:l.length<=1099511627776) (hn:∀n∈l,n<18446744073709551616)
  (ig:aV w w0.heap.size 5 1 aZ v0 pre) (ac:aG w a 1 (l.map kG)) (hd:∀q:Addr,a=some q->some q.block≠v0.ownBlock) (ae:∀q:Addr,a=some q->q.block<w.heap.size) :
  Calls Tryz.prog 232 #[v0,.int .i64 size,.slice a l.length c] w λe w'=>∃v,e=.returned v/\aV w' w0.heap.size 5 1 aZ v (pre++kW size l)/\aB w0 w'/\w.heap.size<=w'.heap.size:=by
 have HN:=Ad hn;have HLT:=Ad ae;have HD:=Ad hd;have HAT:=Ad ac;clear hn ac hd ae;go_enter Tryz.func232,Tryz.ntmps232
 go_wp2_with fail
 go_loopw [0,12] (λout i wr=>∃(k:Nat) (bz:List UInt8),k<=l.length/\i=.int .i64 k/\Hid (bz=pre++kW size (l.take k))/\Hid (aG wr a 1 (l.map kG))/\Hid (∀q:Addr,a=some q->some q.block≠out.ownBlock)/\w.heap.size<=wr.heap.size/\aV wr w0.heap.size 5 1 aZ out bz/\aB w0 wr) (λ_ i _=>l.length-(intOf i).toNat)
 case atStart=>exact⟨0,pre,Ae _,rfl,(by show _=_;simp[kW]),HAT.out,HD.out,Af _,ig,dg⟩
 case round =>
  obtain⟨k,bz,hk,rfl,cd,vs,hdr,qd,aa,hg⟩:=hrel;by_cases ae:k<l.length
  ·obtain⟨x,hx⟩:∃x,l[k]?=some x:=⟨_,List.getElem?_eq_getElem ae⟩
   obtain⟨b,o,rfl,hc⟩:=at1 vs.out (aK ae);have gq:=hc k x hx;have jl:=HN.out x (List.mem_of_getElem? hx);have HS:Hid (bz++leB size x=pre++kW size (l.take (k+1))):=by show _=_;rw[bM hx,dA0,cd.out,Ab]
   have og:bz.length<=1099511627776+8*1099511627776:=by
    rw[cd.out,Aa,tF,List.length_take]
    have:size*min k l.length<=8*1099511627776:=Nat.mul_le_mul hs (by omega)
    omega
   have gn:=HLT.out _ rfl;simp only at gn;have cn:(k:Int)<l.length:=by omega
   clear hc hx cd;go_wp2_with fail
   obtain⟨u0,rfl⟩:=exq wr;go_loopw [0,9] (λout t wr=>∃(j:Nat) (ep:List UInt8),j<=size/\t=.int .i64 j/\Hid (ep=bz++leB j x)/\Hid (aG wr (some ⟨b,o,none⟩) 1 (l.map kG))/\Hid (∀q:Addr,some ⟨b,o,none⟩=some q->some q.block≠out.ownBlock)/\w.heap.size<=wr.heap.size/\aV wr w0.heap.size 5 1 aZ out ep/\aB w0 wr) (λ_ t _=>size-(intOf t).toNat)
   case atStart=>exact⟨0,bz,Ae _,rfl,(by show _=_;simp[leB]),vs.out,hdr.out,qd,aa,hg⟩
   case round =>
    obtain⟨j,ep,hj,rfl,ga,vs,hdr,qd,aa,hg⟩:=hrel;have ahf:ep.length<=10000000000000+j:=by rw[ga.out,Aa,bP];omega
    by_cases hjs:j<size
    ·have gl:(j:Int)<size:=by omega
     obtain⟨R,hR⟩:=exq (8*j);have eR:(8:Int)*j=R:=by omega
     have HN2:Hid (ep++[Ac (x>>>R)]=bz++leB (j+1) x):=by
      show _=_
      rw[fG1,hR,pO1,ga.out,Ab]
     have HB:Hid ([Value.int .u8 ((x:Int)/2^R%256)]=aZ (Ac (x>>>R))):=by
      show _=_
      rw[yQ];exact jB0 _
     have hRb:R<=56:=by omega
     have ajc:b<wr.heap.size:=by omega
     clear hR ga;go_wp2_with (at_builtin;refine fF bI rfl _ _ rfl w0.heap.size _ ep (Ac (x>>>R)) rfl aa (aB.refl _) _ 1 rfl _ (by exact HB.out) rfl (by omega) hg.size ?_;intro v' w5 an pj zj bk)
     have hd5:∀q:Addr,some ⟨b,o,none⟩=some q->some q.block≠v'.ownBlock:=λq hq hv=>by
      rcases zj with hf|⟨r,hr,gm⟩
      ·exact hdr.out q hq (hv.trans hf)
      ·rw[hr]at hv
       have h1:=Option.some.inj hv;have h2:=Option.some.inj hq;subst h2;simp only at h1;omega
     go_roundw
     case rel=>exact⟨j+1,_,hjs,by go_num,HN2.out,fD0 vs.out pj hdr.out,hd5,Nat.le_trans qd pj.size,an,bk w0 hg (Af _)⟩
     case measure=>simp[intOf];omega
    ·have gl:¬(j:Int)<size:=by omega
     have HF:Hid (ep=pre++kW size (l.take (k+1))):=by show _=_;rw[ga.out,<-HS.out,show j=size by omega]
     clear ga;go_wp2_with fail
     go_roundw
     case rel=>exact⟨k+1,_,ae,by go_num,HF.out,vs.out,hdr.out,qd,aa,hg⟩
     case measure=>simp[intOf];omega
  ·have cn:¬(k:Int)<l.length:=by omega
   have HF:Hid (bz=pre++kW size l):=by show _=_;rw[cd.out,List.take_of_length_le (by omega)]
   clear cd;go_wp2_with fail
   go_ret;exact⟨_,rfl,by rw[<-HF.out];exact aa,hg,qd⟩
end Go.Proofs.YtaogeadljgjpcaaGreatDoor
