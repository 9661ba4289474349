/- The texts BvP, one behind the other. -/
import Derived.Test.YtheiocndipepaaaGreatDoorKq23
import Derived.Test.YtheiocndipepaaaGreatDoorKq26
import Derived.Test.YtheiocndipepaaaGreatDoorKq20
open List renaming length_append → Aa,append_assoc → Ab
open UInt8 renaming ofNat → Ac
open Go.Lib renaming hid → Ad
open Nat renaming zero_le → Ae,le_refl → Af
set_option maxHeartbeats 4000000
namespace Go.Proofs.YtheiocndipepaaaGreatDoor
set_option maxRecDepth 100000
open Go Go.RowKit
attribute [local go_sem] aM aK
theorem rH1 (x k:Nat):x>>>(8*k)=x/256^k:=by
 rw[Nat.shiftRight_eq_div_pow,Nat.pow_mul]
theorem EB.both {a w w':World} (h1:Grows a w) (h2:Grows a w') (hs:w.heap.size<=w'.heap.size):EB a.heap.size w w' :=
 ⟨⟨(Below.os h2).trans (Below.os h1).symm,(Below.tape h2).trans (Below.tape h1).symm,(Below.output h2).trans (Below.output h1).symm,hs,λk hk=>(Below.block h2 k hk).trans (Below.block h1 k hk).symm⟩,hs⟩
def lV (size:Nat) (l:List Nat):List UInt8:=(l.map (leB size)).flatten
theorem eQ0 (size:Nat) (l:List Nat) (x:Nat):lV size (l++[x])=lV size l++leB size x:=by simp[lV]
theorem tU (size:Nat) (l:List Nat):(lV size l).length=size*l.length:=mN size l
theorem iR0 (v0:Value) (pre:List UInt8) (size:Nat) (l:List Nat) (a:Option Addr) (c:Nat) (w0 w:World) (cp:Grows w0 w) (hs:size<=8) (hp:pre.length<=1099511627776) (hl:l.length<=1099511627776) (hn:∀n∈l,n<18446744073709551616)
  (nr:aV w w0.heap.size 5 1 aX v0 pre) (ac:aF w a 1 (l.map kS)) (hd:∀q:Addr,a=some q->some q.block≠v0.ownBlock) (ae:∀q:Addr,a=some q->q.block<w.heap.size) :
  Calls Tryz.prog 156 #[v0,.int .i64 size,.slice a l.length c] w λe w'=>∃v,e=.returned v/\aV w' w0.heap.size 5 1 aX v (pre++lV size l)/\Grows w0 w'/\w.heap.size<=w'.heap.size:=by
 have HN:=Ad hn;have HLT:=Ad ae;have HD:=Ad hd;have HAT:=Ad ac;clear hn ac hd ae;go_enter Tryz.func156,Tryz.ntmps156
 go_wp2_with fail
 go_loopw [0,12] (λout i wr=>∃(k:Nat) (cd:List UInt8),k<=l.length/\i=.int .i64 k/\Hid (cd=pre++lV size (l.take k))/\Hid (aF wr a 1 (l.map kS))/\Hid (∀q:Addr,a=some q->some q.block≠out.ownBlock)/\w.heap.size<=wr.heap.size/\aV wr w0.heap.size 5 1 aX out cd/\Grows w0 wr) (λ_ i _=>l.length-(intOf i).toNat)
 case atStart=>exact⟨0,pre,Ae _,rfl,(by show _=_;simp[lV]),HAT.out,HD.out,Af _,nr,cp⟩
 case round =>
  obtain⟨k,cd,hk,rfl,cr,zn,hdr,s6,aa,hg⟩:=hrel;by_cases ae:k<l.length
  ·obtain⟨x,hx⟩:∃x,l[k]?=some x:=⟨_,List.getElem?_eq_getElem ae⟩
   obtain⟨b,o,rfl,hc⟩:=at1 zn.out (aH ae);have jp:=hc k x hx;have kr:=HN.out x (List.mem_of_getElem? hx);have HS:Hid (cd++leB size x=pre++lV size (l.take (k+1))):=by show _=_;rw[bN hx,eQ0,cr.out,Ab]
   have om:cd.length<=1099511627776+8*1099511627776:=by
    rw[cr.out,Aa,tU,List.length_take]
    have:size*min k l.length<=8*1099511627776:=Nat.mul_le_mul hs (by omega)
    omega
   have gp:=HLT.out _ rfl;simp only at gp;have cy:(k:Int)<l.length:=by omega
   clear hc hx cr;go_wp2_with fail
   obtain⟨u0,rfl⟩:=exq wr;go_loopw [0,9] (λout t wr=>∃(j:Nat) (fm:List UInt8),j<=size/\t=.int .i64 j/\Hid (fm=cd++leB j x)/\Hid (aF wr (some ⟨b,o,none⟩) 1 (l.map kS))/\Hid (∀q:Addr,some ⟨b,o,none⟩=some q->some q.block≠out.ownBlock)/\w.heap.size<=wr.heap.size/\aV wr w0.heap.size 5 1 aX out fm/\Grows w0 wr) (λ_ t _=>size-(intOf t).toNat)
   case atStart=>exact⟨0,cd,Ae _,rfl,(by show _=_;simp[leB]),zn.out,hdr.out,s6,aa,hg⟩
   case round =>
    obtain⟨j,fm,hj,rfl,ir,zn,hdr,s6,aa,hg⟩:=hrel;have aii:fm.length<=10000000000000+j:=by rw[ir.out,Aa,bM];omega
    by_cases hjs:j<size
    ·have iy:(j:Int)<size:=by omega
     obtain⟨R,hR⟩:=exq (8*j);have eR:(8:Int)*j=R:=by omega
     have HN2:Hid (fm++[Ac (x>>>R)]=cd++leB (j+1) x):=by
      show _=_
      rw[fY1,hR,rH1,ir.out,Ab]
     have HB:Hid ([Value.int .u8 ((x:Int)/2^R%256)]=aX (Ac (x>>>R))):=by
      show _=_
      rw[bH0];exact nI0 _
     have hRb:R<=56:=by omega
     have akd:b<wr.heap.size:=by omega
     clear hR ir;go_wp2_with (at_builtin;refine dE bI rfl _ _ rfl w0.heap.size _ fm (Ac (x>>>R)) rfl aa (Grows.refl _) _ 1 rfl _ (by exact HB.out) rfl (by omega) hg.size ?_;intro v' w5 ak rm hf5 bg)
     have hd5:∀q:Addr,some ⟨b,o,none⟩=some q->some q.block≠v'.ownBlock:=λq hq hv=>by
      rcases hf5 with hf|⟨r,hr,ia⟩
      ·exact hdr.out q hq (hv.trans hf)
      ·rw[hr]at hv
       have h1:=Option.some.inj hv;have h2:=Option.some.inj hq;subst h2;simp only at h1;omega
     go_roundw
     case rel=>exact⟨j+1,_,hjs,by go_num,HN2.out,pP zn.out rm hdr.out,hd5,Nat.le_trans s6 rm.size,ak,bg w0 hg (Af _)⟩
     case measure=>simp[intOf];omega
    ·have iy:¬(j:Int)<size:=by omega
     have HF:Hid (fm=pre++lV size (l.take (k+1))):=by show _=_;rw[ir.out,<-HS.out,show j=size by omega]
     clear ir;go_wp2_with fail
     go_roundw
     case rel=>exact⟨k+1,_,ae,by go_num,HF.out,zn.out,hdr.out,s6,aa,hg⟩
     case measure=>simp[intOf];omega
  ·have cy:¬(k:Int)<l.length:=by omega
   have HF:Hid (cd=pre++lV size l):=by show _=_;rw[cr.out,List.take_of_length_le (by omega)]
   clear cr;go_wp2_with fail
   go_ret;exact⟨_,rfl,by rw[<-HF.out];exact aa,hg,s6⟩
end Go.Proofs.YtheiocndipepaaaGreatDoor
