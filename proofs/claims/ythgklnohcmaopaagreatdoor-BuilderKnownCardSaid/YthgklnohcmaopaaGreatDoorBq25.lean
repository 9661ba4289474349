/- The texts BvP, one behind the other. -/
import Derived.Test.YthgklnohcmaopaaGreatDoorBq19
import Derived.Test.YthgklnohcmaopaaGreatDoorBq22
import Derived.Test.YthgklnohcmaopaaGreatDoorBq18
open List renaming length_append → Aa,append_assoc → Ab
open UInt8 renaming ofNat → Ac
open Go.Lib renaming hid → Ad
open Nat renaming zero_le → Ae,le_refl → Af
set_option maxHeartbeats 4000000
namespace Go.Proofs.YthgklnohcmaopaaGreatDoor
set_option maxRecDepth 100000
open Go Go.RowKit
attribute [local go_sem] aM aO
theorem zI0 (x k:Nat):x>>>(8*k)=x/256^k:=by
 rw[Nat.shiftRight_eq_div_pow,Nat.pow_mul]
theorem EB.both {a w w':World} (h1:aB a w) (h2:aB a w') (hs:w.heap.size<=w'.heap.size):EB a.heap.size w w' :=
 ⟨⟨(Below.os h2).trans (Below.os h1).symm,(Below.tape h2).trans (Below.tape h1).symm,(Below.output h2).trans (Below.output h1).symm,hs,λk hk=>(Below.block h2 k hk).trans (Below.block h1 k hk).symm⟩,hs⟩
def iC (size:Nat) (l:List Nat):List UInt8:=(l.map (leB size)).flatten
theorem vZ (size:Nat) (l:List Nat) (x:Nat):iC size (l++[x])=iC size l++leB size x:=by simp[iC]
theorem nW (size:Nat) (l:List Nat):(iC size l).length=size*l.length:=lO size l
theorem yQ (v0:Value) (pre:List UInt8) (size:Nat) (l:List Nat) (a:Option Addr) (c:Nat) (w0 w:World) (iv:aB w0 w) (hs:size<=8) (hp:pre.length<=1099511627776) (hl:l.length<=1099511627776) (hn:∀n∈l,n<18446744073709551616)
  (i7:aT w w0.heap.size 5 1 aQ v0 pre) (ac:aF w a 1 (l.map gT)) (hd:∀q:Addr,a=some q->some q.block≠v0.ownBlock) (ae:∀q:Addr,a=some q->q.block<w.heap.size) :
  Calls Tryz.prog 195 #[v0,.int .i64 size,.slice a l.length c] w λe w'=>∃v,e=.returned v/\aT w' w0.heap.size 5 1 aQ v (pre++iC size l)/\aB w0 w'/\w.heap.size<=w'.heap.size:=by
 have HN:=Ad hn;have HLT:=Ad ae;have HD:=Ad hd;have HAT:=Ad ac;clear hn ac hd ae;go_enter Tryz.func195,Tryz.ntmps195
 go_wp2_with fail
 go_loopw [0,12] (λout i wr=>∃(k:Nat) (bd:List UInt8),k<=l.length/\i=.int .i64 k/\Hid (bd=pre++iC size (l.take k))/\Hid (aF wr a 1 (l.map gT))/\Hid (∀q:Addr,a=some q->some q.block≠out.ownBlock)/\w.heap.size<=wr.heap.size/\aT wr w0.heap.size 5 1 aQ out bd/\aB w0 wr) (λ_ i _=>l.length-(intOf i).toNat)
 case atStart=>exact⟨0,pre,Ae _,rfl,(by show _=_;simp[iC]),HAT.out,HD.out,Af _,i7,iv⟩
 case round =>
  obtain⟨k,bd,hk,rfl,bh,o9,hdr,lr,aa,hg⟩:=hrel;by_cases ae:k<l.length
  ·obtain⟨x,hx⟩:∃x,l[k]?=some x:=⟨_,List.getElem?_eq_getElem ae⟩
   obtain⟨b,o,rfl,hc⟩:=at1 o9.out (aH ae);have fg:=hc k x hx;have fy:=HN.out x (List.mem_of_getElem? hx);have HS:Hid (bd++leB size x=pre++iC size (l.take (k+1))):=by show _=_;rw[bM hx,vZ,bh.out,Ab]
   have mg:bd.length<=1099511627776+8*1099511627776:=by
    rw[bh.out,Aa,nW,List.length_take]
    have:size*min k l.length<=8*1099511627776:=Nat.mul_le_mul hs (by omega)
    omega
   have fk:=HLT.out _ rfl;simp only at fk;have cp:(k:Int)<l.length:=by omega
   clear hc hx bh;go_wp2_with fail
   obtain⟨u0,rfl⟩:=exq wr;go_loopw [0,9] (λout t wr=>∃(j:Nat) (cw:List UInt8),j<=size/\t=.int .i64 j/\Hid (cw=bd++leB j x)/\Hid (aF wr (some ⟨b,o,none⟩) 1 (l.map gT))/\Hid (∀q:Addr,some ⟨b,o,none⟩=some q->some q.block≠out.ownBlock)/\w.heap.size<=wr.heap.size/\aT wr w0.heap.size 5 1 aQ out cw/\aB w0 wr) (λ_ t _=>size-(intOf t).toNat)
   case atStart=>exact⟨0,bd,Ae _,rfl,(by show _=_;simp[leB]),o9.out,hdr.out,lr,aa,hg⟩
   case round =>
    obtain⟨j,cw,hj,rfl,dw,o9,hdr,lr,aa,hg⟩:=hrel;have aec:cw.length<=10000000000000+j:=by rw[dw.out,Aa,bD];omega
    by_cases hjs:j<size
    ·have ek:(j:Int)<size:=by omega
     obtain⟨R,hR⟩:=exq (8*j);have eR:(8:Int)*j=R:=by omega
     have HN2:Hid (cw++[Ac (x>>>R)]=bd++leB (j+1) x):=by
      show _=_
      rw[rO0,hR,zI0,dw.out,Ab]
     have HB:Hid ([Value.int .u8 ((x:Int)/2^R%256)]=aQ (Ac (x>>>R))):=by
      show _=_
      rw[rV];exact zT _
     have hRb:R<=56:=by omega
     have afv:b<wr.heap.size:=by omega
     clear hR dw;go_wp2_with (at_builtin;refine eA bE rfl _ _ rfl w0.heap.size _ cw (Ac (x>>>R)) rfl aa (aB.refl _) _ 1 rfl _ (by exact HB.out) rfl (by omega) hg.size ?_;intro v' w5 ai k7 q8 bk)
     have hd5:∀q:Addr,some ⟨b,o,none⟩=some q->some q.block≠v'.ownBlock:=λq hq hv=>by
      rcases q8 with hf|⟨r,hr,np⟩
      ·exact hdr.out q hq (hv.trans hf)
      ·rw[hr]at hv
       have h1:=Option.some.inj hv;have h2:=Option.some.inj hq;subst h2;simp only at h1;omega
     go_roundw
     case rel=>exact⟨j+1,_,hjs,by go_num,HN2.out,xR o9.out k7 hdr.out,hd5,Nat.le_trans lr k7.size,ai,bk w0 hg (Af _)⟩
     case measure=>simp[intOf];omega
    ·have ek:¬(j:Int)<size:=by omega
     have HF:Hid (cw=pre++iC size (l.take (k+1))):=by show _=_;rw[dw.out,<-HS.out,show j=size by omega]
     clear dw;go_wp2_with fail
     go_roundw
     case rel=>exact⟨k+1,_,ae,by go_num,HF.out,o9.out,hdr.out,lr,aa,hg⟩
     case measure=>simp[intOf];omega
  ·have cp:¬(k:Int)<l.length:=by omega
   have HF:Hid (bd=pre++iC size l):=by show _=_;rw[bh.out,List.take_of_length_le (by omega)]
   clear bh;go_wp2_with fail
   go_ret;exact⟨_,rfl,by rw[<-HF.out];exact aa,hg,lr⟩
end Go.Proofs.YthgklnohcmaopaaGreatDoor
