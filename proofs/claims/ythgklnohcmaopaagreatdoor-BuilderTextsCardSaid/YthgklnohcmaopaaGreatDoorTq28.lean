/- The texts BvP, one behind the other. -/
import Derived.Test.YthgklnohcmaopaaGreatDoorTq22
import Derived.Test.YthgklnohcmaopaaGreatDoorTq26
import Derived.Test.YthgklnohcmaopaaGreatDoorTq20
open List renaming length_append → Aa,append_assoc → Ab
open UInt8 renaming ofNat → Ac
open Go.Lib renaming hid → Ad
open Nat renaming zero_le → Ae,le_refl → Af
set_option maxHeartbeats 4000000
namespace Go.Proofs.YthgklnohcmaopaaGreatDoor
set_option maxRecDepth 100000
open Go Go.RowKit
attribute [local go_sem] aK aP
theorem dI1 (x k:Nat):x>>>(8*k)=x/256^k:=by
 rw[Nat.shiftRight_eq_div_pow,Nat.pow_mul]
theorem EB.both {a w w':World} (h1:aB a w) (h2:aB a w') (hs:w.heap.size<=w'.heap.size):EB a.heap.size w w' :=
 ⟨⟨(Below.os h2).trans (Below.os h1).symm,(Below.tape h2).trans (Below.tape h1).symm,(Below.output h2).trans (Below.output h1).symm,hs,λk hk=>(Below.block h2 k hk).trans (Below.block h1 k hk).symm⟩,hs⟩
def jA (size:Nat) (l:List Nat):List UInt8:=(l.map (leB size)).flatten
theorem zN (size:Nat) (l:List Nat) (x:Nat):jA size (l++[x])=jA size l++leB size x:=by simp[jA]
theorem qF (size:Nat) (l:List Nat):(jA size l).length=size*l.length:=mC size l
theorem aT0 (v0:Value) (pre:List UInt8) (size:Nat) (l:List Nat) (a:Option Addr) (c:Nat) (w0 w:World) (ft:aB w0 w) (hs:size<=8) (hp:pre.length<=1099511627776) (hl:l.length<=1099511627776) (hn:∀n∈l,n<18446744073709551616)
  (f8:aU w w0.heap.size 5 1 aV v0 pre) (ac:aF w a 1 (l.map kH)) (hd:∀q:Addr,a=some q->some q.block≠v0.ownBlock) (ae:∀q:Addr,a=some q->q.block<w.heap.size) :
  Calls Tryz.prog 195 #[v0,.int .i64 size,.slice a l.length c] w λe w'=>∃v,e=.returned v/\aU w' w0.heap.size 5 1 aV v (pre++jA size l)/\aB w0 w'/\w.heap.size<=w'.heap.size:=by
 have HN:=Ad hn;have HLT:=Ad ae;have HD:=Ad hd;have HAT:=Ad ac;clear hn ac hd ae;go_enter Tryz.func195,Tryz.ntmps195
 go_wp2_with fail
 go_loopw [0,12] (λout i wr=>∃(k:Nat) (acc:List UInt8),k<=l.length/\i=.int .i64 k/\Hid (acc=pre++jA size (l.take k))/\Hid (aF wr a 1 (l.map kH))/\Hid (∀q:Addr,a=some q->some q.block≠out.ownBlock)/\w.heap.size<=wr.heap.size/\aU wr w0.heap.size 5 1 aV out acc/\aB w0 wr) (λ_ i _=>l.length-(intOf i).toNat)
 case atStart=>exact⟨0,pre,Ae _,rfl,(by show _=_;simp[jA]),HAT.out,HD.out,Af _,f8,ft⟩
 case round =>
  obtain⟨k,acc,hk,rfl,bh,rp,hdr,mw,aa,hg⟩:=hrel;by_cases ae:k<l.length
  ·obtain⟨x,hx⟩:∃x,l[k]?=some x:=⟨_,List.getElem?_eq_getElem ae⟩
   obtain⟨b,o,rfl,hc⟩:=at1 rp.out (aH ae);have jl:=hc k x hx;have jt:=HN.out x (List.mem_of_getElem? hx);have HS:Hid (acc++leB size x=pre++jA size (l.take (k+1))):=by show _=_;rw[bT hx,zN,bh.out,Ab]
   have js:acc.length<=1099511627776+8*1099511627776:=by
    rw[bh.out,Aa,qF,List.length_take]
    have:size*min k l.length<=8*1099511627776:=Nat.mul_le_mul hs (by omega)
    omega
   have gb:=HLT.out _ rfl;simp only at gb;have cy:(k:Int)<l.length:=by omega
   clear hc hx bh;go_wp2_with fail
   obtain⟨u0,rfl⟩:=exq wr;go_loopw [0,9] (λout t wr=>∃(j:Nat) (da:List UInt8),j<=size/\t=.int .i64 j/\Hid (da=acc++leB j x)/\Hid (aF wr (some ⟨b,o,none⟩) 1 (l.map kH))/\Hid (∀q:Addr,some ⟨b,o,none⟩=some q->some q.block≠out.ownBlock)/\w.heap.size<=wr.heap.size/\aU wr w0.heap.size 5 1 aV out da/\aB w0 wr) (λ_ t _=>size-(intOf t).toNat)
   case atStart=>exact⟨0,acc,Ae _,rfl,(by show _=_;simp[leB]),rp.out,hdr.out,mw,aa,hg⟩
   case round =>
    obtain⟨j,da,hj,rfl,ej,rp,hdr,mw,aa,hg⟩:=hrel;have afw:da.length<=10000000000000+j:=by rw[ej.out,Aa,dF];omega
    by_cases hjs:j<size
    ·have ew:(j:Int)<size:=by omega
     obtain⟨R,hR⟩:=exq (8*j);have eR:(8:Int)*j=R:=by omega
     have HN2:Hid (da++[Ac (x>>>R)]=acc++leB (j+1) x):=by
      show _=_
      rw[wT0,hR,dI1,ej.out,Ab]
     have HB:Hid ([Value.int .u8 ((x:Int)/2^R%256)]=aV (Ac (x>>>R))):=by
      show _=_
      rw[aZ0];exact eX0 _
     have hRb:R<=56:=by omega
     have aht:b<wr.heap.size:=by omega
     clear hR ej;go_wp2_with (at_builtin;refine eZ bF rfl _ _ rfl w0.heap.size _ da (Ac (x>>>R)) rfl aa (aB.refl _) _ 1 rfl _ (by exact HB.out) rfl (by omega) hg.size ?_;intro v' w5 ak yf yh bk)
     have hd5:∀q:Addr,some ⟨b,o,none⟩=some q->some q.block≠v'.ownBlock:=λq hq hv=>by
      rcases yh with hf|⟨r,hr,jd⟩
      ·exact hdr.out q hq (hv.trans hf)
      ·rw[hr]at hv
       have h1:=Option.some.inj hv;have h2:=Option.some.inj hq;subst h2;simp only at h1;omega
     go_roundw
     case rel=>exact⟨j+1,_,hjs,by go_num,HN2.out,cE0 rp.out yf hdr.out,hd5,Nat.le_trans mw yf.size,ak,bk w0 hg (Af _)⟩
     case measure=>simp[intOf];omega
    ·have ew:¬(j:Int)<size:=by omega
     have HF:Hid (da=pre++jA size (l.take (k+1))):=by show _=_;rw[ej.out,<-HS.out,show j=size by omega]
     clear ej;go_wp2_with fail
     go_roundw
     case rel=>exact⟨k+1,_,ae,by go_num,HF.out,rp.out,hdr.out,mw,aa,hg⟩
     case measure=>simp[intOf];omega
  ·have cy:¬(k:Int)<l.length:=by omega
   have HF:Hid (acc=pre++jA size l):=by show _=_;rw[bh.out,List.take_of_length_le (by omega)]
   clear bh;go_wp2_with fail
   go_ret;exact⟨_,rfl,by rw[<-HF.out];exact aa,hg,mw⟩
end Go.Proofs.YthgklnohcmaopaaGreatDoor
