/- The texts UtfZ BvP, one behind the other. -/
import Derived.Test.YtjhajgffmnkocaaGreatDoorPq5
import Derived.Test.YtjhajgffmnkocaaGreatDoorPq28
import Derived.Test.YtjhajgffmnkocaaGreatDoorPq22
import Derived.Test.YtjhajgffmnkocaaGreatDoorPq25
import Derived.Test.YtjhajgffmnkocaaGreatDoorPq20
open Go.Lib renaming decodeL → Aa,decodeL_N → Ai,hid → Aj
open UInt8 renaming toNat_lt → Ab,ofNat → Ag
open List renaming take_succ_cons → Ac,length_append → Ad,append_assoc → Ae,any_cons → Ah
open Nat renaming le_refl → Af,zero_le → Ak
set_option maxHeartbeats 4000000
namespace Go.Proofs.YtjhajgffmnkocaaGreatDoor
set_option maxRecDepth 100000
section
open Go
theorem dJ0:∀(l:List UInt8) (k:Nat),k<=4->(∀i,i<k->0<(l.getD i 0).toNat)->∀b∈l.take k,b≠0
 | _,0,_,_,b,h=>by simp at h
 | [],_+1,_,_,b,h=>by simp at h
 | x::l,k+1,hk,h,b,hb=>by
  rw[Ac]at hb;rcases List.mem_cons.1 hb with rfl|hb
  ·have:=h 0 (by omega)
   rintro rfl;simp at this
  ·exact dJ0 l k (by omega) (λi hi=>by have:=h (i+1) (by omega);simpa using this) b hb
theorem cO0:∀(n:Nat) (l:List UInt8),l.length<=n->(runesD l).any (λc=>c==0)=l.any λb=>b==0
 | 0,l,h=>by
  have:l=[]:=List.eq_nil_of_length_eq_zero (by omega)
  subst this;rfl
 | n+1,l,h=>by
  by_cases ak:l=[]
  ·subst ak
   rfl
  ·have hw:=Lib.decodeL_width l
   have hl:0<l.length:=List.length_pos_iff.2 ak;rw[iX l ak,Ah,cO0 n _ (by rw[List.length_drop];omega)];conv=>rhs;rw[<-List.take_append_drop (Aa l).2 l,List.any_append]
   congr 1
   by_cases dl:(Aa l).1=65533/\(Aa l).2=1
   ·rw[dl.1,dl.2]
    cases l with
    | nil=>exact absurd rfl ak
    | cons x r =>
     have hx:¬x.toNat<128:=λhx=>by
      have:=Lib.decodeL_ascii x r hx
      rw[this]at dl
      have:=dl.1
      omega
     have:(x==0)=false:=by
      rw[beq_eq_false_iff_ne];rintro rfl;exact hx (by decide)
     simp[this]
   ·have hs:=nR l.length (l.getD 0 0).toNat (l.getD 1 0).toNat (l.getD 2 0).toNat (l.getD 3 0).toNat (Ab _) (Ab _) (Ab _) (by rw[<-Ai];exact dl)
    rw[<-Ai]at hs;rcases hs with ⟨h1,h2⟩|⟨h1,_,h3,h4,h5,h6,h7⟩
    ·rw[h2]
     cases l with
     | nil=>exact absurd rfl ak
     | cons x r =>
      simp only[List.getD_cons_zero,Ac,List.take_zero,Ah,List.any_nil,Bool.or_false];rw[Bool.eq_iff_iff];simp only[beq_iff_eq];exact⟨λe=>UInt8.toNat_inj.1 e,λe=>by rw[e];rfl⟩
    ·have e1:((Aa l).1==0)=false:=by rw[beq_eq_false_iff_ne];omega
     have e2:((l.take (Aa l).2).any λb=>b==0)=false:=by
      rw[List.any_eq_false];intro b hb
      have:=dJ0 l (Aa l).2 h6 (λi hi=>by
       match i,hi with
       | 0,_=>omega
       | 1,hi=>have:=h3 (by omega);omega
       | 2,hi=>have:=h4 (by omega);omega
       | 3,hi=>have:=h5 (by omega);omega
       | i+4,hi=>omega) b hb
      simpa using this
     rw[e1,e2]
theorem oA0 (s:ByteArray):partK s=(!(bl s).isEmpty&&(Lib.validD (bl s) && !((runesD (bl s)).any λc=>c==0))):=by
 unfold partK;rw[cO0 _ (bl s) (Af _),Bool.and_assoc,List.any_eq_not_all_not,Bool.not_not];congr 2
end
section
open Go Go.RowKit
attribute [local go_sem] aO aM
theorem nY1 (x k:Nat):x>>>(8*k)=x/256^k:=by
 rw[Nat.shiftRight_eq_div_pow,Nat.pow_mul]
theorem EB.both {a w w':World} (h1:aB a w) (h2:aB a w') (hs:w.heap.size<=w'.heap.size):EB a.heap.size w w' :=
 ⟨⟨(Below.os h2).trans (Below.os h1).symm,(Below.tape h2).trans (Below.tape h1).symm,(Below.output h2).trans (Below.output h1).symm,hs,λk hk=>(Below.block h2 k hk).trans (Below.block h1 k hk).symm⟩,hs⟩
def kK (size:Nat) (l:List Nat):List UInt8:=(l.map (leB size)).flatten
theorem cU0 (size:Nat) (l:List Nat) (x:Nat):kK size (l++[x])=kK size l++leB size x:=by simp[kK]
theorem tL (size:Nat) (l:List Nat):(kK size l).length=size*l.length:=oO size l
theorem eI0 (v0:Value) (pre:List UInt8) (size:Nat) (l:List Nat) (a:Option Addr) (c:Nat) (w0 w:World) (et:aB w0 w) (hs:size<=8) (hp:pre.length<=1099511627776) (hl:l.length<=1099511627776) (hn:∀n∈l,n<18446744073709551616)
  (ft:aU w w0.heap.size 5 1 aV v0 pre) (ac:aG w a 1 (l.map kF)) (hd:∀q:Addr,a=some q->some q.block≠v0.ownBlock) (af:∀q:Addr,a=some q->q.block<w.heap.size) :
  Calls Tryz.prog 227 #[v0,.int .i64 size,.slice a l.length c] w λe w'=>∃v,e=.returned v/\aU w' w0.heap.size 5 1 aV v (pre++kK size l)/\aB w0 w'/\w.heap.size<=w'.heap.size:=by
 have HN:=Aj hn;have HLT:=Aj af;have HD:=Aj hd;have HAT:=Aj ac;clear hn ac hd af;go_enter Tryz.func227,Tryz.ntmps227
 go_wp2_with fail
 go_loopw [0,12] (λout i wr=>∃(k:Nat) (cd:List UInt8),k<=l.length/\i=.int .i64 k/\Hid (cd=pre++kK size (l.take k))/\Hid (aG wr a 1 (l.map kF))/\Hid (∀q:Addr,a=some q->some q.block≠out.ownBlock)/\w.heap.size<=wr.heap.size/\aU wr w0.heap.size 5 1 aV out cd/\aB w0 wr) (λ_ i _=>l.length-(intOf i).toNat)
 case atStart=>exact⟨0,pre,Ak _,rfl,(by show _=_;simp[kK]),HAT.out,HD.out,Af _,ft,et⟩
 case round =>
  obtain⟨k,cd,hk,rfl,ci,vm,hdr,qi,aa,hg⟩:=hrel;by_cases af:k<l.length
  ·obtain⟨x,hx⟩:∃x,l[k]?=some x:=⟨_,List.getElem?_eq_getElem af⟩
   obtain⟨b,o,rfl,hc⟩:=at1 vm.out (aJ af);have jc:=hc k x hx;have ju:=HN.out x (List.mem_of_getElem? hx);have HS:Hid (cd++leB size x=pre++kK size (l.take (k+1))):=by show _=_;rw[bJ hx,cU0,ci.out,Ae]
   have mw:cd.length<=1099511627776+8*1099511627776:=by
    rw[ci.out,Ad,tL,List.length_take]
    have:size*min k l.length<=8*1099511627776:=Nat.mul_le_mul hs (by omega)
    omega
   have gd:=HLT.out _ rfl;simp only at gd;have cz:(k:Int)<l.length:=by omega
   clear hc hx ci;go_wp2_with fail
   obtain⟨u0,rfl⟩:=exq wr;go_loopw [0,9] (λout t wr=>∃(j:Nat) (ew:List UInt8),j<=size/\t=.int .i64 j/\Hid (ew=cd++leB j x)/\Hid (aG wr (some ⟨b,o,none⟩) 1 (l.map kF))/\Hid (∀q:Addr,some ⟨b,o,none⟩=some q->some q.block≠out.ownBlock)/\w.heap.size<=wr.heap.size/\aU wr w0.heap.size 5 1 aV out ew/\aB w0 wr) (λ_ t _=>size-(intOf t).toNat)
   case atStart=>exact⟨0,cd,Ak _,rfl,(by show _=_;simp[leB]),vm.out,hdr.out,qi,aa,hg⟩
   case round =>
    obtain⟨j,ew,hj,rfl,gl,vm,hdr,qi,aa,hg⟩:=hrel;have ag6:ew.length<=10000000000000+j:=by rw[gl.out,Ad,bM];omega
    by_cases hjs:j<size
    ·have im:(j:Int)<size:=by omega
     obtain⟨R,hR⟩:=exq (8*j);have eR:(8:Int)*j=R:=by omega
     have HN2:Hid (ew++[Ag (x>>>R)]=cd++leB (j+1) x):=by
      show _=_
      rw[fQ1,hR,nY1,gl.out,Ae]
     have HB:Hid ([Value.int .u8 ((x:Int)/2^R%256)]=aV (Ag (x>>>R))):=by
      show _=_
      rw[aY0];exact jM0 _
     have hRb:R<=56:=by omega
     have ai2:b<wr.heap.size:=by omega
     clear hR gl;go_wp2_with (at_builtin;refine eV bI rfl _ _ rfl w0.heap.size _ ew (Ag (x>>>R)) rfl aa (aB.refl _) _ 1 rfl _ (by exact HB.out) rfl (by omega) hg.size ?_;intro v' w5 au pr y8 bi)
     have hd5:∀q:Addr,some ⟨b,o,none⟩=some q->some q.block≠v'.ownBlock:=λq hq hv=>by
      rcases y8 with hf|⟨r,hr,gv⟩
      ·exact hdr.out q hq (hv.trans hf)
      ·rw[hr]at hv
       have h1:=Option.some.inj hv;have h2:=Option.some.inj hq;subst h2;simp only at h1;omega
     go_roundw
     case rel=>exact⟨j+1,_,hjs,by go_num,HN2.out,eP0 vm.out pr hdr.out,hd5,Nat.le_trans qi pr.size,au,bi w0 hg (Af _)⟩
     case measure=>simp[intOf];omega
    ·have im:¬(j:Int)<size:=by omega
     have HF:Hid (ew=pre++kK size (l.take (k+1))):=by show _=_;rw[gl.out,<-HS.out,show j=size by omega]
     clear gl;go_wp2_with fail
     go_roundw
     case rel=>exact⟨k+1,_,af,by go_num,HF.out,vm.out,hdr.out,qi,aa,hg⟩
     case measure=>simp[intOf];omega
  ·have cz:¬(k:Int)<l.length:=by omega
   have HF:Hid (cd=pre++kK size l):=by show _=_;rw[ci.out,List.take_of_length_le (by omega)]
   clear ci;go_wp2_with fail
   go_ret;exact⟨_,rfl,by rw[<-HF.out];exact aa,hg,qi⟩
end
end Go.Proofs.YtjhajgffmnkocaaGreatDoor
