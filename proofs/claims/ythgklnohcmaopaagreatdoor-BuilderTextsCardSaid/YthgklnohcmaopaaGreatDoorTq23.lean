/- The texts EncP RdU RefRd W12 RdN RdC RdU1 DecM, one behind the other. -/
import Derived.Test.YthgklnohcmaopaaGreatDoorTq2
import Derived.Test.YthgklnohcmaopaaGreatDoorTq20
import Derived.Laws.BitsAllLaws
import Derived.Recover
open Go.World renaming cell?_setCell_other → Aa,cell?_setCell_same → Ab,frozen?_setCell → Ad,block_lt_of_cell? → Af
open Go.Addr renaming block → Ac
open Nat renaming pow_le_pow_right → Ae,lt_or_ge → Ah,mul_comm → Al,lt_of_lt_of_le → Ap,pow_add → Ar,add_mul → As,le_refl → At,mul_assoc → Ax,add_comm → Ay
open List renaming getElem?_eq_getElem → Ag,getElem?_map → Aj,ext_getElem? → Ak,cons_append → Aq,length_map → Au,range → Aw,map → Ba
open Go.Lib renaming hid → Ai,size_eq → Az
open UInt8 renaming ofNat → Am,toNat_ofNat' → Ao
open Int renaming add_assoc → An
open Array renaming replicate → Av
set_option maxHeartbeats 4000000
namespace Go.Proofs.YthgklnohcmaopaaGreatDoor
set_option maxRecDepth 100000
section
open Go Go.RowKit
def uB (m:Mx):Int->List Nat->List UInt8
 | _,[]=>[]
 | last,i::r=>dJ ((i:Int)-last).toNat++(dJ (m.cs.getD i 0).toNat++uB m i r)
def Mx.enc (m:Mx):List UInt8:=dJ m.n++(dJ m.d.toNat++(dJ m.idx.length++uB m (-1) m.idx))
theorem Mx.idx_len {m:Mx} (h:m.OK):m.idx.length<=4096:=by have:=Mx.pairs_len h; unfold Mx.pairs at this; rwa [Au]at this
theorem Mx.idx_get {m:Mx} (h:m.OK) {k i:Nat} (hi:m.idx[k]?=some i):i<m.n*m.n/\m.pairs[k]?=some (dW m.n i)/\0<=m.cs.getD i 0/\m.cs.getD i 0<=30000/\m.cost (dW m.n i)=m.cs.getD i 0:=by
 have hm:=Mx.mem_idx.1 (List.mem_of_getElem? hi);obtain⟨h1,h2⟩:=iQ hm.1;have h3:m.cost (dW m.n i)=m.cs.getD i 0:=by unfold Mx.cost;rw[if_pos h1,h2]
 have h4:=Mx.cost_ok h (dW m.n i);rw[h3]at h4;exact⟨hm.1,by unfold Mx.pairs;rw[Aj,hi];rfl,h4.1,h4.2,h3⟩
theorem Mx.idx_up {m:Mx}:m.idx.Pairwise (· < ·):=List.Pairwise.filter _ List.pairwise_lt_range
theorem pP {n:Nat} (h:128<=n) (hn:n<18446744073709551616):dJ n=Am (n%128+128)::dJ (n/128):=by
 have h1:dJ n=Am (n%128+128)::pB 9 (n/128):=by
  show (if n<128 then [Am n] else Am (n%128+128)::pB 9 (n/128))=_
  rw[if_neg (by omega)]
 have h2:n/128<128^9:=by
  have:(128:Nat)^9=9223372036854775808:=by decide
  omega
 rw[h1];unfold dJ;rw[rW 9 10 (n/128) h2 (by omega) (by omega)]
theorem qM0 (n:Nat):dJ n≠[]:=by
 unfold dJ pB;split<;>simp
def oJ0:List UInt8->Nat->Nat->Option (Nat×Nat)
 | [],_,_=>none
 | c::r,s,acc =>
  if (s=63/\1<c.toNat)\/(0<s/\c.toNat=0) then none
  else if c.toNat<128 then some (acc+c.toNat*2^s,1)
  else (oJ0 r (s+7) (acc+(c.toNat%128)*2^s)).map λx=>(x.1,x.2+1)
def rdU (l:List UInt8):Option (Nat×Nat):=oJ0 l 0 0
theorem jP0:∀(l:List UInt8) (j acc v k:Nat),j<=9->(oJ0 l (7*j) acc=some (v,k) ↔
  ∃n r,n<2^(64-7*j)/\(0<j->0<n)/\v=acc+n*2^(7*j)/\l=dJ n++r/\k=(dJ n).length)
 | [],j,acc,v,k,hj=>by
  constructor
  ·intro h;cases h
  ·rintro⟨n,r,_,_,_,h,_⟩
   have:=congrArg List.length h
   have h2:=qM0 n
   cases hp:dJ n with
   | nil=>exact absurd hp h2
   | cons a b=>rw[hp]at this;simp at this
 | c::r,j,acc,v,k,hj=>by
  have hc:=c.toNat_lt;have pr:(2:Nat)^64=18446744073709551616:=by decide
  have head:∀n r',n<2^(64-7*j)->c::r=dJ n++r'->(n<128->c.toNat=n/\r=r')/\(128<=n->c.toNat=n%128+128/\r=dJ (n/128)++r'):=by
   intro n r' hn e
   have ow:n<18446744073709551616:=by
    have:(2:Nat)^(64-7*j)<=2^64:=Ae (by decide) (by omega)
    omega
   constructor
   ·intro h
    rw[iD h]at e;simp only[Aq,List.nil_append,List.cons.injEq]at e;refine⟨?_,e.2⟩;rw[e.1,Ao];omega
   ·intro h
    rw[pP h ow]at e;simp only[Aq,List.cons.injEq]at e;refine⟨?_,e.2⟩;rw[e.1,Ao];omega
  show (if (7*j=63/\1<c.toNat)\/(0<7*j/\c.toNat=0) then none
   else if c.toNat<128 then some (acc+c.toNat*2^(7*j),1)
   else (oJ0 r (7*j+7) (acc+(c.toNat%128)*2^(7*j))).map λx=>(x.1,x.2+1))=some (v,k)↔_
  by_cases hb:(7*j=63/\1<c.toNat)\/(0<7*j/\c.toNat=0)
  ·rw[if_pos hb]
   constructor
   ·intro h;cases h
   ·rintro⟨n,r',hn,b9,_,e,_⟩
    obtain⟨h1,h2⟩:=head n r' hn e;exfalso
    rcases hb with ⟨ld,dm⟩|⟨ld,dm⟩
    ·obtain rfl:j=9:=by omega
     have ie:n<2:=by simpa using hn
     have:=(h1 (by omega)).1
     omega
    ·have hp:=b9 (by omega)
     rcases Ah n 128 with h|h
     ·have:=(h1 h).1;omega
     ·have:=(h2 h).1;omega
  ·rw[if_neg hb]
   by_cases hs:c.toNat<128
   ·rw[if_pos hs]
    constructor
    ·intro h
     simp only[Option.some.injEq,Prod.mk.injEq]at h;refine⟨c.toNat,r,?_,λ_=>by omega,h.1.symm,?_,?_⟩
     ·by_cases h9:j=9
      ·subst h9
       have:¬1<c.toNat:=λh=>hb (Or.inl ⟨rfl,h⟩)
       show c.toNat<2
       omega
      ·have:(2:Nat)^8<=2^(64-7*j):=Ae (by decide) (by omega)
       have h8:(2:Nat)^8=256:=by decide
       omega
     ·rw[iD hs];simp
     ·rw[iD hs];simp;omega
    ·rintro⟨n,r',hn,b9,hv,e,hk⟩
     obtain⟨h1,h2⟩:=head n r' hn e
     have lh:n<128:=by
      rcases Ah n 128 with h|h
      ·exact h
      ·have:=(h2 h).1;omega
     rw[(h1 lh).1,hv,hk,iD lh];rfl
   ·rw[if_neg hs]
    have hj8:j<=8:=by
     rcases Ah j 9 with h|h
     ·omega
     ·exact absurd (Or.inl ⟨by omega,by omega⟩) hb
    have qw:(2:Nat)^(7*(j+1))=128*2^(7*j):=by rw[Nat.mul_add,Ar,Al]
    have acq:(2:Nat)^(64-7*j)=128*2^(64-7*(j+1)):=by
     rw[show 64-7*j=7+(64-7*(j+1)) by omega,Ar]
    have IH:=jP0 r (j+1) (acc+(c.toNat%128)*2^(7*j));rw[show 7*(j+1)=7*j+7 by omega]at IH
    constructor
    ·intro h
     cases hr:oJ0 r (7*j+7) (acc+(c.toNat%128)*2^(7*j)) with
     | none=>rw[hr]at h;cases h
     | some x =>
      obtain⟨v',k'⟩:=x;rw[hr]at h;simp only[Option.map_some,Option.some.injEq,Prod.mk.injEq]at h;obtain⟨rfl,rfl⟩:=h;obtain⟨n',r',hn',abu,hv',qk,hk'⟩:=(IH v' k' (by omega)).1 hr;have hp':=abu (by omega);rw[show 7*j+7=7*(j+1) by omega]at hv' hn'
      have cr:128<=n'*128+c.toNat%128:=by omega
      have hn:n'*128+c.toNat%128<2^(64-7*j):=by rw[acq];omega
      have ow:n'*128+c.toNat%128<18446744073709551616:=by
       have:(2:Nat)^(64-7*j)<=2^64:=Ae (by decide) (by omega)
       omega
      have acr:dJ (n'*128+c.toNat%128)=c::dJ n':=by
       rw[pP cr ow];have e1:(n'*128+c.toNat%128)/128=n':=by omega
       have e2:(n'*128+c.toNat%128)%128+128=c.toNat:=by omega
       rw[e1,e2];simp
      refine⟨n'*128+c.toNat%128,r',hn,λ_=>by omega,?_,?_,?_⟩
      ·rw[hv',qw,As,Ax];omega
      ·rw[acr,qk];simp
      ·rw[acr,hk'];simp
    ·rintro⟨n,r',hn,b9,hv,e,hk⟩
     obtain⟨h1,h2⟩:=head n r' hn e
     have lh:128<=n:=by
      rcases Ah n 128 with h|h
      ·have:=(h1 h).1;omega
      ·exact h
     obtain⟨g1,g2⟩:=h2 lh
     have ow:n<18446744073709551616:=by
      have:(2:Nat)^(64-7*j)<=2^64:=Ae (by decide) (by omega)
      omega
     have hr:=(IH v (dJ (n/128)).length (by omega)).2 ⟨n/128,r',by rw[show 7*j+7=7*(j+1) by omega];rw[acq]at hn;omega,λ_=>by omega,by
      rw[show 7*j+7=7*(j+1) by omega,qw,hv,<-Ax,show c.toNat%128=n%128 by omega]
      have:=Nat.div_add_mod n 128
      have h3:n*2^(7*j)=(n/128*128+n%128)*2^(7*j):=by rw[Al (n/128) 128,this]
      rw[h3,As];omega,g2,rfl⟩
     rw[hr,hk,pP lh ow];simp
theorem tB0 {l:List UInt8} {v k:Nat}:rdU l=some (v,k)↔∃r,v<18446744073709551616/\l=dJ v++r/\k=(dJ v).length:=by
 have h:=jP0 l 0 0 v k (by omega);unfold rdU;rw[show (0:Nat)=7*0 from rfl]
 rw[show (7*0:Nat)=0 from rfl]at h
 rw[show (7*0:Nat)=0 from rfl,h]
 constructor
 ·rintro⟨n,r,hn,_,hv,hl,hk⟩
  obtain rfl:v=n:=by simpa using hv
  exact⟨r,by simpa using hn,hl,hk⟩
 ·rintro⟨r,hv,hl,hk⟩
  exact⟨v,r,by simpa using hv,by omega,by simp,hl,hk⟩
theorem iO0 {v:Nat} (h:v<18446744073709551616) (r:List UInt8):rdU (dJ v++r)=some (v,(dJ v).length):=tB0.2 ⟨r,h,rfl,rfl⟩
end
section
open Go Go.RowKit
attribute [local go_sem] aK aP
def xE (s:ByteArray):List UInt8:=dJ s.size++s.data.toList
theorem pV (s:ByteArray):(xE s).length<=10+s.size:=by
 have:=bK s.size
 unfold xE;rw[List.length_append,Az];rw[<-Az];omega
theorem fF0 {n:Nat} (h:n<18446744073709551616):IntKind.u64.wrap (n:Int)=n:=by simp[IntKind.wrap,IntKind.bits,IntKind.signed]; omega
theorem vT0 {acc c s:Nat} (h1:acc<2^s) (h2:s<=63) (h3:c%128*2^s<18446744073709551616) (hc:c<256) :
  bits .or .u64 (acc:Int) (IntKind.u64.wrap (IntKind.u64.wrap (bits .and .u8 (c:Int) 127)*2^s))=((acc+c%128*2^s:Nat):Int):=by
 have e1:bits .and .u8 (c:Int) 127=((c%128:Nat):Int):=by
  rw[show (127:Int)=((127:Nat):Int) from rfl,u8_and_nat c 127 hc (by decide)]
  congr 1
  exact Nat.and_two_pow_sub_one_eq_mod c 7
 rw[e1,fF0 (by omega),show ((c%128:Nat):Int)*2^s=((c%128*2^s:Nat):Int) by push_cast;rfl,fF0 h3]
 have h4:(2:Nat)^s<=2^63:=Ae (by decide) h2;have h5:(2:Nat)^63=9223372036854775808:=by decide
 rw[u64_or_nat _ _ (by omega) h3];congr 1
 rw[Nat.or_comm,Al,<-Nat.two_pow_add_eq_or_of_lt h1,Ay]
def dG0:Value := .iface 339 (.agg #[])
def zA0 (R:Option (Nat×Nat)) (s:Value) (rb k:Nat) (w:World) (e:Ending) (w':World):Prop :=
 ((∃v n,R=some (v,n)/\e=.returned (.int .u64 v)/\w'.cell? ⟨rb,1,none⟩=some (.int .i64 ((k+n:Nat):Int))/\w'.cell? ⟨rb,0,none⟩=some s/\w'.frozen? ⟨rb,1,none⟩=false)\/(R=none/\e=.panicked [{ v:=dG0,recovered:=false }]))/\EB rb w w'
theorem rR0 (b:List UInt8) (rb k:Nat) (ba:Option Addr) (bc:Nat) (w:World) (hk:k<=b.length) (hb:b.length<=1099511627776) (ac:aF w ba 1 (b.map aV)) (hba:∀q:Addr,ba=some q->b≠[]->q.block<rb)
  (c0:w.cell? ⟨rb,0,none⟩=some (.slice ba b.length bc)) (c1:w.cell? ⟨rb,1,none⟩=some (.int .i64 k)) (f1:w.frozen? ⟨rb,1,none⟩=false) :
  Calls Tryz.prog 208 #[.pointer (some ⟨rb,0,none⟩)] w (zA0 (rdU (b.drop k)) (.slice ba b.length bc) rb k w):=by
 obtain⟨R,hR⟩:=exq (rdU (b.drop k));rw[<-hR]
 have HR:Hid (R=(oJ0 (b.drop (k+0)) 0 0).map λx=>(x.1,x.2+0)):=by
  show R=_
  rw[hR];unfold rdU;rw[Nat.add_zero];show oJ0 (b.drop k) 0 0=_
  cases oJ0 (b.drop k) 0 0<;>rfl
 have HAT:=Ai ac;have HBA:=Ai hba;clear hR ac hba;go_enter Tryz.func208,Tryz.ntmps208
 go_wp2_with fail
 go_loopw [3,4] (λv s wr=>∃S q i acc:Nat,Hid (∃j,j<=9/\S=7*j)/\S<=63/\k+q=i/\i<=b.length/\v=.int .u64 acc/\s=.int .i64 (S:Nat)/\acc<2^S/\wr.cell? ⟨rb,0,none⟩=some (.slice ba b.length bc)/\wr.cell? ⟨rb,1,none⟩=some (.int .i64 (i:Int))/\wr.frozen? ⟨rb,1,none⟩=false/\EB rb w wr/\Hid (R=(oJ0 (b.drop i) S acc).map λx=>(x.1,x.2+q))) (λ_ s _=>64-(intOf s).toNat)
 case atStart=>exact⟨0,0,k,0,⟨0,by omega,rfl⟩,by omega,rfl,hk,rfl,rfl,by decide,c0,c1,f1,EB.refl _ _,HR.out⟩
 case round =>
  obtain⟨S,q,i,acc,hSj,hS,hqi,hq,rfl,rfl,bh,d0,d1,df,ck,ch⟩:=hrel;have z0:∀x:Ext aB wr.drew,x.u.cell? ⟨rb,0,none⟩=some (.slice ba b.length bc):=aG ((aB.drew wr).cell d0);have z1:∀x:Ext aB wr.drew,x.u.cell? ⟨rb,1,none⟩=some (.int .i64 (i:Int)):=aG ((aB.drew wr).cell d1);have rk:rb<=wr.heap.size:=Nat.le_of_lt (Af wr _ d0);by_cases ir:i<b.length
  ·obtain⟨c,hc⟩:∃c,b[i]?=some c:=⟨_,Ag ir⟩
   have cm:b.drop i=c::b.drop (i+1):=by
    rw[List.drop_eq_getElem_cons ir];rw[Ag ir]at hc;rw[Option.some.inj hc]
   obtain⟨bb,bo,rfl,im⟩:=HAT.out.get (aH ir);have mm:=HBA.out _ rfl (aH ir);simp only at mm
   have dc:wr.cell? ⟨bb,bo+i,none⟩=some (.int .u8 c.toNat):=by
    rw[Below.cell ck.1 (by exact mm)];simpa using im i c hc 0 _ rfl
   have hkq:(i:Int)<b.length:=by omega
   have xx:=c.toNat_lt;have y0:∀x:Ext aB wr.drew.drew,x.u.cell? ⟨rb,0,none⟩=some (.slice (some ⟨bb,bo,none⟩) b.length bc):=aG ((aB.drew wr).dr.cell d0);have y1:∀x:Ext aB wr.drew.drew,x.u.cell? ⟨rb,1,none⟩=some (.int .i64 (i:Int)):=aG ((aB.drew wr).dr.cell d1);have yc:∀x:Ext aB wr.drew.drew,x.u.cell? ⟨bb,bo+i,none⟩=some (.int .u8 c.toNat):=aG ((aB.drew wr).dr.cell dc);have rm:=ch.out;rw[cm]at rm;have HI:=Ai rm;clear ch rm cm hc im HR;go_wp2_with fail
   refine bP (bB 10 []) (by kernel_rfl) (λd _ _ _ _ h=>by cases d<;>exact h) ?_
   iterate 10 (refine aO rfl (λK hK=>?_);go_simp;refine hK _ ?_;clear hK K)
   refine bU ?_;clear z0 z1;go_wp2_with fail
   refine bP (bB 11 []) (by kernel_rfl) (λd _ _ _ _ h=>by cases d<;>exact h) ?_
   iterate 11 (refine aO rfl (λK hK=>?_);go_simp;refine hK _ ?_;clear hK K)
   refine bU ?_;clear y0 y1 yc;have bz:(wr.setCell ⟨rb,1,none⟩ (.int .i64 ((i:Int)+1))).drew.drew.cell? ⟨rb,1,none⟩=some (.int .i64 ((i:Int)+1)):=Ab _ _ _ d1;have acs:EB rb w (wr.setCell ⟨rb,1,none⟩ (.int .i64 ((i:Int)+1))).drew.drew:=EB.trans _ _ _ _ (EB.trans _ _ _ _ ck ⟨(Below.refl rb wr).setCell (p:=⟨rb,1,none⟩) (At rb) _,by simp⟩) (EB.of ((aB.drew _).dr) (by simpa using rk));have HC2:=Ai bz;have HE2:=Ai acs;have HD0:Hid ((wr.setCell ⟨rb,1,none⟩ (.int .i64 ((i:Int)+1))).drew.drew.cell? ⟨rb,0,none⟩=some (.slice (some ⟨bb,bo,none⟩) b.length bc)):=(Aa _ _ _ _ (λe=>by cases e)).trans d0;have HDF:Hid ((wr.setCell ⟨rb,1,none⟩ (.int .i64 ((i:Int)+1))).drew.drew.frozen? ⟨rb,1,none⟩=false):=(Ad _ _ _ _).trans df;clear bz acs;by_cases ee:(S=63/\1<c.toNat)\/(0<S/\c.toNat=0)
   ·have fp:R=none:=by
     rw[HI.out];unfold oJ0;rw[if_pos ee];rfl
    subst fp;clear HI;by_cases h9:S=63
    ·have ug:((S:Int)==63)=true:=by rw[beq_iff_eq];omega
     have b9:(0:Int)<S:=by omega
     by_cases h1:1<c.toNat
     ·have h1i:(1:Int)<c.toNat:=by omega
      clear ee h9;go_wp2_with fail
      exact⟨rfl,Or.inr ⟨rfl,rfl⟩,EB.trans _ _ _ _ ck (EB.of ((aB.drew wr).dr) rk)⟩
     ·have h1i:¬(1:Int)<c.toNat:=by omega
      have hz:(c.toNat:Int)=0:=by omega
      clear ee h9;go_wp2_with fail
      exact⟨rfl,Or.inr ⟨rfl,rfl⟩,EB.trans _ _ _ _ ck (EB.of ((aB.drew wr).dr) rk)⟩
    ·have ug:((S:Int)==63)=false:=by rw[beq_eq_false_iff_ne];omega
     have b9:(0:Int)<S:=by omega
     have hz:(c.toNat:Int)=0:=by omega
     clear ee h9;go_wp2_with fail
     exact⟨rfl,Or.inr ⟨rfl,rfl⟩,EB.trans _ _ _ _ ck (EB.of ((aB.drew wr).dr) rk)⟩
   ·have eu:c.toNat%128*2^S<18446744073709551616:=by
     by_cases h9:S=63
     ·have:c.toNat<=1:=by
       rcases Ah 1 c.toNat with h|h
       ·exact absurd (Or.inl ⟨h9,h⟩) ee
       ·exact h
      have h2:(2:Nat)^S=9223372036854775808:=by rw[h9]
      rw[h2];omega
     ·obtain⟨j,hj,aat⟩:=hSj.out
      have h2:(2:Nat)^S<=2^56:=Ae (by decide) (by omega);have h3:(2:Nat)^56=72057594037927936:=by decide
      have h4:c.toNat%128*2^S<=127*2^56:=Nat.mul_le_mul (by omega) h2;omega
    have pu:=vT0 bh hS eu xx;have HUP:=Ai pu;have xy:=HI.out;unfold oJ0 at xy;rw[if_neg ee]at xy;clear HI eu;by_cases hl:c.toNat<128
    ·rw[if_pos hl]at xy
     have aw:R=some (acc+c.toNat%128*2^S,q+1):=by
      rw[xy,Nat.mod_eq_of_lt hl,Ay q 1];rfl
     subst aw;clear xy pu;have hli:(c.toNat:Int)<128:=by omega
     by_cases h0:S=0
     ·have b9:¬(0:Int)<S:=by omega
      have ug:((S:Int)==63)=false:=by rw[beq_eq_false_iff_ne];omega
      clear ee h0;go_wp2_with fail
      go_ret;exact⟨Or.inl ⟨_,_,rfl,congrArg (λx=>Ending.returned (.int .u64 x)) HUP.out,by rw[HC2.out,<-hqi];push_cast;rw[An],HD0.out,HDF.out⟩,HE2.out⟩
     ·have b9:(0:Int)<S:=by omega
      have hz:¬(c.toNat:Int)=0:=by omega
      by_cases h9:S=63
      ·have ug:((S:Int)==63)=true:=by rw[beq_iff_eq];omega
       have h1i:¬(1:Int)<c.toNat:=by omega
       clear ee h9 h0;go_wp2_with fail
       go_ret;exact⟨Or.inl ⟨_,_,rfl,congrArg (λx=>Ending.returned (.int .u64 x)) HUP.out,by rw[HC2.out,<-hqi];push_cast;rw[An],HD0.out,HDF.out⟩,HE2.out⟩
      ·have ug:((S:Int)==63)=false:=by rw[beq_eq_false_iff_ne];omega
       clear ee h9 h0;go_wp2_with fail
       go_ret;exact⟨Or.inl ⟨_,_,rfl,congrArg (λx=>Ending.returned (.int .u64 x)) HUP.out,by rw[HC2.out,<-hqi];push_cast;rw[An],HD0.out,HDF.out⟩,HE2.out⟩
    ·rw[if_neg hl]at xy
     have xz:S≠63:=λh=>ee (Or.inl ⟨h,by omega⟩)
     have aat:Hid (∃j,j<=9/\S+7=7*j):=by
      obtain⟨j,hj,e⟩:=hSj.out;exact⟨j+1,by omega,by omega⟩
     have hS2:S+7<=63:=by
      obtain⟨j,hj,e⟩:=hSj.out;omega
     have hli:¬(c.toNat:Int)<128:=by omega
     have ug:((S:Int)==63)=false:=by rw[beq_eq_false_iff_ne];omega
     have x5:Hid (R=(oJ0 (b.drop (i+1)) (S+7) (acc+c.toNat%128*2^S)).map λx=>(x.1,x.2+(q+1))):=by
      show R=_
      rw[xy,Option.map_map];congr 1
      funext x
      simp only[Function.comp];congr 1
      omega
     have x7:acc+c.toNat%128*2^S<2^(S+7):=by
      have h1:(2:Nat)^(S+7)=128*2^S:=by rw[Ar,Al]
      have h2:(c.toNat%128+1)*2^S<=128*2^S:=Nat.mul_le_mul_right _ (by omega);rw[As]at h2;omega
     have HA:=Ai x7;clear x7 xy pu;by_cases h0:S=0
     ·have b9:¬(0:Int)<S:=by omega
      clear ee h0 xz;go_wp2_with fail
      go_roundw
      case rel=>exact⟨S+7,q+1,i+1,_,aat,hS2,by omega,ir,congrArg _ HUP.out,by first|rfl|go_num,HA.out,HD0.out,by rw[HC2.out];rfl,HDF.out,HE2.out,x5.out⟩
      case measure=>simp[intOf];omega
     ·have b9:(0:Int)<S:=by omega
      have hz:¬(c.toNat:Int)=0:=by omega
      clear ee h0 xz;go_wp2_with fail
      go_roundw
      case rel=>exact⟨S+7,q+1,i+1,_,aat,hS2,by omega,ir,congrArg _ HUP.out,by first|rfl|go_num,HA.out,HD0.out,by rw[HC2.out];rfl,HDF.out,HE2.out,x5.out⟩
      case measure=>simp[intOf];omega
  ·have i5:¬(i:Int)<b.length:=by omega
   have fp:R=none:=by rw[ch.out,List.drop_eq_nil_of_le (by omega)];rfl
   subst fp;clear ch HR;go_wp2_with fail
   refine bP (bB 10 []) (by kernel_rfl) (λd _ _ _ _ h=>by cases d<;>exact h) ?_
   iterate 10 (refine aO rfl (λK hK=>?_);go_simp;refine hK _ ?_;clear hK K)
   refine bU ?_;clear z0 z1;go_wp2_with fail
   exact⟨rfl,Or.inr ⟨rfl,rfl⟩,EB.trans _ _ _ _ ck (EB.of (aB.drew wr) rk)⟩
theorem eI0 {a b c:World} {B:Nat} (h:aB a b) (k:EB B b c) (hB:a.heap.size<=B):aB a c:=Below.trans h (Below.mono k.1 hB)
theorem cX {w w':World} {cs:Array Value} {t:TypeId} (hg:aB (w.alloc (.cells cs t)) w'):(∀j v,cs[j]?=some v->w'.cell? ⟨w.heap.size,j,none⟩=some v)/\(∀j,w'.frozen? ⟨w.heap.size,j,none⟩=false):=by
 refine⟨λj v h=>hg.cell (aM w cs t _ j v h),λj=>?_⟩;rw[hg.froz (by simp)]
 have hh:(w.alloc (.cells cs t)).heap[w.heap.size]?=some (.cells cs t (0,0)):=by
  show (w.heap.push _)[w.heap.size]?=_
  simp
 unfold World.frozen?;simp only[hh];simp
theorem pC0 (p0 p1 p2:Nat) (w:World) (li:List PanicEntry) (v0 v1 v2:Value) (c0:w.cell? ⟨p0,0,none⟩=some v0) (c1:w.cell? ⟨p1,0,none⟩=some v1) (c2:w.cell? ⟨p2,0,none⟩=some v2)
  (f0:w.frozen? ⟨p0,0,none⟩=false) (f1:w.frozen? ⟨p1,0,none⟩=false) (f2:w.frozen? ⟨p2,0,none⟩=false) (n01:p0≠p1) (n02:p0≠p2) (n12:p1≠p2) (B:Nat) (tz:B<=p0) (hB1:B<=p1) (ww:B<=p2) :
  CallsD Tryz.prog 264 #[.pointer (some ⟨p0,0,none⟩),.pointer (some ⟨p1,0,none⟩),.pointer (some ⟨p2,0,none⟩)] (.panicking ({ v:=dG0,recovered:=false }::li)) w λe u' w' =>
   e=.returned (.tuple #[])/\u' = .panicking ({ v:=dG0,recovered:=true }::li)/\w'.cell? ⟨p0,0,none⟩=some (.int .u64 0)/\w'.cell? ⟨p1,0,none⟩=some (.int .i64 0)/\w'.cell? ⟨p2,0,none⟩=some (.bool false)/\EB B w w':=by
 have hta:∀W:World,(Instr.typeAssert (.iface 339 (.agg #[])) 20 339 true).run Tryz.prog W=.ok (.tuple #[.agg #[],.bool true]) W:=λW=>by kernel_rfl
 have jg:=aB.alloc w (.cells #[] 339);have b0:=Af w _ c0;have b1:=Af w _ c1;have b2:=Af w _ c2;have d0:=jg.cell c0;have d1:=jg.cell c1;have d2:=jg.cell c2;have g0:=(jg.froz (p:=⟨p0,0,none⟩) b0).trans f0;have g1:=(jg.froz (p:=⟨p1,0,none⟩) b1).trans f1;have g2:=(jg.froz (p:=⟨p2,0,none⟩) b2).trans f2;have e1:(w.alloc (.cells #[] 339) |>.setCell ⟨p0,0,none⟩ (.int .u64 0)).cell? ⟨p1,0,none⟩=some v1:=(Aa _ _ _ _ (λe=>n01 (congrArg Ac e))).trans d1
 have e2:((w.alloc (.cells #[] 339) |>.setCell ⟨p0,0,none⟩ (.int .u64 0)).setCell ⟨p1,0,none⟩ (.int .i64 0)).cell? ⟨p2,0,none⟩=some v2:=(Aa _ _ _ _ (λe=>n12 (congrArg Ac e))).trans ((Aa _ _ _ _ (λe=>n02 (congrArg Ac e))).trans d2)
 refine callsD_of_wpS Tryz.func264 rfl λc₀ cs hu=>?_;apply wpS_seq
 apply wpS_region
 simp[wpOpsS,go_sem,recoverD,hu,Tryz.ntmps264,Exit.thenS,dG0]
 refine wpS_of_wp ?_;rw[show (#[Value.pointer (some ⟨p0,0,none⟩),.pointer (some ⟨p1,0,none⟩),.pointer (some ⟨p2,0,none⟩)]++(Av 11 undef).setIfInBounds 4 (.iface 339 (.agg #[]))) = #[.pointer (some ⟨p0,0,none⟩),.pointer (some ⟨p1,0,none⟩),.pointer (some ⟨p2,0,none⟩),undef,undef,undef,undef,.iface 339 (.agg #[]),undef,undef,undef,undef,undef,undef] from rfl]
 go_wp2
 have kv:(((w.setCell ⟨p0,0,none⟩ (.int .u64 0)).setCell ⟨p1,0,none⟩ (.int .i64 0)).setCell ⟨p2,0,none⟩ (.bool false)).cell? ⟨p0,0,none⟩=some (.int .u64 0):=by
  rw[Aa _ _ _ _ (λe=>n02 (congrArg Ac e).symm),Aa _ _ _ _ (λe=>n01 (congrArg Ac e).symm)];exact Ab _ _ _ c0
 have ed:(((w.setCell ⟨p0,0,none⟩ (.int .u64 0)).setCell ⟨p1,0,none⟩ (.int .i64 0)).setCell ⟨p2,0,none⟩ (.bool false)).cell? ⟨p1,0,none⟩=some (.int .i64 0):=by
  rw[Aa _ _ _ _ (λe=>n12 (congrArg Ac e).symm)];exact Ab _ _ _ ((Aa _ _ _ _ (λe=>n01 (congrArg Ac e))).trans c1)
 have ii:(((w.setCell ⟨p0,0,none⟩ (.int .u64 0)).setCell ⟨p1,0,none⟩ (.int .i64 0)).setCell ⟨p2,0,none⟩ (.bool false)).cell? ⟨p2,0,none⟩=some (.bool false) :=
  Ab _ _ _ ((Aa _ _ _ _ (λe=>n12 (congrArg Ac e))).trans ((Aa _ _ _ _ (λe=>n02 (congrArg Ac e))).trans c2))
 have gb:Below B w ((((w.setCell ⟨p0,0,none⟩ (.int .u64 0)).setCell ⟨p1,0,none⟩ (.int .i64 0)).setCell ⟨p2,0,none⟩ (.bool false)).alloc (.cells #[] 339)):=((((Below.refl B w).setCell (p:=⟨p0,0,none⟩) tz _).setCell (p:=⟨p1,0,none⟩) hB1 _).setCell (p:=⟨p2,0,none⟩) ww _).alloc (by simp;omega) _;have js:=aB.alloc (((w.setCell ⟨p0,0,none⟩ (.int .u64 0)).setCell ⟨p1,0,none⟩ (.int .i64 0)).setCell ⟨p2,0,none⟩ (.bool false)) (.cells #[] 339);have k0:=js.cell kv;have k1:=js.cell ed;have k2:=js.cell ii;have ck:EB B w ((((w.setCell ⟨p0,0,none⟩ (.int .u64 0)).setCell ⟨p1,0,none⟩ (.int .i64 0)).setCell ⟨p2,0,none⟩ (.bool false)).alloc (.cells #[] 339)):=⟨gb,gb.size⟩;exact⟨rfl,_,rfl,_,results_none rfl _ _ _,rfl,rfl,k0,k1,k2,ck⟩
theorem zD0 (p0 p1 p2:Nat) (w:World) :
  CallsD Tryz.prog 264 #[.pointer (some ⟨p0,0,none⟩),.pointer (some ⟨p1,0,none⟩),.pointer (some ⟨p2,0,none⟩)] .returning w λe u' w'=>e=.returned (.tuple #[])/\u' = .returning/\w'=w:=by
 refine callsD_of_wpS Tryz.func264 rfl λc₀ cs hu=>?_;apply wpS_seq
 apply wpS_region
 simp[wpOpsS,go_sem,recoverD,hu,Tryz.ntmps264,Exit.thenS]
 refine wpS_of_wp ?_;rw[show (#[Value.pointer (some ⟨p0,0,none⟩),.pointer (some ⟨p1,0,none⟩),.pointer (some ⟨p2,0,none⟩)]++(Av 11 undef).setIfInBounds 4 .nilIface) = #[.pointer (some ⟨p0,0,none⟩),.pointer (some ⟨p1,0,none⟩),.pointer (some ⟨p2,0,none⟩),undef,undef,undef,undef,.nilIface,undef,undef,undef,undef,undef,undef] from rfl]
 go_wp2
 cases c₀
 simp only at hu;subst hu;exact⟨rfl,_,rfl,_,results_none rfl _ _ _,rfl,rfl,rfl⟩
def cS1 (K:Act->World->Prop):Exit->Act->World->Prop
 | .normal,a,w=>K a w
 | _,_,_=>False
theorem tD (K:Act->World->Prop) (a:Act) (w:World):cS1 K .normal a w=K a w:=rfl
theorem iZ0 {P:Program} {c:Code} {K:Act->World->Prop} {Q:Exit->Act->World->Prop} {a:Act} {w:World} (h:c.wp P (cS1 K) a w):c.wp P (Exit.then K Q) a w:=λb k cs=>by
 obtain⟨e,a',w',q,r⟩:=h b k cs;refine⟨e,a',w',?_,r⟩;cases e<;>first|exact q|exact q.elim
def sR0 (k:Nat):Option (Nat×Nat)->Value
 | some (v,n) => .tuple #[.int .u64 v,.int .i64 ((k+n:Nat):Int),.bool true]
 | none => .tuple #[.int .u64 0,.int .i64 0,.bool false]
def ES (b:Nat) (v:Value) (w w':World):Prop :=
 (Below b w w'/\w.heap.size<=w'.heap.size)/\(∀(p:Addr) (u:Value),p.block≠b->w.cell? p=some u->w'.cell? p=some u)/\(∀p:Addr,p.block≠b->p.block<w.heap.size->w'.frozen? p=w.frozen? p)/\(w.cell? ⟨b,0,none⟩=some v->w'.cell? ⟨b,0,none⟩=some v)/\(b<w.heap.size->w'.frozen? ⟨b,0,none⟩=w.frozen? ⟨b,0,none⟩)
theorem ES.refl (b:Nat) (v:Value) (w:World):ES b v w w:=⟨⟨Below.refl _ _,At _⟩,λ_ _ _ h=>h,λ_ _ _=>rfl,λh=>h,λ_=>rfl⟩
theorem ES.trans (b:Nat) (v:Value) (x y z:World) (h:ES b v x y) (k:ES b v y z):ES b v x z :=
 ⟨⟨Below.trans h.1.1 k.1.1,Nat.le_trans h.1.2 k.1.2⟩,λp u hp hc=>k.2.1 p u hp (h.2.1 p u hp hc),λp hp hl=>(k.2.2.1 p hp (Ap hl h.1.2)).trans (h.2.2.1 p hp hl),λhc=>k.2.2.2.1 (h.2.2.2.1 hc),λhl=>(k.2.2.2.2 (Ap hl h.1.2)).trans (h.2.2.2.2 hl)⟩
instance (b:Nat) (v:Value) (w:World):Nonempty (Ext (ES b v) w):=⟨⟨w,ES.refl _ _ _⟩⟩
theorem ES.put {b:Nat} {v:Value} {w:World} (hc:w.cell? ⟨b,0,none⟩=some v):ES b v w (w.setCell ⟨b,0,none⟩ v) :=
 ⟨⟨(Below.refl b w).setCell (p:=⟨b,0,none⟩) (At b) v,by simp⟩,λp u hp h=>by rw[Aa _ _ _ _ (λe=>hp (by rw[<-e]))];exact h,λp _ _=>Ad _ _ _ _,λ_=>Ab _ _ _ hc,λ_=>Ad _ _ _ _⟩
structure RdB (w:World) (s:Value) (k:Int) (W:World):Prop where
 g:aB w W
 sz:w.heap.size+1+1+1<W.heap.size
 c0:W.cell? ⟨w.heap.size,0,none⟩=some (.int .u64 0)
 f0:W.frozen? ⟨w.heap.size,0,none⟩=false
 c1:W.cell? ⟨w.heap.size+1,0,none⟩=some (.int .i64 0)
 f1:W.frozen? ⟨w.heap.size+1,0,none⟩=false
 c2:W.cell? ⟨w.heap.size+1+1,0,none⟩=some (.bool false)
 f2:W.frozen? ⟨w.heap.size+1+1,0,none⟩=false
 r0:W.cell? ⟨w.heap.size+1+1+1,0,none⟩=some s
 r1:W.cell? ⟨w.heap.size+1+1+1,1,none⟩=some (.int .i64 k)
 rf:W.frozen? ⟨w.heap.size+1+1+1,1,none⟩=false
theorem rdB (w:World) (s:Value) (k:Int):RdB w s k ((((w.alloc (.cells #[.int .u64 0] 213)).alloc (.cells #[.int .i64 0] 3)).alloc (.cells #[.bool false] 4)).alloc (.cells #[s,.int .i64 k] 341)):=by
 have e1:(w.alloc (.cells #[.int .u64 0] 213)).heap.size=w.heap.size+1:=by simp
 have e2:((w.alloc (.cells #[.int .u64 0] 213)).alloc (.cells #[.int .i64 0] 3)).heap.size=w.heap.size+1+1:=by simp
 have e3:(((w.alloc (.cells #[.int .u64 0] 213)).alloc (.cells #[.int .i64 0] 3)).alloc (.cells #[.bool false] 4)).heap.size=w.heap.size+1+1+1:=by simp
 have b0:=cX (w:=w) (cs:=#[.int .u64 0]) (t:=213) (w':=((((w.alloc (.cells #[.int .u64 0] 213)).alloc (.cells #[.int .i64 0] 3)).alloc (.cells #[.bool false] 4)).alloc (.cells #[s,.int .i64 k] 341))) (((aB.alloc _ _).al _).al _);have b1:=cX (w:=w.alloc (.cells #[.int .u64 0] 213)) (cs:=#[.int .i64 0]) (t:=3) (w':=((((w.alloc (.cells #[.int .u64 0] 213)).alloc (.cells #[.int .i64 0] 3)).alloc (.cells #[.bool false] 4)).alloc (.cells #[s,.int .i64 k] 341))) ((aB.alloc _ _).al _);have b2:=cX (w:=(w.alloc (.cells #[.int .u64 0] 213)).alloc (.cells #[.int .i64 0] 3)) (cs:=#[.bool false]) (t:=4) (w':=((((w.alloc (.cells #[.int .u64 0] 213)).alloc (.cells #[.int .i64 0] 3)).alloc (.cells #[.bool false] 4)).alloc (.cells #[s,.int .i64 k] 341))) (aB.alloc _ _);have b3:=cX (w:=((w.alloc (.cells #[.int .u64 0] 213)).alloc (.cells #[.int .i64 0] 3)).alloc (.cells #[.bool false] 4)) (cs:=#[s,.int .i64 k]) (t:=341) (w':=((((w.alloc (.cells #[.int .u64 0] 213)).alloc (.cells #[.int .i64 0] 3)).alloc (.cells #[.bool false] 4)).alloc (.cells #[s,.int .i64 k] 341))) (aB.refl _);rw[e1]at b1;rw[e2]at b2;rw[e3]at b3;exact⟨(((aB.alloc _ _).al _).al _).al _,by simp,b0.1 0 _ rfl,b0.2 0,b1.1 0 _ rfl,b1.2 0,b2.1 0 _ rfl,b2.2 0,b3.1 0 _ rfl,b3.1 1 _ rfl,b3.2 1⟩
theorem xZ0 (b:List UInt8) (k:Nat) (ba:Option Addr) (bc:Nat) (w:World) (hk:k<=b.length) (hb:b.length<=1099511627776) (ac:aF w ba 1 (b.map aV)) :
  Calls Tryz.prog 207 #[.slice ba b.length bc,.int .i64 k,.func (.func 208) #[] #[]] w λe w'=>e=.returned (sR0 k (rdU (b.drop k)))/\aB w w':=by
 have hmf:∀(fn:Fn) (first cap:Array Value) (w:World),(Instr.makeFunc fn first cap).run Tryz.prog w=.ok (.func fn first cap) w:=λ_ _ _ _=>rfl
 have kp:¬(k:Int)<0:=by omega
 have HAT:=Ai ac
 have HBA:Hid (∀q:Addr,ba=some q->b≠[]->q.block<w.heap.size):=λq hq ai=>by
  obtain⟨x,hx⟩:∃x,b[0]?=some x:=⟨_,Ag (List.length_pos_iff.2 ai)⟩;obtain⟨bb,bo,e,im⟩:=ac.get ai;rw[e]at hq;cases hq
  exact Af _ _ (im 0 x hx 0 _ rfl)
 obtain⟨R,hR⟩:=exq (rdU (b.drop k));have HR:=Ai hR;rw[<-hR];clear hR ac;go_enter_defers Tryz.func207,Tryz.ntmps207
 go_wp2_with fail
 have hB:=rdB w (.slice ba b.length bc) k;generalize ((((w.alloc (.cells #[Value.int .u64 0] 213)).alloc (.cells #[.int .i64 0] 3)).alloc (.cells #[.bool false] 4)).alloc (.cells #[Value.slice ba b.length bc,.int .i64 k] 341))=W4 at *;refine(rR0 b _ k ba bc W4 hk hb (HAT.out.grows hB.g) (λq hq ai=>Nat.lt_trans (HBA.out q hq ai) (by omega)) hB.r0 hB.r1 hB.rf).mono ?_;rintro e w5 ⟨jx,ck⟩;rw[<-HR.out]at jx;have hs5:=ck.2;have cw:=hB.sz;have c0:w5.cell? ⟨w.heap.size,0,none⟩=_:=(Below.cell ck.1 (by simp only;omega)).trans hB.c0;have c1:w5.cell? ⟨w.heap.size+1,0,none⟩=_:=(Below.cell ck.1 (by simp only;omega)).trans hB.c1;have c2:w5.cell? ⟨w.heap.size+1+1,0,none⟩=_:=(Below.cell ck.1 (by simp only;omega)).trans hB.c2;have f0:w5.frozen? ⟨w.heap.size,0,none⟩=_:=(Below.frozen ck.1 (by simp only;omega)).trans hB.f0;have f1:w5.frozen? ⟨w.heap.size+1,0,none⟩=_:=(Below.frozen ck.1 (by simp only;omega)).trans hB.f1;have f2:w5.frozen? ⟨w.heap.size+1+1,0,none⟩=_:=(Below.frozen ck.1 (by simp only;omega)).trans hB.f2;have bk:aB w w5:=eI0 hB.g ck (by omega);rcases jx with ⟨v,n,rfl,rfl,hc,_,_⟩|⟨rfl,rfl⟩
 ·have g0:(w5.setCell ⟨w.heap.size,0,none⟩ (.int .u64 v)).cell? ⟨w.heap.size,0,none⟩=some (.int .u64 v):=Ab _ _ _ c0
  have g1:(w5.setCell ⟨w.heap.size,0,none⟩ (.int .u64 v)).cell? ⟨w.heap.size+1,0,none⟩=some (.int .i64 0):=(Aa _ _ _ _ (λe=>by have:=congrArg Ac e;simp only at this;omega)).trans c1;have g2:(w5.setCell ⟨w.heap.size,0,none⟩ (.int .u64 v)).cell? ⟨w.heap.size+1+1,0,none⟩=some (.bool false):=(Aa _ _ _ _ (λe=>by have:=congrArg Ac e;simp only at this;omega)).trans c2;have g3:(w5.setCell ⟨w.heap.size,0,none⟩ (.int .u64 v)).cell? ⟨w.heap.size+1+1+1,1,none⟩=some (.int .i64 ((k+n:Nat):Int)):=(Aa _ _ _ _ (λe=>by have:=congrArg Ac e;simp only at this;omega)).trans hc
  have gg:∀j,j=w.heap.size\/j=w.heap.size+1\/j=w.heap.size+1+1->(w5.setCell ⟨w.heap.size,0,none⟩ (.int .u64 v)).frozen? ⟨j,0,none⟩=false:=λj hj=>by
   rw[Ad];rcases hj with rfl|rfl|rfl
   ·exact f0
   ·exact f1
   ·exact f2
  obtain⟨K,l9⟩:=exq (k+n);rw[<-l9]at g3 hc;have HK2:=Ai l9;clear l9;have hgp:aB w (w5.setCell ⟨w.heap.size,0,none⟩ (.int .u64 v)):=bk.set (by simp only;omega) _;have hsp:w.heap.size+1+1+1<(w5.setCell ⟨w.heap.size,0,none⟩ (.int .u64 v)).heap.size:=by simp;omega
  clear HR hB ck c1 c2 f1 f2 hc bk;go_wp2_with fail
  clear c0 f0;generalize (w5.setCell ⟨w.heap.size,0,none⟩ (.int .u64 v))=w6 at *;have z0:∀x:Ext (ES w.heap.size (.int .u64 v)) w6.drew,x.u.cell? ⟨w.heap.size,0,none⟩=some (.int .u64 v):=λx=>x.h.2.2.2.1 ((aB.drew _).cell g0);have z3:∀x:Ext (ES w.heap.size (.int .u64 v)) w6.drew,x.u.cell? ⟨w.heap.size+1+1+1,1,none⟩=some (.int .i64 (K:Int)):=λx=>x.h.2.1 _ _ (by simp only;omega) ((aB.drew _).cell g3);have x0:w6.drew.cell? ⟨w.heap.size,0,none⟩=some (.int .u64 v):=g0;have xf:w6.drew.frozen? ⟨w.heap.size,0,none⟩=false:=gg _ (Or.inl rfl);refine iZ0 ?_;refine eL0 (ES w.heap.size (.int .u64 v)) 6 (bB 6 [5]) (ES.refl _ _) (ES.trans _ _) (by kernel_rfl) (by kernel_rfl) (λ_ _ _ _ _ h=>h) ?_;iterate 5 (refine aO rfl (λK hK=>?_);go_simp;refine hK _ ?_;clear hK K)
  refine cH rfl rfl (λK hK=>?_);go_simp;refine⟨ES.put x0,hK _ _ ?_⟩;clear hK K;refine bU ?_;simp only[List.drop_succ_cons,List.drop_zero];clear z0 z3;have n0:=g0;have y0:(w6.setCell ⟨w.heap.size,0,none⟩ (.int .u64 v)).cell? ⟨w.heap.size,0,none⟩=some (.int .u64 v):=Ab _ _ _ g0;have y1:(w6.setCell ⟨w.heap.size,0,none⟩ (.int .u64 v)).cell? ⟨w.heap.size+1,0,none⟩=some (.int .i64 0):=(Aa _ _ _ _ (λe=>by have:=congrArg Ac e;simp only at this;omega)).trans g1;have y2:(w6.setCell ⟨w.heap.size,0,none⟩ (.int .u64 v)).cell? ⟨w.heap.size+1+1,0,none⟩=some (.bool false):=(Aa _ _ _ _ (λe=>by have:=congrArg Ac e;simp only at this;omega)).trans g2;have yg:aB w (w6.setCell ⟨w.heap.size,0,none⟩ (.int .u64 v)):=hgp.set (by simp only;omega) _;have yf1:(w6.setCell ⟨w.heap.size,0,none⟩ (.int .u64 v)).frozen? ⟨w.heap.size+1,0,none⟩=false:=(Ad _ _ _ _).trans (gg _ (Or.inr (Or.inl rfl)));have yf2:(w6.setCell ⟨w.heap.size,0,none⟩ (.int .u64 v)).frozen? ⟨w.heap.size+1+1,0,none⟩=false:=(Ad _ _ _ _).trans (gg _ (Or.inr (Or.inr rfl)));clear x0 xf g0 g1 g2 g3 gg n0;generalize w6.setCell ⟨w.heap.size,0,none⟩ (.int .u64 v)=w7 at *
  have k1:((w7.setCell ⟨w.heap.size+1,0,none⟩ (.int .i64 K)).setCell ⟨w.heap.size+1+1,0,none⟩ (.bool true)).drew.cell? ⟨w.heap.size+1,0,none⟩=some (.int .i64 K):=by
   refine(Aa _ _ _ _ (λe=>by have:=congrArg Ac e;simp only at this;omega)).trans ?_;exact Ab _ _ _ y1
  have y2':(w7.setCell ⟨w.heap.size+1,0,none⟩ (.int .i64 K)).cell? ⟨w.heap.size+1+1,0,none⟩=some (.bool false):=by
   rw[Aa _ _ _ _ (λe=>by have:=congrArg Ac e;simp only at this;omega)];exact y2
  have k2:((w7.setCell ⟨w.heap.size+1,0,none⟩ (.int .i64 K)).setCell ⟨w.heap.size+1+1,0,none⟩ (.bool true)).drew.cell? ⟨w.heap.size+1+1,0,none⟩=some (.bool true):=Ab _ _ _ y2'
  have k0:((w7.setCell ⟨w.heap.size+1,0,none⟩ (.int .i64 K)).setCell ⟨w.heap.size+1+1,0,none⟩ (.bool true)).drew.cell? ⟨w.heap.size,0,none⟩=some (.int .u64 v):=by
   refine(Aa _ _ _ _ (λe=>by have:=congrArg Ac e;simp only at this;omega)).trans ?_;refine(Aa _ _ _ _ (λe=>by have:=congrArg Ac e;simp only at this;omega)).trans ?_;exact y0
  have kg:aB w ((w7.setCell ⟨w.heap.size+1,0,none⟩ (.int .i64 K)).setCell ⟨w.heap.size+1+1,0,none⟩ (.bool true)).drew:=((yg.set (by simp only;omega) _).set (by simp only;omega) _).dr;go_wp2_with fail
  simp only[tD];go_wp2_with fail
  refine leaves_cons (f:=264) (args:=#[.pointer (some ⟨w.heap.size,0,none⟩),.pointer (some ⟨w.heap.size+1,0,none⟩),.pointer (some ⟨w.heap.size+1+1,0,none⟩)]) (by simp) (by simp[go_sem]) ?_
  refine(zD0 _ _ _ _).mono ?_;rintro e u' gl ⟨rfl,rfl,rfl⟩;show Leaves _ _ _ _ _ _ _
  simp only[settle];refine⟨.tuple #[.int .u64 v,.int .i64 K,.bool true],?_,by rw[HK2.out];rfl,kg⟩;simp[results,Tryz.results207,go_sem,k0,k1,k2]
 ·clear HR hB ck
  go_wp2_with fail
  refine leaves_cons (f:=264) (args:=#[.pointer (some ⟨w.heap.size,0,none⟩),.pointer (some ⟨w.heap.size+1,0,none⟩),.pointer (some ⟨w.heap.size+1+1,0,none⟩)]) (by simp) (by simp[go_sem]) ?_
  refine(pC0 w.heap.size (w.heap.size+1) (w.heap.size+1+1) w5 [] _ _ _ c0 c1 c2 f0 f1 f2 (by omega) (by omega) (by omega) w.heap.size (by omega) (by omega) (by omega)).mono ?_;rintro e u' gl ⟨rfl,rfl,k0,k1,k2,aau⟩;have kg:aB w gl:=EB.grows bk aau;show Leaves _ _ _ _ _ _ _
  simp only[settle];refine⟨.tuple #[.int .u64 0,.int .i64 0,.bool false],?_,rfl,kg⟩;simp[results,Tryz.results207,go_sem,k0,k1,k2]
end
section
open Go Go.RowKit
theorem Mx.set_at {m:Mx} {i:Nat} (hi:i<m.n*m.n) (c:Int):(m.set (dW m.n i) c).cs=m.cs.set i c:=by
 show m.cs.set (at2 m.n (dW m.n i)) c=_
 rw[(iQ hi).2]
theorem zE0 {m:Mx} {i:Nat} {c:Int} (hi:i<m.n*m.n) (hc:isC c=true):m.setB (dW m.n i) c=true:=by
 unfold Mx.setB;rw[(iQ hi).1,hc];rfl
def bQ0 (M:Mx) (j:Nat):Mx:=⟨M.n,M.d,(Aw (M.n*M.n)).map λi=>if i<j then M.cs.getD i 0 else M.d⟩
theorem yU0 {M:Mx} (hM:M.OK) {j:Nat} (h:∀i,j<=i->i<M.n*M.n->M.cs.getD i 0=M.d):bQ0 M j=M:=by
 obtain⟨n,d,cs⟩:=M;have hl:cs.length=n*n:=hM.len;show Mx.mk n d _=_
 congr 1
 apply Ak
 grind
theorem rJ0 {M:Mx}:bQ0 M 0=newM M.n M.d:=by
 unfold bQ0 newM;simp only[Int.toNat_natCast,Nat.not_lt_zero,if_false,Mx.mk.injEq,true_and];apply Ak
 grind
theorem xG0 {M:Mx} {i j:Nat} (hi:i<M.n*M.n) (hj:j<=i) (h:∀a,j<=a->a<i->M.cs.getD a 0=M.d):(bQ0 M j).set (dW M.n i) (M.cs.getD i 0)=bQ0 M (i+1):=by
 have e:((bQ0 M j).set (dW M.n i) (M.cs.getD i 0)).cs=(bQ0 M (i+1)).cs:=by
  have e0:((bQ0 M j).set (dW M.n i) (M.cs.getD i 0)).cs=(bQ0 M j).cs.set i (M.cs.getD i 0):=Mx.set_at (m:=bQ0 M j) hi _;rw[e0];apply Ak
  intro a;show (List.set (Ba (λi=>if i<j then M.cs.getD i 0 else M.d) (Aw (M.n*M.n))) i _)[a]?=(Ba (λa=>if a<i+1 then M.cs.getD a 0 else M.d) (Aw (M.n*M.n)))[a]?
  rw[List.getElem?_set,Aj,Aj,Au,List.length_range];by_cases ha:a<M.n*M.n
  ·grind
  ·simp_all
 show Mx.mk _ _ _=Mx.mk _ _ _
 exact congrArg _ e
theorem vT {M:Mx} {i:Nat} (hi:i<M.n*M.n) (h:i∉M.idx):M.cs.getD i 0=M.d:=by
 rw[Mx.mem_idx]at h;omega
end
end Go.Proofs.YthgklnohcmaopaaGreatDoor
