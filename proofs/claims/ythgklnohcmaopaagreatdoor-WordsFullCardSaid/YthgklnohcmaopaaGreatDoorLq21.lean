/- The texts EncP RdU RefRd W12 RdN RdC RdU1 DecM, one behind the other. -/
import Derived.Test.YthgklnohcmaopaaGreatDoorLq2
import Derived.Test.YthgklnohcmaopaaGreatDoorLq20
import Derived.Laws.BitsAllLaws
import Derived.Recover
open Go.World renaming cell?_setCell_other → Aa,cell?_setCell_same → Ab,frozen?_setCell → Ad,block_lt_of_cell? → Af
open Go.Addr renaming block → Ac
open Nat renaming pow_le_pow_right → Ae,lt_or_ge → Ak,mul_comm → Aq,lt_of_lt_of_le → Av,pow_add → Ax,add_mul → Ay,le_refl → Az,mul_le_mul → Be,mul_assoc → Bi,add_comm → Bj
open List renaming getElem?_eq_getElem → Ag,length → Ah,length_append → Ai,length_drop → Aj,getD_eq_getElem?_getD → Am,getElem?_map → An,ext_getElem? → Ao,pairwise_append → As,cons_append → Aw,length_map → Ba,nil_append → Bb,length_nil → Bd,drop_drop → Bf,drop_left → Bg,range → Bh,map → Bn
open Go.Lib renaming hid → Al,size_eq → Bk
open Int renaming toNat_natCast → Ap,add_assoc → At
open UInt8 renaming ofNat → Ar,toNat_ofNat' → Au
open Array renaming replicate → Bc
set_option maxHeartbeats 4000000
namespace Go.Proofs.YthgklnohcmaopaaGreatDoor
set_option maxRecDepth 100000
section
open Go Go.RowKit
def pC (m:Mx):Int->List Nat->List UInt8
 | _,[]=>[]
 | last,i::r=>putU ((i:Int)-last).toNat++(putU (m.cs.getD i 0).toNat++pC m i r)
def Mx.enc (m:Mx):List UInt8:=putU m.n++(putU m.d.toNat++(putU m.idx.length++pC m (-1) m.idx))
theorem Mx.idx_len {m:Mx} (h:m.OK):m.idx.length<=4096:=by have:=Mx.pairs_len h; unfold Mx.pairs at this; rwa [Ba]at this
theorem Mx.idx_get {m:Mx} (h:m.OK) {k i:Nat} (hi:m.idx[k]?=some i):i<m.n*m.n/\m.pairs[k]?=some (eE m.n i)/\0<=m.cs.getD i 0/\m.cs.getD i 0<=30000/\m.cost (eE m.n i)=m.cs.getD i 0:=by
 have hm:=Mx.mem_idx.1 (List.mem_of_getElem? hi);obtain⟨h1,h2⟩:=kV hm.1;have h3:m.cost (eE m.n i)=m.cs.getD i 0:=by unfold Mx.cost;rw[if_pos h1,h2]
 have h4:=Mx.cost_ok h (eE m.n i);rw[h3]at h4;exact⟨hm.1,by unfold Mx.pairs;rw[An,hi];rfl,h4.1,h4.2,h3⟩
theorem Mx.idx_up {m:Mx}:m.idx.Pairwise (· < ·):=List.Pairwise.filter _ List.pairwise_lt_range
theorem tP {n:Nat} (h:128<=n) (hn:n<18446744073709551616):putU n=Ar (n%128+128)::putU (n/128):=by
 have h1:putU n=Ar (n%128+128)::tM 9 (n/128):=by
  show (if n<128 then [Ar n] else Ar (n%128+128)::tM 9 (n/128))=_
  rw[if_neg (by omega)]
 have h2:n/128<128^9:=by
  have:(128:Nat)^9=9223372036854775808:=by decide
  omega
 rw[h1];unfold putU;rw[uM 9 10 (n/128) h2 (by omega) (by omega)]
theorem pY (n:Nat):putU n≠[]:=by
 unfold putU tM;split<;>simp
def wO0:List UInt8->Nat->Nat->Option (Nat×Nat)
 | [],_,_=>none
 | c::r,s,bk =>
  if (s=63/\1<c.toNat)\/(0<s/\c.toNat=0) then none
  else if c.toNat<128 then some (bk+c.toNat*2^s,1)
  else (wO0 r (s+7) (bk+(c.toNat%128)*2^s)).map λx=>(x.1,x.2+1)
def rdU (l:List UInt8):Option (Nat×Nat):=wO0 l 0 0
theorem qX0:∀(l:List UInt8) (j bk v k:Nat),j<=9->(wO0 l (7*j) bk=some (v,k) ↔
  ∃n r,n<2^(64-7*j)/\(0<j->0<n)/\v=bk+n*2^(7*j)/\l=putU n++r/\k=(putU n).length)
 | [],j,bk,v,k,hj=>by
  constructor
  ·intro h;cases h
  ·rintro⟨n,r,_,_,_,h,_⟩
   have:=congrArg Ah h
   have h2:=pY n
   cases hp:putU n with
   | nil=>exact absurd hp h2
   | cons a b=>rw[hp]at this;simp at this
 | c::r,j,bk,v,k,hj=>by
  have hc:=c.toNat_lt;have mm:(2:Nat)^64=18446744073709551616:=by decide
  have head:∀n r',n<2^(64-7*j)->c::r=putU n++r'->(n<128->c.toNat=n/\r=r')/\(128<=n->c.toNat=n%128+128/\r=putU (n/128)++r'):=by
   intro n r' hn e
   have um:n<18446744073709551616:=by
    have:(2:Nat)^(64-7*j)<=2^64:=Ae (by decide) (by omega)
    omega
   constructor
   ·intro h
    rw[kN h]at e;simp only[Aw,Bb,List.cons.injEq]at e;refine⟨?_,e.2⟩;rw[e.1,Au];omega
   ·intro h
    rw[tP h um]at e;simp only[Aw,List.cons.injEq]at e;refine⟨?_,e.2⟩;rw[e.1,Au];omega
  show (if (7*j=63/\1<c.toNat)\/(0<7*j/\c.toNat=0) then none
   else if c.toNat<128 then some (bk+c.toNat*2^(7*j),1)
   else (wO0 r (7*j+7) (bk+(c.toNat%128)*2^(7*j))).map λx=>(x.1,x.2+1))=some (v,k)↔_
  by_cases hb:(7*j=63/\1<c.toNat)\/(0<7*j/\c.toNat=0)
  ·rw[if_pos hb]
   constructor
   ·intro h;cases h
   ·rintro⟨n,r',hn,dn,_,e,_⟩
    obtain⟨h1,h2⟩:=head n r' hn e;exfalso
    rcases hb with ⟨eo,cy⟩|⟨eo,cy⟩
    ·obtain rfl:j=9:=by omega
     have od:n<2:=by simpa using hn
     have:=(h1 (by omega)).1
     omega
    ·have hp:=dn (by omega)
     rcases Ak n 128 with h|h
     ·have:=(h1 h).1;omega
     ·have:=(h2 h).1;omega
  ·rw[if_neg hb]
   by_cases hs:c.toNat<128
   ·rw[if_pos hs]
    constructor
    ·intro h
     simp only[Option.some.injEq,Prod.mk.injEq]at h;refine⟨c.toNat,r,?_,λ_=>by omega,h.1.symm,?_,?_⟩
     ·by_cases h9:j=9
      ·subst h9
       have:¬1<c.toNat:=λh=>hb (Or.inl ⟨rfl,h⟩)
       show c.toNat<2
       omega
      ·have:(2:Nat)^8<=2^(64-7*j):=Ae (by decide) (by omega)
       have h8:(2:Nat)^8=256:=by decide
       omega
     ·rw[kN hs];simp
     ·rw[kN hs];simp;omega
    ·rintro⟨n,r',hn,dn,hv,e,hk⟩
     obtain⟨h1,h2⟩:=head n r' hn e
     have pg:n<128:=by
      rcases Ak n 128 with h|h
      ·exact h
      ·have:=(h2 h).1;omega
     rw[(h1 pg).1,hv,hk,kN pg];rfl
   ·rw[if_neg hs]
    have hj8:j<=8:=by
     rcases Ak j 9 with h|h
     ·omega
     ·exact absurd (Or.inl ⟨by omega,by omega⟩) hb
    have aew:(2:Nat)^(7*(j+1))=128*2^(7*j):=by rw[Nat.mul_add,Ax,Aq]
    have aex:(2:Nat)^(64-7*j)=128*2^(64-7*(j+1)):=by
     rw[show 64-7*j=7+(64-7*(j+1)) by omega,Ax]
    have IH:=qX0 r (j+1) (bk+(c.toNat%128)*2^(7*j));rw[show 7*(j+1)=7*j+7 by omega]at IH
    constructor
    ·intro h
     cases hr:wO0 r (7*j+7) (bk+(c.toNat%128)*2^(7*j)) with
     | none=>rw[hr]at h;cases h
     | some x =>
      obtain⟨v',k'⟩:=x;rw[hr]at h;simp only[Option.map_some,Option.some.injEq,Prod.mk.injEq]at h;obtain⟨rfl,rfl⟩:=h;obtain⟨n',r',hn',aea,hv',hl',hk'⟩:=(IH v' k' (by omega)).1 hr;have hp':=aea (by omega);rw[show 7*j+7=7*(j+1) by omega]at hv' hn'
      have cu:128<=n'*128+c.toNat%128:=by omega
      have hn:n'*128+c.toNat%128<2^(64-7*j):=by rw[aex];omega
      have um:n'*128+c.toNat%128<18446744073709551616:=by
       have:(2:Nat)^(64-7*j)<=2^64:=Ae (by decide) (by omega)
       omega
      have aey:putU (n'*128+c.toNat%128)=c::putU n':=by
       rw[tP cu um];have e1:(n'*128+c.toNat%128)/128=n':=by omega
       have e2:(n'*128+c.toNat%128)%128+128=c.toNat:=by omega
       rw[e1,e2];simp
      refine⟨n'*128+c.toNat%128,r',hn,λ_=>by omega,?_,?_,?_⟩
      ·rw[hv',aew,Ay,Bi];omega
      ·rw[aey,hl'];simp
      ·rw[aey,hk'];simp
    ·rintro⟨n,r',hn,dn,hv,e,hk⟩
     obtain⟨h1,h2⟩:=head n r' hn e
     have pg:128<=n:=by
      rcases Ak n 128 with h|h
      ·have:=(h1 h).1;omega
      ·exact h
     obtain⟨g1,g2⟩:=h2 pg
     have um:n<18446744073709551616:=by
      have:(2:Nat)^(64-7*j)<=2^64:=Ae (by decide) (by omega)
      omega
     have hr:=(IH v (putU (n/128)).length (by omega)).2 ⟨n/128,r',by rw[show 7*j+7=7*(j+1) by omega];rw[aex]at hn;omega,λ_=>by omega,by
      rw[show 7*j+7=7*(j+1) by omega,aew,hv,<-Bi,show c.toNat%128=n%128 by omega]
      have:=Nat.div_add_mod n 128
      have h3:n*2^(7*j)=(n/128*128+n%128)*2^(7*j):=by rw[Aq (n/128) 128,this]
      rw[h3,Ay];omega,g2,rfl⟩
     rw[hr,hk,tP pg um];simp
theorem hH0 {l:List UInt8} {v k:Nat}:rdU l=some (v,k)↔∃r,v<18446744073709551616/\l=putU v++r/\k=(putU v).length:=by
 have h:=qX0 l 0 0 v k (by omega);unfold rdU;rw[show (0:Nat)=7*0 from rfl]
 rw[show (7*0:Nat)=0 from rfl]at h
 rw[show (7*0:Nat)=0 from rfl,h]
 constructor
 ·rintro⟨n,r,hn,_,hv,hl,hk⟩
  obtain rfl:v=n:=by simpa using hv
  exact⟨r,by simpa using hn,hl,hk⟩
 ·rintro⟨r,hv,hl,hk⟩
  exact⟨v,r,by simpa using hv,by omega,by simp,hl,hk⟩
theorem vF {v:Nat} (h:v<18446744073709551616) (r:List UInt8):rdU (putU v++r)=some (v,(putU v).length):=hH0.2 ⟨r,h,rfl,rfl⟩
end
section
open Go Go.RowKit
attribute [local go_sem] aO aM
def sC (s:ByteArray):List UInt8:=putU s.size++s.data.toList
theorem tC (s:ByteArray):(sC s).length<=10+s.size:=by
 have:=cY s.size
 unfold sC;rw[Ai,Bk];rw[<-Bk];omega
theorem jW0 {n:Nat} (h:n<18446744073709551616):IntKind.u64.wrap (n:Int)=n:=by simp[IntKind.wrap,IntKind.bits,IntKind.signed]; omega
theorem eD1 {bk c s:Nat} (h1:bk<2^s) (h2:s<=63) (h3:c%128*2^s<18446744073709551616) (hc:c<256) :
  bits .or .u64 (bk:Int) (IntKind.u64.wrap (IntKind.u64.wrap (bits .and .u8 (c:Int) 127)*2^s))=((bk+c%128*2^s:Nat):Int):=by
 have e1:bits .and .u8 (c:Int) 127=((c%128:Nat):Int):=by
  rw[show (127:Int)=((127:Nat):Int) from rfl,u8_and_nat c 127 hc (by decide)]
  congr 1
  exact Nat.and_two_pow_sub_one_eq_mod c 7
 rw[e1,jW0 (by omega),show ((c%128:Nat):Int)*2^s=((c%128*2^s:Nat):Int) by push_cast;rfl,jW0 h3]
 have h4:(2:Nat)^s<=2^63:=Ae (by decide) h2;have h5:(2:Nat)^63=9223372036854775808:=by decide
 rw[u64_or_nat _ _ (by omega) h3];congr 1
 rw[Nat.or_comm,Aq,<-Nat.two_pow_add_eq_or_of_lt h1,Bj]
def lS0:Value := .iface 339 (.agg #[])
def mT1 (R:Option (Nat×Nat)) (s:Value) (rb k:Nat) (w:World) (e:Ending) (w':World):Prop :=
 ((∃v n,R=some (v,n)/\e=.returned (.int .u64 v)/\w'.cell? ⟨rb,1,none⟩=some (.int .i64 ((k+n:Nat):Int))/\w'.cell? ⟨rb,0,none⟩=some s/\w'.frozen? ⟨rb,1,none⟩=false)\/(R=none/\e=.panicked [{ v:=lS0,recovered:=false }]))/\EB rb w w'
theorem yC0 (b:List UInt8) (rb k:Nat) (ba:Option Addr) (bc:Nat) (w:World) (hk:k<=b.length) (hb:b.length<=1099511627776) (ac:aG w ba 1 (b.map aY)) (hba:∀q:Addr,ba=some q->b≠[]->q.block<rb)
  (c0:w.cell? ⟨rb,0,none⟩=some (.slice ba b.length bc)) (c1:w.cell? ⟨rb,1,none⟩=some (.int .i64 k)) (f1:w.frozen? ⟨rb,1,none⟩=false) :
  Calls Tryz.prog 208 #[.pointer (some ⟨rb,0,none⟩)] w (mT1 (rdU (b.drop k)) (.slice ba b.length bc) rb k w):=by
 obtain⟨R,hR⟩:=exq (rdU (b.drop k));rw[<-hR]
 have HR:Hid (R=(wO0 (b.drop (k+0)) 0 0).map λx=>(x.1,x.2+0)):=by
  show R=_
  rw[hR];unfold rdU;rw[Nat.add_zero];show wO0 (b.drop k) 0 0=_
  cases wO0 (b.drop k) 0 0<;>rfl
 have HAT:=Al ac;have HBA:=Al hba;clear hR ac hba;go_enter Tryz.func208,Tryz.ntmps208
 go_wp2_with fail
 go_loopw [3,4] (λv s wr=>∃S q i bk:Nat,Hid (∃j,j<=9/\S=7*j)/\S<=63/\k+q=i/\i<=b.length/\v=.int .u64 bk/\s=.int .i64 (S:Nat)/\bk<2^S/\wr.cell? ⟨rb,0,none⟩=some (.slice ba b.length bc)/\wr.cell? ⟨rb,1,none⟩=some (.int .i64 (i:Int))/\wr.frozen? ⟨rb,1,none⟩=false/\EB rb w wr/\Hid (R=(wO0 (b.drop i) S bk).map λx=>(x.1,x.2+q))) (λ_ s _=>64-(intOf s).toNat)
 case atStart=>exact⟨0,0,k,0,⟨0,by omega,rfl⟩,by omega,rfl,hk,rfl,rfl,by decide,c0,c1,f1,EB.refl _ _,HR.out⟩
 case round =>
  obtain⟨S,q,i,bk,hSj,hS,hqi,hq,rfl,rfl,b9,d0,d1,df,cv,ct⟩:=hrel;have z0:∀x:Ext aB wr.drew,x.u.cell? ⟨rb,0,none⟩=some (.slice ba b.length bc):=aF ((aB.drew wr).cell d0);have z1:∀x:Ext aB wr.drew,x.u.cell? ⟨rb,1,none⟩=some (.int .i64 (i:Int)):=aF ((aB.drew wr).cell d1);have xq:rb<=wr.heap.size:=Nat.le_of_lt (Af wr _ d0);by_cases jg:i<b.length
  ·obtain⟨c,hc⟩:∃c,b[i]?=some c:=⟨_,Ag jg⟩
   have jw:b.drop i=c::b.drop (i+1):=by
    rw[List.drop_eq_getElem_cons jg];rw[Ag jg]at hc;rw[Option.some.inj hc]
   obtain⟨bb,bo,rfl,fg⟩:=HAT.out.get (aK jg);have qq:=HBA.out _ rfl (aK jg);simp only at qq
   have dc:wr.cell? ⟨bb,bo+i,none⟩=some (.int .u8 c.toNat):=by
    rw[Below.cell cv.1 (by exact qq)];simpa using fg i c hc 0 _ rfl
   have hkq:(i:Int)<b.length:=by omega
   have aam:=c.toNat_lt;have y0:∀x:Ext aB wr.drew.drew,x.u.cell? ⟨rb,0,none⟩=some (.slice (some ⟨bb,bo,none⟩) b.length bc):=aF ((aB.drew wr).dr.cell d0);have y1:∀x:Ext aB wr.drew.drew,x.u.cell? ⟨rb,1,none⟩=some (.int .i64 (i:Int)):=aF ((aB.drew wr).dr.cell d1);have yc:∀x:Ext aB wr.drew.drew,x.u.cell? ⟨bb,bo+i,none⟩=some (.int .u8 c.toNat):=aF ((aB.drew wr).dr.cell dc);have xu:=ct.out;rw[jw]at xu;have HI:=Al xu;clear ct xu jw hc fg HR;go_wp2_with fail
   refine bK (bB 10 []) (by kernel_rfl) (λd _ _ _ _ h=>by cases d<;>exact h) ?_
   iterate 10 (refine aH rfl (λK hK=>?_);go_simp;refine hK _ ?_;clear hK K)
   refine cB ?_;clear z0 z1;go_wp2_with fail
   refine bK (bB 11 []) (by kernel_rfl) (λd _ _ _ _ h=>by cases d<;>exact h) ?_
   iterate 11 (refine aH rfl (λK hK=>?_);go_simp;refine hK _ ?_;clear hK K)
   refine cB ?_;clear y0 y1 yc;have bh:(wr.setCell ⟨rb,1,none⟩ (.int .i64 ((i:Int)+1))).drew.drew.cell? ⟨rb,1,none⟩=some (.int .i64 ((i:Int)+1)):=Ab _ _ _ d1;have aez:EB rb w (wr.setCell ⟨rb,1,none⟩ (.int .i64 ((i:Int)+1))).drew.drew:=EB.trans _ _ _ _ (EB.trans _ _ _ _ cv ⟨(Below.refl rb wr).setCell (p:=⟨rb,1,none⟩) (Az rb) _,by simp⟩) (EB.of ((aB.drew _).dr) (by simpa using xq));have HC2:=Al bh;have HE2:=Al aez;have HD0:Hid ((wr.setCell ⟨rb,1,none⟩ (.int .i64 ((i:Int)+1))).drew.drew.cell? ⟨rb,0,none⟩=some (.slice (some ⟨bb,bo,none⟩) b.length bc)):=(Aa _ _ _ _ (λe=>by cases e)).trans d0;have HDF:Hid ((wr.setCell ⟨rb,1,none⟩ (.int .i64 ((i:Int)+1))).drew.drew.frozen? ⟨rb,1,none⟩=false):=(Ad _ _ _ _).trans df;clear bh aez;by_cases gu:(S=63/\1<c.toNat)\/(0<S/\c.toNat=0)
   ·have di:R=none:=by
     rw[HI.out];unfold wO0;rw[if_pos gu];rfl
    subst di;clear HI;by_cases h9:S=63
    ·have xv:((S:Int)==63)=true:=by rw[beq_iff_eq];omega
     have dn:(0:Int)<S:=by omega
     by_cases h1:1<c.toNat
     ·have h1i:(1:Int)<c.toNat:=by omega
      clear gu h9;go_wp2_with fail
      exact⟨rfl,Or.inr ⟨rfl,rfl⟩,EB.trans _ _ _ _ cv (EB.of ((aB.drew wr).dr) xq)⟩
     ·have h1i:¬(1:Int)<c.toNat:=by omega
      have hz:(c.toNat:Int)=0:=by omega
      clear gu h9;go_wp2_with fail
      exact⟨rfl,Or.inr ⟨rfl,rfl⟩,EB.trans _ _ _ _ cv (EB.of ((aB.drew wr).dr) xq)⟩
    ·have xv:((S:Int)==63)=false:=by rw[beq_eq_false_iff_ne];omega
     have dn:(0:Int)<S:=by omega
     have hz:(c.toNat:Int)=0:=by omega
     clear gu h9;go_wp2_with fail
     exact⟨rfl,Or.inr ⟨rfl,rfl⟩,EB.trans _ _ _ _ cv (EB.of ((aB.drew wr).dr) xq)⟩
   ·have fo:c.toNat%128*2^S<18446744073709551616:=by
     by_cases h9:S=63
     ·have:c.toNat<=1:=by
       rcases Ak 1 c.toNat with h|h
       ·exact absurd (Or.inl ⟨h9,h⟩) gu
       ·exact h
      have h2:(2:Nat)^S=9223372036854775808:=by rw[h9]
      rw[h2];omega
     ·obtain⟨j,hj,acr⟩:=hSj.out
      have h2:(2:Nat)^S<=2^56:=Ae (by decide) (by omega);have h3:(2:Nat)^56=72057594037927936:=by decide
      have h4:c.toNat%128*2^S<=127*2^56:=Be (by omega) h2;omega
    have hup:=eD1 b9 hS fo aam;have HUP:=Al hup;have hgo:=HI.out;unfold wO0 at hgo;rw[if_neg gu]at hgo;clear HI fo;by_cases hl:c.toNat<128
    ·rw[if_pos hl]at hgo
     have av:R=some (bk+c.toNat%128*2^S,q+1):=by
      rw[hgo,Nat.mod_eq_of_lt hl,Bj q 1];rfl
     subst av;clear hgo hup;have hli:(c.toNat:Int)<128:=by omega
     by_cases h0:S=0
     ·have dn:¬(0:Int)<S:=by omega
      have xv:((S:Int)==63)=false:=by rw[beq_eq_false_iff_ne];omega
      clear gu h0;go_wp2_with fail
      go_ret;exact⟨Or.inl ⟨_,_,rfl,congrArg (λx=>Ending.returned (.int .u64 x)) HUP.out,by rw[HC2.out,<-hqi];push_cast;rw[At],HD0.out,HDF.out⟩,HE2.out⟩
     ·have dn:(0:Int)<S:=by omega
      have hz:¬(c.toNat:Int)=0:=by omega
      by_cases h9:S=63
      ·have xv:((S:Int)==63)=true:=by rw[beq_iff_eq];omega
       have h1i:¬(1:Int)<c.toNat:=by omega
       clear gu h9 h0;go_wp2_with fail
       go_ret;exact⟨Or.inl ⟨_,_,rfl,congrArg (λx=>Ending.returned (.int .u64 x)) HUP.out,by rw[HC2.out,<-hqi];push_cast;rw[At],HD0.out,HDF.out⟩,HE2.out⟩
      ·have xv:((S:Int)==63)=false:=by rw[beq_eq_false_iff_ne];omega
       clear gu h9 h0;go_wp2_with fail
       go_ret;exact⟨Or.inl ⟨_,_,rfl,congrArg (λx=>Ending.returned (.int .u64 x)) HUP.out,by rw[HC2.out,<-hqi];push_cast;rw[At],HD0.out,HDF.out⟩,HE2.out⟩
    ·rw[if_neg hl]at hgo
     have hS9:S≠63:=λh=>gu (Or.inl ⟨h,by omega⟩)
     have acr:Hid (∃j,j<=9/\S+7=7*j):=by
      obtain⟨j,hj,e⟩:=hSj.out;exact⟨j+1,by omega,by omega⟩
     have hS2:S+7<=63:=by
      obtain⟨j,hj,e⟩:=hSj.out;omega
     have hli:¬(c.toNat:Int)<128:=by omega
     have xv:((S:Int)==63)=false:=by rw[beq_eq_false_iff_ne];omega
     have aan:Hid (R=(wO0 (b.drop (i+1)) (S+7) (bk+c.toNat%128*2^S)).map λx=>(x.1,x.2+(q+1))):=by
      show R=_
      rw[hgo,Option.map_map];congr 1
      funext x
      simp only[Function.comp];congr 1
      omega
     have aao:bk+c.toNat%128*2^S<2^(S+7):=by
      have h1:(2:Nat)^(S+7)=128*2^S:=by rw[Ax,Aq]
      have h2:(c.toNat%128+1)*2^S<=128*2^S:=Nat.mul_le_mul_right _ (by omega);rw[Ay]at h2;omega
     have HA:=Al aao;clear aao hgo hup;by_cases h0:S=0
     ·have dn:¬(0:Int)<S:=by omega
      clear gu h0 hS9;go_wp2_with fail
      go_roundw
      case rel=>exact⟨S+7,q+1,i+1,_,acr,hS2,by omega,jg,congrArg _ HUP.out,by first|rfl|go_num,HA.out,HD0.out,by rw[HC2.out];rfl,HDF.out,HE2.out,aan.out⟩
      case measure=>simp[intOf];omega
     ·have dn:(0:Int)<S:=by omega
      have hz:¬(c.toNat:Int)=0:=by omega
      clear gu h0 hS9;go_wp2_with fail
      go_roundw
      case rel=>exact⟨S+7,q+1,i+1,_,acr,hS2,by omega,jg,congrArg _ HUP.out,by first|rfl|go_num,HA.out,HD0.out,by rw[HC2.out];rfl,HDF.out,HE2.out,aan.out⟩
      case measure=>simp[intOf];omega
  ·have jr:¬(i:Int)<b.length:=by omega
   have di:R=none:=by rw[ct.out,List.drop_eq_nil_of_le (by omega)];rfl
   subst di;clear ct HR;go_wp2_with fail
   refine bK (bB 10 []) (by kernel_rfl) (λd _ _ _ _ h=>by cases d<;>exact h) ?_
   iterate 10 (refine aH rfl (λK hK=>?_);go_simp;refine hK _ ?_;clear hK K)
   refine cB ?_;clear z0 z1;go_wp2_with fail
   exact⟨rfl,Or.inr ⟨rfl,rfl⟩,EB.trans _ _ _ _ cv (EB.of (aB.drew wr) xq)⟩
theorem lM0 {a b c:World} {B:Nat} (h:aB a b) (k:EB B b c) (hB:a.heap.size<=B):aB a c:=Below.trans h (Below.mono k.1 hB)
theorem bT {w w':World} {cs:Array Value} {t:TypeId} (hg:aB (w.alloc (.cells cs t)) w'):(∀j v,cs[j]?=some v->w'.cell? ⟨w.heap.size,j,none⟩=some v)/\(∀j,w'.frozen? ⟨w.heap.size,j,none⟩=false):=by
 refine⟨λj v h=>hg.cell (aT w cs t _ j v h),λj=>?_⟩;rw[hg.froz (by simp)]
 have hh:(w.alloc (.cells cs t)).heap[w.heap.size]?=some (.cells cs t (0,0)):=by
  show (w.heap.push _)[w.heap.size]?=_
  simp
 unfold World.frozen?;simp only[hh];simp
theorem bA1 (p0 p1 p2:Nat) (w:World) (pj:List PanicEntry) (v0 v1 v2:Value) (c0:w.cell? ⟨p0,0,none⟩=some v0) (c1:w.cell? ⟨p1,0,none⟩=some v1) (c2:w.cell? ⟨p2,0,none⟩=some v2)
  (f0:w.frozen? ⟨p0,0,none⟩=false) (f1:w.frozen? ⟨p1,0,none⟩=false) (f2:w.frozen? ⟨p2,0,none⟩=false) (n01:p0≠p1) (n02:p0≠p2) (n12:p1≠p2) (B:Nat) (vl:B<=p0) (xw:B<=p1) (k7:B<=p2) :
  CallsD Tryz.prog 264 #[.pointer (some ⟨p0,0,none⟩),.pointer (some ⟨p1,0,none⟩),.pointer (some ⟨p2,0,none⟩)] (.panicking ({ v:=lS0,recovered:=false }::pj)) w λe u' w' =>
   e=.returned (.tuple #[])/\u' = .panicking ({ v:=lS0,recovered:=true }::pj)/\w'.cell? ⟨p0,0,none⟩=some (.int .u64 0)/\w'.cell? ⟨p1,0,none⟩=some (.int .i64 0)/\w'.cell? ⟨p2,0,none⟩=some (.bool false)/\EB B w w':=by
 have hta:∀W:World,(Instr.typeAssert (.iface 339 (.agg #[])) 20 339 true).run Tryz.prog W=.ok (.tuple #[.agg #[],.bool true]) W:=λW=>by kernel_rfl
 have mn:=aB.alloc w (.cells #[] 339);have b0:=Af w _ c0;have b1:=Af w _ c1;have b2:=Af w _ c2;have d0:=mn.cell c0;have d1:=mn.cell c1;have d2:=mn.cell c2;have g0:=(mn.froz (p:=⟨p0,0,none⟩) b0).trans f0;have g1:=(mn.froz (p:=⟨p1,0,none⟩) b1).trans f1;have g2:=(mn.froz (p:=⟨p2,0,none⟩) b2).trans f2;have e1:(w.alloc (.cells #[] 339) |>.setCell ⟨p0,0,none⟩ (.int .u64 0)).cell? ⟨p1,0,none⟩=some v1:=(Aa _ _ _ _ (λe=>n01 (congrArg Ac e))).trans d1
 have e2:((w.alloc (.cells #[] 339) |>.setCell ⟨p0,0,none⟩ (.int .u64 0)).setCell ⟨p1,0,none⟩ (.int .i64 0)).cell? ⟨p2,0,none⟩=some v2:=(Aa _ _ _ _ (λe=>n12 (congrArg Ac e))).trans ((Aa _ _ _ _ (λe=>n02 (congrArg Ac e))).trans d2)
 refine callsD_of_wpS Tryz.func264 rfl λc₀ cs hu=>?_;apply wpS_seq
 apply wpS_region
 simp[wpOpsS,go_sem,recoverD,hu,Tryz.ntmps264,Exit.thenS,lS0]
 refine wpS_of_wp ?_;rw[show (#[Value.pointer (some ⟨p0,0,none⟩),.pointer (some ⟨p1,0,none⟩),.pointer (some ⟨p2,0,none⟩)]++(Bc 11 undef).setIfInBounds 4 (.iface 339 (.agg #[]))) = #[.pointer (some ⟨p0,0,none⟩),.pointer (some ⟨p1,0,none⟩),.pointer (some ⟨p2,0,none⟩),undef,undef,undef,undef,.iface 339 (.agg #[]),undef,undef,undef,undef,undef,undef] from rfl]
 go_wp2
 have lg:(((w.setCell ⟨p0,0,none⟩ (.int .u64 0)).setCell ⟨p1,0,none⟩ (.int .i64 0)).setCell ⟨p2,0,none⟩ (.bool false)).cell? ⟨p0,0,none⟩=some (.int .u64 0):=by
  rw[Aa _ _ _ _ (λe=>n02 (congrArg Ac e).symm),Aa _ _ _ _ (λe=>n01 (congrArg Ac e).symm)];exact Ab _ _ _ c0
 have dw:(((w.setCell ⟨p0,0,none⟩ (.int .u64 0)).setCell ⟨p1,0,none⟩ (.int .i64 0)).setCell ⟨p2,0,none⟩ (.bool false)).cell? ⟨p1,0,none⟩=some (.int .i64 0):=by
  rw[Aa _ _ _ _ (λe=>n12 (congrArg Ac e).symm)];exact Ab _ _ _ ((Aa _ _ _ _ (λe=>n01 (congrArg Ac e))).trans c1)
 have ew:(((w.setCell ⟨p0,0,none⟩ (.int .u64 0)).setCell ⟨p1,0,none⟩ (.int .i64 0)).setCell ⟨p2,0,none⟩ (.bool false)).cell? ⟨p2,0,none⟩=some (.bool false) :=
  Ab _ _ _ ((Aa _ _ _ _ (λe=>n12 (congrArg Ac e))).trans ((Aa _ _ _ _ (λe=>n02 (congrArg Ac e))).trans c2))
 have gm:Below B w ((((w.setCell ⟨p0,0,none⟩ (.int .u64 0)).setCell ⟨p1,0,none⟩ (.int .i64 0)).setCell ⟨p2,0,none⟩ (.bool false)).alloc (.cells #[] 339)):=((((Below.refl B w).setCell (p:=⟨p0,0,none⟩) vl _).setCell (p:=⟨p1,0,none⟩) xw _).setCell (p:=⟨p2,0,none⟩) k7 _).alloc (by simp;omega) _;have pm:=aB.alloc (((w.setCell ⟨p0,0,none⟩ (.int .u64 0)).setCell ⟨p1,0,none⟩ (.int .i64 0)).setCell ⟨p2,0,none⟩ (.bool false)) (.cells #[] 339);have k0:=pm.cell lg;have k1:=pm.cell dw;have k2:=pm.cell ew;have cv:EB B w ((((w.setCell ⟨p0,0,none⟩ (.int .u64 0)).setCell ⟨p1,0,none⟩ (.int .i64 0)).setCell ⟨p2,0,none⟩ (.bool false)).alloc (.cells #[] 339)):=⟨gm,gm.size⟩;exact⟨rfl,_,rfl,_,results_none rfl _ _ _,rfl,rfl,k0,k1,k2,cv⟩
theorem mL1 (p0 p1 p2:Nat) (w:World) :
  CallsD Tryz.prog 264 #[.pointer (some ⟨p0,0,none⟩),.pointer (some ⟨p1,0,none⟩),.pointer (some ⟨p2,0,none⟩)] .returning w λe u' w'=>e=.returned (.tuple #[])/\u' = .returning/\w'=w:=by
 refine callsD_of_wpS Tryz.func264 rfl λc₀ cs hu=>?_;apply wpS_seq
 apply wpS_region
 simp[wpOpsS,go_sem,recoverD,hu,Tryz.ntmps264,Exit.thenS]
 refine wpS_of_wp ?_;rw[show (#[Value.pointer (some ⟨p0,0,none⟩),.pointer (some ⟨p1,0,none⟩),.pointer (some ⟨p2,0,none⟩)]++(Bc 11 undef).setIfInBounds 4 .nilIface) = #[.pointer (some ⟨p0,0,none⟩),.pointer (some ⟨p1,0,none⟩),.pointer (some ⟨p2,0,none⟩),undef,undef,undef,undef,.nilIface,undef,undef,undef,undef,undef,undef] from rfl]
 go_wp2
 cases c₀
 simp only at hu;subst hu;exact⟨rfl,_,rfl,_,results_none rfl _ _ _,rfl,rfl,rfl⟩
def oH1 (K:Act->World->Prop):Exit->Act->World->Prop
 | .normal,a,w=>K a w
 | _,_,_=>False
theorem xQ (K:Act->World->Prop) (a:Act) (w:World):oH1 K .normal a w=K a w:=rfl
theorem rX0 {P:Program} {c:Code} {K:Act->World->Prop} {Q:Exit->Act->World->Prop} {a:Act} {w:World} (h:c.wp P (oH1 K) a w):c.wp P (Exit.then K Q) a w:=λb k cs=>by
 obtain⟨e,a',w',q,r⟩:=h b k cs;refine⟨e,a',w',?_,r⟩;cases e<;>first|exact q|exact q.elim
def gC0 (k:Nat):Option (Nat×Nat)->Value
 | some (v,n) => .tuple #[.int .u64 v,.int .i64 ((k+n:Nat):Int),.bool true]
 | none => .tuple #[.int .u64 0,.int .i64 0,.bool false]
def ES (b:Nat) (v:Value) (w w':World):Prop :=
 (Below b w w'/\w.heap.size<=w'.heap.size)/\(∀(p:Addr) (u:Value),p.block≠b->w.cell? p=some u->w'.cell? p=some u)/\(∀p:Addr,p.block≠b->p.block<w.heap.size->w'.frozen? p=w.frozen? p)/\(w.cell? ⟨b,0,none⟩=some v->w'.cell? ⟨b,0,none⟩=some v)/\(b<w.heap.size->w'.frozen? ⟨b,0,none⟩=w.frozen? ⟨b,0,none⟩)
theorem ES.refl (b:Nat) (v:Value) (w:World):ES b v w w:=⟨⟨Below.refl _ _,Az _⟩,λ_ _ _ h=>h,λ_ _ _=>rfl,λh=>h,λ_=>rfl⟩
theorem ES.trans (b:Nat) (v:Value) (x y z:World) (h:ES b v x y) (k:ES b v y z):ES b v x z :=
 ⟨⟨Below.trans h.1.1 k.1.1,Nat.le_trans h.1.2 k.1.2⟩,λp u hp hc=>k.2.1 p u hp (h.2.1 p u hp hc),λp hp hl=>(k.2.2.1 p hp (Av hl h.1.2)).trans (h.2.2.1 p hp hl),λhc=>k.2.2.2.1 (h.2.2.2.1 hc),λhl=>(k.2.2.2.2 (Av hl h.1.2)).trans (h.2.2.2.2 hl)⟩
instance (b:Nat) (v:Value) (w:World):Nonempty (Ext (ES b v) w):=⟨⟨w,ES.refl _ _ _⟩⟩
theorem ES.put {b:Nat} {v:Value} {w:World} (hc:w.cell? ⟨b,0,none⟩=some v):ES b v w (w.setCell ⟨b,0,none⟩ v) :=
 ⟨⟨(Below.refl b w).setCell (p:=⟨b,0,none⟩) (Az b) v,by simp⟩,λp u hp h=>by rw[Aa _ _ _ _ (λe=>hp (by rw[<-e]))];exact h,λp _ _=>Ad _ _ _ _,λ_=>Ab _ _ _ hc,λ_=>Ad _ _ _ _⟩
structure RdB (w:World) (s:Value) (k:Int) (W:World):Prop where
 g:aB w W
 sz:w.heap.size+1+1+1<W.heap.size
 c0:W.cell? ⟨w.heap.size,0,none⟩=some (.int .u64 0)
 f0:W.frozen? ⟨w.heap.size,0,none⟩=false
 c1:W.cell? ⟨w.heap.size+1,0,none⟩=some (.int .i64 0)
 f1:W.frozen? ⟨w.heap.size+1,0,none⟩=false
 c2:W.cell? ⟨w.heap.size+1+1,0,none⟩=some (.bool false)
 f2:W.frozen? ⟨w.heap.size+1+1,0,none⟩=false
 r0:W.cell? ⟨w.heap.size+1+1+1,0,none⟩=some s
 r1:W.cell? ⟨w.heap.size+1+1+1,1,none⟩=some (.int .i64 k)
 rf:W.frozen? ⟨w.heap.size+1+1+1,1,none⟩=false
theorem rdB (w:World) (s:Value) (k:Int):RdB w s k ((((w.alloc (.cells #[.int .u64 0] 213)).alloc (.cells #[.int .i64 0] 3)).alloc (.cells #[.bool false] 4)).alloc (.cells #[s,.int .i64 k] 341)):=by
 have e1:(w.alloc (.cells #[.int .u64 0] 213)).heap.size=w.heap.size+1:=by simp
 have e2:((w.alloc (.cells #[.int .u64 0] 213)).alloc (.cells #[.int .i64 0] 3)).heap.size=w.heap.size+1+1:=by simp
 have e3:(((w.alloc (.cells #[.int .u64 0] 213)).alloc (.cells #[.int .i64 0] 3)).alloc (.cells #[.bool false] 4)).heap.size=w.heap.size+1+1+1:=by simp
 have b0:=bT (w:=w) (cs:=#[.int .u64 0]) (t:=213) (w':=((((w.alloc (.cells #[.int .u64 0] 213)).alloc (.cells #[.int .i64 0] 3)).alloc (.cells #[.bool false] 4)).alloc (.cells #[s,.int .i64 k] 341))) (((aB.alloc _ _).al _).al _);have b1:=bT (w:=w.alloc (.cells #[.int .u64 0] 213)) (cs:=#[.int .i64 0]) (t:=3) (w':=((((w.alloc (.cells #[.int .u64 0] 213)).alloc (.cells #[.int .i64 0] 3)).alloc (.cells #[.bool false] 4)).alloc (.cells #[s,.int .i64 k] 341))) ((aB.alloc _ _).al _);have b2:=bT (w:=(w.alloc (.cells #[.int .u64 0] 213)).alloc (.cells #[.int .i64 0] 3)) (cs:=#[.bool false]) (t:=4) (w':=((((w.alloc (.cells #[.int .u64 0] 213)).alloc (.cells #[.int .i64 0] 3)).alloc (.cells #[.bool false] 4)).alloc (.cells #[s,.int .i64 k] 341))) (aB.alloc _ _);have b3:=bT (w:=((w.alloc (.cells #[.int .u64 0] 213)).alloc (.cells #[.int .i64 0] 3)).alloc (.cells #[.bool false] 4)) (cs:=#[s,.int .i64 k]) (t:=341) (w':=((((w.alloc (.cells #[.int .u64 0] 213)).alloc (.cells #[.int .i64 0] 3)).alloc (.cells #[.bool false] 4)).alloc (.cells #[s,.int .i64 k] 341))) (aB.refl _);rw[e1]at b1;rw[e2]at b2;rw[e3]at b3;exact⟨(((aB.alloc _ _).al _).al _).al _,by simp,b0.1 0 _ rfl,b0.2 0,b1.1 0 _ rfl,b1.2 0,b2.1 0 _ rfl,b2.2 0,b3.1 0 _ rfl,b3.1 1 _ rfl,b3.2 1⟩
theorem iF1 (b:List UInt8) (k:Nat) (ba:Option Addr) (bc:Nat) (w:World) (hk:k<=b.length) (hb:b.length<=1099511627776) (ac:aG w ba 1 (b.map aY)) :
  Calls Tryz.prog 207 #[.slice ba b.length bc,.int .i64 k,.func (.func 208) #[] #[]] w λe w'=>e=.returned (gC0 k (rdU (b.drop k)))/\aB w w':=by
 have un:∀(fn:Fn) (first cap:Array Value) (w:World),(Instr.makeFunc fn first cap).run Tryz.prog w=.ok (.func fn first cap) w:=λ_ _ _ _=>rfl
 have ow:¬(k:Int)<0:=by omega
 have HAT:=Al ac
 have HBA:Hid (∀q:Addr,ba=some q->b≠[]->q.block<w.heap.size):=λq hq aj=>by
  obtain⟨x,hx⟩:∃x,b[0]?=some x:=⟨_,Ag (List.length_pos_iff.2 aj)⟩;obtain⟨bb,bo,e,fg⟩:=ac.get aj;rw[e]at hq;cases hq
  exact Af _ _ (fg 0 x hx 0 _ rfl)
 obtain⟨R,hR⟩:=exq (rdU (b.drop k));have HR:=Al hR;rw[<-hR];clear hR ac;go_enter_defers Tryz.func207,Tryz.ntmps207
 go_wp2_with fail
 have hB:=rdB w (.slice ba b.length bc) k;generalize ((((w.alloc (.cells #[Value.int .u64 0] 213)).alloc (.cells #[.int .i64 0] 3)).alloc (.cells #[.bool false] 4)).alloc (.cells #[Value.slice ba b.length bc,.int .i64 k] 341))=W4 at *;refine(yC0 b _ k ba bc W4 hk hb (HAT.out.grows hB.g) (λq hq aj=>Nat.lt_trans (HBA.out q hq aj) (by omega)) hB.r0 hB.r1 hB.rf).mono ?_;rintro e w5 ⟨nf,cv⟩;rw[<-HR.out]at nf;have hs5:=cv.2;have de:=hB.sz;have c0:w5.cell? ⟨w.heap.size,0,none⟩=_:=(Below.cell cv.1 (by simp only;omega)).trans hB.c0;have c1:w5.cell? ⟨w.heap.size+1,0,none⟩=_:=(Below.cell cv.1 (by simp only;omega)).trans hB.c1;have c2:w5.cell? ⟨w.heap.size+1+1,0,none⟩=_:=(Below.cell cv.1 (by simp only;omega)).trans hB.c2;have f0:w5.frozen? ⟨w.heap.size,0,none⟩=_:=(Below.frozen cv.1 (by simp only;omega)).trans hB.f0;have f1:w5.frozen? ⟨w.heap.size+1,0,none⟩=_:=(Below.frozen cv.1 (by simp only;omega)).trans hB.f1;have f2:w5.frozen? ⟨w.heap.size+1+1,0,none⟩=_:=(Below.frozen cv.1 (by simp only;omega)).trans hB.f2;have bv:aB w w5:=lM0 hB.g cv (by omega);rcases nf with ⟨v,n,rfl,rfl,hc,_,_⟩|⟨rfl,rfl⟩
 ·have g0:(w5.setCell ⟨w.heap.size,0,none⟩ (.int .u64 v)).cell? ⟨w.heap.size,0,none⟩=some (.int .u64 v):=Ab _ _ _ c0
  have g1:(w5.setCell ⟨w.heap.size,0,none⟩ (.int .u64 v)).cell? ⟨w.heap.size+1,0,none⟩=some (.int .i64 0):=(Aa _ _ _ _ (λe=>by have:=congrArg Ac e;simp only at this;omega)).trans c1;have g2:(w5.setCell ⟨w.heap.size,0,none⟩ (.int .u64 v)).cell? ⟨w.heap.size+1+1,0,none⟩=some (.bool false):=(Aa _ _ _ _ (λe=>by have:=congrArg Ac e;simp only at this;omega)).trans c2;have g3:(w5.setCell ⟨w.heap.size,0,none⟩ (.int .u64 v)).cell? ⟨w.heap.size+1+1+1,1,none⟩=some (.int .i64 ((k+n:Nat):Int)):=(Aa _ _ _ _ (λe=>by have:=congrArg Ac e;simp only at this;omega)).trans hc
  have gg:∀j,j=w.heap.size\/j=w.heap.size+1\/j=w.heap.size+1+1->(w5.setCell ⟨w.heap.size,0,none⟩ (.int .u64 v)).frozen? ⟨j,0,none⟩=false:=λj hj=>by
   rw[Ad];rcases hj with rfl|rfl|rfl
   ·exact f0
   ·exact f1
   ·exact f2
  obtain⟨K,oe⟩:=exq (k+n);rw[<-oe]at g3 hc;have HK2:=Al oe;clear oe;have hgp:aB w (w5.setCell ⟨w.heap.size,0,none⟩ (.int .u64 v)):=bv.set (by simp only;omega) _;have hsp:w.heap.size+1+1+1<(w5.setCell ⟨w.heap.size,0,none⟩ (.int .u64 v)).heap.size:=by simp;omega
  clear HR hB cv c1 c2 f1 f2 hc bv;go_wp2_with fail
  clear c0 f0;generalize (w5.setCell ⟨w.heap.size,0,none⟩ (.int .u64 v))=w6 at *;have z0:∀x:Ext (ES w.heap.size (.int .u64 v)) w6.drew,x.u.cell? ⟨w.heap.size,0,none⟩=some (.int .u64 v):=λx=>x.h.2.2.2.1 ((aB.drew _).cell g0);have z3:∀x:Ext (ES w.heap.size (.int .u64 v)) w6.drew,x.u.cell? ⟨w.heap.size+1+1+1,1,none⟩=some (.int .i64 (K:Int)):=λx=>x.h.2.1 _ _ (by simp only;omega) ((aB.drew _).cell g3);have x0:w6.drew.cell? ⟨w.heap.size,0,none⟩=some (.int .u64 v):=g0;have xf:w6.drew.frozen? ⟨w.heap.size,0,none⟩=false:=gg _ (Or.inl rfl);refine rX0 ?_;refine qB0 (ES w.heap.size (.int .u64 v)) 6 (bB 6 [5]) (ES.refl _ _) (ES.trans _ _) (by kernel_rfl) (by kernel_rfl) (λ_ _ _ _ _ h=>h) ?_;iterate 5 (refine aH rfl (λK hK=>?_);go_simp;refine hK _ ?_;clear hK K)
  refine bH rfl rfl (λK hK=>?_);go_simp;refine⟨ES.put x0,hK _ _ ?_⟩;clear hK K;refine cB ?_;simp only[List.drop_succ_cons,List.drop_zero];clear z0 z3;have n0:=g0;have y0:(w6.setCell ⟨w.heap.size,0,none⟩ (.int .u64 v)).cell? ⟨w.heap.size,0,none⟩=some (.int .u64 v):=Ab _ _ _ g0;have y1:(w6.setCell ⟨w.heap.size,0,none⟩ (.int .u64 v)).cell? ⟨w.heap.size+1,0,none⟩=some (.int .i64 0):=(Aa _ _ _ _ (λe=>by have:=congrArg Ac e;simp only at this;omega)).trans g1;have y2:(w6.setCell ⟨w.heap.size,0,none⟩ (.int .u64 v)).cell? ⟨w.heap.size+1+1,0,none⟩=some (.bool false):=(Aa _ _ _ _ (λe=>by have:=congrArg Ac e;simp only at this;omega)).trans g2;have yg:aB w (w6.setCell ⟨w.heap.size,0,none⟩ (.int .u64 v)):=hgp.set (by simp only;omega) _;have yf1:(w6.setCell ⟨w.heap.size,0,none⟩ (.int .u64 v)).frozen? ⟨w.heap.size+1,0,none⟩=false:=(Ad _ _ _ _).trans (gg _ (Or.inr (Or.inl rfl)));have yf2:(w6.setCell ⟨w.heap.size,0,none⟩ (.int .u64 v)).frozen? ⟨w.heap.size+1+1,0,none⟩=false:=(Ad _ _ _ _).trans (gg _ (Or.inr (Or.inr rfl)));clear x0 xf g0 g1 g2 g3 gg n0;generalize w6.setCell ⟨w.heap.size,0,none⟩ (.int .u64 v)=w7 at *
  have k1:((w7.setCell ⟨w.heap.size+1,0,none⟩ (.int .i64 K)).setCell ⟨w.heap.size+1+1,0,none⟩ (.bool true)).drew.cell? ⟨w.heap.size+1,0,none⟩=some (.int .i64 K):=by
   refine(Aa _ _ _ _ (λe=>by have:=congrArg Ac e;simp only at this;omega)).trans ?_;exact Ab _ _ _ y1
  have y2':(w7.setCell ⟨w.heap.size+1,0,none⟩ (.int .i64 K)).cell? ⟨w.heap.size+1+1,0,none⟩=some (.bool false):=by
   rw[Aa _ _ _ _ (λe=>by have:=congrArg Ac e;simp only at this;omega)];exact y2
  have k2:((w7.setCell ⟨w.heap.size+1,0,none⟩ (.int .i64 K)).setCell ⟨w.heap.size+1+1,0,none⟩ (.bool true)).drew.cell? ⟨w.heap.size+1+1,0,none⟩=some (.bool true):=Ab _ _ _ y2'
  have k0:((w7.setCell ⟨w.heap.size+1,0,none⟩ (.int .i64 K)).setCell ⟨w.heap.size+1+1,0,none⟩ (.bool true)).drew.cell? ⟨w.heap.size,0,none⟩=some (.int .u64 v):=by
   refine(Aa _ _ _ _ (λe=>by have:=congrArg Ac e;simp only at this;omega)).trans ?_;refine(Aa _ _ _ _ (λe=>by have:=congrArg Ac e;simp only at this;omega)).trans ?_;exact y0
  have kg:aB w ((w7.setCell ⟨w.heap.size+1,0,none⟩ (.int .i64 K)).setCell ⟨w.heap.size+1+1,0,none⟩ (.bool true)).drew:=((yg.set (by simp only;omega) _).set (by simp only;omega) _).dr;go_wp2_with fail
  simp only[xQ];go_wp2_with fail
  refine leaves_cons (f:=264) (args:=#[.pointer (some ⟨w.heap.size,0,none⟩),.pointer (some ⟨w.heap.size+1,0,none⟩),.pointer (some ⟨w.heap.size+1+1,0,none⟩)]) (by simp) (by simp[go_sem]) ?_
  refine(mL1 _ _ _ _).mono ?_;rintro e u' q6 ⟨rfl,rfl,rfl⟩;show Leaves _ _ _ _ _ _ _
  simp only[settle];refine⟨.tuple #[.int .u64 v,.int .i64 K,.bool true],?_,by rw[HK2.out];rfl,kg⟩;simp[results,Tryz.results207,go_sem,k0,k1,k2]
 ·clear HR hB cv
  go_wp2_with fail
  refine leaves_cons (f:=264) (args:=#[.pointer (some ⟨w.heap.size,0,none⟩),.pointer (some ⟨w.heap.size+1,0,none⟩),.pointer (some ⟨w.heap.size+1+1,0,none⟩)]) (by simp) (by simp[go_sem]) ?_
  refine(bA1 w.heap.size (w.heap.size+1) (w.heap.size+1+1) w5 [] _ _ _ c0 c1 c2 f0 f1 f2 (by omega) (by omega) (by omega) w.heap.size (by omega) (by omega) (by omega)).mono ?_;rintro e u' q6 ⟨rfl,rfl,k0,k1,k2,acs⟩;have kg:aB w q6:=EB.grows bv acs;show Leaves _ _ _ _ _ _ _
  simp only[settle];refine⟨.tuple #[.int .u64 0,.int .i64 0,.bool false],?_,rfl,kg⟩;simp[results,Tryz.results207,go_sem,k0,k1,k2]
end
section
open Go Go.RowKit
def eY0 (b:List UInt8) (k:Nat):Option (Nat×Nat) :=
 match rdU (b.drop k) with
 | some (v,n)=>if v<=1048576 then some (v,k+n) else none
 | none=>none
def nxt (b:List UInt8) (s:Nat×Bool):Nat×Nat×Bool :=
 match eY0 b s.1 with
 | some (v,e)=>(v,e,s.2)
 | none=>(0,s.1,true)
def iH (b:List UInt8):Nat->Mx->Nat->Nat×Bool->Option Mx
 | 0,m,_,s=>if s.1=b.length then some m else none
 | k+1,m,j,s =>
  if (nxt b (nxt b s).2).2.2=true\/(nxt b s).1=0\/((nxt b (nxt b s).2).1:Int)=m.d\/m.n*m.n<=j+(nxt b s).1-1\/isC ((nxt b (nxt b s).2).1:Int)=false then none
  else iH b k (m.set (eE m.n (j+(nxt b s).1-1)) (nxt b (nxt b s).2).1) (j+(nxt b s).1) (nxt b (nxt b s).2).2
def hdN (b:List UInt8):Nat×Nat×Bool:=nxt b (0,false)
def hdD (b:List UInt8):Nat×Nat×Bool:=nxt b (hdN b).2
def hdQ (b:List UInt8):Nat×Nat×Bool:=nxt b (hdD b).2
def nZ1 (b:List UInt8):Option Mx :=
 if cJ1 (hdN b).1 (hdD b).1=true/\(hdQ b).2.2=false then iH b (hdQ b).1 (newM (hdN b).1 (hdD b).1) 0 (hdQ b).2 else none
theorem jG1 (b:List UInt8) (k:Nat):(nxt b (k,true)).2.2=true:=by
 grind [nxt]
theorem zB {b:List UInt8} {s:Nat×Bool} (h:(nxt b s).2.2=false):s.2=false:=by
 grind [jG1]
theorem lP0 {b:List UInt8} {k:Nat} (h:(nxt b (k,false)).2.2=false):(nxt b (k,false)).1<=1048576/\(nxt b (k,false)).2=(k+(putU (nxt b (k,false)).1).length,false)/\b.drop k=putU (nxt b (k,false)).1++b.drop (nxt b (k,false)).2.1:=by
 unfold nxt at h ⊢
 cases hn:eY0 b k with
 | none=>simp_all
 | some x =>
  obtain⟨v,e⟩:=x;simp only;unfold eY0 at hn
  cases hr:rdU (b.drop k) with
  | none=>rw[hr]at hn;cases hn
  | some y =>
   obtain⟨v',n⟩:=y;rw[hr]at hn;simp only at hn;by_cases gv:v'<=1048576
   ·rw[if_pos gv]at hn
    grind [hH0,Bf,Bg]
   simp_all
theorem bD0 {b:List UInt8} {k v:Nat} {r:List UInt8} (h:b.drop k=putU v++r) (hv:v<=1048576):nxt b (k,false)=(v,k+(putU v).length,false)/\b.drop (k+(putU v).length)=r:=by
 have hn:eY0 b k=some (v,k+(putU v).length):=by
  unfold eY0;rw[h,vF (by omega)];simp only;rw[if_pos hv]
 grind [Bf,Bg,nxt]
theorem Mx.set_at {m:Mx} {i:Nat} (hi:i<m.n*m.n) (c:Int):(m.set (eE m.n i) c).cs=m.cs.set i c:=by
 show m.cs.set (at2 m.n (eE m.n i)) c=_
 rw[(kV hi).2]
theorem gM0 {l:List Int} {i j:Nat} {c:Int} (hi:i<l.length):(l.set i c).getD j 0=if j=i then c else l.getD j 0:=by
 grind
theorem lZ1 {m:Mx} (hm:m.OK) {i:Nat} {c:Int} (hi:i<m.n*m.n) (hc:c≠m.d) (iq:∀a∈m.idx,a<i):(m.set (eE m.n i) c).idx=m.idx++[i]:=by
 have hl:=hm.len;refine sW (lt:=(· < ·)) (by omega) (by omega) Mx.idx_up ?_ λy=>?_
 ·rw[As]
  exact⟨Mx.idx_up,by simp_all,by simp_all⟩
 ·rw[Mx.mem_idx,Mx.set_at hi,gM0 (by omega),List.mem_append,List.mem_singleton,Mx.mem_idx]
  show y<m.n*m.n/\_≠m.d↔_
  omega
theorem lT1 {m:Mx} {i:Nat} {c:Int} (hi:i<m.n*m.n) (hc:isC c=true):m.setB (eE m.n i) c=true:=by
 unfold Mx.setB;rw[(kV hi).1,hc];rfl
theorem tA (b:List UInt8):∀(k:Nat) (m:Mx) (j q:Nat) (M:Mx),q<=b.length->iH b k m j (q,false)=some M->m.OK->(∀i∈m.idx,i<j) ->
  M.OK/\M.n=m.n/\M.d=m.d/\∃L,M.idx=m.idx++L/\L.length=k/\b.drop q=pC M ((j:Int)-1) L/\∀i<j,M.cs.getD i 0=m.cs.getD i 0
 | 0,m,j,q,M,_,h,hm,_=>by
  simp only[iH]at h;by_cases hq:q=b.length
  ·rw[if_pos hq]at h
   obtain rfl:=Option.some.inj h;exact⟨hm,rfl,rfl,[],by simp,rfl,by rw[hq,List.drop_length];rfl,λ_ _=>rfl⟩
  ·rw[if_neg hq]at h;cases h
 | k+1,m,j,q,M,xx,h,hm,iq=>by
  simp only[iH]at h;split at h
  ·cases h
  ·rename_i hc
   simp only[not_or,Bool.not_eq_true]at hc;obtain⟨h1,h2,h3,h4,h5⟩:=hc;have eo:(nxt b (q,false)).2.2=false:=zB h1;obtain⟨x1,x2,x3⟩:=lP0 eo;generalize nxt b (q,false)=X at *;obtain⟨x,e,t⟩:=X;simp only[Prod.mk.injEq]at x1 x2 x3 h1 h2 h3 h4 h5 eo h;obtain⟨rfl,rfl⟩:=x2;obtain⟨y1,y2,y3⟩:=lP0 h1;generalize nxt b (q+(putU x).length,false)=Y at *;obtain⟨c,e,t⟩:=Y;simp only[Prod.mk.injEq]at y1 y2 y3 h1 h2 h3 h4 h5 h;obtain⟨rfl,rfl⟩:=y2;have hI:j+x-1<m.n*m.n:=by omega
   have acu:isC (c:Int)=true:=by cases hh:isC (c:Int) with
    | true=>rfl
    | false=>exact absurd hh h5
   have eu:=lT1 hI acu;have ng:=lZ1 hm hI h3 (λa ha=>by have:=iq a ha;omega)
   have hql:q+(putU x).length+(putU c).length<=b.length:=by
    have e1:=congrArg Ah x3;have e2:=congrArg Ah y3;simp only[Ai,Aj]at e1 e2
    have:=List.length_pos_iff.2 (pY x)
    have:=List.length_pos_iff.2 (pY c)
    omega
   obtain⟨r1,r2,r3,L,r4,r5,r6,r7⟩:=tA b k _ _ _ M hql h (hm.set eu) (λi hi=>by
    rw[ng]at hi;rcases List.mem_append.1 hi with hi|hi
    ·have:=iq i hi;omega
    ·rw[List.mem_singleton.1 hi];omega)
   have hl:=hm.len;refine⟨r1,r2,r3,(j+x-1)::L,by rw[r4,ng];simp,by simp[r5],?_,λi hi=>?_⟩
   ·show _=putU _++(putU _++pC M _ L)
    rw[x3,y3,r6];have g1:(((j+x-1:Nat):Int)-((j:Int)-1)).toNat=x:=by omega
    have g2:M.cs.getD (j+x-1) 0=c:=by
     rw[r7 _ (by omega),Mx.set_at hI,gM0 (by omega),if_pos rfl]
    have g3:((j+x:Nat):Int)-1=((j+x-1:Nat):Int):=by omega
    rw[g1,g2,g3];rfl
   ·rw[r7 i (by omega),Mx.set_at hI,gM0 (by omega),if_neg (by omega)]
def oW0 (M:Mx) (j:Nat):Mx:=⟨M.n,M.d,(Bh (M.n*M.n)).map λi=>if i<j then M.cs.getD i 0 else M.d⟩
theorem lW1 {M:Mx} (hM:M.OK) {j:Nat} (h:∀i,j<=i->i<M.n*M.n->M.cs.getD i 0=M.d):oW0 M j=M:=by
 obtain⟨n,d,cs⟩:=M;have hl:cs.length=n*n:=hM.len;show Mx.mk n d _=_
 congr 1
 apply Ao
 grind
theorem cF1 {M:Mx}:oW0 M 0=newM M.n M.d:=by
 unfold oW0 newM;simp only[Ap,Nat.not_lt_zero,if_false,Mx.mk.injEq,true_and];apply Ao
 grind
theorem hY1 {M:Mx} {i j:Nat} (hi:i<M.n*M.n) (hj:j<=i) (h:∀a,j<=a->a<i->M.cs.getD a 0=M.d):(oW0 M j).set (eE M.n i) (M.cs.getD i 0)=oW0 M (i+1):=by
 have e:((oW0 M j).set (eE M.n i) (M.cs.getD i 0)).cs=(oW0 M (i+1)).cs:=by
  have e0:((oW0 M j).set (eE M.n i) (M.cs.getD i 0)).cs=(oW0 M j).cs.set i (M.cs.getD i 0):=Mx.set_at (m:=oW0 M j) hi _;rw[e0];apply Ao
  intro a;show (List.set (Bn (λi=>if i<j then M.cs.getD i 0 else M.d) (Bh (M.n*M.n))) i _)[a]?=(Bn (λa=>if a<i+1 then M.cs.getD a 0 else M.d) (Bh (M.n*M.n)))[a]?
  rw[List.getElem?_set,An,An,Ba,List.length_range];by_cases ha:a<M.n*M.n
  ·grind
  ·simp_all
 show Mx.mk _ _ _=Mx.mk _ _ _
 exact congrArg _ e
theorem bA0 {M:Mx} {i:Nat} (hi:i<M.n*M.n) (h:i∉M.idx):M.cs.getD i 0=M.d:=by
 rw[Mx.mem_idx]at h;omega
theorem oP (b:List UInt8) (M:Mx) (hM:M.OK):∀(L A:List Nat) (j q:Nat),M.idx=A++L->(∀a∈A,a<j)->(∀a∈L,j<=a)->b.drop q=pC M ((j:Int)-1) L->q<=b.length ->
  iH b L.length (oW0 M j) j (q,false)=some M
 | [],A,j,q,ng,hA,_,hd,hq=>by
  have h1:q=b.length:=by
   have:=congrArg Ah hd
   simp only[pC,Aj,Bd]at this;omega
  simp only[Bd,iH];rw[if_pos h1,lW1 hM];intro i kw hi;refine bA0 hi λhm=>?_;rw[ng,List.append_nil]at hm
  have:=hA i hm
  omega
 | i::L,A,j,q,ng,hA,hL,hd,hq=>by
  have dz:i∈M.idx:=by rw[ng];simp
  obtain⟨hi,hid⟩:=Mx.mem_idx.1 dz;have gi:=hL i (List.mem_cons_self ..);have hup:(A++i::L).Pairwise (· < ·):=by rw[<-ng];exact Mx.idx_up
  rw[As,List.pairwise_cons]at hup;obtain⟨_,⟨ae0,_⟩,_⟩:=hup
  have td:0<=M.cs.getD i 0/\M.cs.getD i 0<=30000:=by
   have hl:=hM.len;rw[Am,Ag (by omega)];exact hM.cost _ (List.getElem_mem _)
  have hnn:M.n*M.n<=4096:=Be hM.n2 hM.n2;have ij:b.drop q=putU ((i:Int)-((j:Int)-1)).toNat++(putU (M.cs.getD i 0).toNat++pC M i L):=hd;obtain⟨x,hx⟩:=exq (((i:Int)-((j:Int)-1)).toNat);obtain⟨c,hc⟩:=exq ((M.cs.getD i 0).toNat);have rp:(c:Int)=M.cs.getD i 0:=by omega
  rw[<-hx,<-hc]at ij;obtain⟨x1,x2⟩:=bD0 ij (by omega);obtain⟨y1,y2⟩:=bD0 x2 (by omega);have hI:j+x-1=i:=by omega
  show iH b (L.length+1) (oW0 M j) j (q,false)=some M
  simp only[iH];rw[x1];simp only;rw[y1];simp only;rw[hI,rp];have acu:isC (M.cs.getD i 0)=true:=gD0.2 td
  rw[if_neg (by
   rintro(h|h|h|h|h)
   ·cases h
   ·omega
   ·exact hid h
   ·have h:M.n*M.n<=i:=h
    omega
   ·rw[acu]at h;cases h)]
  have eu:(oW0 M j).set (eE (oW0 M j).n i) (M.cs.getD i 0)=oW0 M (i+1):=hY1 hi gi λa ha1 ha2=>by
   refine bA0 (by omega) λhm=>?_;rw[ng]at hm;rcases List.mem_append.1 hm with hm|hm
   ·have:=hA a hm;omega
   ·rcases List.mem_cons.1 hm with rfl|hm
    ·omega
    ·have:=ae0 a hm;omega
  rw[eu,show j+x=i+1 by omega]
  refine oP b M hM L (A++[i]) (i+1) _ (by rw[ng];simp) (λa ha=>?_) (λa ha=>ae0 a ha) (by rw[y2];congr 1;omega) ?_
  ·rcases List.mem_append.1 ha with ha|ha
   ·have:=hA a ha;omega
   ·rw[List.mem_singleton.1 ha];omega
  ·have e1:=congrArg Ah ij
   simp only[Ai,Aj]at e1
   have:=List.length_pos_iff.2 (pY x)
   omega
theorem iN1 {b:List UInt8} {M:Mx}:nZ1 b=some M↔M.OK/\M.enc=b:=by
 constructor
 ·intro h
  unfold nZ1 at h;split at h
  ·rename_i hc
   obtain⟨hb,hq⟩:=hc;have hd:(hdD b).2.2=false:=zB hq;have hn:(hdN b).2.2=false:=zB hd;unfold hdQ at hq h;unfold hdD at hd hq hb h;obtain⟨a1,a2,a3⟩:=lP0 (b:=b) (k:=0) hn;rw[show nxt b (0,false)=hdN b from rfl]at a1 a2 a3
   generalize hdN b=X at *;obtain⟨x,e,t⟩:=X;simp only[Prod.mk.injEq]at a1 a2 a3 hd hq hb h;obtain⟨rfl,rfl⟩:=a2;obtain⟨c1,c2,c3⟩:=lP0 hd;generalize nxt b (0+(putU x).length,false)=Y at *;obtain⟨y,e,t⟩:=Y;simp only[Prod.mk.injEq]at c1 c2 c3 hq hb h;obtain⟨rfl,rfl⟩:=c2;obtain⟨d1,d2,d3⟩:=lP0 hq;generalize nxt b (0+(putU x).length+(putU y).length,false)=Z at *;obtain⟨z,e,t⟩:=Z;simp only[Prod.mk.injEq]at d1 d2 d3 h;obtain⟨rfl,rfl⟩:=d2
   have hql:0+(putU x).length+(putU y).length+(putU z).length<=b.length:=by
    have e1:=congrArg Ah a3;have e2:=congrArg Ah c3;have e3:=congrArg Ah d3;simp only[Ai,Aj]at e1 e2 e3
    have:=List.length_pos_iff.2 (pY x)
    have:=List.length_pos_iff.2 (pY y)
    have:=List.length_pos_iff.2 (pY z)
    omega
   have aap:(newM (x:Int) (y:Int)).idx=[]:=by
    apply List.eq_nil_iff_forall_not_mem.2
    intro i hi;obtain⟨h1,h2⟩:=Mx.mem_idx.1 hi;apply h2
    simp only[newM,Ap]at h1 ⊢;rw[Am,List.getElem?_replicate,if_pos h1];rfl
   obtain⟨r1,r2,r3,L,r4,r5,r6,_⟩:=tA b z _ 0 _ M hql h (nB0 hb) (λi hi=>by rw[aap]at hi;cases hi);rw[aap,Bb]at r4;refine⟨r1,?_⟩;unfold Mx.enc;rw[r2,r3,r4,r5];simp only[newM,Ap];have h0:b=b.drop 0:=rfl;rw[h0,a3,c3,d3,r6];rfl
  ·cases h
 ·rintro⟨hM,he⟩
  have h0:b.drop 0=putU M.n++(putU M.d.toNat++(putU M.idx.length++pC M (-1) M.idx)):=he.symm;have od:=hM.n2;have ev:=hM.d1;have ij:=hM.d2;have up:=Mx.idx_len hM;obtain⟨a1,a2⟩:=bD0 h0 (by omega);obtain⟨c1,c2⟩:=bD0 a2 (by omega);obtain⟨d1,d2⟩:=bD0 c2 (by omega);have e1:hdN b=(M.n,0+(putU M.n).length,false):=a1;have e2:hdD b=(M.d.toNat,0+(putU M.n).length+(putU M.d.toNat).length,false):=by unfold hdD;rw[e1];exact c1
  have e3:hdQ b=(M.idx.length,0+(putU M.n).length+(putU M.d.toNat).length+(putU M.idx.length).length,false):=by unfold hdQ;rw[e2];exact d1
  have hdd:((M.d.toNat:Nat):Int)=M.d:=by omega
  unfold nZ1;rw[e1,e2,e3];simp only;rw[hdd,if_pos ⟨tR.2 ⟨by have:=hM.n1;omega,by omega,ev,ij⟩,trivial⟩,<-cF1];refine oP b M hM M.idx [] 0 _ rfl (λa ha=>by cases ha) (λa _=>Nat.zero_le a) (by rw[d2];rfl) ?_
  have:=congrArg Ah he
  unfold Mx.enc at this;simp only[Ai]at this;omega
end
end Go.Proofs.YthgklnohcmaopaaGreatDoor
