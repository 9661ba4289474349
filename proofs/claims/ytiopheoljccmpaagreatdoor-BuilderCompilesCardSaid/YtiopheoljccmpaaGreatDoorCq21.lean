/- The texts EncP RdU RefRd W12 RdN RdC RdU1 DecM, one behind the other. -/
import Derived.Test.YtiopheoljccmpaaGreatDoorCq2
import Derived.Test.YtiopheoljccmpaaGreatDoorCq20
import Derived.Laws.BitsAllLaws
import Derived.Recover
open Go.World renaming cell?_setCell_other → Aa,cell?_setCell_same → Ab,frozen?_setCell → Ah,block_lt_of_cell? → Aj
open List renaming getD_eq_getElem?_getD → Ac,length_append → Ad,getElem?_eq_getElem → Af,length → Ag,mem_cons_self → Ak,length_drop → Al,drop_eq_getElem_cons → Am,flatMap_cons → Ap,cons_append → Aq,pairwise_append → As,mem_cons_of_mem → At,length_nil → Au,getElem?_map → Aw,ext_getElem? → Ax,getElem_mem → Az,range → Ba,filter_append → Be,pairwise_cons → Bh,length_range → Bi,append_assoc → Bj,length_map → Bo,range_succ → Bp,nil_append → Bq,append_nil → Bs,drop_drop → Bu,drop_left → Bv,mem_cons → By,getD → Cd,map → Ce
open Go.Addr renaming block → Ae
open Nat renaming pow_le_pow_right → Ai,le_refl → Ar,lt_or_ge → Av,mul_comm → Bb,mul_le_mul → Bc,lt_of_lt_of_le → Bg,pow_add → Bk,add_mul → Bn,mul_assoc → Bw,add_comm → Cb
open UInt8 renaming ofNat → An,toNat_ofNat' → Bf
open Go.Lib renaming hid → Ao,size_eq → Cc
open Int renaming toNat_natCast → Ay,add_assoc → Bd
open Array renaming replicate → Br
open Go.IntKind renaming signed → Bt,wrap → Bz,bits → Ca
set_option maxHeartbeats 4000000
namespace Go.Proofs.YtiopheoljccmpaaGreatDoor
set_option maxRecDepth 100000
section
open Go Go.RowKit
def jN (m:Mx):Int->List Nat->List UInt8
 | _,[]=>[]
 | last,i::r=>putU ((i:Int)-last).toNat++(putU (m.cs.getD i 0).toNat++jN m i r)
def Mx.enc (m:Mx):List UInt8:=putU m.n++(putU m.d.toNat++(putU m.idx.length++jN m (-1) m.idx))
theorem Mx.idx_len {m:Mx} (h:m.OK):m.idx.length<=4096:=by have:=Mx.pairs_len h; unfold Mx.pairs at this; rwa [Bo]at this
theorem Mx.idx_get {m:Mx} (h:m.OK) {k i:Nat} (hi:m.idx[k]?=some i):i<m.n*m.n/\m.pairs[k]?=some (eP m.n i)/\0<=m.cs.getD i 0/\m.cs.getD i 0<=30000/\m.cost (eP m.n i)=m.cs.getD i 0:=by
 have hm:=Mx.mem_idx.1 (List.mem_of_getElem? hi);obtain⟨h1,h2⟩:=mA hm.1;have h3:m.cost (eP m.n i)=m.cs.getD i 0:=by unfold Mx.cost;rw[if_pos h1,h2]
 have h4:=Mx.cost_ok h (eP m.n i);rw[h3]at h4;exact⟨hm.1,by unfold Mx.pairs;rw[Aw,hi];rfl,h4.1,h4.2,h3⟩
theorem Mx.idx_up {m:Mx}:m.idx.Pairwise (· < ·):=List.Pairwise.filter _ List.pairwise_lt_range
def tI0:Int->List Nat->Int
 | s,[]=>s
 | _,i::r=>tI0 i r
theorem cN0:∀(l:List Nat) (s:Int) (i:Nat),tI0 s (l++[i])=i
 | [],_,_=>rfl
 | a::l,_,i=>by rw[Aq];exact cN0 l a i
theorem cK0 (m:Mx):∀(l:List Nat) (s:Int) (i:Nat),jN m s (l++[i])=jN m s l++(putU ((i:Int)-tI0 s l).toNat++putU (m.cs.getD i 0).toNat)
 | [],s,i=>by simp[jN,tI0]
 | a::l,s,i=>by
  rw[Aq];show putU _++(putU _++jN m a (l++[i]))=(putU _++(putU _++jN m a l))++_
  rw[cK0 m l a i];simp[tI0]
def Mx.idxTo (m:Mx) (k:Nat):List Nat:=(Ba k).filter λi=>decide (m.cs.getD i 0≠m.d)
theorem vN0 {m:Mx} {k:Nat} (h:m.cs.getD k 0≠m.d):m.idxTo (k+1)=m.idxTo k++[k]:=by
 unfold Mx.idxTo;rw[Bp,Be];rw[Ac]at h;simp[h]
theorem rB0 {m:Mx} {k:Nat} (h:m.cs.getD k 0=m.d):m.idxTo (k+1)=m.idxTo k:=by
 unfold Mx.idxTo;rw[Bp,Be];rw[Ac]at h;simp[h]
theorem sI0 {m:Mx} (h:m.OK):m.idxTo m.cs.length=m.idx:=by unfold Mx.idxTo Mx.idx; rw[h.len]
theorem zF0 (m:Mx) (k:Nat):(m.idxTo k).length<=k:=by
 unfold Mx.idxTo
 have:=List.length_filter_le (λi=>decide (m.cs.getD i 0≠m.d)) (Ba k)
 rwa [Bi]at this
structure kO (m:Mx) (k n:Nat) (L:Int) (acc:List UInt8):Prop where
 num:n=(m.idxTo k).length
 last:L=tI0 (-1) (m.idxTo k)
 lo : -1<=L
 hi:L<k
 len:acc.length<=20*k
 acc:acc=jN m (-1) (m.idxTo k)
theorem kO.start (m:Mx):kO m 0 0 (-1) []:=⟨rfl,rfl,by omega,by omega,by simp,rfl⟩
theorem kO.hit {m:Mx} {k n:Nat} {L:Int} {acc:List UInt8} (h:kO m k n L acc) {c:Int} (hc:m.cs[k]?=some c) (hd:c≠m.d) :
  kO m (k+1) (n+1) k ((acc++putU ((k:Int)-L).toNat)++putU c.toNat):=by
 have hg:m.cs.getD k 0=c:=by simp[Cd,hc]
 have hx:m.idxTo (k+1)=m.idxTo k++[k]:=vN0 (by rw[hg];exact hd);have h1:=h.num;have h2:=h.len;have h3:=bK ((k:Int)-L).toNat;have h4:=bK c.toNat;refine⟨by rw[hx];simp;omega,by rw[hx,cN0],by omega,by omega,?_,?_⟩
 ·simp only[Ad];omega
 ·rw[hx,cK0,<-h.acc,<-h.last,hg];simp
theorem kO.miss {m:Mx} {k n:Nat} {L:Int} {acc:List UInt8} (h:kO m k n L acc) {c:Int} (hc:m.cs[k]?=some c) (hd:c=m.d):kO m (k+1) n L acc:=by
 have hg:m.cs.getD k 0=c:=by simp[Cd,hc]
 have hx:m.idxTo (k+1)=m.idxTo k:=rB0 (by rw[hg];exact hd);have h2:=h.len;have h3:=h.hi;exact⟨by rw[hx];exact h.num,by rw[hx];exact h.last,h.lo,by omega,by omega,by rw[hx];exact h.acc⟩
theorem kO.fin {m:Mx} {n:Nat} {L:Int} {acc:List UInt8} (h:kO m m.cs.length n L acc) (be:m.OK) (d:Nat) (hd:m.d=d):m.enc=((putU m.n++putU d)++putU n)++acc:=by
 have h1:=h.num;have h2:=h.acc;rw[sI0 be]at h1 h2;unfold Mx.enc;rw[h1,h2,hd];simp
theorem kO.num_le {m:Mx} {k n:Nat} {L:Int} {acc:List UInt8} (h:kO m k n L acc):n<=k:=by rw[h.num]; exact zF0 m k
theorem pU {n:Nat} (h:128<=n) (hn:n<18446744073709551616):putU n=An (n%128+128)::putU (n/128):=by
 have h1:putU n=An (n%128+128)::tI 9 (n/128):=by
  show (if n<128 then [An n] else An (n%128+128)::tI 9 (n/128))=_
  rw[if_neg (by omega)]
 have h2:n/128<128^9:=by
  have:(128:Nat)^9=9223372036854775808:=by decide
  omega
 rw[h1];unfold putU;rw[vH 9 10 (n/128) h2 (by omega) (by omega)]
theorem lF (n:Nat):putU n≠[]:=by
 unfold putU tI;split<;>simp
def uE0:List UInt8->Nat->Nat->Option (Nat×Nat)
 | [],_,_=>none
 | c::r,s,acc =>
  if (s=63/\1<c.toNat)\/(0<s/\c.toNat=0) then none
  else if c.toNat<128 then some (acc+c.toNat*2^s,1)
  else (uE0 r (s+7) (acc+(c.toNat%128)*2^s)).map λx=>(x.1,x.2+1)
def rdU (l:List UInt8):Option (Nat×Nat):=uE0 l 0 0
theorem nQ0:∀(l:List UInt8) (j acc v k:Nat),j<=9->(uE0 l (7*j) acc=some (v,k) ↔
  ∃n r,n<2^(64-7*j)/\(0<j->0<n)/\v=acc+n*2^(7*j)/\l=putU n++r/\k=(putU n).length)
 | [],j,acc,v,k,hj=>by
  constructor
  ·intro h;cases h
  ·rintro⟨n,r,_,_,_,h,_⟩
   have:=congrArg Ag h
   have h2:=lF n
   cases hp:putU n with
   | nil=>exact absurd hp h2
   | cons a b=>rw[hp]at this;simp at this
 | c::r,j,acc,v,k,hj=>by
  have hc:=c.toNat_lt;have ky:(2:Nat)^64=18446744073709551616:=by decide
  have head:∀n r',n<2^(64-7*j)->c::r=putU n++r'->(n<128->c.toNat=n/\r=r')/\(128<=n->c.toNat=n%128+128/\r=putU (n/128)++r'):=by
   intro n r' hn e
   have xy:n<18446744073709551616:=by
    have:(2:Nat)^(64-7*j)<=2^64:=Ai (by decide) (by omega)
    omega
   constructor
   ·intro h
    rw[gS h]at e;simp only[Aq,Bq,List.cons.injEq]at e;refine⟨?_,e.2⟩;rw[e.1,Bf];omega
   ·intro h
    rw[pU h xy]at e;simp only[Aq,List.cons.injEq]at e;refine⟨?_,e.2⟩;rw[e.1,Bf];omega
  show (if (7*j=63/\1<c.toNat)\/(0<7*j/\c.toNat=0) then none
   else if c.toNat<128 then some (acc+c.toNat*2^(7*j),1)
   else (uE0 r (7*j+7) (acc+(c.toNat%128)*2^(7*j))).map λx=>(x.1,x.2+1))=some (v,k)↔_
  by_cases hb:(7*j=63/\1<c.toNat)\/(0<7*j/\c.toNat=0)
  ·rw[if_pos hb]
   constructor
   ·intro h;cases h
   ·rintro⟨n,r',hn,cu,_,e,_⟩
    obtain⟨h1,h2⟩:=head n r' hn e;exfalso
    rcases hb with ⟨gh,fp⟩|⟨gh,fp⟩
    ·obtain rfl:j=9:=by omega
     have ii:n<2:=by simpa using hn
     have:=(h1 (by omega)).1
     omega
    ·have hp:=cu (by omega)
     rcases Av n 128 with h|h
     ·have:=(h1 h).1;omega
     ·have:=(h2 h).1;omega
  ·rw[if_neg hb]
   by_cases hs:c.toNat<128
   ·rw[if_pos hs]
    constructor
    ·intro h
     simp only[Option.some.injEq,Prod.mk.injEq]at h;refine⟨c.toNat,r,?_,λ_=>by omega,h.1.symm,?_,?_⟩
     ·by_cases h9:j=9
      ·subst h9
       have:¬1<c.toNat:=λh=>hb (Or.inl ⟨rfl,h⟩)
       show c.toNat<2
       omega
      ·have:(2:Nat)^8<=2^(64-7*j):=Ai (by decide) (by omega)
       have h8:(2:Nat)^8=256:=by decide
       omega
     ·rw[gS hs];simp
     ·rw[gS hs];simp;omega
    ·rintro⟨n,r',hn,cu,hv,e,hk⟩
     obtain⟨h1,h2⟩:=head n r' hn e
     have q9:n<128:=by
      rcases Av n 128 with h|h
      ·exact h
      ·have:=(h2 h).1;omega
     rw[(h1 q9).1,hv,hk,gS q9];rfl
   ·rw[if_neg hs]
    have hj8:j<=8:=by
     rcases Av j 9 with h|h
     ·omega
     ·exact absurd (Or.inl ⟨by omega,by omega⟩) hb
    have qu:(2:Nat)^(7*(j+1))=128*2^(7*j):=by rw[Nat.mul_add,Bk,Bb]
    have afn:(2:Nat)^(64-7*j)=128*2^(64-7*(j+1)):=by
     rw[show 64-7*j=7+(64-7*(j+1)) by omega,Bk]
    have IH:=nQ0 r (j+1) (acc+(c.toNat%128)*2^(7*j));rw[show 7*(j+1)=7*j+7 by omega]at IH
    constructor
    ·intro h
     cases hr:uE0 r (7*j+7) (acc+(c.toNat%128)*2^(7*j)) with
     | none=>rw[hr]at h;cases h
     | some x =>
      obtain⟨v',k'⟩:=x;rw[hr]at h;simp only[Option.map_some,Option.some.injEq,Prod.mk.injEq]at h;obtain⟨rfl,rfl⟩:=h;obtain⟨n',r',hn',ae3,hv',zz,hk'⟩:=(IH v' k' (by omega)).1 hr;have hp':=ae3 (by omega);rw[show 7*j+7=7*(j+1) by omega]at hv' hn'
      have da:128<=n'*128+c.toNat%128:=by omega
      have hn:n'*128+c.toNat%128<2^(64-7*j):=by rw[afn];omega
      have xy:n'*128+c.toNat%128<18446744073709551616:=by
       have:(2:Nat)^(64-7*j)<=2^64:=Ai (by decide) (by omega)
       omega
      have j9:putU (n'*128+c.toNat%128)=c::putU n':=by
       rw[pU da xy];have e1:(n'*128+c.toNat%128)/128=n':=by omega
       have e2:(n'*128+c.toNat%128)%128+128=c.toNat:=by omega
       rw[e1,e2];simp
      refine⟨n'*128+c.toNat%128,r',hn,λ_=>by omega,?_,?_,?_⟩
      ·rw[hv',qu,Bn,Bw];omega
      ·rw[j9,zz];simp
      ·rw[j9,hk'];simp
    ·rintro⟨n,r',hn,cu,hv,e,hk⟩
     obtain⟨h1,h2⟩:=head n r' hn e
     have q9:128<=n:=by
      rcases Av n 128 with h|h
      ·have:=(h1 h).1;omega
      ·exact h
     obtain⟨g1,g2⟩:=h2 q9
     have xy:n<18446744073709551616:=by
      have:(2:Nat)^(64-7*j)<=2^64:=Ai (by decide) (by omega)
      omega
     have hr:=(IH v (putU (n/128)).length (by omega)).2 ⟨n/128,r',by rw[show 7*j+7=7*(j+1) by omega];rw[afn]at hn;omega,λ_=>by omega,by
      rw[show 7*j+7=7*(j+1) by omega,qu,hv,<-Bw,show c.toNat%128=n%128 by omega]
      have:=Nat.div_add_mod n 128
      have h3:n*2^(7*j)=(n/128*128+n%128)*2^(7*j):=by rw[Bb (n/128) 128,this]
      rw[h3,Bn];omega,g2,rfl⟩
     rw[hr,hk,pU q9 xy];simp
theorem lP0 {l:List UInt8} {v k:Nat}:rdU l=some (v,k)↔∃r,v<18446744073709551616/\l=putU v++r/\k=(putU v).length:=by
 have h:=nQ0 l 0 0 v k (by omega);unfold rdU;rw[show (0:Nat)=7*0 from rfl]
 rw[show (7*0:Nat)=0 from rfl]at h
 rw[show (7*0:Nat)=0 from rfl,h]
 constructor
 ·rintro⟨n,r,hn,_,hv,hl,hk⟩
  obtain rfl:v=n:=by simpa using hv
  exact⟨r,by simpa using hn,hl,hk⟩
 ·rintro⟨r,hv,hl,hk⟩
  exact⟨v,r,by simpa using hv,by omega,by simp,hl,hk⟩
theorem uL {v:Nat} (h:v<18446744073709551616) (r:List UInt8):rdU (putU v++r)=some (v,(putU v).length):=lP0.2 ⟨r,h,rfl,rfl⟩
theorem cG1 {a b:Nat} (ha:a<18446744073709551616) (hb:b<18446744073709551616) {r r':List UInt8} (h:putU a++r=putU b++r'):a=b/\r=r':=by
 have h1:=uL ha r;rw[h,uL hb r']at h1;simp only[Option.some.injEq,Prod.mk.injEq]at h1;obtain rfl:=h1.1;exact⟨rfl,List.append_cancel_left h⟩
end
section
open Go Go.RowKit
attribute [local go_sem] aM aP
theorem lV (n:Nat) (w:World) (hv:n<18446744073709551616) :
  Calls Tryz.prog 177 #[.int .u64 n] w λe w'=>∃v,e=.returned v/\aO w' w.heap.size 5 1 aQ v (putU n)/\aB w w':=by
 go_enter Tryz.func177,Tryz.ntmps177
 go_wp2_with fail
 go_loopw [0,3] (λv b wr=>∃(k:Nat) (pre:List UInt8),v=.int .u64 k/\aO wr w.heap.size 5 1 aQ b pre/\Hid (pre++putU k=putU n)/\k<18446744073709551616/\aB w wr) (λv _ _=>(intOf v).toNat)
 case atStart=>exact⟨n,[],rfl,aO.nil _ _ _ _ _,rfl,hv,aB.refl _⟩
 case round =>
  obtain⟨k,pre,rfl,hs,hp,hk,hg⟩:=hrel
  have jd:pre.length<=10:=by
   have h1:=congrArg Ag hp.out;have h2:=bK n;rw[Ad]at h1;omega
  by_cases ul:128<=k
  ·have di:(128:Int)<=k:=by omega
   have HB:=Ao (fF1 k);rw[pU ul hk]at hp;go_wp2_with (at_builtin;refine dQ aR rfl _ _ rfl w.heap.size _ pre (An (k%128+128)) rfl hs (aB.refl _) _ 1 rfl _ HB.out rfl (by omega) hg.size ?_;intro v' w5 ai bg)
   go_roundw
   case rel=>exact⟨k/128,pre++[An (k%128+128)],by go_num,ai,by show (pre++[_])++putU (k/128)=putU n;rw[Bj];exact hp.out,by omega,bg w hg (Ar _)⟩
   case measure=>simp[intOf];omega
  ·have di:¬(128:Int)<=k:=by omega
   have hb:=Ao (eQ0 (k:=k) (by omega));rw[gS (by omega)]at hp;go_wp2_with (at_builtin;refine dQ aR rfl _ _ rfl w.heap.size _ pre (An k) rfl hs (aB.refl _) _ 1 rfl _ (by rw[hb.out];rfl) rfl (by omega) hg.size ?_;intro v' w5 ai bg)
   go_ret;refine⟨_,rfl,?_,bg w hg (Ar _)⟩;rw[<-hp.out];exact ai
def rZ (s:ByteArray):List UInt8:=putU s.size++s.data.toList
theorem mX (s:ByteArray):(rZ s).length<=10+s.size:=by
 have:=bK s.size
 unfold rZ;rw[Ad,Cc];rw[<-Cc];omega
theorem iH0 (s:ByteArray) (w:World) (hs:s.size<=1099511627776) :
  Calls Tryz.prog 178 #[.string s] w λe w'=>∃v,e=.returned v/\aO w' w.heap.size 5 1 aQ v (rZ s)/\aB w w':=by
 have hl:=bK s.size;have hw:IntKind.u64.wrap (s.size:Int)=s.size:=by simp[Bz,Ca,Bt];omega
 go_enter Tryz.func178,Tryz.ntmps178
 go_wp2_with fail
 refine(lV s.size w (by omega)).mono ?_;rintro e w1 ⟨v1,rfl,ax,aq⟩;go_wp2_with (at_builtin;refine yZ0 rfl _ _ rfl w.heap.size _ _ s rfl ax (aB.refl _) rfl (by omega) aq.size ?_;intro v2 w2 aj an _)
 go_ret;exact⟨_,rfl,aj,an w aq (Ar _)⟩
theorem jE0 {n:Nat} (h:n<18446744073709551616):IntKind.u64.wrap (n:Int)=n:=by simp[Bz,Ca,Bt]; omega
theorem bV1 {acc c s:Nat} (h1:acc<2^s) (h2:s<=63) (h3:c%128*2^s<18446744073709551616) (hc:c<256) :
  bits .or .u64 (acc:Int) (IntKind.u64.wrap (IntKind.u64.wrap (bits .and .u8 (c:Int) 127)*2^s))=((acc+c%128*2^s:Nat):Int):=by
 have e1:bits .and .u8 (c:Int) 127=((c%128:Nat):Int):=by
  rw[show (127:Int)=((127:Nat):Int) from rfl,u8_and_nat c 127 hc (by decide)]
  congr 1
  exact Nat.and_two_pow_sub_one_eq_mod c 7
 rw[e1,jE0 (by omega),show ((c%128:Nat):Int)*2^s=((c%128*2^s:Nat):Int) by push_cast;rfl,jE0 h3]
 have h4:(2:Nat)^s<=2^63:=Ai (by decide) h2;have h5:(2:Nat)^63=9223372036854775808:=by decide
 rw[u64_or_nat _ _ (by omega) h3];congr 1
 rw[Nat.or_comm,Bb,<-Nat.two_pow_add_eq_or_of_lt h1,Cb]
def hM0:Value := .iface 299 (.agg #[])
def fU1 (R:Option (Nat×Nat)) (s:Value) (rb k:Nat) (w:World) (e:Ending) (w':World):Prop :=
 ((∃v n,R=some (v,n)/\e=.returned (.int .u64 v)/\w'.cell? ⟨rb,1,none⟩=some (.int .i64 ((k+n:Nat):Int))/\w'.cell? ⟨rb,0,none⟩=some s/\w'.frozen? ⟨rb,1,none⟩=false)\/(R=none/\e=.panicked [{ v:=hM0,recovered:=false }]))/\EB rb w w'
theorem yV0 (b:List UInt8) (rb k:Nat) (ba:Option Addr) (bc:Nat) (w:World) (hk:k<=b.length) (hb:b.length<=1099511627776) (ah:aF w ba 1 (b.map aQ)) (hba:∀q:Addr,ba=some q->b≠[]->q.block<rb)
  (c0:w.cell? ⟨rb,0,none⟩=some (.slice ba b.length bc)) (c1:w.cell? ⟨rb,1,none⟩=some (.int .i64 k)) (f1:w.frozen? ⟨rb,1,none⟩=false) :
  Calls Tryz.prog 188 #[.pointer (some ⟨rb,0,none⟩)] w (fU1 (rdU (b.drop k)) (.slice ba b.length bc) rb k w):=by
 obtain⟨R,hR⟩:=exq (rdU (b.drop k));rw[<-hR]
 have HR:Hid (R=(uE0 (b.drop (k+0)) 0 0).map λx=>(x.1,x.2+0)):=by
  show R=_
  rw[hR];unfold rdU;rw[Nat.add_zero];show uE0 (b.drop k) 0 0=_
  cases uE0 (b.drop k) 0 0<;>rfl
 have HAT:=Ao ah;have HBA:=Ao hba;clear hR ah hba;go_enter Tryz.func188,Tryz.ntmps188
 go_wp2_with fail
 go_loopw [3,4] (λv s wr=>∃S q i acc:Nat,Hid (∃j,j<=9/\S=7*j)/\S<=63/\k+q=i/\i<=b.length/\v=.int .u64 acc/\s=.int .i64 (S:Nat)/\acc<2^S/\wr.cell? ⟨rb,0,none⟩=some (.slice ba b.length bc)/\wr.cell? ⟨rb,1,none⟩=some (.int .i64 (i:Int))/\wr.frozen? ⟨rb,1,none⟩=false/\EB rb w wr/\Hid (R=(uE0 (b.drop i) S acc).map λx=>(x.1,x.2+q))) (λ_ s _=>64-(intOf s).toNat)
 case atStart=>exact⟨0,0,k,0,⟨0,by omega,rfl⟩,by omega,rfl,hk,rfl,rfl,by decide,c0,c1,f1,EB.refl _ _,HR.out⟩
 case round =>
  obtain⟨S,q,i,acc,hSj,hS,hqi,hq,rfl,rfl,bk,d0,d1,df,ff,ak⟩:=hrel;have z0:∀x:Ext aB wr.drew,x.u.cell? ⟨rb,0,none⟩=some (.slice ba b.length bc):=aG ((aB.drew wr).cell d0);have z1:∀x:Ext aB wr.drew,x.u.cell? ⟨rb,1,none⟩=some (.int .i64 (i:Int)):=aG ((aB.drew wr).cell d1);have o8:rb<=wr.heap.size:=Nat.le_of_lt (Aj wr _ d0);by_cases mr:i<b.length
  ·obtain⟨c,hc⟩:∃c,b[i]?=some c:=⟨_,Af mr⟩
   have fj:b.drop i=c::b.drop (i+1):=by
    rw[Am mr];rw[Af mr]at hc;rw[Option.some.inj hc]
   obtain⟨bb,bo,rfl,mm⟩:=HAT.out.get (aH mr);have kc:=HBA.out _ rfl (aH mr);simp only at kc
   have dc:wr.cell? ⟨bb,bo+i,none⟩=some (.int .u8 c.toNat):=by
    rw[Below.cell ff.1 (by exact kc)];simpa using mm i c hc 0 _ rfl
   have hkq:(i:Int)<b.length:=by omega
   have ab3:=c.toNat_lt;have y0:∀x:Ext aB wr.drew.drew,x.u.cell? ⟨rb,0,none⟩=some (.slice (some ⟨bb,bo,none⟩) b.length bc):=aG ((aB.drew wr).dr.cell d0);have y1:∀x:Ext aB wr.drew.drew,x.u.cell? ⟨rb,1,none⟩=some (.int .i64 (i:Int)):=aG ((aB.drew wr).dr.cell d1);have yc:∀x:Ext aB wr.drew.drew,x.u.cell? ⟨bb,bo+i,none⟩=some (.int .u8 c.toNat):=aG ((aB.drew wr).dr.cell dc);have og:=ak.out;rw[fj]at og;have HI:=Ao og;clear ak og fj hc mm HR;go_wp2_with fail
   refine bH (aT 10 []) (by kernel_rfl) (λd _ _ _ _ h=>by cases d<;>exact h) ?_
   iterate 10 (refine aJ rfl (λK hK=>?_);go_simp;refine hK _ ?_;clear hK K)
   refine bN ?_;clear z0 z1;go_wp2_with fail
   refine bH (aT 11 []) (by kernel_rfl) (λd _ _ _ _ h=>by cases d<;>exact h) ?_
   iterate 11 (refine aJ rfl (λK hK=>?_);go_simp;refine hK _ ?_;clear hK K)
   refine bN ?_;clear y0 y1 yc;have cj:(wr.setCell ⟨rb,1,none⟩ (.int .i64 ((i:Int)+1))).drew.drew.cell? ⟨rb,1,none⟩=some (.int .i64 ((i:Int)+1)):=Ab _ _ _ d1;have afo:EB rb w (wr.setCell ⟨rb,1,none⟩ (.int .i64 ((i:Int)+1))).drew.drew:=EB.trans _ _ _ _ (EB.trans _ _ _ _ ff ⟨(Below.refl rb wr).setCell (p:=⟨rb,1,none⟩) (Ar rb) _,by simp⟩) (EB.of ((aB.drew _).dr) (by simpa using o8));have HC2:=Ao cj;have HE2:=Ao afo;have HD0:Hid ((wr.setCell ⟨rb,1,none⟩ (.int .i64 ((i:Int)+1))).drew.drew.cell? ⟨rb,0,none⟩=some (.slice (some ⟨bb,bo,none⟩) b.length bc)):=(Aa _ _ _ _ (λe=>by cases e)).trans d0;have HDF:Hid ((wr.setCell ⟨rb,1,none⟩ (.int .i64 ((i:Int)+1))).drew.drew.frozen? ⟨rb,1,none⟩=false):=(Ah _ _ _ _).trans df;clear cj afo;by_cases fq:(S=63/\1<c.toNat)\/(0<S/\c.toNat=0)
   ·have iw:R=none:=by
     rw[HI.out];unfold uE0;rw[if_pos fq];rfl
    subst iw;clear HI;by_cases h9:S=63
    ·have h63:((S:Int)==63)=true:=by rw[beq_iff_eq];omega
     have cu:(0:Int)<S:=by omega
     by_cases h1:1<c.toNat
     ·have h1i:(1:Int)<c.toNat:=by omega
      clear fq h9;go_wp2_with fail
      exact⟨rfl,Or.inr ⟨rfl,rfl⟩,EB.trans _ _ _ _ ff (EB.of ((aB.drew wr).dr) o8)⟩
     ·have h1i:¬(1:Int)<c.toNat:=by omega
      have hz:(c.toNat:Int)=0:=by omega
      clear fq h9;go_wp2_with fail
      exact⟨rfl,Or.inr ⟨rfl,rfl⟩,EB.trans _ _ _ _ ff (EB.of ((aB.drew wr).dr) o8)⟩
    ·have h63:((S:Int)==63)=false:=by rw[beq_eq_false_iff_ne];omega
     have cu:(0:Int)<S:=by omega
     have hz:(c.toNat:Int)=0:=by omega
     clear fq h9;go_wp2_with fail
     exact⟨rfl,Or.inr ⟨rfl,rfl⟩,EB.trans _ _ _ _ ff (EB.of ((aB.drew wr).dr) o8)⟩
   ·have je:c.toNat%128*2^S<18446744073709551616:=by
     by_cases h9:S=63
     ·have:c.toNat<=1:=by
       rcases Av 1 c.toNat with h|h
       ·exact absurd (Or.inl ⟨h9,h⟩) fq
       ·exact h
      have h2:(2:Nat)^S=9223372036854775808:=by rw[h9]
      rw[h2];omega
     ·obtain⟨j,hj,adt⟩:=hSj.out
      have h2:(2:Nat)^S<=2^56:=Ai (by decide) (by omega);have h3:(2:Nat)^56=72057594037927936:=by decide
      have h4:c.toNat%128*2^S<=127*2^56:=Bc (by omega) h2;omega
    have t7:=bV1 bk hS je ab3;have HUP:=Ao t7;have hgo:=HI.out;unfold uE0 at hgo;rw[if_neg fq]at hgo;clear HI je;by_cases hl:c.toNat<128
    ·rw[if_pos hl]at hgo
     have au:R=some (acc+c.toNat%128*2^S,q+1):=by
      rw[hgo,Nat.mod_eq_of_lt hl,Cb q 1];rfl
     subst au;clear hgo t7;have hli:(c.toNat:Int)<128:=by omega
     by_cases h0:S=0
     ·have cu:¬(0:Int)<S:=by omega
      have h63:((S:Int)==63)=false:=by rw[beq_eq_false_iff_ne];omega
      clear fq h0;go_wp2_with fail
      go_ret;exact⟨Or.inl ⟨_,_,rfl,congrArg (λx=>Ending.returned (.int .u64 x)) HUP.out,by rw[HC2.out,<-hqi];push_cast;rw[Bd],HD0.out,HDF.out⟩,HE2.out⟩
     ·have cu:(0:Int)<S:=by omega
      have hz:¬(c.toNat:Int)=0:=by omega
      by_cases h9:S=63
      ·have h63:((S:Int)==63)=true:=by rw[beq_iff_eq];omega
       have h1i:¬(1:Int)<c.toNat:=by omega
       clear fq h9 h0;go_wp2_with fail
       go_ret;exact⟨Or.inl ⟨_,_,rfl,congrArg (λx=>Ending.returned (.int .u64 x)) HUP.out,by rw[HC2.out,<-hqi];push_cast;rw[Bd],HD0.out,HDF.out⟩,HE2.out⟩
      ·have h63:((S:Int)==63)=false:=by rw[beq_eq_false_iff_ne];omega
       clear fq h9 h0;go_wp2_with fail
       go_ret;exact⟨Or.inl ⟨_,_,rfl,congrArg (λx=>Ending.returned (.int .u64 x)) HUP.out,by rw[HC2.out,<-hqi];push_cast;rw[Bd],HD0.out,HDF.out⟩,HE2.out⟩
    ·rw[if_neg hl]at hgo
     have hS9:S≠63:=λh=>fq (Or.inl ⟨h,by omega⟩)
     have adt:Hid (∃j,j<=9/\S+7=7*j):=by
      obtain⟨j,hj,e⟩:=hSj.out;exact⟨j+1,by omega,by omega⟩
     have hS2:S+7<=63:=by
      obtain⟨j,hj,e⟩:=hSj.out;omega
     have hli:¬(c.toNat:Int)<128:=by omega
     have h63:((S:Int)==63)=false:=by rw[beq_eq_false_iff_ne];omega
     have ab4:Hid (R=(uE0 (b.drop (i+1)) (S+7) (acc+c.toNat%128*2^S)).map λx=>(x.1,x.2+(q+1))):=by
      show R=_
      rw[hgo,Option.map_map];congr 1
      funext x
      simp only[Function.comp];congr 1
      omega
     have ab5:acc+c.toNat%128*2^S<2^(S+7):=by
      have h1:(2:Nat)^(S+7)=128*2^S:=by rw[Bk,Bb]
      have h2:(c.toNat%128+1)*2^S<=128*2^S:=Nat.mul_le_mul_right _ (by omega);rw[Bn]at h2;omega
     have HA:=Ao ab5;clear ab5 hgo t7;by_cases h0:S=0
     ·have cu:¬(0:Int)<S:=by omega
      clear fq h0 hS9;go_wp2_with fail
      go_roundw
      case rel=>exact⟨S+7,q+1,i+1,_,adt,hS2,by omega,mr,congrArg _ HUP.out,by first|rfl|go_num,HA.out,HD0.out,by rw[HC2.out];rfl,HDF.out,HE2.out,ab4.out⟩
      case measure=>simp[intOf];omega
     ·have cu:(0:Int)<S:=by omega
      have hz:¬(c.toNat:Int)=0:=by omega
      clear fq h0 hS9;go_wp2_with fail
      go_roundw
      case rel=>exact⟨S+7,q+1,i+1,_,adt,hS2,by omega,mr,congrArg _ HUP.out,by first|rfl|go_num,HA.out,HD0.out,by rw[HC2.out];rfl,HDF.out,HE2.out,ab4.out⟩
      case measure=>simp[intOf];omega
  ·have fw:¬(i:Int)<b.length:=by omega
   have iw:R=none:=by rw[ak.out,List.drop_eq_nil_of_le (by omega)];rfl
   subst iw;clear ak HR;go_wp2_with fail
   refine bH (aT 10 []) (by kernel_rfl) (λd _ _ _ _ h=>by cases d<;>exact h) ?_
   iterate 10 (refine aJ rfl (λK hK=>?_);go_simp;refine hK _ ?_;clear hK K)
   refine bN ?_;clear z0 z1;go_wp2_with fail
   exact⟨rfl,Or.inr ⟨rfl,rfl⟩,EB.trans _ _ _ _ ff (EB.of (aB.drew wr) o8)⟩
theorem gQ0 {a b c:World} {B:Nat} (h:aB a b) (k:EB B b c) (hB:a.heap.size<=B):aB a c:=Below.trans h (Below.mono k.1 hB)
theorem cO {w w':World} {cs:Array Value} {t:TypeId} (hg:aB (w.alloc (.cells cs t)) w'):(∀j v,cs[j]?=some v->w'.cell? ⟨w.heap.size,j,none⟩=some v)/\(∀j,w'.frozen? ⟨w.heap.size,j,none⟩=false):=by
 refine⟨λj v h=>hg.cell (aX w cs t _ j v h),λj=>?_⟩;rw[hg.froz (by simp)]
 have hh:(w.alloc (.cells cs t)).heap[w.heap.size]?=some (.cells cs t (0,0)):=by
  show (w.heap.push _)[w.heap.size]?=_
  simp
 unfold World.frozen?;simp only[hh];simp
theorem zE0 (p0 p1 p2:Nat) (w:World) (re:List PanicEntry) (v0 v1 v2:Value) (c0:w.cell? ⟨p0,0,none⟩=some v0) (c1:w.cell? ⟨p1,0,none⟩=some v1) (c2:w.cell? ⟨p2,0,none⟩=some v2)
  (f0:w.frozen? ⟨p0,0,none⟩=false) (f1:w.frozen? ⟨p1,0,none⟩=false) (f2:w.frozen? ⟨p2,0,none⟩=false) (n01:p0≠p1) (n02:p0≠p2) (n12:p1≠p2) (B:Nat) (hB0:B<=p0) (hB1:B<=p1) (hB2:B<=p2) :
  CallsD Tryz.prog 244 #[.pointer (some ⟨p0,0,none⟩),.pointer (some ⟨p1,0,none⟩),.pointer (some ⟨p2,0,none⟩)] (.panicking ({ v:=hM0,recovered:=false }::re)) w λe u' w' =>
   e=.returned (.tuple #[])/\u' = .panicking ({ v:=hM0,recovered:=true }::re)/\w'.cell? ⟨p0,0,none⟩=some (.int .u64 0)/\w'.cell? ⟨p1,0,none⟩=some (.int .i64 0)/\w'.cell? ⟨p2,0,none⟩=some (.bool false)/\EB B w w':=by
 have hta:∀W:World,(Instr.typeAssert (.iface 299 (.agg #[])) 20 299 true).run Tryz.prog W=.ok (.tuple #[.agg #[],.bool true]) W:=λW=>by kernel_rfl
 have ol:=aB.alloc w (.cells #[] 299);have b0:=Aj w _ c0;have b1:=Aj w _ c1;have b2:=Aj w _ c2;have d0:=ol.cell c0;have d1:=ol.cell c1;have d2:=ol.cell c2;have g0:=(ol.froz (p:=⟨p0,0,none⟩) b0).trans f0;have g1:=(ol.froz (p:=⟨p1,0,none⟩) b1).trans f1;have g2:=(ol.froz (p:=⟨p2,0,none⟩) b2).trans f2;have e1:(w.alloc (.cells #[] 299) |>.setCell ⟨p0,0,none⟩ (.int .u64 0)).cell? ⟨p1,0,none⟩=some v1:=(Aa _ _ _ _ (λe=>n01 (congrArg Ae e))).trans d1
 have e2:((w.alloc (.cells #[] 299) |>.setCell ⟨p0,0,none⟩ (.int .u64 0)).setCell ⟨p1,0,none⟩ (.int .i64 0)).cell? ⟨p2,0,none⟩=some v2:=(Aa _ _ _ _ (λe=>n12 (congrArg Ae e))).trans ((Aa _ _ _ _ (λe=>n02 (congrArg Ae e))).trans d2)
 refine callsD_of_wpS Tryz.func244 rfl λc₀ cs hu=>?_;apply wpS_seq
 apply wpS_region
 simp[wpOpsS,go_sem,recoverD,hu,Tryz.ntmps244,Exit.thenS,hM0]
 refine wpS_of_wp ?_;rw[show (#[Value.pointer (some ⟨p0,0,none⟩),.pointer (some ⟨p1,0,none⟩),.pointer (some ⟨p2,0,none⟩)]++(Br 11 undef).setIfInBounds 4 (.iface 299 (.agg #[]))) = #[.pointer (some ⟨p0,0,none⟩),.pointer (some ⟨p1,0,none⟩),.pointer (some ⟨p2,0,none⟩),undef,undef,undef,undef,.iface 299 (.agg #[]),undef,undef,undef,undef,undef,undef] from rfl]
 go_wp2
 have m4:(((w.setCell ⟨p0,0,none⟩ (.int .u64 0)).setCell ⟨p1,0,none⟩ (.int .i64 0)).setCell ⟨p2,0,none⟩ (.bool false)).cell? ⟨p0,0,none⟩=some (.int .u64 0):=by
  rw[Aa _ _ _ _ (λe=>n02 (congrArg Ae e).symm),Aa _ _ _ _ (λe=>n01 (congrArg Ae e).symm)];exact Ab _ _ _ c0
 have gk:(((w.setCell ⟨p0,0,none⟩ (.int .u64 0)).setCell ⟨p1,0,none⟩ (.int .i64 0)).setCell ⟨p2,0,none⟩ (.bool false)).cell? ⟨p1,0,none⟩=some (.int .i64 0):=by
  rw[Aa _ _ _ _ (λe=>n12 (congrArg Ae e).symm)];exact Ab _ _ _ ((Aa _ _ _ _ (λe=>n01 (congrArg Ae e))).trans c1)
 have ir:(((w.setCell ⟨p0,0,none⟩ (.int .u64 0)).setCell ⟨p1,0,none⟩ (.int .i64 0)).setCell ⟨p2,0,none⟩ (.bool false)).cell? ⟨p2,0,none⟩=some (.bool false) :=
  Ab _ _ _ ((Aa _ _ _ _ (λe=>n12 (congrArg Ae e))).trans ((Aa _ _ _ _ (λe=>n02 (congrArg Ae e))).trans c2))
 have ed:Below B w ((((w.setCell ⟨p0,0,none⟩ (.int .u64 0)).setCell ⟨p1,0,none⟩ (.int .i64 0)).setCell ⟨p2,0,none⟩ (.bool false)).alloc (.cells #[] 299)):=((((Below.refl B w).setCell (p:=⟨p0,0,none⟩) hB0 _).setCell (p:=⟨p1,0,none⟩) hB1 _).setCell (p:=⟨p2,0,none⟩) hB2 _).alloc (by simp;omega) _;have li:=aB.alloc (((w.setCell ⟨p0,0,none⟩ (.int .u64 0)).setCell ⟨p1,0,none⟩ (.int .i64 0)).setCell ⟨p2,0,none⟩ (.bool false)) (.cells #[] 299);have k0:=li.cell m4;have k1:=li.cell gk;have k2:=li.cell ir;have ff:EB B w ((((w.setCell ⟨p0,0,none⟩ (.int .u64 0)).setCell ⟨p1,0,none⟩ (.int .i64 0)).setCell ⟨p2,0,none⟩ (.bool false)).alloc (.cells #[] 299)):=⟨ed,ed.size⟩;exact⟨rfl,_,rfl,_,results_none rfl _ _ _,rfl,rfl,k0,k1,k2,ff⟩
theorem iC1 (p0 p1 p2:Nat) (w:World) :
  CallsD Tryz.prog 244 #[.pointer (some ⟨p0,0,none⟩),.pointer (some ⟨p1,0,none⟩),.pointer (some ⟨p2,0,none⟩)] .returning w λe u' w'=>e=.returned (.tuple #[])/\u' = .returning/\w'=w:=by
 refine callsD_of_wpS Tryz.func244 rfl λc₀ cs hu=>?_;apply wpS_seq
 apply wpS_region
 simp[wpOpsS,go_sem,recoverD,hu,Tryz.ntmps244,Exit.thenS]
 refine wpS_of_wp ?_;rw[show (#[Value.pointer (some ⟨p0,0,none⟩),.pointer (some ⟨p1,0,none⟩),.pointer (some ⟨p2,0,none⟩)]++(Br 11 undef).setIfInBounds 4 .nilIface) = #[.pointer (some ⟨p0,0,none⟩),.pointer (some ⟨p1,0,none⟩),.pointer (some ⟨p2,0,none⟩),undef,undef,undef,undef,.nilIface,undef,undef,undef,undef,undef,undef] from rfl]
 go_wp2
 cases c₀
 simp only at hu;subst hu;exact⟨rfl,_,rfl,_,results_none rfl _ _ _,rfl,rfl,rfl⟩
def jR1 (K:Act->World->Prop):Exit->Act->World->Prop
 | .normal,a,w=>K a w
 | _,_,_=>False
theorem vX (K:Act->World->Prop) (a:Act) (w:World):jR1 K .normal a w=K a w:=rfl
theorem nN0 {P:Program} {c:Code} {K:Act->World->Prop} {Q:Exit->Act->World->Prop} {a:Act} {w:World} (h:c.wp P (jR1 K) a w):c.wp P (Exit.then K Q) a w:=λb k cs=>by
 obtain⟨e,a',w',q,r⟩:=h b k cs;refine⟨e,a',w',?_,r⟩;cases e<;>first|exact q|exact q.elim
def xU0 (k:Nat):Option (Nat×Nat)->Value
 | some (v,n) => .tuple #[.int .u64 v,.int .i64 ((k+n:Nat):Int),.bool true]
 | none => .tuple #[.int .u64 0,.int .i64 0,.bool false]
def ES (b:Nat) (v:Value) (w w':World):Prop :=
 (Below b w w'/\w.heap.size<=w'.heap.size)/\(∀(p:Addr) (u:Value),p.block≠b->w.cell? p=some u->w'.cell? p=some u)/\(∀p:Addr,p.block≠b->p.block<w.heap.size->w'.frozen? p=w.frozen? p)/\(w.cell? ⟨b,0,none⟩=some v->w'.cell? ⟨b,0,none⟩=some v)/\(b<w.heap.size->w'.frozen? ⟨b,0,none⟩=w.frozen? ⟨b,0,none⟩)
theorem ES.refl (b:Nat) (v:Value) (w:World):ES b v w w:=⟨⟨Below.refl _ _,Ar _⟩,λ_ _ _ h=>h,λ_ _ _=>rfl,λh=>h,λ_=>rfl⟩
theorem ES.trans (b:Nat) (v:Value) (x y z:World) (h:ES b v x y) (k:ES b v y z):ES b v x z :=
 ⟨⟨Below.trans h.1.1 k.1.1,Nat.le_trans h.1.2 k.1.2⟩,λp u hp hc=>k.2.1 p u hp (h.2.1 p u hp hc),λp hp hl=>(k.2.2.1 p hp (Bg hl h.1.2)).trans (h.2.2.1 p hp hl),λhc=>k.2.2.2.1 (h.2.2.2.1 hc),λhl=>(k.2.2.2.2 (Bg hl h.1.2)).trans (h.2.2.2.2 hl)⟩
instance (b:Nat) (v:Value) (w:World):Nonempty (Ext (ES b v) w):=⟨⟨w,ES.refl _ _ _⟩⟩
theorem ES.put {b:Nat} {v:Value} {w:World} (hc:w.cell? ⟨b,0,none⟩=some v):ES b v w (w.setCell ⟨b,0,none⟩ v) :=
 ⟨⟨(Below.refl b w).setCell (p:=⟨b,0,none⟩) (Ar b) v,by simp⟩,λp u hp h=>by rw[Aa _ _ _ _ (λe=>hp (by rw[<-e]))];exact h,λp _ _=>Ah _ _ _ _,λ_=>Ab _ _ _ hc,λ_=>Ah _ _ _ _⟩
structure RdB (w:World) (s:Value) (k:Int) (W:World):Prop where
 g:aB w W
 sz:w.heap.size+1+1+1<W.heap.size
 c0:W.cell? ⟨w.heap.size,0,none⟩=some (.int .u64 0)
 f0:W.frozen? ⟨w.heap.size,0,none⟩=false
 c1:W.cell? ⟨w.heap.size+1,0,none⟩=some (.int .i64 0)
 f1:W.frozen? ⟨w.heap.size+1,0,none⟩=false
 c2:W.cell? ⟨w.heap.size+1+1,0,none⟩=some (.bool false)
 f2:W.frozen? ⟨w.heap.size+1+1,0,none⟩=false
 r0:W.cell? ⟨w.heap.size+1+1+1,0,none⟩=some s
 r1:W.cell? ⟨w.heap.size+1+1+1,1,none⟩=some (.int .i64 k)
 rf:W.frozen? ⟨w.heap.size+1+1+1,1,none⟩=false
theorem rdB (w:World) (s:Value) (k:Int):RdB w s k ((((w.alloc (.cells #[.int .u64 0] 142)).alloc (.cells #[.int .i64 0] 3)).alloc (.cells #[.bool false] 4)).alloc (.cells #[s,.int .i64 k] 301)):=by
 have e1:(w.alloc (.cells #[.int .u64 0] 142)).heap.size=w.heap.size+1:=by simp
 have e2:((w.alloc (.cells #[.int .u64 0] 142)).alloc (.cells #[.int .i64 0] 3)).heap.size=w.heap.size+1+1:=by simp
 have e3:(((w.alloc (.cells #[.int .u64 0] 142)).alloc (.cells #[.int .i64 0] 3)).alloc (.cells #[.bool false] 4)).heap.size=w.heap.size+1+1+1:=by simp
 have b0:=cO (w:=w) (cs:=#[.int .u64 0]) (t:=142) (w':=((((w.alloc (.cells #[.int .u64 0] 142)).alloc (.cells #[.int .i64 0] 3)).alloc (.cells #[.bool false] 4)).alloc (.cells #[s,.int .i64 k] 301))) (((aB.alloc _ _).al _).al _);have b1:=cO (w:=w.alloc (.cells #[.int .u64 0] 142)) (cs:=#[.int .i64 0]) (t:=3) (w':=((((w.alloc (.cells #[.int .u64 0] 142)).alloc (.cells #[.int .i64 0] 3)).alloc (.cells #[.bool false] 4)).alloc (.cells #[s,.int .i64 k] 301))) ((aB.alloc _ _).al _);have b2:=cO (w:=(w.alloc (.cells #[.int .u64 0] 142)).alloc (.cells #[.int .i64 0] 3)) (cs:=#[.bool false]) (t:=4) (w':=((((w.alloc (.cells #[.int .u64 0] 142)).alloc (.cells #[.int .i64 0] 3)).alloc (.cells #[.bool false] 4)).alloc (.cells #[s,.int .i64 k] 301))) (aB.alloc _ _);have b3:=cO (w:=((w.alloc (.cells #[.int .u64 0] 142)).alloc (.cells #[.int .i64 0] 3)).alloc (.cells #[.bool false] 4)) (cs:=#[s,.int .i64 k]) (t:=301) (w':=((((w.alloc (.cells #[.int .u64 0] 142)).alloc (.cells #[.int .i64 0] 3)).alloc (.cells #[.bool false] 4)).alloc (.cells #[s,.int .i64 k] 301))) (aB.refl _);rw[e1]at b1;rw[e2]at b2;rw[e3]at b3;exact⟨(((aB.alloc _ _).al _).al _).al _,by simp,b0.1 0 _ rfl,b0.2 0,b1.1 0 _ rfl,b1.2 0,b2.1 0 _ rfl,b2.2 0,b3.1 0 _ rfl,b3.1 1 _ rfl,b3.2 1⟩
theorem aW1 (b:List UInt8) (k:Nat) (ba:Option Addr) (bc:Nat) (w:World) (hk:k<=b.length) (hb:b.length<=1099511627776) (ah:aF w ba 1 (b.map aQ)) :
  Calls Tryz.prog 187 #[.slice ba b.length bc,.int .i64 k,.func (.func 188) #[] #[]] w λe w'=>e=.returned (xU0 k (rdU (b.drop k)))/\aB w w':=by
 have hmf:∀(fn:Fn) (first cap:Array Value) (w:World),(Instr.makeFunc fn first cap).run Tryz.prog w=.ok (.func fn first cap) w:=λ_ _ _ _=>rfl
 have jt:¬(k:Int)<0:=by omega
 have HAT:=Ao ah
 have HBA:Hid (∀q:Addr,ba=some q->b≠[]->q.block<w.heap.size):=λq hq aw=>by
  obtain⟨x,hx⟩:∃x,b[0]?=some x:=⟨_,Af (List.length_pos_iff.2 aw)⟩;obtain⟨bb,bo,e,mm⟩:=ah.get aw;rw[e]at hq;cases hq
  exact Aj _ _ (mm 0 x hx 0 _ rfl)
 obtain⟨R,hR⟩:=exq (rdU (b.drop k));have HR:=Ao hR;rw[<-hR];clear hR ah;go_enter_defers Tryz.func187,Tryz.ntmps187
 go_wp2_with fail
 have hB:=rdB w (.slice ba b.length bc) k;generalize ((((w.alloc (.cells #[Value.int .u64 0] 142)).alloc (.cells #[.int .i64 0] 3)).alloc (.cells #[.bool false] 4)).alloc (.cells #[Value.slice ba b.length bc,.int .i64 k] 301))=W4 at *;refine(yV0 b _ k ba bc W4 hk hb (HAT.out.grows hB.g) (λq hq aw=>Nat.lt_trans (HBA.out q hq aw) (by omega)) hB.r0 hB.r1 hB.rf).mono ?_;rintro e w5 ⟨k9,ff⟩;rw[<-HR.out]at k9;have hs5:=ff.2;have dm:=hB.sz;have c0:w5.cell? ⟨w.heap.size,0,none⟩=_:=(Below.cell ff.1 (by simp only;omega)).trans hB.c0;have c1:w5.cell? ⟨w.heap.size+1,0,none⟩=_:=(Below.cell ff.1 (by simp only;omega)).trans hB.c1;have c2:w5.cell? ⟨w.heap.size+1+1,0,none⟩=_:=(Below.cell ff.1 (by simp only;omega)).trans hB.c2;have f0:w5.frozen? ⟨w.heap.size,0,none⟩=_:=(Below.frozen ff.1 (by simp only;omega)).trans hB.f0;have f1:w5.frozen? ⟨w.heap.size+1,0,none⟩=_:=(Below.frozen ff.1 (by simp only;omega)).trans hB.f1;have f2:w5.frozen? ⟨w.heap.size+1+1,0,none⟩=_:=(Below.frozen ff.1 (by simp only;omega)).trans hB.f2;have bg:aB w w5:=gQ0 hB.g ff (by omega);rcases k9 with ⟨v,n,rfl,rfl,hc,_,_⟩|⟨rfl,rfl⟩
 ·have g0:(w5.setCell ⟨w.heap.size,0,none⟩ (.int .u64 v)).cell? ⟨w.heap.size,0,none⟩=some (.int .u64 v):=Ab _ _ _ c0
  have g1:(w5.setCell ⟨w.heap.size,0,none⟩ (.int .u64 v)).cell? ⟨w.heap.size+1,0,none⟩=some (.int .i64 0):=(Aa _ _ _ _ (λe=>by have:=congrArg Ae e;simp only at this;omega)).trans c1;have g2:(w5.setCell ⟨w.heap.size,0,none⟩ (.int .u64 v)).cell? ⟨w.heap.size+1+1,0,none⟩=some (.bool false):=(Aa _ _ _ _ (λe=>by have:=congrArg Ae e;simp only at this;omega)).trans c2;have g3:(w5.setCell ⟨w.heap.size,0,none⟩ (.int .u64 v)).cell? ⟨w.heap.size+1+1+1,1,none⟩=some (.int .i64 ((k+n:Nat):Int)):=(Aa _ _ _ _ (λe=>by have:=congrArg Ae e;simp only at this;omega)).trans hc
  have gg:∀j,j=w.heap.size\/j=w.heap.size+1\/j=w.heap.size+1+1->(w5.setCell ⟨w.heap.size,0,none⟩ (.int .u64 v)).frozen? ⟨j,0,none⟩=false:=λj hj=>by
   rw[Ah];rcases hj with rfl|rfl|rfl
   ·exact f0
   ·exact f1
   ·exact f2
  obtain⟨K,qp⟩:=exq (k+n);rw[<-qp]at g3 hc;have HK2:=Ao qp;clear qp;have um:aB w (w5.setCell ⟨w.heap.size,0,none⟩ (.int .u64 v)):=bg.set (by simp only;omega) _;have hsp:w.heap.size+1+1+1<(w5.setCell ⟨w.heap.size,0,none⟩ (.int .u64 v)).heap.size:=by simp;omega
  clear HR hB ff c1 c2 f1 f2 hc bg;go_wp2_with fail
  clear c0 f0;generalize (w5.setCell ⟨w.heap.size,0,none⟩ (.int .u64 v))=w6 at *;have z0:∀x:Ext (ES w.heap.size (.int .u64 v)) w6.drew,x.u.cell? ⟨w.heap.size,0,none⟩=some (.int .u64 v):=λx=>x.h.2.2.2.1 ((aB.drew _).cell g0);have z3:∀x:Ext (ES w.heap.size (.int .u64 v)) w6.drew,x.u.cell? ⟨w.heap.size+1+1+1,1,none⟩=some (.int .i64 (K:Int)):=λx=>x.h.2.1 _ _ (by simp only;omega) ((aB.drew _).cell g3);have x0:w6.drew.cell? ⟨w.heap.size,0,none⟩=some (.int .u64 v):=g0;have xf:w6.drew.frozen? ⟨w.heap.size,0,none⟩=false:=gg _ (Or.inl rfl);refine nN0 ?_;refine gO0 (ES w.heap.size (.int .u64 v)) 6 (aT 6 [5]) (ES.refl _ _) (ES.trans _ _) (by kernel_rfl) (by kernel_rfl) (λ_ _ _ _ _ h=>h) ?_;iterate 5 (refine aJ rfl (λK hK=>?_);go_simp;refine hK _ ?_;clear hK K)
  refine bM rfl rfl (λK hK=>?_);go_simp;refine⟨ES.put x0,hK _ _ ?_⟩;clear hK K;refine bN ?_;simp only[List.drop_succ_cons,List.drop_zero];clear z0 z3;have n0:=g0;have y0:(w6.setCell ⟨w.heap.size,0,none⟩ (.int .u64 v)).cell? ⟨w.heap.size,0,none⟩=some (.int .u64 v):=Ab _ _ _ g0;have y1:(w6.setCell ⟨w.heap.size,0,none⟩ (.int .u64 v)).cell? ⟨w.heap.size+1,0,none⟩=some (.int .i64 0):=(Aa _ _ _ _ (λe=>by have:=congrArg Ae e;simp only at this;omega)).trans g1;have y2:(w6.setCell ⟨w.heap.size,0,none⟩ (.int .u64 v)).cell? ⟨w.heap.size+1+1,0,none⟩=some (.bool false):=(Aa _ _ _ _ (λe=>by have:=congrArg Ae e;simp only at this;omega)).trans g2;have yg:aB w (w6.setCell ⟨w.heap.size,0,none⟩ (.int .u64 v)):=um.set (by simp only;omega) _;have yf1:(w6.setCell ⟨w.heap.size,0,none⟩ (.int .u64 v)).frozen? ⟨w.heap.size+1,0,none⟩=false:=(Ah _ _ _ _).trans (gg _ (Or.inr (Or.inl rfl)));have yf2:(w6.setCell ⟨w.heap.size,0,none⟩ (.int .u64 v)).frozen? ⟨w.heap.size+1+1,0,none⟩=false:=(Ah _ _ _ _).trans (gg _ (Or.inr (Or.inr rfl)));clear x0 xf g0 g1 g2 g3 gg n0;generalize w6.setCell ⟨w.heap.size,0,none⟩ (.int .u64 v)=w7 at *
  have k1:((w7.setCell ⟨w.heap.size+1,0,none⟩ (.int .i64 K)).setCell ⟨w.heap.size+1+1,0,none⟩ (.bool true)).drew.cell? ⟨w.heap.size+1,0,none⟩=some (.int .i64 K):=by
   refine(Aa _ _ _ _ (λe=>by have:=congrArg Ae e;simp only at this;omega)).trans ?_;exact Ab _ _ _ y1
  have y2':(w7.setCell ⟨w.heap.size+1,0,none⟩ (.int .i64 K)).cell? ⟨w.heap.size+1+1,0,none⟩=some (.bool false):=by
   rw[Aa _ _ _ _ (λe=>by have:=congrArg Ae e;simp only at this;omega)];exact y2
  have k2:((w7.setCell ⟨w.heap.size+1,0,none⟩ (.int .i64 K)).setCell ⟨w.heap.size+1+1,0,none⟩ (.bool true)).drew.cell? ⟨w.heap.size+1+1,0,none⟩=some (.bool true):=Ab _ _ _ y2'
  have k0:((w7.setCell ⟨w.heap.size+1,0,none⟩ (.int .i64 K)).setCell ⟨w.heap.size+1+1,0,none⟩ (.bool true)).drew.cell? ⟨w.heap.size,0,none⟩=some (.int .u64 v):=by
   refine(Aa _ _ _ _ (λe=>by have:=congrArg Ae e;simp only at this;omega)).trans ?_;refine(Aa _ _ _ _ (λe=>by have:=congrArg Ae e;simp only at this;omega)).trans ?_;exact y0
  have kg:aB w ((w7.setCell ⟨w.heap.size+1,0,none⟩ (.int .i64 K)).setCell ⟨w.heap.size+1+1,0,none⟩ (.bool true)).drew:=((yg.set (by simp only;omega) _).set (by simp only;omega) _).dr;go_wp2_with fail
  simp only[vX];go_wp2_with fail
  refine leaves_cons (f:=244) (args:=#[.pointer (some ⟨w.heap.size,0,none⟩),.pointer (some ⟨w.heap.size+1,0,none⟩),.pointer (some ⟨w.heap.size+1+1,0,none⟩)]) (by simp) (by simp[go_sem]) ?_
  refine(iC1 _ _ _ _).mono ?_;rintro e u' lq ⟨rfl,rfl,rfl⟩;show Leaves _ _ _ _ _ _ _
  simp only[settle];refine⟨.tuple #[.int .u64 v,.int .i64 K,.bool true],?_,by rw[HK2.out];rfl,kg⟩;simp[results,Tryz.results187,go_sem,k0,k1,k2]
 ·clear HR hB ff
  go_wp2_with fail
  refine leaves_cons (f:=244) (args:=#[.pointer (some ⟨w.heap.size,0,none⟩),.pointer (some ⟨w.heap.size+1,0,none⟩),.pointer (some ⟨w.heap.size+1+1,0,none⟩)]) (by simp) (by simp[go_sem]) ?_
  refine(zE0 w.heap.size (w.heap.size+1) (w.heap.size+1+1) w5 [] _ _ _ c0 c1 c2 f0 f1 f2 (by omega) (by omega) (by omega) w.heap.size (by omega) (by omega) (by omega)).mono ?_;rintro e u' lq ⟨rfl,rfl,k0,k1,k2,adu⟩;have kg:aB w lq:=EB.grows bg adu;show Leaves _ _ _ _ _ _ _
  simp only[settle];refine⟨.tuple #[.int .u64 0,.int .i64 0,.bool false],?_,rfl,kg⟩;simp[results,Tryz.results187,go_sem,k0,k1,k2]
end
section
open Go Go.RowKit
def yK0 (b:List UInt8) (k:Nat):Option (Nat×Nat) :=
 match rdU (b.drop k) with
 | some (v,n)=>if v<=1048576 then some (v,k+n) else none
 | none=>none
def nxt (b:List UInt8) (s:Nat×Bool):Nat×Nat×Bool :=
 match yK0 b s.1 with
 | some (v,e)=>(v,e,s.2)
 | none=>(0,s.1,true)
def mY (b:List UInt8):Nat->Mx->Nat->Nat×Bool->Option Mx
 | 0,m,_,s=>if s.1=b.length then some m else none
 | k+1,m,j,s =>
  if (nxt b (nxt b s).2).2.2=true\/(nxt b s).1=0\/((nxt b (nxt b s).2).1:Int)=m.d\/m.n*m.n<=j+(nxt b s).1-1\/isC ((nxt b (nxt b s).2).1:Int)=false then none
  else mY b k (m.set (eP m.n (j+(nxt b s).1-1)) (nxt b (nxt b s).2).1) (j+(nxt b s).1) (nxt b (nxt b s).2).2
def hdN (b:List UInt8):Nat×Nat×Bool:=nxt b (0,false)
def hdD (b:List UInt8):Nat×Nat×Bool:=nxt b (hdN b).2
def hdQ (b:List UInt8):Nat×Nat×Bool:=nxt b (hdD b).2
def aM1 (b:List UInt8):Option Mx :=
 if uD0 (hdN b).1 (hdD b).1=true/\(hdQ b).2.2=false then mY b (hdQ b).1 (newM (hdN b).1 (hdD b).1) 0 (hdQ b).2 else none
theorem cP1 (b:List UInt8) (k:Nat):(nxt b (k,true)).2.2=true:=by
 grind [nxt]
theorem aJ0 {b:List UInt8} {s:Nat×Bool} (h:(nxt b s).2.2=false):s.2=false:=by
 grind [cP1]
theorem iC0 {b:List UInt8} {k:Nat} (h:(nxt b (k,false)).2.2=false):(nxt b (k,false)).1<=1048576/\(nxt b (k,false)).2=(k+(putU (nxt b (k,false)).1).length,false)/\b.drop k=putU (nxt b (k,false)).1++b.drop (nxt b (k,false)).2.1:=by
 unfold nxt at h ⊢
 cases hn:yK0 b k with
 | none=>simp_all
 | some x =>
  obtain⟨v,e⟩:=x;simp only;unfold yK0 at hn
  cases hr:rdU (b.drop k) with
  | none=>rw[hr]at hn;cases hn
  | some y =>
   obtain⟨v',n⟩:=y;rw[hr]at hn;simp only at hn;by_cases o4:v'<=1048576
   ·rw[if_pos o4]at hn
    grind [lP0,Bu,Bv]
   simp_all
theorem yY {b:List UInt8} {k v:Nat} {r:List UInt8} (h:b.drop k=putU v++r) (hv:v<=1048576):nxt b (k,false)=(v,k+(putU v).length,false)/\b.drop (k+(putU v).length)=r:=by
 have hn:yK0 b k=some (v,k+(putU v).length):=by
  unfold yK0;rw[h,uL (by omega)];simp only;rw[if_pos hv]
 grind [Bu,Bv,nxt]
theorem Mx.set_at {m:Mx} {i:Nat} (hi:i<m.n*m.n) (c:Int):(m.set (eP m.n i) c).cs=m.cs.set i c:=by
 show m.cs.set (at2 m.n (eP m.n i)) c=_
 rw[(mA hi).2]
theorem eH0 {l:List Int} {i j:Nat} {c:Int} (hi:i<l.length):(l.set i c).getD j 0=if j=i then c else l.getD j 0:=by
 grind
theorem gN1 {m:Mx} (hm:m.OK) {i:Nat} {c:Int} (hi:i<m.n*m.n) (hc:c≠m.d) (qe:∀a∈m.idx,a<i):(m.set (eP m.n i) c).idx=m.idx++[i]:=by
 have hl:=hm.len;refine aS0 (lt:=(· < ·)) (by omega) (by omega) Mx.idx_up ?_ λy=>?_
 ·rw[As]
  exact⟨Mx.idx_up,by simp_all,by simp_all⟩
 ·rw[Mx.mem_idx,Mx.set_at hi,eH0 (by omega),List.mem_append,List.mem_singleton,Mx.mem_idx]
  show y<m.n*m.n/\_≠m.d↔_
  omega
theorem hE1 {m:Mx} {i:Nat} {c:Int} (hi:i<m.n*m.n) (hc:isC c=true):m.setB (eP m.n i) c=true:=by
 unfold Mx.setB;rw[(mA hi).1,hc];rfl
theorem sO (b:List UInt8):∀(k:Nat) (m:Mx) (j q:Nat) (M:Mx),q<=b.length->mY b k m j (q,false)=some M->m.OK->(∀i∈m.idx,i<j) ->
  M.OK/\M.n=m.n/\M.d=m.d/\∃L,M.idx=m.idx++L/\L.length=k/\b.drop q=jN M ((j:Int)-1) L/\∀i<j,M.cs.getD i 0=m.cs.getD i 0
 | 0,m,j,q,M,_,h,hm,_=>by
  simp only[mY]at h;by_cases hq:q=b.length
  ·rw[if_pos hq]at h
   obtain rfl:=Option.some.inj h;exact⟨hm,rfl,rfl,[],by simp,rfl,by rw[hq,List.drop_length];rfl,λ_ _=>rfl⟩
  ·rw[if_neg hq]at h;cases h
 | k+1,m,j,q,M,hqb,h,hm,qe=>by
  simp only[mY]at h;split at h
  ·cases h
  ·rename_i hc
   simp only[not_or,Bool.not_eq_true]at hc;obtain⟨h1,h2,h3,h4,h5⟩:=hc;have gh:(nxt b (q,false)).2.2=false:=aJ0 h1;obtain⟨x1,x2,x3⟩:=iC0 gh;generalize nxt b (q,false)=X at *;obtain⟨x,e,t⟩:=X;simp only[Prod.mk.injEq]at x1 x2 x3 h1 h2 h3 h4 h5 gh h;obtain⟨rfl,rfl⟩:=x2;obtain⟨y1,y2,y3⟩:=iC0 h1;generalize nxt b (q+(putU x).length,false)=Y at *;obtain⟨c,e,t⟩:=Y;simp only[Prod.mk.injEq]at y1 y2 y3 h1 h2 h3 h4 h5 h;obtain⟨rfl,rfl⟩:=y2;have hI:j+x-1<m.n*m.n:=by omega
   have adv:isC (c:Int)=true:=by cases hh:isC (c:Int) with
    | true=>rfl
    | false=>exact absurd hh h5
   have xo:=hE1 hI adv;have o9:=gN1 hm hI h3 (λa ha=>by have:=qe a ha;omega)
   have hql:q+(putU x).length+(putU c).length<=b.length:=by
    have e1:=congrArg Ag x3;have e2:=congrArg Ag y3;simp only[Ad,Al]at e1 e2
    have:=List.length_pos_iff.2 (lF x)
    have:=List.length_pos_iff.2 (lF c)
    omega
   obtain⟨r1,r2,r3,L,r4,r5,r6,r7⟩:=sO b k _ _ _ M hql h (hm.set xo) (λi hi=>by
    rw[o9]at hi;rcases List.mem_append.1 hi with hi|hi
    ·have:=qe i hi;omega
    ·rw[List.mem_singleton.1 hi];omega)
   have hl:=hm.len;refine⟨r1,r2,r3,(j+x-1)::L,by rw[r4,o9];simp,by simp[r5],?_,λi hi=>?_⟩
   ·show _=putU _++(putU _++jN M _ L)
    rw[x3,y3,r6];have g1:(((j+x-1:Nat):Int)-((j:Int)-1)).toNat=x:=by omega
    have g2:M.cs.getD (j+x-1) 0=c:=by
     rw[r7 _ (by omega),Mx.set_at hI,eH0 (by omega),if_pos rfl]
    have g3:((j+x:Nat):Int)-1=((j+x-1:Nat):Int):=by omega
    rw[g1,g2,g3];rfl
   ·rw[r7 i (by omega),Mx.set_at hI,eH0 (by omega),if_neg (by omega)]
def iU0 (M:Mx) (j:Nat):Mx:=⟨M.n,M.d,(Ba (M.n*M.n)).map λi=>if i<j then M.cs.getD i 0 else M.d⟩
theorem aE1 {M:Mx} (hM:M.OK) {j:Nat} (h:∀i,j<=i->i<M.n*M.n->M.cs.getD i 0=M.d):iU0 M j=M:=by
 obtain⟨n,d,cs⟩:=M;have hl:cs.length=n*n:=hM.len;show Mx.mk n d _=_
 congr 1
 apply Ax
 grind
theorem kE0 {M:Mx}:iU0 M 0=newM M.n M.d:=by
 unfold iU0 newM;simp only[Ay,Nat.not_lt_zero,if_false,Mx.mk.injEq,true_and];apply Ax
 grind
theorem gM0 {M:Mx} {i j:Nat} (hi:i<M.n*M.n) (hj:j<=i) (h:∀a,j<=a->a<i->M.cs.getD a 0=M.d):(iU0 M j).set (eP M.n i) (M.cs.getD i 0)=iU0 M (i+1):=by
 have e:((iU0 M j).set (eP M.n i) (M.cs.getD i 0)).cs=(iU0 M (i+1)).cs:=by
  have e0:((iU0 M j).set (eP M.n i) (M.cs.getD i 0)).cs=(iU0 M j).cs.set i (M.cs.getD i 0):=Mx.set_at (m:=iU0 M j) hi _;rw[e0];apply Ax
  intro a;show (List.set (Ce (λi=>if i<j then M.cs.getD i 0 else M.d) (Ba (M.n*M.n))) i _)[a]?=(Ce (λa=>if a<i+1 then M.cs.getD a 0 else M.d) (Ba (M.n*M.n)))[a]?
  rw[List.getElem?_set,Aw,Aw,Bo,Bi];by_cases ha:a<M.n*M.n
  ·grind
  ·simp_all
 show Mx.mk _ _ _=Mx.mk _ _ _
 exact congrArg _ e
theorem kK {M:Mx} {i:Nat} (hi:i<M.n*M.n) (h:i∉M.idx):M.cs.getD i 0=M.d:=by
 rw[Mx.mem_idx]at h;omega
theorem nW (b:List UInt8) (M:Mx) (hM:M.OK):∀(L A:List Nat) (j q:Nat),M.idx=A++L->(∀a∈A,a<j)->(∀a∈L,j<=a)->b.drop q=jN M ((j:Int)-1) L->q<=b.length ->
  mY b L.length (iU0 M j) j (q,false)=some M
 | [],A,j,q,o9,hA,_,hd,hq=>by
  have h1:q=b.length:=by
   have:=congrArg Ag hd
   simp only[jN,Al,Au]at this;omega
  simp only[Au,mY];rw[if_pos h1,aE1 hM];intro i hij hi;refine kK hi λhm=>?_;rw[o9,Bs]at hm
  have:=hA i hm
  omega
 | i::L,A,j,q,o9,hA,hL,hd,hq=>by
  have ew:i∈M.idx:=by rw[o9];simp
  obtain⟨hi,hid⟩:=Mx.mem_idx.1 ew;have i6:=hL i (Ak ..);have t7:(A++i::L).Pairwise (· < ·):=by rw[<-o9];exact Mx.idx_up
  rw[As,Bh]at t7;obtain⟨_,⟨xz,_⟩,_⟩:=t7
  have l7:0<=M.cs.getD i 0/\M.cs.getD i 0<=30000:=by
   have hl:=hM.len;rw[Ac,Af (by omega)];exact hM.cost _ (Az _)
  have qq:M.n*M.n<=4096:=Bc hM.n2 hM.n2;have ig:b.drop q=putU ((i:Int)-((j:Int)-1)).toNat++(putU (M.cs.getD i 0).toNat++jN M i L):=hd;obtain⟨x,hx⟩:=exq (((i:Int)-((j:Int)-1)).toNat);obtain⟨c,hc⟩:=exq ((M.cs.getD i 0).toNat);have xq:(c:Int)=M.cs.getD i 0:=by omega
  rw[<-hx,<-hc]at ig;obtain⟨x1,x2⟩:=yY ig (by omega);obtain⟨y1,y2⟩:=yY x2 (by omega);have hI:j+x-1=i:=by omega
  show mY b (L.length+1) (iU0 M j) j (q,false)=some M
  simp only[mY];rw[x1];simp only;rw[y1];simp only;rw[hI,xq];have adv:isC (M.cs.getD i 0)=true:=pI.2 l7
  rw[if_neg (by
   rintro(h|h|h|h|h)
   ·cases h
   ·omega
   ·exact hid h
   ·have h:M.n*M.n<=i:=h
    omega
   ·rw[adv]at h;cases h)]
  have xo:(iU0 M j).set (eP (iU0 M j).n i) (M.cs.getD i 0)=iU0 M (i+1):=gM0 hi i6 λa zh ha2=>by
   refine kK (by omega) λhm=>?_;rw[o9]at hm;rcases List.mem_append.1 hm with hm|hm
   ·have:=hA a hm;omega
   ·rcases List.mem_cons.1 hm with rfl|hm
    ·omega
    ·have:=xz a hm;omega
  rw[xo,show j+x=i+1 by omega]
  refine nW b M hM L (A++[i]) (i+1) _ (by rw[o9];simp) (λa ha=>?_) (λa ha=>xz a ha) (by rw[y2];congr 1;omega) ?_
  ·rcases List.mem_append.1 ha with ha|ha
   ·have:=hA a ha;omega
   ·rw[List.mem_singleton.1 ha];omega
  ·have e1:=congrArg Ag ig
   simp only[Ad,Al]at e1
   have:=List.length_pos_iff.2 (lF x)
   omega
theorem fP0 {b:List UInt8} {M:Mx}:aM1 b=some M↔M.OK/\M.enc=b:=by
 constructor
 ·intro h
  unfold aM1 at h;split at h
  ·rename_i hc
   obtain⟨hb,hq⟩:=hc;have hd:(hdD b).2.2=false:=aJ0 hq;have hn:(hdN b).2.2=false:=aJ0 hd;unfold hdQ at hq h;unfold hdD at hd hq hb h;obtain⟨a1,a2,a3⟩:=iC0 (b:=b) (k:=0) hn;rw[show nxt b (0,false)=hdN b from rfl]at a1 a2 a3
   generalize hdN b=X at *;obtain⟨x,e,t⟩:=X;simp only[Prod.mk.injEq]at a1 a2 a3 hd hq hb h;obtain⟨rfl,rfl⟩:=a2;obtain⟨c1,c2,c3⟩:=iC0 hd;generalize nxt b (0+(putU x).length,false)=Y at *;obtain⟨y,e,t⟩:=Y;simp only[Prod.mk.injEq]at c1 c2 c3 hq hb h;obtain⟨rfl,rfl⟩:=c2;obtain⟨d1,d2,d3⟩:=iC0 hq;generalize nxt b (0+(putU x).length+(putU y).length,false)=Z at *;obtain⟨z,e,t⟩:=Z;simp only[Prod.mk.injEq]at d1 d2 d3 h;obtain⟨rfl,rfl⟩:=d2
   have hql:0+(putU x).length+(putU y).length+(putU z).length<=b.length:=by
    have e1:=congrArg Ag a3;have e2:=congrArg Ag c3;have e3:=congrArg Ag d3;simp only[Ad,Al]at e1 e2 e3
    have:=List.length_pos_iff.2 (lF x)
    have:=List.length_pos_iff.2 (lF y)
    have:=List.length_pos_iff.2 (lF z)
    omega
   have ab6:(newM (x:Int) (y:Int)).idx=[]:=by
    apply List.eq_nil_iff_forall_not_mem.2
    intro i hi;obtain⟨h1,h2⟩:=Mx.mem_idx.1 hi;apply h2
    simp only[newM,Ay]at h1 ⊢;rw[Ac,List.getElem?_replicate,if_pos h1];rfl
   obtain⟨r1,r2,r3,L,r4,r5,r6,_⟩:=sO b z _ 0 _ M hql h (yN hb) (λi hi=>by rw[ab6]at hi;cases hi);rw[ab6,Bq]at r4;refine⟨r1,?_⟩;unfold Mx.enc;rw[r2,r3,r4,r5];simp only[newM,Ay];have h0:b=b.drop 0:=rfl;rw[h0,a3,c3,d3,r6];rfl
  ·cases h
 ·rintro⟨hM,he⟩
  have h0:b.drop 0=putU M.n++(putU M.d.toNat++(putU M.idx.length++jN M (-1) M.idx)):=he.symm;have ii:=hM.n2;have ie:=hM.d1;have ig:=hM.d2;have hil:=Mx.idx_len hM;obtain⟨a1,a2⟩:=yY h0 (by omega);obtain⟨c1,c2⟩:=yY a2 (by omega);obtain⟨d1,d2⟩:=yY c2 (by omega);have e1:hdN b=(M.n,0+(putU M.n).length,false):=a1;have e2:hdD b=(M.d.toNat,0+(putU M.n).length+(putU M.d.toNat).length,false):=by unfold hdD;rw[e1];exact c1
  have e3:hdQ b=(M.idx.length,0+(putU M.n).length+(putU M.d.toNat).length+(putU M.idx.length).length,false):=by unfold hdQ;rw[e2];exact d1
  have hdd:((M.d.toNat:Nat):Int)=M.d:=by omega
  unfold aM1;rw[e1,e2,e3];simp only;rw[hdd,if_pos ⟨lD.2 ⟨by have:=hM.n1;omega,by omega,ie,ig⟩,trivial⟩,<-kE0];refine nW b M hM M.idx [] 0 _ rfl (λa ha=>by cases ha) (λa _=>Nat.zero_le a) (by rw[d2];rfl) ?_
  have:=congrArg Ag he
  unfold Mx.enc at this;simp only[Ad]at this;omega
def pE (m:Mx):Int->List Nat->List Nat
 | _,[]=>[]
 | last,i::r=>((i:Int)-last).toNat::(m.cs.getD i 0).toNat::pE m i r
def Mx.nums (m:Mx):List Nat:=m.n::m.d.toNat::m.idx.length::pE m (-1) m.idx
theorem dD0 (m:Mx):∀(L:List Nat) (s:Int),jN m s L=(pE m s L).flatMap putU
 | [],_=>rfl
 | i::L,s=>by
  show putU _++(putU _++jN m i L)=_
  rw[dD0 m L i];simp[pE]
theorem eJ1 (m:Mx):m.enc=m.nums.flatMap putU:=by
 grind [dD0,Mx.enc,Mx.nums]
theorem fQ1 {M:Mx} (hM:M.OK):∀v∈M.nums,v<=1000000:=by
 have ii:=hM.n2;have ie:=hM.d1;have ig:=hM.d2;have hil:=Mx.idx_len hM;have qq:M.n*M.n<=4096:=Bc hM.n2 hM.n2
 have key:∀(L:List Nat) (s:Int),-1<=s->(∀i∈L,i∈M.idx)->∀v∈pE M s L,v<=1000000:=by
  intro L
  induction L with
  | nil=>intro s _ _ v hv;cases hv
  | cons i L ih =>
   intro s hs hL v hv;obtain⟨hi,_⟩:=Mx.mem_idx.1 (hL i (Ak ..))
   have l7:0<=M.cs.getD i 0/\M.cs.getD i 0<=30000:=by
    have hl:=hM.len;rw[Ac,Af (by omega)];exact hM.cost _ (Az _)
   simp only[pE,By]at hv;rcases hv with rfl|rfl|hv
   ·omega
   ·omega
   ·exact ih i (by omega) (λa ha=>hL a (At _ ha)) v hv
 intro v hv;simp only[Mx.nums,By]at hv;rcases hv with rfl|rfl|rfl|hv
 ·omega
 ·omega
 ·omega
 ·exact key _ _ (by omega) (λi hi=>hi) v hv
theorem aK0:∀(l l':List Nat) (rest:List UInt8),(∀v∈l,v<=1000000)->(∀v∈l',v<=1000000)->l.flatMap putU++rest=l'.flatMap putU->∃t,l'=l++t/\rest=t.flatMap putU
 | [],l',rest,_,_,h=>⟨l',rfl,h⟩
 | a::l,[],rest,_,_,h=>by
  exfalso
  have h1:=congrArg Ag h;simp only[Ap,List.flatMap_nil,Ad,Au]at h1
  have:=List.length_pos_iff.2 (lF a)
  omega
 | a::l,a'::l',rest,h1,h2,h=>by
  rw[Ap,Ap,Bj]at h;have ha:=h1 a (Ak ..);have ha':=h2 a' (Ak ..);obtain⟨rfl,hr⟩:=cG1 (by omega) (by omega) h;obtain⟨t,ht,l8⟩:=aK0 l l' rest (λv hv=>h1 v (At _ hv)) (λv hv=>h2 v (At _ hv)) hr;exact⟨t,by rw[ht];rfl,l8⟩
theorem iA1 {l:List Nat} {rest:List UInt8} (h1:∀v∈l,v<=1000000) {M:Mx} (h:aM1 (l.flatMap putU++rest)=some M):M.OK/\∃t,M.nums=l++t/\rest=t.flatMap putU:=by
 obtain⟨hM,he⟩:=fP0.1 h;rw[eJ1]at he;exact⟨hM,aK0 l _ _ h1 (fQ1 hM) he.symm⟩
theorem uU0 {l:List Nat} (h1:∀v∈l,v<=1000000) {M:Mx} (h:aM1 (l.flatMap putU)=some M):M.OK/\M.nums=l:=by
 have h2:aM1 (l.flatMap putU++[])=some M:=by rw[Bs];exact h
 obtain⟨hM,t,ht,hr⟩:=iA1 h1 h2
 cases t with
 | nil=>grind
 | cons v t =>
  exfalso
  have:=congrArg Ag hr
  simp only[Ap,Ad,Au]at this;grind [List.length_pos_iff,lF]
def sW0 (l:List Nat) (k:Nat) (m:Mx) (i:Int):Prop:=∀M:Mx,M.OK->M.nums=l->∃A L,M.idx=A++L/\(∀a∈A,(a:Int)<=i)/\(∀a∈L,i<(a:Int))/\m=iU0 M (i+1).toNat/\l.drop k=pE M i L
theorem sW0.start (a d q:Nat) (r:List Nat):sW0 (a::d::q::r) 3 (newM a d) (-1):=by
 intro M hM hn;simp only[Mx.nums,List.cons.injEq]at hn;obtain⟨rfl,rfl,rfl,rfl⟩:=hn;have ie:=hM.d1;have hdd:((M.d.toNat:Nat):Int)=M.d:=by omega
 refine⟨[],M.idx,rfl,by simp_all,λa _=>by omega,?_,rfl⟩;rw[hdd];exact kE0.symm
theorem sW0.next {l:List Nat} {k:Nat} {m:Mx} {i:Int} (h:sW0 l k m i) {x c:Nat} (hx:l[k]?=some x) (hc:l[k+1]?=some c) {M:Mx} (hM:M.OK) (hn:M.nums=l) :
  ∃q:Nat,i+x=q/\0<x/\q<m.n*m.n/\m.n=M.n/\isC (c:Int)=true/\∃A L,M.idx=A++L/\(∀a∈A,(a:Int)<=i+x)/\(∀a∈L,i+x<(a:Int))/\m.set (eP m.n q) c=iU0 M (i+x+1).toNat/\l.drop (k+2)=pE M (i+x) L:=by
 obtain⟨A,L,h1,h2,h3,h4,h5⟩:=h M hM hn;have hk:k+1<l.length:=(List.getElem?_eq_some_iff.1 hc).1
 have hd:l.drop k=x::c::l.drop (k+2):=by
  rw[Am (by omega),Am (by omega)];obtain⟨_,e1⟩:=List.getElem?_eq_some_iff.1 hx;obtain⟨_,e2⟩:=List.getElem?_eq_some_iff.1 hc;rw[e1,e2]
 rw[hd]at h5
 cases L with
 | nil=>simp[pE]at h5
 | cons q L =>
  simp only[pE,List.cons.injEq]at h5;obtain⟨e1,e2,e3⟩:=h5;have hq:=h3 q (Ak ..);have ew:q∈M.idx:=by rw[h1];simp
  obtain⟨mw,hqd⟩:=Mx.mem_idx.1 ew
  have l7:0<=M.cs.getD q 0/\M.cs.getD q 0<=30000:=by
   have hl:=hM.len;rw[Ac,Af (by omega)];exact hM.cost _ (Az _)
  have t7:(A++q::L).Pairwise (· < ·):=by rw[<-h1];exact Mx.idx_up
  rw[As,Bh]at t7;obtain⟨_,⟨xz,_⟩,_⟩:=t7;have xq:(c:Int)=M.cs.getD q 0:=by omega
  have vk:m.n=M.n:=by rw[h4];rfl
  have hix:i+x=q:=by omega
  refine⟨q,hix,by omega,by rw[vk];exact mw,vk,by rw[xq];exact pI.2 l7,A++[q],L,by rw[h1];simp,λa ha=>?_,λa ha=>by have:=xz a ha;omega,?_,?_⟩
  ·rcases List.mem_append.1 ha with ha|ha
   ·have:=h2 a ha;omega
   ·rw[List.mem_singleton.1 ha];omega
  ·rw[xq,vk,h4]
   have e9:(i+x+1).toNat=q+1:=by omega
   rw[e9];by_cases hi:0<=i+1
   ·refine gM0 mw (by omega) λa zh ha2=>kK (by omega) λhm=>?_
    rw[h1]at hm;rcases List.mem_append.1 hm with hm|hm
    ·have:=h2 a hm;omega
    ·rcases List.mem_cons.1 hm with rfl|hm
     ·omega
     ·have:=xz a hm;omega
   ·refine gM0 mw (by omega) λa zh ha2=>kK (by omega) λhm=>?_
    rw[h1]at hm;rcases List.mem_append.1 hm with hm|hm
    ·have:=h2 a hm;omega
    ·rcases List.mem_cons.1 hm with rfl|hm
     ·omega
     ·have:=xz a hm;omega
  ·rw[hix];exact e3
theorem sW0.bad {l:List Nat} {k:Nat} {m:Mx} {i:Int} (h:sW0 l k m i) {x c:Nat} (hx:l[k]?=some x) (hc:l[k+1]?=some c) (h1:∀v∈l,v<=1000000)
  (hb:i+x<0\/(0<=i+x/\m.n*m.n<=(i+x).toNat)\/isC (c:Int)=false):aM1 (l.flatMap putU)=none:=by
 cases hd:aM1 (l.flatMap putU) with
 | none=>rfl
 | some M =>
  exfalso
  obtain⟨hM,hn⟩:=uU0 h1 hd;obtain⟨q,e1,_,e2,_,e3,_⟩:=h.next hx hc hM hn;grind
theorem sW0.step {l:List Nat} {k:Nat} {m:Mx} {i:Int} (h:sW0 l k m i) {x c q:Nat} (hx:l[k]?=some x) (hc:l[k+1]?=some c) (hq:i+x=q):sW0 l (k+2) (m.set (eP m.n q) c) (i+x):=by
 intro M hM hn;obtain⟨q',e1,_,_,_,_,A,L,g1,g2,g3,g4,g5⟩:=h.next hx hc hM hn;grind
theorem sW0.fin {l:List Nat} {k:Nat} {m:Mx} {i:Int} (h:sW0 l k m i) (hk:¬k+1<l.length) {M:Mx} (hM:M.OK) (hn:M.nums=l):m=M:=by
 obtain⟨A,L,h1,h2,h3,h4,h5⟩:=h M hM hn
 cases L with
 | cons q L =>
  have:=congrArg Ag h5
  simp only[pE,List.length_cons,Al]at this;omega
 | nil =>
  rw[h4];refine aE1 hM λa zh ha2=>kK ha2 λhm=>?_;grind
theorem sW0.ans {l:List Nat} {k:Nat} {m:Mx} {i:Int} (h:sW0 l k m i) (hk:¬k+1<l.length) (h1:∀v∈l,v<=1000000) (hm:m.OK):aM1 (l.flatMap putU)=if m.enc=l.flatMap putU then some m else none:=by
 by_cases he:m.enc=l.flatMap putU
 ·rw[if_pos he];exact fP0.2 ⟨hm,he⟩
 ·rw[if_neg he]
  cases hd:aM1 (l.flatMap putU) with
  | none=>rfl
  | some M =>
   exfalso
   obtain⟨hM,hn⟩:=uU0 h1 hd;obtain rfl:=h.fin hk hM hn;exact he (fP0.1 hd).2
end
end Go.Proofs.YtiopheoljccmpaaGreatDoor
