/- The texts Bimg R18b Bsz R18P R18c Bjn Bord SecS SplS FindS PkD NumL, one behind the other. -/
import Derived.Test.YthgklnohcmaopaaGreatDoorTq31
import Derived.Test.YthgklnohcmaopaaGreatDoorTq29
import Derived.Test.YthgklnohcmaopaaGreatDoorTq14
import Derived.Test.YthgklnohcmaopaaGreatDoorTq2
import Derived.Test.YthgklnohcmaopaaGreatDoorTq37
import Derived.Test.YthgklnohcmaopaaGreatDoorTq5
import Derived.Test.YthgklnohcmaopaaGreatDoorTq22
import Derived.Test.YthgklnohcmaopaaGreatDoorTq24
import Derived.Test.YthgklnohcmaopaaGreatDoorTq38
import Derived.Test.YthgklnohcmaopaaGreatDoorTq21
import Derived.Test.YthgklnohcmaopaaGreatDoorTq12
import Derived.Test.YthgklnohcmaopaaGreatDoorTq23
import Derived.Test.YthgklnohcmaopaaGreatDoorTq30
import Derived.Test.YthgklnohcmaopaaGreatDoorTq20
import Derived.Test.YthgklnohcmaopaaGreatDoorTq3
import Derived.Shelf.GgSortFunc.Compose
import Derived.Test.YthgklnohcmaopaaGreatDoorTq39
open Go.Lib renaming hid → Aa
open List renaming length_append → Ab,getElem?_eq_getElem → Ac,mem_of_getElem? → Ad,getD_eq_getElem?_getD → Ae,length_map → Ag,getElem?_map → Ai,length_singleton → Am,length_range → An,length_cons → Aq,take_length → Ar,getElem?_cons_zero → As,getElem?_eq_none → At,range → Au,map_cons → Av,getElem?_range → Ax,mem_singleton → Ay,replicate → Be,sum_cons → Bf,flatMap_cons → Bk,length_nil → Bn,map_append → Bo
open Go.World renaming cell?_setCell_other → Af
open Go.IntKind renaming signed → Ah,wrap → Ak,bits → Al
open Nat renaming le_refl → Aj,zero_le → Ao,mul_one → Az,le_trans → Bb,lt_of_lt_of_le → Bg,lt_trichotomy → Bh,zero_add → Bi,lt_or_ge → Bj
open Int renaming tdiv_eq_ediv_of_nonneg → Ap,natCast_add → Bd,natCast_mul → Bp
open UInt8 renaming ofNat → Aw
open Go.Addr renaming block → Ba
open Option renaming map_some → Bc
set_option maxHeartbeats 8000000
namespace Go.Proofs.YthgklnohcmaopaaGreatDoor
set_option maxRecDepth 100000
section
open Go Go.RowKit
def qX (es:List En):List ByteArray:=rT (es.map (·.r))
def jC (es:List En):List ByteArray:=rT (es.map (·.s))
theorem jE0 {ks:List ByteArray} {s:ByteArray} (h:s∈ks):s∈rT ks:=by
 unfold rT;refine List.mem_map.2 ⟨bl s,(tX _ _).2 (by grind [bls]),xO s⟩
theorem hX0 {ks:List ByteArray} {s:ByteArray} (h:s∈rT ks):s∈ks:=by
 unfold rT at h;obtain⟨x,hx,rfl⟩:=List.mem_map.1 h;obtain⟨t,ht,rfl⟩:=List.mem_map.1 ((tX _ _).1 hx);grind [xO,bl]
theorem yN (ks:List ByteArray):(rT ks).Nodup:=by
 unfold rT;have h:=bV0 (bls ks);refine List.Pairwise.map mkB (λa b (km:bS0 a b) e=>?_) h;grind [zT0,cL0]
theorem vG0 {ks:List ByteArray} {i:Nat} (h:i<(rT ks).length):(rT ks)[i]?=some (mkB (nth (bls (rT ks)) i)):=by
 rw[lA0];grind [rT,nth]
theorem uZ (ks:List ByteArray):(rT ks).length<=ks.length:=dB (yN ks) λ_ h=>hX0 h
def lG0 (S:List ByteArray) (x:En):Nat:=S.findIdx λs=>decide (s=x.s)
theorem bB0 {S:List ByteArray} {x:En} (h:x.s∈S):S[lG0 S x]?=some x.s:=by
 have h1:lG0 S x<S.length:=List.findIdx_lt_length_of_exists ⟨x.s,h,by simp⟩;rw[Ac h1];have h2:=List.findIdx_getElem (w:=h1);exact congrArg some (of_decide_eq_true h2)
theorem xA {S:List ByteArray} {x:En} (h:x.s∈S):lG0 S x<S.length:=by grind [lG0]
def xU (S:List ByteArray) (es:List En) (i:Nat):Nat:=lG0 S (es.getD i eK)
def wP0 (es:List En):List Nat:=mS (xU (jC es) es) es.length (jC es).length
def rJ (es:List En):List En:=(wP0 es).map λi=>es.getD i eK
def pI0 (x y:En):Bool := !decide (x.r=y.r)
def uC0 (x y:En):Bool := !decide (x.s=y.s)
def pN (name:Array UInt8) (data:List UInt8):aR:=⟨⟨name⟩,data,none,0⟩
def imgP (p:List bD) (m:Mx) (es:List En):List aR :=
 [pN #[112,111,115] (yR0 p),pN #[109,97,116,114,105,120] m.enc,pN #[114,101,97,100,105,110,103,115] (rQ (bls (qX es))),pN #[102,105,114,115,116] (cG (qP pI0 es es.length)),
  pN #[115,117,114,102,97,99,101,115] (rQ (bls (jC es))),pN #[115,117,114,102,97,99,101] (cG (es.map (lG0 (jC es)))),pN #[108,101,102,116] (cG (es.map λx=>x.l.toNat)),pN #[114,105,103,104,116] (cG (es.map λx=>x.t.toNat)),
  pN #[99,111,115,116] (cG (es.map λx=>x.c.toNat)),pN #[111,114,100,101,114] (cG (wP0 es)),pN #[97,116] (cG (qP uC0 (rJ es) es.length))]
theorem qS {nw:En->En->Bool} {l:List En} {k i:Nat} (h:i∈qP nw l k):i<k:=List.mem_range.1 (List.mem_filter.1 h).1
theorem wF {n:Int}:∀ {l:List En},iT n l=0->∀x∈l,checkE x n=0
 | [],_,x,hx=>by cases hx
 | y::l,h,x,hx=>by
  unfold iT at h;by_cases hy:checkE y n=0
  ·rw[if_pos hy]at h
   rcases List.mem_cons.1 hx with rfl|hx
   ·exact hy
   ·exact wF h x hx
  omega
theorem uT {x:En} {n:Int} (h:checkE x n=0):0<=x.l/\x.l<n/\0<=x.t/\x.t<n/\0<=x.c/\x.c<=30000:=by
 unfold checkE checkS at h;omega
theorem mJ {p:List bD} {m:Mx} {l:List En} (h:cS0 p (some m) l=0):(m.n:Int)=p.length/\l.length<=20000/\aQ p=true/\∀x∈l,checkE x p.length=0:=by
 unfold cS0 at h;split at h
 ·cases h
 ·rename_i hv
  simp only at h;split at h
  ·rename_i h1
   split at h
   ·cases h
   ·rename_i h2
    exact⟨h1,by omega,by simpa using hv,wF h⟩
  ·cases h
def lW (p:List bD) (m:Option Mx) (l:List En):Int×List UInt8 :=
 if cS0 p m l=0 then match m with
  | none=>(0,[])
  | some m=>if gC (bls (qX (sortS l)))=0/\gC (bls (jC (sortS l)))=0 then (if eE (imgP p m (sortS l))=0 then (0,gD (imgP p m (sortS l))) else (eE (imgP p m (sortS l)),[])) else (2,[])
 else (cS0 p m l,[])
end
section
open Go Go.RowKit Go.Shelf
attribute [local go_sem] aK aP
end
section
open Go Go.RowKit
theorem fU0 (m:Mx):∀(l:List Nat) (last:Int),(uB m last l).length<=l.length*20
 | [],_=>by simp[uB]
 | i::r,last=>by
  have h1:=fU0 m r i;have h2:=bK ((i:Int)-last).toNat;have h3:=bK (m.cs.getD i 0).toNat;rw[uB,Ab,Ab,Aq];omega
theorem tU0 {m:Mx} (h:m.OK):m.enc.length<=82000:=by
 have h1:=Mx.idx_len h;have h2:=fU0 m m.idx (-1);have h3:=bK m.n;have h4:=bK m.d.toNat;have h5:=bK m.idx.length;unfold Mx.enc;rw[Ab,Ab,Ab];omega
theorem kH0 {p:List bD} (h:aQ p=true):(yR0 p).length<=2600:=by
 obtain⟨h1,h2⟩:=jK h;have h3:=wV (l:=p) (λx hx=>(h2 x hx).1);have h4:=bK p.length;unfold yR0;rw[Ab];omega
theorem dM {l:List Nat} (h:∀n∈l,n<18446744073709551616):(cG l).length<=5+l.length*64:=by
 have hw:nQ l<=64:=pA.2 h;have h1:l.length*nQ l<=l.length*64:=Nat.mul_le_mul_left _ hw;unfold cG xX;rw[Ab,Ab,dF,Ag,An];simp only[Am];omega
theorem cP0 (k:Nat):∀l:List Nat,((l.map (leB k)).flatten).length=l.length*k
 | []=>by simp
 | x::l=>by
  rw[Av,List.flatten_cons,Ab,dF,cP0 k l,Aq,Nat.succ_mul];omega
theorem aO0 (l:List Bool):(jC0 l).length<=20+l.length:=by
 unfold jC0 tK qV;rw[Ab,Ab,dF,cP0,cP0,Ag,Ag,An,An];omega
theorem eN0 {L:List (List UInt8)} (aq:OkL L) (hl:L.length<=20000) (hc:gB L<=524287):(rQ L).length<=40000000:=by
 obtain⟨z1,z2,z3,z4,z5⟩:=aq.sizes hl hc;have h1:=aO0 (shapeL L (nodesA L));have h2:=aO0 (isL L (nodesA L));have h3:=dM (l:=idsL L (nodesA L)) (λn hn=>by have:=z5 n hn;omega);unfold rQ fF;simp only[Ab,dF];omega
theorem tS0 (k:Nat->Nat) (n S:Nat):(mS k n S).Nodup:=(jU k n S).imp λ{a b} h e=>by rw[e]at h; exact zJ h
theorem sO0 {k:Nat->Nat} {n S:Nat} (h:∀i,i<n->k i<S):(mS k n S).length=n:=by
 have h1:=dB (tS0 k n S) (l':=Au n) λx hx=>List.mem_range.2 (mW.1 hx).1;have h2:=dB (List.nodup_range (n:=n)) (l':=mS k n S) λx hx=>mW.2 ⟨List.mem_range.1 hx,h x (List.mem_range.1 hx)⟩;rw[An]at h1 h2;omega
theorem cR1 {es:List En} {i:Nat} (h:i<es.length):es[i]?=some (es.getD i eK):=by rw[Ae,Ac h]; rfl
theorem oW0 {es:List En} {x:En} (h:x∈es):x.s∈jC es:=jE0 (List.mem_map.2 ⟨x,h,rfl⟩)
theorem uY0 {es:List En} {i:Nat} (h:i<es.length):xU (jC es) es i<(jC es).length:=xA (oW0 (Ad (cR1 h)))
theorem uQ0 (es:List En):(wP0 es).length=es.length:=sO0 λ_ hi=>uY0 hi
theorem zP0 {es:List En} {i:Nat} (h:i∈wP0 es):i<es.length:=(mW.1 h).1
theorem vC0 {l:List ByteArray} (hn:l.Nodup) {i j:Nat} {s:ByteArray} (hi:l[i]?=some s) (hj:l[j]?=some s):i=j:=by
 obtain⟨h1,e1⟩:=List.getElem?_eq_some_iff.1 hi;obtain⟨h2,e2⟩:=List.getElem?_eq_some_iff.1 hj;rcases Bh i j with h|h|h
 ·exact absurd (e1.trans e2.symm) (List.pairwise_iff_getElem.1 hn i j h1 h2 h)
 ·exact h
 ·exact absurd (e2.trans e1.symm) (List.pairwise_iff_getElem.1 hn j i h2 h1 h)
theorem xE0 (l:List En):(sortS l).length<=l.length :=
 dB ((gH l).1.imp λ{a b} km e=>by rw[e,eW]at km;cases km) λy hy=>(((gH l).2 y).1 hy).1
theorem vF0 {l:List En} {x:En} (h:x∈sortS l):x∈l:=(((gH l).2 x).1 h).1
theorem aD0 {L:List (List UInt8)} {B:Nat} (h:∀s∈L,s.length<=B):∀m,m<=L.length->sB L m<=1+m*B
 | 0,_=>by rw[Nat.zero_mul];exact Aj _
 | m+1,hm=>by
  rw[Nat.add_mul,Nat.one_mul];have h1:=aD0 h m (by omega);have h2:=h _ (Ad (jR (L:=L) (j:=m) (by omega)));unfold sB bE1;omega
theorem vK {L:List (List UInt8)} (aq:OkL L) (hl:L.length<=1000) (hc:gB L<=76801):(rQ L).length<=5300000:=by
 have hN:=iZ aq.asc aq.len;obtain⟨z1,z2,z3,z4,z5⟩:=aq.sizes (by omega) (by omega:gB L<=524287);have h0:=fM L (nodesA L).length (Aj _);rw[Ar,aq.off_all]at h0;have h1:=aO0 (shapeL L (nodesA L));have h2:=aO0 (isL L (nodesA L));have h3:=dM (l:=idsL L (nodesA L)) (λn hn=>by have:=z5 n hn;omega);have h4:(isL L (nodesA L)).length=(nodesA L).length:=by unfold isL;rw[Ag]
 have h5:(labelsL L (nodesA L)).length<=(nodesA L).length:=by rw[aq.labels,Ag,List.length_drop];omega
 have h6:(idsL L (nodesA L)).length<=(nodesA L).length:=by
  unfold idsL;rw[Ag];exact List.length_filter_le (nR L) (nodesA L)
 unfold rQ fF;simp only[Ab,dF];omega
theorem rQ0 (p:List bD) (m:Mx) (es:List En):(imgP p m es).any (λq => !azS q.name)=false/\oG0 (imgP p m es)=false:=by
 constructor
 ·simp only[imgP,List.any_cons,List.any_nil,pN]
  decide +kernel
 ·simp only[imgP,oG0,tM,pN]
  decide +kernel
theorem qJ0 {p:List bD} {m:Mx} {es:List En} (hm:m.OK) (hp:aQ p=true) (hl:es.length<=1000) (hr:gC (bls (qX es))=0) (hs:gC (bls (jC es))=0) (hcr:gB (bls (qX es))<=76801) (cn:gB (bls (jC es))<=76801)
  (hn:∀x∈es,0<=x.l/\x.l<18446744073709551616/\0<=x.t/\x.t<18446744073709551616/\0<=x.c/\x.c<18446744073709551616):eE (imgP p m es)=0:=by
 have hR:(bls (qX es)).length<=1000:=by
  have:=uZ (es.map (·.r));unfold bls qX;rw[Ag];rw[Ag]at this;omega
 have hS:(bls (jC es)).length<=1000:=by
  have:=uZ (es.map (·.s));unfold bls jC;rw[Ag];rw[Ag]at this;omega
 have hS2:(jC es).length<=1000:=by unfold bls at hS;rw[Ag]at hS;exact hS
 have a1:=kH0 hp;have a2:=tU0 hm;have a3:=vK (nD hr).1 hR hcr;have a4:=vK (nD hs).1 hS cn;have b1:=dM (l:=qP pI0 es es.length) (λn hn=>by have:=qS hn;omega)
 have b2:=dM (l:=es.map (lG0 (jC es))) (λn hn=>by
  obtain⟨x,hx,rfl⟩:=List.mem_map.1 hn
  have:=xA (oW0 hx);omega)
 have b3:=dM (l:=es.map λx=>x.l.toNat) (λn h=>by
  obtain⟨x,hx,rfl⟩:=List.mem_map.1 h
  have:=hn x hx;omega)
 have b4:=dM (l:=es.map λx=>x.t.toNat) (λn h=>by
  obtain⟨x,hx,rfl⟩:=List.mem_map.1 h
  have:=hn x hx;omega)
 have b5:=dM (l:=es.map λx=>x.c.toNat) (λn h=>by
  obtain⟨x,hx,rfl⟩:=List.mem_map.1 h
  have:=hn x hx;omega)
 have b6:=dM (l:=wP0 es) (λn hn=>by have:=zP0 hn;omega);have b7:=dM (l:=qP uC0 (rJ es) es.length) (λn hn=>by have:=qS hn;omega);have c1:=xP pI0 es es.length;have c2:=xP uC0 (rJ es) es.length;have c3:=uQ0 es;rw[Ag]at b2 b3 b4 b5
 have jz:iO (imgP p m es)<=16777216:=by
  simp only[iO,imgP,pN,Av,List.map_nil,Bf,List.sum_nil];omega
 have an:(imgP p m es).length=11:=rfl;obtain⟨n1,n2⟩:=rQ0 p m es;unfold eE;rw[if_neg (by omega),if_neg (by rw[n1];decide),if_neg (by rw[n2];decide)]
end
section
open Go Go.RowKit Go.Shelf
attribute [local go_sem] aK aP
def eB0 (p:List bD) (m:Option Mx) (l:List En):Int :=
 if cS0 p m l=0 then (if gC (bls (qX (sortS l)))=0/\gC (bls (jC (sortS l)))=0 then 0 else 2) else cS0 p m l
end
section
open Go Go.RowKit
theorem iI0 (P:List aR) (w:World) (T:TypeId) (hl:P.length<=1000000):aF (w.alloc (.cells (P.flatMap jZ).toArray T)) (some ⟨w.heap.size,0,none⟩) 2 (P.map jZ):=by
 have h:=jQ (enc:=jZ) (k:=2) (λ_=>rfl) (w:=w) (e:=T) (base:=w.heap.size) (n:=P.length) (Aj _) P (cs:=(P.flatMap jZ).toArray) (by simp) rfl (by unfold maxLen;omega);obtain⟨a,c,e,_,_,ac⟩:=h.at_ (k:=2) (λ_=>rfl);have e1:=(Value.slice.inj e).1;rw[e1];exact ac
def bare (p:aR):aR:=⟨p.name,p.data,none,0⟩
theorem mF0 (P:List aR):iO (P.map bare)=iO P:=by simp[iO,bare,List.map_map,Function.comp_def]
theorem hG0 (P:List aR):cJ (P.map bare)=cJ P:=by
 simp[cJ,cB,cK,bare,List.flatMap_map]
theorem lC (P:List aR):gD (P.map bare)=gD P:=by unfold gD; rw[hG0]
theorem zH:∀(P:List aR) (seen:List ByteArray),tM (P.map bare) seen=tM P seen
 | [],_=>rfl
 | p::P,seen=>by
  rw[Av,tM,tM,zH P];rfl
theorem nF (P:List aR):eE (P.map bare)=eE P:=by
 unfold eE oG0;rw[mF0,Ag,zH,List.any_map];rfl
theorem dU {W:World} {base:Nat} {v:Value} {data:List UInt8} (h:aU W base 5 1 aV v data):∃a c,v=.slice a data.length c/\aF W a 1 (data.map aV)/\(a=none->c=0):=by
 obtain⟨a,c,rfl,_,_,ac⟩:=h.at_ (k:=1) (λx=>(rfl:(aV x).length=1));refine⟨a,c,rfl,ac,λha=>?_⟩;rcases h.2 with ⟨e,_⟩|⟨g,cap,bv,hv,_⟩
 ·exact(Value.slice.inj e).2.2
 ·rw[ha]at hv
  cases (Value.slice.inj hv).1
end
section
open Go Go.RowKit Go.Shelf Go.Sort
theorem lJ0 {w:World} {g n:Nat} {os:Array Obj} (d:Array Nat):w.grownBy (grow (putRow nv (Sort.ahead w n) g 0 d) os) (some g):=by
 refine⟨rfl,rfl,rfl,by simp,λk hk ai=>?_⟩;rw[heap_grow_old _ _ (by simpa using hk)]
 have:g≠k:=λe=>ai (by rw[e])
 simp[putRow,mapBlock,Sort.ahead,Array.getElem?_modify,this]
theorem kQ0 {wB w0 W:World} {ob:Nat} {dk:Array Nat} (hB:aB wB w0) (uw:wB.heap.size<=ob) (S:SWn w0 ob dk W):aB wB W:=by
 obtain⟨m,os,rfl⟩:=S;exact hB.grown (lJ0 dk) (λq hq=>by cases hq;exact uw)
theorem bZ1 {es:List En} {BS:List ByteArray} {ib eb sc ob:Nat} {sa:Option Addr} {wB w0:World} (hn:es.length<=1048576) (hL:BS.length<=1048576) (hB:aB wB w0) (uw:wB.heap.size<=ob) (hid:yE0 wB ib BS) (bz:wB.cell? ⟨eb,0,none⟩=some (.slice sa es.length sc)) (ac:aF wB sa 5 (es.map aZ))
  (aa:aU w0 wB.heap.size 3 1 gU (.slice (some ⟨ob,0,none⟩) es.length es.length) (Au es.length)) (ae:ob<w0.heap.size) (hm:∀x∈es,x.s∈BS) (hz:∀x∈es,x.s.size<=maxLen) :
  eI (xU BS es) es.length ob 60 #[.pointer (some ⟨ib,0,none⟩),.pointer (some ⟨eb,0,none⟩)] (Au es.length).toArray w0/\SWn w0 ob (Au es.length).toArray w0:=by
 have hH:Holds nv w0 ob 0 (Au es.length).toArray:=λj hj=>by
  have ng:j<es.length:=by simpa using hj
  have h1:=dN (f:=λn:Nat=>Value.int .i64 n) aa (k:=j) (x:=j) (by rw[Ax ng]);obtain⟨h2,_,_⟩:=eF (f:=λn:Nat=>Value.int .i64 n) aa (k:=j) (by simpa using ng) 0;refine⟨?_,by rw[Bi];exact h2⟩;rw[Bi,h1];simp[nv,ng]
 refine⟨⟨⟨λx=>rfl,hH,ae⟩,by simp,hn,aI1,?_⟩,⟨0,#[],(sortWorld_start nv w0 ob 0 _ hH).symm⟩⟩;intro m os dk hs x y hx hy;have hg:aB wB (sortWorld nv w0 ob 0 m dk os):=kQ0 hB uw ⟨m,os,rfl⟩;have hex:es[x]?=some (es.getD x eK):=by rw[Ae,Ac hx];rfl
 have hey:es[y]?=some (es.getD y eK):=by rw[Ae,Ac hy];rfl
 have hmx:=Ad hex;have hmy:=Ad hey;have h:=uN0 BS ib eb (xU BS es x) (xU BS es y) x y es (es.getD x eK) (es.getD y eK) sa sc _ (hid.grows hg) (hg.cell bz) (ac.grows hg) hn hL hex hey (bB0 (hm _ hmx)) (bB0 (hm _ hmy)) ⟨hz _ hmx,hz _ hmy⟩;exact h.mono λe w' ⟨h1,h2⟩=>⟨h1,1,#[],by rw[h2,grow_empty];rfl⟩
theorem vA0 {es:List En} {BS:List ByteArray} {ob:Nat} {_wB w0 w':World} {dk:Array Nat} (hs:dk.size=es.length) (hw:Win (xU BS es) (Fd dk) 0 es.length) (hm:∀x∈es,x.s∈BS) (R:Row1 nv w0 ob 0 (Au es.length).toArray) (S:SWn w0 ob dk w') :
  aF w' (some ⟨ob,0,none⟩) 1 ((mS (xU BS es) es.length BS.length).map gU)/\(mS (xU BS es) es.length BS.length).length=es.length/\∀i∈mS (xU BS es) es.length BS.length,i<es.length:=by
 have h1:(Au es.length).map (Fd dk)=mS (xU BS es) es.length BS.length:=wI0 hw λi hi=>by
  have hex:es[i]?=some (es.getD i eK):=by rw[Ae,Ac hi];rfl
  exact xA (hm _ (Ad hex))
 rw[<-h1];refine⟨λ_=>⟨ob,0,rfl,λi row hi j u hj=>?_⟩,by simp,λi hi=>?_⟩
 ·rw[Ai,Ai]at hi
  rcases Bj i es.length with ae|jn
  ·rw[Ax ae]at hi
   simp only[Bc,Option.some.injEq]at hi;subst hi
   match j,hj with
   | 0,hj =>
    have:=S.c1 R (by rw[hs];simp) i (by omega)
    simp only[gU,As,Option.some.injEq]at hj;subst hj;simpa [Fd,nv] using this
  ·rw[At (by simpa using jn)]at hi
   cases hi
 ·obtain⟨j,hj,rfl⟩:=List.mem_map.1 hi
  rw[List.mem_range]at hj;exact(hw.inn j (Ao _) hj).2
end
section
open Go Go.RowKit Go.Shelf
attribute [local go_sem] aK aP
theorem xN0:∃i,Tryz.prog.info? 119=some i/\i.zero=some (.agg #[.string ⟨#[]⟩,.slice none 0 0])/\i.size=2/\i.bytes=40:=by
 have h:(Tryz.prog.info? 119).map (λi=>(i.zero,i.size,i.bytes))=some (some (.agg #[.string ⟨#[]⟩,.slice none 0 0]),2,40):=by kernel_rfl
 cases hi:Tryz.prog.info? 119 with
 | none=>rw[hi]at h;cases h
 | some i =>
  rw[hi]at h;simp only[Bc,Option.some.injEq,Prod.mk.injEq]at h;exact⟨i,rfl,h.1,h.2.1,h.2.2⟩
def uS0:aR:=⟨⟨#[]⟩,[],none,0⟩
theorem oX {P:List aR} (h:eE P=0):P.length<=64/\iO P<=16777216/\∀p∈P,p.name.size<=16:=by
 unfold eE at h;split at h
 ·cases h
 ·split at h
  ·cases h
  ·rename_i h1 h2
   refine⟨by omega,by omega,λp hp=>?_⟩;have h3:¬(!azS p.name)=true:=λe=>h2 (List.any_eq_true.2 ⟨p,hp,e⟩);have h4:azS p.name=true:=by simpa using h3
   unfold azS at h4;simp only[Bool.and_eq_true,decide_eq_true_eq]at h4;exact h4.1.2
theorem bX0 {q:aR}:∀ {P:List aR},q∈P->q.data.length<=iO P
 | [],h=>by cases h
 | x::P,h=>by
  unfold iO;rw[Av,Bf];rcases List.mem_cons.1 h with rfl|h
  ·omega
  ·have:=bX0 h
   unfold iO at this;omega
theorem tB:∀ {P:List aR},(∀p∈P,p.name.size<=16)->(cB P).length<=P.length*36
 | [],_=>by simp[cB]
 | p::P,h=>by
  have h1:=tB (P:=P) λq hq=>h q (by simp[hq]);have h2:=pV p.name;have h3:=bK p.data.length;have h4:=h p (by simp);unfold cB at h1 ⊢;rw[Bk,Ab,Ab,Aq];omega
theorem yP:∀P:List aR,(cK P).length=iO P
 | []=>rfl
 | p::P=>by
  have:=yP P
  unfold cK iO at *;rw[Bk,Ab,this,Av,Bf]
theorem sV {P:List aR} (h:eE P=0):(cJ P).length<=16800000:=by
 obtain⟨h1,h2,h3⟩:=oX h;have h4:=tB h3;have h5:=yP P;have h6:=bK P.length;unfold cJ;simp only[Ab,Aq,Bn];omega
def flN (z:Nat->Value) (P:List aR) (k j:Nat):Value:=if j%2=0/\j/2<k then .string (P.getD (j/2) uS0).name else z j
def fsN (z:Nat->Value) (P:List aR) (k j:Nat):Value:=if j<k then .int .i64 ((P.getD j uS0).data.length:Nat) else z j
def flD (z:Nat->Value) (P Q:List aR) (j:Nat):Value:=if j%2=0 then .string (P.getD (j/2) uS0).name else match Q[j/2]? with|some q => .slice q.a q.data.length q.c|none=>z j
theorem vE0 {z:Nat->Value} {P:List aR} {k:Nat} {p:aR} (hp:P[k]?=some p) (j:Nat):(if j=k*2 then Value.string p.name else flN z P k j)=flN z P (k+1) j:=by
 unfold flN;by_cases h:j=k*2
 ·subst h
  rw[if_pos rfl,if_pos ⟨by omega,by omega⟩,show k*2/2=k by omega,Ae,hp]
  rfl
 ·rw[if_neg h]
  by_cases h2:j%2=0/\j/2<k
  ·rw[if_pos h2,if_pos ⟨h2.1,by omega⟩]
  ·rw[if_neg h2,if_neg (by omega)]
theorem xP0 {z:Nat->Value} {P:List aR} {k:Nat} {p:aR} (hp:P[k]?=some p) (j:Nat):(if j=k then Value.int .i64 (p.data.length:Nat) else fsN z P k j)=fsN z P (k+1) j:=by
 unfold fsN;by_cases h:j=k
 ·subst h
  rw[if_pos rfl,if_pos (by omega),Ae,hp];rfl
 ·rw[if_neg h]
  by_cases h3:j<k
  ·rw[if_pos h3,if_pos (by omega)]
  ·rw[if_neg h3,if_neg (by omega)]
theorem cN1 {z:Nat->Value} {P:List aR} {k n:Nat} {p:aR} (hp:P[k]?=some p) (hk:k<n):fsN z P n k=.int .i64 (p.data.length:Nat):=by
 unfold fsN;rw[if_pos hk,Ae,hp];rfl
theorem bG1 (z:Nat->Value) (P:List aR) (j:Nat) (hj:j<P.length*2):flN z P P.length j=flD z P [] j:=by
 unfold flN flD;by_cases h:j%2=0
 ·rw[if_pos ⟨h,by omega⟩,if_pos h]
 ·rw[if_neg (λe=>h e.1),if_neg h];simp
theorem vL0 {z:Nat->Value} {P Q:List aR} (q:aR) (j:Nat):(if j=Q.length*2+1 then Value.slice q.a q.data.length q.c else flD z P Q j)=flD z P (Q++[q]) j:=by
 unfold flD;by_cases h:j=Q.length*2+1
 ·subst h
  rw[if_pos rfl,if_neg (by omega),show (Q.length*2+1)/2=Q.length by omega,List.getElem?_append_right (Aj _),Nat.sub_self]
  rfl
 ·rw[if_neg h]
  by_cases h2:j%2=0
  ·rw[if_pos h2,if_pos h2]
  ·rw[if_neg h2,if_neg h2]
   rcases Bh (j/2) Q.length with h3|h3|h3
   ·rw[List.getElem?_append_left h3]
   ·omega
   ·rw[At (by omega),At (by simp;omega)]
theorem sY {W:World} {base k g n c:Nat} {e:TypeId} {xs:List Value} (h:W.ownsRow base e k (.slice (some ⟨g,0,none⟩) n c) n xs):∃z,qH W g (n*k) z:=by
 rcases h.2 with ⟨h1,_⟩|⟨g',cap,bv,hv,hb,hh,hn,hc,hs,ht⟩
 ·cases h1
 ·have e1:=(Value.slice.inj hv).1
  obtain rfl:g=g':=congrArg Ba (Option.some.inj e1);refine⟨λj=>bv.getD j undef,λj hj=>?_,λj=>by simp[World.frozen?,hh],(Array.getElem?_eq_some_iff.1 hh).1⟩;have ng:j<bv.size:=by rw[hs];exact Bg hj (Nat.mul_le_mul_right k hn)
  simp[World.cell?,hh,ng]
structure cD0 (w:World) (B:Nat) (P Q:List aR):Prop where
 len:Q.length<=P.length
 bare:Q.map bare=(P.take Q.length).map bare
 at_:∀q∈Q,aF w q.a 1 (q.data.map aV)
 none_:∀q∈Q,q.a=none->q.c=0
 far:∀q∈Q,∀r:Addr,q.a=some r->B<r.block
theorem cD0.grows {w w':World} {B:Nat} {P Q:List aR} (h:cD0 w B P Q) (hg:aB w w'):cD0 w' B P Q:=⟨h.len,h.bare,λq hq=>(h.at_ q hq).grows hg,h.none_,h.far⟩
theorem cD0.set {w:World} {B:Nat} {P Q:List aR} (h:cD0 w B P Q) {g i:Nat} (hg:g<=B) (v:Value):cD0 (w.setCell ⟨g,i,none⟩ v) B P Q :=
 ⟨h.len,h.bare,λq hq=>cE0 (h.at_ q hq) ((aB.refl w).grownBy_set g i v) (λr hr e=>by have:=h.far q hq r hr;have:=Option.some.inj e;omega),h.none_,h.far⟩
theorem aD1 {W:World} {lb:Nat} {P Q:List aR} {z:Nat->Value} (h:qH W lb (P.length*2) (flD z P Q)) (hl:Q.length=P.length) (hb:Q.map bare=P.map bare):aF W (some ⟨lb,0,none⟩) 2 (Q.map jZ):=λ_=>⟨lb,0,rfl,λi row hi j u hj=>by
 rw[Ai]at hi
 cases hq:Q[i]? with
 | none=>rw[hq]at hi;cases hi
 | some q =>
  rw[hq]at hi;obtain rfl:jZ q=row:=by simpa using hi
  have hiQ:=(List.getElem?_eq_some_iff.1 hq).1;have ng:j<2:=by have:=(List.getElem?_eq_some_iff.1 hj).1;simpa [jZ] using this
  have hc:=h.cell (i*2+j) (by omega);rw[Bi,hc]
  have hn:(P.getD i uS0).name=q.name:=by
   have h1:(Q.map bare)[i]?=some (bare q):=by rw[Ai,hq];rfl
   rw[hb,Ai]at h1
   cases hp:P[i]? with
   | none=>rw[hp]at h1;cases h1
   | some p =>
    rw[hp]at h1;have h2:=Option.some.inj h1;rw[Ae,hp];have h3:(bare p).name=(bare q).name:=by rw[h2]
    exact h3
  match j,ng with
  | 0,_ =>
   simp only[jZ,As,Option.some.injEq]at hj;subst hj;unfold flD;rw[if_pos (by omega),show (i*2+0)/2=i by omega,hn]
  | 1,_ =>
   simp only[jZ,List.getElem?_cons_succ,As,Option.some.injEq]at hj;subst hj;unfold flD;rw[if_neg (by omega),show (i*2+1)/2=i by omega,hq]⟩
theorem yZ0 {w W:World} {v:Value} {t:TypeId} (hg:aB (w.alloc (.cells #[v] t)) W):qH W w.heap.size 1 (λ_=>v):=by
 obtain⟨h1,h2⟩:=cX hg
 have h0:∀j,j<1->(#[v]:Array Value)[j]?=some v:=λj hj=>by
  obtain rfl:j=0:=by omega
  rfl
 exact⟨λj hj=>h1 j _ (h0 j hj),h2,Bg (by simp) hg.size⟩
def bC1 (P:List aR) (w:World) (e:Ending) (w':World):Prop :=
 aB w w'/\∃(Q:List aR) (a:Option Addr) (c:Nat),e=.returned (.tuple #[.slice a Q.length c,.bool true])/\Q.map bare=P.map bare/\aF w' a 2 (Q.map jZ)/\jE w' Q
theorem nD0 (P:List aR) (ba:Option Addr) (bc:Nat) (w:World) (m5:eE P=0) (im:(cJ P).length<=bc) (_hbm:bc<=maxLen) (l6:ba=none->bc=0) (ac:aF w ba 1 ((cJ P).map aV)) :
  Calls Tryz.prog 78 #[.slice ba (cJ P).length bc] w (bC1 P w):=by
 obtain⟨pr,jz,r8⟩:=oX m5;have gb:=sV m5;have HNM:=Aa r8;have HSZ:Hid (∀p∈P,p.data.length<=16777216):=λp hp=>Bb (bX0 hp) jz;have HC0:=Aa (wS0 (P:=P) (by omega));have HNA:=Aa (λi p (h:P[i]?=some p)=>aV1 h (by have:=r8 p (Ad h);omega));have HSI:=Aa (λi p (h:P[i]?=some p)=>zZ0 h (by have:=Bb (bX0 (Ad h)) jz;omega));have HDA:=Aa (λi p (h:P[i]?=some p)=>aS1 h);have HHZ:=Aa (oC0 P);have HHL:=Aa (λi=>wV0 (P:=P) (i:=i));have HDL:=Aa (λi=>uZ0 (P:=P) (i:=i));have HDE:=Aa (qI0 P);have HDZ:=Aa (lY0 P);obtain⟨b,hb⟩:=exq (cJ P);rw[<-hb]at HC0 HNA HSI HDA HHL HDL HDE gb im ac ⊢;obtain⟨n,hn⟩:=exq P.length;rw[<-hn]at HC0 HHZ HDE HDZ pr;have HN:=Aa hn;have HAT:=Aa ac;have HNC:=Aa l6;clear ac hb r8 jz m5 l6 hn
 -- the boxes
 obtain⟨W1,cq⟩:=exq (((w.alloc (.cells #[.slice ba b.length bc] 28)).alloc (.cells #[.int .i64 4] 3)).alloc (.cells #[.bool true] 4));have aj:aB w W1:=by rw[cq];exact((aB.alloc _ _).al _).al _
 obtain⟨pb,kc⟩:=exq w.heap.size
 have hB1:qH W1 pb 1 (λ_ => .slice ba b.length bc):=by
  rw[cq,kc];exact yZ0 ((aB.alloc _ _).al _)
 have hA1:qH W1 (pb+1) 1 (λ_ => .int .i64 4):=by
  rw[cq,kc];have h:=yZ0 (w:=w.alloc (.cells #[.slice ba b.length bc] 28)) (v:=.int .i64 4) (t:=3) (W:=((w.alloc (.cells #[.slice ba b.length bc] 28)).alloc (.cells #[.int .i64 4] 3)).alloc (.cells #[.bool true] 4)) (aB.alloc _ _);rw[show (w.alloc (.cells #[.slice ba b.length bc] 28)).heap.size=w.heap.size+1 by simp]at h
  exact h
 have hO1:qH W1 (pb+1+1) 1 (λ_ => .bool true):=by
  rw[cq,kc];have h:=yZ0 (w:=(w.alloc (.cells #[.slice ba b.length bc] 28)).alloc (.cells #[.int .i64 4] 3)) (v:=.bool true) (t:=4) (W:=((w.alloc (.cells #[.slice ba b.length bc] 28)).alloc (.cells #[.int .i64 4] 3)).alloc (.cells #[.bool true] 4)) (aB.refl _);rw[show ((w.alloc (.cells #[.slice ba b.length bc] 28)).alloc (.cells #[.int .i64 4] 3)).heap.size=w.heap.size+1+1 by simp]at h
  exact h
 have HG1:=Aa aj;have HPB:=Aa kc;have eg:=aJ1;have cb:=hB1.cell 0 (by decide);have ca:=hA1.cell 0 (by decide);have co:=hO1.cell 0 (by decide);have CN:=Aa (jQ0 b ba bc 4 n (dJ n).length pb (pb+1) (pb+1+1) 64 W1 (by have:=HHL.out 0;have:=HHZ.out;omega) (by omega) (HAT.out.grows aj) HC0.out pr (by decide) cb ca co (hA1.froz 0));have ml:=λ(Y:World)=>vN0 n Y (by omega);obtain⟨iu,yo,yq,yu,yv⟩:=xN0;clear aj;go_enter Tryz.func78,Tryz.ntmps78
 go_wp2_with fail
 rw[<-cq,<-HPB.out];clear cq kc cb ca co;refine CN.out.mono ?_;rintro e w3 ⟨rfl,w2,af,rfl⟩;obtain⟨k0,kp⟩:=exq (4+(dJ n).length);rw[<-kp]at HHZ ⊢;have ww:=(hB1.grows af).other (b':=pb+1) (j':=0) (by omega) (.int .i64 (k0:Nat));have hO2:=(hO1.grows af).other (b':=pb+1) (j':=0) (by omega) (.int .i64 (k0:Nat));have hA2:=((hA1.grows af).set (k:=0) (by decide) (.int .i64 (k0:Nat))).congr (g:=λ_ => .int .i64 (k0:Nat)) (λj hj=>by rw[if_pos (by omega)]);have ik:=hO1.lt;have bg:aB w (w2.setCell ⟨pb+1,0,none⟩ (.int .i64 (k0:Nat))):=(aB.trans _ _ _ HG1.out af).set (by rw[HPB.out];simp) _;have ry:pb+1+1<(w2.setCell ⟨pb+1,0,none⟩ (.int .i64 (k0:Nat))).heap.size:=by have:=af.size;simp;omega
 obtain⟨W3,jw⟩:=exq (w2.setCell ⟨pb+1,0,none⟩ (.int .i64 (k0:Nat)));rw[<-jw]at ww hO2 hA2 bg ry ⊢;clear jw hB1 hA1 hO1 af CN kp;obtain⟨pa,jy⟩:=exq (pb+1);obtain⟨po,hpo⟩:=exq (pb+1+1);rw[<-hpo]at hO2 ry ⊢;rw[<-jy]at hA2 ⊢;have t9:pb<pa:=by omega
 have az:pa<po:=by omega
 have HPA:=Aa (And.intro jy hpo);clear jy hpo;go_wp2_with (at_make;refine wpList_make_full _ rfl _ _ 62 rfl W3.heap.size 119 iu (.agg #[.string ⟨#[]⟩,.slice none 0 0]) 2 Tryz.underlying62 yo yq yu .i64 .i64 _ _ n rfl rfl rfl rfl (by rw[yv];omega) (by unfold maxLen;omega) (Aj _) ?_;intro w4 cj o9)
 obtain⟨lb,pe⟩:=exq W3.heap.size;rw[<-pe]at cj ⊢;obtain⟨zl,hL4⟩:=sY cj;have di:aB W3 w4:=(aB.refl W3).grown o9 (λq hq=>by cases hq);have wu:=bL0 (w:=w4) (n:=n) (by omega);obtain⟨W5,ni⟩:=exq (w4.alloc (.cells (madeCells #[.int .i64 0] (n*1)) 3));have bk:aB w4 W5:=by rw[ni];exact aB.alloc _ _
 rw[<-ni]at wu;obtain⟨sb,p4⟩:=exq w4.heap.size;rw[<-p4]at wu ⊢
 have ac9:W5.ownsRow sb 3 1 (.slice (some ⟨sb,0,none⟩) n n) n ((Be n 0).flatMap gU):=by
  have:=wu
  unfold aU at this;rwa [List.length_replicate]at this
 obtain⟨zs,hS5⟩:=sY ac9;rw[Az]at hS5;have hL5:=hL4.grows bk;have r9:=aB.trans _ _ _ di bk;have pz:=ww.grows r9;have hO5:=hO2.grows r9;have hA5:=hA2.grows r9;have fu:=aB.trans _ _ _ bg r9;have ah8:po<lb:=by omega
 have ah9:lb<sb:=by rw[p4];exact hL4.lt
 rw[Az]at ni;try rw[<-ni]
 have HG5:=Aa fu;clear wu ac9 cj o9 hL4 di bk r9 ww hO2 hA2 bg fu pe p4 ni yo yq yu yv ry ik;go_loopw [9] (λi wr=>∃(k:Nat),k<=n/\i=.int .i64 k/\qH wr pb 1 (λ_ => .slice ba b.length bc)/\qH wr pa 1 (λ_ => .int .i64 (hposP P k:Nat))/\qH wr po 1 (λ_ => .bool true)/\qH wr lb (n*2) (flN zl P k)/\qH wr sb n (fsN zs P k)/\aB w wr) (λi _=>n-(intOf i).toNat)
 case atStart=>exact⟨0,Ao _,rfl,pz,by rw[HHZ.out];exact hA5,hO5,hL5.congr (λj _=>by unfold flN;rw[if_neg (by omega)]),hS5.congr (λj _=>by unfold fsN;rw[if_neg (by omega)]),HG5.out⟩
 case round =>
  clear pz hO5 hA5 hL5 hS5;obtain⟨k,hk,rfl,hB,hA,hO,hL,hS,hg⟩:=hrel;by_cases ae:k<n
  ·obtain⟨p,hp⟩:∃p,P[k]?=some p:=⟨_,Ac (by rw[<-HN.out];exact ae)⟩
   have ux:=Ad hp;have hz1:=HNM.out p ux;have f9:=HSZ.out p ux;have cy:(k:Int)<n:=by omega
   have cb:=hB.cell 0 (by decide);have ca:=hA.cell 0 (by decide);have co:=hO.cell 0 (by decide);have CT:=Aa (lI0 b (hposP P k) ba bc wr (HHL.out k) (by omega) im HNC.out (HAT.out.grows hg));rw[HNA.out k p hp]at CT;unfold pU0 at CT;obtain⟨K1,hK1⟩:=exq (hposP P k+(xE p.name).length);have HR:=Aa (HSI.out k p hp);have HSUC:=Aa (mU0 hp);simp only[<-hK1]at CT;rw[<-hK1]at HR HSUC;have agd:K1<=b.length:=by have:=HHL.out (k+1);have:=HSUC.out;omega
   obtain⟨kk,s8⟩:=exq (hposP P k);rw[<-s8]at CT ca;have HKK:=Aa s8;clear hK1 s8 ux;go_wp2_with fail
   refine CT.out.mono ?_;rintro e w6 ⟨rfl,dd⟩;have t7:=hB.grows dd;have hA6:=hA.grows dd;have hO6:=hO.grows dd;have uy:=hL.grows dd;have hS6:=hS.grows dd;have cl:=uy.cell (k*2) (by omega);have fl:=uy.froz (k*2);have hL7:=(uy.set (k:=k*2) (by omega) (.string p.name)).congr (g:=λj=>if j=k*2 then Value.string p.name else flN zl P k j) (λj _=>rfl)
   have uz:=hA6.other (b':=lb) (j':=k*2) (by omega) (.string p.name);have ca7:=uz.cell 0 (by decide);have fa7:=uz.froz 0;have up:=hL7.other (b':=pa) (j':=0) (by omega) (.int .i64 (K1:Nat));have hA8:=(uz.set (k:=0) (by decide) (.int .i64 (K1:Nat))).congr (g:=λ_ => .int .i64 (K1:Nat)) (λj hj=>by rw[if_pos (by omega)]);have hB8:=(t7.other (b':=lb) (j':=k*2) (by omega) (.string p.name)).other (b':=pa) (j':=0) (by omega) (.int .i64 (K1:Nat));have hO8:=(hO6.other (b':=lb) (j':=k*2) (by omega) (.string p.name)).other (b':=pa) (j':=0) (by omega) (.int .i64 (K1:Nat));have ti:=(hS6.other (b':=lb) (j':=k*2) (by omega) (.string p.name)).other (b':=pa) (j':=0) (by omega) (.int .i64 (K1:Nat));have u9:w.heap.size<=pa:=by have:=HPA.out;have:=HPB.out;omega
   have dy:aB w ((w6.setCell ⟨lb,k*2,none⟩ (.string p.name)).setCell ⟨pa,0,none⟩ (.int .i64 (K1:Nat))):=((aB.trans _ _ _ hg dd).set (by simp only;omega) _).set u9 _;obtain⟨W8,hW8⟩:=exq ((w6.setCell ⟨lb,k*2,none⟩ (.string p.name)).setCell ⟨pa,0,none⟩ (.int .i64 (K1:Nat)));rw[<-hW8]at up hA8 hB8 hO8 ti dy;clear hB hA hO hL hS hg cb ca co t7 hA6 hO6 uy hS6 hL7 uz dd;go_wp2_with fail
   rw[<-hW8];clear hW8 cl fl ca7 fa7;have cb8:=hB8.cell 0 (by decide);have ca8:=hA8.cell 0 (by decide);have co8:=hO8.cell 0 (by decide);obtain⟨SZ,y8⟩:=exq p.data.length;rw[<-y8]at HR HSUC f9;have HSZ2:=Aa y8;refine(jQ0 b ba bc K1 SZ (dJ SZ).length pb pa po 16777216 W8 agd (by omega) (HAT.out.grows dy) HR.out f9 (by decide) cb8 ca8 co8 (hA8.froz 0)).mono ?_;rintro e w10 ⟨rfl,w9,fy,rfl⟩;obtain⟨K2,l9⟩:=exq (K1+(dJ SZ).length);rw[<-l9]at HSUC ⊢;clear l9 y8 cb8 ca8 co8;have tf:=(hB8.grows fy).other (b':=pa) (j':=0) (by omega) (.int .i64 (K2:Nat));have hO9:=(hO8.grows fy).other (b':=pa) (j':=0) (by omega) (.int .i64 (K2:Nat));have hL9:=(up.grows fy).other (b':=pa) (j':=0) (by omega) (.int .i64 (K2:Nat));have xz:=(ti.grows fy).other (b':=pa) (j':=0) (by omega) (.int .i64 (K2:Nat));have hA9:=((hA8.grows fy).set (k:=0) (by decide) (.int .i64 (K2:Nat))).congr (g:=λ_ => .int .i64 (K2:Nat)) (λj hj=>by rw[if_pos (by omega)]);have gh:aB w (w9.setCell ⟨pa,0,none⟩ (.int .i64 (K2:Nat))):=(aB.trans _ _ _ dy fy).set u9 _;obtain⟨W10,ada⟩:=exq (w9.setCell ⟨pa,0,none⟩ (.int .i64 (K2:Nat)));rw[<-ada]at tf hO9 hL9 xz hA9 gh ⊢;have cs:=xz.cell k ae;have fs:=xz.froz k;have age:=(xz.set ae (.int .i64 (SZ:Nat))).congr (g:=fsN zs P (k+1)) (λj _=>by rw[HSZ2.out];exact xP0 hp j);have agf:=tf.other (b':=sb) (j':=k) (by omega) (.int .i64 (SZ:Nat));have agh:=hO9.other (b':=sb) (j':=k) (by omega) (.int .i64 (SZ:Nat));have agi:=hA9.other (b':=sb) (j':=k) (by omega) (.int .i64 (SZ:Nat));have agj:=(hL9.other (b':=sb) (j':=k) (by omega) (.int .i64 (SZ:Nat))).congr (g:=flN zl P (k+1)) (λj _=>vE0 hp j);have va:=gh.set (p:=⟨sb,k,none⟩) (by simp only;omega) (.int .i64 (SZ:Nat));clear hB8 hO8 up ti hA8 dy fy tf hO9 hL9 xz hA9 gh ada hp;go_wp2_with fail
   go_roundw
   case rel=>exact⟨k+1,ae,by go_num,agf,by rw[HSUC.out];exact agi,agh,agj,age,va⟩
   case measure=>simp[intOf];omega
  ·obtain rfl:n=k:=by omega
   have hL0:qH wr lb (n*2) (flD zl P []):=hL.congr (λj hj=>by
    have h:=bG1 zl P j (by rw[<-HN.out];exact hj);rw[<-HN.out]at h;exact h)
   rw[<-HDZ.out]at hA;have HGR:=Aa hg;clear hL;go_wp2_with fail
   go_loopw [53] (λi wx=>∃Q:List aR,i=.int .i64 (Q.length:Nat)/\qH wx pb 1 (λ_ => .slice ba b.length bc)/\qH wx pa 1 (λ_ => .int .i64 (pR P Q.length:Nat))/\qH wx po 1 (λ_ => .bool true)/\qH wx lb (n*2) (flD zl P Q)/\qH wx sb n (fsN zs P n)/\cD0 wx sb P Q/\aB w wx) (λi _=>n-(intOf i).toNat)
   case atStart=>exact⟨[],rfl,hB,hA,hO,hL0,hS,⟨Ao _,rfl,λq hq=>by (cases hq),λq hq=>by (cases hq),λq hq=>by (cases hq)⟩,hg⟩
   case round =>
    clear hB hA hO hL0 hS hg;obtain⟨Q,rfl,hB,hA,hO,hL,hS,hQ,hg⟩:=hrel;have hQn:Q.length<=n:=by rw[HN.out];exact hQ.len
    obtain⟨k,hk⟩:=exq Q.length;have HKQ:=Aa hk;by_cases ae:k<n
    ·obtain⟨p,hp⟩:∃p,P[k]?=some p:=⟨_,Ac (by rw[<-HN.out];exact ae)⟩
     have f9:=HSZ.out p (Ad hp);have cs:=hS.cell k ae;rw[cN1 hp ae]at cs;obtain⟨D,hD⟩:=exq (pR P k);have HD:=Aa hD;have HDS:=Aa (zY hp);have HDATA:=Aa (HDA.out k p hp);have hDb:D+p.data.length<=b.length:=by rw[hD,<-zY hp];exact HDL.out (k+1)
     rw[<-hk,<-hD]at hA;rw[<-hD]at HDS HDATA;obtain⟨SZ,y8⟩:=exq p.data.length;rw[<-y8]at cs f9 hDb HDS HDATA;have HSE:=Aa y8;have HP:=Aa hp;have cy:(k:Int)<n:=by omega
     have cb:=hB.cell 0 (by decide);have ca:=hA.cell 0 (by decide);have co:=hO.cell 0 (by decide);have acw:IntKind.i64.wrap ((b.length:Int)-(D:Int))=((b.length-D:Nat):Int):=by simp[Ak,Al,Ah];omega
     have pw:¬((b.length-D:Nat):Int)<SZ:=by omega
     have wa:IntKind.i64.wrap ((D:Int)+SZ)=((D+SZ:Nat):Int):=by simp[Ak,Al,Ah];omega
     have h01:(0:Int)<=(D:Int)+SZ:=by omega
     have h02:(D:Int)+SZ<=bc:=by omega
     have tn:((D:Int)+SZ).toNat=D+SZ:=by omega
     have tk:D<=D+SZ:=by omega
     have tm:D+SZ-D=SZ:=by omega
     obtain⟨a',gk,fm,ua⟩:=uS (c:=bc) (l:=D) (h:=D+SZ) (k:=1) (HAT.out.grows hg) HNC.out (by omega) (by omega) (by omega);rw[tm]at gk;rw[HDATA.out]at fm
     have afv:(if bc=D then ba else Option.map (λx=>x.add D) ba)=a':=by
      unfold sliced at gk;by_cases ou:bc=D
      ·rw[if_pos ou]at gk ⊢;exact(Value.slice.inj gk).1
      ·rw[if_neg ou]at gk ⊢
       have:=(Value.slice.inj gk).1
       rw[<-this];congr 1
       funext x
       rw[Az]
     have CC:=Aa (aB0 p.data a' (bc-D) wr (by omega) ua fm);rw[<-y8]at CC;rw[<-hk];clear hD y8 hp gk fm ua hk;go_wp2_with fail
     refine CC.out.mono ?_;rintro e w6 ⟨v6,rfl,hv6,dd⟩;obtain⟨qa,qc,rfl,j4,kr⟩:=dU hv6
     have adb:∀r:Addr,qa=some r->sb<r.block:=λr hr=>by
      have h1:=hS.lt;rcases hv6.2 with ⟨e,_⟩|⟨g,cap,bv,e,hb9,_⟩
      ·rw[hr]at e;cases (Value.slice.inj e).1
      ·have e1:=(Value.slice.inj e).1
       rw[hr]at e1;cases e1
       simp only;omega
     have t7:=hB.grows dd;have hA6:=hA.grows dd;have hO6:=hO.grows dd;have uy:=hL.grows dd;have hS6:=hS.grows dd;have hQ6:=hQ.grows dd;rw[<-HSE.out];have cl:=uy.cell (k*2+1) (by omega);have fl:=uy.froz (k*2+1);have ca6:=hA6.cell 0 (by decide);have uz:=hA6.other (b':=lb) (j':=k*2+1) (by omega) (.slice qa SZ qc);have ca7:=uz.cell 0 (by decide);have fa7:=uz.froz 0;have hL7:=uy.set (k:=k*2+1) (by omega) (.slice qa SZ qc);have u9:w.heap.size<=pa:=by have:=HPA.out;have:=HPB.out;omega
     have up:=(hL7.other (b':=pa) (j':=0) (by omega) (.int .i64 ((D:Int)+SZ))).congr (g:=flD zl P (Q++[⟨p.name,p.data,qa,qc⟩])) (λj _=>by
      rw[HKQ.out,HSE.out];exact vL0 ⟨p.name,p.data,qa,qc⟩ j)
     have hA8:=(uz.set (k:=0) (by decide) (.int .i64 ((D:Int)+SZ))).congr (g:=λ_ => .int .i64 ((D+SZ:Nat):Int)) (λj hj=>by rw[if_pos (by omega)];push_cast;rfl);have hB8:=(t7.other (b':=lb) (j':=k*2+1) (by omega) (.slice qa SZ qc)).other (b':=pa) (j':=0) (by omega) (.int .i64 ((D:Int)+SZ));have hO8:=(hO6.other (b':=lb) (j':=k*2+1) (by omega) (.slice qa SZ qc)).other (b':=pa) (j':=0) (by omega) (.int .i64 ((D:Int)+SZ));have ti:=(hS6.other (b':=lb) (j':=k*2+1) (by omega) (.slice qa SZ qc)).other (b':=pa) (j':=0) (by omega) (.int .i64 ((D:Int)+SZ))
     have hQ8:cD0 ((w6.setCell ⟨lb,k*2+1,none⟩ (.slice qa SZ qc)).setCell ⟨pa,0,none⟩ (.int .i64 ((D:Int)+SZ))) sb P (Q++[⟨p.name,p.data,qa,qc⟩]):=by
      have h1:cD0 w6 sb P (Q++[⟨p.name,p.data,qa,qc⟩]):=by
       refine⟨by rw[Ab,Am,<-HKQ.out,<-HN.out];omega,?_,λq hq=>?_,λq hq=>?_,λq hq=>?_⟩
       ·rw[Ab,Am,List.take_add_one,<-HKQ.out,HP.out,Bo,Bo]
        have:=hQ6.bare
        rw[<-HKQ.out]at this;rw[this];rfl
       ·rcases List.mem_append.1 hq with h|h
        ·exact hQ6.at_ q h
        ·rw[Ay]at h;subst h;exact j4
       ·rcases List.mem_append.1 hq with h|h
        ·exact hQ6.none_ q h
        ·rw[Ay]at h;subst h;exact kr
       ·rcases List.mem_append.1 hq with h|h
        ·exact hQ6.far q h
        ·rw[Ay]at h;subst h;exact adb
      exact(h1.set (by omega) _).set (by omega) _
     have dy:aB w ((w6.setCell ⟨lb,k*2+1,none⟩ (.slice qa SZ qc)).setCell ⟨pa,0,none⟩ (.int .i64 ((D:Int)+SZ))):=((aB.trans _ _ _ hg dd).set (by simp only;omega) _).set u9 _;have HLEN:Hid ((Q++[(⟨p.name,p.data,qa,qc⟩:aR)]).length=k+1):=by show _=_;rw[Ab,Am,<-HKQ.out]
     clear hB hA hO hL hS hQ hg cb ca co t7 hA6 hO6 uy hS6 hQ6 hL7 uz dd hv6 j4 kr adb CC;go_wp2_with fail
     go_roundw
     case rel=>exact⟨Q++[⟨p.name,p.data,qa,qc⟩],by rw[HLEN.out];go_num,hB8,by rw[HLEN.out,HDS.out];exact hA8,hO8,up,ti,hQ8,dy⟩
     case measure=>simp[intOf];omega
    ·have hkn:k=n:=by omega
     rw[<-hk,hkn,HDE.out]at hA;have tj:Q.length=P.length:=by rw[<-HN.out];omega
     have nz:Q.map bare=P.map bare:=by have:=hQ.bare;rw[tj,Ar]at this;exact this
     have ff:∀q∈Q,∃p∈P,q.name=p.name/\q.data=p.data:=λq hq=>by
      have h1:bare q∈P.map bare:=by rw[<-nz];exact List.mem_map.2 ⟨q,hq,rfl⟩
      obtain⟨p,hp,he⟩:=List.mem_map.1 h1;have h2:(bare p).name=(bare q).name:=by rw[he]
      have h3:(bare p).data=(bare q).data:=by rw[he]
      exact⟨p,hp,h2.symm,h3.symm⟩
     have HPOST:Hid (aF wr (some ⟨lb,0,none⟩) 2 (Q.map jZ)/\jE wr Q):=⟨aD1 (by rw[<-HN.out];exact hL) tj nz,hQ.at_,hQ.none_,λq hq=>by
      obtain⟨p,hp,h1,_⟩:=ff q hq;rw[h1];exact Bb (HNM.out p hp) (by decide),λq hq=>by
      obtain⟨p,hp,_,h2⟩:=ff q hq;rw[h2];exact Bb (HSZ.out p hp) (by decide)⟩
     have HBR:=Aa nz;have HQL:=Aa tj;have z0:∀x:Ext aB wr.drew,x.u.cell? ⟨pb,0,none⟩=some (.slice ba b.length bc):=aG ((aB.drew wr).cell (hB.cell 0 (by decide)));have z1:∀x:Ext aB wr.drew,x.u.cell? ⟨pa,0,none⟩=some (.int .i64 (b.length:Nat)):=aG ((aB.drew wr).cell (hA.cell 0 (by decide)));have z2:∀x:Ext aB wr.drew,x.u.cell? ⟨po,0,none⟩=some (.bool true):=aG ((aB.drew wr).cell (hO.cell 0 (by decide)));have cy:¬(k:Int)<n:=by omega
     have s8:((Q.length:Nat):Int)=k:=by rw[hk]
     clear hB hA hO hL hS hQ ff nz tj;rw[<-hk];clear hk s8;go_wp2_with fail
     refine bP (bB 10 []) (by kernel_rfl) (λd _ _ _ _ h=>by cases d<;>exact h) ?_
     iterate 10 (refine aO rfl (λK hK=>?_);go_simp;refine hK _ ?_;clear hK K)
     refine bU ?_;go_wp2_with fail
     go_ret2;refine⟨hg.dr,Q,some ⟨lb,0,none⟩,n,?_,HBR.out,HPOST.out.1.grows (aB.drew wr),HPOST.out.2.grows (aB.drew wr)⟩;rw[HQL.out,<-HN.out];rfl
def rX0 (P:List aR) (w:World) (e:Ending) (w':World):Prop :=
 aB w w'/\∃(Q:List aR) (a:Option Addr) (c:Nat),e=.returned (.tuple #[.slice a Q.length c,.int .i64 0])/\Q.map bare=P.map bare/\aF w' a 2 (Q.map jZ)/\jE w' Q
theorem iJ0 (P:List aR) (ba:Option Addr) (bc:Nat) (w:World) (he:Env w) (m5:eE P=0) (im:(gD P).length<=bc) (hbm:bc<=maxLen) (l6:ba=none->bc=0) (ac:aF w ba 1 ((gD P).map aV)) :
  Calls Tryz.prog 19 #[.slice ba (gD P).length bc] w (rX0 P w):=by
 have gb:=sV m5;obtain⟨b,hb⟩:=exq (gD P);obtain⟨bo,hbo⟩:=exq (cJ P);have mm:b=bo++leB 4 (crcSum bo):=by rw[hb,hbo];rfl
 have an:b.length=bo.length+4:=by rw[mm,Ab,dF]
 have h5:5<=bo.length:=by
  have:1<=(dJ P.length).length:=List.length_pos_iff.2 (qM0 P.length)
  rw[hbo];unfold cJ;simp only[Ab,Aq,Bn];omega
 have aa2:(b.take 4).drop 0=[72,78,75,49]:=by
  rw[mm,hbo];unfold cJ;simp
 have aa3:(b.take bo.length).drop 0=bo:=by rw[mm];simp
 have jz:(b.take b.length).drop bo.length=leB 4 (crcSum bo):=by rw[Ar,mm];simp
 rw[<-hb]at im ac ⊢;rw[<-hbo]at gb;have HAT:=Aa ac;have HNC:=Aa l6;have HE:=Aa he;have HB:=Aa hb;have HBO:=Aa hbo;have HCHK:=Aa m5;have HMAG:=Aa aa2;have HBOD:=Aa aa3;have HSUM:=Aa jz;have HLEN:=Aa an;obtain⟨m,hm⟩:=exq bo.length;rw[<-hm]at an h5 gb;have HM:=Aa hm;obtain⟨n,hn⟩:=exq b.length;rw[<-hn]at an im ⊢;have HN:=Aa hn;subst an
 have hcv:(convert 28 9 (.slice ba 4 bc)).run Tryz.prog w=.ok (.string ⟨#[72,78,75,49]⟩) w:=by
  have h:=tT (c:=bc) (pX0 ac 4);rw[show b.take 4=[72,78,75,49] by exact aa2]at h
  exact h
 have uk:aF w ba 1 (bo.map aV):=by
  have h:=pX0 ac m;rw[show b.take m=bo by rw[hm];exact aa3]at h
  exact h
 obtain⟨a1,jp,ha1,jm⟩:=qN0 (l:=m) (h:=m+4) ac l6 (by omega) (by rw[<-HN.out];exact Aj _) (by rw[<-HN.out];exact im);rw[show (b.take (m+4)).drop m=leB 4 (crcSum bo) by rw[HN.out,hm];exact jz]at ha1
 have HA1:=Aa ha1;have HATB:=Aa uk;have hn9:¬((m:Int)+4<9):=by omega
 have h4a:(4:Int)<=bc:=by omega
 have acw:IntKind.i64.wrap ((m:Int)+4-4)=(m:Int):=by simp[Ak,Al,Ah];omega
 have wm:IntKind.i64.wrap (m:Int)=(m:Int):=by simp[Ak,Al,Ah];omega
 have l8:(m:Int)<=bc:=by omega
 have nf:(m:Int)<=(m:Int)+4:=by omega
 have CS:=λ(W:World) (h:aB w W)=>Aa (sZ bo ba bc W (HE.out.grows h) (by rw[<-HM.out];omega) (HATB.out.grows h));have CP:=λ(W:World) (h:aB w W)=>Aa (nD0 P ba bc W HCHK.out (by rw[<-HBO.out,<-HM.out];omega) hbm HNC.out (by rw[<-HBO.out];exact HATB.out.grows h));rw[<-HBO.out]at CP;rw[<-HM.out]at CS CP;clear ac l6 he hb hbo m5 aa2 aa3 jz mm hm hn ha1 uk;go_enter Tryz.func19,Tryz.ntmps19
 have CE:∀(W:World) (s1:Option Addr) (d1:Nat),aB w W->aF W s1 1 ((leB 4 (crcSum bo)).map aV)->Hid (Calls Tryz.prog 76 #[.slice a1 4 (bc-m),.slice s1 4 d1] W λe w'=>e=.returned (.bool true)/\W=w'):=λW s1 d1 hW h1=>by
  have h:=sE (leB 4 (crcSum bo)) (leB 4 (crcSum bo)) a1 s1 (bc-m) d1 W (HA1.out.grows hW) h1;rw[dF]at h;simp only[decide_true]at h;exact h
 have CE2:∀(W:World) (s1:Option Addr) (d1:Nat),aB w W->aF W s1 1 (b.map aV)->Hid (Calls Tryz.prog 76 #[.slice s1 (m+4) d1,.slice ba (m+4) bc] W λe w'=>e=.returned (.bool true)/\W=w'):=λW s1 d1 hW h1=>by
  have h:=sE b b s1 ba d1 bc W h1 (HAT.out.grows hW);rw[<-HN.out]at h;simp only[decide_true]at h;exact h
 go_wp2_with fail
 refine bP (bB 9 [6,7]) (by kernel_rfl) (λd _ _ _ _ h=>by cases d<;>exact h) ?_
 iterate 6 (refine aO rfl (λK hK=>?_);go_simp;refine hK _ ?_;clear hK K)
 refine cH rfl rfl (λK hK=>?_);go_simp;refine((CS w.drew (aB.drew w)).out).mono ?_;rintro e w1 ⟨v1,rfl,adc,aj⟩;refine⟨aj,hK _ _ ?_⟩;clear hK K;have cd:=aB.trans _ _ _ (aB.drew w) aj;obtain⟨s1,d1,rfl,ed,_⟩:=dU adc;rw[dF];refine cH rfl rfl (λK hK=>?_);go_simp;refine((CE w1 s1 d1 cd ed).out).mono ?_;rintro e w2 ⟨rfl,rfl⟩;refine⟨aB.refl _,hK _ _ ?_⟩;clear hK K;iterate 1 (refine aO rfl (λK hK=>?_);go_simp;refine hK _ ?_;clear hK K)
 refine bU ?_;clear adc ed aj CS CE;go_wp2_with fail
 refine(CP w1 cd).out.mono ?_;rintro e w3 ⟨bg,Q,qa,qc,rfl,nz,j4,hqp⟩;have i9:=aB.trans _ _ _ cd bg;have hq0:eE Q=0:=by rw[<-nF,nz,nF];exact HCHK.out
 have hqf:gD Q=b:=by rw[<-lC,nz,lC,HB.out]
 have hql:=(oX hq0).1;have CJ:=Aa (jJ0 Q qa qc w3 (HE.out.grows i9) (by omega) j4 hqp);have HQ:=Aa (And.intro nz (And.intro j4 hqp));have HQ0:=Aa hq0;have HQF:=Aa hqf;clear bg nz j4 hqp hq0 hqf CP cd;go_wp2_with fail
 refine CJ.out.mono ?_;rintro e w4 ⟨lx,_,di⟩;obtain⟨v4,rfl,vc⟩:=lx HQ0.out;rw[HQF.out]at vc;obtain⟨s4,d4,rfl,hs4,_⟩:=dU vc;rw[<-HN.out];have gw:=aB.trans _ _ _ i9 di;have CE4:=CE2 w4 s4 d4 gw hs4;clear lx vc hs4 CJ CE2;go_wp2_with fail
 refine CE4.out.mono ?_;rintro e w5 ⟨rfl,rfl⟩;go_wp2
 go_ret2;exact⟨gw,Q,qa,qc,rfl,HQ.out.1,HQ.out.2.1.grows di,HQ.out.2.2.grows di⟩
theorem nB0 (Q:List aR) (k:Nat) (q:aR) (a:Option Addr) (c:Nat) (w:World) (hl:Q.length<=1000000) (ac:aF w a 2 (Q.map jZ)) (jy:jE w Q) (hq:Q[k]?=some q) (ai:∀j p,j<k->Q[j]?=some p->p.name≠q.name) :
  Calls Tryz.prog 79 #[.slice a Q.length c,.string q.name] w λe w'=>∃v,e=.returned (.tuple #[v,.bool true])/\aU w' w.heap.size 5 1 aV v q.data/\aB w w':=by
 have HAT:=Aa ac;have HPA:=Aa jy;have HNE:=Aa ai;have hkl:=(List.getElem?_eq_some_iff.1 hq).1;have HQ:=Aa hq;clear ac jy ai hq;go_enter Tryz.func79,Tryz.ntmps79
 go_wp2_with fail
 go_loopw [10] (λi wr=>∃(j:Nat),j<=k/\i=.int .i64 j/\aB w wr) (λi _=>Q.length-(intOf i).toNat)
 case atStart=>exact⟨0,Ao _,rfl,aB.refl _⟩
 case round =>
  obtain⟨j,hj,rfl,hg⟩:=hrel;obtain⟨⟨pn,pd,pa,pc⟩,hp⟩:∃p,Q[j]?=some p:=⟨_,Ac (by omega)⟩;have ae:j<Q.length:=by omega
  have ew:(j:Int)<Q.length:=by omega
  obtain⟨ba,oa,rfl,ci⟩:=(HAT.out.grows hg).get (aH ae);have c0:wr.cell? ⟨ba,oa+j*2,none⟩=some (.string pn):=ci j _ hp 0 _ rfl;have c1:wr.cell? ⟨ba,oa+j*2+1,none⟩=some (.slice pa pd.length pc):=ci j _ hp 1 _ rfl;obtain⟨W1,cq⟩:=exq (wr.alloc (.cells #[.string pn,.slice pa pd.length pc] 119));have aj:aB wr W1:=by rw[cq];exact aB.alloc _ _
  obtain⟨bc,_⟩:=cX (w:=wr) (cs:=#[.string pn,.slice pa pd.length pc]) (t:=119) (w':=W1) (by rw[cq];exact aB.refl _);have b0:=bc 0 _ rfl;have b1:=bc 1 _ rfl;rw[cq]at b0 b1;have cd:=aB.trans _ _ _ hg aj;have ux:=Ad hp;clear bc ci;by_cases he:pn=q.name
  ·have lw:j=k:=by
    rcases Bj j k with h|h
    ·exact absurd he (HNE.out j _ h hp)
    ·omega
   have hpq:q=⟨pn,pd,pa,pc⟩:=by
    rw[lw,HQ.out]at hp;exact Option.some.inj hp
   have s6:pd.length<=1099511627776:=HPA.out.data _ ux;have CC:=Aa (aB0 pd pa pc W1 s6 (HPA.out.none_ _ ux) ((HPA.out.at_ _ ux).grows cd));have heq:(pn.toList==q.name.toList)=true:=by rw[he];simp
   have HPQ:Hid (q.data=pd):=by show _=_;rw[hpq]
   clear he lw hpq hp ux;go_wp2_with fail
   rw[<-cq];clear b0 b1 cq;refine CC.out.mono ?_;rintro e w2 ⟨v,rfl,hv,af⟩;go_wp2
   go_ret2;exact⟨_,rfl,by rw[HPQ.out];exact hv.base cd.size,aB.trans _ _ _ cd af⟩
  ·have lw:j<k:=by
    rcases Bj j k with h|h
    ·exact h
    ·obtain rfl:j=k:=by omega
     rw[HQ.out]at hp;exact absurd (by rw[Option.some.inj hp]) he
   have heq:(pn.toList==q.name.toList)=false:=by simpa using λh=>he (kJ h)
   clear he hp ux;go_wp2_with fail
   go_roundw
   case rel=>exact⟨j+1,lw,by go_num,by rw[<-cq];exact cd⟩
   case measure=>simp[intOf];omega
end
section
open Go Go.RowKit
attribute [local go_sem] aK aP
theorem vZ0 (l:List Nat) (ba:Option Addr) (bc:Nat) (w:World) (hl:l.length<=1048576) (hn:∀n∈l,n<18446744073709551616) (im:(cG l).length<=bc) (l6:ba=none->bc=0) (ac:aF w ba 1 ((cG l).map aV)) :
  Calls Tryz.prog 150 #[.slice ba (cG l).length bc] w λe w'=>∃pb,e=.returned (.tuple #[.pointer (some ⟨pb,0,none⟩),.int .i64 0])/\gA0 w' pb l/\aB w w':=by
 have dz:nQ l<=64:=pA.2 hn;have an:=uY l;obtain⟨b0,b1,b2,b3,fe,h0,h1,h2,h3,mz⟩:=mI0 l;replace mz:=mz (by omega);obtain⟨W,hW⟩:=exq (nQ l);obtain⟨n,o8⟩:=exq l.length;obtain⟨b,hb⟩:=exq (cG l);rw[<-hb]at fe an im ac ⊢;rw[<-hW]at fe an dz;rw[<-o8]at an hl mz;obtain⟨M,hM⟩:=exq ((n*W+7)/8);rw[<-hM]at an;have HAT:=Aa ac;have HNC:=Aa l6;have HB:=Aa hb;have HN:=Aa hn;have HW:=Aa hW;have HNL:=Aa o8;have HHEAD:=Aa fe;have HM:=Aa hM;obtain⟨bb,bo,rfl,hc⟩:=at1 (f:=λx:UInt8=>Value.int .u8 x.toNat) ac (by rw[fe];simp);have tN:∀x:Nat,x<256->((Aw x).toNat:Int)=x:=λx hx=>by simp;omega
 have q0:w.cell? ⟨bb,bo,none⟩=some (.int .u8 b0):=by have:=hc 0 (Aw b0) (by rw[fe];rfl);rw[tN _ h0]at this;exact this
 have q1:w.cell? ⟨bb,bo+1,none⟩=some (.int .u8 b1):=by have:=hc 1 (Aw b1) (by rw[fe];rfl);rw[tN _ h1]at this;exact this
 have q2:w.cell? ⟨bb,bo+2,none⟩=some (.int .u8 b2):=by have:=hc 2 (Aw b2) (by rw[fe];rfl);rw[tN _ h2]at this;exact this
 have q3:w.cell? ⟨bb,bo+3,none⟩=some (.int .u8 b3):=by have:=hc 3 (Aw b3) (by rw[fe];rfl);rw[tN _ h3]at this;exact this
 have q4:w.cell? ⟨bb,bo+4,none⟩=some (.int .u8 W):=by have:=hc 4 (Aw W) (by rw[fe];rfl);rw[tN _ (by omega)]at this;exact this
 have z0:∀x:Ext aB w.drew,x.u.cell? ⟨bb,bo,none⟩=some (.int .u8 b0):=aG ((aB.drew w).cell q0);have z1:∀x:Ext aB w.drew,x.u.cell? ⟨bb,bo+1,none⟩=some (.int .u8 b1):=aG ((aB.drew w).cell q1);have z2:∀x:Ext aB w.drew,x.u.cell? ⟨bb,bo+2,none⟩=some (.int .u8 b2):=aG ((aB.drew w).cell q2);have z3:∀x:Ext aB w.drew,x.u.cell? ⟨bb,bo+3,none⟩=some (.int .u8 b3):=aG ((aB.drew w).cell q3);have z4:∀x:Ext aB w.drew,x.u.cell? ⟨bb,bo+4,none⟩=some (.int .u8 W):=aG ((aB.drew w).cell q4);obtain⟨N,hN⟩:=exq b.length;rw[<-hN]at an im ⊢;have HN2:=Aa hN;have HLEN:=Aa an;have hl5:¬(N:Int)<5:=by omega
 have i0:0<N:=by omega
 have i1:(1:Int)<N:=by omega
 have i2:(2:Int)<N:=by omega
 have i3:(3:Int)<N:=by omega
 have i4:(4:Int)<N:=by omega
 have wi:∀x:Nat,x<256->IntKind.i64.wrap (x:Int)=x:=λx hx=>by simp[Ak,Al,Ah];omega
 have w0:=wi b0 h0;have w1:=wi b1 h1;have w2:=wi b2 h2;have w3:=wi b3 h3;have wW:=wi W (by omega);obtain⟨c1,c2,c3,s1,s2,m1,m2,m3,o1,o2,o3⟩:=aM1 h0 h1 h2 h3 mz;clear wi mz hN an ac l6 hb hn hW o8 fe hM hc tN q0 q1 q2 q3 q4;go_enter Tryz.func150,Tryz.ntmps150
 go_wp2_with fail
 refine bP (bB 29 [27]) (by kernel_rfl) (λd _ _ _ _ h=>by cases d<;>exact h) ?_
 iterate 27 (refine aO rfl (λK hK=>?_);go_simp;refine hK _ ?_;clear hK K)
 refine cH rfl rfl (λK hK=>?_);go_simp;refine⟨aB.alloc _ _,hK _ _ ?_⟩;clear hK K z0 z1 z2 z3 z4;iterate 1 (refine aO rfl (λK hK=>?_);go_simp;refine hK _ ?_;clear hK K)
 refine bU ?_;obtain⟨pb,kc⟩:=exq w.heap.size;obtain⟨WB,nr⟩:=exq ((w.alloc (.cells #[.int .i64 n,.int .i64 W,.slice none 0 0] 279)).drew);have jv:aB w WB:=by rw[nr];exact(aB.alloc w _).dr
 obtain⟨bxc,bxf⟩:=cX (w:=w) (cs:=#[.int .i64 n,.int .i64 W,.slice none 0 0]) (t:=279) (w':=WB) (by rw[nr];exact aB.drew _);rw[<-kc]at bxc bxf;have g0:=bxc 0 _ rfl;have g1:=bxc 1 _ rfl;have g2:=bxc 2 _ rfl;have gf:=bxf 2;have cw:WB.heap.size=pb+1:=by rw[nr,kc];show (w.heap.push _).size=_;simp
 rw[<-nr];rw[<-kc];have HPB:=Aa kc;have HGB:=Aa jv;have HSZ:=Aa cw;clear bxc bxf nr w0 w1 w2 w3 wW o1 o2 o3 m1 m2 m3 h0 h1 h2 h3 hl5 i0 i1 i2 i3 i4 kc jv cw;have hLW:n*W<=1048576*64:=Nat.mul_le_mul hl dz;obtain⟨MM,um⟩:=exq (n*W);have HMM:=Aa um;have td:MM<=1048576*64:=by rw[um];exact hLW
 have wM:IntKind.i64.wrap ((n:Int)*W)=MM:=by
  have h1:(n:Int)*W=MM:=by rw[um];push_cast;rfl
  rw[h1];exact fH (by omega)
 have hM8:M=(MM+7)/8:=by rw[HM.out,um]
 have wM7:IntKind.i64.wrap ((MM:Int)+7)=(MM:Int)+7:=by have:=fH (x:=MM+7) (by omega);rw[Bd]at this;exact this
 have e7:((MM:Int)+7)/8=M:=by omega
 have e7t:((MM:Int)+7).tdiv 8=M:=by rw[Ap (by omega)];exact e7
 have wM8:IntKind.i64.wrap (M:Int)=M:=fH (by omega);have wM5:IntKind.i64.wrap (5+(M:Int))=5+(M:Int):=by have:=fH (x:=5+M) (by omega);rw[Bd]at this;exact this
 have hNe:((N:Int) != 5+(M:Int))=false:=by have:=HLEN.out;simp;omega
 have jm:¬(1048576:Int)<n:=by omega
 have hw1:¬(64:Int)<W:=by omega
 have z0:∀y:Ext aB WB.drew,y.u.cell? ⟨pb,0,none⟩=some (.int .i64 n):=aG ((aB.drew WB).cell g0);have z1:∀y:Ext aB WB.drew,y.u.cell? ⟨pb,1,none⟩=some (.int .i64 W):=aG ((aB.drew WB).cell g1);have HM8:=Aa hM8;clear um hLW hM8;go_wp2_with fail
 refine bP (bB 29 []) (by kernel_rfl) (λd _ _ _ _ h=>by cases d<;>exact h) ?_
 iterate 29 (refine aO rfl (λK hK=>?_);go_simp;refine hK _ ?_;clear hK K)
 refine bU ?_;clear z0 z1;go_wp2_with fail
 obtain⟨WC,hWC⟩:=exq WB.drew;have uv:aB WB WC:=by rw[hWC];exact aB.drew WB
 have aa4:WC.heap.size=pb+1:=by rw[hWC];exact HSZ.out
 have k0:=uv.cell g0;have k1:=uv.cell g1;have k2:=uv.cell g2;have kf:WC.frozen? ⟨pb,2,none⟩=false:=by rw[uv.froz (by show pb<WB.heap.size;rw[HSZ.out];omega)];exact gf
 have HGC:=Aa (aB.trans _ _ _ HGB.out uv);rw[<-hWC];clear hWC uv g0 g1 g2 gf wM7 e7 e7t wM8 wM5 hNe jm hw1;obtain⟨q,hq⟩:=exq ((MM+63)/64);have ue:q<=1048576:=by omega
 have xv:IntKind.i64.wrap ((MM:Int)+63)=(MM:Int)+63:=by have:=fH (x:=MM+63) (by omega);rw[Bd]at this;exact this
 have nt:((MM:Int)+63)/64=q:=by omega
 have te:((MM:Int)+63).tdiv 64=q:=by rw[Ap (by omega)];exact nt
 have z0:∀y:Ext aB WC.drew,y.u.cell? ⟨pb,0,none⟩=some (.int .i64 n):=aG ((aB.drew WC).cell k0);have z1:∀y:Ext aB WC.drew,y.u.cell? ⟨pb,1,none⟩=some (.int .i64 W):=aG ((aB.drew WC).cell k1);have wq:IntKind.i64.wrap (q:Int)=q:=fH (by omega);have ml:=λ(Y:World)=>bW1 q Y ue;have HQ:=Aa hq;clear hq;refine rP 13 (bB 13 [12]) (by kernel_rfl) (λd _ _ _ _ h=>by cases d<;>exact h) ?_
 iterate 12 (refine aO rfl (λK hK=>?_);go_simp;refine hK _ ?_;clear hK K)
 refine cH rfl rfl (λK hK=>?_);go_simp;refine⟨aB.alloc _ _,hK _ _ ?_⟩;clear hK K z0 z1 ml nt te xv wq;refine bU ?_;simp only[List.drop_succ_cons,List.drop_zero];have ax:=fM0 (w:=WC) ue;rw[Az,aa4]at ax;obtain⟨W3,jw⟩:=exq ((WC.alloc (.cells (madeCells #[.int .u64 0] q) 213)).drew);have bg:aB WC W3:=by rw[jw];exact(aB.alloc WC _).dr
 have lg:aU W3 (pb+1) 213 1 kH (.slice (some ⟨pb+1,0,none⟩) q q) (Be q 0):=by rw[jw];exact ax.grows (aB.drew _)
 rw[<-jw];try rw[aa4]
 have ik:pb+1<W3.heap.size:=by rw[jw];show pb+1<(WC.heap.push _).size;rw[Array.size_push,aa4];omega
 have b32:=bg.cell k2;have b3f:W3.frozen? ⟨pb,2,none⟩=false:=by rw[bg.froz (by show pb<WC.heap.size;omega)];exact kf
 have j0:=bg.cell k0;have j1:=bg.cell k1;have i9:=aB.trans _ _ _ HGC.out bg;clear ax jw k0 k1 k2 kf bg
 -- the bytes behind the head
 obtain⟨a5,hif,ha5⟩:∃a5,(if bc=5 then (some ⟨bb,bo,none⟩:Option Addr) else some ⟨bb,bo+5,none⟩)=a5/\aF w a5 1 ((xX l).map aV):=by
  obtain⟨a',hv',fm,_⟩:=qN0 (l:=5) (h:=N) HAT.out HNC.out (by have:=HLEN.out;omega) (by rw[HN2.out];exact Aj _) (by rw[<-HN2.out];exact im);refine⟨a',?_,?_⟩
  ·rw[<-hv',Bc,mX]
  ·have e:(b.take N).drop 5=xX l:=by rw[HN2.out,Ar,HHEAD.out];rfl
   rw[e]at fm;exact fm
 have hN5:5<=N:=by have:=HLEN.out;omega
 have hNM:N-5=M:=by have:=HLEN.out;omega
 have aia:5<=bc:=by omega
 have h5i:(5:Int)<=N:=by omega
 have h5n:(N:Int)<=bc:=by omega
 have f5:(5:Int)<=bc:=by omega
 have HA5:=Aa ha5;clear ha5;go_wp2_with fail
 have e0:(W3.setCell ⟨pb,2,none⟩ (.slice (some ⟨pb+1,0,none⟩) q q)).cell? ⟨pb,0,none⟩=some (.int .i64 n):=(Af _ _ _ _ (λh=>by cases h)).trans j0;have e1:(W3.setCell ⟨pb,2,none⟩ (.slice (some ⟨pb+1,0,none⟩) q q)).cell? ⟨pb,1,none⟩=some (.int .i64 W):=(Af _ _ _ _ (λh=>by cases h)).trans j1;have e2:(W3.setCell ⟨pb,2,none⟩ (.slice (some ⟨pb+1,0,none⟩) q q)).cell? ⟨pb,2,none⟩=some (.slice (some ⟨pb+1,0,none⟩) q q):=World.cell?_setCell_same _ _ _ b32;have gw:aB w (W3.setCell ⟨pb,2,none⟩ (.slice (some ⟨pb+1,0,none⟩) q q)):=i9.set (by rw[HPB.out];exact Aj _) _;have j5:=nI lg (p:=⟨pb,2,none⟩) (Nat.lt_succ_self _) (.slice (some ⟨pb+1,0,none⟩) q q);rw[<-iP0 l W q]at j5;have ade:pb+1<(W3.setCell ⟨pb,2,none⟩ (.slice (some ⟨pb+1,0,none⟩) q q)).heap.size:=by simp;exact ik
 obtain⟨W4,hW4⟩:=exq (W3.setCell ⟨pb,2,none⟩ (.slice (some ⟨pb+1,0,none⟩) q q));rw[<-hW4]at e0 e1 e2 gw j5 ade ⊢;clear hW4 lg i9 j0 j1 b32 b3f ik;go_loopw [89] (λi wr=>∃k:Nat,k<=M/\i=.int .i64 k/\aU wr (pb+1) 213 1 kH (.slice (some ⟨pb+1,0,none⟩) q q) (lX l W k q)/\wr.cell? ⟨pb,0,none⟩=some (.int .i64 n)/\wr.cell? ⟨pb,1,none⟩=some (.int .i64 W)/\wr.cell? ⟨pb,2,none⟩=some (.slice (some ⟨pb+1,0,none⟩) q q)/\aB w wr) (λi _=>M-(intOf i).toNat)
 case atStart=>exact⟨0,Ao _,rfl,j5,e0,e1,e2,gw⟩
 case round =>
  clear j5 e0 e1 e2 gw ade;obtain⟨k,hk,rfl,aa,e0,e1,e2,hg⟩:=hrel;by_cases ae:k<M
  ·have gb:(xX l).length=M:=by unfold xX;rw[Ag,An,HM.out,HNL.out,HW.out]
   obtain⟨x,hx⟩:∃x,(xX l)[k]?=some x:=⟨_,Ac (by rw[gb];exact ae)⟩;obtain⟨ab,ao,ha5,hc5⟩:=at1 (f:=λx:UInt8=>Value.int .u8 x.toNat) (HA5.out.grows hg) (aH (by rw[gb];exact ae));have cx:=hc5 k x hx;subst ha5
   have hxv:x.toNat=eC (bitAt l W) (8*k) 8:=by
    unfold xX at hx;rw[Ai,Ax (by rw[<-HW.out,<-HNL.out,<-HM.out];exact ae)]at hx;rw[<-Option.some.inj hx,HW.out]
    have:=gY (bitAt l (nQ l)) (8*k) 8
    simp;omega
   obtain⟨c,jl⟩:=exq x.toNat;rw[<-jl]at cx hxv;have xx:c<256:=by rw[hxv];exact gY _ _ 8
   have hk8:8*k+8<=MM+7:=by have:=HM8.out;omega
   obtain⟨Q8,hQ8⟩:=exq (k/8);obtain⟨R8,hR8⟩:=exq (k%8);obtain⟨S8,ti⟩:=exq (R8*8);have ri:Q8<q:=by have:=HQ.out;omega
   have hQi:(Q8:Int)<q:=by omega
   have mj:S8<64:=by omega
   have d1:=dN (f:=λn:Nat=>Value.int .u64 n) aa (nO (by rw[<-hQ8];exact ri):(lX l W k q)[k/8]?=_);have HST:=Aa (iM0 (l:=l) (W:=W) (k:=k) (q:=q) (by rw[<-hQ8];exact ri));rw[<-hQ8]at d1 HST;obtain⟨y,hy⟩:=exq (eC (λp=>decide (p<8*k)&&bitAt l W p) (64*Q8) 64);have ju:y<18446744073709551616:=by rw[hy];exact gY _ _ 64
   rw[<-hy,<-hxv,<-hR8,<-ti]at HST;rw[<-hy]at d1;have xu:=kW0 (x:=y) (v:=c) (S:=S8) ju;obtain⟨y1,lf⟩:=exq (y|||(c<<<S8)%18446744073709551616)
   rw[<-lf]at xu HST;obtain⟨fr,_,ag⟩:=eF (f:=λn:Nat=>Value.int .u64 n) aa (k:=Q8) (by rw[kF];exact ri) y1;have eq8:(k:Int)/8=Q8:=by omega
   have aib:(k:Int).tdiv 8=Q8:=by rw[Ap (by omega)];exact eq8
   have er8:(k:Int)%8=R8:=by omega
   have aic:(k:Int).tmod 8=R8:=by rw[Int.tmod_eq_emod_of_nonneg (by omega)];exact er8
   have wQ8:IntKind.i64.wrap (Q8:Int)=Q8:=fH (by omega);have wR8:IntKind.i64.wrap (R8:Int)=R8:=fH (by omega);have wS8:IntKind.i64.wrap ((R8:Int)*8)=S8:=by have:=fH (x:=R8*8) (by omega);rw[Bp,<-Bp,<-ti]at this;rw[<-this,ti];push_cast;rfl
   have uS8:IntKind.u64.wrap (S8:Int)=S8:=by simp[Ak,Al,Ah];omega
   have uc:IntKind.u64.wrap (c:Int)=c:=by simp[Ak,Al,Ah];omega
   have cy:(k:Int)<M:=by omega
   have f0:(wr.setCell ⟨pb+1,Q8,none⟩ (.int .u64 y1)).cell? ⟨pb,0,none⟩=some (.int .i64 n):=(Af _ _ _ _ (λh=>by have:=congrArg Ba h;simp at this)).trans e0;have f1:(wr.setCell ⟨pb+1,Q8,none⟩ (.int .u64 y1)).cell? ⟨pb,1,none⟩=some (.int .i64 W):=(Af _ _ _ _ (λh=>by have:=congrArg Ba h;simp at this)).trans e1;have f2:(wr.setCell ⟨pb+1,Q8,none⟩ (.int .u64 y1)).cell? ⟨pb,2,none⟩=some (.slice (some ⟨pb+1,0,none⟩) q q):=(Af _ _ _ _ (λh=>by have:=congrArg Ba h;simp at this)).trans e2;have HF:=Aa (And.intro f0 (And.intro f1 f2));have af:aB w (wr.setCell ⟨pb+1,Q8,none⟩ (.int .u64 y1)):=hg.set (by rw[HPB.out];simp) _;have HO:=Aa ag;clear hx hc5 hxv jl hQ8 hR8 ti hy lf ag aa f0 f1 f2 hif;go_wp2_with fail
   go_roundw
   case rel=>exact⟨k+1,ae,by go_num,by rw[HST.out];exact HO.out,HF.out.1,HF.out.2.1,HF.out.2.2,af⟩
   case measure=>simp[intOf];omega
  ·obtain rfl:M=k:=by omega
   rw[oE0 (by rw[HW.out];exact λx hx=>rB hx) (by rw[<-HNL.out,<-HMM.out];have:=HM8.out;omega)]at aa;have agk:=λ(Y:World)=>bW1 n Y hl;have ic:=fM0 (w:=wr) (n:=n) hl;rw[Az]at ic;obtain⟨W5,ni⟩:=exq (wr.alloc (.cells (madeCells #[.int .u64 0] n) 213));have bk:aB wr W5:=by rw[ni];exact aB.alloc _ _
   obtain⟨lb,pe⟩:=exq wr.heap.size;rw[<-ni,<-pe]at ic;have aid:pb+1<lb:=by rw[pe];exact lT aa _ rfl
   rw[show Be n 0=jT l 0 0 by rw[nM,HNL.out]]at ic
   have e05:=bk.cell e0;have e15:=bk.cell e1;have e25:=bk.cell e2;have ak:=aa.grows bk;have fu:=aB.trans _ _ _ hg bk;have agl:w.heap.size<=lb:=by have:=HPB.out;omega
   clear aa;go_wp2_with fail
   try rw[<-ni]
   try rw[<-pe]
   clear ni pe bk e0 e1 e2 hg hif agk;go_loopw [119] (λi wx=>∃k:Nat,k<=n/\i=.int .i64 k/\aU wx lb 213 1 kH (.slice (some ⟨lb,0,none⟩) n n) (jT l 0 k)/\wx.cell? ⟨pb,0,none⟩=some (.int .i64 n)/\wx.cell? ⟨pb,1,none⟩=some (.int .i64 W)/\wx.cell? ⟨pb,2,none⟩=some (.slice (some ⟨pb+1,0,none⟩) q q)/\aU wx (pb+1) 213 1 kH (.slice (some ⟨pb+1,0,none⟩) q q) (dI l W q)/\aB w wx) (λi _=>n-(intOf i).toNat)
   case atStart=>exact⟨0,Ao _,rfl,ic,e05,e15,e25,ak,fu⟩
   case round =>
    clear ic e05 e15 e25 ak fu;obtain⟨k,kq,rfl,de,e0,e1,e2,aa,hg⟩:=hrel;by_cases az:k<n
    ·obtain⟨x,hx⟩:∃x,l[k]?=some x:=⟨_,Ac (by rw[<-HNL.out];exact az)⟩
     have cy:(k:Int)<n:=by omega
     have CG:=Aa (jG0 pb (pb+1) q W k x (pb+1) l wr dz (by rw[<-HNL.out];exact hl) hx (by rw[HW.out];exact rB (Ad hx)) (by rw[<-HNL.out,<-HMM.out];have:=HQ.out;omega) e1 e2 aa);have HFS:=Aa (pM (z:=0) hx);clear hx;go_wp2_with fail
     refine CG.out.mono ?_;rintro e w6 ⟨rfl,dd⟩;have sd:=de.grows dd;obtain⟨u0,hu0⟩:∃u,(jT l 0 k)[k]?=some u:=⟨_,Ac (by rw[kM _ _ (by rw[<-HNL.out];omega),<-HNL.out];exact az)⟩;have cl:=dN (f:=λn:Nat=>Value.int .u64 n) sd hu0;obtain⟨fr,_,y9⟩:=eF (f:=λn:Nat=>Value.int .u64 n) sd (k:=k) (by rw[kM _ _ (by rw[<-HNL.out];omega),<-HNL.out];exact az) x;rw[HFS.out]at y9;have ai:∀j j',(⟨pb,j,none⟩:Addr)≠⟨lb,j',none⟩:=λj j' h=>by have:=congrArg Ba h;simp only at this;omega
     have f0:(w6.setCell ⟨lb,k,none⟩ (.int .u64 x)).cell? ⟨pb,0,none⟩=some (.int .i64 n):=(Af _ _ _ _ (λh=>ai _ _ (by first|exact h|exact h.symm))).trans (dd.cell e0)
     have f1:(w6.setCell ⟨lb,k,none⟩ (.int .u64 x)).cell? ⟨pb,1,none⟩=some (.int .i64 W):=(Af _ _ _ _ (λh=>ai _ _ (by first|exact h|exact h.symm))).trans (dd.cell e1)
     have f2:(w6.setCell ⟨lb,k,none⟩ (.int .u64 x)).cell? ⟨pb,2,none⟩=some (.slice (some ⟨pb+1,0,none⟩) q q):=(Af _ _ _ _ (λh=>ai _ _ (by first|exact h|exact h.symm))).trans (dd.cell e2)
     have dv:=vR (v:=.slice (some ⟨lb,0,none⟩) n n) (aa.grows dd) ((aB.refl w6).grownBy_set lb k (.int .u64 x)) (λr h1 h2=>by
      have a1:lb=r:=Option.some.inj h1;have a2:pb+1=r:=Option.some.inj h2;omega)
     have dx:aB w (w6.setCell ⟨lb,k,none⟩ (.int .u64 x)):=(aB.trans _ _ _ hg dd).set agl _;have HF:=Aa (And.intro f0 (And.intro f1 f2));clear de sd e0 e1 e2 aa hg dd hu0 f0 f1 f2 CG;go_wp2_with fail
     go_roundw
     case rel=>exact⟨k+1,az,by go_num,y9,HF.out.1,HF.out.2.1,HF.out.2.2,dv,dx⟩
     case measure=>simp[intOf];omega
    ·obtain rfl:n=k:=by omega
     have hrw:jT l 0 n=l:=by rw[HNL.out];exact pG l 0
     rw[hrw]at de;obtain⟨ra,rc,hre,_,_,aa5⟩:=de.at_ (k:=1) (λx=>(rfl:(kH x).length=1));have e1':=(Value.slice.inj hre).1;rw[<-e1']at aa5;have CNW:=Aa (cM0 l (some ⟨lb,0,none⟩) n wr (by rw[<-HNL.out];exact hl) HN.out aa5);rw[<-HNL.out]at CNW;clear de hre e1' aa5 hrw e0 e1 e2 aa;go_wp2_with fail
     refine CNW.out.mono ?_;rintro e w7 ⟨rfl,pf,dx⟩;obtain⟨nb,nl⟩:=exq wr.heap.size;rw[<-nl]at pf ⊢;clear nl;go_wp2_with fail
     refine(cG0 l nb w7 (by rw[<-HNL.out];exact hl) HN.out pf).mono ?_;rintro e w8 ⟨v8,rfl,hv8,dy⟩;rw[<-HB.out]at hv8;obtain⟨a8,c8,rfl,m0,_⟩:=dU hv8;rw[<-HN2.out];have adf:=aB.trans _ _ _ hg (aB.trans _ _ _ dx dy);have CE:=Aa (sE b b a8 (some ⟨bb,bo,none⟩) c8 bc w8 m0 (HAT.out.grows adf));rw[<-HN2.out]at CE;simp only[decide_true]at CE;clear hv8 m0;go_wp2_with fail
     refine CE.out.mono ?_;rintro e w9 ⟨rfl,rfl⟩;go_wp2
     go_ret2;exact⟨nb,rfl,pf.grows dy,adf⟩
end
section
open Go Go.RowKit Go.Shelf
attribute [local go_sem] aK aP
theorem dL1 {x:Nat} (h:x<9223372036854775808):IntKind.i64.wrap (x:Int)=x:=by simp[Ak,Al,Ah]; omega
theorem eK0 (Q:List aR) (k:Nat) (q:aR) (l:List Nat) (a:Option Addr) (c:Nat) (w:World) (tj:Q.length<=1000000) (ac:aF w a 2 (Q.map jZ)) (jy:jE w Q) (hq:Q[k]?=some q) (ai:∀j p,j<k->Q[j]?=some p->p.name≠q.name)
  (hd:q.data=cG l) (hl:l.length<=100000) (hn:∀n∈l,n<9223372036854775808) :
  Calls Tryz.prog 82 #[.slice a Q.length c,.string q.name] w λe w'=>∃v,e=.returned v/\aU w' w.heap.size 3 1 gU v l/\aB w w':=by
 have CF:=Aa (nB0 Q k q a c w tj ac jy hq ai);rw[hd]at CF;have HN:=Aa hn;have ie:∀n∈l,n<18446744073709551616:=λn h=>by have:=hn n h;omega
 have HN2:=Aa ie;have ik:=uY l;obtain⟨QL,hQL⟩:=exq Q.length;rw[<-hQL]at CF ⊢;clear ac jy hq ai hd hn ie hQL;go_enter Tryz.func82,Tryz.ntmps82
 go_wp2_with fail
 refine CF.out.mono ?_;rintro e w1 ⟨v1,rfl,jp,aj⟩;obtain⟨a1,c1,rfl,h1c,_,dp⟩:=jp.at_ bF.len;have jm:=bJ jp;have CD:=Aa (vZ0 l a1 c1 w1 (by omega) HN2.out h1c jm dp);obtain⟨PL,hPL⟩:=exq ((cG l).length);rw[<-hPL]at CD ⊢;clear jp dp jm CF ik h1c hPL;go_wp2_with fail
 refine CD.out.mono ?_;rintro e w2 ⟨pb,rfl,pf,af⟩;have dh:=aB.trans _ _ _ aj af;clear CD aj af;have hll:¬(100000:Int)<l.length:=by omega
 go_wp2_with fail
 refine(uF l pb w2 pf).mono ?_;rintro e w3 ⟨rfl,rfl⟩;go_wp2_with fail
 go_loopw [9,10] (λv i wr=>∃j:Nat,j<=l.length/\i=.int .i64 j/\aU wr w2.heap.size 3 1 gU v (l.take j)/\gA0 wr pb l/\aB w2 wr) (λ_ i _=>l.length-(intOf i).toNat)
 case atStart=>exact⟨0,Ao _,rfl,aU.nil _ _ _ _ _,pf,aB.refl _⟩
 case round =>
  have HPK:=Aa pf;clear pf;obtain⟨j,hj,rfl,aa,pf,hg⟩:=hrel;go_wp2_with fail
  refine(uF l pb wr pf).mono ?_;rintro e w4 ⟨rfl,rfl⟩;by_cases ae:j<l.length
  ·obtain⟨x,hx⟩:∃x,l[j]?=some x:=⟨_,Ac ae⟩
   have acp:=HN.out x (Ad hx);have HT:=Aa (bT hx);have CG:=Aa (tN0 l pb j x wr pf (by omega) HN2.out hx);have qi:(l.take j).length=j:=by rw[List.length_take];omega
   have wx:=dL1 acp;have ew:(j:Int)<l.length:=by omega
   clear hx;go_wp2_with fail
   refine CG.out.mono ?_;rintro e w5 ⟨rfl,bk⟩;have aie:=pf.grows bk;have ak:=aa.grows bk;have fu:=aB.trans _ _ _ hg bk;generalize l.take j=acc at ak HT qi;clear CG pf bk aa hg;go_wp2_with (at_builtin;refine eZ jK0 rfl _ _ rfl w2.heap.size _ acc x rfl ak (aB.refl _) _ 1 rfl #[.int .i64 x] rfl rfl (by omega) fu.size ?_;intro v6 w6 ji hk6 _ agm)
   have dd:=agm w2 fu (Aj _);have agn:gA0 w6 pb l:=HPK.out.grows dd;rw[<-HT.out]at ji;go_wp2_with fail
   go_roundw
   case rel=>exact⟨j+1,ae,by go_num,ji,agn,dd⟩
   case measure=>simp[intOf];omega
  ·obtain rfl:j=l.length:=by omega
   rw[Ar]at aa;go_wp2_with fail
   go_ret;exact⟨_,rfl,aa.base dh.size,aB.trans _ _ _ dh hg⟩
theorem vY (l:List Nat) (a b:Option Addr) (c d:Nat) (w:World) (hl:l.length<=1048576) (h1:aF w a 1 (l.map gU)) (h2:aF w b 1 (l.map gU)) :
  Calls Tryz.prog 81 #[.slice a l.length c,.slice b l.length d] w λe w'=>e=.returned (.bool true)/\aB w w':=by
 have H1:=Aa h1;have H2:=Aa h2;clear h1 h2;go_enter Tryz.func81,Tryz.ntmps81
 go_wp2_with fail
 go_loopw [5] (λi wr=>∃j:Nat,j<=l.length/\i=.int .i64 j/\aB w wr) (λi _=>l.length-(intOf i).toNat)
 case atStart=>exact⟨0,Ao _,rfl,aB.refl _⟩
 case round =>
  obtain⟨j,hj,rfl,hg⟩:=hrel;by_cases ae:j<l.length
  ·obtain⟨x,hx⟩:∃x,l[j]?=some x:=⟨_,Ac ae⟩
   obtain⟨b1,o1,rfl,ix⟩:=at1 (f:=λn:Nat=>Value.int .i64 n) (H1.out.grows hg) (aH ae);obtain⟨b2,o2,rfl,hc2⟩:=at1 (f:=λn:Nat=>Value.int .i64 n) (H2.out.grows hg) (aH ae);have z1:∀x':Ext aB wr.drew,x'.u.cell? ⟨b1,o1+j,none⟩=some (.int .i64 x):=aG ((aB.drew wr).cell (ix j x hx));have z2:∀x':Ext aB wr.drew,x'.u.cell? ⟨b2,o2+j,none⟩=some (.int .i64 x):=aG ((aB.drew wr).cell (hc2 j x hx));have ew:(j:Int)<l.length:=by omega
   clear ix hc2 hx;go_wp2_with fail
   refine bP (bB 9 []) (by kernel_rfl) (λd _ _ _ _ h=>by cases d<;>exact h) ?_
   iterate 9 (refine aO rfl (λK hK=>?_);go_simp;refine hK _ ?_;clear hK K)
   refine bU ?_;clear z1 z2;go_wp2_with fail
   go_roundw
   case rel=>exact⟨j+1,ae,by go_num,hg.dr⟩
   case measure=>simp[intOf];omega
  ·obtain rfl:j=l.length:=by omega
   go_wp2_with fail
   go_ret;exact⟨rfl,hg⟩
end
end Go.Proofs.YthgklnohcmaopaaGreatDoor
