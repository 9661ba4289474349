/- The texts Bimg R18b Bsz R18P R18c Bjn Bord R18d, one behind the other. -/
import Derived.Test.YtiopheoljccmpaaGreatDoorCq29
import Derived.Test.YtiopheoljccmpaaGreatDoorCq32
import Derived.Test.YtiopheoljccmpaaGreatDoorCq14
import Derived.Test.YtiopheoljccmpaaGreatDoorCq2
import Derived.Test.YtiopheoljccmpaaGreatDoorCq35
import Derived.Test.YtiopheoljccmpaaGreatDoorCq6
import Derived.Test.YtiopheoljccmpaaGreatDoorCq23
import Derived.Test.YtiopheoljccmpaaGreatDoorCq25
import Derived.Test.YtiopheoljccmpaaGreatDoorCq36
import Derived.Test.YtiopheoljccmpaaGreatDoorCq22
import Derived.Test.YtiopheoljccmpaaGreatDoorCq8
import Derived.Test.YtiopheoljccmpaaGreatDoorCq12
import Derived.Test.YtiopheoljccmpaaGreatDoorCq21
import Derived.Test.YtiopheoljccmpaaGreatDoorCq24
import Derived.Test.YtiopheoljccmpaaGreatDoorCq20
import Derived.Test.YtiopheoljccmpaaGreatDoorCq3
import Derived.Shelf.GgSortFunc.Compose
import Derived.Test.YtiopheoljccmpaaGreatDoorCq28
import Derived.Test.YtiopheoljccmpaaGreatDoorCq26
open Go.Lib renaming hid → Aa
open List renaming length_map → Ab,getElem?_eq_getElem → Ac,mem_of_getElem? → Ae,getD_eq_getElem?_getD → Af,length_append → Ag,length_range → Ah,length_take → Ai,range → Ak,getElem?_set_self → Al,map_append → Am,getElem?_set_ne → An,eq_of_mem_replicate → Ao,findIdx_lt_length_of_exists → Ap,take_length → Aq,getElem?_map → Ar,map_cons → As,length_filter_le → At,findIdx_getElem → Au,getElem?_range → Av,filter_append → Aw,map_map → Ax,length_cons → Ba,length_set → Bb,range_succ → Bc,mem_range → Bd,replicate → Be,sum_cons → Bg
open Nat renaming le_refl → Ad,zero_le → Aj,lt_or_ge → Ay,le_trans → Az,zero_add → Bh
open Go.IntKind renaming signed → Bf,wrap → Bi,bits → Bj
set_option maxHeartbeats 16000000
namespace Go.Proofs.YtiopheoljccmpaaGreatDoor
set_option maxRecDepth 100000
section
open Go Go.RowKit
def fX (es:List En):List ByteArray:=kT (es.map (·.r))
def cT (es:List En):List ByteArray:=kT (es.map (·.s))
theorem nX0 {ks:List ByteArray} {s:ByteArray} (h:s∈ks):s∈kT ks:=by
 unfold kT;refine List.mem_map.2 ⟨bl s,(xW _ _).2 (by grind [bls]),wG s⟩
theorem rG {ks:List ByteArray} {s:ByteArray} (h:s∈kT ks):s∈ks:=by
 unfold kT at h;obtain⟨x,hx,rfl⟩:=List.mem_map.1 h;obtain⟨t,ht,rfl⟩:=List.mem_map.1 ((xW _ _).1 hx);grind [wG,bl]
theorem mC (ks:List ByteArray):(kT ks).Nodup:=by
 unfold kT;have h:=eD0 (bls ks);refine List.Pairwise.map mkB (λa b (qd:fK0 a b) e=>?_) h;grind [gW1,gB0]
theorem dQ1 {ks:List ByteArray} {i:Nat} (h:i<(kT ks).length):(kT ks)[i]?=some (mkB (nth (bls (kT ks)) i)):=by
 rw[yA];grind [kT,nth]
theorem lH (ks:List ByteArray):(kT ks).length<=ks.length:=dI (mC ks) λ_ h=>rG h
def sidE (S:List ByteArray) (x:En):Nat:=S.findIdx λs=>decide (s=x.s)
theorem nN {S:List ByteArray} {x:En} (h:x.s∈S):S[sidE S x]?=some x.s:=by
 have h1:sidE S x<S.length:=Ap ⟨x.s,h,by simp⟩;rw[Ac h1];have h2:=Au (w:=h1);exact congrArg some (of_decide_eq_true h2)
theorem qV {S:List ByteArray} {x:En} (h:x.s∈S):sidE S x<S.length:=by grind [sidE]
def keySE (S:List ByteArray) (es:List En) (i:Nat):Nat:=sidE S (es.getD i enZero)
def nA0 (es:List En):List Nat:=grpsL (keySE (cT es) es) es.length (cT es).length
def iF (es:List En):List En:=(nA0 es).map λi=>es.getD i enZero
def newR (x y:En):Bool := !decide (x.r=y.r)
def iB0 (x y:En):Bool := !decide (x.s=y.s)
def tD (name:Array UInt8) (data:List UInt8):bD:=⟨⟨name⟩,data,none,0⟩
def imgP (p:List bT) (m:Mx) (es:List En):List bD :=
 [tD #[112,111,115] (zK0 p),tD #[109,97,116,114,105,120] m.enc,tD #[114,101,97,100,105,110,103,115] (pA (bls (fX es))),tD #[102,105,114,115,116] (cG (idxL newR es es.length)),
  tD #[115,117,114,102,97,99,101,115] (pA (bls (cT es))),tD #[115,117,114,102,97,99,101] (cG (es.map (sidE (cT es)))),tD #[108,101,102,116] (cG (es.map λx=>x.l.toNat)),tD #[114,105,103,104,116] (cG (es.map λx=>x.t.toNat)),
  tD #[99,111,115,116] (cG (es.map λx=>x.c.toNat)),tD #[111,114,100,101,114] (cG (nA0 es)),tD #[97,116] (cG (idxL iB0 (iF es) es.length))]
theorem oR {nw:En->En->Bool} {l:List En} {k i:Nat} (h:i∈idxL nw l k):i<k:=List.mem_range.1 (List.mem_filter.1 h).1
theorem aX0 {n:Int}:∀ {l:List En},fR n l=0->∀x∈l,pJ x n=0
 | [],_,x,hx=>by cases hx
 | y::l,h,x,hx=>by
  unfold fR at h;by_cases hy:pJ y n=0
  ·rw[if_pos hy]at h
   rcases List.mem_cons.1 hx with rfl|hx
   ·exact hy
   ·exact aX0 h x hx
  omega
theorem kJ {x:En} {n:Int} (h:pJ x n=0):0<=x.l/\x.l<n/\0<=x.t/\x.t<n/\0<=x.c/\x.c<=30000:=by
 unfold pJ checkS at h;omega
theorem jH {p:List bT} {m:Mx} {l:List En} (h:nU p (some m) l=0):(m.n:Int)=p.length/\l.length<=20000/\bP p=true/\∀x∈l,pJ x p.length=0:=by
 unfold nU at h;split at h
 ·cases h
 ·rename_i hv
  simp only at h;split at h
  ·rename_i h1
   split at h
   ·cases h
   ·rename_i h2
    exact⟨h1,by omega,by simpa using hv,aX0 h⟩
  ·cases h
def jS (p:List bT) (m:Option Mx) (l:List En):Int×List UInt8 :=
 if nU p m l=0 then match m with
  | none=>(0,[])
  | some m=>if cH (bls (fX (sortS l)))=0/\cH (bls (cT (sortS l)))=0 then (if cZ (imgP p m (sortS l))=0 then (0,file14 (imgP p m (sortS l))) else (cZ (imgP p m (sortS l)),[])) else (2,[])
 else (nU p m l,[])
end
section
open Go Go.RowKit Go.Shelf
attribute [local go_sem] aM aP
theorem gB1 {A B:List ByteArray} (h:bls A=bls B):A=B:=by
 have h1:=congrArg (List.map mkB) h;unfold bls at h1;rw[Ax,Ax]at h1;have e:∀l:List ByteArray,l.map (mkB ∘ bl)=l:=λl=>(List.map_congr_left λx _=>wG x).trans (List.map_id _);rwa [e,e]at h1
theorem vQ0 (ks:List ByteArray) (s:ByteArray):aI1 (bls (kT ks)) (bl s)=bls (kT (ks++[s])):=by
 rw[yA,yA,kB];unfold sU0;rw[List.foldl_append];rfl
theorem aZ0 {ks out:List ByteArray} {s:ByteArray} (h:bls out=aI1 (bls (kT ks)) (bl s)):out=kT (ks++[s]):=gB1 (h.trans (vQ0 ks s))
theorem qU0 (B:List ByteArray) (s:ByteArray) (a:Option Addr) (c:Nat) (w:World) (hl:B.length<=1048576) (hs:s∈B) (ah:aF w a 1 (B.map stC)) :
  Calls Tryz.prog 119 #[.slice a B.length c,.string s] w λe w'=>e=.returned (.int .i64 ((B.findIdx λt=>decide (t=s):Nat):Int))/\aB w w':=by
 have HAT:=Aa ah;obtain⟨N,hN⟩:=exq (B.findIdx λt=>decide (t=s));have ait:N<B.length:=by rw[hN];exact Ap ⟨s,hs,by simp⟩
 have HHIT:Hid (∀k x,B[k]?=some x->k<=N->x=s->k=N):=λk x hx hk he=>by
  rcases Ay k N with h|h
  ·obtain⟨j7,ik⟩:=List.getElem?_eq_some_iff.1 hx
   rw[hN]at h
   have:=List.not_of_lt_findIdx h
   rw[ik]at this;simp[he]at this
  ·omega
 have HMISS:Hid (∀k x,B[k]?=some x->k<=N->x≠s->k+1<=N):=λk x hx hk he=>by
  rcases Ay k N with h|h
  ·omega
  ·obtain rfl:k=N:=by omega
   obtain⟨j7,ik⟩:=List.getElem?_eq_some_iff.1 hx;have h3:B.findIdx (λt=>decide (t=s))<B.length:=by rw[<-hN];exact ait
   have h4:=Au (w:=h3);have h5:=of_decide_eq_true h4;rw[<-ik]at he;subst hN;exact absurd h5 he
 rw[<-hN];clear ah hN hs;go_enter Tryz.func119,Tryz.ntmps119
 go_wp2_with fail
 go_loopw [5] (λi wr=>∃(k:Nat),k<=N/\i=.int .i64 k/\aB w wr) (λi _=>B.length-(intOf i).toNat)
 case atStart=>exact⟨0,Aj _,rfl,aB.refl _⟩
 case round =>
  obtain⟨k,hk,rfl,hg⟩:=hrel;have af:k<B.length:=by omega
  obtain⟨x,hx⟩:∃x,B[k]?=some x:=⟨_,Ac af⟩;obtain⟨b,o,rfl,hc⟩:=at1 (f:=Value.string) (HAT.out.grows hg) (aH af);have jy:=hc k x hx;have di:(k:Int)<B.length:=by omega
  by_cases he:x=s
  ·have hkN:=HHIT.out k x hx hk he
   subst he;subst hkN;have mj:(x.toList==x.toList)=true:=by simp
   clear hc hx;go_wp2_with fail
   go_ret;exact⟨rfl,hg⟩
  ·have hkN:=HMISS.out k x hx hk he
   have mj:(x.toList==s.toList)=false:=by simpa using λh=>he (dR h)
   clear hc hx;go_wp2_with fail
   go_roundw
   case rel=>exact⟨k+1,hkN,by go_num,hg⟩
   case measure=>simp[intOf];omega
theorem sA (es:List En) (a:Option Addr) (c:Nat) (pv mv:Value) (w:World) (hl:es.length<=1048576) (ah:aF w a 5 (es.map bE)) :
  Calls Tryz.prog 117 #[.agg #[pv,mv,.slice a es.length c]] w λe w'=>aB w w'/\∃v,e=.returned v/\aO w' w.heap.size 9 1 stC v (fX es):=by
 obtain⟨W0,gv⟩:=exq (w.alloc (.cells #[pv,mv,.slice a es.length c] 128));have ij:aB w W0:=by rw[gv];exact aB.alloc _ _
 have q2:=aX w #[pv,mv,.slice a es.length c] 128 (0,0) 2 _ rfl;rw[<-gv]at q2;have HQ:=Aa q2;have HAT:=Aa (ah.grows ij);have HG0:=Aa ij;clear ah ij;go_enter Tryz.func117,Tryz.ntmps117
 go_wp2_with fail
 rw[<-gv];clear gv;go_loopw [3,4] (λv i wr=>∃(k:Nat),k<=es.length/\i=.int .i64 k/\aO wr w.heap.size 9 1 stC v (kT ((es.take k).map (·.r)))/\aB W0 wr) (λ_ i _=>es.length-(intOf i).toNat)
 case atStart=>exact⟨0,Aj _,rfl,aO.nil _ _ _ _ _,aB.refl _⟩
 case round =>
  obtain⟨k,hk,rfl,ae,hg⟩:=hrel;clear q2;have q2:=hg.cell HQ.out;by_cases af:k<es.length
  ·obtain⟨⟨xr,xs,xl,xt,xc⟩,hx⟩:∃x,es[k]?=some x:=⟨_,Ac af⟩
   obtain⟨ba,oa,rfl,cn⟩:=(HAT.out.grows hg).get (aH af);have c0:wr.cell? ⟨ba,oa+k*5,none⟩=some (.string xr):=cn k _ hx 0 _ rfl;have di:(k:Int)<es.length:=by omega
   have HT:Hid (kT ((es.take k).map (·.r)++[xr])=kT ((es.take (k+1)).map (·.r))):=by
    show _=_
    rw[aY hx,Am];rfl
   have hkl:(kT ((es.take k).map (·.r))).length<=k:=Az (lH _) (by rw[Ab,Ai];omega);obtain⟨B,hB⟩:=exq (kT ((es.take k).map (·.r)));have HB:=Aa hB;rw[<-hB]at ae hkl;clear cn hx hB;obtain⟨va,vc,rfl,_,_,ru⟩:=ae.at_ (k:=1) (λx=>(rfl:(stC x).length=1));go_wp2_with fail
   refine(oM0 B xr va vc wr (by omega) ru).mono ?_;rintro e w2 ⟨an,v2,out,ho,rfl,aj⟩;rw[HB.out]at ho;obtain rfl:=aZ0 ho;rw[HT.out]at aj;have ej:=aB.trans _ _ _ hg an;have bd:=aj.base (aB.trans _ _ _ HG0.out hg).size;clear ae aj ru ho an;go_wp2_with fail
   go_roundw
   case rel=>exact⟨k+1,af,by go_num,bd,ej⟩
   case measure=>simp[intOf];omega
  ·obtain rfl:k=es.length:=by omega
   rw[Aq]at ae;go_wp2_with fail
   go_ret;exact⟨aB.trans _ _ _ HG0.out hg,_,rfl,ae⟩
theorem tP (es:List En) (a:Option Addr) (c:Nat) (pv mv:Value) (w:World) (hl:es.length<=1048576) (ah:aF w a 5 (es.map bE)) :
  Calls Tryz.prog 118 #[.agg #[pv,mv,.slice a es.length c]] w λe w'=>aB w w'/\∃v,e=.returned v/\aO w' w.heap.size 9 1 stC v (cT es):=by
 obtain⟨W0,gv⟩:=exq (w.alloc (.cells #[pv,mv,.slice a es.length c] 128));have ij:aB w W0:=by rw[gv];exact aB.alloc _ _
 have q2:=aX w #[pv,mv,.slice a es.length c] 128 (0,0) 2 _ rfl;rw[<-gv]at q2;have HQ:=Aa q2;have HAT:=Aa (ah.grows ij);have HG0:=Aa ij;clear ah ij;go_enter Tryz.func118,Tryz.ntmps118
 go_wp2_with fail
 rw[<-gv];clear gv;go_loopw [3,4] (λv i wr=>∃(k:Nat),k<=es.length/\i=.int .i64 k/\aO wr w.heap.size 9 1 stC v (kT ((es.take k).map (·.s)))/\aB W0 wr) (λ_ i _=>es.length-(intOf i).toNat)
 case atStart=>exact⟨0,Aj _,rfl,aO.nil _ _ _ _ _,aB.refl _⟩
 case round =>
  obtain⟨k,hk,rfl,ae,hg⟩:=hrel;clear q2;have q2:=hg.cell HQ.out;by_cases af:k<es.length
  ·obtain⟨⟨xr,xs,xl,xt,xc⟩,hx⟩:∃x,es[k]?=some x:=⟨_,Ac af⟩
   obtain⟨ba,oa,rfl,cn⟩:=(HAT.out.grows hg).get (aH af);have c0:wr.cell? ⟨ba,oa+k*5+1,none⟩=some (.string xs):=cn k _ hx 1 _ rfl;have di:(k:Int)<es.length:=by omega
   have HT:Hid (kT ((es.take k).map (·.s)++[xs])=kT ((es.take (k+1)).map (·.s))):=by
    show _=_
    rw[aY hx,Am];rfl
   have hkl:(kT ((es.take k).map (·.s))).length<=k:=Az (lH _) (by rw[Ab,Ai];omega);obtain⟨B,hB⟩:=exq (kT ((es.take k).map (·.s)));have HB:=Aa hB;rw[<-hB]at ae hkl;clear cn hx hB;obtain⟨va,vc,rfl,_,_,ru⟩:=ae.at_ (k:=1) (λx=>(rfl:(stC x).length=1));go_wp2_with fail
   refine(oM0 B xs va vc wr (by omega) ru).mono ?_;rintro e w2 ⟨an,v2,out,ho,rfl,aj⟩;rw[HB.out]at ho;obtain rfl:=aZ0 ho;rw[HT.out]at aj;have ej:=aB.trans _ _ _ hg an;have bd:=aj.base (aB.trans _ _ _ HG0.out hg).size;clear ae aj ru ho an;go_wp2_with fail
   go_roundw
   case rel=>exact⟨k+1,af,by go_num,bd,ej⟩
   case measure=>simp[intOf];omega
  ·obtain rfl:k=es.length:=by omega
   rw[Aq]at ae;go_wp2_with fail
   go_ret;exact⟨aB.trans _ _ _ HG0.out hg,_,rfl,ae⟩
end
section
open Go Go.RowKit
theorem iO0 (m:Mx):∀(l:List Nat) (last:Int),(jN m last l).length<=l.length*20
 | [],_=>by simp[jN]
 | i::r,last=>by
  have h1:=iO0 m r i;have h2:=bK ((i:Int)-last).toNat;have h3:=bK (m.cs.getD i 0).toNat;rw[jN,Ag,Ag,Ba];omega
theorem vX0 {m:Mx} (h:m.OK):m.enc.length<=82000:=by
 have h1:=Mx.idx_len h;have h2:=iO0 m m.idx (-1);have h3:=bK m.n;have h4:=bK m.d.toNat;have h5:=bK m.idx.length;unfold Mx.enc;rw[Ag,Ag,Ag];omega
theorem pC0 {p:List bT} (h:bP p=true):(zK0 p).length<=2600:=by
 obtain⟨h1,h2⟩:=fK h;have h3:=rI (l:=p) (λx hx=>(h2 x hx).1);have h4:=bK p.length;unfold zK0;rw[Ag];omega
theorem eC {l:List Nat} (h:∀n∈l,n<18446744073709551616):(cG l).length<=5+l.length*64:=by
 have hw:gU l<=64:=lP.2 h;have h1:l.length*gU l<=l.length*64:=Nat.mul_le_mul_left _ hw;unfold cG xP;rw[Ag,Ag,cE,Ab,Ah];simp only[List.length_singleton];omega
theorem eX0 (k:Nat):∀l:List Nat,((l.map (leB k)).flatten).length=l.length*k
 | []=>by simp
 | x::l=>by
  rw[As,List.flatten_cons,Ag,cE,eX0 k l,Ba,Nat.succ_mul];omega
theorem fJ0 (l:List Bool):(fE0 l).length<=20+l.length:=by
 unfold fE0 xR uH;rw[Ag,Ag,cE,eX0,eX0,Ab,Ab,Ah,Ah];omega
theorem gU0 {L:List (List UInt8)} (be:OkL L) (hl:L.length<=20000) (hc:dF L<=524287):(pA L).length<=40000000:=by
 obtain⟨z1,z2,z3,z4,z5⟩:=be.sizes hl hc;have h1:=fJ0 (shapeL L (nodesA L));have h2:=fJ0 (isL L (nodesA L));have h3:=eC (l:=idsL L (nodesA L)) (λn hn=>by have:=z5 n hn;omega);unfold pA dM;simp only[Ag,cE];omega
theorem jO0 (k:Nat->Nat) (n S:Nat):(grpsL k n S).Nodup:=(lI k n S).imp λ{a b} h e=>by rw[e]at h; exact cM0 h
theorem zG0 {k:Nat->Nat} {n S:Nat} (h:∀i,i<n->k i<S):(grpsL k n S).length=n:=by
 have h1:=dI (jO0 k n S) (l':=Ak n) λx hx=>List.mem_range.2 (kP.1 hx).1;have h2:=dI (List.nodup_range (n:=n)) (l':=grpsL k n S) λx hx=>kP.2 ⟨List.mem_range.1 hx,h x (List.mem_range.1 hx)⟩;rw[Ah]at h1 h2;omega
theorem xZ0 {es:List En} {i:Nat} (h:i<es.length):es[i]?=some (es.getD i enZero):=by rw[Af,Ac h]; rfl
theorem uC {es:List En} {x:En} (h:x∈es):x.s∈cT es:=nX0 (List.mem_map.2 ⟨x,h,rfl⟩)
theorem aY1 {es:List En} {i:Nat} (h:i<es.length):keySE (cT es) es i<(cT es).length:=qV (uC (Ae (xZ0 h)))
theorem qD (es:List En):(nA0 es).length=es.length:=zG0 λ_ hi=>aY1 hi
theorem mB0 {es:List En} {i:Nat} (h:i∈nA0 es):i<es.length:=(kP.1 h).1
theorem aF1 {S:List ByteArray} {x y:En} (hx:x.s∈S) (hy:y.s∈S):sidE S x=sidE S y↔x.s=y.s:=by
 constructor
 ·intro h
  have a:=nN hx;rw[h,nN hy]at a;exact(Option.some.inj a).symm
 ·intro h
  unfold sidE;rw[h]
theorem fZ0 {l:List ByteArray} (hn:l.Nodup) {i j:Nat} {s:ByteArray} (hi:l[i]?=some s) (hj:l[j]?=some s):i=j:=by
 obtain⟨h1,e1⟩:=List.getElem?_eq_some_iff.1 hi;obtain⟨h2,e2⟩:=List.getElem?_eq_some_iff.1 hj;rcases Nat.lt_trichotomy i j with h|h|h
 ·exact absurd (e1.trans e2.symm) (List.pairwise_iff_getElem.1 hn i j h1 h2 h)
 ·exact h
 ·exact absurd (e2.trans e1.symm) (List.pairwise_iff_getElem.1 hn j i h2 h1 h)
theorem yG0 (es:List En):∀s,s<(cT es).length->∃i,i<es.length/\keySE (cT es) es i=s:=by
 intro s hs;have h1:(cT es)[s]?=some (cT es)[s]:=Ac hs;have h2:(cT es)[s]∈es.map (·.s):=rG (List.getElem_mem hs);obtain⟨x,hx,hxs⟩:=List.mem_map.1 h2;obtain⟨i,hi,he⟩:=List.mem_iff_getElem.1 hx;refine⟨i,hi,?_⟩;have h3:es.getD i enZero=x:=by rw[Af,Ac hi];exact he
 unfold keySE;rw[h3];exact fZ0 (mC _) (nN (uC hx)) (by rw[hxs];exact h1)
theorem jI1 (es:List En):idxL iB0 (iF es) es.length=atsL (keySE (cT es) es) es.length (cT es).length:=by
 rw[<-aH0 _ _ _ (yG0 es)];have hl:(grpsL (keySE (cT es) es) es.length (cT es).length).length=es.length:=qD es;unfold idxL iK0;rw[hl];apply List.filter_congr
 intro i hi;rw[Bd]at hi
 have hg:∀j,j<es.length->∃m,m<es.length/\(grpsL (keySE (cT es) es) es.length (cT es).length).getD j 0=m/\(iF es).getD j enZero=es.getD m enZero:=by
  intro j hj;have h1:(nA0 es)[j]?=some ((nA0 es).getD j 0):=by rw[Af,Ac (by rw[qD];exact hj)];rfl
  refine⟨(nA0 es).getD j 0,mB0 (Ae h1),rfl,?_⟩;unfold iF;rw[Af,Ar,h1];rfl
 obtain⟨a,ha,ea,ka⟩:=hg i hi;obtain⟨b,hb,eb,kb⟩:=hg (i-1) (by omega);unfold gE0 bL0;rw[ka,kb,ea,eb];congr 1
 unfold iB0;have h:=aF1 (uC (Ae (xZ0 ha))) (uC (Ae (xZ0 hb)));show _=(keySE (cT es) es a != keySE (cT es) es b)
 unfold keySE;generalize es.getD a enZero=x at h ⊢;generalize es.getD b enZero=y at h ⊢;by_cases he:x.s=y.s
 ·rw[h.2 he];simp[he]
 ·have:sidE (cT es) x≠sidE (cT es) y:=λe=>he (h.1 e)
  simp[he,this]
theorem yG (l:List En):(sortS l).length<=l.length :=
 dI ((fZ l).1.imp λ{a b} qd e=>by rw[e,eO]at qd;cases qd) λy hy=>(((fZ l).2 y).1 hy).1
theorem sH {l:List En} {x:En} (h:x∈sortS l):x∈l:=(((fZ l).2 x).1 h).1
theorem cB0 {L:List (List UInt8)} {B:Nat} (h:∀s∈L,s.length<=B):∀m,m<=L.length->iG L m<=1+m*B
 | 0,_=>by rw[Nat.zero_mul];exact Ad _
 | m+1,hm=>by
  rw[Nat.add_mul,Nat.one_mul];have h1:=cB0 h m (by omega);have h2:=h _ (Ae (jV (L:=L) (j:=m) (by omega)));unfold iG sA0;omega
theorem zT {L:List (List UInt8)} (be:OkL L) (hl:L.length<=20000) (hc:dF L<=76801):(pA L).length<=69*dF L+100:=by
 have hN:=iP be.asc be.len;obtain⟨z1,z2,z3,z4,z5⟩:=be.sizes (by omega) (by omega:dF L<=524287);have h0:=fW L (nodesA L).length (Ad _);rw[Aq,be.off_all]at h0;have h1:=fJ0 (shapeL L (nodesA L));have h2:=fJ0 (isL L (nodesA L));have h3:=eC (l:=idsL L (nodesA L)) (λn hn=>by have:=z5 n hn;omega);have h4:(isL L (nodesA L)).length=(nodesA L).length:=by unfold isL;rw[Ab]
 have h5:(labelsL L (nodesA L)).length<=(nodesA L).length:=by rw[be.labels,Ab,List.length_drop];omega
 have h6:(idsL L (nodesA L)).length<=(nodesA L).length:=by
  unfold idsL;rw[Ab];exact At (lQ L) (nodesA L)
 unfold pA dM;simp only[Ag,cE];omega
theorem wO0 (p:List bT) (m:Mx) (es:List En):(imgP p m es).any (λq => !azS q.name)=false/\kT0 (imgP p m es)=false:=by
 constructor
 ·simp only[imgP,List.any_cons,List.any_nil,tD]
  decide +kernel
 ·simp only[imgP,kT0,pN,tD]
  decide +kernel
theorem iY0 {p:List bT} {m:Mx} {es:List En} (hm:m.OK) (hp:bP p=true) (hl:es.length<=20000) (hr:cH (bls (fX es))=0) (hs:cH (bls (cT es))=0) (hcr:dF (bls (fX es))<=76801) (dz:dF (bls (cT es))<=76801) (dm:69*dF (bls (fX es))+69*dF (bls (cT es))+448*es.length<=16500000)
  (hn:∀x∈es,0<=x.l/\x.l<18446744073709551616/\0<=x.t/\x.t<18446744073709551616/\0<=x.c/\x.c<18446744073709551616):cZ (imgP p m es)=0:=by
 have hR:(bls (fX es)).length<=20000:=by
  have:=lH (es.map (·.r));unfold bls fX;rw[Ab];rw[Ab]at this;omega
 have hS:(bls (cT es)).length<=20000:=by
  have:=lH (es.map (·.s));unfold bls cT;rw[Ab];rw[Ab]at this;omega
 have hS2:(cT es).length<=20000:=by unfold bls at hS;rw[Ab]at hS;exact hS
 have a1:=pC0 hp;have a2:=vX0 hm;have a3:=zT (nP hr).1 hR hcr;have a4:=zT (nP hs).1 hS dz;have b1:=eC (l:=idxL newR es es.length) (λn hn=>by have:=oR hn;omega)
 have b2:=eC (l:=es.map (sidE (cT es))) (λn hn=>by
  obtain⟨x,hx,rfl⟩:=List.mem_map.1 hn
  have:=qV (uC hx);omega)
 have b3:=eC (l:=es.map λx=>x.l.toNat) (λn h=>by
  obtain⟨x,hx,rfl⟩:=List.mem_map.1 h
  have:=hn x hx;omega)
 have b4:=eC (l:=es.map λx=>x.t.toNat) (λn h=>by
  obtain⟨x,hx,rfl⟩:=List.mem_map.1 h
  have:=hn x hx;omega)
 have b5:=eC (l:=es.map λx=>x.c.toNat) (λn h=>by
  obtain⟨x,hx,rfl⟩:=List.mem_map.1 h
  have:=hn x hx;omega)
 have b6:=eC (l:=nA0 es) (λn hn=>by have:=mB0 hn;omega);have b7:=eC (l:=idxL iB0 (iF es) es.length) (λn hn=>by have:=oR hn;omega);have c1:=oM newR es es.length;have c2:=oM iB0 (iF es) es.length;have c3:=qD es;rw[Ab]at b2 b3 b4 b5
 have na:gT (imgP p m es)<=16777216:=by
  simp only[gT,imgP,tD,As,List.map_nil,Bg,List.sum_nil];omega
 have ay:(imgP p m es).length=11:=rfl;obtain⟨n1,n2⟩:=wO0 p m es;unfold cZ;rw[if_neg (by omega),if_neg (by rw[n1];decide),if_neg (by rw[n2];decide)]
theorem uG0 {p:List bT} {m:Mx} {es:List En} (hm:m.OK) (hp:bP p=true) (hl:es.length<=1000) (hr:cH (bls (fX es))=0) (hs:cH (bls (cT es))=0) (hcr:dF (bls (fX es))<=76801) (dz:dF (bls (cT es))<=76801)
  (hn:∀x∈es,0<=x.l/\x.l<18446744073709551616/\0<=x.t/\x.t<18446744073709551616/\0<=x.c/\x.c<18446744073709551616):cZ (imgP p m es)=0 :=
 iY0 hm hp (by omega) hr hs hcr dz (by omega) hn
end
section
open Go Go.RowKit Go.Shelf
attribute [local go_sem] aM aP
def fB1:Value := .agg #[.slice none 0 0,.pointer none,.slice none 0 0]
theorem jH1 {p:List bT} {m:Option Mx} {l:List En} (h:bP p=false):nU p m l=5:=by unfold nU; rw[if_pos h]
theorem jX1 {p:List bT} {l:List En} (h:bP p=true):nU p none l=9:=by unfold nU; rw[if_neg (by rw[h]; decide)]
theorem jB1 {p:List bT} {m:Mx} {l:List En} (h:bP p=true):nU p (some m) l=if (m.n:Int)=p.length then (if 20000<l.length then 2 else fR p.length l) else 5:=by unfold nU; rw[if_neg (by rw[h]; decide)]
def lE (p:List bT) (m:Option Mx) (l:List En):Int :=
 if nU p m l=0 then (if cH (bls (fX (sortS l)))=0/\cH (bls (cT (sortS l)))=0 then 0 else 2) else nU p m l
def dC (p:List bT) (mv:Value) (m:Option Mx) (l:List En) (pa:Option Addr) (pc:Nat) (w:World) (e:Ending) (w':World):Prop :=
 aB w w'/\(lE p m l=0->∃a c,e=.returned (.tuple #[.agg #[.slice pa p.length pc,mv,.slice a (sortS l).length c],.int .i64 0])/\aF w' a 5 ((sortS l).map bE))/\(lE p m l≠0->e=.returned (.tuple #[fB1,.int .i64 (lE p m l)]))
theorem dC.bad {p:List bT} {mv:Value} {m:Option Mx} {l:List En} {pa:Option Addr} {pc:Nat} {w w':World} {f:Int} (h:nU p m l≠0) (hf:f=nU p m l) (hg:aB w w') :
  dC p mv m l pa pc w (.returned (.tuple #[.agg #[.slice none 0 0,.pointer none,.slice none 0 0],.int .i64 f])) w':=by
 have e:lE p m l=f:=by unfold lE;rw[if_neg h,hf]
 refine⟨hg,λh0=>?_,λ_=>?_⟩
 ·rw[e,hf]at h0;exact absurd h0 h
 ·rw[e];rfl
theorem dC.long {p:List bT} {mv:Value} {m:Option Mx} {l:List En} {pa:Option Addr} {pc:Nat} {w w':World} (h:nU p m l=0) (h2:¬(cH (bls (fX (sortS l)))=0/\cH (bls (cT (sortS l)))=0)) (hg:aB w w') :
  dC p mv m l pa pc w (.returned (.tuple #[.agg #[.slice none 0 0,.pointer none,.slice none 0 0],.int .i64 2])) w':=by
 have e:lE p m l=2:=by unfold lE;rw[if_pos h,if_neg h2]
 refine⟨hg,λh0=>?_,λ_=>?_⟩
 ·rw[e]at h0;cases h0
 ·rw[e];rfl
theorem dC.good {p:List bT} {mv:Value} {m:Option Mx} {l:List En} {pa:Option Addr} {pc:Nat} {w w':World} {a:Option Addr} {c:Nat} (h:nU p m l=0) (h2:cH (bls (fX (sortS l)))=0/\cH (bls (cT (sortS l)))=0) (hg:aB w w') (ah:aF w' a 5 ((sortS l).map bE)) :
  dC p mv m l pa pc w (.returned (.tuple #[.agg #[.slice pa p.length pc,mv,.slice a (sortS l).length c],.int .i64 0])) w':=by
 have e:lE p m l=0:=by unfold lE;rw[if_pos h,if_pos h2]
 exact⟨hg,λ_=>⟨a,c,rfl,ah⟩,λh0=>absurd e h0⟩
theorem dC.good2 {p:List bT} {mv:Value} {m:Option Mx} {l es:List En} {pa:Option Addr} {pc:Nat} {w w':World} {a:Option Addr} {c:Nat} (he:es=sortS l) (h:nU p m l=0) (h2:cH (bls (fX (sortS l)))=0/\cH (bls (cT (sortS l)))=0) (hg:aB w w') (ah:aF w' a 5 (es.map bE)) :
  dC p mv m l pa pc w (.returned (.tuple #[.agg #[.slice pa p.length pc,mv,.slice a es.length c],.int .i64 0])) w':=by
 subst he;exact dC.good h h2 hg ah
theorem xO0 (p:List bT) (mv:Value) (m:Option Mx) (l:List En) (pa a:Option Addr) (pc c:Nat) (w:World) (hp:p.length<=4611686018427387904) (ga:∀x∈p,x.name.size<=9223372036854775807) (hl:l.length<=140737488355328) (hs:∀x∈l,x.r.size<=1099511627776/\x.s.size<=1099511627776)
  (jz:aF w pa 2 (p.map bI)) (hm:iS1 w mv m) (ah:aF w a 5 (l.map bE)) (hc:nU p m l≠0) :
  Calls Tryz.prog 64 #[.slice pa p.length pc,mv,.slice a l.length c] w (dC p mv m l pa pc w):=by
 obtain⟨W1,dv⟩:=exq (w.alloc (.cells #[.slice none 0 0,.pointer none,.slice none 0 0] 128));have ep:aB w W1:=by rw[dv];exact aB.alloc _ _
 have HBL:Hid (w.heap.size<W1.heap.size):=by rw[dv];show _<_;simp
 have HBX:Hid (∀w',aB W1 w'->(∀j v,(#[.slice none 0 0,.pointer none,.slice none 0 0]:Array Value)[j]?=some v->w'.cell? ⟨w.heap.size,j,none⟩=some v)/\(∀j,w'.frozen? ⟨w.heap.size,j,none⟩=false)):=λw' h=>cO (by rw[<-dv];exact h);have HGA:=Aa ep;have HAT:=Aa (ah.grows ep);have HS:=Aa hs;have HM:=Aa (hm.grows ep);have HC:=Aa hc;have CP:=Aa (pW p pa pc W1 (jz.grows ep) hp ga);clear ah hs hm jz hc ep
 cases hv:bP p with
 | false =>
  rw[hv]at CP;have HF:=Aa (jH1 (m:=m) (l:=l) hv);clear hv;go_enter Tryz.func64,Tryz.ntmps64
  go_wp2_with fail
  rw[<-dv];clear dv;refine CP.out.mono ?_;rintro e w1 ⟨rfl,aq⟩;obtain⟨bc,bf⟩:=HBX.out _ aq;have b0:=bc 0 _ rfl;have b1:=bc 1 _ rfl;have b2:=bc 2 _ rfl;have f0:=bf 0;have f1:=bf 1;have f2:=bf 2;clear bc bf;go_wp2
  refine bodyPost_ret (v:=.tuple #[.agg #[.slice none 0 0,.pointer none,.slice none 0 0],.int .i64 _]) (by simp[results,Tryz.results64,go_sem,b0,b1,b2];rfl) rfl ?_
  exact dC.bad HC.out HF.out.symm ((((aB.trans _ _ _ HGA.out aq).set (Ad _) _).set (Ad _) _).set (Ad _) _)
 | true =>
  rw[hv]at CP
  cases m with
  | none =>
   obtain rfl:mv=.pointer none:=HM.out;have HF:=Aa (jX1 (l:=l) hv);clear hv;go_enter Tryz.func64,Tryz.ntmps64
   go_wp2_with fail
   rw[<-dv];clear dv;refine CP.out.mono ?_;rintro e w1 ⟨rfl,aq⟩;obtain⟨bc,bf⟩:=HBX.out _ aq;have b0:=bc 0 _ rfl;have b1:=bc 1 _ rfl;have b2:=bc 2 _ rfl;have f0:=bf 0;have f1:=bf 1;have f2:=bf 2;clear bc bf;go_wp2
   refine bodyPost_ret (v:=.tuple #[.agg #[.slice none 0 0,.pointer none,.slice none 0 0],.int .i64 _]) (by simp[results,Tryz.results64,go_sem,b0,b1,b2];rfl) rfl ?_
   exact dC.bad HC.out HF.out.symm ((((aB.trans _ _ _ HGA.out aq).set (Ad _) _).set (Ad _) _).set (Ad _) _)
  | some m =>
   obtain⟨rb,rfl,hra⟩:=HM.out;have hrc:=hra.c0;have HF:=Aa (jB1 (m:=m) (l:=l) hv);clear HM hra hv;by_cases h1:(m.n:Int)=p.length
   ·have HF1:Hid (nU p (some m) l=if 20000<l.length then 2 else fR p.length l):=by show _=_;rw[HF.out];simp[h1]
    clear HF;by_cases h2:20000<l.length
    ·have h2i:(20000:Int)<l.length:=by omega
     have HF2:Hid (nU p (some m) l=2):=by show _=_;rw[HF1.out,if_pos h2]
     go_enter Tryz.func64,Tryz.ntmps64
     go_wp2_with fail
     rw[<-dv];clear dv;refine CP.out.mono ?_;rintro e w1 ⟨rfl,aq⟩;have aa9:=aq.cell hrc;obtain⟨bc,bf⟩:=HBX.out _ aq;have b0:=bc 0 _ rfl;have b1:=bc 1 _ rfl;have b2:=bc 2 _ rfl;have f0:=bf 0;have f1:=bf 1;have f2:=bf 2;clear bc bf;go_wp2
     refine bodyPost_ret (v:=.tuple #[.agg #[.slice none 0 0,.pointer none,.slice none 0 0],.int .i64 _]) (by simp[results,Tryz.results64,go_sem,b0,b1,b2];rfl) rfl ?_
     exact dC.bad HC.out HF2.out.symm ((((aB.trans _ _ _ HGA.out aq).set (Ad _) _).set (Ad _) _).set (Ad _) _)
    ·have h2i:¬(20000:Int)<l.length:=by omega
     have HF2:Hid (nU p (some m) l=fR p.length l):=by show _=_;rw[HF1.out,if_neg h2]
     clear HF1;go_enter Tryz.func64,Tryz.ntmps64
     go_wp2_with fail
     rw[<-dv];clear dv;refine CP.out.mono ?_;rintro e w1 ⟨rfl,aq⟩;have aa9:=aq.cell hrc;clear h2;go_wp2_with fail
     clear h1 aa9 hrc;go_loopw [8] (λi wr=>∃(k:Nat),k<=l.length/\i=.int .i64 k/\Hid (fR p.length (l.drop k)=fR p.length l)/\aB W1 wr) (λi _=>l.length-(intOf i).toNat)
     case atStart=>exact⟨0,Aj _,rfl,rfl,aq⟩
     case round =>
      obtain⟨k,hk,rfl,hF,hg⟩:=hrel;by_cases af:k<l.length
      ·obtain⟨⟨xr,xs,xl,xt,xc⟩,hx⟩:∃x,l[k]?=some x:=⟨_,Ac af⟩
       obtain⟨ba,oa,rfl,cn⟩:=(HAT.out.grows hg).get (aH af);have c0:wr.cell? ⟨ba,oa+k*5,none⟩=some (.string xr):=cn k _ hx 0 _ rfl;have c1:wr.cell? ⟨ba,oa+k*5+1,none⟩=some (.string xs):=cn k _ hx 1 _ rfl;have c2:wr.cell? ⟨ba,oa+k*5+2,none⟩=some (.int .i64 xl):=cn k _ hx 2 _ rfl;have c3:wr.cell? ⟨ba,oa+k*5+3,none⟩=some (.int .i64 xt):=cn k _ hx 3 _ rfl;have c4:wr.cell? ⟨ba,oa+k*5+4,none⟩=some (.int .i64 xc):=cn k _ hx 4 _ rfl;have dm:=HS.out _ (Ae hx);simp only at dm;have CC:=λW=>Aa (bY0 xr xs xl xt xc p.length W (by omega) (by omega));have HD:=aF0 (n:=p.length) hx;rw[hF.out]at HD;obtain⟨f,hf⟩:=exq (pJ ⟨xr,xs,xl,xt,xc⟩ p.length);rw[<-hf]at HD;have xu:checkS xr xs xl xt xc p.length=f:=hf.symm;simp only[xu]at CC;have HD:=Aa HD;clear cn hx dm hf xu hF;go_wp2_with fail
       refine(CC _).out.mono ?_;rintro e w2 ⟨rfl,an⟩;have bu:=aB.trans _ _ _ hg an;by_cases hf0:f=0
       ·subst hf0
        have HX:Hid (fR p.length (l.drop (k+1))=fR p.length l):=by show _=_;rw[HD.out,if_pos rfl]
        clear HD;go_wp2_with fail
        go_roundw
        case rel=>exact⟨k+1,by omega,by go_num,HX,bu⟩
        case measure=>simp[intOf];omega
       ·have hfb:(f != 0)=true:=by simpa using hf0
        obtain⟨bc,bf⟩:=HBX.out _ bu;have b0:=bc 0 _ rfl;have b1:=bc 1 _ rfl;have b2:=bc 2 _ rfl;have f0:=bf 0;have f1:=bf 1;have f2:=bf 2;clear bc bf;go_wp2_with fail
        refine bodyPost_ret (v:=.tuple #[.agg #[.slice none 0 0,.pointer none,.slice none 0 0],.int .i64 _]) (by simp[results,Tryz.results64,go_sem,b0,b1,b2];rfl) rfl ?_
        exact dC.bad HC.out (by rw[HF2.out,HD.out,if_neg hf0]) ((((aB.trans _ _ _ HGA.out bu).set (Ad _) _).set (Ad _) _).set (Ad _) _)
      ·obtain rfl:k=l.length:=by omega
       have HX:fR p.length l=0:=by rw[<-hF.out,List.drop_length];rfl
       exact absurd (HF2.out.trans HX) HC.out
   ·have HF2:Hid (nU p (some m) l=5):=by show _=_;rw[HF.out];simp[h1]
    clear HF;go_enter Tryz.func64,Tryz.ntmps64
    go_wp2_with fail
    rw[<-dv];clear dv;refine CP.out.mono ?_;rintro e w1 ⟨rfl,aq⟩;have aa9:=aq.cell hrc;obtain⟨bc,bf⟩:=HBX.out _ aq;have b0:=bc 0 _ rfl;have b1:=bc 1 _ rfl;have b2:=bc 2 _ rfl;have f0:=bf 0;have f1:=bf 1;have f2:=bf 2;clear bc bf;go_wp2
    refine bodyPost_ret (v:=.tuple #[.agg #[.slice none 0 0,.pointer none,.slice none 0 0],.int .i64 _]) (by simp[results,Tryz.results64,go_sem,b0,b1,b2];rfl) rfl ?_
    exact dC.bad HC.out HF2.out.symm ((((aB.trans _ _ _ HGA.out aq).set (Ad _) _).set (Ad _) _).set (Ad _) _)
theorem pP0 (p:List bT) (rb:Nat) (m:Mx) (l:List En) (pa a:Option Addr) (pc c:Nat) (w:World) (hp:p.length<=4611686018427387904) (ga:∀x∈p,x.name.size<=9223372036854775807) (hs:∀x∈l,x.r.size<=1099511627776/\x.s.size<=1099511627776)
  (jz:aF w pa 2 (p.map bI)) (hr:iQ w rb m) (ah:aF w a 5 (l.map bE)) (hc:nU p (some m) l=0) :
  Calls Tryz.prog 64 #[.slice pa p.length pc,.pointer (some ⟨rb,0,none⟩),.slice a l.length c] w (dC p (.pointer (some ⟨rb,0,none⟩)) (some m) l pa pc w):=by
 obtain⟨W1,dv⟩:=exq (w.alloc (.cells #[.slice none 0 0,.pointer none,.slice none 0 0] 128));have ep:aB w W1:=by rw[dv];exact aB.alloc _ _
 have HBL:Hid (w.heap.size<W1.heap.size):=by rw[dv];show _<_;simp
 have HBX:Hid (∀w',aB W1 w'->(∀j v,(#[.slice none 0 0,.pointer none,.slice none 0 0]:Array Value)[j]?=some v->w'.cell? ⟨w.heap.size,j,none⟩=some v)/\(∀j,w'.frozen? ⟨w.heap.size,j,none⟩=false)):=λw' h=>cO (by rw[<-dv];exact h);have HGA:=Aa ep;have HAT:=Aa (ah.grows ep);have HS:=Aa hs;have HC:=Aa hc;obtain⟨h1,h2,h3,h4⟩:=jH hc;have CP:=Aa (pW p pa pc W1 (jz.grows ep) hp ga);rw[h3]at CP;have HK:=Aa h4;have hrc:=(hr.grows ep).c0;have h2i:¬(20000:Int)<l.length:=by omega
 obtain⟨es,pt⟩:=exq (sortS l);have hel:es.length<=l.length:=by rw[pt];exact yG l
 have HSZ:Hid (∀x∈es,x.r.size<=1099511627776/\x.s.size<=1099511627776):=λx hx=>hs x (sH (by rw[<-pt];exact hx));have HES:=Aa pt;clear ah hs jz hc h3 h4 pt ep;go_enter Tryz.func64,Tryz.ntmps64
 go_wp2_with fail
 rw[<-dv];clear dv;refine CP.out.mono ?_;rintro e w1 ⟨rfl,aq⟩;have aa9:=aq.cell hrc;go_wp2_with fail
 clear hrc aa9 h1;go_loopw [8] (λi wr=>∃(k:Nat),k<=l.length/\i=.int .i64 k/\aB W1 wr) (λi _=>l.length-(intOf i).toNat)
 case atStart=>exact⟨0,Aj _,rfl,aq⟩
 case round =>
  obtain⟨k,hk,rfl,hg⟩:=hrel;by_cases af:k<l.length
  ·obtain⟨⟨xr,xs,xl,xt,xc⟩,hx⟩:∃x,l[k]?=some x:=⟨_,Ac af⟩
   obtain⟨ba,oa,rfl,cn⟩:=(HAT.out.grows hg).get (aH af);have c0:wr.cell? ⟨ba,oa+k*5,none⟩=some (.string xr):=cn k _ hx 0 _ rfl;have c1:wr.cell? ⟨ba,oa+k*5+1,none⟩=some (.string xs):=cn k _ hx 1 _ rfl;have c2:wr.cell? ⟨ba,oa+k*5+2,none⟩=some (.int .i64 xl):=cn k _ hx 2 _ rfl;have c3:wr.cell? ⟨ba,oa+k*5+3,none⟩=some (.int .i64 xt):=cn k _ hx 3 _ rfl;have c4:wr.cell? ⟨ba,oa+k*5+4,none⟩=some (.int .i64 xc):=cn k _ hx 4 _ rfl;have dm:=HS.out _ (Ae hx);simp only at dm;have CC:=λW=>Aa (bY0 xr xs xl xt xc p.length W (by omega) (by omega));have xu:checkS xr xs xl xt xc p.length=0:=HK.out _ (Ae hx);simp only[xu]at CC;clear cn hx dm xu;go_wp2_with fail
   refine(CC _).out.mono ?_;rintro e w2 ⟨rfl,an⟩;have bu:=aB.trans _ _ _ hg an;go_wp2_with fail
   go_roundw
   case rel=>exact⟨k+1,by omega,by go_num,bu⟩
   case measure=>simp[intOf];omega
  ·obtain rfl:k=l.length:=by omega
   go_wp2_with fail
   refine(vB0 l a c wr (by omega) (HAT.out.grows hg)).mono ?_;rintro e w2 ⟨sv,rfl,ae,an⟩;rw[<-HES.out]at ae;obtain⟨sa,sc,rfl,_,_,pu⟩:=ae.at_ gM
   have ze:∀q:Addr,sa=some q->some q.block≠some w.heap.size:=λq hq=>by
    have h1:w.heap.size<W1.heap.size:=HBL.out;have h2:=hg.size;rcases ae.2 with ⟨e,_⟩|⟨g,cap,ei,e,hb,_⟩
    ·rw[hq]at e
     cases (Value.slice.inj e).1
    ·have e1:=(Value.slice.inj e).1
     rw[hq]at e1;cases e1
     intro h3
     have:=Option.some.inj h3
     simp only at this;omega
   have HGE:=Aa ze;obtain⟨WD,hWD⟩:=exq (w2.alloc (.cells #[.slice pa p.length pc,.pointer (some ⟨rb,0,none⟩),.slice sa es.length sc] 128));have hgD:aB w2 WD:=by rw[hWD];exact aB.alloc _ _
   have HD:Hid (∀w',aB WD w'->(∀j v,(#[.slice pa p.length pc,.pointer (some ⟨rb,0,none⟩),.slice sa es.length sc]:Array Value)[j]?=some v->w'.cell? ⟨w2.heap.size,j,none⟩=some v)/\(∀j,w'.frozen? ⟨w2.heap.size,j,none⟩=false)):=λw' h=>cO (by rw[<-hWD];exact h);have ej:=aB.trans _ _ _ hg (aB.trans _ _ _ an hgD);have hsD:=pu.grows hgD;obtain⟨db,hdb⟩:=exq w2.heap.size;clear ae an hg pu ze;go_wp2_with fail
   rw[<-hWD];clear hWD;rw[<-hdb]at HD ⊢;clear hdb;refine(sA es sa sc _ _ WD (by omega) hsD).mono ?_;rintro e w3 ⟨bu,rv,rfl,ry⟩;have pu:=hsD;have GD3:=Aa bu;obtain⟨ra,rc,rfl,_,_,pw⟩:=ry.at_ (k:=1) (λx=>(rfl:(stC x).length=1));have jv:=pu.grows bu;have gd:=aB.trans _ _ _ ej bu;have hRL:=lH (es.map (·.r));rw[Ab]at hRL
   have hRS:∀s∈fX es,s.size<=1099511627776:=λs h=>by
    obtain⟨x,hx,rfl⟩:=List.mem_map.1 (rG h);exact(HSZ.out x hx).1
   clear ry bu pu;go_wp2_with fail
   refine(dI0 (fX es) ra rc w3 (by unfold fX;omega) hRS pw).mono ?_;rintro e w4 ⟨rfl,cd⟩;have hs4:=jv.grows cd;have aeh:=aB.trans _ _ _ gd cd;have GD4:=Aa (aB.trans _ _ _ GD3.out cd);obtain⟨dc,_⟩:=HD.out _ GD4.out;have d0:=dc 0 _ rfl;have d1:=dc 1 _ rfl;have d2:=dc 2 _ rfl;clear jv gd cd pw hRS dc;by_cases uy:cH (bls (fX es))=0
   ·rw[uy]
    go_wp2_with fail
    refine(tP es sa sc _ _ w4 (by omega) hs4).mono ?_;rintro e w5 ⟨bg,uv,rfl,rz⟩;obtain⟨ua,uc,rfl,_,_,aba⟩:=rz.at_ (k:=1) (λx=>(rfl:(stC x).length=1));have hs5:=hs4.grows bg;have GD5:=Aa bg;clear d0 d1 d2;have af7:=aB.trans _ _ _ aeh bg;have hUL:=lH (es.map (·.s));rw[Ab]at hUL
    have hUS:∀s∈cT es,s.size<=1099511627776:=λs h=>by
     obtain⟨x,hx,rfl⟩:=List.mem_map.1 (rG h);exact(HSZ.out x hx).2
    clear rz bg hs4;go_wp2_with fail
    refine(dI0 (cT es) ua uc w5 (by unfold cT;omega) hUS aba).mono ?_;rintro e w6 ⟨rfl,de⟩;have hs6:=hs5.grows de;have ac7:=aB.trans _ _ _ af7 de;have GD6:=Aa (aB.trans _ _ _ GD4.out (aB.trans _ _ _ GD5.out de));obtain⟨dc,_⟩:=HD.out _ GD6.out;have d0:=dc 0 _ rfl;have d1:=dc 1 _ rfl;have d2:=dc 2 _ rfl;clear dc;clear hs5 af7 de aba hUS;by_cases wg:cH (bls (cT es))=0
    ·have HR2:Hid (cH (bls (fX (sortS l)))=0/\cH (bls (cT (sortS l)))=0):=by rw[<-HES.out];exact⟨uy,wg⟩
     rw[wg];obtain⟨bc,bf⟩:=HBX.out _ ac7;have b0:=bc 0 _ rfl;have b1:=bc 1 _ rfl;have b2:=bc 2 _ rfl;have f0:=bf 0;have f1:=bf 1;have f2:=bf 2;clear bc bf;go_wp2
     refine bodyPost_ret (v:=.tuple #[.agg #[.slice pa p.length pc,.pointer (some ⟨rb,0,none⟩),.slice sa es.length sc],.int .i64 0]) (by simp[results,Tryz.results64,go_sem,b0,b1,b2]) rfl ?_
     exact dC.good2 HES.out HC.out HR2.out ((((aB.trans _ _ _ HGA.out ac7).set (Ad _) _).set (Ad _) _).set (Ad _) _) (pK (pK (pK hs6 ((aB.refl _).grownBy_set _ _ _) HGE.out) ((aB.refl _).grownBy_set _ _ _) HGE.out) ((aB.refl _).grownBy_set _ _ _) HGE.out)
    ·have HNS:Hid (¬(cH (bls (fX (sortS l)))=0/\cH (bls (cT (sortS l)))=0)):=by rw[<-HES.out];exact λh=>wg h.2
     have qj:(cH (bls (cT es)):Int)≠0:=by omega
     obtain⟨f,hf⟩:∃f:Int,f=cH (bls (cT es)):=⟨_,rfl⟩;rw[<-hf]at qj ⊢;have hfb:(f != 0)=true:=by simpa using qj
     clear hf wg qj;obtain⟨bc,bf⟩:=HBX.out _ ac7;have b0:=bc 0 _ rfl;have b1:=bc 1 _ rfl;have b2:=bc 2 _ rfl;have f0:=bf 0;have f1:=bf 1;have f2:=bf 2;clear bc bf;go_wp2
     refine bodyPost_ret (v:=.tuple #[.agg #[.slice none 0 0,.pointer none,.slice none 0 0],.int .i64 _]) (by simp[results,Tryz.results64,go_sem,b0,b1,b2];rfl) rfl ?_
     exact dC.long HC.out HNS.out ((((aB.trans _ _ _ HGA.out ac7).set (Ad _) _).set (Ad _) _).set (Ad _) _)
   ·have HNS:Hid (¬(cH (bls (fX (sortS l)))=0/\cH (bls (cT (sortS l)))=0)):=by rw[<-HES.out];exact λh=>uy h.1
    have qj:(cH (bls (fX es)):Int)≠0:=by omega
    obtain⟨f,hf⟩:∃f:Int,f=cH (bls (fX es)):=⟨_,rfl⟩;rw[<-hf]at qj ⊢;have hfb:(f != 0)=true:=by simpa using qj
    clear hf uy qj;obtain⟨bc,bf⟩:=HBX.out _ aeh;have b0:=bc 0 _ rfl;have b1:=bc 1 _ rfl;have b2:=bc 2 _ rfl;have f0:=bf 0;have f1:=bf 1;have f2:=bf 2;clear bc bf;go_wp2
    refine bodyPost_ret (v:=.tuple #[.agg #[.slice none 0 0,.pointer none,.slice none 0 0],.int .i64 _]) (by simp[results,Tryz.results64,go_sem,b0,b1,b2];rfl) rfl ?_
    exact dC.long HC.out HNS.out ((((aB.trans _ _ _ HGA.out aeh).set (Ad _) _).set (Ad _) _).set (Ad _) _)
end
section
open Go Go.RowKit
theorem aP0 (P:List bD) (w:World) (T:TypeId) (hl:P.length<=1000000):aF (w.alloc (.cells (P.flatMap iL).toArray T)) (some ⟨w.heap.size,0,none⟩) 2 (P.map iL):=by
 have h:=fY (enc:=iL) (k:=2) (λ_=>rfl) (w:=w) (e:=T) (base:=w.heap.size) (n:=P.length) (Ad _) P (cs:=(P.flatMap iL).toArray) (by simp) rfl (by unfold maxLen;omega);obtain⟨a,c,e,_,_,ah⟩:=h.at_ (k:=2) (λ_=>rfl);have e1:=(Value.slice.inj e).1;rw[e1];exact ah
def bare (p:bD):bD:=⟨p.name,p.data,none,0⟩
theorem dH0 (P:List bD):gT (P.map bare)=gT P:=by simp[gT,bare,Ax,Function.comp_def]
theorem lH0 (P:List bD):dD (P.map bare)=dD P:=by
 simp[dD,cP,cY,bare,List.flatMap_map]
theorem kG (P:List bD):file14 (P.map bare)=file14 P:=by unfold file14; rw[lH0]
theorem dF0:∀(P:List bD) (seen:List ByteArray),pN (P.map bare) seen=pN P seen
 | [],_=>rfl
 | p::P,seen=>by
  rw[As,pN,pN,dF0 P];rfl
theorem mG (P:List bD):cZ (P.map bare)=cZ P:=by
 unfold cZ kT0;rw[dH0,Ab,dF0,List.any_map];rfl
theorem cB {W:World} {base:Nat} {v:Value} {data:List UInt8} (h:aO W base 5 1 aQ v data):∃a c,v=.slice a data.length c/\aF W a 1 (data.map aQ)/\(a=none->c=0):=by
 obtain⟨a,c,rfl,_,_,ah⟩:=h.at_ (k:=1) (λx=>(rfl:(aQ x).length=1));refine⟨a,c,rfl,ah,λha=>?_⟩;rcases h.2 with ⟨e,_⟩|⟨g,cap,ei,hv,_⟩
 ·exact(Value.slice.inj e).2.2
 ·rw[ha]at hv
  cases (Value.slice.inj hv).1
end
section
open Go Go.RowKit Go.Shelf Go.Sort
theorem tQ0 {w:World} {g n:Nat} {os:Array Obj} (d:Array Nat):w.grownBy (grow (putRow nv (Sort.ahead w n) g 0 d) os) (some g):=by
 refine⟨rfl,rfl,rfl,by simp,λk hk aw=>?_⟩;rw[heap_grow_old _ _ (by simpa using hk)]
 have:g≠k:=λe=>aw (by rw[e])
 simp[putRow,mapBlock,Sort.ahead,Array.getElem?_modify,this]
theorem oE0 {wB w0 W:World} {ob:Nat} {dk:Array Nat} (hB:aB wB w0) (xn:wB.heap.size<=ob) (S:SWn w0 ob dk W):aB wB W:=by
 obtain⟨m,os,rfl⟩:=S;exact hB.grown (tQ0 dk) (λq hq=>by cases hq;exact xn)
theorem iY1 {es:List En} {BS:List ByteArray} {ib eb sc ob:Nat} {sa:Option Addr} {wB w0:World} (hn:es.length<=1048576) (hL:BS.length<=1048576) (hB:aB wB w0) (xn:wB.heap.size<=ob) (hid:eT1 wB ib BS) (cj:wB.cell? ⟨eb,0,none⟩=some (.slice sa es.length sc)) (ah:aF wB sa 5 (es.map bE))
  (ae:aO w0 wB.heap.size 3 1 jP (.slice (some ⟨ob,0,none⟩) es.length es.length) (Ak es.length)) (af:ob<w0.heap.size) (hm:∀x∈es,x.s∈BS) (hz:∀x∈es,x.s.size<=maxLen) :
  fS (keySE BS es) es.length ob 44 #[.pointer (some ⟨ib,0,none⟩),.pointer (some ⟨eb,0,none⟩)] (Ak es.length).toArray w0/\SWn w0 ob (Ak es.length).toArray w0:=by
 have hH:Holds nv w0 ob 0 (Ak es.length).toArray:=λj hj=>by
  have od:j<es.length:=by simpa using hj
  have h1:=eH (f:=λn:Nat=>Value.int .i64 n) ae (k:=j) (x:=j) (by rw[Av od]);obtain⟨h2,_,_⟩:=fM (f:=λn:Nat=>Value.int .i64 n) ae (k:=j) (by simpa using od) 0;refine⟨?_,by rw[Bh];exact h2⟩;rw[Bh,h1];simp[nv,od]
 refine⟨⟨⟨λx=>rfl,hH,af⟩,by simp,hn,fV1,?_⟩,⟨0,#[],(sortWorld_start nv w0 ob 0 _ hH).symm⟩⟩;intro m os dk hs x y hx hy;have hg:aB wB (sortWorld nv w0 ob 0 m dk os):=oE0 hB xn ⟨m,os,rfl⟩;have hex:es[x]?=some (es.getD x enZero):=by rw[Af,Ac hx];rfl
 have hey:es[y]?=some (es.getD y enZero):=by rw[Af,Ac hy];rfl
 have hmx:=Ae hex;have hmy:=Ae hey;have h:=dW1 BS ib eb (keySE BS es x) (keySE BS es y) x y es (es.getD x enZero) (es.getD y enZero) sa sc _ (hid.grows hg) (hg.cell cj) (ah.grows hg) hn hL hex hey (nN (hm _ hmx)) (nN (hm _ hmy)) ⟨hz _ hmx,hz _ hmy⟩;exact h.mono λe w' ⟨h1,h2⟩=>⟨h1,1,#[],by rw[h2,grow_empty];rfl⟩
theorem eK1 {es:List En} {BS:List ByteArray} {ob:Nat} {_wB w0 w':World} {dk:Array Nat} (hs:dk.size=es.length) (hw:Win (keySE BS es) (Fd dk) 0 es.length) (hm:∀x∈es,x.s∈BS) (R:Row1 nv w0 ob 0 (Ak es.length).toArray) (S:SWn w0 ob dk w') :
  aF w' (some ⟨ob,0,none⟩) 1 ((grpsL (keySE BS es) es.length BS.length).map jP)/\(grpsL (keySE BS es) es.length BS.length).length=es.length/\∀i∈grpsL (keySE BS es) es.length BS.length,i<es.length:=by
 have h1:(Ak es.length).map (Fd dk)=grpsL (keySE BS es) es.length BS.length:=eA1 hw λi hi=>by
  have hex:es[i]?=some (es.getD i enZero):=by rw[Af,Ac hi];rfl
  exact qV (hm _ (Ae hex))
 rw[<-h1];refine⟨λ_=>⟨ob,0,rfl,λi row hi j u hj=>?_⟩,by simp,λi hi=>?_⟩
 ·rw[Ar,Ar]at hi
  rcases Ay i es.length with af|ze
  ·rw[Av af]at hi
   simp only[Option.map_some,Option.some.injEq]at hi;subst hi
   match j,hj with
   | 0,hj =>
    have:=S.c1 R (by rw[hs];simp) i (by omega)
    simp only[jP,List.getElem?_cons_zero,Option.some.injEq]at hj;subst hj;simpa [Fd,nv] using this
  ·rw[List.getElem?_eq_none (by simpa using ze)]at hi
   cases hi
 ·obtain⟨j,hj,rfl⟩:=List.mem_map.1 hi
  rw[Bd]at hj;exact(hw.inn j (Aj _) hj).2
end
section
open Go Go.RowKit Go.Shelf
attribute [local go_sem] aM aP
structure rA (B:Nat) (W:World) (vs:List Value) (xs:List (List Nat)):Prop where
 own:∀(i:Nat) (v:Value) (x:List Nat),vs[i]?=some v->xs[i]?=some x->aO W B 142 1 jR v x
 ap:∀(i j:Nat) (v u:Value),i≠j->vs[i]?=some v->vs[j]?=some u->qN v u
 len:vs.length=xs.length
theorem rA.nil (B:Nat) (W:World) (n:Nat):rA B W (Be n (.slice none 0 0)) (Be n []) where
 own:=λi v x hv hx=>by
  obtain rfl:=Ao (Ae hv);obtain rfl:=Ao (Ae hx);exact aO.nil _ _ _ _ _
 ap:=λi j v u _ hv _=>by
  obtain rfl:=Ao (Ae hv);exact qN.nil _ _ _
 len:=by simp
theorem rA.set {B:Nat} {W W':World} {vs:List Value} {xs:List (List Nat)} (h:rA B W vs xs) {i:Nat} {v v':Value} {x':List Nat} (hi:vs[i]?=some v) (ho:aO W' B 142 1 jR v' x') (hk:W.grownBy W' v.ownBlock) (hf:xS W v v') :
  rA B W' (vs.set i v') (xs.set i x') where
 own:=λj u x hu hx=>by
  by_cases hj:i=j
  ·subst hj
   have af:=(List.getElem?_eq_some_iff.1 hi).1;rw[Al af]at hu;rw[Al (by rw[<-h.len];exact af)]at hx;cases hu
   cases hx
   exact ho
  ·rw[An hj]at hu hx
   exact mF (h.own j u x hu hx) hk (h.ap i j v u hj hi hu)
 ap:=λj l u z hjl hu hz=>by
  by_cases hj:i=j
  ·subst hj
   have af:=(List.getElem?_eq_some_iff.1 hi).1;rw[Al af]at hu;cases hu
   rw[An hjl]at hz;obtain⟨x,hx⟩:∃x,xs[l]?=some x:=⟨_,Ac (by rw[<-h.len];exact(List.getElem?_eq_some_iff.1 hz).1)⟩;exact(h.ap i l v z hjl hi hz).fresh (gP (h.own l z x hz hx)) hf
  ·rw[An hj]at hu
   by_cases hl:i=l
   ·subst hl
    have af:=(List.getElem?_eq_some_iff.1 hi).1;rw[Al af]at hz;cases hz
    obtain⟨x,hx⟩:∃x,xs[j]?=some x:=⟨_,Ac (by rw[<-h.len];exact(List.getElem?_eq_some_iff.1 hu).1)⟩;exact((h.ap i j v u hj hi hu).fresh (gP (h.own j u x hu hx)) hf).symm
   ·rw[An hl]at hz
    exact h.ap j l u z hjl hu hz
 len:=by rw[Bb,Bb];exact h.len
theorem rA.grows {B:Nat} {W W':World} {vs:List Value} {xs:List (List Nat)} (h:rA B W vs xs) (hg:aB W W'):rA B W' vs xs:=⟨λi v x hv hx=>(h.own i v x hv hx).grows hg,h.ap,h.len⟩
theorem rA.at_ {B:Nat} {W:World} {vs:List Value} {xs:List (List Nat)} (h:rA B W vs xs) {i:Nat} {v:Value} {x:List Nat} (hi:vs[i]?=some v) (hx:xs[i]?=some x):∃a c,v=.slice a x.length c/\aF W a 1 (x.map jR):=by
 obtain⟨a,c,e,_,_,ah⟩:=(h.own i v x hi hx).at_ (k:=1) (λx=>(rfl:(jR x).length=1));exact⟨a,c,e,ah⟩
theorem lD0 {k:Nat} (h:k<=1099511627776):IntKind.u64.wrap (k:Int)=k:=by simp[Bi,Bj,Bf]; omega
def grpTo (key:Nat->Nat) (k s:Nat):List Nat:=(Ak k).filter λi=>key i==s
theorem vE0 {key:Nat->Nat} {k s:Nat} (h:key k=s):grpTo key (k+1) s=grpTo key k s++[k]:=by
 unfold grpTo;rw[Bc,Aw];simp[h]
theorem cS1 {key:Nat->Nat} {k s:Nat} (h:key k≠s):grpTo key (k+1) s=grpTo key k s:=by
 unfold grpTo;rw[Bc,Aw];simp[h]
theorem dY1 (key:Nat->Nat) (k s:Nat):(grpTo key k s).length<=k:=by
 unfold grpTo
 have:=At (λi=>key i==s) (Ak k)
 rwa [Ah]at this
theorem iV0 {q:bD}:∀ {P:List bD},q∈P->q.data.length<=gT P
 | [],h=>by cases h
 | x::P,h=>by
  unfold gT;rw[As,Bg];rcases List.mem_cons.1 h with rfl|h
  ·omega
  ·have:=iV0 h
   unfold gT at this;omega
theorem zC0 {P:List bD} (h:cZ P=0):gT P<=16777216:=by
 unfold cZ at h;split at h
 ·cases h
 ·omega
theorem tD0 (key:Nat->Nat) (n s:Nat):grpsL key n s++grpTo key n s=grpsL key n (s+1):=(uI key n s).symm
theorem bX1 (key:Nat->Nat) (n S:Nat):(grpsL key n S).length<=n:=by
 have:=dI (jO0 key n S) (l':=Ak n) λx hx=>List.mem_range.2 (kP.1 hx).1
 rwa [Ah]at this
theorem tN0 (p:List bT) (rb:Nat) (m:Mx) (es:List En) (pa sa:Option Addr) (pc sc:Nat) (w:World) (hv:bP p=true) (hl:es.length<=20000) (hn:∀x∈es,0<=x.l/\x.l<64/\0<=x.t/\x.t<64/\0<=x.c/\x.c<=30000)
  (jz:aF w pa 2 (p.map bI)) (hr:iQ w rb m) (ah:aF w sa 5 (es.map bE)) (uy:cH (bls (fX es))=0) (wg:cH (bls (cT es))=0) (yn:cZ (imgP p m es)=0) :
  Calls Tryz.prog 65 #[.agg #[.slice pa p.length pc,.pointer (some ⟨rb,0,none⟩),.slice sa es.length sc]] w λe w'=>aB w w'/\∃v,e=.returned v/\aO w' w.heap.size 5 1 aQ v (file14 (imgP p m es)):=by
 obtain⟨W0,gv⟩:=exq (w.alloc (.cells #[.slice pa p.length pc,.pointer (some ⟨rb,0,none⟩),.slice sa es.length sc] 128));have ij:aB w W0:=by rw[gv];exact aB.alloc _ _
 have jf:=λj u h=>aX w #[.slice pa p.length pc,.pointer (some ⟨rb,0,none⟩),.slice sa es.length sc] 128 (0,0) j u h;rw[<-gv]at jf;have q0:=jf 0 _ rfl;have q1:=jf 1 _ rfl;have q2:=jf 2 _ rfl;have z0:∀x:Ext aB W0.drew,x.u.cell? ⟨w.heap.size,0,none⟩=some (.slice pa p.length pc):=aG ((aB.drew W0).cell q0);have z1:∀x:Ext aB W0.drew,x.u.cell? ⟨w.heap.size,1,none⟩=some (.pointer (some ⟨rb,0,none⟩)):=aG ((aB.drew W0).cell q1);have z2:∀x:Ext aB W0.drew,x.u.cell? ⟨w.heap.size,2,none⟩=some (.slice sa es.length sc):=aG ((aB.drew W0).cell q2);have HQ:=Aa (And.intro q0 (And.intro q1 q2));have HPT:=Aa jz;have HR:=Aa hr;have HAT:=Aa (ah.grows ij);have HN:=Aa hn;have HK:=Aa (And.intro uy wg);have HV:=Aa hv;have H14:=Aa yn;have hG0:=Aa ij;clear jf jz hr ah hn uy wg hv yn q0 q1 q2;obtain⟨BS,hBS⟩:=exq (cT es);have HBS:=Aa hBS
 have akw:BS.length<=es.length:=by
  have:=lH (es.map (·.s));rw[Ab]at this;rw[hBS];exact this
 have HMS:Hid (∀x∈es,x.s∈BS):=by rw[hBS];exact λx hx=>uC hx
 have HND:Hid BS.Nodup:=by rw[hBS];exact mC _
 clear hBS;go_enter Tryz.func65,Tryz.ntmps65
 go_wp2_with fail
 rw[<-gv];clear gv;refine bH (oC [0,2,1,3,4,5] [1,3]) (by kernel_rfl) (λd _ _ _ _ h=>by cases d<;>exact h) ?_
 iterate 2 (refine aJ rfl (λK hK=>?_);go_simp;refine hK _ ?_;clear hK K)
 clear z0 z1 z2;refine bM rfl rfl (λK hK=>?_);go_simp;refine(sA es sa sc _ _ W0.drew (by omega) (HAT.out.grows (aB.drew W0))).mono ?_;rintro e w1 ⟨aq,rv,rfl,ry⟩;refine⟨aq,hK _ _ ?_⟩;clear hK K;have yo:=aB.trans _ _ _ (aB.drew W0) aq;refine bM rfl rfl (λK hK=>?_);go_simp;refine(tP es sa sc _ _ w1 (by omega) (HAT.out.grows yo)).mono ?_;rintro e w3 ⟨bu,uv,rfl,rz⟩;refine⟨bu,hK _ _ ?_⟩;clear hK K;iterate 2 (refine aJ rfl (λK hK=>?_);go_simp;refine hK _ ?_;clear hK K)
 refine bN ?_;have gd:=aB.trans _ _ _ yo bu;obtain⟨ra,rc,io,_,_,pw⟩:=ry.at_ (k:=1) (λx=>(rfl:(stC x).length=1));obtain⟨n2,ii⟩:=exq ((fX es).length);have HN2:=Aa ii;rw[<-ii]at io;clear ii;subst io;obtain⟨ua,uc,rfl,_,_,aba⟩:=rz.at_ (k:=1) (λx=>(rfl:(stC x).length=1));have HRAT:=Aa (pw.grows bu);have HUAT0:Hid (aF w3 ua 1 (BS.map stC)):=by rw[HBS.out];exact aba
 have HUAT:=HUAT0;rw[<-HBS.out];have HA3:=Aa (HAT.out.grows gd);have jq:=aB.trans _ _ _ hG0.out gd;have HW3:=Aa jq;have HB0:=Aa (gd.cell HQ.out.1);have HB1:=Aa (gd.cell HQ.out.2.1);have HB2:=Aa (gd.cell HQ.out.2.2);clear ry rz pw aba aq bu yo gd ij HUAT0 jq HQ HAT;go_wp2_with fail
 go_loopw [5,6,7,8,9,12] (λvf vs vl vr vc i wr=>∃(k:Nat),k<=es.length/\i=.int .i64 k/\rA w3.heap.size wr [vf,vs,vl,vr,vc] [idxL newR es k,(es.take k).map (sidE BS),(es.take k).map (λx=>x.l.toNat),(es.take k).map (λx=>x.t.toNat),(es.take k).map (λx=>x.c.toNat)]/\aB w3 wr) (λ_ _ _ _ _ i _=>es.length-(intOf i).toNat)
 case atStart=>exact⟨0,Aj _,rfl,rA.nil _ _ 5,aB.refl _⟩
 case round =>
  obtain⟨k,hk,rfl,R,hg⟩:=hrel;by_cases af:k<es.length
  ·obtain⟨⟨xr,xs,xl,xt,xc⟩,hx⟩:∃x,es[k]?=some x:=⟨_,Ac af⟩
   have hnx:=HN.out _ (Ae hx);simp only at hnx;obtain⟨nl,rfl⟩:∃nl:Nat,xl=nl:=⟨xl.toNat,by omega⟩;obtain⟨nt,rfl⟩:∃nt:Nat,xt=nt:=⟨xt.toNat,by omega⟩;obtain⟨nc,rfl⟩:∃nc:Nat,xc=nc:=⟨xc.toNat,by omega⟩;have wl:IntKind.u64.wrap (nl:Int)=nl:=lD0 (by omega);have wt:IntKind.u64.wrap (nt:Int)=nt:=lD0 (by omega);have wc:IntKind.u64.wrap (nc:Int)=nc:=lD0 (by omega);have wk:IntKind.u64.wrap (k:Int)=k:=lD0 (by omega);obtain⟨ba,oa,rfl,cn⟩:=(HA3.out).get (aH af);have HC0:Hid (w3.cell? ⟨ba,oa+k*5,none⟩=some (.string xr)):=cn k _ hx 0 _ rfl;have HC1:Hid (w3.cell? ⟨ba,oa+k*5+1,none⟩=some (.string xs)):=cn k _ hx 1 _ rfl;have HC2:Hid (w3.cell? ⟨ba,oa+k*5+2,none⟩=some (.int .i64 nl)):=cn k _ hx 2 _ rfl;have HC3:Hid (w3.cell? ⟨ba,oa+k*5+3,none⟩=some (.int .i64 nt)):=cn k _ hx 3 _ rfl;have HC4:Hid (w3.cell? ⟨ba,oa+k*5+4,none⟩=some (.int .i64 nc)):=cn k _ hx 4 _ rfl;have hyB:=HMS.out _ (Ae hx);obtain⟨y,hy⟩:=exq (sidE BS ⟨xr,xs,nl,nt,nc⟩);have hyl:y<BS.length:=by rw[hy];exact qV hyB
   have wy:IntKind.u64.wrap (y:Int)=y:=lD0 (by omega);have CPL:=λW (hW:aB w3 W)=>Aa (qU0 BS xs ua uc W (by omega) hyB (HUAT.out.grows hW));rw[show (BS.findIdx λt=>decide (t=xs))=y from hy.symm]at CPL
   have HX1:Hid ((es.take k).map (sidE BS)++[y]=(es.take (k+1)).map (sidE BS)):=by show _=_;rw[aY hx,Am,hy];rfl
   have HX2:Hid ((es.take k).map (λx=>x.l.toNat)++[nl]=(es.take (k+1)).map (λx=>x.l.toNat)):=by show _=_;rw[aY hx,Am];rfl
   have HX3:Hid ((es.take k).map (λx=>x.t.toNat)++[nt]=(es.take (k+1)).map (λx=>x.t.toNat)):=by show _=_;rw[aY hx,Am];rfl
   have HX4:Hid ((es.take k).map (λx=>x.c.toNat)++[nc]=(es.take (k+1)).map (λx=>x.c.toNat)):=by show _=_;rw[aY hx,Am];rfl
   have HGX:Hid (es.getD k enZero=⟨xr,xs,nl,nt,nc⟩):=by show _=_;rw[Af,hx];rfl
   have hl0:=oM newR es k;have js:((es.take k).map (sidE BS)).length=k:=by rw[Ab,Ai];omega
   have ja:((es.take k).map (λx=>x.l.toNat)).length=k:=by rw[Ab,Ai];omega
   have hl3:((es.take k).map (λx=>x.t.toNat)).length=k:=by rw[Ab,Ai];omega
   have hl4:((es.take k).map (λx=>x.c.toNat)).length=k:=by rw[Ab,Ai];omega
   have IY:=λh=>Aa (fF0 (nw:=newR) (l:=es) (k:=k) h);have IN:=λh=>Aa (wX0 (nw:=newR) (l:=es) (k:=k) h);generalize idxL newR es k=X0 at R hl0 IY IN;generalize (es.take k).map (sidE BS)=X1 at R js HX1;generalize (es.take k).map (λx=>x.l.toNat)=X2 at R ja HX2;generalize (es.take k).map (λx=>x.t.toNat)=X3 at R hl3 HX3;generalize (es.take k).map (λx=>x.c.toNat)=X4 at R hl4 HX4;have di:(k:Int)<es.length:=by omega
   have e2:∀x:Ext aB wr.drew,x.u.cell? ⟨w.heap.size,2,none⟩=some (.slice (some ⟨ba,oa,none⟩) es.length sc):=aG (hg.dr.cell HB2.out);have b2:=hg.cell HB2.out;have y0:∀x:Ext aB wr.drew,x.u.cell? ⟨ba,oa+k*5,none⟩=some (.string xr):=aG (hg.dr.cell HC0.out);clear hx hy hyB hnx;by_cases h0:k=0
   ·have HX0:=IY (by rw[h0];rfl)
    have hkz:((k:Int)==0)=true:=by rw[h0];rfl
    have H0:=Aa h0;clear h0 IY IN cn;go_wp2_with fail
    refine bH (aT 18 []) (by kernel_rfl) (λd _ _ _ _ h=>by cases d<;>exact h) ?_
    iterate 18 (refine aJ rfl (λK hK=>?_);go_simp;refine hK _ ?_;clear hK K)
    refine bN ?_;clear e2 y0 b2;have R6:=R.grows (aB.drew wr);have de:=hg.dr;clear R hg;go_wp2_with (at_builtin;refine aV gC rfl _ _ rfl w3.heap.size _ X0 k rfl (R6.own 0 _ _ rfl rfl) (aB.refl _) _ 1 rfl #[.int .u64 k] rfl rfl (by omega) de.size ?_;intro v7 w7 bi lm i9 lj;have ck:=lj w3 de (Ad _);have R7:=R6.set (i:=0) rfl bi lm i9;clear R6 de bi lm i9 lj;have b2:=ck.cell HB2.out;have c1:=ck.cell HC1.out)
    replace HX0:=Aa HX0.out.symm;go_wp2_with fail
    refine(CPL _ ck).out.mono ?_;rintro e w8 ⟨rfl,um⟩;have R8:=R7.grows um;have eo:=aB.trans _ _ _ ck um;clear R7 ck um b2 c1;go_wp2_with (at_builtin;first|(refine aV gC rfl _ _ rfl w3.heap.size _ X1 y rfl (R8.own 1 _ _ rfl rfl) (aB.refl _) _ 1 rfl #[.int .u64 y] rfl rfl (by omega) eo.size ?_;intro v9 w9 du hk9 hf9 r8;have ft:=r8 w3 eo (Ad _);have R9:=R8.set (i:=1) rfl du hk9 hf9;clear R8 eo du hk9 hf9 r8;have b2:=ft.cell HB2.out;have c2:=ft.cell HC2.out)|(refine aV gC rfl _ _ rfl w3.heap.size _ X2 nl rfl (R9.own 2 _ _ rfl rfl) (aB.refl _) _ 1 rfl #[.int .u64 nl] rfl rfl (by omega) ft.size ?_;intro v10 w10 el r9 sd kt;have et:=kt w3 ft (Ad _);have R10:=R9.set (i:=2) rfl el r9 sd;clear R9 ft el r9 sd kt;clear b2 c2;have b2:=et.cell HB2.out;have c3:=et.cell HC3.out)|(refine aV gC rfl _ _ rfl w3.heap.size _ X3 nt rfl (R10.own 3 _ _ rfl rfl) (aB.refl _) _ 1 rfl #[.int .u64 nt] rfl rfl (by omega) et.size ?_;intro v11 w11 ia se sf ku;have gm:=ku w3 et (Ad _);have R11:=R10.set (i:=3) rfl ia se sf;clear R10 et ia se sf ku;clear b2 c3;have b2:=gm.cell HB2.out;have c4:=gm.cell HC4.out)|(refine aV gC rfl _ _ rfl w3.heap.size _ X4 nc rfl (R11.own 4 _ _ rfl rfl) (aB.refl _) _ 1 rfl #[.int .u64 nc] rfl rfl (by omega) gm.size ?_;intro v12 w12 iz sg si kv;have fe:=kv w3 gm (Ad _);have R12:=R11.set (i:=4) rfl iz sg si;clear R11 gm iz sg si kv;clear b2 c4))
    go_wp2_with fail
    go_roundw
    case rel=>exact⟨k+1,af,by go_num,by rw[<-HX0.out,<-HX1.out,<-HX2.out,<-HX3.out,<-HX4.out];exact R12,fe⟩
    case measure=>simp[intOf];omega
   ·obtain⟨⟨yr,ys,yl,yt,yc⟩,hy⟩:∃y,es[k-1]?=some y:=⟨_,Ac (by omega)⟩
    obtain⟨m',hm⟩:=exq (k-1);have hkz:((k:Int)==0)=false:=by simp;omega
    have wm:IntKind.i64.wrap ((k:Int)-1)=m':=by simp[Bi,Bj,Bf];omega
    have hml:m'<es.length:=by omega
    have hmi:(m':Int)<es.length:=by omega
    rw[<-hm]at hy;have y1:∀x:Ext aB wr.drew,x.u.cell? ⟨ba,oa+m'*5,none⟩=some (.string yr):=aG (hg.dr.cell (cn m' _ hy 0 _ rfl))
    have ac8:gE0 newR es k = !decide (xr=yr):=by
     unfold gE0;rw[HGX.out,<-hm,show es.getD m' enZero=⟨yr,ys,yl,yt,yc⟩ by rw[Af,hy];rfl,show (k==0)=false by simpa using h0]
     rfl
    have HM:=Aa hm;by_cases he:xr=yr
    ·have HX0:=IN (by rw[ac8];simp[he])
     have hxy:(xr.toList==yr.toList)=true:=by rw[he];simp
     subst he;have H0:=Aa h0;clear h0 IY IN cn hy hm ac8;go_wp2_with fail
     refine bH (aT 18 []) (by kernel_rfl) (λd _ _ _ _ h=>by cases d<;>exact h) ?_
     iterate 18 (refine aJ rfl (λK hK=>?_);go_simp;refine hK _ ?_;clear hK K)
     refine bN ?_;clear e2 y0 y1 b2;have R7:=R.grows (aB.drew wr);have ck:=hg.dr;have b2:=ck.cell HB2.out;have c1:=ck.cell HC1.out;clear R hg;replace HX0:=Aa HX0.out.symm;go_wp2_with fail
     refine(CPL _ ck).out.mono ?_;rintro e w8 ⟨rfl,um⟩;have R8:=R7.grows um;have eo:=aB.trans _ _ _ ck um;clear R7 ck um b2 c1;go_wp2_with (at_builtin;first|(refine aV gC rfl _ _ rfl w3.heap.size _ X1 y rfl (R8.own 1 _ _ rfl rfl) (aB.refl _) _ 1 rfl #[.int .u64 y] rfl rfl (by omega) eo.size ?_;intro v9 w9 du hk9 hf9 r8;have ft:=r8 w3 eo (Ad _);have R9:=R8.set (i:=1) rfl du hk9 hf9;clear R8 eo du hk9 hf9 r8;have b2:=ft.cell HB2.out;have c2:=ft.cell HC2.out)|(refine aV gC rfl _ _ rfl w3.heap.size _ X2 nl rfl (R9.own 2 _ _ rfl rfl) (aB.refl _) _ 1 rfl #[.int .u64 nl] rfl rfl (by omega) ft.size ?_;intro v10 w10 el r9 sd kt;have et:=kt w3 ft (Ad _);have R10:=R9.set (i:=2) rfl el r9 sd;clear R9 ft el r9 sd kt;clear b2 c2;have b2:=et.cell HB2.out;have c3:=et.cell HC3.out)|(refine aV gC rfl _ _ rfl w3.heap.size _ X3 nt rfl (R10.own 3 _ _ rfl rfl) (aB.refl _) _ 1 rfl #[.int .u64 nt] rfl rfl (by omega) et.size ?_;intro v11 w11 ia se sf ku;have gm:=ku w3 et (Ad _);have R11:=R10.set (i:=3) rfl ia se sf;clear R10 et ia se sf ku;clear b2 c3;have b2:=gm.cell HB2.out;have c4:=gm.cell HC4.out)|(refine aV gC rfl _ _ rfl w3.heap.size _ X4 nc rfl (R11.own 4 _ _ rfl rfl) (aB.refl _) _ 1 rfl #[.int .u64 nc] rfl rfl (by omega) gm.size ?_;intro v12 w12 iz sg si kv;have fe:=kv w3 gm (Ad _);have R12:=R11.set (i:=4) rfl iz sg si;clear R11 gm iz sg si kv;clear b2 c4))
     go_wp2_with fail
     go_roundw
     case rel=>exact⟨k+1,af,by go_num,by rw[<-HX0.out,<-HX1.out,<-HX2.out,<-HX3.out,<-HX4.out];exact R12,fe⟩
     case measure=>simp[intOf];omega
    ·have HX0:=IY (by rw[ac8];simp[he])
     have hxy:(xr.toList==yr.toList)=false:=by simpa using λh=>he (dR h)
     have H0:=Aa h0;clear h0 IY IN cn hy hm ac8 he;go_wp2_with fail
     refine bH (aT 18 []) (by kernel_rfl) (λd _ _ _ _ h=>by cases d<;>exact h) ?_
     iterate 18 (refine aJ rfl (λK hK=>?_);go_simp;refine hK _ ?_;clear hK K)
     refine bN ?_;clear e2 y0 y1 b2;have R6:=R.grows (aB.drew wr);have de:=hg.dr;clear R hg;go_wp2_with (at_builtin;refine aV gC rfl _ _ rfl w3.heap.size _ X0 k rfl (R6.own 0 _ _ rfl rfl) (aB.refl _) _ 1 rfl #[.int .u64 k] rfl rfl (by omega) de.size ?_;intro v7 w7 bi lm i9 lj;have ck:=lj w3 de (Ad _);have R7:=R6.set (i:=0) rfl bi lm i9;clear R6 de bi lm i9 lj;have b2:=ck.cell HB2.out;have c1:=ck.cell HC1.out)
     replace HX0:=Aa HX0.out.symm;go_wp2_with fail
     refine(CPL _ ck).out.mono ?_;rintro e w8 ⟨rfl,um⟩;have R8:=R7.grows um;have eo:=aB.trans _ _ _ ck um;clear R7 ck um b2 c1;go_wp2_with (at_builtin;first|(refine aV gC rfl _ _ rfl w3.heap.size _ X1 y rfl (R8.own 1 _ _ rfl rfl) (aB.refl _) _ 1 rfl #[.int .u64 y] rfl rfl (by omega) eo.size ?_;intro v9 w9 du hk9 hf9 r8;have ft:=r8 w3 eo (Ad _);have R9:=R8.set (i:=1) rfl du hk9 hf9;clear R8 eo du hk9 hf9 r8;have b2:=ft.cell HB2.out;have c2:=ft.cell HC2.out)|(refine aV gC rfl _ _ rfl w3.heap.size _ X2 nl rfl (R9.own 2 _ _ rfl rfl) (aB.refl _) _ 1 rfl #[.int .u64 nl] rfl rfl (by omega) ft.size ?_;intro v10 w10 el r9 sd kt;have et:=kt w3 ft (Ad _);have R10:=R9.set (i:=2) rfl el r9 sd;clear R9 ft el r9 sd kt;clear b2 c2;have b2:=et.cell HB2.out;have c3:=et.cell HC3.out)|(refine aV gC rfl _ _ rfl w3.heap.size _ X3 nt rfl (R10.own 3 _ _ rfl rfl) (aB.refl _) _ 1 rfl #[.int .u64 nt] rfl rfl (by omega) et.size ?_;intro v11 w11 ia se sf ku;have gm:=ku w3 et (Ad _);have R11:=R10.set (i:=3) rfl ia se sf;clear R10 et ia se sf ku;clear b2 c3;have b2:=gm.cell HB2.out;have c4:=gm.cell HC4.out)|(refine aV gC rfl _ _ rfl w3.heap.size _ X4 nc rfl (R11.own 4 _ _ rfl rfl) (aB.refl _) _ 1 rfl #[.int .u64 nc] rfl rfl (by omega) gm.size ?_;intro v12 w12 iz sg si kv;have fe:=kv w3 gm (Ad _);have R12:=R11.set (i:=4) rfl iz sg si;clear R11 gm iz sg si kv;clear b2 c4))
     go_wp2_with fail
     go_roundw
     case rel=>exact⟨k+1,af,by go_num,by rw[<-HX0.out,<-HX1.out,<-HX2.out,<-HX3.out,<-HX4.out];exact R12,fe⟩
     case measure=>simp[intOf];omega
  ·obtain rfl:k=es.length:=by omega
   rw[Aq]at R;have b2:=hg.cell HB2.out;obtain⟨fa,fc,io,af8⟩:=R.at_ (i:=0) rfl rfl;obtain⟨n3,pg⟩:=exq ((idxL newR es es.length).length);have HN3:=Aa pg;rw[<-pg]at io;clear pg;subst io;obtain⟨va,vc',io,ru⟩:=R.at_ (i:=1) rfl rfl;rw[Ab]at io;subst io;obtain⟨la,lc,io,af9⟩:=R.at_ (i:=2) rfl rfl;rw[Ab]at io;subst io;obtain⟨ta,tc,io,aga⟩:=R.at_ (i:=3) rfl rfl;rw[Ab]at io;subst io;obtain⟨ca,cc,io,agb⟩:=R.at_ (i:=4) rfl rfl;rw[Ab]at io;subst io;have HF:=Aa af8;have HVV:=Aa ru;have HL:=Aa af9;have HT:=Aa aga;have HC:=Aa agb;have cd:=hg;obtain⟨w4,hw4⟩:=exq wr;subst hw4;have HG4:=Aa cd;have HB24:=Aa b2;have HA4:=Aa (HA3.out.grows cd);have HU4:=Aa (HUAT.out.grows cd);clear R af8 ru af9 aga agb hg cd b2;have b2:=HB24.out;go_wp2_with fail
   clear b2;go_loopw [10,11,13] (λvo va s wr=>∃(k:Nat),k<=BS.length/\s=.int .i64 k/\rA w4.heap.size wr [vo,va] [grpsL (keySE BS es) es.length k,atsL (keySE BS es) es.length k]/\aB w4 wr) (λ_ _ s _=>BS.length-(intOf s).toNat)
   case atStart=>exact⟨0,Aj _,rfl,rA.nil _ _ 2,aB.refl _⟩
   case round =>
    obtain⟨s,hs,rfl,R,hg⟩:=hrel;by_cases af:s<BS.length
    ·obtain⟨tx,hx⟩:∃t,BS[s]?=some t:=⟨_,Ac af⟩
     have di:(s:Int)<BS.length:=by omega
     have hgl:=bX1 (keySE BS es) es.length s;have li:(atsL (keySE BS es) es.length s).length=s:=by unfold atsL;rw[Ab,Ah]
     have HAS:Hid (atsL (keySE BS es) es.length s++[(grpsL (keySE BS es) es.length s).length]=atsL (keySE BS es) es.length (s+1)):=(jR0 _ _ _).symm;have HGF:=Aa (tD0 (keySE BS es) es.length s);generalize grpsL (keySE BS es) es.length s=XO at R hgl HAS HGF;generalize atsL (keySE BS es) es.length s=XA at R li HAS;obtain⟨oa,oc,rfl,_⟩:=R.at_ (i:=0) rfl rfl;have wo:IntKind.u64.wrap (XO.length:Int)=XO.length:=lD0 (by omega);go_wp2_with (at_builtin;refine aV gC rfl _ _ rfl w4.heap.size _ XA XO.length rfl (R.own 1 _ _ rfl rfl) (aB.refl _) _ 1 rfl #[.int .u64 XO.length] rfl rfl (by omega) hg.size ?_;intro v5 w5 ai m7 m8 aa2;have bg:=aa2 w4 hg (Ad _);have R5:=R.set (i:=1) rfl ai m7 m8;clear R hg ai m7 m8 aa2;have b2:=bg.cell HB24.out)
     obtain⟨ub,uo,e1,jr⟩:=at1 (f:=Value.string) HU4.out (aH af);subst e1;have HUC:=Aa (jr s tx hx);have HX:=Aa hx;clear jr hx;go_wp2_with fail
     clear b2;go_loopw [10,14] (λvo i wx=>∃(k:Nat),k<=es.length/\i=.int .i64 k/\rA w4.heap.size wx [vo,v5] [XO++grpTo (keySE BS es) k s,XA++[XO.length]]/\aB w4 wx) (λ_ i _=>es.length-(intOf i).toNat)
     case atStart=>exact⟨0,Aj _,rfl,by rw[show grpTo (keySE BS es) 0 s=[] from rfl,List.append_nil];exact R5,bg⟩
     case round =>
      clear R5 bg;obtain⟨k,hk,rfl,R,hg⟩:=hrel;by_cases ci:k<es.length
      ·obtain⟨⟨xr,xs,xl,xt,xc⟩,hx⟩:∃x,es[k]?=some x:=⟨_,Ac ci⟩
       obtain⟨ba,oa',rfl,cn⟩:=(HA4.out).get (aH ci);have akx:(k:Int)<es.length:=by omega
       have b2:=hg.cell HB24.out;have e2:∀x:Ext aB wr.drew,x.u.cell? ⟨w.heap.size,2,none⟩=some (.slice (some ⟨ba,oa',none⟩) es.length sc):=aG (hg.dr.cell HB24.out);have y1:∀x:Ext aB wr.drew,x.u.cell? ⟨ba,oa'+k*5+1,none⟩=some (.string xs):=aG (hg.dr.cell (cn k _ hx 1 _ rfl));have y2:∀x:Ext aB wr.drew,x.u.cell? ⟨ub,uo+s,none⟩=some (.string tx):=aG (hg.dr.cell HUC.out);have hm:=HMS.out _ (Ae hx)
       have ek:keySE BS es k=sidE BS ⟨xr,xs,xl,xt,xc⟩:=by
        unfold keySE;rw[show es.getD k enZero=⟨xr,xs,xl,xt,xc⟩ by rw[Af,hx];rfl]
       have hsg:=nN hm;rw[<-ek]at hsg;have wk:IntKind.u64.wrap (k:Int)=k:=lD0 (by omega);have agc:=dY1 (keySE BS es) k s;by_cases he:xs=tx
       ·have mz:keySE BS es k=s:=fZ0 HND.out hsg (by rw[HX.out];exact congrArg some he.symm)
        have HI:=Aa (vE0 mz);have mj:(xs.toList==tx.toList)=true:=by rw[he];simp
        subst he;generalize grpTo (keySE BS es) k s=XG at R agc HI;have aky:(XO++XG).length<=40000:=by rw[Ag];omega
        clear cn hx hm ek hsg mz;go_wp2_with fail
        refine bH (aT 11 []) (by kernel_rfl) (λd _ _ _ _ h=>by cases d<;>exact h) ?_
        iterate 11 (refine aJ rfl (λK hK=>?_);go_simp;refine hK _ ?_;clear hK K)
        refine bN ?_;clear e2 y1 y2 b2;have R6:=R.grows (aB.drew wr);have de:=hg.dr;clear R hg;go_wp2_with (at_builtin;refine aV gC rfl _ _ rfl w4.heap.size _ (XO++XG) k rfl (R6.own 0 _ _ rfl rfl) (aB.refl _) _ 1 rfl #[.int .u64 k] rfl rfl (by omega) de.size ?_;intro v7 w7 bi lm i9 lj;have ck:=lj w4 de (Ad _);have R7:=R6.set (i:=0) rfl bi lm i9;clear R6 de bi lm i9 lj)
        go_wp2_with fail
        go_roundw
        case rel=>exact⟨k+1,ci,by go_num,by rw[HI.out,<-List.append_assoc];exact R7,ck⟩
        case measure=>simp[intOf];omega
       ·have mz:keySE BS es k≠s:=λh=>he (by rw[h,HX.out]at hsg;exact(Option.some.inj hsg).symm)
        have HI:=Aa (cS1 mz);have mj:(xs.toList==tx.toList)=false:=by simpa using λh=>he (dR h)
        generalize grpTo (keySE BS es) k s=XG at R agc HI;clear cn hx hm ek hsg mz he;go_wp2_with fail
        refine bH (aT 11 []) (by kernel_rfl) (λd _ _ _ _ h=>by cases d<;>exact h) ?_
        iterate 11 (refine aJ rfl (λK hK=>?_);go_simp;refine hK _ ?_;clear hK K)
        refine bN ?_;clear e2 y1 y2 b2;go_wp2_with fail
        go_roundw
        case rel=>exact⟨k+1,ci,by go_num,by rw[HI.out];exact R.grows (aB.drew wr),hg.dr⟩
        case measure=>simp[intOf];omega
      ·obtain rfl:k=es.length:=by omega
       rw[HGF.out,HAS.out]at R;have b2:=hg.cell HB24.out;go_wp2_with fail
       go_roundw
       case rel=>exact⟨s+1,af,by go_num,R,hg⟩
       case measure=>simp[intOf];omega
    ·obtain rfl:s=BS.length:=by omega
     have ho1:grpsL (keySE BS es) es.length BS.length=nA0 es:=by rw[HBS.out];rfl
     have ho2:atsL (keySE BS es) es.length BS.length=idxL iB0 (iF es) es.length:=by rw[jI1,HBS.out]
     rw[ho1,ho2]at R;obtain⟨oa,oc,io,aav⟩:=R.at_ (i:=0) rfl rfl;rw[qD]at io;subst io;obtain⟨aa,ac,io,agd⟩:=R.at_ (i:=1) rfl rfl;obtain⟨n10,aei⟩:=exq ((idxL iB0 (iF es) es.length).length);have HN10:=Aa aei;rw[<-aei]at io;clear aei;subst io;obtain⟨WR,hWR⟩:=exq wr.drew;have hgR:aB wr WR:=by rw[hWR];exact aB.drew wr
     have HO:=Aa (aav.grows hgR);have HAA:=Aa (agd.grows hgR);have HG5:=Aa (aB.trans _ _ _ hg hgR);have z0:∀x:Ext aB WR,x.u.cell? ⟨w.heap.size,0,none⟩=some (.slice pa p.length pc):=aG (HG5.out.cell (HG4.out.cell HB0.out));have z1:∀x:Ext aB WR,x.u.cell? ⟨w.heap.size,1,none⟩=some (.pointer (some ⟨rb,0,none⟩)):=aG (HG5.out.cell (HG4.out.cell HB1.out));have GW:=Aa (aB.trans _ _ _ HW3.out (aB.trans _ _ _ HG4.out HG5.out));have hil:=oM newR es es.length;have aiu:=oM iB0 (iF es) es.length;have uj:=qD es;clear R aav agd hg ho1 ho2 hgR;go_wp2_with fail
     obtain⟨D0,HD0,C0⟩:∃D:List UInt8,Hid (D=zK0 p)/\Hid (∀W,aB WR W->Calls Tryz.prog 121 #[.slice pa p.length pc] W λe w'=>∃v,e=.returned v/\aO w' W.heap.size 5 1 aQ v D/\aB W w') :=
      ⟨_,rfl,λW h=>by exact dD1 p pa pc W HV.out (HPT.out.grows (aB.trans _ _ _ GW.out h))⟩
     obtain⟨D1,HD1,C1⟩:∃D:List UInt8,Hid (D=m.enc)/\Hid (∀W,aB WR W->Calls Tryz.prog 122 #[.pointer (some ⟨rb,0,none⟩)] W λe w'=>∃v,e=.returned v/\aO w' W.heap.size 5 1 aQ v D/\aB W w') :=
      ⟨_,rfl,λW h=>by exact eF1 W rb m (HR.out.grows (aB.trans _ _ _ GW.out h))⟩
     obtain⟨D2,HD2,C2⟩:∃D:List UInt8,Hid (D=pA (bls (fX es)))/\Hid (∀W,aB WR W->Calls Tryz.prog 123 #[.slice ra n2 rc] W λe w'=>∃v,e=.returned v/\aO w' W.heap.size 5 1 aQ v D/\aB W w') :=
      ⟨_,rfl,λW h=>by have h9:=kG0 (fX es) ra rc W HK.out.1 (HRAT.out.grows (aB.trans _ _ _ HG4.out (aB.trans _ _ _ HG5.out h)));rw[<-HN2.out]at h9;exact h9⟩
     obtain⟨D3,HD3,C3⟩:∃D:List UInt8,Hid (D=cG (idxL newR es es.length))/\Hid (∀W,aB WR W->Calls Tryz.prog 124 #[.slice fa n3 fc] W λe w'=>∃v,e=.returned v/\aO w' W.heap.size 5 1 aQ v D/\aB W w') :=
      ⟨_,rfl,λW h=>by have h9:=jG (idxL newR es es.length) fa fc W (by omega) (λn hn=>by have:=oR hn;omega) (HF.out.grows (aB.trans _ _ _ HG5.out h));rw[<-HN3.out]at h9;exact h9⟩
     obtain⟨D4,HD4,C4⟩:∃D:List UInt8,Hid (D=pA (bls BS))/\Hid (∀W,aB WR W->Calls Tryz.prog 123 #[.slice ua BS.length uc] W λe w'=>∃v,e=.returned v/\aO w' W.heap.size 5 1 aQ v D/\aB W w') :=
      ⟨_,rfl,λW h=>by exact kG0 BS ua uc W (by rw[HBS.out];exact HK.out.2) (HUAT.out.grows (aB.trans _ _ _ HG4.out (aB.trans _ _ _ HG5.out h)))⟩
     obtain⟨D5,HD5,C5⟩:∃D:List UInt8,Hid (D=cG (es.map (sidE BS)))/\Hid (∀W,aB WR W->Calls Tryz.prog 124 #[.slice va es.length vc'] W λe w'=>∃v,e=.returned v/\aO w' W.heap.size 5 1 aQ v D/\aB W w') :=
      ⟨_,rfl,λW h=>by have h9:=jG (es.map (sidE BS)) va vc' W (by rw[Ab];omega) (λn hn=>by obtain⟨x,hx,rfl⟩:=List.mem_map.1 hn;have:=qV (HMS.out x hx);omega) (HVV.out.grows (aB.trans _ _ _ HG5.out h));rw[Ab]at h9;exact h9⟩
     obtain⟨D6,HD6,C6⟩:∃D:List UInt8,Hid (D=cG (es.map λx=>x.l.toNat))/\Hid (∀W,aB WR W->Calls Tryz.prog 124 #[.slice la es.length lc] W λe w'=>∃v,e=.returned v/\aO w' W.heap.size 5 1 aQ v D/\aB W w') :=
      ⟨_,rfl,λW h=>by have h9:=jG (es.map λx=>x.l.toNat) la lc W (by rw[Ab];omega) (λn hn=>by obtain⟨x,hx,rfl⟩:=List.mem_map.1 hn;have:=HN.out x hx;omega) (HL.out.grows (aB.trans _ _ _ HG5.out h));rw[Ab]at h9;exact h9⟩
     obtain⟨D7,HD7,C7⟩:∃D:List UInt8,Hid (D=cG (es.map λx=>x.t.toNat))/\Hid (∀W,aB WR W->Calls Tryz.prog 124 #[.slice ta es.length tc] W λe w'=>∃v,e=.returned v/\aO w' W.heap.size 5 1 aQ v D/\aB W w') :=
      ⟨_,rfl,λW h=>by have h9:=jG (es.map λx=>x.t.toNat) ta tc W (by rw[Ab];omega) (λn hn=>by obtain⟨x,hx,rfl⟩:=List.mem_map.1 hn;have:=HN.out x hx;omega) (HT.out.grows (aB.trans _ _ _ HG5.out h));rw[Ab]at h9;exact h9⟩
     obtain⟨D8,HD8,C8⟩:∃D:List UInt8,Hid (D=cG (es.map λx=>x.c.toNat))/\Hid (∀W,aB WR W->Calls Tryz.prog 124 #[.slice ca es.length cc] W λe w'=>∃v,e=.returned v/\aO w' W.heap.size 5 1 aQ v D/\aB W w') :=
      ⟨_,rfl,λW h=>by have h9:=jG (es.map λx=>x.c.toNat) ca cc W (by rw[Ab];omega) (λn hn=>by obtain⟨x,hx,rfl⟩:=List.mem_map.1 hn;have:=HN.out x hx;omega) (HC.out.grows (aB.trans _ _ _ HG5.out h));rw[Ab]at h9;exact h9⟩
     obtain⟨D9,HD9,C9⟩:∃D:List UInt8,Hid (D=cG (nA0 es))/\Hid (∀W,aB WR W->Calls Tryz.prog 124 #[.slice oa es.length oc] W λe w'=>∃v,e=.returned v/\aO w' W.heap.size 5 1 aQ v D/\aB W w') :=
      ⟨_,rfl,λW h=>by have h9:=jG (nA0 es) oa oc W (by omega) (λn hn=>by have:=mB0 hn;omega) (HO.out.grows h);rw[qD]at h9;exact h9⟩
     obtain⟨D10,HD10,C10⟩:∃D:List UInt8,Hid (D=cG (idxL iB0 (iF es) es.length))/\Hid (∀W,aB WR W->Calls Tryz.prog 124 #[.slice aa n10 ac] W λe w'=>∃v,e=.returned v/\aO w' W.heap.size 5 1 aQ v D/\aB W w') :=
      ⟨_,rfl,λW h=>by have h9:=jG (idxL iB0 (iF es) es.length) aa ac W (by omega) (λn hn=>by have:=oR hn;omega) (HAA.out.grows h);rw[<-HN10.out]at h9;exact h9⟩
     refine bH (oC [0,1,4,5,8,11,14,17,20,23,26,29,32,2,3,6,7,9,10,12,13,15,16,18,19,21,22,24,25,27,28,30,31,33,34,35,36,37,38,39,40,41] [2,6,9,12,15,18,21,24,27,30,33,35,36]) (by kernel_rfl) (λd _ _ _ _ h=>by cases d<;>exact h) ?_
     rw[<-hWR];clear hWR;iterate 13 (refine aJ rfl (λK hK=>?_);go_simp;refine hK _ ?_;clear hK K)
     clear z0 z1;refine bM rfl rfl (λK hK=>?_);go_simp;refine(C0.out WR (aB.refl WR)).mono ?_;rintro e w40 ⟨v40,rfl,age,px⟩;refine⟨px,hK _ _ ?_⟩;clear hK K;obtain⟨a40,c40,rfl,sj,abb⟩:=cB age;have PP40:=Aa (And.intro sj abb);have G40:=Aa (aB.trans _ _ _ (aB.refl WR) px);have GA40:=Aa (aB.trans _ _ _ GW.out px);have E40:=Aa px;clear age sj abb px;iterate 1 (refine aJ rfl (λK hK=>?_);go_simp;refine hK _ ?_;clear hK K)
     refine bM rfl rfl (λK hK=>?_);go_simp;refine(C1.out w40 G40.out).mono ?_;rintro e w41 ⟨v41,rfl,abc,ng⟩;refine⟨ng,hK _ _ ?_⟩;clear hK K;obtain⟨a41,c41,rfl,sn,abd⟩:=cB abc;have PP41:=Aa (And.intro sn abd);have G41:=Aa (aB.trans _ _ _ G40.out ng);have GA41:=Aa (aB.trans _ _ _ GA40.out ng);have E41:=Aa ng;clear abc sn abd ng;iterate 1 (refine aJ rfl (λK hK=>?_);go_simp;refine hK _ ?_;clear hK K)
     refine bM rfl rfl (λK hK=>?_);go_simp;refine(C2.out w41 G41.out).mono ?_;rintro e w42 ⟨v42,rfl,abe,nh⟩;refine⟨nh,hK _ _ ?_⟩;clear hK K;obtain⟨a42,c42,rfl,su,abf⟩:=cB abe;have PP42:=Aa (And.intro su abf);have G42:=Aa (aB.trans _ _ _ G41.out nh);have GA42:=Aa (aB.trans _ _ _ GA41.out nh);have E42:=Aa nh;clear abe su abf nh;iterate 1 (refine aJ rfl (λK hK=>?_);go_simp;refine hK _ ?_;clear hK K)
     refine bM rfl rfl (λK hK=>?_);go_simp;refine(C3.out w42 G42.out).mono ?_;rintro e w43 ⟨v43,rfl,abg,ni⟩;refine⟨ni,hK _ _ ?_⟩;clear hK K;obtain⟨a43,c43,rfl,sw,abh⟩:=cB abg;have PP43:=Aa (And.intro sw abh);have G43:=Aa (aB.trans _ _ _ G42.out ni);have GA43:=Aa (aB.trans _ _ _ GA42.out ni);have E43:=Aa ni;clear abg sw abh ni;iterate 1 (refine aJ rfl (λK hK=>?_);go_simp;refine hK _ ?_;clear hK K)
     refine bM rfl rfl (λK hK=>?_);go_simp;refine(C4.out w43 G43.out).mono ?_;rintro e w44 ⟨v44,rfl,abi,nj⟩;refine⟨nj,hK _ _ ?_⟩;clear hK K;obtain⟨a44,c44,rfl,sx,abj⟩:=cB abi;have PP44:=Aa (And.intro sx abj);have G44:=Aa (aB.trans _ _ _ G43.out nj);have GA44:=Aa (aB.trans _ _ _ GA43.out nj);have E44:=Aa nj;clear abi sx abj nj;iterate 1 (refine aJ rfl (λK hK=>?_);go_simp;refine hK _ ?_;clear hK K)
     refine bM rfl rfl (λK hK=>?_);go_simp;refine(C5.out w44 G44.out).mono ?_;rintro e w45 ⟨v45,rfl,abk,np⟩;refine⟨np,hK _ _ ?_⟩;clear hK K;obtain⟨a45,c45,rfl,sy,abl⟩:=cB abk;have PP45:=Aa (And.intro sy abl);have G45:=Aa (aB.trans _ _ _ G44.out np);have GA45:=Aa (aB.trans _ _ _ GA44.out np);have E45:=Aa np;clear abk sy abl np;iterate 1 (refine aJ rfl (λK hK=>?_);go_simp;refine hK _ ?_;clear hK K)
     refine bM rfl rfl (λK hK=>?_);go_simp;refine(C6.out w45 G45.out).mono ?_;rintro e w46 ⟨v46,rfl,abm,nr⟩;refine⟨nr,hK _ _ ?_⟩;clear hK K;obtain⟨a46,c46,rfl,s5,abn⟩:=cB abm;have PP46:=Aa (And.intro s5 abn);have G46:=Aa (aB.trans _ _ _ G45.out nr);have GA46:=Aa (aB.trans _ _ _ GA45.out nr);have E46:=Aa nr;clear abm s5 abn nr;iterate 1 (refine aJ rfl (λK hK=>?_);go_simp;refine hK _ ?_;clear hK K)
     refine bM rfl rfl (λK hK=>?_);go_simp;refine(C7.out w46 G46.out).mono ?_;rintro e w47 ⟨v47,rfl,abo,nu⟩;refine⟨nu,hK _ _ ?_⟩;clear hK K;obtain⟨a47,c47,rfl,s6,abp⟩:=cB abo;have PP47:=Aa (And.intro s6 abp);have G47:=Aa (aB.trans _ _ _ G46.out nu);have GA47:=Aa (aB.trans _ _ _ GA46.out nu);have E47:=Aa nu;clear abo s6 abp nu;iterate 1 (refine aJ rfl (λK hK=>?_);go_simp;refine hK _ ?_;clear hK K)
     refine bM rfl rfl (λK hK=>?_);go_simp;refine(C8.out w47 G47.out).mono ?_;rintro e w48 ⟨v48,rfl,abq,ny⟩;refine⟨ny,hK _ _ ?_⟩;clear hK K;obtain⟨a48,c48,rfl,s7,abr⟩:=cB abq;have PP48:=Aa (And.intro s7 abr);have G48:=Aa (aB.trans _ _ _ G47.out ny);have GA48:=Aa (aB.trans _ _ _ GA47.out ny);have E48:=Aa ny;clear abq s7 abr ny;iterate 1 (refine aJ rfl (λK hK=>?_);go_simp;refine hK _ ?_;clear hK K)
     refine bM rfl rfl (λK hK=>?_);go_simp;refine(C9.out w48 G48.out).mono ?_;rintro e w49 ⟨v49,rfl,abt,nz⟩;refine⟨nz,hK _ _ ?_⟩;clear hK K;obtain⟨a49,c49,rfl,s8,abu⟩:=cB abt;have PP49:=Aa (And.intro s8 abu);have G49:=Aa (aB.trans _ _ _ G48.out nz);have GA49:=Aa (aB.trans _ _ _ GA48.out nz);have E49:=Aa nz;clear abt s8 abu nz;iterate 1 (refine aJ rfl (λK hK=>?_);go_simp;refine hK _ ?_;clear hK K)
     refine bM rfl rfl (λK hK=>?_);go_simp;refine(C10.out w49 G49.out).mono ?_;rintro e ot ⟨v50,rfl,abv,n5⟩;refine⟨n5,hK _ _ ?_⟩;clear hK K;obtain⟨a50,c50,rfl,s9,abw⟩:=cB abv;have PP50:=Aa (And.intro s9 abw);have G50:=Aa (aB.trans _ _ _ G49.out n5);have GA50:=Aa (aB.trans _ _ _ GA49.out n5);have E50:=Aa n5;clear abv s9 abw n5;iterate 1 (refine aJ rfl (λK hK=>?_);go_simp;refine hK _ ?_;clear hK K)
     refine bM rfl rfl (λK hK=>?_);go_simp;refine⟨aB.alloc _ _,hK _ _ ?_⟩;clear hK K;obtain⟨P,hP⟩:∃P:List bD,P=[⟨⟨#[112,111,115]⟩,D0,a40,c40⟩,⟨⟨#[109,97,116,114,105,120]⟩,D1,a41,c41⟩,⟨⟨#[114,101,97,100,105,110,103,115]⟩,D2,a42,c42⟩,⟨⟨#[102,105,114,115,116]⟩,D3,a43,c43⟩,⟨⟨#[115,117,114,102,97,99,101,115]⟩,D4,a44,c44⟩,⟨⟨#[115,117,114,102,97,99,101]⟩,D5,a45,c45⟩,⟨⟨#[108,101,102,116]⟩,D6,a46,c46⟩,⟨⟨#[114,105,103,104,116]⟩,D7,a47,c47⟩,⟨⟨#[99,111,115,116]⟩,D8,a48,c48⟩,⟨⟨#[111,114,100,101,114]⟩,D9,a49,c49⟩,⟨⟨#[97,116]⟩,D10,a50,c50⟩]:=⟨_,rfl⟩;have hPl:P.length=11:=by rw[hP];rfl
     obtain⟨W9,hW9⟩:=exq (ot.alloc (.cells (P.flatMap iL).toArray 195))
     have HPB:Hid (P.map bare=imgP p m es):=by
      show _=_
      rw[hP];unfold imgP;rw[<-HBS.out,<-HD0.out,<-HD1.out,<-HD2.out,<-HD3.out,<-HD4.out,<-HD5.out,<-HD6.out,<-HD7.out,<-HD8.out,<-HD9.out,<-HD10.out];rfl
     have hSM:∀q∈P,q.data.length<=16777216:=λq hq=>by
      have h1:=iV0 hq;rw[<-dH0,HPB.out]at h1;have h2:=zC0 H14.out;omega
     have hPA:gX ot P:=by
      have T50:=aB.refl ot;have T49:=aB.trans _ _ _ E50.out T50;have T48:=aB.trans _ _ _ E49.out T49;have T47:=aB.trans _ _ _ E48.out T48;have T46:=aB.trans _ _ _ E47.out T47;have T45:=aB.trans _ _ _ E46.out T46;have T44:=aB.trans _ _ _ E45.out T45;have T43:=aB.trans _ _ _ E44.out T44;have T42:=aB.trans _ _ _ E43.out T43;have T41:=aB.trans _ _ _ E42.out T42;have T40:=aB.trans _ _ _ E41.out T41;refine⟨λq hq=>?_,λq hq=>?_,λq hq=>?_,λq hq=>Az (hSM q hq) (by decide)⟩<;>rw[hP]at hq<;>simp only[List.mem_cons,List.mem_nil_iff,or_false]at hq
      ·rcases hq with rfl|rfl|rfl|rfl|rfl|rfl|rfl|rfl|rfl|rfl|rfl
       ·exact PP40.out.1.grows T40
       ·exact PP41.out.1.grows T41
       ·exact PP42.out.1.grows T42
       ·exact PP43.out.1.grows T43
       ·exact PP44.out.1.grows T44
       ·exact PP45.out.1.grows T45
       ·exact PP46.out.1.grows T46
       ·exact PP47.out.1.grows T47
       ·exact PP48.out.1.grows T48
       ·exact PP49.out.1.grows T49
       ·exact PP50.out.1.grows T50
      ·rcases hq with rfl|rfl|rfl|rfl|rfl|rfl|rfl|rfl|rfl|rfl|rfl
       ·exact PP40.out.2
       ·exact PP41.out.2
       ·exact PP42.out.2
       ·exact PP43.out.2
       ·exact PP44.out.2
       ·exact PP45.out.2
       ·exact PP46.out.2
       ·exact PP47.out.2
       ·exact PP48.out.2
       ·exact PP49.out.2
       ·exact PP50.out.2
      ·rcases hq with rfl|rfl|rfl|rfl|rfl|rfl|rfl|rfl|rfl|rfl|rfl<;>simp[ByteArray.size]
     have hPC:aF W9 (some ⟨ot.heap.size,0,none⟩) 2 (P.map iL):=by
      rw[hW9];exact aP0 P ot _ (by omega)
     have ft:aB ot W9:=by rw[hW9];exact aB.alloc _ _
     have CJ:=Aa (zV0 P (some ⟨ot.heap.size,0,none⟩) 11 W9 (by omega) hPC (hPA.grows ft));rw[hPl]at CJ;have vd:W9=ot.alloc (.cells (P.flatMap iL).toArray 195):=hW9;rw[hP]at vd;have HW9:=Aa vd;have CJ2:∀W,W=W9->Hid (Calls Tryz.prog 120 #[.slice (some ⟨ot.heap.size,0,none⟩) 11 11] W (tA P W9)):=by rintro _ rfl;exact CJ
     have G9:=Aa (aB.trans _ _ _ GA50.out ft);have h0:cZ P=0:=by rw[<-mG,HPB.out];exact H14.out
     have HFI:Hid (file14 P=file14 (imgP p m es)):=by show _=_;rw[<-kG,HPB.out]
     have H0:=Aa h0;clear hP hW9 vd hPA hPC CJ ft hSM h0;refine bM rfl rfl (λK hK=>?_);go_simp;refine(CJ2 _ ?_).out.mono ?_
     ·rw[HW9.out];rfl
     rintro e w51 ⟨ow,_,hgJ⟩;obtain⟨v,rfl,hv'⟩:=ow H0.out;rw[HFI.out]at hv';have GJ:=Aa (aB.trans _ _ _ G9.out hgJ);have HVJ:=Aa (hv'.base G9.out.size);clear ow hv';refine⟨?_,hK _ _ ?_⟩
     ·rw[show ot.alloc _=W9 from ?_]
      ·exact hgJ
      ·rw[HW9.out];rfl
     clear hK K hgJ;iterate 5 (refine aJ rfl (λK hK=>?_);go_simp;refine hK _ ?_;clear hK K)
     refine bN ?_;go_wp2_with fail
     go_ret;exact⟨GJ.out,_,rfl,HVJ.out⟩
end
end Go.Proofs.YtiopheoljccmpaaGreatDoor
