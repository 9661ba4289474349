/- The texts Pk PkN PkE Bnum PkG, one behind the other. -/
import Derived.Test.YthgklnohcmaopaaGreatDoorTq20
import Derived.Test.YthgklnohcmaopaaGreatDoorShelf
import Derived.Laws.OwnMore
import Derived.OwnWalk
import Derived.Laws.MakeOwn
import Derived.Laws.BitsAllLaws
open Go.IntKind renaming signed → Aa,wrap → Ab,bits → Ac,wrap_u8' → Ap
open Go.Lib renaming hid → Ad,bitLenAux → Br
open List renaming getElem?_eq_none → Ae,length_set → Ag,getElem?_eq_getElem → Ai,getElem?_set_ne → Am,replicate → An,mem_of_getElem? → Ao,getElem?_set_self → Ar,length_take → At,ext_getElem? → Ax,getElem?_range → Bc,length_append → Be,getElem?_map → Bf,append_assoc → Bi,take_length → Bj,range → Bt
open Go.World renaming cell?_setCell_other → Af,frozen? → Bq
open Nat renaming pow_le_pow_right → Ah,lt_succ_self → Aj,le_refl → Ak,lt_of_lt_of_le → Aq,testBit_lt_two_pow → As,testBit_two_pow_sub_one → Au,mul_le_mul → Av,testBit_shiftRight → Ay,zero_le → Az,mul_le_mul_right → Ba,eq_of_testBit_eq → Bb,lt_of_le_of_lt → Bd,or_lt_two_pow → Bh,mul_one → Bk,testBit_and → Bn,add_assoc → Bs,mod_lt → Bu
open UInt8 renaming ofNat → Al
open Int renaming tdiv_eq_ediv_of_nonneg → Aw,toNat_natCast → Bg
open Go.Addr renaming block → Bo
open Bool renaming and_false → Bp
set_option maxHeartbeats 8000000
namespace Go.Proofs.YthgklnohcmaopaaGreatDoor
set_option maxRecDepth 100000
section
open Go Go.RowKit
attribute [local go_sem] aK aP
theorem qN {α:Type} (f:α->Value) (xs:List α):xs.flatMap (λx=>[f x])=xs.map f:=by
 induction xs with
 | nil=>rfl
 | cons x xs ih=>rw[List.flatMap_cons,ih];rfl
theorem eF {α:Type} {f:α->Value} {w:World} {base g n c k:Nat} {e:TypeId} {xs:List α} (h:aU w base e 1 (λx=>[f x]) (.slice (some ⟨g,0,none⟩) n c) xs) (hk:k<xs.length) (y:α) :
  w.frozen? ⟨g,k,none⟩=false/\base<=g/\aU (w.setCell ⟨g,k,none⟩ (f y)) base e 1 (λx=>[f x]) (.slice (some ⟨g,0,none⟩) n c) (xs.set k y):=by
 rcases h.2 with ⟨h1,_⟩|⟨g',cap,bv,hv,hb,hh,hn,hc,hs,ht⟩
 ·cases h1
 ·have e1:=(Value.slice.inj hv).1
  have e2:=(Value.slice.inj hv).2.1;obtain rfl:g=g':=congrArg Bo (Option.some.inj e1);have hkc:k<bv.size:=by omega
  refine⟨by simp[Bq,hh],hb,?_⟩;have hl:(xs.set k y).length=xs.length:=Ag
  have hf:(xs.set k y).flatMap (λx=>[f x])=(xs.flatMap (λx=>[f x])).set k (f y):=by
   rw[qN,qN,List.map_set]
  unfold aU;rw[hl];refine⟨by rw[hf,Ag];exact h.1,Or.inr ⟨g,cap,bv.setIfInBounds k (f y),hv,hb,heap_setCell_same w g k bv _ _ hh,hn,hc,by simpa using hs,?_⟩⟩;rw[hf,<-ht,Array.toList_setIfInBounds,List.take_set]
theorem dN {α:Type} {f:α->Value} {w:World} {base g n c k:Nat} {e:TypeId} {xs:List α} {x:α} (h:aU w base e 1 (λx=>[f x]) (.slice (some ⟨g,0,none⟩) n c) xs) (hx:xs[k]?=some x):w.cell? ⟨g,k,none⟩=some (f x):=by
 obtain⟨a,c2,he,_,_,ac⟩:=aU.at_ (enc:=λx=>[f x]) (λ_=>rfl) h;simp only[Value.slice.injEq]at he;rw[<-he.1]at ac;obtain⟨b1,o1,he1,be⟩:=at1 (f:=f) ac (aH (List.getElem?_eq_some_iff.1 hx).1);obtain⟨rfl,rfl⟩:g=b1/\0=o1:=by simpa using he1
 have:=be k x hx
 rwa [Nat.zero_add]at this
def dI (l:List Nat) (W q:Nat):List Nat:=(Bt q).map (fD l W)
theorem dY (l:List Nat) (W q:Nat):(dI l W q).length=q:=by simp[dI]
theorem dZ {l:List Nat} {W q k:Nat} (h:k<q):(dI l W q)[k]?=some (fD l W k):=by
 unfold dI;rw[Bf,Bc h];rfl
theorem nV0 {l:List Nat} {W v q Q S:Nat} (hW:0<W) (dz:W<=64) (hv:v<2^W) (hS:S<64) (hQ:l.length*W=64*Q+S) (eu:S+W<=64):dI (l++[v]) W q=(dI l W q).set Q (fD l W Q|||(v<<<S)%18446744073709551616):=by
 apply Ax
 intro k;by_cases hk:k<q
 ·rw[dZ hk]
  by_cases rh:k=Q
  ·subst rh
   rw[Ar (by rw[dY];exact hk),eU0 hW hv hQ]
  ·rw[Am (Ne.symm rh),dZ hk,yR hW hv hS hQ rh (λ_=>eu) dz]
 ·rw[Ae (by rw[dY];omega),Ae (by rw[Ag,dY];omega)]
theorem nF0 {l:List Nat} {W v q Q S:Nat} (hW:0<W) (dz:W<=64) (hv:v<2^W) (hS:S<64) (hQ:l.length*W=64*Q+S) (_:64<S+W) (xq:Q+1<q) :
  dI (l++[v]) W q=((dI l W q).set Q (fD l W Q|||(v<<<S)%18446744073709551616)).set (Q+1) (fD l W (Q+1)|||v>>>(64-S)):=by
 apply Ax
 intro k;by_cases hk:k<q
 ·rw[dZ hk]
  by_cases aas:k=Q+1
  ·subst aas
   rw[Ar (by rw[Ag,dY];exact hk),lX0 hW hv dz hS hQ]
  ·rw[Am (Ne.symm aas)]
   by_cases rh:k=Q
   ·subst rh
    rw[Ar (by rw[dY];exact hk),eU0 hW hv hQ]
   ·rw[Am (Ne.symm rh),dZ hk,yR hW hv hS hQ rh (λh=>absurd h aas) dz]
 ·rw[Ae (by rw[dY];omega),Ae (by rw[Ag,Ag,dY];omega)]
theorem kW0 {x v S:Nat} (hx:x<18446744073709551616):bits .or .u64 (x:Int) (IntKind.u64.wrap ((v:Int)*2^S))=((x|||(v<<<S)%18446744073709551616:Nat):Int):=by
 have h1:IntKind.u64.wrap ((v:Int)*2^S)=((v<<<S%18446744073709551616:Nat):Int):=by
  rw[Nat.shiftLeft_eq,show (v:Int)*2^S=((v*2^S:Nat):Int) by push_cast;rfl]
  generalize v*2^S=N;simp[Ab,Ac,Aa]
 rw[h1];exact u64_or_nat x _ hx (Bu _ (by decide))
theorem cF1 {x v T:Nat} (hx:x<18446744073709551616) (hv:v<18446744073709551616):bits .or .u64 (x:Int) ((v:Int)/2^T)=((x|||v>>>T:Nat):Int):=by
 rw[aZ0];exact u64_or_nat x _ hx (Bd (by rw[Nat.shiftRight_eq_div_pow];exact Nat.div_le_self _ _) hv)
theorem yA0 (pb wb q W v i base:Nat) (pre:List Nat) (w:World) (et:0<W) (hW:W<=64) (hi:i=pre.length) (jf:i<=1048576) (hv:v<2^W) (eu:(i+1)*W<=64*q) (hq:q<=1048576)
  (c1:w.cell? ⟨pb,1,none⟩=some (.int .i64 W)) (c2:w.cell? ⟨pb,2,none⟩=some (.slice (some ⟨wb,0,none⟩) q q)) (hpw:pb<wb) (aa:aU w base 213 1 kH (.slice (some ⟨wb,0,none⟩) q q) (dI pre W q)) :
  Calls Tryz.prog 184 #[.pointer (some ⟨pb,0,none⟩),.int .i64 i,.int .u64 v] w λe w'=>e=.returned (.tuple #[])/\aU w' base 213 1 kH (.slice (some ⟨wb,0,none⟩) q q) (dI (pre++[v]) W q)/\EB wb w w':=by
 obtain⟨M,hM⟩:=exq (i*W);obtain⟨Q,hQ⟩:=exq (M/64);obtain⟨S,hS⟩:=exq (M%64);have td:M<=1048576*64:=by rw[hM];exact Av jf hW
 have hMq:M+W<=64*q:=by rw[hM];rw[Nat.succ_mul]at eu;exact eu
 have ud:pre.length*W=64*Q+S:=by rw[<-hi,<-hM];omega
 have mj:S<64:=by omega
 have ri:Q<q:=by omega
 have acn:v<18446744073709551616:=Aq hv (Ah (n:=2) (by decide) hW)
 have wM:IntKind.i64.wrap ((i:Int)*W)=M:=by
  have h1:(i:Int)*W=M:=by rw[hM];push_cast;rfl
  rw[h1];simp[Ab,Ac,Aa];omega
 have eQ:(M:Int)/64=Q:=by omega
 have eS:(M:Int)%64=S:=by omega
 obtain⟨x,hx⟩:=exq (fD pre W Q);have jt:x<18446744073709551616:=by rw[hx];exact kY pre W Q
 have d1:w.cell? ⟨wb,Q,none⟩=some (.int .u64 x):=dN (f:=λn:Nat=>Value.int .u64 n) aa (by rw[dZ ri,hx]);obtain⟨f1,_,av⟩:=eF (f:=λn:Nat=>Value.int .u64 n) (aa.grows (aB.drew w)) (k:=Q) (by rw[dY];exact ri) (x|||(v<<<S)%18446744073709551616)
 have HWB:=Ad (Nat.le_of_lt (World.block_lt_of_cell? w _ d1));have xu:=kW0 (v:=v) (S:=S) jt;obtain⟨x1,ga⟩:=exq (x|||(v<<<S)%18446744073709551616)
 rw[<-ga]at xu av;have ai:pb≠wb:=by omega
 have z1:∀y:Ext aB w.drew,y.u.cell? ⟨pb,1,none⟩=some (.int .i64 W):=aG ((aB.drew w).cell c1);have ld:(W:Int)≠0:=by omega
 have hQi:(Q:Int)<q:=by omega
 have g1:∀u,(w.drew.setCell ⟨wb,Q,none⟩ u).cell? ⟨pb,1,none⟩=some (.int .i64 W):=λu=>(Af _ _ _ _ (λh=>ai (congrArg Bo h).symm)).trans c1;have g2:∀u,(w.drew.setCell ⟨wb,Q,none⟩ u).cell? ⟨pb,2,none⟩=some (.slice (some ⟨wb,0,none⟩) q q):=λu=>(Af _ _ _ _ (λh=>ai (congrArg Bo h).symm)).trans c2;have afp:IntKind.i64.wrap ((S:Int)+W)=(S:Int)+W:=by simp[Ab,Ac,Aa];omega
 by_cases gz:S+W<=64
 ·have hsw:¬(64:Int)<(S:Int)+W:=by omega
  have HF:Hid (dI (pre++[v]) W q=(dI pre W q).set Q x1):=by show _=_;rw[nV0 et hW hv mj ud gz,ga,hx]
  have HO:=Ad av;clear hM hQ hS ud hx ga av aa eu hMq hi hv;go_enter Tryz.func184,Tryz.ntmps184
  go_wp2_with fail
  refine bP (bB 17 []) (by kernel_rfl) (λd _ _ _ _ h=>by cases d<;>exact h) ?_
  iterate 17 (refine aO rfl (λK hK=>?_);go_simp;refine hK _ ?_;clear hK K)
  refine bU ?_;clear z1;go_wp2_with fail
  refine bodyPost_end (v:=.tuple #[]) (by simp[results,Tryz.results184,go_sem]) rfl ⟨rfl,?_,?_⟩
  ·rw[HF.out]
   exact HO.out
  ·exact EB.trans _ _ _ _ (EB.of (aB.drew w) HWB.out) ⟨(Below.refl wb w.drew).setCell (p:=⟨wb,Q,none⟩) (Ak wb) _,by simp⟩
 ·have gz:64<S+W:=by omega
  have hsw:(64:Int)<(S:Int)+W:=by omega
  have xq:Q+1<q:=by omega
  have afq:(Q:Int)+1<q:=by omega
  obtain⟨y,hy⟩:=exq (fD pre W (Q+1));have ju:y<18446744073709551616:=by rw[hy];exact kY pre W _
  have hYg:((dI pre W q).set Q x1)[Q+1]?=some y:=by rw[Am (by omega),dZ xq,hy]
  have e1:=dN (f:=λn:Nat=>Value.int .u64 n) aa (k:=Q+1) (x:=y) (by rw[dZ xq,hy]);obtain⟨f3,_,_⟩:=eF (f:=λn:Nat=>Value.int .u64 n) aa (k:=Q+1) (by rw[dY];exact xq) y;obtain⟨f2,_,ag⟩:=eF (f:=λn:Nat=>Value.int .u64 n) av (k:=Q+1) (by rw[Ag,dY];exact xq) (y|||v>>>(64-S))
  have afr:=cF1 (x:=y) (v:=v) (T:=64-S) ju acn;obtain⟨y1,lf⟩:=exq (y|||v>>>(64-S))
  rw[<-lf]at afr ag;have hT:(64:Int)-S=((64-S:Nat):Int):=by omega
  have hTw:IntKind.u64.wrap ((64-S:Nat):Int)=((64-S:Nat):Int):=by simp[Ab,Ac,Aa];omega
  have HF:Hid (dI (pre++[v]) W q=((dI pre W q).set Q x1).set (Q+1) y1):=by show _=_;rw[nF0 et hW hv mj ud gz xq,ga,hx,lf,hy]
  have HO:=Ad ag;clear hM hQ hS ud hx ga av aa eu hMq hi hv hy lf ag hYg;go_enter Tryz.func184,Tryz.ntmps184
  go_wp2_with fail
  refine bP (bB 17 []) (by kernel_rfl) (λd _ _ _ _ h=>by cases d<;>exact h) ?_
  iterate 17 (refine aO rfl (λK hK=>?_);go_simp;refine hK _ ?_;clear hK K)
  refine bU ?_;clear z1;go_wp2_with fail
  refine bodyPost_end (v:=.tuple #[]) (by simp[results,Tryz.results184,go_sem]) rfl ⟨rfl,?_,?_⟩
  ·rw[HF.out]
   exact HO.out
  ·exact EB.trans _ _ _ _ (EB.of (aB.drew w) HWB.out) ⟨((Below.refl wb w.drew).setCell (p:=⟨wb,Q,none⟩) (Ak wb) _).setCell (p:=⟨wb,Q+1,none⟩) (Ak wb) _,by simp⟩
theorem iD0 {x:Nat} (h:x≠0):bitLen x=1+bitLen (x/2):=by
 unfold bitLen;rw[if_neg h];by_cases h1:x=1
 ·subst h1;rfl
 ·rw[if_neg (by omega),Nat.log2_def,if_pos (by omega)]
  omega
theorem zP:∀(f x:Nat),x<2^f->Br f x=bitLen x
 | 0,x,h=>by
  obtain rfl:x=0:=by simpa using h
  rfl
 | f+1,x,h=>by
  rw[Br];by_cases hx:x=0
  ·subst hx;rfl
  ·rw[if_neg hx,iD0 hx,zP f (x/2) (by rw[Nat.pow_succ]at h;omega)]
theorem sV0 (x:Nat) (w:World) (hx:x<18446744073709551616):Calls Tryz.prog 178 #[.int .u64 x] w λe w'=>e=.returned (.int .i64 (bitLen x))/\w=w':=by
 refine(Tryz.bits_Len64 x w (by omega) (by omega)).mono ?_;rintro e w1 ⟨rfl,rfl⟩;exact⟨by rw[Bg];unfold Lib.bitLen;rw[zP 64 x hx],rfl⟩
theorem yV0:∃i,Tryz.prog.info? 213=some i/\i.zero=some (.int .u64 0)/\i.size=1/\i.bytes=8:=by
 obtain⟨i,z,h1,h2,h3,h4,_⟩:=yO0.info;have h:(Tryz.prog.info? 213).map (λi=>i.zero)=some (some (.int .u64 0)):=by kernel_rfl
 rw[h1]at h;exact⟨i,h1,by simpa using h,h3,h4⟩
theorem bW1 (n:Nat) (W:World) (hn:n<=1048576):(Instr.makeSlice 206 (.int .i64 n) (.int .i64 n)).run Tryz.prog W=.ok (.slice (some ⟨W.heap.size,0,none⟩) n n) (W.alloc (.cells (madeCells #[.int .u64 0] (n*1)) 213)):=by
 obtain⟨i,h1,h2,h3,h4⟩:=yV0;have h:=run_make (P:=Tryz.prog) W 206 213 i (.int .u64 0) Tryz.underlying206 h1 h2 .i64 .i64 n n (by omega) (Int.le_refl _) (by rw[h4];omega) (by omega);rw[Bg,h3]at h;exact h
theorem fM0 {w:World} {n:Nat} (hn:n<=1048576):aU (w.alloc (.cells (madeCells #[.int .u64 0] (n*1)) 213)) w.heap.size 213 1 kH (.slice (some ⟨w.heap.size,0,none⟩) n n) (An n 0) :=
 jQ (enc:=kH) (λ_=>rfl) (Ak _) (An n 0) (by
  rw[toList_madeCells_one,Bk];unfold kH;rw[qN,List.map_replicate];rfl) (by simp) (by unfold maxLen;omega)
theorem nJ0 (W q:Nat):dI [] W q=An q 0:=by
 unfold dI;apply Ax
 intro k;by_cases hk:k<q
 ·rw[Bf,Bc hk,List.getElem?_replicate,if_pos hk]
  simp[tQ0]
 ·rw[Ae (by simp;omega),Ae (by simp;omega)]
theorem hH0 {l:List Nat} {v q:Nat} (h:∀n∈l++[v],n<2^0):dI (l++[v]) 0 q=dI l 0 q:=by
 unfold dI;apply List.map_congr_left
 intro k _;rw[aJ0 _ k h,aJ0 l k (λn hn=>h n (by simp[hn]))]
theorem rZ0 (pb i v:Nat) (w:World) (c1:w.cell? ⟨pb,1,none⟩=some (.int .i64 0)) :
  Calls Tryz.prog 184 #[.pointer (some ⟨pb,0,none⟩),.int .i64 i,.int .u64 v] w λe w'=>e=.returned (.tuple #[])/\w=w':=by
 go_enter Tryz.func184,Tryz.ntmps184
 go_wp2_with fail
 refine bodyPost_ret (v:=.tuple #[]) (by simp[results,Tryz.results184,go_sem]) rfl ⟨rfl,rfl⟩
theorem cF0 (w:World) (cs:Array Value) (t:TypeId) (j:Nat):(w.alloc (.cells cs t)).frozen? ⟨w.heap.size,j,none⟩=false:=by
 have h:(w.alloc (.cells cs t)).heap[w.heap.size]?=some (.cells cs t):=heap_alloc_new w _;unfold Bq;simp only[h];simp
theorem nI {α:Type} {w:World} {base:Nat} {e:TypeId} {k:Nat} {enc:α->List Value} {v:Value} {xs:List α} (h:aU w base e k enc v xs) {p:Addr} (hp:p.block<base) (u:Value):aU (w.setCell p u) base e k enc v xs:=by
 obtain⟨h1,h2⟩:=h;refine⟨h1,?_⟩;rcases h2 with h2|⟨g,cap,bv,hv,hb,hh,r⟩
 ·exact Or.inl h2
 ·refine Or.inr ⟨g,cap,bv,hv,hb,?_,r⟩
  rw[heap_setCell_other w p g u (by omega)];exact hh
structure gA0 (w:World) (pb:Nat) (l:List Nat):Prop where
 c0:w.cell? ⟨pb,0,none⟩=some (.int .i64 l.length)
 c1:w.cell? ⟨pb,1,none⟩=some (.int .i64 (nQ l))
 c2:∃wb,pb<wb/\w.cell? ⟨pb,2,none⟩=some (.slice (some ⟨wb,0,none⟩) ((l.length*nQ l+63)/64) ((l.length*nQ l+63)/64))/\aU w wb 213 1 kH (.slice (some ⟨wb,0,none⟩) ((l.length*nQ l+63)/64) ((l.length*nQ l+63)/64)) (dI l (nQ l) ((l.length*nQ l+63)/64))
theorem gA0.grows {w w':World} {pb:Nat} {l:List Nat} (h:gA0 w pb l) (hg:aB w w'):gA0 w' pb l:=by
 obtain⟨wb,h1,h2,h3⟩:=h.c2;exact⟨hg.cell h.c0,hg.cell h.c1,wb,h1,hg.cell h2,h3.grows hg⟩
theorem lD0 {l:List Nat} {k v:Nat} (h:l[k]?=some v):yC (l.take (k+1))=yC (l.take k)|||v:=by rw[bT h,nK0]
theorem cM0 (l:List Nat) (a:Option Addr) (c:Nat) (w:World) (hl:l.length<=1048576) (hn:∀n∈l,n<18446744073709551616) (ac:aF w a 1 (l.map kH)) :
  Calls Tryz.prog 120 #[.slice a l.length c] w λe w'=>e=.returned (.tuple #[.pointer (some ⟨w.heap.size,0,none⟩),.int .i64 0])/\gA0 w' w.heap.size l/\aB w w':=by
 have HAT:=Ad ac;have HN:=Ad hn;have dz:nQ l<=64:=pA.2 hn;obtain⟨W,hWe⟩:=exq (nQ l);rw[<-hWe]at dz;have HW:=Ad hWe;obtain⟨q,hq⟩:=exq ((l.length*W+63)/64);have hLW:l.length*W<=1048576*64:=Av hl dz;have ue:q<=1048576:=by omega
 have HQ:=Ad hq;have hlw:¬(1048576:Int)<l.length:=by omega
 clear ac hn hWe hq;go_enter Tryz.func120,Tryz.ntmps120
 go_wp2_with fail
 go_loop [4,15] (λv i=>∃k V:Nat,k<=l.length/\i=.int .i64 k/\v=.int .u64 V/\V<18446744073709551616/\Hid (V=yC (l.take k))) (λ_ i=>l.length-(intOf i).toNat)
 case atStart=>exact⟨0,0,Az _,rfl,rfl,by decide,rfl⟩
 case round =>
  obtain⟨k,V,hk,rfl,rfl,hV,ch⟩:=hrel;by_cases ae:k<l.length
  ·obtain⟨x,hx⟩:∃x,l[k]?=some x:=⟨_,Ai ae⟩
   obtain⟨b,o,rfl,hc⟩:=at1 HAT.out (aH ae);have jl:=hc k x hx;have jt:=HN.out x (Ao hx);have HI:Hid (V|||x=yC (l.take (k+1))):=by show _=_;rw[lD0 hx,<-ch.out]
   have xu:=u64_or_nat V x hV jt;have xm:V|||x<18446744073709551616:=Bh (n:=64) hV jt
   clear hc hx ch;go_wp2_with fail
   go_round
   case rel=>exact⟨k+1,V|||x,ae,by go_num,rfl,xm,HI.out⟩
   case measure=>simp[intOf];omega
  ·have i5:k=l.length:=by omega
   have cy:¬(k:Int)<l.length:=by omega
   have gb:bitLen V=W:=by rw[ch.out,i5,Bj,HW.out];rfl
   have CL:=sV0 V w hV;rw[gb]at CL;clear ch i5 gb;go_wp2_with fail
   refine CL.mono ?_;rintro e w1 ⟨rfl,rfl⟩;go_wp2_with fail
   obtain⟨WB,nr⟩:=exq (w.alloc (.cells #[.int .i64 l.length,.int .i64 W,.slice none 0 0] 279));have b0:WB.cell? ⟨w.heap.size,0,none⟩=some (.int .i64 l.length):=by rw[nr];exact aM w _ _ (0,0) 0 _ rfl
   have b1:WB.cell? ⟨w.heap.size,1,none⟩=some (.int .i64 W):=by rw[nr];exact aM w _ _ (0,0) 1 _ rfl
   have b2:WB.cell? ⟨w.heap.size,2,none⟩=some (.slice none 0 0):=by rw[nr];exact aM w _ _ (0,0) 2 _ rfl
   have bf:WB.frozen? ⟨w.heap.size,2,none⟩=false:=by rw[nr];exact(cF0 w _ _ 2)
   have jv:aB w WB:=by rw[nr];exact aB.alloc _ _
   have cw:WB.heap.size=w.heap.size+1:=by rw[nr];simp
   rw[<-nr];clear nr CL;obtain⟨M,hM⟩:=exq (l.length*W);have td:M<=1048576*64:=by rw[hM];exact hLW
   have hqM:(M+63)/64=q:=by rw[hM];exact HQ.out.symm
   have wM:IntKind.i64.wrap ((l.length:Int)*W)=M:=by
    have h1:(l.length:Int)*W=M:=by rw[hM];push_cast;rfl
    rw[h1];simp[Ab,Ac,Aa];omega
   have xv:IntKind.i64.wrap ((M:Int)+63)=(M:Int)+63:=by simp[Ab,Ac,Aa];omega
   have nt:((M:Int)+63)/64=q:=by omega
   have te:((M:Int)+63).tdiv 64=q:=by rw[Aw (by omega)];exact nt
   have z0:∀y:Ext aB WB.drew,y.u.cell? ⟨w.heap.size,0,none⟩=some (.int .i64 l.length):=aG ((aB.drew WB).cell b0);have z1:∀y:Ext aB WB.drew,y.u.cell? ⟨w.heap.size,1,none⟩=some (.int .i64 W):=aG ((aB.drew WB).cell b1);have wq:IntKind.i64.wrap (q:Int)=q:=by simp[Ab,Ac,Aa];omega
   have ml:=λ(Y:World)=>bW1 q Y ue;clear hLW hM;refine rP 13 (bB 13 [12]) (by kernel_rfl) (λd _ _ _ _ h=>by cases d<;>exact h) ?_
   iterate 12 (refine aO rfl (λK hK=>?_);go_simp;refine hK _ ?_;clear hK K)
   refine cH rfl rfl (λK hK=>?_);go_simp;refine⟨aB.alloc _ _,hK _ _ ?_⟩;clear hK K z0 z1 ml;refine bU ?_;simp only[List.drop_succ_cons,List.drop_zero];have ax:=fM0 (w:=WB) ue;rw[Bk,cw]at ax;obtain⟨W3,jw⟩:=exq ((WB.alloc (.cells (madeCells #[.int .u64 0] q) 213)).drew);have bg:aB WB W3:=by rw[jw];exact(aB.alloc WB _).dr
   have lg:aU W3 (w.heap.size+1) 213 1 kH (.slice (some ⟨w.heap.size+1,0,none⟩) q q) (An q 0):=by rw[jw];exact ax.grows (aB.drew _)
   rw[<-jw];clear ax;have b32:W3.cell? ⟨w.heap.size,2,none⟩=some (.slice none 0 0):=bg.cell b2;have b3f:W3.frozen? ⟨w.heap.size,2,none⟩=false:=by rw[bg.froz (by show w.heap.size<WB.heap.size;omega)];exact bf
   clear jw;have hWl:W3.heap.size >= WB.heap.size:=bg.size;have g0:=bg.cell b0;have g1:=bg.cell b1;go_wp2_with fail
   have e0:(W3.setCell ⟨w.heap.size,2,none⟩ (.slice (some ⟨w.heap.size+1,0,none⟩) q q)).cell? ⟨w.heap.size,0,none⟩=some (.int .i64 l.length):=(Af _ _ _ _ (λh=>by cases h)).trans g0;have e1:(W3.setCell ⟨w.heap.size,2,none⟩ (.slice (some ⟨w.heap.size+1,0,none⟩) q q)).cell? ⟨w.heap.size,1,none⟩=some (.int .i64 W):=(Af _ _ _ _ (λh=>by cases h)).trans g1;have e2:(W3.setCell ⟨w.heap.size,2,none⟩ (.slice (some ⟨w.heap.size+1,0,none⟩) q q)).cell? ⟨w.heap.size,2,none⟩=some (.slice (some ⟨w.heap.size+1,0,none⟩) q q):=World.cell?_setCell_same _ _ _ b32;have cj:=nI lg (p:=⟨w.heap.size,2,none⟩) (Aj _) (.slice (some ⟨w.heap.size+1,0,none⟩) q q);have di:aB w (W3.setCell ⟨w.heap.size,2,none⟩ (.slice (some ⟨w.heap.size+1,0,none⟩) q q)):=(jv.tr bg).set (Ak _) _;rw[<-nJ0 W q]at cj;generalize W3.setCell ⟨w.heap.size,2,none⟩ (.slice (some ⟨w.heap.size+1,0,none⟩) q q)=W4 at e0 e1 e2 cj di ⊢;have aco:l.length*W<=64*q:=by have:=HQ.out;omega
   have HQM:=Ad aco;clear b0 b1 b2 bf jv cw td hqM wM xv nt te wq bg lg b32 b3f hWl g0 g1 aco;go_loopw [46] (λi wr=>∃k:Nat,k<=l.length/\i=.int .i64 k/\wr.cell? ⟨w.heap.size,0,none⟩=some (.int .i64 l.length)/\wr.cell? ⟨w.heap.size,1,none⟩=some (.int .i64 W)/\wr.cell? ⟨w.heap.size,2,none⟩=some (.slice (some ⟨w.heap.size+1,0,none⟩) q q)/\aU wr (w.heap.size+1) 213 1 kH (.slice (some ⟨w.heap.size+1,0,none⟩) q q) (dI (l.take k) W q)/\aB w wr) (λi _=>l.length-(intOf i).toNat)
   case atStart=>exact⟨0,Az _,rfl,e0,e1,e2,cj,di⟩
   case round =>
    obtain⟨k,hk,rfl,d0,d1,d2,aa,hg⟩:=hrel;by_cases ae:k<l.length
    ·obtain⟨x,hx⟩:∃x,l[k]?=some x:=⟨_,Ai ae⟩
     obtain⟨b,o,rfl,hc⟩:=at1 HAT.out (aH ae);have jl:=hg.cell (hc k x hx);have cy:(k:Int)<l.length:=by omega
     by_cases et:W=0
     ·have HO:Hid (aU wr (w.heap.size+1) 213 1 kH (.slice (some ⟨w.heap.size+1,0,none⟩) q q) (dI (l.take (k+1)) W q)):=by
       show aU _ _ _ _ _ _ _
       rw[bT hx];have h1:=aa;rw[et]at h1 ⊢
       rw[hH0 (l:=l.take k) (v:=x) (λn hn=>by
        rw[<-bT hx]at hn;have h2:=tV0 (List.mem_of_mem_take hn);rwa [<-HW.out,et]at h2)]
       exact h1
      have C0:=rZ0 w.heap.size k x wr (by rw[d1,et];rfl);clear hc hx et;go_wp2_with fail
      refine C0.mono ?_;rintro e w5 ⟨rfl,rfl⟩;go_wp2_with fail
      go_roundw
      case rel=>exact⟨k+1,ae,by go_num,d0,d1,d2,HO.out,hg⟩
      case measure=>simp[intOf];omega
     ·have eu:(k+1)*W<=64*q:=Nat.le_trans (Ba W (show k+1<=l.length by omega)) HQM.out
      have CS:=yA0 w.heap.size (w.heap.size+1) q W x k (w.heap.size+1) (l.take k) wr (by omega) dz (by rw[At];omega) (by omega) (by rw[HW.out];exact tV0 (Ao hx)) eu ue d1 d2 (Aj _) aa;rw[<-bT hx]at CS;clear hc hx eu;go_wp2_with fail
      refine CS.mono ?_;rintro e w5 ⟨rfl,ak,ck⟩;go_wp2_with fail
      go_roundw
      case rel=>exact⟨k+1,ae,by go_num,by rw[Below.cell ck.1 (Aj _)];exact d0,by rw[Below.cell ck.1 (Aj _)];exact d1,by rw[Below.cell ck.1 (Aj _)];exact d2,ak,Below.trans hg (Below.mono ck.1 (Nat.le_succ _))⟩
      case measure=>simp[intOf];omega
    ·have cy:¬(k:Int)<l.length:=by omega
     have i5:k=l.length:=by omega
     have HP:Hid (gA0 wr w.heap.size l):=by
      refine⟨d0,by rw[<-HW.out];exact d1,w.heap.size+1,Aj _,?_,?_⟩
      ·rw[<-HW.out,<-HQ.out];exact d2
      ·rw[<-HW.out,<-HQ.out]
       rw[i5,Bj]at aa;exact aa
     clear i5;go_wp2_with fail
     refine bodyPost_ret (v:=.tuple #[.pointer (some ⟨w.heap.size,0,none⟩),.int .i64 0]) (by simp[results,Tryz.results120,go_sem]) rfl ⟨rfl,HP.out,hg⟩
theorem lM0 (n w:Nat) (hw:w<=64):(#[Value.int .u8 (IntKind.u8.wrap (n:Int)),.int .u8 (IntKind.u8.wrap ((n:Int)/256)),.int .u8 (IntKind.u8.wrap ((n:Int)/65536)),.int .u8 (IntKind.u8.wrap ((n:Int)/16777216)),.int .u8 (IntKind.u8.wrap (w:Int))]:Array Value).toList=(leB 4 n++[Al w]).flatMap aV:=by
 have h:=tD0 n w hw;rw[Ap,Ap,Ap,Ap,Ap,show (w:Int)%256=w by omega]
 exact h
def tE (l:List Nat) (k:Nat):List UInt8:=(Bt k).map λj=>Al (eC (bitAt l (nQ l)) (8*j) 8)
theorem hM0 (l:List Nat) (k:Nat):tE l (k+1)=tE l k++[Al (fD l (nQ l) (k/8)>>>(k%8*8))]:=by
 unfold tE;rw[List.range_succ,List.map_append];simp only[List.map_cons,List.map_nil];rw[<-nT0 l (nQ l) k,eH0]
theorem oD0 (l:List Nat) (k:Nat):(tE l k).length=k:=by simp[tE]
theorem cG0 (l:List Nat) (pb:Nat) (w:World) (hl:l.length<=1048576) (hn:∀n∈l,n<18446744073709551616) (ac:gA0 w pb l) :
  Calls Tryz.prog 128 #[.pointer (some ⟨pb,0,none⟩)] w λe w'=>∃v,e=.returned v/\aU w' w.heap.size 5 1 aV v (cG l)/\aB w w':=by
 have dz:nQ l<=64:=pA.2 hn;have c0:=ac.c0;have c1:=ac.c1;obtain⟨wb,hpw,c2,aa⟩:=ac.c2;obtain⟨W,hWe⟩:=exq (nQ l);obtain⟨n,ai⟩:=exq l.length;rw[<-hWe]at dz c1 c2 aa;rw[<-ai]at hl c0 c2 aa;obtain⟨q,hq⟩:=exq ((n*W+63)/64);rw[<-hq]at c2 aa;have HW:=Ad hWe;have HNE:=Ad ai;have HOWN:=Ad aa;have HH:=Ad (lM0 n W dz);obtain⟨M,hM⟩:=exq (n*W);have td:M<=1048576*64:=by rw[hM];exact Av hl dz
 obtain⟨T,hT⟩:=exq ((M+7)/8);have hTq:T<=8*q:=by rw[hT,hq,<-hM];omega
 have hTb:T<=8388609:=by omega
 have HTE:Hid (T=(l.length*nQ l+7)/8):=by show _=_;rw[hT,hM,HNE.out,HW.out]
 have wM:IntKind.i64.wrap ((n:Int)*W)=M:=by
  have h1:(n:Int)*W=M:=by rw[hM];push_cast;rfl
  rw[h1];simp[Ab,Ac,Aa];omega
 have xv:IntKind.i64.wrap ((M:Int)+7)=(M:Int)+7:=by simp[Ab,Ac,Aa];omega
 have nt:((M:Int)+7)/8=T:=by omega
 have te:((M:Int)+7).tdiv 8=T:=by rw[Aw (by omega)];exact nt
 have wT:IntKind.i64.wrap (T:Int)=T:=by simp[Ab,Ac,Aa];omega
 have HWM:=Ad wM;have HWM2:=Ad xv;have HE1:=Ad nt;have HE2:=Ad te;have HWT:=Ad wT;have HL:=Ad hl;have z0:∀y:Ext aB w.drew,y.u.cell? ⟨pb,0,none⟩=some (.int .i64 n):=aG ((aB.drew w).cell c0);have z1:∀y:Ext aB w.drew,y.u.cell? ⟨pb,1,none⟩=some (.int .i64 W):=aG ((aB.drew w).cell c1);clear hn ac hWe ai hM hT aa wM xv nt te wT hl td hpw hq;go_enter Tryz.func128,Tryz.ntmps128
 go_wp2_with fail
 refine bP (bB 30 [28,29]) (by kernel_rfl) (λd _ _ _ _ h=>by cases d<;>exact h) ?_
 iterate 28 (refine aO rfl (λK hK=>?_);go_simp;refine hK _ ?_;clear hK K)
 refine cH rfl rfl (λK hK=>?_);go_simp;refine⟨aB.alloc _ _,hK _ _ ?_⟩;clear hK K z0 z1;iterate 1 (refine cH rfl rfl (λK hK=>?_);go_simp;refine⟨aB.refl _,hK _ _ ?_⟩;clear hK K)
 refine bU ?_;have f8:=(jQ (enc:=aV) (e:=5) (w:=w) (base:=w.heap.size) (λ_=>rfl) (Ak _) (leB 4 n++[Al W]) HH.out (n:=5) (by simp[dF]) (by decide)).grows (aB.drew _);obtain⟨w1,hw1⟩:=exq ((w.alloc (.cells #[.int .u8 (IntKind.u8.wrap (n:Int)),.int .u8 (IntKind.u8.wrap ((n:Int)/256)),.int .u8 (IntKind.u8.wrap ((n:Int)/65536)),.int .u8 (IntKind.u8.wrap ((n:Int)/16777216)),.int .u8 (IntKind.u8.wrap (W:Int))] 5)).drew);have aj:aB w w1:=by rw[hw1];exact(aB.alloc _ _).dr
 rw[<-hw1]at f8 ⊢;clear hw1 HH;generalize IntKind.u8.wrap (n:Int)=y1;generalize IntKind.u8.wrap ((n:Int)/256)=y2;generalize IntKind.u8.wrap ((n:Int)/65536)=y3;generalize IntKind.u8.wrap ((n:Int)/16777216)=y4;generalize IntKind.u8.wrap (W:Int)=y5;go_wp2_with fail
 have wM:=HWM.out;have xv:=HWM2.out;have nt:=HE1.out;have te:=HE2.out;have wT:=HWT.out;have z0:∀y:Ext aB w1.drew,y.u.cell? ⟨pb,0,none⟩=some (.int .i64 n):=aG (aj.dr.cell c0);have z1:∀y:Ext aB w1.drew,y.u.cell? ⟨pb,1,none⟩=some (.int .i64 W):=aG (aj.dr.cell c1);refine bP (bB 12 []) (by kernel_rfl) (λd _ _ _ _ h=>by cases d<;>exact h) ?_
 iterate 12 (refine aO rfl (λK hK=>?_);go_simp;refine hK _ ?_;clear hK K)
 refine bU ?_;clear z0 z1 wM xv nt te wT;go_wp2_with fail
 go_loopw [3,47] (λout i wr=>∃(k:Nat) (acc:List UInt8),k<=T/\i=.int .i64 k/\Hid (acc=leB 4 n++[Al W]++tE l k)/\aU wr w.heap.size 5 1 aV out acc/\aB w wr) (λ_ i _=>T-(intOf i).toNat)
 case atStart=>exact⟨0,_,Az _,rfl,(by show _=_;simp[tE]),f8.grows (aB.drew _),aj.dr⟩
 case round =>
  obtain⟨k,acc,hk,rfl,bh,aa,hg⟩:=hrel;by_cases ae:k<T
  ·have cy:(k:Int)<T:=by omega
   obtain⟨J,hJ⟩:=exq (k/8);obtain⟨R,hR⟩:=exq (k%8*8);have hJq:J<q:=by omega
   have hRb:R<=56:=by omega
   have eJ:(k:Int)/8=J:=by omega
   have eR:(k:Int)%8*8=R:=by omega
   have wR:IntKind.u64.wrap (R:Int)=R:=by simp[Ab,Ac,Aa];omega
   obtain⟨x,hx⟩:=exq (fD l W J);have jl:wr.cell? ⟨wb,J,none⟩=some (.int .u64 x):=hg.cell (dN (f:=λn:Nat=>Value.int .u64 n) HOWN.out (by rw[dZ hJq,hx]));have c2r:=hg.cell c2
   have HN:Hid (acc++[Al (x>>>R)]=leB 4 n++[Al W]++tE l (k+1)):=by
    show _=_
    rw[hM0,<-HW.out,<-hJ,<-hR,<-hx,bh.out,Bi]
   have HB:Hid ([Value.int .u8 ((x:Int)/2^R%256)]=aV (Al (x>>>R))):=by
    show _=_
    rw[aZ0];exact eX0 _
   have js:acc.length<=5+k:=by rw[bh.out,Be,oD0];simp[dF]<;>omega
   have hJi:(J:Int)<q:=by omega
   clear hJ hR hx bh;go_wp2_with (at_builtin;refine tG0 bF rfl _ _ rfl w.heap.size _ acc (Al (x>>>R)) rfl aa (aB.refl _) _ 1 rfl _ (by exact HB.out) rfl (by omega) hg.size ?_;intro v' w5 ak bk)
   go_roundw
   case rel=>exact⟨k+1,_,ae,by go_num,HN.out,ak,bk w hg (Ak _)⟩
   case measure=>simp[intOf];omega
  ·have cy:¬(k:Int)<T:=by omega
   have HF:Hid (acc=cG l):=by
    show _=_
    have hkT:k=T:=by omega
    rw[bh.out,hkT,HTE.out,HNE.out,HW.out];rfl
   clear bh;go_wp2_with fail
   go_ret;exact⟨_,rfl,by rw[<-HF.out];exact aa,hg⟩
def jT {α:Type} (l:List α) (z:α) (k:Nat):List α:=l.take k++An (l.length-k) z
theorem kM {α:Type} (l:List α) (z:α) {k:Nat} (h:k<=l.length):(jT l z k).length=l.length:=by
 unfold jT;rw[Be,At,List.length_replicate];omega
theorem nM {α:Type} (l:List α) (z:α):jT l z 0=An l.length z:=by simp[jT]
theorem pG {α:Type} (l:List α) (z:α):jT l z l.length=l:=by simp[jT]
theorem pM {α:Type} {l:List α} {z x:α} {k:Nat} (h:l[k]?=some x):(jT l z k).set k x=jT l z (k+1):=by
 have hk:k<l.length:=(List.getElem?_eq_some_iff.1 h).1;unfold jT;rw[List.set_append_right _ _ (by rw[At];omega),bT h,Bi];congr 1
 rw[show k-(l.take k).length=0 by rw[At];omega,show l.length-k=(l.length-(k+1))+1 by omega,List.replicate_succ]
 rfl
theorem lD (l:List Nat) (a:Option Addr) (c:Nat) (w:World) (hl:l.length<=1048576) (hn:∀n∈l,n<9223372036854775808) (ac:aF w a 1 (l.map gU)) :
  Calls Tryz.prog 63 #[.slice a l.length c] w λe w'=>∃v,e=.returned v/\aU w' w.heap.size 5 1 aV v (cG l)/\aB w w':=by
 have HAT:=Ad ac;have HN:=Ad hn;have ml:=λ(Y:World)=>bW1 l.length Y hl;have CP:=λ(W:World) (q c:Nat) (h:aF W (some ⟨q,0,none⟩) 1 (l.map kH))=>Ad (cM0 l (some ⟨q,0,none⟩) c W hl (λn hn'=>by have:=hn n hn';omega) h);have CE:=λ(W:World) (q:Nat) (h:gA0 W q l)=>Ad (cG0 l q W hl (λn hn'=>by have:=hn n hn';omega) h);clear ac hn;go_enter Tryz.func63,Tryz.ntmps63
 go_wp2_with fail
 have ax:=fM0 (w:=w) (n:=l.length) hl;rw[Bk,<-nM l 0]at ax;obtain⟨W1,cq⟩:=exq (w.alloc (.cells (madeCells #[.int .u64 0] l.length) 213));have du:aB w W1:=by rw[cq];exact aB.alloc _ _
 rw[<-cq]at ax ⊢;clear cq;go_loopw [13] (λi wr=>∃(k:Nat),k<=l.length/\i=.int .i64 k/\aU wr w.heap.size 213 1 kH (.slice (some ⟨w.heap.size,0,none⟩) l.length l.length) (jT l 0 k)/\aB w wr) (λi _=>l.length-(intOf i).toNat)
 case atStart=>exact⟨0,Az _,rfl,ax,du⟩
 case round =>
  clear ax du;obtain⟨k,hk,rfl,aa,hg⟩:=hrel;by_cases ae:k<l.length
  ·obtain⟨x,hx⟩:∃x,l[k]?=some x:=⟨_,Ai ae⟩
   obtain⟨b,o,rfl,hc⟩:=at1 (HAT.out.grows hg) (aH ae);have jl:=hc k x hx;have acp:=HN.out x (Ao hx);have wx:IntKind.u64.wrap (x:Int)=x:=by simp[Ab,Ac,Aa];omega
   have uf:=kM l 0 hk;obtain⟨y,hy⟩:∃y,(jT l 0 k)[k]?=some y:=⟨_,Ai (by omega)⟩;have e1:=dN (f:=λn:Nat=>Value.int .u64 n) aa hy;obtain⟨f1,_,av⟩:=eF (f:=λn:Nat=>Value.int .u64 n) aa (k:=k) (by omega) x;rw[pM hx]at av;have HO:=Ad av;clear hc hx hy aa av uf;go_wp2_with fail
   go_roundw
   case rel=>exact⟨k+1,by omega,by go_num,HO.out,hg.set (Ak _) _⟩
   case measure=>simp[intOf];omega
  ·obtain rfl:k=l.length:=by omega
   rw[pG]at aa;obtain⟨a1,c1,e1,_,_,dp⟩:=aa.at_ (k:=1) (λx=>(rfl:(kH x).length=1));have e2:=(Value.slice.inj e1).1;subst e2;have CP1:=CP wr w.heap.size l.length dp;clear CP e1 dp aa;go_wp2_with fail
   refine CP1.out.mono ?_;rintro e w2 ⟨rfl,hp,af⟩;have CE1:=CE w2 wr.heap.size hp;clear CE CP1 hp;have af:=aB.trans _ _ _ hg af;go_wp2_with fail
   refine CE1.out.mono ?_;rintro e w3 ⟨v,rfl,hv,bg⟩;go_wp2_with fail
   go_ret;exact⟨v,rfl,hv.base af.size,aB.trans _ _ _ af bg⟩
theorem rK (l:List Nat) (W Q t:Nat) (ht:t<64):(fD l W Q).testBit t=bitAt l W (64*Q+t):=by
 unfold fD;rw[cY];simp[ht]
theorem vR0 {l:List Nat} {W i x Q S:Nat} (hx:l[i]?=some x) (py:x<2^W) (hQ:i*W=64*Q+S) (eu:S+W<=64):(fD l W Q>>>S)&&&(2^W-1)=x:=by
 apply Bb
 intro t;rw[Bn,Au,Ay];by_cases ht:t<W
 ·rw[rK _ _ _ _ (by omega),<-Bs,<-hQ,cN0 hx ht]
  simp[ht]
 ·simp only[ht,decide_false,Bp]
  exact(As (Aq py (Ah (by decide) (by omega)))).symm
theorem wL0 {l:List Nat} {W i x Q S:Nat} (hx:l[i]?=some x) (py:x<2^W) (hQ:i*W=64*Q+S) (hS:S<64) (hW:W<=64) (eu:64<S+W) :
  ((fD l W Q>>>S)|||(fD l W (Q+1)<<<(64-S))%18446744073709551616)&&&(2^W-1)=x:=by
 apply Bb
 intro t;rw[Bn,Au,Nat.testBit_or,Ay];by_cases ht:t<W
 ·rw[bA0 (by omega)]
  by_cases h1:S+t<64
  ·rw[rK _ _ _ _ h1,<-Bs,<-hQ,cN0 hx ht]
   simp[ht,show ¬64-S<=t by omega]
  ·rw[show (fD l W Q).testBit (S+t)=false by
    apply As
    exact Aq (kY l W Q) (Ah (n:=2) (by decide) (show 64<=S+t by omega))]
   rw[rK _ _ _ _ (by omega),show 64*(Q+1)+(t-(64-S))=i*W+t by omega,cN0 hx ht]
   simp[ht,show 64-S<=t by omega]
 ·simp only[ht,decide_false,Bp]
  exact(As (Aq py (Ah (by decide) (by omega)))).symm
theorem uL0 {W:Nat} (hW:W<=64):IntKind.u64.wrap (IntKind.u64.wrap (2^W)-1)=((2^W-1:Nat):Int):=by
 have h:∀V:Fin 65,IntKind.u64.wrap (IntKind.u64.wrap (2^V.val)-1)=((2^V.val-1:Nat):Int):=by decide +kernel
 exact h ⟨W,by omega⟩
theorem aQ1 (pb wb q W i x base:Nat) (l:List Nat) (w:World) (hW:W<=64) (jf:l.length<=1048576) (hx:l[i]?=some x) (py:x<2^W) (hq:l.length*W<=64*q)
  (c1:w.cell? ⟨pb,1,none⟩=some (.int .i64 W)) (c2:w.cell? ⟨pb,2,none⟩=some (.slice (some ⟨wb,0,none⟩) q q)) (aa:aU w base 213 1 kH (.slice (some ⟨wb,0,none⟩) q q) (dI l W q)) :
  Calls Tryz.prog 212 #[.pointer (some ⟨pb,0,none⟩),.int .i64 i] w λe w'=>e=.returned (.int .u64 x)/\(w'=w\/w'=w.drew):=by
 have xw:=(List.getElem?_eq_some_iff.1 hx).1;by_cases et:W=0
 ·have l5:x=0:=by rw[et]at py;simpa using py
  subst l5;subst et;clear aa;go_enter Tryz.func212,Tryz.ntmps212
  go_wp2_with fail
  go_ret;exact⟨rfl,Or.inl rfl⟩
 ·have ld:(W:Int)≠0:=by omega
  obtain⟨M,hM⟩:=exq (i*W)
  have hMq:M+W<=64*q:=by
   have h1:(i+1)*W<=l.length*W:=Ba _ (by omega);rw[Nat.add_mul]at h1;omega
  have ahp:M<=1048576*64:=by rw[hM];exact Av (by omega) hW
  obtain⟨Q,hQ⟩:=exq (M/64);obtain⟨S,hS⟩:=exq (M%64);have ud:i*W=64*Q+S:=by rw[<-hM];omega
  have mj:S<64:=by omega
  have ri:Q<q:=by omega
  have wM:IntKind.i64.wrap ((i:Int)*W)=M:=by
   have h1:(i:Int)*W=M:=by rw[hM];push_cast;rfl
   rw[h1];simp[Ab,Ac,Aa];omega
  have eQ:(M:Int)/64=Q:=by omega
  have eS:(M:Int)%64=S:=by omega
  obtain⟨y,hy⟩:=exq (fD l W Q);have ju:y<18446744073709551616:=by rw[hy];exact kY l W Q
  have d1:w.drew.cell? ⟨wb,Q,none⟩=some (.int .u64 y):=(aB.drew w).cell (dN (f:=λn:Nat=>Value.int .u64 n) aa (by rw[dZ ri,hy]));have z1:∀y:Ext aB w.drew,y.u.cell? ⟨pb,1,none⟩=some (.int .i64 W):=aG ((aB.drew w).cell c1);have hQi:(Q:Int)<q:=by omega
  have g1:w.drew.cell? ⟨pb,1,none⟩=some (.int .i64 W):=(aB.drew w).cell c1;have g2:w.drew.cell? ⟨pb,2,none⟩=some (.slice (some ⟨wb,0,none⟩) q q):=(aB.drew w).cell c2;have afp:IntKind.i64.wrap ((S:Int)+W)=(S:Int)+W:=by simp[Ab,Ac,Aa];omega
  have ml:=uL0 hW
  have hmn:2^W-1<18446744073709551616:=by
   have:2^W<=2^64:=Ah (by decide) hW
   have e:(2:Nat)^64=18446744073709551616:=by decide
   omega
  obtain⟨v0,s9⟩:=exq (y>>>S);have hsh:(y:Int)/2^S=(v0:Nat):=by rw[s9];exact aZ0 y S
  have rj:v0<18446744073709551616:=by rw[s9];exact Bd (Nat.shiftRight_le _ _) ju
  by_cases gz:S+W<=64
  ·have hsw:¬(64:Int)<(S:Int)+W:=by omega
   have hand:bits .and .u64 (v0:Int) ((2^W-1:Nat):Int)=(x:Int):=by
    rw[u64_and_nat _ _ rj hmn,s9,hy,vR0 hx py ud gz]
   obtain⟨MK,hMK⟩:=exq (2^W-1);rw[<-hMK]at hand ml;clear hM hQ hS ud hy aa hMq hx py s9 hMK;go_enter Tryz.func212,Tryz.ntmps212
   go_wp2_with fail
   refine bP (bB 17 []) (by kernel_rfl) (λd _ _ _ _ h=>by cases d<;>exact h) ?_
   iterate 17 (refine aO rfl (λK hK=>?_);go_simp;refine hK _ ?_;clear hK K)
   refine bU ?_;clear z1;go_wp2_with fail
   go_ret;exact⟨rfl,Or.inr rfl⟩
  ·have gz:64<S+W:=by omega
   have hsw:(64:Int)<(S:Int)+W:=by omega
   have xq:Q+1<q:=by omega
   have afq:(Q:Int)+1<q:=by omega
   obtain⟨y1,lf⟩:=exq (fD l W (Q+1));have ag4:y1<18446744073709551616:=by rw[lf];exact kY l W _
   have d2:w.drew.cell? ⟨wb,Q+1,none⟩=some (.int .u64 y1):=(aB.drew w).cell (dN (f:=λn:Nat=>Value.int .u64 n) aa (by rw[dZ xq,lf]));have xu:=kW0 (v:=y1) (S:=64-S) rj;obtain⟨v1,jp⟩:=exq (v0|||(y1<<<(64-S))%18446744073709551616)
   rw[<-jp]at xu;have abt:v1<18446744073709551616:=by rw[jp];exact Bh (n:=64) rj (Bu _ (by decide))
   have hT:(64:Int)-S=((64-S:Nat):Int):=by omega
   have hTw:IntKind.u64.wrap ((64-S:Nat):Int)=((64-S:Nat):Int):=by simp[Ab,Ac,Aa];omega
   have hand:bits .and .u64 (v1:Int) ((2^W-1:Nat):Int)=(x:Int):=by
    rw[u64_and_nat _ _ abt hmn,jp,s9,hy,lf,wL0 hx py ud mj hW gz]
   obtain⟨MK,hMK⟩:=exq (2^W-1);rw[<-hMK]at hand ml;clear hM hQ hS ud hy aa hMq hx py s9 hMK lf jp;go_enter Tryz.func212,Tryz.ntmps212
   go_wp2_with fail
   refine bP (bB 17 []) (by kernel_rfl) (λd _ _ _ _ h=>by cases d<;>exact h) ?_
   iterate 17 (refine aO rfl (λK hK=>?_);go_simp;refine hK _ ?_;clear hK K)
   refine bU ?_;clear z1;go_wp2_with fail
   go_ret;exact⟨rfl,Or.inr rfl⟩
theorem jG0 (pb wb q W i x base:Nat) (l:List Nat) (w:World) (hW:W<=64) (jf:l.length<=1048576) (hx:l[i]?=some x) (py:x<2^W) (hq:l.length*W<=64*q)
 (c1:w.cell? ⟨pb,1,none⟩=some (.int .i64 W)) (c2:w.cell? ⟨pb,2,none⟩=some (.slice (some ⟨wb,0,none⟩) q q)) (aa:aU w base 213 1 kH (.slice (some ⟨wb,0,none⟩) q q) (dI l W q)) :
 Calls Tryz.prog 212 #[.pointer (some ⟨pb,0,none⟩),.int .i64 i] w λe w'=>e=.returned (.int .u64 x)/\aB w w':=(aQ1 pb wb q W i x base l w hW jf hx py hq c1 c2 aa).mono λe w' ⟨h1,h2⟩=>⟨h1,by rcases h2 with rfl|rfl<;>first|exact aB.refl _|exact aB.drew _⟩
theorem rB {l:List Nat} {x:Nat} (h:x∈l):x<2^nQ l:=pA.1 (Ak _) x h
theorem uF (l:List Nat) (pb:Nat) (w:World) (ac:gA0 w pb l):Calls Tryz.prog 152 #[.pointer (some ⟨pb,0,none⟩)] w λe w'=>e=.returned (.int .i64 (l.length:Nat))/\w=w':=by
 have c0:=ac.c0;go_enter Tryz.func152,Tryz.ntmps152
 go_wp2_with fail
 go_ret;exact⟨rfl,rfl⟩
theorem tN0 (l:List Nat) (pb i x:Nat) (w:World) (ac:gA0 w pb l) (hl:l.length<=1048576) (hn:∀n∈l,n<18446744073709551616) (hx:l[i]?=some x):Calls Tryz.prog 153 #[.pointer (some ⟨pb,0,none⟩),.int .i64 i] w λe w'=>e=.returned (.tuple #[.int .u64 x,.bool true])/\aB w w':=by
 obtain⟨wb,h1,h2,h3⟩:=ac.c2;have xw:=(List.getElem?_eq_some_iff.1 hx).1;have CG:=Ad (jG0 pb wb ((l.length*nQ l+63)/64) (nQ l) i x wb l w (pA.2 hn) hl hx (rB (Ao hx)) (by omega) ac.c1 h2 h3);have CL:=Ad (uF l pb w ac);have h0:¬(i:Int)<0:=by omega
 have hi:(i:Int)<l.length:=by omega
 clear ac h2 h3 hx;go_enter Tryz.func153,Tryz.ntmps153
 go_wp2_with fail
 refine CL.out.mono ?_;rintro e w1 ⟨rfl,rfl⟩;go_wp2_with fail
 refine CG.out.mono ?_;rintro e w2 ⟨rfl,af⟩;go_wp2
 go_ret2;exact⟨rfl,af⟩
end
end Go.Proofs.YthgklnohcmaopaaGreatDoor
