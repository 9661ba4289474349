/- The texts Pk PkN PkE PkG Bnum, one behind the other. -/
import Derived.Test.YthgklnohcmaopaaGreatDoorBq18
import Derived.Test.YthgklnohcmaopaaGreatDoorShelf
import Derived.Laws.OwnMore
import Derived.OwnWalk
import Derived.Laws.MakeOwn
import Derived.Laws.BitsAllLaws
open Go.IntKind renaming signed → Aa,wrap → Ab,bits → Ac,wrap_u8' → Ap
open Go.Lib renaming hid → Ad,bitLenAux → Br
open List renaming getElem?_eq_none → Ae,length_set → Ag,getElem?_eq_getElem → Ai,getElem?_set_ne → Am,replicate → An,mem_of_getElem? → Ao,getElem?_set_self → Ar,length_take → At,ext_getElem? → Ax,getElem?_range → Bc,length_append → Be,getElem?_map → Bf,append_assoc → Bi,take_length → Bj,range → Bt
open Go.World renaming cell?_setCell_other → Af,frozen? → Bq
open Nat renaming pow_le_pow_right → Ah,lt_succ_self → Aj,le_refl → Ak,lt_of_lt_of_le → Aq,testBit_lt_two_pow → As,testBit_two_pow_sub_one → Au,mul_le_mul → Av,testBit_shiftRight → Ay,zero_le → Az,mul_le_mul_right → Ba,eq_of_testBit_eq → Bb,lt_of_le_of_lt → Bd,or_lt_two_pow → Bh,mul_one → Bk,testBit_and → Bn,add_assoc → Bs,mod_lt → Bu
open UInt8 renaming ofNat → Al
open Int renaming tdiv_eq_ediv_of_nonneg → Aw,toNat_natCast → Bg
open Go.Addr renaming block → Bo
open Bool renaming and_false → Bp
set_option maxHeartbeats 8000000
namespace Go.Proofs.YthgklnohcmaopaaGreatDoor
set_option maxRecDepth 100000
section
open Go Go.RowKit
attribute [local go_sem] aM aO
theorem kN {α:Type} (f:α->Value) (xs:List α):xs.flatMap (λx=>[f x])=xs.map f:=by
 induction xs with
 | nil=>rfl
 | cons x xs ih=>rw[List.flatMap_cons,ih];rfl
theorem dJ {α:Type} {f:α->Value} {w:World} {base g n c k:Nat} {e:TypeId} {xs:List α} (h:aT w base e 1 (λx=>[f x]) (.slice (some ⟨g,0,none⟩) n c) xs) (hk:k<xs.length) (y:α) :
  w.frozen? ⟨g,k,none⟩=false/\base<=g/\aT (w.setCell ⟨g,k,none⟩ (f y)) base e 1 (λx=>[f x]) (.slice (some ⟨g,0,none⟩) n c) (xs.set k y):=by
 rcases h.2 with ⟨h1,_⟩|⟨g',cap,b9,hv,hb,hh,hn,hc,hs,ht⟩
 ·cases h1
 ·have e1:=(Value.slice.inj hv).1
  have e2:=(Value.slice.inj hv).2.1;obtain rfl:g=g':=congrArg Bo (Option.some.inj e1);have hkc:k<b9.size:=by omega
  refine⟨by simp[Bq,hh],hb,?_⟩;have hl:(xs.set k y).length=xs.length:=Ag
  have hf:(xs.set k y).flatMap (λx=>[f x])=(xs.flatMap (λx=>[f x])).set k (f y):=by
   rw[kN,kN,List.map_set]
  unfold aT;rw[hl];refine⟨by rw[hf,Ag];exact h.1,Or.inr ⟨g,cap,b9.setIfInBounds k (f y),hv,hb,heap_setCell_same w g k b9 _ _ hh,hn,hc,by simpa using hs,?_⟩⟩;rw[hf,<-ht,Array.toList_setIfInBounds,List.take_set]
theorem bP {α:Type} {f:α->Value} {w:World} {base g n c k:Nat} {e:TypeId} {xs:List α} {x:α} (h:aT w base e 1 (λx=>[f x]) (.slice (some ⟨g,0,none⟩) n c) xs) (hx:xs[k]?=some x):w.cell? ⟨g,k,none⟩=some (f x):=by
 obtain⟨a,c2,he,_,_,ac⟩:=aT.at_ (enc:=λx=>[f x]) (λ_=>rfl) h;simp only[Value.slice.injEq]at he;rw[<-he.1]at ac;obtain⟨b1,o1,he1,bg⟩:=at1 (f:=f) ac (aH (List.getElem?_eq_some_iff.1 hx).1);obtain⟨rfl,rfl⟩:g=b1/\0=o1:=by simpa using he1
 have:=bg k x hx
 rwa [Nat.zero_add]at this
def dD (l:List Nat) (W q:Nat):List Nat:=(Bt q).map (eX l W)
theorem dV (l:List Nat) (W q:Nat):(dD l W q).length=q:=by simp[dD]
theorem dT {l:List Nat} {W q k:Nat} (h:k<q):(dD l W q)[k]?=some (eX l W k):=by
 unfold dD;rw[Bf,Bc h];rfl
theorem iJ0 {l:List Nat} {W v q Q S:Nat} (hW:0<W) (dh:W<=64) (hv:v<2^W) (hS:S<64) (hQ:l.length*W=64*Q+S) (dl:S+W<=64):dD (l++[v]) W q=(dD l W q).set Q (eX l W Q|||(v<<<S)%18446744073709551616):=by
 apply Ax
 intro k;by_cases hk:k<q
 ·rw[dT hk]
  by_cases oz:k=Q
  ·subst oz
   rw[Ar (by rw[dV];exact hk),aG0 hW hv hQ]
  ·rw[Am (Ne.symm oz),dT hk,vQ hW hv hS hQ oz (λ_=>dl) dh]
 ·rw[Ae (by rw[dV];omega),Ae (by rw[Ag,dV];omega)]
theorem iN0 {l:List Nat} {W v q Q S:Nat} (hW:0<W) (dh:W<=64) (hv:v<2^W) (hS:S<64) (hQ:l.length*W=64*Q+S) (_:64<S+W) (qu:Q+1<q) :
  dD (l++[v]) W q=((dD l W q).set Q (eX l W Q|||(v<<<S)%18446744073709551616)).set (Q+1) (eX l W (Q+1)|||v>>>(64-S)):=by
 apply Ax
 intro k;by_cases hk:k<q
 ·rw[dT hk]
  by_cases zb:k=Q+1
  ·subst zb
   rw[Ar (by rw[Ag,dV];exact hk),iM0 hW hv dh hS hQ]
  ·rw[Am (Ne.symm zb)]
   by_cases oz:k=Q
   ·subst oz
    rw[Ar (by rw[dV];exact hk),aG0 hW hv hQ]
   ·rw[Am (Ne.symm oz),dT hk,vQ hW hv hS hQ oz (λh=>absurd h zb) dh]
 ·rw[Ae (by rw[dV];omega),Ae (by rw[Ag,Ag,dV];omega)]
theorem aI0 {x v S:Nat} (hx:x<18446744073709551616):bits .or .u64 (x:Int) (IntKind.u64.wrap ((v:Int)*2^S))=((x|||(v<<<S)%18446744073709551616:Nat):Int):=by
 have h1:IntKind.u64.wrap ((v:Int)*2^S)=((v<<<S%18446744073709551616:Nat):Int):=by
  rw[Nat.shiftLeft_eq,show (v:Int)*2^S=((v*2^S:Nat):Int) by push_cast;rfl]
  generalize v*2^S=N;simp[Ab,Ac,Aa]
 rw[h1];exact u64_or_nat x _ hx (Bu _ (by decide))
theorem xP0 {x v T:Nat} (hx:x<18446744073709551616) (hv:v<18446744073709551616):bits .or .u64 (x:Int) ((v:Int)/2^T)=((x|||v>>>T:Nat):Int):=by
 rw[rV];exact u64_or_nat x _ hx (Bd (by rw[Nat.shiftRight_eq_div_pow];exact Nat.div_le_self _ _) hv)
theorem tS0 (pb wb q W v i base:Nat) (pre:List Nat) (w:World) (fe:0<W) (hW:W<=64) (hi:i=pre.length) (ou:i<=1048576) (hv:v<2^W) (dl:(i+1)*W<=64*q) (hq:q<=1048576)
  (c1:w.cell? ⟨pb,1,none⟩=some (.int .i64 W)) (c2:w.cell? ⟨pb,2,none⟩=some (.slice (some ⟨wb,0,none⟩) q q)) (hpw:pb<wb) (aa:aT w base 213 1 gT (.slice (some ⟨wb,0,none⟩) q q) (dD pre W q)) :
  Calls Tryz.prog 184 #[.pointer (some ⟨pb,0,none⟩),.int .i64 i,.int .u64 v] w λe w'=>e=.returned (.tuple #[])/\aT w' base 213 1 gT (.slice (some ⟨wb,0,none⟩) q q) (dD (pre++[v]) W q)/\EB wb w w':=by
 obtain⟨M,hM⟩:=exq (i*W);obtain⟨Q,hQ⟩:=exq (M/64);obtain⟨S,hS⟩:=exq (M%64);have qv:M<=1048576*64:=by rw[hM];exact Av ou hW
 have hMq:M+W<=64*q:=by rw[hM];rw[Nat.succ_mul]at dl;exact dl
 have r8:pre.length*W=64*Q+S:=by rw[<-hi,<-hM];omega
 have jk:S<64:=by omega
 have mz:Q<q:=by omega
 have abi:v<18446744073709551616:=Aq hv (Ah (n:=2) (by decide) hW)
 have wM:IntKind.i64.wrap ((i:Int)*W)=M:=by
  have h1:(i:Int)*W=M:=by rw[hM];push_cast;rfl
  rw[h1];simp[Ab,Ac,Aa];omega
 have eQ:(M:Int)/64=Q:=by omega
 have eS:(M:Int)%64=S:=by omega
 obtain⟨x,hx⟩:=exq (eX pre W Q);have fy:x<18446744073709551616:=by rw[hx];exact kF pre W Q
 have d1:w.cell? ⟨wb,Q,none⟩=some (.int .u64 x):=bP (f:=λn:Nat=>Value.int .u64 n) aa (by rw[dT mz,hx]);obtain⟨f1,_,ar⟩:=dJ (f:=λn:Nat=>Value.int .u64 n) (aa.grows (aB.drew w)) (k:=Q) (by rw[dV];exact mz) (x|||(v<<<S)%18446744073709551616)
 have HWB:=Ad (Nat.le_of_lt (World.block_lt_of_cell? w _ d1));have r9:=aI0 (v:=v) (S:=S) fy;obtain⟨x1,fx⟩:=exq (x|||(v<<<S)%18446744073709551616)
 rw[<-fx]at r9 ar;have aq:pb≠wb:=by omega
 have z1:∀y:Ext aB w.drew,y.u.cell? ⟨pb,1,none⟩=some (.int .i64 W):=aG ((aB.drew w).cell c1);have kc:(W:Int)≠0:=by omega
 have hQi:(Q:Int)<q:=by omega
 have g1:∀u,(w.drew.setCell ⟨wb,Q,none⟩ u).cell? ⟨pb,1,none⟩=some (.int .i64 W):=λu=>(Af _ _ _ _ (λh=>aq (congrArg Bo h).symm)).trans c1;have g2:∀u,(w.drew.setCell ⟨wb,Q,none⟩ u).cell? ⟨pb,2,none⟩=some (.slice (some ⟨wb,0,none⟩) q q):=λu=>(Af _ _ _ _ (λh=>aq (congrArg Bo h).symm)).trans c2;have ad7:IntKind.i64.wrap ((S:Int)+W)=(S:Int)+W:=by simp[Ab,Ac,Aa];omega
 by_cases gm:S+W<=64
 ·have hsw:¬(64:Int)<(S:Int)+W:=by omega
  have HF:Hid (dD (pre++[v]) W q=(dD pre W q).set Q x1):=by show _=_;rw[iJ0 fe hW hv jk r8 gm,fx,hx]
  have HO:=Ad ar;clear hM hQ hS r8 hx fx ar aa dl hMq hi hv;go_enter Tryz.func184,Tryz.ntmps184
  go_wp2_with fail
  refine bI (bB 17 []) (by kernel_rfl) (λd _ _ _ _ h=>by cases d<;>exact h) ?_
  iterate 17 (refine aK rfl (λK hK=>?_);go_simp;refine hK _ ?_;clear hK K)
  refine bT ?_;clear z1;go_wp2_with fail
  refine bodyPost_end (v:=.tuple #[]) (by simp[results,Tryz.results184,go_sem]) rfl ⟨rfl,?_,?_⟩
  ·rw[HF.out]
   exact HO.out
  ·exact EB.trans _ _ _ _ (EB.of (aB.drew w) HWB.out) ⟨(Below.refl wb w.drew).setCell (p:=⟨wb,Q,none⟩) (Ak wb) _,by simp⟩
 ·have gm:64<S+W:=by omega
  have hsw:(64:Int)<(S:Int)+W:=by omega
  have qu:Q+1<q:=by omega
  have ad8:(Q:Int)+1<q:=by omega
  obtain⟨y,hy⟩:=exq (eX pre W (Q+1));have gn:y<18446744073709551616:=by rw[hy];exact kF pre W _
  have hYg:((dD pre W q).set Q x1)[Q+1]?=some y:=by rw[Am (by omega),dT qu,hy]
  have e1:=bP (f:=λn:Nat=>Value.int .u64 n) aa (k:=Q+1) (x:=y) (by rw[dT qu,hy]);obtain⟨f3,_,_⟩:=dJ (f:=λn:Nat=>Value.int .u64 n) aa (k:=Q+1) (by rw[dV];exact qu) y;obtain⟨f2,_,af⟩:=dJ (f:=λn:Nat=>Value.int .u64 n) ar (k:=Q+1) (by rw[Ag,dV];exact qu) (y|||v>>>(64-S))
  have ad9:=xP0 (x:=y) (v:=v) (T:=64-S) gn abi;obtain⟨y1,ke⟩:=exq (y|||v>>>(64-S))
  rw[<-ke]at ad9 af;have hT:(64:Int)-S=((64-S:Nat):Int):=by omega
  have hTw:IntKind.u64.wrap ((64-S:Nat):Int)=((64-S:Nat):Int):=by simp[Ab,Ac,Aa];omega
  have HF:Hid (dD (pre++[v]) W q=((dD pre W q).set Q x1).set (Q+1) y1):=by show _=_;rw[iN0 fe hW hv jk r8 gm qu,fx,hx,ke,hy]
  have HO:=Ad af;clear hM hQ hS r8 hx fx ar aa dl hMq hi hv hy ke af hYg;go_enter Tryz.func184,Tryz.ntmps184
  go_wp2_with fail
  refine bI (bB 17 []) (by kernel_rfl) (λd _ _ _ _ h=>by cases d<;>exact h) ?_
  iterate 17 (refine aK rfl (λK hK=>?_);go_simp;refine hK _ ?_;clear hK K)
  refine bT ?_;clear z1;go_wp2_with fail
  refine bodyPost_end (v:=.tuple #[]) (by simp[results,Tryz.results184,go_sem]) rfl ⟨rfl,?_,?_⟩
  ·rw[HF.out]
   exact HO.out
  ·exact EB.trans _ _ _ _ (EB.of (aB.drew w) HWB.out) ⟨((Below.refl wb w.drew).setCell (p:=⟨wb,Q,none⟩) (Ak wb) _).setCell (p:=⟨wb,Q+1,none⟩) (Ak wb) _,by simp⟩
theorem eC0 {x:Nat} (h:x≠0):bitLen x=1+bitLen (x/2):=by
 unfold bitLen;rw[if_neg h];by_cases h1:x=1
 ·subst h1;rfl
 ·rw[if_neg (by omega),Nat.log2_def,if_pos (by omega)]
  omega
theorem xA:∀(f x:Nat),x<2^f->Br f x=bitLen x
 | 0,x,h=>by
  obtain rfl:x=0:=by simpa using h
  rfl
 | f+1,x,h=>by
  rw[Br];by_cases hx:x=0
  ·subst hx;rfl
  ·rw[if_neg hx,eC0 hx,xA f (x/2) (by rw[Nat.pow_succ]at h;omega)]
theorem pK0 (x:Nat) (w:World) (hx:x<18446744073709551616):Calls Tryz.prog 178 #[.int .u64 x] w λe w'=>e=.returned (.int .i64 (bitLen x))/\w=w':=by
 refine(Tryz.bits_Len64 x w (by omega) (by omega)).mono ?_;rintro e w1 ⟨rfl,rfl⟩;exact⟨by rw[Bg];unfold Lib.bitLen;rw[xA 64 x hx],rfl⟩
theorem wB0:∃i,Tryz.prog.info? 213=some i/\i.zero=some (.int .u64 0)/\i.size=1/\i.bytes=8:=by
 obtain⟨i,z,h1,h2,h3,h4,_⟩:=nA0.info;have h:(Tryz.prog.info? 213).map (λi=>i.zero)=some (some (.int .u64 0)):=by kernel_rfl
 rw[h1]at h;exact⟨i,h1,by simpa using h,h3,h4⟩
theorem xX0 (n:Nat) (W:World) (hn:n<=1048576):(Instr.makeSlice 206 (.int .i64 n) (.int .i64 n)).run Tryz.prog W=.ok (.slice (some ⟨W.heap.size,0,none⟩) n n) (W.alloc (.cells (madeCells #[.int .u64 0] (n*1)) 213)):=by
 obtain⟨i,h1,h2,h3,h4⟩:=wB0;have h:=run_make (P:=Tryz.prog) W 206 213 i (.int .u64 0) Tryz.underlying206 h1 h2 .i64 .i64 n n (by omega) (Int.le_refl _) (by rw[h4];omega) (by omega);rw[Bg,h3]at h;exact h
theorem zX {w:World} {n:Nat} (hn:n<=1048576):aT (w.alloc (.cells (madeCells #[.int .u64 0] (n*1)) 213)) w.heap.size 213 1 gT (.slice (some ⟨w.heap.size,0,none⟩) n n) (An n 0) :=
 fZ (enc:=gT) (λ_=>rfl) (Ak _) (An n 0) (by
  rw[toList_madeCells_one,Bk];unfold gT;rw[kN,List.map_replicate];rfl) (by simp) (by unfold maxLen;omega)
theorem jQ0 (W q:Nat):dD [] W q=An q 0:=by
 unfold dD;apply Ax
 intro k;by_cases hk:k<q
 ·rw[Bf,Bc hk,List.getElem?_replicate,if_pos hk]
  simp[pI0]
 ·rw[Ae (by simp;omega),Ae (by simp;omega)]
theorem cW0 {l:List Nat} {v q:Nat} (h:∀n∈l++[v],n<2^0):dD (l++[v]) 0 q=dD l 0 q:=by
 unfold dD;apply List.map_congr_left
 intro k _;rw[xC _ k h,xC l k (λn hn=>h n (by simp[hn]))]
theorem oQ0 (pb i v:Nat) (w:World) (c1:w.cell? ⟨pb,1,none⟩=some (.int .i64 0)) :
  Calls Tryz.prog 184 #[.pointer (some ⟨pb,0,none⟩),.int .i64 i,.int .u64 v] w λe w'=>e=.returned (.tuple #[])/\w=w':=by
 go_enter Tryz.func184,Tryz.ntmps184
 go_wp2_with fail
 refine bodyPost_ret (v:=.tuple #[]) (by simp[results,Tryz.results184,go_sem]) rfl ⟨rfl,rfl⟩
theorem xZ (w:World) (cs:Array Value) (t:TypeId) (j:Nat):(w.alloc (.cells cs t)).frozen? ⟨w.heap.size,j,none⟩=false:=by
 have h:(w.alloc (.cells cs t)).heap[w.heap.size]?=some (.cells cs t):=heap_alloc_new w _;unfold Bq;simp only[h];simp
theorem jX {α:Type} {w:World} {base:Nat} {e:TypeId} {k:Nat} {enc:α->List Value} {v:Value} {xs:List α} (h:aT w base e k enc v xs) {p:Addr} (hp:p.block<base) (u:Value):aT (w.setCell p u) base e k enc v xs:=by
 obtain⟨h1,h2⟩:=h;refine⟨h1,?_⟩;rcases h2 with h2|⟨g,cap,b9,hv,hb,hh,r⟩
 ·exact Or.inl h2
 ·refine Or.inr ⟨g,cap,b9,hv,hb,?_,r⟩
  rw[heap_setCell_other w p g u (by omega)];exact hh
structure cH0 (w:World) (pb:Nat) (l:List Nat):Prop where
 c0:w.cell? ⟨pb,0,none⟩=some (.int .i64 l.length)
 c1:w.cell? ⟨pb,1,none⟩=some (.int .i64 (lD l))
 c2:∃wb,pb<wb/\w.cell? ⟨pb,2,none⟩=some (.slice (some ⟨wb,0,none⟩) ((l.length*lD l+63)/64) ((l.length*lD l+63)/64))/\aT w wb 213 1 gT (.slice (some ⟨wb,0,none⟩) ((l.length*lD l+63)/64) ((l.length*lD l+63)/64)) (dD l (lD l) ((l.length*lD l+63)/64))
theorem cH0.grows {w w':World} {pb:Nat} {l:List Nat} (h:cH0 w pb l) (hg:aB w w'):cH0 w' pb l:=by
 obtain⟨wb,h1,h2,h3⟩:=h.c2;exact⟨hg.cell h.c0,hg.cell h.c1,wb,h1,hg.cell h2,h3.grows hg⟩
theorem kK0 {l:List Nat} {k v:Nat} (h:l[k]?=some v):uP (l.take (k+1))=uP (l.take k)|||v:=by rw[bM h,iR0]
theorem zN (l:List Nat) (a:Option Addr) (c:Nat) (w:World) (hl:l.length<=1048576) (hn:∀n∈l,n<18446744073709551616) (ac:aF w a 1 (l.map gT)) :
  Calls Tryz.prog 120 #[.slice a l.length c] w λe w'=>e=.returned (.tuple #[.pointer (some ⟨w.heap.size,0,none⟩),.int .i64 0])/\cH0 w' w.heap.size l/\aB w w':=by
 have HAT:=Ad ac;have HN:=Ad hn;have dh:lD l<=64:=mA.2 hn;obtain⟨W,ze⟩:=exq (lD l);rw[<-ze]at dh;have HW:=Ad ze;obtain⟨q,hq⟩:=exq ((l.length*W+63)/64);have hLW:l.length*W<=1048576*64:=Av hl dh;have qw:q<=1048576:=by omega
 have HQ:=Ad hq;have hlw:¬(1048576:Int)<l.length:=by omega
 clear ac hn ze hq;go_enter Tryz.func120,Tryz.ntmps120
 go_wp2_with fail
 go_loop [4,15] (λv i=>∃k V:Nat,k<=l.length/\i=.int .i64 k/\v=.int .u64 V/\V<18446744073709551616/\Hid (V=uP (l.take k))) (λ_ i=>l.length-(intOf i).toNat)
 case atStart=>exact⟨0,0,Az _,rfl,rfl,by decide,rfl⟩
 case round =>
  obtain⟨k,V,hk,rfl,rfl,hV,ch⟩:=hrel;by_cases ae:k<l.length
  ·obtain⟨x,hx⟩:∃x,l[k]?=some x:=⟨_,Ai ae⟩
   obtain⟨b,o,rfl,hc⟩:=at1 HAT.out (aH ae);have fg:=hc k x hx;have fy:=HN.out x (Ao hx);have HI:Hid (V|||x=uP (l.take (k+1))):=by show _=_;rw[kK0 hx,<-ch.out]
   have r9:=u64_or_nat V x hV fy;have hol:V|||x<18446744073709551616:=Bh (n:=64) hV fy
   clear hc hx ch;go_wp2_with fail
   go_round
   case rel=>exact⟨k+1,V|||x,ae,by go_num,rfl,hol,HI.out⟩
   case measure=>simp[intOf];omega
  ·have gh:k=l.length:=by omega
   have cp:¬(k:Int)<l.length:=by omega
   have fk:bitLen V=W:=by rw[ch.out,gh,Bj,HW.out];rfl
   have CL:=pK0 V w hV;rw[fk]at CL;clear ch gh fk;go_wp2_with fail
   refine CL.mono ?_;rintro e w1 ⟨rfl,rfl⟩;go_wp2_with fail
   obtain⟨WB,jl⟩:=exq (w.alloc (.cells #[.int .i64 l.length,.int .i64 W,.slice none 0 0] 279));have b0:WB.cell? ⟨w.heap.size,0,none⟩=some (.int .i64 l.length):=by rw[jl];exact aU w _ _ (0,0) 0 _ rfl
   have b1:WB.cell? ⟨w.heap.size,1,none⟩=some (.int .i64 W):=by rw[jl];exact aU w _ _ (0,0) 1 _ rfl
   have b2:WB.cell? ⟨w.heap.size,2,none⟩=some (.slice none 0 0):=by rw[jl];exact aU w _ _ (0,0) 2 _ rfl
   have bf:WB.frozen? ⟨w.heap.size,2,none⟩=false:=by rw[jl];exact(xZ w _ _ 2)
   have gi:aB w WB:=by rw[jl];exact aB.alloc _ _
   have cz:WB.heap.size=w.heap.size+1:=by rw[jl];simp
   rw[<-jl];clear jl CL;obtain⟨M,hM⟩:=exq (l.length*W);have qv:M<=1048576*64:=by rw[hM];exact hLW
   have hqM:(M+63)/64=q:=by rw[hM];exact HQ.out.symm
   have wM:IntKind.i64.wrap ((l.length:Int)*W)=M:=by
    have h1:(l.length:Int)*W=M:=by rw[hM];push_cast;rfl
    rw[h1];simp[Ab,Ac,Aa];omega
   have va:IntKind.i64.wrap ((M:Int)+63)=(M:Int)+63:=by simp[Ab,Ac,Aa];omega
   have mf:((M:Int)+63)/64=q:=by omega
   have qy:((M:Int)+63).tdiv 64=q:=by rw[Aw (by omega)];exact mf
   have z0:∀y:Ext aB WB.drew,y.u.cell? ⟨w.heap.size,0,none⟩=some (.int .i64 l.length):=aG ((aB.drew WB).cell b0);have z1:∀y:Ext aB WB.drew,y.u.cell? ⟨w.heap.size,1,none⟩=some (.int .i64 W):=aG ((aB.drew WB).cell b1);have wq:IntKind.i64.wrap (q:Int)=q:=by simp[Ab,Ac,Aa];omega
   have iw:=λ(Y:World)=>xX0 q Y qw;clear hLW hM;refine qB 13 (bB 13 [12]) (by kernel_rfl) (λd _ _ _ _ h=>by cases d<;>exact h) ?_
   iterate 12 (refine aK rfl (λK hK=>?_);go_simp;refine hK _ ?_;clear hK K)
   refine bU rfl rfl (λK hK=>?_);go_simp;refine⟨aB.alloc _ _,hK _ _ ?_⟩;clear hK K z0 z1 iw;refine bT ?_;simp only[List.drop_succ_cons,List.drop_zero];have aw:=zX (w:=WB) qw;rw[Bk,cz]at aw;obtain⟨W3,jm⟩:=exq ((WB.alloc (.cells (madeCells #[.int .u64 0] q) 213)).drew);have bv:aB WB W3:=by rw[jm];exact(aB.alloc WB _).dr
   have kh:aT W3 (w.heap.size+1) 213 1 gT (.slice (some ⟨w.heap.size+1,0,none⟩) q q) (An q 0):=by rw[jm];exact aw.grows (aB.drew _)
   rw[<-jm];clear aw;have b32:W3.cell? ⟨w.heap.size,2,none⟩=some (.slice none 0 0):=bv.cell b2;have b3f:W3.frozen? ⟨w.heap.size,2,none⟩=false:=by rw[bv.froz (by show w.heap.size<WB.heap.size;omega)];exact bf
   clear jm;have hWl:W3.heap.size >= WB.heap.size:=bv.size;have g0:=bv.cell b0;have g1:=bv.cell b1;go_wp2_with fail
   have e0:(W3.setCell ⟨w.heap.size,2,none⟩ (.slice (some ⟨w.heap.size+1,0,none⟩) q q)).cell? ⟨w.heap.size,0,none⟩=some (.int .i64 l.length):=(Af _ _ _ _ (λh=>by cases h)).trans g0;have e1:(W3.setCell ⟨w.heap.size,2,none⟩ (.slice (some ⟨w.heap.size+1,0,none⟩) q q)).cell? ⟨w.heap.size,1,none⟩=some (.int .i64 W):=(Af _ _ _ _ (λh=>by cases h)).trans g1;have e2:(W3.setCell ⟨w.heap.size,2,none⟩ (.slice (some ⟨w.heap.size+1,0,none⟩) q q)).cell? ⟨w.heap.size,2,none⟩=some (.slice (some ⟨w.heap.size+1,0,none⟩) q q):=World.cell?_setCell_same _ _ _ b32;have cu:=jX kh (p:=⟨w.heap.size,2,none⟩) (Aj _) (.slice (some ⟨w.heap.size+1,0,none⟩) q q);have d8:aB w (W3.setCell ⟨w.heap.size,2,none⟩ (.slice (some ⟨w.heap.size+1,0,none⟩) q q)):=(gi.tr bv).set (Ak _) _;rw[<-jQ0 W q]at cu;generalize W3.setCell ⟨w.heap.size,2,none⟩ (.slice (some ⟨w.heap.size+1,0,none⟩) q q)=W4 at e0 e1 e2 cu d8 ⊢;have abj:l.length*W<=64*q:=by have:=HQ.out;omega
   have HQM:=Ad abj;clear b0 b1 b2 bf gi cz qv hqM wM va mf qy wq bv kh b32 b3f hWl g0 g1 abj;go_loopw [46] (λi wr=>∃k:Nat,k<=l.length/\i=.int .i64 k/\wr.cell? ⟨w.heap.size,0,none⟩=some (.int .i64 l.length)/\wr.cell? ⟨w.heap.size,1,none⟩=some (.int .i64 W)/\wr.cell? ⟨w.heap.size,2,none⟩=some (.slice (some ⟨w.heap.size+1,0,none⟩) q q)/\aT wr (w.heap.size+1) 213 1 gT (.slice (some ⟨w.heap.size+1,0,none⟩) q q) (dD (l.take k) W q)/\aB w wr) (λi _=>l.length-(intOf i).toNat)
   case atStart=>exact⟨0,Az _,rfl,e0,e1,e2,cu,d8⟩
   case round =>
    obtain⟨k,hk,rfl,d0,d1,d2,aa,hg⟩:=hrel;by_cases ae:k<l.length
    ·obtain⟨x,hx⟩:∃x,l[k]?=some x:=⟨_,Ai ae⟩
     obtain⟨b,o,rfl,hc⟩:=at1 HAT.out (aH ae);have fg:=hg.cell (hc k x hx);have cp:(k:Int)<l.length:=by omega
     by_cases fe:W=0
     ·have HO:Hid (aT wr (w.heap.size+1) 213 1 gT (.slice (some ⟨w.heap.size+1,0,none⟩) q q) (dD (l.take (k+1)) W q)):=by
       show aT _ _ _ _ _ _ _
       rw[bM hx];have h1:=aa;rw[fe]at h1 ⊢
       rw[cW0 (l:=l.take k) (v:=x) (λn hn=>by
        rw[<-bM hx]at hn;have h2:=oE0 (List.mem_of_mem_take hn);rwa [<-HW.out,fe]at h2)]
       exact h1
      have C0:=oQ0 w.heap.size k x wr (by rw[d1,fe];rfl);clear hc hx fe;go_wp2_with fail
      refine C0.mono ?_;rintro e w5 ⟨rfl,rfl⟩;go_wp2_with fail
      go_roundw
      case rel=>exact⟨k+1,ae,by go_num,d0,d1,d2,HO.out,hg⟩
      case measure=>simp[intOf];omega
     ·have dl:(k+1)*W<=64*q:=Nat.le_trans (Ba W (show k+1<=l.length by omega)) HQM.out
      have CS:=tS0 w.heap.size (w.heap.size+1) q W x k (w.heap.size+1) (l.take k) wr (by omega) dh (by rw[At];omega) (by omega) (by rw[HW.out];exact oE0 (Ao hx)) dl qw d1 d2 (Aj _) aa;rw[<-bM hx]at CS;clear hc hx dl;go_wp2_with fail
      refine CS.mono ?_;rintro e w5 ⟨rfl,ai,ci⟩;go_wp2_with fail
      go_roundw
      case rel=>exact⟨k+1,ae,by go_num,by rw[Below.cell ci.1 (Aj _)];exact d0,by rw[Below.cell ci.1 (Aj _)];exact d1,by rw[Below.cell ci.1 (Aj _)];exact d2,ai,Below.trans hg (Below.mono ci.1 (Nat.le_succ _))⟩
      case measure=>simp[intOf];omega
    ·have cp:¬(k:Int)<l.length:=by omega
     have gh:k=l.length:=by omega
     have HP:Hid (cH0 wr w.heap.size l):=by
      refine⟨d0,by rw[<-HW.out];exact d1,w.heap.size+1,Aj _,?_,?_⟩
      ·rw[<-HW.out,<-HQ.out];exact d2
      ·rw[<-HW.out,<-HQ.out]
       rw[gh,Bj]at aa;exact aa
     clear gh;go_wp2_with fail
     refine bodyPost_ret (v:=.tuple #[.pointer (some ⟨w.heap.size,0,none⟩),.int .i64 0]) (by simp[results,Tryz.results120,go_sem]) rfl ⟨rfl,HP.out,hg⟩
theorem kG0 (n w:Nat) (hw:w<=64):(#[Value.int .u8 (IntKind.u8.wrap (n:Int)),.int .u8 (IntKind.u8.wrap ((n:Int)/256)),.int .u8 (IntKind.u8.wrap ((n:Int)/65536)),.int .u8 (IntKind.u8.wrap ((n:Int)/16777216)),.int .u8 (IntKind.u8.wrap (w:Int))]:Array Value).toList=(leB 4 n++[Al w]).flatMap aQ:=by
 have h:=lF0 n w hw;rw[Ap,Ap,Ap,Ap,Ap,show (w:Int)%256=w by omega]
 exact h
def qT (l:List Nat) (k:Nat):List UInt8:=(Bt k).map λj=>Al (dX (bitAt l (lD l)) (8*j) 8)
theorem dH0 (l:List Nat) (k:Nat):qT l (k+1)=qT l k++[Al (eX l (lD l) (k/8)>>>(k%8*8))]:=by
 unfold qT;rw[List.range_succ,List.map_append];simp only[List.map_cons,List.map_nil];rw[<-kJ0 l (lD l) k,tO]
theorem jX0 (l:List Nat) (k:Nat):(qT l k).length=k:=by simp[qT]
theorem yC (l:List Nat) (pb:Nat) (w:World) (hl:l.length<=1048576) (hn:∀n∈l,n<18446744073709551616) (ac:cH0 w pb l) :
  Calls Tryz.prog 128 #[.pointer (some ⟨pb,0,none⟩)] w λe w'=>∃v,e=.returned v/\aT w' w.heap.size 5 1 aQ v (bV l)/\aB w w':=by
 have dh:lD l<=64:=mA.2 hn;have c0:=ac.c0;have c1:=ac.c1;obtain⟨wb,hpw,c2,aa⟩:=ac.c2;obtain⟨W,ze⟩:=exq (lD l);obtain⟨n,aq⟩:=exq l.length;rw[<-ze]at dh c1 c2 aa;rw[<-aq]at hl c0 c2 aa;obtain⟨q,hq⟩:=exq ((n*W+63)/64);rw[<-hq]at c2 aa;have HW:=Ad ze;have HNE:=Ad aq;have HOWN:=Ad aa;have HH:=Ad (kG0 n W dh);obtain⟨M,hM⟩:=exq (n*W);have qv:M<=1048576*64:=by rw[hM];exact Av hl dh
 obtain⟨T,hT⟩:=exq ((M+7)/8);have hTq:T<=8*q:=by rw[hT,hq,<-hM];omega
 have hTb:T<=8388609:=by omega
 have HTE:Hid (T=(l.length*lD l+7)/8):=by show _=_;rw[hT,hM,HNE.out,HW.out]
 have wM:IntKind.i64.wrap ((n:Int)*W)=M:=by
  have h1:(n:Int)*W=M:=by rw[hM];push_cast;rfl
  rw[h1];simp[Ab,Ac,Aa];omega
 have va:IntKind.i64.wrap ((M:Int)+7)=(M:Int)+7:=by simp[Ab,Ac,Aa];omega
 have mf:((M:Int)+7)/8=T:=by omega
 have qy:((M:Int)+7).tdiv 8=T:=by rw[Aw (by omega)];exact mf
 have wT:IntKind.i64.wrap (T:Int)=T:=by simp[Ab,Ac,Aa];omega
 have HWM:=Ad wM;have HWM2:=Ad va;have HE1:=Ad mf;have HE2:=Ad qy;have HWT:=Ad wT;have HL:=Ad hl;have z0:∀y:Ext aB w.drew,y.u.cell? ⟨pb,0,none⟩=some (.int .i64 n):=aG ((aB.drew w).cell c0);have z1:∀y:Ext aB w.drew,y.u.cell? ⟨pb,1,none⟩=some (.int .i64 W):=aG ((aB.drew w).cell c1);clear hn ac ze aq hM hT aa wM va mf qy wT hl qv hpw hq;go_enter Tryz.func128,Tryz.ntmps128
 go_wp2_with fail
 refine bI (bB 30 [28,29]) (by kernel_rfl) (λd _ _ _ _ h=>by cases d<;>exact h) ?_
 iterate 28 (refine aK rfl (λK hK=>?_);go_simp;refine hK _ ?_;clear hK K)
 refine bU rfl rfl (λK hK=>?_);go_simp;refine⟨aB.alloc _ _,hK _ _ ?_⟩;clear hK K z0 z1;iterate 1 (refine bU rfl rfl (λK hK=>?_);go_simp;refine⟨aB.refl _,hK _ _ ?_⟩;clear hK K)
 refine bT ?_;have i7:=(fZ (enc:=aQ) (e:=5) (w:=w) (base:=w.heap.size) (λ_=>rfl) (Ak _) (leB 4 n++[Al W]) HH.out (n:=5) (by simp[bD]) (by decide)).grows (aB.drew _);obtain⟨w1,hw1⟩:=exq ((w.alloc (.cells #[.int .u8 (IntKind.u8.wrap (n:Int)),.int .u8 (IntKind.u8.wrap ((n:Int)/256)),.int .u8 (IntKind.u8.wrap ((n:Int)/65536)),.int .u8 (IntKind.u8.wrap ((n:Int)/16777216)),.int .u8 (IntKind.u8.wrap (W:Int))] 5)).drew);have av:aB w w1:=by rw[hw1];exact(aB.alloc _ _).dr
 rw[<-hw1]at i7 ⊢;clear hw1 HH;generalize IntKind.u8.wrap (n:Int)=y1;generalize IntKind.u8.wrap ((n:Int)/256)=y2;generalize IntKind.u8.wrap ((n:Int)/65536)=y3;generalize IntKind.u8.wrap ((n:Int)/16777216)=y4;generalize IntKind.u8.wrap (W:Int)=y5;go_wp2_with fail
 have wM:=HWM.out;have va:=HWM2.out;have mf:=HE1.out;have qy:=HE2.out;have wT:=HWT.out;have z0:∀y:Ext aB w1.drew,y.u.cell? ⟨pb,0,none⟩=some (.int .i64 n):=aG (av.dr.cell c0);have z1:∀y:Ext aB w1.drew,y.u.cell? ⟨pb,1,none⟩=some (.int .i64 W):=aG (av.dr.cell c1);refine bI (bB 12 []) (by kernel_rfl) (λd _ _ _ _ h=>by cases d<;>exact h) ?_
 iterate 12 (refine aK rfl (λK hK=>?_);go_simp;refine hK _ ?_;clear hK K)
 refine bT ?_;clear z0 z1 wM va mf qy wT;go_wp2_with fail
 go_loopw [3,47] (λout i wr=>∃(k:Nat) (bd:List UInt8),k<=T/\i=.int .i64 k/\Hid (bd=leB 4 n++[Al W]++qT l k)/\aT wr w.heap.size 5 1 aQ out bd/\aB w wr) (λ_ i _=>T-(intOf i).toNat)
 case atStart=>exact⟨0,_,Az _,rfl,(by show _=_;simp[qT]),i7.grows (aB.drew _),av.dr⟩
 case round =>
  obtain⟨k,bd,hk,rfl,bh,aa,hg⟩:=hrel;by_cases ae:k<T
  ·have cp:(k:Int)<T:=by omega
   obtain⟨J,hJ⟩:=exq (k/8);obtain⟨R,hR⟩:=exq (k%8*8);have hJq:J<q:=by omega
   have hRb:R<=56:=by omega
   have eJ:(k:Int)/8=J:=by omega
   have eR:(k:Int)%8*8=R:=by omega
   have wR:IntKind.u64.wrap (R:Int)=R:=by simp[Ab,Ac,Aa];omega
   obtain⟨x,hx⟩:=exq (eX l W J);have fg:wr.cell? ⟨wb,J,none⟩=some (.int .u64 x):=hg.cell (bP (f:=λn:Nat=>Value.int .u64 n) HOWN.out (by rw[dT hJq,hx]));have c2r:=hg.cell c2
   have HN:Hid (bd++[Al (x>>>R)]=leB 4 n++[Al W]++qT l (k+1)):=by
    show _=_
    rw[dH0,<-HW.out,<-hJ,<-hR,<-hx,bh.out,Bi]
   have HB:Hid ([Value.int .u8 ((x:Int)/2^R%256)]=aQ (Al (x>>>R))):=by
    show _=_
    rw[rV];exact zT _
   have mg:bd.length<=5+k:=by rw[bh.out,Be,jX0];simp[bD]<;>omega
   have hJi:(J:Int)<q:=by omega
   clear hJ hR hx bh;go_wp2_with (at_builtin;refine oP0 bE rfl _ _ rfl w.heap.size _ bd (Al (x>>>R)) rfl aa (aB.refl _) _ 1 rfl _ (by exact HB.out) rfl (by omega) hg.size ?_;intro v' w5 ai bk)
   go_roundw
   case rel=>exact⟨k+1,_,ae,by go_num,HN.out,ai,bk w hg (Ak _)⟩
   case measure=>simp[intOf];omega
  ·have cp:¬(k:Int)<T:=by omega
   have HF:Hid (bd=bV l):=by
    show _=_
    have hkT:k=T:=by omega
    rw[bh.out,hkT,HTE.out,HNE.out,HW.out];rfl
   clear bh;go_wp2_with fail
   go_ret;exact⟨_,rfl,by rw[<-HF.out];exact aa,hg⟩
theorem qC (l:List Nat) (W Q t:Nat) (ht:t<64):(eX l W Q).testBit t=bitAt l W (64*Q+t):=by
 unfold eX;rw[cJ];simp[ht]
theorem tF0 {l:List Nat} {W i x Q S:Nat} (hx:l[i]?=some x) (nt:x<2^W) (hQ:i*W=64*Q+S) (dl:S+W<=64):(eX l W Q>>>S)&&&(2^W-1)=x:=by
 apply Bb
 intro t;rw[Bn,Au,Ay];by_cases ht:t<W
 ·rw[qC _ _ _ _ (by omega),<-Bs,<-hQ,yE hx ht]
  simp[ht]
 ·simp only[ht,decide_false,Bp]
  exact(As (Aq nt (Ah (by decide) (by omega)))).symm
theorem tJ0 {l:List Nat} {W i x Q S:Nat} (hx:l[i]?=some x) (nt:x<2^W) (hQ:i*W=64*Q+S) (hS:S<64) (hW:W<=64) (dl:64<S+W) :
  ((eX l W Q>>>S)|||(eX l W (Q+1)<<<(64-S))%18446744073709551616)&&&(2^W-1)=x:=by
 apply Bb
 intro t;rw[Bn,Au,Nat.testBit_or,Ay];by_cases ht:t<W
 ·rw[yM (by omega)]
  by_cases h1:S+t<64
  ·rw[qC _ _ _ _ h1,<-Bs,<-hQ,yE hx ht]
   simp[ht,show ¬64-S<=t by omega]
  ·rw[show (eX l W Q).testBit (S+t)=false by
    apply As
    exact Aq (kF l W Q) (Ah (n:=2) (by decide) (show 64<=S+t by omega))]
   rw[qC _ _ _ _ (by omega),show 64*(Q+1)+(t-(64-S))=i*W+t by omega,yE hx ht]
   simp[ht,show 64-S<=t by omega]
 ·simp only[ht,decide_false,Bp]
  exact(As (Aq nt (Ah (by decide) (by omega)))).symm
theorem sP0 {W:Nat} (hW:W<=64):IntKind.u64.wrap (IntKind.u64.wrap (2^W)-1)=((2^W-1:Nat):Int):=by
 have h:∀V:Fin 65,IntKind.u64.wrap (IntKind.u64.wrap (2^V.val)-1)=((2^V.val-1:Nat):Int):=by decide +kernel
 exact h ⟨W,by omega⟩
theorem wZ0 (pb wb q W i x base:Nat) (l:List Nat) (w:World) (hW:W<=64) (ou:l.length<=1048576) (hx:l[i]?=some x) (nt:x<2^W) (hq:l.length*W<=64*q)
  (c1:w.cell? ⟨pb,1,none⟩=some (.int .i64 W)) (c2:w.cell? ⟨pb,2,none⟩=some (.slice (some ⟨wb,0,none⟩) q q)) (aa:aT w base 213 1 gT (.slice (some ⟨wb,0,none⟩) q q) (dD l W q)) :
  Calls Tryz.prog 212 #[.pointer (some ⟨pb,0,none⟩),.int .i64 i] w λe w'=>e=.returned (.int .u64 x)/\(w'=w\/w'=w.drew):=by
 have sd:=(List.getElem?_eq_some_iff.1 hx).1;by_cases fe:W=0
 ·have kw:x=0:=by rw[fe]at nt;simpa using nt
  subst kw;subst fe;clear aa;go_enter Tryz.func212,Tryz.ntmps212
  go_wp2_with fail
  go_ret;exact⟨rfl,Or.inl rfl⟩
 ·have kc:(W:Int)≠0:=by omega
  obtain⟨M,hM⟩:=exq (i*W)
  have hMq:M+W<=64*q:=by
   have h1:(i+1)*W<=l.length*W:=Ba _ (by omega);rw[Nat.add_mul]at h1;omega
  have afs:M<=1048576*64:=by rw[hM];exact Av (by omega) hW
  obtain⟨Q,hQ⟩:=exq (M/64);obtain⟨S,hS⟩:=exq (M%64);have r8:i*W=64*Q+S:=by rw[<-hM];omega
  have jk:S<64:=by omega
  have mz:Q<q:=by omega
  have wM:IntKind.i64.wrap ((i:Int)*W)=M:=by
   have h1:(i:Int)*W=M:=by rw[hM];push_cast;rfl
   rw[h1];simp[Ab,Ac,Aa];omega
  have eQ:(M:Int)/64=Q:=by omega
  have eS:(M:Int)%64=S:=by omega
  obtain⟨y,hy⟩:=exq (eX l W Q);have gn:y<18446744073709551616:=by rw[hy];exact kF l W Q
  have d1:w.drew.cell? ⟨wb,Q,none⟩=some (.int .u64 y):=(aB.drew w).cell (bP (f:=λn:Nat=>Value.int .u64 n) aa (by rw[dT mz,hy]));have z1:∀y:Ext aB w.drew,y.u.cell? ⟨pb,1,none⟩=some (.int .i64 W):=aG ((aB.drew w).cell c1);have hQi:(Q:Int)<q:=by omega
  have g1:w.drew.cell? ⟨pb,1,none⟩=some (.int .i64 W):=(aB.drew w).cell c1;have g2:w.drew.cell? ⟨pb,2,none⟩=some (.slice (some ⟨wb,0,none⟩) q q):=(aB.drew w).cell c2;have ad7:IntKind.i64.wrap ((S:Int)+W)=(S:Int)+W:=by simp[Ab,Ac,Aa];omega
  have iw:=sP0 hW
  have hmn:2^W-1<18446744073709551616:=by
   have:2^W<=2^64:=Ah (by decide) hW
   have e:(2:Nat)^64=18446744073709551616:=by decide
   omega
  obtain⟨v0,hv0⟩:=exq (y>>>S);have hsh:(y:Int)/2^S=(v0:Nat):=by rw[hv0];exact rV y S
  have o0:v0<18446744073709551616:=by rw[hv0];exact Bd (Nat.shiftRight_le _ _) gn
  by_cases gm:S+W<=64
  ·have hsw:¬(64:Int)<(S:Int)+W:=by omega
   have hand:bits .and .u64 (v0:Int) ((2^W-1:Nat):Int)=(x:Int):=by
    rw[u64_and_nat _ _ o0 hmn,hv0,hy,tF0 hx nt r8 gm]
   obtain⟨MK,hMK⟩:=exq (2^W-1);rw[<-hMK]at hand iw;clear hM hQ hS r8 hy aa hMq hx nt hv0 hMK;go_enter Tryz.func212,Tryz.ntmps212
   go_wp2_with fail
   refine bI (bB 17 []) (by kernel_rfl) (λd _ _ _ _ h=>by cases d<;>exact h) ?_
   iterate 17 (refine aK rfl (λK hK=>?_);go_simp;refine hK _ ?_;clear hK K)
   refine bT ?_;clear z1;go_wp2_with fail
   go_ret;exact⟨rfl,Or.inr rfl⟩
  ·have gm:64<S+W:=by omega
   have hsw:(64:Int)<(S:Int)+W:=by omega
   have qu:Q+1<q:=by omega
   have ad8:(Q:Int)+1<q:=by omega
   obtain⟨y1,ke⟩:=exq (eX l W (Q+1));have afg:y1<18446744073709551616:=by rw[ke];exact kF l W _
   have d2:w.drew.cell? ⟨wb,Q+1,none⟩=some (.int .u64 y1):=(aB.drew w).cell (bP (f:=λn:Nat=>Value.int .u64 n) aa (by rw[dT qu,ke]));have r9:=aI0 (v:=y1) (S:=64-S) o0;obtain⟨v1,gd⟩:=exq (v0|||(y1<<<(64-S))%18446744073709551616)
   rw[<-gd]at r9;have aaz:v1<18446744073709551616:=by rw[gd];exact Bh (n:=64) o0 (Bu _ (by decide))
   have hT:(64:Int)-S=((64-S:Nat):Int):=by omega
   have hTw:IntKind.u64.wrap ((64-S:Nat):Int)=((64-S:Nat):Int):=by simp[Ab,Ac,Aa];omega
   have hand:bits .and .u64 (v1:Int) ((2^W-1:Nat):Int)=(x:Int):=by
    rw[u64_and_nat _ _ aaz hmn,gd,hv0,hy,ke,tJ0 hx nt r8 jk hW gm]
   obtain⟨MK,hMK⟩:=exq (2^W-1);rw[<-hMK]at hand iw;clear hM hQ hS r8 hy aa hMq hx nt hv0 hMK ke gd;go_enter Tryz.func212,Tryz.ntmps212
   go_wp2_with fail
   refine bI (bB 17 []) (by kernel_rfl) (λd _ _ _ _ h=>by cases d<;>exact h) ?_
   iterate 17 (refine aK rfl (λK hK=>?_);go_simp;refine hK _ ?_;clear hK K)
   refine bT ?_;clear z1;go_wp2_with fail
   go_ret;exact⟨rfl,Or.inr rfl⟩
theorem fT0 (pb wb q W i x base:Nat) (l:List Nat) (w:World) (hW:W<=64) (ou:l.length<=1048576) (hx:l[i]?=some x) (nt:x<2^W) (hq:l.length*W<=64*q)
 (c1:w.cell? ⟨pb,1,none⟩=some (.int .i64 W)) (c2:w.cell? ⟨pb,2,none⟩=some (.slice (some ⟨wb,0,none⟩) q q)) (aa:aT w base 213 1 gT (.slice (some ⟨wb,0,none⟩) q q) (dD l W q)) :
 Calls Tryz.prog 212 #[.pointer (some ⟨pb,0,none⟩),.int .i64 i] w λe w'=>e=.returned (.int .u64 x)/\aB w w':=(wZ0 pb wb q W i x base l w hW ou hx nt hq c1 c2 aa).mono λe w' ⟨h1,h2⟩=>⟨h1,by rcases h2 with rfl|rfl<;>first|exact aB.refl _|exact aB.drew _⟩
theorem pL {l:List Nat} {x:Nat} (h:x∈l):x<2^lD l:=mA.1 (Ak _) x h
theorem oR (l:List Nat) (pb:Nat) (w:World) (ac:cH0 w pb l):Calls Tryz.prog 152 #[.pointer (some ⟨pb,0,none⟩)] w λe w'=>e=.returned (.int .i64 (l.length:Nat))/\w=w':=by
 have c0:=ac.c0;go_enter Tryz.func152,Tryz.ntmps152
 go_wp2_with fail
 go_ret;exact⟨rfl,rfl⟩
theorem aT0 (l:List Nat) (pb i x:Nat) (w:World) (ac:cH0 w pb l) (hl:l.length<=1048576) (hn:∀n∈l,n<18446744073709551616) (hx:l[i]?=some x):Calls Tryz.prog 153 #[.pointer (some ⟨pb,0,none⟩),.int .i64 i] w λe w'=>e=.returned (.tuple #[.int .u64 x,.bool true])/\aB w w':=by
 obtain⟨wb,h1,h2,h3⟩:=ac.c2;have sd:=(List.getElem?_eq_some_iff.1 hx).1;have CG:=Ad (fT0 pb wb ((l.length*lD l+63)/64) (lD l) i x wb l w (mA.2 hn) hl hx (pL (Ao hx)) (by omega) ac.c1 h2 h3);have CL:=Ad (oR l pb w ac);have h0:¬(i:Int)<0:=by omega
 have hi:(i:Int)<l.length:=by omega
 clear ac h2 h3 hx;go_enter Tryz.func153,Tryz.ntmps153
 go_wp2_with fail
 refine CL.out.mono ?_;rintro e w1 ⟨rfl,rfl⟩;go_wp2_with fail
 refine CG.out.mono ?_;rintro e w2 ⟨rfl,ah⟩;go_wp2
 go_ret2;exact⟨rfl,ah⟩
def jK {α:Type} (l:List α) (z:α) (k:Nat):List α:=l.take k++An (l.length-k) z
theorem jU {α:Type} (l:List α) (z:α) {k:Nat} (h:k<=l.length):(jK l z k).length=l.length:=by
 unfold jK;rw[Be,At,List.length_replicate];omega
theorem mJ {α:Type} (l:List α) (z:α):jK l z 0=An l.length z:=by simp[jK]
theorem pB {α:Type} (l:List α) (z:α):jK l z l.length=l:=by simp[jK]
theorem oU {α:Type} {l:List α} {z x:α} {k:Nat} (h:l[k]?=some x):(jK l z k).set k x=jK l z (k+1):=by
 have hk:k<l.length:=(List.getElem?_eq_some_iff.1 h).1;unfold jK;rw[List.set_append_right _ _ (by rw[At];omega),bM h,Bi];congr 1
 rw[show k-(l.take k).length=0 by rw[At];omega,show l.length-k=(l.length-(k+1))+1 by omega,List.replicate_succ]
 rfl
theorem kT (l:List Nat) (a:Option Addr) (c:Nat) (w:World) (hl:l.length<=1048576) (hn:∀n∈l,n<9223372036854775808) (ac:aF w a 1 (l.map fI)) :
  Calls Tryz.prog 63 #[.slice a l.length c] w λe w'=>∃v,e=.returned v/\aT w' w.heap.size 5 1 aQ v (bV l)/\aB w w':=by
 have HAT:=Ad ac;have HN:=Ad hn;have iw:=λ(Y:World)=>xX0 l.length Y hl;have CP:=λ(W:World) (q c:Nat) (h:aF W (some ⟨q,0,none⟩) 1 (l.map gT))=>Ad (zN l (some ⟨q,0,none⟩) c W hl (λn hn'=>by have:=hn n hn';omega) h);have CE:=λ(W:World) (q:Nat) (h:cH0 W q l)=>Ad (yC l q W hl (λn hn'=>by have:=hn n hn';omega) h);clear ac hn;go_enter Tryz.func63,Tryz.ntmps63
 go_wp2_with fail
 have aw:=zX (w:=w) (n:=l.length) hl;rw[Bk,<-mJ l 0]at aw;obtain⟨W1,bz⟩:=exq (w.alloc (.cells (madeCells #[.int .u64 0] l.length) 213));have eo:aB w W1:=by rw[bz];exact aB.alloc _ _
 rw[<-bz]at aw ⊢;clear bz;go_loopw [13] (λi wr=>∃(k:Nat),k<=l.length/\i=.int .i64 k/\aT wr w.heap.size 213 1 gT (.slice (some ⟨w.heap.size,0,none⟩) l.length l.length) (jK l 0 k)/\aB w wr) (λi _=>l.length-(intOf i).toNat)
 case atStart=>exact⟨0,Az _,rfl,aw,eo⟩
 case round =>
  clear aw eo;obtain⟨k,hk,rfl,aa,hg⟩:=hrel;by_cases ae:k<l.length
  ·obtain⟨x,hx⟩:∃x,l[k]?=some x:=⟨_,Ai ae⟩
   obtain⟨b,o,rfl,hc⟩:=at1 (HAT.out.grows hg) (aH ae);have fg:=hc k x hx;have abk:=HN.out x (Ao hx);have wx:IntKind.u64.wrap (x:Int)=x:=by simp[Ab,Ac,Aa];omega
   have hfl:=jU l 0 hk;obtain⟨y,hy⟩:∃y,(jK l 0 k)[k]?=some y:=⟨_,Ai (by omega)⟩;have e1:=bP (f:=λn:Nat=>Value.int .u64 n) aa hy;obtain⟨f1,_,ar⟩:=dJ (f:=λn:Nat=>Value.int .u64 n) aa (k:=k) (by omega) x;rw[oU hx]at ar;have HO:=Ad ar;clear hc hx hy aa ar hfl;go_wp2_with fail
   go_roundw
   case rel=>exact⟨k+1,by omega,by go_num,HO.out,hg.set (Ak _) _⟩
   case measure=>simp[intOf];omega
  ·obtain rfl:k=l.length:=by omega
   rw[pB]at aa;obtain⟨a1,c1,e1,_,_,cv⟩:=aa.at_ (k:=1) (λx=>(rfl:(gT x).length=1));have e2:=(Value.slice.inj e1).1;subst e2;have CP1:=CP wr w.heap.size l.length cv;clear CP e1 cv aa;go_wp2_with fail
   refine CP1.out.mono ?_;rintro e w2 ⟨rfl,hp,ah⟩;have CE1:=CE w2 wr.heap.size hp;clear CE CP1 hp;have ah:=aB.trans _ _ _ hg ah;go_wp2_with fail
   refine CE1.out.mono ?_;rintro e w3 ⟨v,rfl,hv,bv⟩;go_wp2_with fail
   go_ret;exact⟨v,rfl,hv.base ah.size,aB.trans _ _ _ ah bv⟩
end
end Go.Proofs.YthgklnohcmaopaaGreatDoor
