/- The texts Pk PkN PkE Bnum PkG, one behind the other. -/
import Derived.Test.YtiopheoljccmpaaGreatDoorCq20
import Derived.Test.YtiopheoljccmpaaGreatDoorShelf
import Derived.Laws.OwnMore
import Derived.OwnWalk
import Derived.Laws.MakeOwn
import Derived.Laws.BitsAllLaws
open Go.IntKind renaming signed → Aa,wrap → Ab,bits → Ac,wrap_u8' → Ap
open Go.Lib renaming hid → Ad,bitLenAux → Br
open List renaming getElem?_eq_none → Ae,length_set → Ag,getElem?_eq_getElem → Ai,getElem?_set_ne → Am,replicate → An,mem_of_getElem? → Ao,getElem?_set_self → Ar,length_take → At,ext_getElem? → Ax,getElem?_range → Bc,length_append → Be,getElem?_map → Bf,append_assoc → Bi,take_length → Bj,range → Bt
open Go.World renaming cell?_setCell_other → Af,frozen? → Bq
open Nat renaming pow_le_pow_right → Ah,lt_succ_self → Aj,le_refl → Ak,lt_of_lt_of_le → Aq,testBit_lt_two_pow → As,testBit_two_pow_sub_one → Au,mul_le_mul → Av,testBit_shiftRight → Ay,zero_le → Az,mul_le_mul_right → Ba,eq_of_testBit_eq → Bb,lt_of_le_of_lt → Bd,or_lt_two_pow → Bh,mul_one → Bk,testBit_and → Bn,add_assoc → Bs,mod_lt → Bu
open UInt8 renaming ofNat → Al
open Int renaming tdiv_eq_ediv_of_nonneg → Aw,toNat_natCast → Bg
open Go.Addr renaming block → Bo
open Bool renaming and_false → Bp
set_option maxHeartbeats 8000000
namespace Go.Proofs.YtiopheoljccmpaaGreatDoor
set_option maxRecDepth 100000
section
open Go Go.RowKit
attribute [local go_sem] aM aP
theorem tB {α:Type} (f:α->Value) (xs:List α):xs.flatMap (λx=>[f x])=xs.map f:=by
 induction xs with
 | nil=>rfl
 | cons x xs ih=>rw[List.flatMap_cons,ih];rfl
theorem fM {α:Type} {f:α->Value} {w:World} {base g n c k:Nat} {e:TypeId} {xs:List α} (h:aO w base e 1 (λx=>[f x]) (.slice (some ⟨g,0,none⟩) n c) xs) (hk:k<xs.length) (y:α) :
  w.frozen? ⟨g,k,none⟩=false/\base<=g/\aO (w.setCell ⟨g,k,none⟩ (f y)) base e 1 (λx=>[f x]) (.slice (some ⟨g,0,none⟩) n c) (xs.set k y):=by
 rcases h.2 with ⟨h1,_⟩|⟨g',cap,ei,hv,hb,hh,hn,hc,hs,ht⟩
 ·cases h1
 ·have e1:=(Value.slice.inj hv).1
  have e2:=(Value.slice.inj hv).2.1;obtain rfl:g=g':=congrArg Bo (Option.some.inj e1);have hkc:k<ei.size:=by omega
  refine⟨by simp[Bq,hh],hb,?_⟩;have hl:(xs.set k y).length=xs.length:=Ag
  have hf:(xs.set k y).flatMap (λx=>[f x])=(xs.flatMap (λx=>[f x])).set k (f y):=by
   rw[tB,tB,List.map_set]
  unfold aO;rw[hl];refine⟨by rw[hf,Ag];exact h.1,Or.inr ⟨g,cap,ei.setIfInBounds k (f y),hv,hb,heap_setCell_same w g k ei _ _ hh,hn,hc,by simpa using hs,?_⟩⟩;rw[hf,<-ht,Array.toList_setIfInBounds,List.take_set]
theorem eH {α:Type} {f:α->Value} {w:World} {base g n c k:Nat} {e:TypeId} {xs:List α} {x:α} (h:aO w base e 1 (λx=>[f x]) (.slice (some ⟨g,0,none⟩) n c) xs) (hx:xs[k]?=some x):w.cell? ⟨g,k,none⟩=some (f x):=by
 obtain⟨a,c2,he,_,_,ah⟩:=aO.at_ (enc:=λx=>[f x]) (λ_=>rfl) h;simp only[Value.slice.injEq]at he;rw[<-he.1]at ah;obtain⟨b1,o1,he1,bj⟩:=at1 (f:=f) ah (aH (List.getElem?_eq_some_iff.1 hx).1);obtain⟨rfl,rfl⟩:g=b1/\0=o1:=by simpa using he1
 have:=bj k x hx
 rwa [Nat.zero_add]at this
def dZ (l:List Nat) (W q:Nat):List Nat:=(Bt q).map (gI l W)
theorem fA (l:List Nat) (W q:Nat):(dZ l W q).length=q:=by simp[dZ]
theorem fB {l:List Nat} {W q k:Nat} (h:k<q):(dZ l W q)[k]?=some (gI l W k):=by
 unfold dZ;rw[Bf,Bc h];rfl
theorem tZ0 {l:List Nat} {W v q Q S:Nat} (hW:0<W) (fy:W<=64) (hv:v<2^W) (hS:S<64) (hQ:l.length*W=64*Q+S) (je:S+W<=64):dZ (l++[v]) W q=(dZ l W q).set Q (gI l W Q|||(v<<<S)%18446744073709551616):=by
 apply Ax
 intro k;by_cases hk:k<q
 ·rw[fB hk]
  by_cases hkQ:k=Q
  ·subst hkQ
   rw[Ar (by rw[fA];exact hk),iP0 hW hv hQ]
  ·rw[Am (Ne.symm hkQ),fB hk,cA0 hW hv hS hQ hkQ (λ_=>je) fy]
 ·rw[Ae (by rw[fA];omega),Ae (by rw[Ag,fA];omega)]
theorem rT0 {l:List Nat} {W v q Q S:Nat} (hW:0<W) (fy:W<=64) (hv:v<2^W) (hS:S<64) (hQ:l.length*W=64*Q+S) (_:64<S+W) (hQ1:Q+1<q) :
  dZ (l++[v]) W q=((dZ l W q).set Q (gI l W Q|||(v<<<S)%18446744073709551616)).set (Q+1) (gI l W (Q+1)|||v>>>(64-S)):=by
 apply Ax
 intro k;by_cases hk:k<q
 ·rw[fB hk]
  by_cases adx:k=Q+1
  ·subst adx
   rw[Ar (by rw[Ag,fA];exact hk),tK0 hW hv fy hS hQ]
  ·rw[Am (Ne.symm adx)]
   by_cases hkQ:k=Q
   ·subst hkQ
    rw[Ar (by rw[fA];exact hk),iP0 hW hv hQ]
   ·rw[Am (Ne.symm hkQ),fB hk,cA0 hW hv hS hQ hkQ (λh=>absurd h adx) fy]
 ·rw[Ae (by rw[fA];omega),Ae (by rw[Ag,Ag,fA];omega)]
theorem nU0 {x v S:Nat} (hx:x<18446744073709551616):bits .or .u64 (x:Int) (IntKind.u64.wrap ((v:Int)*2^S))=((x|||(v<<<S)%18446744073709551616:Nat):Int):=by
 have h1:IntKind.u64.wrap ((v:Int)*2^S)=((v<<<S%18446744073709551616:Nat):Int):=by
  rw[Nat.shiftLeft_eq,show (v:Int)*2^S=((v*2^S:Nat):Int) by push_cast;rfl]
  generalize v*2^S=N;simp[Ab,Ac,Aa]
 rw[h1];exact u64_or_nat x _ hx (Bu _ (by decide))
theorem jN1 {x v T:Nat} (hx:x<18446744073709551616) (hv:v<18446744073709551616):bits .or .u64 (x:Int) ((v:Int)/2^T)=((x|||v>>>T:Nat):Int):=by
 rw[uU];exact u64_or_nat x _ hx (Bd (by rw[Nat.shiftRight_eq_div_pow];exact Nat.div_le_self _ _) hv)
theorem dS1 (pb wb q W v i base:Nat) (pre:List Nat) (w:World) (gv:0<W) (hW:W<=64) (hi:i=pre.length) (gb:i<=1048576) (hv:v<2^W) (je:(i+1)*W<=64*q) (hq:q<=1048576)
  (c1:w.cell? ⟨pb,1,none⟩=some (.int .i64 W)) (c2:w.cell? ⟨pb,2,none⟩=some (.slice (some ⟨wb,0,none⟩) q q)) (hpw:pb<wb) (ae:aO w base 142 1 jR (.slice (some ⟨wb,0,none⟩) q q) (dZ pre W q)) :
  Calls Tryz.prog 155 #[.pointer (some ⟨pb,0,none⟩),.int .i64 i,.int .u64 v] w λe w'=>e=.returned (.tuple #[])/\aO w' base 142 1 jR (.slice (some ⟨wb,0,none⟩) q q) (dZ (pre++[v]) W q)/\EB wb w w':=by
 obtain⟨M,hM⟩:=exq (i*W);obtain⟨Q,hQ⟩:=exq (M/64);obtain⟨S,hS⟩:=exq (M%64);have hMb:M<=1048576*64:=by rw[hM];exact Av gb hW
 have hMq:M+W<=64*q:=by rw[hM];rw[Nat.succ_mul]at je;exact je
 have hQS:pre.length*W=64*Q+S:=by rw[<-hi,<-hM];omega
 have up:S<64:=by omega
 have hQq:Q<q:=by omega
 have afq:v<18446744073709551616:=Aq hv (Ah (n:=2) (by decide) hW)
 have wM:IntKind.i64.wrap ((i:Int)*W)=M:=by
  have h1:(i:Int)*W=M:=by rw[hM];push_cast;rfl
  rw[h1];simp[Ab,Ac,Aa];omega
 have eQ:(M:Int)/64=Q:=by omega
 have eS:(M:Int)%64=S:=by omega
 obtain⟨x,hx⟩:=exq (gI pre W Q);have l6:x<18446744073709551616:=by rw[hx];exact nB pre W Q
 have d1:w.cell? ⟨wb,Q,none⟩=some (.int .u64 x):=eH (f:=λn:Nat=>Value.int .u64 n) ae (by rw[fB hQq,hx]);obtain⟨f1,_,ax⟩:=fM (f:=λn:Nat=>Value.int .u64 n) (ae.grows (aB.drew w)) (k:=Q) (by rw[fA];exact hQq) (x|||(v<<<S)%18446744073709551616)
 have HWB:=Ad (Nat.le_of_lt (World.block_lt_of_cell? w _ d1));have hor:=nU0 (v:=v) (S:=S) l6;obtain⟨x1,lg⟩:=exq (x|||(v<<<S)%18446744073709551616)
 rw[<-lg]at hor ax;have aw:pb≠wb:=by omega
 have z1:∀y:Ext aB w.drew,y.u.cell? ⟨pb,1,none⟩=some (.int .i64 W):=aG ((aB.drew w).cell c1);have gh:(W:Int)≠0:=by omega
 have hQi:(Q:Int)<q:=by omega
 have g1:∀u,(w.drew.setCell ⟨wb,Q,none⟩ u).cell? ⟨pb,1,none⟩=some (.int .i64 W):=λu=>(Af _ _ _ _ (λh=>aw (congrArg Bo h).symm)).trans c1;have g2:∀u,(w.drew.setCell ⟨wb,Q,none⟩ u).cell? ⟨pb,2,none⟩=some (.slice (some ⟨wb,0,none⟩) q q):=λu=>(Af _ _ _ _ (λh=>aw (congrArg Bo h).symm)).trans c2;have aia:IntKind.i64.wrap ((S:Int)+W)=(S:Int)+W:=by simp[Ab,Ac,Aa];omega
 by_cases l9:S+W<=64
 ·have hsw:¬(64:Int)<(S:Int)+W:=by omega
  have HF:Hid (dZ (pre++[v]) W q=(dZ pre W q).set Q x1):=by show _=_;rw[tZ0 gv hW hv up hQS l9,lg,hx]
  have HO:=Ad ax;clear hM hQ hS hQS hx lg ax ae je hMq hi hv;go_enter Tryz.func155,Tryz.ntmps155
  go_wp2_with fail
  refine bH (aT 17 []) (by kernel_rfl) (λd _ _ _ _ h=>by cases d<;>exact h) ?_
  iterate 17 (refine aJ rfl (λK hK=>?_);go_simp;refine hK _ ?_;clear hK K)
  refine bN ?_;clear z1;go_wp2_with fail
  refine bodyPost_end (v:=.tuple #[]) (by simp[results,Tryz.results155,go_sem]) rfl ⟨rfl,?_,?_⟩
  ·rw[HF.out]
   exact HO.out
  ·exact EB.trans _ _ _ _ (EB.of (aB.drew w) HWB.out) ⟨(Below.refl wb w.drew).setCell (p:=⟨wb,Q,none⟩) (Ak wb) _,by simp⟩
 ·have l9:64<S+W:=by omega
  have hsw:(64:Int)<(S:Int)+W:=by omega
  have hQ1:Q+1<q:=by omega
  have aib:(Q:Int)+1<q:=by omega
  obtain⟨y,hy⟩:=exq (gI pre W (Q+1));have pe:y<18446744073709551616:=by rw[hy];exact nB pre W _
  have hYg:((dZ pre W q).set Q x1)[Q+1]?=some y:=by rw[Am (by omega),fB hQ1,hy]
  have e1:=eH (f:=λn:Nat=>Value.int .u64 n) ae (k:=Q+1) (x:=y) (by rw[fB hQ1,hy]);obtain⟨f3,_,_⟩:=fM (f:=λn:Nat=>Value.int .u64 n) ae (k:=Q+1) (by rw[fA];exact hQ1) y;obtain⟨f2,_,aj⟩:=fM (f:=λn:Nat=>Value.int .u64 n) ax (k:=Q+1) (by rw[Ag,fA];exact hQ1) (y|||v>>>(64-S))
  have aic:=jN1 (x:=y) (v:=v) (T:=64-S) pe afq;obtain⟨y1,rh⟩:=exq (y|||v>>>(64-S))
  rw[<-rh]at aic aj;have hT:(64:Int)-S=((64-S:Nat):Int):=by omega
  have hTw:IntKind.u64.wrap ((64-S:Nat):Int)=((64-S:Nat):Int):=by simp[Ab,Ac,Aa];omega
  have HF:Hid (dZ (pre++[v]) W q=((dZ pre W q).set Q x1).set (Q+1) y1):=by show _=_;rw[rT0 gv hW hv up hQS l9 hQ1,lg,hx,rh,hy]
  have HO:=Ad aj;clear hM hQ hS hQS hx lg ax ae je hMq hi hv hy rh aj hYg;go_enter Tryz.func155,Tryz.ntmps155
  go_wp2_with fail
  refine bH (aT 17 []) (by kernel_rfl) (λd _ _ _ _ h=>by cases d<;>exact h) ?_
  iterate 17 (refine aJ rfl (λK hK=>?_);go_simp;refine hK _ ?_;clear hK K)
  refine bN ?_;clear z1;go_wp2_with fail
  refine bodyPost_end (v:=.tuple #[]) (by simp[results,Tryz.results155,go_sem]) rfl ⟨rfl,?_,?_⟩
  ·rw[HF.out]
   exact HO.out
  ·exact EB.trans _ _ _ _ (EB.of (aB.drew w) HWB.out) ⟨((Below.refl wb w.drew).setCell (p:=⟨wb,Q,none⟩) (Ak wb) _).setCell (p:=⟨wb,Q+1,none⟩) (Ak wb) _,by simp⟩
theorem nH0 {x:Nat} (h:x≠0):bitLen x=1+bitLen (x/2):=by
 unfold bitLen;rw[if_neg h];by_cases h1:x=1
 ·subst h1;rfl
 ·rw[if_neg (by omega),Nat.log2_def,if_pos (by omega)]
  omega
theorem cQ0:∀(f x:Nat),x<2^f->Br f x=bitLen x
 | 0,x,h=>by
  obtain rfl:x=0:=by simpa using h
  rfl
 | f+1,x,h=>by
  rw[Br];by_cases hx:x=0
  ·subst hx;rfl
  ·rw[if_neg hx,nH0 hx,cQ0 f (x/2) (by rw[Nat.pow_succ]at h;omega)]
theorem xH0 (x:Nat) (w:World) (hx:x<18446744073709551616):Calls Tryz.prog 154 #[.int .u64 x] w λe w'=>e=.returned (.int .i64 (bitLen x))/\w=w':=by
 refine(Tryz.bits_Len64 x w (by omega) (by omega)).mono ?_;rintro e w1 ⟨rfl,rfl⟩;exact⟨by rw[Bg];unfold Lib.bitLen;rw[cQ0 64 x hx],rfl⟩
theorem iO1:∃i,Tryz.prog.info? 142=some i/\i.zero=some (.int .u64 0)/\i.size=1/\i.bytes=8:=by
 obtain⟨i,z,h1,h2,h3,h4,_⟩:=gC.info;have h:(Tryz.prog.info? 142).map (λi=>i.zero)=some (some (.int .u64 0)):=by kernel_rfl
 rw[h1]at h;exact⟨i,h1,by simpa using h,h3,h4⟩
theorem iX1 (n:Nat) (W:World) (hn:n<=1048576):(Instr.makeSlice 168 (.int .i64 n) (.int .i64 n)).run Tryz.prog W=.ok (.slice (some ⟨W.heap.size,0,none⟩) n n) (W.alloc (.cells (madeCells #[.int .u64 0] (n*1)) 142)):=by
 obtain⟨i,h1,h2,h3,h4⟩:=iO1;have h:=run_make (P:=Tryz.prog) W 168 142 i (.int .u64 0) Tryz.underlying168 h1 h2 .i64 .i64 n n (by omega) (Int.le_refl _) (by rw[h4];omega) (by omega);rw[Bg,h3]at h;exact h
theorem jN0 {w:World} {n:Nat} (hn:n<=1048576):aO (w.alloc (.cells (madeCells #[.int .u64 0] (n*1)) 142)) w.heap.size 142 1 jR (.slice (some ⟨w.heap.size,0,none⟩) n n) (An n 0) :=
 fY (enc:=jR) (λ_=>rfl) (Ak _) (An n 0) (by
  rw[toList_madeCells_one,Bk];unfold jR;rw[tB,List.map_replicate];rfl) (by simp) (by unfold maxLen;omega)
theorem qI0 (W q:Nat):dZ [] W q=An q 0:=by
 unfold dZ;apply Ax
 intro k;by_cases hk:k<q
 ·rw[Bf,Bc hk,List.getElem?_replicate,if_pos hk]
  simp[zY0]
 ·rw[Ae (by simp;omega),Ae (by simp;omega)]
theorem lQ0 {l:List Nat} {v q:Nat} (h:∀n∈l++[v],n<2^0):dZ (l++[v]) 0 q=dZ l 0 q:=by
 unfold dZ;apply List.map_congr_left
 intro k _;rw[dW0 _ k h,dW0 l k (λn hn=>h n (by simp[hn]))]
theorem xJ0 (pb i v:Nat) (w:World) (c1:w.cell? ⟨pb,1,none⟩=some (.int .i64 0)) :
  Calls Tryz.prog 155 #[.pointer (some ⟨pb,0,none⟩),.int .i64 i,.int .u64 v] w λe w'=>e=.returned (.tuple #[])/\w=w':=by
 go_enter Tryz.func155,Tryz.ntmps155
 go_wp2_with fail
 refine bodyPost_ret (v:=.tuple #[]) (by simp[results,Tryz.results155,go_sem]) rfl ⟨rfl,rfl⟩
theorem fN0 (w:World) (cs:Array Value) (t:TypeId) (j:Nat):(w.alloc (.cells cs t)).frozen? ⟨w.heap.size,j,none⟩=false:=by
 have h:(w.alloc (.cells cs t)).heap[w.heap.size]?=some (.cells cs t):=heap_alloc_new w _;unfold Bq;simp only[h];simp
theorem pV {α:Type} {w:World} {base:Nat} {e:TypeId} {k:Nat} {enc:α->List Value} {v:Value} {xs:List α} (h:aO w base e k enc v xs) {p:Addr} (hp:p.block<base) (u:Value):aO (w.setCell p u) base e k enc v xs:=by
 obtain⟨h1,h2⟩:=h;refine⟨h1,?_⟩;rcases h2 with h2|⟨g,cap,ei,hv,hb,hh,r⟩
 ·exact Or.inl h2
 ·refine Or.inr ⟨g,cap,ei,hv,hb,?_,r⟩
  rw[heap_setCell_other w p g u (by omega)];exact hh
structure kR0 (w:World) (pb:Nat) (l:List Nat):Prop where
 c0:w.cell? ⟨pb,0,none⟩=some (.int .i64 l.length)
 c1:w.cell? ⟨pb,1,none⟩=some (.int .i64 (gU l))
 c2:∃wb,pb<wb/\w.cell? ⟨pb,2,none⟩=some (.slice (some ⟨wb,0,none⟩) ((l.length*gU l+63)/64) ((l.length*gU l+63)/64))/\aO w wb 142 1 jR (.slice (some ⟨wb,0,none⟩) ((l.length*gU l+63)/64) ((l.length*gU l+63)/64)) (dZ l (gU l) ((l.length*gU l+63)/64))
theorem kR0.grows {w w':World} {pb:Nat} {l:List Nat} (h:kR0 w pb l) (hg:aB w w'):kR0 w' pb l:=by
 obtain⟨wb,h1,h2,h3⟩:=h.c2;exact⟨hg.cell h.c0,hg.cell h.c1,wb,h1,hg.cell h2,h3.grows hg⟩
theorem tP0 {l:List Nat} {k v:Nat} (h:l[k]?=some v):bQ0 (l.take (k+1))=bQ0 (l.take k)|||v:=by rw[aY h,dX0]
theorem fX0 (l:List Nat) (a:Option Addr) (c:Nat) (w:World) (hl:l.length<=1048576) (hn:∀n∈l,n<18446744073709551616) (ah:aF w a 1 (l.map jR)) :
  Calls Tryz.prog 93 #[.slice a l.length c] w λe w'=>e=.returned (.tuple #[.pointer (some ⟨w.heap.size,0,none⟩),.int .i64 0])/\kR0 w' w.heap.size l/\aB w w':=by
 have HAT:=Ad ah;have HN:=Ad hn;have fy:gU l<=64:=lP.2 hn;obtain⟨W,hWe⟩:=exq (gU l);rw[<-hWe]at fy;have HW:=Ad hWe;obtain⟨q,hq⟩:=exq ((l.length*W+63)/64);have hLW:l.length*W<=1048576*64:=Av hl fy;have hqb:q<=1048576:=by omega
 have HQ:=Ad hq;have hlw:¬(1048576:Int)<l.length:=by omega
 clear ah hn hWe hq;go_enter Tryz.func93,Tryz.ntmps93
 go_wp2_with fail
 go_loop [4,15] (λv i=>∃k V:Nat,k<=l.length/\i=.int .i64 k/\v=.int .u64 V/\V<18446744073709551616/\Hid (V=bQ0 (l.take k))) (λ_ i=>l.length-(intOf i).toNat)
 case atStart=>exact⟨0,0,Az _,rfl,rfl,by decide,rfl⟩
 case round =>
  obtain⟨k,V,hk,rfl,rfl,hV,ak⟩:=hrel;by_cases af:k<l.length
  ·obtain⟨x,hx⟩:∃x,l[k]?=some x:=⟨_,Ai af⟩
   obtain⟨b,o,rfl,hc⟩:=at1 HAT.out (aH af);have jy:=hc k x hx;have l6:=HN.out x (Ao hx);have HI:Hid (V|||x=bQ0 (l.take (k+1))):=by show _=_;rw[tP0 hx,<-ak.out]
   have hor:=u64_or_nat V x hV l6;have uj:V|||x<18446744073709551616:=Bh (n:=64) hV l6
   clear hc hx ak;go_wp2_with fail
   go_round
   case rel=>exact⟨k+1,V|||x,af,by go_num,rfl,uj,HI.out⟩
   case measure=>simp[intOf];omega
  ·have fw:k=l.length:=by omega
   have di:¬(k:Int)<l.length:=by omega
   have ed:bitLen V=W:=by rw[ak.out,fw,Bj,HW.out];rfl
   have CL:=xH0 V w hV;rw[ed]at CL;clear ak fw ed;go_wp2_with fail
   refine CL.mono ?_;rintro e w1 ⟨rfl,rfl⟩;go_wp2_with fail
   obtain⟨WB,vq⟩:=exq (w.alloc (.cells #[.int .i64 l.length,.int .i64 W,.slice none 0 0] 211));have b0:WB.cell? ⟨w.heap.size,0,none⟩=some (.int .i64 l.length):=by rw[vq];exact aX w _ _ (0,0) 0 _ rfl
   have b1:WB.cell? ⟨w.heap.size,1,none⟩=some (.int .i64 W):=by rw[vq];exact aX w _ _ (0,0) 1 _ rfl
   have b2:WB.cell? ⟨w.heap.size,2,none⟩=some (.slice none 0 0):=by rw[vq];exact aX w _ _ (0,0) 2 _ rfl
   have bf:WB.frozen? ⟨w.heap.size,2,none⟩=false:=by rw[vq];exact(fN0 w _ _ 2)
   have j5:aB w WB:=by rw[vq];exact aB.alloc _ _
   have dm:WB.heap.size=w.heap.size+1:=by rw[vq];simp
   rw[<-vq];clear vq CL;obtain⟨M,hM⟩:=exq (l.length*W);have hMb:M<=1048576*64:=by rw[hM];exact hLW
   have hqM:(M+63)/64=q:=by rw[hM];exact HQ.out.symm
   have wM:IntKind.i64.wrap ((l.length:Int)*W)=M:=by
    have h1:(l.length:Int)*W=M:=by rw[hM];push_cast;rfl
    rw[h1];simp[Ab,Ac,Aa];omega
   have wM2:IntKind.i64.wrap ((M:Int)+63)=(M:Int)+63:=by simp[Ab,Ac,Aa];omega
   have vt:((M:Int)+63)/64=q:=by omega
   have eq2:((M:Int)+63).tdiv 64=q:=by rw[Aw (by omega)];exact vt
   have z0:∀y:Ext aB WB.drew,y.u.cell? ⟨w.heap.size,0,none⟩=some (.int .i64 l.length):=aG ((aB.drew WB).cell b0);have z1:∀y:Ext aB WB.drew,y.u.cell? ⟨w.heap.size,1,none⟩=some (.int .i64 W):=aG ((aB.drew WB).cell b1);have wq:IntKind.i64.wrap (q:Int)=q:=by simp[Ab,Ac,Aa];omega
   have ke:=λ(Y:World)=>iX1 q Y hqb;clear hLW hM;refine pD 13 (aT 13 [12]) (by kernel_rfl) (λd _ _ _ _ h=>by cases d<;>exact h) ?_
   iterate 12 (refine aJ rfl (λK hK=>?_);go_simp;refine hK _ ?_;clear hK K)
   refine bM rfl rfl (λK hK=>?_);go_simp;refine⟨aB.alloc _ _,hK _ _ ?_⟩;clear hK K z0 z1 ke;refine bN ?_;simp only[List.drop_succ_cons,List.drop_zero];have cg:=jN0 (w:=WB) hqb;rw[Bk,dm]at cg;obtain⟨W3,pf⟩:=exq ((WB.alloc (.cells (madeCells #[.int .u64 0] q) 142)).drew);have bu:aB WB W3:=by rw[pf];exact(aB.alloc WB _).dr
   have ri:aO W3 (w.heap.size+1) 142 1 jR (.slice (some ⟨w.heap.size+1,0,none⟩) q q) (An q 0):=by rw[pf];exact cg.grows (aB.drew _)
   rw[<-pf];clear cg;have b32:W3.cell? ⟨w.heap.size,2,none⟩=some (.slice none 0 0):=bu.cell b2;have b3f:W3.frozen? ⟨w.heap.size,2,none⟩=false:=by rw[bu.froz (by show w.heap.size<WB.heap.size;omega)];exact bf
   clear pf;have hWl:W3.heap.size >= WB.heap.size:=bu.size;have g0:=bu.cell b0;have g1:=bu.cell b1;go_wp2_with fail
   have e0:(W3.setCell ⟨w.heap.size,2,none⟩ (.slice (some ⟨w.heap.size+1,0,none⟩) q q)).cell? ⟨w.heap.size,0,none⟩=some (.int .i64 l.length):=(Af _ _ _ _ (λh=>by cases h)).trans g0;have e1:(W3.setCell ⟨w.heap.size,2,none⟩ (.slice (some ⟨w.heap.size+1,0,none⟩) q q)).cell? ⟨w.heap.size,1,none⟩=some (.int .i64 W):=(Af _ _ _ _ (λh=>by cases h)).trans g1;have e2:(W3.setCell ⟨w.heap.size,2,none⟩ (.slice (some ⟨w.heap.size+1,0,none⟩) q q)).cell? ⟨w.heap.size,2,none⟩=some (.slice (some ⟨w.heap.size+1,0,none⟩) q q):=World.cell?_setCell_same _ _ _ b32;have bv:=pV ri (p:=⟨w.heap.size,2,none⟩) (Aj _) (.slice (some ⟨w.heap.size+1,0,none⟩) q q);have cd:aB w (W3.setCell ⟨w.heap.size,2,none⟩ (.slice (some ⟨w.heap.size+1,0,none⟩) q q)):=(j5.tr bu).set (Ak _) _;rw[<-qI0 W q]at bv;generalize W3.setCell ⟨w.heap.size,2,none⟩ (.slice (some ⟨w.heap.size+1,0,none⟩) q q)=W4 at e0 e1 e2 bv cd ⊢;have afr:l.length*W<=64*q:=by have:=HQ.out;omega
   have HQM:=Ad afr;clear b0 b1 b2 bf j5 dm hMb hqM wM wM2 vt eq2 wq bu ri b32 b3f hWl g0 g1 afr;go_loopw [46] (λi wr=>∃k:Nat,k<=l.length/\i=.int .i64 k/\wr.cell? ⟨w.heap.size,0,none⟩=some (.int .i64 l.length)/\wr.cell? ⟨w.heap.size,1,none⟩=some (.int .i64 W)/\wr.cell? ⟨w.heap.size,2,none⟩=some (.slice (some ⟨w.heap.size+1,0,none⟩) q q)/\aO wr (w.heap.size+1) 142 1 jR (.slice (some ⟨w.heap.size+1,0,none⟩) q q) (dZ (l.take k) W q)/\aB w wr) (λi _=>l.length-(intOf i).toNat)
   case atStart=>exact⟨0,Az _,rfl,e0,e1,e2,bv,cd⟩
   case round =>
    obtain⟨k,hk,rfl,d0,d1,d2,ae,hg⟩:=hrel;by_cases af:k<l.length
    ·obtain⟨x,hx⟩:∃x,l[k]?=some x:=⟨_,Ai af⟩
     obtain⟨b,o,rfl,hc⟩:=at1 HAT.out (aH af);have jy:=hg.cell (hc k x hx);have di:(k:Int)<l.length:=by omega
     by_cases gv:W=0
     ·have HO:Hid (aO wr (w.heap.size+1) 142 1 jR (.slice (some ⟨w.heap.size+1,0,none⟩) q q) (dZ (l.take (k+1)) W q)):=by
       show aO _ _ _ _ _ _ _
       rw[aY hx];have h1:=ae;rw[gv]at h1 ⊢
       rw[lQ0 (l:=l.take k) (v:=x) (λn hn=>by
        rw[<-aY hx]at hn;have h2:=wE0 (List.mem_of_mem_take hn);rwa [<-HW.out,gv]at h2)]
       exact h1
      have C0:=xJ0 w.heap.size k x wr (by rw[d1,gv];rfl);clear hc hx gv;go_wp2_with fail
      refine C0.mono ?_;rintro e w5 ⟨rfl,rfl⟩;go_wp2_with fail
      go_roundw
      case rel=>exact⟨k+1,af,by go_num,d0,d1,d2,HO.out,hg⟩
      case measure=>simp[intOf];omega
     ·have je:(k+1)*W<=64*q:=Nat.le_trans (Ba W (show k+1<=l.length by omega)) HQM.out
      have CS:=dS1 w.heap.size (w.heap.size+1) q W x k (w.heap.size+1) (l.take k) wr (by omega) fy (by rw[At];omega) (by omega) (by rw[HW.out];exact wE0 (Ao hx)) je hqb d1 d2 (Aj _) ae;rw[<-aY hx]at CS;clear hc hx je;go_wp2_with fail
      refine CS.mono ?_;rintro e w5 ⟨rfl,ai,ff⟩;go_wp2_with fail
      go_roundw
      case rel=>exact⟨k+1,af,by go_num,by rw[Below.cell ff.1 (Aj _)];exact d0,by rw[Below.cell ff.1 (Aj _)];exact d1,by rw[Below.cell ff.1 (Aj _)];exact d2,ai,Below.trans hg (Below.mono ff.1 (Nat.le_succ _))⟩
      case measure=>simp[intOf];omega
    ·have di:¬(k:Int)<l.length:=by omega
     have fw:k=l.length:=by omega
     have HP:Hid (kR0 wr w.heap.size l):=by
      refine⟨d0,by rw[<-HW.out];exact d1,w.heap.size+1,Aj _,?_,?_⟩
      ·rw[<-HW.out,<-HQ.out];exact d2
      ·rw[<-HW.out,<-HQ.out]
       rw[fw,Bj]at ae;exact ae
     clear fw;go_wp2_with fail
     refine bodyPost_ret (v:=.tuple #[.pointer (some ⟨w.heap.size,0,none⟩),.int .i64 0]) (by simp[results,Tryz.results93,go_sem]) rfl ⟨rfl,HP.out,hg⟩
theorem qE0 (n w:Nat) (hw:w<=64):(#[Value.int .u8 (IntKind.u8.wrap (n:Int)),.int .u8 (IntKind.u8.wrap ((n:Int)/256)),.int .u8 (IntKind.u8.wrap ((n:Int)/65536)),.int .u8 (IntKind.u8.wrap ((n:Int)/16777216)),.int .u8 (IntKind.u8.wrap (w:Int))]:Array Value).toList=(leB 4 n++[Al w]).flatMap aQ:=by
 have h:=jV0 n w hw;rw[Ap,Ap,Ap,Ap,Ap,show (w:Int)%256=w by omega]
 exact h
def wJ (l:List Nat) (k:Nat):List UInt8:=(Bt k).map λj=>Al (dG (bitAt l (gU l)) (8*j) 8)
theorem mF0 (l:List Nat) (k:Nat):wJ l (k+1)=wJ l k++[Al (gI l (gU l) (k/8)>>>(k%8*8))]:=by
 unfold wJ;rw[List.range_succ,List.map_append];simp only[List.map_cons,List.map_nil];rw[<-sN0 l (gU l) k,iJ0]
theorem rH0 (l:List Nat) (k:Nat):(wJ l k).length=k:=by simp[wJ]
theorem fH0 (l:List Nat) (pb:Nat) (w:World) (hl:l.length<=1048576) (hn:∀n∈l,n<18446744073709551616) (ah:kR0 w pb l) :
  Calls Tryz.prog 101 #[.pointer (some ⟨pb,0,none⟩)] w λe w'=>∃v,e=.returned v/\aO w' w.heap.size 5 1 aQ v (cG l)/\aB w w':=by
 have fy:gU l<=64:=lP.2 hn;have c0:=ah.c0;have c1:=ah.c1;obtain⟨wb,hpw,c2,ae⟩:=ah.c2;obtain⟨W,hWe⟩:=exq (gU l);obtain⟨n,aw⟩:=exq l.length;rw[<-hWe]at fy c1 c2 ae;rw[<-aw]at hl c0 c2 ae;obtain⟨q,hq⟩:=exq ((n*W+63)/64);rw[<-hq]at c2 ae;have HW:=Ad hWe;have HNE:=Ad aw;have HOWN:=Ad ae;have HH:=Ad (qE0 n W fy);obtain⟨M,hM⟩:=exq (n*W);have hMb:M<=1048576*64:=by rw[hM];exact Av hl fy
 obtain⟨T,hT⟩:=exq ((M+7)/8);have hTq:T<=8*q:=by rw[hT,hq,<-hM];omega
 have hTb:T<=8388609:=by omega
 have HTE:Hid (T=(l.length*gU l+7)/8):=by show _=_;rw[hT,hM,HNE.out,HW.out]
 have wM:IntKind.i64.wrap ((n:Int)*W)=M:=by
  have h1:(n:Int)*W=M:=by rw[hM];push_cast;rfl
  rw[h1];simp[Ab,Ac,Aa];omega
 have wM2:IntKind.i64.wrap ((M:Int)+7)=(M:Int)+7:=by simp[Ab,Ac,Aa];omega
 have vt:((M:Int)+7)/8=T:=by omega
 have eq2:((M:Int)+7).tdiv 8=T:=by rw[Aw (by omega)];exact vt
 have wT:IntKind.i64.wrap (T:Int)=T:=by simp[Ab,Ac,Aa];omega
 have HWM:=Ad wM;have HWM2:=Ad wM2;have HE1:=Ad vt;have HE2:=Ad eq2;have HWT:=Ad wT;have HL:=Ad hl;have z0:∀y:Ext aB w.drew,y.u.cell? ⟨pb,0,none⟩=some (.int .i64 n):=aG ((aB.drew w).cell c0);have z1:∀y:Ext aB w.drew,y.u.cell? ⟨pb,1,none⟩=some (.int .i64 W):=aG ((aB.drew w).cell c1);clear hn ah hWe aw hM hT ae wM wM2 vt eq2 wT hl hMb hpw hq;go_enter Tryz.func101,Tryz.ntmps101
 go_wp2_with fail
 refine bH (aT 30 [28,29]) (by kernel_rfl) (λd _ _ _ _ h=>by cases d<;>exact h) ?_
 iterate 28 (refine aJ rfl (λK hK=>?_);go_simp;refine hK _ ?_;clear hK K)
 refine bM rfl rfl (λK hK=>?_);go_simp;refine⟨aB.alloc _ _,hK _ _ ?_⟩;clear hK K z0 z1;iterate 1 (refine bM rfl rfl (λK hK=>?_);go_simp;refine⟨aB.refl _,hK _ _ ?_⟩;clear hK K)
 refine bN ?_;have dx:=(fY (enc:=aQ) (e:=5) (w:=w) (base:=w.heap.size) (λ_=>rfl) (Ak _) (leB 4 n++[Al W]) HH.out (n:=5) (by simp[cE]) (by decide)).grows (aB.drew _);obtain⟨w1,hw1⟩:=exq ((w.alloc (.cells #[.int .u8 (IntKind.u8.wrap (n:Int)),.int .u8 (IntKind.u8.wrap ((n:Int)/256)),.int .u8 (IntKind.u8.wrap ((n:Int)/65536)),.int .u8 (IntKind.u8.wrap ((n:Int)/16777216)),.int .u8 (IntKind.u8.wrap (W:Int))] 5)).drew);have aq:aB w w1:=by rw[hw1];exact(aB.alloc _ _).dr
 rw[<-hw1]at dx ⊢;clear hw1 HH;generalize IntKind.u8.wrap (n:Int)=y1;generalize IntKind.u8.wrap ((n:Int)/256)=y2;generalize IntKind.u8.wrap ((n:Int)/65536)=y3;generalize IntKind.u8.wrap ((n:Int)/16777216)=y4;generalize IntKind.u8.wrap (W:Int)=y5;go_wp2_with fail
 have wM:=HWM.out;have wM2:=HWM2.out;have vt:=HE1.out;have eq2:=HE2.out;have wT:=HWT.out;have z0:∀y:Ext aB w1.drew,y.u.cell? ⟨pb,0,none⟩=some (.int .i64 n):=aG (aq.dr.cell c0);have z1:∀y:Ext aB w1.drew,y.u.cell? ⟨pb,1,none⟩=some (.int .i64 W):=aG (aq.dr.cell c1);refine bH (aT 12 []) (by kernel_rfl) (λd _ _ _ _ h=>by cases d<;>exact h) ?_
 iterate 12 (refine aJ rfl (λK hK=>?_);go_simp;refine hK _ ?_;clear hK K)
 refine bN ?_;clear z0 z1 wM wM2 vt eq2 wT;go_wp2_with fail
 go_loopw [3,47] (λout i wr=>∃(k:Nat) (acc:List UInt8),k<=T/\i=.int .i64 k/\Hid (acc=leB 4 n++[Al W]++wJ l k)/\aO wr w.heap.size 5 1 aQ out acc/\aB w wr) (λ_ i _=>T-(intOf i).toNat)
 case atStart=>exact⟨0,_,Az _,rfl,(by show _=_;simp[wJ]),dx.grows (aB.drew _),aq.dr⟩
 case round =>
  obtain⟨k,acc,hk,rfl,bk,ae,hg⟩:=hrel;by_cases af:k<T
  ·have di:(k:Int)<T:=by omega
   obtain⟨J,hJ⟩:=exq (k/8);obtain⟨R,hR⟩:=exq (k%8*8);have hJq:J<q:=by omega
   have hRb:R<=56:=by omega
   have eJ:(k:Int)/8=J:=by omega
   have eR:(k:Int)%8*8=R:=by omega
   have wR:IntKind.u64.wrap (R:Int)=R:=by simp[Ab,Ac,Aa];omega
   obtain⟨x,hx⟩:=exq (gI l W J);have jy:wr.cell? ⟨wb,J,none⟩=some (.int .u64 x):=hg.cell (eH (f:=λn:Nat=>Value.int .u64 n) HOWN.out (by rw[fB hJq,hx]));have c2r:=hg.cell c2
   have HN:Hid (acc++[Al (x>>>R)]=leB 4 n++[Al W]++wJ l (k+1)):=by
    show _=_
    rw[mF0,<-HW.out,<-hJ,<-hR,<-hx,bk.out,Bi]
   have HB:Hid ([Value.int .u8 ((x:Int)/2^R%256)]=aQ (Al (x>>>R))):=by
    show _=_
    rw[uU];exact zR _
   have li:acc.length<=5+k:=by rw[bk.out,Be,rH0];simp[cE]<;>omega
   have hJi:(J:Int)<q:=by omega
   clear hJ hR hx bk;go_wp2_with (at_builtin;refine dQ aR rfl _ _ rfl w.heap.size _ acc (Al (x>>>R)) rfl ae (aB.refl _) _ 1 rfl _ (by exact HB.out) rfl (by omega) hg.size ?_;intro v' w5 ai bg)
   go_roundw
   case rel=>exact⟨k+1,_,af,by go_num,HN.out,ai,bg w hg (Ak _)⟩
   case measure=>simp[intOf];omega
  ·have di:¬(k:Int)<T:=by omega
   have HF:Hid (acc=cG l):=by
    show _=_
    have hkT:k=T:=by omega
    rw[bk.out,hkT,HTE.out,HNE.out,HW.out];rfl
   clear bk;go_wp2_with fail
   go_ret;exact⟨_,rfl,by rw[<-HF.out];exact ae,hg⟩
def lO {α:Type} (l:List α) (z:α) (k:Nat):List α:=l.take k++An (l.length-k) z
theorem mK {α:Type} (l:List α) (z:α) {k:Nat} (h:k<=l.length):(lO l z k).length=l.length:=by
 unfold lO;rw[Be,At,List.length_replicate];omega
theorem qK {α:Type} (l:List α) (z:α):lO l z 0=An l.length z:=by simp[lO]
theorem sF {α:Type} (l:List α) (z:α):lO l z l.length=l:=by simp[lO]
theorem sR {α:Type} {l:List α} {z x:α} {k:Nat} (h:l[k]?=some x):(lO l z k).set k x=lO l z (k+1):=by
 have hk:k<l.length:=(List.getElem?_eq_some_iff.1 h).1;unfold lO;rw[List.set_append_right _ _ (by rw[At];omega),aY h,Bi];congr 1
 rw[show k-(l.take k).length=0 by rw[At];omega,show l.length-k=(l.length-(k+1))+1 by omega,List.replicate_succ]
 rfl
theorem nO (l:List Nat) (a:Option Addr) (c:Nat) (w:World) (hl:l.length<=1048576) (hn:∀n∈l,n<9223372036854775808) (ah:aF w a 1 (l.map jP)) :
  Calls Tryz.prog 47 #[.slice a l.length c] w λe w'=>∃v,e=.returned v/\aO w' w.heap.size 5 1 aQ v (cG l)/\aB w w':=by
 have HAT:=Ad ah;have HN:=Ad hn;have ke:=λ(Y:World)=>iX1 l.length Y hl;have CP:=λ(W:World) (q c:Nat) (h:aF W (some ⟨q,0,none⟩) 1 (l.map jR))=>Ad (fX0 l (some ⟨q,0,none⟩) c W hl (λn hn'=>by have:=hn n hn';omega) h);have CE:=λ(W:World) (q:Nat) (h:kR0 W q l)=>Ad (fH0 l q W hl (λn hn'=>by have:=hn n hn';omega) h);clear ah hn;go_enter Tryz.func47,Tryz.ntmps47
 go_wp2_with fail
 have cg:=jN0 (w:=w) (n:=l.length) hl;rw[Bk,<-qK l 0]at cg;obtain⟨W1,dv⟩:=exq (w.alloc (.cells (madeCells #[.int .u64 0] l.length) 142));have ep:aB w W1:=by rw[dv];exact aB.alloc _ _
 rw[<-dv]at cg ⊢;clear dv;go_loopw [13] (λi wr=>∃(k:Nat),k<=l.length/\i=.int .i64 k/\aO wr w.heap.size 142 1 jR (.slice (some ⟨w.heap.size,0,none⟩) l.length l.length) (lO l 0 k)/\aB w wr) (λi _=>l.length-(intOf i).toNat)
 case atStart=>exact⟨0,Az _,rfl,cg,ep⟩
 case round =>
  clear cg ep;obtain⟨k,hk,rfl,ae,hg⟩:=hrel;by_cases af:k<l.length
  ·obtain⟨x,hx⟩:∃x,l[k]?=some x:=⟨_,Ai af⟩
   obtain⟨b,o,rfl,hc⟩:=at1 (HAT.out.grows hg) (aH af);have jy:=hc k x hx;have afs:=HN.out x (Ao hx);have wx:IntKind.u64.wrap (x:Int)=x:=by simp[Ab,Ac,Aa];omega
   have zj:=mK l 0 hk;obtain⟨y,hy⟩:∃y,(lO l 0 k)[k]?=some y:=⟨_,Ai (by omega)⟩;have e1:=eH (f:=λn:Nat=>Value.int .u64 n) ae hy;obtain⟨f1,_,ax⟩:=fM (f:=λn:Nat=>Value.int .u64 n) ae (k:=k) (by omega) x;rw[sR hx]at ax;have HO:=Ad ax;clear hc hx hy ae ax zj;go_wp2_with fail
   go_roundw
   case rel=>exact⟨k+1,by omega,by go_num,HO.out,hg.set (Ak _) _⟩
   case measure=>simp[intOf];omega
  ·obtain rfl:k=l.length:=by omega
   rw[sF]at ae;obtain⟨a1,c1,e1,_,_,dw⟩:=ae.at_ (k:=1) (λx=>(rfl:(jR x).length=1));have e2:=(Value.slice.inj e1).1;subst e2;have CP1:=CP wr w.heap.size l.length dw;clear CP e1 dw ae;go_wp2_with fail
   refine CP1.out.mono ?_;rintro e w2 ⟨rfl,hp,an⟩;have CE1:=CE w2 wr.heap.size hp;clear CE CP1 hp;have an:=aB.trans _ _ _ hg an;go_wp2_with fail
   refine CE1.out.mono ?_;rintro e w3 ⟨v,rfl,hv,bu⟩;go_wp2_with fail
   go_ret;exact⟨v,rfl,hv.base an.size,aB.trans _ _ _ an bu⟩
theorem uN (l:List Nat) (W Q t:Nat) (ht:t<64):(gI l W Q).testBit t=bitAt l W (64*Q+t):=by
 unfold gI;rw[dT];simp[ht]
theorem bN1 {l:List Nat} {W i x Q S:Nat} (hx:l[i]?=some x) (zk:x<2^W) (hQ:i*W=64*Q+S) (je:S+W<=64):(gI l W Q>>>S)&&&(2^W-1)=x:=by
 apply Bb
 intro t;rw[Bn,Au,Ay];by_cases ht:t<W
 ·rw[uN _ _ _ _ (by omega),<-Bs,<-hQ,xV hx ht]
  simp[ht]
 ·simp only[ht,decide_false,Bp]
  exact(As (Aq zk (Ah (by decide) (by omega)))).symm
theorem cJ1 {l:List Nat} {W i x Q S:Nat} (hx:l[i]?=some x) (zk:x<2^W) (hQ:i*W=64*Q+S) (hS:S<64) (hW:W<=64) (je:64<S+W) :
  ((gI l W Q>>>S)|||(gI l W (Q+1)<<<(64-S))%18446744073709551616)&&&(2^W-1)=x:=by
 apply Bb
 intro t;rw[Bn,Au,Nat.testBit_or,Ay];by_cases ht:t<W
 ·rw[fU0 (by omega)]
  by_cases h1:S+t<64
  ·rw[uN _ _ _ _ h1,<-Bs,<-hQ,xV hx ht]
   simp[ht,show ¬64-S<=t by omega]
  ·rw[show (gI l W Q).testBit (S+t)=false by
    apply As
    exact Aq (nB l W Q) (Ah (n:=2) (by decide) (show 64<=S+t by omega))]
   rw[uN _ _ _ _ (by omega),show 64*(Q+1)+(t-(64-S))=i*W+t by omega,xV hx ht]
   simp[ht,show 64-S<=t by omega]
 ·simp only[ht,decide_false,Bp]
  exact(As (Aq zk (Ah (by decide) (by omega)))).symm
theorem cC1 {W:Nat} (hW:W<=64):IntKind.u64.wrap (IntKind.u64.wrap (2^W)-1)=((2^W-1:Nat):Int):=by
 have h:∀V:Fin 65,IntKind.u64.wrap (IntKind.u64.wrap (2^V.val)-1)=((2^V.val-1:Nat):Int):=by decide +kernel
 exact h ⟨W,by omega⟩
theorem gJ1 (pb wb q W i x base:Nat) (l:List Nat) (w:World) (hW:W<=64) (gb:l.length<=1048576) (hx:l[i]?=some x) (zk:x<2^W) (hq:l.length*W<=64*q)
  (c1:w.cell? ⟨pb,1,none⟩=some (.int .i64 W)) (c2:w.cell? ⟨pb,2,none⟩=some (.slice (some ⟨wb,0,none⟩) q q)) (ae:aO w base 142 1 jR (.slice (some ⟨wb,0,none⟩) q q) (dZ l W q)) :
  Calls Tryz.prog 130 #[.pointer (some ⟨pb,0,none⟩),.int .i64 i] w λe w'=>e=.returned (.int .u64 x)/\(w'=w\/w'=w.drew):=by
 have hil:=(List.getElem?_eq_some_iff.1 hx).1;by_cases gv:W=0
 ·have ti:x=0:=by rw[gv]at zk;simpa using zk
  subst ti;subst gv;clear ae;go_enter Tryz.func130,Tryz.ntmps130
  go_wp2_with fail
  go_ret;exact⟨rfl,Or.inl rfl⟩
 ·have gh:(W:Int)≠0:=by omega
  obtain⟨M,hM⟩:=exq (i*W)
  have hMq:M+W<=64*q:=by
   have h1:(i+1)*W<=l.length*W:=Ba _ (by omega);rw[Nat.add_mul]at h1;omega
  have aka:M<=1048576*64:=by rw[hM];exact Av (by omega) hW
  obtain⟨Q,hQ⟩:=exq (M/64);obtain⟨S,hS⟩:=exq (M%64);have hQS:i*W=64*Q+S:=by rw[<-hM];omega
  have up:S<64:=by omega
  have hQq:Q<q:=by omega
  have wM:IntKind.i64.wrap ((i:Int)*W)=M:=by
   have h1:(i:Int)*W=M:=by rw[hM];push_cast;rfl
   rw[h1];simp[Ab,Ac,Aa];omega
  have eQ:(M:Int)/64=Q:=by omega
  have eS:(M:Int)%64=S:=by omega
  obtain⟨y,hy⟩:=exq (gI l W Q);have pe:y<18446744073709551616:=by rw[hy];exact nB l W Q
  have d1:w.drew.cell? ⟨wb,Q,none⟩=some (.int .u64 y):=(aB.drew w).cell (eH (f:=λn:Nat=>Value.int .u64 n) ae (by rw[fB hQq,hy]));have z1:∀y:Ext aB w.drew,y.u.cell? ⟨pb,1,none⟩=some (.int .i64 W):=aG ((aB.drew w).cell c1);have hQi:(Q:Int)<q:=by omega
  have g1:w.drew.cell? ⟨pb,1,none⟩=some (.int .i64 W):=(aB.drew w).cell c1;have g2:w.drew.cell? ⟨pb,2,none⟩=some (.slice (some ⟨wb,0,none⟩) q q):=(aB.drew w).cell c2;have aia:IntKind.i64.wrap ((S:Int)+W)=(S:Int)+W:=by simp[Ab,Ac,Aa];omega
  have ke:=cC1 hW
  have vk:2^W-1<18446744073709551616:=by
   have:2^W<=2^64:=Ah (by decide) hW
   have e:(2:Nat)^64=18446744073709551616:=by decide
   omega
  obtain⟨v0,vm⟩:=exq (y>>>S);have hsh:(y:Int)/2^S=(v0:Nat):=by rw[vm];exact uU y S
  have aae:v0<18446744073709551616:=by rw[vm];exact Bd (Nat.shiftRight_le _ _) pe
  by_cases l9:S+W<=64
  ·have hsw:¬(64:Int)<(S:Int)+W:=by omega
   have hand:bits .and .u64 (v0:Int) ((2^W-1:Nat):Int)=(x:Int):=by
    rw[u64_and_nat _ _ aae vk,vm,hy,bN1 hx zk hQS l9]
   obtain⟨MK,hMK⟩:=exq (2^W-1);rw[<-hMK]at hand ke;clear hM hQ hS hQS hy ae hMq hx zk vm hMK;go_enter Tryz.func130,Tryz.ntmps130
   go_wp2_with fail
   refine bH (aT 17 []) (by kernel_rfl) (λd _ _ _ _ h=>by cases d<;>exact h) ?_
   iterate 17 (refine aJ rfl (λK hK=>?_);go_simp;refine hK _ ?_;clear hK K)
   refine bN ?_;clear z1;go_wp2_with fail
   go_ret;exact⟨rfl,Or.inr rfl⟩
  ·have l9:64<S+W:=by omega
   have hsw:(64:Int)<(S:Int)+W:=by omega
   have hQ1:Q+1<q:=by omega
   have aib:(Q:Int)+1<q:=by omega
   obtain⟨y1,rh⟩:=exq (gI l W (Q+1));have ajp:y1<18446744073709551616:=by rw[rh];exact nB l W _
   have d2:w.drew.cell? ⟨wb,Q+1,none⟩=some (.int .u64 y1):=(aB.drew w).cell (eH (f:=λn:Nat=>Value.int .u64 n) ae (by rw[fB hQ1,rh]));have hor:=nU0 (v:=y1) (S:=64-S) aae;obtain⟨v1,lf⟩:=exq (v0|||(y1<<<(64-S))%18446744073709551616)
   rw[<-lf]at hor;have ae4:v1<18446744073709551616:=by rw[lf];exact Bh (n:=64) aae (Bu _ (by decide))
   have hT:(64:Int)-S=((64-S:Nat):Int):=by omega
   have hTw:IntKind.u64.wrap ((64-S:Nat):Int)=((64-S:Nat):Int):=by simp[Ab,Ac,Aa];omega
   have hand:bits .and .u64 (v1:Int) ((2^W-1:Nat):Int)=(x:Int):=by
    rw[u64_and_nat _ _ ae4 vk,lf,vm,hy,rh,cJ1 hx zk hQS up hW l9]
   obtain⟨MK,hMK⟩:=exq (2^W-1);rw[<-hMK]at hand ke;clear hM hQ hS hQS hy ae hMq hx zk vm hMK rh lf;go_enter Tryz.func130,Tryz.ntmps130
   go_wp2_with fail
   refine bH (aT 17 []) (by kernel_rfl) (λd _ _ _ _ h=>by cases d<;>exact h) ?_
   iterate 17 (refine aJ rfl (λK hK=>?_);go_simp;refine hK _ ?_;clear hK K)
   refine bN ?_;clear z1;go_wp2_with fail
   go_ret;exact⟨rfl,Or.inr rfl⟩
theorem pJ0 (pb wb q W i x base:Nat) (l:List Nat) (w:World) (hW:W<=64) (gb:l.length<=1048576) (hx:l[i]?=some x) (zk:x<2^W) (hq:l.length*W<=64*q)
 (c1:w.cell? ⟨pb,1,none⟩=some (.int .i64 W)) (c2:w.cell? ⟨pb,2,none⟩=some (.slice (some ⟨wb,0,none⟩) q q)) (ae:aO w base 142 1 jR (.slice (some ⟨wb,0,none⟩) q q) (dZ l W q)) :
 Calls Tryz.prog 130 #[.pointer (some ⟨pb,0,none⟩),.int .i64 i] w λe w'=>e=.returned (.int .u64 x)/\aB w w':=(gJ1 pb wb q W i x base l w hW gb hx zk hq c1 c2 ae).mono λe w' ⟨h1,h2⟩=>⟨h1,by rcases h2 with rfl|rfl<;>first|exact aB.refl _|exact aB.drew _⟩
theorem vE {l:List Nat} {x:Nat} (h:x∈l):x<2^gU l:=lP.1 (Ak _) x h
theorem bJ0 (l:List Nat) (pb:Nat) (w:World) (ah:kR0 w pb l):Calls Tryz.prog 72 #[.pointer (some ⟨pb,0,none⟩)] w λe w'=>e=.returned (.int .i64 (l.length:Nat))/\w=w':=by
 have c0:=ah.c0;go_enter Tryz.func72,Tryz.ntmps72
 go_wp2_with fail
 go_ret;exact⟨rfl,rfl⟩
theorem yY0 (l:List Nat) (pb i x:Nat) (w:World) (ah:kR0 w pb l) (hl:l.length<=1048576) (hn:∀n∈l,n<18446744073709551616) (hx:l[i]?=some x):Calls Tryz.prog 73 #[.pointer (some ⟨pb,0,none⟩),.int .i64 i] w λe w'=>e=.returned (.tuple #[.int .u64 x,.bool true])/\aB w w':=by
 obtain⟨wb,h1,h2,h3⟩:=ah.c2;have hil:=(List.getElem?_eq_some_iff.1 hx).1;have CG:=Ad (pJ0 pb wb ((l.length*gU l+63)/64) (gU l) i x wb l w (lP.2 hn) hl hx (vE (Ao hx)) (by omega) ah.c1 h2 h3);have CL:=Ad (bJ0 l pb w ah);have h0:¬(i:Int)<0:=by omega
 have hi:(i:Int)<l.length:=by omega
 clear ah h2 h3 hx;go_enter Tryz.func73,Tryz.ntmps73
 go_wp2_with fail
 refine CL.out.mono ?_;rintro e w1 ⟨rfl,rfl⟩;go_wp2_with fail
 refine CG.out.mono ?_;rintro e w2 ⟨rfl,an⟩;go_wp2
 go_ret2;exact⟨rfl,an⟩
end
end Go.Proofs.YtiopheoljccmpaaGreatDoor
