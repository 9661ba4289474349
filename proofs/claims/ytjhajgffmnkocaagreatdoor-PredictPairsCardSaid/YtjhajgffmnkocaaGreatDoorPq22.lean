/- The texts Pk PkN PkE Bnum PkG, one behind the other. -/
import Derived.Test.YtjhajgffmnkocaaGreatDoorPq20
import Derived.Test.YtjhajgffmnkocaaGreatDoorShelf
import Derived.Laws.OwnMore
import Derived.OwnWalk
import Derived.Laws.MakeOwn
import Derived.Laws.BitsAllLaws
open Go.IntKind renaming signed → Aa,wrap → Ab,bits → Ac,wrap_u8' → Ap
open Go.Lib renaming hid → Ad,bitLenAux → Br
open List renaming getElem?_eq_none → Ae,length_set → Ag,getElem?_eq_getElem → Ai,getElem?_set_ne → Am,replicate → An,mem_of_getElem? → Ao,getElem?_set_self → Ar,length_take → At,ext_getElem? → Ax,getElem?_range → Bc,length_append → Be,getElem?_map → Bf,append_assoc → Bi,take_length → Bj,range → Bt
open Go.World renaming cell?_setCell_other → Af,frozen? → Bq
open Nat renaming pow_le_pow_right → Ah,lt_succ_self → Aj,le_refl → Ak,lt_of_lt_of_le → Aq,testBit_lt_two_pow → As,testBit_two_pow_sub_one → Au,mul_le_mul → Av,testBit_shiftRight → Ay,zero_le → Az,mul_le_mul_right → Ba,eq_of_testBit_eq → Bb,lt_of_le_of_lt → Bd,or_lt_two_pow → Bh,mul_one → Bk,testBit_and → Bn,add_assoc → Bs,mod_lt → Bu
open UInt8 renaming ofNat → Al
open Int renaming tdiv_eq_ediv_of_nonneg → Aw,toNat_natCast → Bg
open Go.Addr renaming block → Bo
open Bool renaming and_false → Bp
set_option maxHeartbeats 8000000
namespace Go.Proofs.YtjhajgffmnkocaaGreatDoor
set_option maxRecDepth 100000
section
open Go Go.RowKit
attribute [local go_sem] aO aM
theorem nC {α:Type} (f:α->Value) (xs:List α):xs.flatMap (λx=>[f x])=xs.map f:=by
 induction xs with
 | nil=>rfl
 | cons x xs ih=>rw[List.flatMap_cons,ih];rfl
theorem eO {α:Type} {f:α->Value} {w:World} {base g n c k:Nat} {e:TypeId} {xs:List α} (h:aU w base e 1 (λx=>[f x]) (.slice (some ⟨g,0,none⟩) n c) xs) (hk:k<xs.length) (y:α) :
  w.frozen? ⟨g,k,none⟩=false/\base<=g/\aU (w.setCell ⟨g,k,none⟩ (f y)) base e 1 (λx=>[f x]) (.slice (some ⟨g,0,none⟩) n c) (xs.set k y):=by
 rcases h.2 with ⟨h1,_⟩|⟨g',cap,ct,hv,hb,hh,hn,hc,hs,ht⟩
 ·cases h1
 ·have e1:=(Value.slice.inj hv).1
  have e2:=(Value.slice.inj hv).2.1;obtain rfl:g=g':=congrArg Bo (Option.some.inj e1);have hkc:k<ct.size:=by omega
  refine⟨by simp[Bq,hh],hb,?_⟩;have hl:(xs.set k y).length=xs.length:=Ag
  have hf:(xs.set k y).flatMap (λx=>[f x])=(xs.flatMap (λx=>[f x])).set k (f y):=by
   rw[nC,nC,List.map_set]
  unfold aU;rw[hl];refine⟨by rw[hf,Ag];exact h.1,Or.inr ⟨g,cap,ct.setIfInBounds k (f y),hv,hb,heap_setCell_same w g k ct _ _ hh,hn,hc,by simpa using hs,?_⟩⟩;rw[hf,<-ht,Array.toList_setIfInBounds,List.take_set]
theorem cM {α:Type} {f:α->Value} {w:World} {base g n c k:Nat} {e:TypeId} {xs:List α} {x:α} (h:aU w base e 1 (λx=>[f x]) (.slice (some ⟨g,0,none⟩) n c) xs) (hx:xs[k]?=some x):w.cell? ⟨g,k,none⟩=some (f x):=by
 obtain⟨a,c2,he,_,_,ac⟩:=aU.at_ (enc:=λx=>[f x]) (λ_=>rfl) h;simp only[Value.slice.injEq]at he;rw[<-he.1]at ac;obtain⟨b1,o1,he1,cg⟩:=at1 (f:=f) ac (aJ (List.getElem?_eq_some_iff.1 hx).1);obtain⟨rfl,rfl⟩:g=b1/\0=o1:=by simpa using he1
 have:=cg k x hx
 rwa [Nat.zero_add]at this
def eD (l:List Nat) (W q:Nat):List Nat:=(Bt q).map (gQ l W)
theorem fB (l:List Nat) (W q:Nat):(eD l W q).length=q:=by simp[eD]
theorem fC {l:List Nat} {W q k:Nat} (h:k<q):(eD l W q)[k]?=some (gQ l W k):=by
 unfold eD;rw[Bf,Bc h];rfl
theorem tT0 {l:List Nat} {W v q Q S:Nat} (hW:0<W) (fp:W<=64) (hv:v<2^W) (hS:S<64) (hQ:l.length*W=64*Q+S) (fx:S+W<=64):eD (l++[v]) W q=(eD l W q).set Q (gQ l W Q|||(v<<<S)%18446744073709551616):=by
 apply Ax
 intro k;by_cases hk:k<q
 ·rw[fC hk]
  by_cases vf:k=Q
  ·subst vf
   rw[Ar (by rw[fB];exact hk),kG0 hW hv hQ]
  ·rw[Am (Ne.symm vf),fC hk,cJ0 hW hv hS hQ vf (λ_=>fx) fp]
 ·rw[Ae (by rw[fB];omega),Ae (by rw[Ag,fB];omega)]
theorem uF0 {l:List Nat} {W v q Q S:Nat} (hW:0<W) (fp:W<=64) (hv:v<2^W) (hS:S<64) (hQ:l.length*W=64*Q+S) (_:64<S+W) (yy:Q+1<q) :
  eD (l++[v]) W q=((eD l W q).set Q (gQ l W Q|||(v<<<S)%18446744073709551616)).set (Q+1) (gQ l W (Q+1)|||v>>>(64-S)):=by
 apply Ax
 intro k;by_cases hk:k<q
 ·rw[fC hk]
  by_cases acp:k=Q+1
  ·subst acp
   rw[Ar (by rw[Ag,fB];exact hk),sT0 hW hv fp hS hQ]
  ·rw[Am (Ne.symm acp)]
   by_cases vf:k=Q
   ·subst vf
    rw[Ar (by rw[fB];exact hk),kG0 hW hv hQ]
   ·rw[Am (Ne.symm vf),fC hk,cJ0 hW hv hS hQ vf (λh=>absurd h acp) fp]
 ·rw[Ae (by rw[fB];omega),Ae (by rw[Ag,Ag,fB];omega)]
theorem kU0 {x v S:Nat} (hx:x<18446744073709551616):bits .or .u64 (x:Int) (IntKind.u64.wrap ((v:Int)*2^S))=((x|||(v<<<S)%18446744073709551616:Nat):Int):=by
 have h1:IntKind.u64.wrap ((v:Int)*2^S)=((v<<<S%18446744073709551616:Nat):Int):=by
  rw[Nat.shiftLeft_eq,show (v:Int)*2^S=((v*2^S:Nat):Int) by push_cast;rfl]
  generalize v*2^S=N;simp[Ab,Ac,Aa]
 rw[h1];exact u64_or_nat x _ hx (Bu _ (by decide))
theorem mT1 {x v T:Nat} (hx:x<18446744073709551616) (hv:v<18446744073709551616):bits .or .u64 (x:Int) ((v:Int)/2^T)=((x|||v>>>T:Nat):Int):=by
 rw[aY0];exact u64_or_nat x _ hx (Bd (by rw[Nat.shiftRight_eq_div_pow];exact Nat.div_le_self _ _) hv)
theorem gP1 (pb wb q W v i base:Nat) (pre:List Nat) (w:World) (dh:0<W) (hW:W<=64) (hi:i=pre.length) (j7:i<=1048576) (hv:v<2^W) (fx:(i+1)*W<=64*q) (hq:q<=1048576)
  (c1:w.cell? ⟨pb,1,none⟩=some (.int .i64 W)) (c2:w.cell? ⟨pb,2,none⟩=some (.slice (some ⟨wb,0,none⟩) q q)) (p9:pb<wb) (aa:aU w base 154 1 kF (.slice (some ⟨wb,0,none⟩) q q) (eD pre W q)) :
  Calls Tryz.prog 214 #[.pointer (some ⟨pb,0,none⟩),.int .i64 i,.int .u64 v] w λe w'=>e=.returned (.tuple #[])/\aU w' base 154 1 kF (.slice (some ⟨wb,0,none⟩) q q) (eD (pre++[v]) W q)/\EB wb w w':=by
 obtain⟨M,hM⟩:=exq (i*W);obtain⟨Q,hQ⟩:=exq (M/64);obtain⟨S,hS⟩:=exq (M%64);have vg:M<=1048576*64:=by rw[hM];exact Av j7 hW
 have hMq:M+W<=64*q:=by rw[hM];rw[Nat.succ_mul]at fx;exact fx
 have z8:pre.length*W=64*Q+S:=by rw[<-hi,<-hM];omega
 have m5:S<64:=by omega
 have s5:Q<q:=by omega
 have aei:v<18446744073709551616:=Aq hv (Ah (n:=2) (by decide) hW)
 have wM:IntKind.i64.wrap ((i:Int)*W)=M:=by
  have h1:(i:Int)*W=M:=by rw[hM];push_cast;rfl
  rw[h1];simp[Ab,Ac,Aa];omega
 have eQ:(M:Int)/64=Q:=by omega
 have eS:(M:Int)%64=S:=by omega
 obtain⟨x,hx⟩:=exq (gQ pre W Q);have ju:x<18446744073709551616:=by rw[hx];exact nD pre W Q
 have d1:w.cell? ⟨wb,Q,none⟩=some (.int .u64 x):=cM (f:=λn:Nat=>Value.int .u64 n) aa (by rw[fC s5,hx]);obtain⟨f1,_,ay⟩:=eO (f:=λn:Nat=>Value.int .u64 n) (aa.grows (aB.drew w)) (k:=Q) (by rw[fB];exact s5) (x|||(v<<<S)%18446744073709551616)
 have HWB:=Ad (Nat.le_of_lt (World.block_lt_of_cell? w _ d1));have z9:=kU0 (v:=v) (S:=S) ju;obtain⟨x1,jn⟩:=exq (x|||(v<<<S)%18446744073709551616)
 rw[<-jn]at z9 ay;have ak:pb≠wb:=by omega
 have z1:∀y:Ext aB w.drew,y.u.cell? ⟨pb,1,none⟩=some (.int .i64 W):=aF ((aB.drew w).cell c1);have fi:(W:Int)≠0:=by omega
 have hQi:(Q:Int)<q:=by omega
 have g1:∀u,(w.drew.setCell ⟨wb,Q,none⟩ u).cell? ⟨pb,1,none⟩=some (.int .i64 W):=λu=>(Af _ _ _ _ (λh=>ak (congrArg Bo h).symm)).trans c1;have g2:∀u,(w.drew.setCell ⟨wb,Q,none⟩ u).cell? ⟨pb,2,none⟩=some (.slice (some ⟨wb,0,none⟩) q q):=λu=>(Af _ _ _ _ (λh=>ak (congrArg Bo h).symm)).trans c2;have agz:IntKind.i64.wrap ((S:Int)+W)=(S:Int)+W:=by simp[Ab,Ac,Aa];omega
 by_cases kc:S+W<=64
 ·have hsw:¬(64:Int)<(S:Int)+W:=by omega
  have HF:Hid (eD (pre++[v]) W q=(eD pre W q).set Q x1):=by show _=_;rw[tT0 dh hW hv m5 z8 kc,jn,hx]
  have HO:=Ad ay;clear hM hQ hS z8 hx jn ay aa fx hMq hi hv;go_enter Tryz.func214,Tryz.ntmps214
  go_wp2_with fail
  refine bH (bE 17 []) (by kernel_rfl) (λd _ _ _ _ h=>by cases d<;>exact h) ?_
  iterate 17 (refine aH rfl (λK hK=>?_);go_simp;refine hK _ ?_;clear hK K)
  refine bN ?_;clear z1;go_wp2_with fail
  refine bodyPost_end (v:=.tuple #[]) (by simp[results,Tryz.results214,go_sem]) rfl ⟨rfl,?_,?_⟩
  ·rw[HF.out]
   exact HO.out
  ·exact EB.trans _ _ _ _ (EB.of (aB.drew w) HWB.out) ⟨(Below.refl wb w.drew).setCell (p:=⟨wb,Q,none⟩) (Ak wb) _,by simp⟩
 ·have kc:64<S+W:=by omega
  have hsw:(64:Int)<(S:Int)+W:=by omega
  have yy:Q+1<q:=by omega
  have ag0:(Q:Int)+1<q:=by omega
  obtain⟨y,hy⟩:=exq (gQ pre W (Q+1));have ke:y<18446744073709551616:=by rw[hy];exact nD pre W _
  have hYg:((eD pre W q).set Q x1)[Q+1]?=some y:=by rw[Am (by omega),fC yy,hy]
  have e1:=cM (f:=λn:Nat=>Value.int .u64 n) aa (k:=Q+1) (x:=y) (by rw[fC yy,hy]);obtain⟨f3,_,_⟩:=eO (f:=λn:Nat=>Value.int .u64 n) aa (k:=Q+1) (by rw[fB];exact yy) y;obtain⟨f2,_,ah⟩:=eO (f:=λn:Nat=>Value.int .u64 n) ay (k:=Q+1) (by rw[Ag,fB];exact yy) (y|||v>>>(64-S))
  have ag1:=mT1 (x:=y) (v:=v) (T:=64-S) ke aei;obtain⟨y1,lj⟩:=exq (y|||v>>>(64-S))
  rw[<-lj]at ag1 ah;have hT:(64:Int)-S=((64-S:Nat):Int):=by omega
  have hTw:IntKind.u64.wrap ((64-S:Nat):Int)=((64-S:Nat):Int):=by simp[Ab,Ac,Aa];omega
  have HF:Hid (eD (pre++[v]) W q=((eD pre W q).set Q x1).set (Q+1) y1):=by show _=_;rw[uF0 dh hW hv m5 z8 kc yy,jn,hx,lj,hy]
  have HO:=Ad ah;clear hM hQ hS z8 hx jn ay aa fx hMq hi hv hy lj ah hYg;go_enter Tryz.func214,Tryz.ntmps214
  go_wp2_with fail
  refine bH (bE 17 []) (by kernel_rfl) (λd _ _ _ _ h=>by cases d<;>exact h) ?_
  iterate 17 (refine aH rfl (λK hK=>?_);go_simp;refine hK _ ?_;clear hK K)
  refine bN ?_;clear z1;go_wp2_with fail
  refine bodyPost_end (v:=.tuple #[]) (by simp[results,Tryz.results214,go_sem]) rfl ⟨rfl,?_,?_⟩
  ·rw[HF.out]
   exact HO.out
  ·exact EB.trans _ _ _ _ (EB.of (aB.drew w) HWB.out) ⟨((Below.refl wb w.drew).setCell (p:=⟨wb,Q,none⟩) (Ak wb) _).setCell (p:=⟨wb,Q+1,none⟩) (Ak wb) _,by simp⟩
theorem mG0 {x:Nat} (h:x≠0):bitLen x=1+bitLen (x/2):=by
 unfold bitLen;rw[if_neg h];by_cases h1:x=1
 ·subst h1;rfl
 ·rw[if_neg (by omega),Nat.log2_def,if_pos (by omega)]
  omega
theorem cR0:∀(f x:Nat),x<2^f->Br f x=bitLen x
 | 0,x,h=>by
  obtain rfl:x=0:=by simpa using h
  rfl
 | f+1,x,h=>by
  rw[Br];by_cases hx:x=0
  ·subst hx;rfl
  ·rw[if_neg hx,mG0 hx,cR0 f (x/2) (by rw[Nat.pow_succ]at h;omega)]
theorem xJ0 (x:Nat) (w:World) (hx:x<18446744073709551616):Calls Tryz.prog 91 #[.int .u64 x] w λe w'=>e=.returned (.int .i64 (bitLen x))/\w=w':=by
 refine(Tryz.bits_Len64 x w (by omega) (by omega)).mono ?_;rintro e w1 ⟨rfl,rfl⟩;exact⟨by rw[Bg];unfold Lib.bitLen;rw[cR0 64 x hx],rfl⟩
theorem jJ1:∃i,Tryz.prog.info? 154=some i/\i.zero=some (.int .u64 0)/\i.size=1/\i.bytes=8:=by
 obtain⟨i,z,h1,h2,h3,h4,_⟩:=cG1.info;have h:(Tryz.prog.info? 154).map (λi=>i.zero)=some (some (.int .u64 0)):=by kernel_rfl
 rw[h1]at h;exact⟨i,h1,by simpa using h,h3,h4⟩
theorem nE1 (n:Nat) (W:World) (hn:n<=1048576):(Instr.makeSlice 220 (.int .i64 n) (.int .i64 n)).run Tryz.prog W=.ok (.slice (some ⟨W.heap.size,0,none⟩) n n) (W.alloc (.cells (madeCells #[.int .u64 0] (n*1)) 154)):=by
 obtain⟨i,h1,h2,h3,h4⟩:=jJ1;have h:=run_make (P:=Tryz.prog) W 220 154 i (.int .u64 0) Tryz.underlying220 h1 h2 .i64 .i64 n n (by omega) (Int.le_refl _) (by rw[h4];omega) (by omega);rw[Bg,h3]at h;exact h
theorem kW0 {w:World} {n:Nat} (hn:n<=1048576):aU (w.alloc (.cells (madeCells #[.int .u64 0] (n*1)) 154)) w.heap.size 154 1 kF (.slice (some ⟨w.heap.size,0,none⟩) n n) (An n 0) :=
 jB (enc:=kF) (λ_=>rfl) (Ak _) (An n 0) (by
  rw[toList_madeCells_one,Bk];unfold kF;rw[nC,List.map_replicate];rfl) (by simp) (by unfold maxLen;omega)
theorem uS0 (W q:Nat):eD [] W q=An q 0:=by
 unfold eD;apply Ax
 intro k;by_cases hk:k<q
 ·rw[Bf,Bc hk,List.getElem?_replicate,if_pos hk]
  simp[bW1]
 ·rw[Ae (by simp;omega),Ae (by simp;omega)]
theorem mU0 {l:List Nat} {v q:Nat} (h:∀n∈l++[v],n<2^0):eD (l++[v]) 0 q=eD l 0 q:=by
 unfold eD;apply List.map_congr_left
 intro k _;rw[cA0 _ k h,cA0 l k (λn hn=>h n (by simp[hn]))]
theorem xT0 (pb i v:Nat) (w:World) (c1:w.cell? ⟨pb,1,none⟩=some (.int .i64 0)) :
  Calls Tryz.prog 214 #[.pointer (some ⟨pb,0,none⟩),.int .i64 i,.int .u64 v] w λe w'=>e=.returned (.tuple #[])/\w=w':=by
 go_enter Tryz.func214,Tryz.ntmps214
 go_wp2_with fail
 refine bodyPost_ret (v:=.tuple #[]) (by simp[results,Tryz.results214,go_sem]) rfl ⟨rfl,rfl⟩
theorem eF0 (w:World) (cs:Array Value) (t:TypeId) (j:Nat):(w.alloc (.cells cs t)).frozen? ⟨w.heap.size,j,none⟩=false:=by
 have h:(w.alloc (.cells cs t)).heap[w.heap.size]?=some (.cells cs t):=heap_alloc_new w _;unfold Bq;simp only[h];simp
theorem mM {α:Type} {w:World} {base:Nat} {e:TypeId} {k:Nat} {enc:α->List Value} {v:Value} {xs:List α} (h:aU w base e k enc v xs) {p:Addr} (hp:p.block<base) (u:Value):aU (w.setCell p u) base e k enc v xs:=by
 obtain⟨h1,h2⟩:=h;refine⟨h1,?_⟩;rcases h2 with h2|⟨g,cap,ct,hv,hb,hh,r⟩
 ·exact Or.inl h2
 ·refine Or.inr ⟨g,cap,ct,hv,hb,?_,r⟩
  rw[heap_setCell_other w p g u (by omega)];exact hh
structure lJ (w:World) (pb:Nat) (l:List Nat):Prop where
 c0:w.cell? ⟨pb,0,none⟩=some (.int .i64 l.length)
 c1:w.cell? ⟨pb,1,none⟩=some (.int .i64 (nZ l))
 c2:∃wb,pb<wb/\w.cell? ⟨pb,2,none⟩=some (.slice (some ⟨wb,0,none⟩) ((l.length*nZ l+63)/64) ((l.length*nZ l+63)/64))/\aU w wb 154 1 kF (.slice (some ⟨wb,0,none⟩) ((l.length*nZ l+63)/64) ((l.length*nZ l+63)/64)) (eD l (nZ l) ((l.length*nZ l+63)/64))
theorem lJ.grows {w w':World} {pb:Nat} {l:List Nat} (h:lJ w pb l) (hg:aB w w'):lJ w' pb l:=by
 obtain⟨wb,h1,h2,h3⟩:=h.c2;exact⟨hg.cell h.c0,hg.cell h.c1,wb,h1,hg.cell h2,h3.grows hg⟩
theorem rM0 {l:List Nat} {k v:Nat} (h:l[k]?=some v):bX0 (l.take (k+1))=bX0 (l.take k)|||v:=by rw[bJ h,rS0]
theorem eS0 (l:List Nat) (a:Option Addr) (c:Nat) (w:World) (hl:l.length<=1048576) (hn:∀n∈l,n<18446744073709551616) (ac:aG w a 1 (l.map kF)) :
  Calls Tryz.prog 167 #[.slice a l.length c] w λe w'=>e=.returned (.tuple #[.pointer (some ⟨w.heap.size,0,none⟩),.int .i64 0])/\lJ w' w.heap.size l/\aB w w':=by
 have HAT:=Ad ac;have HN:=Ad hn;have fp:nZ l<=64:=nF.2 hn;obtain⟨W,hWe⟩:=exq (nZ l);rw[<-hWe]at fp;have HW:=Ad hWe;obtain⟨q,hq⟩:=exq ((l.length*W+63)/64);have hLW:l.length*W<=1048576*64:=Av hl fp;have ve:q<=1048576:=by omega
 have HQ:=Ad hq;have hlw:¬(1048576:Int)<l.length:=by omega
 clear ac hn hWe hq;go_enter Tryz.func167,Tryz.ntmps167
 go_wp2_with fail
 go_loop [4,15] (λv i=>∃k V:Nat,k<=l.length/\i=.int .i64 k/\v=.int .u64 V/\V<18446744073709551616/\Hid (V=bX0 (l.take k))) (λ_ i=>l.length-(intOf i).toNat)
 case atStart=>exact⟨0,0,Az _,rfl,rfl,by decide,rfl⟩
 case round =>
  obtain⟨k,V,hk,rfl,rfl,hV,cp⟩:=hrel;by_cases af:k<l.length
  ·obtain⟨x,hx⟩:∃x,l[k]?=some x:=⟨_,Ai af⟩
   obtain⟨b,o,rfl,hc⟩:=at1 HAT.out (aJ af);have jc:=hc k x hx;have ju:=HN.out x (Ao hx);have HI:Hid (V|||x=bX0 (l.take (k+1))):=by show _=_;rw[rM0 hx,<-cp.out]
   have z9:=u64_or_nat V x hV ju;have vh:V|||x<18446744073709551616:=Bh (n:=64) hV ju
   clear hc hx cp;go_wp2_with fail
   go_round
   case rel=>exact⟨k+1,V|||x,af,by go_num,rfl,vh,HI.out⟩
   case measure=>simp[intOf];omega
  ·have jt:k=l.length:=by omega
   have cz:¬(k:Int)<l.length:=by omega
   have gd:bitLen V=W:=by rw[cp.out,jt,Bj,HW.out];rfl
   have CL:=xJ0 V w hV;rw[gd]at CL;clear cp jt gd;go_wp2_with fail
   refine CL.mono ?_;rintro e w1 ⟨rfl,rfl⟩;go_wp2_with fail
   obtain⟨WB,m6⟩:=exq (w.alloc (.cells #[.int .i64 l.length,.int .i64 W,.slice none 0 0] 260));have b0:WB.cell? ⟨w.heap.size,0,none⟩=some (.int .i64 l.length):=by rw[m6];exact aT w _ _ (0,0) 0 _ rfl
   have b1:WB.cell? ⟨w.heap.size,1,none⟩=some (.int .i64 W):=by rw[m6];exact aT w _ _ (0,0) 1 _ rfl
   have b2:WB.cell? ⟨w.heap.size,2,none⟩=some (.slice none 0 0):=by rw[m6];exact aT w _ _ (0,0) 2 _ rfl
   have bf:WB.frozen? ⟨w.heap.size,2,none⟩=false:=by rw[m6];exact(eF0 w _ _ 2)
   have jv:aB w WB:=by rw[m6];exact aB.alloc _ _
   have dm:WB.heap.size=w.heap.size+1:=by rw[m6];simp
   rw[<-m6];clear m6 CL;obtain⟨M,hM⟩:=exq (l.length*W);have vg:M<=1048576*64:=by rw[hM];exact hLW
   have hqM:(M+63)/64=q:=by rw[hM];exact HQ.out.symm
   have wM:IntKind.i64.wrap ((l.length:Int)*W)=M:=by
    have h1:(l.length:Int)*W=M:=by rw[hM];push_cast;rfl
    rw[h1];simp[Ab,Ac,Aa];omega
   have wM2:IntKind.i64.wrap ((M:Int)+63)=(M:Int)+63:=by simp[Ab,Ac,Aa];omega
   have qz:((M:Int)+63)/64=q:=by omega
   have yz:((M:Int)+63).tdiv 64=q:=by rw[Aw (by omega)];exact qz
   have z0:∀y:Ext aB WB.drew,y.u.cell? ⟨w.heap.size,0,none⟩=some (.int .i64 l.length):=aF ((aB.drew WB).cell b0);have z1:∀y:Ext aB WB.drew,y.u.cell? ⟨w.heap.size,1,none⟩=some (.int .i64 W):=aF ((aB.drew WB).cell b1);have wq:IntKind.i64.wrap (q:Int)=q:=by simp[Ab,Ac,Aa];omega
   have kh:=λ(Y:World)=>nE1 q Y ve;clear hLW hM;refine oV 13 (bE 13 [12]) (by kernel_rfl) (λd _ _ _ _ h=>by cases d<;>exact h) ?_
   iterate 12 (refine aH rfl (λK hK=>?_);go_simp;refine hK _ ?_;clear hK K)
   refine bG rfl rfl (λK hK=>?_);go_simp;refine⟨aB.alloc _ _,hK _ _ ?_⟩;clear hK K z0 z1 kh;refine bN ?_;simp only[List.drop_succ_cons,List.drop_zero];have be:=kW0 (w:=WB) ve;rw[Bk,dm]at be;obtain⟨W3,iy⟩:=exq ((WB.alloc (.cells (madeCells #[.int .u64 0] q) 154)).drew);have aw:aB WB W3:=by rw[iy];exact(aB.alloc WB _).dr
   have oy:aU W3 (w.heap.size+1) 154 1 kF (.slice (some ⟨w.heap.size+1,0,none⟩) q q) (An q 0):=by rw[iy];exact be.grows (aB.drew _)
   rw[<-iy];clear be;have b32:W3.cell? ⟨w.heap.size,2,none⟩=some (.slice none 0 0):=aw.cell b2;have b3f:W3.frozen? ⟨w.heap.size,2,none⟩=false:=by rw[aw.froz (by show w.heap.size<WB.heap.size;omega)];exact bf
   clear iy;have hWl:W3.heap.size >= WB.heap.size:=aw.size;have g0:=aw.cell b0;have g1:=aw.cell b1;go_wp2_with fail
   have e0:(W3.setCell ⟨w.heap.size,2,none⟩ (.slice (some ⟨w.heap.size+1,0,none⟩) q q)).cell? ⟨w.heap.size,0,none⟩=some (.int .i64 l.length):=(Af _ _ _ _ (λh=>by cases h)).trans g0;have e1:(W3.setCell ⟨w.heap.size,2,none⟩ (.slice (some ⟨w.heap.size+1,0,none⟩) q q)).cell? ⟨w.heap.size,1,none⟩=some (.int .i64 W):=(Af _ _ _ _ (λh=>by cases h)).trans g1;have e2:(W3.setCell ⟨w.heap.size,2,none⟩ (.slice (some ⟨w.heap.size+1,0,none⟩) q q)).cell? ⟨w.heap.size,2,none⟩=some (.slice (some ⟨w.heap.size+1,0,none⟩) q q):=World.cell?_setCell_same _ _ _ b32;have ee:=mM oy (p:=⟨w.heap.size,2,none⟩) (Aj _) (.slice (some ⟨w.heap.size+1,0,none⟩) q q);have cu:aB w (W3.setCell ⟨w.heap.size,2,none⟩ (.slice (some ⟨w.heap.size+1,0,none⟩) q q)):=(jv.tr aw).set (Ak _) _;rw[<-uS0 W q]at ee;generalize W3.setCell ⟨w.heap.size,2,none⟩ (.slice (some ⟨w.heap.size+1,0,none⟩) q q)=W4 at e0 e1 e2 ee cu ⊢;have aej:l.length*W<=64*q:=by have:=HQ.out;omega
   have HQM:=Ad aej;clear b0 b1 b2 bf jv dm vg hqM wM wM2 qz yz wq aw oy b32 b3f hWl g0 g1 aej;go_loopw [46] (λi wr=>∃k:Nat,k<=l.length/\i=.int .i64 k/\wr.cell? ⟨w.heap.size,0,none⟩=some (.int .i64 l.length)/\wr.cell? ⟨w.heap.size,1,none⟩=some (.int .i64 W)/\wr.cell? ⟨w.heap.size,2,none⟩=some (.slice (some ⟨w.heap.size+1,0,none⟩) q q)/\aU wr (w.heap.size+1) 154 1 kF (.slice (some ⟨w.heap.size+1,0,none⟩) q q) (eD (l.take k) W q)/\aB w wr) (λi _=>l.length-(intOf i).toNat)
   case atStart=>exact⟨0,Az _,rfl,e0,e1,e2,ee,cu⟩
   case round =>
    obtain⟨k,hk,rfl,d0,d1,d2,aa,hg⟩:=hrel;by_cases af:k<l.length
    ·obtain⟨x,hx⟩:∃x,l[k]?=some x:=⟨_,Ai af⟩
     obtain⟨b,o,rfl,hc⟩:=at1 HAT.out (aJ af);have jc:=hg.cell (hc k x hx);have cz:(k:Int)<l.length:=by omega
     by_cases dh:W=0
     ·have HO:Hid (aU wr (w.heap.size+1) 154 1 kF (.slice (some ⟨w.heap.size+1,0,none⟩) q q) (eD (l.take (k+1)) W q)):=by
       show aU _ _ _ _ _ _ _
       rw[bJ hx];have h1:=aa;rw[dh]at h1 ⊢
       rw[mU0 (l:=l.take k) (v:=x) (λn hn=>by
        rw[<-bJ hx]at hn;have h2:=yQ0 (List.mem_of_mem_take hn);rwa [<-HW.out,dh]at h2)]
       exact h1
      have C0:=xT0 w.heap.size k x wr (by rw[d1,dh];rfl);clear hc hx dh;go_wp2_with fail
      refine C0.mono ?_;rintro e w5 ⟨rfl,rfl⟩;go_wp2_with fail
      go_roundw
      case rel=>exact⟨k+1,af,by go_num,d0,d1,d2,HO.out,hg⟩
      case measure=>simp[intOf];omega
     ·have fx:(k+1)*W<=64*q:=Nat.le_trans (Ba W (show k+1<=l.length by omega)) HQM.out
      have CS:=gP1 w.heap.size (w.heap.size+1) q W x k (w.heap.size+1) (l.take k) wr (by omega) fp (by rw[At];omega) (by omega) (by rw[HW.out];exact yQ0 (Ao hx)) fx ve d1 d2 (Aj _) aa;rw[<-bJ hx]at CS;clear hc hx fx;go_wp2_with fail
      refine CS.mono ?_;rintro e w5 ⟨rfl,au,de⟩;go_wp2_with fail
      go_roundw
      case rel=>exact⟨k+1,af,by go_num,by rw[Below.cell de.1 (Aj _)];exact d0,by rw[Below.cell de.1 (Aj _)];exact d1,by rw[Below.cell de.1 (Aj _)];exact d2,au,Below.trans hg (Below.mono de.1 (Nat.le_succ _))⟩
      case measure=>simp[intOf];omega
    ·have cz:¬(k:Int)<l.length:=by omega
     have jt:k=l.length:=by omega
     have HP:Hid (lJ wr w.heap.size l):=by
      refine⟨d0,by rw[<-HW.out];exact d1,w.heap.size+1,Aj _,?_,?_⟩
      ·rw[<-HW.out,<-HQ.out];exact d2
      ·rw[<-HW.out,<-HQ.out]
       rw[jt,Bj]at aa;exact aa
     clear jt;go_wp2_with fail
     refine bodyPost_ret (v:=.tuple #[.pointer (some ⟨w.heap.size,0,none⟩),.int .i64 0]) (by simp[results,Tryz.results167,go_sem]) rfl ⟨rfl,HP.out,hg⟩
theorem sQ0 (n w:Nat) (hw:w<=64):(#[Value.int .u8 (IntKind.u8.wrap (n:Int)),.int .u8 (IntKind.u8.wrap ((n:Int)/256)),.int .u8 (IntKind.u8.wrap ((n:Int)/65536)),.int .u8 (IntKind.u8.wrap ((n:Int)/16777216)),.int .u8 (IntKind.u8.wrap (w:Int))]:Array Value).toList=(leB 4 n++[Al w]).flatMap aV:=by
 have h:=wU0 n w hw;rw[Ap,Ap,Ap,Ap,Ap,show (w:Int)%256=w by omega]
 exact h
def wH (l:List Nat) (k:Nat):List UInt8:=(Bt k).map λj=>Al (fE (bitAt l (nZ l)) (8*j) 8)
theorem mE0 (l:List Nat) (k:Nat):wH l (k+1)=wH l k++[Al (gQ l (nZ l) (k/8)>>>(k%8*8))]:=by
 unfold wH;rw[List.range_succ,List.map_append];simp only[List.map_cons,List.map_nil];rw[<-rG0 l (nZ l) k,yN]
theorem rP0 (l:List Nat) (k:Nat):(wH l k).length=k:=by simp[wH]
theorem fU0 (l:List Nat) (pb:Nat) (w:World) (hl:l.length<=1048576) (hn:∀n∈l,n<18446744073709551616) (ac:lJ w pb l) :
  Calls Tryz.prog 175 #[.pointer (some ⟨pb,0,none⟩)] w λe w'=>∃v,e=.returned v/\aU w' w.heap.size 5 1 aV v (packE l)/\aB w w':=by
 have fp:nZ l<=64:=nF.2 hn;have c0:=ac.c0;have c1:=ac.c1;obtain⟨wb,p9,c2,aa⟩:=ac.c2;obtain⟨W,hWe⟩:=exq (nZ l);obtain⟨n,ak⟩:=exq l.length;rw[<-hWe]at fp c1 c2 aa;rw[<-ak]at hl c0 c2 aa;obtain⟨q,hq⟩:=exq ((n*W+63)/64);rw[<-hq]at c2 aa;have HW:=Ad hWe;have HNE:=Ad ak;have HOWN:=Ad aa;have HH:=Ad (sQ0 n W fp);obtain⟨M,hM⟩:=exq (n*W);have vg:M<=1048576*64:=by rw[hM];exact Av hl fp
 obtain⟨T,hT⟩:=exq ((M+7)/8);have hTq:T<=8*q:=by rw[hT,hq,<-hM];omega
 have hTb:T<=8388609:=by omega
 have HTE:Hid (T=(l.length*nZ l+7)/8):=by show _=_;rw[hT,hM,HNE.out,HW.out]
 have wM:IntKind.i64.wrap ((n:Int)*W)=M:=by
  have h1:(n:Int)*W=M:=by rw[hM];push_cast;rfl
  rw[h1];simp[Ab,Ac,Aa];omega
 have wM2:IntKind.i64.wrap ((M:Int)+7)=(M:Int)+7:=by simp[Ab,Ac,Aa];omega
 have qz:((M:Int)+7)/8=T:=by omega
 have yz:((M:Int)+7).tdiv 8=T:=by rw[Aw (by omega)];exact qz
 have wT:IntKind.i64.wrap (T:Int)=T:=by simp[Ab,Ac,Aa];omega
 have HWM:=Ad wM;have HWM2:=Ad wM2;have HE1:=Ad qz;have HE2:=Ad yz;have HWT:=Ad wT;have HL:=Ad hl;have z0:∀y:Ext aB w.drew,y.u.cell? ⟨pb,0,none⟩=some (.int .i64 n):=aF ((aB.drew w).cell c0);have z1:∀y:Ext aB w.drew,y.u.cell? ⟨pb,1,none⟩=some (.int .i64 W):=aF ((aB.drew w).cell c1);clear hn ac hWe ak hM hT aa wM wM2 qz yz wT hl vg p9 hq;go_enter Tryz.func175,Tryz.ntmps175
 go_wp2_with fail
 refine bH (bE 30 [28,29]) (by kernel_rfl) (λd _ _ _ _ h=>by cases d<;>exact h) ?_
 iterate 28 (refine aH rfl (λK hK=>?_);go_simp;refine hK _ ?_;clear hK K)
 refine bG rfl rfl (λK hK=>?_);go_simp;refine⟨aB.alloc _ _,hK _ _ ?_⟩;clear hK K z0 z1;iterate 1 (refine bG rfl rfl (λK hK=>?_);go_simp;refine⟨aB.refl _,hK _ _ ?_⟩;clear hK K)
 refine bN ?_;have ft:=(jB (enc:=aV) (e:=5) (w:=w) (base:=w.heap.size) (λ_=>rfl) (Ak _) (leB 4 n++[Al W]) HH.out (n:=5) (by simp[bM]) (by decide)).grows (aB.drew _);obtain⟨w1,vj⟩:=exq ((w.alloc (.cells #[.int .u8 (IntKind.u8.wrap (n:Int)),.int .u8 (IntKind.u8.wrap ((n:Int)/256)),.int .u8 (IntKind.u8.wrap ((n:Int)/65536)),.int .u8 (IntKind.u8.wrap ((n:Int)/16777216)),.int .u8 (IntKind.u8.wrap (W:Int))] 5)).drew);have ai:aB w w1:=by rw[vj];exact(aB.alloc _ _).dr
 rw[<-vj]at ft ⊢;clear vj HH;generalize IntKind.u8.wrap (n:Int)=y1;generalize IntKind.u8.wrap ((n:Int)/256)=y2;generalize IntKind.u8.wrap ((n:Int)/65536)=y3;generalize IntKind.u8.wrap ((n:Int)/16777216)=y4;generalize IntKind.u8.wrap (W:Int)=y5;go_wp2_with fail
 have wM:=HWM.out;have wM2:=HWM2.out;have qz:=HE1.out;have yz:=HE2.out;have wT:=HWT.out;have z0:∀y:Ext aB w1.drew,y.u.cell? ⟨pb,0,none⟩=some (.int .i64 n):=aF (ai.dr.cell c0);have z1:∀y:Ext aB w1.drew,y.u.cell? ⟨pb,1,none⟩=some (.int .i64 W):=aF (ai.dr.cell c1);refine bH (bE 12 []) (by kernel_rfl) (λd _ _ _ _ h=>by cases d<;>exact h) ?_
 iterate 12 (refine aH rfl (λK hK=>?_);go_simp;refine hK _ ?_;clear hK K)
 refine bN ?_;clear z0 z1 wM wM2 qz yz wT;go_wp2_with fail
 go_loopw [3,47] (λout i wr=>∃(k:Nat) (cd:List UInt8),k<=T/\i=.int .i64 k/\Hid (cd=leB 4 n++[Al W]++wH l k)/\aU wr w.heap.size 5 1 aV out cd/\aB w wr) (λ_ i _=>T-(intOf i).toNat)
 case atStart=>exact⟨0,_,Az _,rfl,(by show _=_;simp[wH]),ft.grows (aB.drew _),ai.dr⟩
 case round =>
  obtain⟨k,cd,hk,rfl,ci,aa,hg⟩:=hrel;by_cases af:k<T
  ·have cz:(k:Int)<T:=by omega
   obtain⟨J,hJ⟩:=exq (k/8);obtain⟨R,hR⟩:=exq (k%8*8);have hJq:J<q:=by omega
   have hRb:R<=56:=by omega
   have eJ:(k:Int)/8=J:=by omega
   have eR:(k:Int)%8*8=R:=by omega
   have wR:IntKind.u64.wrap (R:Int)=R:=by simp[Ab,Ac,Aa];omega
   obtain⟨x,hx⟩:=exq (gQ l W J);have jc:wr.cell? ⟨wb,J,none⟩=some (.int .u64 x):=hg.cell (cM (f:=λn:Nat=>Value.int .u64 n) HOWN.out (by rw[fC hJq,hx]));have c2r:=hg.cell c2
   have HN:Hid (cd++[Al (x>>>R)]=leB 4 n++[Al W]++wH l (k+1)):=by
    show _=_
    rw[mE0,<-HW.out,<-hJ,<-hR,<-hx,ci.out,Bi]
   have HB:Hid ([Value.int .u8 ((x:Int)/2^R%256)]=aV (Al (x>>>R))):=by
    show _=_
    rw[aY0];exact jM0 _
   have mw:cd.length<=5+k:=by rw[ci.out,Be,rP0];simp[bM]<;>omega
   have hJi:(J:Int)<q:=by omega
   clear hJ hR hx ci;go_wp2_with (at_builtin;refine nR0 bI rfl _ _ rfl w.heap.size _ cd (Al (x>>>R)) rfl aa (aB.refl _) _ 1 rfl _ (by exact HB.out) rfl (by omega) hg.size ?_;intro v' w5 au bi)
   go_roundw
   case rel=>exact⟨k+1,_,af,by go_num,HN.out,au,bi w hg (Ak _)⟩
   case measure=>simp[intOf];omega
  ·have cz:¬(k:Int)<T:=by omega
   have HF:Hid (cd=packE l):=by
    show _=_
    have hkT:k=T:=by omega
    rw[ci.out,hkT,HTE.out,HNE.out,HW.out];rfl
   clear ci;go_wp2_with fail
   go_ret;exact⟨_,rfl,by rw[<-HF.out];exact aa,hg⟩
def lQ {α:Type} (l:List α) (z:α) (k:Nat):List α:=l.take k++An (l.length-k) z
theorem mD {α:Type} (l:List α) (z:α) {k:Nat} (h:k<=l.length):(lQ l z k).length=l.length:=by
 unfold lQ;rw[Be,At,List.length_replicate];omega
theorem qK {α:Type} (l:List α) (z:α):lQ l z 0=An l.length z:=by simp[lQ]
theorem rZ {α:Type} (l:List α) (z:α):lQ l z l.length=l:=by simp[lQ]
theorem tQ {α:Type} {l:List α} {z x:α} {k:Nat} (h:l[k]?=some x):(lQ l z k).set k x=lQ l z (k+1):=by
 have hk:k<l.length:=(List.getElem?_eq_some_iff.1 h).1;unfold lQ;rw[List.set_append_right _ _ (by rw[At];omega),bJ h,Bi];congr 1
 rw[show k-(l.take k).length=0 by rw[At];omega,show l.length-k=(l.length-(k+1))+1 by omega,List.replicate_succ]
 rfl
theorem nP (l:List Nat) (a:Option Addr) (c:Nat) (w:World) (hl:l.length<=1048576) (hn:∀n∈l,n<9223372036854775808) (ac:aG w a 1 (l.map jS)) :
  Calls Tryz.prog 107 #[.slice a l.length c] w λe w'=>∃v,e=.returned v/\aU w' w.heap.size 5 1 aV v (packE l)/\aB w w':=by
 have HAT:=Ad ac;have HN:=Ad hn;have kh:=λ(Y:World)=>nE1 l.length Y hl;have CP:=λ(W:World) (q c:Nat) (h:aG W (some ⟨q,0,none⟩) 1 (l.map kF))=>Ad (eS0 l (some ⟨q,0,none⟩) c W hl (λn hn'=>by have:=hn n hn';omega) h);have CE:=λ(W:World) (q:Nat) (h:lJ W q l)=>Ad (fU0 l q W hl (λn hn'=>by have:=hn n hn';omega) h);clear ac hn;go_enter Tryz.func107,Tryz.ntmps107
 go_wp2_with fail
 have be:=kW0 (w:=w) (n:=l.length) hl;rw[Bk,<-qK l 0]at be;obtain⟨W1,bh⟩:=exq (w.alloc (.cells (madeCells #[.int .u64 0] l.length) 154));have ik:aB w W1:=by rw[bh];exact aB.alloc _ _
 rw[<-bh]at be ⊢;clear bh;go_loopw [13] (λi wr=>∃(k:Nat),k<=l.length/\i=.int .i64 k/\aU wr w.heap.size 154 1 kF (.slice (some ⟨w.heap.size,0,none⟩) l.length l.length) (lQ l 0 k)/\aB w wr) (λi _=>l.length-(intOf i).toNat)
 case atStart=>exact⟨0,Az _,rfl,be,ik⟩
 case round =>
  clear be ik;obtain⟨k,hk,rfl,aa,hg⟩:=hrel;by_cases af:k<l.length
  ·obtain⟨x,hx⟩:∃x,l[k]?=some x:=⟨_,Ai af⟩
   obtain⟨b,o,rfl,hc⟩:=at1 (HAT.out.grows hg) (aJ af);have jc:=hc k x hx;have aix:=HN.out x (Ao hx);have wx:IntKind.u64.wrap (x:Int)=x:=by simp[Ab,Ac,Aa];omega
   have t5:=mD l 0 hk;obtain⟨y,hy⟩:∃y,(lQ l 0 k)[k]?=some y:=⟨_,Ai (by omega)⟩;have e1:=cM (f:=λn:Nat=>Value.int .u64 n) aa hy;obtain⟨f1,_,ay⟩:=eO (f:=λn:Nat=>Value.int .u64 n) aa (k:=k) (by omega) x;rw[tQ hx]at ay;have HO:=Ad ay;clear hc hx hy aa ay t5;go_wp2_with fail
   go_roundw
   case rel=>exact⟨k+1,by omega,by go_num,HO.out,hg.set (Ak _) _⟩
   case measure=>simp[intOf];omega
  ·obtain rfl:k=l.length:=by omega
   rw[rZ]at aa;obtain⟨a1,c1,e1,_,_,cw⟩:=aa.at_ (k:=1) (λx=>(rfl:(kF x).length=1));have e2:=(Value.slice.inj e1).1;subst e2;have CP1:=CP wr w.heap.size l.length cw;clear CP e1 cw aa;go_wp2_with fail
   refine CP1.out.mono ?_;rintro e w2 ⟨rfl,hp,ae⟩;have CE1:=CE w2 wr.heap.size hp;clear CE CP1 hp;have ae:=aB.trans _ _ _ hg ae;go_wp2_with fail
   refine CE1.out.mono ?_;rintro e w3 ⟨v,rfl,hv,aw⟩;go_wp2_with fail
   go_ret;exact⟨v,rfl,hv.base ae.size,aB.trans _ _ _ ae aw⟩
theorem uO (l:List Nat) (W Q t:Nat) (ht:t<64):(gQ l W Q).testBit t=bitAt l W (64*Q+t):=by
 unfold gQ;rw[dE];simp[ht]
theorem dX1 {l:List Nat} {W i x Q S:Nat} (hx:l[i]?=some x) (t7:x<2^W) (hQ:i*W=64*Q+S) (fx:S+W<=64):(gQ l W Q>>>S)&&&(2^W-1)=x:=by
 apply Bb
 intro t;rw[Bn,Au,Ay];by_cases ht:t<W
 ·rw[uO _ _ _ _ (by omega),<-Bs,<-hQ,fQ0 hx ht]
  simp[ht]
 ·simp only[ht,decide_false,Bp]
  exact(As (Aq t7 (Ah (by decide) (by omega)))).symm
theorem fS1 {l:List Nat} {W i x Q S:Nat} (hx:l[i]?=some x) (t7:x<2^W) (hQ:i*W=64*Q+S) (hS:S<64) (hW:W<=64) (fx:64<S+W) :
  ((gQ l W Q>>>S)|||(gQ l W (Q+1)<<<(64-S))%18446744073709551616)&&&(2^W-1)=x:=by
 apply Bb
 intro t;rw[Bn,Au,Nat.testBit_or,Ay];by_cases ht:t<W
 ·rw[eA0 (by omega)]
  by_cases h1:S+t<64
  ·rw[uO _ _ _ _ h1,<-Bs,<-hQ,fQ0 hx ht]
   simp[ht,show ¬64-S<=t by omega]
  ·rw[show (gQ l W Q).testBit (S+t)=false by
    apply As
    exact Aq (nD l W Q) (Ah (n:=2) (by decide) (show 64<=S+t by omega))]
   rw[uO _ _ _ _ (by omega),show 64*(Q+1)+(t-(64-S))=i*W+t by omega,fQ0 hx ht]
   simp[ht,show 64-S<=t by omega]
 ·simp only[ht,decide_false,Bp]
  exact(As (Aq t7 (Ah (by decide) (by omega)))).symm
theorem hC1 {W:Nat} (hW:W<=64):IntKind.u64.wrap (IntKind.u64.wrap (2^W)-1)=((2^W-1:Nat):Int):=by
 have h:∀V:Fin 65,IntKind.u64.wrap (IntKind.u64.wrap (2^V.val)-1)=((2^V.val-1:Nat):Int):=by decide +kernel
 exact h ⟨W,by omega⟩
theorem zA0 (pb wb q W i x base:Nat) (l:List Nat) (w:World) (hW:W<=64) (j7:l.length<=1048576) (hx:l[i]?=some x) (t7:x<2^W) (hq:l.length*W<=64*q)
  (c1:w.cell? ⟨pb,1,none⟩=some (.int .i64 W)) (c2:w.cell? ⟨pb,2,none⟩=some (.slice (some ⟨wb,0,none⟩) q q)) (aa:aU w base 154 1 kF (.slice (some ⟨wb,0,none⟩) q q) (eD l W q)) :
  Calls Tryz.prog 194 #[.pointer (some ⟨pb,0,none⟩),.int .i64 i] w λe w'=>e=.returned (.int .u64 x)/\(w'=w\/w'=w.drew):=by
 have pm:=(List.getElem?_eq_some_iff.1 hx).1;by_cases dh:W=0
 ·have j4:x=0:=by rw[dh]at t7;simpa using t7
  subst j4;subst dh;clear aa;go_enter Tryz.func194,Tryz.ntmps194
  go_wp2_with fail
  go_ret;exact⟨rfl,Or.inl rfl⟩
 ·have fi:(W:Int)≠0:=by omega
  obtain⟨M,hM⟩:=exq (i*W)
  have hMq:M+W<=64*q:=by
   have h1:(i+1)*W<=l.length*W:=Ba _ (by omega);rw[Nat.add_mul]at h1;omega
  have aiy:M<=1048576*64:=by rw[hM];exact Av (by omega) hW
  obtain⟨Q,hQ⟩:=exq (M/64);obtain⟨S,hS⟩:=exq (M%64);have z8:i*W=64*Q+S:=by rw[<-hM];omega
  have m5:S<64:=by omega
  have s5:Q<q:=by omega
  have wM:IntKind.i64.wrap ((i:Int)*W)=M:=by
   have h1:(i:Int)*W=M:=by rw[hM];push_cast;rfl
   rw[h1];simp[Ab,Ac,Aa];omega
  have eQ:(M:Int)/64=Q:=by omega
  have eS:(M:Int)%64=S:=by omega
  obtain⟨y,hy⟩:=exq (gQ l W Q);have ke:y<18446744073709551616:=by rw[hy];exact nD l W Q
  have d1:w.drew.cell? ⟨wb,Q,none⟩=some (.int .u64 y):=(aB.drew w).cell (cM (f:=λn:Nat=>Value.int .u64 n) aa (by rw[fC s5,hy]));have z1:∀y:Ext aB w.drew,y.u.cell? ⟨pb,1,none⟩=some (.int .i64 W):=aF ((aB.drew w).cell c1);have hQi:(Q:Int)<q:=by omega
  have g1:w.drew.cell? ⟨pb,1,none⟩=some (.int .i64 W):=(aB.drew w).cell c1;have g2:w.drew.cell? ⟨pb,2,none⟩=some (.slice (some ⟨wb,0,none⟩) q q):=(aB.drew w).cell c2;have agz:IntKind.i64.wrap ((S:Int)+W)=(S:Int)+W:=by simp[Ab,Ac,Aa];omega
  have kh:=hC1 hW
  have si:2^W-1<18446744073709551616:=by
   have:2^W<=2^64:=Ah (by decide) hW
   have e:(2:Nat)^64=18446744073709551616:=by decide
   omega
  obtain⟨v0,hv0⟩:=exq (y>>>S);have hsh:(y:Int)/2^S=(v0:Nat):=by rw[hv0];exact aY0 y S
  have vk:v0<18446744073709551616:=by rw[hv0];exact Bd (Nat.shiftRight_le _ _) ke
  by_cases kc:S+W<=64
  ·have hsw:¬(64:Int)<(S:Int)+W:=by omega
   have hand:bits .and .u64 (v0:Int) ((2^W-1:Nat):Int)=(x:Int):=by
    rw[u64_and_nat _ _ vk si,hv0,hy,dX1 hx t7 z8 kc]
   obtain⟨MK,hMK⟩:=exq (2^W-1);rw[<-hMK]at hand kh;clear hM hQ hS z8 hy aa hMq hx t7 hv0 hMK;go_enter Tryz.func194,Tryz.ntmps194
   go_wp2_with fail
   refine bH (bE 17 []) (by kernel_rfl) (λd _ _ _ _ h=>by cases d<;>exact h) ?_
   iterate 17 (refine aH rfl (λK hK=>?_);go_simp;refine hK _ ?_;clear hK K)
   refine bN ?_;clear z1;go_wp2_with fail
   go_ret;exact⟨rfl,Or.inr rfl⟩
  ·have kc:64<S+W:=by omega
   have hsw:(64:Int)<(S:Int)+W:=by omega
   have yy:Q+1<q:=by omega
   have ag0:(Q:Int)+1<q:=by omega
   obtain⟨y1,lj⟩:=exq (gQ l W (Q+1));have ail:y1<18446744073709551616:=by rw[lj];exact nD l W _
   have d2:w.drew.cell? ⟨wb,Q+1,none⟩=some (.int .u64 y1):=(aB.drew w).cell (cM (f:=λn:Nat=>Value.int .u64 n) aa (by rw[fC yy,lj]));have z9:=kU0 (v:=y1) (S:=64-S) vk;obtain⟨v1,ij⟩:=exq (v0|||(y1<<<(64-S))%18446744073709551616)
   rw[<-ij]at z9;have adw:v1<18446744073709551616:=by rw[ij];exact Bh (n:=64) vk (Bu _ (by decide))
   have hT:(64:Int)-S=((64-S:Nat):Int):=by omega
   have hTw:IntKind.u64.wrap ((64-S:Nat):Int)=((64-S:Nat):Int):=by simp[Ab,Ac,Aa];omega
   have hand:bits .and .u64 (v1:Int) ((2^W-1:Nat):Int)=(x:Int):=by
    rw[u64_and_nat _ _ adw si,ij,hv0,hy,lj,fS1 hx t7 z8 m5 hW kc]
   obtain⟨MK,hMK⟩:=exq (2^W-1);rw[<-hMK]at hand kh;clear hM hQ hS z8 hy aa hMq hx t7 hv0 hMK lj ij;go_enter Tryz.func194,Tryz.ntmps194
   go_wp2_with fail
   refine bH (bE 17 []) (by kernel_rfl) (λd _ _ _ _ h=>by cases d<;>exact h) ?_
   iterate 17 (refine aH rfl (λK hK=>?_);go_simp;refine hK _ ?_;clear hK K)
   refine bN ?_;clear z1;go_wp2_with fail
   go_ret;exact⟨rfl,Or.inr rfl⟩
theorem pK0 (pb wb q W i x base:Nat) (l:List Nat) (w:World) (hW:W<=64) (j7:l.length<=1048576) (hx:l[i]?=some x) (t7:x<2^W) (hq:l.length*W<=64*q)
 (c1:w.cell? ⟨pb,1,none⟩=some (.int .i64 W)) (c2:w.cell? ⟨pb,2,none⟩=some (.slice (some ⟨wb,0,none⟩) q q)) (aa:aU w base 154 1 kF (.slice (some ⟨wb,0,none⟩) q q) (eD l W q)) :
 Calls Tryz.prog 194 #[.pointer (some ⟨pb,0,none⟩),.int .i64 i] w λe w'=>e=.returned (.int .u64 x)/\aB w w':=(zA0 pb wb q W i x base l w hW j7 hx t7 hq c1 c2 aa).mono λe w' ⟨h1,h2⟩=>⟨h1,by rcases h2 with rfl|rfl<;>first|exact aB.refl _|exact aB.drew _⟩
theorem pY {l:List Nat} {x:Nat} (h:x∈l):x<2^nZ l:=nF.1 (Ak _) x h
theorem gS (l:List Nat) (pb:Nat) (w:World) (ac:lJ w pb l):Calls Tryz.prog 127 #[.pointer (some ⟨pb,0,none⟩)] w λe w'=>e=.returned (.int .i64 (l.length:Nat))/\w=w':=by
 have c0:=ac.c0;go_enter Tryz.func127,Tryz.ntmps127
 go_wp2_with fail
 go_ret;exact⟨rfl,rfl⟩
theorem tR (l:List Nat) (pb i x:Nat) (w:World) (ac:lJ w pb l) (hl:l.length<=1048576) (hn:∀n∈l,n<18446744073709551616) (hx:l[i]?=some x):Calls Tryz.prog 128 #[.pointer (some ⟨pb,0,none⟩),.int .i64 i] w λe w'=>e=.returned (.tuple #[.int .u64 x,.bool true])/\aB w w':=by
 obtain⟨wb,h1,h2,h3⟩:=ac.c2;have pm:=(List.getElem?_eq_some_iff.1 hx).1;have CG:=Ad (pK0 pb wb ((l.length*nZ l+63)/64) (nZ l) i x wb l w (nF.2 hn) hl hx (pY (Ao hx)) (by omega) ac.c1 h2 h3);have CL:=Ad (gS l pb w ac);have h0:¬(i:Int)<0:=by omega
 have hi:(i:Int)<l.length:=by omega
 clear ac h2 h3 hx;go_enter Tryz.func128,Tryz.ntmps128
 go_wp2_with fail
 refine CL.out.mono ?_;rintro e w1 ⟨rfl,rfl⟩;go_wp2_with fail
 refine CG.out.mono ?_;rintro e w2 ⟨rfl,ae⟩;go_wp2
 go_ret2;exact⟨rfl,ae⟩
end
end Go.Proofs.YtjhajgffmnkocaaGreatDoor
