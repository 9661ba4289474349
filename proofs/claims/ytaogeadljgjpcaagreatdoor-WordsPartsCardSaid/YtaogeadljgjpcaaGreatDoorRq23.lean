/- The texts Pk PkN PkE Bnum PkG, one behind the other. -/
import Derived.Test.YtaogeadljgjpcaaGreatDoorRq20
import Derived.Test.YtaogeadljgjpcaaGreatDoorShelf
import Derived.Laws.OwnMore
import Derived.OwnWalk
import Derived.Laws.MakeOwn
import Derived.Laws.BitsAllLaws
open Go.IntKind renaming signed → Aa,wrap → Ab,bits → Ac,wrap_u8' → Ap
open Go.Lib renaming hid → Ad,bitLenAux → Br
open List renaming getElem?_eq_none → Ae,length_set → Ag,getElem?_eq_getElem → Ai,getElem?_set_ne → Am,replicate → An,mem_of_getElem? → Ao,getElem?_set_self → Ar,length_take → At,ext_getElem? → Ax,getElem?_range → Bc,length_append → Be,getElem?_map → Bf,append_assoc → Bi,take_length → Bj,range → Bt
open Go.World renaming cell?_setCell_other → Af,frozen? → Bq
open Nat renaming pow_le_pow_right → Ah,lt_succ_self → Aj,le_refl → Ak,lt_of_lt_of_le → Aq,testBit_lt_two_pow → As,testBit_two_pow_sub_one → Au,mul_le_mul → Av,testBit_shiftRight → Ay,zero_le → Az,mul_le_mul_right → Ba,eq_of_testBit_eq → Bb,lt_of_le_of_lt → Bd,or_lt_two_pow → Bh,mul_one → Bk,testBit_and → Bn,add_assoc → Bs,mod_lt → Bu
open UInt8 renaming ofNat → Al
open Int renaming tdiv_eq_ediv_of_nonneg → Aw,toNat_natCast → Bg
open Go.Addr renaming block → Bo
open Bool renaming and_false → Bp
set_option maxHeartbeats 8000000
namespace Go.Proofs.YtaogeadljgjpcaaGreatDoor
set_option maxRecDepth 100000
section
open Go Go.RowKit
attribute [local go_sem] aQ aM
theorem oE {α:Type} (f:α->Value) (xs:List α):xs.flatMap (λx=>[f x])=xs.map f:=by
 induction xs with
 | nil=>rfl
 | cons x xs ih=>rw[List.flatMap_cons,ih];rfl
theorem eP {α:Type} {f:α->Value} {w:World} {base g n c k:Nat} {e:TypeId} {xs:List α} (h:aV w base e 1 (λx=>[f x]) (.slice (some ⟨g,0,none⟩) n c) xs) (hk:k<xs.length) (y:α) :
  w.frozen? ⟨g,k,none⟩=false/\base<=g/\aV (w.setCell ⟨g,k,none⟩ (f y)) base e 1 (λx=>[f x]) (.slice (some ⟨g,0,none⟩) n c) (xs.set k y):=by
 rcases h.2 with ⟨h1,_⟩|⟨g',cap,cj,hv,hb,hh,hn,hc,hs,ht⟩
 ·cases h1
 ·have e1:=(Value.slice.inj hv).1
  have e2:=(Value.slice.inj hv).2.1;obtain rfl:g=g':=congrArg Bo (Option.some.inj e1);have hkc:k<cj.size:=by omega
  refine⟨by simp[Bq,hh],hb,?_⟩;have hl:(xs.set k y).length=xs.length:=Ag
  have hf:(xs.set k y).flatMap (λx=>[f x])=(xs.flatMap (λx=>[f x])).set k (f y):=by
   rw[oE,oE,List.map_set]
  unfold aV;rw[hl];refine⟨by rw[hf,Ag];exact h.1,Or.inr ⟨g,cap,cj.setIfInBounds k (f y),hv,hb,heap_setCell_same w g k cj _ _ hh,hn,hc,by simpa using hs,?_⟩⟩;rw[hf,<-ht,Array.toList_setIfInBounds,List.take_set]
theorem cU {α:Type} {f:α->Value} {w:World} {base g n c k:Nat} {e:TypeId} {xs:List α} {x:α} (h:aV w base e 1 (λx=>[f x]) (.slice (some ⟨g,0,none⟩) n c) xs) (hx:xs[k]?=some x):w.cell? ⟨g,k,none⟩=some (f x):=by
 obtain⟨a,c2,he,_,_,ac⟩:=aV.at_ (enc:=λx=>[f x]) (λ_=>rfl) h;simp only[Value.slice.injEq]at he;rw[<-he.1]at ac;obtain⟨b1,o1,he1,bv⟩:=at1 (f:=f) ac (aK (List.getElem?_eq_some_iff.1 hx).1);obtain⟨rfl,rfl⟩:g=b1/\0=o1:=by simpa using he1
 have:=bv k x hx
 rwa [Nat.zero_add]at this
def eD (l:List Nat) (W q:Nat):List Nat:=(Bt q).map (gX l W)
theorem fH (l:List Nat) (W q:Nat):(eD l W q).length=q:=by simp[eD]
theorem fI {l:List Nat} {W q k:Nat} (h:k<q):(eD l W q)[k]?=some (gX l W k):=by
 unfold eD;rw[Bf,Bc h];rfl
theorem uC0 {l:List Nat} {W v q Q S:Nat} (hW:0<W) (fj:W<=64) (hv:v<2^W) (hS:S<64) (hQ:l.length*W=64*Q+S) (fp:S+W<=64):eD (l++[v]) W q=(eD l W q).set Q (gX l W Q|||(v<<<S)%18446744073709551616):=by
 apply Ax
 intro k;by_cases hk:k<q
 ·rw[fI hk]
  by_cases vm:k=Q
  ·subst vm
   rw[Ar (by rw[fH];exact hk),jS0 hW hv hQ]
  ·rw[Am (Ne.symm vm),fI hk,cU0 hW hv hS hQ vm (λ_=>fp) fj]
 ·rw[Ae (by rw[fH];omega),Ae (by rw[Ag,fH];omega)]
theorem vN0 {l:List Nat} {W v q Q S:Nat} (hW:0<W) (fj:W<=64) (hv:v<2^W) (hS:S<64) (hQ:l.length*W=64*Q+S) (_:64<S+W) (ze:Q+1<q) :
  eD (l++[v]) W q=((eD l W q).set Q (gX l W Q|||(v<<<S)%18446744073709551616)).set (Q+1) (gX l W (Q+1)|||v>>>(64-S)):=by
 apply Ax
 intro k;by_cases hk:k<q
 ·rw[fI hk]
  by_cases acq:k=Q+1
  ·subst acq
   rw[Ar (by rw[Ag,fH];exact hk),tD0 hW hv fj hS hQ]
  ·rw[Am (Ne.symm acq)]
   by_cases vm:k=Q
   ·subst vm
    rw[Ar (by rw[fH];exact hk),jS0 hW hv hQ]
   ·rw[Am (Ne.symm vm),fI hk,cU0 hW hv hS hQ vm (λh=>absurd h acq) fj]
 ·rw[Ae (by rw[fH];omega),Ae (by rw[Ag,Ag,fH];omega)]
theorem kD0 {x v S:Nat} (hx:x<18446744073709551616):bits .or .u64 (x:Int) (IntKind.u64.wrap ((v:Int)*2^S))=((x|||(v<<<S)%18446744073709551616:Nat):Int):=by
 have h1:IntKind.u64.wrap ((v:Int)*2^S)=((v<<<S%18446744073709551616:Nat):Int):=by
  rw[Nat.shiftLeft_eq,show (v:Int)*2^S=((v*2^S:Nat):Int) by push_cast;rfl]
  generalize v*2^S=N;simp[Ab,Ac,Aa]
 rw[h1];exact u64_or_nat x _ hx (Bu _ (by decide))
theorem oG1 {x v T:Nat} (hx:x<18446744073709551616) (hv:v<18446744073709551616):bits .or .u64 (x:Int) ((v:Int)/2^T)=((x|||v>>>T:Nat):Int):=by
 rw[yQ];exact u64_or_nat x _ hx (Bd (by rw[Nat.shiftRight_eq_div_pow];exact Nat.div_le_self _ _) hv)
theorem gD1 (pb wb q W v i base:Nat) (pre:List Nat) (w:World) (cq:0<W) (hW:W<=64) (hi:i=pre.length) (ji:i<=1048576) (hv:v<2^W) (fp:(i+1)*W<=64*q) (hq:q<=1048576)
  (c1:w.cell? ⟨pb,1,none⟩=some (.int .i64 W)) (c2:w.cell? ⟨pb,2,none⟩=some (.slice (some ⟨wb,0,none⟩) q q)) (y8:pb<wb) (aa:aV w base 192 1 kG (.slice (some ⟨wb,0,none⟩) q q) (eD pre W q)) :
  Calls Tryz.prog 218 #[.pointer (some ⟨pb,0,none⟩),.int .i64 i,.int .u64 v] w λe w'=>e=.returned (.tuple #[])/\aV w' base 192 1 kG (.slice (some ⟨wb,0,none⟩) q q) (eD (pre++[v]) W q)/\EB wb w w':=by
 obtain⟨M,hM⟩:=exq (i*W);obtain⟨Q,hQ⟩:=exq (M/64);obtain⟨S,hS⟩:=exq (M%64);have vn:M<=1048576*64:=by rw[hM];exact Av ji hW
 have hMq:M+W<=64*q:=by rw[hM];rw[Nat.succ_mul]at fp;exact fp
 have hQS:pre.length*W=64*Q+S:=by rw[<-hi,<-hM];omega
 have mq:S<64:=by omega
 have s6:Q<q:=by omega
 have aeq:v<18446744073709551616:=Aq hv (Ah (n:=2) (by decide) hW)
 have wM:IntKind.i64.wrap ((i:Int)*W)=M:=by
  have h1:(i:Int)*W=M:=by rw[hM];push_cast;rfl
  rw[h1];simp[Ab,Ac,Aa];omega
 have eQ:(M:Int)/64=Q:=by omega
 have eS:(M:Int)%64=S:=by omega
 obtain⟨x,hx⟩:=exq (gX pre W Q);have jl:x<18446744073709551616:=by rw[hx];exact nF pre W Q
 have d1:w.cell? ⟨wb,Q,none⟩=some (.int .u64 x):=cU (f:=λn:Nat=>Value.int .u64 n) aa (by rw[fI s6,hx]);obtain⟨f1,_,ar⟩:=eP (f:=λn:Nat=>Value.int .u64 n) (aa.grows (aB.drew w)) (k:=Q) (by rw[fH];exact s6) (x|||(v<<<S)%18446744073709551616)
 have HWB:=Ad (Nat.le_of_lt (World.block_lt_of_cell? w _ d1));have hor:=kD0 (v:=v) (S:=S) jl;obtain⟨x1,jb⟩:=exq (x|||(v<<<S)%18446744073709551616)
 rw[<-jb]at hor ar;have aj:pb≠wb:=by omega
 have z1:∀y:Ext aB w.drew,y.u.cell? ⟨pb,1,none⟩=some (.int .i64 W):=aF ((aB.drew w).cell c1);have et:(W:Int)≠0:=by omega
 have hQi:(Q:Int)<q:=by omega
 have g1:∀u,(w.drew.setCell ⟨wb,Q,none⟩ u).cell? ⟨pb,1,none⟩=some (.int .i64 W):=λu=>(Af _ _ _ _ (λh=>aj (congrArg Bo h).symm)).trans c1;have g2:∀u,(w.drew.setCell ⟨wb,Q,none⟩ u).cell? ⟨pb,2,none⟩=some (.slice (some ⟨wb,0,none⟩) q q):=λu=>(Af _ _ _ _ (λh=>aj (congrArg Bo h).symm)).trans c2;have ag9:IntKind.i64.wrap ((S:Int)+W)=(S:Int)+W:=by simp[Ab,Ac,Aa];omega
 by_cases jx:S+W<=64
 ·have hsw:¬(64:Int)<(S:Int)+W:=by omega
  have HF:Hid (eD (pre++[v]) W q=(eD pre W q).set Q x1):=by show _=_;rw[uC0 cq hW hv mq hQS jx,jb,hx]
  have HO:=Ad ar;clear hM hQ hS hQS hx jb ar aa fp hMq hi hv;go_enter Tryz.func218,Tryz.ntmps218
  go_wp2_with fail
  refine bK (bB 17 []) (by kernel_rfl) (λd _ _ _ _ h=>by cases d<;>exact h) ?_
  iterate 17 (refine aH rfl (λK hK=>?_);go_simp;refine hK _ ?_;clear hK K)
  refine bQ ?_;clear z1;go_wp2_with fail
  refine bodyPost_end (v:=.tuple #[]) (by simp[results,Tryz.results218,go_sem]) rfl ⟨rfl,?_,?_⟩
  ·rw[HF.out]
   exact HO.out
  ·exact EB.trans _ _ _ _ (EB.of (aB.drew w) HWB.out) ⟨(Below.refl wb w.drew).setCell (p:=⟨wb,Q,none⟩) (Ak wb) _,by simp⟩
 ·have jx:64<S+W:=by omega
  have hsw:(64:Int)<(S:Int)+W:=by omega
  have ze:Q+1<q:=by omega
  have aha:(Q:Int)+1<q:=by omega
  obtain⟨y,hy⟩:=exq (gX pre W (Q+1));have jy:y<18446744073709551616:=by rw[hy];exact nF pre W _
  have hYg:((eD pre W q).set Q x1)[Q+1]?=some y:=by rw[Am (by omega),fI ze,hy]
  have e1:=cU (f:=λn:Nat=>Value.int .u64 n) aa (k:=Q+1) (x:=y) (by rw[fI ze,hy]);obtain⟨f3,_,_⟩:=eP (f:=λn:Nat=>Value.int .u64 n) aa (k:=Q+1) (by rw[fH];exact ze) y;obtain⟨f2,_,ai⟩:=eP (f:=λn:Nat=>Value.int .u64 n) ar (k:=Q+1) (by rw[Ag,fH];exact ze) (y|||v>>>(64-S))
  have ahb:=oG1 (x:=y) (v:=v) (T:=64-S) jy aeq;obtain⟨y1,kt⟩:=exq (y|||v>>>(64-S))
  rw[<-kt]at ahb ai;have hT:(64:Int)-S=((64-S:Nat):Int):=by omega
  have hTw:IntKind.u64.wrap ((64-S:Nat):Int)=((64-S:Nat):Int):=by simp[Ab,Ac,Aa];omega
  have HF:Hid (eD (pre++[v]) W q=((eD pre W q).set Q x1).set (Q+1) y1):=by show _=_;rw[vN0 cq hW hv mq hQS jx ze,jb,hx,kt,hy]
  have HO:=Ad ai;clear hM hQ hS hQS hx jb ar aa fp hMq hi hv hy kt ai hYg;go_enter Tryz.func218,Tryz.ntmps218
  go_wp2_with fail
  refine bK (bB 17 []) (by kernel_rfl) (λd _ _ _ _ h=>by cases d<;>exact h) ?_
  iterate 17 (refine aH rfl (λK hK=>?_);go_simp;refine hK _ ?_;clear hK K)
  refine bQ ?_;clear z1;go_wp2_with fail
  refine bodyPost_end (v:=.tuple #[]) (by simp[results,Tryz.results218,go_sem]) rfl ⟨rfl,?_,?_⟩
  ·rw[HF.out]
   exact HO.out
  ·exact EB.trans _ _ _ _ (EB.of (aB.drew w) HWB.out) ⟨((Below.refl wb w.drew).setCell (p:=⟨wb,Q,none⟩) (Ak wb) _).setCell (p:=⟨wb,Q+1,none⟩) (Ak wb) _,by simp⟩
theorem nT0 {x:Nat} (h:x≠0):bitLen x=1+bitLen (x/2):=by
 unfold bitLen;rw[if_neg h];by_cases h1:x=1
 ·subst h1;rfl
 ·rw[if_neg (by omega),Nat.log2_def,if_pos (by omega)]
  omega
theorem dO0:∀(f x:Nat),x<2^f->Br f x=bitLen x
 | 0,x,h=>by
  obtain rfl:x=0:=by simpa using h
  rfl
 | f+1,x,h=>by
  rw[Br];by_cases hx:x=0
  ·subst hx;rfl
  ·rw[if_neg hx,nT0 hx,dO0 f (x/2) (by rw[Nat.pow_succ]at h;omega)]
theorem bY1 (x:Nat) (w:World) (hx:x<18446744073709551616):Calls Tryz.prog 162 #[.int .u64 x] w λe w'=>e=.returned (.int .i64 (bitLen x))/\w=w':=by
 refine(Tryz.bits_Len64 x w (by omega) (by omega)).mono ?_;rintro e w1 ⟨rfl,rfl⟩;exact⟨by rw[Bg];unfold Lib.bitLen;rw[dO0 64 x hx],rfl⟩
theorem nG1:∃i,Tryz.prog.info? 192=some i/\i.zero=some (.int .u64 0)/\i.size=1/\i.bytes=8:=by
 obtain⟨i,z,h1,h2,h3,h4,_⟩:=zR0.info;have h:(Tryz.prog.info? 192).map (λi=>i.zero)=some (some (.int .u64 0)):=by kernel_rfl
 rw[h1]at h;exact⟨i,h1,by simpa using h,h3,h4⟩
theorem nZ1 (n:Nat) (W:World) (hn:n<=1048576):(Instr.makeSlice 235 (.int .i64 n) (.int .i64 n)).run Tryz.prog W=.ok (.slice (some ⟨W.heap.size,0,none⟩) n n) (W.alloc (.cells (madeCells #[.int .u64 0] (n*1)) 192)):=by
 obtain⟨i,h1,h2,h3,h4⟩:=nG1;have h:=run_make (P:=Tryz.prog) W 235 192 i (.int .u64 0) Tryz.underlying235 h1 h2 .i64 .i64 n n (by omega) (Int.le_refl _) (by rw[h4];omega) (by omega);rw[Bg,h3]at h;exact h
theorem kK0 {w:World} {n:Nat} (hn:n<=1048576):aV (w.alloc (.cells (madeCells #[.int .u64 0] (n*1)) 192)) w.heap.size 192 1 kG (.slice (some ⟨w.heap.size,0,none⟩) n n) (An n 0) :=
 jI (enc:=kG) (λ_=>rfl) (Ak _) (An n 0) (by
  rw[toList_madeCells_one,Bk];unfold kG;rw[oE,List.map_replicate];rfl) (by simp) (by unfold maxLen;omega)
theorem uR0 (W q:Nat):eD [] W q=An q 0:=by
 unfold eD;apply Ax
 intro k;by_cases hk:k<q
 ·rw[Bf,Bc hk,List.getElem?_replicate,if_pos hk]
  simp[cL1]
 ·rw[Ae (by simp;omega),Ae (by simp;omega)]
theorem nC0 {l:List Nat} {v q:Nat} (h:∀n∈l++[v],n<2^0):eD (l++[v]) 0 q=eD l 0 q:=by
 unfold eD;apply List.map_congr_left
 intro k _;rw[dP0 _ k h,dP0 l k (λn hn=>h n (by simp[hn]))]
theorem cR1 (pb i v:Nat) (w:World) (c1:w.cell? ⟨pb,1,none⟩=some (.int .i64 0)) :
  Calls Tryz.prog 218 #[.pointer (some ⟨pb,0,none⟩),.int .i64 i,.int .u64 v] w λe w'=>e=.returned (.tuple #[])/\w=w':=by
 go_enter Tryz.func218,Tryz.ntmps218
 go_wp2_with fail
 refine bodyPost_ret (v:=.tuple #[]) (by simp[results,Tryz.results218,go_sem]) rfl ⟨rfl,rfl⟩
theorem gI0 (w:World) (cs:Array Value) (t:TypeId) (j:Nat):(w.alloc (.cells cs t)).frozen? ⟨w.heap.size,j,none⟩=false:=by
 have h:(w.alloc (.cells cs t)).heap[w.heap.size]?=some (.cells cs t):=heap_alloc_new w _;unfold Bq;simp only[h];simp
theorem nC {α:Type} {w:World} {base:Nat} {e:TypeId} {k:Nat} {enc:α->List Value} {v:Value} {xs:List α} (h:aV w base e k enc v xs) {p:Addr} (hp:p.block<base) (u:Value):aV (w.setCell p u) base e k enc v xs:=by
 obtain⟨h1,h2⟩:=h;refine⟨h1,?_⟩;rcases h2 with h2|⟨g,cap,cj,hv,hb,hh,r⟩
 ·exact Or.inl h2
 ·refine Or.inr ⟨g,cap,cj,hv,hb,?_,r⟩
  rw[heap_setCell_other w p g u (by omega)];exact hh
structure nD (w:World) (pb:Nat) (l:List Nat):Prop where
 c0:w.cell? ⟨pb,0,none⟩=some (.int .i64 l.length)
 c1:w.cell? ⟨pb,1,none⟩=some (.int .i64 (oM l))
 c2:∃wb,pb<wb/\w.cell? ⟨pb,2,none⟩=some (.slice (some ⟨wb,0,none⟩) ((l.length*oM l+63)/64) ((l.length*oM l+63)/64))/\aV w wb 192 1 kG (.slice (some ⟨wb,0,none⟩) ((l.length*oM l+63)/64) ((l.length*oM l+63)/64)) (eD l (oM l) ((l.length*oM l+63)/64))
theorem nD.grows {w w':World} {pb:Nat} {l:List Nat} (h:nD w pb l) (hg:aB w w'):nD w' pb l:=by
 obtain⟨wb,h1,h2,h3⟩:=h.c2;exact⟨hg.cell h.c0,hg.cell h.c1,wb,h1,hg.cell h2,h3.grows hg⟩
theorem uV0 {l:List Nat} {k v:Nat} (h:l[k]?=some v):bR0 (l.take (k+1))=bR0 (l.take k)|||v:=by rw[bM h,uM0]
theorem eQ0 (l:List Nat) (a:Option Addr) (c:Nat) (w:World) (hl:l.length<=1048576) (hn:∀n∈l,n<18446744073709551616) (ac:aG w a 1 (l.map kG)) :
  Calls Tryz.prog 173 #[.slice a l.length c] w λe w'=>e=.returned (.tuple #[.pointer (some ⟨w.heap.size,0,none⟩),.int .i64 0])/\nD w' w.heap.size l/\aB w w':=by
 have HAT:=Ad ac;have HN:=Ad hn;have fj:oM l<=64:=nS.2 hn;obtain⟨W,hWe⟩:=exq (oM l);rw[<-hWe]at fj;have HW:=Ad hWe;obtain⟨q,hq⟩:=exq ((l.length*W+63)/64);have hLW:l.length*W<=1048576*64:=Av hl fj;have vj:q<=1048576:=by omega
 have HQ:=Ad hq;have hlw:¬(1048576:Int)<l.length:=by omega
 clear ac hn hWe hq;go_enter Tryz.func173,Tryz.ntmps173
 go_wp2_with fail
 go_loop [4,15] (λv i=>∃k V:Nat,k<=l.length/\i=.int .i64 k/\v=.int .u64 V/\V<18446744073709551616/\Hid (V=bR0 (l.take k))) (λ_ i=>l.length-(intOf i).toNat)
 case atStart=>exact⟨0,0,Az _,rfl,rfl,by decide,rfl⟩
 case round =>
  obtain⟨k,V,hk,rfl,rfl,hV,cw⟩:=hrel;by_cases ae:k<l.length
  ·obtain⟨x,hx⟩:∃x,l[k]?=some x:=⟨_,Ai ae⟩
   obtain⟨b,o,rfl,hc⟩:=at1 HAT.out (aK ae);have gq:=hc k x hx;have jl:=HN.out x (Ao hx);have HI:Hid (V|||x=bR0 (l.take (k+1))):=by show _=_;rw[uV0 hx,<-cw.out]
   have hor:=u64_or_nat V x hV jl;have hol:V|||x<18446744073709551616:=Bh (n:=64) hV jl
   clear hc hx cw;go_wp2_with fail
   go_round
   case rel=>exact⟨k+1,V|||x,ae,by go_num,rfl,hol,HI.out⟩
   case measure=>simp[intOf];omega
  ·have jt:k=l.length:=by omega
   have cn:¬(k:Int)<l.length:=by omega
   have gn:bitLen V=W:=by rw[cw.out,jt,Bj,HW.out];rfl
   have CL:=bY1 V w hV;rw[gn]at CL;clear cw jt gn;go_wp2_with fail
   refine CL.mono ?_;rintro e w1 ⟨rfl,rfl⟩;go_wp2_with fail
   obtain⟨WB,mr⟩:=exq (w.alloc (.cells #[.int .i64 l.length,.int .i64 W,.slice none 0 0] 276));have b0:WB.cell? ⟨w.heap.size,0,none⟩=some (.int .i64 l.length):=by rw[mr];exact aT w _ _ (0,0) 0 _ rfl
   have b1:WB.cell? ⟨w.heap.size,1,none⟩=some (.int .i64 W):=by rw[mr];exact aT w _ _ (0,0) 1 _ rfl
   have b2:WB.cell? ⟨w.heap.size,2,none⟩=some (.slice none 0 0):=by rw[mr];exact aT w _ _ (0,0) 2 _ rfl
   have bf:WB.frozen? ⟨w.heap.size,2,none⟩=false:=by rw[mr];exact(gI0 w _ _ 2)
   have jm:aB w WB:=by rw[mr];exact aB.alloc _ _
   have du:WB.heap.size=w.heap.size+1:=by rw[mr];simp
   rw[<-mr];clear mr CL;obtain⟨M,hM⟩:=exq (l.length*W);have vn:M<=1048576*64:=by rw[hM];exact hLW
   have hqM:(M+63)/64=q:=by rw[hM];exact HQ.out.symm
   have wM:IntKind.i64.wrap ((l.length:Int)*W)=M:=by
    have h1:(l.length:Int)*W=M:=by rw[hM];push_cast;rfl
    rw[h1];simp[Ab,Ac,Aa];omega
   have wM2:IntKind.i64.wrap ((M:Int)+63)=(M:Int)+63:=by simp[Ab,Ac,Aa];omega
   have ri:((M:Int)+63)/64=q:=by omega
   have zf:((M:Int)+63).tdiv 64=q:=by rw[Aw (by omega)];exact ri
   have z0:∀y:Ext aB WB.drew,y.u.cell? ⟨w.heap.size,0,none⟩=some (.int .i64 l.length):=aF ((aB.drew WB).cell b0);have z1:∀y:Ext aB WB.drew,y.u.cell? ⟨w.heap.size,1,none⟩=some (.int .i64 W):=aF ((aB.drew WB).cell b1);have wq:IntKind.i64.wrap (q:Int)=q:=by simp[Ab,Ac,Aa];omega
   have lk:=λ(Y:World)=>nZ1 q Y vj;clear hLW hM;refine jV 13 (bB 13 [12]) (by kernel_rfl) (λd _ _ _ _ h=>by cases d<;>exact h) ?_
   iterate 12 (refine aH rfl (λK hK=>?_);go_simp;refine hK _ ?_;clear hK K)
   refine bJ rfl rfl (λK hK=>?_);go_simp;refine⟨aB.alloc _ _,hK _ _ ?_⟩;clear hK K z0 z1 lk;refine bQ ?_;simp only[List.drop_succ_cons,List.drop_zero];have bg:=kK0 (w:=WB) vj;rw[Bk,du]at bg;obtain⟨W3,gp⟩:=exq ((WB.alloc (.cells (madeCells #[.int .u64 0] q) 192)).drew);have ay:aB WB W3:=by rw[gp];exact(aB.alloc WB _).dr
   have oh:aV W3 (w.heap.size+1) 192 1 kG (.slice (some ⟨w.heap.size+1,0,none⟩) q q) (An q 0):=by rw[gp];exact bg.grows (aB.drew _)
   rw[<-gp];clear bg;have b32:W3.cell? ⟨w.heap.size,2,none⟩=some (.slice none 0 0):=ay.cell b2;have b3f:W3.frozen? ⟨w.heap.size,2,none⟩=false:=by rw[ay.froz (by show w.heap.size<WB.heap.size;omega)];exact bf
   clear gp;have hWl:W3.heap.size >= WB.heap.size:=ay.size;have g0:=ay.cell b0;have g1:=ay.cell b1;go_wp2_with fail
   have e0:(W3.setCell ⟨w.heap.size,2,none⟩ (.slice (some ⟨w.heap.size+1,0,none⟩) q q)).cell? ⟨w.heap.size,0,none⟩=some (.int .i64 l.length):=(Af _ _ _ _ (λh=>by cases h)).trans g0;have e1:(W3.setCell ⟨w.heap.size,2,none⟩ (.slice (some ⟨w.heap.size+1,0,none⟩) q q)).cell? ⟨w.heap.size,1,none⟩=some (.int .i64 W):=(Af _ _ _ _ (λh=>by cases h)).trans g1;have e2:(W3.setCell ⟨w.heap.size,2,none⟩ (.slice (some ⟨w.heap.size+1,0,none⟩) q q)).cell? ⟨w.heap.size,2,none⟩=some (.slice (some ⟨w.heap.size+1,0,none⟩) q q):=World.cell?_setCell_same _ _ _ b32;have dw:=nC oh (p:=⟨w.heap.size,2,none⟩) (Aj _) (.slice (some ⟨w.heap.size+1,0,none⟩) q q);have cp:aB w (W3.setCell ⟨w.heap.size,2,none⟩ (.slice (some ⟨w.heap.size+1,0,none⟩) q q)):=(jm.tr ay).set (Ak _) _;rw[<-uR0 W q]at dw;generalize W3.setCell ⟨w.heap.size,2,none⟩ (.slice (some ⟨w.heap.size+1,0,none⟩) q q)=W4 at e0 e1 e2 dw cp ⊢;have aer:l.length*W<=64*q:=by have:=HQ.out;omega
   have HQM:=Ad aer;clear b0 b1 b2 bf jm du vn hqM wM wM2 ri zf wq ay oh b32 b3f hWl g0 g1 aer;go_loopw [46] (λi wr=>∃k:Nat,k<=l.length/\i=.int .i64 k/\wr.cell? ⟨w.heap.size,0,none⟩=some (.int .i64 l.length)/\wr.cell? ⟨w.heap.size,1,none⟩=some (.int .i64 W)/\wr.cell? ⟨w.heap.size,2,none⟩=some (.slice (some ⟨w.heap.size+1,0,none⟩) q q)/\aV wr (w.heap.size+1) 192 1 kG (.slice (some ⟨w.heap.size+1,0,none⟩) q q) (eD (l.take k) W q)/\aB w wr) (λi _=>l.length-(intOf i).toNat)
   case atStart=>exact⟨0,Az _,rfl,e0,e1,e2,dw,cp⟩
   case round =>
    obtain⟨k,hk,rfl,d0,d1,d2,aa,hg⟩:=hrel;by_cases ae:k<l.length
    ·obtain⟨x,hx⟩:∃x,l[k]?=some x:=⟨_,Ai ae⟩
     obtain⟨b,o,rfl,hc⟩:=at1 HAT.out (aK ae);have gq:=hg.cell (hc k x hx);have cn:(k:Int)<l.length:=by omega
     by_cases cq:W=0
     ·have HO:Hid (aV wr (w.heap.size+1) 192 1 kG (.slice (some ⟨w.heap.size+1,0,none⟩) q q) (eD (l.take (k+1)) W q)):=by
       show aV _ _ _ _ _ _ _
       rw[bM hx];have h1:=aa;rw[cq]at h1 ⊢
       rw[nC0 (l:=l.take k) (v:=x) (λn hn=>by
        rw[<-bM hx]at hn;have h2:=wV0 (List.mem_of_mem_take hn);rwa [<-HW.out,cq]at h2)]
       exact h1
      have C0:=cR1 w.heap.size k x wr (by rw[d1,cq];rfl);clear hc hx cq;go_wp2_with fail
      refine C0.mono ?_;rintro e w5 ⟨rfl,rfl⟩;go_wp2_with fail
      go_roundw
      case rel=>exact⟨k+1,ae,by go_num,d0,d1,d2,HO.out,hg⟩
      case measure=>simp[intOf];omega
     ·have fp:(k+1)*W<=64*q:=Nat.le_trans (Ba W (show k+1<=l.length by omega)) HQM.out
      have CS:=gD1 w.heap.size (w.heap.size+1) q W x k (w.heap.size+1) (l.take k) wr (by omega) fj (by rw[At];omega) (by omega) (by rw[HW.out];exact wV0 (Ao hx)) fp vj d1 d2 (Aj _) aa;rw[<-bM hx]at CS;clear hc hx fp;go_wp2_with fail
      refine CS.mono ?_;rintro e w5 ⟨rfl,an,cz⟩;go_wp2_with fail
      go_roundw
      case rel=>exact⟨k+1,ae,by go_num,by rw[Below.cell cz.1 (Aj _)];exact d0,by rw[Below.cell cz.1 (Aj _)];exact d1,by rw[Below.cell cz.1 (Aj _)];exact d2,an,Below.trans hg (Below.mono cz.1 (Nat.le_succ _))⟩
      case measure=>simp[intOf];omega
    ·have cn:¬(k:Int)<l.length:=by omega
     have jt:k=l.length:=by omega
     have HP:Hid (nD wr w.heap.size l):=by
      refine⟨d0,by rw[<-HW.out];exact d1,w.heap.size+1,Aj _,?_,?_⟩
      ·rw[<-HW.out,<-HQ.out];exact d2
      ·rw[<-HW.out,<-HQ.out]
       rw[jt,Bj]at aa;exact aa
     clear jt;go_wp2_with fail
     refine bodyPost_ret (v:=.tuple #[.pointer (some ⟨w.heap.size,0,none⟩),.int .i64 0]) (by simp[results,Tryz.results173,go_sem]) rfl ⟨rfl,HP.out,hg⟩
theorem vL0 (n w:Nat) (hw:w<=64):(#[Value.int .u8 (IntKind.u8.wrap (n:Int)),.int .u8 (IntKind.u8.wrap ((n:Int)/256)),.int .u8 (IntKind.u8.wrap ((n:Int)/65536)),.int .u8 (IntKind.u8.wrap ((n:Int)/16777216)),.int .u8 (IntKind.u8.wrap (w:Int))]:Array Value).toList=(leB 4 n++[Al w]).flatMap aZ:=by
 have h:=zA0 n w hw;rw[Ap,Ap,Ap,Ap,Ap,show (w:Int)%256=w by omega]
 exact h
def vR (l:List Nat) (k:Nat):List UInt8:=(Bt k).map λj=>Al (fK (bitAt l (oM l)) (8*j) 8)
theorem oL0 (l:List Nat) (k:Nat):vR l (k+1)=vR l k++[Al (gX l (oM l) (k/8)>>>(k%8*8))]:=by
 unfold vR;rw[List.range_succ,List.map_append];simp only[List.map_cons,List.map_nil];rw[<-sI0 l (oM l) k,aS0]
theorem sS0 (l:List Nat) (k:Nat):(vR l k).length=k:=by simp[vR]
theorem eZ0 (l:List Nat) (pb:Nat) (w:World) (hl:l.length<=1048576) (hn:∀n∈l,n<18446744073709551616) (ac:nD w pb l) :
  Calls Tryz.prog 181 #[.pointer (some ⟨pb,0,none⟩)] w λe w'=>∃v,e=.returned v/\aV w' w.heap.size 5 1 aZ v (packE l)/\aB w w':=by
 have fj:oM l<=64:=nS.2 hn;have c0:=ac.c0;have c1:=ac.c1;obtain⟨wb,y8,c2,aa⟩:=ac.c2;obtain⟨W,hWe⟩:=exq (oM l);obtain⟨n,aj⟩:=exq l.length;rw[<-hWe]at fj c1 c2 aa;rw[<-aj]at hl c0 c2 aa;obtain⟨q,hq⟩:=exq ((n*W+63)/64);rw[<-hq]at c2 aa;have HW:=Ad hWe;have HNE:=Ad aj;have HOWN:=Ad aa;have HH:=Ad (vL0 n W fj);obtain⟨M,hM⟩:=exq (n*W);have vn:M<=1048576*64:=by rw[hM];exact Av hl fj
 obtain⟨T,hT⟩:=exq ((M+7)/8);have hTq:T<=8*q:=by rw[hT,hq,<-hM];omega
 have hTb:T<=8388609:=by omega
 have HTE:Hid (T=(l.length*oM l+7)/8):=by show _=_;rw[hT,hM,HNE.out,HW.out]
 have wM:IntKind.i64.wrap ((n:Int)*W)=M:=by
  have h1:(n:Int)*W=M:=by rw[hM];push_cast;rfl
  rw[h1];simp[Ab,Ac,Aa];omega
 have wM2:IntKind.i64.wrap ((M:Int)+7)=(M:Int)+7:=by simp[Ab,Ac,Aa];omega
 have ri:((M:Int)+7)/8=T:=by omega
 have zf:((M:Int)+7).tdiv 8=T:=by rw[Aw (by omega)];exact ri
 have wT:IntKind.i64.wrap (T:Int)=T:=by simp[Ab,Ac,Aa];omega
 have HWM:=Ad wM;have HWM2:=Ad wM2;have HE1:=Ad ri;have HE2:=Ad zf;have HWT:=Ad wT;have HL:=Ad hl;have z0:∀y:Ext aB w.drew,y.u.cell? ⟨pb,0,none⟩=some (.int .i64 n):=aF ((aB.drew w).cell c0);have z1:∀y:Ext aB w.drew,y.u.cell? ⟨pb,1,none⟩=some (.int .i64 W):=aF ((aB.drew w).cell c1);clear hn ac hWe aj hM hT aa wM wM2 ri zf wT hl vn y8 hq;go_enter Tryz.func181,Tryz.ntmps181
 go_wp2_with fail
 refine bK (bB 30 [28,29]) (by kernel_rfl) (λd _ _ _ _ h=>by cases d<;>exact h) ?_
 iterate 28 (refine aH rfl (λK hK=>?_);go_simp;refine hK _ ?_;clear hK K)
 refine bJ rfl rfl (λK hK=>?_);go_simp;refine⟨aB.alloc _ _,hK _ _ ?_⟩;clear hK K z0 z1;iterate 1 (refine bJ rfl rfl (λK hK=>?_);go_simp;refine⟨aB.refl _,hK _ _ ?_⟩;clear hK K)
 refine bQ ?_;have ig:=(jI (enc:=aZ) (e:=5) (w:=w) (base:=w.heap.size) (λ_=>rfl) (Ak _) (leB 4 n++[Al W]) HH.out (n:=5) (by simp[bP]) (by decide)).grows (aB.drew _);obtain⟨w1,ua⟩:=exq ((w.alloc (.cells #[.int .u8 (IntKind.u8.wrap (n:Int)),.int .u8 (IntKind.u8.wrap ((n:Int)/256)),.int .u8 (IntKind.u8.wrap ((n:Int)/65536)),.int .u8 (IntKind.u8.wrap ((n:Int)/16777216)),.int .u8 (IntKind.u8.wrap (W:Int))] 5)).drew);have aq:aB w w1:=by rw[ua];exact(aB.alloc _ _).dr
 rw[<-ua]at ig ⊢;clear ua HH;generalize IntKind.u8.wrap (n:Int)=y1;generalize IntKind.u8.wrap ((n:Int)/256)=y2;generalize IntKind.u8.wrap ((n:Int)/65536)=y3;generalize IntKind.u8.wrap ((n:Int)/16777216)=y4;generalize IntKind.u8.wrap (W:Int)=y5;go_wp2_with fail
 have wM:=HWM.out;have wM2:=HWM2.out;have ri:=HE1.out;have zf:=HE2.out;have wT:=HWT.out;have z0:∀y:Ext aB w1.drew,y.u.cell? ⟨pb,0,none⟩=some (.int .i64 n):=aF (aq.dr.cell c0);have z1:∀y:Ext aB w1.drew,y.u.cell? ⟨pb,1,none⟩=some (.int .i64 W):=aF (aq.dr.cell c1);refine bK (bB 12 []) (by kernel_rfl) (λd _ _ _ _ h=>by cases d<;>exact h) ?_
 iterate 12 (refine aH rfl (λK hK=>?_);go_simp;refine hK _ ?_;clear hK K)
 refine bQ ?_;clear z0 z1 wM wM2 ri zf wT;go_wp2_with fail
 go_loopw [3,47] (λout i wr=>∃(k:Nat) (bz:List UInt8),k<=T/\i=.int .i64 k/\Hid (bz=leB 4 n++[Al W]++vR l k)/\aV wr w.heap.size 5 1 aZ out bz/\aB w wr) (λ_ i _=>T-(intOf i).toNat)
 case atStart=>exact⟨0,_,Az _,rfl,(by show _=_;simp[vR]),ig.grows (aB.drew _),aq.dr⟩
 case round =>
  obtain⟨k,bz,hk,rfl,cd,aa,hg⟩:=hrel;by_cases ae:k<T
  ·have cn:(k:Int)<T:=by omega
   obtain⟨J,hJ⟩:=exq (k/8);obtain⟨R,hR⟩:=exq (k%8*8);have hJq:J<q:=by omega
   have hRb:R<=56:=by omega
   have eJ:(k:Int)/8=J:=by omega
   have eR:(k:Int)%8*8=R:=by omega
   have wR:IntKind.u64.wrap (R:Int)=R:=by simp[Ab,Ac,Aa];omega
   obtain⟨x,hx⟩:=exq (gX l W J);have gq:wr.cell? ⟨wb,J,none⟩=some (.int .u64 x):=hg.cell (cU (f:=λn:Nat=>Value.int .u64 n) HOWN.out (by rw[fI hJq,hx]));have c2r:=hg.cell c2
   have HN:Hid (bz++[Al (x>>>R)]=leB 4 n++[Al W]++vR l (k+1)):=by
    show _=_
    rw[oL0,<-HW.out,<-hJ,<-hR,<-hx,cd.out,Bi]
   have HB:Hid ([Value.int .u8 ((x:Int)/2^R%256)]=aZ (Al (x>>>R))):=by
    show _=_
    rw[yQ];exact jB0 _
   have og:bz.length<=5+k:=by rw[cd.out,Be,sS0];simp[bP]<;>omega
   have hJi:(J:Int)<q:=by omega
   clear hJ hR hx cd;go_wp2_with (at_builtin;refine bJ1 bI rfl _ _ rfl w.heap.size _ bz (Al (x>>>R)) rfl aa (aB.refl _) _ 1 rfl _ (by exact HB.out) rfl (by omega) hg.size ?_;intro v' w5 an bk)
   go_roundw
   case rel=>exact⟨k+1,_,ae,by go_num,HN.out,an,bk w hg (Ak _)⟩
   case measure=>simp[intOf];omega
  ·have cn:¬(k:Int)<T:=by omega
   have HF:Hid (bz=packE l):=by
    show _=_
    have hkT:k=T:=by omega
    rw[cd.out,hkT,HTE.out,HNE.out,HW.out];rfl
   clear cd;go_wp2_with fail
   go_ret;exact⟨_,rfl,by rw[<-HF.out];exact aa,hg⟩
def lZ {α:Type} (l:List α) (z:α) (k:Nat):List α:=l.take k++An (l.length-k) z
theorem mG {α:Type} (l:List α) (z:α) {k:Nat} (h:k<=l.length):(lZ l z k).length=l.length:=by
 unfold lZ;rw[Be,At,List.length_replicate];omega
theorem qG {α:Type} (l:List α) (z:α):lZ l z 0=An l.length z:=by simp[lZ]
theorem tI {α:Type} (l:List α) (z:α):lZ l z l.length=l:=by simp[lZ]
theorem sR {α:Type} {l:List α} {z x:α} {k:Nat} (h:l[k]?=some x):(lZ l z k).set k x=lZ l z (k+1):=by
 have hk:k<l.length:=(List.getElem?_eq_some_iff.1 h).1;unfold lZ;rw[List.set_append_right _ _ (by rw[At];omega),bM h,Bi];congr 1
 rw[show k-(l.take k).length=0 by rw[At];omega,show l.length-k=(l.length-(k+1))+1 by omega,List.replicate_succ]
 rfl
theorem oF (l:List Nat) (a:Option Addr) (c:Nat) (w:World) (hl:l.length<=1048576) (hn:∀n∈l,n<9223372036854775808) (ac:aG w a 1 (l.map lJ)) :
  Calls Tryz.prog 115 #[.slice a l.length c] w λe w'=>∃v,e=.returned v/\aV w' w.heap.size 5 1 aZ v (packE l)/\aB w w':=by
 have HAT:=Ad ac;have HN:=Ad hn;have lk:=λ(Y:World)=>nZ1 l.length Y hl;have CP:=λ(W:World) (q c:Nat) (h:aG W (some ⟨q,0,none⟩) 1 (l.map kG))=>Ad (eQ0 l (some ⟨q,0,none⟩) c W hl (λn hn'=>by have:=hn n hn';omega) h);have CE:=λ(W:World) (q:Nat) (h:nD W q l)=>Ad (eZ0 l q W hl (λn hn'=>by have:=hn n hn';omega) h);clear ac hn;go_enter Tryz.func115,Tryz.ntmps115
 go_wp2_with fail
 have bg:=kK0 (w:=w) (n:=l.length) hl;rw[Bk,<-qG l 0]at bg;obtain⟨W1,bu⟩:=exq (w.alloc (.cells (madeCells #[.int .u64 0] l.length) 192));have gh:aB w W1:=by rw[bu];exact aB.alloc _ _
 rw[<-bu]at bg ⊢;clear bu;go_loopw [13] (λi wr=>∃(k:Nat),k<=l.length/\i=.int .i64 k/\aV wr w.heap.size 192 1 kG (.slice (some ⟨w.heap.size,0,none⟩) l.length l.length) (lZ l 0 k)/\aB w wr) (λi _=>l.length-(intOf i).toNat)
 case atStart=>exact⟨0,Az _,rfl,bg,gh⟩
 case round =>
  clear bg gh;obtain⟨k,hk,rfl,aa,hg⟩:=hrel;by_cases ae:k<l.length
  ·obtain⟨x,hx⟩:∃x,l[k]?=some x:=⟨_,Ai ae⟩
   obtain⟨b,o,rfl,hc⟩:=at1 (HAT.out.grows hg) (aK ae);have gq:=hc k x hx;have ai7:=HN.out x (Ao hx);have wx:IntKind.u64.wrap (x:Int)=x:=by simp[Ab,Ac,Aa];omega
   have zg:=mG l 0 hk;obtain⟨y,hy⟩:∃y,(lZ l 0 k)[k]?=some y:=⟨_,Ai (by omega)⟩;have e1:=cU (f:=λn:Nat=>Value.int .u64 n) aa hy;obtain⟨f1,_,ar⟩:=eP (f:=λn:Nat=>Value.int .u64 n) aa (k:=k) (by omega) x;rw[sR hx]at ar;have HO:=Ad ar;clear hc hx hy aa ar zg;go_wp2_with fail
   go_roundw
   case rel=>exact⟨k+1,by omega,by go_num,HO.out,hg.set (Ak _) _⟩
   case measure=>simp[intOf];omega
  ·obtain rfl:k=l.length:=by omega
   rw[tI]at aa;obtain⟨a1,c1,e1,_,_,cu⟩:=aa.at_ (k:=1) (λx=>(rfl:(kG x).length=1));have e2:=(Value.slice.inj e1).1;subst e2;have CP1:=CP wr w.heap.size l.length cu;clear CP e1 cu aa;go_wp2_with fail
   refine CP1.out.mono ?_;rintro e w2 ⟨rfl,hp,af⟩;have CE1:=CE w2 wr.heap.size hp;clear CE CP1 hp;have af:=aB.trans _ _ _ hg af;go_wp2_with fail
   refine CE1.out.mono ?_;rintro e w3 ⟨v,rfl,hv,ay⟩;go_wp2_with fail
   go_ret;exact⟨v,rfl,hv.base af.size,aB.trans _ _ _ af ay⟩
theorem tX (l:List Nat) (W Q t:Nat) (ht:t<64):(gX l W Q).testBit t=bitAt l W (64*Q+t):=by
 unfold gX;rw[dE];simp[ht]
theorem dZ1 {l:List Nat} {W i x Q S:Nat} (hx:l[i]?=some x) (ud:x<2^W) (hQ:i*W=64*Q+S) (fp:S+W<=64):(gX l W Q>>>S)&&&(2^W-1)=x:=by
 apply Bb
 intro t;rw[Bn,Au,Ay];by_cases ht:t<W
 ·rw[tX _ _ _ _ (by omega),<-Bs,<-hQ,gO0 hx ht]
  simp[ht]
 ·simp only[ht,decide_false,Bp]
  exact(As (Aq ud (Ah (by decide) (by omega)))).symm
theorem gL1 {l:List Nat} {W i x Q S:Nat} (hx:l[i]?=some x) (ud:x<2^W) (hQ:i*W=64*Q+S) (hS:S<64) (hW:W<=64) (fp:64<S+W) :
  ((gX l W Q>>>S)|||(gX l W (Q+1)<<<(64-S))%18446744073709551616)&&&(2^W-1)=x:=by
 apply Bb
 intro t;rw[Bn,Au,Nat.testBit_or,Ay];by_cases ht:t<W
 ·rw[fX0 (by omega)]
  by_cases h1:S+t<64
  ·rw[tX _ _ _ _ h1,<-Bs,<-hQ,gO0 hx ht]
   simp[ht,show ¬64-S<=t by omega]
  ·rw[show (gX l W Q).testBit (S+t)=false by
    apply As
    exact Aq (nF l W Q) (Ah (n:=2) (by decide) (show 64<=S+t by omega))]
   rw[tX _ _ _ _ (by omega),show 64*(Q+1)+(t-(64-S))=i*W+t by omega,gO0 hx ht]
   simp[ht,show 64-S<=t by omega]
 ·simp only[ht,decide_false,Bp]
  exact(As (Aq ud (Ah (by decide) (by omega)))).symm
theorem eE1 {W:Nat} (hW:W<=64):IntKind.u64.wrap (IntKind.u64.wrap (2^W)-1)=((2^W-1:Nat):Int):=by
 have h:∀V:Fin 65,IntKind.u64.wrap (IntKind.u64.wrap (2^V.val)-1)=((2^V.val-1:Nat):Int):=by decide +kernel
 exact h ⟨W,by omega⟩
theorem zK0 (pb wb q W i x base:Nat) (l:List Nat) (w:World) (hW:W<=64) (ji:l.length<=1048576) (hx:l[i]?=some x) (ud:x<2^W) (hq:l.length*W<=64*q)
  (c1:w.cell? ⟨pb,1,none⟩=some (.int .i64 W)) (c2:w.cell? ⟨pb,2,none⟩=some (.slice (some ⟨wb,0,none⟩) q q)) (aa:aV w base 192 1 kG (.slice (some ⟨wb,0,none⟩) q q) (eD l W q)) :
  Calls Tryz.prog 200 #[.pointer (some ⟨pb,0,none⟩),.int .i64 i] w λe w'=>e=.returned (.int .u64 x)/\(w'=w\/w'=w.drew):=by
 have sw:=(List.getElem?_eq_some_iff.1 hx).1;by_cases cq:W=0
 ·have mg:x=0:=by rw[cq]at ud;simpa using ud
  subst mg;subst cq;clear aa;go_enter Tryz.func200,Tryz.ntmps200
  go_wp2_with fail
  go_ret;exact⟨rfl,Or.inl rfl⟩
 ·have et:(W:Int)≠0:=by omega
  obtain⟨M,hM⟩:=exq (i*W)
  have hMq:M+W<=64*q:=by
   have h1:(i+1)*W<=l.length*W:=Ba _ (by omega);rw[Nat.add_mul]at h1;omega
  have ai8:M<=1048576*64:=by rw[hM];exact Av (by omega) hW
  obtain⟨Q,hQ⟩:=exq (M/64);obtain⟨S,hS⟩:=exq (M%64);have hQS:i*W=64*Q+S:=by rw[<-hM];omega
  have mq:S<64:=by omega
  have s6:Q<q:=by omega
  have wM:IntKind.i64.wrap ((i:Int)*W)=M:=by
   have h1:(i:Int)*W=M:=by rw[hM];push_cast;rfl
   rw[h1];simp[Ab,Ac,Aa];omega
  have eQ:(M:Int)/64=Q:=by omega
  have eS:(M:Int)%64=S:=by omega
  obtain⟨y,hy⟩:=exq (gX l W Q);have jy:y<18446744073709551616:=by rw[hy];exact nF l W Q
  have d1:w.drew.cell? ⟨wb,Q,none⟩=some (.int .u64 y):=(aB.drew w).cell (cU (f:=λn:Nat=>Value.int .u64 n) aa (by rw[fI s6,hy]));have z1:∀y:Ext aB w.drew,y.u.cell? ⟨pb,1,none⟩=some (.int .i64 W):=aF ((aB.drew w).cell c1);have hQi:(Q:Int)<q:=by omega
  have g1:w.drew.cell? ⟨pb,1,none⟩=some (.int .i64 W):=(aB.drew w).cell c1;have g2:w.drew.cell? ⟨pb,2,none⟩=some (.slice (some ⟨wb,0,none⟩) q q):=(aB.drew w).cell c2;have ag9:IntKind.i64.wrap ((S:Int)+W)=(S:Int)+W:=by simp[Ab,Ac,Aa];omega
  have lk:=eE1 hW
  have r9:2^W-1<18446744073709551616:=by
   have:2^W<=2^64:=Ah (by decide) hW
   have e:(2:Nat)^64=18446744073709551616:=by decide
   omega
  obtain⟨v0,hv0⟩:=exq (y>>>S);have hsh:(y:Int)/2^S=(v0:Nat):=by rw[hv0];exact yQ y S
  have vo:v0<18446744073709551616:=by rw[hv0];exact Bd (Nat.shiftRight_le _ _) jy
  by_cases jx:S+W<=64
  ·have hsw:¬(64:Int)<(S:Int)+W:=by omega
   have hand:bits .and .u64 (v0:Int) ((2^W-1:Nat):Int)=(x:Int):=by
    rw[u64_and_nat _ _ vo r9,hv0,hy,dZ1 hx ud hQS jx]
   obtain⟨MK,hMK⟩:=exq (2^W-1);rw[<-hMK]at hand lk;clear hM hQ hS hQS hy aa hMq hx ud hv0 hMK;go_enter Tryz.func200,Tryz.ntmps200
   go_wp2_with fail
   refine bK (bB 17 []) (by kernel_rfl) (λd _ _ _ _ h=>by cases d<;>exact h) ?_
   iterate 17 (refine aH rfl (λK hK=>?_);go_simp;refine hK _ ?_;clear hK K)
   refine bQ ?_;clear z1;go_wp2_with fail
   go_ret;exact⟨rfl,Or.inr rfl⟩
  ·have jx:64<S+W:=by omega
   have hsw:(64:Int)<(S:Int)+W:=by omega
   have ze:Q+1<q:=by omega
   have aha:(Q:Int)+1<q:=by omega
   obtain⟨y1,kt⟩:=exq (gX l W (Q+1));have aiu:y1<18446744073709551616:=by rw[kt];exact nF l W _
   have d2:w.drew.cell? ⟨wb,Q+1,none⟩=some (.int .u64 y1):=(aB.drew w).cell (cU (f:=λn:Nat=>Value.int .u64 n) aa (by rw[fI ze,kt]));have hor:=kD0 (v:=y1) (S:=64-S) vo;obtain⟨v1,ie⟩:=exq (v0|||(y1<<<(64-S))%18446744073709551616)
   rw[<-ie]at hor;have ad2:v1<18446744073709551616:=by rw[ie];exact Bh (n:=64) vo (Bu _ (by decide))
   have hT:(64:Int)-S=((64-S:Nat):Int):=by omega
   have hTw:IntKind.u64.wrap ((64-S:Nat):Int)=((64-S:Nat):Int):=by simp[Ab,Ac,Aa];omega
   have hand:bits .and .u64 (v1:Int) ((2^W-1:Nat):Int)=(x:Int):=by
    rw[u64_and_nat _ _ ad2 r9,ie,hv0,hy,kt,gL1 hx ud hQS mq hW jx]
   obtain⟨MK,hMK⟩:=exq (2^W-1);rw[<-hMK]at hand lk;clear hM hQ hS hQS hy aa hMq hx ud hv0 hMK kt ie;go_enter Tryz.func200,Tryz.ntmps200
   go_wp2_with fail
   refine bK (bB 17 []) (by kernel_rfl) (λd _ _ _ _ h=>by cases d<;>exact h) ?_
   iterate 17 (refine aH rfl (λK hK=>?_);go_simp;refine hK _ ?_;clear hK K)
   refine bQ ?_;clear z1;go_wp2_with fail
   go_ret;exact⟨rfl,Or.inr rfl⟩
theorem pZ0 (pb wb q W i x base:Nat) (l:List Nat) (w:World) (hW:W<=64) (ji:l.length<=1048576) (hx:l[i]?=some x) (ud:x<2^W) (hq:l.length*W<=64*q)
 (c1:w.cell? ⟨pb,1,none⟩=some (.int .i64 W)) (c2:w.cell? ⟨pb,2,none⟩=some (.slice (some ⟨wb,0,none⟩) q q)) (aa:aV w base 192 1 kG (.slice (some ⟨wb,0,none⟩) q q) (eD l W q)) :
 Calls Tryz.prog 200 #[.pointer (some ⟨pb,0,none⟩),.int .i64 i] w λe w'=>e=.returned (.int .u64 x)/\aB w w':=(zK0 pb wb q W i x base l w hW ji hx ud hq c1 c2 aa).mono λe w' ⟨h1,h2⟩=>⟨h1,by rcases h2 with rfl|rfl<;>first|exact aB.refl _|exact aB.drew _⟩
theorem qM {l:List Nat} {x:Nat} (h:x∈l):x<2^oM l:=nS.1 (Ak _) x h
theorem jQ (l:List Nat) (pb:Nat) (w:World) (ac:nD w pb l):Calls Tryz.prog 135 #[.pointer (some ⟨pb,0,none⟩)] w λe w'=>e=.returned (.int .i64 (l.length:Nat))/\w=w':=by
 have c0:=ac.c0;go_enter Tryz.func135,Tryz.ntmps135
 go_wp2_with fail
 go_ret;exact⟨rfl,rfl⟩
theorem sQ (l:List Nat) (pb i x:Nat) (w:World) (ac:nD w pb l) (hl:l.length<=1048576) (hn:∀n∈l,n<18446744073709551616) (hx:l[i]?=some x):Calls Tryz.prog 136 #[.pointer (some ⟨pb,0,none⟩),.int .i64 i] w λe w'=>e=.returned (.tuple #[.int .u64 x,.bool true])/\aB w w':=by
 obtain⟨wb,h1,h2,h3⟩:=ac.c2;have sw:=(List.getElem?_eq_some_iff.1 hx).1;have CG:=Ad (pZ0 pb wb ((l.length*oM l+63)/64) (oM l) i x wb l w (nS.2 hn) hl hx (qM (Ao hx)) (by omega) ac.c1 h2 h3);have CL:=Ad (jQ l pb w ac);have h0:¬(i:Int)<0:=by omega
 have hi:(i:Int)<l.length:=by omega
 clear ac h2 h3 hx;go_enter Tryz.func136,Tryz.ntmps136
 go_wp2_with fail
 refine CL.out.mono ?_;rintro e w1 ⟨rfl,rfl⟩;go_wp2_with fail
 refine CG.out.mono ?_;rintro e w2 ⟨rfl,af⟩;go_wp2
 go_ret2;exact⟨rfl,af⟩
end
end Go.Proofs.YtaogeadljgjpcaaGreatDoor
