/- The texts Pk PkN PkE Bnum PkG, one behind the other. -/
import Derived.Test.YtheiocndipepaaaGreatDoorKq20
import Derived.Test.YtheiocndipepaaaGreatDoorShelf
import Derived.Laws.OwnMore
import Derived.OwnWalk
import Derived.Laws.MakeOwn
import Derived.Laws.BitsAllLaws
open Go.IntKind renaming signed → Aa,wrap → Ab,bits → Ac,wrap_u8' → Ap
open Go.Lib renaming hid → Ad,bitLenAux → Bq
open List renaming getElem?_eq_none → Ae,length_set → Ag,getElem?_eq_getElem → Ai,getElem?_set_ne → Am,replicate → An,mem_of_getElem? → Ao,getElem?_set_self → Ar,length_take → At,ext_getElem? → Ax,getElem?_range → Bc,length_append → Be,getElem?_map → Bf,append_assoc → Bi,take_length → Bj,range → Bs
open Go.World renaming cell?_setCell_other → Af,frozen? → Bp
open Nat renaming pow_le_pow_right → Ah,lt_succ_self → Aj,le_refl → Ak,lt_of_lt_of_le → Aq,testBit_lt_two_pow → As,testBit_two_pow_sub_one → Au,mul_le_mul → Av,testBit_shiftRight → Ay,zero_le → Az,mul_le_mul_right → Ba,eq_of_testBit_eq → Bb,lt_of_le_of_lt → Bd,or_lt_two_pow → Bh,mul_one → Bk,testBit_and → Bl,add_assoc → Br,mod_lt → Bt
open UInt8 renaming ofNat → Al
open Int renaming tdiv_eq_ediv_of_nonneg → Aw,toNat_natCast → Bg
open Go.Addr renaming block → Bn
open Bool renaming and_false → Bo
set_option maxHeartbeats 8000000
namespace Go.Proofs.YtheiocndipepaaaGreatDoor
set_option maxRecDepth 100000
section
open Go Go.RowKit
attribute [local go_sem] aM aK
theorem nY {α:Type} (f:α->Value) (xs:List α):xs.flatMap (λx=>[f x])=xs.map f:=by
 induction xs with
 | nil=>rfl
 | cons x xs ih=>rw[List.flatMap_cons,ih];rfl
theorem eC {α:Type} {f:α->Value} {w:World} {base g n c k:Nat} {e:TypeId} {xs:List α} (h:aV w base e 1 (λx=>[f x]) (.slice (some ⟨g,0,none⟩) n c) xs) (hk:k<xs.length) (y:α) :
  w.frozen? ⟨g,k,none⟩=false/\base<=g/\aV (w.setCell ⟨g,k,none⟩ (f y)) base e 1 (λx=>[f x]) (.slice (some ⟨g,0,none⟩) n c) (xs.set k y):=by
 rcases h.2 with ⟨h1,_⟩|⟨g',cap,cm,hv,hb,hh,hn,hc,hs,ht⟩
 ·cases h1
 ·have e1:=(Value.slice.inj hv).1
  have e2:=(Value.slice.inj hv).2.1;obtain rfl:g=g':=congrArg Bn (Option.some.inj e1);have hkc:k<cm.size:=by omega
  refine⟨by simp[Bp,hh],hb,?_⟩;have hl:(xs.set k y).length=xs.length:=Ag
  have hf:(xs.set k y).flatMap (λx=>[f x])=(xs.flatMap (λx=>[f x])).set k (f y):=by
   rw[nY,nY,List.map_set]
  unfold aV;rw[hl];refine⟨by rw[hf,Ag];exact h.1,Or.inr ⟨g,cap,cm.setIfInBounds k (f y),hv,hb,heap_setCell_same w g k cm _ _ hh,hn,hc,by simpa using hs,?_⟩⟩;rw[hf,<-ht,Array.toList_setIfInBounds,List.take_set]
theorem cU {α:Type} {f:α->Value} {w:World} {base g n c k:Nat} {e:TypeId} {xs:List α} {x:α} (h:aV w base e 1 (λx=>[f x]) (.slice (some ⟨g,0,none⟩) n c) xs) (hx:xs[k]?=some x):w.cell? ⟨g,k,none⟩=some (f x):=by
 obtain⟨a,c2,he,_,_,ac⟩:=aV.at_ (enc:=λx=>[f x]) (λ_=>rfl) h;simp only[Value.slice.injEq]at he;rw[<-he.1]at ac;obtain⟨b1,o1,he1,bv⟩:=at1 (f:=f) ac (aH (List.getElem?_eq_some_iff.1 hx).1);obtain⟨rfl,rfl⟩:g=b1/\0=o1:=by simpa using he1
 have:=bv k x hx
 rwa [Nat.zero_add]at this
def eY (l:List Nat) (W q:Nat):List Nat:=(Bs q).map (iG l W)
theorem fT (l:List Nat) (W q:Nat):(eY l W q).length=q:=by simp[eY]
theorem fV {l:List Nat} {W q k:Nat} (h:k<q):(eY l W q)[k]?=some (iG l W k):=by
 unfold eY;rw[Bf,Bc h];rfl
theorem wQ0 {l:List Nat} {W v q Q S:Nat} (hW:0<W) (gl:W<=64) (hv:v<2^W) (hS:S<64) (hQ:l.length*W=64*Q+S) (ic:S+W<=64):eY (l++[v]) W q=(eY l W q).set Q (iG l W Q|||(v<<<S)%18446744073709551616):=by
 apply Ax
 intro k;by_cases hk:k<q
 ·rw[fV hk]
  by_cases zb:k=Q
  ·subst zb
   rw[Ar (by rw[fT];exact hk),mJ0 hW hv hQ]
  ·rw[Am (Ne.symm zb),fV hk,fY0 hW hv hS hQ zb (λ_=>ic) gl]
 ·rw[Ae (by rw[fT];omega),Ae (by rw[Ag,fT];omega)]
theorem xZ0 {l:List Nat} {W v q Q S:Nat} (hW:0<W) (gl:W<=64) (hv:v<2^W) (hS:S<64) (hQ:l.length*W=64*Q+S) (_:64<S+W) (hQ1:Q+1<q) :
  eY (l++[v]) W q=((eY l W q).set Q (iG l W Q|||(v<<<S)%18446744073709551616)).set (Q+1) (iG l W (Q+1)|||v>>>(64-S)):=by
 apply Ax
 intro k;by_cases hk:k<q
 ·rw[fV hk]
  by_cases adl:k=Q+1
  ·subst adl
   rw[Ar (by rw[Ag,fT];exact hk),xQ0 hW hv gl hS hQ]
  ·rw[Am (Ne.symm adl)]
   by_cases zb:k=Q
   ·subst zb
    rw[Ar (by rw[fT];exact hk),mJ0 hW hv hQ]
   ·rw[Am (Ne.symm zb),fV hk,fY0 hW hv hS hQ zb (λh=>absurd h adl) gl]
 ·rw[Ae (by rw[fT];omega),Ae (by rw[Ag,Ag,fT];omega)]
theorem jQ0 {x v S:Nat} (hx:x<18446744073709551616):bits .or .u64 (x:Int) (IntKind.u64.wrap ((v:Int)*2^S))=((x|||(v<<<S)%18446744073709551616:Nat):Int):=by
 have h1:IntKind.u64.wrap ((v:Int)*2^S)=((v<<<S%18446744073709551616:Nat):Int):=by
  rw[Nat.shiftLeft_eq,show (v:Int)*2^S=((v*2^S:Nat):Int) by push_cast;rfl]
  generalize v*2^S=N;simp[Ab,Ac,Aa]
 rw[h1];exact u64_or_nat x _ hx (Bt _ (by decide))
theorem pF1 {x v T:Nat} (hx:x<18446744073709551616) (hv:v<18446744073709551616):bits .or .u64 (x:Int) ((v:Int)/2^T)=((x|||v>>>T:Nat):Int):=by
 rw[bH0];exact u64_or_nat x _ hx (Bd (by rw[Nat.shiftRight_eq_div_pow];exact Nat.div_le_self _ _) hv)
theorem jQ1 (pb wb q W v i base:Nat) (pre:List Nat) (w:World) (b9:0<W) (hW:W<=64) (hi:i=pre.length) (fo:i<=1048576) (hv:v<2^W) (ic:(i+1)*W<=64*q) (hq:q<=1048576)
  (c1:w.cell? ⟨pb,1,none⟩=some (.int .i64 W)) (c2:w.cell? ⟨pb,2,none⟩=some (.slice (some ⟨wb,0,none⟩) q q)) (hpw:pb<wb) (aa:aV w base 144 1 kS (.slice (some ⟨wb,0,none⟩) q q) (eY pre W q)) :
  Calls Tryz.prog 141 #[.pointer (some ⟨pb,0,none⟩),.int .i64 i,.int .u64 v] w λe w'=>e=.returned (.tuple #[])/\aV w' base 144 1 kS (.slice (some ⟨wb,0,none⟩) q q) (eY (pre++[v]) W q)/\EB wb w w':=by
 obtain⟨M,hM⟩:=exq (i*W);obtain⟨Q,hQ⟩:=exq (M/64);obtain⟨S,hS⟩:=exq (M%64);have ze:M<=1048576*64:=by rw[hM];exact Av fo hW
 have hMq:M+W<=64*q:=by rw[hM];rw[Nat.succ_mul]at ic;exact ic
 have hQS:pre.length*W=64*Q+S:=by rw[<-hi,<-hM];omega
 have ow:S<64:=by omega
 have vo:Q<q:=by omega
 have afk:v<18446744073709551616:=Aq hv (Ah (n:=2) (by decide) hW)
 have wM:IntKind.i64.wrap ((i:Int)*W)=M:=by
  have h1:(i:Int)*W=M:=by rw[hM];push_cast;rfl
  rw[h1];simp[Ab,Ac,Aa];omega
 have eQ:(M:Int)/64=Q:=by omega
 have eS:(M:Int)%64=S:=by omega
 obtain⟨x,hx⟩:=exq (iG pre W Q);have kr:x<18446744073709551616:=by rw[hx];exact oG pre W Q
 have d1:w.cell? ⟨wb,Q,none⟩=some (.int .u64 x):=cU (f:=λn:Nat=>Value.int .u64 n) aa (by rw[fV vo,hx]);obtain⟨f1,_,az⟩:=eC (f:=λn:Nat=>Value.int .u64 n) (aa.grows (Grows.drew w)) (k:=Q) (by rw[fT];exact vo) (x|||(v<<<S)%18446744073709551616)
 have HWB:=Ad (Nat.le_of_lt (World.block_lt_of_cell? w _ d1));have hor:=jQ0 (v:=v) (S:=S) kr;obtain⟨x1,ga⟩:=exq (x|||(v<<<S)%18446744073709551616)
 rw[<-ga]at hor az;have ai:pb≠wb:=by omega
 have z1:∀y:Ext Grows w.drew,y.u.cell? ⟨pb,1,none⟩=some (.int .i64 W):=aB ((Grows.drew w).cell c1);have fw:(W:Int)≠0:=by omega
 have hQi:(Q:Int)<q:=by omega
 have g1:∀u,(w.drew.setCell ⟨wb,Q,none⟩ u).cell? ⟨pb,1,none⟩=some (.int .i64 W):=λu=>(Af _ _ _ _ (λh=>ai (congrArg Bn h).symm)).trans c1;have g2:∀u,(w.drew.setCell ⟨wb,Q,none⟩ u).cell? ⟨pb,2,none⟩=some (.slice (some ⟨wb,0,none⟩) q q):=λu=>(Af _ _ _ _ (λh=>ai (congrArg Bn h).symm)).trans c2;have aic:IntKind.i64.wrap ((S:Int)+W)=(S:Int)+W:=by simp[Ab,Ac,Aa];omega
 by_cases lr:S+W<=64
 ·have hsw:¬(64:Int)<(S:Int)+W:=by omega
  have HF:Hid (eY (pre++[v]) W q=(eY pre W q).set Q x1):=by show _=_;rw[wQ0 b9 hW hv ow hQS lr,ga,hx]
  have HO:=Ad az;clear hM hQ hS hQS hx ga az aa ic hMq hi hv;go_enter Tryz.func141,Tryz.ntmps141
  go_wp2_with fail
  refine bE (aU 17 []) (by kernel_rfl) (λd _ _ _ _ h=>by cases d<;>exact h) ?_
  iterate 17 (refine aG rfl (λK hK=>?_);go_simp;refine hK _ ?_;clear hK K)
  refine bH ?_;clear z1;go_wp2_with fail
  refine bodyPost_end (v:=.tuple #[]) (by simp[results,Tryz.results141,go_sem]) rfl ⟨rfl,?_,?_⟩
  ·rw[HF.out]
   exact HO.out
  ·exact EB.trans _ _ _ _ (EB.of (Grows.drew w) HWB.out) ⟨(Below.refl wb w.drew).setCell (p:=⟨wb,Q,none⟩) (Ak wb) _,by simp⟩
 ·have lr:64<S+W:=by omega
  have hsw:(64:Int)<(S:Int)+W:=by omega
  have hQ1:Q+1<q:=by omega
  have aid:(Q:Int)+1<q:=by omega
  obtain⟨y,hy⟩:=exq (iG pre W (Q+1));have lu:y<18446744073709551616:=by rw[hy];exact oG pre W _
  have hYg:((eY pre W q).set Q x1)[Q+1]?=some y:=by rw[Am (by omega),fV hQ1,hy]
  have e1:=cU (f:=λn:Nat=>Value.int .u64 n) aa (k:=Q+1) (x:=y) (by rw[fV hQ1,hy]);obtain⟨f3,_,_⟩:=eC (f:=λn:Nat=>Value.int .u64 n) aa (k:=Q+1) (by rw[fT];exact hQ1) y;obtain⟨f2,_,aj⟩:=eC (f:=λn:Nat=>Value.int .u64 n) az (k:=Q+1) (by rw[Ag,fT];exact hQ1) (y|||v>>>(64-S))
  have aie:=pF1 (x:=y) (v:=v) (T:=64-S) lu afk;obtain⟨y1,mu⟩:=exq (y|||v>>>(64-S))
  rw[<-mu]at aie aj;have hT:(64:Int)-S=((64-S:Nat):Int):=by omega
  have hTw:IntKind.u64.wrap ((64-S:Nat):Int)=((64-S:Nat):Int):=by simp[Ab,Ac,Aa];omega
  have HF:Hid (eY (pre++[v]) W q=((eY pre W q).set Q x1).set (Q+1) y1):=by show _=_;rw[xZ0 b9 hW hv ow hQS lr hQ1,ga,hx,mu,hy]
  have HO:=Ad aj;clear hM hQ hS hQS hx ga az aa ic hMq hi hv hy mu aj hYg;go_enter Tryz.func141,Tryz.ntmps141
  go_wp2_with fail
  refine bE (aU 17 []) (by kernel_rfl) (λd _ _ _ _ h=>by cases d<;>exact h) ?_
  iterate 17 (refine aG rfl (λK hK=>?_);go_simp;refine hK _ ?_;clear hK K)
  refine bH ?_;clear z1;go_wp2_with fail
  refine bodyPost_end (v:=.tuple #[]) (by simp[results,Tryz.results141,go_sem]) rfl ⟨rfl,?_,?_⟩
  ·rw[HF.out]
   exact HO.out
  ·exact EB.trans _ _ _ _ (EB.of (Grows.drew w) HWB.out) ⟨((Below.refl wb w.drew).setCell (p:=⟨wb,Q,none⟩) (Ak wb) _).setCell (p:=⟨wb,Q+1,none⟩) (Ak wb) _,by simp⟩
theorem pK0 {x:Nat} (h:x≠0):bitLen x=1+bitLen (x/2):=by
 unfold bitLen;rw[if_neg h];by_cases h1:x=1
 ·subst h1;rfl
 ·rw[if_neg (by omega),Nat.log2_def,if_pos (by omega)]
  omega
theorem eL0:∀(f x:Nat),x<2^f->Bq f x=bitLen x
 | 0,x,h=>by
  obtain rfl:x=0:=by simpa using h
  rfl
 | f+1,x,h=>by
  rw[Bq];by_cases hx:x=0
  ·subst hx;rfl
  ·rw[if_neg hx,pK0 hx,eL0 f (x/2) (by rw[Nat.pow_succ]at h;omega)]
theorem bJ1 (x:Nat) (w:World) (hx:x<18446744073709551616):Calls Tryz.prog 140 #[.int .u64 x] w λe w'=>e=.returned (.int .i64 (bitLen x))/\w=w':=by
 refine(Tryz.bits_Len64 x w (by omega) (by omega)).mono ?_;rintro e w1 ⟨rfl,rfl⟩;exact⟨by rw[Bg];unfold Lib.bitLen;rw[eL0 64 x hx],rfl⟩
theorem nR1:∃i,Tryz.prog.info? 144=some i/\i.zero=some (.int .u64 0)/\i.size=1/\i.bytes=8:=by
 obtain⟨i,z,h1,h2,h3,h4,_⟩:=yQ0.info;have h:(Tryz.prog.info? 144).map (λi=>i.zero)=some (some (.int .u64 0)):=by kernel_rfl
 rw[h1]at h;exact⟨i,h1,by simpa using h,h3,h4⟩
theorem pL1 (n:Nat) (W:World) (hn:n<=1048576):(Instr.makeSlice 137 (.int .i64 n) (.int .i64 n)).run Tryz.prog W=.ok (.slice (some ⟨W.heap.size,0,none⟩) n n) (W.alloc (.cells (madeCells #[.int .u64 0] (n*1)) 144)):=by
 obtain⟨i,h1,h2,h3,h4⟩:=nR1;have h:=run_make (P:=Tryz.prog) W 137 144 i (.int .u64 0) Tryz.underlying137 h1 h2 .i64 .i64 n n (by omega) (Int.le_refl _) (by rw[h4];omega) (by omega);rw[Bg,h3]at h;exact h
theorem lE0 {w:World} {n:Nat} (hn:n<=1048576):aV (w.alloc (.cells (madeCells #[.int .u64 0] (n*1)) 144)) w.heap.size 144 1 kS (.slice (some ⟨w.heap.size,0,none⟩) n n) (An n 0) :=
 jJ (enc:=kS) (λ_=>rfl) (Ak _) (An n 0) (by
  rw[toList_madeCells_one,Bk];unfold kS;rw[nY,List.map_replicate];rfl) (by simp) (by unfold maxLen;omega)
theorem uK0 (W q:Nat):eY [] W q=An q 0:=by
 unfold eY;apply Ax
 intro k;by_cases hk:k<q
 ·rw[Bf,Bc hk,List.getElem?_replicate,if_pos hk]
  simp[yL0]
 ·rw[Ae (by simp;omega),Ae (by simp;omega)]
theorem oZ0 {l:List Nat} {v q:Nat} (h:∀n∈l++[v],n<2^0):eY (l++[v]) 0 q=eY l 0 q:=by
 unfold eY;apply List.map_congr_left
 intro k _;rw[fI0 _ k h,fI0 l k (λn hn=>h n (by simp[hn]))]
theorem dV1 (pb i v:Nat) (w:World) (c1:w.cell? ⟨pb,1,none⟩=some (.int .i64 0)) :
  Calls Tryz.prog 141 #[.pointer (some ⟨pb,0,none⟩),.int .i64 i,.int .u64 v] w λe w'=>e=.returned (.tuple #[])/\w=w':=by
 go_enter Tryz.func141,Tryz.ntmps141
 go_wp2_with fail
 refine bodyPost_ret (v:=.tuple #[]) (by simp[results,Tryz.results141,go_sem]) rfl ⟨rfl,rfl⟩
theorem iP0 (w:World) (cs:Array Value) (t:TypeId) (j:Nat):(w.alloc (.cells cs t)).frozen? ⟨w.heap.size,j,none⟩=false:=by
 have h:(w.alloc (.cells cs t)).heap[w.heap.size]?=some (.cells cs t):=heap_alloc_new w _;unfold Bp;simp only[h];simp
theorem nH {α:Type} {w:World} {base:Nat} {e:TypeId} {k:Nat} {enc:α->List Value} {v:Value} {xs:List α} (h:aV w base e k enc v xs) {p:Addr} (hp:p.block<base) (u:Value):aV (w.setCell p u) base e k enc v xs:=by
 obtain⟨h1,h2⟩:=h;refine⟨h1,?_⟩;rcases h2 with h2|⟨g,cap,cm,hv,hb,hh,r⟩
 ·exact Or.inl h2
 ·refine Or.inr ⟨g,cap,cm,hv,hb,?_,r⟩
  rw[heap_setCell_other w p g u (by omega)];exact hh
structure lE (w:World) (pb:Nat) (l:List Nat):Prop where
 c0:w.cell? ⟨pb,0,none⟩=some (.int .i64 l.length)
 c1:w.cell? ⟨pb,1,none⟩=some (.int .i64 (pF l))
 c2:∃wb,pb<wb/\w.cell? ⟨pb,2,none⟩=some (.slice (some ⟨wb,0,none⟩) ((l.length*pF l+63)/64) ((l.length*pF l+63)/64))/\aV w wb 144 1 kS (.slice (some ⟨wb,0,none⟩) ((l.length*pF l+63)/64) ((l.length*pF l+63)/64)) (eY l (pF l) ((l.length*pF l+63)/64))
theorem lE.grows {w w':World} {pb:Nat} {l:List Nat} (h:lE w pb l) (hg:Grows w w'):lE w' pb l:=by
 obtain⟨wb,h1,h2,h3⟩:=h.c2;exact⟨hg.cell h.c0,hg.cell h.c1,wb,h1,hg.cell h2,h3.grows hg⟩
theorem xO0 {l:List Nat} {k v:Nat} (h:l[k]?=some v):dO0 (l.take (k+1))=dO0 (l.take k)|||v:=by rw[bN h,vP0]
theorem hJ0 (l:List Nat) (a:Option Addr) (c:Nat) (w:World) (hl:l.length<=1048576) (hn:∀n∈l,n<18446744073709551616) (ac:aF w a 1 (l.map kS)) :
  Calls Tryz.prog 87 #[.slice a l.length c] w λe w'=>e=.returned (.tuple #[.pointer (some ⟨w.heap.size,0,none⟩),.int .i64 0])/\lE w' w.heap.size l/\Grows w w':=by
 have HAT:=Ad ac;have HN:=Ad hn;have gl:pF l<=64:=oY.2 hn;obtain⟨W,hWe⟩:=exq (pF l);rw[<-hWe]at gl;have HW:=Ad hWe;obtain⟨q,hq⟩:=exq ((l.length*W+63)/64);have hLW:l.length*W<=1048576*64:=Av hl gl;have y8:q<=1048576:=by omega
 have HQ:=Ad hq;have hlw:¬(1048576:Int)<l.length:=by omega
 clear ac hn hWe hq;go_enter Tryz.func87,Tryz.ntmps87
 go_wp2_with fail
 go_loop [4,15] (λv i=>∃k V:Nat,k<=l.length/\i=.int .i64 k/\v=.int .u64 V/\V<18446744073709551616/\Hid (V=dO0 (l.take k))) (λ_ i=>l.length-(intOf i).toNat)
 case atStart=>exact⟨0,0,Az _,rfl,rfl,by decide,rfl⟩
 case round =>
  obtain⟨k,V,hk,rfl,rfl,hV,ay⟩:=hrel;by_cases ae:k<l.length
  ·obtain⟨x,hx⟩:∃x,l[k]?=some x:=⟨_,Ai ae⟩
   obtain⟨b,o,rfl,hc⟩:=at1 HAT.out (aH ae);have jp:=hc k x hx;have kr:=HN.out x (Ao hx);have HI:Hid (V|||x=dO0 (l.take (k+1))):=by show _=_;rw[xO0 hx,<-ay.out]
   have hor:=u64_or_nat V x hV kr;have vl:V|||x<18446744073709551616:=Bh (n:=64) hV kr
   clear hc hx ay;go_wp2_with fail
   go_round
   case rel=>exact⟨k+1,V|||x,ae,by go_num,rfl,vl,HI.out⟩
   case measure=>simp[intOf];omega
  ·have jo:k=l.length:=by omega
   have cy:¬(k:Int)<l.length:=by omega
   have gp:bitLen V=W:=by rw[ay.out,jo,Bj,HW.out];rfl
   have CL:=bJ1 V w hV;rw[gp]at CL;clear ay jo gp;go_wp2_with fail
   refine CL.mono ?_;rintro e w1 ⟨rfl,rfl⟩;go_wp2_with fail
   obtain⟨WB,ox⟩:=exq (w.alloc (.cells #[.int .i64 l.length,.int .i64 W,.slice none 0 0] 172));have b0:WB.cell? ⟨w.heap.size,0,none⟩=some (.int .i64 l.length):=by rw[ox];exact aT w _ _ (0,0) 0 _ rfl
   have b1:WB.cell? ⟨w.heap.size,1,none⟩=some (.int .i64 W):=by rw[ox];exact aT w _ _ (0,0) 1 _ rfl
   have b2:WB.cell? ⟨w.heap.size,2,none⟩=some (.slice none 0 0):=by rw[ox];exact aT w _ _ (0,0) 2 _ rfl
   have bf:WB.frozen? ⟨w.heap.size,2,none⟩=false:=by rw[ox];exact(iP0 w _ _ 2)
   have kt:Grows w WB:=by rw[ox];exact Grows.alloc _ _
   have di:WB.heap.size=w.heap.size+1:=by rw[ox];simp
   rw[<-ox];clear ox CL;obtain⟨M,hM⟩:=exq (l.length*W);have ze:M<=1048576*64:=by rw[hM];exact hLW
   have hqM:(M+63)/64=q:=by rw[hM];exact HQ.out.symm
   have wM:IntKind.i64.wrap ((l.length:Int)*W)=M:=by
    have h1:(l.length:Int)*W=M:=by rw[hM];push_cast;rfl
    rw[h1];simp[Ab,Ac,Aa];omega
   have zf:IntKind.i64.wrap ((M:Int)+63)=(M:Int)+63:=by simp[Ab,Ac,Aa];omega
   have ue:((M:Int)+63)/64=q:=by omega
   have eq2:((M:Int)+63).tdiv 64=q:=by rw[Aw (by omega)];exact ue
   have z0:∀y:Ext Grows WB.drew,y.u.cell? ⟨w.heap.size,0,none⟩=some (.int .i64 l.length):=aB ((Grows.drew WB).cell b0);have z1:∀y:Ext Grows WB.drew,y.u.cell? ⟨w.heap.size,1,none⟩=some (.int .i64 W):=aB ((Grows.drew WB).cell b1);have wq:IntKind.i64.wrap (q:Int)=q:=by simp[Ab,Ac,Aa];omega
   have ke:=λ(Y:World)=>pL1 q Y y8;clear hLW hM;refine qA 13 (aU 13 [12]) (by kernel_rfl) (λd _ _ _ _ h=>by cases d<;>exact h) ?_
   iterate 12 (refine aG rfl (λK hK=>?_);go_simp;refine hK _ ?_;clear hK K)
   refine aZ rfl rfl (λK hK=>?_);go_simp;refine⟨Grows.alloc _ _,hK _ _ ?_⟩;clear hK K z0 z1 ke;refine bH ?_;simp only[List.drop_succ_cons,List.drop_zero];have bk:=lE0 (w:=WB) y8;rw[Bk,di]at bk;obtain⟨W3,oy⟩:=exq ((WB.alloc (.cells (madeCells #[.int .u64 0] q) 144)).drew);have aw:Grows WB W3:=by rw[oy];exact(Grows.alloc WB _).dr
   have qk:aV W3 (w.heap.size+1) 144 1 kS (.slice (some ⟨w.heap.size+1,0,none⟩) q q) (An q 0):=by rw[oy];exact bk.grows (Grows.drew _)
   rw[<-oy];clear bk;have b32:W3.cell? ⟨w.heap.size,2,none⟩=some (.slice none 0 0):=aw.cell b2;have b3f:W3.frozen? ⟨w.heap.size,2,none⟩=false:=by rw[aw.froz (by show w.heap.size<WB.heap.size;omega)];exact bf
   clear oy;have hWl:W3.heap.size >= WB.heap.size:=aw.size;have g0:=aw.cell b0;have g1:=aw.cell b1;go_wp2_with fail
   have e0:(W3.setCell ⟨w.heap.size,2,none⟩ (.slice (some ⟨w.heap.size+1,0,none⟩) q q)).cell? ⟨w.heap.size,0,none⟩=some (.int .i64 l.length):=(Af _ _ _ _ (λh=>by cases h)).trans g0;have e1:(W3.setCell ⟨w.heap.size,2,none⟩ (.slice (some ⟨w.heap.size+1,0,none⟩) q q)).cell? ⟨w.heap.size,1,none⟩=some (.int .i64 W):=(Af _ _ _ _ (λh=>by cases h)).trans g1;have e2:(W3.setCell ⟨w.heap.size,2,none⟩ (.slice (some ⟨w.heap.size+1,0,none⟩) q q)).cell? ⟨w.heap.size,2,none⟩=some (.slice (some ⟨w.heap.size+1,0,none⟩) q q):=World.cell?_setCell_same _ _ _ b32;have cu:=nH qk (p:=⟨w.heap.size,2,none⟩) (Aj _) (.slice (some ⟨w.heap.size+1,0,none⟩) q q);have bj:Grows w (W3.setCell ⟨w.heap.size,2,none⟩ (.slice (some ⟨w.heap.size+1,0,none⟩) q q)):=(kt.tr aw).set (Ak _) _;rw[<-uK0 W q]at cu;generalize W3.setCell ⟨w.heap.size,2,none⟩ (.slice (some ⟨w.heap.size+1,0,none⟩) q q)=W4 at e0 e1 e2 cu bj ⊢;have afl:l.length*W<=64*q:=by have:=HQ.out;omega
   have HQM:=Ad afl;clear b0 b1 b2 bf kt di ze hqM wM zf ue eq2 wq aw qk b32 b3f hWl g0 g1 afl;go_loopw [46] (λi wr=>∃k:Nat,k<=l.length/\i=.int .i64 k/\wr.cell? ⟨w.heap.size,0,none⟩=some (.int .i64 l.length)/\wr.cell? ⟨w.heap.size,1,none⟩=some (.int .i64 W)/\wr.cell? ⟨w.heap.size,2,none⟩=some (.slice (some ⟨w.heap.size+1,0,none⟩) q q)/\aV wr (w.heap.size+1) 144 1 kS (.slice (some ⟨w.heap.size+1,0,none⟩) q q) (eY (l.take k) W q)/\Grows w wr) (λi _=>l.length-(intOf i).toNat)
   case atStart=>exact⟨0,Az _,rfl,e0,e1,e2,cu,bj⟩
   case round =>
    obtain⟨k,hk,rfl,d0,d1,d2,aa,hg⟩:=hrel;by_cases ae:k<l.length
    ·obtain⟨x,hx⟩:∃x,l[k]?=some x:=⟨_,Ai ae⟩
     obtain⟨b,o,rfl,hc⟩:=at1 HAT.out (aH ae);have jp:=hg.cell (hc k x hx);have cy:(k:Int)<l.length:=by omega
     by_cases b9:W=0
     ·have HO:Hid (aV wr (w.heap.size+1) 144 1 kS (.slice (some ⟨w.heap.size+1,0,none⟩) q q) (eY (l.take (k+1)) W q)):=by
       show aV _ _ _ _ _ _ _
       rw[bN hx];have h1:=aa;rw[b9]at h1 ⊢
       rw[oZ0 (l:=l.take k) (v:=x) (λn hn=>by
        rw[<-bN hx]at hn;have h2:=bP1 (List.mem_of_mem_take hn);rwa [<-HW.out,b9]at h2)]
       exact h1
      have C0:=dV1 w.heap.size k x wr (by rw[d1,b9];rfl);clear hc hx b9;go_wp2_with fail
      refine C0.mono ?_;rintro e w5 ⟨rfl,rfl⟩;go_wp2_with fail
      go_roundw
      case rel=>exact⟨k+1,ae,by go_num,d0,d1,d2,HO.out,hg⟩
      case measure=>simp[intOf];omega
     ·have ic:(k+1)*W<=64*q:=Nat.le_trans (Ba W (show k+1<=l.length by omega)) HQM.out
      have CS:=jQ1 w.heap.size (w.heap.size+1) q W x k (w.heap.size+1) (l.take k) wr (by omega) gl (by rw[At];omega) (by omega) (by rw[HW.out];exact bP1 (Ao hx)) ic y8 d1 d2 (Aj _) aa;rw[<-bN hx]at CS;clear hc hx ic;go_wp2_with fail
      refine CS.mono ?_;rintro e w5 ⟨rfl,ak,dh⟩;go_wp2_with fail
      go_roundw
      case rel=>exact⟨k+1,ae,by go_num,by rw[Below.cell dh.1 (Aj _)];exact d0,by rw[Below.cell dh.1 (Aj _)];exact d1,by rw[Below.cell dh.1 (Aj _)];exact d2,ak,Below.trans hg (Below.mono dh.1 (Nat.le_succ _))⟩
      case measure=>simp[intOf];omega
    ·have cy:¬(k:Int)<l.length:=by omega
     have jo:k=l.length:=by omega
     have HP:Hid (lE wr w.heap.size l):=by
      refine⟨d0,by rw[<-HW.out];exact d1,w.heap.size+1,Aj _,?_,?_⟩
      ·rw[<-HW.out,<-HQ.out];exact d2
      ·rw[<-HW.out,<-HQ.out]
       rw[jo,Bj]at aa;exact aa
     clear jo;go_wp2_with fail
     refine bodyPost_ret (v:=.tuple #[.pointer (some ⟨w.heap.size,0,none⟩),.int .i64 0]) (by simp[results,Tryz.results87,go_sem]) rfl ⟨rfl,HP.out,hg⟩
theorem wT0 (n w:Nat) (hw:w<=64):(#[Value.int .u8 (IntKind.u8.wrap (n:Int)),.int .u8 (IntKind.u8.wrap ((n:Int)/256)),.int .u8 (IntKind.u8.wrap ((n:Int)/65536)),.int .u8 (IntKind.u8.wrap ((n:Int)/16777216)),.int .u8 (IntKind.u8.wrap (w:Int))]:Array Value).toList=(leB 4 n++[Al w]).flatMap aX:=by
 have h:=yK0 n w hw;rw[Ap,Ap,Ap,Ap,Ap,show (w:Int)%256=w by omega]
 exact h
def yG (l:List Nat) (k:Nat):List UInt8:=(Bs k).map λj=>Al (fX (bitAt l (pF l)) (8*j) 8)
theorem qC0 (l:List Nat) (k:Nat):yG l (k+1)=yG l k++[Al (iG l (pF l) (k/8)>>>(k%8*8))]:=by
 unfold yG;rw[List.range_succ,List.map_append];simp only[List.map_cons,List.map_nil];rw[<-wH0 l (pF l) k,dC0]
theorem vE0 (l:List Nat) (k:Nat):(yG l k).length=k:=by simp[yG]
theorem gA0 (l:List Nat) (pb:Nat) (w:World) (hl:l.length<=1048576) (hn:∀n∈l,n<18446744073709551616) (ac:lE w pb l) :
  Calls Tryz.prog 95 #[.pointer (some ⟨pb,0,none⟩)] w λe w'=>∃v,e=.returned v/\aV w' w.heap.size 5 1 aX v (packE l)/\Grows w w':=by
 have gl:pF l<=64:=oY.2 hn;have c0:=ac.c0;have c1:=ac.c1;obtain⟨wb,hpw,c2,aa⟩:=ac.c2;obtain⟨W,hWe⟩:=exq (pF l);obtain⟨n,ai⟩:=exq l.length;rw[<-hWe]at gl c1 c2 aa;rw[<-ai]at hl c0 c2 aa;obtain⟨q,hq⟩:=exq ((n*W+63)/64);rw[<-hq]at c2 aa;have HW:=Ad hWe;have HNE:=Ad ai;have HOWN:=Ad aa;have HH:=Ad (wT0 n W gl);obtain⟨M,hM⟩:=exq (n*W);have ze:M<=1048576*64:=by rw[hM];exact Av hl gl
 obtain⟨T,hT⟩:=exq ((M+7)/8);have hTq:T<=8*q:=by rw[hT,hq,<-hM];omega
 have hTb:T<=8388609:=by omega
 have HTE:Hid (T=(l.length*pF l+7)/8):=by show _=_;rw[hT,hM,HNE.out,HW.out]
 have wM:IntKind.i64.wrap ((n:Int)*W)=M:=by
  have h1:(n:Int)*W=M:=by rw[hM];push_cast;rfl
  rw[h1];simp[Ab,Ac,Aa];omega
 have zf:IntKind.i64.wrap ((M:Int)+7)=(M:Int)+7:=by simp[Ab,Ac,Aa];omega
 have ue:((M:Int)+7)/8=T:=by omega
 have eq2:((M:Int)+7).tdiv 8=T:=by rw[Aw (by omega)];exact ue
 have wT:IntKind.i64.wrap (T:Int)=T:=by simp[Ab,Ac,Aa];omega
 have HWM:=Ad wM;have HWM2:=Ad zf;have HE1:=Ad ue;have HE2:=Ad eq2;have HWT:=Ad wT;have HL:=Ad hl;have z0:∀y:Ext Grows w.drew,y.u.cell? ⟨pb,0,none⟩=some (.int .i64 n):=aB ((Grows.drew w).cell c0);have z1:∀y:Ext Grows w.drew,y.u.cell? ⟨pb,1,none⟩=some (.int .i64 W):=aB ((Grows.drew w).cell c1);clear hn ac hWe ai hM hT aa wM zf ue eq2 wT hl ze hpw hq;go_enter Tryz.func95,Tryz.ntmps95
 go_wp2_with fail
 refine bE (aU 30 [28,29]) (by kernel_rfl) (λd _ _ _ _ h=>by cases d<;>exact h) ?_
 iterate 28 (refine aG rfl (λK hK=>?_);go_simp;refine hK _ ?_;clear hK K)
 refine aZ rfl rfl (λK hK=>?_);go_simp;refine⟨Grows.alloc _ _,hK _ _ ?_⟩;clear hK K z0 z1;iterate 1 (refine aZ rfl rfl (λK hK=>?_);go_simp;refine⟨Grows.refl _,hK _ _ ?_⟩;clear hK K)
 refine bH ?_;have nr:=(jJ (enc:=aX) (e:=5) (w:=w) (base:=w.heap.size) (λ_=>rfl) (Ak _) (leB 4 n++[Al W]) HH.out (n:=5) (by simp[bM]) (by decide)).grows (Grows.drew _);obtain⟨w1,hw1⟩:=exq ((w.alloc (.cells #[.int .u8 (IntKind.u8.wrap (n:Int)),.int .u8 (IntKind.u8.wrap ((n:Int)/256)),.int .u8 (IntKind.u8.wrap ((n:Int)/65536)),.int .u8 (IntKind.u8.wrap ((n:Int)/16777216)),.int .u8 (IntKind.u8.wrap (W:Int))] 5)).drew);have ag:Grows w w1:=by rw[hw1];exact(Grows.alloc _ _).dr
 rw[<-hw1]at nr ⊢;clear hw1 HH;generalize IntKind.u8.wrap (n:Int)=y1;generalize IntKind.u8.wrap ((n:Int)/256)=y2;generalize IntKind.u8.wrap ((n:Int)/65536)=y3;generalize IntKind.u8.wrap ((n:Int)/16777216)=y4;generalize IntKind.u8.wrap (W:Int)=y5;go_wp2_with fail
 have wM:=HWM.out;have zf:=HWM2.out;have ue:=HE1.out;have eq2:=HE2.out;have wT:=HWT.out;have z0:∀y:Ext Grows w1.drew,y.u.cell? ⟨pb,0,none⟩=some (.int .i64 n):=aB (ag.dr.cell c0);have z1:∀y:Ext Grows w1.drew,y.u.cell? ⟨pb,1,none⟩=some (.int .i64 W):=aB (ag.dr.cell c1);refine bE (aU 12 []) (by kernel_rfl) (λd _ _ _ _ h=>by cases d<;>exact h) ?_
 iterate 12 (refine aG rfl (λK hK=>?_);go_simp;refine hK _ ?_;clear hK K)
 refine bH ?_;clear z0 z1 wM zf ue eq2 wT;go_wp2_with fail
 go_loopw [3,47] (λout i wr=>∃(k:Nat) (cd:List UInt8),k<=T/\i=.int .i64 k/\Hid (cd=leB 4 n++[Al W]++yG l k)/\aV wr w.heap.size 5 1 aX out cd/\Grows w wr) (λ_ i _=>T-(intOf i).toNat)
 case atStart=>exact⟨0,_,Az _,rfl,(by show _=_;simp[yG]),nr.grows (Grows.drew _),ag.dr⟩
 case round =>
  obtain⟨k,cd,hk,rfl,cr,aa,hg⟩:=hrel;by_cases ae:k<T
  ·have cy:(k:Int)<T:=by omega
   obtain⟨J,hJ⟩:=exq (k/8);obtain⟨R,hR⟩:=exq (k%8*8);have hJq:J<q:=by omega
   have hRb:R<=56:=by omega
   have eJ:(k:Int)/8=J:=by omega
   have eR:(k:Int)%8*8=R:=by omega
   have wR:IntKind.u64.wrap (R:Int)=R:=by simp[Ab,Ac,Aa];omega
   obtain⟨x,hx⟩:=exq (iG l W J);have jp:wr.cell? ⟨wb,J,none⟩=some (.int .u64 x):=hg.cell (cU (f:=λn:Nat=>Value.int .u64 n) HOWN.out (by rw[fV hJq,hx]));have c2r:=hg.cell c2
   have HN:Hid (cd++[Al (x>>>R)]=leB 4 n++[Al W]++yG l (k+1)):=by
    show _=_
    rw[qC0,<-HW.out,<-hJ,<-hR,<-hx,cr.out,Bi]
   have HB:Hid ([Value.int .u8 ((x:Int)/2^R%256)]=aX (Al (x>>>R))):=by
    show _=_
    rw[bH0];exact nI0 _
   have om:cd.length<=5+k:=by rw[cr.out,Be,vE0];simp[bM]<;>omega
   have hJi:(J:Int)<q:=by omega
   clear hJ hR hx cr;go_wp2_with (at_builtin;refine xG bI rfl _ _ rfl w.heap.size _ cd (Al (x>>>R)) rfl aa (Grows.refl _) _ 1 rfl _ (by exact HB.out) rfl (by omega) hg.size ?_;intro v' w5 ak bg)
   go_roundw
   case rel=>exact⟨k+1,_,ae,by go_num,HN.out,ak,bg w hg (Ak _)⟩
   case measure=>simp[intOf];omega
  ·have cy:¬(k:Int)<T:=by omega
   have HF:Hid (cd=packE l):=by
    show _=_
    have hkT:k=T:=by omega
    rw[cr.out,hkT,HTE.out,HNE.out,HW.out];rfl
   clear cr;go_wp2_with fail
   go_ret;exact⟨_,rfl,by rw[<-HF.out];exact aa,hg⟩
def mU {α:Type} (l:List α) (z:α) (k:Nat):List α:=l.take k++An (l.length-k) z
theorem nC {α:Type} (l:List α) (z:α) {k:Nat} (h:k<=l.length):(mU l z k).length=l.length:=by
 unfold mU;rw[Be,At,List.length_replicate];omega
theorem rI {α:Type} (l:List α) (z:α):mU l z 0=An l.length z:=by simp[mU]
theorem uP {α:Type} (l:List α) (z:α):mU l z l.length=l:=by simp[mU]
theorem uY {α:Type} {l:List α} {z x:α} {k:Nat} (h:l[k]?=some x):(mU l z k).set k x=mU l z (k+1):=by
 have hk:k<l.length:=(List.getElem?_eq_some_iff.1 h).1;unfold mU;rw[List.set_append_right _ _ (by rw[At];omega),bN h,Bi];congr 1
 rw[show k-(l.take k).length=0 by rw[At];omega,show l.length-k=(l.length-(k+1))+1 by omega,List.replicate_succ]
 rfl
theorem oP (l:List Nat) (a:Option Addr) (c:Nat) (w:World) (hl:l.length<=1048576) (hn:∀n∈l,n<9223372036854775808) (ac:aF w a 1 (l.map kG)) :
  Calls Tryz.prog 48 #[.slice a l.length c] w λe w'=>∃v,e=.returned v/\aV w' w.heap.size 5 1 aX v (packE l)/\Grows w w':=by
 have HAT:=Ad ac;have HN:=Ad hn;have ke:=λ(Y:World)=>pL1 l.length Y hl;have CP:=λ(W:World) (q c:Nat) (h:aF W (some ⟨q,0,none⟩) 1 (l.map kS))=>Ad (hJ0 l (some ⟨q,0,none⟩) c W hl (λn hn'=>by have:=hn n hn';omega) h);have CE:=λ(W:World) (q:Nat) (h:lE W q l)=>Ad (gA0 l q W hl (λn hn'=>by have:=hn n hn';omega) h);clear ac hn;go_enter Tryz.func48,Tryz.ntmps48
 go_wp2_with fail
 have bk:=lE0 (w:=w) (n:=l.length) hl;rw[Bk,<-rI l 0]at bk;obtain⟨W1,bi⟩:=exq (w.alloc (.cells (madeCells #[.int .u64 0] l.length) 144));have fp:Grows w W1:=by rw[bi];exact Grows.alloc _ _
 rw[<-bi]at bk ⊢;clear bi;go_loopw [13] (λi wr=>∃(k:Nat),k<=l.length/\i=.int .i64 k/\aV wr w.heap.size 144 1 kS (.slice (some ⟨w.heap.size,0,none⟩) l.length l.length) (mU l 0 k)/\Grows w wr) (λi _=>l.length-(intOf i).toNat)
 case atStart=>exact⟨0,Az _,rfl,bk,fp⟩
 case round =>
  clear bk fp;obtain⟨k,hk,rfl,aa,hg⟩:=hrel;by_cases ae:k<l.length
  ·obtain⟨x,hx⟩:∃x,l[k]?=some x:=⟨_,Ai ae⟩
   obtain⟨b,o,rfl,hc⟩:=at1 (HAT.out.grows hg) (aH ae);have jp:=hc k x hx;have aj6:=HN.out x (Ao hx);have wx:IntKind.u64.wrap (x:Int)=x:=by simp[Ab,Ac,Aa];omega
   have ql:=nC l 0 hk;obtain⟨y,hy⟩:∃y,(mU l 0 k)[k]?=some y:=⟨_,Ai (by omega)⟩;have e1:=cU (f:=λn:Nat=>Value.int .u64 n) aa hy;obtain⟨f1,_,az⟩:=eC (f:=λn:Nat=>Value.int .u64 n) aa (k:=k) (by omega) x;rw[uY hx]at az;have HO:=Ad az;clear hc hx hy aa az ql;go_wp2_with fail
   go_roundw
   case rel=>exact⟨k+1,by omega,by go_num,HO.out,hg.set (Ak _) _⟩
   case measure=>simp[intOf];omega
  ·obtain rfl:k=l.length:=by omega
   rw[uP]at aa;obtain⟨a1,c1,e1,_,_,da⟩:=aa.at_ (k:=1) (λx=>(rfl:(kS x).length=1));have e2:=(Value.slice.inj e1).1;subst e2;have CP1:=CP wr w.heap.size l.length da;clear CP e1 da aa;go_wp2_with fail
   refine CP1.out.mono ?_;rintro e w2 ⟨rfl,hp,af⟩;have CE1:=CE w2 wr.heap.size hp;clear CE CP1 hp;have af:=Grows.trans _ _ _ hg af;go_wp2_with fail
   refine CE1.out.mono ?_;rintro e w3 ⟨v,rfl,hv,aw⟩;go_wp2_with fail
   go_ret;exact⟨v,rfl,hv.base af.size,Grows.trans _ _ _ af aw⟩
theorem wZ (l:List Nat) (W Q t:Nat) (ht:t<64):(iG l W Q).testBit t=bitAt l W (64*Q+t):=by
 unfold iG;rw[dU];simp[ht]
theorem fV1 {l:List Nat} {W i x Q S:Nat} (hx:l[i]?=some x) (xu:x<2^W) (hQ:i*W=64*Q+S) (ic:S+W<=64):(iG l W Q>>>S)&&&(2^W-1)=x:=by
 apply Bb
 intro t;rw[Bl,Au,Ay];by_cases ht:t<W
 ·rw[wZ _ _ _ _ (by omega),<-Br,<-hQ,gI0 hx ht]
  simp[ht]
 ·simp only[ht,decide_false,Bo]
  exact(As (Aq xu (Ah (by decide) (by omega)))).symm
theorem jV1 {l:List Nat} {W i x Q S:Nat} (hx:l[i]?=some x) (xu:x<2^W) (hQ:i*W=64*Q+S) (hS:S<64) (hW:W<=64) (ic:64<S+W) :
  ((iG l W Q>>>S)|||(iG l W (Q+1)<<<(64-S))%18446744073709551616)&&&(2^W-1)=x:=by
 apply Bb
 intro t;rw[Bl,Au,Nat.testBit_or,Ay];by_cases ht:t<W
 ·rw[jE0 (by omega)]
  by_cases h1:S+t<64
  ·rw[wZ _ _ _ _ h1,<-Br,<-hQ,gI0 hx ht]
   simp[ht,show ¬64-S<=t by omega]
  ·rw[show (iG l W Q).testBit (S+t)=false by
    apply As
    exact Aq (oG l W Q) (Ah (n:=2) (by decide) (show 64<=S+t by omega))]
   rw[wZ _ _ _ _ (by omega),show 64*(Q+1)+(t-(64-S))=i*W+t by omega,gI0 hx ht]
   simp[ht,show 64-S<=t by omega]
 ·simp only[ht,decide_false,Bo]
  exact(As (Aq xu (Ah (by decide) (by omega)))).symm
theorem fQ1 {W:Nat} (hW:W<=64):IntKind.u64.wrap (IntKind.u64.wrap (2^W)-1)=((2^W-1:Nat):Int):=by
 have h:∀V:Fin 65,IntKind.u64.wrap (IntKind.u64.wrap (2^V.val)-1)=((2^V.val-1:Nat):Int):=by decide +kernel
 exact h ⟨W,by omega⟩
theorem yH0 (pb wb q W i x base:Nat) (l:List Nat) (w:World) (hW:W<=64) (fo:l.length<=1048576) (hx:l[i]?=some x) (xu:x<2^W) (hq:l.length*W<=64*q)
  (c1:w.cell? ⟨pb,1,none⟩=some (.int .i64 W)) (c2:w.cell? ⟨pb,2,none⟩=some (.slice (some ⟨wb,0,none⟩) q q)) (aa:aV w base 144 1 kS (.slice (some ⟨wb,0,none⟩) q q) (eY l W q)) :
  Calls Tryz.prog 167 #[.pointer (some ⟨pb,0,none⟩),.int .i64 i] w λe w'=>e=.returned (.int .u64 x)/\(w'=w\/w'=w.drew):=by
 have ri:=(List.getElem?_eq_some_iff.1 hx).1;by_cases b9:W=0
 ·have ld:x=0:=by rw[b9]at xu;simpa using xu
  subst ld;subst b9;clear aa;go_enter Tryz.func167,Tryz.ntmps167
  go_wp2_with fail
  go_ret;exact⟨rfl,Or.inl rfl⟩
 ·have fw:(W:Int)≠0:=by omega
  obtain⟨M,hM⟩:=exq (i*W)
  have hMq:M+W<=64*q:=by
   have h1:(i+1)*W<=l.length*W:=Ba _ (by omega);rw[Nat.add_mul]at h1;omega
  have aj7:M<=1048576*64:=by rw[hM];exact Av (by omega) hW
  obtain⟨Q,hQ⟩:=exq (M/64);obtain⟨S,hS⟩:=exq (M%64);have hQS:i*W=64*Q+S:=by rw[<-hM];omega
  have ow:S<64:=by omega
  have vo:Q<q:=by omega
  have wM:IntKind.i64.wrap ((i:Int)*W)=M:=by
   have h1:(i:Int)*W=M:=by rw[hM];push_cast;rfl
   rw[h1];simp[Ab,Ac,Aa];omega
  have eQ:(M:Int)/64=Q:=by omega
  have eS:(M:Int)%64=S:=by omega
  obtain⟨y,hy⟩:=exq (iG l W Q);have lu:y<18446744073709551616:=by rw[hy];exact oG l W Q
  have d1:w.drew.cell? ⟨wb,Q,none⟩=some (.int .u64 y):=(Grows.drew w).cell (cU (f:=λn:Nat=>Value.int .u64 n) aa (by rw[fV vo,hy]));have z1:∀y:Ext Grows w.drew,y.u.cell? ⟨pb,1,none⟩=some (.int .i64 W):=aB ((Grows.drew w).cell c1);have hQi:(Q:Int)<q:=by omega
  have g1:w.drew.cell? ⟨pb,1,none⟩=some (.int .i64 W):=(Grows.drew w).cell c1;have g2:w.drew.cell? ⟨pb,2,none⟩=some (.slice (some ⟨wb,0,none⟩) q q):=(Grows.drew w).cell c2;have aic:IntKind.i64.wrap ((S:Int)+W)=(S:Int)+W:=by simp[Ab,Ac,Aa];omega
  have ke:=fQ1 hW
  have uz:2^W-1<18446744073709551616:=by
   have:2^W<=2^64:=Ah (by decide) hW
   have e:(2:Nat)^64=18446744073709551616:=by decide
   omega
  obtain⟨v0,hv0⟩:=exq (y>>>S);have hsh:(y:Int)/2^S=(v0:Nat):=by rw[hv0];exact bH0 y S
  have zg:v0<18446744073709551616:=by rw[hv0];exact Bd (Nat.shiftRight_le _ _) lu
  by_cases lr:S+W<=64
  ·have hsw:¬(64:Int)<(S:Int)+W:=by omega
   have hand:bits .and .u64 (v0:Int) ((2^W-1:Nat):Int)=(x:Int):=by
    rw[u64_and_nat _ _ zg uz,hv0,hy,fV1 hx xu hQS lr]
   obtain⟨MK,hMK⟩:=exq (2^W-1);rw[<-hMK]at hand ke;clear hM hQ hS hQS hy aa hMq hx xu hv0 hMK;go_enter Tryz.func167,Tryz.ntmps167
   go_wp2_with fail
   refine bE (aU 17 []) (by kernel_rfl) (λd _ _ _ _ h=>by cases d<;>exact h) ?_
   iterate 17 (refine aG rfl (λK hK=>?_);go_simp;refine hK _ ?_;clear hK K)
   refine bH ?_;clear z1;go_wp2_with fail
   go_ret;exact⟨rfl,Or.inr rfl⟩
  ·have lr:64<S+W:=by omega
   have hsw:(64:Int)<(S:Int)+W:=by omega
   have hQ1:Q+1<q:=by omega
   have aid:(Q:Int)+1<q:=by omega
   obtain⟨y1,mu⟩:=exq (iG l W (Q+1));have ajt:y1<18446744073709551616:=by rw[mu];exact oG l W _
   have d2:w.drew.cell? ⟨wb,Q+1,none⟩=some (.int .u64 y1):=(Grows.drew w).cell (cU (f:=λn:Nat=>Value.int .u64 n) aa (by rw[fV hQ1,mu]));have hor:=jQ0 (v:=y1) (S:=64-S) zg;obtain⟨v1,fy⟩:=exq (v0|||(y1<<<(64-S))%18446744073709551616)
   rw[<-fy]at hor;have aey:v1<18446744073709551616:=by rw[fy];exact Bh (n:=64) zg (Bt _ (by decide))
   have hT:(64:Int)-S=((64-S:Nat):Int):=by omega
   have hTw:IntKind.u64.wrap ((64-S:Nat):Int)=((64-S:Nat):Int):=by simp[Ab,Ac,Aa];omega
   have hand:bits .and .u64 (v1:Int) ((2^W-1:Nat):Int)=(x:Int):=by
    rw[u64_and_nat _ _ aey uz,fy,hv0,hy,mu,jV1 hx xu hQS ow hW lr]
   obtain⟨MK,hMK⟩:=exq (2^W-1);rw[<-hMK]at hand ke;clear hM hQ hS hQS hy aa hMq hx xu hv0 hMK mu fy;go_enter Tryz.func167,Tryz.ntmps167
   go_wp2_with fail
   refine bE (aU 17 []) (by kernel_rfl) (λd _ _ _ _ h=>by cases d<;>exact h) ?_
   iterate 17 (refine aG rfl (λK hK=>?_);go_simp;refine hK _ ?_;clear hK K)
   refine bH ?_;clear z1;go_wp2_with fail
   go_ret;exact⟨rfl,Or.inr rfl⟩
theorem sY0 (pb wb q W i x base:Nat) (l:List Nat) (w:World) (hW:W<=64) (fo:l.length<=1048576) (hx:l[i]?=some x) (xu:x<2^W) (hq:l.length*W<=64*q)
 (c1:w.cell? ⟨pb,1,none⟩=some (.int .i64 W)) (c2:w.cell? ⟨pb,2,none⟩=some (.slice (some ⟨wb,0,none⟩) q q)) (aa:aV w base 144 1 kS (.slice (some ⟨wb,0,none⟩) q q) (eY l W q)) :
 Calls Tryz.prog 167 #[.pointer (some ⟨pb,0,none⟩),.int .i64 i] w λe w'=>e=.returned (.int .u64 x)/\Grows w w':=(yH0 pb wb q W i x base l w hW fo hx xu hq c1 c2 aa).mono λe w' ⟨h1,h2⟩=>⟨h1,by rcases h2 with rfl|rfl<;>first|exact Grows.refl _|exact Grows.drew _⟩
theorem rA {l:List Nat} {x:Nat} (h:x∈l):x<2^pF l:=oY.1 (Ak _) x h
theorem gX (l:List Nat) (pb:Nat) (w:World) (ac:lE w pb l):Calls Tryz.prog 62 #[.pointer (some ⟨pb,0,none⟩)] w λe w'=>e=.returned (.int .i64 (l.length:Nat))/\w=w':=by
 have c0:=ac.c0;go_enter Tryz.func62,Tryz.ntmps62
 go_wp2_with fail
 go_ret;exact⟨rfl,rfl⟩
theorem uZ (l:List Nat) (pb i x:Nat) (w:World) (ac:lE w pb l) (hl:l.length<=1048576) (hn:∀n∈l,n<18446744073709551616) (hx:l[i]?=some x):Calls Tryz.prog 118 #[.pointer (some ⟨pb,0,none⟩),.int .i64 i] w λe w'=>e=.returned (.tuple #[.int .u64 x,.bool true])/\Grows w w':=by
 obtain⟨wb,h1,h2,h3⟩:=ac.c2;have ri:=(List.getElem?_eq_some_iff.1 hx).1;have CG:=Ad (sY0 pb wb ((l.length*pF l+63)/64) (pF l) i x wb l w (oY.2 hn) hl hx (rA (Ao hx)) (by omega) ac.c1 h2 h3);have CL:=Ad (gX l pb w ac);have h0:¬(i:Int)<0:=by omega
 have hi:(i:Int)<l.length:=by omega
 clear ac h2 h3 hx;go_enter Tryz.func118,Tryz.ntmps118
 go_wp2_with fail
 refine CL.out.mono ?_;rintro e w1 ⟨rfl,rfl⟩;go_wp2_with fail
 refine CG.out.mono ?_;rintro e w2 ⟨rfl,af⟩;go_wp2
 go_ret2;exact⟨rfl,af⟩
end
end Go.Proofs.YtheiocndipepaaaGreatDoor
