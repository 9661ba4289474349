/- The texts Pk PkN PkE Bnum PkG, one behind the other. -/
import Derived.Test.YtcijgkfpobpdbaaGreatDoorBq21
import Derived.Test.YtcijgkfpobpdbaaGreatDoorShelf
import Derived.Laws.OwnMore
import Derived.OwnWalk
import Derived.Laws.MakeOwn
import Derived.Laws.BitsAllLaws
open Go.IntKind renaming signed → Aa,wrap → Ab,bits → Ac,wrap_u8' → Ap
open Go.Lib renaming hid → Ad,bitLenAux → Bq
open List renaming getElem?_eq_none → Ae,length_set → Ag,getElem?_eq_getElem → Ai,getElem?_set_ne → Am,replicate → An,mem_of_getElem? → Ao,getElem?_set_self → Ar,length_take → At,ext_getElem? → Ax,getElem?_range → Bc,length_append → Be,getElem?_map → Bf,append_assoc → Bi,take_length → Bj,range → Bs
open Go.World renaming cell?_setCell_other → Af,frozen? → Bp
open Nat renaming pow_le_pow_right → Ah,lt_succ_self → Aj,le_refl → Ak,lt_of_lt_of_le → Aq,testBit_lt_two_pow → As,testBit_two_pow_sub_one → Au,mul_le_mul → Av,testBit_shiftRight → Ay,zero_le → Az,mul_le_mul_right → Ba,eq_of_testBit_eq → Bb,lt_of_le_of_lt → Bd,or_lt_two_pow → Bh,mul_one → Bk,testBit_and → Bl,add_assoc → Br,mod_lt → Bt
open UInt8 renaming ofNat → Al
open Int renaming tdiv_eq_ediv_of_nonneg → Aw,toNat_natCast → Bg
open Go.Addr renaming block → Bn
open Bool renaming and_false → Bo
set_option maxHeartbeats 8000000
namespace Go.Proofs.YtcijgkfpobpdbaaGreatDoor
set_option maxRecDepth 100000
section
open Go Go.RowKit
attribute [local go_sem] aQ aM
theorem oJ {α:Type} (f:α->Value) (xs:List α):xs.flatMap (λx=>[f x])=xs.map f:=by
 induction xs with
 | nil=>rfl
 | cons x xs ih=>rw[List.flatMap_cons,ih];rfl
theorem eU {α:Type} {f:α->Value} {w:World} {base g n c k:Nat} {e:TypeId} {xs:List α} (h:aU w base e 1 (λx=>[f x]) (.slice (some ⟨g,0,none⟩) n c) xs) (hk:k<xs.length) (y:α) :
  w.frozen? ⟨g,k,none⟩=false/\base<=g/\aU (w.setCell ⟨g,k,none⟩ (f y)) base e 1 (λx=>[f x]) (.slice (some ⟨g,0,none⟩) n c) (xs.set k y):=by
 rcases h.2 with ⟨h1,_⟩|⟨g',cap,da,hv,hb,hh,hn,hc,hs,ht⟩
 ·cases h1
 ·have e1:=(Value.slice.inj hv).1
  have e2:=(Value.slice.inj hv).2.1;obtain rfl:g=g':=congrArg Bn (Option.some.inj e1);have hkc:k<da.size:=by omega
  refine⟨by simp[Bp,hh],hb,?_⟩;have hl:(xs.set k y).length=xs.length:=Ag
  have hf:(xs.set k y).flatMap (λx=>[f x])=(xs.flatMap (λx=>[f x])).set k (f y):=by
   rw[oJ,oJ,List.map_set]
  unfold aU;rw[hl];refine⟨by rw[hf,Ag];exact h.1,Or.inr ⟨g,cap,da.setIfInBounds k (f y),hv,hb,heap_setCell_same w g k da _ _ hh,hn,hc,by simpa using hs,?_⟩⟩;rw[hf,<-ht,Array.toList_setIfInBounds,List.take_set]
theorem cX {α:Type} {f:α->Value} {w:World} {base g n c k:Nat} {e:TypeId} {xs:List α} {x:α} (h:aU w base e 1 (λx=>[f x]) (.slice (some ⟨g,0,none⟩) n c) xs) (hx:xs[k]?=some x):w.cell? ⟨g,k,none⟩=some (f x):=by
 obtain⟨a,c2,he,_,_,ac⟩:=aU.at_ (enc:=λx=>[f x]) (λ_=>rfl) h;simp only[Value.slice.injEq]at he;rw[<-he.1]at ac;obtain⟨b1,o1,he1,bz⟩:=at1 (f:=f) ac (aH (List.getElem?_eq_some_iff.1 hx).1);obtain⟨rfl,rfl⟩:g=b1/\0=o1:=by simpa using he1
 have:=bz k x hx
 rwa [Nat.zero_add]at this
def eK (l:List Nat) (W q:Nat):List Nat:=(Bs q).map (iA l W)
theorem fJ (l:List Nat) (W q:Nat):(eK l W q).length=q:=by simp[eK]
theorem fI {l:List Nat} {W q k:Nat} (h:k<q):(eK l W q)[k]?=some (iA l W k):=by
 unfold eK;rw[Bf,Bc h];rfl
theorem rZ0 {l:List Nat} {W v q Q S:Nat} (hW:0<W) (fw:W<=64) (hv:v<2^W) (hS:S<64) (hQ:l.length*W=64*Q+S) (gl:S+W<=64):eK (l++[v]) W q=(eK l W q).set Q (iA l W Q|||(v<<<S)%18446744073709551616):=by
 apply Ax
 intro k;by_cases hk:k<q
 ·rw[fI hk]
  by_cases xh:k=Q
  ·subst xh
   rw[Ar (by rw[fJ];exact hk),jB0 hW hv hQ]
  ·rw[Am (Ne.symm xh),fI hk,eB0 hW hv hS hQ xh (λ_=>gl) fw]
 ·rw[Ae (by rw[fJ];omega),Ae (by rw[Ag,fJ];omega)]
theorem vB0 {l:List Nat} {W v q Q S:Nat} (hW:0<W) (fw:W<=64) (hv:v<2^W) (hS:S<64) (hQ:l.length*W=64*Q+S) (_:64<S+W) (zz:Q+1<q) :
  eK (l++[v]) W q=((eK l W q).set Q (iA l W Q|||(v<<<S)%18446744073709551616)).set (Q+1) (iA l W (Q+1)|||v>>>(64-S)):=by
 apply Ax
 intro k;by_cases hk:k<q
 ·rw[fI hk]
  by_cases acw:k=Q+1
  ·subst acw
   rw[Ar (by rw[Ag,fJ];exact hk),uM0 hW hv fw hS hQ]
  ·rw[Am (Ne.symm acw)]
   by_cases xh:k=Q
   ·subst xh
    rw[Ar (by rw[fJ];exact hk),jB0 hW hv hQ]
   ·rw[Am (Ne.symm xh),fI hk,eB0 hW hv hS hQ xh (λh=>absurd h acw) fw]
 ·rw[Ae (by rw[fJ];omega),Ae (by rw[Ag,Ag,fJ];omega)]
theorem jV0 {x v S:Nat} (hx:x<18446744073709551616):bits .or .u64 (x:Int) (IntKind.u64.wrap ((v:Int)*2^S))=((x|||(v<<<S)%18446744073709551616:Nat):Int):=by
 have h1:IntKind.u64.wrap ((v:Int)*2^S)=((v<<<S%18446744073709551616:Nat):Int):=by
  rw[Nat.shiftLeft_eq,show (v:Int)*2^S=((v*2^S:Nat):Int) by push_cast;rfl]
  generalize v*2^S=N;simp[Ab,Ac,Aa]
 rw[h1];exact u64_or_nat x _ hx (Bt _ (by decide))
theorem mT1 {x v T:Nat} (hx:x<18446744073709551616) (hv:v<18446744073709551616):bits .or .u64 (x:Int) ((v:Int)/2^T)=((x|||v>>>T:Nat):Int):=by
 rw[aZ0];exact u64_or_nat x _ hx (Bd (by rw[Nat.shiftRight_eq_div_pow];exact Nat.div_le_self _ _) hv)
theorem fZ1 (pb wb q W v i base:Nat) (pre:List Nat) (w:World) (bh:0<W) (hW:W<=64) (hi:i=pre.length) (fg:i<=1048576) (hv:v<2^W) (gl:(i+1)*W<=64*q) (hq:q<=1048576)
  (c1:w.cell? ⟨pb,1,none⟩=some (.int .i64 W)) (c2:w.cell? ⟨pb,2,none⟩=some (.slice (some ⟨wb,0,none⟩) q q)) (hpw:pb<wb) (aa:aU w base 164 1 kO (.slice (some ⟨wb,0,none⟩) q q) (eK pre W q)) :
  Calls Tryz.prog 210 #[.pointer (some ⟨pb,0,none⟩),.int .i64 i,.int .u64 v] w λe w'=>e=.returned (.tuple #[])/\aU w' base 164 1 kO (.slice (some ⟨wb,0,none⟩) q q) (eK (pre++[v]) W q)/\EB wb w w':=by
 obtain⟨M,hM⟩:=exq (i*W);obtain⟨Q,hQ⟩:=exq (M/64);obtain⟨S,hS⟩:=exq (M%64);have xj:M<=1048576*64:=by rw[hM];exact Av fg hW
 have hMq:M+W<=64*q:=by rw[hM];rw[Nat.succ_mul]at gl;exact gl
 have hQS:pre.length*W=64*Q+S:=by rw[<-hi,<-hM];omega
 have np:S<64:=by omega
 have ue:Q<q:=by omega
 have aeu:v<18446744073709551616:=Aq hv (Ah (n:=2) (by decide) hW)
 have wM:IntKind.i64.wrap ((i:Int)*W)=M:=by
  have h1:(i:Int)*W=M:=by rw[hM];push_cast;rfl
  rw[h1];simp[Ab,Ac,Aa];omega
 have eQ:(M:Int)/64=Q:=by omega
 have eS:(M:Int)%64=S:=by omega
 obtain⟨x,hx⟩:=exq (iA pre W Q);have j9:x<18446744073709551616:=by rw[hx];exact oC pre W Q
 have d1:w.cell? ⟨wb,Q,none⟩=some (.int .u64 x):=cX (f:=λn:Nat=>Value.int .u64 n) aa (by rw[fI ue,hx]);obtain⟨f1,_,ay⟩:=eU (f:=λn:Nat=>Value.int .u64 n) (aa.grows (Grows.drew w)) (k:=Q) (by rw[fJ];exact ue) (x|||(v<<<S)%18446744073709551616)
 have HWB:=Ad (Nat.le_of_lt (World.block_lt_of_cell? w _ d1));have hor:=jV0 (v:=v) (S:=S) j9;obtain⟨x1,gd⟩:=exq (x|||(v<<<S)%18446744073709551616)
 rw[<-gd]at hor ay;have aj:pb≠wb:=by omega
 have z1:∀y:Ext Grows w.drew,y.u.cell? ⟨pb,1,none⟩=some (.int .i64 W):=aB ((Grows.drew w).cell c1);have ga:(W:Int)≠0:=by omega
 have hQi:(Q:Int)<q:=by omega
 have g1:∀u,(w.drew.setCell ⟨wb,Q,none⟩ u).cell? ⟨pb,1,none⟩=some (.int .i64 W):=λu=>(Af _ _ _ _ (λh=>aj (congrArg Bn h).symm)).trans c1;have g2:∀u,(w.drew.setCell ⟨wb,Q,none⟩ u).cell? ⟨pb,2,none⟩=some (.slice (some ⟨wb,0,none⟩) q q):=λu=>(Af _ _ _ _ (λh=>aj (congrArg Bn h).symm)).trans c2;have ahd:IntKind.i64.wrap ((S:Int)+W)=(S:Int)+W:=by simp[Ab,Ac,Aa];omega
 by_cases kt:S+W<=64
 ·have hsw:¬(64:Int)<(S:Int)+W:=by omega
  have HF:Hid (eK (pre++[v]) W q=(eK pre W q).set Q x1):=by show _=_;rw[rZ0 bh hW hv np hQS kt,gd,hx]
  have HO:=Ad ay;clear hM hQ hS hQS hx gd ay aa gl hMq hi hv;go_enter Tryz.func210,Tryz.ntmps210
  go_wp2_with fail
  refine bF (aV 17 []) (by kernel_rfl) (λd _ _ _ _ h=>by cases d<;>exact h) ?_
  iterate 17 (refine aG rfl (λK hK=>?_);go_simp;refine hK _ ?_;clear hK K)
  refine bH ?_;clear z1;go_wp2_with fail
  refine bodyPost_end (v:=.tuple #[]) (by simp[results,Tryz.results210,go_sem]) rfl ⟨rfl,?_,?_⟩
  ·rw[HF.out]
   exact HO.out
  ·exact EB.trans _ _ _ _ (EB.of (Grows.drew w) HWB.out) ⟨(Below.refl wb w.drew).setCell (p:=⟨wb,Q,none⟩) (Ak wb) _,by simp⟩
 ·have kt:64<S+W:=by omega
  have hsw:(64:Int)<(S:Int)+W:=by omega
  have zz:Q+1<q:=by omega
  have ahe:(Q:Int)+1<q:=by omega
  obtain⟨y,hy⟩:=exq (iA pre W (Q+1));have ku:y<18446744073709551616:=by rw[hy];exact oC pre W _
  have hYg:((eK pre W q).set Q x1)[Q+1]?=some y:=by rw[Am (by omega),fI zz,hy]
  have e1:=cX (f:=λn:Nat=>Value.int .u64 n) aa (k:=Q+1) (x:=y) (by rw[fI zz,hy]);obtain⟨f3,_,_⟩:=eU (f:=λn:Nat=>Value.int .u64 n) aa (k:=Q+1) (by rw[fJ];exact zz) y;obtain⟨f2,_,ai⟩:=eU (f:=λn:Nat=>Value.int .u64 n) ay (k:=Q+1) (by rw[Ag,fJ];exact zz) (y|||v>>>(64-S))
  have ahf:=mT1 (x:=y) (v:=v) (T:=64-S) ku aeu;obtain⟨y1,l8⟩:=exq (y|||v>>>(64-S))
  rw[<-l8]at ahf ai;have hT:(64:Int)-S=((64-S:Nat):Int):=by omega
  have hTw:IntKind.u64.wrap ((64-S:Nat):Int)=((64-S:Nat):Int):=by simp[Ab,Ac,Aa];omega
  have HF:Hid (eK (pre++[v]) W q=((eK pre W q).set Q x1).set (Q+1) y1):=by show _=_;rw[vB0 bh hW hv np hQS kt zz,gd,hx,l8,hy]
  have HO:=Ad ai;clear hM hQ hS hQS hx gd ay aa gl hMq hi hv hy l8 ai hYg;go_enter Tryz.func210,Tryz.ntmps210
  go_wp2_with fail
  refine bF (aV 17 []) (by kernel_rfl) (λd _ _ _ _ h=>by cases d<;>exact h) ?_
  iterate 17 (refine aG rfl (λK hK=>?_);go_simp;refine hK _ ?_;clear hK K)
  refine bH ?_;clear z1;go_wp2_with fail
  refine bodyPost_end (v:=.tuple #[]) (by simp[results,Tryz.results210,go_sem]) rfl ⟨rfl,?_,?_⟩
  ·rw[HF.out]
   exact HO.out
  ·exact EB.trans _ _ _ _ (EB.of (Grows.drew w) HWB.out) ⟨((Below.refl wb w.drew).setCell (p:=⟨wb,Q,none⟩) (Ak wb) _).setCell (p:=⟨wb,Q+1,none⟩) (Ak wb) _,by simp⟩
theorem oH0 {x:Nat} (h:x≠0):bitLen x=1+bitLen (x/2):=by
 unfold bitLen;rw[if_neg h];by_cases h1:x=1
 ·subst h1;rfl
 ·rw[if_neg (by omega),Nat.log2_def,if_pos (by omega)]
  omega
theorem dE0:∀(f x:Nat),x<2^f->Bq f x=bitLen x
 | 0,x,h=>by
  obtain rfl:x=0:=by simpa using h
  rfl
 | f+1,x,h=>by
  rw[Bq];by_cases hx:x=0
  ·subst hx;rfl
  ·rw[if_neg hx,oH0 hx,dE0 f (x/2) (by rw[Nat.pow_succ]at h;omega)]
theorem bJ1 (x:Nat) (w:World) (hx:x<18446744073709551616):Calls Tryz.prog 209 #[.int .u64 x] w λe w'=>e=.returned (.int .i64 (bitLen x))/\w=w':=by
 refine(Tryz.bits_Len64 x w (by omega) (by omega)).mono ?_;rintro e w1 ⟨rfl,rfl⟩;exact⟨by rw[Bg];unfold Lib.bitLen;rw[dE0 64 x hx],rfl⟩
theorem jY1:∃i,Tryz.prog.info? 164=some i/\i.zero=some (.int .u64 0)/\i.size=1/\i.bytes=8:=by
 obtain⟨i,z,h1,h2,h3,h4,_⟩:=cB1.info;have h:(Tryz.prog.info? 164).map (λi=>i.zero)=some (some (.int .u64 0)):=by kernel_rfl
 rw[h1]at h;exact⟨i,h1,by simpa using h,h3,h4⟩
theorem mN1 (n:Nat) (W:World) (hn:n<=1048576):(Instr.makeSlice 185 (.int .i64 n) (.int .i64 n)).run Tryz.prog W=.ok (.slice (some ⟨W.heap.size,0,none⟩) n n) (W.alloc (.cells (madeCells #[.int .u64 0] (n*1)) 164)):=by
 obtain⟨i,h1,h2,h3,h4⟩:=jY1;have h:=run_make (P:=Tryz.prog) W 185 164 i (.int .u64 0) Tryz.underlying185 h1 h2 .i64 .i64 n n (by omega) (Int.le_refl _) (by rw[h4];omega) (by omega);rw[Bg,h3]at h;exact h
theorem lA0 {w:World} {n:Nat} (hn:n<=1048576):aU (w.alloc (.cells (madeCells #[.int .u64 0] (n*1)) 164)) w.heap.size 164 1 kO (.slice (some ⟨w.heap.size,0,none⟩) n n) (An n 0) :=
 jB (enc:=kO) (λ_=>rfl) (Ak _) (An n 0) (by
  rw[toList_madeCells_one,Bk];unfold kO;rw[oJ,List.map_replicate];rfl) (by simp) (by unfold maxLen;omega)
theorem uF0 (W q:Nat):eK [] W q=An q 0:=by
 unfold eK;apply Ax
 intro k;by_cases hk:k<q
 ·rw[Bf,Bc hk,List.getElem?_replicate,if_pos hk]
  simp[wO0]
 ·rw[Ae (by simp;omega),Ae (by simp;omega)]
theorem mX0 {l:List Nat} {v q:Nat} (h:∀n∈l++[v],n<2^0):eK (l++[v]) 0 q=eK l 0 q:=by
 unfold eK;apply List.map_congr_left
 intro k _;rw[eQ0 _ k h,eQ0 l k (λn hn=>h n (by simp[hn]))]
theorem bQ1 (pb i v:Nat) (w:World) (c1:w.cell? ⟨pb,1,none⟩=some (.int .i64 0)) :
  Calls Tryz.prog 210 #[.pointer (some ⟨pb,0,none⟩),.int .i64 i,.int .u64 v] w λe w'=>e=.returned (.tuple #[])/\w=w':=by
 go_enter Tryz.func210,Tryz.ntmps210
 go_wp2_with fail
 refine bodyPost_ret (v:=.tuple #[]) (by simp[results,Tryz.results210,go_sem]) rfl ⟨rfl,rfl⟩
theorem gF0 (w:World) (cs:Array Value) (t:TypeId) (j:Nat):(w.alloc (.cells cs t)).frozen? ⟨w.heap.size,j,none⟩=false:=by
 have h:(w.alloc (.cells cs t)).heap[w.heap.size]?=some (.cells cs t):=heap_alloc_new w _;unfold Bp;simp only[h];simp
theorem nE {α:Type} {w:World} {base:Nat} {e:TypeId} {k:Nat} {enc:α->List Value} {v:Value} {xs:List α} (h:aU w base e k enc v xs) {p:Addr} (hp:p.block<base) (u:Value):aU (w.setCell p u) base e k enc v xs:=by
 obtain⟨h1,h2⟩:=h;refine⟨h1,?_⟩;rcases h2 with h2|⟨g,cap,da,hv,hb,hh,r⟩
 ·exact Or.inl h2
 ·refine Or.inr ⟨g,cap,da,hv,hb,?_,r⟩
  rw[heap_setCell_other w p g u (by omega)];exact hh
structure lU (w:World) (pb:Nat) (l:List Nat):Prop where
 c0:w.cell? ⟨pb,0,none⟩=some (.int .i64 l.length)
 c1:w.cell? ⟨pb,1,none⟩=some (.int .i64 (oX l))
 c2:∃wb,pb<wb/\w.cell? ⟨pb,2,none⟩=some (.slice (some ⟨wb,0,none⟩) ((l.length*oX l+63)/64) ((l.length*oX l+63)/64))/\aU w wb 164 1 kO (.slice (some ⟨wb,0,none⟩) ((l.length*oX l+63)/64) ((l.length*oX l+63)/64)) (eK l (oX l) ((l.length*oX l+63)/64))
theorem lU.grows {w w':World} {pb:Nat} {l:List Nat} (h:lU w pb l) (hg:Grows w w'):lU w' pb l:=by
 obtain⟨wb,h1,h2,h3⟩:=h.c2;exact⟨hg.cell h.c0,hg.cell h.c1,wb,h1,hg.cell h2,h3.grows hg⟩
theorem rV0 {l:List Nat} {k v:Nat} (h:l[k]?=some v):cS0 (l.take (k+1))=cS0 (l.take k)|||v:=by rw[bI h,tA0]
theorem gD0 (l:List Nat) (a:Option Addr) (c:Nat) (w:World) (hl:l.length<=1048576) (hn:∀n∈l,n<18446744073709551616) (ac:aF w a 1 (l.map kO)) :
  Calls Tryz.prog 149 #[.slice a l.length c] w λe w'=>e=.returned (.tuple #[.pointer (some ⟨w.heap.size,0,none⟩),.int .i64 0])/\lU w' w.heap.size l/\Grows w w':=by
 have HAT:=Ad ac;have HN:=Ad hn;have fw:oX l<=64:=oK.2 hn;obtain⟨W,hWe⟩:=exq (oX l);rw[<-hWe]at fw;have HW:=Ad hWe;obtain⟨q,hq⟩:=exq ((l.length*W+63)/64);have hLW:l.length*W<=1048576*64:=Av hl fw;have wz:q<=1048576:=by omega
 have HQ:=Ad hq;have hlw:¬(1048576:Int)<l.length:=by omega
 clear ac hn hWe hq;go_enter Tryz.func149,Tryz.ntmps149
 go_wp2_with fail
 go_loop [4,15] (λv i=>∃k V:Nat,k<=l.length/\i=.int .i64 k/\v=.int .u64 V/\V<18446744073709551616/\Hid (V=cS0 (l.take k))) (λ_ i=>l.length-(intOf i).toNat)
 case atStart=>exact⟨0,0,Az _,rfl,rfl,by decide,rfl⟩
 case round =>
  obtain⟨k,V,hk,rfl,rfl,hV,az⟩:=hrel;by_cases ae:k<l.length
  ·obtain⟨x,hx⟩:∃x,l[k]?=some x:=⟨_,Ai ae⟩
   obtain⟨b,o,rfl,hc⟩:=at1 HAT.out (aH ae);have jb:=hc k x hx;have j9:=HN.out x (Ao hx);have HI:Hid (V|||x=cS0 (l.take (k+1))):=by show _=_;rw[rV0 hx,<-az.out]
   have hor:=u64_or_nat V x hV j9;have t9:V|||x<18446744073709551616:=Bh (n:=64) hV j9
   clear hc hx az;go_wp2_with fail
   go_round
   case rel=>exact⟨k+1,V|||x,ae,by go_num,rfl,t9,HI.out⟩
   case measure=>simp[intOf];omega
  ·have ja:k=l.length:=by omega
   have dg:¬(k:Int)<l.length:=by omega
   have gk:bitLen V=W:=by rw[az.out,ja,Bj,HW.out];rfl
   have CL:=bJ1 V w hV;rw[gk]at CL;clear az ja gk;go_wp2_with fail
   refine CL.mono ?_;rintro e w1 ⟨rfl,rfl⟩;go_wp2_with fail
   obtain⟨WB,nr⟩:=exq (w.alloc (.cells #[.int .i64 l.length,.int .i64 W,.slice none 0 0] 202));have b0:WB.cell? ⟨w.heap.size,0,none⟩=some (.int .i64 l.length):=by rw[nr];exact aT w _ _ (0,0) 0 _ rfl
   have b1:WB.cell? ⟨w.heap.size,1,none⟩=some (.int .i64 W):=by rw[nr];exact aT w _ _ (0,0) 1 _ rfl
   have b2:WB.cell? ⟨w.heap.size,2,none⟩=some (.slice none 0 0):=by rw[nr];exact aT w _ _ (0,0) 2 _ rfl
   have bf:WB.frozen? ⟨w.heap.size,2,none⟩=false:=by rw[nr];exact(gF0 w _ _ 2)
   have kc:Grows w WB:=by rw[nr];exact Grows.alloc _ _
   have dp:WB.heap.size=w.heap.size+1:=by rw[nr];simp
   rw[<-nr];clear nr CL;obtain⟨M,hM⟩:=exq (l.length*W);have xj:M<=1048576*64:=by rw[hM];exact hLW
   have hqM:(M+63)/64=q:=by rw[hM];exact HQ.out.symm
   have wM:IntKind.i64.wrap ((l.length:Int)*W)=M:=by
    have h1:(l.length:Int)*W=M:=by rw[hM];push_cast;rfl
    rw[h1];simp[Ab,Ac,Aa];omega
   have wM2:IntKind.i64.wrap ((M:Int)+63)=(M:Int)+63:=by simp[Ab,Ac,Aa];omega
   have si:((M:Int)+63)/64=q:=by omega
   have z8:((M:Int)+63).tdiv 64=q:=by rw[Aw (by omega)];exact si
   have z0:∀y:Ext Grows WB.drew,y.u.cell? ⟨w.heap.size,0,none⟩=some (.int .i64 l.length):=aB ((Grows.drew WB).cell b0);have z1:∀y:Ext Grows WB.drew,y.u.cell? ⟨w.heap.size,1,none⟩=some (.int .i64 W):=aB ((Grows.drew WB).cell b1);have wq:IntKind.i64.wrap (q:Int)=q:=by simp[Ab,Ac,Aa];omega
   have jy:=λ(Y:World)=>mN1 q Y wz;clear hLW hM;refine mK 13 (aV 13 [12]) (by kernel_rfl) (λd _ _ _ _ h=>by cases d<;>exact h) ?_
   iterate 12 (refine aG rfl (λK hK=>?_);go_simp;refine hK _ ?_;clear hK K)
   refine aY rfl rfl (λK hK=>?_);go_simp;refine⟨Grows.alloc _ _,hK _ _ ?_⟩;clear hK K z0 z1 jy;refine bH ?_;simp only[List.drop_succ_cons,List.drop_zero];have bj:=lA0 (w:=WB) wz;rw[Bk,dp]at bj;obtain⟨W3,nt⟩:=exq ((WB.alloc (.cells (madeCells #[.int .u64 0] q) 164)).drew);have ax:Grows WB W3:=by rw[nt];exact(Grows.alloc WB _).dr
   have pj:aU W3 (w.heap.size+1) 164 1 kO (.slice (some ⟨w.heap.size+1,0,none⟩) q q) (An q 0):=by rw[nt];exact bj.grows (Grows.drew _)
   rw[<-nt];clear bj;have b32:W3.cell? ⟨w.heap.size,2,none⟩=some (.slice none 0 0):=ax.cell b2;have b3f:W3.frozen? ⟨w.heap.size,2,none⟩=false:=by rw[ax.froz (by show w.heap.size<WB.heap.size;omega)];exact bf
   clear nt;have hWl:W3.heap.size >= WB.heap.size:=ax.size;have g0:=ax.cell b0;have g1:=ax.cell b1;go_wp2_with fail
   have e0:(W3.setCell ⟨w.heap.size,2,none⟩ (.slice (some ⟨w.heap.size+1,0,none⟩) q q)).cell? ⟨w.heap.size,0,none⟩=some (.int .i64 l.length):=(Af _ _ _ _ (λh=>by cases h)).trans g0;have e1:(W3.setCell ⟨w.heap.size,2,none⟩ (.slice (some ⟨w.heap.size+1,0,none⟩) q q)).cell? ⟨w.heap.size,1,none⟩=some (.int .i64 W):=(Af _ _ _ _ (λh=>by cases h)).trans g1;have e2:(W3.setCell ⟨w.heap.size,2,none⟩ (.slice (some ⟨w.heap.size+1,0,none⟩) q q)).cell? ⟨w.heap.size,2,none⟩=some (.slice (some ⟨w.heap.size+1,0,none⟩) q q):=World.cell?_setCell_same _ _ _ b32;have cr:=nE pj (p:=⟨w.heap.size,2,none⟩) (Aj _) (.slice (some ⟨w.heap.size+1,0,none⟩) q q);have bu:Grows w (W3.setCell ⟨w.heap.size,2,none⟩ (.slice (some ⟨w.heap.size+1,0,none⟩) q q)):=(kc.tr ax).set (Ak _) _;rw[<-uF0 W q]at cr;generalize W3.setCell ⟨w.heap.size,2,none⟩ (.slice (some ⟨w.heap.size+1,0,none⟩) q q)=W4 at e0 e1 e2 cr bu ⊢;have aev:l.length*W<=64*q:=by have:=HQ.out;omega
   have HQM:=Ad aev;clear b0 b1 b2 bf kc dp xj hqM wM wM2 si z8 wq ax pj b32 b3f hWl g0 g1 aev;go_loopw [46] (λi wr=>∃k:Nat,k<=l.length/\i=.int .i64 k/\wr.cell? ⟨w.heap.size,0,none⟩=some (.int .i64 l.length)/\wr.cell? ⟨w.heap.size,1,none⟩=some (.int .i64 W)/\wr.cell? ⟨w.heap.size,2,none⟩=some (.slice (some ⟨w.heap.size+1,0,none⟩) q q)/\aU wr (w.heap.size+1) 164 1 kO (.slice (some ⟨w.heap.size+1,0,none⟩) q q) (eK (l.take k) W q)/\Grows w wr) (λi _=>l.length-(intOf i).toNat)
   case atStart=>exact⟨0,Az _,rfl,e0,e1,e2,cr,bu⟩
   case round =>
    obtain⟨k,hk,rfl,d0,d1,d2,aa,hg⟩:=hrel;by_cases ae:k<l.length
    ·obtain⟨x,hx⟩:∃x,l[k]?=some x:=⟨_,Ai ae⟩
     obtain⟨b,o,rfl,hc⟩:=at1 HAT.out (aH ae);have jb:=hg.cell (hc k x hx);have dg:(k:Int)<l.length:=by omega
     by_cases bh:W=0
     ·have HO:Hid (aU wr (w.heap.size+1) 164 1 kO (.slice (some ⟨w.heap.size+1,0,none⟩) q q) (eK (l.take (k+1)) W q)):=by
       show aU _ _ _ _ _ _ _
       rw[bI hx];have h1:=aa;rw[bh]at h1 ⊢
       rw[mX0 (l:=l.take k) (v:=x) (λn hn=>by
        rw[<-bI hx]at hn;have h2:=aW1 (List.mem_of_mem_take hn);rwa [<-HW.out,bh]at h2)]
       exact h1
      have C0:=bQ1 w.heap.size k x wr (by rw[d1,bh];rfl);clear hc hx bh;go_wp2_with fail
      refine C0.mono ?_;rintro e w5 ⟨rfl,rfl⟩;go_wp2_with fail
      go_roundw
      case rel=>exact⟨k+1,ae,by go_num,d0,d1,d2,HO.out,hg⟩
      case measure=>simp[intOf];omega
     ·have gl:(k+1)*W<=64*q:=Nat.le_trans (Ba W (show k+1<=l.length by omega)) HQM.out
      have CS:=fZ1 w.heap.size (w.heap.size+1) q W x k (w.heap.size+1) (l.take k) wr (by omega) fw (by rw[At];omega) (by omega) (by rw[HW.out];exact aW1 (Ao hx)) gl wz d1 d2 (Aj _) aa;rw[<-bI hx]at CS;clear hc hx gl;go_wp2_with fail
      refine CS.mono ?_;rintro e w5 ⟨rfl,an,dw⟩;go_wp2_with fail
      go_roundw
      case rel=>exact⟨k+1,ae,by go_num,by rw[Below.cell dw.1 (Aj _)];exact d0,by rw[Below.cell dw.1 (Aj _)];exact d1,by rw[Below.cell dw.1 (Aj _)];exact d2,an,Below.trans hg (Below.mono dw.1 (Nat.le_succ _))⟩
      case measure=>simp[intOf];omega
    ·have dg:¬(k:Int)<l.length:=by omega
     have ja:k=l.length:=by omega
     have HP:Hid (lU wr w.heap.size l):=by
      refine⟨d0,by rw[<-HW.out];exact d1,w.heap.size+1,Aj _,?_,?_⟩
      ·rw[<-HW.out,<-HQ.out];exact d2
      ·rw[<-HW.out,<-HQ.out]
       rw[ja,Bj]at aa;exact aa
     clear ja;go_wp2_with fail
     refine bodyPost_ret (v:=.tuple #[.pointer (some ⟨w.heap.size,0,none⟩),.int .i64 0]) (by simp[results,Tryz.results149,go_sem]) rfl ⟨rfl,HP.out,hg⟩
theorem uY0 (n w:Nat) (hw:w<=64):(#[Value.int .u8 (IntKind.u8.wrap (n:Int)),.int .u8 (IntKind.u8.wrap ((n:Int)/256)),.int .u8 (IntKind.u8.wrap ((n:Int)/65536)),.int .u8 (IntKind.u8.wrap ((n:Int)/16777216)),.int .u8 (IntKind.u8.wrap (w:Int))]:Array Value).toList=(leB 4 n++[Al w]).flatMap aX:=by
 have h:=cA1 n w hw;rw[Ap,Ap,Ap,Ap,Ap,show (w:Int)%256=w by omega]
 exact h
def yA (l:List Nat) (k:Nat):List UInt8:=(Bs k).map λj=>Al (fM (bitAt l (oX l)) (8*j) 8)
theorem nM0 (l:List Nat) (k:Nat):yA l (k+1)=yA l k++[Al (iA l (oX l) (k/8)>>>(k%8*8))]:=by
 unfold yA;rw[List.range_succ,List.map_append];simp only[List.map_cons,List.map_nil];rw[<-tP0 l (oX l) k,zZ]
theorem sD0 (l:List Nat) (k:Nat):(yA l k).length=k:=by simp[yA]
theorem iD0 (l:List Nat) (pb:Nat) (w:World) (hl:l.length<=1048576) (hn:∀n∈l,n<18446744073709551616) (ac:lU w pb l) :
  Calls Tryz.prog 157 #[.pointer (some ⟨pb,0,none⟩)] w λe w'=>∃v,e=.returned v/\aU w' w.heap.size 5 1 aX v (packE l)/\Grows w w':=by
 have fw:oX l<=64:=oK.2 hn;have c0:=ac.c0;have c1:=ac.c1;obtain⟨wb,hpw,c2,aa⟩:=ac.c2;obtain⟨W,hWe⟩:=exq (oX l);obtain⟨n,aj⟩:=exq l.length;rw[<-hWe]at fw c1 c2 aa;rw[<-aj]at hl c0 c2 aa;obtain⟨q,hq⟩:=exq ((n*W+63)/64);rw[<-hq]at c2 aa;have HW:=Ad hWe;have HNE:=Ad aj;have HOWN:=Ad aa;have HH:=Ad (uY0 n W fw);obtain⟨M,hM⟩:=exq (n*W);have xj:M<=1048576*64:=by rw[hM];exact Av hl fw
 obtain⟨T,hT⟩:=exq ((M+7)/8);have hTq:T<=8*q:=by rw[hT,hq,<-hM];omega
 have hTb:T<=8388609:=by omega
 have HTE:Hid (T=(l.length*oX l+7)/8):=by show _=_;rw[hT,hM,HNE.out,HW.out]
 have wM:IntKind.i64.wrap ((n:Int)*W)=M:=by
  have h1:(n:Int)*W=M:=by rw[hM];push_cast;rfl
  rw[h1];simp[Ab,Ac,Aa];omega
 have wM2:IntKind.i64.wrap ((M:Int)+7)=(M:Int)+7:=by simp[Ab,Ac,Aa];omega
 have si:((M:Int)+7)/8=T:=by omega
 have z8:((M:Int)+7).tdiv 8=T:=by rw[Aw (by omega)];exact si
 have wT:IntKind.i64.wrap (T:Int)=T:=by simp[Ab,Ac,Aa];omega
 have HWM:=Ad wM;have HWM2:=Ad wM2;have HE1:=Ad si;have HE2:=Ad z8;have HWT:=Ad wT;have HL:=Ad hl;have z0:∀y:Ext Grows w.drew,y.u.cell? ⟨pb,0,none⟩=some (.int .i64 n):=aB ((Grows.drew w).cell c0);have z1:∀y:Ext Grows w.drew,y.u.cell? ⟨pb,1,none⟩=some (.int .i64 W):=aB ((Grows.drew w).cell c1);clear hn ac hWe aj hM hT aa wM wM2 si z8 wT hl xj hpw hq;go_enter Tryz.func157,Tryz.ntmps157
 go_wp2_with fail
 refine bF (aV 30 [28,29]) (by kernel_rfl) (λd _ _ _ _ h=>by cases d<;>exact h) ?_
 iterate 28 (refine aG rfl (λK hK=>?_);go_simp;refine hK _ ?_;clear hK K)
 refine aY rfl rfl (λK hK=>?_);go_simp;refine⟨Grows.alloc _ _,hK _ _ ?_⟩;clear hK K z0 z1;iterate 1 (refine aY rfl rfl (λK hK=>?_);go_simp;refine⟨Grows.refl _,hK _ _ ?_⟩;clear hK K)
 refine bH ?_;have jz:=(jB (enc:=aX) (e:=5) (w:=w) (base:=w.heap.size) (λ_=>rfl) (Ak _) (leB 4 n++[Al W]) HH.out (n:=5) (by simp[bM]) (by decide)).grows (Grows.drew _);obtain⟨w1,hw1⟩:=exq ((w.alloc (.cells #[.int .u8 (IntKind.u8.wrap (n:Int)),.int .u8 (IntKind.u8.wrap ((n:Int)/256)),.int .u8 (IntKind.u8.wrap ((n:Int)/65536)),.int .u8 (IntKind.u8.wrap ((n:Int)/16777216)),.int .u8 (IntKind.u8.wrap (W:Int))] 5)).drew);have ah:Grows w w1:=by rw[hw1];exact(Grows.alloc _ _).dr
 rw[<-hw1]at jz ⊢;clear hw1 HH;generalize IntKind.u8.wrap (n:Int)=y1;generalize IntKind.u8.wrap ((n:Int)/256)=y2;generalize IntKind.u8.wrap ((n:Int)/65536)=y3;generalize IntKind.u8.wrap ((n:Int)/16777216)=y4;generalize IntKind.u8.wrap (W:Int)=y5;go_wp2_with fail
 have wM:=HWM.out;have wM2:=HWM2.out;have si:=HE1.out;have z8:=HE2.out;have wT:=HWT.out;have z0:∀y:Ext Grows w1.drew,y.u.cell? ⟨pb,0,none⟩=some (.int .i64 n):=aB (ah.dr.cell c0);have z1:∀y:Ext Grows w1.drew,y.u.cell? ⟨pb,1,none⟩=some (.int .i64 W):=aB (ah.dr.cell c1);refine bF (aV 12 []) (by kernel_rfl) (λd _ _ _ _ h=>by cases d<;>exact h) ?_
 iterate 12 (refine aG rfl (λK hK=>?_);go_simp;refine hK _ ?_;clear hK K)
 refine bH ?_;clear z0 z1 wM wM2 si z8 wT;go_wp2_with fail
 go_loopw [3,47] (λout i wr=>∃(k:Nat) (bv:List UInt8),k<=T/\i=.int .i64 k/\Hid (bv=leB 4 n++[Al W]++yA l k)/\aU wr w.heap.size 5 1 aX out bv/\Grows w wr) (λ_ i _=>T-(intOf i).toNat)
 case atStart=>exact⟨0,_,Az _,rfl,(by show _=_;simp[yA]),jz.grows (Grows.drew _),ah.dr⟩
 case round =>
  obtain⟨k,bv,hk,rfl,cm,aa,hg⟩:=hrel;by_cases ae:k<T
  ·have dg:(k:Int)<T:=by omega
   obtain⟨J,hJ⟩:=exq (k/8);obtain⟨R,hR⟩:=exq (k%8*8);have hJq:J<q:=by omega
   have hRb:R<=56:=by omega
   have eJ:(k:Int)/8=J:=by omega
   have eR:(k:Int)%8*8=R:=by omega
   have wR:IntKind.u64.wrap (R:Int)=R:=by simp[Ab,Ac,Aa];omega
   obtain⟨x,hx⟩:=exq (iA l W J);have jb:wr.cell? ⟨wb,J,none⟩=some (.int .u64 x):=hg.cell (cX (f:=λn:Nat=>Value.int .u64 n) HOWN.out (by rw[fI hJq,hx]));have c2r:=hg.cell c2
   have HN:Hid (bv++[Al (x>>>R)]=leB 4 n++[Al W]++yA l (k+1)):=by
    show _=_
    rw[nM0,<-HW.out,<-hJ,<-hR,<-hx,cm.out,Bi]
   have HB:Hid ([Value.int .u8 ((x:Int)/2^R%256)]=aX (Al (x>>>R))):=by
    show _=_
    rw[aZ0];exact jS0 _
   have ni:bv.length<=5+k:=by rw[cm.out,Be,sD0];simp[bM]<;>omega
   have hJi:(J:Int)<q:=by omega
   clear hJ hR hx cm;go_wp2_with (at_builtin;refine bT0 bK rfl _ _ rfl w.heap.size _ bv (Al (x>>>R)) rfl aa (Grows.refl _) _ 1 rfl _ (by exact HB.out) rfl (by omega) hg.size ?_;intro v' w5 an bg)
   go_roundw
   case rel=>exact⟨k+1,_,ae,by go_num,HN.out,an,bg w hg (Ak _)⟩
   case measure=>simp[intOf];omega
  ·have dg:¬(k:Int)<T:=by omega
   have HF:Hid (bv=packE l):=by
    show _=_
    have hkT:k=T:=by omega
    rw[cm.out,hkT,HTE.out,HNE.out,HW.out];rfl
   clear cm;go_wp2_with fail
   go_ret;exact⟨_,rfl,by rw[<-HF.out];exact aa,hg⟩
def mP {α:Type} (l:List α) (z:α) (k:Nat):List α:=l.take k++An (l.length-k) z
theorem mX {α:Type} (l:List α) (z:α) {k:Nat} (h:k<=l.length):(mP l z k).length=l.length:=by
 unfold mP;rw[Be,At,List.length_replicate];omega
theorem qF {α:Type} (l:List α) (z:α):mP l z 0=An l.length z:=by simp[mP]
theorem tJ {α:Type} (l:List α) (z:α):mP l z l.length=l:=by simp[mP]
theorem sZ {α:Type} {l:List α} {z x:α} {k:Nat} (h:l[k]?=some x):(mP l z k).set k x=mP l z (k+1):=by
 have hk:k<l.length:=(List.getElem?_eq_some_iff.1 h).1;unfold mP;rw[List.set_append_right _ _ (by rw[At];omega),bI h,Bi];congr 1
 rw[show k-(l.take k).length=0 by rw[At];omega,show l.length-k=(l.length-(k+1))+1 by omega,List.replicate_succ]
 rfl
theorem nQ (l:List Nat) (a:Option Addr) (c:Nat) (w:World) (hl:l.length<=1048576) (hn:∀n∈l,n<9223372036854775808) (ac:aF w a 1 (l.map kH)) :
  Calls Tryz.prog 85 #[.slice a l.length c] w λe w'=>∃v,e=.returned v/\aU w' w.heap.size 5 1 aX v (packE l)/\Grows w w':=by
 have HAT:=Ad ac;have HN:=Ad hn;have jy:=λ(Y:World)=>mN1 l.length Y hl;have CP:=λ(W:World) (q c:Nat) (h:aF W (some ⟨q,0,none⟩) 1 (l.map kO))=>Ad (gD0 l (some ⟨q,0,none⟩) c W hl (λn hn'=>by have:=hn n hn';omega) h);have CE:=λ(W:World) (q:Nat) (h:lU W q l)=>Ad (iD0 l q W hl (λn hn'=>by have:=hn n hn';omega) h);clear ac hn;go_enter Tryz.func85,Tryz.ntmps85
 go_wp2_with fail
 have bj:=lA0 (w:=w) (n:=l.length) hl;rw[Bk,<-qF l 0]at bj;obtain⟨W1,bi⟩:=exq (w.alloc (.cells (madeCells #[.int .u64 0] l.length) 164));have fh:Grows w W1:=by rw[bi];exact Grows.alloc _ _
 rw[<-bi]at bj ⊢;clear bi;go_loopw [13] (λi wr=>∃(k:Nat),k<=l.length/\i=.int .i64 k/\aU wr w.heap.size 164 1 kO (.slice (some ⟨w.heap.size,0,none⟩) l.length l.length) (mP l 0 k)/\Grows w wr) (λi _=>l.length-(intOf i).toNat)
 case atStart=>exact⟨0,Az _,rfl,bj,fh⟩
 case round =>
  clear bj fh;obtain⟨k,hk,rfl,aa,hg⟩:=hrel;by_cases ae:k<l.length
  ·obtain⟨x,hx⟩:∃x,l[k]?=some x:=⟨_,Ai ae⟩
   obtain⟨b,o,rfl,hc⟩:=at1 (HAT.out.grows hg) (aH ae);have jb:=hc k x hx;have ai3:=HN.out x (Ao hx);have wx:IntKind.u64.wrap (x:Int)=x:=by simp[Ab,Ac,Aa];omega
   have vg:=mX l 0 hk;obtain⟨y,hy⟩:∃y,(mP l 0 k)[k]?=some y:=⟨_,Ai (by omega)⟩;have e1:=cX (f:=λn:Nat=>Value.int .u64 n) aa hy;obtain⟨f1,_,ay⟩:=eU (f:=λn:Nat=>Value.int .u64 n) aa (k:=k) (by omega) x;rw[sZ hx]at ay;have HO:=Ad ay;clear hc hx hy aa ay vg;go_wp2_with fail
   go_roundw
   case rel=>exact⟨k+1,by omega,by go_num,HO.out,hg.set (Ak _) _⟩
   case measure=>simp[intOf];omega
  ·obtain rfl:k=l.length:=by omega
   rw[tJ]at aa;obtain⟨a1,c1,e1,_,_,ct⟩:=aa.at_ (k:=1) (λx=>(rfl:(kO x).length=1));have e2:=(Value.slice.inj e1).1;subst e2;have CP1:=CP wr w.heap.size l.length ct;clear CP e1 ct aa;go_wp2_with fail
   refine CP1.out.mono ?_;rintro e w2 ⟨rfl,hp,af⟩;have CE1:=CE w2 wr.heap.size hp;clear CE CP1 hp;have af:=Grows.trans _ _ _ hg af;go_wp2_with fail
   refine CE1.out.mono ?_;rintro e w3 ⟨v,rfl,hv,ax⟩;go_wp2_with fail
   go_ret;exact⟨v,rfl,hv.base af.size,Grows.trans _ _ _ af ax⟩
theorem uQ (l:List Nat) (W Q t:Nat) (ht:t<64):(iA l W Q).testBit t=bitAt l W (64*Q+t):=by
 unfold iA;rw[dM];simp[ht]
theorem dQ1 {l:List Nat} {W i x Q S:Nat} (hx:l[i]?=some x) (vh:x<2^W) (hQ:i*W=64*Q+S) (gl:S+W<=64):(iA l W Q>>>S)&&&(2^W-1)=x:=by
 apply Bb
 intro t;rw[Bl,Au,Ay];by_cases ht:t<W
 ·rw[uQ _ _ _ _ (by omega),<-Br,<-hQ,iH0 hx ht]
  simp[ht]
 ·simp only[ht,decide_false,Bo]
  exact(As (Aq vh (Ah (by decide) (by omega)))).symm
theorem fN1 {l:List Nat} {W i x Q S:Nat} (hx:l[i]?=some x) (vh:x<2^W) (hQ:i*W=64*Q+S) (hS:S<64) (hW:W<=64) (gl:64<S+W) :
  ((iA l W Q>>>S)|||(iA l W (Q+1)<<<(64-S))%18446744073709551616)&&&(2^W-1)=x:=by
 apply Bb
 intro t;rw[Bl,Au,Nat.testBit_or,Ay];by_cases ht:t<W
 ·rw[gP0 (by omega)]
  by_cases h1:S+t<64
  ·rw[uQ _ _ _ _ h1,<-Br,<-hQ,iH0 hx ht]
   simp[ht,show ¬64-S<=t by omega]
  ·rw[show (iA l W Q).testBit (S+t)=false by
    apply As
    exact Aq (oC l W Q) (Ah (n:=2) (by decide) (show 64<=S+t by omega))]
   rw[uQ _ _ _ _ (by omega),show 64*(Q+1)+(t-(64-S))=i*W+t by omega,iH0 hx ht]
   simp[ht,show 64-S<=t by omega]
 ·simp only[ht,decide_false,Bo]
  exact(As (Aq vh (Ah (by decide) (by omega)))).symm
theorem dM1 {W:Nat} (hW:W<=64):IntKind.u64.wrap (IntKind.u64.wrap (2^W)-1)=((2^W-1:Nat):Int):=by
 have h:∀V:Fin 65,IntKind.u64.wrap (IntKind.u64.wrap (2^V.val)-1)=((2^V.val-1:Nat):Int):=by decide +kernel
 exact h ⟨W,by omega⟩
theorem wR0 (pb wb q W i x base:Nat) (l:List Nat) (w:World) (hW:W<=64) (fg:l.length<=1048576) (hx:l[i]?=some x) (vh:x<2^W) (hq:l.length*W<=64*q)
  (c1:w.cell? ⟨pb,1,none⟩=some (.int .i64 W)) (c2:w.cell? ⟨pb,2,none⟩=some (.slice (some ⟨wb,0,none⟩) q q)) (aa:aU w base 164 1 kO (.slice (some ⟨wb,0,none⟩) q q) (eK l W q)) :
  Calls Tryz.prog 184 #[.pointer (some ⟨pb,0,none⟩),.int .i64 i] w λe w'=>e=.returned (.int .u64 x)/\(w'=w\/w'=w.drew):=by
 have qg:=(List.getElem?_eq_some_iff.1 hx).1;by_cases bh:W=0
 ·have ki:x=0:=by rw[bh]at vh;simpa using vh
  subst ki;subst bh;clear aa;go_enter Tryz.func184,Tryz.ntmps184
  go_wp2_with fail
  go_ret;exact⟨rfl,Or.inl rfl⟩
 ·have ga:(W:Int)≠0:=by omega
  obtain⟨M,hM⟩:=exq (i*W)
  have hMq:M+W<=64*q:=by
   have h1:(i+1)*W<=l.length*W:=Ba _ (by omega);rw[Nat.add_mul]at h1;omega
  have ai4:M<=1048576*64:=by rw[hM];exact Av (by omega) hW
  obtain⟨Q,hQ⟩:=exq (M/64);obtain⟨S,hS⟩:=exq (M%64);have hQS:i*W=64*Q+S:=by rw[<-hM];omega
  have np:S<64:=by omega
  have ue:Q<q:=by omega
  have wM:IntKind.i64.wrap ((i:Int)*W)=M:=by
   have h1:(i:Int)*W=M:=by rw[hM];push_cast;rfl
   rw[h1];simp[Ab,Ac,Aa];omega
  have eQ:(M:Int)/64=Q:=by omega
  have eS:(M:Int)%64=S:=by omega
  obtain⟨y,hy⟩:=exq (iA l W Q);have ku:y<18446744073709551616:=by rw[hy];exact oC l W Q
  have d1:w.drew.cell? ⟨wb,Q,none⟩=some (.int .u64 y):=(Grows.drew w).cell (cX (f:=λn:Nat=>Value.int .u64 n) aa (by rw[fI ue,hy]));have z1:∀y:Ext Grows w.drew,y.u.cell? ⟨pb,1,none⟩=some (.int .i64 W):=aB ((Grows.drew w).cell c1);have hQi:(Q:Int)<q:=by omega
  have g1:w.drew.cell? ⟨pb,1,none⟩=some (.int .i64 W):=(Grows.drew w).cell c1;have g2:w.drew.cell? ⟨pb,2,none⟩=some (.slice (some ⟨wb,0,none⟩) q q):=(Grows.drew w).cell c2;have ahd:IntKind.i64.wrap ((S:Int)+W)=(S:Int)+W:=by simp[Ab,Ac,Aa];omega
  have jy:=dM1 hW
  have ti:2^W-1<18446744073709551616:=by
   have:2^W<=2^64:=Ah (by decide) hW
   have e:(2:Nat)^64=18446744073709551616:=by decide
   omega
  obtain⟨v0,hv0⟩:=exq (y>>>S);have hsh:(y:Int)/2^S=(v0:Nat):=by rw[hv0];exact aZ0 y S
  have xm:v0<18446744073709551616:=by rw[hv0];exact Bd (Nat.shiftRight_le _ _) ku
  by_cases kt:S+W<=64
  ·have hsw:¬(64:Int)<(S:Int)+W:=by omega
   have hand:bits .and .u64 (v0:Int) ((2^W-1:Nat):Int)=(x:Int):=by
    rw[u64_and_nat _ _ xm ti,hv0,hy,dQ1 hx vh hQS kt]
   obtain⟨MK,hMK⟩:=exq (2^W-1);rw[<-hMK]at hand jy;clear hM hQ hS hQS hy aa hMq hx vh hv0 hMK;go_enter Tryz.func184,Tryz.ntmps184
   go_wp2_with fail
   refine bF (aV 17 []) (by kernel_rfl) (λd _ _ _ _ h=>by cases d<;>exact h) ?_
   iterate 17 (refine aG rfl (λK hK=>?_);go_simp;refine hK _ ?_;clear hK K)
   refine bH ?_;clear z1;go_wp2_with fail
   go_ret;exact⟨rfl,Or.inr rfl⟩
  ·have kt:64<S+W:=by omega
   have hsw:(64:Int)<(S:Int)+W:=by omega
   have zz:Q+1<q:=by omega
   have ahe:(Q:Int)+1<q:=by omega
   obtain⟨y1,l8⟩:=exq (iA l W (Q+1));have aiq:y1<18446744073709551616:=by rw[l8];exact oC l W _
   have d2:w.drew.cell? ⟨wb,Q+1,none⟩=some (.int .u64 y1):=(Grows.drew w).cell (cX (f:=λn:Nat=>Value.int .u64 n) aa (by rw[fI zz,l8]));have hor:=jV0 (v:=y1) (S:=64-S) xm;obtain⟨v1,gj⟩:=exq (v0|||(y1<<<(64-S))%18446744073709551616)
   rw[<-gj]at hor;have ad7:v1<18446744073709551616:=by rw[gj];exact Bh (n:=64) xm (Bt _ (by decide))
   have hT:(64:Int)-S=((64-S:Nat):Int):=by omega
   have hTw:IntKind.u64.wrap ((64-S:Nat):Int)=((64-S:Nat):Int):=by simp[Ab,Ac,Aa];omega
   have hand:bits .and .u64 (v1:Int) ((2^W-1:Nat):Int)=(x:Int):=by
    rw[u64_and_nat _ _ ad7 ti,gj,hv0,hy,l8,fN1 hx vh hQS np hW kt]
   obtain⟨MK,hMK⟩:=exq (2^W-1);rw[<-hMK]at hand jy;clear hM hQ hS hQS hy aa hMq hx vh hv0 hMK l8 gj;go_enter Tryz.func184,Tryz.ntmps184
   go_wp2_with fail
   refine bF (aV 17 []) (by kernel_rfl) (λd _ _ _ _ h=>by cases d<;>exact h) ?_
   iterate 17 (refine aG rfl (λK hK=>?_);go_simp;refine hK _ ?_;clear hK K)
   refine bH ?_;clear z1;go_wp2_with fail
   go_ret;exact⟨rfl,Or.inr rfl⟩
theorem qE0 (pb wb q W i x base:Nat) (l:List Nat) (w:World) (hW:W<=64) (fg:l.length<=1048576) (hx:l[i]?=some x) (vh:x<2^W) (hq:l.length*W<=64*q)
 (c1:w.cell? ⟨pb,1,none⟩=some (.int .i64 W)) (c2:w.cell? ⟨pb,2,none⟩=some (.slice (some ⟨wb,0,none⟩) q q)) (aa:aU w base 164 1 kO (.slice (some ⟨wb,0,none⟩) q q) (eK l W q)) :
 Calls Tryz.prog 184 #[.pointer (some ⟨pb,0,none⟩),.int .i64 i] w λe w'=>e=.returned (.int .u64 x)/\Grows w w':=(wR0 pb wb q W i x base l w hW fg hx vh hq c1 c2 aa).mono λe w' ⟨h1,h2⟩=>⟨h1,by rcases h2 with rfl|rfl<;>first|exact Grows.refl _|exact Grows.drew _⟩
theorem qU {l:List Nat} {x:Nat} (h:x∈l):x<2^oX l:=oK.1 (Ak _) x h
theorem gO (l:List Nat) (pb:Nat) (w:World) (ac:lU w pb l):Calls Tryz.prog 70 #[.pointer (some ⟨pb,0,none⟩)] w λe w'=>e=.returned (.int .i64 (l.length:Nat))/\w=w':=by
 have c0:=ac.c0;go_enter Tryz.func70,Tryz.ntmps70
 go_wp2_with fail
 go_ret;exact⟨rfl,rfl⟩
theorem sV (l:List Nat) (pb i x:Nat) (w:World) (ac:lU w pb l) (hl:l.length<=1048576) (hn:∀n∈l,n<18446744073709551616) (hx:l[i]?=some x):Calls Tryz.prog 120 #[.pointer (some ⟨pb,0,none⟩),.int .i64 i] w λe w'=>e=.returned (.tuple #[.int .u64 x,.bool true])/\Grows w w':=by
 obtain⟨wb,h1,h2,h3⟩:=ac.c2;have qg:=(List.getElem?_eq_some_iff.1 hx).1;have CG:=Ad (qE0 pb wb ((l.length*oX l+63)/64) (oX l) i x wb l w (oK.2 hn) hl hx (qU (Ao hx)) (by omega) ac.c1 h2 h3);have CL:=Ad (gO l pb w ac);have h0:¬(i:Int)<0:=by omega
 have hi:(i:Int)<l.length:=by omega
 clear ac h2 h3 hx;go_enter Tryz.func120,Tryz.ntmps120
 go_wp2_with fail
 refine CL.out.mono ?_;rintro e w1 ⟨rfl,rfl⟩;go_wp2_with fail
 refine CG.out.mono ?_;rintro e w2 ⟨rfl,af⟩;go_wp2
 go_ret2;exact⟨rfl,af⟩
end
end Go.Proofs.YtcijgkfpobpdbaaGreatDoor
