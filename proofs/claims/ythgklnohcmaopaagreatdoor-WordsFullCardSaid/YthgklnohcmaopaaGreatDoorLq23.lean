/- The texts Pk PkN PkE Bnum PkG, one behind the other. -/
import Derived.Test.YthgklnohcmaopaaGreatDoorLq20
import Derived.Test.YthgklnohcmaopaaGreatDoorShelf
import Derived.Laws.OwnMore
import Derived.OwnWalk
import Derived.Laws.MakeOwn
import Derived.Laws.BitsAllLaws
open Go.IntKind renaming signed → Aa,wrap → Ab,bits → Ac,wrap_u8' → Ap
open Go.Lib renaming hid → Ad,bitLenAux → Br
open List renaming getElem?_eq_none → Ae,length_set → Ag,getElem?_eq_getElem → Ai,getElem?_set_ne → Am,replicate → An,mem_of_getElem? → Ao,getElem?_set_self → Ar,length_take → At,ext_getElem? → Ax,getElem?_range → Bc,length_append → Be,getElem?_map → Bf,append_assoc → Bi,take_length → Bj,range → Bt
open Go.World renaming cell?_setCell_other → Af,frozen? → Bq
open Nat renaming pow_le_pow_right → Ah,lt_succ_self → Aj,le_refl → Ak,lt_of_lt_of_le → Aq,testBit_lt_two_pow → As,testBit_two_pow_sub_one → Au,mul_le_mul → Av,testBit_shiftRight → Ay,zero_le → Az,mul_le_mul_right → Ba,eq_of_testBit_eq → Bb,lt_of_le_of_lt → Bd,or_lt_two_pow → Bh,mul_one → Bk,testBit_and → Bn,add_assoc → Bs,mod_lt → Bu
open UInt8 renaming ofNat → Al
open Int renaming tdiv_eq_ediv_of_nonneg → Aw,toNat_natCast → Bg
open Go.Addr renaming block → Bo
open Bool renaming and_false → Bp
set_option maxHeartbeats 8000000
namespace Go.Proofs.YthgklnohcmaopaaGreatDoor
set_option maxRecDepth 100000
section
open Go Go.RowKit
attribute [local go_sem] aO aM
theorem nJ {α:Type} (f:α->Value) (xs:List α):xs.flatMap (λx=>[f x])=xs.map f:=by
 induction xs with
 | nil=>rfl
 | cons x xs ih=>rw[List.flatMap_cons,ih];rfl
theorem eW {α:Type} {f:α->Value} {w:World} {base g n c k:Nat} {e:TypeId} {xs:List α} (h:aX w base e 1 (λx=>[f x]) (.slice (some ⟨g,0,none⟩) n c) xs) (hk:k<xs.length) (y:α) :
  w.frozen? ⟨g,k,none⟩=false/\base<=g/\aX (w.setCell ⟨g,k,none⟩ (f y)) base e 1 (λx=>[f x]) (.slice (some ⟨g,0,none⟩) n c) (xs.set k y):=by
 rcases h.2 with ⟨h1,_⟩|⟨g',cap,cp,hv,hb,hh,hn,hc,hs,ht⟩
 ·cases h1
 ·have e1:=(Value.slice.inj hv).1
  have e2:=(Value.slice.inj hv).2.1;obtain rfl:g=g':=congrArg Bo (Option.some.inj e1);have hkc:k<cp.size:=by omega
  refine⟨by simp[Bq,hh],hb,?_⟩;have hl:(xs.set k y).length=xs.length:=Ag
  have hf:(xs.set k y).flatMap (λx=>[f x])=(xs.flatMap (λx=>[f x])).set k (f y):=by
   rw[nJ,nJ,List.map_set]
  unfold aX;rw[hl];refine⟨by rw[hf,Ag];exact h.1,Or.inr ⟨g,cap,cp.setIfInBounds k (f y),hv,hb,heap_setCell_same w g k cp _ _ hh,hn,hc,by simpa using hs,?_⟩⟩;rw[hf,<-ht,Array.toList_setIfInBounds,List.take_set]
theorem dC {α:Type} {f:α->Value} {w:World} {base g n c k:Nat} {e:TypeId} {xs:List α} {x:α} (h:aX w base e 1 (λx=>[f x]) (.slice (some ⟨g,0,none⟩) n c) xs) (hx:xs[k]?=some x):w.cell? ⟨g,k,none⟩=some (f x):=by
 obtain⟨a,c2,he,_,_,ac⟩:=aX.at_ (enc:=λx=>[f x]) (λ_=>rfl) h;simp only[Value.slice.injEq]at he;rw[<-he.1]at ac;obtain⟨b1,o1,he1,bj⟩:=at1 (f:=f) ac (aK (List.getElem?_eq_some_iff.1 hx).1);obtain⟨rfl,rfl⟩:g=b1/\0=o1:=by simpa using he1
 have:=bj k x hx
 rwa [Nat.zero_add]at this
def eI (l:List Nat) (W q:Nat):List Nat:=(Bt q).map (gZ l W)
theorem fQ (l:List Nat) (W q:Nat):(eI l W q).length=q:=by simp[eI]
theorem fR {l:List Nat} {W q k:Nat} (h:k<q):(eI l W q)[k]?=some (gZ l W k):=by
 unfold eI;rw[Bf,Bc h];rfl
theorem wB0 {l:List Nat} {W v q Q S:Nat} (hW:0<W) (fk:W<=64) (hv:v<2^W) (hS:S<64) (hQ:l.length*W=64*Q+S) (fo:S+W<=64):eI (l++[v]) W q=(eI l W q).set Q (gZ l W Q|||(v<<<S)%18446744073709551616):=by
 apply Ax
 intro k;by_cases hk:k<q
 ·rw[fR hk]
  by_cases xz:k=Q
  ·subst xz
   rw[Ar (by rw[fQ];exact hk),iS0 hW hv hQ]
  ·rw[Am (Ne.symm xz),fR hk,eF0 hW hv hS hQ xz (λ_=>fo) fk]
 ·rw[Ae (by rw[fQ];omega),Ae (by rw[Ag,fQ];omega)]
theorem uD0 {l:List Nat} {W v q Q S:Nat} (hW:0<W) (fk:W<=64) (hv:v<2^W) (hS:S<64) (hQ:l.length*W=64*Q+S) (_:64<S+W) (hQ1:Q+1<q) :
  eI (l++[v]) W q=((eI l W q).set Q (gZ l W Q|||(v<<<S)%18446744073709551616)).set (Q+1) (gZ l W (Q+1)|||v>>>(64-S)):=by
 apply Ax
 intro k;by_cases hk:k<q
 ·rw[fR hk]
  by_cases acv:k=Q+1
  ·subst acv
   rw[Ar (by rw[Ag,fQ];exact hk),tP0 hW hv fk hS hQ]
  ·rw[Am (Ne.symm acv)]
   by_cases xz:k=Q
   ·subst xz
    rw[Ar (by rw[fQ];exact hk),iS0 hW hv hQ]
   ·rw[Am (Ne.symm xz),fR hk,eF0 hW hv hS hQ xz (λh=>absurd h acv) fk]
 ·rw[Ae (by rw[fQ];omega),Ae (by rw[Ag,Ag,fQ];omega)]
theorem kW0 {x v S:Nat} (hx:x<18446744073709551616):bits .or .u64 (x:Int) (IntKind.u64.wrap ((v:Int)*2^S))=((x|||(v<<<S)%18446744073709551616:Nat):Int):=by
 have h1:IntKind.u64.wrap ((v:Int)*2^S)=((v<<<S%18446744073709551616:Nat):Int):=by
  rw[Nat.shiftLeft_eq,show (v:Int)*2^S=((v*2^S:Nat):Int) by push_cast;rfl]
  generalize v*2^S=N;simp[Ab,Ac,Aa]
 rw[h1];exact u64_or_nat x _ hx (Bu _ (by decide))
theorem pJ1 {x v T:Nat} (hx:x<18446744073709551616) (hv:v<18446744073709551616):bits .or .u64 (x:Int) ((v:Int)/2^T)=((x|||v>>>T:Nat):Int):=by
 rw[zC];exact u64_or_nat x _ hx (Bd (by rw[Nat.shiftRight_eq_div_pow];exact Nat.div_le_self _ _) hv)
theorem eG1 (pb wb q W v i base:Nat) (pre:List Nat) (w:World) (cq:0<W) (hW:W<=64) (hi:i=pre.length) (ld:i<=1048576) (hv:v<2^W) (fo:(i+1)*W<=64*q) (hq:q<=1048576)
  (c1:w.cell? ⟨pb,1,none⟩=some (.int .i64 W)) (c2:w.cell? ⟨pb,2,none⟩=some (.slice (some ⟨wb,0,none⟩) q q)) (hpw:pb<wb) (aa:aX w base 213 1 kI (.slice (some ⟨wb,0,none⟩) q q) (eI pre W q)) :
  Calls Tryz.prog 184 #[.pointer (some ⟨pb,0,none⟩),.int .i64 i,.int .u64 v] w λe w'=>e=.returned (.tuple #[])/\aX w' base 213 1 kI (.slice (some ⟨wb,0,none⟩) q q) (eI (pre++[v]) W q)/\EB wb w w':=by
 obtain⟨M,hM⟩:=exq (i*W);obtain⟨Q,hQ⟩:=exq (M/64);obtain⟨S,hS⟩:=exq (M%64);have ya:M<=1048576*64:=by rw[hM];exact Av ld hW
 have hMq:M+W<=64*q:=by rw[hM];rw[Nat.succ_mul]at fo;exact fo
 have hQS:pre.length*W=64*Q+S:=by rw[<-hi,<-hM];omega
 have nh:S<64:=by omega
 have ur:Q<q:=by omega
 have ae3:v<18446744073709551616:=Aq hv (Ah (n:=2) (by decide) hW)
 have wM:IntKind.i64.wrap ((i:Int)*W)=M:=by
  have h1:(i:Int)*W=M:=by rw[hM];push_cast;rfl
  rw[h1];simp[Ab,Ac,Aa];omega
 have eQ:(M:Int)/64=Q:=by omega
 have eS:(M:Int)%64=S:=by omega
 obtain⟨x,hx⟩:=exq (gZ pre W Q);have ji:x<18446744073709551616:=by rw[hx];exact nT pre W Q
 have d1:w.cell? ⟨wb,Q,none⟩=some (.int .u64 x):=dC (f:=λn:Nat=>Value.int .u64 n) aa (by rw[fR ur,hx]);obtain⟨f1,_,aq⟩:=eW (f:=λn:Nat=>Value.int .u64 n) (aa.grows (aB.drew w)) (k:=Q) (by rw[fQ];exact ur) (x|||(v<<<S)%18446744073709551616)
 have HWB:=Ad (Nat.le_of_lt (World.block_lt_of_cell? w _ d1));have tf:=kW0 (v:=v) (S:=S) ji;obtain⟨x1,jc⟩:=exq (x|||(v<<<S)%18446744073709551616)
 rw[<-jc]at tf aq;have aj:pb≠wb:=by omega
 have z1:∀y:Ext aB w.drew,y.u.cell? ⟨pb,1,none⟩=some (.int .i64 W):=aF ((aB.drew w).cell c1);have eo:(W:Int)≠0:=by omega
 have hQi:(Q:Int)<q:=by omega
 have g1:∀u,(w.drew.setCell ⟨wb,Q,none⟩ u).cell? ⟨pb,1,none⟩=some (.int .i64 W):=λu=>(Af _ _ _ _ (λh=>aj (congrArg Bo h).symm)).trans c1;have g2:∀u,(w.drew.setCell ⟨wb,Q,none⟩ u).cell? ⟨pb,2,none⟩=some (.slice (some ⟨wb,0,none⟩) q q):=λu=>(Af _ _ _ _ (λh=>aj (congrArg Bo h).symm)).trans c2;have ahk:IntKind.i64.wrap ((S:Int)+W)=(S:Int)+W:=by simp[Ab,Ac,Aa];omega
 by_cases jz:S+W<=64
 ·have hsw:¬(64:Int)<(S:Int)+W:=by omega
  have HF:Hid (eI (pre++[v]) W q=(eI pre W q).set Q x1):=by show _=_;rw[wB0 cq hW hv nh hQS jz,jc,hx]
  have HO:=Ad aq;clear hM hQ hS hQS hx jc aq aa fo hMq hi hv;go_enter Tryz.func184,Tryz.ntmps184
  go_wp2_with fail
  refine bK (bB 17 []) (by kernel_rfl) (λd _ _ _ _ h=>by cases d<;>exact h) ?_
  iterate 17 (refine aH rfl (λK hK=>?_);go_simp;refine hK _ ?_;clear hK K)
  refine cB ?_;clear z1;go_wp2_with fail
  refine bodyPost_end (v:=.tuple #[]) (by simp[results,Tryz.results184,go_sem]) rfl ⟨rfl,?_,?_⟩
  ·rw[HF.out]
   exact HO.out
  ·exact EB.trans _ _ _ _ (EB.of (aB.drew w) HWB.out) ⟨(Below.refl wb w.drew).setCell (p:=⟨wb,Q,none⟩) (Ak wb) _,by simp⟩
 ·have jz:64<S+W:=by omega
  have hsw:(64:Int)<(S:Int)+W:=by omega
  have hQ1:Q+1<q:=by omega
  have ahl:(Q:Int)+1<q:=by omega
  obtain⟨y,hy⟩:=exq (gZ pre W (Q+1));have j6:y<18446744073709551616:=by rw[hy];exact nT pre W _
  have hYg:((eI pre W q).set Q x1)[Q+1]?=some y:=by rw[Am (by omega),fR hQ1,hy]
  have e1:=dC (f:=λn:Nat=>Value.int .u64 n) aa (k:=Q+1) (x:=y) (by rw[fR hQ1,hy]);obtain⟨f3,_,_⟩:=eW (f:=λn:Nat=>Value.int .u64 n) aa (k:=Q+1) (by rw[fQ];exact hQ1) y;obtain⟨f2,_,ai⟩:=eW (f:=λn:Nat=>Value.int .u64 n) aq (k:=Q+1) (by rw[Ag,fQ];exact hQ1) (y|||v>>>(64-S))
  have ahm:=pJ1 (x:=y) (v:=v) (T:=64-S) j6 ae3;obtain⟨y1,lk⟩:=exq (y|||v>>>(64-S))
  rw[<-lk]at ahm ai;have hT:(64:Int)-S=((64-S:Nat):Int):=by omega
  have hTw:IntKind.u64.wrap ((64-S:Nat):Int)=((64-S:Nat):Int):=by simp[Ab,Ac,Aa];omega
  have HF:Hid (eI (pre++[v]) W q=((eI pre W q).set Q x1).set (Q+1) y1):=by show _=_;rw[uD0 cq hW hv nh hQS jz hQ1,jc,hx,lk,hy]
  have HO:=Ad ai;clear hM hQ hS hQS hx jc aq aa fo hMq hi hv hy lk ai hYg;go_enter Tryz.func184,Tryz.ntmps184
  go_wp2_with fail
  refine bK (bB 17 []) (by kernel_rfl) (λd _ _ _ _ h=>by cases d<;>exact h) ?_
  iterate 17 (refine aH rfl (λK hK=>?_);go_simp;refine hK _ ?_;clear hK K)
  refine cB ?_;clear z1;go_wp2_with fail
  refine bodyPost_end (v:=.tuple #[]) (by simp[results,Tryz.results184,go_sem]) rfl ⟨rfl,?_,?_⟩
  ·rw[HF.out]
   exact HO.out
  ·exact EB.trans _ _ _ _ (EB.of (aB.drew w) HWB.out) ⟨((Below.refl wb w.drew).setCell (p:=⟨wb,Q,none⟩) (Ak wb) _).setCell (p:=⟨wb,Q+1,none⟩) (Ak wb) _,by simp⟩
theorem nO0 {x:Nat} (h:x≠0):bitLen x=1+bitLen (x/2):=by
 unfold bitLen;rw[if_neg h];by_cases h1:x=1
 ·subst h1;rfl
 ·rw[if_neg (by omega),Nat.log2_def,if_pos (by omega)]
  omega
theorem dI0:∀(f x:Nat),x<2^f->Br f x=bitLen x
 | 0,x,h=>by
  obtain rfl:x=0:=by simpa using h
  rfl
 | f+1,x,h=>by
  rw[Br];by_cases hx:x=0
  ·subst hx;rfl
  ·rw[if_neg hx,nO0 hx,dI0 f (x/2) (by rw[Nat.pow_succ]at h;omega)]
theorem yT0 (x:Nat) (w:World) (hx:x<18446744073709551616):Calls Tryz.prog 178 #[.int .u64 x] w λe w'=>e=.returned (.int .i64 (bitLen x))/\w=w':=by
 refine(Tryz.bits_Len64 x w (by omega) (by omega)).mono ?_;rintro e w1 ⟨rfl,rfl⟩;exact⟨by rw[Bg];unfold Lib.bitLen;rw[dI0 64 x hx],rfl⟩
theorem mZ1:∃i,Tryz.prog.info? 213=some i/\i.zero=some (.int .u64 0)/\i.size=1/\i.bytes=8:=by
 obtain⟨i,z,h1,h2,h3,h4,_⟩:=aQ1.info;have h:(Tryz.prog.info? 213).map (λi=>i.zero)=some (some (.int .u64 0)):=by kernel_rfl
 rw[h1]at h;exact⟨i,h1,by simpa using h,h3,h4⟩
theorem pH1 (n:Nat) (W:World) (hn:n<=1048576):(Instr.makeSlice 206 (.int .i64 n) (.int .i64 n)).run Tryz.prog W=.ok (.slice (some ⟨W.heap.size,0,none⟩) n n) (W.alloc (.cells (madeCells #[.int .u64 0] (n*1)) 213)):=by
 obtain⟨i,h1,h2,h3,h4⟩:=mZ1;have h:=run_make (P:=Tryz.prog) W 206 213 i (.int .u64 0) Tryz.underlying206 h1 h2 .i64 .i64 n n (by omega) (Int.le_refl _) (by rw[h4];omega) (by omega);rw[Bg,h3]at h;exact h
theorem lR0 {w:World} {n:Nat} (hn:n<=1048576):aX (w.alloc (.cells (madeCells #[.int .u64 0] (n*1)) 213)) w.heap.size 213 1 kI (.slice (some ⟨w.heap.size,0,none⟩) n n) (An n 0) :=
 jK (enc:=kI) (λ_=>rfl) (Ak _) (An n 0) (by
  rw[toList_madeCells_one,Bk];unfold kI;rw[nJ,List.map_replicate];rfl) (by simp) (by unfold maxLen;omega)
theorem tA0 (W q:Nat):eI [] W q=An q 0:=by
 unfold eI;apply Ax
 intro k;by_cases hk:k<q
 ·rw[Bf,Bc hk,List.getElem?_replicate,if_pos hk]
  simp[bI1]
 ·rw[Ae (by simp;omega),Ae (by simp;omega)]
theorem pH0 {l:List Nat} {v q:Nat} (h:∀n∈l++[v],n<2^0):eI (l++[v]) 0 q=eI l 0 q:=by
 unfold eI;apply List.map_congr_left
 intro k _;rw[eQ0 _ k h,eQ0 l k (λn hn=>h n (by simp[hn]))]
theorem zS0 (pb i v:Nat) (w:World) (c1:w.cell? ⟨pb,1,none⟩=some (.int .i64 0)) :
  Calls Tryz.prog 184 #[.pointer (some ⟨pb,0,none⟩),.int .i64 i,.int .u64 v] w λe w'=>e=.returned (.tuple #[])/\w=w':=by
 go_enter Tryz.func184,Tryz.ntmps184
 go_wp2_with fail
 refine bodyPost_ret (v:=.tuple #[]) (by simp[results,Tryz.results184,go_sem]) rfl ⟨rfl,rfl⟩
theorem gG0 (w:World) (cs:Array Value) (t:TypeId) (j:Nat):(w.alloc (.cells cs t)).frozen? ⟨w.heap.size,j,none⟩=false:=by
 have h:(w.alloc (.cells cs t)).heap[w.heap.size]?=some (.cells cs t):=heap_alloc_new w _;unfold Bq;simp only[h];simp
theorem mG {α:Type} {w:World} {base:Nat} {e:TypeId} {k:Nat} {enc:α->List Value} {v:Value} {xs:List α} (h:aX w base e k enc v xs) {p:Addr} (hp:p.block<base) (u:Value):aX (w.setCell p u) base e k enc v xs:=by
 obtain⟨h1,h2⟩:=h;refine⟨h1,?_⟩;rcases h2 with h2|⟨g,cap,cp,hv,hb,hh,r⟩
 ·exact Or.inl h2
 ·refine Or.inr ⟨g,cap,cp,hv,hb,?_,r⟩
  rw[heap_setCell_other w p g u (by omega)];exact hh
structure nG (w:World) (pb:Nat) (l:List Nat):Prop where
 c0:w.cell? ⟨pb,0,none⟩=some (.int .i64 l.length)
 c1:w.cell? ⟨pb,1,none⟩=some (.int .i64 (oV l))
 c2:∃wb,pb<wb/\w.cell? ⟨pb,2,none⟩=some (.slice (some ⟨wb,0,none⟩) ((l.length*oV l+63)/64) ((l.length*oV l+63)/64))/\aX w wb 213 1 kI (.slice (some ⟨wb,0,none⟩) ((l.length*oV l+63)/64) ((l.length*oV l+63)/64)) (eI l (oV l) ((l.length*oV l+63)/64))
theorem nG.grows {w w':World} {pb:Nat} {l:List Nat} (h:nG w pb l) (hg:aB w w'):nG w' pb l:=by
 obtain⟨wb,h1,h2,h3⟩:=h.c2;exact⟨hg.cell h.c0,hg.cell h.c1,wb,h1,hg.cell h2,h3.grows hg⟩
theorem vQ0 {l:List Nat} {k v:Nat} (h:l[k]?=some v):cL0 (l.take (k+1))=cL0 (l.take k)|||v:=by rw[bM h,sP0]
theorem fR0 (l:List Nat) (a:Option Addr) (c:Nat) (w:World) (hl:l.length<=1048576) (hn:∀n∈l,n<18446744073709551616) (ac:aG w a 1 (l.map kI)) :
  Calls Tryz.prog 120 #[.slice a l.length c] w λe w'=>e=.returned (.tuple #[.pointer (some ⟨w.heap.size,0,none⟩),.int .i64 0])/\nG w' w.heap.size l/\aB w w':=by
 have HAT:=Ad ac;have HN:=Ad hn;have fk:oV l<=64:=oE.2 hn;obtain⟨W,hWe⟩:=exq (oV l);rw[<-hWe]at fk;have HW:=Ad hWe;obtain⟨q,hq⟩:=exq ((l.length*W+63)/64);have hLW:l.length*W<=1048576*64:=Av hl fk;have xx:q<=1048576:=by omega
 have HQ:=Ad hq;have hlw:¬(1048576:Int)<l.length:=by omega
 clear ac hn hWe hq;go_enter Tryz.func120,Tryz.ntmps120
 go_wp2_with fail
 go_loop [4,15] (λv i=>∃k V:Nat,k<=l.length/\i=.int .i64 k/\v=.int .u64 V/\V<18446744073709551616/\Hid (V=cL0 (l.take k))) (λ_ i=>l.length-(intOf i).toNat)
 case atStart=>exact⟨0,0,Az _,rfl,rfl,by decide,rfl⟩
 case round =>
  obtain⟨k,V,hk,rfl,rfl,hV,ct⟩:=hrel;by_cases ae:k<l.length
  ·obtain⟨x,hx⟩:∃x,l[k]?=some x:=⟨_,Ai ae⟩
   obtain⟨b,o,rfl,hc⟩:=at1 HAT.out (aK ae);have gn:=hc k x hx;have ji:=HN.out x (Ao hx);have HI:Hid (V|||x=cL0 (l.take (k+1))):=by show _=_;rw[vQ0 hx,<-ct.out]
   have tf:=u64_or_nat V x hV ji;have hol:V|||x<18446744073709551616:=Bh (n:=64) hV ji
   clear hc hx ct;go_wp2_with fail
   go_round
   case rel=>exact⟨k+1,V|||x,ae,by go_num,rfl,hol,HI.out⟩
   case measure=>simp[intOf];omega
  ·have jr:k=l.length:=by omega
   have cn:¬(k:Int)<l.length:=by omega
   have gm:bitLen V=W:=by rw[ct.out,jr,Bj,HW.out];rfl
   have CL:=yT0 V w hV;rw[gm]at CL;clear ct jr gm;go_wp2_with fail
   refine CL.mono ?_;rintro e w1 ⟨rfl,rfl⟩;go_wp2_with fail
   obtain⟨WB,ni⟩:=exq (w.alloc (.cells #[.int .i64 l.length,.int .i64 W,.slice none 0 0] 279));have b0:WB.cell? ⟨w.heap.size,0,none⟩=some (.int .i64 l.length):=by rw[ni];exact aT w _ _ (0,0) 0 _ rfl
   have b1:WB.cell? ⟨w.heap.size,1,none⟩=some (.int .i64 W):=by rw[ni];exact aT w _ _ (0,0) 1 _ rfl
   have b2:WB.cell? ⟨w.heap.size,2,none⟩=some (.slice none 0 0):=by rw[ni];exact aT w _ _ (0,0) 2 _ rfl
   have bf:WB.frozen? ⟨w.heap.size,2,none⟩=false:=by rw[ni];exact(gG0 w _ _ 2)
   have jt:aB w WB:=by rw[ni];exact aB.alloc _ _
   have de:WB.heap.size=w.heap.size+1:=by rw[ni];simp
   rw[<-ni];clear ni CL;obtain⟨M,hM⟩:=exq (l.length*W);have ya:M<=1048576*64:=by rw[hM];exact hLW
   have hqM:(M+63)/64=q:=by rw[hM];exact HQ.out.symm
   have wM:IntKind.i64.wrap ((l.length:Int)*W)=M:=by
    have h1:(l.length:Int)*W=M:=by rw[hM];push_cast;rfl
    rw[h1];simp[Ab,Ac,Aa];omega
   have wM2:IntKind.i64.wrap ((M:Int)+63)=(M:Int)+63:=by simp[Ab,Ac,Aa];omega
   have tg:((M:Int)+63)/64=q:=by omega
   have eq2:((M:Int)+63).tdiv 64=q:=by rw[Aw (by omega)];exact tg
   have z0:∀y:Ext aB WB.drew,y.u.cell? ⟨w.heap.size,0,none⟩=some (.int .i64 l.length):=aF ((aB.drew WB).cell b0);have z1:∀y:Ext aB WB.drew,y.u.cell? ⟨w.heap.size,1,none⟩=some (.int .i64 W):=aF ((aB.drew WB).cell b1);have wq:IntKind.i64.wrap (q:Int)=q:=by simp[Ab,Ac,Aa];omega
   have l9:=λ(Y:World)=>pH1 q Y xx;clear hLW hM;refine lC 13 (bB 13 [12]) (by kernel_rfl) (λd _ _ _ _ h=>by cases d<;>exact h) ?_
   iterate 12 (refine aH rfl (λK hK=>?_);go_simp;refine hK _ ?_;clear hK K)
   refine bH rfl rfl (λK hK=>?_);go_simp;refine⟨aB.alloc _ _,hK _ _ ?_⟩;clear hK K z0 z1 l9;refine cB ?_;simp only[List.drop_succ_cons,List.drop_zero];have az:=lR0 (w:=WB) xx;rw[Bk,de]at az;obtain⟨W3,ep⟩:=exq ((WB.alloc (.cells (madeCells #[.int .u64 0] q) 213)).drew);have ax:aB WB W3:=by rw[ep];exact(aB.alloc WB _).dr
   have pq:aX W3 (w.heap.size+1) 213 1 kI (.slice (some ⟨w.heap.size+1,0,none⟩) q q) (An q 0):=by rw[ep];exact az.grows (aB.drew _)
   rw[<-ep];clear az;have b32:W3.cell? ⟨w.heap.size,2,none⟩=some (.slice none 0 0):=ax.cell b2;have b3f:W3.frozen? ⟨w.heap.size,2,none⟩=false:=by rw[ax.froz (by show w.heap.size<WB.heap.size;omega)];exact bf
   clear ep;have hWl:W3.heap.size >= WB.heap.size:=ax.size;have g0:=ax.cell b0;have g1:=ax.cell b1;go_wp2_with fail
   have e0:(W3.setCell ⟨w.heap.size,2,none⟩ (.slice (some ⟨w.heap.size+1,0,none⟩) q q)).cell? ⟨w.heap.size,0,none⟩=some (.int .i64 l.length):=(Af _ _ _ _ (λh=>by cases h)).trans g0;have e1:(W3.setCell ⟨w.heap.size,2,none⟩ (.slice (some ⟨w.heap.size+1,0,none⟩) q q)).cell? ⟨w.heap.size,1,none⟩=some (.int .i64 W):=(Af _ _ _ _ (λh=>by cases h)).trans g1;have e2:(W3.setCell ⟨w.heap.size,2,none⟩ (.slice (some ⟨w.heap.size+1,0,none⟩) q q)).cell? ⟨w.heap.size,2,none⟩=some (.slice (some ⟨w.heap.size+1,0,none⟩) q q):=World.cell?_setCell_same _ _ _ b32;have du:=mG pq (p:=⟨w.heap.size,2,none⟩) (Aj _) (.slice (some ⟨w.heap.size+1,0,none⟩) q q);have ch:aB w (W3.setCell ⟨w.heap.size,2,none⟩ (.slice (some ⟨w.heap.size+1,0,none⟩) q q)):=(jt.tr ax).set (Ak _) _;rw[<-tA0 W q]at du;generalize W3.setCell ⟨w.heap.size,2,none⟩ (.slice (some ⟨w.heap.size+1,0,none⟩) q q)=W4 at e0 e1 e2 du ch ⊢;have ae4:l.length*W<=64*q:=by have:=HQ.out;omega
   have HQM:=Ad ae4;clear b0 b1 b2 bf jt de ya hqM wM wM2 tg eq2 wq ax pq b32 b3f hWl g0 g1 ae4;go_loopw [46] (λi wr=>∃k:Nat,k<=l.length/\i=.int .i64 k/\wr.cell? ⟨w.heap.size,0,none⟩=some (.int .i64 l.length)/\wr.cell? ⟨w.heap.size,1,none⟩=some (.int .i64 W)/\wr.cell? ⟨w.heap.size,2,none⟩=some (.slice (some ⟨w.heap.size+1,0,none⟩) q q)/\aX wr (w.heap.size+1) 213 1 kI (.slice (some ⟨w.heap.size+1,0,none⟩) q q) (eI (l.take k) W q)/\aB w wr) (λi _=>l.length-(intOf i).toNat)
   case atStart=>exact⟨0,Az _,rfl,e0,e1,e2,du,ch⟩
   case round =>
    obtain⟨k,hk,rfl,d0,d1,d2,aa,hg⟩:=hrel;by_cases ae:k<l.length
    ·obtain⟨x,hx⟩:∃x,l[k]?=some x:=⟨_,Ai ae⟩
     obtain⟨b,o,rfl,hc⟩:=at1 HAT.out (aK ae);have gn:=hg.cell (hc k x hx);have cn:(k:Int)<l.length:=by omega
     by_cases cq:W=0
     ·have HO:Hid (aX wr (w.heap.size+1) 213 1 kI (.slice (some ⟨w.heap.size+1,0,none⟩) q q) (eI (l.take (k+1)) W q)):=by
       show aX _ _ _ _ _ _ _
       rw[bM hx];have h1:=aa;rw[cq]at h1 ⊢
       rw[pH0 (l:=l.take k) (v:=x) (λn hn=>by
        rw[<-bM hx]at hn;have h2:=yD0 (List.mem_of_mem_take hn);rwa [<-HW.out,cq]at h2)]
       exact h1
      have C0:=zS0 w.heap.size k x wr (by rw[d1,cq];rfl);clear hc hx cq;go_wp2_with fail
      refine C0.mono ?_;rintro e w5 ⟨rfl,rfl⟩;go_wp2_with fail
      go_roundw
      case rel=>exact⟨k+1,ae,by go_num,d0,d1,d2,HO.out,hg⟩
      case measure=>simp[intOf];omega
     ·have fo:(k+1)*W<=64*q:=Nat.le_trans (Ba W (show k+1<=l.length by omega)) HQM.out
      have CS:=eG1 w.heap.size (w.heap.size+1) q W x k (w.heap.size+1) (l.take k) wr (by omega) fk (by rw[At];omega) (by omega) (by rw[HW.out];exact yD0 (Ao hx)) fo xx d1 d2 (Aj _) aa;rw[<-bM hx]at CS;clear hc hx fo;go_wp2_with fail
      refine CS.mono ?_;rintro e w5 ⟨rfl,ar,cv⟩;go_wp2_with fail
      go_roundw
      case rel=>exact⟨k+1,ae,by go_num,by rw[Below.cell cv.1 (Aj _)];exact d0,by rw[Below.cell cv.1 (Aj _)];exact d1,by rw[Below.cell cv.1 (Aj _)];exact d2,ar,Below.trans hg (Below.mono cv.1 (Nat.le_succ _))⟩
      case measure=>simp[intOf];omega
    ·have cn:¬(k:Int)<l.length:=by omega
     have jr:k=l.length:=by omega
     have HP:Hid (nG wr w.heap.size l):=by
      refine⟨d0,by rw[<-HW.out];exact d1,w.heap.size+1,Aj _,?_,?_⟩
      ·rw[<-HW.out,<-HQ.out];exact d2
      ·rw[<-HW.out,<-HQ.out]
       rw[jr,Bj]at aa;exact aa
     clear jr;go_wp2_with fail
     refine bodyPost_ret (v:=.tuple #[.pointer (some ⟨w.heap.size,0,none⟩),.int .i64 0]) (by simp[results,Tryz.results120,go_sem]) rfl ⟨rfl,HP.out,hg⟩
theorem vK0 (n w:Nat) (hw:w<=64):(#[Value.int .u8 (IntKind.u8.wrap (n:Int)),.int .u8 (IntKind.u8.wrap ((n:Int)/256)),.int .u8 (IntKind.u8.wrap ((n:Int)/65536)),.int .u8 (IntKind.u8.wrap ((n:Int)/16777216)),.int .u8 (IntKind.u8.wrap (w:Int))]:Array Value).toList=(leB 4 n++[Al w]).flatMap aY:=by
 have h:=bL1 n w hw;rw[Ap,Ap,Ap,Ap,Ap,show (w:Int)%256=w by omega]
 exact h
def xM (l:List Nat) (k:Nat):List UInt8:=(Bt k).map λj=>Al (fU (bitAt l (oV l)) (8*j) 8)
theorem nR0 (l:List Nat) (k:Nat):xM l (k+1)=xM l k++[Al (gZ l (oV l) (k/8)>>>(k%8*8))]:=by
 unfold xM;rw[List.range_succ,List.map_append];simp only[List.map_cons,List.map_nil];rw[<-vX0 l (oV l) k,bT0]
theorem uL0 (l:List Nat) (k:Nat):(xM l k).length=k:=by simp[xM]
theorem gE0 (l:List Nat) (pb:Nat) (w:World) (hl:l.length<=1048576) (hn:∀n∈l,n<18446744073709551616) (ac:nG w pb l) :
  Calls Tryz.prog 128 #[.pointer (some ⟨pb,0,none⟩)] w λe w'=>∃v,e=.returned v/\aX w' w.heap.size 5 1 aY v (packE l)/\aB w w':=by
 have fk:oV l<=64:=oE.2 hn;have c0:=ac.c0;have c1:=ac.c1;obtain⟨wb,hpw,c2,aa⟩:=ac.c2;obtain⟨W,hWe⟩:=exq (oV l);obtain⟨n,aj⟩:=exq l.length;rw[<-hWe]at fk c1 c2 aa;rw[<-aj]at hl c0 c2 aa;obtain⟨q,hq⟩:=exq ((n*W+63)/64);rw[<-hq]at c2 aa;have HW:=Ad hWe;have HNE:=Ad aj;have HOWN:=Ad aa;have HH:=Ad (vK0 n W fk);obtain⟨M,hM⟩:=exq (n*W);have ya:M<=1048576*64:=by rw[hM];exact Av hl fk
 obtain⟨T,hT⟩:=exq ((M+7)/8);have hTq:T<=8*q:=by rw[hT,hq,<-hM];omega
 have hTb:T<=8388609:=by omega
 have HTE:Hid (T=(l.length*oV l+7)/8):=by show _=_;rw[hT,hM,HNE.out,HW.out]
 have wM:IntKind.i64.wrap ((n:Int)*W)=M:=by
  have h1:(n:Int)*W=M:=by rw[hM];push_cast;rfl
  rw[h1];simp[Ab,Ac,Aa];omega
 have wM2:IntKind.i64.wrap ((M:Int)+7)=(M:Int)+7:=by simp[Ab,Ac,Aa];omega
 have tg:((M:Int)+7)/8=T:=by omega
 have eq2:((M:Int)+7).tdiv 8=T:=by rw[Aw (by omega)];exact tg
 have wT:IntKind.i64.wrap (T:Int)=T:=by simp[Ab,Ac,Aa];omega
 have HWM:=Ad wM;have HWM2:=Ad wM2;have HE1:=Ad tg;have HE2:=Ad eq2;have HWT:=Ad wT;have HL:=Ad hl;have z0:∀y:Ext aB w.drew,y.u.cell? ⟨pb,0,none⟩=some (.int .i64 n):=aF ((aB.drew w).cell c0);have z1:∀y:Ext aB w.drew,y.u.cell? ⟨pb,1,none⟩=some (.int .i64 W):=aF ((aB.drew w).cell c1);clear hn ac hWe aj hM hT aa wM wM2 tg eq2 wT hl ya hpw hq;go_enter Tryz.func128,Tryz.ntmps128
 go_wp2_with fail
 refine bK (bB 30 [28,29]) (by kernel_rfl) (λd _ _ _ _ h=>by cases d<;>exact h) ?_
 iterate 28 (refine aH rfl (λK hK=>?_);go_simp;refine hK _ ?_;clear hK K)
 refine bH rfl rfl (λK hK=>?_);go_simp;refine⟨aB.alloc _ _,hK _ _ ?_⟩;clear hK K z0 z1;iterate 1 (refine bH rfl rfl (λK hK=>?_);go_simp;refine⟨aB.refl _,hK _ _ ?_⟩;clear hK K)
 refine cB ?_;have ig:=(jK (enc:=aY) (e:=5) (w:=w) (base:=w.heap.size) (λ_=>rfl) (Ak _) (leB 4 n++[Al W]) HH.out (n:=5) (by simp[bN]) (by decide)).grows (aB.drew _);obtain⟨w1,vn⟩:=exq ((w.alloc (.cells #[.int .u8 (IntKind.u8.wrap (n:Int)),.int .u8 (IntKind.u8.wrap ((n:Int)/256)),.int .u8 (IntKind.u8.wrap ((n:Int)/65536)),.int .u8 (IntKind.u8.wrap ((n:Int)/16777216)),.int .u8 (IntKind.u8.wrap (W:Int))] 5)).drew);have an:aB w w1:=by rw[vn];exact(aB.alloc _ _).dr
 rw[<-vn]at ig ⊢;clear vn HH;generalize IntKind.u8.wrap (n:Int)=y1;generalize IntKind.u8.wrap ((n:Int)/256)=y2;generalize IntKind.u8.wrap ((n:Int)/65536)=y3;generalize IntKind.u8.wrap ((n:Int)/16777216)=y4;generalize IntKind.u8.wrap (W:Int)=y5;go_wp2_with fail
 have wM:=HWM.out;have wM2:=HWM2.out;have tg:=HE1.out;have eq2:=HE2.out;have wT:=HWT.out;have z0:∀y:Ext aB w1.drew,y.u.cell? ⟨pb,0,none⟩=some (.int .i64 n):=aF (an.dr.cell c0);have z1:∀y:Ext aB w1.drew,y.u.cell? ⟨pb,1,none⟩=some (.int .i64 W):=aF (an.dr.cell c1);refine bK (bB 12 []) (by kernel_rfl) (λd _ _ _ _ h=>by cases d<;>exact h) ?_
 iterate 12 (refine aH rfl (λK hK=>?_);go_simp;refine hK _ ?_;clear hK K)
 refine cB ?_;clear z0 z1 wM wM2 tg eq2 wT;go_wp2_with fail
 go_loopw [3,47] (λout i wr=>∃(k:Nat) (bk:List UInt8),k<=T/\i=.int .i64 k/\Hid (bk=leB 4 n++[Al W]++xM l k)/\aX wr w.heap.size 5 1 aY out bk/\aB w wr) (λ_ i _=>T-(intOf i).toNat)
 case atStart=>exact⟨0,_,Az _,rfl,(by show _=_;simp[xM]),ig.grows (aB.drew _),an.dr⟩
 case round =>
  obtain⟨k,bk,hk,rfl,b9,aa,hg⟩:=hrel;by_cases ae:k<T
  ·have cn:(k:Int)<T:=by omega
   obtain⟨J,hJ⟩:=exq (k/8);obtain⟨R,hR⟩:=exq (k%8*8);have hJq:J<q:=by omega
   have hRb:R<=56:=by omega
   have eJ:(k:Int)/8=J:=by omega
   have eR:(k:Int)%8*8=R:=by omega
   have wR:IntKind.u64.wrap (R:Int)=R:=by simp[Ab,Ac,Aa];omega
   obtain⟨x,hx⟩:=exq (gZ l W J);have gn:wr.cell? ⟨wb,J,none⟩=some (.int .u64 x):=hg.cell (dC (f:=λn:Nat=>Value.int .u64 n) HOWN.out (by rw[fR hJq,hx]));have c2r:=hg.cell c2
   have HN:Hid (bk++[Al (x>>>R)]=leB 4 n++[Al W]++xM l (k+1)):=by
    show _=_
    rw[nR0,<-HW.out,<-hJ,<-hR,<-hx,b9.out,Bi]
   have HB:Hid ([Value.int .u8 ((x:Int)/2^R%256)]=aY (Al (x>>>R))):=by
    show _=_
    rw[zC];exact iP0 _
   have pm:bk.length<=5+k:=by rw[b9.out,Be,uL0];simp[bN]<;>omega
   have hJi:(J:Int)<q:=by omega
   clear hJ hR hx b9;go_wp2_with (at_builtin;refine yV0 bJ rfl _ _ rfl w.heap.size _ bk (Al (x>>>R)) rfl aa (aB.refl _) _ 1 rfl _ (by exact HB.out) rfl (by omega) hg.size ?_;intro v' w5 ar bv)
   go_roundw
   case rel=>exact⟨k+1,_,ae,by go_num,HN.out,ar,bv w hg (Ak _)⟩
   case measure=>simp[intOf];omega
  ·have cn:¬(k:Int)<T:=by omega
   have HF:Hid (bk=packE l):=by
    show _=_
    have hkT:k=T:=by omega
    rw[b9.out,hkT,HTE.out,HNE.out,HW.out];rfl
   clear b9;go_wp2_with fail
   go_ret;exact⟨_,rfl,by rw[<-HF.out];exact aa,hg⟩
def mA {α:Type} (l:List α) (z:α) (k:Nat):List α:=l.take k++An (l.length-k) z
theorem nC {α:Type} (l:List α) (z:α) {k:Nat} (h:k<=l.length):(mA l z k).length=l.length:=by
 unfold mA;rw[Be,At,List.length_replicate];omega
theorem qE {α:Type} (l:List α) (z:α):mA l z 0=An l.length z:=by simp[mA]
theorem sT {α:Type} (l:List α) (z:α):mA l z l.length=l:=by simp[mA]
theorem sO {α:Type} {l:List α} {z x:α} {k:Nat} (h:l[k]?=some x):(mA l z k).set k x=mA l z (k+1):=by
 have hk:k<l.length:=(List.getElem?_eq_some_iff.1 h).1;unfold mA;rw[List.set_append_right _ _ (by rw[At];omega),bM h,Bi];congr 1
 rw[show k-(l.take k).length=0 by rw[At];omega,show l.length-k=(l.length-(k+1))+1 by omega,List.replicate_succ]
 rfl
theorem nQ (l:List Nat) (a:Option Addr) (c:Nat) (w:World) (hl:l.length<=1048576) (hn:∀n∈l,n<9223372036854775808) (ac:aG w a 1 (l.map lK)) :
  Calls Tryz.prog 63 #[.slice a l.length c] w λe w'=>∃v,e=.returned v/\aX w' w.heap.size 5 1 aY v (packE l)/\aB w w':=by
 have HAT:=Ad ac;have HN:=Ad hn;have l9:=λ(Y:World)=>pH1 l.length Y hl;have CP:=λ(W:World) (q c:Nat) (h:aG W (some ⟨q,0,none⟩) 1 (l.map kI))=>Ad (fR0 l (some ⟨q,0,none⟩) c W hl (λn hn'=>by have:=hn n hn';omega) h);have CE:=λ(W:World) (q:Nat) (h:nG W q l)=>Ad (gE0 l q W hl (λn hn'=>by have:=hn n hn';omega) h);clear ac hn;go_enter Tryz.func63,Tryz.ntmps63
 go_wp2_with fail
 have az:=lR0 (w:=w) (n:=l.length) hl;rw[Bk,<-qE l 0]at az;obtain⟨W1,bi⟩:=exq (w.alloc (.cells (madeCells #[.int .u64 0] l.length) 213));have gk:aB w W1:=by rw[bi];exact aB.alloc _ _
 rw[<-bi]at az ⊢;clear bi;go_loopw [13] (λi wr=>∃(k:Nat),k<=l.length/\i=.int .i64 k/\aX wr w.heap.size 213 1 kI (.slice (some ⟨w.heap.size,0,none⟩) l.length l.length) (mA l 0 k)/\aB w wr) (λi _=>l.length-(intOf i).toNat)
 case atStart=>exact⟨0,Az _,rfl,az,gk⟩
 case round =>
  clear az gk;obtain⟨k,hk,rfl,aa,hg⟩:=hrel;by_cases ae:k<l.length
  ·obtain⟨x,hx⟩:∃x,l[k]?=some x:=⟨_,Ai ae⟩
   obtain⟨b,o,rfl,hc⟩:=at1 (HAT.out.grows hg) (aK ae);have gn:=hc k x hx;have ajj:=HN.out x (Ao hx);have wx:IntKind.u64.wrap (x:Int)=x:=by simp[Ab,Ac,Aa];omega
   have hfl:=nC l 0 hk;obtain⟨y,hy⟩:∃y,(mA l 0 k)[k]?=some y:=⟨_,Ai (by omega)⟩;have e1:=dC (f:=λn:Nat=>Value.int .u64 n) aa hy;obtain⟨f1,_,aq⟩:=eW (f:=λn:Nat=>Value.int .u64 n) aa (k:=k) (by omega) x;rw[sO hx]at aq;have HO:=Ad aq;clear hc hx hy aa aq hfl;go_wp2_with fail
   go_roundw
   case rel=>exact⟨k+1,by omega,by go_num,HO.out,hg.set (Ak _) _⟩
   case measure=>simp[intOf];omega
  ·obtain rfl:k=l.length:=by omega
   rw[sT]at aa;obtain⟨a1,c1,e1,_,_,cm⟩:=aa.at_ (k:=1) (λx=>(rfl:(kI x).length=1));have e2:=(Value.slice.inj e1).1;subst e2;have CP1:=CP wr w.heap.size l.length cm;clear CP e1 cm aa;go_wp2_with fail
   refine CP1.out.mono ?_;rintro e w2 ⟨rfl,hp,af⟩;have CE1:=CE w2 wr.heap.size hp;clear CE CP1 hp;have af:=aB.trans _ _ _ hg af;go_wp2_with fail
   refine CE1.out.mono ?_;rintro e w3 ⟨v,rfl,hv,ax⟩;go_wp2_with fail
   go_ret;exact⟨v,rfl,hv.base af.size,aB.trans _ _ _ af ax⟩
theorem vJ (l:List Nat) (W Q t:Nat) (ht:t<64):(gZ l W Q).testBit t=bitAt l W (64*Q+t):=by
 unfold gZ;rw[dK];simp[ht]
theorem hG1 {l:List Nat} {W i x Q S:Nat} (hx:l[i]?=some x) (vo:x<2^W) (hQ:i*W=64*Q+S) (fo:S+W<=64):(gZ l W Q>>>S)&&&(2^W-1)=x:=by
 apply Bb
 intro t;rw[Bn,Au,Ay];by_cases ht:t<W
 ·rw[vJ _ _ _ _ (by omega),<-Bs,<-hQ,iA0 hx ht]
  simp[ht]
 ·simp only[ht,decide_false,Bp]
  exact(As (Aq vo (Ah (by decide) (by omega)))).symm
theorem jN1 {l:List Nat} {W i x Q S:Nat} (hx:l[i]?=some x) (vo:x<2^W) (hQ:i*W=64*Q+S) (hS:S<64) (hW:W<=64) (fo:64<S+W) :
  ((gZ l W Q>>>S)|||(gZ l W (Q+1)<<<(64-S))%18446744073709551616)&&&(2^W-1)=x:=by
 apply Bb
 intro t;rw[Bn,Au,Nat.testBit_or,Ay];by_cases ht:t<W
 ·rw[gY0 (by omega)]
  by_cases h1:S+t<64
  ·rw[vJ _ _ _ _ h1,<-Bs,<-hQ,iA0 hx ht]
   simp[ht,show ¬64-S<=t by omega]
  ·rw[show (gZ l W Q).testBit (S+t)=false by
    apply As
    exact Aq (nT l W Q) (Ah (n:=2) (by decide) (show 64<=S+t by omega))]
   rw[vJ _ _ _ _ (by omega),show 64*(Q+1)+(t-(64-S))=i*W+t by omega,iA0 hx ht]
   simp[ht,show 64-S<=t by omega]
 ·simp only[ht,decide_false,Bp]
  exact(As (Aq vo (Ah (by decide) (by omega)))).symm
theorem fQ1 {W:Nat} (hW:W<=64):IntKind.u64.wrap (IntKind.u64.wrap (2^W)-1)=((2^W-1:Nat):Int):=by
 have h:∀V:Fin 65,IntKind.u64.wrap (IntKind.u64.wrap (2^V.val)-1)=((2^V.val-1:Nat):Int):=by decide +kernel
 exact h ⟨W,by omega⟩
theorem dJ1 (pb wb q W i x base:Nat) (l:List Nat) (w:World) (hW:W<=64) (ld:l.length<=1048576) (hx:l[i]?=some x) (vo:x<2^W) (hq:l.length*W<=64*q)
  (c1:w.cell? ⟨pb,1,none⟩=some (.int .i64 W)) (c2:w.cell? ⟨pb,2,none⟩=some (.slice (some ⟨wb,0,none⟩) q q)) (aa:aX w base 213 1 kI (.slice (some ⟨wb,0,none⟩) q q) (eI l W q)) :
  Calls Tryz.prog 212 #[.pointer (some ⟨pb,0,none⟩),.int .i64 i] w λe w'=>e=.returned (.int .u64 x)/\(w'=w\/w'=w.drew):=by
 have up:=(List.getElem?_eq_some_iff.1 hx).1;by_cases cq:W=0
 ·have m8:x=0:=by rw[cq]at vo;simpa using vo
  subst m8;subst cq;clear aa;go_enter Tryz.func212,Tryz.ntmps212
  go_wp2_with fail
  go_ret;exact⟨rfl,Or.inl rfl⟩
 ·have eo:(W:Int)≠0:=by omega
  obtain⟨M,hM⟩:=exq (i*W)
  have hMq:M+W<=64*q:=by
   have h1:(i+1)*W<=l.length*W:=Ba _ (by omega);rw[Nat.add_mul]at h1;omega
  have ajk:M<=1048576*64:=by rw[hM];exact Av (by omega) hW
  obtain⟨Q,hQ⟩:=exq (M/64);obtain⟨S,hS⟩:=exq (M%64);have hQS:i*W=64*Q+S:=by rw[<-hM];omega
  have nh:S<64:=by omega
  have ur:Q<q:=by omega
  have wM:IntKind.i64.wrap ((i:Int)*W)=M:=by
   have h1:(i:Int)*W=M:=by rw[hM];push_cast;rfl
   rw[h1];simp[Ab,Ac,Aa];omega
  have eQ:(M:Int)/64=Q:=by omega
  have eS:(M:Int)%64=S:=by omega
  obtain⟨y,hy⟩:=exq (gZ l W Q);have j6:y<18446744073709551616:=by rw[hy];exact nT l W Q
  have d1:w.drew.cell? ⟨wb,Q,none⟩=some (.int .u64 y):=(aB.drew w).cell (dC (f:=λn:Nat=>Value.int .u64 n) aa (by rw[fR ur,hy]));have z1:∀y:Ext aB w.drew,y.u.cell? ⟨pb,1,none⟩=some (.int .i64 W):=aF ((aB.drew w).cell c1);have hQi:(Q:Int)<q:=by omega
  have g1:w.drew.cell? ⟨pb,1,none⟩=some (.int .i64 W):=(aB.drew w).cell c1;have g2:w.drew.cell? ⟨pb,2,none⟩=some (.slice (some ⟨wb,0,none⟩) q q):=(aB.drew w).cell c2;have ahk:IntKind.i64.wrap ((S:Int)+W)=(S:Int)+W:=by simp[Ab,Ac,Aa];omega
  have l9:=fQ1 hW
  have uj:2^W-1<18446744073709551616:=by
   have:2^W<=2^64:=Ah (by decide) hW
   have e:(2:Nat)^64=18446744073709551616:=by decide
   omega
  obtain⟨v0,hv0⟩:=exq (y>>>S);have hsh:(y:Int)/2^S=(v0:Nat):=by rw[hv0];exact zC y S
  have ye:v0<18446744073709551616:=by rw[hv0];exact Bd (Nat.shiftRight_le _ _) j6
  by_cases jz:S+W<=64
  ·have hsw:¬(64:Int)<(S:Int)+W:=by omega
   have hand:bits .and .u64 (v0:Int) ((2^W-1:Nat):Int)=(x:Int):=by
    rw[u64_and_nat _ _ ye uj,hv0,hy,hG1 hx vo hQS jz]
   obtain⟨MK,hMK⟩:=exq (2^W-1);rw[<-hMK]at hand l9;clear hM hQ hS hQS hy aa hMq hx vo hv0 hMK;go_enter Tryz.func212,Tryz.ntmps212
   go_wp2_with fail
   refine bK (bB 17 []) (by kernel_rfl) (λd _ _ _ _ h=>by cases d<;>exact h) ?_
   iterate 17 (refine aH rfl (λK hK=>?_);go_simp;refine hK _ ?_;clear hK K)
   refine cB ?_;clear z1;go_wp2_with fail
   go_ret;exact⟨rfl,Or.inr rfl⟩
  ·have jz:64<S+W:=by omega
   have hsw:(64:Int)<(S:Int)+W:=by omega
   have hQ1:Q+1<q:=by omega
   have ahl:(Q:Int)+1<q:=by omega
   obtain⟨y1,lk⟩:=exq (gZ l W (Q+1));have ai5:y1<18446744073709551616:=by rw[lk];exact nT l W _
   have d2:w.drew.cell? ⟨wb,Q+1,none⟩=some (.int .u64 y1):=(aB.drew w).cell (dC (f:=λn:Nat=>Value.int .u64 n) aa (by rw[fR hQ1,lk]));have tf:=kW0 (v:=y1) (S:=64-S) ye;obtain⟨v1,iw⟩:=exq (v0|||(y1<<<(64-S))%18446744073709551616)
   rw[<-iw]at tf;have aeb:v1<18446744073709551616:=by rw[iw];exact Bh (n:=64) ye (Bu _ (by decide))
   have hT:(64:Int)-S=((64-S:Nat):Int):=by omega
   have hTw:IntKind.u64.wrap ((64-S:Nat):Int)=((64-S:Nat):Int):=by simp[Ab,Ac,Aa];omega
   have hand:bits .and .u64 (v1:Int) ((2^W-1:Nat):Int)=(x:Int):=by
    rw[u64_and_nat _ _ aeb uj,iw,hv0,hy,lk,jN1 hx vo hQS nh hW jz]
   obtain⟨MK,hMK⟩:=exq (2^W-1);rw[<-hMK]at hand l9;clear hM hQ hS hQS hy aa hMq hx vo hv0 hMK lk iw;go_enter Tryz.func212,Tryz.ntmps212
   go_wp2_with fail
   refine bK (bB 17 []) (by kernel_rfl) (λd _ _ _ _ h=>by cases d<;>exact h) ?_
   iterate 17 (refine aH rfl (λK hK=>?_);go_simp;refine hK _ ?_;clear hK K)
   refine cB ?_;clear z1;go_wp2_with fail
   go_ret;exact⟨rfl,Or.inr rfl⟩
theorem rZ0 (pb wb q W i x base:Nat) (l:List Nat) (w:World) (hW:W<=64) (ld:l.length<=1048576) (hx:l[i]?=some x) (vo:x<2^W) (hq:l.length*W<=64*q)
 (c1:w.cell? ⟨pb,1,none⟩=some (.int .i64 W)) (c2:w.cell? ⟨pb,2,none⟩=some (.slice (some ⟨wb,0,none⟩) q q)) (aa:aX w base 213 1 kI (.slice (some ⟨wb,0,none⟩) q q) (eI l W q)) :
 Calls Tryz.prog 212 #[.pointer (some ⟨pb,0,none⟩),.int .i64 i] w λe w'=>e=.returned (.int .u64 x)/\aB w w':=(dJ1 pb wb q W i x base l w hW ld hx vo hq c1 c2 aa).mono λe w' ⟨h1,h2⟩=>⟨h1,by rcases h2 with rfl|rfl<;>first|exact aB.refl _|exact aB.drew _⟩
theorem qJ {l:List Nat} {x:Nat} (h:x∈l):x<2^oV l:=oE.1 (Ak _) x h
theorem jT (l:List Nat) (pb:Nat) (w:World) (ac:nG w pb l):Calls Tryz.prog 152 #[.pointer (some ⟨pb,0,none⟩)] w λe w'=>e=.returned (.int .i64 (l.length:Nat))/\w=w':=by
 have c0:=ac.c0;go_enter Tryz.func152,Tryz.ntmps152
 go_wp2_with fail
 go_ret;exact⟨rfl,rfl⟩
theorem sH (l:List Nat) (pb i x:Nat) (w:World) (ac:nG w pb l) (hl:l.length<=1048576) (hn:∀n∈l,n<18446744073709551616) (hx:l[i]?=some x):Calls Tryz.prog 153 #[.pointer (some ⟨pb,0,none⟩),.int .i64 i] w λe w'=>e=.returned (.tuple #[.int .u64 x,.bool true])/\aB w w':=by
 obtain⟨wb,h1,h2,h3⟩:=ac.c2;have up:=(List.getElem?_eq_some_iff.1 hx).1;have CG:=Ad (rZ0 pb wb ((l.length*oV l+63)/64) (oV l) i x wb l w (oE.2 hn) hl hx (qJ (Ao hx)) (by omega) ac.c1 h2 h3);have CL:=Ad (jT l pb w ac);have h0:¬(i:Int)<0:=by omega
 have hi:(i:Int)<l.length:=by omega
 clear ac h2 h3 hx;go_enter Tryz.func153,Tryz.ntmps153
 go_wp2_with fail
 refine CL.out.mono ?_;rintro e w1 ⟨rfl,rfl⟩;go_wp2_with fail
 refine CG.out.mono ?_;rintro e w2 ⟨rfl,af⟩;go_wp2
 go_ret2;exact⟨rfl,af⟩
end
end Go.Proofs.YthgklnohcmaopaaGreatDoor
