/- The texts Bset R18a, one behind the other. -/
import Derived.Test.YthgklnohcmaopaaGreatDoorBq3
import Derived.Test.YthgklnohcmaopaaGreatDoorBq22
import Derived.Test.YthgklnohcmaopaaGreatDoorBq19
import Derived.Test.YthgklnohcmaopaaGreatDoorBq27
import Derived.Test.YthgklnohcmaopaaGreatDoorBq6
import Derived.Test.YthgklnohcmaopaaGreatDoorBq17
import Derived.Test.YthgklnohcmaopaaGreatDoorShelf2
import Derived.Sort.OwnSorted
import Derived.Lib.OwnBridge
import Derived.Shelf.SlicesG.CompactS
import Derived.Shelf.SortM.Plain
import Derived.Test.YthgklnohcmaopaaGreatDoorBq18
open Go.Lib renaming compact → Aa,hid → Ab
open ByteArray renaming empty → Ac
open List renaming length_map → Ad,length_mergeSort → Ae,replicate → Af
open Nat renaming le_refl → Ag
set_option maxHeartbeats 4000000
namespace Go.Proofs.YthgklnohcmaopaaGreatDoor
set_option maxRecDepth 100000
section
open Go Go.Shelf Go.RowKit Go.Lib Go.Sort
theorem xS0:∃i,Tryz.prog.info? 9=some i/\i.zero=some (.string Ac)/\i.size=1/\i.bytes=16:=by
 have h:(Tryz.prog.info? 9).map (λi=>(i.zero,i.size,i.bytes))=some (some (.string Ac),1,16):=by kernel_rfl
 cases hi:Tryz.prog.info? 9 with
 | none=>rw[hi]at h;cases h
 | some i =>
  rw[hi]at h;simp only[Option.map_some,Option.some.injEq,Prod.mk.injEq]at h;exact⟨i,rfl,h.1,h.2.1,h.2.2⟩
theorem dM0 (ks:List ByteArray):ks.flatMap stC=(bls ks).map encStr:=by
 show ks.flatMap (λs=>[Value.string s])=(ks.map (·.data.toList)).map encStr
 rw[Lib.map_encStr,kN]
def pV (ks:List ByteArray):List ByteArray:=(kX0 (bls ks)).map mkB
theorem fV0 (ks:List ByteArray):bls (pV ks)=kX0 (bls ks):=by
 unfold bls pV;rw[List.map_map];exact(List.map_congr_left λx _=>gO x).trans (List.map_id _)
theorem mK0 (ks:List ByteArray):(pV ks).flatMap stC=(kX0 (bls ks)).map encStr:=by
 rw[dM0,fV0]
theorem fN0 (ks:List ByteArray):(pV ks).length=(kX0 (bls ks)).length:=by unfold pV; rw[Ad]
theorem wJ0 {w w1:World} {g cap nn q:Nat} {os:Array Obj} {ks:List ByteArray} (aa:aT w1 w.heap.size 9 1 stC (.slice (some ⟨g,0,none⟩) ks.length cap) ks) (hg:aB w w1) (zk:w.heap.size<=g) :
  aT (putRow encStr (Sort.ahead (grow (putRow encStr (Sort.ahead w1 nn) g 0 ((bls ks).mergeSort λx y=>decide (x<=y)).toArray) os) q) g 0 (Aa ((bls ks).mergeSort λx y=>decide (x<=y))++Af (((bls ks).mergeSort λx y=>decide (x<=y)).length-(Aa ((bls ks).mergeSort λx y=>decide (x<=y))).length) []).toArray) w.heap.size 9 1 stC (.slice (some ⟨g,0,none⟩) (Aa ((bls ks).mergeSort λx y=>decide (x<=y))).length cap) (pV ks) /\
  aB w (putRow encStr (Sort.ahead (grow (putRow encStr (Sort.ahead w1 nn) g 0 ((bls ks).mergeSort λx y=>decide (x<=y)).toArray) os) q) g 0 (Aa ((bls ks).mergeSort λx y=>decide (x<=y))++Af (((bls ks).mergeSort λx y=>decide (x<=y)).length-(Aa ((bls ks).mergeSort λx y=>decide (x<=y))).length) []).toArray):=by
 have ux:(bls ks).length=ks.length:=by unfold bls;rw[Ad]
 have kv:((bls ks).mergeSort λx y=>decide (x<=y)).length=(bls ks).length:=Ae _;have np:=Lib.compact_length_le ((bls ks).mergeSort λx y=>decide (x<=y));unfold aT at aa ⊢;rw[dM0,<-ux]at aa;rw[mK0,fN0,<-qL];rcases aa.2 with ⟨h0,_⟩|⟨g',ry,b9,hv,be,hb,h1,h2,h3,h4⟩
 ·cases h0
 cases hv
 have hs:=ownsRow_sorted (n:=nn) (os:=os) (ts:=(bls ks).mergeSort λx y=>decide (x<=y)) kv be hb h1 h2 h3;have hc:=Lib.ownsRow_putRow (q:=q) (k:=(Aa ((bls ks).mergeSort λx y=>decide (x<=y))).length) (ys:=Aa ((bls ks).mergeSort λx y=>decide (x<=y))++Af (((bls ks).mergeSort λx y=>decide (x<=y)).length-(Aa ((bls ks).mergeSort λx y=>decide (x<=y))).length) []) hs (by simp;omega) (by omega);rw[List.take_left]at hc;exact⟨hc,Lib.below_putRow ((show Below w.heap.size w w1 from hg).grown (grownBy_sorted _) (Below.size hg) (λj hj=>by cases hj;exact be)) zk⟩
theorem fY0 (key:En->ByteArray) (g:Nat) (eg:∀args w,(callFunc g args).run Tryz.prog w=.ok (.enter g args) w) (HG:∀(x:En) w,Calls Tryz.prog g #[x.agg] w λe w'=>e=.returned (.string (key x))/\aB w w')
  (l:List En) (a:Option Addr) (c:Nat) (w:World) (hl:l.length<=1048576) (ac:aF w a 5 (l.map aZ)) :
  Calls Tryz.prog 51 #[.slice a l.length c,.func (.func g) #[] #[]] w λe w'=>aB w w'/\∃b cap,e=.returned (.slice (some ⟨b,0,none⟩) (pV (l.map key)).length cap)/\b<w'.heap.size/\aT w' w.heap.size 9 1 stC (.slice (some ⟨b,0,none⟩) (pV (l.map key)).length cap) (pV (l.map key)):=by
 have HAT:=Ab ac;have HGG:=λx w=>Ab (HG x w);obtain⟨ks,lk⟩:=exq (l.map key);have lm:ks.length=l.length:=by rw[lk,Ad]
 rw[<-lk];have HKS:=Ab lk;obtain⟨iu,vo,vp,vq,vr⟩:=xS0;clear ac HG lk;go_enter Tryz.func51,Tryz.ntmps51
 go_wp2_with (at_make;refine wpList_make_own _ rfl _ _ 65 rfl w.heap.size 9 iu (.string Ac) 1 Tryz.underlying65 vo vp vq .i64 .i64 _ l.length rfl rfl rfl (by rw[vr];omega) (by unfold maxLen;omega) (Ag _) ?_;intro w1 ar abq)
 go_loopw [5,13] (λv i wr=>∃(k:Nat),k<=l.length/\i=.int .i64 k/\v ≠ .slice none 0 0/\aT wr w.heap.size 9 1 stC v (ks.take k)/\aB w wr) (λ_ i _=>l.length-(intOf i).toNat)
 case atStart=>exact⟨0,Nat.zero_le _,rfl,by simp,ar,(aB.refl w).grown abq (λq hq=>by cases hq)⟩
 case round =>
  clear ar abq vo vp vq vr;obtain⟨k,hk,rfl,hvn,aa,hg⟩:=hrel;by_cases ae:k<l.length
  ·obtain⟨⟨xr,xs,xl,xt,xc⟩,hx⟩:∃x,l[k]?=some x:=⟨_,List.getElem?_eq_getElem ae⟩
   obtain⟨ba,oa,rfl,cm⟩:=(HAT.out.grows hg).get (aH ae);have c0:wr.cell? ⟨ba,oa+k*5,none⟩=some (.string xr):=cm k _ hx 0 _ rfl;have c1:wr.cell? ⟨ba,oa+k*5+1,none⟩=some (.string xs):=cm k _ hx 1 _ rfl;have c2:wr.cell? ⟨ba,oa+k*5+2,none⟩=some (.int .i64 xl):=cm k _ hx 2 _ rfl;have c3:wr.cell? ⟨ba,oa+k*5+3,none⟩=some (.int .i64 xt):=cm k _ hx 3 _ rfl;have c4:wr.cell? ⟨ba,oa+k*5+4,none⟩=some (.int .i64 xc):=cm k _ hx 4 _ rfl;obtain⟨kx,hkx⟩:=exq (key ⟨xr,xs,xl,xt,xc⟩);have HCG:=λW=>Ab (HGG ⟨xr,xs,xl,xt,xc⟩ W).out;rw[<-hkx]at HCG;have abr:ks[k]?=some kx:=by rw[HKS.out,List.getElem?_map,hx,hkx];rfl
   have HT:=Ab (bM abr);obtain⟨bd,bh⟩:=exq (ks.take k);have mg:bd.length=k:=by rw[bh,List.length_take];omega
   rw[<-bh]at aa HT;clear cm hx hkx abr bh;go_wp2_with fail
   refine(HCG _).out.mono ?_;rintro e w2 ⟨rfl,ah⟩;have zp:=aB.trans _ _ _ (aB.alloc wr _) ah;have af:=aa.grows zp;have cr:=aB.trans _ _ _ hg zp;clear ah zp aa c0 c1 c2 c3 c4;go_wp2_with (at_builtin;refine eA xO0 rfl _ _ rfl w.heap.size _ bd kx rfl af (aB.refl _) _ 1 rfl #[.string kx] rfl rfl (by omega) cr.size ?_;intro v5 w5 ai _ _ bk)
   have hv5:v5 ≠ .slice none 0 0:=λe=>by
    obtain⟨a5,c5,e5,_⟩:=ai.at_ (k:=1) (λx=>(rfl:(stC x).length=1));rw[e5]at e;injection e with _ e6 _
    simp at e6
   have HG5:=bk w cr (Ag _);rw[<-HT.out]at ai;go_wp2_with fail
   go_roundw
   case rel=>exact⟨k+1,by omega,by go_num,hv5,ai,HG5⟩
   case measure=>simp[intOf];omega
  ·obtain rfl:k=l.length:=by omega
   rw[List.take_of_length_le (by omega)]at aa;obtain⟨b,cap,rfl,zk,hgl,afh,hcm,ak,hH⟩:=Lib.holds_of_ownsRow (enc:=encStr) (by rw[<-dM0];exact aa) hvn;have X:Aside (aT wr w.heap.size 9 1 stC (.slice (some ⟨b,0,none⟩) ks.length cap) ks/\aB w wr/\w.heap.size<=b/\b<wr.heap.size):=⟨aa,hg,zk,hgl⟩;have vs:=Ab (AnyM.slices_Sort_string Tryz.sortS b 0 cap (bls ks) wr hH hgl (by omega));have kv:((bls ks).mergeSort λx y=>decide (x<=y)).length=ks.length:=by rw[Ae];exact ak
   have hH2:=λnn os=>Ab (show Holds encStr (grow (putRow encStr (Sort.ahead wr nn) b 0 ((bls ks).mergeSort λx y=>decide (x<=y)).toArray) os) b 0 ((bls ks).mergeSort λx y=>decide (x<=y)).toArray from
     holds_grow encStr _ os b 0 _ (by simpa [putRow,mapBlock,Sort.ahead] using hgl) (holds_putRow encStr _ b 0 _ _ (holds_ahead encStr wr nn b 0 _ hH) (by simp)))
   have pg:=λnn os=>Ab (AnyG.slices_Compact_string Tryz.compactS b 0 cap _ _ (hH2 nn os).out (by omega) (by omega));have HEND:=λnn os q=>Ab (wJ0 (w1:=wr) (nn:=nn) (q:=q) (os:=os) (ks:=ks) X.out.1 X.out.2.1 X.out.2.2.1);generalize hM:((bls ks).mergeSort λx y=>decide (x<=y))=M at *;rw[ak,lm]at vs;rw[kv,lm]at pg;rw[kv,lm]at HEND;have hCl:(compact M).length=(pV ks).length:=by rw[<-hM,qL,fN0]
   rw[hCl]at pg HEND;clear aa hH hH2;go_wp2_with fail
   refine vs.out.mono ?_;rintro e w2 ⟨rfl,nn,os,rfl⟩;go_wp2_with fail
   refine(pg nn os).out.mono ?_;rintro e w3 ⟨rfl,q,rfl⟩;go_wp2_with fail
   go_ret;exact⟨(HEND nn os q).out.2,b,cap,rfl,by simpa [putRow,mapBlock,Sort.ahead,grow] using Nat.lt_of_lt_of_le X.out.2.2.2 (Nat.le_add_right _ _),(HEND nn os q).out.1⟩
end
section
open Go Go.RowKit Go.Shelf
attribute [local go_sem] aM aO
end
end Go.Proofs.YthgklnohcmaopaaGreatDoor
