/- The texts Bset R18a, one behind the other. -/
import Derived.Test.YthgklnohcmaopaaGreatDoorTq3
import Derived.Test.YthgklnohcmaopaaGreatDoorTq26
import Derived.Test.YthgklnohcmaopaaGreatDoorTq22
import Derived.Test.YthgklnohcmaopaaGreatDoorTq30
import Derived.Test.YthgklnohcmaopaaGreatDoorTq8
import Derived.Test.YthgklnohcmaopaaGreatDoorTq19
import Derived.Test.YthgklnohcmaopaaGreatDoorShelf2
import Derived.Sort.OwnSorted
import Derived.Lib.OwnBridge
import Derived.Shelf.SlicesG.CompactS
import Derived.Shelf.SortM.Plain
import Derived.Test.YthgklnohcmaopaaGreatDoorTq20
open Go.Lib renaming compact → Aa,hid → Ab
open ByteArray renaming empty → Ac
open List renaming length_map → Ad,length_mergeSort → Ae,replicate → Af
open Nat renaming le_refl → Ag
set_option maxHeartbeats 4000000
namespace Go.Proofs.YthgklnohcmaopaaGreatDoor
set_option maxRecDepth 100000
section
open Go Go.Shelf Go.RowKit Go.Lib Go.Sort
theorem bX1:∃i,Tryz.prog.info? 9=some i/\i.zero=some (.string Ac)/\i.size=1/\i.bytes=16:=by
 have h:(Tryz.prog.info? 9).map (λi=>(i.zero,i.size,i.bytes))=some (some (.string Ac),1,16):=by kernel_rfl
 cases hi:Tryz.prog.info? 9 with
 | none=>rw[hi]at h;cases h
 | some i =>
  rw[hi]at h;simp only[Option.map_some,Option.some.injEq,Prod.mk.injEq]at h;exact⟨i,rfl,h.1,h.2.1,h.2.2⟩
theorem iK0 (ks:List ByteArray):ks.flatMap stC=(bls ks).map encStr:=by
 show ks.flatMap (λs=>[Value.string s])=(ks.map (·.data.toList)).map encStr
 rw[Lib.map_encStr,qN]
def rT (ks:List ByteArray):List ByteArray:=(oH0 (bls ks)).map mkB
theorem lA0 (ks:List ByteArray):bls (rT ks)=oH0 (bls ks):=by
 unfold bls rT;rw[List.map_map];exact(List.map_congr_left λx _=>bQ x).trans (List.map_id _)
theorem sP0 (ks:List ByteArray):(rT ks).flatMap stC=(oH0 (bls ks)).map encStr:=by
 rw[iK0,lA0]
theorem jI0 (ks:List ByteArray):(rT ks).length=(oH0 (bls ks)).length:=by unfold rT; rw[Ad]
theorem zM0 {w w1:World} {g cap nn q:Nat} {os:Array Obj} {ks:List ByteArray} (aa:aU w1 w.heap.size 9 1 stC (.slice (some ⟨g,0,none⟩) ks.length cap) ks) (hg:aB w w1) (x9:w.heap.size<=g) :
  aU (putRow encStr (Sort.ahead (grow (putRow encStr (Sort.ahead w1 nn) g 0 ((bls ks).mergeSort λx y=>decide (x<=y)).toArray) os) q) g 0 (Aa ((bls ks).mergeSort λx y=>decide (x<=y))++Af (((bls ks).mergeSort λx y=>decide (x<=y)).length-(Aa ((bls ks).mergeSort λx y=>decide (x<=y))).length) []).toArray) w.heap.size 9 1 stC (.slice (some ⟨g,0,none⟩) (Aa ((bls ks).mergeSort λx y=>decide (x<=y))).length cap) (rT ks) /\
  aB w (putRow encStr (Sort.ahead (grow (putRow encStr (Sort.ahead w1 nn) g 0 ((bls ks).mergeSort λx y=>decide (x<=y)).toArray) os) q) g 0 (Aa ((bls ks).mergeSort λx y=>decide (x<=y))++Af (((bls ks).mergeSort λx y=>decide (x<=y)).length-(Aa ((bls ks).mergeSort λx y=>decide (x<=y))).length) []).toArray):=by
 have xj:(bls ks).length=ks.length:=by unfold bls;rw[Ad]
 have jc:((bls ks).mergeSort λx y=>decide (x<=y)).length=(bls ks).length:=Ae _;have jd:=Lib.compact_length_le ((bls ks).mergeSort λx y=>decide (x<=y));unfold aU at aa ⊢;rw[iK0,<-xj]at aa;rw[sP0,jI0,<-sH];rcases aa.2 with ⟨h0,_⟩|⟨g',acb,bv,hv,bi,hb,h1,h2,h3,h4⟩
 ·cases h0
 cases hv
 have hs:=ownsRow_sorted (n:=nn) (os:=os) (ts:=(bls ks).mergeSort λx y=>decide (x<=y)) jc bi hb h1 h2 h3;have hc:=Lib.ownsRow_putRow (q:=q) (k:=(Aa ((bls ks).mergeSort λx y=>decide (x<=y))).length) (ys:=Aa ((bls ks).mergeSort λx y=>decide (x<=y))++Af (((bls ks).mergeSort λx y=>decide (x<=y)).length-(Aa ((bls ks).mergeSort λx y=>decide (x<=y))).length) []) hs (by simp;omega) (by omega);rw[List.take_left]at hc;exact⟨hc,Lib.below_putRow ((show Below w.heap.size w w1 from hg).grown (grownBy_sorted _) (Below.size hg) (λj hj=>by cases hj;exact bi)) x9⟩
theorem kZ0 (key:En->ByteArray) (g:Nat) (eg:∀args w,(callFunc g args).run Tryz.prog w=.ok (.enter g args) w) (HG:∀(x:En) w,Calls Tryz.prog g #[x.agg] w λe w'=>e=.returned (.string (key x))/\aB w w')
  (l:List En) (a:Option Addr) (c:Nat) (w:World) (hl:l.length<=1048576) (ac:aF w a 5 (l.map aZ)) :
  Calls Tryz.prog 51 #[.slice a l.length c,.func (.func g) #[] #[]] w λe w'=>aB w w'/\∃b cap,e=.returned (.slice (some ⟨b,0,none⟩) (rT (l.map key)).length cap)/\b<w'.heap.size/\aU w' w.heap.size 9 1 stC (.slice (some ⟨b,0,none⟩) (rT (l.map key)).length cap) (rT (l.map key)):=by
 have HAT:=Ab ac;have HGG:=λx w=>Ab (HG x w);obtain⟨ks,j9⟩:=exq (l.map key);have mf:ks.length=l.length:=by rw[j9,Ad]
 rw[<-j9];have HKS:=Ab j9;obtain⟨iu,yo,yq,yu,yv⟩:=bX1;clear ac HG j9;go_enter Tryz.func51,Tryz.ntmps51
 go_wp2_with (at_make;refine wpList_make_own _ rfl _ _ 65 rfl w.heap.size 9 iu (.string Ac) 1 Tryz.underlying65 yo yq yu .i64 .i64 _ l.length rfl rfl rfl (by rw[yv];omega) (by unfold maxLen;omega) (Ag _) ?_;intro w1 av acx)
 go_loopw [5,13] (λv i wr=>∃(k:Nat),k<=l.length/\i=.int .i64 k/\v ≠ .slice none 0 0/\aU wr w.heap.size 9 1 stC v (ks.take k)/\aB w wr) (λ_ i _=>l.length-(intOf i).toNat)
 case atStart=>exact⟨0,Nat.zero_le _,rfl,by simp,av,(aB.refl w).grown acx (λq hq=>by cases hq)⟩
 case round =>
  clear av acx yo yq yu yv;obtain⟨k,hk,rfl,hvn,aa,hg⟩:=hrel;by_cases ae:k<l.length
  ·obtain⟨⟨xr,xs,xl,xt,xc⟩,hx⟩:∃x,l[k]?=some x:=⟨_,List.getElem?_eq_getElem ae⟩
   obtain⟨ba,oa,rfl,ci⟩:=(HAT.out.grows hg).get (aH ae);have c0:wr.cell? ⟨ba,oa+k*5,none⟩=some (.string xr):=ci k _ hx 0 _ rfl;have c1:wr.cell? ⟨ba,oa+k*5+1,none⟩=some (.string xs):=ci k _ hx 1 _ rfl;have c2:wr.cell? ⟨ba,oa+k*5+2,none⟩=some (.int .i64 xl):=ci k _ hx 2 _ rfl;have c3:wr.cell? ⟨ba,oa+k*5+3,none⟩=some (.int .i64 xt):=ci k _ hx 3 _ rfl;have c4:wr.cell? ⟨ba,oa+k*5+4,none⟩=some (.int .i64 xc):=ci k _ hx 4 _ rfl;obtain⟨kx,hkx⟩:=exq (key ⟨xr,xs,xl,xt,xc⟩);have HCG:=λW=>Ab (HGG ⟨xr,xs,xl,xt,xc⟩ W).out;rw[<-hkx]at HCG;have acy:ks[k]?=some kx:=by rw[HKS.out,List.getElem?_map,hx,hkx];rfl
   have HT:=Ab (bT acy);obtain⟨acc,bh⟩:=exq (ks.take k);have js:acc.length=k:=by rw[bh,List.length_take];omega
   rw[<-bh]at aa HT;clear ci hx hkx acy bh;go_wp2_with fail
   refine(HCG _).out.mono ?_;rintro e w2 ⟨rfl,af⟩;have aax:=aB.trans _ _ _ (aB.alloc wr _) af;have ag:=aa.grows aax;have dh:=aB.trans _ _ _ hg aax;clear af aax aa c0 c1 c2 c3 c4;go_wp2_with (at_builtin;refine eZ dB1 rfl _ _ rfl w.heap.size _ acc kx rfl ag (aB.refl _) _ 1 rfl #[.string kx] rfl rfl (by omega) dh.size ?_;intro v5 w5 ak _ _ bk)
   have hv5:v5 ≠ .slice none 0 0:=λe=>by
    obtain⟨a5,c5,e5,_⟩:=ak.at_ (k:=1) (λx=>(rfl:(stC x).length=1));rw[e5]at e;injection e with _ e6 _
    simp at e6
   have HG5:=bk w dh (Ag _);rw[<-HT.out]at ak;go_wp2_with fail
   go_roundw
   case rel=>exact⟨k+1,by omega,by go_num,hv5,ak,HG5⟩
   case measure=>simp[intOf];omega
  ·obtain rfl:k=l.length:=by omega
   rw[List.take_of_length_le (by omega)]at aa;obtain⟨b,cap,rfl,x9,mq,ag6,hcm,an,hH⟩:=Lib.holds_of_ownsRow (enc:=encStr) (by rw[<-iK0];exact aa) hvn;have X:Aside (aU wr w.heap.size 9 1 stC (.slice (some ⟨b,0,none⟩) ks.length cap) ks/\aB w wr/\w.heap.size<=b/\b<wr.heap.size):=⟨aa,hg,x9,mq⟩;have yw:=Ab (AnyM.slices_Sort_string Tryz.sortS b 0 cap (bls ks) wr hH mq (by omega));have jc:((bls ks).mergeSort λx y=>decide (x<=y)).length=ks.length:=by rw[Ae];exact an
   have hH2:=λnn os=>Ab (show Holds encStr (grow (putRow encStr (Sort.ahead wr nn) b 0 ((bls ks).mergeSort λx y=>decide (x<=y)).toArray) os) b 0 ((bls ks).mergeSort λx y=>decide (x<=y)).toArray from
     holds_grow encStr _ os b 0 _ (by simpa [putRow,mapBlock,Sort.ahead] using mq) (holds_putRow encStr _ b 0 _ _ (holds_ahead encStr wr nn b 0 _ hH) (by simp)))
   have rr:=λnn os=>Ab (AnyG.slices_Compact_string Tryz.compactS b 0 cap _ _ (hH2 nn os).out (by omega) (by omega));have HEND:=λnn os q=>Ab (zM0 (w1:=wr) (nn:=nn) (q:=q) (os:=os) (ks:=ks) X.out.1 X.out.2.1 X.out.2.2.1);generalize hM:((bls ks).mergeSort λx y=>decide (x<=y))=M at *;rw[an,mf]at yw;rw[jc,mf]at rr;rw[jc,mf]at HEND;have hCl:(compact M).length=(rT ks).length:=by rw[<-hM,sH,jI0]
   rw[hCl]at rr HEND;clear aa hH hH2;go_wp2_with fail
   refine yw.out.mono ?_;rintro e w2 ⟨rfl,nn,os,rfl⟩;go_wp2_with fail
   refine(rr nn os).out.mono ?_;rintro e w3 ⟨rfl,q,rfl⟩;go_wp2_with fail
   go_ret;exact⟨(HEND nn os q).out.2,b,cap,rfl,by simpa [putRow,mapBlock,Sort.ahead,grow] using Nat.lt_of_lt_of_le X.out.2.2.2 (Nat.le_add_right _ _),(HEND nn os q).out.1⟩
end
section
open Go Go.RowKit Go.Shelf
attribute [local go_sem] aK aP
end
end Go.Proofs.YthgklnohcmaopaaGreatDoor
