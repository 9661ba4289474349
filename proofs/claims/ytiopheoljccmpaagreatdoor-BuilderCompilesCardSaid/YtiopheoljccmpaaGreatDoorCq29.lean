/- The texts Bset R18a, one behind the other. -/
import Derived.Test.YtiopheoljccmpaaGreatDoorCq3
import Derived.Test.YtiopheoljccmpaaGreatDoorCq27
import Derived.Test.YtiopheoljccmpaaGreatDoorCq23
import Derived.Test.YtiopheoljccmpaaGreatDoorCq24
import Derived.Test.YtiopheoljccmpaaGreatDoorCq9
import Derived.Test.YtiopheoljccmpaaGreatDoorCq19
import Derived.Test.YtiopheoljccmpaaGreatDoorShelf2
import Derived.Sort.OwnSorted
import Derived.Lib.OwnBridge
import Derived.Shelf.SlicesG.CompactS
import Derived.Shelf.SortM.Plain
import Derived.Test.YtiopheoljccmpaaGreatDoorCq20
open List renaming length_singleton → Aa,length_append → Ab,length_map → Af,getElem?_eq_getElem → Ah,length_mergeSort → Aj,replicate → Ak,getElem?_map → Al
open Go.Lib renaming compact → Ac,hid → Ae
open Nat renaming le_refl → Ad,zero_le → Am
open Go.Op renaming bytesLess → Ag
open ByteArray renaming empty → Ai
set_option maxHeartbeats 4000000
namespace Go.Proofs.YtiopheoljccmpaaGreatDoor
set_option maxRecDepth 100000
section
open Go Go.Shelf Go.RowKit Go.Lib Go.Sort
theorem jO1:∃i,Tryz.prog.info? 9=some i/\i.zero=some (.string Ai)/\i.size=1/\i.bytes=16:=by
 have h:(Tryz.prog.info? 9).map (λi=>(i.zero,i.size,i.bytes))=some (some (.string Ai),1,16):=by kernel_rfl
 cases hi:Tryz.prog.info? 9 with
 | none=>rw[hi]at h;cases h
 | some i =>
  rw[hi]at h;simp only[Option.map_some,Option.some.injEq,Prod.mk.injEq]at h;exact⟨i,rfl,h.1,h.2.1,h.2.2⟩
theorem lB0 (ks:List ByteArray):ks.flatMap stC=(bls ks).map encStr:=by
 show ks.flatMap (λs=>[Value.string s])=(ks.map (·.data.toList)).map encStr
 rw[Lib.map_encStr,tB]
def kT (ks:List ByteArray):List ByteArray:=(sU0 (bls ks)).map mkB
theorem yA (ks:List ByteArray):bls (kT ks)=sU0 (bls ks):=by
 unfold bls kT;rw[List.map_map];exact(List.map_congr_left λx _=>mU x).trans (List.map_id _)
theorem uS0 (ks:List ByteArray):(kT ks).flatMap stC=(sU0 (bls ks)).map encStr:=by
 rw[lB0,yA]
theorem pK0 (ks:List ByteArray):(kT ks).length=(sU0 (bls ks)).length:=by unfold kT; rw[Af]
theorem gK1 {w w1:World} {g cap nn q:Nat} {os:Array Obj} {ks:List ByteArray} (ae:aO w1 w.heap.size 9 1 stC (.slice (some ⟨g,0,none⟩) ks.length cap) ks) (hg:aB w w1) (hbg:w.heap.size<=g) :
  aO (putRow encStr (Sort.ahead (grow (putRow encStr (Sort.ahead w1 nn) g 0 ((bls ks).mergeSort λx y=>decide (x<=y)).toArray) os) q) g 0 (Ac ((bls ks).mergeSort λx y=>decide (x<=y))++Ak (((bls ks).mergeSort λx y=>decide (x<=y)).length-(Ac ((bls ks).mergeSort λx y=>decide (x<=y))).length) []).toArray) w.heap.size 9 1 stC (.slice (some ⟨g,0,none⟩) (Ac ((bls ks).mergeSort λx y=>decide (x<=y))).length cap) (kT ks) /\
  aB w (putRow encStr (Sort.ahead (grow (putRow encStr (Sort.ahead w1 nn) g 0 ((bls ks).mergeSort λx y=>decide (x<=y)).toArray) os) q) g 0 (Ac ((bls ks).mergeSort λx y=>decide (x<=y))++Ak (((bls ks).mergeSort λx y=>decide (x<=y)).length-(Ac ((bls ks).mergeSort λx y=>decide (x<=y))).length) []).toArray):=by
 have hl0:(bls ks).length=ks.length:=by unfold bls;rw[Af]
 have ja:((bls ks).mergeSort λx y=>decide (x<=y)).length=(bls ks).length:=Aj _;have o4:=Lib.compact_length_le ((bls ks).mergeSort λx y=>decide (x<=y));unfold aO at ae ⊢;rw[lB0,<-hl0]at ae;rw[uS0,pK0,<-vU];rcases ae.2 with ⟨h0,_⟩|⟨g',afi,ei,hv,dl,hb,h1,h2,h3,h4⟩
 ·cases h0
 cases hv
 have hs:=ownsRow_sorted (n:=nn) (os:=os) (ts:=(bls ks).mergeSort λx y=>decide (x<=y)) ja dl hb h1 h2 h3;have hc:=Lib.ownsRow_putRow (q:=q) (k:=(Ac ((bls ks).mergeSort λx y=>decide (x<=y))).length) (ys:=Ac ((bls ks).mergeSort λx y=>decide (x<=y))++Ak (((bls ks).mergeSort λx y=>decide (x<=y)).length-(Ac ((bls ks).mergeSort λx y=>decide (x<=y))).length) []) hs (by simp;omega) (by omega);rw[List.take_left]at hc;exact⟨hc,Lib.below_putRow ((show Below w.heap.size w w1 from hg).grown (grownBy_sorted _) (Below.size hg) (λj hj=>by cases hj;exact dl)) hbg⟩
theorem oG0 (key:En->ByteArray) (g:Nat) (eg:∀args w,(callFunc g args).run Tryz.prog w=.ok (.enter g args) w) (HG:∀(x:En) w,Calls Tryz.prog g #[x.agg] w λe w'=>e=.returned (.string (key x))/\aB w w')
  (l:List En) (a:Option Addr) (c:Nat) (w:World) (hl:l.length<=1048576) (ah:aF w a 5 (l.map bE)) :
  Calls Tryz.prog 35 #[.slice a l.length c,.func (.func g) #[] #[]] w λe w'=>aB w w'/\∃b cap,e=.returned (.slice (some ⟨b,0,none⟩) (kT (l.map key)).length cap)/\b<w'.heap.size/\aO w' w.heap.size 9 1 stC (.slice (some ⟨b,0,none⟩) (kT (l.map key)).length cap) (kT (l.map key)):=by
 have HAT:=Ae ah;have HGG:=λx w=>Ae (HG x w);obtain⟨ks,mz⟩:=exq (l.map key);have ud:ks.length=l.length:=by rw[mz,Af]
 rw[<-mz];have HKS:=Ae mz;obtain⟨iu,hiu,hzu,hsu,hbu⟩:=jO1;clear ah HG mz;go_enter Tryz.func35,Tryz.ntmps35
 go_wp2_with (at_make;refine wpList_make_own _ rfl _ _ 71 rfl w.heap.size 9 iu (.string Ai) 1 Tryz.underlying71 hiu hzu hsu .i64 .i64 _ l.length rfl rfl rfl (by rw[hbu];omega) (by unfold maxLen;omega) (Ad _) ?_;intro w1 ax afu)
 go_loopw [5,13] (λv i wr=>∃(k:Nat),k<=l.length/\i=.int .i64 k/\v ≠ .slice none 0 0/\aO wr w.heap.size 9 1 stC v (ks.take k)/\aB w wr) (λ_ i _=>l.length-(intOf i).toNat)
 case atStart=>exact⟨0,Am _,rfl,by simp,ax,(aB.refl w).grown afu (λq hq=>by cases hq)⟩
 case round =>
  clear ax afu hiu hzu hsu hbu;obtain⟨k,hk,rfl,hvn,ae,hg⟩:=hrel;by_cases af:k<l.length
  ·obtain⟨⟨xr,xs,xl,xt,xc⟩,hx⟩:∃x,l[k]?=some x:=⟨_,Ah af⟩
   obtain⟨ba,oa,rfl,cn⟩:=(HAT.out.grows hg).get (aH af);have c0:wr.cell? ⟨ba,oa+k*5,none⟩=some (.string xr):=cn k _ hx 0 _ rfl;have c1:wr.cell? ⟨ba,oa+k*5+1,none⟩=some (.string xs):=cn k _ hx 1 _ rfl;have c2:wr.cell? ⟨ba,oa+k*5+2,none⟩=some (.int .i64 xl):=cn k _ hx 2 _ rfl;have c3:wr.cell? ⟨ba,oa+k*5+3,none⟩=some (.int .i64 xt):=cn k _ hx 3 _ rfl;have c4:wr.cell? ⟨ba,oa+k*5+4,none⟩=some (.int .i64 xc):=cn k _ hx 4 _ rfl;obtain⟨kx,hkx⟩:=exq (key ⟨xr,xs,xl,xt,xc⟩);have HCG:=λW=>Ae (HGG ⟨xr,xs,xl,xt,xc⟩ W).out;rw[<-hkx]at HCG;have afv:ks[k]?=some kx:=by rw[HKS.out,Al,hx,hkx];rfl
   have HT:=Ae (aY afv);obtain⟨acc,bk⟩:=exq (ks.take k);have li:acc.length=k:=by rw[bk,List.length_take];omega
   rw[<-bk]at ae HT;clear cn hx hkx afv bk;go_wp2_with fail
   refine(HCG _).out.mono ?_;rintro e w2 ⟨rfl,an⟩;have ad7:=aB.trans _ _ _ (aB.alloc wr _) an;have aj:=ae.grows ad7;have gq:=aB.trans _ _ _ hg ad7;clear an ad7 ae c0 c1 c2 c3 c4;go_wp2_with (at_builtin;refine aV bP0 rfl _ _ rfl w.heap.size _ acc kx rfl aj (aB.refl _) _ 1 rfl #[.string kx] rfl rfl (by omega) gq.size ?_;intro v5 w5 ai _ _ bg)
   have hv5:v5 ≠ .slice none 0 0:=λe=>by
    obtain⟨a5,c5,e5,_⟩:=ai.at_ (k:=1) (λx=>(rfl:(stC x).length=1));rw[e5]at e;injection e with _ e6 _
    simp at e6
   have HG5:=bg w gq (Ad _);rw[<-HT.out]at ai;go_wp2_with fail
   go_roundw
   case rel=>exact⟨k+1,by omega,by go_num,hv5,ai,HG5⟩
   case measure=>simp[intOf];omega
  ·obtain rfl:k=l.length:=by omega
   rw[List.take_of_length_le (by omega)]at ae;obtain⟨b,cap,rfl,hbg,hgl,ajr,hcm,ay,hH⟩:=Lib.holds_of_ownsRow (enc:=encStr) (by rw[<-lB0];exact ae) hvn;have X:Aside (aO wr w.heap.size 9 1 stC (.slice (some ⟨b,0,none⟩) ks.length cap) ks/\aB w wr/\w.heap.size<=b/\b<wr.heap.size):=⟨ae,hg,hbg,hgl⟩;have aca:=Ae (AnyM.slices_Sort_string Tryz.sortS b 0 cap (bls ks) wr hH hgl (by omega));have ja:((bls ks).mergeSort λx y=>decide (x<=y)).length=ks.length:=by rw[Aj];exact ay
   have hH2:=λnn os=>Ae (show Holds encStr (grow (putRow encStr (Sort.ahead wr nn) b 0 ((bls ks).mergeSort λx y=>decide (x<=y)).toArray) os) b 0 ((bls ks).mergeSort λx y=>decide (x<=y)).toArray from
     holds_grow encStr _ os b 0 _ (by simpa [putRow,mapBlock,Sort.ahead] using hgl) (holds_putRow encStr _ b 0 _ _ (holds_ahead encStr wr nn b 0 _ hH) (by simp)))
   have aaf:=λnn os=>Ae (AnyG.slices_Compact_string Tryz.compactS b 0 cap _ _ (hH2 nn os).out (by omega) (by omega));have HEND:=λnn os q=>Ae (gK1 (w1:=wr) (nn:=nn) (q:=q) (os:=os) (ks:=ks) X.out.1 X.out.2.1 X.out.2.2.1);generalize hM:((bls ks).mergeSort λx y=>decide (x<=y))=M at *;rw[ay,ud]at aca;rw[ja,ud]at aaf;rw[ja,ud]at HEND;have hCl:(compact M).length=(kT ks).length:=by rw[<-hM,vU,pK0]
   rw[hCl]at aaf HEND;clear ae hH hH2;go_wp2_with fail
   refine aca.out.mono ?_;rintro e w2 ⟨rfl,nn,os,rfl⟩;go_wp2_with fail
   refine(aaf nn os).out.mono ?_;rintro e w3 ⟨rfl,q,rfl⟩;go_wp2_with fail
   go_ret;exact⟨(HEND nn os q).out.2,b,cap,rfl,by simpa [putRow,mapBlock,Sort.ahead,grow] using Nat.lt_of_lt_of_le X.out.2.2.2 (Nat.le_add_right _ _),(HEND nn os q).out.1⟩
end
section
open Go Go.RowKit Go.Shelf
attribute [local go_sem] aM aP
def aW0 (B:List ByteArray) (s:ByteArray) (k:Nat):List (List UInt8)×Bool:=((bls B).take k).foldl (fC (bl s)) ([],false)
theorem rY0 {B:List ByteArray} {s x:ByteArray} {k:Nat} (h:B[k]?=some x):aW0 B s (k+1)=fC (bl s) (aW0 B s k) (bl x):=by
 unfold aW0;rw[aY (show (bls B)[k]?=some (bl x) by unfold bls;rw[Al,h];rfl),List.foldl_append]
 rfl
theorem xN0 (B:List ByteArray) (s:ByteArray):aI1 (bls B) (bl s)=xJ (bl s) (aW0 B s B.length):=by
 unfold aW0 aI1;rw[show B.length=(bls B).length by unfold bls;rw[Af],List.take_length]
theorem kB (l:List ByteArray) (x:ByteArray):bls (l++[x])=bls l++[bl x]:=by simp[bls]
theorem oO (x:ByteArray):x.toList=bl x:=Lib.toList_data x
theorem oM0 (B:List ByteArray) (s:ByteArray) (a:Option Addr) (c:Nat) (w:World) (hl:B.length<=1048576) (ah:aF w a 1 (B.map stC)) :
  Calls Tryz.prog 175 #[.slice a B.length c,.string s] w λe w'=>aB w w'/\∃v out,bls out=aI1 (bls B) (bl s)/\e=.returned v/\aO w' w.heap.size 9 1 stC v out:=by
 have HAT:=Ae ah;clear ah;go_enter Tryz.func175,Tryz.ntmps175
 go_wp2_with fail
 go_loopw [5,6,7] (λv d i wr=>∃(k:Nat) (out:List ByteArray) (dn:Bool),k<=B.length/\i=.int .i64 k/\d=.bool dn/\Hid ((bls out,dn)=aW0 B s k)/\out.length<=2*k/\aO wr w.heap.size 9 1 stC v out/\aB w wr) (λ_ _ i _=>B.length-(intOf i).toNat)
 case atStart=>exact⟨0,[],false,Am _,rfl,rfl,rfl,Am _,aO.nil _ _ _ _ _,aB.refl _⟩
 case round =>
  obtain⟨k,out,dn,hk,rfl,rfl,hF,uj,ae,hg⟩:=hrel;by_cases af:k<B.length
  ·obtain⟨x,hx⟩:∃x,B[k]?=some x:=⟨_,Ah af⟩
   obtain⟨b,o,rfl,hc⟩:=at1 (f:=Value.string) HAT.out (aH af);have lh:=Ae (hc k x hx);have jy:=hg.cell lh.out;have di:(k:Int)<B.length:=by omega
   have HS:=Ae (rY0 (s:=s) hx);rw[<-hF.out]at HS;clear hc hx hF;by_cases he:x=s
   ·subst he
    have hb:Ag x.toList x.toList=false:=by rw[bytesLess_irrefl]
    have mj:(x.toList==x.toList)=true:=by simp
    have HB:Hid (Ag (bl x) (bl x)=false):=by rw[<-oO];exact hb
    have HE:Hid (bl x=bl x):=rfl
    cases dn with
    | false =>
     have HN:Hid ((bls (out++[x]),true)=aW0 B x (k+1)):=by
      show _=_
      rw[HS.out];unfold fC;simp only[kB];simp[HB.out]
     clear HS;go_wp2_with (at_builtin;refine aV bP0 rfl _ _ rfl w.heap.size _ out x rfl ae (aB.refl _) _ 1 rfl #[.string x] rfl rfl (by first|omega|(rw[Ab,Aa];omega)) hg.size ?_;intro v4 w4 bv _ _ kh;have cd:=kh w hg (Ad _);have ad8:=cd.cell lh.out;clear ae hg kh)
     go_wp2_with fail
     go_roundw
     case rel=>exact⟨k+1,(out++[x]),true,af,by go_num,rfl,HN,by simp only[Ab,Aa];omega,bv,cd⟩
     case measure=>simp[intOf];omega
    | true =>
     have HN:Hid ((bls out,true)=aW0 B x (k+1)):=by
      show _=_
      rw[HS.out];unfold fC;simp only;simp[HB.out]
     clear HS;go_wp2_with fail
     go_roundw
     case rel=>exact⟨k+1,out,true,af,by go_num,rfl,HN,by omega,ae,hg⟩
     case measure=>simp[intOf];omega
   ·have mj:(x.toList==s.toList)=false:=by simpa using λh=>he (dR h)
    have HE:Hid (bl x≠bl s):=λh=>he (bD0 h)
    cases dn with
    | true =>
     have HB:Hid (True):=trivial
     have HN:Hid ((bls (out++[x]),true)=aW0 B s (k+1)):=by
      show _=_
      rw[HS.out];unfold fC;simp only[kB];simp[HE.out]
     clear HS;go_wp2_with (at_builtin;refine aV bP0 rfl _ _ rfl w.heap.size _ out x rfl ae (aB.refl _) _ 1 rfl #[.string x] rfl rfl (by first|omega|(rw[Ab,Aa];omega)) hg.size ?_;intro v4 w4 bv _ _ kh;have cd:=kh w hg (Ad _);have ad8:=cd.cell lh.out;clear ae hg kh)
     go_wp2_with fail
     go_roundw
     case rel=>exact⟨k+1,(out++[x]),true,af,by go_num,rfl,HN,by simp only[Ab,Aa];omega,bv,cd⟩
     case measure=>simp[intOf];omega
    | false =>
     cases hb:Ag x.toList s.toList with
     | true =>
      have HB:Hid (Ag (bl x) (bl s)=true):=by rw[<-oO,<-oO];exact hb
      have HN:Hid ((bls (out++[x]),false)=aW0 B s (k+1)):=by
       show _=_
       rw[HS.out];unfold fC;simp only[kB];simp[HB.out,HE.out]
      clear HS;go_wp2_with (at_builtin;refine aV bP0 rfl _ _ rfl w.heap.size _ out x rfl ae (aB.refl _) _ 1 rfl #[.string x] rfl rfl (by first|omega|(rw[Ab,Aa];omega)) hg.size ?_;intro v4 w4 bv _ _ kh;have cd:=kh w hg (Ad _);have ad8:=cd.cell lh.out;clear ae hg kh)
      go_wp2_with fail
      go_roundw
      case rel=>exact⟨k+1,(out++[x]),false,af,by go_num,rfl,HN,by simp only[Ab,Aa];omega,bv,cd⟩
      case measure=>simp[intOf];omega
     | false =>
      have HB:Hid (Ag (bl x) (bl s)=false):=by rw[<-oO,<-oO];exact hb
      have HN:Hid ((bls ((out++[s])++[x]),true)=aW0 B s (k+1)):=by
       show _=_
       rw[HS.out];unfold fC;simp only[kB];simp[HB.out,HE.out]
      clear HS;go_wp2_with (at_builtin;first|(refine aV bP0 rfl _ _ rfl w.heap.size _ out s rfl ae (aB.refl _) _ 1 rfl #[.string s] rfl rfl (by first|omega|(rw[Ab,Aa];omega)) hg.size ?_;intro v4 w4 bv _ _ kh;have cd:=kh w hg (Ad _);have ad8:=cd.cell lh.out;clear ae hg kh)|(refine aV bP0 rfl _ _ rfl w.heap.size _ (out++[s]) x rfl bv (aB.refl _) _ 1 rfl #[.string x] rfl rfl (by first|omega|(rw[Ab,Aa];omega)) cd.size ?_;intro v5 w5 ai _ _ aa2;have bg:=aa2 w cd (Ad _);have akh:=bg.cell lh.out;clear bv cd aa2))
      go_wp2_with fail
      go_roundw
      case rel=>exact⟨k+1,((out++[s])++[x]),true,af,by go_num,rfl,HN,by simp only[Ab,Aa];omega,ai,bg⟩
      case measure=>simp[intOf];omega
  ·obtain rfl:k=B.length:=by omega
   have HE:=Ae (xN0 B s);rw[<-hF.out]at HE
   cases dn with
   | true =>
    go_wp2_with fail
    go_ret;exact⟨hg,_,out,by rw[HE.out];unfold xJ;rfl,rfl,ae⟩
   | false =>
    go_wp2_with (at_builtin;refine aV bP0 rfl _ _ rfl w.heap.size _ out s rfl ae (aB.refl _) _ 1 rfl #[.string s] rfl rfl (by omega) hg.size ?_;intro v4 w4 bv _ _ kh)
    have cd:=kh w hg (Ad _);clear ae hg;go_wp2_with fail
    go_ret;exact⟨cd,_,out++[s],by rw[HE.out];unfold xJ;rw[kB];rfl,rfl,bv⟩
end
end Go.Proofs.YtiopheoljccmpaaGreatDoor
