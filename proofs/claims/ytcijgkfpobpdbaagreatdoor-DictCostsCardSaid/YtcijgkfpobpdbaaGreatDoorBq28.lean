/- The texts Bset R18a, one behind the other. -/
import Derived.Test.YtcijgkfpobpdbaaGreatDoorBq5
import Derived.Test.YtcijgkfpobpdbaaGreatDoorBq27
import Derived.Test.YtcijgkfpobpdbaaGreatDoorBq24
import Derived.Test.YtcijgkfpobpdbaaGreatDoorBq26
import Derived.Test.YtcijgkfpobpdbaaGreatDoorBq9
import Derived.Test.YtcijgkfpobpdbaaGreatDoorBq20
import Derived.Test.YtcijgkfpobpdbaaGreatDoorShelf2
import Derived.Sort.OwnSorted
import Derived.Lib.OwnBridge
import Derived.Shelf.SlicesG.CompactS
import Derived.Shelf.SortM.Plain
import Derived.Test.YtcijgkfpobpdbaaGreatDoorBq21
open List renaming length_singleton → Aa,length_append → Ab,length_map → Af,getElem?_eq_getElem → Ah,length_mergeSort → Aj,replicate → Ak,getElem?_map → Al
open Go.Lib renaming compact → Ac,hid → Ae
open Nat renaming le_refl → Ad,zero_le → Am
open Go.Op renaming bytesLess → Ag
open ByteArray renaming empty → Ai
set_option maxHeartbeats 4000000
namespace Go.Proofs.YtcijgkfpobpdbaaGreatDoor
set_option maxRecDepth 100000
section
open Go Go.Shelf Go.RowKit Go.Lib Go.Sort
theorem mG1:∃i,Tryz.prog.info? 9=some i/\i.zero=some (.string Ai)/\i.size=1/\i.bytes=16:=by
 have h:(Tryz.prog.info? 9).map (λi=>(i.zero,i.size,i.bytes))=some (some (.string Ai),1,16):=by kernel_rfl
 cases hi:Tryz.prog.info? 9 with
 | none=>rw[hi]at h;cases h
 | some i =>
  rw[hi]at h;simp only[Option.map_some,Option.some.injEq,Prod.mk.injEq]at h;exact⟨i,rfl,h.1,h.2.1,h.2.2⟩
theorem nE0 (ks:List ByteArray):ks.flatMap stC=(bls ks).map encStr:=by
 show ks.flatMap (λs=>[Value.string s])=(ks.map (·.data.toList)).map encStr
 rw[Lib.map_encStr,oJ]
def mF (ks:List ByteArray):List ByteArray:=(oS0 (bls ks)).map mkB
theorem yY (ks:List ByteArray):bls (mF ks)=oS0 (bls ks):=by
 unfold bls mF;rw[List.map_map];exact(List.map_congr_left λx _=>fA x).trans (List.map_id _)
theorem aJ1 (ks:List ByteArray):(mF ks).flatMap stC=(oS0 (bls ks)).map encStr:=by
 rw[nE0,yY]
theorem qS0 (ks:List ByteArray):(mF ks).length=(oS0 (bls ks)).length:=by unfold mF; rw[Af]
theorem kO1 {w w1:World} {g cap nn q:Nat} {os:Array Obj} {ks:List ByteArray} (aa:aU w1 w.heap.size 9 1 stC (.slice (some ⟨g,0,none⟩) ks.length cap) ks) (hg:Grows w w1) (hbg:w.heap.size<=g) :
  aU (putRow encStr (Sort.ahead (grow (putRow encStr (Sort.ahead w1 nn) g 0 ((bls ks).mergeSort λx y=>decide (x<=y)).toArray) os) q) g 0 (Ac ((bls ks).mergeSort λx y=>decide (x<=y))++Ak (((bls ks).mergeSort λx y=>decide (x<=y)).length-(Ac ((bls ks).mergeSort λx y=>decide (x<=y))).length) []).toArray) w.heap.size 9 1 stC (.slice (some ⟨g,0,none⟩) (Ac ((bls ks).mergeSort λx y=>decide (x<=y))).length cap) (mF ks) /\
  Grows w (putRow encStr (Sort.ahead (grow (putRow encStr (Sort.ahead w1 nn) g 0 ((bls ks).mergeSort λx y=>decide (x<=y)).toArray) os) q) g 0 (Ac ((bls ks).mergeSort λx y=>decide (x<=y))++Ak (((bls ks).mergeSort λx y=>decide (x<=y)).length-(Ac ((bls ks).mergeSort λx y=>decide (x<=y))).length) []).toArray):=by
 have hl0:(bls ks).length=ks.length:=by unfold bls;rw[Af]
 have ji:((bls ks).mergeSort λx y=>decide (x<=y)).length=(bls ks).length:=Aj _;have fo:=Lib.compact_length_le ((bls ks).mergeSort λx y=>decide (x<=y));unfold aU at aa ⊢;rw[nE0,<-hl0]at aa;rw[aJ1,qS0,<-xW];rcases aa.2 with ⟨h0,_⟩|⟨g',abi,da,hv,cj,hb,h1,h2,h3,h4⟩
 ·cases h0
 cases hv
 have hs:=ownsRow_sorted (n:=nn) (os:=os) (ts:=(bls ks).mergeSort λx y=>decide (x<=y)) ji cj hb h1 h2 h3;have hc:=Lib.ownsRow_putRow (q:=q) (k:=(Ac ((bls ks).mergeSort λx y=>decide (x<=y))).length) (ys:=Ac ((bls ks).mergeSort λx y=>decide (x<=y))++Ak (((bls ks).mergeSort λx y=>decide (x<=y)).length-(Ac ((bls ks).mergeSort λx y=>decide (x<=y))).length) []) hs (by simp;omega) (by omega);rw[List.take_left]at hc;exact⟨hc,Lib.below_putRow ((show Below w.heap.size w w1 from hg).grown (grownBy_sorted _) (Below.size hg) (λj hj=>by cases hj;exact cj)) hbg⟩
theorem qW0 (key:En->ByteArray) (g:Nat) (eg:∀args w,(callFunc g args).run Tryz.prog w=.ok (.enter g args) w) (HG:∀(x:En) w,Calls Tryz.prog g #[x.agg] w λe w'=>e=.returned (.string (key x))/\Grows w w')
  (l:List En) (a:Option Addr) (c:Nat) (w:World) (hl:l.length<=1048576) (ac:aF w a 5 (l.map aJ)) :
  Calls Tryz.prog 73 #[.slice a l.length c,.func (.func g) #[] #[]] w λe w'=>Grows w w'/\∃b cap,e=.returned (.slice (some ⟨b,0,none⟩) (mF (l.map key)).length cap)/\b<w'.heap.size/\aU w' w.heap.size 9 1 stC (.slice (some ⟨b,0,none⟩) (mF (l.map key)).length cap) (mF (l.map key)):=by
 have HAT:=Ae ac;have HGG:=λx w=>Ae (HG x w);obtain⟨ks,o7⟩:=exq (l.map key);have qq:ks.length=l.length:=by rw[o7,Af]
 rw[<-o7];have HKS:=Ae o7;obtain⟨iu,hiu,hzu,hsu,vk⟩:=mG1;clear ac HG o7;go_enter Tryz.func73,Tryz.ntmps73
 go_wp2_with (at_make;refine wpList_make_own _ rfl _ _ 123 rfl w.heap.size 9 iu (.string Ai) 1 Tryz.underlying123 hiu hzu hsu .i64 .i64 _ l.length rfl rfl rfl (by rw[vk];omega) (by unfold maxLen;omega) (Ad _) ?_;intro w1 ay aex)
 go_loopw [5,13] (λv i wr=>∃(k:Nat),k<=l.length/\i=.int .i64 k/\v ≠ .slice none 0 0/\aU wr w.heap.size 9 1 stC v (ks.take k)/\Grows w wr) (λ_ i _=>l.length-(intOf i).toNat)
 case atStart=>exact⟨0,Am _,rfl,by simp,ay,(Grows.refl w).grown aex (λq hq=>by cases hq)⟩
 case round =>
  clear ay aex hiu hzu hsu vk;obtain⟨k,hk,rfl,hvn,aa,hg⟩:=hrel;by_cases ae:k<l.length
  ·obtain⟨⟨xr,xs,xl,xt,xc⟩,hx⟩:∃x,l[k]?=some x:=⟨_,Ah ae⟩
   obtain⟨ba,oa,rfl,be⟩:=(HAT.out.grows hg).get (aH ae);have c0:wr.cell? ⟨ba,oa+k*5,none⟩=some (.string xr):=be k _ hx 0 _ rfl;have c1:wr.cell? ⟨ba,oa+k*5+1,none⟩=some (.string xs):=be k _ hx 1 _ rfl;have c2:wr.cell? ⟨ba,oa+k*5+2,none⟩=some (.int .i64 xl):=be k _ hx 2 _ rfl;have c3:wr.cell? ⟨ba,oa+k*5+3,none⟩=some (.int .i64 xt):=be k _ hx 3 _ rfl;have c4:wr.cell? ⟨ba,oa+k*5+4,none⟩=some (.int .i64 xc):=be k _ hx 4 _ rfl;obtain⟨kx,hkx⟩:=exq (key ⟨xr,xs,xl,xt,xc⟩);have HCG:=λW=>Ae (HGG ⟨xr,xs,xl,xt,xc⟩ W).out;rw[<-hkx]at HCG;have aey:ks[k]?=some kx:=by rw[HKS.out,Al,hx,hkx];rfl
   have HT:=Ae (bI aey);obtain⟨bv,cm⟩:=exq (ks.take k);have ni:bv.length=k:=by rw[cm,List.length_take];omega
   rw[<-cm]at aa HT;clear be hx hkx aey cm;go_wp2_with fail
   refine(HCG _).out.mono ?_;rintro e w2 ⟨rfl,af⟩;have acy:=Grows.trans _ _ _ (Grows.alloc wr _) af;have ai:=aa.grows acy;have ia:=Grows.trans _ _ _ hg acy;clear af acy aa c0 c1 c2 c3 c4;go_wp2_with (at_builtin;refine cK mQ0 rfl _ _ rfl w.heap.size _ bv kx rfl ai (Grows.refl _) _ 1 rfl #[.string kx] rfl rfl (by omega) ia.size ?_;intro v5 w5 an _ _ bg)
   have hv5:v5 ≠ .slice none 0 0:=λe=>by
    obtain⟨a5,c5,e5,_⟩:=an.at_ (k:=1) (λx=>(rfl:(stC x).length=1));rw[e5]at e;injection e with _ e6 _
    simp at e6
   have HG5:=bg w ia (Ad _);rw[<-HT.out]at an;go_wp2_with fail
   go_roundw
   case rel=>exact⟨k+1,by omega,by go_num,hv5,an,HG5⟩
   case measure=>simp[intOf];omega
  ·obtain rfl:k=l.length:=by omega
   rw[List.take_of_length_le (by omega)]at aa;obtain⟨b,cap,rfl,hbg,hgl,air,hcm,ak,hH⟩:=Lib.holds_of_ownsRow (enc:=encStr) (by rw[<-nE0];exact aa) hvn;have X:Aside (aU wr w.heap.size 9 1 stC (.slice (some ⟨b,0,none⟩) ks.length cap) ks/\Grows w wr/\w.heap.size<=b/\b<wr.heap.size):=⟨aa,hg,hbg,hgl⟩;have aam:=Ae (AnyM.slices_Sort_string Tryz.sortS b 0 cap (bls ks) wr hH hgl (by omega));have ji:((bls ks).mergeSort λx y=>decide (x<=y)).length=ks.length:=by rw[Aj];exact ak
   have hH2:=λnn os=>Ae (show Holds encStr (grow (putRow encStr (Sort.ahead wr nn) b 0 ((bls ks).mergeSort λx y=>decide (x<=y)).toArray) os) b 0 ((bls ks).mergeSort λx y=>decide (x<=y)).toArray from
     holds_grow encStr _ os b 0 _ (by simpa [putRow,mapBlock,Sort.ahead] using hgl) (holds_putRow encStr _ b 0 _ _ (holds_ahead encStr wr nn b 0 _ hH) (by simp)))
   have xu:=λnn os=>Ae (AnyG.slices_Compact_string Tryz.compactS b 0 cap _ _ (hH2 nn os).out (by omega) (by omega));have HEND:=λnn os q=>Ae (kO1 (w1:=wr) (nn:=nn) (q:=q) (os:=os) (ks:=ks) X.out.1 X.out.2.1 X.out.2.2.1);generalize hM:((bls ks).mergeSort λx y=>decide (x<=y))=M at *;rw[ak,qq]at aam;rw[ji,qq]at xu;rw[ji,qq]at HEND;have hCl:(compact M).length=(mF ks).length:=by rw[<-hM,xW,qS0]
   rw[hCl]at xu HEND;clear aa hH hH2;go_wp2_with fail
   refine aam.out.mono ?_;rintro e w2 ⟨rfl,nn,os,rfl⟩;go_wp2_with fail
   refine(xu nn os).out.mono ?_;rintro e w3 ⟨rfl,q,rfl⟩;go_wp2_with fail
   go_ret;exact⟨(HEND nn os q).out.2,b,cap,rfl,by simpa [putRow,mapBlock,Sort.ahead,grow] using Nat.lt_of_lt_of_le X.out.2.2.2 (Nat.le_add_right _ _),(HEND nn os q).out.1⟩
end
section
open Go Go.RowKit Go.Shelf
attribute [local go_sem] aQ aM
def zH (B:List ByteArray) (s:ByteArray) (k:Nat):List (List UInt8)×Bool:=((bls B).take k).foldl (fP (bl s)) ([],false)
theorem vQ0 {B:List ByteArray} {s x:ByteArray} {k:Nat} (h:B[k]?=some x):zH B s (k+1)=fP (bl s) (zH B s k) (bl x):=by
 unfold zH;rw[bI (show (bls B)[k]?=some (bl x) by unfold bls;rw[Al,h];rfl),List.foldl_append]
 rfl
theorem wW0 (B:List ByteArray) (s:ByteArray):cS1 (bls B) (bl s)=xM (bl s) (zH B s B.length):=by
 unfold zH cS1;rw[show B.length=(bls B).length by unfold bls;rw[Af],List.take_length]
theorem kT (l:List ByteArray) (x:ByteArray):bls (l++[x])=bls l++[bl x]:=by simp[bls]
theorem pY (x:ByteArray):x.toList=bl x:=Lib.toList_data x
theorem pS0 (B:List ByteArray) (s:ByteArray) (a:Option Addr) (c:Nat) (w:World) (hl:B.length<=1048576) (ac:aF w a 1 (B.map stC)) :
  Calls Tryz.prog 199 #[.slice a B.length c,.string s] w λe w'=>Grows w w'/\∃v out,bls out=cS1 (bls B) (bl s)/\e=.returned v/\aU w' w.heap.size 9 1 stC v out:=by
 have HAT:=Ae ac;clear ac;go_enter Tryz.func199,Tryz.ntmps199
 go_wp2_with fail
 go_loopw [5,6,7] (λv d i wr=>∃(k:Nat) (out:List ByteArray) (dn:Bool),k<=B.length/\i=.int .i64 k/\d=.bool dn/\Hid ((bls out,dn)=zH B s k)/\out.length<=2*k/\aU wr w.heap.size 9 1 stC v out/\Grows w wr) (λ_ _ i _=>B.length-(intOf i).toNat)
 case atStart=>exact⟨0,[],false,Am _,rfl,rfl,rfl,Am _,aU.nil _ _ _ _ _,Grows.refl _⟩
 case round =>
  obtain⟨k,out,dn,hk,rfl,rfl,hF,t9,aa,hg⟩:=hrel;by_cases ae:k<B.length
  ·obtain⟨x,hx⟩:∃x,B[k]?=some x:=⟨_,Ah ae⟩
   obtain⟨b,o,rfl,hc⟩:=at1 (f:=Value.string) HAT.out (aH ae);have qi:=Ae (hc k x hx);have jb:=hg.cell qi.out;have dg:(k:Int)<B.length:=by omega
   have HS:=Ae (vQ0 (s:=s) hx);rw[<-hF.out]at HS;clear hc hx hF;by_cases he:x=s
   ·subst he
    have hb:Ag x.toList x.toList=false:=by rw[bytesLess_irrefl]
    have p9:(x.toList==x.toList)=true:=by simp
    have HB:Hid (Ag (bl x) (bl x)=false):=by rw[<-pY];exact hb
    have HE:Hid (bl x=bl x):=rfl
    cases dn with
    | false =>
     have HN:Hid ((bls (out++[x]),true)=zH B x (k+1)):=by
      show _=_
      rw[HS.out];unfold fP;simp only[kT];simp[HB.out]
     clear HS;go_wp2_with (at_builtin;refine cK mQ0 rfl _ _ rfl w.heap.size _ out x rfl aa (Grows.refl _) _ 1 rfl #[.string x] rfl rfl (by first|omega|(rw[Ab,Aa];omega)) hg.size ?_;intro v4 w4 cr _ _ jt;have bu:=jt w hg (Ad _);have acz:=bu.cell qi.out;clear aa hg jt)
     go_wp2_with fail
     go_roundw
     case rel=>exact⟨k+1,(out++[x]),true,ae,by go_num,rfl,HN,by simp only[Ab,Aa];omega,cr,bu⟩
     case measure=>simp[intOf];omega
    | true =>
     have HN:Hid ((bls out,true)=zH B x (k+1)):=by
      show _=_
      rw[HS.out];unfold fP;simp only;simp[HB.out]
     clear HS;go_wp2_with fail
     go_roundw
     case rel=>exact⟨k+1,out,true,ae,by go_num,rfl,HN,by omega,aa,hg⟩
     case measure=>simp[intOf];omega
   ·have p9:(x.toList==s.toList)=false:=by simpa using λh=>he (gG h)
    have HE:Hid (bl x≠bl s):=λh=>he (lU1 h)
    cases dn with
    | true =>
     have HB:Hid (True):=trivial
     have HN:Hid ((bls (out++[x]),true)=zH B s (k+1)):=by
      show _=_
      rw[HS.out];unfold fP;simp only[kT];simp[HE.out]
     clear HS;go_wp2_with (at_builtin;refine cK mQ0 rfl _ _ rfl w.heap.size _ out x rfl aa (Grows.refl _) _ 1 rfl #[.string x] rfl rfl (by first|omega|(rw[Ab,Aa];omega)) hg.size ?_;intro v4 w4 cr _ _ jt;have bu:=jt w hg (Ad _);have acz:=bu.cell qi.out;clear aa hg jt)
     go_wp2_with fail
     go_roundw
     case rel=>exact⟨k+1,(out++[x]),true,ae,by go_num,rfl,HN,by simp only[Ab,Aa];omega,cr,bu⟩
     case measure=>simp[intOf];omega
    | false =>
     cases hb:Ag x.toList s.toList with
     | true =>
      have HB:Hid (Ag (bl x) (bl s)=true):=by rw[<-pY,<-pY];exact hb
      have HN:Hid ((bls (out++[x]),false)=zH B s (k+1)):=by
       show _=_
       rw[HS.out];unfold fP;simp only[kT];simp[HB.out,HE.out]
      clear HS;go_wp2_with (at_builtin;refine cK mQ0 rfl _ _ rfl w.heap.size _ out x rfl aa (Grows.refl _) _ 1 rfl #[.string x] rfl rfl (by first|omega|(rw[Ab,Aa];omega)) hg.size ?_;intro v4 w4 cr _ _ jt;have bu:=jt w hg (Ad _);have acz:=bu.cell qi.out;clear aa hg jt)
      go_wp2_with fail
      go_roundw
      case rel=>exact⟨k+1,(out++[x]),false,ae,by go_num,rfl,HN,by simp only[Ab,Aa];omega,cr,bu⟩
      case measure=>simp[intOf];omega
     | false =>
      have HB:Hid (Ag (bl x) (bl s)=false):=by rw[<-pY,<-pY];exact hb
      have HN:Hid ((bls ((out++[s])++[x]),true)=zH B s (k+1)):=by
       show _=_
       rw[HS.out];unfold fP;simp only[kT];simp[HB.out,HE.out]
      clear HS;go_wp2_with (at_builtin;first|(refine cK mQ0 rfl _ _ rfl w.heap.size _ out s rfl aa (Grows.refl _) _ 1 rfl #[.string s] rfl rfl (by first|omega|(rw[Ab,Aa];omega)) hg.size ?_;intro v4 w4 cr _ _ jt;have bu:=jt w hg (Ad _);have acz:=bu.cell qi.out;clear aa hg jt)|(refine cK mQ0 rfl _ _ rfl w.heap.size _ (out++[s]) x rfl cr (Grows.refl _) _ 1 rfl #[.string x] rfl rfl (by first|omega|(rw[Ab,Aa];omega)) bu.size ?_;intro v5 w5 an _ _ abk;have bg:=abk w bu (Ad _);have ai6:=bg.cell qi.out;clear cr bu abk))
      go_wp2_with fail
      go_roundw
      case rel=>exact⟨k+1,((out++[s])++[x]),true,ae,by go_num,rfl,HN,by simp only[Ab,Aa];omega,an,bg⟩
      case measure=>simp[intOf];omega
  ·obtain rfl:k=B.length:=by omega
   have HE:=Ae (wW0 B s);rw[<-hF.out]at HE
   cases dn with
   | true =>
    go_wp2_with fail
    go_ret;exact⟨hg,_,out,by rw[HE.out];unfold xM;rfl,rfl,aa⟩
   | false =>
    go_wp2_with (at_builtin;refine cK mQ0 rfl _ _ rfl w.heap.size _ out s rfl aa (Grows.refl _) _ 1 rfl #[.string s] rfl rfl (by omega) hg.size ?_;intro v4 w4 cr _ _ jt)
    have bu:=jt w hg (Ad _);clear aa hg;go_wp2_with fail
    go_ret;exact⟨bu,_,out++[s],by rw[HE.out];unfold xM;rw[kT];rfl,rfl,cr⟩
end
end Go.Proofs.YtcijgkfpobpdbaaGreatDoor
