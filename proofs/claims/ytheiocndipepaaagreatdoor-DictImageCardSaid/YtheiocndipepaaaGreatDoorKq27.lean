/- The texts Bset R18a, one behind the other. -/
import Derived.Test.YtheiocndipepaaaGreatDoorKq5
import Derived.Test.YtheiocndipepaaaGreatDoorKq26
import Derived.Test.YtheiocndipepaaaGreatDoorKq23
import Derived.Test.YtheiocndipepaaaGreatDoorKq25
import Derived.Test.YtheiocndipepaaaGreatDoorKq8
import Derived.Test.YtheiocndipepaaaGreatDoorKq19
import Derived.Test.YtheiocndipepaaaGreatDoorShelf2
import Derived.Sort.OwnSorted
import Derived.Lib.OwnBridge
import Derived.Shelf.SlicesG.CompactS
import Derived.Shelf.SortM.Plain
import Derived.Test.YtheiocndipepaaaGreatDoorKq20
open List renaming length_singleton → Aa,length_append → Ab,length_map → Af,getElem?_eq_getElem → Ah,length_mergeSort → Aj,replicate → Ak,getElem?_map → Al
open Go.Lib renaming compact → Ac,hid → Ae
open Nat renaming le_refl → Ad,zero_le → Am
open Go.Op renaming bytesLess → Ag
open ByteArray renaming empty → Ai
set_option maxHeartbeats 4000000
namespace Go.Proofs.YtheiocndipepaaaGreatDoor
set_option maxRecDepth 100000
section
open Go Go.Shelf Go.RowKit Go.Lib Go.Sort
theorem pV1:∃i,Tryz.prog.info? 9=some i/\i.zero=some (.string Ai)/\i.size=1/\i.bytes=16:=by
 have h:(Tryz.prog.info? 9).map (λi=>(i.zero,i.size,i.bytes))=some (some (.string Ai),1,16):=by kernel_rfl
 cases hi:Tryz.prog.info? 9 with
 | none=>rw[hi]at h;cases h
 | some i =>
  rw[hi]at h;simp only[Option.map_some,Option.some.injEq,Prod.mk.injEq]at h;exact⟨i,rfl,h.1,h.2.1,h.2.2⟩
theorem qB0 (ks:List ByteArray):ks.flatMap stC=(bls ks).map encStr:=by
 show ks.flatMap (λs=>[Value.string s])=(ks.map (·.data.toList)).map encStr
 rw[Lib.map_encStr,nY]
def mO (ks:List ByteArray):List ByteArray:=(pU0 (bls ks)).map mkB
theorem zO (ks:List ByteArray):bls (mO ks)=pU0 (bls ks):=by
 unfold bls mO;rw[List.map_map];exact(List.map_congr_left λx _=>gZ x).trans (List.map_id _)
theorem bF1 (ks:List ByteArray):(mO ks).flatMap stC=(pU0 (bls ks)).map encStr:=by
 rw[qB0,zO]
theorem rV0 (ks:List ByteArray):(mO ks).length=(pU0 (bls ks)).length:=by unfold mO; rw[Af]
theorem lN1 {w w1:World} {g cap nn q:Nat} {os:Array Obj} {ks:List ByteArray} (aa:aV w1 w.heap.size 9 1 stC (.slice (some ⟨g,0,none⟩) ks.length cap) ks) (hg:Grows w w1) (ui:w.heap.size<=g) :
  aV (putRow encStr (Sort.ahead (grow (putRow encStr (Sort.ahead w1 nn) g 0 ((bls ks).mergeSort λx y=>decide (x<=y)).toArray) os) q) g 0 (Ac ((bls ks).mergeSort λx y=>decide (x<=y))++Ak (((bls ks).mergeSort λx y=>decide (x<=y)).length-(Ac ((bls ks).mergeSort λx y=>decide (x<=y))).length) []).toArray) w.heap.size 9 1 stC (.slice (some ⟨g,0,none⟩) (Ac ((bls ks).mergeSort λx y=>decide (x<=y))).length cap) (mO ks) /\
  Grows w (putRow encStr (Sort.ahead (grow (putRow encStr (Sort.ahead w1 nn) g 0 ((bls ks).mergeSort λx y=>decide (x<=y)).toArray) os) q) g 0 (Ac ((bls ks).mergeSort λx y=>decide (x<=y))++Ak (((bls ks).mergeSort λx y=>decide (x<=y)).length-(Ac ((bls ks).mergeSort λx y=>decide (x<=y))).length) []).toArray):=by
 have hl0:(bls ks).length=ks.length:=by unfold bls;rw[Af]
 have jn:((bls ks).mergeSort λx y=>decide (x<=y)).length=(bls ks).length:=Aj _;have ia:=Lib.compact_length_le ((bls ks).mergeSort λx y=>decide (x<=y));unfold aV at aa ⊢;rw[qB0,<-hl0]at aa;rw[bF1,rV0,<-xT];rcases aa.2 with ⟨h0,_⟩|⟨g',ab4,cm,hv,cj,hb,h1,h2,h3,h4⟩
 ·cases h0
 cases hv
 have hs:=ownsRow_sorted (n:=nn) (os:=os) (ts:=(bls ks).mergeSort λx y=>decide (x<=y)) jn cj hb h1 h2 h3;have hc:=Lib.ownsRow_putRow (q:=q) (k:=(Ac ((bls ks).mergeSort λx y=>decide (x<=y))).length) (ys:=Ac ((bls ks).mergeSort λx y=>decide (x<=y))++Ak (((bls ks).mergeSort λx y=>decide (x<=y)).length-(Ac ((bls ks).mergeSort λx y=>decide (x<=y))).length) []) hs (by simp;omega) (by omega);rw[List.take_left]at hc;exact⟨hc,Lib.below_putRow ((show Below w.heap.size w w1 from hg).grown (grownBy_sorted _) (Below.size hg) (λj hj=>by cases hj;exact cj)) ui⟩
theorem sX0 (key:En->ByteArray) (g:Nat) (eg:∀args w,(callFunc g args).run Tryz.prog w=.ok (.enter g args) w) (HG:∀(x:En) w,Calls Tryz.prog g #[x.agg] w λe w'=>e=.returned (.string (key x))/\Grows w w')
  (l:List En) (a:Option Addr) (c:Nat) (w:World) (hl:l.length<=1048576) (ac:aF w a 5 (l.map aQ)) :
  Calls Tryz.prog 36 #[.slice a l.length c,.func (.func g) #[] #[]] w λe w'=>Grows w w'/\∃b cap,e=.returned (.slice (some ⟨b,0,none⟩) (mO (l.map key)).length cap)/\b<w'.heap.size/\aV w' w.heap.size 9 1 stC (.slice (some ⟨b,0,none⟩) (mO (l.map key)).length cap) (mO (l.map key)):=by
 have HAT:=Ae ac;have HGG:=λx w=>Ae (HG x w);obtain⟨ks,rz⟩:=exq (l.map key);have sd:ks.length=l.length:=by rw[rz,Af]
 rw[<-rz];have HKS:=Ae rz;obtain⟨iu,hiu,hzu,hsu,sn⟩:=pV1;clear ac HG rz;go_enter Tryz.func36,Tryz.ntmps36
 go_wp2_with (at_make;refine wpList_make_own _ rfl _ _ 70 rfl w.heap.size 9 iu (.string Ai) 1 Tryz.underlying70 hiu hzu hsu .i64 .i64 _ l.length rfl rfl rfl (by rw[sn];omega) (by unfold maxLen;omega) (Ad _) ?_;intro w1 az afn)
 go_loopw [5,13] (λv i wr=>∃(k:Nat),k<=l.length/\i=.int .i64 k/\v ≠ .slice none 0 0/\aV wr w.heap.size 9 1 stC v (ks.take k)/\Grows w wr) (λ_ i _=>l.length-(intOf i).toNat)
 case atStart=>exact⟨0,Am _,rfl,by simp,az,(Grows.refl w).grown afn (λq hq=>by cases hq)⟩
 case round =>
  clear az afn hiu hzu hsu sn;obtain⟨k,hk,rfl,hvn,aa,hg⟩:=hrel;by_cases ae:k<l.length
  ·obtain⟨⟨xr,xs,xl,xt,xc⟩,hx⟩:∃x,l[k]?=some x:=⟨_,Ah ae⟩
   obtain⟨ba,oa,rfl,be⟩:=(HAT.out.grows hg).get (aH ae);have c0:wr.cell? ⟨ba,oa+k*5,none⟩=some (.string xr):=be k _ hx 0 _ rfl;have c1:wr.cell? ⟨ba,oa+k*5+1,none⟩=some (.string xs):=be k _ hx 1 _ rfl;have c2:wr.cell? ⟨ba,oa+k*5+2,none⟩=some (.int .i64 xl):=be k _ hx 2 _ rfl;have c3:wr.cell? ⟨ba,oa+k*5+3,none⟩=some (.int .i64 xt):=be k _ hx 3 _ rfl;have c4:wr.cell? ⟨ba,oa+k*5+4,none⟩=some (.int .i64 xc):=be k _ hx 4 _ rfl;obtain⟨kx,hkx⟩:=exq (key ⟨xr,xs,xl,xt,xc⟩);have HCG:=λW=>Ae (HGG ⟨xr,xs,xl,xt,xc⟩ W).out;rw[<-hkx]at HCG;have afo:ks[k]?=some kx:=by rw[HKS.out,Al,hx,hkx];rfl
   have HT:=Ae (bN afo);obtain⟨cd,cr⟩:=exq (ks.take k);have om:cd.length=k:=by rw[cr,List.length_take];omega
   rw[<-cr]at aa HT;clear be hx hkx afo cr;go_wp2_with fail
   refine(HCG _).out.mono ?_;rintro e w2 ⟨rfl,af⟩;have adn:=Grows.trans _ _ _ (Grows.alloc wr _) af;have aj:=aa.grows adn;have iq:=Grows.trans _ _ _ hg adn;clear af adn aa c0 c1 c2 c3 c4;go_wp2_with (at_builtin;refine dE oN0 rfl _ _ rfl w.heap.size _ cd kx rfl aj (Grows.refl _) _ 1 rfl #[.string kx] rfl rfl (by omega) iq.size ?_;intro v5 w5 ak _ _ bg)
   have hv5:v5 ≠ .slice none 0 0:=λe=>by
    obtain⟨a5,c5,e5,_⟩:=ak.at_ (k:=1) (λx=>(rfl:(stC x).length=1));rw[e5]at e;injection e with _ e6 _
    simp at e6
   have HG5:=bg w iq (Ad _);rw[<-HT.out]at ak;go_wp2_with fail
   go_roundw
   case rel=>exact⟨k+1,by omega,by go_num,hv5,ak,HG5⟩
   case measure=>simp[intOf];omega
  ·obtain rfl:k=l.length:=by omega
   rw[List.take_of_length_le (by omega)]at aa;obtain⟨b,cap,rfl,ui,hgl,aju,hcm,an,hH⟩:=Lib.holds_of_ownsRow (enc:=encStr) (by rw[<-qB0];exact aa) hvn;have X:Aside (aV wr w.heap.size 9 1 stC (.slice (some ⟨b,0,none⟩) ks.length cap) ks/\Grows w wr/\w.heap.size<=b/\b<wr.heap.size):=⟨aa,hg,ui,hgl⟩;have aa5:=Ae (AnyM.slices_Sort_string Tryz.sortS b 0 cap (bls ks) wr hH hgl (by omega));have jn:((bls ks).mergeSort λx y=>decide (x<=y)).length=ks.length:=by rw[Aj];exact an
   have hH2:=λnn os=>Ae (show Holds encStr (grow (putRow encStr (Sort.ahead wr nn) b 0 ((bls ks).mergeSort λx y=>decide (x<=y)).toArray) os) b 0 ((bls ks).mergeSort λx y=>decide (x<=y)).toArray from
     holds_grow encStr _ os b 0 _ (by simpa [putRow,mapBlock,Sort.ahead] using hgl) (holds_putRow encStr _ b 0 _ _ (holds_ahead encStr wr nn b 0 _ hH) (by simp)))
   have zm:=λnn os=>Ae (AnyG.slices_Compact_string Tryz.compactS b 0 cap _ _ (hH2 nn os).out (by omega) (by omega));have HEND:=λnn os q=>Ae (lN1 (w1:=wr) (nn:=nn) (q:=q) (os:=os) (ks:=ks) X.out.1 X.out.2.1 X.out.2.2.1);generalize hM:((bls ks).mergeSort λx y=>decide (x<=y))=M at *;rw[an,sd]at aa5;rw[jn,sd]at zm;rw[jn,sd]at HEND;have hCl:(compact M).length=(mO ks).length:=by rw[<-hM,xT,rV0]
   rw[hCl]at zm HEND;clear aa hH hH2;go_wp2_with fail
   refine aa5.out.mono ?_;rintro e w2 ⟨rfl,nn,os,rfl⟩;go_wp2_with fail
   refine(zm nn os).out.mono ?_;rintro e w3 ⟨rfl,q,rfl⟩;go_wp2_with fail
   go_ret;exact⟨(HEND nn os q).out.2,b,cap,rfl,by simpa [putRow,mapBlock,Sort.ahead,grow] using Nat.lt_of_lt_of_le X.out.2.2.2 (Nat.le_add_right _ _),(HEND nn os q).out.1⟩
end
section
open Go Go.RowKit Go.Shelf
attribute [local go_sem] aM aK
def aW0 (B:List ByteArray) (s:ByteArray) (k:Nat):List (List UInt8)×Bool:=((bls B).take k).foldl (fY (bl s)) ([],false)
theorem xY0 {B:List ByteArray} {s x:ByteArray} {k:Nat} (h:B[k]?=some x):aW0 B s (k+1)=fY (bl s) (aW0 B s k) (bl x):=by
 unfold aW0;rw[bN (show (bls B)[k]?=some (bl x) by unfold bls;rw[Al,h];rfl),List.foldl_append]
 rfl
theorem yT0 (B:List ByteArray) (s:ByteArray):eO1 (bls B) (bl s)=yQ (bl s) (aW0 B s B.length):=by
 unfold aW0 eO1;rw[show B.length=(bls B).length by unfold bls;rw[Af],List.take_length]
theorem kZ (l:List ByteArray) (x:ByteArray):bls (l++[x])=bls l++[bl x]:=by simp[bls]
theorem pQ (x:ByteArray):x.toList=bl x:=Lib.toList_data x
theorem rX0 (B:List ByteArray) (s:ByteArray) (a:Option Addr) (c:Nat) (w:World) (hl:B.length<=1048576) (ac:aF w a 1 (B.map stC)) :
  Calls Tryz.prog 186 #[.slice a B.length c,.string s] w λe w'=>Grows w w'/\∃v out,bls out=eO1 (bls B) (bl s)/\e=.returned v/\aV w' w.heap.size 9 1 stC v out:=by
 have HAT:=Ae ac;clear ac;go_enter Tryz.func186,Tryz.ntmps186
 go_wp2_with fail
 go_loopw [5,6,7] (λv d i wr=>∃(k:Nat) (out:List ByteArray) (dn:Bool),k<=B.length/\i=.int .i64 k/\d=.bool dn/\Hid ((bls out,dn)=aW0 B s k)/\out.length<=2*k/\aV wr w.heap.size 9 1 stC v out/\Grows w wr) (λ_ _ i _=>B.length-(intOf i).toNat)
 case atStart=>exact⟨0,[],false,Am _,rfl,rfl,rfl,Am _,aV.nil _ _ _ _ _,Grows.refl _⟩
 case round =>
  obtain⟨k,out,dn,hk,rfl,rfl,hF,vl,aa,hg⟩:=hrel;by_cases ae:k<B.length
  ·obtain⟨x,hx⟩:∃x,B[k]?=some x:=⟨_,Ah ae⟩
   obtain⟨b,o,rfl,hc⟩:=at1 (f:=Value.string) HAT.out (aH ae);have rj:=Ae (hc k x hx);have jp:=hg.cell rj.out;have cy:(k:Int)<B.length:=by omega
   have HS:=Ae (xY0 (s:=s) hx);rw[<-hF.out]at HS;clear hc hx hF;by_cases he:x=s
   ·subst he
    have hb:Ag x.toList x.toList=false:=by rw[bytesLess_irrefl]
    have wl:(x.toList==x.toList)=true:=by simp
    have HB:Hid (Ag (bl x) (bl x)=false):=by rw[<-pQ];exact hb
    have HE:Hid (bl x=bl x):=rfl
    cases dn with
    | false =>
     have HN:Hid ((bls (out++[x]),true)=aW0 B x (k+1)):=by
      show _=_
      rw[HS.out];unfold fY;simp only[kZ];simp[HB.out]
     clear HS;go_wp2_with (at_builtin;refine dE oN0 rfl _ _ rfl w.heap.size _ out x rfl aa (Grows.refl _) _ 1 rfl #[.string x] rfl rfl (by first|omega|(rw[Ab,Aa];omega)) hg.size ?_;intro v4 w4 cu _ _ j5;have bj:=j5 w hg (Ad _);have ado:=bj.cell rj.out;clear aa hg j5)
     go_wp2_with fail
     go_roundw
     case rel=>exact⟨k+1,(out++[x]),true,ae,by go_num,rfl,HN,by simp only[Ab,Aa];omega,cu,bj⟩
     case measure=>simp[intOf];omega
    | true =>
     have HN:Hid ((bls out,true)=aW0 B x (k+1)):=by
      show _=_
      rw[HS.out];unfold fY;simp only;simp[HB.out]
     clear HS;go_wp2_with fail
     go_roundw
     case rel=>exact⟨k+1,out,true,ae,by go_num,rfl,HN,by omega,aa,hg⟩
     case measure=>simp[intOf];omega
   ·have wl:(x.toList==s.toList)=false:=by simpa using λh=>he (dV h)
    have HE:Hid (bl x≠bl s):=λh=>he (oX1 h)
    cases dn with
    | true =>
     have HB:Hid (True):=trivial
     have HN:Hid ((bls (out++[x]),true)=aW0 B s (k+1)):=by
      show _=_
      rw[HS.out];unfold fY;simp only[kZ];simp[HE.out]
     clear HS;go_wp2_with (at_builtin;refine dE oN0 rfl _ _ rfl w.heap.size _ out x rfl aa (Grows.refl _) _ 1 rfl #[.string x] rfl rfl (by first|omega|(rw[Ab,Aa];omega)) hg.size ?_;intro v4 w4 cu _ _ j5;have bj:=j5 w hg (Ad _);have ado:=bj.cell rj.out;clear aa hg j5)
     go_wp2_with fail
     go_roundw
     case rel=>exact⟨k+1,(out++[x]),true,ae,by go_num,rfl,HN,by simp only[Ab,Aa];omega,cu,bj⟩
     case measure=>simp[intOf];omega
    | false =>
     cases hb:Ag x.toList s.toList with
     | true =>
      have HB:Hid (Ag (bl x) (bl s)=true):=by rw[<-pQ,<-pQ];exact hb
      have HN:Hid ((bls (out++[x]),false)=aW0 B s (k+1)):=by
       show _=_
       rw[HS.out];unfold fY;simp only[kZ];simp[HB.out,HE.out]
      clear HS;go_wp2_with (at_builtin;refine dE oN0 rfl _ _ rfl w.heap.size _ out x rfl aa (Grows.refl _) _ 1 rfl #[.string x] rfl rfl (by first|omega|(rw[Ab,Aa];omega)) hg.size ?_;intro v4 w4 cu _ _ j5;have bj:=j5 w hg (Ad _);have ado:=bj.cell rj.out;clear aa hg j5)
      go_wp2_with fail
      go_roundw
      case rel=>exact⟨k+1,(out++[x]),false,ae,by go_num,rfl,HN,by simp only[Ab,Aa];omega,cu,bj⟩
      case measure=>simp[intOf];omega
     | false =>
      have HB:Hid (Ag (bl x) (bl s)=false):=by rw[<-pQ,<-pQ];exact hb
      have HN:Hid ((bls ((out++[s])++[x]),true)=aW0 B s (k+1)):=by
       show _=_
       rw[HS.out];unfold fY;simp only[kZ];simp[HB.out,HE.out]
      clear HS;go_wp2_with (at_builtin;first|(refine dE oN0 rfl _ _ rfl w.heap.size _ out s rfl aa (Grows.refl _) _ 1 rfl #[.string s] rfl rfl (by first|omega|(rw[Ab,Aa];omega)) hg.size ?_;intro v4 w4 cu _ _ j5;have bj:=j5 w hg (Ad _);have ado:=bj.cell rj.out;clear aa hg j5)|(refine dE oN0 rfl _ _ rfl w.heap.size _ (out++[s]) x rfl cu (Grows.refl _) _ 1 rfl #[.string x] rfl rfl (by first|omega|(rw[Ab,Aa];omega)) bj.size ?_;intro v5 w5 ak _ _ ab6;have bg:=ab6 w bj (Ad _);have aj9:=bg.cell rj.out;clear cu bj ab6))
      go_wp2_with fail
      go_roundw
      case rel=>exact⟨k+1,((out++[s])++[x]),true,ae,by go_num,rfl,HN,by simp only[Ab,Aa];omega,ak,bg⟩
      case measure=>simp[intOf];omega
  ·obtain rfl:k=B.length:=by omega
   have HE:=Ae (yT0 B s);rw[<-hF.out]at HE
   cases dn with
   | true =>
    go_wp2_with fail
    go_ret;exact⟨hg,_,out,by rw[HE.out];unfold yQ;rfl,rfl,aa⟩
   | false =>
    go_wp2_with (at_builtin;refine dE oN0 rfl _ _ rfl w.heap.size _ out s rfl aa (Grows.refl _) _ 1 rfl #[.string s] rfl rfl (by omega) hg.size ?_;intro v4 w4 cu _ _ j5)
    have bj:=j5 w hg (Ad _);clear aa hg;go_wp2_with fail
    go_ret;exact⟨bj,_,out++[s],by rw[HE.out];unfold yQ;rw[kZ];rfl,rfl,cu⟩
end
end Go.Proofs.YtheiocndipepaaaGreatDoor
