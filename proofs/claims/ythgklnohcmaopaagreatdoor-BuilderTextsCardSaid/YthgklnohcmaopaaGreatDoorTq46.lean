/- The texts Par16, one behind the other. -/
import Derived.Test.YthgklnohcmaopaaGreatDoorTq44
import Derived.Test.YthgklnohcmaopaaGreatDoorTq3
import Derived.Test.YthgklnohcmaopaaGreatDoorTq6
import Derived.Test.YthgklnohcmaopaaGreatDoorTq45
open Go.Lib renaming hid → Aa
open List renaming getElem?_eq_getElem → Ab
open Go.World renaming block_lt_of_cell? → Ac
open Nat renaming le_refl → Ad
set_option maxHeartbeats 8000000
namespace Go.Proofs.YthgklnohcmaopaaGreatDoor
set_option maxRecDepth 100000
open Go Go.RowKit Go.Shelf
attribute [local go_sem] aK aP
def gW0 (r:Option Mx×Int×Int) (w:World) (e:Ending) (w':World):Prop :=
 ∃v,e=.returned (.tuple #[v,.int .i64 r.2.1,.int .i64 r.2.2])/\(r.1=none->v=.pointer none)/\(∀m,r.1=some m->∃mb bm,v=.pointer (some ⟨mb,0,none⟩)/\w.heap.size<=mb/\w.heap.size<=bm/\gG w' mb bm m)/\aB w w'
theorem gW0.err {w w':World} {a b:Int} (h:aB w w'):gW0 (none,a,b) w (.returned (.tuple #[.pointer none,.int .i64 a,.int .i64 b])) w':=⟨_,rfl,λ_=>rfl,λ_ h=>(by cases h),h⟩
theorem tE0 {w:World} {B b3 b7 b8 bs N:Nat} {p:List bD} {pa:Option Addr} {pc:Nat} (st:oJ) (cp:PSt w B b7 b8 bs N st) (hB:B<=w.heap.size) (hN:N<=2097152) (ik:1<=p.length/\p.length<=64) (aq:cY1 p st) (c3:w.cell? ⟨b3,0,none⟩=some (.slice pa p.length pc)) (hp:aF w pa 2 (p.map bH))
  (f:List ByteArray) (fa:Option Addr) (fc:Nat) (hf:aF w fa 1 (f.map bS1)) (uf:f.length<=1048577) (t0:1<=f.length) (hfs:∀x∈f,x.size<=1048577) :
  Calls Tryz.prog 139 #[.slice fa f.length fc,.pointer (some ⟨b7,0,none⟩),.pointer (some ⟨b3,0,none⟩),.pointer (some ⟨b8,0,none⟩)] w (cM p st f B b7 b8 bs N w):=by
 cases st with
 | none =>
  by_cases h:f.length=2
  ·match f,h with
   | [a,b],_=>exact qT0 cp hB ik c3 a b fa fc hf (hfs b (by simp))
  ·exact fQ0 none cp hB f fa fc hf uf t0 hfs (Or.inl ⟨rfl,h⟩)
 | some ms =>
  obtain⟨m,seen⟩:=ms;by_cases h:f.length=3
  ·match f,h with
   | [x,y,z],_=>exact gO0 m seen cp hB hN ik (aq m seen rfl).2.1 c3 hp x y z fa fc hf (hfs z (by simp))
  ·exact fQ0 _ cp hB f fa fc hf uf t0 hfs (Or.inr ⟨by simp,h⟩)
theorem kB0 (c:UInt8) (s:ByteArray):1<=(splitS c s).length:=by
 rw[cU0,List.length_map];obtain⟨x,r,hx⟩:=uD c s.data.toList;rw[hx];simp
theorem tL0 (w1:World) (B:Nat) (hB:B<=w1.heap.size):PSt (((w1.alloc (.cells #[.pointer none] 55)).alloc (.map #[] 0)).alloc (.cells #[.map (some (w1.heap.size+1))] 151)) B w1.heap.size (w1.heap.size+1+1) (w1.heap.size+1) 0 none:=by
 have aj:aB (w1.alloc (.cells #[.pointer none] 55)) (((w1.alloc (.cells #[.pointer none] 55)).alloc (.map #[] 0)).alloc (.cells #[.map (some (w1.heap.size+1))] 151)):=(aB.alloc _ _).al _;have hb:=mM aj;have c7:=hb.1 0 _ rfl;have c8:=aM ((w1.alloc (.cells #[.pointer none] 55)).alloc (.map #[] 0)) #[.map (some (w1.heap.size+1))] 151 (0,0) 0 _ rfl;have e1:(w1.alloc (.cells #[.pointer none] 55)).heap.size=w1.heap.size+1:=by simp
 have e2:((w1.alloc (.cells #[.pointer none] 55)).alloc (.map #[] 0)).heap.size=w1.heap.size+1+1:=by simp
 rw[e2]at c8;have hm:=((World.ownsMap_made (w1.alloc (.cells #[.pointer none] 55)) Tryz.prog 158 (plainElem (H:=Unit) Tryz.prog 3)).alloc (.cells #[.map (some (w1.heap.size+1))] 151));rw[e1]at hm;exact⟨hB,by omega,by omega,c8,⟨_,c7⟩,hb.2 0,⟨_,hm,vQ.nil⟩,λ_=>c7,λm seen h=>(by cases h)⟩
theorem parse16_any (text:ByteArray) (p:List bD) (pa:Option Addr) (pc:Nat) (w:World) (he:Env w) (hts:text.size<9223372036854775807) (ik:p.length<=4611686018427387904) (hp:aF w pa 2 (p.map bH)) :
  Calls Tryz.prog 74 #[.string text,.slice pa p.length pc] w (gW0 (xB0 text p) w):=by
 have hmf:∀(fn:Fn) (first cap:Array Value) (w:World),(Instr.makeFunc fn first cap).run Tryz.prog w=.ok (.func fn first cap) w:=λ_ _ _ _=>rfl
 have tu:=@run_makeMap Tryz.prog;have CC:=λW (hW:aB w W)=>Aa (iX p pa pc W (hp.grows hW) ik);have HP:=Aa hp;have HE:=Aa he;clear hp he;by_cases cr:1048576<text.size
 ·have hr:xB0 text p=(none,0,2):=by unfold xB0;rw[if_pos cr]
  have g:(1048576:Int)<text.size:=by omega
  rw[hr];clear hr CC;go_enter Tryz.func74,Tryz.ntmps74
  go_wp2
  go_ret3;exact gW0.err (aB.alloc _ _)
 ·have g:¬(1048576:Int)<text.size:=by omega
  cases hv:aQ p
  ·have hr:xB0 text p=(none,0,5):=by unfold xB0;rw[if_neg cr,hv];rfl
   rw[hr];rw[hv]at CC;clear hr hv;go_enter Tryz.func74,Tryz.ntmps74
   go_wp2_with fail
   refine(CC _ (aB.alloc _ _)).out.mono ?_;rintro e w1 ⟨rfl,aj⟩;go_wp2
   go_ret3;exact gW0.err ((aB.alloc _ _).tr aj)
  ·have hr:xB0 text p=nY p (splitS 10 text) 0 none:=by unfold xB0;rw[if_neg cr,hv];rfl
   have an:=sJ hv;have ail:(p.length:Int)<=64:=by omega
   have CS:=λW (hW:aB w W)=>Aa (mV 10 text W (by omega) (HE.out.grows hW));have cw:∀x∈splitS 10 text,x.size<=1048576:=λx hx=>by have:=iY hx;omega
   have hll:(splitS 10 text).length<=1048577:=by have:=eJ0 10 text;omega
   have lz:=kB0 10 text;rw[hr];rw[hv,show bO1 true=0 from rfl]at CC
   have HSZ:=Aa cw;have HV:=Aa hv;clear hr cw cr hv;generalize splitS 10 text=ls at *;obtain⟨PR,hPR⟩:=exq (nY p ls 0 none);rw[<-hPR];have HPR:=Aa hPR;clear hPR;have iw:=aB.alloc w (.cells #[.slice pa p.length pc] 22);have hc3:=aM w #[.slice pa p.length pc] 22 (0,0) 0 _ rfl;go_enter Tryz.func74,Tryz.ntmps74
   go_wp2_with fail
   refine(CC _ iw).out.mono ?_;rintro e w1 ⟨rfl,aj⟩;have d3:=aj.cell hc3;have aes:=iw.tr aj;clear iw hc3 CC;go_wp2_with fail
   have ed:=aj.size;have aet:w.heap.size<w1.heap.size:=Ac _ _ d3;have aeu:=tL0 w1 w.heap.size (Nat.le_of_lt aet);have tc:aB w1 (((w1.alloc (.cells #[.pointer none] 55)).alloc (.map #[] 0)).alloc (.cells #[.map (some (w1.heap.size+1))] 151)):=((aB.alloc _ _).al _).al _;have abn:=aes.tr tc;refine(CS _ abn).out.mono ?_;rintro e w2 ⟨rfl,pv,af⟩;have na:=Aa (aeu.grows af);have d32:=(tc.tr af).cell d3;have ei:=abn.tr af;obtain⟨la,hla⟩:=exq ((((w1.alloc (.cells #[.pointer none] 55)).alloc (.map #[] 0)).alloc (.cells #[.map (some (w1.heap.size+1))] 151)).heap.size);rw[<-hla]at pv ⊢;have pe:w1.heap.size+1+1<la:=by rw[hla];simp
   have hlw:la<w2.heap.size:=by
    have h1:=lz;obtain⟨x,hx⟩:∃x,ls[0]?=some x:=⟨_,Ab (by omega)⟩;obtain⟨lb,lo,e,hlc⟩:=pv.get (aH h1);cases e
    exact Ac _ _ (hlc 0 x hx 0 _ rfl)
   have HLS:=Aa pv;have HCS9:Hid (∀(x:ByteArray) W,x.size<=1048576->aB w W->Calls Tryz.prog 141 #[.string x,.string ⟨#[9]⟩] W λe w'=>e=.returned (.slice (some ⟨W.heap.size,0,none⟩) (splitS 9 x).length (splitS 9 x).length)/\aF w' (some ⟨W.heap.size,0,none⟩) 1 ((splitS 9 x).map bS1)/\aB W w'):=λx W hx hW=>mV 9 x W (by omega) (HE.out.grows hW);obtain⟨b7,un⟩:=exq w1.heap.size;rw[<-un]at na pe aet ⊢;clear pv hla aeu tc abn af aes aj d3 ed CS un;go_wp2_with fail
   go_loopw [24] (λi wr=>∃(k N:Nat) (st:oJ),k<=ls.length/\i=.int .i64 k/\N<=k/\Hid (PSt wr w.heap.size b7 (b7+1+1) (b7+1) N st)/\Hid (PR=nY p (ls.drop k) k st)/\Hid (cY1 p st)/\Hid (CB b7 w2 wr)/\aB w wr) (λi _=>ls.length-(intOf i).toNat)
   case atStart=>exact⟨0,0,none,Nat.zero_le _,rfl,Ad _,na.out,HPR.out,λm seen h=>(by cases h),⟨Ad _,λ_ _ _ h=>h⟩,ei⟩
   case round =>
    obtain⟨k,N,st,hk,rfl,hNk,cp,iy,aq,us,hg⟩:=hrel;have xn:=us.out.size;by_cases ae:k<ls.length
    ·obtain⟨x,hx⟩:∃x,ls[k]?=some x:=⟨_,Ab ae⟩
     have hxz:=HSZ.out x (List.mem_of_getElem? hx)
     have cm:ls.drop k=x::ls.drop (k+1):=by
      rw[List.drop_eq_getElem_cons ae];rw[Ab ae]at hx;rw[Option.some.inj hx]
     have ct:=iy.out;rw[cm,lI]at ct
     have l0:wr.cell? ⟨la,k,none⟩=some (.string x):=by
      obtain⟨lb,lo,e,hlc⟩:=HLS.out.get (aH ae);cases e
      refine us.out.cell _ _ (by simp only;omega) ?_
      have:=hlc k x hx 0 _ rfl
      simpa using this
     have d3:=us.out.cell _ _ (by simp only;omega) d32;clear cm hx iy;by_cases ot:x.toList=[]
     ·rw[if_pos (rI ot)]at ct
      have HP2:=Aa ct;have aim:(x.toList==[])=true:=by simpa using ot
      clear ct;go_wp2_with fail
      go_roundw
      case rel=>exact⟨k+1,N,st,ae,by go_num,by omega,cp,HP2.out,aq,us,hg⟩
      case measure=>simp[intOf];omega
     ·have h0:=kR ot
      have h0i:(0:Int)<x.size:=by omega
      by_cases jb:(x[0].toNat:Int)=35
      ·rw[if_pos (vM h0 jb)]at ct
       have HP2:=Aa ct;clear ct;go_wp2_with fail
       go_roundw
       case rel=>exact⟨k+1,N,st,ae,by go_num,by omega,cp,HP2.out,aq,us,hg⟩
       case measure=>simp[intOf];omega
      ·have ach:((x[0].toNat:Int)==35)=false:=by rw[beq_eq_false_iff_ne];exact jb
       have acg:(x.toList==[])=false:=by rw[beq_eq_false_iff_ne];exact ot
       rw[cI0 h0 jb]at ct;simp only[Bool.false_eq_true,if_false]at ct;have HP2:=Aa ct;have CS9:=Aa (HCS9.out x wr hxz hg);have uf:=eJ0 9 x;have t0:=kB0 9 x;have HFS:Hid (∀y∈splitS 9 x,y.size<=1048577):=λy hy=>by have:=iY hy;omega
       have HOK2:=Aa (xM0 HV.out aq.out (splitS 9 x));obtain⟨F,hF⟩:=exq (splitS 9 x);rw[<-hF]at HP2 CS9 HOK2 uf t0 HFS;clear ct hF;go_wp2_with fail
       refine CS9.out.mono ?_;rintro e w4 ⟨rfl,hf,di⟩;have o9:=hg.tr di;have CL:=Aa (tE0 st (cp.out.grows di) o9.size (by omega) an aq.out (di.cell d3) (HP.out.grows o9) F _ F.length hf (by omega) t0 HFS.out);unfold cM at CL;clear CS9 hf;obtain⟨E,hE⟩:=exq ((fS p st F).2);rw[<-hE]at CL HP2;clear hE;go_wp2_with fail
       refine CL.out.mono ?_;rintro e w5 ⟨rfl,abo,uo,aev⟩;have bk:aB w w5:=EB.grows o9 uo;have ag3:=Aa ((us.out.tr di).trans aev);clear uo aev CL;by_cases hE:E=0
       ·subst hE
        have je:=HP2.out;rw[if_pos rfl]at je;have HP3:=Aa je;have HST5:=Aa (abo rfl);clear je HP2 abo;go_wp2_with fail
        go_roundw
        case rel=>exact⟨k+1,N+1,_,ae,by go_num,by omega,HST5.out,HP3.out,HOK2.out,ag3.out,bk⟩
        case measure=>simp[intOf];omega
       ·have je:=HP2.out
        rw[if_neg hE]at je;subst je;clear HP2 HPR abo;go_wp2_with fail
        go_ret3;exact gW0.err bk
    ·obtain rfl:k=ls.length:=by omega
     have ct:=iy.out;rw[List.drop_length]at ct
     cases st with
     | none =>
      have c7:=cp.out.no rfl;have aw:PR=(none,0,5):=ct;subst aw;clear ct iy HPR;go_wp2_with fail
      go_ret3;exact gW0.err hg
     | some ms =>
      obtain⟨m,seen⟩:=ms;obtain⟨mb,bm,c7,hm,hBm,hBb,_,_⟩:=cp.out.so m seen rfl;have aw:PR=(some m,0,0):=ct;subst aw;have HM:=Aa hm;clear ct iy HPR hm;go_wp2_with fail
      go_ret3;exact⟨_,rfl,λh=>(by cases h),λm' h=>(by cases h;exact⟨mb,bm,rfl,hBm,hBb,HM.out⟩),hg⟩
end Go.Proofs.YthgklnohcmaopaaGreatDoor
