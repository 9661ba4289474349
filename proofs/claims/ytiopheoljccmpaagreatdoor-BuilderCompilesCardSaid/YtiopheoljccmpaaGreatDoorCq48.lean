/- The texts Par16, one behind the other. -/
import Derived.Test.YtiopheoljccmpaaGreatDoorCq44
import Derived.Test.YtiopheoljccmpaaGreatDoorCq3
import Derived.Test.YtiopheoljccmpaaGreatDoorCq7
import Derived.Test.YtiopheoljccmpaaGreatDoorCq47
open Go.Lib renaming hid → Aa
open List renaming getElem?_eq_getElem → Ab
open Go.World renaming block_lt_of_cell? → Ac
open Nat renaming le_refl → Ad
set_option maxHeartbeats 8000000
namespace Go.Proofs.YtiopheoljccmpaaGreatDoor
set_option maxRecDepth 100000
open Go Go.RowKit Go.Shelf
attribute [local go_sem] aM aP
def bS0 (r:Option Mx×Int×Int) (w:World) (e:Ending) (w':World):Prop :=
 ∃v,e=.returned (.tuple #[v,.int .i64 r.2.1,.int .i64 r.2.2])/\(r.1=none->v=.pointer none)/\(∀m,r.1=some m->∃mb bm,v=.pointer (some ⟨mb,0,none⟩)/\w.heap.size<=mb/\w.heap.size<=bm/\gA w' mb bm m)/\aB w w'
theorem bS0.err {w w':World} {a b:Int} (h:aB w w'):bS0 (none,a,b) w (.returned (.tuple #[.pointer none,.int .i64 a,.int .i64 b])) w':=⟨_,rfl,λ_=>rfl,λ_ h=>(by cases h),h⟩
theorem xG0 {w:World} {B b3 b7 b8 bs N:Nat} {p:List bT} {pa:Option Addr} {pc:Nat} (st:nY) (d9:PSt w B b7 b8 bs N st) (hB:B<=w.heap.size) (hN:N<=2097152) (jd:1<=p.length/\p.length<=64) (be:jS1 p st) (c3:w.cell? ⟨b3,0,none⟩=some (.slice pa p.length pc)) (hp:aF w pa 2 (p.map bI))
  (f:List ByteArray) (fa:Option Addr) (fc:Nat) (hf:aF w fa 1 (f.map tG0)) (zj:f.length<=1048577) (za:1<=f.length) (vn:∀x∈f,x.size<=1048577) :
  Calls Tryz.prog 26 #[.slice fa f.length fc,.pointer (some ⟨b7,0,none⟩),.pointer (some ⟨b3,0,none⟩),.pointer (some ⟨b8,0,none⟩)] w (dH p st f B b7 b8 bs N w):=by
 cases st with
 | none =>
  by_cases h:f.length=2
  ·match f,h with
   | [a,b],_=>exact yS0 d9 hB jd c3 a b fa fc hf (vn b (by simp))
  ·exact jA0 none d9 hB f fa fc hf zj za vn (Or.inl ⟨rfl,h⟩)
 | some ms =>
  obtain⟨m,seen⟩:=ms;by_cases h:f.length=3
  ·match f,h with
   | [x,y,z],_=>exact lR0 m seen d9 hB hN jd (be m seen rfl).2.1 c3 hp x y z fa fc hf (vn z (by simp))
  ·exact jA0 _ d9 hB f fa fc hf zj za vn (Or.inr ⟨by simp,h⟩)
theorem oC0 (c:UInt8) (s:ByteArray):1<=(splitS c s).length:=by
 rw[sJ,List.length_map];obtain⟨x,r,hx⟩:=nG c s.data.toList;rw[hx];simp
theorem yH0 (w1:World) (B:Nat) (hB:B<=w1.heap.size):PSt (((w1.alloc (.cells #[.pointer none] 38)).alloc (.map #[] 0)).alloc (.cells #[.map (some (w1.heap.size+1))] 79)) B w1.heap.size (w1.heap.size+1+1) (w1.heap.size+1) 0 none:=by
 have aq:aB (w1.alloc (.cells #[.pointer none] 38)) (((w1.alloc (.cells #[.pointer none] 38)).alloc (.map #[] 0)).alloc (.cells #[.map (some (w1.heap.size+1))] 79)):=(aB.alloc _ _).al _;have hb:=eI aq;have c7:=hb.1 0 _ rfl;have c8:=aX ((w1.alloc (.cells #[.pointer none] 38)).alloc (.map #[] 0)) #[.map (some (w1.heap.size+1))] 79 (0,0) 0 _ rfl;have e1:(w1.alloc (.cells #[.pointer none] 38)).heap.size=w1.heap.size+1:=by simp
 have e2:((w1.alloc (.cells #[.pointer none] 38)).alloc (.map #[] 0)).heap.size=w1.heap.size+1+1:=by simp
 rw[e2]at c8;have hm:=((World.ownsMap_made (w1.alloc (.cells #[.pointer none] 38)) Tryz.prog 84 (plainElem (H:=Unit) Tryz.prog 3)).alloc (.cells #[.map (some (w1.heap.size+1))] 79));rw[e1]at hm;exact⟨hB,by omega,by omega,c8,⟨_,c7⟩,hb.2 0,⟨_,hm,yQ.nil⟩,λ_=>c7,λm seen h=>(by cases h)⟩
theorem rE (text:ByteArray) (p:List bT) (pa:Option Addr) (pc:Nat) (w:World) (he:Env w) (hts:text.size<9223372036854775807) (jd:p.length<=4611686018427387904) (hp:aF w pa 2 (p.map bI)) :
  Calls Tryz.prog 8 #[.string text,.slice pa p.length pc] w (bS0 (xN text p) w):=by
 have hmf:∀(fn:Fn) (first cap:Array Value) (w:World),(Instr.makeFunc fn first cap).run Tryz.prog w=.ok (.func fn first cap) w:=λ_ _ _ _=>rfl
 have hmm:=@run_makeMap Tryz.prog;have CC:=λW (hW:aB w W)=>Aa (sN p pa pc W (hp.grows hW) jd);have HP:=Aa hp;have HE:=Aa he;clear hp he;by_cases da:1048576<text.size
 ·have hr:xN text p=(none,0,2):=by unfold xN;rw[if_pos da]
  have g:(1048576:Int)<text.size:=by omega
  rw[hr];clear hr CC;go_enter Tryz.func8,Tryz.ntmps8
  go_wp2
  go_ret3;exact bS0.err (aB.alloc _ _)
 ·have g:¬(1048576:Int)<text.size:=by omega
  cases hv:bP p
  ·have hr:xN text p=(none,0,5):=by unfold xN;rw[if_neg da,hv];rfl
   rw[hr];rw[hv]at CC;clear hr hv;go_enter Tryz.func8,Tryz.ntmps8
   go_wp2_with fail
   refine(CC _ (aB.alloc _ _)).out.mono ?_;rintro e w1 ⟨rfl,aq⟩;go_wp2
   go_ret3;exact bS0.err ((aB.alloc _ _).tr aq)
  ·have hr:xN text p=kZ p (splitS 10 text) 0 none:=by unfold xN;rw[if_neg da,hv];rfl
   have ay:=oY hv;have ajl:(p.length:Int)<=64:=by omega
   have CS:=λW (hW:aB w W)=>Aa (oQ 10 text W (by omega) (HE.out.grows hW));have dm:∀x∈splitS 10 text,x.size<=1048576:=λx hx=>by have:=dN hx;omega
   have hll:(splitS 10 text).length<=1048577:=by have:=tC 10 text;omega
   have js:=oC0 10 text;rw[hr];rw[hv,show jZ1 true=0 from rfl]at CC
   have HSZ:=Aa dm;have HV:=Aa hv;clear hr dm da hv;generalize splitS 10 text=ls at *;obtain⟨PR,hPR⟩:=exq (kZ p ls 0 none);rw[<-hPR];have HPR:=Aa hPR;clear hPR;have ld:=aB.alloc w (.cells #[.slice pa p.length pc] 35);have hc3:=aX w #[.slice pa p.length pc] 35 (0,0) 0 _ rfl;go_enter Tryz.func8,Tryz.ntmps8
   go_wp2_with fail
   refine(CC _ ld).out.mono ?_;rintro e w1 ⟨rfl,aq⟩;have d3:=aq.cell hc3;have yo:=ld.tr aq;clear ld hc3 CC;go_wp2_with fail
   have gk:=aq.size;have aeg:w.heap.size<w1.heap.size:=Ac _ _ d3;have ahf:=yH0 w1 w.heap.size (Nat.le_of_lt aeg);have hgW:aB w1 (((w1.alloc (.cells #[.pointer none] 38)).alloc (.map #[] 0)).alloc (.cells #[.map (some (w1.heap.size+1))] 79)):=((aB.alloc _ _).al _).al _;have aez:=yo.tr hgW;refine(CS _ aez).out.mono ?_;rintro e w2 ⟨rfl,m0,an⟩;have vi:=Aa (ahf.grows an);have d32:=(hgW.tr an).cell d3;have ej:=aez.tr an;obtain⟨la,hla⟩:=exq ((((w1.alloc (.cells #[.pointer none] 38)).alloc (.map #[] 0)).alloc (.cells #[.map (some (w1.heap.size+1))] 79)).heap.size);rw[<-hla]at m0 ⊢;have yu:w1.heap.size+1+1<la:=by rw[hla];simp
   have hlw:la<w2.heap.size:=by
    have h1:=js;obtain⟨x,hx⟩:∃x,ls[0]?=some x:=⟨_,Ab (by omega)⟩;obtain⟨lb,lo,e,hlc⟩:=m0.get (aH h1);cases e
    exact Ac _ _ (hlc 0 x hx 0 _ rfl)
   have HLS:=Aa m0;have HCS9:Hid (∀(x:ByteArray) W,x.size<=1048576->aB w W->Calls Tryz.prog 30 #[.string x,.string ⟨#[9]⟩] W λe w'=>e=.returned (.slice (some ⟨W.heap.size,0,none⟩) (splitS 9 x).length (splitS 9 x).length)/\aF w' (some ⟨W.heap.size,0,none⟩) 1 ((splitS 9 x).map tG0)/\aB W w'):=λx W hx hW=>oQ 9 x W (by omega) (HE.out.grows hW);obtain⟨b7,u9⟩:=exq w1.heap.size;rw[<-u9]at vi yu aeg ⊢;clear m0 hla ahf hgW aez an yo aq d3 gk CS u9;go_wp2_with fail
   go_loopw [24] (λi wr=>∃(k N:Nat) (st:nY),k<=ls.length/\i=.int .i64 k/\N<=k/\Hid (PSt wr w.heap.size b7 (b7+1+1) (b7+1) N st)/\Hid (PR=kZ p (ls.drop k) k st)/\Hid (jS1 p st)/\Hid (CB b7 w2 wr)/\aB w wr) (λi _=>ls.length-(intOf i).toNat)
   case atStart=>exact⟨0,0,none,Nat.zero_le _,rfl,Ad _,vi.out,HPR.out,λm seen h=>(by cases h),⟨Ad _,λ_ _ _ h=>h⟩,ej⟩
   case round =>
    obtain⟨k,N,st,hk,rfl,hNk,d9,gu,be,qi,hg⟩:=hrel;have hwr:=qi.out.size;by_cases af:k<ls.length
    ·obtain⟨x,hx⟩:∃x,ls[k]?=some x:=⟨_,Ab af⟩
     have hxz:=HSZ.out x (List.mem_of_getElem? hx)
     have fj:ls.drop k=x::ls.drop (k+1):=by
      rw[List.drop_eq_getElem_cons af];rw[Ab af]at hx;rw[Option.some.inj hx]
     have cz:=gu.out;rw[fj,rS]at cz
     have l0:wr.cell? ⟨la,k,none⟩=some (.string x):=by
      obtain⟨lb,lo,e,hlc⟩:=HLS.out.get (aH af);cases e
      refine qi.out.cell _ _ (by simp only;omega) ?_
      have:=hlc k x hx 0 _ rfl
      simpa using this
     have d3:=qi.out.cell _ _ (by simp only;omega) d32;clear fj hx gu;by_cases l5:x.toList=[]
     ·rw[if_pos (mQ l5)]at cz
      have HP2:=Aa cz;have ajm:(x.toList==[])=true:=by simpa using l5
      clear cz;go_wp2_with fail
      go_roundw
      case rel=>exact⟨k+1,N,st,af,by go_num,by omega,d9,HP2.out,be,qi,hg⟩
      case measure=>simp[intOf];omega
     ·have h0:=gZ l5
      have tj:(0:Int)<x.size:=by omega
      by_cases kw:(x[0].toNat:Int)=35
      ·rw[if_pos (pR h0 kw)]at cz
       have HP2:=Aa cz;clear cz;go_wp2_with fail
       go_roundw
       case rel=>exact⟨k+1,N,st,af,by go_num,by omega,d9,HP2.out,be,qi,hg⟩
       case measure=>simp[intOf];omega
      ·have acy:((x[0].toNat:Int)==35)=false:=by rw[beq_eq_false_iff_ne];exact kw
       have acx:(x.toList==[])=false:=by rw[beq_eq_false_iff_ne];exact l5
       rw[sW h0 kw]at cz;simp only[Bool.false_eq_true,if_false]at cz;have HP2:=Aa cz;have CS9:=Aa (HCS9.out x wr hxz hg);have zj:=tC 9 x;have za:=oC0 9 x;have HFS:Hid (∀y∈splitS 9 x,y.size<=1048577):=λy hy=>by have:=dN hy;omega
       have HOK2:=Aa (nL0 HV.out be.out (splitS 9 x));obtain⟨F,hF⟩:=exq (splitS 9 x);rw[<-hF]at HP2 CS9 HOK2 zj za HFS;clear cz hF;go_wp2_with fail
       refine CS9.out.mono ?_;rintro e w4 ⟨rfl,hf,cd⟩;have yq:=hg.tr cd;have CL:=Aa (xG0 st (d9.out.grows cd) yq.size (by omega) ay be.out (cd.cell d3) (HP.out.grows yq) F _ F.length hf (by omega) za HFS.out);unfold dH at CL;clear CS9 hf;obtain⟨E,hE⟩:=exq ((lineM p st F).2);rw[<-hE]at CL HP2;clear hE;go_wp2_with fail
       refine CL.out.mono ?_;rintro e w5 ⟨rfl,yz,uw,ahg⟩;have bg:aB w w5:=EB.grows yq uw;have ajo:=Aa ((qi.out.tr cd).trans ahg);clear uw ahg CL;by_cases hE:E=0
       ·subst hE
        have il:=HP2.out;rw[if_pos rfl]at il;have HP3:=Aa il;have HST5:=Aa (yz rfl);clear il HP2 yz;go_wp2_with fail
        go_roundw
        case rel=>exact⟨k+1,N+1,_,af,by go_num,by omega,HST5.out,HP3.out,HOK2.out,ajo.out,bg⟩
        case measure=>simp[intOf];omega
       ·have il:=HP2.out
        rw[if_neg hE]at il;subst il;clear HP2 HPR yz;go_wp2_with fail
        go_ret3;exact bS0.err bg
    ·obtain rfl:k=ls.length:=by omega
     have cz:=gu.out;rw[List.drop_length]at cz
     cases st with
     | none =>
      have c7:=d9.out.no rfl;have au:PR=(none,0,5):=cz;subst au;clear cz gu HPR;go_wp2_with fail
      go_ret3;exact bS0.err hg
     | some ms =>
      obtain⟨m,seen⟩:=ms;obtain⟨mb,bm,c7,hm,hBm,hBb,_,_⟩:=d9.out.so m seen rfl;have au:PR=(some m,0,0):=cz;subst au;have HM:=Aa hm;clear cz gu HPR hm;go_wp2_with fail
      go_ret3;exact⟨_,rfl,λh=>(by cases h),λm' h=>(by cases h;exact⟨mb,bm,rfl,hBm,hBb,HM.out⟩),hg⟩
end Go.Proofs.YtiopheoljccmpaaGreatDoor
