/- The texts R19a Chap19, one behind the other. -/
import Derived.Test.YtcijgkfpobpdbaaGreatDoorBq38
import Derived.Test.YtcijgkfpobpdbaaGreatDoorBq27
import Derived.Test.YtcijgkfpobpdbaaGreatDoorBq26
import Derived.Test.YtcijgkfpobpdbaaGreatDoorBq8
import Derived.Test.YtcijgkfpobpdbaaGreatDoorBq14
import Derived.Test.YtcijgkfpobpdbaaGreatDoorBq41
open Go.Lib renaming hid → Aa
open List renaming getElem?_eq_getElem → Ab,length_filter_le → Ac,length_take → Ad,filter_append → Ae,range → Af,length_append → Ah,take_length → Aj,take_of_length_le → Al,flatMap_append → Am,drop_succ_cons → An,range_succ → Ao,append_nil → Ap,drop_zero → Aq
open Nat renaming zero_le → Ag,le_refl → Ai,le_trans → Ak
set_option maxHeartbeats 4000000
namespace Go.Proofs.YtcijgkfpobpdbaaGreatDoor
set_option maxRecDepth 100000
section
open Go Go.RowKit Go.Shelf
attribute [local go_sem] aQ aM
theorem xG (es:List En) (a:Option Addr) (c:Nat) (pv mv:Value) (s:ByteArray) (w:World) (hl:es.length<=1048576) (ac:aF w a 5 (es.map aJ)) :
  Calls Tryz.prog 17 #[.agg #[pv,mv,.slice a es.length c],.string s] w λe w'=>∃v,e=.returned v/\aU w' w.heap.size 59 5 aJ v (exactL es s)/\Grows w w':=by
 obtain⟨W0,bh⟩:=exq (w.alloc (.cells #[pv,mv,.slice a es.length c] 31));have cd:Grows w W0:=by rw[bh];exact Grows.alloc _ _
 have q2:=aT w #[pv,mv,.slice a es.length c] 31 (0,0) 2 _ rfl;rw[<-bh]at q2;have HQ:=Aa q2;have HAT:=Aa (ac.grows cd);have HG0:=Aa cd;clear ac cd;go_enter Tryz.func17,Tryz.ntmps17
 go_wp2_with fail
 rw[<-bh];clear bh;go_loopw [5,6] (λv i wr=>∃(k:Nat),k<=es.length/\i=.int .i64 k/\Hid (aU wr W0.heap.size 59 5 aJ v (exactL (es.take k) s))/\Hid (Grows W0 wr)) (λ_ i _=>es.length-(intOf i).toNat)
 case atStart=>exact⟨0,Ag _,rfl,aU.nil _ _ _ _ _,Grows.refl _⟩
 case round =>
  obtain⟨k,hk,rfl,hO,hg⟩:=hrel;clear q2;have q2:=hg.out.cell HQ.out;by_cases ae:k<es.length
  ·obtain⟨⟨xr,xs,xl,xt,xc⟩,hx⟩:∃x,es[k]?=some x:=⟨_,Ab ae⟩
   obtain⟨ba,oa,rfl,be⟩:=(HAT.out.grows hg.out).get (aH ae);have c0:wr.cell? ⟨ba,oa+k*5,none⟩=some (.string xr):=be k _ hx 0 _ rfl;have c1:wr.cell? ⟨ba,oa+k*5+1,none⟩=some (.string xs):=be k _ hx 1 _ rfl;have c2:wr.cell? ⟨ba,oa+k*5+2,none⟩=some (.int .i64 xl):=be k _ hx 2 _ rfl;have c3:wr.cell? ⟨ba,oa+k*5+3,none⟩=some (.int .i64 xt):=be k _ hx 3 _ rfl;have c4:wr.cell? ⟨ba,oa+k*5+4,none⟩=some (.int .i64 xc):=be k _ hx 4 _ rfl;have dg:(k:Int)<es.length:=by omega
   by_cases he:xr=s
   ·have HT:Hid (exactL (es.take k) s++[⟨xr,xs,xl,xt,xc⟩]=exactL (es.take (k+1)) s):=by
     show _=_
     unfold exactL;rw[bI hx,Ae];simp[he]
    have o8:(exactL (es.take k) s).length<=k:=Ak (Ac _ _) (by rw[Ad];omega);have p9:(xr.toList==s.toList)=true:=by rw[he];simp
    have de:=hO.out;have vq:=hg.out.size;generalize exactL (es.take k) s=bv at de HT o8;clear be hx hO he;go_wp2_with (at_builtin;refine cK dR rfl _ _ rfl W0.heap.size _ bv ⟨xr,xs,xl,xt,xc⟩ rfl de (Grows.refl _) _ 1 rfl #[.string xr,.string xs,.int .i64 xl,.int .i64 xt,.int .i64 xc] rfl rfl (by omega) vq ?_;intro v6 w6 m7 hk6 hf6 n9)
    have cp:=n9 W0 hg.out (Ai _);rw[HT.out]at m7;go_wp2_with fail
    go_roundw
    case rel=>exact⟨k+1,ae,by go_num,m7,cp⟩
    case measure=>simp[intOf];omega
   ·have HT:exactL (es.take (k+1)) s=exactL (es.take k) s:=by
     unfold exactL;rw[bI hx,Ae];simp[he]
    have p9:(xr.toList==s.toList)=false:=by simpa using λh=>he (gG h)
    have de:=hO.out;rw[<-HT]at de;clear be hx hO he HT;go_wp2_with fail
    go_roundw
    case rel=>exact⟨k+1,ae,by go_num,de,hg.out⟩
    case measure=>simp[intOf];omega
  ·obtain rfl:k=es.length:=by omega
   have de:=hO.out;rw[Aj]at de;go_wp2_with fail
   go_ret;exact⟨_,rfl,de.base HG0.out.size,HG0.out.tr hg.out⟩
theorem lJ0 (es:List En) (a:Option Addr) (c:Nat) (pv mv:Value) (s:ByteArray) (w:World) (hl:es.length<=1048576) (ac:aF w a 5 (es.map aJ)) :
  Calls Tryz.prog 30 #[.agg #[pv,mv,.slice a es.length c],.string s] w λe w'=>∃v,e=.returned v/\aU w' w.heap.size 59 5 aJ v (ofL es s)/\Grows w w':=by
 obtain⟨W0,bh⟩:=exq (w.alloc (.cells #[pv,mv,.slice a es.length c] 31));have cd:Grows w W0:=by rw[bh];exact Grows.alloc _ _
 have q2:=aT w #[pv,mv,.slice a es.length c] 31 (0,0) 2 _ rfl;rw[<-bh]at q2;have HQ:=Aa q2;have HAT:=Aa (ac.grows cd);have HG0:=Aa cd;clear ac cd;go_enter Tryz.func30,Tryz.ntmps30
 go_wp2_with fail
 rw[<-bh];clear bh;go_loopw [5,6] (λv i wr=>∃(k:Nat),k<=es.length/\i=.int .i64 k/\Hid (aU wr W0.heap.size 59 5 aJ v (ofL (es.take k) s))/\Hid (Grows W0 wr)) (λ_ i _=>es.length-(intOf i).toNat)
 case atStart=>exact⟨0,Ag _,rfl,aU.nil _ _ _ _ _,Grows.refl _⟩
 case round =>
  obtain⟨k,hk,rfl,hO,hg⟩:=hrel;clear q2;have q2:=hg.out.cell HQ.out;by_cases ae:k<es.length
  ·obtain⟨⟨xr,xs,xl,xt,xc⟩,hx⟩:∃x,es[k]?=some x:=⟨_,Ab ae⟩
   obtain⟨ba,oa,rfl,be⟩:=(HAT.out.grows hg.out).get (aH ae);have c0:wr.cell? ⟨ba,oa+k*5,none⟩=some (.string xr):=be k _ hx 0 _ rfl;have c1:wr.cell? ⟨ba,oa+k*5+1,none⟩=some (.string xs):=be k _ hx 1 _ rfl;have c2:wr.cell? ⟨ba,oa+k*5+2,none⟩=some (.int .i64 xl):=be k _ hx 2 _ rfl;have c3:wr.cell? ⟨ba,oa+k*5+3,none⟩=some (.int .i64 xt):=be k _ hx 3 _ rfl;have c4:wr.cell? ⟨ba,oa+k*5+4,none⟩=some (.int .i64 xc):=be k _ hx 4 _ rfl;have dg:(k:Int)<es.length:=by omega
   by_cases he:xs=s
   ·have HT:Hid (ofL (es.take k) s++[⟨xr,xs,xl,xt,xc⟩]=ofL (es.take (k+1)) s):=by
     show _=_
     unfold ofL;rw[bI hx,Ae];simp[he]
    have o8:(ofL (es.take k) s).length<=k:=Ak (Ac _ _) (by rw[Ad];omega);have p9:(xs.toList==s.toList)=true:=by rw[he];simp
    have de:=hO.out;have vq:=hg.out.size;generalize ofL (es.take k) s=bv at de HT o8;clear be hx hO he;go_wp2_with (at_builtin;refine cK dR rfl _ _ rfl W0.heap.size _ bv ⟨xr,xs,xl,xt,xc⟩ rfl de (Grows.refl _) _ 1 rfl #[.string xr,.string xs,.int .i64 xl,.int .i64 xt,.int .i64 xc] rfl rfl (by omega) vq ?_;intro v6 w6 m7 hk6 hf6 n9)
    have cp:=n9 W0 hg.out (Ai _);rw[HT.out]at m7;go_wp2_with fail
    go_roundw
    case rel=>exact⟨k+1,ae,by go_num,m7,cp⟩
    case measure=>simp[intOf];omega
   ·have HT:ofL (es.take (k+1)) s=ofL (es.take k) s:=by
     unfold ofL;rw[bI hx,Ae];simp[he]
    have p9:(xs.toList==s.toList)=false:=by simpa using λh=>he (gG h)
    have de:=hO.out;rw[<-HT]at de;clear be hx hO he HT;go_wp2_with fail
    go_roundw
    case rel=>exact⟨k+1,ae,by go_num,de,hg.out⟩
    case measure=>simp[intOf];omega
  ·obtain rfl:k=es.length:=by omega
   have de:=hO.out;rw[Aj]at de;go_wp2_with fail
   go_ret;exact⟨_,rfl,de.base HG0.out.size,HG0.out.tr hg.out⟩
theorem fP0 (es:List En) (a:Option Addr) (c:Nat) (pv mv:Value) (s:ByteArray) (w:World) (hl:es.length<=20000) (hs:s.size<=140737488355328) (ac:aF w a 5 (es.map aJ)) :
  Calls Tryz.prog 19 #[.agg #[pv,mv,.slice a es.length c],.string s] w λe w'=>∃v,e=.returned v/\aU w' w.heap.size 59 5 aJ v (prefL es s)/\Grows w w':=by
 obtain⟨W0,bh⟩:=exq (w.alloc (.cells #[pv,mv,.slice a es.length c] 31));have cd:Grows w W0:=by rw[bh];exact Grows.alloc _ _
 have dm:=λj u h=>aT w #[pv,mv,.slice a es.length c] 31 (0,0) j u h;rw[<-bh]at dm;have HQ:=Aa (And.intro (dm 0 _ rfl) (And.intro (dm 1 _ rfl) (dm 2 _ rfl)));have HG0:=Aa cd;have CE:=λ(t:ByteArray) (u:World) (hu:Grows w u)=>Aa (xG es a c pv mv t u (by omega) (ac.grows hu));obtain⟨N,hN⟩:=exq es.length;rw[<-hN]at HQ CE bh ⊢;have HLEN:Hid (∀t,(exactL es t).length<=20000):=λt=>Ak (Ac _ _) hl;have hAT:=ac;clear ac cd dm hN hl;go_enter Tryz.func19,Tryz.ntmps19
 go_wp2_with fail
 rw[<-bh];clear bh;go_loopw [5,6] (λv i wr=>∃(k:Nat),k<=min s.size 256+1/\i=.int .i64 k/\Hid (aU wr W0.heap.size 59 5 aJ v ((Af k).flatMap λn=>exactL es (cutB s n))/\((Af k).flatMap λn=>exactL es (cutB s n)).length<=k*20000)/\Hid (Grows W0 wr)) (λ_ i _=>300-(intOf i).toNat)
 case atStart=>exact⟨0,Ag _,rfl,⟨aU.nil _ _ _ _ _,Ag _⟩,Grows.refl _⟩
 case round =>
  obtain⟨k,hk,rfl,hO,hg⟩:=hrel;obtain⟨q0,q1,q2⟩:=HQ.out;have z0:∀y:Ext Grows wr.drew,y.u.cell? ⟨w.heap.size,0,none⟩=some pv:=aB (hg.out.dr.cell q0);have z1:∀y:Ext Grows wr.drew,y.u.cell? ⟨w.heap.size,1,none⟩=some mv:=aB (hg.out.dr.cell q1);have z2:∀y:Ext Grows wr.drew,y.u.cell? ⟨w.heap.size,2,none⟩=some (.slice a N c):=aB (hg.out.dr.cell q2);have jn:=HG0.out.tr hg.out;clear q0 q1 q2;by_cases ae:k<min s.size 256+1
  ·have h1:(k:Int)<=s.size:=by omega
   have h2:(k:Int)<=256:=by omega
   have o7:k<=s.size:=by omega
   have hcq:s.extract 0 k=cutB s k:=by
    unfold cutB;rw[<-xU0];exact(kD _).symm
   have jf:∀W:World,(Instr.slice 9 (.string s) none (some (.int .i64 k)) none).run Tryz.prog W=.ok (.string (cutB s k)) W:=λW=>by
    rw[<-hcq];exact run_slice_string_h W _ s Tryz.underlying9 .i64 k (by omega) h1
   clear hcq;have CE1:=CE (cutB s k) wr.drew jn.dr
   have HT:Hid ((Af k).flatMap (λn=>exactL es (cutB s n))++exactL es (cutB s k)=(Af (k+1)).flatMap λn=>exactL es (cutB s n)):=by
    show _=_
    rw[Ao,Am];simp
   have fo:=HLEN.out (cutB s k);have de:=hO.out.1;have m8:=hO.out.2;generalize (Af k).flatMap (λn=>exactL es (cutB s n))=bv at de m8 HT;generalize exactL es (cutB s k)=news at CE1 HT fo;generalize cutB s k=cq at CE1 jf;clear hO CE;go_wp2_with fail
   refine mK 6 (aV 6 [5]) (by kernel_rfl) (λd _ _ _ _ h=>by cases d<;>exact h) ?_
   iterate 5 (refine aG rfl (λK hK=>?_);go_simp;refine hK _ ?_;clear hK K)
   clear z0 z1 z2 jf;refine aY rfl rfl (λK hK=>?_);go_simp;refine(CE1.out).mono ?_;rintro e w2 ⟨v2,rfl,fm,af⟩;refine⟨af,hK _ _ ?_⟩;clear hK K;refine bH ?_;simp only[An,Aq];obtain⟨a2,c2,rfl,_,_,iq⟩:=fm.at_ dR.len;have ix:=bN fm;have g02:=hg.out.dr.tr af;have hO5:=(de.grows (Grows.drew wr)).grows af;clear fm de CE1;go_wp2_with (at_builtin;refine kX dR rfl _ _ rfl W0.heap.size _ bv news rfl hO5 (Grows.refl _) a2 c2 rfl iq ix (by omega) g02.size ?_;intro v7 w7 hO7 hk7 vp oc)
   have cu:=oc W0 g02 (Ai _);go_wp2_with fail
   go_roundw
   case rel=>exact⟨k+1,ae,by go_num,⟨by rw[<-HT.out];exact hO7,by rw[<-HT.out,Ah];omega⟩,cu⟩
   case measure=>simp[intOf];omega
  ·obtain rfl:k=min s.size 256+1:=by omega
   have R:Hid (aU wr W0.heap.size 59 5 aJ _ (prefL es s)):=hO.out.1;have h2:¬(((min s.size 256+1:Nat):Int)<=s.size/\((min s.size 256+1:Nat):Int)<=256):=by omega
   generalize min s.size 256+1=k at h2 ae;clear hO z0 z1 z2 CE;by_cases h1:(k:Int)<=s.size
   ·have h3:¬(k:Int)<=256:=λh=>h2 ⟨h1,h⟩
    go_wp2_with fail
    go_ret;exact⟨_,rfl,R.out.base HG0.out.size,jn⟩
   ·go_wp2_with fail
    go_ret;exact⟨_,rfl,R.out.base HG0.out.size,jn⟩
theorem pA0 (es:List En) (a:Option Addr) (c:Nat) (pv mv:Value) (s:ByteArray) (w:World) (hl:es.length<=20000) (hs:s.size<=140737488355328) (ac:aF w a 5 (es.map aJ)) :
  Calls Tryz.prog 32 #[.agg #[pv,mv,.slice a es.length c],.string s] w λe w'=>∃v,e=.returned v/\aU w' w.heap.size 59 5 aJ v (writesL es s)/\Grows w w':=by
 obtain⟨W0,bh⟩:=exq (w.alloc (.cells #[pv,mv,.slice a es.length c] 31));have cd:Grows w W0:=by rw[bh];exact Grows.alloc _ _
 have dm:=λj u h=>aT w #[pv,mv,.slice a es.length c] 31 (0,0) j u h;rw[<-bh]at dm;have HQ:=Aa (And.intro (dm 0 _ rfl) (And.intro (dm 1 _ rfl) (dm 2 _ rfl)));have HG0:=Aa cd;have CE:=λ(t:ByteArray) (u:World) (hu:Grows w u)=>Aa (lJ0 es a c pv mv t u (by omega) (ac.grows hu));obtain⟨N,hN⟩:=exq es.length;rw[<-hN]at HQ CE bh ⊢;have HLEN:Hid (∀t,(ofL es t).length<=20000):=λt=>Ak (Ac _ _) hl;have hAT:=ac;clear ac cd dm hN hl;go_enter Tryz.func32,Tryz.ntmps32
 go_wp2_with fail
 rw[<-bh];clear bh;go_loopw [5,6] (λv i wr=>∃(k:Nat),k<=min s.size 256+1/\i=.int .i64 k/\Hid (aU wr W0.heap.size 59 5 aJ v ((Af k).flatMap λn=>ofL es (cutB s n))/\((Af k).flatMap λn=>ofL es (cutB s n)).length<=k*20000)/\Hid (Grows W0 wr)) (λ_ i _=>300-(intOf i).toNat)
 case atStart=>exact⟨0,Ag _,rfl,⟨aU.nil _ _ _ _ _,Ag _⟩,Grows.refl _⟩
 case round =>
  obtain⟨k,hk,rfl,hO,hg⟩:=hrel;obtain⟨q0,q1,q2⟩:=HQ.out;have z0:∀y:Ext Grows wr.drew,y.u.cell? ⟨w.heap.size,0,none⟩=some pv:=aB (hg.out.dr.cell q0);have z1:∀y:Ext Grows wr.drew,y.u.cell? ⟨w.heap.size,1,none⟩=some mv:=aB (hg.out.dr.cell q1);have z2:∀y:Ext Grows wr.drew,y.u.cell? ⟨w.heap.size,2,none⟩=some (.slice a N c):=aB (hg.out.dr.cell q2);have jn:=HG0.out.tr hg.out;clear q0 q1 q2;by_cases ae:k<min s.size 256+1
  ·have h1:(k:Int)<=s.size:=by omega
   have h2:(k:Int)<=256:=by omega
   have o7:k<=s.size:=by omega
   have hcq:s.extract 0 k=cutB s k:=by
    unfold cutB;rw[<-xU0];exact(kD _).symm
   have jf:∀W:World,(Instr.slice 9 (.string s) none (some (.int .i64 k)) none).run Tryz.prog W=.ok (.string (cutB s k)) W:=λW=>by
    rw[<-hcq];exact run_slice_string_h W _ s Tryz.underlying9 .i64 k (by omega) h1
   clear hcq;have CE1:=CE (cutB s k) wr.drew jn.dr
   have HT:Hid ((Af k).flatMap (λn=>ofL es (cutB s n))++ofL es (cutB s k)=(Af (k+1)).flatMap λn=>ofL es (cutB s n)):=by
    show _=_
    rw[Ao,Am];simp
   have fo:=HLEN.out (cutB s k);have de:=hO.out.1;have m8:=hO.out.2;generalize (Af k).flatMap (λn=>ofL es (cutB s n))=bv at de m8 HT;generalize ofL es (cutB s k)=news at CE1 HT fo;generalize cutB s k=cq at CE1 jf;clear hO CE;go_wp2_with fail
   refine mK 6 (aV 6 [5]) (by kernel_rfl) (λd _ _ _ _ h=>by cases d<;>exact h) ?_
   iterate 5 (refine aG rfl (λK hK=>?_);go_simp;refine hK _ ?_;clear hK K)
   clear z0 z1 z2 jf;refine aY rfl rfl (λK hK=>?_);go_simp;refine(CE1.out).mono ?_;rintro e w2 ⟨v2,rfl,fm,af⟩;refine⟨af,hK _ _ ?_⟩;clear hK K;refine bH ?_;simp only[An,Aq];obtain⟨a2,c2,rfl,_,_,iq⟩:=fm.at_ dR.len;have ix:=bN fm;have g02:=hg.out.dr.tr af;have hO5:=(de.grows (Grows.drew wr)).grows af;clear fm de CE1;go_wp2_with (at_builtin;refine kX dR rfl _ _ rfl W0.heap.size _ bv news rfl hO5 (Grows.refl _) a2 c2 rfl iq ix (by omega) g02.size ?_;intro v7 w7 hO7 hk7 vp oc)
   have cu:=oc W0 g02 (Ai _);go_wp2_with fail
   go_roundw
   case rel=>exact⟨k+1,ae,by go_num,⟨by rw[<-HT.out];exact hO7,by rw[<-HT.out,Ah];omega⟩,cu⟩
   case measure=>simp[intOf];omega
  ·obtain rfl:k=min s.size 256+1:=by omega
   have R:Hid (aU wr W0.heap.size 59 5 aJ _ (writesL es s)):=hO.out.1;have h2:¬(((min s.size 256+1:Nat):Int)<=s.size/\((min s.size 256+1:Nat):Int)<=256):=by omega
   generalize min s.size 256+1=k at h2 ae;clear hO z0 z1 z2 CE;by_cases h1:(k:Int)<=s.size
   ·have h3:¬(k:Int)<=256:=λh=>h2 ⟨h1,h⟩
    go_wp2_with fail
    go_ret;exact⟨_,rfl,R.out.base HG0.out.size,jn⟩
   ·go_wp2_with fail
    go_ret;exact⟨_,rfl,R.out.base HG0.out.size,jn⟩
theorem nB0 (s p:ByteArray) (w:World) (_hs:s.size<=140737488355328) (hp:p.size<=140737488355328):Calls Tryz.prog 54 #[.string s,.string p] w λe w'=>e=.returned (.bool (cM0 s p))/\w=w':=by
 by_cases ae:p.size<=s.size
 ·have h1:(p.size:Int)<=s.size:=by omega
  have hcq:s.extract 0 p.size=cutB s p.size:=by
   unfold cutB;rw[<-xU0];exact(kD _).symm
  have jf:∀W:World,(Instr.slice 9 (.string s) none (some (.int .i64 p.size)) none).run Tryz.prog W=.ok (.string (cutB s p.size)) W:=λW=>by
   rw[<-hcq];exact run_slice_string_h W _ s Tryz.underlying9 .i64 p.size (by omega) h1
  have hb:((cutB s p.size).toList==p.toList)=cM0 s p:=by
   rw[Bool.eq_iff_iff,beq_iff_eq];constructor
   ·intro h
    have e:=gG h;exact((qV0 ae).1 e.symm).1
   ·intro h
    rw[<-(qV0 ae).2 ⟨h,rfl⟩]
  clear hcq;generalize cutB s p.size=q at jf hb;go_enter Tryz.func54,Tryz.ntmps54
  go_wp2_with fail
  go_ret;exact⟨rfl,rfl⟩
 ·have h1:¬(p.size:Int)<=s.size:=by omega
  have hb:cM0 s p=false:=by
   cases hb:cM0 s p with
   | false=>rfl
   | true=>exact absurd (kA1 hb) ae
  rw[hb];go_enter Tryz.func54,Tryz.ntmps54
  go_wp2_with fail
  go_ret;exact⟨rfl,rfl⟩
theorem jC1 {α:Type} {l:List α} {m:Nat} {x:α} (h:(l.take m).length<m):(l++[x]).take m=l.take m++[x]:=by
 rw[Ad]at h;rw[Al (by rw[Ah,List.length_singleton];omega),Al (by omega)]
theorem jM1 {α:Type} {l:List α} {m:Nat} {x:α} (h:¬(l.take m).length<m):(l++[x]).take m=l.take m:=by
 rw[Ad]at h;rw[List.take_append_of_le_length (by omega)]
theorem uS0 (es:List En) (a:Option Addr) (c:Nat) (pv mv:Value) (s:ByteArray) (ci:Int) (w:World) (hl:es.length<=20000) (hs:s.size<=140737488355328) (hz:∀x∈es,x.r.size<=140737488355328) (ac:aF w a 5 (es.map aJ)) :
  Calls Tryz.prog 21 #[.agg #[pv,mv,.slice a es.length c],.string s,.int .i64 ci] w λe w'=>∃v,e=.returned v/\aU w' w.heap.size 59 5 aJ v (underL es s ci)/\Grows w w':=by
 obtain⟨W0,bh⟩:=exq (w.alloc (.cells #[pv,mv,.slice a es.length c] 31));have cd:Grows w W0:=by rw[bh];exact Grows.alloc _ _
 have q2:=aT w #[pv,mv,.slice a es.length c] 31 (0,0) 2 _ rfl;rw[<-bh]at q2;have HQ:=Aa q2;have HAT:=Aa (ac.grows cd);have HG0:=Aa cd;have HZ:=Aa hz;clear ac cd hz;go_enter Tryz.func21,Tryz.ntmps21
 go_wp2_with fail
 rw[<-bh];clear bh;go_loopw [7,8] (λv i wr=>∃(k:Nat),k<=es.length/\i=.int .i64 k/\Hid (aU wr W0.heap.size 59 5 aJ v (underL (es.take k) s ci))/\Hid (Grows W0 wr)) (λ_ i _=>es.length-(intOf i).toNat)
 case atStart=>exact⟨0,Ag _,rfl,by rw[show underL (es.take 0) s ci=[] by simp[underL]];exact aU.nil _ _ _ _ _,Grows.refl _⟩
 case round =>
  obtain⟨k,hk,rfl,hO,hg⟩:=hrel;clear q2;have q2:=hg.out.cell HQ.out;obtain⟨ao,co,hve,_,_,_⟩:=hO.out.at_ dR.len;subst hve;by_cases ae:k<es.length
  ·obtain⟨⟨xr,xs,xl,xt,xc⟩,hx⟩:∃x,es[k]?=some x:=⟨_,Ab ae⟩
   obtain⟨ba,oa,rfl,be⟩:=(HAT.out.grows hg.out).get (aH ae);have c0:wr.cell? ⟨ba,oa+k*5,none⟩=some (.string xr):=be k _ hx 0 _ rfl;have c1:wr.cell? ⟨ba,oa+k*5+1,none⟩=some (.string xs):=be k _ hx 1 _ rfl;have c2:wr.cell? ⟨ba,oa+k*5+2,none⟩=some (.int .i64 xl):=be k _ hx 2 _ rfl;have c3:wr.cell? ⟨ba,oa+k*5+3,none⟩=some (.int .i64 xt):=be k _ hx 3 _ rfl;have c4:wr.cell? ⟨ba,oa+k*5+4,none⟩=some (.int .i64 xc):=be k _ hx 4 _ rfl;have dg:(k:Int)<es.length:=by omega
   have CB:=Aa (nB0 xr s wr (HZ.out _ (List.mem_of_getElem? hx)) hs)
   have hf:(es.take (k+1)).filter (λx=>cM0 x.r s)=(es.take k).filter (λx=>cM0 x.r s)++if cM0 xr s=true then [⟨xr,xs,xl,xt,xc⟩] else []:=by
    rw[bI hx,Ae];congr 1
    by_cases h:cM0 xr s=true
    ·simp[h]
    ·simp[h]
   have o8:(underL (es.take k) s ci).length<=k:=by
    unfold underL;rw[Ad]
    have:=Ac (λx:En=>cM0 x.r s) (es.take k)
    rw[Ad]at this;omega
   by_cases hm:((underL (es.take k) s ci).length:Int)<ci
   ·have na:(((es.take k).filter (λx=>cM0 x.r s)).take ci.toNat).length<ci.toNat:=by unfold underL at hm;omega
    cases hb:cM0 xr s with
    | true =>
     have HT:Hid (underL (es.take k) s ci++[⟨xr,xs,xl,xt,xc⟩]=underL (es.take (k+1)) s ci):=by
      show _=_
      unfold underL;rw[hf,if_pos hb,jC1 na]
     rw[hb]at CB;have de:=hO.out;have vq:=hg.out.size;generalize underL (es.take k) s ci=bv at de HT o8 hm;clear be hx hO hf na hb;go_wp2_with (first|(go_at_call 54;refine CB.out.mono ?_;rintro e w5 ⟨rfl,rfl⟩)|(at_builtin;refine cK dR rfl _ _ rfl W0.heap.size _ bv ⟨xr,xs,xl,xt,xc⟩ rfl de (Grows.refl _) _ 1 rfl #[.string xr,.string xs,.int .i64 xl,.int .i64 xt,.int .i64 xc] rfl rfl (by omega) vq ?_;intro v6 w6 m7 hk6 hf6 n9))
     have cp:=n9 W0 hg.out (Ai _);rw[HT.out]at m7;go_wp2_with fail
     go_roundw
     case rel=>exact⟨k+1,ae,by go_num,m7,cp⟩
     case measure=>simp[intOf];omega
    | false =>
     have HT:underL (es.take (k+1)) s ci=underL (es.take k) s ci:=by
      unfold underL;rw[hf,if_neg (by rw[hb];decide),Ap]
     rw[hb]at CB;have de:=Aa hO.out;clear be hx hO hf na hb;go_wp2_with (go_at_call 54;refine CB.out.mono ?_;rintro e w5 ⟨rfl,rfl⟩)
     go_roundw
     case rel=>exact⟨k+1,ae,by go_num,by rw[HT];exact de.out,hg.out⟩
     case measure=>simp[intOf];omega
   ·have na:¬(((es.take k).filter (λx=>cM0 x.r s)).take ci.toNat).length<ci.toNat:=by unfold underL at hm;omega
    have HT:underL (es.take (k+1)) s ci=underL (es.take k) s ci:=by
     unfold underL;rw[hf];split
     ·rw[jM1 na]
     ·rw[Ap]
    have de:=Aa hO.out;clear be hx hO hf na CB;go_wp2_with fail
    go_roundw
    case rel=>exact⟨k+1,ae,by go_num,by rw[HT];exact de.out,hg.out⟩
    case measure=>simp[intOf];omega
  ·obtain rfl:k=es.length:=by omega
   have de:=hO.out;rw[Aj]at de ⊢;go_wp2_with fail
   go_ret;exact⟨_,rfl,de.base HG0.out.size,HG0.out.tr hg.out⟩
theorem tU (l:List En) (a b:Option Addr) (c d:Nat) (w:World) (hl:l.length<=140737488355328) (h1:aF w a 5 (l.map aJ)) (h2:aF w b 5 (l.map aJ)) :
  Calls Tryz.prog 15 #[.slice a l.length c,.slice b l.length d] w λe w'=>e=.returned (.bool true)/\Grows w w':=by
 have H1:=Aa h1;have H2:=Aa h2;clear h1 h2;go_enter Tryz.func15,Tryz.ntmps15
 go_wp2_with fail
 go_loopw [5] (λi wr=>∃j:Nat,j<=l.length/\i=.int .i64 j/\Grows w wr) (λi _=>l.length-(intOf i).toNat)
 case atStart=>exact⟨0,Ag _,rfl,Grows.refl _⟩
 case round =>
  obtain⟨j,hj,rfl,hg⟩:=hrel;by_cases ae:j<l.length
  ·obtain⟨⟨xr,xs,xl,xt,xc⟩,hx⟩:∃x,l[j]?=some x:=⟨_,Ab ae⟩
   obtain⟨ba,oa,rfl,be⟩:=(H1.out.grows hg).get (aH ae);obtain⟨bb,ob,rfl,vn⟩:=(H2.out.grows hg).get (aH ae);have gu:(j:Int)<l.length:=by omega
   have a0:∀x:Ext Grows wr.drew,x.u.cell? ⟨ba,oa+j*5,none⟩=some (.string xr):=aB ((Grows.drew wr).cell (be j _ hx 0 _ rfl));have a1:∀x:Ext Grows wr.drew,x.u.cell? ⟨ba,oa+j*5+1,none⟩=some (.string xs):=aB ((Grows.drew wr).cell (be j _ hx 1 _ rfl));have a2:∀x:Ext Grows wr.drew,x.u.cell? ⟨ba,oa+j*5+2,none⟩=some (.int .i64 xl):=aB ((Grows.drew wr).cell (be j _ hx 2 _ rfl));have a3:∀x:Ext Grows wr.drew,x.u.cell? ⟨ba,oa+j*5+3,none⟩=some (.int .i64 xt):=aB ((Grows.drew wr).cell (be j _ hx 3 _ rfl));have a4:∀x:Ext Grows wr.drew,x.u.cell? ⟨ba,oa+j*5+4,none⟩=some (.int .i64 xc):=aB ((Grows.drew wr).cell (be j _ hx 4 _ rfl));have b0:∀x:Ext Grows wr.drew,x.u.cell? ⟨bb,ob+j*5,none⟩=some (.string xr):=aB ((Grows.drew wr).cell (vn j _ hx 0 _ rfl));have b1:∀x:Ext Grows wr.drew,x.u.cell? ⟨bb,ob+j*5+1,none⟩=some (.string xs):=aB ((Grows.drew wr).cell (vn j _ hx 1 _ rfl));have b2:∀x:Ext Grows wr.drew,x.u.cell? ⟨bb,ob+j*5+2,none⟩=some (.int .i64 xl):=aB ((Grows.drew wr).cell (vn j _ hx 2 _ rfl));have b3:∀x:Ext Grows wr.drew,x.u.cell? ⟨bb,ob+j*5+3,none⟩=some (.int .i64 xt):=aB ((Grows.drew wr).cell (vn j _ hx 3 _ rfl));have b4:∀x:Ext Grows wr.drew,x.u.cell? ⟨bb,ob+j*5+4,none⟩=some (.int .i64 xc):=aB ((Grows.drew wr).cell (vn j _ hx 4 _ rfl));have e1:(xr.toList==xr.toList)=true:=by simp
   have e2:(xs.toList==xs.toList)=true:=by simp
   clear be vn hx;go_wp2_with fail
   refine bF (aV 9 []) (by kernel_rfl) (λd _ _ _ _ h=>by cases d<;>exact h) ?_
   iterate 9 (refine aG rfl (λK hK=>?_);go_simp;refine hK _ ?_;clear hK K)
   refine bH ?_;clear a0 a1 a2 a3 a4 b0 b1 b2 b3 b4;go_wp2_with fail
   go_roundw
   case rel=>exact⟨j+1,ae,by go_num,hg.dr⟩
   case measure=>simp[intOf];omega
  ·obtain rfl:j=l.length:=by omega
   go_wp2_with fail
   go_ret;exact⟨rfl,hg⟩
theorem oX0 (rb:Nat) (m:Mx) (pv lv:Value) (r l:Int) (w:World) (h:jK w rb m) :
  Calls Tryz.prog 39 #[.agg #[pv,.pointer (some ⟨rb,0,none⟩),lv],.int .i64 r,.int .i64 l] w λe w'=>e=.returned (.int .i64 (m.cost (r,l)))/\Grows w w':=by
 have q1:=aT w #[pv,.pointer (some ⟨rb,0,none⟩),lv] 31 (0,0) 1 _ rfl;have CC:=Aa (bF1 (w.alloc (.cells #[pv,.pointer (some ⟨rb,0,none⟩),lv] 31)) rb m (h.grows (Grows.alloc _ _)) r l);clear h;go_enter Tryz.func39,Tryz.ntmps39
 go_wp2_with fail
 refine CC.out.mono ?_;rintro e w1 ⟨rfl,ah⟩;go_wp2_with fail
 go_ret;exact⟨rfl,(Grows.alloc _ _).tr ah⟩
def kindP (p:List cJ) (id:Int):Int:=if id<0\/(p.length:Int)<=id then 0 else (p.getD id.toNat ⟨⟨#[]⟩,0⟩).kind
theorem bM0 (p:List cJ) (a:Option Addr) (c:Nat) (mv lv:Value) (id:Int) (w:World) (_hp:p.length<=1048576) (ac:aF w a 2 (p.map bE)) :
  Calls Tryz.prog 41 #[.agg #[.slice a p.length c,mv,lv],.int .i64 id] w λe w'=>e=.returned (.int .i64 (kindP p id))/\Grows w w':=by
 have q0:=aT w #[.slice a p.length c,mv,lv] 31 (0,0) 0 _ rfl;have iq:=ac.grows (Grows.alloc w (.cells #[.slice a p.length c,mv,lv] 31));clear ac;by_cases h1:id<0
 ·have hk:kindP p id=0:=if_pos (Or.inl h1)
  rw[hk];clear hk iq;go_enter Tryz.func41,Tryz.ntmps41
  go_wp2_with fail
  go_ret;exact⟨rfl,Grows.alloc _ _⟩
 ·by_cases h2:(p.length:Int)<=id
  ·have hk:kindP p id=0:=if_pos (Or.inr h2)
   rw[hk];clear hk iq;go_enter Tryz.func41,Tryz.ntmps41
   go_wp2_with fail
   go_ret;exact⟨rfl,Grows.alloc _ _⟩
  ·obtain⟨j,rfl⟩:∃j:Nat,id=j:=⟨id.toNat,by omega⟩
   obtain⟨⟨xn,xk⟩,hx⟩:∃x,p[j]?=some x:=⟨_,Ab (by omega)⟩
   have hk:kindP p (j:Int)=xk:=by
    unfold kindP;rw[if_neg (by omega),Int.toNat_natCast,List.getD_eq_getElem?_getD,hx];rfl
   obtain⟨ba,oa,rfl,be⟩:=iq.get (aH (k:=j) (by omega));have c1:=be j _ hx 1 _ rfl;have gu:(j:Int)<p.length:=by omega
   rw[hk];clear hk be hx;go_enter Tryz.func41,Tryz.ntmps41
   go_wp2_with fail
   go_ret;exact⟨rfl,Grows.alloc _ _⟩
theorem gY0 (w:World):Calls Tryz.prog 43 #[] w λe w'=>∃A:nM,e=.returned (A.agg hP0)/\oZ w' A hP0/\Grows w w':=by
 obtain⟨W0,bh⟩:=exq (w.alloc (.cells #[.slice (some ⟨w.heap.size+1,0,none⟩) 2 2,.int .i64 10,.slice none 0 0,.slice (some ⟨w.heap.size+1+1,0,none⟩) 3 3] 26));obtain⟨W1,bi⟩:=exq (W0.alloc (.cells (mV.flatMap bE).toArray 147));obtain⟨W2,fx⟩:=exq (W1.alloc (.cells (kR0.flatMap aJ).toArray 59));have cd:Grows w W0:=by rw[bh];exact Grows.alloc _ _
 have ah:Grows W0 W1:=by rw[bi];exact Grows.alloc _ _
 have af:Grows W1 W2:=by rw[fx];exact Grows.alloc _ _
 have mw:W0.heap.size=w.heap.size+1:=by rw[bh];simp
 have ew:W1.heap.size=w.heap.size+1+1:=by rw[bi];simp[mw]
 have hp:aF W2 (some ⟨w.heap.size+1,0,none⟩) 2 (mV.map bE):=by
  have h:=mC0 (enc:=bE) (k:=2) (w:=W0) (t:=147) (fz:=(0,0)) (cs:=(mV.flatMap bE).toArray) (λ_=>rfl) mV rfl;rw[mw,<-bi]at h;exact h.grows af
 have he:aF W2 (some ⟨w.heap.size+1+1,0,none⟩) 5 (kR0.map aJ):=by
  have h:=mC0 (enc:=aJ) (k:=5) (w:=W1) (t:=59) (fz:=(0,0)) (cs:=(kR0.flatMap aJ).toArray) (λ_=>rfl) kR0 rfl;rw[ew,<-fx]at h;exact h
 have HSRC:Hid (oZ W2 ⟨some ⟨w.heap.size+1,0,none⟩,2,none,0,some ⟨w.heap.size+1+1,0,none⟩,3⟩ hP0/\Grows w W2):=⟨⟨hp,aF.nil _ _ _,he⟩,Grows.trans _ _ _ cd (Grows.trans _ _ _ ah af)⟩;obtain⟨bc,_⟩:=bJ (w:=w) (cs:=#[.slice (some ⟨w.heap.size+1,0,none⟩) 2 2,.int .i64 10,.slice none 0 0,.slice (some ⟨w.heap.size+1+1,0,none⟩) 3 3]) (t:=26) (w':=W2) (by rw[<-bh];exact Grows.trans _ _ _ ah af);have b0:=bc 0 _ rfl;have b1:=bc 1 _ rfl;have b2:=bc 2 _ rfl;have b3:=bc 3 _ rfl
 have hE:W2=((w.alloc (.cells #[.slice (some ⟨w.heap.size+1,0,none⟩) 2 2,.int .i64 10,.slice none 0 0,.slice (some ⟨w.heap.size+1+1,0,none⟩) 3 3] 26)).alloc (.cells #[.string ⟨#[66,79,83]⟩,.int .i64 0,.string ⟨#[110,111,117,110]⟩,.int .i64 0] 147)).alloc (.cells #[.string ⟨#[227,129,139]⟩,.string ⟨#[232,154,138]⟩,.int .i64 1,.int .i64 1,.int .i64 30,.string ⟨#[227,129,139]⟩,.string ⟨#[231,167,145]⟩,.int .i64 1,.int .i64 1,.int .i64 20,.string ⟨#[227,129,139,227,129,141]⟩,.string ⟨#[230,159,191]⟩,.int .i64 1,.int .i64 1,.int .i64 40] 59):=by
  rw[fx,bi,bh];rfl
 have HE:=Aa hE;clear bh bi fx cd ah af mw ew hp he bc hE;go_enter Tryz.func43,Tryz.ntmps43
 go_wp2_with fail
 rw[<-HE.out];refine bodyPost_ret (v:=.agg #[.slice (some ⟨w.heap.size+1,0,none⟩) 2 2,.int .i64 10,.slice none 0 0,.slice (some ⟨w.heap.size+1+1,0,none⟩) 3 3]) (by simp[results,Tryz.results43,go_sem,b0,b1,b2,b3]) rfl ⟨_,rfl,HSRC.out.1,HSRC.out.2⟩
end
end Go.Proofs.YtcijgkfpobpdbaaGreatDoor
