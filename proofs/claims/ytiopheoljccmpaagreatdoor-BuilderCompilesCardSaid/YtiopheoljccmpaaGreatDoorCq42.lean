/- The texts SplitV Split16 Lines RefW, one behind the other. -/
import Derived.Test.YtiopheoljccmpaaGreatDoorCq1
import Derived.Test.YtiopheoljccmpaaGreatDoorCq34
import Derived.Test.YtiopheoljccmpaaGreatDoorProg
import Derived.Test.YtiopheoljccmpaaGreatDoorCq17
open Nat renaming le_refl → Aa,zero_le → Ae
open Go.Lib renaming hid → Ab,size_eq → Ac
open UInt8 renaming toNat_inj → Ad
open List renaming take_length → Af
set_option maxHeartbeats 2000000
namespace Go.Proofs.YtiopheoljccmpaaGreatDoor
set_option maxRecDepth 100000
section
open Go Go.RowKit
attribute [local go_sem] aM
def tG0 (x:ByteArray):List Value:=[.string x]
theorem nS:eG Tryz.prog 71 9 1 16 tG0 where
 sl:=Tryz.underlying71
 info:=eY (z:=.string ⟨#[]⟩) (by kernel_rfl) rfl
 pos:=by decide
 by1:=by decide
 len _:=rfl
 one x u hu:=by
  simp[tG0]at hu;subst hu;rfl
def kU (xs:List ByteArray) (w:World) (e:Ending) (w':World):Prop:=∃a cap,e=.returned (.slice a xs.length cap)/\aF w' a 1 (xs.map tG0)/\aB w w'
def eD (c:UInt8) (s:ByteArray) (f k:Nat) (ps:List ByteArray):Prop:=(splitL c s.data.toList).map mkB=ps++(splitL c (s.data.toList.drop f)).map mkB/\c∉(s.extract f k).data.toList
theorem eD.start (c:UInt8) (s:ByteArray):eD c s 0 0 []:=⟨by simp,by rw[kL0]; simp⟩
theorem eD.hit {c:UInt8} {s:ByteArray} {f k:Nat} {ps:List ByteArray} (h:eD c s f k ps) (h1:f<=k) (h2:k<s.size) (hc:s[k]=c):eD c s (k+1) (k+1) (ps++[s.extract f k]):=by
 refine⟨?_,by rw[kL0];simp⟩;rw[h.1,fG1 h1 (Nat.le_of_lt h2),sD h2,hc,cY0 _ h.2,List.map_cons,wG];simp
theorem eD.miss {c:UInt8} {s:ByteArray} {f k:Nat} {ps:List ByteArray} (h:eD c s f k ps) (h1:f<=k) (h2:k<s.size) (hc:s[k]≠c):eD c s f (k+1) ps:=by
 refine⟨h.1,?_⟩;rw[dZ1 h1 h2];simp only[List.mem_append,List.mem_singleton,not_or];exact⟨h.2,λe=>hc e.symm⟩
theorem eD.fin {c:UInt8} {s:ByteArray} {f:Nat} {ps:List ByteArray} (h:eD c s f s.size ps) (h1:f<=s.size):(splitL c s.data.toList).map mkB=ps++[s.extract f s.size]:=by
 rw[h.1,<-nT0 h1,aU0 h.2,List.map_singleton,wG]
theorem yK (c:UInt8) (s:ByteArray) (w:World) (hs:s.size<=4294967290) :
  Calls Tryz.prog 59 #[.string s,.int .u8 c.toNat] w (kU ((splitL c s.data.toList).map mkB) w):=by
 go_enter Tryz.func59,Tryz.ntmps59
 go_wp2_with fail
 go_loopw [5,6,7] (λv f i wr=>∃(j k:Nat) (ps:List ByteArray),k<=s.size+1/\f=.int .i64 j/\i=.int .i64 k/\aO wr w.heap.size 9 1 tG0 v ps/\ps.length<=k/\Hid ((k<=s.size/\j<=k/\eD c s j k ps)\/(k=s.size+1/\(splitL c s.data.toList).map mkB=ps))/\aB w wr) (λ_ _ i _=>s.size+1-(intOf i).toNat)
 case atStart=>exact⟨0,0,[],Ae _,rfl,rfl,aO.nil _ _ _ _ _,Aa _,Or.inl ⟨Ae _,Aa _,eD.start _ _⟩,aB.refl _⟩
 case round =>
  obtain⟨j,k,ps,hk,rfl,rfl,ae,jd,mi,hg⟩:=hrel;by_cases o4:k<=s.size
  ·obtain⟨_,jx,ahb⟩:=mi.out.resolve_right (λh=>by omega)
   have HSI:=Ab ahb;clear mi ahb;obtain⟨a3,c3,rfl,jr,th,_⟩:=ae.at_ nS.len;by_cases af:k<s.size
   ·by_cases hc:s[k]=c
    ·have mh:=Ab (HSI.out.hit jx af hc)
     have qi:((s[k].toNat:Int)==(c.toNat:Int))=true:=by rw[hc];simp
     have aw:((k:Int)==(s.size:Int))=false:=by rw[beq_eq_false_iff_ne];omega
     clear HSI hc;go_wp2_with (at_builtin;refine dQ nS rfl _ _ rfl w.heap.size _ _ (s.extract j k) rfl ae (aB.refl _) wr.heap.size 1 rfl #[.string (s.extract j k)] rfl rfl (by omega) hg.size ?_;intro v' w5 cw bg)
     have fh:=bg w hg (Aa _);go_wp2
     go_roundw
     case rel=>exact⟨k+1,k+1,_,by omega,by go_num,by go_num,cw,by simp;omega,Or.inl ⟨af,Aa _,mh.out⟩,fh⟩
     case measure=>simp[intOf];omega
    ·have mh:=Ab (HSI.out.miss jx af hc)
     have qi:((s[k].toNat:Int)==(c.toNat:Int))=false:=by
      rw[beq_eq_false_iff_ne];intro e;apply hc;rw[<-Ad];omega
     have aw:((k:Int)==(s.size:Int))=false:=by rw[beq_eq_false_iff_ne];omega
     clear HSI hc;go_wp2
     go_roundw
     case rel=>exact⟨j,k+1,ps,by omega,rfl,by go_num,ae,by omega,Or.inl ⟨af,by omega,mh.out⟩,hg⟩
     case measure=>simp[intOf];omega
   ·obtain rfl:k=s.size:=by omega
    have au:=Ab (HSI.out.fin jx);clear HSI;go_wp2_with (at_builtin;refine dQ nS rfl _ _ rfl w.heap.size _ _ (s.extract j s.size) rfl ae (aB.refl _) wr.heap.size 1 rfl #[.string (s.extract j s.size)] rfl rfl (by omega) hg.size ?_;intro v' w5 cw bg)
    have fh:=bg w hg (Aa _);go_wp2
    go_roundw
    case rel=>exact⟨s.size+1,s.size+1,_,Aa _,(by first|rfl|go_num),(by first|rfl|go_num),cw,(by first|(simp;done)|(simp;omega)),Or.inr ⟨rfl,au.out⟩,fh⟩
    case measure=>first|(simp[intOf];done)|(simp[intOf];omega)
  ·obtain⟨rfl,d5⟩:=mi.out.resolve_left (λh=>by omega)
   have aad:=Ab d5;clear mi d5;obtain⟨a5,c5,rfl,ie,ig,ah⟩:=ae.at_ nS.len;go_wp2
   go_ret;rw[aad.out];exact⟨_,_,rfl,ah,hg⟩
theorem xC0 (s:ByteArray) (w:World) (hs:s.size<=4294967290) :
  Calls Tryz.prog 55 #[.string s] w (kU ((splitL 10 s.data.toList).map mkB) w):=by
 go_enter Tryz.func55,Tryz.ntmps55
 go_wp2_with fail
 go_loopw [3,4,5] (λv f i wr=>∃(j k:Nat) (ps:List ByteArray),j<=k/\k<=s.size/\f=.int .i64 j/\i=.int .i64 k/\aO wr w.heap.size 9 1 tG0 v ps/\Hid (eD 10 s j k ps)/\ps.length<=j/\aB w wr) (λ_ _ i _=>s.size-(intOf i).toNat)
 case atStart=>exact⟨0,0,[],Aa _,Ae _,rfl,rfl,aO.nil _ _ _ _ _,eD.start _ _,Aa _,aB.refl _⟩
 case round =>
  obtain⟨j,k,ps,jx,hk,rfl,rfl,ae,mi,jd,hg⟩:=hrel;obtain⟨a3,c3,rfl,jr,th,_⟩:=ae.at_ nS.len;by_cases af:k<s.size
  ·by_cases hc:s[k]=10
   ·have mh:=Ab (mi.out.hit jx af hc)
    have qi:((s[k].toNat:Int)==10)=true:=by rw[hc];rfl
    clear mi hc;go_wp2_with (at_builtin;refine dQ nS rfl _ _ rfl w.heap.size _ _ (s.extract j k) rfl ae (aB.refl _) wr.heap.size 1 rfl #[.string (s.extract j k)] rfl rfl (by omega) hg.size ?_;intro v' w5 cw bg)
    have fh:=bg w hg (Aa _);go_wp2
    go_roundw
    case rel=>exact⟨k+1,k+1,_,Aa _,af,by go_num,by go_num,cw,mh.out,by simp;omega,fh⟩
    case measure=>simp[intOf];omega
   ·have mh:=Ab (mi.out.miss jx af hc)
    have qi:((s[k].toNat:Int)==10)=false:=by
     rw[beq_eq_false_iff_ne];intro e;apply hc;rw[<-Ad];show s[k].toNat=10;omega
    clear mi hc;go_wp2
    go_roundw
    case rel=>exact⟨j,k+1,ps,by omega,af,rfl,by go_num,ae,mh.out,jd,hg⟩
    case measure=>simp[intOf];omega
  ·obtain rfl:k=s.size:=by omega
   have au:=Ab (mi.out.fin jx);clear mi;go_wp2_with (at_builtin;refine dQ nS rfl _ _ rfl w.heap.size _ _ (s.extract j s.size) rfl ae (aB.refl _) wr.heap.size 1 rfl #[.string (s.extract j s.size)] rfl rfl (by omega) hg.size ?_;intro v' w5 cw bg)
   have fh:=bg w hg (Aa _);rw[<-au.out]at cw;obtain⟨a5,c5,rfl,ie,ig,ah⟩:=cw.at_ nS.len;go_wp2
   go_ret;exact⟨_,_,rfl,ah,fh⟩
theorem jZ0 (s:ByteArray) (w:World) (hs:s.size<=4294967290) :
  Calls Tryz.prog 110 #[.string s] w (kU ((splitL 9 s.data.toList).map mkB) w):=by
 go_enter Tryz.func110,Tryz.ntmps110
 go_wp2_with fail
 go_loopw [3,4,5] (λv f i wr=>∃(j k:Nat) (ps:List ByteArray),j<=k/\k<=s.size/\f=.int .i64 j/\i=.int .i64 k/\aO wr w.heap.size 9 1 tG0 v ps/\Hid (eD 9 s j k ps)/\ps.length<=j/\aB w wr) (λ_ _ i _=>s.size-(intOf i).toNat)
 case atStart=>exact⟨0,0,[],Aa _,Ae _,rfl,rfl,aO.nil _ _ _ _ _,eD.start _ _,Aa _,aB.refl _⟩
 case round =>
  obtain⟨j,k,ps,jx,hk,rfl,rfl,ae,mi,jd,hg⟩:=hrel;obtain⟨a3,c3,rfl,jr,th,_⟩:=ae.at_ nS.len;by_cases af:k<s.size
  ·by_cases hc:s[k]=9
   ·have mh:=Ab (mi.out.hit jx af hc)
    have qi:((s[k].toNat:Int)==9)=true:=by rw[hc];rfl
    clear mi hc;go_wp2_with (at_builtin;refine dQ nS rfl _ _ rfl w.heap.size _ _ (s.extract j k) rfl ae (aB.refl _) wr.heap.size 1 rfl #[.string (s.extract j k)] rfl rfl (by omega) hg.size ?_;intro v' w5 cw bg)
    have fh:=bg w hg (Aa _);go_wp2
    go_roundw
    case rel=>exact⟨k+1,k+1,_,Aa _,af,by go_num,by go_num,cw,mh.out,by simp;omega,fh⟩
    case measure=>simp[intOf];omega
   ·have mh:=Ab (mi.out.miss jx af hc)
    have qi:((s[k].toNat:Int)==9)=false:=by
     rw[beq_eq_false_iff_ne];intro e;apply hc;rw[<-Ad];show s[k].toNat=9;omega
    clear mi hc;go_wp2
    go_roundw
    case rel=>exact⟨j,k+1,ps,by omega,af,rfl,by go_num,ae,mh.out,jd,hg⟩
    case measure=>simp[intOf];omega
  ·obtain rfl:k=s.size:=by omega
   have au:=Ab (mi.out.fin jx);clear mi;go_wp2_with (at_builtin;refine dQ nS rfl _ _ rfl w.heap.size _ _ (s.extract j s.size) rfl ae (aB.refl _) wr.heap.size 1 rfl #[.string (s.extract j s.size)] rfl rfl (by omega) hg.size ?_;intro v' w5 cw bg)
   have fh:=bg w hg (Aa _);rw[<-au.out]at cw;obtain⟨a5,c5,rfl,ie,ig,ah⟩:=cw.at_ nS.len;go_wp2
   go_ret;exact⟨_,_,rfl,ah,fh⟩
theorem vA0 {s:ByteArray} {k:Nat} (h:k<s.size):s.data.toList.take (k+1)=s.data.toList.take k++[s[k]]:=by
 have h2:k<s.data.toList.length:=by simpa using h
 rw[List.take_succ_eq_append_getElem h2];rfl
theorem kY0 (l:List UInt8) (c:UInt8):decVal (l++[c])=decVal l*10+(c.toNat-48):=by
 have key:∀(l:List UInt8) (acc:Nat),xQ acc (l++[c])=xQ acc l*10+(c.toNat-48):=by
  intro l
  induction l with
  | nil=>intro acc;rfl
  | cons b l ih=>intro acc;exact ih _
 exact key l 0
theorem cV1 {l:List UInt8} (h1:l≠[]) (h2:l.length<=9) (h3:(l.head?==some 48 && !(l==[48]))=false):numOK l=l.all dW:=by
 unfold numOK
 have:l.isEmpty=false:=by simpa using h1
 rw[this,h3];simp[h2]
def kW1 (b:Bool) (n:Nat):Int:=if b then (n:Int) else 0
theorem mG0 (s:ByteArray) (w:World) (hs:s.size<=4294967290) :
  Calls Tryz.prog 113 #[.string s] w λe w'=>e=.returned (.tuple #[.int .i64 (kW1 (numOK s.data.toList) (decVal s.data.toList)),.bool (numOK s.data.toList)])/\w=w':=by
 by_cases h1:s.size<1
 ·have hn:numOK s.data.toList=false:=by
   have:s.data.toList=[]:=List.eq_nil_of_length_eq_zero (by rw[<-Ac];omega)
   rw[this];rfl
  have g1:(s.size:Int)<1:=by omega
  rw[hn];clear hn h1;go_enter Tryz.func113,Tryz.ntmps113
  go_wp2
  go_ret2;exact⟨rfl,rfl⟩
 ·have g1:¬(s.size:Int)<1:=by omega
  by_cases h9:9<s.size
  ·have hn:numOK s.data.toList=false:=by unfold numOK;rw[<-Ac];simp;omega
   have g9:(9:Int)<s.size:=by omega
   rw[hn];clear hn h1 h9;go_enter Tryz.func113,Tryz.ntmps113
   go_wp2
   go_ret2;exact⟨rfl,rfl⟩
  ·have g9:¬(9:Int)<s.size:=by omega
   have cu:0<s.size:=by omega
   have gn:s.data.toList=s[0]::s.data.toList.drop 1:=by
    have:=sD cu
    simpa using this
   have adg:(s[0]=48)↔(s[0].toNat:Int)=48:=by
    rw[<-Ad];show s[0].toNat=48↔_
    omega
   by_cases h0:(s[0].toNat:Int)=48/\1<s.size
   ·have hn:numOK s.data.toList=false:=by
     have hl:1<s.data.toList.length:=by rw[<-Ac];exact h0.2
     have e48:=adg.2 h0.1;rw[gn]at hl ⊢;unfold numOK;rw[e48]
     cases hd:s.data.toList.drop 1 with
     | nil=>rw[hd]at hl;simp at hl
     | cons b r=>simp
    obtain⟨h48,hl⟩:=h0;have g48:((s[0].toNat:Int)==48)=true:=by simp[h48]
    have gl:(1:Int)<s.size:=by omega
    rw[hn];clear hn gn adg h48 h1 h9;go_enter Tryz.func113,Tryz.ntmps113
    go_wp2
    go_ret2;exact⟨rfl,rfl⟩
   ·have td:numOK s.data.toList=s.data.toList.all dW:=by
     refine cV1 (by rw[gn];simp) (by rw[<-Ac];omega) ?_;rw[gn];by_cases e48:s[0]=48
     ·have hl:¬1<s.size:=λhl=>h0 ⟨adg.1 e48,hl⟩
      have hd:s.data.toList.drop 1=[]:=by rw[List.drop_eq_nil_iff,<-Ac];omega
      rw[hd,e48];rfl
     ·simp[e48]
    have g:((s[0].toNat:Int)==48)=false\/(((s[0].toNat:Int)==48)=true/\¬(1:Int)<s.size):=by
     by_cases h48:(s[0].toNat:Int)=48
     ·exact Or.inr ⟨by simp[h48],λhl=>h0 ⟨h48,by omega⟩⟩
     ·exact Or.inl (by simp[h48])
    rw[td];have h9':s.size<=9:=by omega
    obtain⟨b,kc⟩:=exq (s.data.toList.all dW);rw[<-kc];have HBB:=Ab kc;clear kc td gn adg h0 h1 h9;rcases g with g48|⟨g48,gl⟩
    all_goals
     go_enter Tryz.func113,Tryz.ntmps113
     go_wp2_with fail
     go_loop [4,5] (λn i=>∃k:Nat,k<=s.size/\i=.int .i64 k/\n=.int .i64 (decVal (s.data.toList.take k):Nat)/\Hid ((s.data.toList.take k).all dW=true)) (λ_ i=>s.size-(intOf i).toNat)
     case atStart=>exact⟨0,Ae _,rfl,rfl,rfl⟩
     case round =>
      obtain⟨k,hk,rfl,rfl,hd⟩:=hrel;by_cases af:k<s.size
      ·have te:=vA0 af
       have ay:(s.data.toList.take k).length<=9:=by rw[List.length_take];omega
       have hb:=iE0 _ hd.out ay;by_cases ab1:dW s[k]=true
       ·have hdr:48<=s[k].toNat/\s[k].toNat<=57:=by simpa [dW] using ab1
        obtain⟨d1,d2⟩:=hdr;have e1:¬(s[k].toNat:Int)<48:=by omega
        have e2:¬(57:Int)<s[k].toNat:=by omega
        have e3:(48:Int)<=s[k].toNat:=by omega
        have e4:(s[k].toNat:Int)<=57:=by omega
        have ig:(s.data.toList.take (k+1)).all dW=true:=by rw[te,List.all_append,hd.out];simp[ab1]
        have hv:decVal (s.data.toList.take (k+1))=decVal (s.data.toList.take k)*10+(s[k].toNat-48):=by rw[te,kY0]
        have HD2:=Ab ig;have HV:=Ab hv;generalize decVal (s.data.toList.take k)=v at *;have hb':(v:Int)<1000000000:=by omega
        clear te hd ig hv ab1 ay hb;go_wp2
        refine⟨⟨k+1,af,by go_num,?_,HD2.out⟩,by simp[intOf];omega⟩
        rw[HV.out];congr 1
        omega
       ·have hdf:dW s[k]=false:=by simpa using ab1
        have au:b=false:=by
         rw[HBB.out,<-List.take_append_drop (k+1) s.data.toList,te];simp[hdf]
        have HF:=Ab au
        have hdr:(s[k].toNat:Int)<48\/(¬(s[k].toNat:Int)<48/\(57:Int)<s[k].toNat):=by
         unfold dW at hdf;simp at hdf;omega
        clear te hd hdf ab1 au ay hb;rcases hdr with d|⟨d,d'⟩
        ·go_wp2
         go_ret2;rw[HF.out];exact⟨rfl,rfl⟩
        ·go_wp2
         go_ret2;rw[HF.out];exact⟨rfl,rfl⟩
      ·obtain rfl:k=s.size:=by omega
       have au:b=true:=HBB.out.trans (by have:=hd.out;rwa [show s.data.toList.take s.size=s.data.toList by rw[Ac,Af]]at this)
       have te:s.data.toList.take s.size=s.data.toList:=by rw[Ac,Af]
       rw[te];have HF:=Ab au;clear hd au te;go_wp2
       go_ret2;rw[HF.out];exact⟨rfl,rfl⟩
end
end Go.Proofs.YtiopheoljccmpaaGreatDoor
