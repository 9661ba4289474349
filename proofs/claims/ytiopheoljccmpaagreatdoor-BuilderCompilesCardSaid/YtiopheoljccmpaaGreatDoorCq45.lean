/- The texts R15q, one behind the other. -/
import Derived.Test.YtiopheoljccmpaaGreatDoorCq22
import Derived.Test.YtiopheoljccmpaaGreatDoorCq34
import Derived.Test.YtiopheoljccmpaaGreatDoorCq42
import Derived.Test.YtiopheoljccmpaaGreatDoorCq35
import Derived.Test.YtiopheoljccmpaaGreatDoorCq20
import Derived.Test.YtiopheoljccmpaaGreatDoorCq37
open Go.Lib renaming hid → Aa,toList_data → Ac,idxFromS → Ad,size_eq → Af,cut → Ag,index → Ah
open Nat renaming le_refl → Ab,zero_le → Ae
set_option maxHeartbeats 4000000
namespace Go.Proofs.YtiopheoljccmpaaGreatDoor
set_option maxRecDepth 100000
open Go Go.RowKit
attribute [local go_sem] aM aP
def lL0 (s:ByteArray):bT×Bool:=if (bO0 s).kind<0 then (⟨⟨#[]⟩,0⟩,false) else (bO0 s,iI (bO0 s).name)
theorem nY0:∀ {l:List UInt8},(9:UInt8)∉l->Ah l [9] = -1
 | [],_=>rfl
 | b::l,h=>by
  have h1:¬(9:UInt8)=b:=λe=>h (by rw[e];exact List.mem_cons_self);have ih:=nY0 (l:=l) (λhm=>h (List.mem_cons_of_mem _ hm));rw[Ah,if_neg (by simp[List.isPrefixOf,h1]),ih];rfl
theorem cE1 {s:ByteArray} (h:(9:UInt8)∉s.data.toList):lL0 s=(⟨⟨#[]⟩,0⟩,false):=by
 have hk:(bO0 s).kind = -1:=by
  unfold bO0 Ag;rw[nY0 h,if_neg (by decide)];show bM0 (mkB []) = -1
  decide
 unfold lL0;rw[hk];rfl
theorem jC1 {s:ByteArray} {k:Nat} (hk:k<s.size) (h:s[k]=9) (hb:(9:UInt8)∉s.data.toList.take k):bO0 s=⟨s.extract 0 k,bM0 (s.extract (k+1) s.size)⟩:=by
 have e:s.data.toList=s.data.toList.take k++9::s.data.toList.drop (k+1):=by
  rw[<-h,<-sD hk,List.take_append_drop]
 have hc:=(congrArg (Ag · [9]) e).trans (kR1 _ hb)
 have a1:mkB (s.data.toList.take k)=s.extract 0 k:=by
  apply jD
  rw[mU,Lib.extract_data];simp
 have a2:mkB (s.data.toList.drop (k+1))=s.extract (k+1) s.size:=by
  apply jD
  rw[mU,nT0 hk]
 unfold bO0;rw[show Ag s.data.toList [9]=_ from hc]
 simp only[a1,a2]
theorem zL0 (w:World) :
  Calls Tryz.prog 106 #[] w λe w'=>(∃b,e=.returned (.slice (some ⟨b,0,none⟩) 3 3)/\∀(k:Nat) q,iM[k]?=some q->w'.cell? ⟨b,k,none⟩=some (.string q))/\aB w w':=by
 have hT:∀(k:Nat) q,iM[k]?=some q->(w.alloc (.cells #[.string ⟨#[99,111,110,116,101,110,116]⟩,.string ⟨#[102,117,110,99,116,105,111,110]⟩,.string ⟨#[112,114,101,102,105,120]⟩] 9)).cell? ⟨w.heap.size,k,none⟩=some (.string q):=λk q hq=>by
  have T:=TB.alloc w #[.string ⟨#[99,111,110,116,101,110,116]⟩,.string ⟨#[102,117,110,99,116,105,111,110]⟩,.string ⟨#[112,114,101,102,105,120]⟩] 9
  match k,hq with
  | 0,h=>cases h;exact T.cell (o:=0) rfl
  | 1,h=>cases h;exact T.cell (o:=1) rfl
  | 2,h=>cases h;exact T.cell (o:=2) rfl
 go_enter Tryz.func106,Tryz.ntmps106
 go_wp2
 go_ret;exact⟨⟨_,rfl,hT⟩,aB.alloc _ _⟩
theorem line2_any (s:ByteArray) (w:World) (hs:s.size<=9223372036854775806) :
  Calls Tryz.prog 56 #[.string s] w λe w'=>e=.returned (.tuple #[.agg #[.string (lL0 s).1.name,.int .i64 (lL0 s).1.kind],.bool (lL0 s).2])/\aB w w':=by
 have T0:=TB.alloc w #[.string ⟨#[]⟩,.int .i64 0] 116;have g0:=aB.alloc w (.cells #[.string ⟨#[]⟩,.int .i64 0] 116);obtain⟨V,hV⟩:=exq (lL0 s);rw[<-hV];have HV:=Aa hV;have gj:(9:UInt8)∉s.data.toList.take 0:=by simp
 clear hV;go_enter Tryz.func56,Tryz.ntmps56
 go_wp2_with fail
 go_loop [4] (λi=>∃k:Nat,k<=s.size/\i=.int .i64 k/\Hid ((9:UInt8)∉s.data.toList.take k)) (λi=>s.size-(intOf i).toNat)
 case atStart=>exact⟨0,Ae _,rfl,gj⟩
 case round =>
  obtain⟨k,hk,rfl,hb⟩:=hrel;clear gj;by_cases af:k<s.size
  ·have di:(k:Int)<s.size:=by omega
   by_cases hc:s[k]=9
   ·have ht:=jC1 af hc hb.out
    have qi:((s[k].toNat:Int) != 9)=false:=by rw[hc];rfl
    obtain⟨rest,l8⟩:=exq (s.extract (k+1) s.size);obtain⟨nm,i7⟩:=exq (s.extract 0 k)
    have hVt:V=if bM0 rest<0 then (⟨⟨#[]⟩,0⟩,false) else (⟨nm,bM0 rest⟩,iI nm):=by
     rw[HV.out,l8,i7];unfold lL0;rw[ht]
    have hnz:nm.size<=9223372036854775807:=by
     rw[i7,ByteArray.size_extract];omega
    have HVT:=Aa hVt;have HR:=Aa l8;have HN:=Aa i7;clear ht hVt hb HV;go_wp2_with fail
    go_loopw [5] (λj wr=>∃n:Nat,n<=3/\j=.int .i64 n/\Hid (bM0 rest=Ad (iM.drop n) rest n)/\aB (w.alloc (.cells #[.string ⟨#[]⟩,.int .i64 0] 116)) wr) (λj _=>3-(intOf j).toNat)
    case atStart=>exact⟨0,Ae _,rfl,rfl,aB.refl _⟩
    case round =>
     obtain⟨n,hn,rfl,hz,hg⟩:=hrel;by_cases pg:n<3
     ·obtain⟨q,hq⟩:∃q,iM[n]?=some q:=⟨_,List.getElem?_eq_getElem pg⟩
      have hni:(n:Int)<3:=by omega
      have hd:iM.drop n=q::iM.drop (n+1):=by
       rw[List.drop_eq_getElem_cons (show n<iM.length from pg),(List.getElem?_eq_some_iff.1 hq).2]
      have ju:=hz.out;rw[hd,Ad]at ju;have HZ2:=Aa ju;have CK:=λu=>Aa (zL0 u);have wk:IntKind.i64.wrap ((k:Int)+1)=(k:Int)+1:=by simp[IntKind.wrap,IntKind.bits,IntKind.signed];omega
      have k0:(0:Int)<=(k:Int)+1:=by omega
      have k1:(k:Int)+1<=s.size:=by omega
      have k2:((k:Int)+1).toNat=k+1:=by omega
      have n0:(0:Int)<=n:=by omega
      clear hz ju hd;go_wp2_with fail
      refine bH (oC [0,1,2,3,5,4,6,7,8] [4]) (by kernel_rfl) (λd _ _ _ _ h=>by cases d<;>exact h) ?_
      iterate 5 (refine aJ rfl (λK hK=>?_);go_simp;refine hK _ ?_;clear hK K)
      refine bM rfl rfl (λK hK=>?_);go_simp;refine(CK _).out.mono ?_;rintro e w4 ⟨⟨kb,rfl,hkc⟩,cd⟩;refine⟨cd,hK _ _ ?_⟩;have z0:∀x:Ext aB w4,x.u.cell? ⟨kb,n,none⟩=some (.string q):=aG (hkc n q hq);clear hK K CK hkc;iterate 3 (refine aJ rfl (λK hK=>?_);go_simp;refine hK _ ?_;clear hK K)
      refine bN ?_;clear z0;have d8:=(hg.tr (aB.drew wr)).tr cd;by_cases he:q=rest
      ·have e2:((s.extract (k+1) s.size).toList==q.toList)=true:=by rw[he,HR.out];simp
       have au:V=(⟨s.extract 0 k,(n:Int)⟩,iI (s.extract 0 k)):=by
        rw[HVT.out,HZ2.out,if_pos he,if_neg (by omega),HN.out]
       rw[i7]at hnz;have CN:=λu=>Aa (jD0 (s.extract 0 k) u hnz);have T5:=T0.gr d8;have bg:=g0.tr d8;have k3:(0:Int)<=k:=by omega
       have k4:(k:Int)<=s.size:=by omega
       have c0:=T5.cell (o:=0) rfl;have c1:=T5.cell (o:=1) rfl;have f0:=T5.froz 0;have f1:=T5.froz 1;have T6:=(T5.set 0 (.string (s.extract 0 k))).set 1 (.int .i64 n);have d0:=T6.cell (o:=0) rfl;have d1:=T6.cell (o:=1) rfl;have hgf:=(bg.set (p:=⟨w.heap.size,0,none⟩) (Ab _) (.string (s.extract 0 k))).set (p:=⟨w.heap.size,1,none⟩) (Ab _) (.int .i64 n);subst au;clear HVT HZ2 HR HN l8 i7 hnz T0 T5 T6 he;rw[e2];go_wp2_with fail
       refine pD 9 (aT 9 [8]) (by kernel_rfl) (λd _ _ _ _ h=>by cases d<;>exact h) ?_
       iterate 8 (refine aJ rfl (λK hK=>?_);go_simp;refine hK _ ?_;clear hK K)
       refine bM rfl rfl (λK hK=>?_);go_simp;refine(CN _).out.mono ?_;rintro e w6 ⟨rfl,rfl⟩;refine⟨aB.refl _,hK _ _ ?_⟩;clear hK K;refine bN ?_;simp only[List.drop_succ_cons,List.drop_zero];go_wp2_with fail
       refine bodyPost_ret (v:=.tuple #[.agg #[.string (s.extract 0 k),.int .i64 n],.bool (iI (s.extract 0 k))]) (by simp[results,Tryz.results56,go_sem,d0,d1]) rfl ?_
       exact⟨rfl,hgf.tr (aB.drew _)⟩
      ·have e2:((s.extract (k+1) s.size).toList==q.toList)=false:=by
        rw[beq_eq_false_iff_ne];intro e;refine he (jD ?_);rw[HR.out,<-Ac,<-Ac];exact e.symm
       have hz3:=HZ2.out;rw[if_neg he]at hz3;have HZ3:=Aa hz3;clear HZ2 hz3 T0 he HVT HR HN l8 i7 hnz;rw[e2];go_wp2_with fail
       go_roundw
       case rel=>exact⟨n+1,pg,by go_num,HZ3.out,d8⟩
       case measure=>simp[intOf];omega
     ·obtain rfl:n=3:=by omega
      have au:V=(⟨⟨#[]⟩,0⟩,false):=by
       rw[HVT.out,if_pos (by rw[hz.out];exact(by decide:(-1:Int)<0))]
      subst au;have T5:=T0.gr hg;have c0:=T5.cell (o:=0) rfl;have c1:=T5.cell (o:=1) rfl;have f0:=T5.froz 0;have f1:=T5.froz 1;have T6:=(T5.set 0 (.string ⟨#[]⟩)).set 1 (.int .i64 0);have d0:=T6.cell (o:=0) rfl;have d1:=T6.cell (o:=1) rfl;have hgf:=((g0.tr hg).set (p:=⟨w.heap.size,0,none⟩) (Ab _) (.string ⟨#[]⟩)).set (p:=⟨w.heap.size,1,none⟩) (Ab _) (.int .i64 0);clear HVT hz HR HN l8 i7 hnz T0 T5 T6;go_wp2_with fail
      refine bodyPost_ret (v:=.tuple #[.agg #[.string ⟨#[]⟩,.int .i64 0],.bool false]) (by simp[results,Tryz.results56,go_sem,d0,d1]) rfl ?_
      exact⟨rfl,hgf⟩
   ·have qi:((s[k].toNat:Int) != 9)=true:=by
     rw[bne_iff_ne];intro e;apply hc;rw[<-UInt8.toNat_inj];show s[k].toNat=9;omega
    have fp:(9:UInt8)∉s.data.toList.take (k+1):=by
     rw[List.take_succ_eq_append_getElem (by rw[<-Af];exact af),List.mem_append,List.mem_singleton];rintro(h|h)
     ·exact hb.out h
     ·exact hc h.symm
    have HB2:=Aa fp;clear hb fp HV;go_wp2_with fail
    go_round
    case rel=>exact⟨k+1,af,by go_num,HB2.out⟩
    case measure=>simp[intOf];omega
  ·obtain rfl:k=s.size:=by omega
   have au:V=(⟨⟨#[]⟩,0⟩,false):=by
    rw[HV.out];refine cE1 λh=>hb.out ?_;rwa [List.take_of_length_le (by rw[Af];exact Ab _)]
   subst au;clear HV hb;go_wp2_with fail
   refine bodyPost_ret (v:=.tuple #[.agg #[.string ⟨#[]⟩,.int .i64 0],.bool false]) (by simp[results,Tryz.results56,go_sem]) rfl ?_
   exact⟨rfl,g0⟩
end Go.Proofs.YtiopheoljccmpaaGreatDoor
