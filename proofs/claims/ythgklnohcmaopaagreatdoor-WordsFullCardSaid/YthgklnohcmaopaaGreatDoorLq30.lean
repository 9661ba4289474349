/- The texts Wn3 Wunk Wpl, one behind the other. -/
import Derived.Test.YthgklnohcmaopaaGreatDoorLq29
import Derived.Test.YthgklnohcmaopaaGreatDoorLq22
import Derived.Test.YthgklnohcmaopaaGreatDoorLq20
import Derived.Test.YthgklnohcmaopaaGreatDoorLq9
import Derived.Test.YthgklnohcmaopaaGreatDoorLq19
open List renaming getElem?_eq_getElem → Aa,getElem?_drop → Ab,length_take → Ae,length_drop → Af
open Nat renaming add_zero → Ac,mul_one → Ag
open Go.Lib renaming hid → Ad
set_option maxHeartbeats 4000000
namespace Go.Proofs.YthgklnohcmaopaaGreatDoor
set_option maxRecDepth 100000
section
open Go Go.RowKit
attribute [local go_sem] aM
theorem aK1 {w:World} {b o k:Nat} {l:List Nat} (h:aG w (some ⟨b,o,none⟩) 1 (l.map pZ)) (n:Nat):aG w (some ⟨b,o+k,none⟩) 1 (((l.drop k).take n).map pZ):=by
 intro hn;by_cases hl:l=[]
 ·subst hl;simp at hn
 ·obtain⟨b2,o2,e,hc⟩:=h.get (enc:=pZ) hl
  cases e
  refine⟨b,o+k,rfl,λi row hi j v hj=>?_⟩;rw[List.getElem?_map]at hi;obtain⟨x,hx,rfl⟩:=Option.map_eq_some_iff.1 hi
  have ie:l[k+i]?=some x:=by
   rw[List.getElem?_take]at hx;split at hx
   ·rw[Ab]at hx;exact hx
   ·cases hx
  have:=hc (k+i) x ie j v hj
  rw[<-this];congr 2
  omega
theorem iR1 (tb ib cb pb b o c:Nat) (l:List Nat) (i j:Nat) (pl q:Int) (fb mb N:Nat) (O:Nd->Prop) (V:List Nd) (w:World) (h:iL w fb mb N O V) (kw:i<=j) (ft:j<=l.length) (hlc:l.length<=c) (_hc:c<=9223372036854775807)
  (hx:gP0 ⟨i,j,runesBytes (((l.drop i).take (j-i)).map λn:Nat=>(n:Int)),pl,pl,q,3⟩) (hN:N<maxLen) (ac:aG w (some ⟨b,o,none⟩) 1 (l.map pZ))
  (c0:w.cell? ⟨tb,0,none⟩=some (.func (.func 31) #[] #[.pointer (some ⟨fb,0,none⟩)])) (c1:w.cell? ⟨ib,0,none⟩=some (.int .i64 i)) (c2:w.cell? ⟨cb,0,none⟩=some (.slice (some ⟨b,o,none⟩) l.length c)) (c3:w.cell? ⟨pb,0,none⟩=some (.int .i64 pl)) :
  Calls Tryz.prog 40 #[.int .i64 j,.int .i64 q,.pointer (some ⟨tb,0,none⟩),.pointer (some ⟨ib,0,none⟩),.pointer (some ⟨cb,0,none⟩),.pointer (some ⟨pb,0,none⟩)] w
   (zJ0 ⟨i,j,runesBytes (((l.drop i).take (j-i)).map λn:Nat=>(n:Int)),pl,pl,q,3⟩ fb mb N O w):=by
 have HAT:=Ad ac;have HH:=Ad h;have HNX:=Ad hx;have hi1:(0:Int)<=i:=by omega
 have hj1:(i:Int)<=j:=by omega
 have lx:(j:Int)<=c:=by omega
 clear ac h hx;have q0:=aF ((aB.drew w).cell c0);have q1:=aF ((aB.drew w).cell c1);have q2:=aF ((aB.drew w).cell c2);have q3:=aF ((aB.drew w).cell c3);have ah:((l.drop i).take (j-i)).length=j-i:=by rw[Ae,Af];omega
 obtain⟨R,hR⟩:=exq (runesBytes (((l.drop i).take (j-i)).map λn:Nat=>(n:Int)))
 have te:∀x:Ext aB w.drew,(convert 76 9 (.slice (if c=i then some ⟨b,o,none⟩ else some ⟨b,o+i,none⟩) (j-i) (c-i))).run Tryz.prog x.u=.ok (.string R) x.u:=λx=>by
  have hA:aG x.u (if c=i then some ⟨b,o,none⟩ else some ⟨b,o+i,none⟩) 1 (((l.drop i).take (j-i)).map pZ):=by
   split
   ·rw[show j-i=0 by omega]
    exact aG.nil _ _ _
   ·exact(aK1 HAT.out (j-i)).drew.grows x.h
  have:=dM0 (c:=c-i) hA
  rw[ah,<-hR]at this;exact this
 rw[<-hR]at HNX ⊢;have CA:=fV0 ⟨i,j,R,pl,pl,q,3⟩ fb mb N O V w.drew (HH.out.grows (aB.drew w)) HNX.out hN;clear ah hR HAT HH;unfold Nd.agg at CA;have CA:=Ad CA;go_enter Tryz.func40,Tryz.ntmps40
 go_simp;refine lC 12 (bB 12 []) (by kernel_rfl) (λd _ _ _ _ h=>by cases d<;>exact h) ?_
 iterate 12 (refine aH rfl (λK hK=>?_);go_simp;refine hK _ ?_;clear hK K)
 refine cB ?_;simp only[List.drop_succ_cons,List.drop_zero];clear q0 q1 q2 q3 te;generalize (if c=i then some (⟨b,o,none⟩:Addr) else some ⟨b,o+i,none⟩)=pa
 go_wp2_with fail
 refine CA.out.mono ?_;rintro e w1 ⟨rfl,hF,hg⟩;go_wp2_with fail
 exact bodyPost_end (v:=.tuple #[]) (by simp[results,Tryz.results40,go_sem]) rfl ⟨rfl,hF,iO (aB.drew w) hg⟩
def xG (n:Nat):Bool := !kA (n:Int)
def kA1 (l:List Nat) (i:Nat):Nat:=i+((l.drop i).takeWhile xG).length
def tF0 (l:List Nat) (i:Nat):List (Nat×Int):=(i+1,10000)::if i+1<kA1 l i/\(i=0\/(l[i-1]?.map xG).getD false=false) then [(kA1 l i,9000)] else []
theorem lZ0 {l:List Nat} {i k:Nat} (hik:i<=k) (aw:∀x∈(l.drop i).take (k-i),xG x=true) (jg:∀x,l[k]?=some x->xG x=false) (hk:k<=l.length):kA1 l i=k:=by
 unfold kA1
 have h1:l.drop i=(l.drop i).take (k-i)++l.drop k:=by
  have:=List.take_append_drop (k-i) (l.drop i)
  rw[List.drop_drop,show i+(k-i)=k by omega]at this
  exact this.symm
 have h2:(l.drop i).takeWhile xG=(l.drop i).take (k-i):=by
  obtain⟨A,hA⟩:=exq ((l.drop i).take (k-i));rw[<-hA]at h1 aw ⊢;rw[h1,List.takeWhile_append_of_pos aw]
  have:(l.drop k).takeWhile xG=[]:=by
   cases hd:l.drop k with
   | nil=>rfl
   | cons x r =>
    have hx:l[k]?=some x:=by rw[<-Ac k,<-Ab,hd];rfl
    rw[List.takeWhile_cons,if_neg (by rw[jg x hx];simp)]
  rw[this,List.append_nil]
 rw[h2,Ae,Af];omega
theorem oY0 (g:Nat) (cb:Array Value) (eg:∀args w,(callFunc g args).run Tryz.prog w=.ok (.enter g args) w)
  (l:List Nat) (b o c i:Nat) (w:World) (hl:l.length<=1048576) (hi:i<l.length) (St:List (Nat×Int)->World->Prop)
  (ac:∀xs W,St xs W->aG W (some ⟨b,o,none⟩) 1 (l.map pZ))
  (HG:∀xs t q W,xs.length<=1->St xs W->i<t->t<=l.length->(q=10000\/q=9000)->Calls Tryz.prog g (#[.int .i64 (t:Nat),.int .i64 q]++cb) W λe W'=>e=.returned (.tuple #[])/\St (xs++[(t,q)]) W')
  (h:St [] w) :
  Calls Tryz.prog 39 #[.slice (some ⟨b,o,none⟩) l.length c,.int .i64 i,.func (.func g) #[] cb] w λe w'=>e=.returned (.tuple #[])/\St (tF0 l i) w':=by
 have HGG:=λxs t q W h0 h1 h2 h3 h4=>Ad (HG xs t q W h0 h1 h2 h3 h4);have C1:=HGG [] (i+1) 10000 w (by simp) h (by omega) hi (Or.inl rfl);have HAT:=Ad ac;clear HG h ac;have e1:(((i+1:Nat):Int))=(i:Int)+1:=by omega
 rw[e1]at C1;go_enter Tryz.func39,Tryz.ntmps39
 go_wp2_with fail
 refine C1.out.mono ?_;rintro e w1 ⟨rfl,dw⟩;have HA1:=HAT.out _ _ dw;have HS1:=Ad dw;obtain⟨b2,o2,ee,hc⟩:=HA1.get (enc:=pZ) (by rintro rfl;simp at hi);cases ee
 clear C1 dw HA1;go_wp2_with fail
 go_loopw [6] (λt wr=>∃k:Nat,i<=k/\k<=l.length/\t=.int .i64 k/\Hid (∀x∈(l.drop i).take (k-i),xG x=true)/\wr=w1) (λt _=>l.length-(intOf t).toNat)
 case atStart=>exact⟨i,Nat.le_refl _,by omega,rfl,(λx hx=>by simp at hx),rfl⟩
 case round =>
  obtain⟨k,hik,hk,rfl,aw,rfl⟩:=hrel;by_cases ae:k<l.length
  ·obtain⟨n,hn⟩:∃n,l[k]?=some n:=⟨_,Aa ae⟩
   have hcn:=hc _ _ hn 0 _ rfl;simp only[Ag,Ac]at hcn;have CN:=tY n wr;have cn:(k:Int)<l.length:=by omega
   cases hs:xG n
   ·have HRN:Hid (kA1 l i=k):=lZ0 hik aw.out (λx hx=>by rw[hn]at hx;cases hx;exact hs) hk
    have hh:kA n=true:=by unfold xG at hs;simpa using hs
    clear hn hs aw;go_wp2_with fail
    refine CN.mono ?_;rintro e w2 ⟨r,rfl,hr,rfl⟩;have hr1:r=1:=hr.2 hh;clear hr;subst hr1;have C2:=HGG [(i+1,10000)] k 9000 wr (by simp) HS1.out;by_cases cu:i+1<k
    ·have lj:decide ((i:Int)+1<(k:Nat))=true:=decide_eq_true (by omega)
     have C3:=C2 (by omega) (by omega) (Or.inr rfl);clear C2;by_cases re:i=0
     ·subst re
      have HYES:Hid (0+1<k/\(0=0\/(l[0-1]?.map xG).getD false=false)):=⟨cu,Or.inl rfl⟩;have eo:decide ((1:Int)<(k:Nat))=true:=decide_eq_true (by omega);clear cu hc lj;go_wp2_with fail
      refine C3.out.mono ?_;rintro e w2 ⟨rfl,ew⟩;go_wp2_with fail
      exact bodyPost_end (v:=.tuple #[]) (by simp[results,Tryz.results39,go_sem]) rfl ⟨rfl,by unfold tF0;rw[HRN.out];rw[if_pos (by first|exact HYES.out|exact⟨HYES.out.1,Or.inl rfl⟩)];exact ew⟩
     ·obtain⟨m,hm⟩:∃m:Nat,i-1=m:=⟨_,rfl⟩
      have hmi:(i:Int)-1=m:=by omega
      obtain⟨p,hp⟩:∃p,l[m]?=some p:=⟨_,Aa (by omega)⟩;have hcp:=hc _ _ hp 0 _ rfl;have CC:=tY p wr;simp only[Ag,Ac]at hcp;have ahp:((i:Int)==0)=false:=by rw[beq_eq_false_iff_ne];omega
      have ft:(m:Int)<l.length:=by omega
      cases hs:xG p
      ·have HYES:Hid (i+1<k/\(i=0\/(l[i-1]?.map xG).getD false=false)):=⟨cu,Or.inr (by rw[hm,hp];exact hs)⟩
       have hh:kA p=true:=by unfold xG at hs;simpa using hs
       clear cu hc hp hs re hm;go_wp2_with fail
       refine CC.mono ?_;rintro e w2 ⟨r,rfl,hr,rfl⟩;have hr1:r=1:=hr.2 hh;clear hr;subst hr1;go_wp2_with fail
       refine C3.out.mono ?_;rintro e w2 ⟨rfl,ew⟩;go_wp2_with fail
       exact bodyPost_end (v:=.tuple #[]) (by simp[results,Tryz.results39,go_sem]) rfl ⟨rfl,by unfold tF0;rw[HRN.out];rw[if_pos (by first|exact HYES.out|exact⟨HYES.out.1,Or.inl rfl⟩)];exact ew⟩
      ·have HNO:Hid (¬(i+1<k/\(i=0\/(l[i-1]?.map xG).getD false=false))):=by
        rintro⟨_,h1|h1⟩
        ·omega
        ·rw[hm,hp]at h1
         exact absurd (hs.symm.trans h1) (by decide)
       have hh:kA p=false:=by unfold xG at hs;simpa using hs
       clear cu hc hp hs re hm;go_wp2_with fail
       refine CC.mono ?_;rintro e w2 ⟨r,rfl,hr,rfl⟩;have ym:r≠1:=λh=>by rw[hr.1 h]at hh;cases hh
       have hr1:(r==1)=false:=by rw[beq_eq_false_iff_ne];exact ym
       clear hr ym;go_wp2_with fail
       exact bodyPost_end (v:=.tuple #[]) (by simp[results,Tryz.results39,go_sem]) rfl ⟨rfl,by unfold tF0;rw[HRN.out,if_neg HNO.out];exact HS1.out⟩
    ·have HNO:Hid (¬(i+1<k/\(i=0\/(l[i-1]?.map xG).getD false=false))):=λh=>cu h.1
     have lj:decide ((i:Int)+1<(k:Nat))=false:=decide_eq_false (by omega);clear cu hc C2;go_wp2_with fail
     exact bodyPost_end (v:=.tuple #[]) (by simp[results,Tryz.results39,go_sem]) rfl ⟨rfl,by unfold tF0;rw[HRN.out,if_neg HNO.out];exact HS1.out⟩
   ·have aef:Hid (∀x∈(l.drop i).take (k+1-i),xG x=true):=by
     intro x hx;have hd:(l.drop i)[k-i]?=some n:=by rw[Ab,show i+(k-i)=k by omega];exact hn
     rw[show k+1-i=(k-i)+1 by omega,bM hd]at hx
     rcases List.mem_append.1 hx with hx|hx
     ·exact aw.out x hx
     ·rw[List.mem_singleton.1 hx];exact hs
    have hh:kA n=false:=by unfold xG at hs;simpa using hs
    clear hn hs aw;go_wp2_with fail
    refine CN.mono ?_;rintro e w2 ⟨r,rfl,hr,rfl⟩;have ym:r≠1:=λh=>by rw[hr.1 h]at hh;cases hh
    have hr1:(r==1)=false:=by rw[beq_eq_false_iff_ne];exact ym
    have cr:(r != 1)=true:=by rw[bne_iff_ne];exact ym
    clear hr ym;go_wp2_with fail
    go_roundw
    case rel=>exact⟨k+1,by omega,ae,by go_num,aef,trivial⟩
    case measure=>simp[intOf];omega
  ·obtain rfl:k=l.length:=by omega
   have HRN:Hid (kA1 l i=l.length):=lZ0 hik aw.out (λx hx=>by simp at hx) hk;have cn:¬((l.length:Nat):Int)<l.length:=by omega
   clear aw;have C2:=HGG [(i+1,10000)] l.length 9000 wr (by simp) HS1.out;by_cases cu:i+1<l.length
   ·have lj:decide ((i:Int)+1<(l.length:Nat))=true:=decide_eq_true (by omega)
    have C3:=C2 (by omega) (by omega) (Or.inr rfl);clear C2;by_cases re:i=0
    ·subst re
     have HYES:Hid (0+1<l.length/\(0=0\/(l[0-1]?.map xG).getD false=false)):=⟨cu,Or.inl rfl⟩;have eo:decide ((1:Int)<(l.length:Nat))=true:=decide_eq_true (by omega);clear cu hc lj;go_wp2_with fail
     refine C3.out.mono ?_;rintro e w2 ⟨rfl,ew⟩;go_wp2_with fail
     exact bodyPost_end (v:=.tuple #[]) (by simp[results,Tryz.results39,go_sem]) rfl ⟨rfl,by unfold tF0;rw[HRN.out];rw[if_pos (by first|exact HYES.out|exact⟨HYES.out.1,Or.inl rfl⟩)];exact ew⟩
    ·obtain⟨m,hm⟩:∃m:Nat,i-1=m:=⟨_,rfl⟩
     have hmi:(i:Int)-1=m:=by omega
     obtain⟨p,hp⟩:∃p,l[m]?=some p:=⟨_,Aa (by omega)⟩;have hcp:=hc _ _ hp 0 _ rfl;have CC:=tY p wr;simp only[Ag,Ac]at hcp;have ahp:((i:Int)==0)=false:=by rw[beq_eq_false_iff_ne];omega
     have ft:(m:Int)<l.length:=by omega
     cases hs:xG p
     ·have HYES:Hid (i+1<l.length/\(i=0\/(l[i-1]?.map xG).getD false=false)):=⟨cu,Or.inr (by rw[hm,hp];exact hs)⟩
      have hh:kA p=true:=by unfold xG at hs;simpa using hs
      clear cu hc hp hs re hm;go_wp2_with fail
      refine CC.mono ?_;rintro e w2 ⟨r,rfl,hr,rfl⟩;have hr1:r=1:=hr.2 hh;clear hr;subst hr1;go_wp2_with fail
      refine C3.out.mono ?_;rintro e w2 ⟨rfl,ew⟩;go_wp2_with fail
      exact bodyPost_end (v:=.tuple #[]) (by simp[results,Tryz.results39,go_sem]) rfl ⟨rfl,by unfold tF0;rw[HRN.out];rw[if_pos (by first|exact HYES.out|exact⟨HYES.out.1,Or.inl rfl⟩)];exact ew⟩
     ·have HNO:Hid (¬(i+1<l.length/\(i=0\/(l[i-1]?.map xG).getD false=false))):=by
       rintro⟨_,h1|h1⟩
       ·omega
       ·rw[hm,hp]at h1
        exact absurd (hs.symm.trans h1) (by decide)
      have hh:kA p=false:=by unfold xG at hs;simpa using hs
      clear cu hc hp hs re hm;go_wp2_with fail
      refine CC.mono ?_;rintro e w2 ⟨r,rfl,hr,rfl⟩;have ym:r≠1:=λh=>by rw[hr.1 h]at hh;cases hh
      have hr1:(r==1)=false:=by rw[beq_eq_false_iff_ne];exact ym
      clear hr ym;go_wp2_with fail
      exact bodyPost_end (v:=.tuple #[]) (by simp[results,Tryz.results39,go_sem]) rfl ⟨rfl,by unfold tF0;rw[HRN.out,if_neg HNO.out];exact HS1.out⟩
   ·have HNO:Hid (¬(i+1<l.length/\(i=0\/(l[i-1]?.map xG).getD false=false))):=λh=>cu h.1
    have lj:decide ((i:Int)+1<(l.length:Nat))=false:=decide_eq_false (by omega);clear cu hc C2;go_wp2_with fail
    exact bodyPost_end (v:=.tuple #[]) (by simp[results,Tryz.results39,go_sem]) rfl ⟨rfl,by unfold tF0;rw[HRN.out,if_neg HNO.out];exact HS1.out⟩
end
section
open Go Go.RowKit Go.Shelf
attribute [local go_sem] aO
theorem cQ1 (x:En) (wb:Nat) (r s:ByteArray) (w:World) (_h0:w.cell? ⟨wb,0,none⟩=some (.string r)) (h1:w.cell? ⟨wb,1,none⟩=some (.string s)) :
  Calls Tryz.prog 38 #[x.agg,.pointer (some ⟨wb,0,none⟩)] w λe w'=>e=.returned (.bool (decide (x.s=s)))/\aB w w':=by
 obtain⟨xr,xs,xl,xt,xc⟩:=x;have c1:=λo=>(aB.alloc w o).cell h1
 have hb:(xs.toList==s.toList)=decide (xs=s):=by
  rw[Bool.eq_iff_iff];simp only[beq_iff_eq,decide_eq_true_eq];exact⟨kO,λh=>by rw[h]⟩
 unfold En.agg;clear _h0 h1;go_enter Tryz.func38,Tryz.ntmps38
 go_wp2_with fail
 go_ret;exact⟨by rw[<-hb];rfl,aB.alloc _ _⟩
end
end Go.Proofs.YthgklnohcmaopaaGreatDoor
