/- The texts Stab7 Stab8 Stab9, one behind the other. -/
import Derived.Test.YtheiocndipepaaaGreatDoorKq5
open Go.Lib renaming hid → Aa
open Go.IntKind renaming signed → Ab,wrap → Ac,bits → Ad
open Nat renaming le_refl → Ae,mul_le_mul_right → Af,lt_or_ge → Ag,succ_mul → Ah,mul_assoc → Ai,mul_comm → Aj,zero_mul → Ak
set_option maxHeartbeats 16000000
namespace Go.Proofs.YtheiocndipepaaaGreatDoor
set_option maxRecDepth 100000
section
open Go Go.Shelf Go.RowKit Go.Lib Go.Sort
section
variable {k:Nat->Nat} {n blk g:Nat} {cb:Array Value} {d0:Array Nat} {w0:World}
theorem cQ1 (H:gH k n blk g cb d0 w0) (N:Nat)
  (IH:∀(a m b c:Nat) (dk:Array Nat) (w:World),b-a<N->dk.size=n->xY k (Fd dk) a m b n->SWn w0 blk dk w ->
   Calls Tryz.prog 150 #[.slice (some ⟨blk,0,none⟩) n c,.int .i64 a,.int .i64 m,.int .i64 b,.func (.func g) #[] cb] w (gD k n blk w0 dk a b))
  (a m b c ar:Nat) (dk:Array Nat) (w:World) (hN:b-a<N+1) (hs:dk.size=n) (hp:xY k (Fd dk) a m b n) (h0:m-a≠1) (h1:b-m≠1) (yw:ar=(a+b)/2) (hm:m<=ar) (S:SWn w0 blk dk w) :
  Calls Tryz.prog 150 #[.slice (some ⟨blk,0,none⟩) n c,.int .i64 a,.int .i64 m,.int .i64 b,.func (.func g) #[] cb] w (gD k n blk w0 dk a b):=by
 have hn:=H.small;have mixed:=fC0;have eg:=H.eg;have HH:=Aa H;have S0:=Aa S;have HPRE:=Aa hp;obtain⟨h2,h3,h4,pm,s1,s2,ap⟩:=hp;have HBD:=Aa pm;have HS1:=Aa s1;have HS2:=Aa s2;have HAP:=Aa ap;have HIH:=Aa IH;obtain⟨d,hd⟩:=exq (m-a);obtain⟨d2,jb⟩:=exq (b-m);obtain⟨nn,t7⟩:=exq (ar+m);obtain⟨pp,hpp⟩:=exq (nn-1);obtain⟨lo,gw⟩:=exq a;obtain⟨hi,ws⟩:=exq m;have ac:Hid (nJ0 a m b ar lo hi):=⟨h2,h3,by omega,by omega,λ_=>by omega,λ_=>by omega⟩;have wma:IntKind.i64.wrap ((m:Int)-a)=d:=by simp[Ac,Ad,Ab];omega
 have wbm:IntKind.i64.wrap ((b:Int)-m)=d2:=by simp[Ac,Ad,Ab];omega
 have fe:¬(d:Int)=1:=by omega
 have m6:¬(d2:Int)=1:=by omega
 have em:((a:Int)+b)/2=ar:=by omega
 have wnn:IntKind.i64.wrap ((ar:Int)+m)=nn:=by simp[Ac,Ad,Ab];omega
 have wpp:IntKind.i64.wrap ((nn:Int)-1)=pp:=by simp[Ac,Ad,Ab];omega
 have hmi:¬(ar:Int)<m:=by omega
 have HNN:=Aa t7;have HPP:Hid (pp=ar+m-1):=by show _=_;omega
 obtain⟨lj,jn,hl3⟩:lo<=hi/\hi<=m/\hi<=ar:=by have:=ac.out.rng;omega
 have ahx:nn<=2*n/\m<=nn:=by omega
 clear H S pm s1 s2 ap h1 h0 hd jb t7 hpp IH HPRE;have HLO:=Aa gw;have HHI:=Aa ws;clear gw ws;have HMD:=Aa yw;clear yw;go_enter Tryz.func150,Tryz.ntmps150
 go_wp2_with fail
 have hz:((d:Int)==1)=false:=by simpa using fe
 have ng:((d2:Int)==1)=false:=by simpa using m6
 try rw[hz]
 try rw[ng]
 clear hz ng;go_loopw [20,21] (λi j wr=>∃(I J:Nat),i=.int .i64 I/\j=.int .i64 J/\lo<=I/\I<=J/\J<=hi/\Hid ((∀c,lo<=c->c<I->¬k (Fd dk (ar+m-1-c))<k (Fd dk c))/\(∀c,J<=c->c<hi->k (Fd dk (ar+m-1-c))<k (Fd dk c))/\SWn w0 blk dk wr)) (λi j _=>(intOf j).toNat-(intOf i).toNat)
 case atStart=>exact⟨lo,hi,by first|rfl|(rw[HLO.out]),by first|rfl|(rw[HHI.out]),Ae _,lj,Ae _,λc c1 c2=>by omega,λc c1 c2=>by omega,S0.out⟩
 case round =>
  clear S0 wma wbm fe m6 em wnn wpp lj;obtain⟨I,J,rfl,rfl,xa,hIJ,uy,SJ⟩:=hrel;by_cases ae:I<J
  ·have et:(I:Int)<J:=by omega
   obtain⟨h,hh⟩:=exq ((I+J)/2);have eh:((I:Int)+J)/2=h:=by omega
   obtain⟨r1,r2,r3,r4,r5⟩:=ac.out.in (c:=h) (by omega) (by omega);obtain⟨ph,hph⟩:=exq (ar+m-1-h);have wph:IntKind.i64.wrap ((pp:Int)-h)=ph:=by have:=HPP.out;simp[Ac,Ad,Ab];omega
   have yu:h<n:=by omega
   have ft:ph<n:=by omega
   have ahy:(h:Int)<n:=by omega
   have ahz:(ph:Int)<n:=by omega
   have wh:IntKind.i64.wrap ((h:Int)+1)=(h+1:Nat):=by simp[Ac,Ad,Ab];omega
   obtain⟨x,hx⟩:=exq (dk[ph]!);obtain⟨y,hy⟩:=exq (dk[h]!);obtain⟨q1,q2,SW1⟩:=SJ.out;have la:=HH.out.cellG hs SW1 ft;have lb:=HH.out.cellG hs SW1 yu;rw[<-hx]at la;rw[<-hy]at lb;have hc:=HH.out.calls hs SW1 (show x<n by rw[hx];exact HBD.out ph ft) (show y<n by rw[hy];exact HBD.out h yu)
   obtain⟨C,hC⟩:∃C:Int,C=(k x:Int)-k y:=⟨_,rfl⟩;rw[<-hC]at hc;have SS:=Aa SW1;have hHb:I<=h/\h<J:=by omega
   have HXY:Hid (k x<k y↔k (Fd dk (ar+m-1-h))<k (Fd dk h)):=by show _↔_;rw[hx,hy,hph];exact Iff.rfl
   have MONO:Hid (∀c c',lo<=c->c<=c'->c'<hi->k (Fd dk (ar+m-1-c))<k (Fd dk c)->k (Fd dk (ar+m-1-c'))<k (Fd dk c')):=λc c' c1 c2 c3 c4=>rW0 ac.out HS1.out HS2.out HAP.out c1 c2 c3 c4;by_cases bz:k x<k y
   ·have hv:C<0:=by omega
    have hdd:decide (C<0)=true:=decide_eq_true hv;have Q2:Hid (∀c,h<=c->c<hi->k (Fd dk (ar+m-1-c))<k (Fd dk c)):=λc c1 c2=>MONO.out h c (by omega) c1 c2 (HXY.out.1 bz);have Q1:=Aa q1;clear SJ q1 q2 hx hy hC bz SW1 MONO hh hph r1 r2 r3 r4 r5 HXY;go_wp2_with fail
    go_quiet_grown (first|(go_at_fn g;refine Calls.grown_of (hc _ _)))
    have S2:Hid (SWn w0 blk dk (grow (wr.drewN nq) osq)):=SS.out.grown nq osq;clear la lb hc SS;generalize grow (wr.drewN nq) osq=w2 at S2 ⊢;clear nq osq;go_wp2_with fail
    go_roundw
    case rel=>exact⟨I,h,rfl,by go_num,xa,by omega,by omega,Q1.out,Q2.out,S2.out⟩
    case measure=>simp[intOf];omega
   ·have hv:¬C<0:=by omega
    have hdd:decide (C<0)=false:=decide_eq_false hv
    have Q1:Hid (∀c,lo<=c->c<h+1->¬k (Fd dk (ar+m-1-c))<k (Fd dk c)):=λc c1 c2 h2=>by
     have:=MONO.out c h c1 (by omega) (by omega) h2
     exact bz (HXY.out.2 this)
    have Q2:=Aa q2;clear SJ q1 q2 hx hy hC bz SW1 MONO hh hph r1 r2 r3 r4 r5 HXY;go_wp2_with fail
    go_quiet_grown (first|(go_at_fn g;refine Calls.grown_of (hc _ _)))
    have S2:Hid (SWn w0 blk dk (grow (wr.drewN nq) osq)):=SS.out.grown nq osq;clear la lb hc SS;generalize grow (wr.drewN nq) osq=w2 at S2 ⊢;clear nq osq;go_wp2_with fail
    go_roundw
    case rel=>exact⟨h+1,J,by go_num,rfl,by omega,by omega,uy,Q1.out,Q2.out,S2.out⟩
    case measure=>simp[intOf];omega
  ·have et:¬(I:Int)<J:=by omega
   obtain rfl:I=J:=by omega
   obtain⟨q1,q2,SW1⟩:=SJ.out;obtain⟨E,hE⟩:=exq (ar+m-I);have wE:IntKind.i64.wrap ((nn:Int)-I)=E:=by have:=HNN.out;simp[Ac,Ad,Ab];omega
   have RNG:Hid (E=ar+m-I/\a<=I/\I<=m/\I<=ar/\m<=E/\ar<=E/\E<=b/\a<ar/\ar<b):=by
    have:=ac.out.rng
    have:=ac.out.mid1
    have:=ac.out.mid2
    show _/\_;omega
   have CUT:=Aa (eA1 ac.out HS1.out HS2.out HAP.out xa uy q1 q2);rw[<-hE]at CUT;have S2:=Aa SW1;clear SJ q1 q2 SW1 hE;rcases (show (I<m/\m<E)\/(I=m) by have:=RNG.out;omega) with hA|hA
   ·have a1:(I:Int)<m:=by omega
    have a2:(m:Int)<E:=by omega
    have CR:=Aa (aJ1 HH.out I m E c (.func (.func g) #[] cb) dk wr hs hA.1 hA.2 (by have:=RNG.out;omega) S2.out);go_wp2_with fail
    refine CR.out.mono ?_;rintro e w1 ⟨rfl,d1,t1,t2,t3⟩;have T1:Hid (d1.size=n/\Fd d1=gB (Fd dk) I m E/\SWn w0 blk d1 w1):=⟨t1,t2,t3⟩;clear t1 t2 t3 CR S2;have HA:=Aa hA;rcases (show (a<I/\I<ar)\/(I=a) by have:=RNG.out;have:=HA.out;omega) with hB|hB
    ·have b1:(a:Int)<I:=by omega
     have b2:(I:Int)<ar:=by omega
     have CS:Hid (Calls Tryz.prog 150 #[.slice (some ⟨blk,0,none⟩) n c,.int .i64 a,.int .i64 I,.int .i64 ar,.func (.func g) #[] cb] w1 (gD k n blk w0 d1 a ar)):=by
      obtain⟨t1,t2,t3⟩:=T1.out;obtain⟨u1,u2,_,_,u5,_⟩:=CUT.out;have hr:=RNG.out;exact HIH.out a I ar c d1 w1 (by omega) t1 ⟨hB.1,hB.2,by omega,by rw[t2];exact(dD (by omega) (by omega)).bnd (by omega) HBD.out,by rw[t2];exact u1,by rw[t2];exact u2,by rw[t2];exact u5⟩ t3
     go_wp2_with fail
     refine CS.out.mono ?_;rintro e w2 ⟨rfl,e2,t1,t2,t3,t4⟩;have T2:Hid (e2.size=n/\fB (Fd d1) (Fd e2) a ar/\Srt k (Fd e2) a ar/\SWn w0 blk e2 w2):=⟨t1,t2,t3,t4⟩;clear t1 t2 t3 t4 CS;have HB:=Aa hB;rcases (show (ar<E/\E<b)\/(ar<E/\E=b) by have:=RNG.out;have:=HA.out;have:=HB.out;omega) with hC|hC
     ·have c1:(ar:Int)<E:=by omega
      have c2:(E:Int)<b:=by omega
      have CS:Hid (Calls Tryz.prog 150 #[.slice (some ⟨blk,0,none⟩) n c,.int .i64 ar,.int .i64 E,.int .i64 b,.func (.func g) #[] cb] w2 (gD k n blk w0 e2 ar b)):=by
       obtain⟨t1,t2,t3⟩:=T1.out;obtain⟨_,_,u3,u4,_,u6,_⟩:=CUT.out;obtain⟨v1,v2,v3,v4⟩:=T2.out;have hr:=RNG.out;rw[<-t2]at u3 u4 u6
       exact HIH.out ar E b c e2 w2 (by omega) v1 ⟨hC.1,hC.2,by omega,v2.bnd (by omega) (by rw[t2];exact(dD (by omega) (by omega)).bnd (by omega) HBD.out),
        u3.of_eq (λi i1 i2=>v2.out i (Or.inr i1)),u4.of_eq (λi i1 i2=>v2.out i (Or.inr (by omega))),λi j i1 i2 j1 j2=>by rw[v2.out i (Or.inr i1),v2.out j (Or.inr (by omega))];exact u6 i j i1 i2 j1 j2⟩ v4
      go_wp2_with fail
      refine CS.out.mono ?_;rintro e w3 ⟨rfl,e3,t1,t2,t3,t4⟩;have T3:Hid (e3.size=n/\fB (Fd e2) (Fd e3) ar b/\Srt k (Fd e3) ar b/\SWn w0 blk e3 w3):=⟨t1,t2,t3,t4⟩;clear t1 t2 t3 t4 CS;go_wp2_with fail
      have FIN:Hid (fB (Fd dk) (Fd e3) a b/\Srt k (Fd e3) a b):=by
       obtain⟨t1,t2,t3⟩:=T1.out;obtain⟨u1,u2,u3,u4⟩:=T2.out;obtain⟨v1,v2,v3,v4⟩:=T3.out;have hr:=RNG.out;have hx:=CUT.out.2.2.2.2.2.2;rw[<-t2]at hx;obtain⟨j1,j2⟩:=iW (by omega) (by omega) hx u2 u3 v2 v3;refine⟨fB.trans ?_ j2,j1⟩;rw[t2];exact(dD (by omega) (by omega)).wide (by omega) (by omega)
      refine bodyPost_end (v:=.tuple #[]) (by simp[results,Tryz.results150,go_sem]) rfl ⟨rfl,e3,T3.out.1,FIN.out.1,FIN.out.2,T3.out.2.2.2⟩
     ·obtain⟨e3,w3,_,rfl,T3⟩:∃e3 w3,e3=e2/\w3=w2/\Hid (e3.size=n/\fB (Fd e2) (Fd e3) ar b/\Srt k (Fd e3) ar b/\SWn w0 blk e3 w3):=⟨e2,w2,rfl,rfl,T2.out.1,fB.refl _ _ _,by
       have h3:=CUT.out.2.2.1;rw[<-T1.out.2.1,hC.2]at h3;exact h3.of_eq (λi i1 i2=>T2.out.2.1.out i (Or.inr i1)),T2.out.2.2.2⟩
      have c1:(ar:Int)<E:=by omega
      have c2:¬(E:Int)<b:=by omega
      clear hC;go_wp2_with fail
      have FIN:Hid (fB (Fd dk) (Fd e3) a b/\Srt k (Fd e3) a b):=by
       obtain⟨t1,t2,t3⟩:=T1.out;obtain⟨u1,u2,u3,u4⟩:=T2.out;obtain⟨v1,v2,v3,v4⟩:=T3.out;have hr:=RNG.out;have hx:=CUT.out.2.2.2.2.2.2;rw[<-t2]at hx;obtain⟨j1,j2⟩:=iW (by omega) (by omega) hx u2 u3 v2 v3;refine⟨fB.trans ?_ j2,j1⟩;rw[t2];exact(dD (by omega) (by omega)).wide (by omega) (by omega)
      refine bodyPost_end (v:=.tuple #[]) (by simp[results,Tryz.results150,go_sem]) rfl ⟨rfl,e3,T3.out.1,FIN.out.1,FIN.out.2,T3.out.2.2.2⟩
    ·obtain⟨e2,w2,_,rfl,T2⟩:∃e2 w2,e2=d1/\w2=w1/\Hid (e2.size=n/\fB (Fd d1) (Fd e2) a ar/\Srt k (Fd e2) a ar/\SWn w0 blk e2 w2):=⟨d1,w1,rfl,rfl,T1.out.1,fB.refl _ _ _,by rw[T1.out.2.1,<-hB];exact CUT.out.2.1,T1.out.2.2⟩
     have b1:¬(a:Int)<I:=by omega
     have HB:=Aa hB;clear hB;rcases (show (ar<E/\E<b)\/(ar<E/\E=b) by have:=RNG.out;have:=HA.out;have:=HB.out;omega) with hC|hC
     ·have c1:(ar:Int)<E:=by omega
      have c2:(E:Int)<b:=by omega
      have CS:Hid (Calls Tryz.prog 150 #[.slice (some ⟨blk,0,none⟩) n c,.int .i64 ar,.int .i64 E,.int .i64 b,.func (.func g) #[] cb] w2 (gD k n blk w0 e2 ar b)):=by
       obtain⟨t1,t2,t3⟩:=T1.out;obtain⟨_,_,u3,u4,_,u6,_⟩:=CUT.out;obtain⟨v1,v2,v3,v4⟩:=T2.out;have hr:=RNG.out;rw[<-t2]at u3 u4 u6
       exact HIH.out ar E b c e2 w2 (by omega) v1 ⟨hC.1,hC.2,by omega,v2.bnd (by omega) (by rw[t2];exact(dD (by omega) (by omega)).bnd (by omega) HBD.out),
        u3.of_eq (λi i1 i2=>v2.out i (Or.inr i1)),u4.of_eq (λi i1 i2=>v2.out i (Or.inr (by omega))),λi j i1 i2 j1 j2=>by rw[v2.out i (Or.inr i1),v2.out j (Or.inr (by omega))];exact u6 i j i1 i2 j1 j2⟩ v4
      go_wp2_with fail
      refine CS.out.mono ?_;rintro e w3 ⟨rfl,e3,t1,t2,t3,t4⟩;have T3:Hid (e3.size=n/\fB (Fd e2) (Fd e3) ar b/\Srt k (Fd e3) ar b/\SWn w0 blk e3 w3):=⟨t1,t2,t3,t4⟩;clear t1 t2 t3 t4 CS;go_wp2_with fail
      have FIN:Hid (fB (Fd dk) (Fd e3) a b/\Srt k (Fd e3) a b):=by
       obtain⟨t1,t2,t3⟩:=T1.out;obtain⟨u1,u2,u3,u4⟩:=T2.out;obtain⟨v1,v2,v3,v4⟩:=T3.out;have hr:=RNG.out;have hx:=CUT.out.2.2.2.2.2.2;rw[<-t2]at hx;obtain⟨j1,j2⟩:=iW (by omega) (by omega) hx u2 u3 v2 v3;refine⟨fB.trans ?_ j2,j1⟩;rw[t2];exact(dD (by omega) (by omega)).wide (by omega) (by omega)
      refine bodyPost_end (v:=.tuple #[]) (by simp[results,Tryz.results150,go_sem]) rfl ⟨rfl,e3,T3.out.1,FIN.out.1,FIN.out.2,T3.out.2.2.2⟩
     ·obtain⟨e3,w3,_,rfl,T3⟩:∃e3 w3,e3=e2/\w3=w2/\Hid (e3.size=n/\fB (Fd e2) (Fd e3) ar b/\Srt k (Fd e3) ar b/\SWn w0 blk e3 w3):=⟨e2,w2,rfl,rfl,T2.out.1,fB.refl _ _ _,by
       have h3:=CUT.out.2.2.1;rw[<-T1.out.2.1,hC.2]at h3;exact h3.of_eq (λi i1 i2=>T2.out.2.1.out i (Or.inr i1)),T2.out.2.2.2⟩
      have c1:(ar:Int)<E:=by omega
      have c2:¬(E:Int)<b:=by omega
      clear hC;go_wp2_with fail
      have FIN:Hid (fB (Fd dk) (Fd e3) a b/\Srt k (Fd e3) a b):=by
       obtain⟨t1,t2,t3⟩:=T1.out;obtain⟨u1,u2,u3,u4⟩:=T2.out;obtain⟨v1,v2,v3,v4⟩:=T3.out;have hr:=RNG.out;have hx:=CUT.out.2.2.2.2.2.2;rw[<-t2]at hx;obtain⟨j1,j2⟩:=iW (by omega) (by omega) hx u2 u3 v2 v3;refine⟨fB.trans ?_ j2,j1⟩;rw[t2];exact(dD (by omega) (by omega)).wide (by omega) (by omega)
      refine bodyPost_end (v:=.tuple #[]) (by simp[results,Tryz.results150,go_sem]) rfl ⟨rfl,e3,T3.out.1,FIN.out.1,FIN.out.2,T3.out.2.2.2⟩
   ·obtain⟨d1,w1,_,rfl,T1⟩:∃d1 w1,d1=dk/\w1=wr/\Hid (d1.size=n/\Fd d1=gB (Fd dk) I m E/\SWn w0 blk d1 w1):=⟨dk,wr,rfl,rfl,hs,by rw[hA];exact(dK0 (by have:=RNG.out;omega)).symm,S2.out⟩
    have a1:¬(I:Int)<m:=by omega
    have HA:=Aa hA;clear hA;rcases (show (a<I/\I<ar)\/(a<I/\I=ar) by have:=RNG.out;have:=HA.out;omega) with hB|hB
    ·have b1:(a:Int)<I:=by omega
     have b2:(I:Int)<ar:=by omega
     have CS:Hid (Calls Tryz.prog 150 #[.slice (some ⟨blk,0,none⟩) n c,.int .i64 a,.int .i64 I,.int .i64 ar,.func (.func g) #[] cb] w1 (gD k n blk w0 d1 a ar)):=by
      obtain⟨t1,t2,t3⟩:=T1.out;obtain⟨u1,u2,_,_,u5,_⟩:=CUT.out;have hr:=RNG.out;exact HIH.out a I ar c d1 w1 (by omega) t1 ⟨hB.1,hB.2,by omega,by rw[t2];exact(dD (by omega) (by omega)).bnd (by omega) HBD.out,by rw[t2];exact u1,by rw[t2];exact u2,by rw[t2];exact u5⟩ t3
     go_wp2_with fail
     refine CS.out.mono ?_;rintro e w2 ⟨rfl,e2,t1,t2,t3,t4⟩;have T2:Hid (e2.size=n/\fB (Fd d1) (Fd e2) a ar/\Srt k (Fd e2) a ar/\SWn w0 blk e2 w2):=⟨t1,t2,t3,t4⟩;clear t1 t2 t3 t4 CS;have HB:=Aa hB;have hC:E=ar:=by have:=RNG.out;have:=HA.out;have:=HB.out;omega
     obtain⟨e3,w3,_,rfl,T3⟩:∃e3 w3,e3=e2/\w3=w2/\Hid (e3.size=n/\fB (Fd e2) (Fd e3) ar b/\Srt k (Fd e3) ar b/\SWn w0 blk e3 w3):=⟨e2,w2,rfl,rfl,T2.out.1,fB.refl _ _ _,by
      have h4:=CUT.out.2.2.2.1;rw[<-T1.out.2.1,hC]at h4;exact h4.of_eq (λi i1 i2=>T2.out.2.1.out i (Or.inr i1)),T2.out.2.2.2⟩
     have c1:¬(ar:Int)<E:=by omega
     clear hC;go_wp2_with fail
     have FIN:Hid (fB (Fd dk) (Fd e3) a b/\Srt k (Fd e3) a b):=by
      obtain⟨t1,t2,t3⟩:=T1.out;obtain⟨u1,u2,u3,u4⟩:=T2.out;obtain⟨v1,v2,v3,v4⟩:=T3.out;have hr:=RNG.out;have hx:=CUT.out.2.2.2.2.2.2;rw[<-t2]at hx;obtain⟨j1,j2⟩:=iW (by omega) (by omega) hx u2 u3 v2 v3;refine⟨fB.trans ?_ j2,j1⟩;rw[t2];exact(dD (by omega) (by omega)).wide (by omega) (by omega)
     refine bodyPost_end (v:=.tuple #[]) (by simp[results,Tryz.results150,go_sem]) rfl ⟨rfl,e3,T3.out.1,FIN.out.1,FIN.out.2,T3.out.2.2.2⟩
    ·obtain⟨e2,w2,_,rfl,T2⟩:∃e2 w2,e2=d1/\w2=w1/\Hid (e2.size=n/\fB (Fd d1) (Fd e2) a ar/\Srt k (Fd e2) a ar/\SWn w0 blk e2 w2):=⟨d1,w1,rfl,rfl,T1.out.1,fB.refl _ _ _,by rw[T1.out.2.1,<-hB.2];exact CUT.out.1,T1.out.2.2⟩
     have b1:(a:Int)<I:=by omega
     have b2:¬(I:Int)<ar:=by omega
     have HB:=Aa hB;clear hB;have hC:E=ar:=by have:=RNG.out;have:=HA.out;have:=HB.out;omega
     obtain⟨e3,w3,_,rfl,T3⟩:∃e3 w3,e3=e2/\w3=w2/\Hid (e3.size=n/\fB (Fd e2) (Fd e3) ar b/\Srt k (Fd e3) ar b/\SWn w0 blk e3 w3):=⟨e2,w2,rfl,rfl,T2.out.1,fB.refl _ _ _,by
      have h4:=CUT.out.2.2.2.1;rw[<-T1.out.2.1,hC]at h4;exact h4.of_eq (λi i1 i2=>T2.out.2.1.out i (Or.inr i1)),T2.out.2.2.2⟩
     have c1:¬(ar:Int)<E:=by omega
     clear hC;go_wp2_with fail
     have FIN:Hid (fB (Fd dk) (Fd e3) a b/\Srt k (Fd e3) a b):=by
      obtain⟨t1,t2,t3⟩:=T1.out;obtain⟨u1,u2,u3,u4⟩:=T2.out;obtain⟨v1,v2,v3,v4⟩:=T3.out;have hr:=RNG.out;have hx:=CUT.out.2.2.2.2.2.2;rw[<-t2]at hx;obtain⟨j1,j2⟩:=iW (by omega) (by omega) hx u2 u3 v2 v3;refine⟨fB.trans ?_ j2,j1⟩;rw[t2];exact(dD (by omega) (by omega)).wide (by omega) (by omega)
     refine bodyPost_end (v:=.tuple #[]) (by simp[results,Tryz.results150,go_sem]) rfl ⟨rfl,e3,T3.out.1,FIN.out.1,FIN.out.2,T3.out.2.2.2⟩
end
end
section
open Go Go.Shelf Go.RowKit Go.Lib Go.Sort
section
variable {k:Nat->Nat} {n blk g:Nat} {cb:Array Value} {d0:Array Nat} {w0:World}
theorem iI0 (H:gH k n blk g cb d0 w0):∀(N a m b c:Nat) (dk:Array Nat) (w:World),b-a<N->dk.size=n->xY k (Fd dk) a m b n->SWn w0 blk dk w ->
  Calls Tryz.prog 150 #[.slice (some ⟨blk,0,none⟩) n c,.int .i64 a,.int .i64 m,.int .i64 b,.func (.func g) #[] cb] w (gD k n blk w0 dk a b)
 | 0,_,_,_,_,_,_,h,_,_,_=>by omega
 | N+1,a,m,b,c,dk,w,h,hs,hp,S=>by
  by_cases h0:m-a=1
  ·exact hY1 H a m b c dk w hs hp h0 S
  by_cases h1:b-m=1
  ·exact kF1 H a m b c dk w hs hp h0 h1 S
  rcases Ag ((a+b)/2) m with hm|hm
  ·exact dB1 H N (iI0 H N) a m b c _ dk w h hs hp h0 h1 rfl hm S
  ·exact cQ1 H N (iI0 H N) a m b c _ dk w h hs hp h0 h1 rfl hm S
theorem dI0 {D D':Nat->Nat} {a b:Nat} (hid:∀i,a<=i->i<b->D i=i) (h:fB D D' a b) (hs:Srt k D' a b):Win k D' a b where
 srt:=hs
 inn i h1 h2:=by
  obtain⟨j,j1,j2,e⟩:=h.fro i h1 h2;rw[e,hid j j1 j2];omega
 all v h1 h2:=by
  obtain⟨i,i1,i2,e⟩:=h.to v h1 h2;exact⟨i,i1,i2,by rw[e,hid v h1 h2]⟩
structure hM0 (k D:Nat->Nat) (n T:Nat):Prop where
 le:T*20<=n
 done:∀t,t<T->Win k D (t*20) (t*20+20)
 rest:∀i,T*20<=i->D i=i\/n<=i
 bnd:∀i,i<n->D i<n
theorem hM0.next {D D':Nat->Nat} {n T:Nat} (h:hM0 k D n T) (hb:T*20+20<=n) (hs:fB D D' (T*20) (T*20+20)) (h':Srt k D' (T*20) (T*20+20)):hM0 k D' n (T+1) where
 le:=by omega
 done t ht:=by
  rcases Ag t T with h1|h1
  ·exact(h.done t h1).of_eq λi i1 i2=>hs.out i (Or.inl (by omega))
  ·rw[show t=T by omega]
   exact dI0 (λi i1 i2=>by rcases h.rest i i1 with e|e<;>omega) hs h'
 rest i hi:=by
  rw[hs.out i (Or.inr (by omega))];exact h.rest i (by omega)
 bnd:=hs.bnd hb h.bnd
theorem hM0.last {D D':Nat->Nat} {n T:Nat} (h:hM0 k D n T) (hb:n<T*20+20) (hs:fB D D' (T*20) n) (h':Srt k D' (T*20) n):kU1 k D' 20 n/\∀i,i<n->D' i<n:=by
 refine⟨λt ht=>?_,hs.bnd (Ae _) h.bnd⟩;rcases Ag t T with h1|h1
 ·rw[show min (t*20+20) n=t*20+20 by have:=h.le;omega]
  exact(h.done t h1).of_eq λi i1 i2=>hs.out i (Or.inl (by omega))
 ·have:t=T:=by omega
  subst this;rw[show min (t*20+20) n=n by omega]
  exact dI0 (λi i1 i2=>by rcases h.rest i i1 with e|e<;>omega) hs h'
structure lY (k D:Nat->Nat) (B n T a:Nat):Prop where
 a_eq:a=T*(2*B)
 le:a<=n
 done:∀t,t<T->Win k D (t*(2*B)) (t*(2*B)+2*B)
 rest:∀t,2*T<=t->t*B<n->Win k D (t*B) (min (t*B+B) n)
 bnd:∀i,i<n->D i<n
theorem lY.at1 {D:Nat->Nat} {B n T a:Nat} (h:lY k D B n T a) (hn:a<n):Win k D a (min (a+B) n):=by
 have:=h.rest (2*T) (Ae _) (by rw[show 2*T*B=T*(2*B) by rw[Aj 2 T,Ai],<-h.a_eq];exact hn)
 rwa [show 2*T*B=T*(2*B) by rw[Aj 2 T,Ai],<-h.a_eq]at this
theorem lY.at2 {D:Nat->Nat} {B n T a:Nat} (h:lY k D B n T a) (hn:a+B<n):Win k D (a+B) (min (a+B+B) n):=by
 have e:(2*T+1)*B=a+B:=by rw[Ah,show 2*T*B=T*(2*B) by rw[Aj 2 T,Ai],<-h.a_eq]
 have:=h.rest (2*T+1) (by omega) (by rw[e];exact hn)
 rwa [e]at this
theorem lY.next {D D':Nat->Nat} {B n T a:Nat} (h:lY k D B n T a) (hb:a+2*B<=n) (hB:0<B) (hs:fB D D' a (a+2*B)) (h':Srt k D' a (a+2*B)):lY k D' B n (T+1) (a+2*B):=by
 have ha:=h.a_eq;have w1:=h.at1 (by omega);rw[show min (a+B) n=a+B by omega]at w1
 have w2:=h.at2 (by omega);rw[show min (a+B+B) n=a+2*B by omega]at w2
 refine⟨by rw[Ah T (2*B),<-ha],hb,λt ht=>?_,λt h1 h2=>?_,hs.bnd hb h.bnd⟩
 ·rcases Ag t T with h1|h1
  ·have h3:=Af (2*B) h1
   rw[Ah,<-ha]at h3;exact(h.done t h1).of_eq λi i1 i2=>hs.out i (Or.inl (by omega))
  ·rw[show t=T by omega,<-ha]
   exact Win.merge w1 w2 (by omega) (by omega) hs h'
 ·have h3:=Af B h1
  rw[show 2*(T+1)*B=T*(2*B)+2*B by rw[Nat.mul_add,Nat.add_mul,Aj 2 T,Ai],<-ha]at h3
  exact(h.rest t (by omega) h2).of_eq λi i1 i2=>hs.out i (Or.inr (by omega))
theorem lY.fin {D D':Nat->Nat} {B n T a:Nat} (h:lY k D B n T a) (hb:n<a+2*B) (_:0<B) (ah0:∀i,i<a->D' i=D i) (hw:a<n->Win k D' a n):kU1 k D' (2*B) n:=λt ht=>by
 have ha:=h.a_eq;have ia:=h.le;rcases Nat.lt_trichotomy t T with h1|h1|h1
 ·have h3:=Af (2*B) h1
  rw[Ah t (2*B),<-ha]at h3;rw[show min (t*(2*B)+2*B) n=t*(2*B)+2*B by omega]
  exact(h.done t h1).of_eq λi i1 i2=>ah0 i (by omega)
 ·subst h1
  rw[<-ha]at ht ⊢;rw[show min (a+2*B) n=n by omega]
  exact hw ht
 ·have h3:=Af (2*B) h1
  rw[Ah T (2*B),<-ha]at h3;omega
theorem lY.pre {D:Nat->Nat} {B n T a b:Nat} (h:lY k D B n T a) (_hB:0<B) (hm:a+B<b) (hb:b<=n) (eo:b=n\/b=a+2*B) (mn:b<=a+2*B):xY k D a (a+B) b n:=by
 have w1:=h.at1 (by omega);rw[show min (a+B) n=a+B by omega]at w1
 have w2:=h.at2 (by omega);rw[show min (a+B+B) n=b by omega]at w2
 exact⟨by omega,hm,hb,h.bnd,w1.srt,w2.srt,w1.apt w2⟩
end
end
section
open Go Go.Shelf Go.RowKit Go.Lib Go.Sort
section
variable {k:Nat->Nat} {n blk g:Nat} {cb:Array Value} {d0:Array Nat} {w0:World}
def tK0 (k:Nat->Nat) (n blk:Nat) (w0:World) (e:Ending) (w':World):Prop :=
 e=.returned (.tuple #[])/\∃m5,m5.size=n/\Win k (Fd m5) 0 n/\SWn w0 blk m5 w'
theorem vH0 (H:gH k n blk g cb d0 w0) (c:Nat) (dk:Array Nat) (w:World) (hs:dk.size=n) (hid:∀i,i<n->Fd dk i=i) (S:SWn w0 blk dk w) :
  Calls Tryz.prog 94 #[.slice (some ⟨blk,0,none⟩) n c,.int .i64 n,.func (.func g) #[] cb] w (tK0 k n blk w0):=by
 have hn:=H.small;have HH:=Aa H;have S0:=Aa S
 have HSTART:Hid (hM0 k (Fd dk) n 0):=⟨by omega,λt ht=>by omega,λi _=>by
  rcases Ag i n with h|h
  ·exact Or.inl (hid i h)
  ·exact Or.inr h,λi hi=>by rw[hid i hi];exact hi⟩
 clear H S hid;go_enter Tryz.func94,Tryz.ntmps94
 go_wp2_with fail
 go_loopw [7,8] (λx y wr=>∃(T a b:Nat) (dj:Array Nat),x=.int .i64 a/\y=.int .i64 b/\a<=n/\b=a+20/\Hid (a=T*20/\dj.size=n/\hM0 k (Fd dj) n T/\SWn w0 blk dj wr)) (λx _ _=>n-(intOf x).toNat)
 case atStart=>exact⟨0,0,20,dk,by go_num,by go_num,by omega,rfl,rfl,hs,HSTART.out,S0.out⟩
 case round =>
  clear S0 HSTART;obtain⟨T,a,b,dj,rfl,rfl,han,hb,SJ⟩:=hrel;by_cases ae:b<=n
  ·have et:(b:Int)<=n:=by omega
   obtain⟨ha,e1,e2,S1⟩:=SJ.out;have CI:=Aa (yW0 HH.out a b c dj wr e1 ae han e2.bnd (λi i1 i2=>by rcases e2.rest i (by omega) with h|h<;>omega) S1)
   have wb:IntKind.i64.wrap ((b:Int)+20)=(b+20:Nat):=by simp[Ac,Ad,Ab];omega
   have NXT:Hid (∀d':Array Nat,fB (Fd dj) (Fd d') a b->Srt k (Fd d') a b->b=(T+1)*20/\hM0 k (Fd d') n (T+1)):=λd' h1 h2=>by
    subst ha;rw[hb]at h1 h2;exact⟨by omega,e2.next (by omega) h1 h2⟩
   have HB:=Aa hb;clear SJ ha e1 e2 S1 hb;go_wp2_with fail
   refine CI.out.mono ?_;rintro e w2 ⟨rfl,d2,f1,f2,f3,f4⟩;obtain⟨n1,n2⟩:=NXT.out d2 f2 f3;have RES:Hid (b=(T+1)*20/\d2.size=n/\hM0 k (Fd d2) n (T+1)/\SWn w0 blk d2 w2):=⟨n1,f1,n2,f4⟩;clear CI f1 f2 f3 f4 n1 n2 NXT;go_wp2_with fail
   go_roundw
   case rel=>exact⟨T+1,b,b+20,d2,rfl,by go_num,ae,rfl,RES.out⟩
   case measure=>have:=HB.out;simp[intOf];omega
  ·have et:¬(b:Int)<=n:=by omega
   obtain⟨ha,e1,e2,S1⟩:=SJ.out;have CI:=Aa (yW0 HH.out a n c dj wr e1 (Ae _) han e2.bnd (λi i1 i2=>by rcases e2.rest i (by omega) with h|h<;>omega) S1)
   have NXT:Hid (∀d':Array Nat,fB (Fd dj) (Fd d') a n->Srt k (Fd d') a n->kU1 k (Fd d') 20 n/\∀i,i<n->Fd d' i<n):=λd' h1 h2=>by
    subst ha;exact e2.last (by omega) h1 h2
   clear SJ ha e1 e2 S1 hb;go_wp2_with fail
   refine CI.out.mono ?_;rintro e w2 ⟨rfl,d2,f1,f2,f3,f4⟩;obtain⟨n1,n2⟩:=NXT.out d2 f2 f3;have RES:Hid (d2.size=n/\kU1 k (Fd d2) 20 n/\(∀i,i<n->Fd d2 i<n)/\SWn w0 blk d2 w2):=⟨f1,n1,n2,f4⟩;clear CI f1 f2 f3 f4 n1 n2 NXT;go_wp2_with fail
   go_loopw [6] (λx wq=>∃(B:Nat) (dq:Array Nat),x=.int .i64 B/\20<=B/\B<=2*n+20/\Hid (dq.size=n/\kU1 k (Fd dq) B n/\(∀i,i<n->Fd dq i<n)/\SWn w0 blk dq wq)) (λx _=>n-(intOf x).toNat)
   case atStart=>exact⟨20,d2,by go_num,Ae _,by omega,RES.out⟩
   case round =>
    clear RES;obtain⟨B,dq,rfl,hB,ij,SQ⟩:=hrel;by_cases hbn:B<n
    ·have ah1:(B:Int)<n:=by omega
     obtain⟨B2,afb⟩:=exq (2*B);have wB2:IntKind.i64.wrap (2*(B:Int))=B2:=by simp[Ac,Ad,Ab];omega
     have PST:Hid (lY k (Fd dq) B n 0 0):=by
      obtain⟨_,q2,q3,_⟩:=SQ.out;exact⟨by rw[Ak],by omega,λt ht=>by omega,λt _ h=>q2 t h,q3⟩
     have SQ2:Hid (dq.size=n/\SWn w0 blk dq wr):=⟨SQ.out.1,SQ.out.2.2.2⟩;have HB2:=Aa afb;have aj1:B2<=2*n:=by omega
     clear SQ afb;go_wp2_with fail
     go_loopw [7,8] (λx y wt=>∃(T a b:Nat) (dt:Array Nat),x=.int .i64 a/\y=.int .i64 b/\a<=n/\b<=a+2*n/\Hid (b=a+2*B/\dt.size=n/\lY k (Fd dt) B n T a/\SWn w0 blk dt wt)) (λx _ _=>n-(intOf x).toNat)
     case atStart=>exact⟨0,0,B2,dq,by go_num,rfl,by omega,by omega,by have:=HB2.out;omega,SQ2.out.1,PST.out,SQ2.out.2⟩
     case round =>
      clear SQ2 PST;obtain⟨T2,a2,b2,dt,rfl,rfl,aj2,aj3,ST⟩:=hrel;obtain⟨m2,uw⟩:=exq (a2+B);have wm2:IntKind.i64.wrap ((a2:Int)+B)=m2:=by simp[Ac,Ad,Ab];omega
      by_cases bz:b2<=n
      ·have qf:(b2:Int)<=n:=by omega
       obtain⟨eo,t1,t2,t3⟩:=ST.out
       have CM:Hid (Calls Tryz.prog 150 #[.slice (some ⟨blk,0,none⟩) n c,.int .i64 a2,.int .i64 m2,.int .i64 b2,.func (.func g) #[] cb] wr (gD k n blk w0 dt a2 b2)):=by
        have hp:=t2.pre (b:=b2) (by omega) (by omega) bz (Or.inr eo) (by omega);rw[<-uw]at hp;exact iI0 HH.out (b2-a2+1) a2 m2 b2 c dt wr (by omega) t1 hp t3
       obtain⟨b3,mn⟩:=exq (b2+B2);have wb3:IntKind.i64.wrap ((b2:Int)+B2)=b3:=by simp[Ac,Ad,Ab];omega
       have NXT:Hid (∀d':Array Nat,fB (Fd dt) (Fd d') a2 b2->Srt k (Fd d') a2 b2->lY k (Fd d') B n (T2+1) b2):=λd' h1 h2=>by
        rw[eo]at h1 h2 ⊢;exact t2.next (by omega) (by omega) h1 h2
       have HAB:Hid (a2<b2/\b3=b2+2*B/\b3<=b2+2*n):=by have:=HB2.out;exact⟨by omega,by omega,by omega⟩
       clear ST eo t1 t2 t3 uw mn;go_wp2_with fail
       refine CM.out.mono ?_;rintro e w3 ⟨rfl,d3,f1,f2,f3,f4⟩;have n1:=NXT.out d3 f2 f3;have RES:Hid (d3.size=n/\lY k (Fd d3) B n (T2+1) b2/\SWn w0 blk d3 w3):=⟨f1,n1,f4⟩;clear CM f1 f2 f3 f4 n1 NXT;go_wp2_with fail
       go_roundw
       case rel=>exact⟨T2+1,b2,b3,d3,rfl,by go_num,bz,HAB.out.2.2,HAB.out.2.1,RES.out⟩
       case measure=>have:=HAB.out.1;simp[intOf];omega
      ·have qf:¬(b2:Int)<=n:=by omega
       obtain⟨eo,t1,t2,t3⟩:=ST.out;have wB3:IntKind.i64.wrap ((B:Int)*2)=B2:=by have:=HB2.out;simp[Ac,Ad,Ab];omega
       by_cases uz:m2<n
       ·have ah2:(m2:Int)<n:=by omega
        have CM:Hid (Calls Tryz.prog 150 #[.slice (some ⟨blk,0,none⟩) n c,.int .i64 a2,.int .i64 m2,.int .i64 n,.func (.func g) #[] cb] wr (gD k n blk w0 dt a2 n)):=by
         have hp:=t2.pre (b:=n) (by omega) (by omega) (Ae _) (Or.inl rfl) (by omega);rw[<-uw]at hp;exact iI0 HH.out (n-a2+1) a2 m2 n c dt wr (by omega) t1 hp t3
        have NXT:Hid (∀d':Array Nat,fB (Fd dt) (Fd d') a2 n->Srt k (Fd d') a2 n->kU1 k (Fd d') B2 n/\∀i,i<n->Fd d' i<n):=λd' h1 h2=>by
         rw[HB2.out];have w1:=t2.at1 (by omega);rw[show min (a2+B) n=m2 by omega]at w1
         have w2:=t2.at2 (by omega);rw[<-uw,show min (m2+B) n=n by omega]at w2
         exact⟨t2.fin (by omega) (by omega) (λi hi=>h1.out i (Or.inl hi)) (λ_=>Win.merge w1 w2 (by omega) (by omega) h1 h2),h1.bnd (Ae _) t2.bnd⟩
        clear ST eo t1 t2 t3 uw;go_wp2_with fail
        refine CM.out.mono ?_;rintro e w3 ⟨rfl,d3,f1,f2,f3,f4⟩;obtain⟨n1,n2⟩:=NXT.out d3 f2 f3;have RES:Hid (d3.size=n/\kU1 k (Fd d3) B2 n/\(∀i,i<n->Fd d3 i<n)/\SWn w0 blk d3 w3):=⟨f1,n1,n2,f4⟩;clear CM f1 f2 f3 f4 n1 n2 NXT;go_wp2_with fail
        go_roundw
        case rel=>exact⟨B2,d3,by go_num,by have:=HB2.out;omega,by have:=HB2.out;omega,RES.out⟩
        case measure=>have:=HB2.out;simp[intOf];omega
       ·have ah2:¬(m2:Int)<n:=by omega
        have RES:Hid (dt.size=n/\kU1 k (Fd dt) B2 n/\(∀i,i<n->Fd dt i<n)/\SWn w0 blk dt wr):=by
         refine⟨t1,?_,t2.bnd,t3⟩;rw[HB2.out];refine t2.fin (by omega) (by omega) (λi hi=>rfl) (λh=>?_);have w1:=t2.at1 h;rwa [show min (a2+B) n=n by omega]at w1
        clear ST eo t1 t2 t3 uw;go_wp2_with fail
        go_roundw
        case rel=>exact⟨B2,dt,by go_num,by have:=HB2.out;omega,by have:=HB2.out;omega,RES.out⟩
        case measure=>have:=HB2.out;simp[intOf];omega
    ·have ah1:¬(B:Int)<n:=by omega
     obtain⟨q1,q2,q3,q4⟩:=SQ.out
     have FIN:Hid (Win k (Fd dq) 0 n):=by
      rcases Nat.eq_zero_or_pos n with h|h
      ·rw[h];exact Win.none _ _ _
      ·have h1:=q2 0 (by rw[Ak];exact h)
       rwa [Ak,show min (0+B) n=n by omega]at h1
     clear SQ q2 q3;go_wp2_with fail
     refine bodyPost_end (v:=.tuple #[]) (by simp[results,Tryz.results94,go_sem]) rfl ⟨rfl,dq,q1,FIN.out,q4⟩
theorem dW0 (H:gH k n blk g cb d0 w0) (c:Nat) (dk:Array Nat) (w:World) (hs:dk.size=n) (hid:∀i,i<n->Fd dk i=i) (S:SWn w0 blk dk w) :
  Calls Tryz.prog 44 #[.slice (some ⟨blk,0,none⟩) n c,.func (.func g) #[] cb] w (tK0 k n blk w0):=by
 have hn:=H.small;have CS:=Aa (vH0 H c dk w hs hid S);clear H hid S;go_enter Tryz.func44,Tryz.ntmps44
 go_wp2_with fail
 refine CS.out.mono ?_;rintro e w3 ⟨rfl,d3,f1,f2,f3⟩;go_wp2_with fail
 refine bodyPost_end (v:=.tuple #[]) (by simp[results,Tryz.results44,go_sem]) rfl ⟨rfl,d3,f1,f2,f3⟩
end
end
end Go.Proofs.YtheiocndipepaaaGreatDoor
