import Derived.Test.YtheiocndipepaaaGreatDoorKq47
import Derived.Test.YtheiocndipepaaaGreatDoorKq14
open Go.Lib renaming hid → Aa
open List renaming length_filter_le → Ab,length_range → Ae
open Nat renaming mul_le_mul_right → Ac,le_trans → Ad,zero_le → Ag
open Bool renaming eq_iff_iff → Af
set_option maxHeartbeats 8000000
namespace Go.Proofs.YtheiocndipepaaaGreatDoor
set_option maxRecDepth 100000
open Go Go.RowKit Go.Shelf
attribute [local go_sem] aM aK
theorem aA0 {α β:Type} {f:α->List β} {n:Nat} (h:∀x,(f x).length<=n):∀l:List α,(l.flatMap f).length<=l.length*n
 | []=>by simp
 | a::l=>by
  have h1:=h a;have h2:=aA0 h l;rw[List.flatMap_cons,List.length_append,List.length_cons,Nat.add_mul];omega
theorem iF0 (es:List En) (s:ByteArray):(prefL es s).length<=257*es.length:=by
 refine Ad (aA0 (λn=>Ab _ _) _) (Ac _ ?_);rw[Ae];omega
theorem hV0 (es:List En) (s:ByteArray):(writesL es s).length<=257*es.length:=by
 refine Ad (aA0 (λn=>Ab _ _) _) (Ac _ ?_);rw[Ae];omega
theorem zY0 (x:zB) (A:kQ) (s:ByteArray) (w:World) (he:Env w) (ah:sO x) (hs:s.size<=140737488355328) (ac:mV w A x) :
  Calls Tryz.prog 4 #[A.agg x,.string s] w λe w'=>e=.returned (.bool true)/\Grows w w':=by
 have HE:=Aa he;have CW:=λW (h:Grows w W)=>Aa (lJ W (HE.out.grows h));obtain⟨pa,pc,sa,sc,ea,ec⟩:=A;obtain⟨xp,xd,xs,xe⟩:=x;obtain⟨W0,b9⟩:=exq (w.alloc (.cells #[.slice pa xp.length pc,.int .i64 xd,.slice sa xs.length sc,.slice ea xe.length ec] 26));have cp:Grows w W0:=by rw[b9];exact Grows.alloc _ _
 obtain⟨bc,_⟩:=bK (show Grows (w.alloc (.cells #[.slice pa xp.length pc,.int .i64 xd,.slice sa xs.length sc,.slice ea xe.length ec] 26)) W0 by rw[b9];exact Grows.refl _)
 have q0:=bc 0 _ rfl;have q1:=bc 1 _ rfl;have q2:=bc 2 _ rfl;have q3:=bc 3 _ rfl;have HQ3:=Aa q3;have HG0:=Aa cp;have HAT0:=Aa ac.e;have HOK0:=Aa ah.e;have CO:=Aa (zN ⟨xp,xd,xs,xe⟩ ⟨pa,pc,sa,sc,ea,ec⟩ W0 (he.grows cp) ah (ac.grows cp));unfold kQ.agg kQ.cells at CO;simp only at CO;show Calls _ _ #[.agg #[.slice pa xp.length pc,.int .i64 xd,.slice sa xs.length sc,.slice ea xe.length ec],.string s] _ _
 clear he ah ac bc;go_enter Tryz.func4,Tryz.ntmps4
 go_wp2_with fail
 rw[<-b9];clear b9;refine CO.out.mono ?_;rintro e w1 ⟨ag,dv,a0,n0,c0,q,a2,n2,c2,rfl,hdv⟩;have g1:=cp.tr ag;clear CO q0 q1 q2 q3;rcases hdv with rfl|⟨db,m,rfl,ew⟩
 ·go_wp2_with fail
  refine(CW _ (g1.al _)).out.mono ?_;rintro e w2 ⟨rfl,af⟩;go_wp2_with fail
  go_ret;exact⟨rfl,(g1.al _).tr af⟩
 ·have HDK:=Aa (show bP xp m (sortS xe) from mC ew.made)
  have fc:xe.length<=300:=(jL ew.li).2.2.2.2;have HQ4:=Aa (ag.cell HQ3.out);have HAT1:=Aa (HAT0.out.grows g1);have HD:=Aa (show cB w1 db xp m (sortS xe) from ew.d)
  obtain⟨jd,jy,rb,a',c',x0,x1,x2,mo,rr,ut⟩:=ew.r;obtain⟨rfl,rfl,rfl⟩:jd=a0/\xp.length=n0/\jy=c0:=(by cases x0;exact⟨rfl,rfl,rfl⟩);obtain rfl:some ⟨rb,0,none⟩=q:=(by cases x1;rfl);obtain⟨rfl,rfl,rfl⟩:a'=a2/\(sortS xe).length=n2/\c'=c2:=(by cases x2;exact⟨rfl,rfl,rfl⟩);have HP3:Hid (aF w1 jd 2 (xp.map bG)):=mo;have HR3:Hid (jZ w1 rb m):=rr;have HE3:Hid (aF w1 a' 5 ((sortS xe).map aQ)):=ut;clear x0 x1 x2 mo rr ut ew cp ag;obtain⟨es,na⟩:=exq (sortS xe);rw[<-na]at HDK HD HE3 ⊢;have HES:=Aa na;clear na;have qo:=HDK.out.len;have m8:=(dN (eE HDK.out.chk).2.2.1).1;obtain⟨V1,jv⟩:=exq (w1.alloc (.cells #[.slice jd xp.length jy,.pointer (some ⟨rb,0,none⟩),.slice a' es.length c'] 32));have km:Grows w1 V1:=by rw[jv];exact Grows.alloc _ _
  have bx:=λj u h=>aT w1 #[.slice jd xp.length jy,.pointer (some ⟨rb,0,none⟩),.slice a' es.length c'] 32 (0,0) j u h;rw[<-jv]at bx;obtain⟨b5,ju⟩:=exq w1.heap.size;rw[<-ju]at bx;have y0:∀y:Ext Grows V1.drew,y.u.cell? ⟨b5,0,none⟩=some (.slice jd xp.length jy):=aB ((Grows.drew V1).cell (bx 0 _ rfl));have y1:∀y:Ext Grows V1.drew,y.u.cell? ⟨b5,1,none⟩=some (.pointer (some ⟨rb,0,none⟩)):=aB ((Grows.drew V1).cell (bx 1 _ rfl));have y2:∀y:Ext Grows V1.drew,y.u.cell? ⟨b5,2,none⟩=some (.slice a' es.length c'):=aB ((Grows.drew V1).cell (bx 2 _ rfl));have gV:=g1.tr km;have HS1:=λ(u:World) (hu:Grows w1 u)=>Aa (mK0 xe ea ec u (by omega) HOK0.out (HAT1.out.grows hu));unfold cY0 at HS1;have CSM:=λ(l:List En) (a b:Option Addr) (c d:Nat) (u:World) hl h1 h2=>Aa (uW l a b c d u hl h1 h2);have CD0:=λ(u:World) (hu:Grows w1 u)=>Aa (fU xp m es db ⟨#[]⟩ (es.length:Int) u HDK.out (by decide) (HD.out.grows hu));have CD1:=λ(u:World) (hu:Grows w1 u)=>Aa (nS xp m es db s u HDK.out hs (HD.out.grows hu));have CD2:=λ(u:World) (hu:Grows w1 u)=>Aa (iR xp m es db s u HDK.out hs (HD.out.grows hu));have CD3:=λ(u:World) (hu:Grows w1 u)=>Aa (oQ xp m es db u (HD.out.grows hu));have CD4:=λ(u:World) (hu:Grows w1 u)=>Aa (fU xp m es db s (es.length:Int) u HDK.out hs (HD.out.grows hu));have CD5:=λ(u:World) (hu:Grows w1 u)=>Aa (aV0 xp m es db s u HDK.out hs (HD.out.grows hu));have CD6:=λ(u:World) (hu:Grows w1 u)=>Aa (oC xp m es db s u HDK.out hs (HD.out.grows hu));have HSUM:=Aa (HDK.out.sum5 s);have HN:=Aa HDK.out.nodup;have HC1:Hid (∀x∈es,cntE (exactL es s) x=tru (decide (x.r=s))):=λx hx=>jG HN.out hx _;have HC2:Hid (∀x∈es,cntE (prefL es s) x=tru (begB s x.r)):=λx hx=>HDK.out.cnt_pref s hx;have HC3:Hid (∀x∈es,cntE (underL es s (es.length:Int)) x=tru (begB x.r s)):=λx hx=>by rw[vY];exact jG HN.out hx _
  have HC4:Hid (∀x∈es,cntE (ofL es s) x=tru (decide (x.s=s))):=λx hx=>jG HN.out hx _;have HC5:Hid (∀x∈es,cntE (writesL es s) x=tru (begB s x.s)):=λx hx=>HDK.out.cnt_writes s hx;have HZ:Hid (∀x∈es,x.r.size<=256/\x.s.size<=256):=λx hx=>⟨HDK.out.len_r x hx,HDK.out.len_s x hx⟩
  have lg:(exactL es s).length<=20000:=by
   have:(exactL es s).length<=es.length:=Ab _ _
   omega
  have jc:(prefL es s).length<=257*20000:=by
   have:=iF0 es s
   omega
  have hq3:(underL es s (es.length:Int)).length<=20000:=by
   have:(underL es s (es.length:Int)).length<=es.length:=Ad (List.length_take_le' _ _) (Ab _ _)
   omega
  have hq4:(ofL es s).length<=20000:=by
   have:(ofL es s).length<=es.length:=Ab _ _
   omega
  have hq5:(writesL es s).length<=257*20000:=by
   have:=hV0 es s
   omega
  generalize exactL es s=X1 at CD1 HC1 HSUM lg;generalize prefL es s=X2 at CD2 HC2 HSUM jc;generalize underL es s (es.length:Int)=X3 at CD4 HC3 HSUM hq3;generalize ofL es s=X4 at CD5 HC4 HSUM hq4;generalize writesL es s=X5 at CD6 HC5 HSUM hq5;have HG1:=Aa km;clear bx y0 y1 y2 HDK;go_wp2_with fail
  rw[<-jv];clear jv ju km gV;refine(CD3 _ HG1.out).out.mono ?_;rintro e wz ⟨rfl,rfl⟩;go_wp2_with fail
  refine(CD0 _ (HG1.out)).out.mono ?_;rintro e w3 ⟨v3,rfl,ja,aw⟩;rw[pJ]at ja;obtain⟨a3,c3,rfl,_,_,d9⟩:=ja.at_ dT.len;have k3:=Grows.tr (HG1.out) aw;have q4:=k3.cell HQ4.out;go_wp2_with fail
  refine(HS1 _ (k3)).out.mono ?_;rintro e w4 ⟨v4,rfl,jw,bj⟩;rw[<-HES.out]at jw;obtain⟨a4,c4,rfl,_,_,iw⟩:=jw.at_ dT.len;have k4:=Grows.tr (k3) bj;go_wp2_with fail
  refine(CSM es a3 a4 c3 c4 _ (by omega) (d9.grows bj) iw).out.mono ?_;rintro e w5 ⟨rfl,bg⟩;have k5:=k4.tr bg;clear q4 iw jw;go_wp2_with fail
  refine(CD1 _ (k5)).out.mono ?_;rintro e w6 ⟨v6,rfl,nc,cg⟩;obtain⟨a6,c6,rfl,_,_,mh⟩:=nc.at_ dT.len;have k6:=Grows.tr (k5) cg;go_wp2_with fail
  refine(CD2 _ (k6)).out.mono ?_;rintro e w7 ⟨v7,rfl,hv7,cw⟩;obtain⟨a7,c7,rfl,_,_,ta⟩:=hv7.at_ dT.len;have k7:=Grows.tr (k6) cw;go_wp2_with fail
  refine(CD3 _ (k7)).out.mono ?_;rintro e wz ⟨rfl,rfl⟩;go_wp2_with fail
  refine(CD4 _ (k7)).out.mono ?_;rintro e w8 ⟨v8,rfl,px,fq⟩;obtain⟨a8,c8,rfl,_,_,gn⟩:=px.at_ dT.len;have k8:=Grows.tr (k7) fq;go_wp2_with fail
  refine(CD5 _ (k8)).out.mono ?_;rintro e w9 ⟨v9,rfl,hv9,dz⟩;obtain⟨a9,c9,rfl,_,_,s9⟩:=hv9.at_ dT.len;have k9:=Grows.tr (k8) dz;go_wp2_with fail
  refine(CD6 _ (k9)).out.mono ?_;rintro e w10 ⟨v10,rfl,aax,fu⟩;obtain⟨a10,c10,rfl,_,_,abx⟩:=aax.at_ dT.len;have k10:=Grows.tr (k9) fu;have HA0:=Aa (d9.grows (bj.tr (bg.tr (cg.tr (cw.tr (fq.tr (dz.tr fu)))))));have HA1:=Aa (mh.grows (cw.tr (fq.tr (dz.tr fu))));have HA2:=Aa (ta.grows (fq.tr (dz.tr fu)));have HA3:=Aa (gn.grows (dz.tr fu));have HA4:=Aa (s9.grows fu);have HA5:=Aa abx;have KK:=Aa (g1.tr k10);clear d9 mh ta gn s9 abx ja nc hv7 px hv9 aax aw bj bg cg cw fq dz fu k3 k4 k5 k6 k7 k8 k9 k10 CD0 CD1 CD2 CD3 CD4 CD5 CD6 HS1 CSM g1 fc;obtain⟨wT,rfl⟩:=exq w10;go_wp2_with fail
  go_loopw [14,58] (λv i wr=>∃(k n:Nat),k<=es.length/\i=.int .i64 k/\v=.int .i64 n/\Hid (n=jK0 (oK1 s) (es.take k)/\n<=k*5)/\Hid (Grows wT wr)) (λ_ i _=>es.length-(intOf i).toNat)
  case atStart=>exact⟨0,0,Ag _,rfl,rfl,⟨rfl,Ag _⟩,Grows.refl _⟩
  case round =>
   obtain⟨k,n,hk,rfl,rfl,hn,hg⟩:=hrel;obtain⟨u0,rfl⟩:=exq wr;by_cases ae:k<es.length
   ·obtain⟨⟨xr,xs,xl,xt,xc⟩,hx⟩:∃x,es[k]?=some x:=⟨_,List.getElem?_eq_getElem ae⟩
    have qw:=List.mem_of_getElem? hx;obtain⟨ba,oa,rfl,be⟩:=(HA0.out.grows hg.out).get (aH ae);have c0:u0.cell? ⟨ba,oa+k*5,none⟩=some (.string xr):=be k _ hx 0 _ rfl;have c1:u0.cell? ⟨ba,oa+k*5+1,none⟩=some (.string xs):=be k _ hx 1 _ rfl;have c2:u0.cell? ⟨ba,oa+k*5+2,none⟩=some (.int .i64 xl):=be k _ hx 2 _ rfl;have c3:u0.cell? ⟨ba,oa+k*5+3,none⟩=some (.int .i64 xt):=be k _ hx 3 _ rfl;have c4:u0.cell? ⟨ba,oa+k*5+4,none⟩=some (.int .i64 xc):=be k _ hx 4 _ rfl;have cy:(k:Int)<es.length:=by omega
    obtain⟨V,hV⟩:=exq (u0.alloc (.cells #[.string xr,.string xs,.int .i64 xl,.int .i64 xt,.int .i64 xc] 52));obtain⟨eb,dh⟩:=exq u0.heap.size;have bx:=λj u h=>aT u0 #[.string xr,.string xs,.int .i64 xl,.int .i64 xt,.int .i64 xc] 52 (0,0) j u h;rw[<-hV,<-dh]at bx;have gV:Grows wT V:=hg.out.tr (by rw[hV];exact Grows.alloc _ _);have HB:=Aa (And.intro (bx 0 _ rfl) (And.intro (bx 1 _ rfl) (And.intro (bx 2 _ rfl) (And.intro (bx 3 _ rfl) (bx 4 _ rfl)))));obtain⟨n1,fk⟩:=exq (tru (decide (xr=s)));obtain⟨n2,ig⟩:=exq (tru (begB s xr));obtain⟨n3,lw⟩:=exq (tru (begB xr s));obtain⟨n4,tp⟩:=exq (tru (decide (xs=s)));obtain⟨n5,xv⟩:=exq (tru (begB s xs))
    have aby:n+n1+n2+n3+n4+n5=jK0 (oK1 s) (es.take (k+1)):=by
     rw[bN hx,kA0,<-hn.out.1,fk,ig,lw,tp,xv];unfold oK1;simp only;omega
    have ia:n1<=1/\n2<=1/\n3<=1/\n4<=1/\n5<=1:=by rw[fk,ig,lw,tp,xv];exact⟨mW0 _,mW0 _,mW0 _,mW0 _,mW0 _⟩
    have CT:=λ(b:Bool) (W:World)=>Aa (qZ0 b W);obtain⟨z1,z2⟩:=HZ.out _ qw;simp only at z1 z2;have CB1:=λ(W:World)=>Aa (qJ s xr W hs (by omega));have CB2:=λ(W:World)=>Aa (qJ xr s W (by omega) hs);have CB3:=λ(W:World)=>Aa (qJ s xs W hs (by omega));have CC1:=λ(W:World) (hW:Grows wT W)=>Aa (iA X1 ⟨xr,xs,xl,xt,xc⟩ a6 c6 W (by omega) (HA1.out.grows hW));rw[show cntE X1 ⟨xr,xs,xl,xt,xc⟩=n1 by rw[HC1.out _ qw,fk]]at CC1
    have CC2:=λ(W:World) (hW:Grows wT W)=>Aa (iA X2 ⟨xr,xs,xl,xt,xc⟩ a7 c7 W (by omega) (HA2.out.grows hW));rw[show cntE X2 ⟨xr,xs,xl,xt,xc⟩=n2 by rw[HC2.out _ qw,ig]]at CC2
    have CC3:=λ(W:World) (hW:Grows wT W)=>Aa (iA X3 ⟨xr,xs,xl,xt,xc⟩ a8 c8 W (by omega) (HA3.out.grows hW));rw[show cntE X3 ⟨xr,xs,xl,xt,xc⟩=n3 by rw[HC3.out _ qw,lw]]at CC3
    have CC4:=λ(W:World) (hW:Grows wT W)=>Aa (iA X4 ⟨xr,xs,xl,xt,xc⟩ a9 c9 W (by omega) (HA4.out.grows hW));rw[show cntE X4 ⟨xr,xs,xl,xt,xc⟩=n4 by rw[HC4.out _ qw,tp]]at CC4
    have CC5:=λ(W:World) (hW:Grows wT W)=>Aa (iA X5 ⟨xr,xs,xl,xt,xc⟩ a10 c10 W (by omega) (HA5.out.grows hW));rw[show cntE X5 ⟨xr,xs,xl,xt,xc⟩=n5 by rw[HC5.out _ qw,xv]]at CC5
    obtain⟨b1,fw⟩:=exq (decide (xr=s));obtain⟨b4,zw⟩:=exq (decide (xs=s));have e1:(xr.toList==s.toList)=b1:=by rw[fw,Af];simp only[beq_iff_eq,decide_eq_true_eq];exact⟨dV,λh=>by rw[h]⟩
    have e4:(xs.toList==s.toList)=b4:=by rw[zw,Af];simp only[beq_iff_eq,decide_eq_true_eq];exact⟨dV,λh=>by rw[h]⟩
    rw[<-fw]at fk;rw[<-zw]at tp;generalize begB s xr=b2 at CB1 ig;generalize begB xr s=b3 at CB2 lw;generalize begB s xs=b5 at CB3 xv;have CT1:=λ(W:World)=>CT b1 W;rw[<-fk]at CT1;have CT2:=λ(W:World)=>CT b2 W;rw[<-ig]at CT2;have CT3:=λ(W:World)=>CT b3 W;rw[<-lw]at CT3;have CT4:=λ(W:World)=>CT b4 W;rw[<-tp]at CT4;have CT5:=λ(W:World)=>CT b5 W;rw[<-xv]at CT5;have hnk:=hn.out.2;obtain⟨s1,ei⟩:=exq (n+n1);obtain⟨s2,im⟩:=exq (s1+n2);obtain⟨s3,hs3⟩:=exq (s2+n3);obtain⟨s4,xw⟩:=exq (s3+n4);obtain⟨s5,hs5⟩:=exq (s4+n5);have wr1:IntKind.i64.wrap ((n:Int)+n1)=s1:=by rw[show (n:Int)+n1=s1 by omega];exact cT (by omega)
    have wr2:IntKind.i64.wrap ((s1:Int)+n2)=s2:=by rw[show (s1:Int)+n2=s2 by omega];exact cT (by omega)
    have wr3:IntKind.i64.wrap ((s2:Int)+n3)=s3:=by rw[show (s2:Int)+n3=s3 by omega];exact cT (by omega)
    have wr4:IntKind.i64.wrap ((s3:Int)+n4)=s4:=by rw[show (s3:Int)+n4=s4 by omega];exact cT (by omega)
    have wr5:IntKind.i64.wrap ((s4:Int)+n5)=s5:=by rw[show (s4:Int)+n5=s5 by omega];exact cT (by omega)
    have HSS:Hid (s5=jK0 (oK1 s) (es.take (k+1))/\s5<=(k+1)*5):=⟨by rw[<-aby];omega,by omega⟩;have HLT:=Aa ae;have HGV:=Aa gV;clear be hx qw hn fk ig lw tp xv fw zw ia aby ei im hs3 xw hs5 hnk ae z1 z2 bx CT gV hk;go_wp2_with fail
    rw[<-hV,<-dh];clear hV dh c0 c1 c2 c3 c4;have gd:=Aa (Grows.drew V);have y0:∀y:Ext Grows V.drew,y.u.cell? ⟨eb,0,none⟩=some (.string xr):=aB (gd.out.cell HB.out.1);have y1:∀y:Ext Grows V.drew,y.u.cell? ⟨eb,1,none⟩=some (.string xs):=aB (gd.out.cell HB.out.2.1);have y2:∀y:Ext Grows V.drew,y.u.cell? ⟨eb,2,none⟩=some (.int .i64 xl):=aB (gd.out.cell HB.out.2.2.1);have y3:∀y:Ext Grows V.drew,y.u.cell? ⟨eb,3,none⟩=some (.int .i64 xt):=aB (gd.out.cell HB.out.2.2.2.1);have y4:∀y:Ext Grows V.drew,y.u.cell? ⟨eb,4,none⟩=some (.int .i64 xc):=aB (gd.out.cell HB.out.2.2.2.2);refine bE (lT [0,1,3,4,5,6,2,7,8,9,10,11,13,14,15,12,16,17,18,19,20,21,22,24,25,26,23,27,28,29,30,31,32,33,35,36,37,38,34,39,40,41,42,43,44,46,47,48,45,49,50,51,52] [2,12,23,34,45]) (by kernel_rfl) (λd _ _ _ _ h=>by cases d<;>exact h) ?_
    iterate 6 (refine aG rfl (λK hK=>?_);go_simp;refine hK _ ?_;clear hK K)
    refine aZ rfl rfl (λK hK=>?_);go_simp;refine((CC1 V.drew (HGV.out.tr gd.out)).out).mono ?_;rintro e t1 ⟨rfl,kp⟩;refine⟨kp,hK _ _ ?_⟩;clear hK K;have h1:Hid (Grows V t1):=gd.out.tr kp;clear y0 y1 y2 y3 y4 kp;have y0:∀y:Ext Grows t1,y.u.cell? ⟨eb,0,none⟩=some (.string xr):=aB (h1.out.cell HB.out.1);have y1:∀y:Ext Grows t1,y.u.cell? ⟨eb,1,none⟩=some (.string xs):=aB (h1.out.cell HB.out.2.1);have y2:∀y:Ext Grows t1,y.u.cell? ⟨eb,2,none⟩=some (.int .i64 xl):=aB (h1.out.cell HB.out.2.2.1);have y3:∀y:Ext Grows t1,y.u.cell? ⟨eb,3,none⟩=some (.int .i64 xt):=aB (h1.out.cell HB.out.2.2.2.1);have y4:∀y:Ext Grows t1,y.u.cell? ⟨eb,4,none⟩=some (.int .i64 xc):=aB (h1.out.cell HB.out.2.2.2.2);refine aG rfl (λK hK=>?_);go_simp;apply Exists.intro
    refine⟨λx=>?_,hK _ ?_⟩
    ·go_at_call 24;exact aY (CT1 _).out
    clear hK K;iterate 7 (refine aG rfl (λK hK=>?_);go_simp;refine hK _ ?_;clear hK K)
    refine aZ rfl rfl (λK hK=>?_);go_simp;refine((CC2 t1 (HGV.out.tr h1.out)).out).mono ?_;rintro e t2 ⟨rfl,ko⟩;refine⟨ko,hK _ _ ?_⟩;clear hK K;have h2:Hid (Grows V t2):=h1.out.tr ko;clear y0 y1 y2 y3 y4 ko;have y0:∀y:Ext Grows t2,y.u.cell? ⟨eb,0,none⟩=some (.string xr):=aB (h2.out.cell HB.out.1);have y1:∀y:Ext Grows t2,y.u.cell? ⟨eb,1,none⟩=some (.string xs):=aB (h2.out.cell HB.out.2.1);have y2:∀y:Ext Grows t2,y.u.cell? ⟨eb,2,none⟩=some (.int .i64 xl):=aB (h2.out.cell HB.out.2.2.1);have y3:∀y:Ext Grows t2,y.u.cell? ⟨eb,3,none⟩=some (.int .i64 xt):=aB (h2.out.cell HB.out.2.2.2.1);have y4:∀y:Ext Grows t2,y.u.cell? ⟨eb,4,none⟩=some (.int .i64 xc):=aB (h2.out.cell HB.out.2.2.2.2);refine aG rfl (λK hK=>?_);go_simp;apply Exists.intro
    refine⟨λx=>?_,hK _ ?_⟩
    ·go_at_call 25;exact aY (CB1 _).out
    clear hK K;refine aG rfl (λK hK=>?_);go_simp;apply Exists.intro
    refine⟨λx=>?_,hK _ ?_⟩
    ·go_at_call 24;exact aY (CT2 _).out
    clear hK K;iterate 8 (refine aG rfl (λK hK=>?_);go_simp;refine hK _ ?_;clear hK K)
    refine aZ rfl rfl (λK hK=>?_);go_simp;refine((CC3 t2 (HGV.out.tr h2.out)).out).mono ?_;rintro e t3 ⟨rfl,o9⟩;refine⟨o9,hK _ _ ?_⟩;clear hK K;have h3:Hid (Grows V t3):=h2.out.tr o9;clear y0 y1 y2 y3 y4 o9;have y0:∀y:Ext Grows t3,y.u.cell? ⟨eb,0,none⟩=some (.string xr):=aB (h3.out.cell HB.out.1);have y1:∀y:Ext Grows t3,y.u.cell? ⟨eb,1,none⟩=some (.string xs):=aB (h3.out.cell HB.out.2.1);have y2:∀y:Ext Grows t3,y.u.cell? ⟨eb,2,none⟩=some (.int .i64 xl):=aB (h3.out.cell HB.out.2.2.1);have y3:∀y:Ext Grows t3,y.u.cell? ⟨eb,3,none⟩=some (.int .i64 xt):=aB (h3.out.cell HB.out.2.2.2.1);have y4:∀y:Ext Grows t3,y.u.cell? ⟨eb,4,none⟩=some (.int .i64 xc):=aB (h3.out.cell HB.out.2.2.2.2);refine aG rfl (λK hK=>?_);go_simp;apply Exists.intro
    refine⟨λx=>?_,hK _ ?_⟩
    ·go_at_call 25;exact aY (CB2 _).out
    clear hK K;refine aG rfl (λK hK=>?_);go_simp;apply Exists.intro
    refine⟨λx=>?_,hK _ ?_⟩
    ·go_at_call 24;exact aY (CT3 _).out
    clear hK K;iterate 9 (refine aG rfl (λK hK=>?_);go_simp;refine hK _ ?_;clear hK K)
    refine aZ rfl rfl (λK hK=>?_);go_simp;refine((CC4 t3 (HGV.out.tr h3.out)).out).mono ?_;rintro e t4 ⟨rfl,pe⟩;refine⟨pe,hK _ _ ?_⟩;clear hK K;have h4:Hid (Grows V t4):=h3.out.tr pe;clear y0 y1 y2 y3 y4 pe;have y0:∀y:Ext Grows t4,y.u.cell? ⟨eb,0,none⟩=some (.string xr):=aB (h4.out.cell HB.out.1);have y1:∀y:Ext Grows t4,y.u.cell? ⟨eb,1,none⟩=some (.string xs):=aB (h4.out.cell HB.out.2.1);have y2:∀y:Ext Grows t4,y.u.cell? ⟨eb,2,none⟩=some (.int .i64 xl):=aB (h4.out.cell HB.out.2.2.1);have y3:∀y:Ext Grows t4,y.u.cell? ⟨eb,3,none⟩=some (.int .i64 xt):=aB (h4.out.cell HB.out.2.2.2.1);have y4:∀y:Ext Grows t4,y.u.cell? ⟨eb,4,none⟩=some (.int .i64 xc):=aB (h4.out.cell HB.out.2.2.2.2);refine aG rfl (λK hK=>?_);go_simp;apply Exists.intro
    refine⟨λx=>?_,hK _ ?_⟩
    ·go_at_call 24;exact aY (CT4 _).out
    clear hK K;iterate 8 (refine aG rfl (λK hK=>?_);go_simp;refine hK _ ?_;clear hK K)
    refine aZ rfl rfl (λK hK=>?_);go_simp;refine((CC5 t4 (HGV.out.tr h4.out)).out).mono ?_;rintro e t5 ⟨rfl,aeu⟩;refine⟨aeu,hK _ _ ?_⟩;clear hK K;have h5:Hid (Grows V t5):=h4.out.tr aeu;clear y0 y1 y2 y3 y4 aeu;have y0:∀y:Ext Grows t5,y.u.cell? ⟨eb,0,none⟩=some (.string xr):=aB (h5.out.cell HB.out.1);have y1:∀y:Ext Grows t5,y.u.cell? ⟨eb,1,none⟩=some (.string xs):=aB (h5.out.cell HB.out.2.1);have y2:∀y:Ext Grows t5,y.u.cell? ⟨eb,2,none⟩=some (.int .i64 xl):=aB (h5.out.cell HB.out.2.2.1);have y3:∀y:Ext Grows t5,y.u.cell? ⟨eb,3,none⟩=some (.int .i64 xt):=aB (h5.out.cell HB.out.2.2.2.1);have y4:∀y:Ext Grows t5,y.u.cell? ⟨eb,4,none⟩=some (.int .i64 xc):=aB (h5.out.cell HB.out.2.2.2.2);refine aG rfl (λK hK=>?_);go_simp;apply Exists.intro
    refine⟨λx=>?_,hK _ ?_⟩
    ·go_at_call 25;exact aY (CB3 _).out
    clear hK K;refine aG rfl (λK hK=>?_);go_simp;apply Exists.intro
    refine⟨λx=>?_,hK _ ?_⟩
    ·go_at_call 24;exact aY (CT5 _).out
    clear hK K;iterate 2 (refine aG rfl (λK hK=>?_);go_simp;refine hK _ ?_;clear hK K)
    refine bH ?_;clear y0 y1 y2 y3 y4 CC1 CC2 CC3 CC4 CC5;go_wp2_with fail
    have gq:=Aa (Grows.drew t5);have y0:∀y:Ext Grows t5.drew,y.u.cell? ⟨eb,0,none⟩=some (.string xr):=aB ((h5.out.tr gq.out).cell HB.out.1);have y1:∀y:Ext Grows t5.drew,y.u.cell? ⟨eb,1,none⟩=some (.string xs):=aB ((h5.out.tr gq.out).cell HB.out.2.1);have y2:∀y:Ext Grows t5.drew,y.u.cell? ⟨eb,2,none⟩=some (.int .i64 xl):=aB ((h5.out.tr gq.out).cell HB.out.2.2.1);have y3:∀y:Ext Grows t5.drew,y.u.cell? ⟨eb,3,none⟩=some (.int .i64 xt):=aB ((h5.out.tr gq.out).cell HB.out.2.2.2.1);have y4:∀y:Ext Grows t5.drew,y.u.cell? ⟨eb,4,none⟩=some (.int .i64 xc):=aB ((h5.out.tr gq.out).cell HB.out.2.2.2.2);refine bE (aU 32 []) (by kernel_rfl) (λd _ _ _ _ h=>by cases d<;>exact h) ?_
    iterate 5 (refine aG rfl (λK hK=>?_);go_simp;refine hK _ ?_;clear hK K)
    refine aG rfl (λK hK=>?_);go_simp;apply Exists.intro
    refine⟨λx=>?_,hK _ ?_⟩
    ·go_at_call 24;exact aY (CT1 _).out
    clear hK K;iterate 4 (refine aG rfl (λK hK=>?_);go_simp;refine hK _ ?_;clear hK K)
    refine aG rfl (λK hK=>?_);go_simp;apply Exists.intro
    refine⟨λx=>?_,hK _ ?_⟩
    ·go_at_call 25;exact aY (CB1 _).out
    clear hK K;refine aG rfl (λK hK=>?_);go_simp;apply Exists.intro
    refine⟨λx=>?_,hK _ ?_⟩
    ·go_at_call 24;exact aY (CT2 _).out
    clear hK K;iterate 4 (refine aG rfl (λK hK=>?_);go_simp;refine hK _ ?_;clear hK K)
    refine aG rfl (λK hK=>?_);go_simp;apply Exists.intro
    refine⟨λx=>?_,hK _ ?_⟩
    ·go_at_call 25;exact aY (CB2 _).out
    clear hK K;refine aG rfl (λK hK=>?_);go_simp;apply Exists.intro
    refine⟨λx=>?_,hK _ ?_⟩
    ·go_at_call 24;exact aY (CT3 _).out
    clear hK K;iterate 5 (refine aG rfl (λK hK=>?_);go_simp;refine hK _ ?_;clear hK K)
    refine aG rfl (λK hK=>?_);go_simp;apply Exists.intro
    refine⟨λx=>?_,hK _ ?_⟩
    ·go_at_call 24;exact aY (CT4 _).out
    clear hK K;iterate 4 (refine aG rfl (λK hK=>?_);go_simp;refine hK _ ?_;clear hK K)
    refine aG rfl (λK hK=>?_);go_simp;apply Exists.intro
    refine⟨λx=>?_,hK _ ?_⟩
    ·go_at_call 25;exact aY (CB3 _).out
    clear hK K;refine aG rfl (λK hK=>?_);go_simp;apply Exists.intro
    refine⟨λx=>?_,hK _ ?_⟩
    ·go_at_call 24;exact aY (CT5 _).out
    clear hK K;iterate 2 (refine aG rfl (λK hK=>?_);go_simp;refine hK _ ?_;clear hK K)
    refine bH ?_;clear y0 y1 y2 y3 y4 CB1 CB2 CB3 CT1 CT2 CT3 CT4 CT5 wr1 wr2 wr3 wr4 wr5;go_wp2_with fail
    go_roundw
    case rel=>exact⟨k+1,s5,HLT.out,by go_num,rfl,HSS,(HGV.out.tr h5.out).tr gq.out⟩
    case measure=>have:=HLT.out;simp[intOf];omega
   ·obtain rfl:k=es.length:=by omega
    have fk:=hn.out.1;rw[List.take_length,HSUM.out]at fk;obtain⟨s1,ei⟩:=exq (X1.length+X2.length);obtain⟨s2,im⟩:=exq (s1+X3.length);obtain⟨s3,hs3⟩:=exq (s2+X4.length);obtain⟨s4,xw⟩:=exq (s3+X5.length);have wr1:IntKind.i64.wrap ((X1.length:Int)+X2.length)=s1:=by rw[show (X1.length:Int)+X2.length=s1 by omega];exact cT (by omega)
    have wr2:IntKind.i64.wrap ((s1:Int)+X3.length)=s2:=by rw[show (s1:Int)+X3.length=s2 by omega];exact cT (by omega)
    have wr3:IntKind.i64.wrap ((s2:Int)+X4.length)=s3:=by rw[show (s2:Int)+X4.length=s3 by omega];exact cT (by omega)
    have wr4:IntKind.i64.wrap ((s3:Int)+X5.length)=s4:=by rw[show (s3:Int)+X5.length=s4 by omega];exact cT (by omega)
    obtain rfl:n=s4:=by omega
    have GL:=Aa (KK.out.tr hg.out);clear fk ei im hs3 xw hn hg hk ae;go_wp2_with fail
    refine(CW _ GL.out).out.mono ?_;rintro e z1 ⟨rfl,hgz⟩;go_wp2_with fail
    go_ret;exact⟨rfl,GL.out.tr hgz⟩
end Go.Proofs.YtheiocndipepaaaGreatDoor
