import Derived.Test.YtheiocndipepaaaGreatDoorKq47
import Derived.Test.YtheiocndipepaaaGreatDoorKq40
open Go.Lib renaming hid → Aa
open List renaming length_set → Ab
open Nat renaming xor_self → Ac
set_option maxHeartbeats 8000000
namespace Go.Proofs.YtheiocndipepaaaGreatDoor
set_option maxRecDepth 100000
open Go Go.RowKit Go.Shelf
attribute [local go_sem] aM aK
theorem oM0 (x:zB) (A:kQ) (ix ch:Nat) (w:World) (he:Env w) (ah:sO x) (ajy:ix<65536) (kw:ch<256) (ac:mV w A x) :
  Calls Tryz.prog 3 #[A.agg x,.int .u16 ix,.int .u8 ch] w λe w'=>e=.returned (.bool true)/\Grows w w':=by
 have HE:=Aa he;have CW:=λW (h:Grows w W)=>Aa (lJ W (HE.out.grows h));obtain⟨pa,pc,sa,sc,ea,ec⟩:=A;obtain⟨xp,xd,xs,xe⟩:=x;obtain⟨W0,b9⟩:=exq (w.alloc (.cells #[.slice pa xp.length pc,.int .i64 xd,.slice sa xs.length sc,.slice ea xe.length ec] 26));have cp:Grows w W0:=by rw[b9];exact Grows.alloc _ _
 obtain⟨bc,_⟩:=bK (show Grows (w.alloc (.cells #[.slice pa xp.length pc,.int .i64 xd,.slice sa xs.length sc,.slice ea xe.length ec] 26)) W0 by rw[b9];exact Grows.refl _)
 have q0:=bc 0 _ rfl;have q1:=bc 1 _ rfl;have q2:=bc 2 _ rfl;have q3:=bc 3 _ rfl;have HQ:=Aa (And.intro q0 (And.intro q1 (And.intro q2 q3)));have HOK:=Aa ah;have HSA:=Aa (ac.grows cp);have HE0:=Aa (he.grows cp);have CO:=Aa (zN ⟨xp,xd,xs,xe⟩ ⟨pa,pc,sa,sc,ea,ec⟩ W0 (he.grows cp) ah (ac.grows cp));unfold kQ.agg kQ.cells at CO;simp only at CO;show Calls _ _ #[.agg #[.slice pa xp.length pc,.int .i64 xd,.slice sa xs.length sc,.slice ea xe.length ec],.int .u16 ix,.int .u8 ch] _ _
 clear he ah ac bc;go_enter Tryz.func3,Tryz.ntmps3
 go_wp2_with fail
 rw[<-b9];clear b9;refine CO.out.mono ?_;rintro e w1 ⟨ag,dv,a0,n0,c0,q,a2,n2,c2,rfl,hdv⟩;have g1:=cp.tr ag;clear CO q0 q1 q2 q3;rcases hdv with rfl|⟨db,m,rfl,ew⟩
 ·go_wp2_with fail
  refine(CW _ (g1.al _)).out.mono ?_;rintro e w2 ⟨rfl,af⟩;go_wp2_with fail
  go_ret;exact⟨rfl,(g1.al _).tr af⟩
 ·have HDK:=Aa (show bP xp m (sortS xe) from mC ew.made)
  have fc:xe.length<=300:=(jL ew.li).2.2.2.2;obtain⟨ol,ij,_⟩:=oL1 ew.li HOK.out;have HB1:Hid (∀y∈xe,rZ y):=ol;have HMK:Hid (iL xp (some m) xe=0):=ew.made;have HSM:Hid (srcM ⟨xp,xd,xs,xe⟩=some m):=ew.src;have CI:=λ(W:World) (h:Grows w1 W)=>Aa (qQ ⟨xp,xd,xs,xe⟩ ⟨pa,pc,sa,sc,ea,ec⟩ W (HE0.out.grows (ag.tr h)) HOK.out ij (HSA.out.grows (ag.tr h)));have CM:=λ(W:World) (h:Grows w1 W)=>Aa (eG0 ⟨xp,xd,xs,xe⟩ ⟨pa,pc,sa,sc,ea,ec⟩ W HOK.out (HSA.out.grows (ag.tr h)));unfold kQ.agg kQ.cells cM at CI;unfold kQ.agg kQ.cells at CM;simp only at CI CM;rw[HSM.out]at CI CM;have HQ1:=Aa (And.intro (ag.cell HQ.out.1) (And.intro (ag.cell HQ.out.2.1) (And.intro (ag.cell HQ.out.2.2.1) (ag.cell HQ.out.2.2.2))));have HE1:=Aa (HE0.out.grows ag);have HP1:Hid (aF w1 pa 2 (xp.map bG)):=HSA.out.p.grows ag;have HD:=Aa (show cB w1 db xp m (sortS xe) from ew.d)
  obtain⟨jd,jy,rb,a',c',x0,x1,x2,mo,rr,ut⟩:=ew.r;obtain⟨rfl,rfl,rfl⟩:jd=a0/\xp.length=n0/\jy=c0:=(by cases x0;exact⟨rfl,rfl,rfl⟩);obtain rfl:some ⟨rb,0,none⟩=q:=(by cases x1;rfl);obtain⟨rfl,rfl,rfl⟩:a'=a2/\(sortS xe).length=n2/\c'=c2:=(by cases x2;exact⟨rfl,rfl,rfl⟩);have HP3:Hid (aF w1 jd 2 (xp.map bG)):=mo;have HR3:Hid (jZ w1 rb m):=rr;have HE3:Hid (aF w1 a' 5 ((sortS xe).map aQ)):=ut;clear x0 x1 x2 mo rr ut ew cp ag;have HMO:=Aa HR3.out.ok;have jm:=Aa (cJ0 HR3.out.ok fc HMK.out);rw[iH HMK.out jm.out]at CI;have HEN:Hid (∀y∈sortS xe,rZ y):=λy hy=>HB1.out y (kR hy);have HZ:Hid (∀y∈sortS xe,y.r.size<=1099511627776/\y.s.size<=1099511627776):=λy hy=>ij y (kR hy);clear ol ij;generalize sortS xe=es at HDK HD HE3 HEN HZ jm CI ⊢;have qo:=HDK.out.len;have m8:=(dN (eE HDK.out.chk).2.2.1).1;have CO:=λ(a:Option Addr) (c:Nat) (W:World) (hW:Grows w1 W) h1 h2 h3 h4=>Aa (uL xp m es a c W (HE1.out.grows hW) HDK.out HMO.out HEN.out jm.out h1 h2 h3 h4);have CB:=λ(mv:Value) (a:Option Addr) (c:Nat) (W:World) (hW:Grows w1 W) hm h4=>Aa (eO0 xp mv (some m) es pa a pc c W (HE1.out.grows hW) (by omega) (by omega) HEN.out HZ.out (HP1.out.grows hW) hm h4);unfold cM at CB;rw[iH HDK.out.make (by rw[HDK.out.idem];exact jm.out),HDK.out.idem]at CB;simp only at CB CI;have HF:=Aa (yC jm.out);generalize file14 (imgP xp m es)=IM at CI CB CO HF;obtain⟨hf9,up,hfs,ql⟩:=HF.out;have HF4:=Aa up;have HFS:=Aa hfs;clear up hfs;obtain⟨V1,jv⟩:=exq (w1.alloc (.cells #[.slice jd xp.length jy,.pointer (some ⟨rb,0,none⟩),.slice a' es.length c'] 32));have km:Grows w1 V1:=by rw[jv];exact Grows.alloc _ _
  have bx:=λj u h=>aT w1 #[.slice jd xp.length jy,.pointer (some ⟨rb,0,none⟩),.slice a' es.length c'] 32 (0,0) j u h;rw[<-jv]at bx;obtain⟨b5,ju⟩:=exq w1.heap.size;rw[<-ju]at bx;have y0:∀y:Ext Grows V1.drew,y.u.cell? ⟨b5,0,none⟩=some (.slice jd xp.length jy):=aB ((Grows.drew V1).cell (bx 0 _ rfl));have y1:∀y:Ext Grows V1.drew,y.u.cell? ⟨b5,1,none⟩=some (.pointer (some ⟨rb,0,none⟩)):=aB ((Grows.drew V1).cell (bx 1 _ rfl));have y2:∀y:Ext Grows V1.drew,y.u.cell? ⟨b5,2,none⟩=some (.slice a' es.length c'):=aB ((Grows.drew V1).cell (bx 2 _ rfl));have gV:=g1.tr km;have CSM:=λ(l:List En) (a b:Option Addr) (c d:Nat) (u:World) hl h1 h2=>Aa (uW l a b c d u hl h1 h2);have CDU:=λ(u:World) (hu:Grows w1 u)=>Aa (fU xp m es db ⟨#[]⟩ (es.length:Int) u HDK.out (by decide) (HD.out.grows hu));have CDL:=λ(u:World) (hu:Grows w1 u)=>Aa (oQ xp m es db u (HD.out.grows hu));have CDS:=λ(u:World) (hu:Grows w1 u)=>Aa (lV0 xp m es db u (HD.out.grows hu));rw[pJ]at CDU;have HG1:=Aa km;have HQ2:=Aa (And.intro (km.cell HQ1.out.1) (And.intro (km.cell HQ1.out.2.1) (And.intro (km.cell HQ1.out.2.2.1) (km.cell HQ1.out.2.2.2))));obtain⟨r0,r1,r2,r3⟩:=HQ2.out;clear bx y0 y1 y2 CSM HDK fc jm gV;rw[jv]at r0 r1 r2 r3;go_wp2_with fail
  rw[<-jv];clear jv ju km r0 r1 r2 r3;refine(CI V1 HG1.out).out.mono ?_;rintro e w3 ⟨aw,v3,rfl,ja⟩;obtain⟨a3,c3,rfl,hc3,hm3,d9⟩:=ja.at_ bI.len;have k3:=HG1.out.tr aw;have g13:=Aa (g1.tr k3);clear CI ja;go_wp2_with fail
  have z0:∀y:Ext Grows w3.drew,y.u.cell? ⟨w.heap.size,0,none⟩=some (.slice pa xp.length pc):=aB ((aw.dr).cell HQ2.out.1);have z1:∀y:Ext Grows w3.drew,y.u.cell? ⟨w.heap.size,1,none⟩=some (.int .i64 xd):=aB ((aw.dr).cell HQ2.out.2.1);have z2:∀y:Ext Grows w3.drew,y.u.cell? ⟨w.heap.size,2,none⟩=some (.slice sa xs.length sc):=aB ((aw.dr).cell HQ2.out.2.2.1);have z3:∀y:Ext Grows w3.drew,y.u.cell? ⟨w.heap.size,3,none⟩=some (.slice ea xe.length ec):=aB ((aw.dr).cell HQ2.out.2.2.2);have H3:=Aa (d9.grows (Grows.drew w3));have k3d:=Aa k3.dr;clear d9 k3;refine bE (lT [0,1,2,4,5,3,6,7,8,9,10,11,12,13] [3,7,8]) (by kernel_rfl) (λd _ _ _ _ h=>by cases d<;>exact h) ?_
  iterate 5 (refine aG rfl (λK hK=>?_);go_simp;refine hK _ ?_;clear hK K)
  clear z0 z1 z2 z3;refine aZ rfl rfl (λK hK=>?_);go_simp;refine((CM _ k3d.out).out).mono ?_;rintro e w4 ⟨v4,rfl,jw,bj⟩;refine⟨bj,hK _ _ ?_⟩;clear hK K;have k4:=k3d.out.tr bj;refine aG rfl (λK hK=>?_);go_simp;apply Exists.intro
  refine⟨λx=>?_,hK _ ?_⟩
  ·go_at_call 14;exact aY (CDL _ (k4.tr x.h)).out
  clear hK K;refine aZ rfl rfl (λK hK=>?_);go_simp;refine((CDU w4 k4).out).mono ?_;rintro e w5 ⟨v5,rfl,hv5,bg⟩;refine⟨bg,hK _ _ ?_⟩;clear hK K;have k5:=k4.tr bg;have HS5:=Aa k5.size;obtain⟨a5,c5,rfl,_,_,lz⟩:=hv5.at_ dT.len;refine aZ rfl rfl (λK hK=>?_);go_simp;refine((CB v4 a5 c5 w5 k5 (jw.grows bg) lz).out).mono ?_;rintro e w6 ⟨cg,v6,rfl,nc⟩;refine⟨cg,hK _ _ ?_⟩;clear hK K;have k6:=k5.tr cg;have H6:=Aa (H3.out.grows (bj.tr (bg.tr cg)));have H66:=Aa ((HQ2.out.1));have q6:w6.cell? ⟨w.heap.size,0,none⟩=some (.slice pa xp.length pc):=((aw.dr).tr (bj.tr (bg.tr cg))).cell HQ2.out.1;iterate 5 (refine aG rfl (λK hK=>?_);go_simp;refine hK _ ?_;clear hK K)
  refine bH ?_;clear CM CDU CB jw hv5 lz aw bj bg cg k4 k5
  obtain⟨g,p6,cm,hv,aa⟩:∃g cap,∃_:True,v6=.slice (some ⟨g,0,none⟩) IM.length cap/\True:=by
   rcases nc.2 with ⟨_,h0⟩|⟨g,cap,_,hv,_⟩
   ·omega
   ·exact⟨g,cap,trivial,hv,trivial⟩
  subst hv;obtain⟨b6,d6,e6,hd6,hm6,mh⟩:=nc.at_ bI.len;obtain⟨rfl,rfl⟩:some ⟨g,0,none⟩=b6/\p6=d6:=by simpa using e6
  have gh:w1.heap.size<=w5.heap.size:=HS5.out;obtain⟨W7,hW7⟩:=exq w6.drew;have g67:Grows w6 W7:=by rw[hW7];exact Grows.drew w6
  have cv1:∀x:Ext Grows W7,(convert 36 9 (.slice a3 IM.length c3)).run Tryz.prog x.u=.ok (.string (mkB IM)) x.u:=λx=>mH (H6.out.grows (g67.tr x.h));have cv2:∀x:Ext Grows W7,(convert 36 9 (.slice (some ⟨g,0,none⟩) IM.length p6)).run Tryz.prog x.u=.ok (.string (mkB IM)) x.u:=λx=>mH (mh.grows (g67.tr x.h));generalize mkB IM=q at cv1 cv2;have z0:∀y:Ext Grows W7,y.u.cell? ⟨w.heap.size,0,none⟩=some (.slice pa xp.length pc):=aB (g67.cell q6);have k7:=k6.tr g67;have HV7:=Aa (nc.grows g67);have HK7:=Aa k7;clear mh nc e6 hc3 hm3 H3 k3d CDL k6 q6 g67;obtain⟨N,hN⟩:=exq IM.length;obtain⟨i,hi⟩:=exq (ix%N);have hiN:i<N:=by rw[hi];exact Nat.mod_lt _ (by omega)
  rw[<-hN]at hf9 ql cv1 cv2 hd6;obtain⟨x,hx⟩:∃x,IM[i]?=some x:=⟨_,List.getElem?_eq_getElem (by omega)⟩;obtain⟨y,hy⟩:=exq (UInt8.ofNat (x.toNat ^^^ ch));have hxl:x.toNat<256:=x.toNat_lt;have aed:x.toNat ^^^ ch<256:=Nat.xor_lt_two_pow (n:=8) hxl kw;have ya:y.toNat=x.toNat ^^^ ch:=by rw[hy];exact Nat.mod_eq_of_lt aed
  obtain⟨ff,ui,dw⟩:=eC (f:=λx:UInt8=>Value.int .u8 x.toNat) HV7.out (k:=i) (by omega) y;have n7:=cU (f:=λx:UInt8=>Value.int .u8 x.toNat) HV7.out hx;have ajo:bits .xor .u8 (x.toNat:Int) (ch:Int)=(y.toNat:Int):=by rw[ya];exact vK0 x.toNat ch hxl kw
  have HSET:=Aa (And.intro dw (And.intro (Grows.set k7 (p:=⟨g,i,none⟩) (Nat.le_trans gh ui) (.int .u8 y.toNat)) hm6));have wat:IntKind.i64.wrap (ix:Int)=ix:=cT (by omega);have ajp:Int.tmod (ix:Int) N=i:=by rw[hi];exact(Int.ofNat_tmod ix N).symm
  have hN0:¬(N:Int)=0:=by omega
  have ajq:(i:Int)<N:=by omega
  rw[<-hN];have HNN:=Aa hN;have HX:=Aa (And.intro hx (And.intro ya hy));have HW7:=Aa hW7;rw[hW7]at z0 cv1 cv2 n7 ff;have HFC:=Aa (And.intro n7 ff);clear hN dw hx hi n7 ff ya hy hW7 aed;go_wp2_with fail
  refine bE (aU 17 []) (by kernel_rfl) (λd _ _ _ _ h=>by cases d<;>exact h) ?_
  iterate 11 (refine aG rfl (λK hK=>?_);go_simp;refine hK _ ?_;clear hK K)
  refine aG rfl (λK hK=>?_);go_simp;apply Exists.intro
  refine⟨λx=>?_,hK _ ?_⟩
  ·go_at_call 15;exact aY (CDS _ (k7.tr (by rw[HW7.out];exact x.h))).out
  clear hK K;iterate 5 (refine aG rfl (λK hK=>?_);go_simp;refine hK _ ?_;clear hK K)
  refine bH ?_;clear cv1 cv2 z0 CDS;obtain⟨n7,ff⟩:=HFC.out;rw[<-HW7.out]at n7 ff ⊢;go_wp2_with fail
  clear n7 ff ajo wat ajp hN0 ajq gh ui k7;obtain⟨W8,hW8⟩:=exq (W7.setCell ⟨g,i,none⟩ (.int .u8 y.toNat));rw[<-hW8]at HSET ⊢;clear hW8;obtain⟨b8,d8,e8,hd8,_,gn⟩:=HSET.out.1.at_ bI.len;obtain⟨rfl,rfl⟩:some ⟨g,0,none⟩=b8/\p6=d8:=by simp only[Value.slice.injEq]at e8;exact⟨e8.1,e8.2.2⟩
  rw[Ab]at hd8;have G8:=HSET.out.2.1;have hm8:=HSET.out.2.2;obtain⟨hx,ya,_⟩:=HX.out;by_cases qh:ch=0
  ·have hyx:y=x:=UInt8.toNat_inj.1 (by rw[ya,qh,Nat.xor_zero])
   have abz:IM.set i y=IM:=by rw[hyx];exact hH1 hx
   rw[abz]at gn;have CO8:=CO (some ⟨g,0,none⟩) p6 W8 G8 hd8 hm8 (λh=>by cases h) gn;rw[<-HNN.out]at CO8;have uk:((ch:Int)==0)=true:=by simp[qh]
   have HG8:=Aa G8;clear hyx abz gn hd8 hm8 G8 hx ya CO e8 qh;refine CO8.out.mono ?_;rintro e w9 ⟨dz,dx,rfl,_,_,_⟩;go_wp2_with fail
   refine(CW w9 (g1.tr (HG8.out.tr dz))).out.mono ?_;rintro e z1 ⟨rfl,hgz⟩;go_wp2_with fail
   go_ret;exact⟨rfl,(g1.tr (HG8.out.tr dz)).tr hgz⟩
  ·have hyx:y≠x:=λe=>qh (by
    rw[e]at ya;have h1:x.toNat ^^^ (x.toNat ^^^ ch)=0:=by rw[<-ya,Ac]
    rwa [<-Nat.xor_assoc,Ac,Nat.zero_xor]at h1)
   have cz:=iU1 (by rw[<-HNN.out];exact hf9) HFS.out HF4.out hx hyx;have CO8:=Aa (uE (IM.set i y) (some ⟨g,0,none⟩) p6 W8 (HE1.out.grows G8) (by rw[Ab,<-HNN.out];exact ql) (by rw[Ab];exact hd8) hm8 (λh=>by cases h) gn cz);rw[Ab,<-HNN.out]at CO8;have uk:((ch:Int)==0)=false:=by rw[beq_eq_false_iff_ne];omega
   have HG8:=Aa G8;clear hyx gn hd8 hm8 G8 hx ya CO e8 qh cz;refine CO8.out.mono ?_;rintro e w9 ⟨rfl,dz⟩;go_wp2_with fail
   refine(CW w9 (g1.tr (HG8.out.tr dz))).out.mono ?_;rintro e z1 ⟨rfl,hgz⟩;go_wp2_with fail
   go_ret;exact⟨rfl,(g1.tr (HG8.out.tr dz)).tr hgz⟩
end Go.Proofs.YtheiocndipepaaaGreatDoor
