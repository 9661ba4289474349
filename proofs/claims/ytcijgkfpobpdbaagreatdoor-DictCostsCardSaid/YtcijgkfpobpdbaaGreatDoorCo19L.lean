import Derived.Test.YtcijgkfpobpdbaaGreatDoorBq49
open Go.Lib renaming hid → Aa
set_option maxHeartbeats 8000000
namespace Go.Proofs.YtcijgkfpobpdbaaGreatDoor
set_option maxRecDepth 100000
open Go Go.RowKit Go.Shelf
attribute [local go_sem] aQ aM
theorem mN0 (x:yZ) (A:nM) (r l:Int) (w:World) (he:Env w) (ag:tG x) (ac:oZ w A x) :
  Calls Tryz.prog 11 #[A.agg x,.int .i64 r,.int .i64 l] w λe w'=>e=.returned (.bool true)/\Grows w w':=by
 have HE:=Aa he;have CW:=λW (h:Grows w W)=>Aa (oM W (HE.out.grows h));obtain⟨pa,pc,sa,sc,ea,ec⟩:=A;obtain⟨xp,xd,xs,xe⟩:=x;obtain⟨W0,bh⟩:=exq (w.alloc (.cells #[.slice pa xp.length pc,.int .i64 xd,.slice sa xs.length sc,.slice ea xe.length ec] 26));have cd:Grows w W0:=by rw[bh];exact Grows.alloc _ _
 obtain⟨bc,_⟩:=bJ (show Grows (w.alloc (.cells #[.slice pa xp.length pc,.int .i64 xd,.slice sa xs.length sc,.slice ea xe.length ec] 26)) W0 by rw[bh];exact Grows.refl _)
 have q0:=bc 0 _ rfl;have q1:=bc 1 _ rfl;have q2:=bc 2 _ rfl;have q3:=bc 3 _ rfl;have CO:=Aa (yJ ⟨xp,xd,xs,xe⟩ ⟨pa,pc,sa,sc,ea,ec⟩ W0 (he.grows cd) ag (ac.grows cd));unfold nM.agg nM.cells at CO;simp only at CO;show Calls _ _ #[.agg #[.slice pa xp.length pc,.int .i64 xd,.slice sa xs.length sc,.slice ea xe.length ec],.int .i64 r,.int .i64 l] _ _
 clear he ag ac bc;go_enter Tryz.func11,Tryz.ntmps11
 go_wp2_with fail
 rw[<-bh];clear bh;refine CO.out.mono ?_;rintro e w1 ⟨ah,dv,a0,n0,c0,q,a2,n2,c2,rfl,hdv⟩;have g1:=cd.tr ah;clear CO q0 q1 q2 q3;rcases hdv with rfl|⟨db,m,rfl,ff⟩
 ·go_wp2_with fail
  refine(CW _ (g1.al _)).out.mono ?_;rintro e w2 ⟨rfl,af⟩;go_wp2_with fail
  go_ret;exact⟨rfl,(g1.al _).tr af⟩
 ·have HDK:=Aa (show cH xp m (sortS xe) from lB ff.made)
  have HD:=Aa (show cO w1 db xp m (sortS xe) from ff.d)
  obtain⟨eu,fj,rb,a',c',x0,x1,x2,lx,ql,tf⟩:=ff.r;obtain⟨rfl,rfl,rfl⟩:eu=a0/\xp.length=n0/\fj=c0:=(by cases x0;exact⟨rfl,rfl,rfl⟩);obtain rfl:some ⟨rb,0,none⟩=q:=(by cases x1;rfl);obtain⟨rfl,rfl,rfl⟩:a'=a2/\(sortS xe).length=n2/\c'=c2:=(by cases x2;exact⟨rfl,rfl,rfl⟩);have HP3:Hid (aF w1 eu 2 (xp.map bE)):=lx;have HR3:Hid (jK w1 rb m):=ql;have HE3:Hid (aF w1 a' 5 ((sortS xe).map aJ)):=tf;clear x0 x1 x2 lx ql tf ff cd ah;generalize sortS xe=es at HDK HD HE3 ⊢;have ou:=HDK.out.len;have ml:=(dJ (dY HDK.out.chk).2.2.1).1;obtain⟨V1,jo⟩:=exq (w1.alloc (.cells #[.slice eu xp.length fj,.pointer (some ⟨rb,0,none⟩),.slice a' es.length c'] 31));have ru:Grows w1 V1:=by rw[jo];exact Grows.alloc _ _
  have bx:=λj u h=>aT w1 #[.slice eu xp.length fj,.pointer (some ⟨rb,0,none⟩),.slice a' es.length c'] 31 (0,0) j u h;rw[<-jo]at bx;obtain⟨b5,gp⟩:=exq w1.heap.size;rw[<-gp]at bx;have y0:∀y:Ext Grows V1.drew,y.u.cell? ⟨b5,0,none⟩=some (.slice eu xp.length fj):=aB ((Grows.drew V1).cell (bx 0 _ rfl));have y1:∀y:Ext Grows V1.drew,y.u.cell? ⟨b5,1,none⟩=some (.pointer (some ⟨rb,0,none⟩)):=aB ((Grows.drew V1).cell (bx 1 _ rfl));have y2:∀y:Ext Grows V1.drew,y.u.cell? ⟨b5,2,none⟩=some (.slice a' es.length c'):=aB ((Grows.drew V1).cell (bx 2 _ rfl));have gV:=g1.tr ru;have CSM:=λ(l:List En) (a b:Option Addr) (c d:Nat) (u:World) hl h1 h2=>Aa (tU l a b c d u hl h1 h2);have CD1:=λ(u:World) (hu:Grows w1 u)=>Aa (iQ0 xp m es db r l u (HD.out.grows hu));have CD2:=λ(u:World) (hu:Grows w1 u)=>Aa (jN0 xp m es db r u (HD.out.grows hu));have CD3:=λ(u:World) (hu:Grows w1 u)=>Aa (jN0 xp m es db l u (HD.out.grows hu));have CD4:=λ(u:World) (hu:Grows w1 u)=>Aa (wZ0 xp m es db u (HD.out.grows hu));have CR1:=λ(u:World) (hu:Grows w1 u)=>Aa (oX0 rb m (.slice eu xp.length fj) (.slice a' es.length c') r l u (HR3.out.grows hu));have CR2:=λ(u:World) (hu:Grows w1 u)=>Aa (bM0 xp eu fj (.pointer (some ⟨rb,0,none⟩)) (.slice a' es.length c') r u (by omega) (HP3.out.grows hu));have CR3:=λ(u:World) (hu:Grows w1 u)=>Aa (bM0 xp eu fj (.pointer (some ⟨rb,0,none⟩)) (.slice a' es.length c') l u (by omega) (HP3.out.grows hu));generalize m.cost (r,l)=X1 at CD1 CR1;generalize kindP xp r=X2 at CD2 CR2;generalize kindP xp l=X3 at CD3 CR3;have HB:=Aa (And.intro ((Grows.drew V1).cell (bx 0 _ rfl)) (And.intro ((Grows.drew V1).cell (bx 1 _ rfl)) ((Grows.drew V1).cell (bx 2 _ rfl))));clear bx HDK CSM;go_wp2_with fail
  rw[<-jo,<-gp];clear jo gp;have G0:=Aa (ru.dr);have H0:=Aa (gV.dr);refine bF (aV 39 [7,15,24,36]) (by kernel_rfl) (λd _ _ _ _ h=>by cases d<;>exact h) ?_
  iterate 3 (refine aG rfl (λK hK=>?_);go_simp;refine hK _ ?_;clear hK K)
  refine aG rfl (λK hK=>?_);go_simp;apply Exists.intro
  refine⟨λx=>?_,hK _ ?_⟩
  ·go_at_call 38;exact bT (CD1 _ (Grows.tr (G0.out) x.h)).out
  clear hK K;iterate 3 (refine aG rfl (λK hK=>?_);go_simp;refine hK _ ?_;clear hK K)
  clear y0 y1 y2 CD1;refine aY rfl rfl (λK hK=>?_);go_simp;refine((CR1 V1.drew (G0.out)).out).mono ?_;rintro e w3 ⟨rfl,gm⟩;refine⟨gm,hK _ _ ?_⟩;clear hK K;have kw3:=Grows.tr (G0.out) gm;clear CR1;have y0:∀y:Ext Grows w3,y.u.cell? ⟨b5,0,none⟩=some (.slice eu xp.length fj):=aB (gm.cell HB.out.1);have y1:∀y:Ext Grows w3,y.u.cell? ⟨b5,1,none⟩=some (.pointer (some ⟨rb,0,none⟩)):=aB (gm.cell HB.out.2.1);have y2:∀y:Ext Grows w3,y.u.cell? ⟨b5,2,none⟩=some (.slice a' es.length c'):=aB (gm.cell HB.out.2.2);iterate 4 (refine aG rfl (λK hK=>?_);go_simp;refine hK _ ?_;clear hK K)
  refine aG rfl (λK hK=>?_);go_simp;apply Exists.intro
  refine⟨λx=>?_,hK _ ?_⟩
  ·go_at_call 40;exact bT (CD2 _ (Grows.tr (kw3) x.h)).out
  clear hK K;iterate 2 (refine aG rfl (λK hK=>?_);go_simp;refine hK _ ?_;clear hK K)
  clear y0 y1 y2 CD2;refine aY rfl rfl (λK hK=>?_);go_simp;refine((CR2 w3 (kw3)).out).mono ?_;rintro e w4 ⟨rfl,cy⟩;refine⟨cy,hK _ _ ?_⟩;clear hK K;have kw4:=Grows.tr (kw3) cy;have kk4:=gm.tr cy;clear CR2;have y0:∀y:Ext Grows w4,y.u.cell? ⟨b5,0,none⟩=some (.slice eu xp.length fj):=aB (kk4.cell HB.out.1);have y1:∀y:Ext Grows w4,y.u.cell? ⟨b5,1,none⟩=some (.pointer (some ⟨rb,0,none⟩)):=aB (kk4.cell HB.out.2.1);have y2:∀y:Ext Grows w4,y.u.cell? ⟨b5,2,none⟩=some (.slice a' es.length c'):=aB (kk4.cell HB.out.2.2);iterate 5 (refine aG rfl (λK hK=>?_);go_simp;refine hK _ ?_;clear hK K)
  refine aG rfl (λK hK=>?_);go_simp;apply Exists.intro
  refine⟨λx=>?_,hK _ ?_⟩
  ·go_at_call 40;exact bT (CD3 _ (Grows.tr (kw4) x.h)).out
  clear hK K;iterate 2 (refine aG rfl (λK hK=>?_);go_simp;refine hK _ ?_;clear hK K)
  clear y0 y1 y2 CD3;refine aY rfl rfl (λK hK=>?_);go_simp;refine((CR3 w4 (kw4)).out).mono ?_;rintro e w5 ⟨rfl,di⟩;refine⟨di,hK _ _ ?_⟩;clear hK K;have kw5:=Grows.tr (kw4) di;have kk5:=kk4.tr di;clear CR3;have y0:∀y:Ext Grows w5,y.u.cell? ⟨b5,0,none⟩=some (.slice eu xp.length fj):=aB (kk5.cell HB.out.1);have y1:∀y:Ext Grows w5,y.u.cell? ⟨b5,1,none⟩=some (.pointer (some ⟨rb,0,none⟩)):=aB (kk5.cell HB.out.2.1);have y2:∀y:Ext Grows w5,y.u.cell? ⟨b5,2,none⟩=some (.slice a' es.length c'):=aB (kk5.cell HB.out.2.2);iterate 4 (refine aG rfl (λK hK=>?_);go_simp;refine hK _ ?_;clear hK K)
  refine aG rfl (λK hK=>?_);go_simp;apply Exists.intro
  refine⟨λx=>?_,hK _ ?_⟩
  ·go_at_call 25;exact bT (CD4 _ (Grows.tr (kw5) x.h)).out
  clear hK K;iterate 6 (refine aG rfl (λK hK=>?_);go_simp;refine hK _ ?_;clear hK K)
  clear y0 y1 y2 CD4;refine aY rfl rfl (λK hK=>?_);go_simp;refine((CW w5 (g1.tr kw5)).out).mono ?_;rintro e z1 ⟨rfl,zp⟩;refine⟨zp,hK _ _ ?_⟩;clear hK K;iterate 2 (refine aG rfl (λK hK=>?_);go_simp;refine hK _ ?_;clear hK K)
  refine bH ?_;have GF:=(g1.tr kw5).tr zp;clear CW;go_wp2_with fail
  go_ret;exact⟨rfl,GF⟩
end Go.Proofs.YtcijgkfpobpdbaaGreatDoor
