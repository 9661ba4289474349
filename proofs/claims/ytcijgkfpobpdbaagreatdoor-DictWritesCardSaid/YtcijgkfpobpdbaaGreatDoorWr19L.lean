import Derived.Test.YtcijgkfpobpdbaaGreatDoorBq49
open Go.Lib renaming hid → Aa
open List renaming length_filter_le → Ab
set_option maxHeartbeats 8000000
namespace Go.Proofs.YtcijgkfpobpdbaaGreatDoor
set_option maxRecDepth 100000
open Go Go.RowKit Go.Shelf
attribute [local go_sem] aQ aM
theorem kS0 {α β:Type} {f:α->List β} {n:Nat} (h:∀x,(f x).length<=n):∀l:List α,(l.flatMap f).length<=l.length*n
 | []=>by simp
 | a::l=>by
  have h1:=h a;have h2:=kS0 h l;rw[List.flatMap_cons,List.length_append,List.length_cons,Nat.add_mul];omega
theorem fJ1 (es:List En) (s:ByteArray):(writesL es s).length<=257*es.length:=by
 refine Nat.le_trans (kS0 (λn=>Ab _ _) _) (Nat.mul_le_mul_right _ ?_);rw[List.length_range];omega
theorem lE0 (x:yZ) (A:nM) (s:ByteArray) (w:World) (he:Env w) (ag:tG x) (hs:s.size<=140737488355328) (ac:oZ w A x) :
  Calls Tryz.prog 7 #[A.agg x,.string s] w λe w'=>e=.returned (.bool true)/\Grows w w':=by
 have HE:=Aa he;have CW:=λW (h:Grows w W)=>Aa (oM W (HE.out.grows h));obtain⟨pa,pc,sa,sc,ea,ec⟩:=A;obtain⟨xp,xd,xs,xe⟩:=x;obtain⟨W0,bh⟩:=exq (w.alloc (.cells #[.slice pa xp.length pc,.int .i64 xd,.slice sa xs.length sc,.slice ea xe.length ec] 26));have cd:Grows w W0:=by rw[bh];exact Grows.alloc _ _
 obtain⟨bc,_⟩:=bJ (show Grows (w.alloc (.cells #[.slice pa xp.length pc,.int .i64 xd,.slice sa xs.length sc,.slice ea xe.length ec] 26)) W0 by rw[bh];exact Grows.refl _)
 have q0:=bc 0 _ rfl;have q1:=bc 1 _ rfl;have q2:=bc 2 _ rfl;have q3:=bc 3 _ rfl;have CO:=Aa (yJ ⟨xp,xd,xs,xe⟩ ⟨pa,pc,sa,sc,ea,ec⟩ W0 (he.grows cd) ag (ac.grows cd));unfold nM.agg nM.cells at CO;simp only at CO;show Calls _ _ #[.agg #[.slice pa xp.length pc,.int .i64 xd,.slice sa xs.length sc,.slice ea xe.length ec],.string s] _ _
 clear he ag ac bc;go_enter Tryz.func7,Tryz.ntmps7
 go_wp2_with fail
 rw[<-bh];clear bh;refine CO.out.mono ?_;rintro e w1 ⟨ah,dv,a0,n0,c0,q,a2,n2,c2,rfl,hdv⟩;have g1:=cd.tr ah;clear CO q0 q1 q2 q3;rcases hdv with rfl|⟨db,m,rfl,ff⟩
 ·go_wp2_with fail
  refine(CW _ (g1.al _)).out.mono ?_;rintro e w2 ⟨rfl,af⟩;go_wp2_with fail
  go_ret;exact⟨rfl,(g1.al _).tr af⟩
 ·have HDK:=Aa (show cH xp m (sortS xe) from lB ff.made)
  have HD:=Aa (show cO w1 db xp m (sortS xe) from ff.d)
  obtain⟨eu,fj,rb,a',c',x0,x1,x2,lx,ql,tf⟩:=ff.r;obtain⟨rfl,rfl,rfl⟩:eu=a0/\xp.length=n0/\fj=c0:=(by cases x0;exact⟨rfl,rfl,rfl⟩);obtain rfl:some ⟨rb,0,none⟩=q:=(by cases x1;rfl);obtain⟨rfl,rfl,rfl⟩:a'=a2/\(sortS xe).length=n2/\c'=c2:=(by cases x2;exact⟨rfl,rfl,rfl⟩);have HP3:Hid (aF w1 eu 2 (xp.map bE)):=lx;have HR3:Hid (jK w1 rb m):=ql;have HE3:Hid (aF w1 a' 5 ((sortS xe).map aJ)):=tf;clear x0 x1 x2 lx ql tf ff cd ah;generalize sortS xe=es at HDK HD HE3 ⊢;have ou:=HDK.out.len;have ml:=(dJ (dY HDK.out.chk).2.2.1).1;obtain⟨V1,jo⟩:=exq (w1.alloc (.cells #[.slice eu xp.length fj,.pointer (some ⟨rb,0,none⟩),.slice a' es.length c'] 31));have ru:Grows w1 V1:=by rw[jo];exact Grows.alloc _ _
  have bx:=λj u h=>aT w1 #[.slice eu xp.length fj,.pointer (some ⟨rb,0,none⟩),.slice a' es.length c'] 31 (0,0) j u h;rw[<-jo]at bx;obtain⟨b5,gp⟩:=exq w1.heap.size;rw[<-gp]at bx;have y0:∀y:Ext Grows V1.drew,y.u.cell? ⟨b5,0,none⟩=some (.slice eu xp.length fj):=aB ((Grows.drew V1).cell (bx 0 _ rfl));have y1:∀y:Ext Grows V1.drew,y.u.cell? ⟨b5,1,none⟩=some (.pointer (some ⟨rb,0,none⟩)):=aB ((Grows.drew V1).cell (bx 1 _ rfl));have y2:∀y:Ext Grows V1.drew,y.u.cell? ⟨b5,2,none⟩=some (.slice a' es.length c'):=aB ((Grows.drew V1).cell (bx 2 _ rfl));have gV:=g1.tr ru;have CSM:=λ(l:List En) (a b:Option Addr) (c d:Nat) (u:World) hl h1 h2=>Aa (tU l a b c d u hl h1 h2);have CD1:=λ(u:World) (hu:Grows w1 u)=>Aa (iQ1 xp m es db s u HDK.out hs (HD.out.grows hu));have CD2:=λ(u:World) (hu:Grows w1 u)=>Aa (bC0 xp m es db s u HDK.out hs (HD.out.grows hu));have CR1:=λ(u:World) (hu:Grows w1 u)=>Aa (lJ0 es a' c' (.slice eu xp.length fj) (.pointer (some ⟨rb,0,none⟩)) s u (by omega) (HE3.out.grows hu));have CR2:=λ(u:World) (hu:Grows w1 u)=>Aa (pA0 es a' c' (.slice eu xp.length fj) (.pointer (some ⟨rb,0,none⟩)) s u ou hs (HE3.out.grows hu))
  have kp:(ofL es s).length<=140737488355328:=by
   have:(ofL es s).length<=es.length:=Ab _ _
   omega
  have iy:(writesL es s).length<=140737488355328:=by
   have:=fJ1 es s
   omega
  generalize ofL es s=X1 at CD1 CR1 kp;generalize writesL es s=X2 at CD2 CR2 iy;have HB:=Aa (And.intro ((Grows.drew V1).cell (bx 0 _ rfl)) (And.intro ((Grows.drew V1).cell (bx 1 _ rfl)) ((Grows.drew V1).cell (bx 2 _ rfl))));clear bx HDK;go_wp2_with fail
  rw[<-jo,<-gp];clear jo gp;have G0:=Aa (ru.dr);have H0:=Aa (gV.dr);refine bF (lK [0,1,3,4,2,5,6,7,8,9,11,12,10,13,14,15,16,17,18,19] [2,5,6,10,13,14,17]) (by kernel_rfl) (λd _ _ _ _ h=>by cases d<;>exact h) ?_
  iterate 4 (refine aG rfl (λK hK=>?_);go_simp;refine hK _ ?_;clear hK K)
  clear y0 y1 y2;refine aY rfl rfl (λK hK=>?_);go_simp;refine((CD1 V1.drew G0.out).out).mono ?_;rintro e w3 ⟨v3,rfl,j5,ax⟩;refine⟨ax,hK _ _ ?_⟩;clear hK K;obtain⟨a3,c3,rfl,_,_,ei⟩:=j5.at_ dR.len;have k3:=Grows.tr (G0.out) ax;refine aY rfl rfl (λK hK=>?_);go_simp;refine((CR1 w3 k3).out).mono ?_;rintro e w4 ⟨v4,rfl,mc,bu⟩;refine⟨bu,hK _ _ ?_⟩;clear hK K;obtain⟨a4,c4,rfl,_,_,ig⟩:=mc.at_ dR.len;have k4:=k3.tr bu;have CS3:=CSM _ a3 a4 c3 c4 w4 (kp) (ei.grows bu) ig;clear j5 mc ei ig;refine aY rfl rfl (λK hK=>?_);go_simp;refine(CS3.out).mono ?_;rintro e w5 ⟨rfl,bg⟩;refine⟨bg,hK _ _ ?_⟩;clear hK K;have k5:=k4.tr bg;have kk:=ax.tr (bu.tr bg);have y0:∀y:Ext Grows w5,y.u.cell? ⟨b5,0,none⟩=some (.slice eu xp.length fj):=aB (kk.cell HB.out.1);have y1:∀y:Ext Grows w5,y.u.cell? ⟨b5,1,none⟩=some (.pointer (some ⟨rb,0,none⟩)):=aB (kk.cell HB.out.2.1);have y2:∀y:Ext Grows w5,y.u.cell? ⟨b5,2,none⟩=some (.slice a' es.length c'):=aB (kk.cell HB.out.2.2);clear CD1 CR1;iterate 5 (refine aG rfl (λK hK=>?_);go_simp;refine hK _ ?_;clear hK K)
  clear y0 y1 y2;refine aY rfl rfl (λK hK=>?_);go_simp;refine((CD2 w5 k5).out).mono ?_;rintro e w6 ⟨v6,rfl,um,cp⟩;refine⟨cp,hK _ _ ?_⟩;clear hK K;obtain⟨a6,c6,rfl,_,_,pz⟩:=um.at_ dR.len;have k6:=Grows.tr (k5) cp;refine aY rfl rfl (λK hK=>?_);go_simp;refine((CR2 w6 k6).out).mono ?_;rintro e w7 ⟨v7,rfl,hv7,cu⟩;refine⟨cu,hK _ _ ?_⟩;clear hK K;obtain⟨a7,c7,rfl,_,_,q9⟩:=hv7.at_ dR.len;have k7:=k6.tr cu;have CS6:=CSM _ a6 a7 c6 c7 w7 (iy) (pz.grows cu) q9;clear um hv7 pz q9;refine aY rfl rfl (λK hK=>?_);go_simp;refine(CS6.out).mono ?_;rintro e w8 ⟨rfl,fy⟩;refine⟨fy,hK _ _ ?_⟩;clear hK K;have k8:=k7.tr fy;clear CD2 CR2;iterate 2 (refine aG rfl (λK hK=>?_);go_simp;refine hK _ ?_;clear hK K)
  refine aY rfl rfl (λK hK=>?_);go_simp;refine((CW w8 (g1.tr k8)).out).mono ?_;rintro e z1 ⟨rfl,zp⟩;refine⟨zp,hK _ _ ?_⟩;clear hK K;iterate 2 (refine aG rfl (λK hK=>?_);go_simp;refine hK _ ?_;clear hK K)
  refine bH ?_;have GF:=(g1.tr k8).tr zp;clear CW CSM;go_wp2_with fail
  go_ret;exact⟨rfl,GF⟩
end Go.Proofs.YtcijgkfpobpdbaaGreatDoor
