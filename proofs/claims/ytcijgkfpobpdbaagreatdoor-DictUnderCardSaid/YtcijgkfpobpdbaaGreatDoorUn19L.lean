import Derived.Test.YtcijgkfpobpdbaaGreatDoorBq49
open Go.Lib renaming hid → Aa
set_option maxHeartbeats 8000000
namespace Go.Proofs.YtcijgkfpobpdbaaGreatDoor
set_option maxRecDepth 100000
open Go Go.RowKit Go.Shelf
attribute [local go_sem] aQ aM
theorem nG0 (x:yZ) (A:nM) (s:ByteArray) (n:Int) (w:World) (he:Env w) (ag:tG x) (hs:s.size<=140737488355328) (ac:oZ w A x) :
  Calls Tryz.prog 4 #[A.agg x,.string s,.int .i64 n] w λe w'=>e=.returned (.bool true)/\Grows w w':=by
 have HE:=Aa he;have CW:=λW (h:Grows w W)=>Aa (oM W (HE.out.grows h));obtain⟨pa,pc,sa,sc,ea,ec⟩:=A;obtain⟨xp,xd,xs,xe⟩:=x;obtain⟨W0,bh⟩:=exq (w.alloc (.cells #[.slice pa xp.length pc,.int .i64 xd,.slice sa xs.length sc,.slice ea xe.length ec] 26));have cd:Grows w W0:=by rw[bh];exact Grows.alloc _ _
 obtain⟨bc,_⟩:=bJ (show Grows (w.alloc (.cells #[.slice pa xp.length pc,.int .i64 xd,.slice sa xs.length sc,.slice ea xe.length ec] 26)) W0 by rw[bh];exact Grows.refl _)
 have q0:=bc 0 _ rfl;have q1:=bc 1 _ rfl;have q2:=bc 2 _ rfl;have q3:=bc 3 _ rfl;have CO:=Aa (yJ ⟨xp,xd,xs,xe⟩ ⟨pa,pc,sa,sc,ea,ec⟩ W0 (he.grows cd) ag (ac.grows cd));unfold nM.agg nM.cells at CO;simp only at CO;show Calls _ _ #[.agg #[.slice pa xp.length pc,.int .i64 xd,.slice sa xs.length sc,.slice ea xe.length ec],.string s,.int .i64 n] _ _
 clear he ag ac bc;go_enter Tryz.func4,Tryz.ntmps4
 go_wp2_with fail
 rw[<-bh];clear bh;refine CO.out.mono ?_;rintro e w1 ⟨ah,dv,a0,n0,c0,q,a2,n2,c2,rfl,hdv⟩;have g1:=cd.tr ah;clear CO q0 q1 q2 q3;rcases hdv with rfl|⟨db,m,rfl,ff⟩
 ·go_wp2_with fail
  refine(CW _ (g1.al _)).out.mono ?_;rintro e w2 ⟨rfl,af⟩;go_wp2_with fail
  go_ret;exact⟨rfl,(g1.al _).tr af⟩
 ·have HDK:=Aa (show cH xp m (sortS xe) from lB ff.made)
  have HD:=Aa (show cO w1 db xp m (sortS xe) from ff.d)
  obtain⟨eu,fj,rb,a',c',x0,x1,x2,lx,ql,tf⟩:=ff.r;obtain⟨rfl,rfl,rfl⟩:eu=a0/\xp.length=n0/\fj=c0:=(by cases x0;exact⟨rfl,rfl,rfl⟩);obtain rfl:some ⟨rb,0,none⟩=q:=(by cases x1;rfl);obtain⟨rfl,rfl,rfl⟩:a'=a2/\(sortS xe).length=n2/\c'=c2:=(by cases x2;exact⟨rfl,rfl,rfl⟩);have HP3:Hid (aF w1 eu 2 (xp.map bE)):=lx;have HR3:Hid (jK w1 rb m):=ql;have HE3:Hid (aF w1 a' 5 ((sortS xe).map aJ)):=tf;clear x0 x1 x2 lx ql tf ff cd ah;generalize sortS xe=es at HDK HD HE3 ⊢;have ou:=HDK.out.len;have ml:=(dJ (dY HDK.out.chk).2.2.1).1;obtain⟨V1,jo⟩:=exq (w1.alloc (.cells #[.slice eu xp.length fj,.pointer (some ⟨rb,0,none⟩),.slice a' es.length c'] 31));have ru:Grows w1 V1:=by rw[jo];exact Grows.alloc _ _
  have bx:=λj u h=>aT w1 #[.slice eu xp.length fj,.pointer (some ⟨rb,0,none⟩),.slice a' es.length c'] 31 (0,0) j u h;rw[<-jo]at bx;obtain⟨b5,gp⟩:=exq w1.heap.size;rw[<-gp]at bx;have y0:∀y:Ext Grows V1.drew,y.u.cell? ⟨b5,0,none⟩=some (.slice eu xp.length fj):=aB ((Grows.drew V1).cell (bx 0 _ rfl));have y1:∀y:Ext Grows V1.drew,y.u.cell? ⟨b5,1,none⟩=some (.pointer (some ⟨rb,0,none⟩)):=aB ((Grows.drew V1).cell (bx 1 _ rfl));have y2:∀y:Ext Grows V1.drew,y.u.cell? ⟨b5,2,none⟩=some (.slice a' es.length c'):=aB ((Grows.drew V1).cell (bx 2 _ rfl));have gV:=g1.tr ru;have CSM:=λ(l:List En) (a b:Option Addr) (c d:Nat) (u:World) hl h1 h2=>Aa (tU l a b c d u hl h1 h2);have CD1:=λ(u:World) (hu:Grows w1 u)=>Aa (dF0 xp m es db s n u HDK.out hs (HD.out.grows hu));have CR1:=λ(u:World) (hu:Grows w1 u)=>Aa (uS0 es a' c' (.slice eu xp.length fj) (.pointer (some ⟨rb,0,none⟩)) s n u ou hs (λy hy=>by have:=HDK.out.len_r y hy;omega) (HE3.out.grows hu))
  have kp:(underL es s n).length<=140737488355328:=by
   have:(underL es s n).length<=es.length:=Nat.le_trans (List.length_take_le' _ _) (List.length_filter_le _ _)
   omega
  generalize underL es s n=X1 at CD1 CR1 kp;have HB:=Aa (And.intro ((Grows.drew V1).cell (bx 0 _ rfl)) (And.intro ((Grows.drew V1).cell (bx 1 _ rfl)) ((Grows.drew V1).cell (bx 2 _ rfl))));clear bx HDK;go_wp2_with fail
  rw[<-jo,<-gp];clear jo gp;have G0:=Aa (ru.dr);have H0:=Aa (gV.dr);refine bF (lK [0,1,2,4,5,6,3,7,8,9,10,11,12] [3,7,8,10]) (by kernel_rfl) (λd _ _ _ _ h=>by cases d<;>exact h) ?_
  iterate 6 (refine aG rfl (λK hK=>?_);go_simp;refine hK _ ?_;clear hK K)
  refine aY rfl rfl (λK hK=>?_);go_simp;refine((CD1 V1.drew G0.out).out).mono ?_;rintro e w3 ⟨v3,rfl,j5,ax⟩;refine⟨ax,hK _ _ ?_⟩;clear hK K;obtain⟨a3,c3,rfl,_,_,ei⟩:=j5.at_ dR.len;have k3:=Grows.tr (G0.out) ax;refine aY rfl rfl (λK hK=>?_);go_simp;refine((CR1 w3 k3).out).mono ?_;rintro e w4 ⟨v4,rfl,mc,bu⟩;refine⟨bu,hK _ _ ?_⟩;clear hK K;obtain⟨a4,c4,rfl,_,_,ig⟩:=mc.at_ dR.len;have k4:=k3.tr bu;have CS3:=CSM _ a3 a4 c3 c4 w4 (kp) (ei.grows bu) ig;clear j5 mc ei ig;refine aY rfl rfl (λK hK=>?_);go_simp;refine(CS3.out).mono ?_;rintro e w5 ⟨rfl,bg⟩;refine⟨bg,hK _ _ ?_⟩;clear hK K;have k5:=k4.tr bg;clear y0 y1 y2 CD1 CR1;iterate 1 (refine aG rfl (λK hK=>?_);go_simp;refine hK _ ?_;clear hK K)
  refine aY rfl rfl (λK hK=>?_);go_simp;refine((CW w5 (g1.tr k5)).out).mono ?_;rintro e z1 ⟨rfl,zp⟩;refine⟨zp,hK _ _ ?_⟩;clear hK K;iterate 2 (refine aG rfl (λK hK=>?_);go_simp;refine hK _ ?_;clear hK K)
  refine bH ?_;have GF:=(g1.tr k5).tr zp;clear CW CSM;go_wp2_with fail
  go_ret;exact⟨rfl,GF⟩
end Go.Proofs.YtcijgkfpobpdbaaGreatDoor
