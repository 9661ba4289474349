import Derived.Test.YtheiocndipepaaaGreatDoorKq47
import Derived.Test.YtheiocndipepaaaGreatDoorKq40
import Derived.Test.YtheiocndipepaaaGreatDoorKq16
open Go.Lib renaming hid → Aa
open List renaming getElem?_eq_getElem → Ab,length_filter_le → Ac,length_range → Ag
open Nat renaming mul_le_mul_right → Ad,le_refl → Ae,le_trans → Af
set_option maxHeartbeats 8000000
namespace Go.Proofs.YtheiocndipepaaaGreatDoor
set_option maxRecDepth 100000
open Go Go.RowKit Go.Shelf
attribute [local go_sem] aM aK
theorem gX1 {x y:En} (hb:lessS x y=true) (W:World):Calls Tryz.prog 26 #[x.agg,y.agg] W λe w'=>e=.returned (.bool true)/\Grows W w':=hb▸gQ1 x y W
theorem aA0 {α β:Type} {f:α->List β} {n:Nat} (h:∀x,(f x).length<=n):∀l:List α,(l.flatMap f).length<=l.length*n
 | []=>by simp
 | a::l=>by
  have h1:=h a;have h2:=aA0 h l;rw[List.flatMap_cons,List.length_append,List.length_cons,Nat.add_mul];omega
theorem iF0 (es:List En) (s:ByteArray):(prefL es s).length<=257*es.length:=by
 refine Af (aA0 (λn=>Ac _ _) _) (Ad _ ?_);rw[Ag];omega
theorem hV0 (es:List En) (s:ByteArray):(writesL es s).length<=257*es.length:=by
 refine Af (aA0 (λn=>Ac _ _) _) (Ad _ ?_);rw[Ag];omega
theorem oX0 (x:zB) (A:kQ) (s:ByteArray) (w:World) (he:Env w) (ah:sO x) (hs:s.size<=140737488355328) (ac:mV w A x) :
  Calls Tryz.prog 6 #[A.agg x,.string s] w λe w'=>e=.returned (.bool true)/\Grows w w':=by
 have HE:=Aa he;have CW:=λW (h:Grows w W)=>Aa (lJ W (HE.out.grows h));obtain⟨pa,pc,sa,sc,ea,ec⟩:=A;obtain⟨xp,xd,xs,xe⟩:=x;obtain⟨W0,b9⟩:=exq (w.alloc (.cells #[.slice pa xp.length pc,.int .i64 xd,.slice sa xs.length sc,.slice ea xe.length ec] 26));have cp:Grows w W0:=by rw[b9];exact Grows.alloc _ _
 obtain⟨bc,_⟩:=bK (show Grows (w.alloc (.cells #[.slice pa xp.length pc,.int .i64 xd,.slice sa xs.length sc,.slice ea xe.length ec] 26)) W0 by rw[b9];exact Grows.refl _)
 have q0:=bc 0 _ rfl;have q1:=bc 1 _ rfl;have q2:=bc 2 _ rfl;have q3:=bc 3 _ rfl;have CO:=Aa (zN ⟨xp,xd,xs,xe⟩ ⟨pa,pc,sa,sc,ea,ec⟩ W0 (he.grows cp) ah (ac.grows cp));unfold kQ.agg kQ.cells at CO;simp only at CO;show Calls _ _ #[.agg #[.slice pa xp.length pc,.int .i64 xd,.slice sa xs.length sc,.slice ea xe.length ec],.string s] _ _
 clear he ah ac bc;go_enter Tryz.func6,Tryz.ntmps6
 go_wp2_with fail
 rw[<-b9];clear b9;refine CO.out.mono ?_;rintro e w1 ⟨ag,dv,a0,n0,c0,q,a2,n2,c2,rfl,hdv⟩;have g1:=cp.tr ag;clear CO q0 q1 q2 q3;rcases hdv with rfl|⟨db,m,rfl,ew⟩
 ·go_wp2_with fail
  refine(CW _ (g1.al _)).out.mono ?_;rintro e w2 ⟨rfl,af⟩;go_wp2_with fail
  go_ret;exact⟨rfl,(g1.al _).tr af⟩
 ·have HDK:=Aa (show bP xp m (sortS xe) from mC ew.made)
  have HD:=Aa (show cB w1 db xp m (sortS xe) from ew.d)
  obtain⟨jd,jy,rb,a',c',x0,x1,x2,mo,rr,ut⟩:=ew.r;obtain⟨rfl,rfl,rfl⟩:jd=a0/\xp.length=n0/\jy=c0:=(by cases x0;exact⟨rfl,rfl,rfl⟩);obtain rfl:some ⟨rb,0,none⟩=q:=(by cases x1;rfl);obtain⟨rfl,rfl,rfl⟩:a'=a2/\(sortS xe).length=n2/\c'=c2:=(by cases x2;exact⟨rfl,rfl,rfl⟩);have HP3:Hid (aF w1 jd 2 (xp.map bG)):=mo;have HR3:Hid (jZ w1 rb m):=rr;have HE3:Hid (aF w1 a' 5 ((sortS xe).map aQ)):=ut;clear x0 x1 x2 mo rr ut ew cp ag;generalize sortS xe=es at HDK HD HE3 ⊢;have qo:=HDK.out.len;have m8:=(dN (eE HDK.out.chk).2.2.1).1;obtain⟨V1,jv⟩:=exq (w1.alloc (.cells #[.slice jd xp.length jy,.pointer (some ⟨rb,0,none⟩),.slice a' es.length c'] 32));have km:Grows w1 V1:=by rw[jv];exact Grows.alloc _ _
  have bx:=λj u h=>aT w1 #[.slice jd xp.length jy,.pointer (some ⟨rb,0,none⟩),.slice a' es.length c'] 32 (0,0) j u h;rw[<-jv]at bx;obtain⟨b5,ju⟩:=exq w1.heap.size;rw[<-ju]at bx;have y0:∀y:Ext Grows V1.drew,y.u.cell? ⟨b5,0,none⟩=some (.slice jd xp.length jy):=aB ((Grows.drew V1).cell (bx 0 _ rfl));have y1:∀y:Ext Grows V1.drew,y.u.cell? ⟨b5,1,none⟩=some (.pointer (some ⟨rb,0,none⟩)):=aB ((Grows.drew V1).cell (bx 1 _ rfl));have y2:∀y:Ext Grows V1.drew,y.u.cell? ⟨b5,2,none⟩=some (.slice a' es.length c'):=aB ((Grows.drew V1).cell (bx 2 _ rfl));have gV:=g1.tr km;have CSM:=λ(l:List En) (a b:Option Addr) (c d:Nat) (u:World) hl h1 h2=>Aa (uW l a b c d u hl h1 h2);have CD1:=λ(u:World) (hu:Grows w1 u)=>Aa (iR xp m es db s u HDK.out hs (HD.out.grows hu));have CD2:=λ(u:World) (hu:Grows w1 u)=>Aa (oC xp m es db s u HDK.out hs (HD.out.grows hu));have CD3:=λ(u:World) (hu:Grows w1 u)=>Aa (oQ xp m es db u (HD.out.grows hu));have CD4:=λ(u:World) (hu:Grows w1 u)=>Aa (fU xp m es db s (es.length:Int) u HDK.out hs (HD.out.grows hu));have CD5:=λ(u:World) (hu:Grows w1 u)=>Aa (aV0 xp m es db s u HDK.out hs (HD.out.grows hu));have HO1:=Aa (xU0 HDK.out.srt s);have HO2:=Aa (mS0 HDK.out.srt s);have HO3:=Aa (qR0 HDK.out.srt s (es.length:Int));have HO4:=Aa (fM1 HDK.out.srt s)
  have lg:(prefL es s).length<=140737488355328:=by
   have:=iF0 es s
   omega
  have jc:(writesL es s).length<=140737488355328:=by
   have:=hV0 es s
   omega
  have hq3:(underL es s (es.length:Int)).length<=140737488355328:=by
   have:(underL es s (es.length:Int)).length<=es.length:=Af (List.length_take_le' _ _) (Ac _ _)
   omega
  have hq4:(ofL es s).length<=140737488355328:=by
   have:(ofL es s).length<=es.length:=Ac _ _
   omega
  generalize prefL es s=X1 at CD1 HO1 lg;generalize writesL es s=X2 at CD2 HO2 jc;generalize underL es s (es.length:Int)=X3 at CD4 HO3 hq3;generalize ofL es s=X4 at CD5 HO4 hq4;have HG1:=Aa km;have HG:=Aa gV;clear bx y0 y1 y2 CSM HDK;go_wp2_with fail
  rw[<-jv];clear jv ju km gV;refine(CD1 _ (HG1.out)).out.mono ?_;rintro e w3 ⟨v3,rfl,ja,aw⟩;obtain⟨a3,c3,rfl,_,_,d9⟩:=ja.at_ dT.len;have k3:=Grows.tr (HG1.out) aw;go_wp2_with fail
  refine(CD2 _ (k3)).out.mono ?_;rintro e w4 ⟨v4,rfl,jw,bj⟩;obtain⟨a4,c4,rfl,_,_,iw⟩:=jw.at_ dT.len;have k4:=Grows.tr (k3) bj;go_wp2_with fail
  refine(CD3 _ (k4)).out.mono ?_;rintro e wz ⟨rfl,rfl⟩;go_wp2_with fail
  refine(CD4 _ (k4)).out.mono ?_;rintro e w5 ⟨v5,rfl,hv5,bg⟩;obtain⟨a5,c5,rfl,_,_,lz⟩:=hv5.at_ dT.len;have k5:=Grows.tr (k4) bg;go_wp2_with fail
  refine(CD5 _ (k5)).out.mono ?_;rintro e w6 ⟨v6,rfl,nc,cg⟩;obtain⟨a6,c6,rfl,_,_,mh⟩:=nc.at_ dT.len;have k6:=Grows.tr (k5) cg;have HA1:=Aa (d9.grows (bj.tr (bg.tr cg)));have HA2:=Aa (iw.grows (bg.tr cg));have HA3:=Aa (lz.grows cg);have HA4:=Aa mh;have KK:=Aa (g1.tr k6);clear d9 iw lz mh ja jw hv5 nc aw bj bg cg k3 k4 k5 k6 CD1 CD2 CD3 CD4 CD5 g1;go_wp2_with fail
  go_loopw [12] (λi wx=>∃k:Nat,1<=k/\(k<=X1.length\/k=1)/\i=.int .i64 k/\Grows w6 wx) (λi _=>X1.length-(intOf i).toNat)
  case atStart=>exact⟨1,Ae _,Or.inr rfl,rfl,Grows.refl _⟩
  case round =>
   obtain⟨k,lh,fj,rfl,je⟩:=hrel;obtain⟨u0,rfl⟩:=exq wr;by_cases ae:k<X1.length
   ·obtain⟨K,hK⟩:∃K,k=K+1:=⟨k-1,by omega⟩
    obtain⟨⟨yr,ys,yl,yt,yc⟩,hy⟩:∃y,X1[K]?=some y:=⟨_,Ab (by omega)⟩;obtain⟨⟨zr,zs,zl,zt,zc⟩,hz⟩:∃z,X1[k]?=some z:=⟨_,Ab ae⟩;have ho:=dA0 HO1.out hy (by rw[<-hK];exact hz);obtain⟨bb,oo,rfl,bh⟩:=(HA1.out.grows je).get (aH ae);have cy:(k:Int)<X1.length:=by omega
    have hKi:(K:Int)<X1.length:=by omega
    have wK:IntKind.i64.wrap ((k:Int)-1)=K:=by rw[show (k:Int)-1=K by omega];exact cT (by omega)
    have p0:∀x:Ext Grows u0.drew,x.u.cell? ⟨bb,oo+K*5,none⟩=some (.string yr):=aB ((Grows.drew u0).cell (bh K _ hy 0 _ rfl));have p1:∀x:Ext Grows u0.drew,x.u.cell? ⟨bb,oo+K*5+1,none⟩=some (.string ys):=aB ((Grows.drew u0).cell (bh K _ hy 1 _ rfl));have p2:∀x:Ext Grows u0.drew,x.u.cell? ⟨bb,oo+K*5+2,none⟩=some (.int .i64 yl):=aB ((Grows.drew u0).cell (bh K _ hy 2 _ rfl));have p3:∀x:Ext Grows u0.drew,x.u.cell? ⟨bb,oo+K*5+3,none⟩=some (.int .i64 yt):=aB ((Grows.drew u0).cell (bh K _ hy 3 _ rfl));have p4:∀x:Ext Grows u0.drew,x.u.cell? ⟨bb,oo+K*5+4,none⟩=some (.int .i64 yc):=aB ((Grows.drew u0).cell (bh K _ hy 4 _ rfl));have q0:∀x:Ext Grows u0.drew,x.u.cell? ⟨bb,oo+k*5,none⟩=some (.string zr):=aB ((Grows.drew u0).cell (bh k _ hz 0 _ rfl));have q1:∀x:Ext Grows u0.drew,x.u.cell? ⟨bb,oo+k*5+1,none⟩=some (.string zs):=aB ((Grows.drew u0).cell (bh k _ hz 1 _ rfl));have q2:∀x:Ext Grows u0.drew,x.u.cell? ⟨bb,oo+k*5+2,none⟩=some (.int .i64 zl):=aB ((Grows.drew u0).cell (bh k _ hz 2 _ rfl));have q3:∀x:Ext Grows u0.drew,x.u.cell? ⟨bb,oo+k*5+3,none⟩=some (.int .i64 zt):=aB ((Grows.drew u0).cell (bh k _ hz 3 _ rfl));have q4:∀x:Ext Grows u0.drew,x.u.cell? ⟨bb,oo+k*5+4,none⟩=some (.int .i64 zc):=aB ((Grows.drew u0).cell (bh k _ hz 4 _ rfl));have HH:=Aa (And.intro hK (And.intro lh je));clear bh hy hz hK lh fj je;obtain⟨ho1,rq⟩:=ho;simp only at ho1 rq;have di:¬(zr.size:Int)<yr.size:=by omega
    by_cases hyz:yr=zr
    ·have CL:=λW=>Aa (gX1 (rq hyz) W)
     have hb:(zr.toList==yr.toList)=true:=by rw[hyz];simp
     clear rq hyz;go_wp2_with fail
     refine bE (aU 41 [37]) (by kernel_rfl) (λd _ _ _ _ h=>by cases d<;>exact h) ?_
     iterate 37 (refine aG rfl (λK hK=>?_);go_simp;refine hK _ ?_;clear hK K)
     refine aZ rfl rfl (λK hK=>?_);go_simp;refine((CL _).out).mono ?_;rintro e w9 ⟨rfl,dz⟩;refine⟨dz,hK _ _ ?_⟩;clear hK K;iterate 3 (refine aG rfl (λK hK=>?_);go_simp;refine hK _ ?_;clear hK K)
     refine bH ?_;clear p0 p1 p2 p3 p4 q0 q1 q2 q3 q4;go_wp2_with fail
     go_roundw
     case rel=>exact⟨k+1,by omega,by omega,by go_num,HH.out.2.2.dr.tr dz⟩
     case measure=>simp[intOf];omega
    ·have hb:(zr.toList==yr.toList)=false:=by rw[beq_eq_false_iff_ne];exact λe=>hyz (dV e).symm
     clear rq hyz;go_wp2_with fail
     refine bE (aU 41 []) (by kernel_rfl) (λd _ _ _ _ h=>by cases d<;>exact h) ?_
     iterate 41 (refine aG rfl (λK hK=>?_);go_simp;refine hK _ ?_;clear hK K)
     refine bH ?_;clear p0 p1 p2 p3 p4 q0 q1 q2 q3 q4;go_wp2_with fail
     go_roundw
     case rel=>exact⟨k+1,by omega,by omega,by go_num,HH.out.2.2.dr⟩
     case measure=>simp[intOf];omega
   ·have G1:=Aa (je)
    have HB0:=Aa ae;obtain⟨t1,rfl⟩:=exq u0;have hlz:¬(k:Int)<X1.length:=by omega
    go_wp2_with fail
    replace HA2:=Aa (HA2.out.grows je);replace HA3:=Aa (HA3.out.grows je);replace HA4:=Aa (HA4.out.grows je);clear lh fj je ae hlz;go_loopw [13] (λi wx=>∃k:Nat,1<=k/\(k<=X2.length\/k=1)/\i=.int .i64 k/\Grows t1 wx) (λi _=>X2.length-(intOf i).toNat)
    case atStart=>exact⟨1,Ae _,Or.inr rfl,rfl,Grows.refl _⟩
    case round =>
     obtain⟨k,lh,fj,rfl,je⟩:=hrel;obtain⟨u0,rfl⟩:=exq wr;by_cases ae:k<X2.length
     ·obtain⟨K,hK⟩:∃K,k=K+1:=⟨k-1,by omega⟩
      obtain⟨⟨yr,ys,yl,yt,yc⟩,hy⟩:∃y,X2[K]?=some y:=⟨_,Ab (by omega)⟩;obtain⟨⟨zr,zs,zl,zt,zc⟩,hz⟩:∃z,X2[k]?=some z:=⟨_,Ab ae⟩;have ho:=dA0 HO2.out hy (by rw[<-hK];exact hz);obtain⟨bb,oo,rfl,bh⟩:=(HA2.out.grows je).get (aH ae);have cy:(k:Int)<X2.length:=by omega
      have hKi:(K:Int)<X2.length:=by omega
      have wK:IntKind.i64.wrap ((k:Int)-1)=K:=by rw[show (k:Int)-1=K by omega];exact cT (by omega)
      have p0:∀x:Ext Grows u0.drew,x.u.cell? ⟨bb,oo+K*5,none⟩=some (.string yr):=aB ((Grows.drew u0).cell (bh K _ hy 0 _ rfl));have p1:∀x:Ext Grows u0.drew,x.u.cell? ⟨bb,oo+K*5+1,none⟩=some (.string ys):=aB ((Grows.drew u0).cell (bh K _ hy 1 _ rfl));have p2:∀x:Ext Grows u0.drew,x.u.cell? ⟨bb,oo+K*5+2,none⟩=some (.int .i64 yl):=aB ((Grows.drew u0).cell (bh K _ hy 2 _ rfl));have p3:∀x:Ext Grows u0.drew,x.u.cell? ⟨bb,oo+K*5+3,none⟩=some (.int .i64 yt):=aB ((Grows.drew u0).cell (bh K _ hy 3 _ rfl));have p4:∀x:Ext Grows u0.drew,x.u.cell? ⟨bb,oo+K*5+4,none⟩=some (.int .i64 yc):=aB ((Grows.drew u0).cell (bh K _ hy 4 _ rfl));have q0:∀x:Ext Grows u0.drew,x.u.cell? ⟨bb,oo+k*5,none⟩=some (.string zr):=aB ((Grows.drew u0).cell (bh k _ hz 0 _ rfl));have q1:∀x:Ext Grows u0.drew,x.u.cell? ⟨bb,oo+k*5+1,none⟩=some (.string zs):=aB ((Grows.drew u0).cell (bh k _ hz 1 _ rfl));have q2:∀x:Ext Grows u0.drew,x.u.cell? ⟨bb,oo+k*5+2,none⟩=some (.int .i64 zl):=aB ((Grows.drew u0).cell (bh k _ hz 2 _ rfl));have q3:∀x:Ext Grows u0.drew,x.u.cell? ⟨bb,oo+k*5+3,none⟩=some (.int .i64 zt):=aB ((Grows.drew u0).cell (bh k _ hz 3 _ rfl));have q4:∀x:Ext Grows u0.drew,x.u.cell? ⟨bb,oo+k*5+4,none⟩=some (.int .i64 zc):=aB ((Grows.drew u0).cell (bh k _ hz 4 _ rfl));have HH:=Aa (And.intro hK (And.intro lh je));clear bh hy hz hK lh fj je;obtain⟨ho1,rq⟩:=ho;simp only at ho1 rq;have di:¬(zs.size:Int)<ys.size:=by omega
      by_cases hyz:ys=zs
      ·have CL:=λW=>Aa (gX1 (rq hyz) W)
       have hb:(zs.toList==ys.toList)=true:=by rw[hyz];simp
       clear rq hyz;go_wp2_with fail
       refine bE (aU 41 [37]) (by kernel_rfl) (λd _ _ _ _ h=>by cases d<;>exact h) ?_
       iterate 37 (refine aG rfl (λK hK=>?_);go_simp;refine hK _ ?_;clear hK K)
       refine aZ rfl rfl (λK hK=>?_);go_simp;refine((CL _).out).mono ?_;rintro e w9 ⟨rfl,dz⟩;refine⟨dz,hK _ _ ?_⟩;clear hK K;iterate 3 (refine aG rfl (λK hK=>?_);go_simp;refine hK _ ?_;clear hK K)
       refine bH ?_;clear p0 p1 p2 p3 p4 q0 q1 q2 q3 q4;go_wp2_with fail
       go_roundw
       case rel=>exact⟨k+1,by omega,by omega,by go_num,HH.out.2.2.dr.tr dz⟩
       case measure=>simp[intOf];omega
      ·have hb:(zs.toList==ys.toList)=false:=by rw[beq_eq_false_iff_ne];exact λe=>hyz (dV e).symm
       clear rq hyz;go_wp2_with fail
       refine bE (aU 41 []) (by kernel_rfl) (λd _ _ _ _ h=>by cases d<;>exact h) ?_
       iterate 41 (refine aG rfl (λK hK=>?_);go_simp;refine hK _ ?_;clear hK K)
       refine bH ?_;clear p0 p1 p2 p3 p4 q0 q1 q2 q3 q4;go_wp2_with fail
       go_roundw
       case rel=>exact⟨k+1,by omega,by omega,by go_num,HH.out.2.2.dr⟩
       case measure=>simp[intOf];omega
     ·have G2:=Aa (G1.out.tr je)
      have HB1:=Aa ae;obtain⟨t2,rfl⟩:=exq u0;have hlz:¬(k:Int)<X2.length:=by omega
      go_wp2_with fail
      replace HA3:=Aa (HA3.out.grows je);replace HA4:=Aa (HA4.out.grows je);clear lh fj je ae hlz;go_loopw [14] (λi wx=>∃k:Nat,1<=k/\(k<=X3.length\/k=1)/\i=.int .i64 k/\Grows t2 wx) (λi _=>X3.length-(intOf i).toNat)
      case atStart=>exact⟨1,Ae _,Or.inr rfl,rfl,Grows.refl _⟩
      case round =>
       obtain⟨k,lh,fj,rfl,je⟩:=hrel;obtain⟨u0,rfl⟩:=exq wr;by_cases ae:k<X3.length
       ·obtain⟨K,hK⟩:∃K,k=K+1:=⟨k-1,by omega⟩
        obtain⟨⟨yr,ys,yl,yt,yc⟩,hy⟩:∃y,X3[K]?=some y:=⟨_,Ab (by omega)⟩;obtain⟨⟨zr,zs,zl,zt,zc⟩,hz⟩:∃z,X3[k]?=some z:=⟨_,Ab ae⟩;have ho:=dA0 HO3.out hy (by rw[<-hK];exact hz);obtain⟨bb,oo,rfl,bh⟩:=(HA3.out.grows je).get (aH ae);have cy:(k:Int)<X3.length:=by omega
        have hKi:(K:Int)<X3.length:=by omega
        have wK:IntKind.i64.wrap ((k:Int)-1)=K:=by rw[show (k:Int)-1=K by omega];exact cT (by omega)
        have p0:∀x:Ext Grows u0.drew,x.u.cell? ⟨bb,oo+K*5,none⟩=some (.string yr):=aB ((Grows.drew u0).cell (bh K _ hy 0 _ rfl));have p1:∀x:Ext Grows u0.drew,x.u.cell? ⟨bb,oo+K*5+1,none⟩=some (.string ys):=aB ((Grows.drew u0).cell (bh K _ hy 1 _ rfl));have p2:∀x:Ext Grows u0.drew,x.u.cell? ⟨bb,oo+K*5+2,none⟩=some (.int .i64 yl):=aB ((Grows.drew u0).cell (bh K _ hy 2 _ rfl));have p3:∀x:Ext Grows u0.drew,x.u.cell? ⟨bb,oo+K*5+3,none⟩=some (.int .i64 yt):=aB ((Grows.drew u0).cell (bh K _ hy 3 _ rfl));have p4:∀x:Ext Grows u0.drew,x.u.cell? ⟨bb,oo+K*5+4,none⟩=some (.int .i64 yc):=aB ((Grows.drew u0).cell (bh K _ hy 4 _ rfl));have q0:∀x:Ext Grows u0.drew,x.u.cell? ⟨bb,oo+k*5,none⟩=some (.string zr):=aB ((Grows.drew u0).cell (bh k _ hz 0 _ rfl));have q1:∀x:Ext Grows u0.drew,x.u.cell? ⟨bb,oo+k*5+1,none⟩=some (.string zs):=aB ((Grows.drew u0).cell (bh k _ hz 1 _ rfl));have q2:∀x:Ext Grows u0.drew,x.u.cell? ⟨bb,oo+k*5+2,none⟩=some (.int .i64 zl):=aB ((Grows.drew u0).cell (bh k _ hz 2 _ rfl));have q3:∀x:Ext Grows u0.drew,x.u.cell? ⟨bb,oo+k*5+3,none⟩=some (.int .i64 zt):=aB ((Grows.drew u0).cell (bh k _ hz 3 _ rfl));have q4:∀x:Ext Grows u0.drew,x.u.cell? ⟨bb,oo+k*5+4,none⟩=some (.int .i64 zc):=aB ((Grows.drew u0).cell (bh k _ hz 4 _ rfl));have HH:=Aa (And.intro hK (And.intro lh je));clear bh hy hz hK lh fj je;have CL:=λW=>Aa (gX1 ho W);clear ho;go_wp2_with fail
        refine bE (aU 11 [9]) (by kernel_rfl) (λd _ _ _ _ h=>by cases d<;>exact h) ?_
        iterate 9 (refine aG rfl (λK hK=>?_);go_simp;refine hK _ ?_;clear hK K)
        refine aZ rfl rfl (λK hK=>?_);go_simp;refine((CL _).out).mono ?_;rintro e w9 ⟨rfl,dz⟩;refine⟨dz,hK _ _ ?_⟩;clear hK K;iterate 1 (refine aG rfl (λK hK=>?_);go_simp;refine hK _ ?_;clear hK K)
        refine bH ?_;clear p0 p1 p2 p3 p4 q0 q1 q2 q3 q4;go_wp2_with fail
        go_roundw
        case rel=>exact⟨k+1,by omega,by omega,by go_num,HH.out.2.2.dr.tr dz⟩
        case measure=>simp[intOf];omega
       ·have G3:=Aa (G2.out.tr je)
        have HB2:=Aa ae;obtain⟨t3,rfl⟩:=exq u0;have hlz:¬(k:Int)<X3.length:=by omega
        go_wp2_with fail
        replace HA4:=Aa (HA4.out.grows je);clear lh fj je ae hlz;go_loopw [15] (λi wx=>∃k:Nat,1<=k/\(k<=X4.length\/k=1)/\i=.int .i64 k/\Grows t3 wx) (λi _=>X4.length-(intOf i).toNat)
        case atStart=>exact⟨1,Ae _,Or.inr rfl,rfl,Grows.refl _⟩
        case round =>
         obtain⟨k,lh,fj,rfl,je⟩:=hrel;obtain⟨u0,rfl⟩:=exq wr;by_cases ae:k<X4.length
         ·obtain⟨K,hK⟩:∃K,k=K+1:=⟨k-1,by omega⟩
          obtain⟨⟨yr,ys,yl,yt,yc⟩,hy⟩:∃y,X4[K]?=some y:=⟨_,Ab (by omega)⟩;obtain⟨⟨zr,zs,zl,zt,zc⟩,hz⟩:∃z,X4[k]?=some z:=⟨_,Ab ae⟩;have ho:=dA0 HO4.out hy (by rw[<-hK];exact hz);obtain⟨bb,oo,rfl,bh⟩:=(HA4.out.grows je).get (aH ae);have cy:(k:Int)<X4.length:=by omega
          have hKi:(K:Int)<X4.length:=by omega
          have wK:IntKind.i64.wrap ((k:Int)-1)=K:=by rw[show (k:Int)-1=K by omega];exact cT (by omega)
          have p0:∀x:Ext Grows u0.drew,x.u.cell? ⟨bb,oo+K*5,none⟩=some (.string yr):=aB ((Grows.drew u0).cell (bh K _ hy 0 _ rfl));have p1:∀x:Ext Grows u0.drew,x.u.cell? ⟨bb,oo+K*5+1,none⟩=some (.string ys):=aB ((Grows.drew u0).cell (bh K _ hy 1 _ rfl));have p2:∀x:Ext Grows u0.drew,x.u.cell? ⟨bb,oo+K*5+2,none⟩=some (.int .i64 yl):=aB ((Grows.drew u0).cell (bh K _ hy 2 _ rfl));have p3:∀x:Ext Grows u0.drew,x.u.cell? ⟨bb,oo+K*5+3,none⟩=some (.int .i64 yt):=aB ((Grows.drew u0).cell (bh K _ hy 3 _ rfl));have p4:∀x:Ext Grows u0.drew,x.u.cell? ⟨bb,oo+K*5+4,none⟩=some (.int .i64 yc):=aB ((Grows.drew u0).cell (bh K _ hy 4 _ rfl));have q0:∀x:Ext Grows u0.drew,x.u.cell? ⟨bb,oo+k*5,none⟩=some (.string zr):=aB ((Grows.drew u0).cell (bh k _ hz 0 _ rfl));have q1:∀x:Ext Grows u0.drew,x.u.cell? ⟨bb,oo+k*5+1,none⟩=some (.string zs):=aB ((Grows.drew u0).cell (bh k _ hz 1 _ rfl));have q2:∀x:Ext Grows u0.drew,x.u.cell? ⟨bb,oo+k*5+2,none⟩=some (.int .i64 zl):=aB ((Grows.drew u0).cell (bh k _ hz 2 _ rfl));have q3:∀x:Ext Grows u0.drew,x.u.cell? ⟨bb,oo+k*5+3,none⟩=some (.int .i64 zt):=aB ((Grows.drew u0).cell (bh k _ hz 3 _ rfl));have q4:∀x:Ext Grows u0.drew,x.u.cell? ⟨bb,oo+k*5+4,none⟩=some (.int .i64 zc):=aB ((Grows.drew u0).cell (bh k _ hz 4 _ rfl));have HH:=Aa (And.intro hK (And.intro lh je));clear bh hy hz hK lh fj je;have CL:=λW=>Aa (gX1 ho W);clear ho;go_wp2_with fail
          refine bE (aU 11 [9]) (by kernel_rfl) (λd _ _ _ _ h=>by cases d<;>exact h) ?_
          iterate 9 (refine aG rfl (λK hK=>?_);go_simp;refine hK _ ?_;clear hK K)
          refine aZ rfl rfl (λK hK=>?_);go_simp;refine((CL _).out).mono ?_;rintro e w9 ⟨rfl,dz⟩;refine⟨dz,hK _ _ ?_⟩;clear hK K;iterate 1 (refine aG rfl (λK hK=>?_);go_simp;refine hK _ ?_;clear hK K)
          refine bH ?_;clear p0 p1 p2 p3 p4 q0 q1 q2 q3 q4;go_wp2_with fail
          go_roundw
          case rel=>exact⟨k+1,by omega,by omega,by go_num,HH.out.2.2.dr.tr dz⟩
          case measure=>simp[intOf];omega
         ·have G4:=Aa (G3.out.tr je)
          have HB3:=Aa ae;obtain⟨t4,rfl⟩:=exq u0;have hlz:¬(k:Int)<X4.length:=by omega
          go_wp2_with fail
          refine(CW _ (KK.out.tr G4.out)).out.mono ?_;rintro e z1 ⟨rfl,hgz⟩;go_wp2_with fail
          go_ret;exact⟨rfl,(KK.out.tr G4.out).tr hgz⟩
end Go.Proofs.YtheiocndipepaaaGreatDoor
