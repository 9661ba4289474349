/- The texts Bchk, one behind the other. -/
import Derived.Test.YtcijgkfpobpdbaaGreatDoorBq5
import Derived.Test.YtcijgkfpobpdbaaGreatDoorBq12
import Derived.Test.YtcijgkfpobpdbaaGreatDoorBq14
import Derived.Test.YtcijgkfpobpdbaaGreatDoorBq3
open Go.Lib renaming hid → Aa
set_option maxHeartbeats 4000000
namespace Go.Proofs.YtcijgkfpobpdbaaGreatDoor
set_option maxRecDepth 100000
open Go Go.RowKit
attribute [local go_sem] aQ
def oP (x:En) (n:Int):Int:=sW x.r x.s x.l x.t x.c n
def fF (n:Int):List En->Int
 | []=>0
 | x::l=>if oP x n=0 then fF n l else oP x n
theorem aF0 {n:Int} {l:List En} {k:Nat} {x:En} (hx:l[k]?=some x):fF n (l.drop k)=if oP x n=0 then fF n (l.drop (k+1)) else oP x n:=by
 rw[List.drop_eq_getElem_cons (List.getElem?_eq_some_iff.1 hx).1,(List.getElem?_eq_some_iff.1 hx).2];rfl
def dT1 (w:World) (v:Value):Option Mx->Prop
 | none=>v=.pointer none
 | some m=>∃mb bm,v=.pointer (some ⟨mb,0,none⟩)/\fK w mb bm m
theorem dT1.grows {w w':World} {v:Value} {m:Option Mx} (h:dT1 w v m) (hg:Grows w w'):dT1 w' v m:=by
 cases m with
 | none=>exact h
 | some m=>obtain⟨mb,bm,e,h⟩:=h;exact⟨mb,bm,e,h.grows hg⟩
def mC (p:List cJ) (m:Option Mx) (l:List En):Int :=
 if dC p=false then 5 else match m with
  | none=>9
  | some m=>if (m.n:Int)=p.length then (if 20000<l.length then 2 else fF p.length l) else 5
theorem dS0 (p:List cJ) (mv:Value) (m:Option Mx) (l:List En) (pa a:Option Addr) (pc c:Nat) (w:World) (he:Env w) (hp:p.length<=4611686018427387904) (hl:l.length<=140737488355328) (hs:∀x∈l,x.r.size<9223372036854775807/\x.s.size<9223372036854775807)
  (l7:aF w pa 2 (p.map bE)) (hm:dT1 w mv m) (ac:aF w a 5 (l.map aJ)) :
  Calls Tryz.prog 71 #[.slice pa p.length pc,mv,.slice a l.length c] w λe w'=>e=.returned (.int .i64 (mC p m l))/\Grows w w':=by
 have HAT:=Aa ac;have HE:=Aa he;have HS:=Aa hs;have HM:=Aa hm;have CP:=Aa (zU p pa pc w l7 hp);unfold mC nJ1 at *;clear ac he hs hm l7
 cases hv:dC p with
 | false =>
  rw[hv]at CP;clear hv;go_enter Tryz.func71,Tryz.ntmps71
  go_wp2_with fail
  refine CP.out.mono ?_;rintro e w1 ⟨rfl,ah⟩;go_wp2
  go_ret;exact⟨rfl,ah⟩
 | true =>
  rw[hv]at CP;clear hv
  cases m with
  | none =>
   obtain rfl:mv=.pointer none:=HM.out;go_enter Tryz.func71,Tryz.ntmps71
   go_wp2_with fail
   refine CP.out.mono ?_;rintro e w1 ⟨rfl,ah⟩;go_wp2
   go_ret;exact⟨rfl,ah⟩
  | some m =>
   obtain⟨mb,bm,rfl,hma⟩:=HM.out;have CZ:=λW h=>Aa (pP0 W mb bm m (hma.grows h));clear HM hma;by_cases h1:(m.n:Int)=p.length
   ·by_cases h2:20000<l.length
    ·have zv:(20000:Int)<l.length:=by omega
     rw[show (if true=false then (5:Int) else if (m.n:Int)=p.length then if 20000<l.length then 2 else fF p.length l else 5)=2 by simp[h1,h2]]
     go_enter Tryz.func71,Tryz.ntmps71
     go_wp2_with fail
     refine CP.out.mono ?_;rintro e w1 ⟨rfl,ah⟩;have CZ1:=CZ w1 ah;clear CP CZ;go_wp2_with fail
     refine CZ1.out.mono ?_;rintro e w2 ⟨rfl,rfl⟩;clear CZ1;go_wp2
     go_ret;exact⟨rfl,ah⟩
    ·have zv:¬(20000:Int)<l.length:=by omega
     rw[show (if true=false then (5:Int) else if (m.n:Int)=p.length then if 20000<l.length then 2 else fF p.length l else 5)=fF p.length l by simp[h1,h2]]
     go_enter Tryz.func71,Tryz.ntmps71
     go_wp2_with fail
     refine CP.out.mono ?_;rintro e w1 ⟨rfl,ah⟩;have CZ1:=CZ w1 ah;clear CP CZ;go_wp2_with fail
     refine CZ1.out.mono ?_;rintro e w2 ⟨rfl,rfl⟩;clear CZ1;clear h2;go_wp2_with fail
     clear h1;go_loopw [29] (λi wr=>∃(k:Nat),k<=l.length/\i=.int .i64 k/\Hid (fF p.length (l.drop k)=fF p.length l)/\Grows w wr) (λi _=>l.length-(intOf i).toNat)
     case atStart=>exact⟨0,Nat.zero_le _,rfl,rfl,ah⟩
     case round =>
      obtain⟨k,hk,rfl,hF,hg⟩:=hrel;by_cases ae:k<l.length
      ·obtain⟨⟨xr,xs,xl,xt,xc⟩,hx⟩:∃x,l[k]?=some x:=⟨_,List.getElem?_eq_getElem ae⟩
       obtain⟨ba,oa,rfl,be⟩:=(HAT.out.grows hg).get (aH ae);have c0:wr.cell? ⟨ba,oa+k*5,none⟩=some (.string xr):=be k _ hx 0 _ rfl;have c1:wr.cell? ⟨ba,oa+k*5+1,none⟩=some (.string xs):=be k _ hx 1 _ rfl;have c2:wr.cell? ⟨ba,oa+k*5+2,none⟩=some (.int .i64 xl):=be k _ hx 2 _ rfl;have c3:wr.cell? ⟨ba,oa+k*5+3,none⟩=some (.int .i64 xt):=be k _ hx 3 _ rfl;have c4:wr.cell? ⟨ba,oa+k*5+4,none⟩=some (.int .i64 xc):=be k _ hx 4 _ rfl;have dp:=HS.out _ (List.mem_of_getElem? hx);simp only at dp;have CC:=λW h=>Aa (rW0 xr xs xl xt xc p.length W dp.1 dp.2 (HE.out.grows h));have HD:=aF0 (n:=p.length) hx;rw[hF.out]at HD;obtain⟨f,hf⟩:=exq (oP ⟨xr,xs,xl,xt,xc⟩ p.length);rw[<-hf]at HD;have tu:sW xr xs xl xt xc p.length=f:=hf.symm;simp only[tu]at CC;have CC1:=CC (wr.alloc (.cells #[.string xr,.string xs,.int .i64 xl,.int .i64 xt,.int .i64 xc] 59)) (hg.al _);have HD:=Aa HD;clear be hx dp hf tu CC hF;go_wp2_with fail
       refine CC1.out.mono ?_;rintro e w2 ⟨rfl,af⟩;clear CC1;have ax:=Grows.trans _ _ _ (hg.al _) af;by_cases hf0:f=0
       ·subst hf0
        have HX:Hid (fF p.length (l.drop (k+1))=fF p.length l):=by show _=_;rw[HD.out,if_pos rfl]
        clear HD;go_wp2_with fail
        go_roundw
        case rel=>exact⟨k+1,by omega,by go_num,HX,ax⟩
        case measure=>simp[intOf];omega
       ·go_wp2_with fail
        go_ret;exact⟨by rw[HD.out,if_neg hf0];rfl,ax⟩
      ·obtain rfl:k=l.length:=by omega
       have HX:Hid (fF p.length l=0):=by show _=_;rw[<-hF.out,List.drop_length];rfl
       clear hF;go_wp2_with fail
       go_ret;exact⟨by rw[HX.out];rfl,hg⟩
   ·rw[show (if true=false then (5:Int) else if (m.n:Int)=p.length then if 20000<l.length then 2 else fF p.length l else 5)=5 by simp[h1]]
    go_enter Tryz.func71,Tryz.ntmps71
    go_wp2_with fail
    refine CP.out.mono ?_;rintro e w1 ⟨rfl,ah⟩;have CZ1:=CZ w1 ah;clear CP CZ;go_wp2_with fail
    refine CZ1.out.mono ?_;rintro e w2 ⟨rfl,rfl⟩;clear CZ1;go_wp2
    go_ret;exact⟨rfl,ah⟩
end Go.Proofs.YtcijgkfpobpdbaaGreatDoor
