/- The texts Bchk, one behind the other. -/
import Derived.Test.YtiopheoljccmpaaGreatDoorCq3
import Derived.Test.YtiopheoljccmpaaGreatDoorCq8
import Derived.Test.YtiopheoljccmpaaGreatDoorCq12
import Derived.Test.YtiopheoljccmpaaGreatDoorCq2
open Go.Lib renaming hid → Aa
set_option maxHeartbeats 4000000
namespace Go.Proofs.YtiopheoljccmpaaGreatDoor
set_option maxRecDepth 100000
open Go Go.RowKit
attribute [local go_sem] aM
def pJ (x:En) (n:Int):Int:=checkS x.r x.s x.l x.t x.c n
def fR (n:Int):List En->Int
 | []=>0
 | x::l=>if pJ x n=0 then fR n l else pJ x n
theorem aF0 {n:Int} {l:List En} {k:Nat} {x:En} (hx:l[k]?=some x):fR n (l.drop k)=if pJ x n=0 then fR n (l.drop (k+1)) else pJ x n:=by
 rw[List.drop_eq_getElem_cons (List.getElem?_eq_some_iff.1 hx).1,(List.getElem?_eq_some_iff.1 hx).2];rfl
def dX1 (w:World) (v:Value):Option Mx->Prop
 | none=>v=.pointer none
 | some m=>∃mb bm,v=.pointer (some ⟨mb,0,none⟩)/\gA w mb bm m
theorem dX1.grows {w w':World} {v:Value} {m:Option Mx} (h:dX1 w v m) (hg:aB w w'):dX1 w' v m:=by
 cases m with
 | none=>exact h
 | some m=>obtain⟨mb,bm,e,h⟩:=h;exact⟨mb,bm,e,h.grows hg⟩
def nU (p:List bT) (m:Option Mx) (l:List En):Int :=
 if bP p=false then 5 else match m with
  | none=>9
  | some m=>if (m.n:Int)=p.length then (if 20000<l.length then 2 else fR p.length l) else 5
theorem cZ0 (p:List bT) (mv:Value) (m:Option Mx) (l:List En) (pa a:Option Addr) (pc c:Nat) (w:World) (he:Env w) (hp:p.length<=4611686018427387904) (hl:l.length<=140737488355328) (hs:∀x∈l,x.r.size<9223372036854775807/\x.s.size<9223372036854775807)
  (jz:aF w pa 2 (p.map bI)) (hm:dX1 w mv m) (ah:aF w a 5 (l.map bE)) :
  Calls Tryz.prog 32 #[.slice pa p.length pc,mv,.slice a l.length c] w λe w'=>e=.returned (.int .i64 (nU p m l))/\aB w w':=by
 have HAT:=Aa ah;have HE:=Aa he;have HS:=Aa hs;have HM:=Aa hm;have CP:=Aa (sN p pa pc w jz hp);unfold nU jZ1 at *;clear ah he hs hm jz
 cases hv:bP p with
 | false =>
  rw[hv]at CP;clear hv;go_enter Tryz.func32,Tryz.ntmps32
  go_wp2_with fail
  refine CP.out.mono ?_;rintro e w1 ⟨rfl,aq⟩;go_wp2
  go_ret;exact⟨rfl,aq⟩
 | true =>
  rw[hv]at CP;clear hv
  cases m with
  | none =>
   obtain rfl:mv=.pointer none:=HM.out;go_enter Tryz.func32,Tryz.ntmps32
   go_wp2_with fail
   refine CP.out.mono ?_;rintro e w1 ⟨rfl,aq⟩;go_wp2
   go_ret;exact⟨rfl,aq⟩
  | some m =>
   obtain⟨mb,bm,rfl,hma⟩:=HM.out;have CZ:=λW h=>Aa (oH0 W mb bm m (hma.grows h));clear HM hma;by_cases h1:(m.n:Int)=p.length
   ·by_cases h2:20000<l.length
    ·have h2i:(20000:Int)<l.length:=by omega
     rw[show (if true=false then (5:Int) else if (m.n:Int)=p.length then if 20000<l.length then 2 else fR p.length l else 5)=2 by simp[h1,h2]]
     go_enter Tryz.func32,Tryz.ntmps32
     go_wp2_with fail
     refine CP.out.mono ?_;rintro e w1 ⟨rfl,aq⟩;have CZ1:=CZ w1 aq;clear CP CZ;go_wp2_with fail
     refine CZ1.out.mono ?_;rintro e w2 ⟨rfl,rfl⟩;clear CZ1;go_wp2
     go_ret;exact⟨rfl,aq⟩
    ·have h2i:¬(20000:Int)<l.length:=by omega
     rw[show (if true=false then (5:Int) else if (m.n:Int)=p.length then if 20000<l.length then 2 else fR p.length l else 5)=fR p.length l by simp[h1,h2]]
     go_enter Tryz.func32,Tryz.ntmps32
     go_wp2_with fail
     refine CP.out.mono ?_;rintro e w1 ⟨rfl,aq⟩;have CZ1:=CZ w1 aq;clear CP CZ;go_wp2_with fail
     refine CZ1.out.mono ?_;rintro e w2 ⟨rfl,rfl⟩;clear CZ1;clear h2;go_wp2_with fail
     clear h1;go_loopw [29] (λi wr=>∃(k:Nat),k<=l.length/\i=.int .i64 k/\Hid (fR p.length (l.drop k)=fR p.length l)/\aB w wr) (λi _=>l.length-(intOf i).toNat)
     case atStart=>exact⟨0,Nat.zero_le _,rfl,rfl,aq⟩
     case round =>
      obtain⟨k,hk,rfl,hF,hg⟩:=hrel;by_cases af:k<l.length
      ·obtain⟨⟨xr,xs,xl,xt,xc⟩,hx⟩:∃x,l[k]?=some x:=⟨_,List.getElem?_eq_getElem af⟩
       obtain⟨ba,oa,rfl,cn⟩:=(HAT.out.grows hg).get (aH af);have c0:wr.cell? ⟨ba,oa+k*5,none⟩=some (.string xr):=cn k _ hx 0 _ rfl;have c1:wr.cell? ⟨ba,oa+k*5+1,none⟩=some (.string xs):=cn k _ hx 1 _ rfl;have c2:wr.cell? ⟨ba,oa+k*5+2,none⟩=some (.int .i64 xl):=cn k _ hx 2 _ rfl;have c3:wr.cell? ⟨ba,oa+k*5+3,none⟩=some (.int .i64 xt):=cn k _ hx 3 _ rfl;have c4:wr.cell? ⟨ba,oa+k*5+4,none⟩=some (.int .i64 xc):=cn k _ hx 4 _ rfl;have dm:=HS.out _ (List.mem_of_getElem? hx);simp only at dm;have CC:=λW h=>Aa (cF0 xr xs xl xt xc p.length W dm.1 dm.2 (HE.out.grows h));have HD:=aF0 (n:=p.length) hx;rw[hF.out]at HD;obtain⟨f,hf⟩:=exq (pJ ⟨xr,xs,xl,xt,xc⟩ p.length);rw[<-hf]at HD;have xu:checkS xr xs xl xt xc p.length=f:=hf.symm;simp only[xu]at CC;have CC1:=CC (wr.alloc (.cells #[.string xr,.string xs,.int .i64 xl,.int .i64 xt,.int .i64 xc] 89)) (hg.al _);have HD:=Aa HD;clear cn hx dm hf xu CC hF;go_wp2_with fail
       refine CC1.out.mono ?_;rintro e w2 ⟨rfl,an⟩;clear CC1;have bu:=aB.trans _ _ _ (hg.al _) an;by_cases hf0:f=0
       ·subst hf0
        have HX:Hid (fR p.length (l.drop (k+1))=fR p.length l):=by show _=_;rw[HD.out,if_pos rfl]
        clear HD;go_wp2_with fail
        go_roundw
        case rel=>exact⟨k+1,by omega,by go_num,HX,bu⟩
        case measure=>simp[intOf];omega
       ·go_wp2_with fail
        go_ret;exact⟨by rw[HD.out,if_neg hf0];rfl,bu⟩
      ·obtain rfl:k=l.length:=by omega
       have HX:Hid (fR p.length l=0):=by show _=_;rw[<-hF.out,List.drop_length];rfl
       clear hF;go_wp2_with fail
       go_ret;exact⟨by rw[HX.out];rfl,hg⟩
   ·rw[show (if true=false then (5:Int) else if (m.n:Int)=p.length then if 20000<l.length then 2 else fR p.length l else 5)=5 by simp[h1]]
    go_enter Tryz.func32,Tryz.ntmps32
    go_wp2_with fail
    refine CP.out.mono ?_;rintro e w1 ⟨rfl,aq⟩;have CZ1:=CZ w1 aq;clear CP CZ;go_wp2_with fail
    refine CZ1.out.mono ?_;rintro e w2 ⟨rfl,rfl⟩;clear CZ1;go_wp2
    go_ret;exact⟨rfl,aq⟩
end Go.Proofs.YtiopheoljccmpaaGreatDoor
