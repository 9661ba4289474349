/- The texts Bchk, one behind the other. -/
import Derived.Test.YtjhajgffmnkocaaGreatDoorPq3
import Derived.Test.YtjhajgffmnkocaaGreatDoorPq8
import Derived.Test.YtjhajgffmnkocaaGreatDoorPq12
import Derived.Test.YtjhajgffmnkocaaGreatDoorPq2
open Go.Lib renaming hid → Aa
set_option maxHeartbeats 4000000
namespace Go.Proofs.YtjhajgffmnkocaaGreatDoor
set_option maxRecDepth 100000
open Go Go.RowKit
attribute [local go_sem] aO
def pH (x:En) (n:Int):Int:=jD0 x.r x.s x.l x.t x.c n
def jF (n:Int):List En->Int
 | []=>0
 | x::l=>if pH x n=0 then jF n l else pH x n
theorem nI0 {n:Int} {l:List En} {k:Nat} {x:En} (hx:l[k]?=some x):jF n (l.drop k)=if pH x n=0 then jF n (l.drop (k+1)) else pH x n:=by
 rw[List.drop_eq_getElem_cons (List.getElem?_eq_some_iff.1 hx).1,(List.getElem?_eq_some_iff.1 hx).2];rfl
def eR1 (w:World) (v:Value):Option Mx->Prop
 | none=>v=.pointer none
 | some m=>∃mb bm,v=.pointer (some ⟨mb,0,none⟩)/\gF w mb bm m
theorem eR1.grows {w w':World} {v:Value} {m:Option Mx} (h:eR1 w v m) (hg:aB w w'):eR1 w' v m:=by
 cases m with
 | none=>exact h
 | some m=>obtain⟨mb,bm,e,h⟩:=h;exact⟨mb,bm,e,h.grows hg⟩
def yF (p:List cY) (m:Option Mx) (l:List En):Int :=
 if eH p=false then 5 else match m with
  | none=>9
  | some m=>if (m.n:Int)=p.length then (if 20000<l.length then 2 else jF p.length l) else 5
theorem dA0 (p:List cY) (mv:Value) (m:Option Mx) (l:List En) (pa a:Option Addr) (pc c:Nat) (w:World) (he:Env w) (hp:p.length<=4611686018427387904) (hl:l.length<=140737488355328) (hs:∀x∈l,x.r.size<9223372036854775807/\x.s.size<9223372036854775807)
  (tw:aG w pa 2 (p.map cB)) (hm:eR1 w mv m) (ac:aG w a 5 (l.map bF)) :
  Calls Tryz.prog 92 #[.slice pa p.length pc,mv,.slice a l.length c] w λe w'=>e=.returned (.int .i64 (yF p m l))/\aB w w':=by
 have HAT:=Aa ac;have HE:=Aa he;have HS:=Aa hs;have HM:=Aa hm;have CP:=Aa (aM0 p pa pc w tw hp);unfold yF oO1 at *;clear ac he hs hm tw
 cases hv:eH p with
 | false =>
  rw[hv]at CP;clear hv;go_enter Tryz.func92,Tryz.ntmps92
  go_wp2_with fail
  refine CP.out.mono ?_;rintro e w1 ⟨rfl,ai⟩;go_wp2
  go_ret;exact⟨rfl,ai⟩
 | true =>
  rw[hv]at CP;clear hv
  cases m with
  | none =>
   obtain rfl:mv=.pointer none:=HM.out;go_enter Tryz.func92,Tryz.ntmps92
   go_wp2_with fail
   refine CP.out.mono ?_;rintro e w1 ⟨rfl,ai⟩;go_wp2
   go_ret;exact⟨rfl,ai⟩
  | some m =>
   obtain⟨mb,bm,rfl,hma⟩:=HM.out;have CZ:=λW h=>Aa (qV0 W mb bm m (hma.grows h));clear HM hma;by_cases h1:(m.n:Int)=p.length
   ·by_cases h2:20000<l.length
    ·have h2i:(20000:Int)<l.length:=by omega
     rw[show (if true=false then (5:Int) else if (m.n:Int)=p.length then if 20000<l.length then 2 else jF p.length l else 5)=2 by simp[h1,h2]]
     go_enter Tryz.func92,Tryz.ntmps92
     go_wp2_with fail
     refine CP.out.mono ?_;rintro e w1 ⟨rfl,ai⟩;have CZ1:=CZ w1 ai;clear CP CZ;go_wp2_with fail
     refine CZ1.out.mono ?_;rintro e w2 ⟨rfl,rfl⟩;clear CZ1;go_wp2
     go_ret;exact⟨rfl,ai⟩
    ·have h2i:¬(20000:Int)<l.length:=by omega
     rw[show (if true=false then (5:Int) else if (m.n:Int)=p.length then if 20000<l.length then 2 else jF p.length l else 5)=jF p.length l by simp[h1,h2]]
     go_enter Tryz.func92,Tryz.ntmps92
     go_wp2_with fail
     refine CP.out.mono ?_;rintro e w1 ⟨rfl,ai⟩;have CZ1:=CZ w1 ai;clear CP CZ;go_wp2_with fail
     refine CZ1.out.mono ?_;rintro e w2 ⟨rfl,rfl⟩;clear CZ1;clear h2;go_wp2_with fail
     clear h1;go_loopw [29] (λi wr=>∃(k:Nat),k<=l.length/\i=.int .i64 k/\Hid (jF p.length (l.drop k)=jF p.length l)/\aB w wr) (λi _=>l.length-(intOf i).toNat)
     case atStart=>exact⟨0,Nat.zero_le _,rfl,rfl,ai⟩
     case round =>
      obtain⟨k,hk,rfl,hF,hg⟩:=hrel;by_cases af:k<l.length
      ·obtain⟨⟨xr,xs,xl,xt,xc⟩,hx⟩:∃x,l[k]?=some x:=⟨_,List.getElem?_eq_getElem af⟩
       obtain⟨ba,oa,rfl,bz⟩:=(HAT.out.grows hg).get (aJ af);have c0:wr.cell? ⟨ba,oa+k*5,none⟩=some (.string xr):=bz k _ hx 0 _ rfl;have c1:wr.cell? ⟨ba,oa+k*5+1,none⟩=some (.string xs):=bz k _ hx 1 _ rfl;have c2:wr.cell? ⟨ba,oa+k*5+2,none⟩=some (.int .i64 xl):=bz k _ hx 2 _ rfl;have c3:wr.cell? ⟨ba,oa+k*5+3,none⟩=some (.int .i64 xt):=bz k _ hx 3 _ rfl;have c4:wr.cell? ⟨ba,oa+k*5+4,none⟩=some (.int .i64 xc):=bz k _ hx 4 _ rfl;have dm:=HS.out _ (List.mem_of_getElem? hx);simp only at dm;have CC:=λW h=>Aa (vG0 xr xs xl xt xc p.length W dm.1 dm.2 (HE.out.grows h));have HD:=nI0 (n:=p.length) hx;rw[hF.out]at HD;obtain⟨f,hf⟩:=exq (pH ⟨xr,xs,xl,xt,xc⟩ p.length);rw[<-hf]at HD;have hff:jD0 xr xs xl xt xc p.length=f:=hf.symm;simp only[hff]at CC;have CC1:=CC (wr.alloc (.cells #[.string xr,.string xs,.int .i64 xl,.int .i64 xt,.int .i64 xc] 62)) (hg.al _);have HD:=Aa HD;clear bz hx dm hf hff CC hF;go_wp2_with fail
       refine CC1.out.mono ?_;rintro e w2 ⟨rfl,ae⟩;clear CC1;have aw:=aB.trans _ _ _ (hg.al _) ae;by_cases hf0:f=0
       ·subst hf0
        have HX:Hid (jF p.length (l.drop (k+1))=jF p.length l):=by show _=_;rw[HD.out,if_pos rfl]
        clear HD;go_wp2_with fail
        go_roundw
        case rel=>exact⟨k+1,by omega,by go_num,HX,aw⟩
        case measure=>simp[intOf];omega
       ·go_wp2_with fail
        go_ret;exact⟨by rw[HD.out,if_neg hf0];rfl,aw⟩
      ·obtain rfl:k=l.length:=by omega
       have HX:Hid (jF p.length l=0):=by show _=_;rw[<-hF.out,List.drop_length];rfl
       clear hF;go_wp2_with fail
       go_ret;exact⟨by rw[HX.out];rfl,hg⟩
   ·rw[show (if true=false then (5:Int) else if (m.n:Int)=p.length then if 20000<l.length then 2 else jF p.length l else 5)=5 by simp[h1]]
    go_enter Tryz.func92,Tryz.ntmps92
    go_wp2_with fail
    refine CP.out.mono ?_;rintro e w1 ⟨rfl,ai⟩;have CZ1:=CZ w1 ai;clear CP CZ;go_wp2_with fail
    refine CZ1.out.mono ?_;rintro e w2 ⟨rfl,rfl⟩;clear CZ1;go_wp2
    go_ret;exact⟨rfl,ai⟩
end Go.Proofs.YtjhajgffmnkocaaGreatDoor
