/- The texts Bchk, one behind the other. -/
import Derived.Test.YthgklnohcmaopaaGreatDoorLq3
import Derived.Test.YthgklnohcmaopaaGreatDoorLq9
import Derived.Test.YthgklnohcmaopaaGreatDoorLq12
import Derived.Test.YthgklnohcmaopaaGreatDoorLq2
open Go.Lib renaming hid → Aa
set_option maxHeartbeats 4000000
namespace Go.Proofs.YthgklnohcmaopaaGreatDoor
set_option maxRecDepth 100000
open Go Go.RowKit
attribute [local go_sem] aO
def jZ (x:En) (n:Int):Int:=xT x.r x.s x.l x.t x.c n
def iW (n:Int):List En->Int
 | []=>0
 | x::l=>if jZ x n=0 then iW n l else jZ x n
theorem oZ0 {n:Int} {l:List En} {k:Nat} {x:En} (hx:l[k]?=some x):iW n (l.drop k)=if jZ x n=0 then iW n (l.drop (k+1)) else jZ x n:=by
 rw[List.drop_eq_getElem_cons (List.getElem?_eq_some_iff.1 hx).1,(List.getElem?_eq_some_iff.1 hx).2];rfl
def fF1 (w:World) (v:Value):Option Mx->Prop
 | none=>v=.pointer none
 | some m=>∃mb bm,v=.pointer (some ⟨mb,0,none⟩)/\gR w mb bm m
theorem fF1.grows {w w':World} {v:Value} {m:Option Mx} (h:fF1 w v m) (hg:aB w w'):fF1 w' v m:=by
 cases m with
 | none=>exact h
 | some m=>obtain⟨mb,bm,e,h⟩:=h;exact⟨mb,bm,e,h.grows hg⟩
def xA (p:List dE) (m:Option Mx) (l:List En):Int :=
 if eO p=false then 5 else match m with
  | none=>9
  | some m=>if (m.n:Int)=p.length then (if 20000<l.length then 2 else iW p.length l) else 5
theorem dQ0 (p:List dE) (mv:Value) (m:Option Mx) (l:List En) (pa a:Option Addr) (pc c:Nat) (w:World) (he:Env w) (hp:p.length<=4611686018427387904) (hl:l.length<=140737488355328) (hs:∀x∈l,x.r.size<9223372036854775807/\x.s.size<9223372036854775807)
  (rm:aG w pa 2 (p.map cX)) (hm:fF1 w mv m) (ac:aG w a 5 (l.map bF)) :
  Calls Tryz.prog 48 #[.slice pa p.length pc,mv,.slice a l.length c] w λe w'=>e=.returned (.int .i64 (xA p m l))/\aB w w':=by
 have HAT:=Aa ac;have HE:=Aa he;have HS:=Aa hs;have HM:=Aa hm;have CP:=Aa (aP0 p pa pc w rm hp);unfold xA qG1 at *;clear ac he hs hm rm
 cases hv:eO p with
 | false =>
  rw[hv]at CP;clear hv;go_enter Tryz.func48,Tryz.ntmps48
  go_wp2_with fail
  refine CP.out.mono ?_;rintro e w1 ⟨rfl,an⟩;go_wp2
  go_ret;exact⟨rfl,an⟩
 | true =>
  rw[hv]at CP;clear hv
  cases m with
  | none =>
   obtain rfl:mv=.pointer none:=HM.out;go_enter Tryz.func48,Tryz.ntmps48
   go_wp2_with fail
   refine CP.out.mono ?_;rintro e w1 ⟨rfl,an⟩;go_wp2
   go_ret;exact⟨rfl,an⟩
  | some m =>
   obtain⟨mb,bm,rfl,hma⟩:=HM.out;have CZ:=λW h=>Aa (qT0 W mb bm m (hma.grows h));clear HM hma;by_cases h1:(m.n:Int)=p.length
   ·by_cases h2:20000<l.length
    ·have h2i:(20000:Int)<l.length:=by omega
     rw[show (if true=false then (5:Int) else if (m.n:Int)=p.length then if 20000<l.length then 2 else iW p.length l else 5)=2 by simp[h1,h2]]
     go_enter Tryz.func48,Tryz.ntmps48
     go_wp2_with fail
     refine CP.out.mono ?_;rintro e w1 ⟨rfl,an⟩;have CZ1:=CZ w1 an;clear CP CZ;go_wp2_with fail
     refine CZ1.out.mono ?_;rintro e w2 ⟨rfl,rfl⟩;clear CZ1;go_wp2
     go_ret;exact⟨rfl,an⟩
    ·have h2i:¬(20000:Int)<l.length:=by omega
     rw[show (if true=false then (5:Int) else if (m.n:Int)=p.length then if 20000<l.length then 2 else iW p.length l else 5)=iW p.length l by simp[h1,h2]]
     go_enter Tryz.func48,Tryz.ntmps48
     go_wp2_with fail
     refine CP.out.mono ?_;rintro e w1 ⟨rfl,an⟩;have CZ1:=CZ w1 an;clear CP CZ;go_wp2_with fail
     refine CZ1.out.mono ?_;rintro e w2 ⟨rfl,rfl⟩;clear CZ1;clear h2;go_wp2_with fail
     clear h1;go_loopw [29] (λi wr=>∃(k:Nat),k<=l.length/\i=.int .i64 k/\Hid (iW p.length (l.drop k)=iW p.length l)/\aB w wr) (λi _=>l.length-(intOf i).toNat)
     case atStart=>exact⟨0,Nat.zero_le _,rfl,rfl,an⟩
     case round =>
      obtain⟨k,hk,rfl,hF,hg⟩:=hrel;by_cases ae:k<l.length
      ·obtain⟨⟨xr,xs,xl,xt,xc⟩,hx⟩:∃x,l[k]?=some x:=⟨_,List.getElem?_eq_getElem ae⟩
       obtain⟨ba,oa,rfl,be⟩:=(HAT.out.grows hg).get (aK ae);have c0:wr.cell? ⟨ba,oa+k*5,none⟩=some (.string xr):=be k _ hx 0 _ rfl;have c1:wr.cell? ⟨ba,oa+k*5+1,none⟩=some (.string xs):=be k _ hx 1 _ rfl;have c2:wr.cell? ⟨ba,oa+k*5+2,none⟩=some (.int .i64 xl):=be k _ hx 2 _ rfl;have c3:wr.cell? ⟨ba,oa+k*5+3,none⟩=some (.int .i64 xt):=be k _ hx 3 _ rfl;have c4:wr.cell? ⟨ba,oa+k*5+4,none⟩=some (.int .i64 xc):=be k _ hx 4 _ rfl;have de:=HS.out _ (List.mem_of_getElem? hx);simp only at de;have CC:=λW h=>Aa (dU0 xr xs xl xt xc p.length W de.1 de.2 (HE.out.grows h));have HD:=oZ0 (n:=p.length) hx;rw[hF.out]at HD;obtain⟨f,hf⟩:=exq (jZ ⟨xr,xs,xl,xt,xc⟩ p.length);rw[<-hf]at HD;have hff:xT xr xs xl xt xc p.length=f:=hf.symm;simp only[hff]at CC;have CC1:=CC (wr.alloc (.cells #[.string xr,.string xs,.int .i64 xl,.int .i64 xt,.int .i64 xc] 30)) (hg.al _);have HD:=Aa HD;clear be hx de hf hff CC hF;go_wp2_with fail
       refine CC1.out.mono ?_;rintro e w2 ⟨rfl,af⟩;clear CC1;have ax:=aB.trans _ _ _ (hg.al _) af;by_cases hf0:f=0
       ·subst hf0
        have HX:Hid (iW p.length (l.drop (k+1))=iW p.length l):=by show _=_;rw[HD.out,if_pos rfl]
        clear HD;go_wp2_with fail
        go_roundw
        case rel=>exact⟨k+1,by omega,by go_num,HX,ax⟩
        case measure=>simp[intOf];omega
       ·go_wp2_with fail
        go_ret;exact⟨by rw[HD.out,if_neg hf0];rfl,ax⟩
      ·obtain rfl:k=l.length:=by omega
       have HX:Hid (iW p.length l=0):=by show _=_;rw[<-hF.out,List.drop_length];rfl
       clear hF;go_wp2_with fail
       go_ret;exact⟨by rw[HX.out];rfl,hg⟩
   ·rw[show (if true=false then (5:Int) else if (m.n:Int)=p.length then if 20000<l.length then 2 else iW p.length l else 5)=5 by simp[h1]]
    go_enter Tryz.func48,Tryz.ntmps48
    go_wp2_with fail
    refine CP.out.mono ?_;rintro e w1 ⟨rfl,an⟩;have CZ1:=CZ w1 an;clear CP CZ;go_wp2_with fail
    refine CZ1.out.mono ?_;rintro e w2 ⟨rfl,rfl⟩;clear CZ1;go_wp2
    go_ret;exact⟨rfl,an⟩
end Go.Proofs.YthgklnohcmaopaaGreatDoor
