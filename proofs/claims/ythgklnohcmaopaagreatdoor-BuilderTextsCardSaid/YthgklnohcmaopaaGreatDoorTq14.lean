/- The texts Bchk NamedD Runes KanaP RefK, one behind the other. -/
import Derived.Test.YthgklnohcmaopaaGreatDoorTq3
import Derived.Test.YthgklnohcmaopaaGreatDoorTq7
import Derived.Test.YthgklnohcmaopaaGreatDoorTq12
import Derived.Test.YthgklnohcmaopaaGreatDoorTq2
import Derived.Test.YthgklnohcmaopaaGreatDoorTq10
import Derived.Test.YthgklnohcmaopaaGreatDoorTq1
open Bool renaming eq_iff_iff → Aa,true_and → Ad
open Go.Lib renaming hid → Ab,validD → Ac
set_option maxHeartbeats 4000000
namespace Go.Proofs.YthgklnohcmaopaaGreatDoor
set_option maxRecDepth 100000
section
open Go Go.RowKit
attribute [local go_sem] aK
def checkE (x:En) (n:Int):Int:=checkS x.r x.s x.l x.t x.c n
def iT (n:Int):List En->Int
 | []=>0
 | x::l=>if checkE x n=0 then iT n l else checkE x n
theorem iL0 {n:Int} {l:List En} {k:Nat} {x:En} (hx:l[k]?=some x):iT n (l.drop k)=if checkE x n=0 then iT n (l.drop (k+1)) else checkE x n:=by
 rw[List.drop_eq_getElem_cons (List.getElem?_eq_some_iff.1 hx).1,(List.getElem?_eq_some_iff.1 hx).2];rfl
def wD0 (w:World) (v:Value):Option Mx->Prop
 | none=>v=.pointer none
 | some m=>∃mb bm,v=.pointer (some ⟨mb,0,none⟩)/\gG w mb bm m
theorem wD0.grows {w w':World} {v:Value} {m:Option Mx} (h:wD0 w v m) (hg:aB w w'):wD0 w' v m:=by
 cases m with
 | none=>exact h
 | some m=>obtain⟨mb,bm,e,h⟩:=h;exact⟨mb,bm,e,h.grows hg⟩
def cS0 (p:List bD) (m:Option Mx) (l:List En):Int :=
 if aQ p=false then 5 else match m with
  | none=>9
  | some m=>if (m.n:Int)=p.length then (if 20000<l.length then 2 else iT p.length l) else 5
theorem zO (p:List bD) (mv:Value) (m:Option Mx) (l:List En) (pa a:Option Addr) (pc c:Nat) (w:World) (he:Env w) (hp:p.length<=4611686018427387904) (hl:l.length<=140737488355328) (hs:∀x∈l,x.r.size<9223372036854775807/\x.s.size<9223372036854775807)
  (jq:aF w pa 2 (p.map bH)) (hm:wD0 w mv m) (ac:aF w a 5 (l.map aZ)) :
  Calls Tryz.prog 48 #[.slice pa p.length pc,mv,.slice a l.length c] w λe w'=>e=.returned (.int .i64 (cS0 p m l))/\aB w w':=by
 have HAT:=Ab ac;have HE:=Ab he;have HS:=Ab hs;have HM:=Ab hm;have CP:=Ab (iX p pa pc w jq hp);unfold cS0 bO1 at *;clear ac he hs hm jq
 cases hv:aQ p with
 | false =>
  rw[hv]at CP;clear hv;go_enter Tryz.func48,Tryz.ntmps48
  go_wp2_with fail
  refine CP.out.mono ?_;rintro e w1 ⟨rfl,aj⟩;go_wp2
  go_ret;exact⟨rfl,aj⟩
 | true =>
  rw[hv]at CP;clear hv
  cases m with
  | none =>
   obtain rfl:mv=.pointer none:=HM.out;go_enter Tryz.func48,Tryz.ntmps48
   go_wp2_with fail
   refine CP.out.mono ?_;rintro e w1 ⟨rfl,aj⟩;go_wp2
   go_ret;exact⟨rfl,aj⟩
  | some m =>
   obtain⟨mb,bm,rfl,hma⟩:=HM.out;have CZ:=λW h=>Ab (kJ0 W mb bm m (hma.grows h));clear HM hma;by_cases h1:(m.n:Int)=p.length
   ·by_cases h2:20000<l.length
    ·have h2i:(20000:Int)<l.length:=by omega
     rw[show (if true=false then (5:Int) else if (m.n:Int)=p.length then if 20000<l.length then 2 else iT p.length l else 5)=2 by simp[h1,h2]]
     go_enter Tryz.func48,Tryz.ntmps48
     go_wp2_with fail
     refine CP.out.mono ?_;rintro e w1 ⟨rfl,aj⟩;have CZ1:=CZ w1 aj;clear CP CZ;go_wp2_with fail
     refine CZ1.out.mono ?_;rintro e w2 ⟨rfl,rfl⟩;clear CZ1;go_wp2
     go_ret;exact⟨rfl,aj⟩
    ·have h2i:¬(20000:Int)<l.length:=by omega
     rw[show (if true=false then (5:Int) else if (m.n:Int)=p.length then if 20000<l.length then 2 else iT p.length l else 5)=iT p.length l by simp[h1,h2]]
     go_enter Tryz.func48,Tryz.ntmps48
     go_wp2_with fail
     refine CP.out.mono ?_;rintro e w1 ⟨rfl,aj⟩;have CZ1:=CZ w1 aj;clear CP CZ;go_wp2_with fail
     refine CZ1.out.mono ?_;rintro e w2 ⟨rfl,rfl⟩;clear CZ1;clear h2;go_wp2_with fail
     clear h1;go_loopw [29] (λi wr=>∃(k:Nat),k<=l.length/\i=.int .i64 k/\Hid (iT p.length (l.drop k)=iT p.length l)/\aB w wr) (λi _=>l.length-(intOf i).toNat)
     case atStart=>exact⟨0,Nat.zero_le _,rfl,rfl,aj⟩
     case round =>
      obtain⟨k,hk,rfl,hF,hg⟩:=hrel;by_cases ae:k<l.length
      ·obtain⟨⟨xr,xs,xl,xt,xc⟩,hx⟩:∃x,l[k]?=some x:=⟨_,List.getElem?_eq_getElem ae⟩
       obtain⟨ba,oa,rfl,ci⟩:=(HAT.out.grows hg).get (aH ae);have c0:wr.cell? ⟨ba,oa+k*5,none⟩=some (.string xr):=ci k _ hx 0 _ rfl;have c1:wr.cell? ⟨ba,oa+k*5+1,none⟩=some (.string xs):=ci k _ hx 1 _ rfl;have c2:wr.cell? ⟨ba,oa+k*5+2,none⟩=some (.int .i64 xl):=ci k _ hx 2 _ rfl;have c3:wr.cell? ⟨ba,oa+k*5+3,none⟩=some (.int .i64 xt):=ci k _ hx 3 _ rfl;have c4:wr.cell? ⟨ba,oa+k*5+4,none⟩=some (.int .i64 xc):=ci k _ hx 4 _ rfl;have cw:=HS.out _ (List.mem_of_getElem? hx);simp only at cw;have CC:=λW h=>Ab (sA xr xs xl xt xc p.length W cw.1 cw.2 (HE.out.grows h));have HD:=iL0 (n:=p.length) hx;rw[hF.out]at HD;obtain⟨f,hf⟩:=exq (checkE ⟨xr,xs,xl,xt,xc⟩ p.length);rw[<-hf]at HD;have hff:checkS xr xs xl xt xc p.length=f:=hf.symm;simp only[hff]at CC;have CC1:=CC (wr.alloc (.cells #[.string xr,.string xs,.int .i64 xl,.int .i64 xt,.int .i64 xc] 30)) (hg.al _);have HD:=Ab HD;clear ci hx cw hf hff CC hF;go_wp2_with fail
       refine CC1.out.mono ?_;rintro e w2 ⟨rfl,af⟩;clear CC1;have bg:=aB.trans _ _ _ (hg.al _) af;by_cases hf0:f=0
       ·subst hf0
        have HX:Hid (iT p.length (l.drop (k+1))=iT p.length l):=by show _=_;rw[HD.out,if_pos rfl]
        clear HD;go_wp2_with fail
        go_roundw
        case rel=>exact⟨k+1,by omega,by go_num,HX,bg⟩
        case measure=>simp[intOf];omega
       ·go_wp2_with fail
        go_ret;exact⟨by rw[HD.out,if_neg hf0];rfl,bg⟩
      ·obtain rfl:k=l.length:=by omega
       have HX:Hid (iT p.length l=0):=by show _=_;rw[<-hF.out,List.drop_length];rfl
       clear hF;go_wp2_with fail
       go_ret;exact⟨by rw[HX.out];rfl,hg⟩
   ·rw[show (if true=false then (5:Int) else if (m.n:Int)=p.length then if 20000<l.length then 2 else iT p.length l else 5)=5 by simp[h1]]
    go_enter Tryz.func48,Tryz.ntmps48
    go_wp2_with fail
    refine CP.out.mono ?_;rintro e w1 ⟨rfl,aj⟩;have CZ1:=CZ w1 aj;clear CP CZ;go_wp2_with fail
    refine CZ1.out.mono ?_;rintro e w2 ⟨rfl,rfl⟩;clear CZ1;go_wp2
    go_ret;exact⟨rfl,aj⟩
end
section
open Go
theorem tW (s:ByteArray):fV s=(!s.toList.isEmpty&&decide (s.size<=16) && !(eU s.data.toList).any nameBad):=by
 unfold fV;rw[vO0]
end
section
open Go Go.RowKit
attribute [local go_sem] aK
end
section
open Go
theorem mS0 (s:ByteArray):readingS s=(Ac s.data.toList&&decide (1<=(eU s.data.toList).length)&&decide ((eU s.data.toList).length<=64) && !(eU s.data.toList).any kanaBad):=by
 unfold readingS countS;rw[vO0,wZ];cases Ac s.data.toList
 ·simp
 ·simp only[if_true,Ad]
  congr 2
  ·rw[Aa];simp only[decide_eq_true_eq];omega
  ·rw[Aa];simp only[decide_eq_true_eq];omega
theorem mJ0 (s:ByteArray):surfaceS s=(Ac s.data.toList&&decide (1<=(eU s.data.toList).length)&&decide ((eU s.data.toList).length<=64) && !(eU s.data.toList).any surfBad):=by
 unfold surfaceS countS;rw[vO0,wZ];cases Ac s.data.toList
 ·simp
 ·simp only[if_true,Ad]
  congr 2
  ·rw[Aa];simp only[decide_eq_true_eq];omega
  ·rw[Aa];simp only[decide_eq_true_eq];omega
end
section
open Go Go.RowKit
attribute [local go_sem] aK
end
end Go.Proofs.YthgklnohcmaopaaGreatDoor
