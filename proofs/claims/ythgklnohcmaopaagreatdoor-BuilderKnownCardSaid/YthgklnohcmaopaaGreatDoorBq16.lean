/- The texts NamedD OpenE OpenS Slc Kana Echk Bchk Runes KanaP RefK, one behind the other. -/
import Derived.Test.YthgklnohcmaopaaGreatDoorBq3
import Derived.Test.YthgklnohcmaopaaGreatDoorBq13
import Derived.Test.YthgklnohcmaopaaGreatDoorBq15
import Derived.Test.YthgklnohcmaopaaGreatDoorBq2
import Derived.ChangeSame
import Derived.ChangeMaps5
import Derived.Deep.Slices
import Derived.SizedLaws
import Derived.Test.YthgklnohcmaopaaGreatDoorBq9
import Derived.Test.YthgklnohcmaopaaGreatDoorBq1
open Go.Lib renaming hid → Aa,idxFunc → Ac,validD → Ag
open List renaming getElem?_map → Ab,map_eq_nil_iff → Ad,getElem?_take → Ae
open Bool renaming eq_iff_iff → Af
set_option maxHeartbeats 4000000
namespace Go.Proofs.YthgklnohcmaopaaGreatDoor
set_option maxRecDepth 100000
section
open Go
theorem qW0 (s:ByteArray):oB s=(!s.toList.isEmpty&&decide (s.size<=16) && !(lW s.data.toList).any nameBad):=by
 unfold oB;rw[yK0]
end
section
open Go Go.ChangeShapes Go.WideShapes Go.ChangeAt Go.RowKit Go.Shelf Go.Lib
open Go.ChangeMaps (open_string shut_string)
end
section
open Go Go.ChangeShapes Go.WideShapes Go.ChangeAt Go.RowKit Go.Shelf Go.Lib
open Go.ChangeMaps (open_string shut_string)
section
variable {H:Type} {enc:TypeId×Value->H} {W:World} {base b0:Nat} {sp:Nat->Bool} {hd:Bool} {r:Reach} {v:Value} {d:DataW H} {ps:List MemPlace}
end
end
section
open Go Go.RowKit
theorem rW {α:Type} {enc:α->List Value} {k:Nat} {w:World} {a:Option Addr} {xs:List α} {c l h:Nat} (ac:aF w a k (xs.map enc)) (hn:a=none->c=0) (_:l<=h) (hh:h<=xs.length) (hc:xs.length<=c) :
  ∃a',sliced a l h c k=.slice a' (h-l) (c-l)/\aF w a' k (((xs.take h).drop l).map enc)/\(a'=none->c-l=0):=by
 unfold sliced;by_cases hm:c=l
 ·rw[if_pos hm]
  refine⟨a,rfl,?_,λ_=>by omega⟩
  have:(xs.take h).drop l=[]:=List.drop_eq_nil_of_le (by rw[List.length_take];omega)
  rw[this];exact aF.nil _ _ _
 ·rw[if_neg hm]
  refine⟨_,rfl,λaq=>?_,λh0=>?_⟩
  ·have hx:xs.map enc≠[]:=by
    rintro e;rw[Ad]at e;subst e;simp at aq
   obtain⟨b,off,rfl,bi⟩:=ac hx;refine⟨b,off+l*k,by rw[Option.map_some,jF],λi row hi j v hj=>?_⟩;rw[Ab,List.getElem?_drop]at hi
   have h1:(xs.map enc)[l+i]?=some row:=by
    rw[Ab];rw[Ae]at hi;split at hi
    ·exact hi
    ·cases hi
   have:=bi (l+i) row h1 j v hj
   rwa [Nat.add_mul,<-Nat.add_assoc]at this
  ·have h1:a=none:=by cases a with
    | none=>rfl
    | some x=>simp at h0
   have:=hn h1
   omega
theorem pJ0 {α:Type} {enc:α->List Value} {k:Nat} {w:World} {a:Option Addr} {xs:List α} (h:aF w a k (xs.map enc)) (n:Nat):aF w a k ((xs.take n).map enc):=λaq=>by
 have hx:xs.map enc≠[]:=by
  rintro e;rw[Ad]at e;subst e;simp at aq
 obtain⟨b,off,ha,hc⟩:=h hx;refine⟨b,off,ha,λi row hi j v hj=>hc i row ?_ j v hj⟩;rw[Ab]at hi ⊢;rw[Ae]at hi;split at hi
 ·exact hi
 ·cases hi
end
section
open Go Go.RowKit Go.Shelf
attribute [local go_sem] aM
def countS (s:ByteArray):Int:=if Ag s.data.toList then (Lib.runeCount s:Int) else -1
theorem xE (s:ByteArray) (w:World) (hs:s.size<9223372036854775807) (he:Env w) :
  Calls Tryz.prog 10 #[.string s] w λe w'=>e=.returned (.int .i64 (countS s))/\aB w w':=by
 have cV:Calls Tryz.prog 43 #[.string s] w _:=Any.utf8_ValidString Tryz.laysValid s w (by omega) he.utf;have CV:=Aa cV;clear cV he;unfold countS;generalize Ag s.data.toList=v at CV ⊢;have HS:=Aa hs;clear hs;cases v
 ·go_enter Tryz.func10,Tryz.ntmps10
  go_wp2_with (go_at_call 43;refine CV.out.mono ?_;rintro e w' ⟨rfl,hg⟩)
  go_ret;exact⟨rfl,hg⟩
 ·go_enter Tryz.func10,Tryz.ntmps10
  go_wp2_with (first|(go_at_call 43;refine CV.out.mono ?_;rintro e w' ⟨rfl,hg⟩)|(go_at_call 44;refine(Tryz.utf8_RuneCountInString s _ HS.out).mono ?_;rintro e w2 ⟨rfl,pos,rfl⟩))
  go_ret;exact⟨rfl,hg.trans (Below.mono (jL0 _ _ _) hg.size)⟩
def qS (c:Int):Bool:=decide (12353<=c)&&decide (c<=12438)
def mH0 (c:Int) (w:World) (e:Ending) (w':World):Prop:=∃r:Int,e=.returned (.int .i64 r)/\(r=1↔qS c=true)/\w=w'
theorem oA0 (c:Int) (w:World):Calls Tryz.prog 106 #[.int .i32 c] w (mH0 c w):=by
 by_cases h1:12353<=c
 ·by_cases h2:c<=12438
  ·go_enter Tryz.func106,Tryz.ntmps106
   go_wp2
   go_ret;exact⟨1,rfl,by simp[qS,h1,h2],rfl⟩
  ·have hN:=Aa (show ∀r:Int,r≠1->(r=1↔qS c=true) from λr hr=>by simp[qS,h2,hr])
   go_enter Tryz.func106,Tryz.ntmps106
   go_wp2
   all_goals (go_ret;exact⟨_,rfl,hN.out _ (by decide),rfl⟩)
 ·have hN:=Aa (show ∀r:Int,r≠1->(r=1↔qS c=true) from λr hr=>by simp[qS,h1,hr])
  have h2:c<12353:=by omega
  go_enter Tryz.func106,Tryz.ntmps106
  go_wp2
  all_goals (go_ret;exact⟨_,rfl,hN.out _ (by decide),rfl⟩)
def kanaBad (c:Nat):Bool := !((c:Int)==12540) && !qS c
theorem cE0 (w:World):PredAt Tryz.prog 219 #[] encR kanaBad w:=λW x _=>by
 unfold FnGives;show Calls Tryz.prog 219 #[.int .i32 (x:Int)] W _
 unfold kanaBad;have ew:=Aa (oA0 (x:Int) W);generalize (x:Int)=c at ew ⊢;by_cases h:c=12540
 ·subst h
  go_enter Tryz.func219,Tryz.ntmps219
  go_wp2
  go_ret;exact⟨rfl,0,rfl⟩
 ·have h1:(c != 12540)=true:=by simp[h]
  have h2:(!(c==12540))=true:=by simp[h]
  rw[h2,Bool.true_and];generalize hh:qS c=hb at ew ⊢;have HH:=Aa hh;clear hh h h2;go_enter Tryz.func219,Tryz.ntmps219
  go_wp2_with (go_at_call 106;refine ew.out.mono ?_;rintro e w' ⟨r,rfl,hr,rfl⟩;have HR:=Aa hr;clear hr)
  all_goals (go_ret;refine⟨cX ?_,0,rfl⟩;have h1:=HR.out;rw[HH.out]at h1;rw[Af];simp;rw[h1];simp)
def readingS (s:ByteArray):Bool:=decide (1<=countS s)&&decide (countS s<=64) && !decide (0<=Ac kanaBad true s)
def surfBad (c:Nat):Bool:=decide ((c:Int)<32)||(decide (127<=(c:Int))&&decide ((c:Int)<=159))
def surfaceS (s:ByteArray):Bool:=decide (1<=countS s)&&decide (countS s<=64) && !decide (0<=Ac surfBad true s)
theorem dN0 (s:ByteArray) (w:World) (hs:s.size<9223372036854775807) (he:Env w) :
  Calls Tryz.prog 159 #[.string s] w λe w'=>e=.returned (.bool (readingS s))/\aB w w':=by
 have C1:=Aa (xE s w hs he);have C2:∀W,Hid (Calls Tryz.prog 200 _ W _):=λW=>Aa (Tryz.strings_ContainsFunc 219 #[] (enters_of Tryz.func219 (by kernel_rfl) rfl) kanaBad s W (cE0 W));clear hs he;unfold readingS;generalize countS s=n at C1 ⊢;generalize decide (0<=Ac kanaBad true s)=r at C2 ⊢;by_cases h1:1<=n
 ·by_cases h2:n<=64
  ·go_enter Tryz.func159,Tryz.ntmps159
   go_wp2_with (first|(go_at_call 10;refine C1.out.mono ?_;rintro e w1 ⟨rfl,hg⟩)|(go_at_call 200;refine(C2 _).out.mono ?_;rintro e w2 ⟨rfl,ah⟩))
   go_ret;exact⟨cX (by simp[h1,h2]),hg.tr ah⟩
  ·go_enter Tryz.func159,Tryz.ntmps159
   go_wp2_with (first|(go_at_call 10;refine C1.out.mono ?_;rintro e w1 ⟨rfl,hg⟩))
   go_ret;exact⟨cX (by simp;omega),hg⟩
 ·go_enter Tryz.func159,Tryz.ntmps159
  go_wp2_with (first|(go_at_call 10;refine C1.out.mono ?_;rintro e w1 ⟨rfl,hg⟩))
  go_ret;exact⟨cX (by simp;omega),hg⟩
theorem lL0 (w:World):PredAt Tryz.prog 220 #[] encR surfBad w:=λW x _=>by
 unfold FnGives;show Calls Tryz.prog 220 #[.int .i32 (x:Int)] W _
 unfold surfBad;generalize (x:Int)=c;go_enter Tryz.func220,Tryz.ntmps220
 go_wp2
 all_goals (go_ret;refine⟨cX ?_,0,rfl⟩;first|rfl|(rw[Af];simp;try omega))
theorem zC (s:ByteArray) (w:World) (hs:s.size<9223372036854775807) (he:Env w) :
  Calls Tryz.prog 160 #[.string s] w λe w'=>e=.returned (.bool (surfaceS s))/\aB w w':=by
 have C1:=Aa (xE s w hs he);have C2:∀W,Hid (Calls Tryz.prog 200 _ W _):=λW=>Aa (Tryz.strings_ContainsFunc 220 #[] (enters_of Tryz.func220 (by kernel_rfl) rfl) surfBad s W (lL0 W));clear hs he;unfold surfaceS;generalize countS s=n at C1 ⊢;generalize decide (0<=Ac surfBad true s)=r at C2 ⊢;by_cases h1:1<=n
 ·by_cases h2:n<=64
  ·go_enter Tryz.func160,Tryz.ntmps160
   go_wp2_with (first|(go_at_call 10;refine C1.out.mono ?_;rintro e w1 ⟨rfl,hg⟩)|(go_at_call 200;refine(C2 _).out.mono ?_;rintro e w2 ⟨rfl,ah⟩))
   go_ret;exact⟨cX (by simp[h1,h2]),hg.tr ah⟩
  ·go_enter Tryz.func160,Tryz.ntmps160
   go_wp2_with (first|(go_at_call 10;refine C1.out.mono ?_;rintro e w1 ⟨rfl,hg⟩))
   go_ret;exact⟨cX (by simp;omega),hg⟩
 ·go_enter Tryz.func160,Tryz.ntmps160
  go_wp2_with (first|(go_at_call 10;refine C1.out.mono ?_;rintro e w1 ⟨rfl,hg⟩))
  go_ret;exact⟨cX (by simp;omega),hg⟩
def bW0 (r s:ByteArray) (l t c n:Int):Int :=
 if readingS r&&surfaceS s then (if l<0\/n<=l\/t<0\/n<=t then 150 else if c<0\/30000<c then 6 else 0) else 5
theorem iA0 (r s:ByteArray) (l t c n:Int) (w:World) (hr:r.size<9223372036854775807) (hs:s.size<9223372036854775807) (he:Env w) :
  Calls Tryz.prog 88 #[.agg #[.string r,.string s,.int .i64 l,.int .i64 t,.int .i64 c],.int .i64 n] w λe w'=>e=.returned (.int .i64 (bW0 r s l t c n))/\aB w w':=by
 have C1:∀W,aB w W->Hid (Calls Tryz.prog 159 _ W _):=λW hW=>Aa (dN0 r W hr (he.grows hW));have C2:∀W,aB w W->Hid (Calls Tryz.prog 160 _ W _):=λW hW=>Aa (zC s W hs (he.grows hW));unfold bW0;clear hr hs he;generalize readingS r=br at C1 ⊢;generalize surfaceS s=bs at C2 ⊢;cases br
 ·go_enter Tryz.func88,Tryz.ntmps88
  go_wp2_with (first|(go_at_call 159;refine(C1 _ (aB.alloc _ _)).out.mono ?_;rintro e w1 ⟨rfl,hg⟩))
  go_ret;exact⟨rfl,(aB.alloc _ _).tr hg⟩
 ·cases bs
  ·go_enter Tryz.func88,Tryz.ntmps88
   go_wp2_with (first|(go_at_call 159;refine(C1 _ (aB.alloc _ _)).out.mono ?_;rintro e w1 ⟨rfl,hg⟩;have av:=(aB.alloc _ _).tr hg;have b1:w1.cell? ⟨w.heap.size,1,none⟩=some (.string s):=hg.cell (aU _ _ _ _ 1 _ rfl))|(go_at_call 160;refine(C2 _ av).out.mono ?_;rintro e w2 ⟨rfl,ah⟩))
   go_ret;exact⟨rfl,av.tr ah⟩
  ·rw[if_pos (by rfl)]
   go_enter Tryz.func88,Tryz.ntmps88
   go_wp2_with (first|(go_at_call 159;refine(C1 _ (aB.alloc _ _)).out.mono ?_;rintro e w1 ⟨rfl,hg⟩;have av:=(aB.alloc _ _).tr hg;have b1:w1.cell? ⟨w.heap.size,1,none⟩=some (.string s):=hg.cell (aU _ _ _ _ 1 _ rfl);have b2:w1.cell? ⟨w.heap.size,2,none⟩=some (.int .i64 l):=hg.cell (aU _ _ _ _ 2 _ rfl);have b3:w1.cell? ⟨w.heap.size,3,none⟩=some (.int .i64 t):=hg.cell (aU _ _ _ _ 3 _ rfl);have b4:w1.cell? ⟨w.heap.size,4,none⟩=some (.int .i64 c):=hg.cell (aU _ _ _ _ 4 _ rfl))|(go_at_call 160;refine(C2 _ av).out.mono ?_;rintro e w2 ⟨rfl,ah⟩;have d2:=ah.cell b2;have d3:=ah.cell b3;have d4:=ah.cell b4))
   all_goals (go_ret;exact⟨rfl,av.tr ah⟩)
end
section
open Go Go.RowKit
attribute [local go_sem] aM
def mZ (x:En) (n:Int):Int:=bW0 x.r x.s x.l x.t x.c n
def iG (n:Int):List En->Int
 | []=>0
 | x::l=>if mZ x n=0 then iG n l else mZ x n
theorem dJ0 {n:Int} {l:List En} {k:Nat} {x:En} (hx:l[k]?=some x):iG n (l.drop k)=if mZ x n=0 then iG n (l.drop (k+1)) else mZ x n:=by
 rw[List.drop_eq_getElem_cons (List.getElem?_eq_some_iff.1 hx).1,(List.getElem?_eq_some_iff.1 hx).2];rfl
def sF0 (w:World) (v:Value):Option Mx->Prop
 | none=>v=.pointer none
 | some m=>∃mb bm,v=.pointer (some ⟨mb,0,none⟩)/\jR w mb bm m
theorem sF0.grows {w w':World} {v:Value} {m:Option Mx} (h:sF0 w v m) (hg:aB w w'):sF0 w' v m:=by
 cases m with
 | none=>exact h
 | some m=>obtain⟨mb,bm,e,h⟩:=h;exact⟨mb,bm,e,h.grows hg⟩
def cS0 (p:List eP) (m:Option Mx) (l:List En):Int :=
 if dQ p=false then 5 else match m with
  | none=>9
  | some m=>if (m.n:Int)=p.length then (if 20000<l.length then 2 else iG p.length l) else 5
theorem vM (p:List eP) (mv:Value) (m:Option Mx) (l:List En) (pa a:Option Addr) (pc c:Nat) (w:World) (he:Env w) (hp:p.length<=4611686018427387904) (hl:l.length<=140737488355328) (hs:∀x∈l,x.r.size<9223372036854775807/\x.s.size<9223372036854775807)
  (nr:aF w pa 2 (p.map cG)) (hm:sF0 w mv m) (ac:aF w a 5 (l.map aZ)) :
  Calls Tryz.prog 48 #[.slice pa p.length pc,mv,.slice a l.length c] w λe w'=>e=.returned (.int .i64 (cS0 p m l))/\aB w w':=by
 have HAT:=Aa ac;have HE:=Aa he;have HS:=Aa hs;have HM:=Aa hm;have CP:=Aa (bE0 p pa pc w nr hp);unfold cS0 zN0 at *;clear ac he hs hm nr
 cases hv:dQ p with
 | false =>
  rw[hv]at CP;clear hv;go_enter Tryz.func48,Tryz.ntmps48
  go_wp2_with fail
  refine CP.out.mono ?_;rintro e w1 ⟨rfl,av⟩;go_wp2
  go_ret;exact⟨rfl,av⟩
 | true =>
  rw[hv]at CP;clear hv
  cases m with
  | none =>
   obtain rfl:mv=.pointer none:=HM.out;go_enter Tryz.func48,Tryz.ntmps48
   go_wp2_with fail
   refine CP.out.mono ?_;rintro e w1 ⟨rfl,av⟩;go_wp2
   go_ret;exact⟨rfl,av⟩
  | some m =>
   obtain⟨mb,bm,rfl,hma⟩:=HM.out;have CZ:=λW h=>Aa (gS0 W mb bm m (hma.grows h));clear HM hma;by_cases h1:(m.n:Int)=p.length
   ·by_cases h2:20000<l.length
    ·have h2i:(20000:Int)<l.length:=by omega
     rw[show (if true=false then (5:Int) else if (m.n:Int)=p.length then if 20000<l.length then 2 else iG p.length l else 5)=2 by simp[h1,h2]]
     go_enter Tryz.func48,Tryz.ntmps48
     go_wp2_with fail
     refine CP.out.mono ?_;rintro e w1 ⟨rfl,av⟩;have CZ1:=CZ w1 av;clear CP CZ;go_wp2_with fail
     refine CZ1.out.mono ?_;rintro e w2 ⟨rfl,rfl⟩;clear CZ1;go_wp2
     go_ret;exact⟨rfl,av⟩
    ·have h2i:¬(20000:Int)<l.length:=by omega
     rw[show (if true=false then (5:Int) else if (m.n:Int)=p.length then if 20000<l.length then 2 else iG p.length l else 5)=iG p.length l by simp[h1,h2]]
     go_enter Tryz.func48,Tryz.ntmps48
     go_wp2_with fail
     refine CP.out.mono ?_;rintro e w1 ⟨rfl,av⟩;have CZ1:=CZ w1 av;clear CP CZ;go_wp2_with fail
     refine CZ1.out.mono ?_;rintro e w2 ⟨rfl,rfl⟩;clear CZ1;clear h2;go_wp2_with fail
     clear h1;go_loopw [29] (λi wr=>∃(k:Nat),k<=l.length/\i=.int .i64 k/\Hid (iG p.length (l.drop k)=iG p.length l)/\aB w wr) (λi _=>l.length-(intOf i).toNat)
     case atStart=>exact⟨0,Nat.zero_le _,rfl,rfl,av⟩
     case round =>
      obtain⟨k,hk,rfl,hF,hg⟩:=hrel;by_cases ae:k<l.length
      ·obtain⟨⟨xr,xs,xl,xt,xc⟩,hx⟩:∃x,l[k]?=some x:=⟨_,List.getElem?_eq_getElem ae⟩
       obtain⟨ba,oa,rfl,cm⟩:=(HAT.out.grows hg).get (aH ae);have c0:wr.cell? ⟨ba,oa+k*5,none⟩=some (.string xr):=cm k _ hx 0 _ rfl;have c1:wr.cell? ⟨ba,oa+k*5+1,none⟩=some (.string xs):=cm k _ hx 1 _ rfl;have c2:wr.cell? ⟨ba,oa+k*5+2,none⟩=some (.int .i64 xl):=cm k _ hx 2 _ rfl;have c3:wr.cell? ⟨ba,oa+k*5+3,none⟩=some (.int .i64 xt):=cm k _ hx 3 _ rfl;have c4:wr.cell? ⟨ba,oa+k*5+4,none⟩=some (.int .i64 xc):=cm k _ hx 4 _ rfl;have cz:=HS.out _ (List.mem_of_getElem? hx);simp only at cz;have CC:=λW h=>Aa (iA0 xr xs xl xt xc p.length W cz.1 cz.2 (HE.out.grows h));have HD:=dJ0 (n:=p.length) hx;rw[hF.out]at HD;obtain⟨f,hf⟩:=exq (mZ ⟨xr,xs,xl,xt,xc⟩ p.length);rw[<-hf]at HD;have hff:bW0 xr xs xl xt xc p.length=f:=hf.symm;simp only[hff]at CC;have CC1:=CC (wr.alloc (.cells #[.string xr,.string xs,.int .i64 xl,.int .i64 xt,.int .i64 xc] 30)) (hg.al _);have HD:=Aa HD;clear cm hx cz hf hff CC hF;go_wp2_with fail
       refine CC1.out.mono ?_;rintro e w2 ⟨rfl,ah⟩;clear CC1;have bv:=aB.trans _ _ _ (hg.al _) ah;by_cases hf0:f=0
       ·subst hf0
        have HX:Hid (iG p.length (l.drop (k+1))=iG p.length l):=by show _=_;rw[HD.out,if_pos rfl]
        clear HD;go_wp2_with fail
        go_roundw
        case rel=>exact⟨k+1,by omega,by go_num,HX,bv⟩
        case measure=>simp[intOf];omega
       ·go_wp2_with fail
        go_ret;exact⟨by rw[HD.out,if_neg hf0];rfl,bv⟩
      ·obtain rfl:k=l.length:=by omega
       have HX:Hid (iG p.length l=0):=by show _=_;rw[<-hF.out,List.drop_length];rfl
       clear hF;go_wp2_with fail
       go_ret;exact⟨by rw[HX.out];rfl,hg⟩
   ·rw[show (if true=false then (5:Int) else if (m.n:Int)=p.length then if 20000<l.length then 2 else iG p.length l else 5)=5 by simp[h1]]
    go_enter Tryz.func48,Tryz.ntmps48
    go_wp2_with fail
    refine CP.out.mono ?_;rintro e w1 ⟨rfl,av⟩;have CZ1:=CZ w1 av;clear CP CZ;go_wp2_with fail
    refine CZ1.out.mono ?_;rintro e w2 ⟨rfl,rfl⟩;clear CZ1;go_wp2
    go_ret;exact⟨rfl,av⟩
end
section
open Go
end
section
open Go Go.RowKit
attribute [local go_sem] aM
end
end Go.Proofs.YthgklnohcmaopaaGreatDoor
