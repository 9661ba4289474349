/- The texts Kana Echk OpenE OpenS Slc, one behind the other. -/
import Derived.Test.YthgklnohcmaopaaGreatDoorTq6
import Derived.Test.YthgklnohcmaopaaGreatDoorTq3
import Derived.Test.YthgklnohcmaopaaGreatDoorTq2
import Derived.ChangeSame
import Derived.ChangeMaps5
import Derived.Deep.Slices
import Derived.SizedLaws
open Go.Lib renaming hid → Aa,idxFunc → Ac,validD → Ag
open List renaming getElem?_map → Ab,map_eq_nil_iff → Ad,getElem?_take → Ae
open Bool renaming eq_iff_iff → Af
set_option maxHeartbeats 4000000
namespace Go.Proofs.YthgklnohcmaopaaGreatDoor
set_option maxRecDepth 100000
section
open Go Go.RowKit Go.Shelf
attribute [local go_sem] aK
def countS (s:ByteArray):Int:=if Ag s.data.toList then (Lib.runeCount s:Int) else -1
theorem zW (s:ByteArray) (w:World) (hs:s.size<9223372036854775807) (he:Env w) :
  Calls Tryz.prog 10 #[.string s] w λe w'=>e=.returned (.int .i64 (countS s))/\aB w w':=by
 have cV:Calls Tryz.prog 43 #[.string s] w _:=Any.utf8_ValidString Tryz.laysValid s w (by omega) he.utf;have CV:=Aa cV;clear cV he;unfold countS;generalize Ag s.data.toList=v at CV ⊢;have HS:=Aa hs;clear hs;cases v
 ·go_enter Tryz.func10,Tryz.ntmps10
  go_wp2_with (go_at_call 43;refine CV.out.mono ?_;rintro e w' ⟨rfl,hg⟩)
  go_ret;exact⟨rfl,hg⟩
 ·go_enter Tryz.func10,Tryz.ntmps10
  go_wp2_with (first|(go_at_call 43;refine CV.out.mono ?_;rintro e w' ⟨rfl,hg⟩)|(go_at_call 44;refine(Tryz.utf8_RuneCountInString s _ HS.out).mono ?_;rintro e w2 ⟨rfl,pos,rfl⟩))
  go_ret;exact⟨rfl,hg.trans (Below.mono (nN0 _ _ _) hg.size)⟩
def pW (c:Int):Bool:=decide (12353<=c)&&decide (c<=12438)
def qU0 (c:Int) (w:World) (e:Ending) (w':World):Prop:=∃r:Int,e=.returned (.int .i64 r)/\(r=1↔pW c=true)/\w=w'
theorem pP0 (c:Int) (w:World):Calls Tryz.prog 106 #[.int .i32 c] w (qU0 c w):=by
 by_cases h1:12353<=c
 ·by_cases h2:c<=12438
  ·go_enter Tryz.func106,Tryz.ntmps106
   go_wp2
   go_ret;exact⟨1,rfl,by simp[pW,h1,h2],rfl⟩
  ·have hN:=Aa (show ∀r:Int,r≠1->(r=1↔pW c=true) from λr hr=>by simp[pW,h2,hr])
   go_enter Tryz.func106,Tryz.ntmps106
   go_wp2
   all_goals (go_ret;exact⟨_,rfl,hN.out _ (by decide),rfl⟩)
 ·have hN:=Aa (show ∀r:Int,r≠1->(r=1↔pW c=true) from λr hr=>by simp[pW,h1,hr])
  have h2:c<12353:=by omega
  go_enter Tryz.func106,Tryz.ntmps106
  go_wp2
  all_goals (go_ret;exact⟨_,rfl,hN.out _ (by decide),rfl⟩)
def kanaBad (c:Nat):Bool := !((c:Int)==12540) && !pW c
theorem dM0 (w:World):PredAt Tryz.prog 219 #[] encR kanaBad w:=λW x _=>by
 unfold FnGives;show Calls Tryz.prog 219 #[.int .i32 (x:Int)] W _
 unfold kanaBad;have d5:=Aa (pP0 (x:Int) W);generalize (x:Int)=c at d5 ⊢;by_cases h:c=12540
 ·subst h
  go_enter Tryz.func219,Tryz.ntmps219
  go_wp2
  go_ret;exact⟨rfl,0,rfl⟩
 ·have h1:(c != 12540)=true:=by simp[h]
  have h2:(!(c==12540))=true:=by simp[h]
  rw[h2,Bool.true_and];generalize hh:pW c=hb at d5 ⊢;have HH:=Aa hh;clear hh h h2;go_enter Tryz.func219,Tryz.ntmps219
  go_wp2_with (go_at_call 106;refine d5.out.mono ?_;rintro e w' ⟨r,rfl,hr,rfl⟩;have HR:=Aa hr;clear hr)
  all_goals (go_ret;refine⟨cT ?_,0,rfl⟩;have h1:=HR.out;rw[HH.out]at h1;rw[Af];simp;rw[h1];simp)
def readingS (s:ByteArray):Bool:=decide (1<=countS s)&&decide (countS s<=64) && !decide (0<=Ac kanaBad true s)
def surfBad (c:Nat):Bool:=decide ((c:Int)<32)||(decide (127<=(c:Int))&&decide ((c:Int)<=159))
def surfaceS (s:ByteArray):Bool:=decide (1<=countS s)&&decide (countS s<=64) && !decide (0<=Ac surfBad true s)
theorem gE0 (s:ByteArray) (w:World) (hs:s.size<9223372036854775807) (he:Env w) :
  Calls Tryz.prog 159 #[.string s] w λe w'=>e=.returned (.bool (readingS s))/\aB w w':=by
 have C1:=Aa (zW s w hs he);have C2:∀W,Hid (Calls Tryz.prog 200 _ W _):=λW=>Aa (Tryz.strings_ContainsFunc 219 #[] (enters_of Tryz.func219 (by kernel_rfl) rfl) kanaBad s W (dM0 W));clear hs he;unfold readingS;generalize countS s=n at C1 ⊢;generalize decide (0<=Ac kanaBad true s)=r at C2 ⊢;by_cases h1:1<=n
 ·by_cases h2:n<=64
  ·go_enter Tryz.func159,Tryz.ntmps159
   go_wp2_with (first|(go_at_call 10;refine C1.out.mono ?_;rintro e w1 ⟨rfl,hg⟩)|(go_at_call 200;refine(C2 _).out.mono ?_;rintro e w2 ⟨rfl,af⟩))
   go_ret;exact⟨cT (by simp[h1,h2]),hg.tr af⟩
  ·go_enter Tryz.func159,Tryz.ntmps159
   go_wp2_with (first|(go_at_call 10;refine C1.out.mono ?_;rintro e w1 ⟨rfl,hg⟩))
   go_ret;exact⟨cT (by simp;omega),hg⟩
 ·go_enter Tryz.func159,Tryz.ntmps159
  go_wp2_with (first|(go_at_call 10;refine C1.out.mono ?_;rintro e w1 ⟨rfl,hg⟩))
  go_ret;exact⟨cT (by simp;omega),hg⟩
theorem sI0 (w:World):PredAt Tryz.prog 220 #[] encR surfBad w:=λW x _=>by
 unfold FnGives;show Calls Tryz.prog 220 #[.int .i32 (x:Int)] W _
 unfold surfBad;generalize (x:Int)=c;go_enter Tryz.func220,Tryz.ntmps220
 go_wp2
 all_goals (go_ret;refine⟨cT ?_,0,rfl⟩;first|rfl|(rw[Af];simp;try omega))
theorem bI0 (s:ByteArray) (w:World) (hs:s.size<9223372036854775807) (he:Env w) :
  Calls Tryz.prog 160 #[.string s] w λe w'=>e=.returned (.bool (surfaceS s))/\aB w w':=by
 have C1:=Aa (zW s w hs he);have C2:∀W,Hid (Calls Tryz.prog 200 _ W _):=λW=>Aa (Tryz.strings_ContainsFunc 220 #[] (enters_of Tryz.func220 (by kernel_rfl) rfl) surfBad s W (sI0 W));clear hs he;unfold surfaceS;generalize countS s=n at C1 ⊢;generalize decide (0<=Ac surfBad true s)=r at C2 ⊢;by_cases h1:1<=n
 ·by_cases h2:n<=64
  ·go_enter Tryz.func160,Tryz.ntmps160
   go_wp2_with (first|(go_at_call 10;refine C1.out.mono ?_;rintro e w1 ⟨rfl,hg⟩)|(go_at_call 200;refine(C2 _).out.mono ?_;rintro e w2 ⟨rfl,af⟩))
   go_ret;exact⟨cT (by simp[h1,h2]),hg.tr af⟩
  ·go_enter Tryz.func160,Tryz.ntmps160
   go_wp2_with (first|(go_at_call 10;refine C1.out.mono ?_;rintro e w1 ⟨rfl,hg⟩))
   go_ret;exact⟨cT (by simp;omega),hg⟩
 ·go_enter Tryz.func160,Tryz.ntmps160
  go_wp2_with (first|(go_at_call 10;refine C1.out.mono ?_;rintro e w1 ⟨rfl,hg⟩))
  go_ret;exact⟨cT (by simp;omega),hg⟩
def checkS (r s:ByteArray) (l t c n:Int):Int :=
 if readingS r&&surfaceS s then (if l<0\/n<=l\/t<0\/n<=t then 150 else if c<0\/30000<c then 6 else 0) else 5
theorem sA (r s:ByteArray) (l t c n:Int) (w:World) (hr:r.size<9223372036854775807) (hs:s.size<9223372036854775807) (he:Env w) :
  Calls Tryz.prog 88 #[.agg #[.string r,.string s,.int .i64 l,.int .i64 t,.int .i64 c],.int .i64 n] w λe w'=>e=.returned (.int .i64 (checkS r s l t c n))/\aB w w':=by
 have C1:∀W,aB w W->Hid (Calls Tryz.prog 159 _ W _):=λW hW=>Aa (gE0 r W hr (he.grows hW));have C2:∀W,aB w W->Hid (Calls Tryz.prog 160 _ W _):=λW hW=>Aa (bI0 s W hs (he.grows hW));unfold checkS;clear hr hs he;generalize readingS r=br at C1 ⊢;generalize surfaceS s=bs at C2 ⊢;cases br
 ·go_enter Tryz.func88,Tryz.ntmps88
  go_wp2_with (first|(go_at_call 159;refine(C1 _ (aB.alloc _ _)).out.mono ?_;rintro e w1 ⟨rfl,hg⟩))
  go_ret;exact⟨rfl,(aB.alloc _ _).tr hg⟩
 ·cases bs
  ·go_enter Tryz.func88,Tryz.ntmps88
   go_wp2_with (first|(go_at_call 159;refine(C1 _ (aB.alloc _ _)).out.mono ?_;rintro e w1 ⟨rfl,hg⟩;have aj:=(aB.alloc _ _).tr hg;have b1:w1.cell? ⟨w.heap.size,1,none⟩=some (.string s):=hg.cell (aM _ _ _ _ 1 _ rfl))|(go_at_call 160;refine(C2 _ aj).out.mono ?_;rintro e w2 ⟨rfl,af⟩))
   go_ret;exact⟨rfl,aj.tr af⟩
  ·rw[if_pos (by rfl)]
   go_enter Tryz.func88,Tryz.ntmps88
   go_wp2_with (first|(go_at_call 159;refine(C1 _ (aB.alloc _ _)).out.mono ?_;rintro e w1 ⟨rfl,hg⟩;have aj:=(aB.alloc _ _).tr hg;have b1:w1.cell? ⟨w.heap.size,1,none⟩=some (.string s):=hg.cell (aM _ _ _ _ 1 _ rfl);have b2:w1.cell? ⟨w.heap.size,2,none⟩=some (.int .i64 l):=hg.cell (aM _ _ _ _ 2 _ rfl);have b3:w1.cell? ⟨w.heap.size,3,none⟩=some (.int .i64 t):=hg.cell (aM _ _ _ _ 3 _ rfl);have b4:w1.cell? ⟨w.heap.size,4,none⟩=some (.int .i64 c):=hg.cell (aM _ _ _ _ 4 _ rfl))|(go_at_call 160;refine(C2 _ aj).out.mono ?_;rintro e w2 ⟨rfl,af⟩;have d2:=af.cell b2;have d3:=af.cell b3;have d4:=af.cell b4))
   all_goals (go_ret;exact⟨rfl,aj.tr af⟩)
end
section
open Go Go.ChangeShapes Go.WideShapes Go.ChangeAt Go.RowKit Go.Shelf Go.Lib
open Go.ChangeMaps (open_string shut_string)
end
section
open Go Go.ChangeShapes Go.WideShapes Go.ChangeAt Go.RowKit Go.Shelf Go.Lib
open Go.ChangeMaps (open_string shut_string)
theorem sQ0 {H:Type} {enc:TypeId×Value->H} {W:World} {base:Nat} {sp:Nat->Bool} {hd:Bool} (n:Nat) (cs:List Value) (x:DataW H×List MemPlace) (hl:cs.length=5) (h:DataW.trod enc Tryz.prog W base sp hd n 30 cs=some x) :
  ∃y:En,cs=aZ y/\tL y:=by
 obtain⟨xs,n,_,hx,_,an,ay⟩:=DataW.trod_struct Tryz.underlying30 h
 match cs,hl with
 | [c0,c1,c2,c3,c4],_ =>
  match xs,an with
  | [y0,y1,y2,y3,y4],_ =>
   have g0:=ay 0 _ rfl;have g1:=ay 1 _ rfl;have g2:=ay 2 _ rfl;have g3:=ay 3 _ rfl;have g4:=ay 4 _ rfl;obtain⟨s0,k0,_,z0⟩:=DataW.trod_string Tryz.underlying9 g0;obtain⟨s1,k1,_,z1⟩:=DataW.trod_string Tryz.underlying9 g1;obtain⟨n2,k2,_,z2⟩:=DataW.trod_int Tryz.underlying3 g2;obtain⟨n3,k3,_,z3⟩:=DataW.trod_int Tryz.underlying3 g3;obtain⟨n4,k4,_,z4⟩:=DataW.trod_int Tryz.underlying3 g4;refine⟨⟨s0,s1,n2,n3,n4⟩,?_,⟨z0,z1,z2,z3,z4⟩⟩;have e0:c0=.string s0:=by injection k0
   have e1:c1=.string s1:=by injection k1
   have e2:c2=.int .i64 n2:=by injection k2
   have e3:c3=.int .i64 n3:=by injection k3
   have e4:c4=.int .i64 n4:=by injection k4
   subst e0 e1 e2 e3 e4;rfl
section
variable {H:Type} {enc:TypeId×Value->H} {W:World} {base b0:Nat} {sp:Nat->Bool} {hd:Bool} {r:Reach} {v:Value} {d:DataW H} {ps:List MemPlace}
end
end
section
open Go Go.RowKit
theorem uS {α:Type} {enc:α->List Value} {k:Nat} {w:World} {a:Option Addr} {xs:List α} {c l h:Nat} (ac:aF w a k (xs.map enc)) (hn:a=none->c=0) (_:l<=h) (hh:h<=xs.length) (hc:xs.length<=c) :
  ∃a',sliced a l h c k=.slice a' (h-l) (c-l)/\aF w a' k (((xs.take h).drop l).map enc)/\(a'=none->c-l=0):=by
 unfold sliced;by_cases hm:c=l
 ·rw[if_pos hm]
  refine⟨a,rfl,?_,λ_=>by omega⟩
  have:(xs.take h).drop l=[]:=List.drop_eq_nil_of_le (by rw[List.length_take];omega)
  rw[this];exact aF.nil _ _ _
 ·rw[if_neg hm]
  refine⟨_,rfl,λai=>?_,λh0=>?_⟩
  ·have hx:xs.map enc≠[]:=by
    rintro e;rw[Ad]at e;subst e;simp at ai
   obtain⟨b,off,rfl,bz⟩:=ac hx;refine⟨b,off+l*k,by rw[Option.map_some,mX],λi row hi j v hj=>?_⟩;rw[Ab,List.getElem?_drop]at hi
   have h1:(xs.map enc)[l+i]?=some row:=by
    rw[Ab];rw[Ae]at hi;split at hi
    ·exact hi
    ·cases hi
   have:=bz (l+i) row h1 j v hj
   rwa [Nat.add_mul,<-Nat.add_assoc]at this
  ·have h1:a=none:=by cases a with
    | none=>rfl
    | some x=>simp at h0
   have:=hn h1
   omega
theorem pX0 {α:Type} {enc:α->List Value} {k:Nat} {w:World} {a:Option Addr} {xs:List α} (h:aF w a k (xs.map enc)) (n:Nat):aF w a k ((xs.take n).map enc):=λai=>by
 have hx:xs.map enc≠[]:=by
  rintro e;rw[Ad]at e;subst e;simp at ai
 obtain⟨b,off,ha,hc⟩:=h hx;refine⟨b,off,ha,λi row hi j v hj=>hc i row ?_ j v hj⟩;rw[Ab]at hi ⊢;rw[Ae]at hi;split at hi
 ·exact hi
 ·cases hi
end
end Go.Proofs.YthgklnohcmaopaaGreatDoor
