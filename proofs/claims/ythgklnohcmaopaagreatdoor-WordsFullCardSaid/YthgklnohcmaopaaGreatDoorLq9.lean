/- The texts Kana NamedD KanaP Echk OpenE OpenS Slc Runes RefK Uval, one behind the other. -/
import Derived.Test.YthgklnohcmaopaaGreatDoorLq8
import Derived.Test.YthgklnohcmaopaaGreatDoorLq3
import Derived.Test.YthgklnohcmaopaaGreatDoorLq5
import Derived.Test.YthgklnohcmaopaaGreatDoorLq2
import Derived.ChangeSame
import Derived.ChangeMaps5
import Derived.Deep.Slices
import Derived.SizedLaws
import Derived.Test.YthgklnohcmaopaaGreatDoorLq1
open Bool renaming eq_iff_iff → Aa,true_and → Ag
open Go.Lib renaming hid → Ab,validD → Ac,idxFunc → Ae
open List renaming getElem?_map → Ad,map_eq_nil_iff → Af,getElem?_take → Ah
set_option maxHeartbeats 4000000
namespace Go.Proofs.YthgklnohcmaopaaGreatDoor
set_option maxRecDepth 100000
section
open Go Go.RowKit Go.Shelf
attribute [local go_sem] aO
def countS (s:ByteArray):Int:=if Ac s.data.toList then (Lib.runeCount s:Int) else -1
theorem kP (s:ByteArray) (w:World) (hs:s.size<9223372036854775807) (he:Env w) :
  Calls Tryz.prog 10 #[.string s] w λe w'=>e=.returned (.int .i64 (countS s))/\aB w w':=by
 have cV:Calls Tryz.prog 43 #[.string s] w _:=Any.utf8_ValidString Tryz.laysValid s w (by omega) he.utf;have CV:=Ab cV;clear cV he;unfold countS;generalize Ac s.data.toList=v at CV ⊢;have HS:=Ab hs;clear hs;cases v
 ·go_enter Tryz.func10,Tryz.ntmps10
  go_wp2_with (go_at_call 43;refine CV.out.mono ?_;rintro e w' ⟨rfl,hg⟩)
  go_ret;exact⟨rfl,hg⟩
 ·go_enter Tryz.func10,Tryz.ntmps10
  go_wp2_with (first|(go_at_call 43;refine CV.out.mono ?_;rintro e w' ⟨rfl,hg⟩)|(go_at_call 44;refine(Tryz.utf8_RuneCountInString s _ HS.out).mono ?_;rintro e w2 ⟨rfl,pos,rfl⟩))
  go_ret;exact⟨rfl,hg.trans (Below.mono (tX0 _ _ _) hg.size)⟩
def kA (c:Int):Bool:=decide (12353<=c)&&decide (c<=12438)
def aM1 (c:Int) (w:World) (e:Ending) (w':World):Prop:=∃r:Int,e=.returned (.int .i64 r)/\(r=1↔kA c=true)/\w=w'
theorem tY (c:Int) (w:World):Calls Tryz.prog 106 #[.int .i32 c] w (aM1 c w):=by
 by_cases h1:12353<=c
 ·by_cases h2:c<=12438
  ·go_enter Tryz.func106,Tryz.ntmps106
   go_wp2
   go_ret;exact⟨1,rfl,by simp[kA,h1,h2],rfl⟩
  ·have hN:=Ab (show ∀r:Int,r≠1->(r=1↔kA c=true) from λr hr=>by simp[kA,h2,hr])
   go_enter Tryz.func106,Tryz.ntmps106
   go_wp2
   all_goals (go_ret;exact⟨_,rfl,hN.out _ (by decide),rfl⟩)
 ·have hN:=Ab (show ∀r:Int,r≠1->(r=1↔kA c=true) from λr hr=>by simp[kA,h1,hr])
  have h2:c<12353:=by omega
  go_enter Tryz.func106,Tryz.ntmps106
  go_wp2
  all_goals (go_ret;exact⟨_,rfl,hN.out _ (by decide),rfl⟩)
def kanaBad (c:Nat):Bool := !((c:Int)==12540) && !kA c
theorem iQ0 (w:World):PredAt Tryz.prog 219 #[] encR kanaBad w:=λW x _=>by
 unfold FnGives;show Calls Tryz.prog 219 #[.int .i32 (x:Int)] W _
 unfold kanaBad;have ii:=Ab (tY (x:Int) W);generalize (x:Int)=c at ii ⊢;by_cases h:c=12540
 ·subst h
  go_enter Tryz.func219,Tryz.ntmps219
  go_wp2
  go_ret;exact⟨rfl,0,rfl⟩
 ·have h1:(c != 12540)=true:=by simp[h]
  have h2:(!(c==12540))=true:=by simp[h]
  rw[h2,Ag];generalize hh:kA c=hb at ii ⊢;have HH:=Ab hh;clear hh h h2;go_enter Tryz.func219,Tryz.ntmps219
  go_wp2_with (go_at_call 106;refine ii.out.mono ?_;rintro e w' ⟨r,rfl,hr,rfl⟩;have HR:=Ab hr;clear hr)
  all_goals (go_ret;refine⟨dZ ?_,0,rfl⟩;have h1:=HR.out;rw[HH.out]at h1;rw[Aa];simp;rw[h1];simp)
def readingS (s:ByteArray):Bool:=decide (1<=countS s)&&decide (countS s<=64) && !decide (0<=Ae kanaBad true s)
def surfBad (c:Nat):Bool:=decide ((c:Int)<32)||(decide (127<=(c:Int))&&decide ((c:Int)<=159))
def surfaceS (s:ByteArray):Bool:=decide (1<=countS s)&&decide (countS s<=64) && !decide (0<=Ae surfBad true s)
theorem mV0 (s:ByteArray) (w:World) (hs:s.size<9223372036854775807) (he:Env w) :
  Calls Tryz.prog 159 #[.string s] w λe w'=>e=.returned (.bool (readingS s))/\aB w w':=by
 have C1:=Ab (kP s w hs he);have C2:∀W,Hid (Calls Tryz.prog 200 _ W _):=λW=>Ab (Tryz.strings_ContainsFunc 219 #[] (enters_of Tryz.func219 (by kernel_rfl) rfl) kanaBad s W (iQ0 W));clear hs he;unfold readingS;generalize countS s=n at C1 ⊢;generalize decide (0<=Ae kanaBad true s)=r at C2 ⊢;by_cases h1:1<=n
 ·by_cases h2:n<=64
  ·go_enter Tryz.func159,Tryz.ntmps159
   go_wp2_with (first|(go_at_call 10;refine C1.out.mono ?_;rintro e w1 ⟨rfl,hg⟩)|(go_at_call 200;refine(C2 _).out.mono ?_;rintro e w2 ⟨rfl,af⟩))
   go_ret;exact⟨dZ (by simp[h1,h2]),hg.tr af⟩
  ·go_enter Tryz.func159,Tryz.ntmps159
   go_wp2_with (first|(go_at_call 10;refine C1.out.mono ?_;rintro e w1 ⟨rfl,hg⟩))
   go_ret;exact⟨dZ (by simp;omega),hg⟩
 ·go_enter Tryz.func159,Tryz.ntmps159
  go_wp2_with (first|(go_at_call 10;refine C1.out.mono ?_;rintro e w1 ⟨rfl,hg⟩))
  go_ret;exact⟨dZ (by simp;omega),hg⟩
theorem aA1 (w:World):PredAt Tryz.prog 220 #[] encR surfBad w:=λW x _=>by
 unfold FnGives;show Calls Tryz.prog 220 #[.int .i32 (x:Int)] W _
 unfold surfBad;generalize (x:Int)=c;go_enter Tryz.func220,Tryz.ntmps220
 go_wp2
 all_goals (go_ret;refine⟨dZ ?_,0,rfl⟩;first|rfl|(rw[Aa];simp;try omega))
theorem iG0 (s:ByteArray) (w:World) (hs:s.size<9223372036854775807) (he:Env w) :
  Calls Tryz.prog 160 #[.string s] w λe w'=>e=.returned (.bool (surfaceS s))/\aB w w':=by
 have C1:=Ab (kP s w hs he);have C2:∀W,Hid (Calls Tryz.prog 200 _ W _):=λW=>Ab (Tryz.strings_ContainsFunc 220 #[] (enters_of Tryz.func220 (by kernel_rfl) rfl) surfBad s W (aA1 W));clear hs he;unfold surfaceS;generalize countS s=n at C1 ⊢;generalize decide (0<=Ae surfBad true s)=r at C2 ⊢;by_cases h1:1<=n
 ·by_cases h2:n<=64
  ·go_enter Tryz.func160,Tryz.ntmps160
   go_wp2_with (first|(go_at_call 10;refine C1.out.mono ?_;rintro e w1 ⟨rfl,hg⟩)|(go_at_call 200;refine(C2 _).out.mono ?_;rintro e w2 ⟨rfl,af⟩))
   go_ret;exact⟨dZ (by simp[h1,h2]),hg.tr af⟩
  ·go_enter Tryz.func160,Tryz.ntmps160
   go_wp2_with (first|(go_at_call 10;refine C1.out.mono ?_;rintro e w1 ⟨rfl,hg⟩))
   go_ret;exact⟨dZ (by simp;omega),hg⟩
 ·go_enter Tryz.func160,Tryz.ntmps160
  go_wp2_with (first|(go_at_call 10;refine C1.out.mono ?_;rintro e w1 ⟨rfl,hg⟩))
  go_ret;exact⟨dZ (by simp;omega),hg⟩
end
section
open Go
theorem hT1 (s:ByteArray):xN s=(!s.toList.isEmpty&&decide (s.size<=16) && !(bD s.data.toList).any nameBad):=by
 unfold xN;rw[iQ1]
theorem vW0 (s:ByteArray):readingS s=(Ac s.data.toList&&decide (1<=(bD s.data.toList).length)&&decide ((bD s.data.toList).length<=64) && !(bD s.data.toList).any kanaBad):=by
 unfold readingS countS;rw[iQ1,rV];cases Ac s.data.toList
 ·simp
 ·simp only[if_true,Ag]
  congr 2
  ·rw[Aa];simp only[decide_eq_true_eq];omega
  ·rw[Aa];simp only[decide_eq_true_eq];omega
theorem uX0 (s:ByteArray):surfaceS s=(Ac s.data.toList&&decide (1<=(bD s.data.toList).length)&&decide ((bD s.data.toList).length<=64) && !(bD s.data.toList).any surfBad):=by
 unfold surfaceS countS;rw[iQ1,rV];cases Ac s.data.toList
 ·simp
 ·simp only[if_true,Ag]
  congr 2
  ·rw[Aa];simp only[decide_eq_true_eq];omega
  ·rw[Aa];simp only[decide_eq_true_eq];omega
end
section
open Go Go.RowKit Go.Shelf
attribute [local go_sem] aO
def xT (r s:ByteArray) (l t c n:Int):Int :=
 if readingS r&&surfaceS s then (if l<0\/n<=l\/t<0\/n<=t then 150 else if c<0\/30000<c then 6 else 0) else 5
theorem dU0 (r s:ByteArray) (l t c n:Int) (w:World) (hr:r.size<9223372036854775807) (hs:s.size<9223372036854775807) (he:Env w) :
  Calls Tryz.prog 88 #[.agg #[.string r,.string s,.int .i64 l,.int .i64 t,.int .i64 c],.int .i64 n] w λe w'=>e=.returned (.int .i64 (xT r s l t c n))/\aB w w':=by
 have C1:∀W,aB w W->Hid (Calls Tryz.prog 159 _ W _):=λW hW=>Ab (mV0 r W hr (he.grows hW));have C2:∀W,aB w W->Hid (Calls Tryz.prog 160 _ W _):=λW hW=>Ab (iG0 s W hs (he.grows hW));unfold xT;clear hr hs he;generalize readingS r=br at C1 ⊢;generalize surfaceS s=bs at C2 ⊢;cases br
 ·go_enter Tryz.func88,Tryz.ntmps88
  go_wp2_with (first|(go_at_call 159;refine(C1 _ (aB.alloc _ _)).out.mono ?_;rintro e w1 ⟨rfl,hg⟩))
  go_ret;exact⟨rfl,(aB.alloc _ _).tr hg⟩
 ·cases bs
  ·go_enter Tryz.func88,Tryz.ntmps88
   go_wp2_with (first|(go_at_call 159;refine(C1 _ (aB.alloc _ _)).out.mono ?_;rintro e w1 ⟨rfl,hg⟩;have an:=(aB.alloc _ _).tr hg;have b1:w1.cell? ⟨w.heap.size,1,none⟩=some (.string s):=hg.cell (aT _ _ _ _ 1 _ rfl))|(go_at_call 160;refine(C2 _ an).out.mono ?_;rintro e w2 ⟨rfl,af⟩))
   go_ret;exact⟨rfl,an.tr af⟩
  ·rw[if_pos (by rfl)]
   go_enter Tryz.func88,Tryz.ntmps88
   go_wp2_with (first|(go_at_call 159;refine(C1 _ (aB.alloc _ _)).out.mono ?_;rintro e w1 ⟨rfl,hg⟩;have an:=(aB.alloc _ _).tr hg;have b1:w1.cell? ⟨w.heap.size,1,none⟩=some (.string s):=hg.cell (aT _ _ _ _ 1 _ rfl);have b2:w1.cell? ⟨w.heap.size,2,none⟩=some (.int .i64 l):=hg.cell (aT _ _ _ _ 2 _ rfl);have b3:w1.cell? ⟨w.heap.size,3,none⟩=some (.int .i64 t):=hg.cell (aT _ _ _ _ 3 _ rfl);have b4:w1.cell? ⟨w.heap.size,4,none⟩=some (.int .i64 c):=hg.cell (aT _ _ _ _ 4 _ rfl))|(go_at_call 160;refine(C2 _ an).out.mono ?_;rintro e w2 ⟨rfl,af⟩;have d2:=af.cell b2;have d3:=af.cell b3;have d4:=af.cell b4))
   all_goals (go_ret;exact⟨rfl,an.tr af⟩)
end
section
open Go Go.ChangeShapes Go.WideShapes Go.ChangeAt Go.RowKit Go.Shelf Go.Lib
open Go.ChangeMaps (open_string shut_string)
end
section
open Go Go.ChangeShapes Go.WideShapes Go.ChangeAt Go.RowKit Go.Shelf Go.Lib
open Go.ChangeMaps (open_string shut_string)
theorem dI1 {H:Type} {enc:TypeId×Value->H} {W:World} {base:Nat} {sp:Nat->Bool} {hd:Bool} (n:Nat) (cs:List Value) (x:DataW H×List MemPlace) (hl:cs.length=5) (h:DataW.trod enc Tryz.prog W base sp hd n 30 cs=some x) :
  ∃y:En,cs=bF y/\yB y:=by
 obtain⟨xs,n,_,hx,_,ah,aw⟩:=DataW.trod_struct Tryz.underlying30 h
 match cs,hl with
 | [c0,c1,c2,c3,c4],_ =>
  match xs,ah with
  | [y0,y1,y2,y3,y4],_ =>
   have g0:=aw 0 _ rfl;have g1:=aw 1 _ rfl;have g2:=aw 2 _ rfl;have g3:=aw 3 _ rfl;have g4:=aw 4 _ rfl;obtain⟨s0,k0,_,z0⟩:=DataW.trod_string Tryz.underlying9 g0;obtain⟨s1,k1,_,z1⟩:=DataW.trod_string Tryz.underlying9 g1;obtain⟨n2,k2,_,z2⟩:=DataW.trod_int Tryz.underlying3 g2;obtain⟨n3,k3,_,z3⟩:=DataW.trod_int Tryz.underlying3 g3;obtain⟨n4,k4,_,z4⟩:=DataW.trod_int Tryz.underlying3 g4;refine⟨⟨s0,s1,n2,n3,n4⟩,?_,⟨z0,z1,z2,z3,z4⟩⟩;have e0:c0=.string s0:=by injection k0
   have e1:c1=.string s1:=by injection k1
   have e2:c2=.int .i64 n2:=by injection k2
   have e3:c3=.int .i64 n3:=by injection k3
   have e4:c4=.int .i64 n4:=by injection k4
   subst e0 e1 e2 e3 e4;rfl
section
variable {H:Type} {enc:TypeId×Value->H} {W:World} {base b0:Nat} {sp:Nat->Bool} {hd:Bool} {r:Reach} {v:Value} {d:DataW H} {ps:List MemPlace}
end
end
section
open Go Go.RowKit
theorem aM0 {α:Type} {enc:α->List Value} {k:Nat} {w:World} {a:Option Addr} {xs:List α} {c l h:Nat} (ac:aG w a k (xs.map enc)) (hn:a=none->c=0) (_:l<=h) (hh:h<=xs.length) (hc:xs.length<=c) :
  ∃a',sliced a l h c k=.slice a' (h-l) (c-l)/\aG w a' k (((xs.take h).drop l).map enc)/\(a'=none->c-l=0):=by
 unfold sliced;by_cases hm:c=l
 ·rw[if_pos hm]
  refine⟨a,rfl,?_,λ_=>by omega⟩
  have:(xs.take h).drop l=[]:=List.drop_eq_nil_of_le (by rw[List.length_take];omega)
  rw[this];exact aG.nil _ _ _
 ·rw[if_neg hm]
  refine⟨_,rfl,λaj=>?_,λh0=>?_⟩
  ·have hx:xs.map enc≠[]:=by
    rintro e;rw[Af]at e;subst e;simp at aj
   obtain⟨b,off,rfl,bh⟩:=ac hx;refine⟨b,off+l*k,by rw[Option.map_some,jQ],λi row hi j v hj=>?_⟩;rw[Ad,List.getElem?_drop]at hi
   have h1:(xs.map enc)[l+i]?=some row:=by
    rw[Ad];rw[Ah]at hi;split at hi
    ·exact hi
    ·cases hi
   have:=bh (l+i) row h1 j v hj
   rwa [Nat.add_mul,<-Nat.add_assoc]at this
  ·have h1:a=none:=by cases a with
    | none=>rfl
    | some x=>simp at h0
   have:=hn h1
   omega
theorem cY1 {α:Type} {enc:α->List Value} {k:Nat} {w:World} {a:Option Addr} {xs:List α} (h:aG w a k (xs.map enc)) (n:Nat):aG w a k ((xs.take n).map enc):=λaj=>by
 have hx:xs.map enc≠[]:=by
  rintro e;rw[Af]at e;subst e;simp at aj
 obtain⟨b,off,ha,hc⟩:=h hx;refine⟨b,off,ha,λi row hi j v hj=>hc i row ?_ j v hj⟩;rw[Ad]at hi ⊢;rw[Ah]at hi;split at hi
 ·exact hi
 ·cases hi
end
section
open Go Go.RowKit
attribute [local go_sem] aO
end
section
open Go Go.RowKit Go.Shelf
attribute [local go_sem] aO
theorem vB0 (s:ByteArray) (w:World) (hs:s.size<9223372036854775807) (he:Env w) :
  Calls Tryz.prog 34 #[.string s] w λe w'=>e=.returned (.bool (Ac s.data.toList))/\aB w w':=by
 have cV:Calls Tryz.prog 43 #[.string s] w _:=Any.utf8_ValidString Tryz.laysValid s w (by omega) he.utf;have CV:=Ab cV;clear cV he hs;generalize Ac s.data.toList=v at CV ⊢;go_enter Tryz.func34,Tryz.ntmps34
 go_wp2_with (go_at_call 43;refine CV.out.mono ?_;rintro e w' ⟨rfl,hg⟩)
 go_ret;exact⟨rfl,hg⟩
end
end Go.Proofs.YthgklnohcmaopaaGreatDoor
