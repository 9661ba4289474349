/- The texts Kana NamedD KanaP Echk OpenE OpenS Slc Runes RefK, one behind the other. -/
import Derived.Test.YtaogeadljgjpcaaGreatDoorRq7
import Derived.Test.YtaogeadljgjpcaaGreatDoorRq3
import Derived.Test.YtaogeadljgjpcaaGreatDoorRq5
import Derived.Test.YtaogeadljgjpcaaGreatDoorRq2
import Derived.ChangeSame
import Derived.ChangeMaps5
import Derived.Deep.Slices
import Derived.SizedLaws
import Derived.Test.YtaogeadljgjpcaaGreatDoorRq1
open Bool renaming eq_iff_iff → Aa,true_and → Ag
open Go.Lib renaming hid → Ab,validD → Ac,idxFunc → Ae
open List renaming getElem?_map → Ad,map_eq_nil_iff → Af,getElem?_take → Ah
set_option maxHeartbeats 4000000
namespace Go.Proofs.YtaogeadljgjpcaaGreatDoor
set_option maxRecDepth 100000
section
open Go Go.RowKit Go.Shelf
attribute [local go_sem] aQ
def countS (s:ByteArray):Int:=if Ac s.data.toList then (Lib.runeCount s:Int) else -1
theorem mK (s:ByteArray) (w:World) (hs:s.size<9223372036854775807) (he:Env w) :
  Calls Tryz.prog 22 #[.string s] w λe w'=>e=.returned (.int .i64 (countS s))/\aB w w':=by
 have cV:Calls Tryz.prog 61 #[.string s] w _:=Any.utf8_ValidString Tryz.laysValid s w (by omega) he.utf;have CV:=Ab cV;clear cV he;unfold countS;generalize Ac s.data.toList=v at CV ⊢;have HS:=Ab hs;clear hs;cases v
 ·go_enter Tryz.func22,Tryz.ntmps22
  go_wp2_with (go_at_call 61;refine CV.out.mono ?_;rintro e w' ⟨rfl,hg⟩)
  go_ret;exact⟨rfl,hg⟩
 ·go_enter Tryz.func22,Tryz.ntmps22
  go_wp2_with (first|(go_at_call 61;refine CV.out.mono ?_;rintro e w' ⟨rfl,hg⟩)|(go_at_call 62;refine(Tryz.utf8_RuneCountInString s _ HS.out).mono ?_;rintro e w2 ⟨rfl,pos,rfl⟩))
  go_ret;exact⟨rfl,hg.trans (Below.mono (vB0 _ _ _) hg.size)⟩
def jW (c:Int):Bool:=decide (12353<=c)&&decide (c<=12438)
def zT0 (c:Int) (w:World) (e:Ending) (w':World):Prop:=∃r:Int,e=.returned (.int .i64 r)/\(r=1↔jW c=true)/\w=w'
theorem sH (c:Int) (w:World):Calls Tryz.prog 31 #[.int .i32 c] w (zT0 c w):=by
 by_cases h1:12353<=c
 ·by_cases h2:c<=12438
  ·go_enter Tryz.func31,Tryz.ntmps31
   go_wp2
   go_ret;exact⟨1,rfl,by simp[jW,h1,h2],rfl⟩
  ·have hN:=Ab (show ∀r:Int,r≠1->(r=1↔jW c=true) from λr hr=>by simp[jW,h2,hr])
   go_enter Tryz.func31,Tryz.ntmps31
   go_wp2
   all_goals (go_ret;exact⟨_,rfl,hN.out _ (by decide),rfl⟩)
 ·have hN:=Ab (show ∀r:Int,r≠1->(r=1↔jW c=true) from λr hr=>by simp[jW,h1,hr])
  have h2:c<12353:=by omega
  go_enter Tryz.func31,Tryz.ntmps31
  go_wp2
  all_goals (go_ret;exact⟨_,rfl,hN.out _ (by decide),rfl⟩)
def kanaBad (c:Nat):Bool := !((c:Int)==12540) && !jW c
theorem jU0 (w:World):PredAt Tryz.prog 208 #[] encR kanaBad w:=λW x _=>by
 unfold FnGives;show Calls Tryz.prog 208 #[.int .i32 (x:Int)] W _
 unfold kanaBad;have ij:=Ab (sH (x:Int) W);generalize (x:Int)=c at ij ⊢;by_cases h:c=12540
 ·subst h
  go_enter Tryz.func208,Tryz.ntmps208
  go_wp2
  go_ret;exact⟨rfl,0,rfl⟩
 ·have h1:(c != 12540)=true:=by simp[h]
  have h2:(!(c==12540))=true:=by simp[h]
  rw[h2,Ag];generalize hh:jW c=hb at ij ⊢;have HH:=Ab hh;clear hh h h2;go_enter Tryz.func208,Tryz.ntmps208
  go_wp2_with (go_at_call 31;refine ij.out.mono ?_;rintro e w' ⟨r,rfl,hr,rfl⟩;have HR:=Ab hr;clear hr)
  all_goals (go_ret;refine⟨dD ?_,0,rfl⟩;have h1:=HR.out;rw[HH.out]at h1;rw[Aa];simp;rw[h1];simp)
def readingS (s:ByteArray):Bool:=decide (1<=countS s)&&decide (countS s<=64) && !decide (0<=Ae kanaBad true s)
def surfBad (c:Nat):Bool:=decide ((c:Int)<32)||(decide (127<=(c:Int))&&decide ((c:Int)<=159))
def surfaceS (s:ByteArray):Bool:=decide (1<=countS s)&&decide (countS s<=64) && !decide (0<=Ae surfBad true s)
theorem oJ0 (s:ByteArray) (w:World) (hs:s.size<9223372036854775807) (he:Env w) :
  Calls Tryz.prog 150 #[.string s] w λe w'=>e=.returned (.bool (readingS s))/\aB w w':=by
 have C1:=Ab (mK s w hs he);have C2:∀W,Hid (Calls Tryz.prog 207 _ W _):=λW=>Ab (Tryz.strings_ContainsFunc 208 #[] (enters_of Tryz.func208 (by kernel_rfl) rfl) kanaBad s W (jU0 W));clear hs he;unfold readingS;generalize countS s=n at C1 ⊢;generalize decide (0<=Ae kanaBad true s)=r at C2 ⊢;by_cases h1:1<=n
 ·by_cases h2:n<=64
  ·go_enter Tryz.func150,Tryz.ntmps150
   go_wp2_with (first|(go_at_call 22;refine C1.out.mono ?_;rintro e w1 ⟨rfl,hg⟩)|(go_at_call 207;refine(C2 _).out.mono ?_;rintro e w2 ⟨rfl,af⟩))
   go_ret;exact⟨dD (by simp[h1,h2]),hg.tr af⟩
  ·go_enter Tryz.func150,Tryz.ntmps150
   go_wp2_with (first|(go_at_call 22;refine C1.out.mono ?_;rintro e w1 ⟨rfl,hg⟩))
   go_ret;exact⟨dD (by simp;omega),hg⟩
 ·go_enter Tryz.func150,Tryz.ntmps150
  go_wp2_with (first|(go_at_call 22;refine C1.out.mono ?_;rintro e w1 ⟨rfl,hg⟩))
  go_ret;exact⟨dD (by simp;omega),hg⟩
theorem yS0 (w:World):PredAt Tryz.prog 209 #[] encR surfBad w:=λW x _=>by
 unfold FnGives;show Calls Tryz.prog 209 #[.int .i32 (x:Int)] W _
 unfold surfBad;generalize (x:Int)=c;go_enter Tryz.func209,Tryz.ntmps209
 go_wp2
 all_goals (go_ret;refine⟨dD ?_,0,rfl⟩;first|rfl|(rw[Aa];simp;try omega))
theorem fV0 (s:ByteArray) (w:World) (hs:s.size<9223372036854775807) (he:Env w) :
  Calls Tryz.prog 151 #[.string s] w λe w'=>e=.returned (.bool (surfaceS s))/\aB w w':=by
 have C1:=Ab (mK s w hs he);have C2:∀W,Hid (Calls Tryz.prog 207 _ W _):=λW=>Ab (Tryz.strings_ContainsFunc 209 #[] (enters_of Tryz.func209 (by kernel_rfl) rfl) surfBad s W (yS0 W));clear hs he;unfold surfaceS;generalize countS s=n at C1 ⊢;generalize decide (0<=Ae surfBad true s)=r at C2 ⊢;by_cases h1:1<=n
 ·by_cases h2:n<=64
  ·go_enter Tryz.func151,Tryz.ntmps151
   go_wp2_with (first|(go_at_call 22;refine C1.out.mono ?_;rintro e w1 ⟨rfl,hg⟩)|(go_at_call 207;refine(C2 _).out.mono ?_;rintro e w2 ⟨rfl,af⟩))
   go_ret;exact⟨dD (by simp[h1,h2]),hg.tr af⟩
  ·go_enter Tryz.func151,Tryz.ntmps151
   go_wp2_with (first|(go_at_call 22;refine C1.out.mono ?_;rintro e w1 ⟨rfl,hg⟩))
   go_ret;exact⟨dD (by simp;omega),hg⟩
 ·go_enter Tryz.func151,Tryz.ntmps151
  go_wp2_with (first|(go_at_call 22;refine C1.out.mono ?_;rintro e w1 ⟨rfl,hg⟩))
  go_ret;exact⟨dD (by simp;omega),hg⟩
end
section
open Go
theorem dO1 (s:ByteArray):xB s=(!s.toList.isEmpty&&decide (s.size<=16) && !(bD s.data.toList).any nameBad):=by
 unfold xB;rw[eB1]
theorem vH0 (s:ByteArray):readingS s=(Ac s.data.toList&&decide (1<=(bD s.data.toList).length)&&decide ((bD s.data.toList).length<=64) && !(bD s.data.toList).any kanaBad):=by
 unfold readingS countS;rw[eB1,rG];cases Ac s.data.toList
 ·simp
 ·simp only[if_true,Ag]
  congr 2
  ·rw[Aa];simp only[decide_eq_true_eq];omega
  ·rw[Aa];simp only[decide_eq_true_eq];omega
theorem tZ0 (s:ByteArray):surfaceS s=(Ac s.data.toList&&decide (1<=(bD s.data.toList).length)&&decide ((bD s.data.toList).length<=64) && !(bD s.data.toList).any surfBad):=by
 unfold surfaceS countS;rw[eB1,rG];cases Ac s.data.toList
 ·simp
 ·simp only[if_true,Ag]
  congr 2
  ·rw[Aa];simp only[decide_eq_true_eq];omega
  ·rw[Aa];simp only[decide_eq_true_eq];omega
end
section
open Go Go.RowKit Go.Shelf
attribute [local go_sem] aQ
def xA (r s:ByteArray) (l t c n:Int):Int :=
 if readingS r&&surfaceS s then (if l<0\/n<=l\/t<0\/n<=t then 150 else if c<0\/30000<c then 6 else 0) else 5
theorem dM0 (r s:ByteArray) (l t c n:Int) (w:World) (hr:r.size<9223372036854775807) (hs:s.size<9223372036854775807) (he:Env w) :
  Calls Tryz.prog 86 #[.agg #[.string r,.string s,.int .i64 l,.int .i64 t,.int .i64 c],.int .i64 n] w λe w'=>e=.returned (.int .i64 (xA r s l t c n))/\aB w w':=by
 have C1:∀W,aB w W->Hid (Calls Tryz.prog 150 _ W _):=λW hW=>Ab (oJ0 r W hr (he.grows hW));have C2:∀W,aB w W->Hid (Calls Tryz.prog 151 _ W _):=λW hW=>Ab (fV0 s W hs (he.grows hW));unfold xA;clear hr hs he;generalize readingS r=br at C1 ⊢;generalize surfaceS s=bs at C2 ⊢;cases br
 ·go_enter Tryz.func86,Tryz.ntmps86
  go_wp2_with (first|(go_at_call 150;refine(C1 _ (aB.alloc _ _)).out.mono ?_;rintro e w1 ⟨rfl,hg⟩))
  go_ret;exact⟨rfl,(aB.alloc _ _).tr hg⟩
 ·cases bs
  ·go_enter Tryz.func86,Tryz.ntmps86
   go_wp2_with (first|(go_at_call 150;refine(C1 _ (aB.alloc _ _)).out.mono ?_;rintro e w1 ⟨rfl,hg⟩;have aq:=(aB.alloc _ _).tr hg;have b1:w1.cell? ⟨w.heap.size,1,none⟩=some (.string s):=hg.cell (aT _ _ _ _ 1 _ rfl))|(go_at_call 151;refine(C2 _ aq).out.mono ?_;rintro e w2 ⟨rfl,af⟩))
   go_ret;exact⟨rfl,aq.tr af⟩
  ·rw[if_pos (by rfl)]
   go_enter Tryz.func86,Tryz.ntmps86
   go_wp2_with (first|(go_at_call 150;refine(C1 _ (aB.alloc _ _)).out.mono ?_;rintro e w1 ⟨rfl,hg⟩;have aq:=(aB.alloc _ _).tr hg;have b1:w1.cell? ⟨w.heap.size,1,none⟩=some (.string s):=hg.cell (aT _ _ _ _ 1 _ rfl);have b2:w1.cell? ⟨w.heap.size,2,none⟩=some (.int .i64 l):=hg.cell (aT _ _ _ _ 2 _ rfl);have b3:w1.cell? ⟨w.heap.size,3,none⟩=some (.int .i64 t):=hg.cell (aT _ _ _ _ 3 _ rfl);have b4:w1.cell? ⟨w.heap.size,4,none⟩=some (.int .i64 c):=hg.cell (aT _ _ _ _ 4 _ rfl))|(go_at_call 151;refine(C2 _ aq).out.mono ?_;rintro e w2 ⟨rfl,af⟩;have d2:=af.cell b2;have d3:=af.cell b3;have d4:=af.cell b4))
   all_goals (go_ret;exact⟨rfl,aq.tr af⟩)
end
section
open Go Go.ChangeShapes Go.WideShapes Go.ChangeAt Go.RowKit Go.Shelf Go.Lib
open Go.ChangeMaps (open_string shut_string)
theorem hH1 {cs:Array Value} {a b c d e:Value} (hs:cs.size=5) (h0:(cs.toList.drop 0).take 1=[a]) (h1:(cs.toList.drop 1).take 1=[b]) (h2:(cs.toList.drop 2).take 1=[c]) (h3:(cs.toList.drop 3).take 1=[d]) (h4:(cs.toList.drop 4).take 1=[e]):cs = #[a,b,c,d,e]:=by
 obtain⟨l⟩:=cs
 match l,hs with
 | [x0,x1,x2,x3,x4],_ =>
  simp at h0 h1 h2 h3 h4;subst h0 h1 h2 h3 h4;rfl
theorem open_entry {H:Type} {enc:TypeId×Value->H} {W:World} {base b0:Nat} {sp:Nat->Bool} {hd:Bool} {r:Reach} {v:Value} {d:DataW H} {ps:List MemPlace} (jh:Value.okWide Tryz.prog W r b0 62 v) (h:DataW.Trod enc Tryz.prog W base sp hd 62 v d ps) :
  ∃x:En,v=x.agg/\uE x:=by
 obtain⟨cs,rfl,hs⟩:=okWide_struct Tryz.underlying62 jh;obtain⟨b9,hf⟩:=h;obtain⟨xs,n,_,hx,hl,ah,ax⟩:=DataW.trod_struct Tryz.underlying62 hf;have hs5:cs.size=5:=hs
 match xs,ah with
 | [y0,y1,y2,y3,y4],_ =>
  have g0:=ax 0 _ rfl;have g1:=ax 1 _ rfl;have g2:=ax 2 _ rfl;have g3:=ax 3 _ rfl;have g4:=ax 4 _ rfl;obtain⟨s0,k0,_,z0⟩:=DataW.trod_string Tryz.underlying9 g0;obtain⟨s1,k1,_,z1⟩:=DataW.trod_string Tryz.underlying9 g1;obtain⟨n2,k2,_,z2⟩:=DataW.trod_int Tryz.underlying3 g2;obtain⟨n3,k3,_,z3⟩:=DataW.trod_int Tryz.underlying3 g3;obtain⟨n4,k4,_,z4⟩:=DataW.trod_int Tryz.underlying3 g4;exact⟨⟨s0,s1,n2,n3,n4⟩,by rw[hH1 hs5 k0 k1 k2 k3 k4];rfl,⟨z0,z1,z2,z3,z4⟩⟩
end
section
open Go Go.ChangeShapes Go.WideShapes Go.ChangeAt Go.RowKit Go.Shelf Go.Lib
open Go.ChangeMaps (open_string shut_string)
theorem kE0 {H:Type} {enc:TypeId×Value->H} {W:World} {base:Nat} {sp:Nat->Bool} {hd:Bool} (n:Nat) (cs:List Value) (x:DataW H×List MemPlace) (hl:cs.length=5) (h:DataW.trod enc Tryz.prog W base sp hd n 62 cs=some x) :
  ∃y:En,cs=bF y/\uE y:=by
 obtain⟨xs,n,_,hx,_,ah,ax⟩:=DataW.trod_struct Tryz.underlying62 h
 match cs,hl with
 | [c0,c1,c2,c3,c4],_ =>
  match xs,ah with
  | [y0,y1,y2,y3,y4],_ =>
   have g0:=ax 0 _ rfl;have g1:=ax 1 _ rfl;have g2:=ax 2 _ rfl;have g3:=ax 3 _ rfl;have g4:=ax 4 _ rfl;obtain⟨s0,k0,_,z0⟩:=DataW.trod_string Tryz.underlying9 g0;obtain⟨s1,k1,_,z1⟩:=DataW.trod_string Tryz.underlying9 g1;obtain⟨n2,k2,_,z2⟩:=DataW.trod_int Tryz.underlying3 g2;obtain⟨n3,k3,_,z3⟩:=DataW.trod_int Tryz.underlying3 g3;obtain⟨n4,k4,_,z4⟩:=DataW.trod_int Tryz.underlying3 g4;refine⟨⟨s0,s1,n2,n3,n4⟩,?_,⟨z0,z1,z2,z3,z4⟩⟩;have e0:c0=.string s0:=by injection k0
   have e1:c1=.string s1:=by injection k1
   have e2:c2=.int .i64 n2:=by injection k2
   have e3:c3=.int .i64 n3:=by injection k3
   have e4:c4=.int .i64 n4:=by injection k4
   subst e0 e1 e2 e3 e4;rfl
structure jK1 (x:cO):Prop where
 n:x.name.size<=maxLen
 k:(Lit.int .i64 x.kind).wf=true
theorem mB1 {H:Type} {enc:TypeId×Value->H} {W:World} {base:Nat} {sp:Nat->Bool} {hd:Bool} (n:Nat) (cs:List Value) (x:DataW H×List MemPlace) (hl:cs.length=2) (h:DataW.trod enc Tryz.prog W base sp hd n 139 cs=some x) :
  ∃y:cO,cs=bN y/\jK1 y:=by
 obtain⟨xs,n,_,hx,_,ah,ax⟩:=DataW.trod_struct Tryz.underlying139 h
 match cs,hl with
 | [c0,c1],_ =>
  match xs,ah with
  | [y0,y1],_ =>
   have g0:=ax 0 _ rfl;have g1:=ax 1 _ rfl;obtain⟨s0,k0,_,z0⟩:=DataW.trod_string Tryz.underlying9 g0;obtain⟨n1,k1,_,z1⟩:=DataW.trod_int Tryz.underlying3 g1;refine⟨⟨s0,n1⟩,?_,⟨z0,z1⟩⟩;have e0:c0=.string s0:=by injection k0
   have e1:c1=.int .i64 n1:=by injection k1
   subst e0 e1;rfl
section
variable {H:Type} {enc:TypeId×Value->H} {W:World} {base b0:Nat} {sp:Nat->Bool} {hd:Bool} {r:Reach} {v:Value} {d:DataW H} {ps:List MemPlace}
theorem open_entries (jh:Value.okWide Tryz.prog W r b0 28 v) (h:DataW.Trod enc Tryz.prog W base sp hd 28 v d ps) :
  ∃(a:Option Addr) (l:List En) (cap:Nat),v=.slice a l.length cap/\aG W a 5 (l.map bF)/\(∀x∈l,uE x)/\(d=.nil/\l=[]\/∃el sp,d=.slice el sp/\el.length=l.length) :=
 kQ0 Tryz.underlying28 (by kernel_rfl) (by decide) (λ_=>rfl) kE0 jh h
theorem open_poss (jh:Value.okWide Tryz.prog W r b0 37 v) (h:DataW.Trod enc Tryz.prog W base sp hd 37 v d ps) :
  ∃(a:Option Addr) (l:List cO) (cap:Nat),v=.slice a l.length cap/\aG W a 2 (l.map bN)/\(∀x∈l,jK1 x)/\(d=.nil/\l=[]\/∃el sp,d=.slice el sp/\el.length=l.length) :=
 kQ0 Tryz.underlying37 (by kernel_rfl) (by decide) (λ_=>rfl) mB1 jh h
end
end
section
open Go Go.RowKit
theorem aA0 {α:Type} {enc:α->List Value} {k:Nat} {w:World} {a:Option Addr} {xs:List α} {c l h:Nat} (ac:aG w a k (xs.map enc)) (hn:a=none->c=0) (_:l<=h) (hh:h<=xs.length) (hc:xs.length<=c) :
  ∃a',sliced a l h c k=.slice a' (h-l) (c-l)/\aG w a' k (((xs.take h).drop l).map enc)/\(a'=none->c-l=0):=by
 unfold sliced;by_cases hm:c=l
 ·rw[if_pos hm]
  refine⟨a,rfl,?_,λ_=>by omega⟩
  have:(xs.take h).drop l=[]:=List.drop_eq_nil_of_le (by rw[List.length_take];omega)
  rw[this];exact aG.nil _ _ _
 ·rw[if_neg hm]
  refine⟨_,rfl,λaj=>?_,λh0=>?_⟩
  ·have hx:xs.map enc≠[]:=by
    rintro e;rw[Af]at e;subst e;simp at aj
   obtain⟨b,off,rfl,be⟩:=ac hx;refine⟨b,off+l*k,by rw[Option.map_some,iH],λi row hi j v hj=>?_⟩;rw[Ad,List.getElem?_drop]at hi
   have h1:(xs.map enc)[l+i]?=some row:=by
    rw[Ad];rw[Ah]at hi;split at hi
    ·exact hi
    ·cases hi
   have:=be (l+i) row h1 j v hj
   rwa [Nat.add_mul,<-Nat.add_assoc]at this
  ·have h1:a=none:=by cases a with
    | none=>rfl
    | some x=>simp at h0
   have:=hn h1
   omega
theorem yF0 {α:Type} {enc:α->List Value} {k:Nat} {w:World} {a:Option Addr} {xs:List α} (h:aG w a k (xs.map enc)) (n:Nat):aG w a k ((xs.take n).map enc):=λaj=>by
 have hx:xs.map enc≠[]:=by
  rintro e;rw[Af]at e;subst e;simp at aj
 obtain⟨b,off,ha,hc⟩:=h hx;refine⟨b,off,ha,λi row hi j v hj=>hc i row ?_ j v hj⟩;rw[Ad]at hi ⊢;rw[Ah]at hi;split at hi
 ·exact hi
 ·cases hi
end
section
open Go Go.RowKit
attribute [local go_sem] aQ
end
end Go.Proofs.YtaogeadljgjpcaaGreatDoor
