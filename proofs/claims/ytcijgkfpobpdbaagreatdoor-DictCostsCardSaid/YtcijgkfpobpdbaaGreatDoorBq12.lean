/- The texts Kana Echk NamedD OpenE OpenS Slc KanaP RefK, one behind the other. -/
import Derived.Test.YtcijgkfpobpdbaaGreatDoorBq11
import Derived.Test.YtcijgkfpobpdbaaGreatDoorBq5
import Derived.Test.YtcijgkfpobpdbaaGreatDoorBq7
import Derived.Test.YtcijgkfpobpdbaaGreatDoorBq3
import Derived.ChangeSame
import Derived.ChangeMaps5
import Derived.Deep.Slices
import Derived.SizedLaws
open Go.Lib renaming hid → Aa,validD → Ab,idxFunc → Af,size_eq → Am
open Bool renaming eq_iff_iff → Ac,true_and → Ah,and_self → Al
open List renaming getElem?_map → Ad,getElem?_eq_getElem → Ae,map_eq_nil_iff → Ag,getElem?_take → Ai,drop_length → Aj
open Nat renaming zero_le → Ak
set_option maxHeartbeats 4000000
namespace Go.Proofs.YtcijgkfpobpdbaaGreatDoor
set_option maxRecDepth 100000
section
open Go Go.RowKit Go.Shelf
attribute [local go_sem] aQ
def countS (s:ByteArray):Int:=if Ab s.data.toList then (Lib.runeCount s:Int) else -1
theorem dZ0 (s:ByteArray) (w:World) (hs:s.size<9223372036854775807) (he:Env w) :
  Calls Tryz.prog 257 #[.string s] w λe w'=>e=.returned (.int .i64 (countS s))/\Grows w w':=by
 have cV:Calls Tryz.prog 283 #[.string s] w _:=Any.utf8_ValidString Tryz.laysValid s w (by omega) he.utf;have CV:=Aa cV;clear cV he;unfold countS;generalize Ab s.data.toList=v at CV ⊢;have HS:=Aa hs;clear hs;cases v
 ·go_enter Tryz.func257,Tryz.ntmps257
  go_wp2_with (go_at_call 283;refine CV.out.mono ?_;rintro e w' ⟨rfl,hg⟩)
  go_ret;exact⟨rfl,hg⟩
 ·go_enter Tryz.func257,Tryz.ntmps257
  go_wp2_with (first|(go_at_call 283;refine CV.out.mono ?_;rintro e w' ⟨rfl,hg⟩)|(go_at_call 284;refine(Tryz.utf8_RuneCountInString s _ HS.out).mono ?_;rintro e w2 ⟨rfl,pos,rfl⟩))
  go_ret;exact⟨rfl,hg.trans (Below.mono (uI0 _ _ _) hg.size)⟩
def oT (c:Int):Bool:=decide (12353<=c)&&decide (c<=12438)
def jQ0 (c:Int) (w:World) (e:Ending) (w':World):Prop:=∃r:Int,e=.returned (.int .i64 r)/\(r=1↔oT c=true)/\w=w'
theorem cK1 (c:Int) (w:World):Calls Tryz.prog 259 #[.int .i32 c] w (jQ0 c w):=by
 by_cases h1:12353<=c
 ·by_cases h2:c<=12438
  ·go_enter Tryz.func259,Tryz.ntmps259
   go_wp2
   go_ret;exact⟨1,rfl,by simp[oT,h1,h2],rfl⟩
  ·have hN:=Aa (show ∀r:Int,r≠1->(r=1↔oT c=true) from λr hr=>by simp[oT,h2,hr])
   go_enter Tryz.func259,Tryz.ntmps259
   go_wp2
   all_goals (go_ret;exact⟨_,rfl,hN.out _ (by decide),rfl⟩)
 ·have hN:=Aa (show ∀r:Int,r≠1->(r=1↔oT c=true) from λr hr=>by simp[oT,h1,hr])
  have h2:c<12353:=by omega
  go_enter Tryz.func259,Tryz.ntmps259
  go_wp2
  all_goals (go_ret;exact⟨_,rfl,hN.out _ (by decide),rfl⟩)
def kanaBad (c:Nat):Bool := !((c:Int)==12540) && !oT c
theorem lY0 (w:World):PredAt Tryz.prog 258 #[] encR kanaBad w:=λW x _=>by
 unfold FnGives;show Calls Tryz.prog 258 #[.int .i32 (x:Int)] W _
 unfold kanaBad;have gv:=Aa (cK1 (x:Int) W);generalize (x:Int)=c at gv ⊢;by_cases h:c=12540
 ·subst h
  go_enter Tryz.func258,Tryz.ntmps258
  go_wp2
  go_ret;exact⟨rfl,0,rfl⟩
 ·have h1:(c != 12540)=true:=by simp[h]
  have h2:(!(c==12540))=true:=by simp[h]
  rw[h2,Ah];generalize hh:oT c=hb at gv ⊢;have HH:=Aa hh;clear hh h h2;go_enter Tryz.func258,Tryz.ntmps258
  go_wp2_with (go_at_call 259;refine gv.out.mono ?_;rintro e w' ⟨r,rfl,hr,rfl⟩;have HR:=Aa hr;clear hr)
  all_goals (go_ret;refine⟨aZ ?_,0,rfl⟩;have h1:=HR.out;rw[HH.out]at h1;rw[Ac];simp;rw[h1];simp)
def readingS (s:ByteArray):Bool:=decide (1<=countS s)&&decide (countS s<=64) && !decide (0<=Af kanaBad true s)
def surfBad (c:Nat):Bool:=decide ((c:Int)<32)||(decide (127<=(c:Int))&&decide ((c:Int)<=159))
def surfaceS (s:ByteArray):Bool:=decide (1<=countS s)&&decide (countS s<=64) && !decide (0<=Af surfBad true s)
theorem nF0 (s:ByteArray) (w:World) (hs:s.size<9223372036854775807) (he:Env w) :
  Calls Tryz.prog 205 #[.string s] w λe w'=>e=.returned (.bool (readingS s))/\Grows w w':=by
 have C1:=Aa (dZ0 s w hs he);have C2:∀W,Hid (Calls Tryz.prog 241 _ W _):=λW=>Aa (Tryz.strings_ContainsFunc 258 #[] (enters_of Tryz.func258 (by kernel_rfl) rfl) kanaBad s W (lY0 W));clear hs he;unfold readingS;generalize countS s=n at C1 ⊢;generalize decide (0<=Af kanaBad true s)=r at C2 ⊢;by_cases h1:1<=n
 ·by_cases h2:n<=64
  ·go_enter Tryz.func205,Tryz.ntmps205
   go_wp2_with (first|(go_at_call 257;refine C1.out.mono ?_;rintro e w1 ⟨rfl,hg⟩)|(go_at_call 241;refine(C2 _).out.mono ?_;rintro e w2 ⟨rfl,af⟩))
   go_ret;exact⟨aZ (by simp[h1,h2]),hg.tr af⟩
  ·go_enter Tryz.func205,Tryz.ntmps205
   go_wp2_with (first|(go_at_call 257;refine C1.out.mono ?_;rintro e w1 ⟨rfl,hg⟩))
   go_ret;exact⟨aZ (by simp;omega),hg⟩
 ·go_enter Tryz.func205,Tryz.ntmps205
  go_wp2_with (first|(go_at_call 257;refine C1.out.mono ?_;rintro e w1 ⟨rfl,hg⟩))
  go_ret;exact⟨aZ (by simp;omega),hg⟩
theorem zJ0 (w:World):PredAt Tryz.prog 260 #[] encR surfBad w:=λW x _=>by
 unfold FnGives;show Calls Tryz.prog 260 #[.int .i32 (x:Int)] W _
 unfold surfBad;generalize (x:Int)=c;go_enter Tryz.func260,Tryz.ntmps260
 go_wp2
 all_goals (go_ret;refine⟨aZ ?_,0,rfl⟩;first|rfl|(rw[Ac];simp;try omega))
theorem fQ0 (s:ByteArray) (w:World) (hs:s.size<9223372036854775807) (he:Env w) :
  Calls Tryz.prog 206 #[.string s] w λe w'=>e=.returned (.bool (surfaceS s))/\Grows w w':=by
 have C1:=Aa (dZ0 s w hs he);have C2:∀W,Hid (Calls Tryz.prog 241 _ W _):=λW=>Aa (Tryz.strings_ContainsFunc 260 #[] (enters_of Tryz.func260 (by kernel_rfl) rfl) surfBad s W (zJ0 W));clear hs he;unfold surfaceS;generalize countS s=n at C1 ⊢;generalize decide (0<=Af surfBad true s)=r at C2 ⊢;by_cases h1:1<=n
 ·by_cases h2:n<=64
  ·go_enter Tryz.func206,Tryz.ntmps206
   go_wp2_with (first|(go_at_call 257;refine C1.out.mono ?_;rintro e w1 ⟨rfl,hg⟩)|(go_at_call 241;refine(C2 _).out.mono ?_;rintro e w2 ⟨rfl,af⟩))
   go_ret;exact⟨aZ (by simp[h1,h2]),hg.tr af⟩
  ·go_enter Tryz.func206,Tryz.ntmps206
   go_wp2_with (first|(go_at_call 257;refine C1.out.mono ?_;rintro e w1 ⟨rfl,hg⟩))
   go_ret;exact⟨aZ (by simp;omega),hg⟩
 ·go_enter Tryz.func206,Tryz.ntmps206
  go_wp2_with (first|(go_at_call 257;refine C1.out.mono ?_;rintro e w1 ⟨rfl,hg⟩))
  go_ret;exact⟨aZ (by simp;omega),hg⟩
def sW (r s:ByteArray) (l t c n:Int):Int :=
 if readingS r&&surfaceS s then (if l<0\/n<=l\/t<0\/n<=t then 150 else if c<0\/30000<c then 6 else 0) else 5
theorem rW0 (r s:ByteArray) (l t c n:Int) (w:World) (hr:r.size<9223372036854775807) (hs:s.size<9223372036854775807) (he:Env w) :
  Calls Tryz.prog 145 #[.agg #[.string r,.string s,.int .i64 l,.int .i64 t,.int .i64 c],.int .i64 n] w λe w'=>e=.returned (.int .i64 (sW r s l t c n))/\Grows w w':=by
 have C1:∀W,Grows w W->Hid (Calls Tryz.prog 205 _ W _):=λW hW=>Aa (nF0 r W hr (he.grows hW));have C2:∀W,Grows w W->Hid (Calls Tryz.prog 206 _ W _):=λW hW=>Aa (fQ0 s W hs (he.grows hW));unfold sW;clear hr hs he;generalize readingS r=br at C1 ⊢;generalize surfaceS s=bs at C2 ⊢;cases br
 ·go_enter Tryz.func145,Tryz.ntmps145
  go_wp2_with (first|(go_at_call 205;refine(C1 _ (Grows.alloc _ _)).out.mono ?_;rintro e w1 ⟨rfl,hg⟩))
  go_ret;exact⟨rfl,(Grows.alloc _ _).tr hg⟩
 ·cases bs
  ·go_enter Tryz.func145,Tryz.ntmps145
   go_wp2_with (first|(go_at_call 205;refine(C1 _ (Grows.alloc _ _)).out.mono ?_;rintro e w1 ⟨rfl,hg⟩;have ah:=(Grows.alloc _ _).tr hg;have b1:w1.cell? ⟨w.heap.size,1,none⟩=some (.string s):=hg.cell (aT _ _ _ _ 1 _ rfl))|(go_at_call 206;refine(C2 _ ah).out.mono ?_;rintro e w2 ⟨rfl,af⟩))
   go_ret;exact⟨rfl,ah.tr af⟩
  ·rw[if_pos (by rfl)]
   go_enter Tryz.func145,Tryz.ntmps145
   go_wp2_with (first|(go_at_call 205;refine(C1 _ (Grows.alloc _ _)).out.mono ?_;rintro e w1 ⟨rfl,hg⟩;have ah:=(Grows.alloc _ _).tr hg;have b1:w1.cell? ⟨w.heap.size,1,none⟩=some (.string s):=hg.cell (aT _ _ _ _ 1 _ rfl);have b2:w1.cell? ⟨w.heap.size,2,none⟩=some (.int .i64 l):=hg.cell (aT _ _ _ _ 2 _ rfl);have b3:w1.cell? ⟨w.heap.size,3,none⟩=some (.int .i64 t):=hg.cell (aT _ _ _ _ 3 _ rfl);have b4:w1.cell? ⟨w.heap.size,4,none⟩=some (.int .i64 c):=hg.cell (aT _ _ _ _ 4 _ rfl))|(go_at_call 206;refine(C2 _ ah).out.mono ?_;rintro e w2 ⟨rfl,af⟩;have d2:=af.cell b2;have d3:=af.cell b3;have d4:=af.cell b4))
   all_goals (go_ret;exact⟨rfl,ah.tr af⟩)
end
section
open Go
theorem fW1 (s:ByteArray):rK s=(!s.toList.isEmpty&&decide (s.size<=16) && !(runesD s.data.toList).any nameBad):=by
 unfold rK;rw[gX1]
end
section
open Go Go.ChangeShapes Go.WideShapes Go.ChangeAt Go.RowKit Go.Shelf Go.Lib
open Go.ChangeMaps (open_string shut_string)
end
section
open Go Go.ChangeShapes Go.WideShapes Go.ChangeAt Go.RowKit Go.Shelf Go.Lib
open Go.ChangeMaps (open_string shut_string)
theorem cE1 {H:Type} {enc:TypeId×Value->H} {W:World} {base:Nat} {sp:Nat->Bool} {hd:Bool} (n:Nat) (cs:List Value) (x:DataW H×List MemPlace) (hl:cs.length=5) (h:DataW.trod enc Tryz.prog W base sp hd n 59 cs=some x) :
  ∃y:En,cs=aJ y/\uO y:=by
 obtain⟨xs,n,_,hx,_,ak,cg⟩:=DataW.trod_struct Tryz.underlying59 h
 match cs,hl with
 | [c0,c1,c2,c3,c4],_ =>
  match xs,ak with
  | [y0,y1,y2,y3,y4],_ =>
   have g0:=cg 0 _ rfl;have g1:=cg 1 _ rfl;have g2:=cg 2 _ rfl;have g3:=cg 3 _ rfl;have g4:=cg 4 _ rfl;obtain⟨s0,k0,_,z0⟩:=DataW.trod_string Tryz.underlying9 g0;obtain⟨s1,k1,_,z1⟩:=DataW.trod_string Tryz.underlying9 g1;obtain⟨n2,k2,_,z2⟩:=DataW.trod_int Tryz.underlying3 g2;obtain⟨n3,k3,_,z3⟩:=DataW.trod_int Tryz.underlying3 g3;obtain⟨n4,k4,_,z4⟩:=DataW.trod_int Tryz.underlying3 g4;refine⟨⟨s0,s1,n2,n3,n4⟩,?_,⟨z0,z1,z2,z3,z4⟩⟩;have e0:c0=.string s0:=by injection k0
   have e1:c1=.string s1:=by injection k1
   have e2:c2=.int .i64 n2:=by injection k2
   have e3:c3=.int .i64 n3:=by injection k3
   have e4:c4=.int .i64 n4:=by injection k4
   subst e0 e1 e2 e3 e4;rfl
section
variable {H:Type} {enc:TypeId×Value->H} {W:World} {base b0:Nat} {sp:Nat->Bool} {hd:Bool} {r:Reach} {v:Value} {d:DataW H} {ps:List MemPlace}
end
end
section
open Go Go.RowKit
theorem pF {α:Type} {enc:α->List Value} {k:Nat} {w:World} {a:Option Addr} {xs:List α} {c l h:Nat} (ac:aF w a k (xs.map enc)) (hn:a=none->c=0) (_:l<=h) (hh:h<=xs.length) (hc:xs.length<=c) :
  ∃a',sliced a l h c k=.slice a' (h-l) (c-l)/\aF w a' k (((xs.take h).drop l).map enc)/\(a'=none->c-l=0):=by
 unfold sliced;by_cases hm:c=l
 ·rw[if_pos hm]
  refine⟨a,rfl,?_,λ_=>by omega⟩
  have:(xs.take h).drop l=[]:=List.drop_eq_nil_of_le (by rw[List.length_take];omega)
  rw[this];exact aF.nil _ _ _
 ·rw[if_neg hm]
  refine⟨_,rfl,λaj=>?_,λh0=>?_⟩
  ·have hx:xs.map enc≠[]:=by
    rintro e;rw[Ag]at e;subst e;simp at aj
   obtain⟨b,off,rfl,bk⟩:=ac hx;refine⟨b,off+l*k,by rw[Option.map_some,iF],λi row hi j v hj=>?_⟩;rw[Ad,List.getElem?_drop]at hi
   have h1:(xs.map enc)[l+i]?=some row:=by
    rw[Ad];rw[Ai]at hi;split at hi
    ·exact hi
    ·cases hi
   have:=bk (l+i) row h1 j v hj
   rwa [Nat.add_mul,<-Nat.add_assoc]at this
  ·have h1:a=none:=by cases a with
    | none=>rfl
    | some x=>simp at h0
   have:=hn h1
   omega
theorem fD0 {α:Type} {enc:α->List Value} {k:Nat} {w:World} {a:Option Addr} {xs:List α} (h:aF w a k (xs.map enc)) (n:Nat):aF w a k ((xs.take n).map enc):=λaj=>by
 have hx:xs.map enc≠[]:=by
  rintro e;rw[Ag]at e;subst e;simp at aj
 obtain⟨b,off,ha,hc⟩:=h hx;refine⟨b,off,ha,λi row hi j v hj=>hc i row ?_ j v hj⟩;rw[Ad]at hi ⊢;rw[Ai]at hi;split at hi
 ·exact hi
 ·cases hi
end
section
open Go
theorem tE0 (s:ByteArray):readingS s=(Ab s.data.toList&&decide (1<=(runesD s.data.toList).length)&&decide ((runesD s.data.toList).length<=64) && !(runesD s.data.toList).any kanaBad):=by
 unfold readingS countS;rw[gX1,zV];cases Ab s.data.toList
 ·simp
 ·simp only[if_true,Ah]
  congr 2
  ·rw[Ac];simp only[decide_eq_true_eq];omega
  ·rw[Ac];simp only[decide_eq_true_eq];omega
theorem uN0 (s:ByteArray):surfaceS s=(Ab s.data.toList&&decide (1<=(runesD s.data.toList).length)&&decide ((runesD s.data.toList).length<=64) && !(runesD s.data.toList).any surfBad):=by
 unfold surfaceS countS;rw[gX1,zV];cases Ab s.data.toList
 ·simp
 ·simp only[if_true,Ah]
  congr 2
  ·rw[Ac];simp only[decide_eq_true_eq];omega
  ·rw[Ac];simp only[decide_eq_true_eq];omega
end
section
open Go Go.RowKit
attribute [local go_sem] aQ
theorem sD (c l h:Int) (w:World) :
  Calls Tryz.prog 282 #[.int .i32 c,.int .i32 l,.int .i32 h] w λe w'=>e=.returned (.bool (decide (l<=c)&&decide (c<=h)))/\w=w':=by
 go_enter Tryz.func282,Tryz.ntmps282
 go_wp2
 all_goals (go_ret;refine⟨aZ ?_,rfl⟩;rw[Ac];simp;try omega)
theorem vJ (c:Int) (w:World):Calls Tryz.prog 252 #[.int .i32 c] w (jQ0 c w):=by
 cases h:oT c
 ·have hN:=Aa (show ∀r:Int,r≠1->(r=1↔oT c=true) from λr hr=>by simp[h,hr])
  have HB:=sD c 12353 12438 w;have hb:(decide ((12353:Int)<=c)&&decide (c<=12438))=false:=h;rw[hb]at HB;have HB2:=Aa HB;clear hb h HB;go_enter Tryz.func252,Tryz.ntmps252
  go_wp2_with fail
  refine HB2.out.mono ?_;rintro e w1 ⟨rfl,rfl⟩;go_wp2_with (first|(go_at_call 282;refine(sD _ _ _ _).mono ?_;rintro e w1 ⟨rfl,rfl⟩))
  all_goals (go_ret;exact⟨_,rfl,hN.out _ (by decide),rfl⟩)
 ·have HB:=sD c 12353 12438 w
  have hb:(decide ((12353:Int)<=c)&&decide (c<=12438))=true:=h;rw[hb]at HB;have HB2:=Aa HB;have HH:=Aa h;clear hb h HB;go_enter Tryz.func252,Tryz.ntmps252
  go_wp2_with fail
  refine HB2.out.mono ?_;rintro e w1 ⟨rfl,rfl⟩;go_wp2
  go_ret;exact⟨1,rfl,by simp[HH.out],rfl⟩
theorem rQ0 {p:Nat->Bool} {l:List Nat} {k c:Nat} (h:l[k]?=some c):(l.drop k).any p=(p c||(l.drop (k+1)).any p):=by
 have ae:=(List.getElem?_eq_some_iff.1 h).1;rw[List.drop_eq_getElem_cons ae,List.any_cons,(List.getElem?_eq_some_iff.1 h).2]
theorem jI0 (s:ByteArray) (w:World) (hs:s.size<=35184372088832) :
  Calls Tryz.prog 195 #[.string s] w λe w'=>e=.returned (.bool (readingS s))/\Grows w w':=by
 have HR:=Aa (lF0 s w hs);have ak:=dJ0 s.data.toList;rw[<-Am]at ak;rw[tE0];unfold qD at HR;generalize Ab s.data.toList=v at *;generalize runesD s.data.toList=rs at *;cases v
 ·go_enter Tryz.func195,Tryz.ntmps195
  go_wp2_with (first|(go_at_call 251;refine HR.out.mono ?_;rintro e w1 ⟨a,c,rfl,ac,ah⟩))
  go_ret;exact⟨rfl,ah⟩
 ·simp only[if_true]at HR
  by_cases h1:1<=rs.length
  ·by_cases h2:rs.length<=64
   ·have g1:¬(rs.length:Int)<1:=by omega
    have g2:¬(64:Int)<rs.length:=by omega
    have e1:(decide (1<=rs.length))=true:=by simpa using h1
    have e2:(decide (rs.length<=64))=true:=by simpa using h2
    rw[e1,e2];clear e1 e2 h1 h2;go_enter Tryz.func195,Tryz.ntmps195
    go_wp2_with (first|(go_at_call 251;refine HR.out.mono ?_;rintro e w1 ⟨a,c,rfl,ac,ah⟩))
    go_loopw [5] (λi wr=>∃k:Nat,k<=rs.length/\i=.int .i64 k/\Hid (rs.any kanaBad=(rs.drop k).any kanaBad)/\Grows w1 wr) (λi _=>rs.length-(intOf i).toNat)
    case atStart=>exact⟨0,Ak _,rfl,rfl,Grows.refl _⟩
    case round =>
     obtain⟨k,hk,rfl,az,hg⟩:=hrel;by_cases ae:k<rs.length
     ·obtain⟨x,hx⟩:∃x,rs[k]?=some x:=⟨_,Ae ae⟩
      obtain⟨ba,oa,rfl,be⟩:=(ac.grows hg).get (aH ae);have c0:wr.cell? ⟨ba,oa+k,none⟩=some (.int .i32 x):=by simpa using be k _ hx 0 _ rfl
      have hi:=az.out;rw[rQ0 hx]at hi;have HI:=Aa hi;clear az hi be hx;by_cases iz:(x:Int)=12540
      ·have oq:kanaBad x=false:=by unfold kanaBad;simp[iz]
       have fg:rs.any kanaBad=(rs.drop (k+1)).any kanaBad:=by rw[HI.out,oq];rfl
       have HI2:=Aa fg;have aj:((x:Int) != 12540)=false:=by simp[iz]
       clear HI oq fg iz;go_wp2_with (first|(go_at_call 252;refine(vJ _ _).mono ?_;rintro e w2 ⟨r,rfl,hr,rfl⟩;clear hr))
       all_goals
        go_roundw
        case rel=>exact⟨k+1,ae,by go_num,HI2.out,hg⟩
        case measure=>simp[intOf];omega
      ·have aj:((x:Int) != 12540)=true:=by simp[iz]
       have oq:kanaBad x = !oT x:=by unfold kanaBad;simp[iz]
       cases hh:oT x
       ·have fg:rs.any kanaBad=true:=by rw[HI.out,oq,hh];rfl
        have HI2:=Aa fg;have HH:=Aa hh;clear HI oq fg iz hh;go_wp2_with (first|(go_at_call 252;refine(vJ _ _).mono ?_;rintro e w2 ⟨r,rfl,hr,rfl⟩;have hr1:(r != 1)=true:=(by rw[HH.out]at hr;simpa using hr);clear hr))
        go_ret;exact⟨aZ (by rw[HI2.out];rfl),ah.tr hg⟩
       ·have fg:rs.any kanaBad=(rs.drop (k+1)).any kanaBad:=by rw[HI.out,oq,hh];rfl
        have HI2:=Aa fg;have HH:=Aa hh;clear HI oq fg iz hh;go_wp2_with (first|(go_at_call 252;refine(vJ _ _).mono ?_;rintro e w2 ⟨r,rfl,hr,rfl⟩;have hr1:(r != 1)=false:=(by rw[HH.out]at hr;simpa using hr);clear hr))
        go_roundw
        case rel=>exact⟨k+1,ae,by go_num,HI2.out,hg⟩
        case measure=>simp[intOf];omega
     ·obtain rfl:k=rs.length:=by omega
      have fg:rs.any kanaBad=false:=by rw[az.out,Aj];rfl
      have HI2:=Aa fg;clear az fg ac;go_wp2
      go_ret;exact⟨aZ (by rw[HI2.out];rfl),ah.tr hg⟩
   ·have g1:¬(rs.length:Int)<1:=by omega
    have g2:(64:Int)<rs.length:=by omega
    have e2:(decide (rs.length<=64))=false:=by simpa using h2
    rw[e2];clear e2 h2 h1;go_enter Tryz.func195,Tryz.ntmps195
    go_wp2_with (first|(go_at_call 251;refine HR.out.mono ?_;rintro e w1 ⟨a,c,rfl,ac,ah⟩))
    go_ret;exact⟨aZ (by simp),ah⟩
  ·have g1:(rs.length:Int)<1:=by omega
   have e1:(decide (1<=rs.length))=false:=by simpa using h1
   rw[e1];clear e1 h1;go_enter Tryz.func195,Tryz.ntmps195
   go_wp2_with (first|(go_at_call 251;refine HR.out.mono ?_;rintro e w1 ⟨a,c,rfl,ac,ah⟩))
   go_ret;exact⟨aZ (by simp),ah⟩
theorem iO0 (s:ByteArray) (w:World) (hs:s.size<=35184372088832) :
  Calls Tryz.prog 196 #[.string s] w λe w'=>e=.returned (.bool (surfaceS s))/\Grows w w':=by
 have HR:=Aa (lF0 s w hs);have ak:=dJ0 s.data.toList;rw[<-Am]at ak;rw[uN0];unfold qD at HR
 have hq:∃L:List Nat,L.length<=s.size/\(Ab s.data.toList=true->L=runesD s.data.toList)/\Hid (Calls Tryz.prog 251 #[.string s] w λe w'=>∃a cap,e=.returned (.tuple #[.slice a L.length cap,.bool (Ab s.data.toList)])/\aF w' a 1 (L.map aI1)/\Grows w w')/\(Ab s.data.toList=false->L=[]):=by
  cases hv:Ab s.data.toList
  ·exact⟨[],Ak _,(λh=>by cases h),by rw[hv]at HR;exact HR,λ_=>rfl⟩
  ·exact⟨runesD s.data.toList,ak,λ_=>rfl,by rw[hv]at HR;exact HR,(λh=>by cases h)⟩
 obtain⟨rs,ji,hL,HR2,hL2⟩:=hq
 have j7:(Ab s.data.toList&&decide (1<=(runesD s.data.toList).length)&&decide ((runesD s.data.toList).length<=64) && !(runesD s.data.toList).any surfBad)=(Ab s.data.toList&&decide (1<=rs.length)&&decide (rs.length<=64) && !rs.any surfBad):=by
  cases hv:Ab s.data.toList
  ·rfl
  ·rw[hL hv]
 rw[j7];clear HR ak j7;generalize Ab s.data.toList=v at *;have HL2:=Aa hL2;clear hL hL2;go_enter Tryz.func196,Tryz.ntmps196
 go_wp2_with (first|(go_at_call 251;refine HR2.out.mono ?_;rintro e w1 ⟨a,c,rfl,ac,ah⟩))
 go_loopw [5] (λi wr=>∃k:Nat,k<=rs.length/\i=.int .i64 k/\Hid (rs.any surfBad=(rs.drop k).any surfBad)/\Grows w1 wr) (λi _=>rs.length-(intOf i).toNat)
 case atStart=>exact⟨0,Ak _,rfl,rfl,Grows.refl _⟩
 case round =>
  obtain⟨k,hk,rfl,az,hg⟩:=hrel;by_cases ae:k<rs.length
  ·obtain⟨x,hx⟩:∃x,rs[k]?=some x:=⟨_,Ae ae⟩
   obtain⟨ba,oa,rfl,be⟩:=(ac.grows hg).get (aH ae);have c0:wr.cell? ⟨ba,oa+k,none⟩=some (.int .i32 x):=by simpa using be k _ hx 0 _ rfl
   have hi:=az.out;rw[rQ0 hx]at hi;have HI:=Aa hi;clear az hi be hx;cases hh:surfBad x
   ·have fg:rs.any surfBad=(rs.drop (k+1)).any surfBad:=by rw[HI.out,hh];rfl
    have HI2:=Aa fg;have q1:¬(x:Int)<32:=by unfold surfBad at hh;simp at hh;omega
    have q2:(x:Int)<127\/160<=(x:Int):=by unfold surfBad at hh;simp at hh;omega
    clear HI fg hh;rcases q2 with q2|q2
    ·have q3:¬127<=(x:Int):=by omega
     go_wp2
     go_roundw
     case rel=>exact⟨k+1,ae,by go_num,HI2.out,hg⟩
     case measure=>simp[intOf];omega
    ·have q3:127<=(x:Int):=by omega
     have q4:¬(x:Int)<160:=by omega
     go_wp2
     go_roundw
     case rel=>exact⟨k+1,ae,by go_num,HI2.out,hg⟩
     case measure=>simp[intOf];omega
   ·have fg:rs.any surfBad=true:=by rw[HI.out,hh];rfl
    have HI2:=Aa fg;have q2:(x:Int)<32\/(¬(x:Int)<32/\127<=(x:Int)/\(x:Int)<160):=by unfold surfBad at hh;simp at hh;omega
    clear HI fg hh;rcases q2 with q2|⟨q2,q3,q4⟩
    ·go_wp2
     go_ret;exact⟨aZ (by rw[HI2.out];simp),ah.tr hg⟩
    ·go_wp2
     go_ret;exact⟨aZ (by rw[HI2.out];simp),ah.tr hg⟩
  ·obtain rfl:k=rs.length:=by omega
   have fg:rs.any surfBad=false:=by rw[az.out,Aj];rfl
   have HI2:=Aa fg;clear az fg ac;cases v
   ·go_wp2
    go_ret;exact⟨rfl,ah.tr hg⟩
   ·by_cases h1:1<=rs.length
    ·have g1:(1:Int)<=rs.length:=by omega
     go_wp2
     go_ret;exact⟨aZ (by rw[HI2.out,Ac];simp;omega),ah.tr hg⟩
    ·have g1:¬(1:Int)<=rs.length:=by omega
     go_wp2
     go_ret;exact⟨aZ (by first|rfl|(simp;omega)|(rw[HI2.out,Ac];simp;omega)),ah.tr hg⟩
theorem eO0 (r s:ByteArray) (l t c n:Int) (w:World) (hr:r.size<=35184372088832) (hs:s.size<=35184372088832) :
  Calls Tryz.prog 135 #[.agg #[.string r,.string s,.int .i64 l,.int .i64 t,.int .i64 c],.int .i64 n] w λe w'=>e=.returned (.int .i64 (sW r s l t c n))/\Grows w w':=by
 have C1:∀W,Hid (Calls Tryz.prog 195 _ W _):=λW=>Aa (jI0 r W hr);have C2:∀W,Hid (Calls Tryz.prog 196 _ W _):=λW=>Aa (iO0 s W hs);unfold sW;generalize readingS r=br at C1 ⊢;generalize surfaceS s=bs at C2 ⊢
 have box:∀ {W:World},Grows (w.alloc (.cells #[.string r,.string s,.int .i64 l,.int .i64 t,.int .i64 c] 59)) W->W.cell? ⟨w.heap.size,1,none⟩=some (.string s)/\W.cell? ⟨w.heap.size,2,none⟩=some (.int .i64 l)/\W.cell? ⟨w.heap.size,3,none⟩=some (.int .i64 t)/\W.cell? ⟨w.heap.size,4,none⟩=some (.int .i64 c):=λhg =>
  ⟨(jZ hg rfl) 1 _ rfl,(jZ hg rfl) 2 _ rfl,(jZ hg rfl) 3 _ rfl,(jZ hg rfl) 4 _ rfl⟩
 have BOX:Hid (∀ {W:World},Grows (w.alloc (.cells #[.string r,.string s,.int .i64 l,.int .i64 t,.int .i64 c] 59)) W->W.cell? ⟨w.heap.size,1,none⟩=some (.string s)/\W.cell? ⟨w.heap.size,2,none⟩=some (.int .i64 l)/\W.cell? ⟨w.heap.size,3,none⟩=some (.int .i64 t)/\W.cell? ⟨w.heap.size,4,none⟩=some (.int .i64 c)):=@box;clear box;cases br
 ·go_enter Tryz.func135,Tryz.ntmps135
  go_wp2_with (first|(go_at_call 195;refine(C1 _).out.mono ?_;rintro e w1 ⟨rfl,ah⟩))
  go_ret;exact⟨rfl,(Grows.alloc _ _).tr ah⟩
 ·cases bs
  ·go_enter Tryz.func135,Tryz.ntmps135
   go_wp2_with (first|(go_at_call 195;refine(C1 _).out.mono ?_;rintro e w1 ⟨rfl,ah⟩;obtain⟨k1,k2,k3,k4⟩:=BOX.out ah)|(go_at_call 196;refine(C2 _).out.mono ?_;rintro e w2 ⟨rfl,af⟩))
   go_ret;exact⟨rfl,((Grows.alloc _ _).tr ah).tr af⟩
  ·go_enter Tryz.func135,Tryz.ntmps135
   go_wp2_with (first|(go_at_call 195;refine(C1 _).out.mono ?_;rintro e w1 ⟨rfl,ah⟩;obtain⟨k1,k2,k3,k4⟩:=BOX.out ah)|(go_at_call 196;refine(C2 _).out.mono ?_;rintro e w2 ⟨rfl,af⟩;replace k1:=af.cell k1;replace k2:=af.cell k2;replace k3:=af.cell k3;replace k4:=af.cell k4))
   all_goals (go_ret;refine⟨bN0 ?_,((Grows.alloc _ _).tr ah).tr af⟩;first|rfl|(simp only[Al,if_true];done)|(simp only[Al,if_true];(repeat' split)<;>first|rfl|(exfalso;omega)))
end
end Go.Proofs.YtcijgkfpobpdbaaGreatDoor
