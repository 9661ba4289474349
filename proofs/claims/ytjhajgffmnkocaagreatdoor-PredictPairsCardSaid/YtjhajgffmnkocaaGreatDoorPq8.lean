/- The texts Kana Echk Uval NamedD OpenE OpenS Slc Runes KanaP RefK, one behind the other. -/
import Derived.Test.YtjhajgffmnkocaaGreatDoorPq7
import Derived.Test.YtjhajgffmnkocaaGreatDoorPq3
import Derived.Test.YtjhajgffmnkocaaGreatDoorPq5
import Derived.Test.YtjhajgffmnkocaaGreatDoorPq2
import Derived.ChangeSame
import Derived.ChangeMaps5
import Derived.Deep.Slices
import Derived.SizedLaws
import Derived.Test.YtjhajgffmnkocaaGreatDoorPq1
open Go.Lib renaming validD → Aa,hid → Ab,idxFunc → Ad,decodeL_N → Ai,decodeL → Aj,size_eq → Ak
open List renaming getElem?_map → Ac,map_eq_nil_iff → Af,getElem?_take → Ag
open UInt8 renaming toNat_lt → Ae
open Bool renaming eq_iff_iff → Ah
open Nat renaming le_refl → Al
set_option maxHeartbeats 4000000
namespace Go.Proofs.YtjhajgffmnkocaaGreatDoor
set_option maxRecDepth 100000
section
open Go Go.RowKit Go.Shelf
attribute [local go_sem] aO
def countS (s:ByteArray):Int:=if Aa s.data.toList then (Lib.runeCount s:Int) else -1
theorem dE0 (s:ByteArray) (w:World) (hs:s.size<9223372036854775807) (he:Env w) :
  Calls Tryz.prog 243 #[.string s] w λe w'=>e=.returned (.int .i64 (countS s))/\aB w w':=by
 have cV:Calls Tryz.prog 72 #[.string s] w _:=Any.utf8_ValidString Tryz.laysValid s w (by omega) he.utf;have CV:=Ab cV;clear cV he;unfold countS;generalize Aa s.data.toList=v at CV ⊢;have HS:=Ab hs;clear hs;cases v
 ·go_enter Tryz.func243,Tryz.ntmps243
  go_wp2_with (go_at_call 72;refine CV.out.mono ?_;rintro e w' ⟨rfl,hg⟩)
  go_ret;exact⟨rfl,hg⟩
 ·go_enter Tryz.func243,Tryz.ntmps243
  go_wp2_with (first|(go_at_call 72;refine CV.out.mono ?_;rintro e w' ⟨rfl,hg⟩)|(go_at_call 271;refine(Tryz.utf8_RuneCountInString s _ HS.out).mono ?_;rintro e w2 ⟨rfl,pos,rfl⟩))
  go_ret;exact⟨rfl,hg.trans (Below.mono (rR0 _ _ _) hg.size)⟩
def xD (c:Int):Bool:=decide (12353<=c)&&decide (c<=12438)
def zF0 (c:Int) (w:World) (e:Ending) (w':World):Prop:=∃r:Int,e=.returned (.int .i64 r)/\(r=1↔xD c=true)/\w=w'
theorem xO0 (c:Int) (w:World):Calls Tryz.prog 245 #[.int .i32 c] w (zF0 c w):=by
 by_cases h1:12353<=c
 ·by_cases h2:c<=12438
  ·go_enter Tryz.func245,Tryz.ntmps245
   go_wp2
   go_ret;exact⟨1,rfl,by simp[xD,h1,h2],rfl⟩
  ·have hN:=Ab (show ∀r:Int,r≠1->(r=1↔xD c=true) from λr hr=>by simp[xD,h2,hr])
   go_enter Tryz.func245,Tryz.ntmps245
   go_wp2
   all_goals (go_ret;exact⟨_,rfl,hN.out _ (by decide),rfl⟩)
 ·have hN:=Ab (show ∀r:Int,r≠1->(r=1↔xD c=true) from λr hr=>by simp[xD,h1,hr])
  have h2:c<12353:=by omega
  go_enter Tryz.func245,Tryz.ntmps245
  go_wp2
  all_goals (go_ret;exact⟨_,rfl,hN.out _ (by decide),rfl⟩)
def kanaBad (c:Nat):Bool := !((c:Int)==12540) && !xD c
theorem kZ0 (w:World):PredAt Tryz.prog 244 #[] encR kanaBad w:=λW x _=>by
 unfold FnGives;show Calls Tryz.prog 244 #[.int .i32 (x:Int)] W _
 unfold kanaBad;have ie:=Ab (xO0 (x:Int) W);generalize (x:Int)=c at ie ⊢;by_cases h:c=12540
 ·subst h
  go_enter Tryz.func244,Tryz.ntmps244
  go_wp2
  go_ret;exact⟨rfl,0,rfl⟩
 ·have h1:(c != 12540)=true:=by simp[h]
  have h2:(!(c==12540))=true:=by simp[h]
  rw[h2,Bool.true_and];generalize hh:xD c=hb at ie ⊢;have HH:=Ab hh;clear hh h h2;go_enter Tryz.func244,Tryz.ntmps244
  go_wp2_with (go_at_call 245;refine ie.out.mono ?_;rintro e w' ⟨r,rfl,hr,rfl⟩;have HR:=Ab hr;clear hr)
  all_goals (go_ret;refine⟨dI ?_,0,rfl⟩;have h1:=HR.out;rw[HH.out]at h1;rw[Ah];simp;rw[h1];simp)
def readingS (s:ByteArray):Bool:=decide (1<=countS s)&&decide (countS s<=64) && !decide (0<=Ad kanaBad true s)
def surfBad (c:Nat):Bool:=decide ((c:Int)<32)||(decide (127<=(c:Int))&&decide ((c:Int)<=159))
def surfaceS (s:ByteArray):Bool:=decide (1<=countS s)&&decide (countS s<=64) && !decide (0<=Ad surfBad true s)
theorem nD0 (s:ByteArray) (w:World) (hs:s.size<9223372036854775807) (he:Env w) :
  Calls Tryz.prog 209 #[.string s] w λe w'=>e=.returned (.bool (readingS s))/\aB w w':=by
 have C1:=Ab (dE0 s w hs he);have C2:∀W,Hid (Calls Tryz.prog 140 _ W _):=λW=>Ab (Tryz.strings_ContainsFunc 244 #[] (enters_of Tryz.func244 (by kernel_rfl) rfl) kanaBad s W (kZ0 W));clear hs he;unfold readingS;generalize countS s=n at C1 ⊢;generalize decide (0<=Ad kanaBad true s)=r at C2 ⊢;by_cases h1:1<=n
 ·by_cases h2:n<=64
  ·go_enter Tryz.func209,Tryz.ntmps209
   go_wp2_with (first|(go_at_call 243;refine C1.out.mono ?_;rintro e w1 ⟨rfl,hg⟩)|(go_at_call 140;refine(C2 _).out.mono ?_;rintro e w2 ⟨rfl,ae⟩))
   go_ret;exact⟨dI (by simp[h1,h2]),hg.tr ae⟩
  ·go_enter Tryz.func209,Tryz.ntmps209
   go_wp2_with (first|(go_at_call 243;refine C1.out.mono ?_;rintro e w1 ⟨rfl,hg⟩))
   go_ret;exact⟨dI (by simp;omega),hg⟩
 ·go_enter Tryz.func209,Tryz.ntmps209
  go_wp2_with (first|(go_at_call 243;refine C1.out.mono ?_;rintro e w1 ⟨rfl,hg⟩))
  go_ret;exact⟨dI (by simp;omega),hg⟩
theorem aG1 (w:World):PredAt Tryz.prog 246 #[] encR surfBad w:=λW x _=>by
 unfold FnGives;show Calls Tryz.prog 246 #[.int .i32 (x:Int)] W _
 unfold surfBad;generalize (x:Int)=c;go_enter Tryz.func246,Tryz.ntmps246
 go_wp2
 all_goals (go_ret;refine⟨dI ?_,0,rfl⟩;first|rfl|(rw[Ah];simp;try omega))
theorem gK0 (s:ByteArray) (w:World) (hs:s.size<9223372036854775807) (he:Env w) :
  Calls Tryz.prog 210 #[.string s] w λe w'=>e=.returned (.bool (surfaceS s))/\aB w w':=by
 have C1:=Ab (dE0 s w hs he);have C2:∀W,Hid (Calls Tryz.prog 140 _ W _):=λW=>Ab (Tryz.strings_ContainsFunc 246 #[] (enters_of Tryz.func246 (by kernel_rfl) rfl) surfBad s W (aG1 W));clear hs he;unfold surfaceS;generalize countS s=n at C1 ⊢;generalize decide (0<=Ad surfBad true s)=r at C2 ⊢;by_cases h1:1<=n
 ·by_cases h2:n<=64
  ·go_enter Tryz.func210,Tryz.ntmps210
   go_wp2_with (first|(go_at_call 243;refine C1.out.mono ?_;rintro e w1 ⟨rfl,hg⟩)|(go_at_call 140;refine(C2 _).out.mono ?_;rintro e w2 ⟨rfl,ae⟩))
   go_ret;exact⟨dI (by simp[h1,h2]),hg.tr ae⟩
  ·go_enter Tryz.func210,Tryz.ntmps210
   go_wp2_with (first|(go_at_call 243;refine C1.out.mono ?_;rintro e w1 ⟨rfl,hg⟩))
   go_ret;exact⟨dI (by simp;omega),hg⟩
 ·go_enter Tryz.func210,Tryz.ntmps210
  go_wp2_with (first|(go_at_call 243;refine C1.out.mono ?_;rintro e w1 ⟨rfl,hg⟩))
  go_ret;exact⟨dI (by simp;omega),hg⟩
def jD0 (r s:ByteArray) (l t c n:Int):Int :=
 if readingS r&&surfaceS s then (if l<0\/n<=l\/t<0\/n<=t then 150 else if c<0\/30000<c then 6 else 0) else 5
theorem vG0 (r s:ByteArray) (l t c n:Int) (w:World) (hr:r.size<9223372036854775807) (hs:s.size<9223372036854775807) (he:Env w) :
  Calls Tryz.prog 161 #[.agg #[.string r,.string s,.int .i64 l,.int .i64 t,.int .i64 c],.int .i64 n] w λe w'=>e=.returned (.int .i64 (jD0 r s l t c n))/\aB w w':=by
 have C1:∀W,aB w W->Hid (Calls Tryz.prog 209 _ W _):=λW hW=>Ab (nD0 r W hr (he.grows hW));have C2:∀W,aB w W->Hid (Calls Tryz.prog 210 _ W _):=λW hW=>Ab (gK0 s W hs (he.grows hW));unfold jD0;clear hr hs he;generalize readingS r=br at C1 ⊢;generalize surfaceS s=bs at C2 ⊢;cases br
 ·go_enter Tryz.func161,Tryz.ntmps161
  go_wp2_with (first|(go_at_call 209;refine(C1 _ (aB.alloc _ _)).out.mono ?_;rintro e w1 ⟨rfl,hg⟩))
  go_ret;exact⟨rfl,(aB.alloc _ _).tr hg⟩
 ·cases bs
  ·go_enter Tryz.func161,Tryz.ntmps161
   go_wp2_with (first|(go_at_call 209;refine(C1 _ (aB.alloc _ _)).out.mono ?_;rintro e w1 ⟨rfl,hg⟩;have ai:=(aB.alloc _ _).tr hg;have b1:w1.cell? ⟨w.heap.size,1,none⟩=some (.string s):=hg.cell (aT _ _ _ _ 1 _ rfl))|(go_at_call 210;refine(C2 _ ai).out.mono ?_;rintro e w2 ⟨rfl,ae⟩))
   go_ret;exact⟨rfl,ai.tr ae⟩
  ·rw[if_pos (by rfl)]
   go_enter Tryz.func161,Tryz.ntmps161
   go_wp2_with (first|(go_at_call 209;refine(C1 _ (aB.alloc _ _)).out.mono ?_;rintro e w1 ⟨rfl,hg⟩;have ai:=(aB.alloc _ _).tr hg;have b1:w1.cell? ⟨w.heap.size,1,none⟩=some (.string s):=hg.cell (aT _ _ _ _ 1 _ rfl);have b2:w1.cell? ⟨w.heap.size,2,none⟩=some (.int .i64 l):=hg.cell (aT _ _ _ _ 2 _ rfl);have b3:w1.cell? ⟨w.heap.size,3,none⟩=some (.int .i64 t):=hg.cell (aT _ _ _ _ 3 _ rfl);have b4:w1.cell? ⟨w.heap.size,4,none⟩=some (.int .i64 c):=hg.cell (aT _ _ _ _ 4 _ rfl))|(go_at_call 210;refine(C2 _ ai).out.mono ?_;rintro e w2 ⟨rfl,ae⟩;have d2:=ae.cell b2;have d3:=ae.cell b3;have d4:=ae.cell b4))
   all_goals (go_ret;exact⟨rfl,ai.tr ae⟩)
theorem uL (s:ByteArray) (w:World) (hs:s.size<9223372036854775807) (he:Env w) :
  Calls Tryz.prog 32 #[.string s] w λe w'=>e=.returned (.bool (Aa s.data.toList))/\aB w w':=by
 have cV:Calls Tryz.prog 72 #[.string s] w _:=Any.utf8_ValidString Tryz.laysValid s w (by omega) he.utf;have CV:=Ab cV;clear cV he hs;generalize Aa s.data.toList=v at CV ⊢;go_enter Tryz.func32,Tryz.ntmps32
 go_wp2_with (go_at_call 72;refine CV.out.mono ?_;rintro e w' ⟨rfl,hg⟩)
 go_ret;exact⟨rfl,hg⟩
end
section
open Go
theorem gH1 (s:ByteArray):wY s=(!s.toList.isEmpty&&decide (s.size<=16) && !(runesD s.data.toList).any nameBad):=by
 unfold wY;rw[jX1]
end
section
open Go Go.ChangeShapes Go.WideShapes Go.ChangeAt Go.RowKit Go.Shelf Go.Lib
open Go.ChangeMaps (open_string shut_string)
theorem eL1 {cs:Array Value} {a b c d e:Value} (hs:cs.size=5) (h0:(cs.toList.drop 0).take 1=[a]) (h1:(cs.toList.drop 1).take 1=[b]) (h2:(cs.toList.drop 2).take 1=[c]) (h3:(cs.toList.drop 3).take 1=[d]) (h4:(cs.toList.drop 4).take 1=[e]):cs = #[a,b,c,d,e]:=by
 obtain⟨l⟩:=cs
 match l,hs with
 | [x0,x1,x2,x3,x4],_ =>
  simp at h0 h1 h2 h3 h4;subst h0 h1 h2 h3 h4;rfl
theorem open_entry {H:Type} {enc:TypeId×Value->H} {W:World} {base b0:Nat} {sp:Nat->Bool} {hd:Bool} {r:Reach} {v:Value} {d:DataW H} {ps:List MemPlace} (mn:Value.okWide Tryz.prog W r b0 62 v) (h:DataW.Trod enc Tryz.prog W base sp hd 62 v d ps) :
  ∃x:En,v=x.agg/\tS x:=by
 obtain⟨cs,rfl,hs⟩:=okWide_struct Tryz.underlying62 mn;obtain⟨bu,hf⟩:=h;obtain⟨xs,n,_,hx,hl,aj,bg⟩:=DataW.trod_struct Tryz.underlying62 hf;have hs5:cs.size=5:=hs
 match xs,aj with
 | [y0,y1,y2,y3,y4],_ =>
  have g0:=bg 0 _ rfl;have g1:=bg 1 _ rfl;have g2:=bg 2 _ rfl;have g3:=bg 3 _ rfl;have g4:=bg 4 _ rfl;obtain⟨s0,k0,_,z0⟩:=DataW.trod_string Tryz.underlying9 g0;obtain⟨s1,k1,_,z1⟩:=DataW.trod_string Tryz.underlying9 g1;obtain⟨n2,k2,_,z2⟩:=DataW.trod_int Tryz.underlying3 g2;obtain⟨n3,k3,_,z3⟩:=DataW.trod_int Tryz.underlying3 g3;obtain⟨n4,k4,_,z4⟩:=DataW.trod_int Tryz.underlying3 g4;exact⟨⟨s0,s1,n2,n3,n4⟩,by rw[eL1 hs5 k0 k1 k2 k3 k4];rfl,⟨z0,z1,z2,z3,z4⟩⟩
end
section
open Go Go.ChangeShapes Go.WideShapes Go.ChangeAt Go.RowKit Go.Shelf Go.Lib
open Go.ChangeMaps (open_string shut_string)
theorem kR0 {H:Type} {enc:TypeId×Value->H} {W:World} {base:Nat} {sp:Nat->Bool} {hd:Bool} (n:Nat) (cs:List Value) (x:DataW H×List MemPlace) (hl:cs.length=5) (h:DataW.trod enc Tryz.prog W base sp hd n 62 cs=some x) :
  ∃y:En,cs=bF y/\tS y:=by
 obtain⟨xs,n,_,hx,_,aj,bg⟩:=DataW.trod_struct Tryz.underlying62 h
 match cs,hl with
 | [c0,c1,c2,c3,c4],_ =>
  match xs,aj with
  | [y0,y1,y2,y3,y4],_ =>
   have g0:=bg 0 _ rfl;have g1:=bg 1 _ rfl;have g2:=bg 2 _ rfl;have g3:=bg 3 _ rfl;have g4:=bg 4 _ rfl;obtain⟨s0,k0,_,z0⟩:=DataW.trod_string Tryz.underlying9 g0;obtain⟨s1,k1,_,z1⟩:=DataW.trod_string Tryz.underlying9 g1;obtain⟨n2,k2,_,z2⟩:=DataW.trod_int Tryz.underlying3 g2;obtain⟨n3,k3,_,z3⟩:=DataW.trod_int Tryz.underlying3 g3;obtain⟨n4,k4,_,z4⟩:=DataW.trod_int Tryz.underlying3 g4;refine⟨⟨s0,s1,n2,n3,n4⟩,?_,⟨z0,z1,z2,z3,z4⟩⟩;have e0:c0=.string s0:=by injection k0
   have e1:c1=.string s1:=by injection k1
   have e2:c2=.int .i64 n2:=by injection k2
   have e3:c3=.int .i64 n3:=by injection k3
   have e4:c4=.int .i64 n4:=by injection k4
   subst e0 e1 e2 e3 e4;rfl
structure iI1 (x:cY):Prop where
 n:x.name.size<=maxLen
 k:(Lit.int .i64 x.kind).wf=true
theorem kZ1 {H:Type} {enc:TypeId×Value->H} {W:World} {base:Nat} {sp:Nat->Bool} {hd:Bool} (n:Nat) (cs:List Value) (x:DataW H×List MemPlace) (hl:cs.length=2) (h:DataW.trod enc Tryz.prog W base sp hd n 131 cs=some x) :
  ∃y:cY,cs=cB y/\iI1 y:=by
 obtain⟨xs,n,_,hx,_,aj,bg⟩:=DataW.trod_struct Tryz.underlying131 h
 match cs,hl with
 | [c0,c1],_ =>
  match xs,aj with
  | [y0,y1],_ =>
   have g0:=bg 0 _ rfl;have g1:=bg 1 _ rfl;obtain⟨s0,k0,_,z0⟩:=DataW.trod_string Tryz.underlying9 g0;obtain⟨n1,k1,_,z1⟩:=DataW.trod_int Tryz.underlying3 g1;refine⟨⟨s0,n1⟩,?_,⟨z0,z1⟩⟩;have e0:c0=.string s0:=by injection k0
   have e1:c1=.int .i64 n1:=by injection k1
   subst e0 e1;rfl
section
variable {H:Type} {enc:TypeId×Value->H} {W:World} {base b0:Nat} {sp:Nat->Bool} {hd:Bool} {r:Reach} {v:Value} {d:DataW H} {ps:List MemPlace}
theorem open_entries (mn:Value.okWide Tryz.prog W r b0 24 v) (h:DataW.Trod enc Tryz.prog W base sp hd 24 v d ps) :
  ∃(a:Option Addr) (l:List En) (cap:Nat),v=.slice a l.length cap/\aG W a 5 (l.map bF)/\(∀x∈l,tS x)/\(d=.nil/\l=[]\/∃el sp,d=.slice el sp/\el.length=l.length) :=
 gS0 Tryz.underlying24 (by kernel_rfl) (by decide) (λ_=>rfl) kR0 mn h
theorem open_poss (mn:Value.okWide Tryz.prog W r b0 35 v) (h:DataW.Trod enc Tryz.prog W base sp hd 35 v d ps) :
  ∃(a:Option Addr) (l:List cY) (cap:Nat),v=.slice a l.length cap/\aG W a 2 (l.map cB)/\(∀x∈l,iI1 x)/\(d=.nil/\l=[]\/∃el sp,d=.slice el sp/\el.length=l.length) :=
 gS0 Tryz.underlying35 (by kernel_rfl) (by decide) (λ_=>rfl) kZ1 mn h
end
end
section
open Go Go.RowKit
theorem aX0 {α:Type} {enc:α->List Value} {k:Nat} {w:World} {a:Option Addr} {xs:List α} {c l h:Nat} (ac:aG w a k (xs.map enc)) (hn:a=none->c=0) (_:l<=h) (hh:h<=xs.length) (hc:xs.length<=c) :
  ∃a',sliced a l h c k=.slice a' (h-l) (c-l)/\aG w a' k (((xs.take h).drop l).map enc)/\(a'=none->c-l=0):=by
 unfold sliced;by_cases hm:c=l
 ·rw[if_pos hm]
  refine⟨a,rfl,?_,λ_=>by omega⟩
  have:(xs.take h).drop l=[]:=List.drop_eq_nil_of_le (by rw[List.length_take];omega)
  rw[this];exact aG.nil _ _ _
 ·rw[if_neg hm]
  refine⟨_,rfl,λak=>?_,λh0=>?_⟩
  ·have hx:xs.map enc≠[]:=by
    rintro e;rw[Af]at e;subst e;simp at ak
   obtain⟨b,off,rfl,bk⟩:=ac hx;refine⟨b,off+l*k,by rw[Option.map_some,iE],λi row hi j v hj=>?_⟩;rw[Ac,List.getElem?_drop]at hi
   have h1:(xs.map enc)[l+i]?=some row:=by
    rw[Ac];rw[Ag]at hi;split at hi
    ·exact hi
    ·cases hi
   have:=bk (l+i) row h1 j v hj
   rwa [Nat.add_mul,<-Nat.add_assoc]at this
  ·have h1:a=none:=by cases a with
    | none=>rfl
    | some x=>simp at h0
   have:=hn h1
   omega
theorem bT1 {α:Type} {enc:α->List Value} {k:Nat} {w:World} {a:Option Addr} {xs:List α} (h:aG w a k (xs.map enc)) (n:Nat):aG w a k ((xs.take n).map enc):=λak=>by
 have hx:xs.map enc≠[]:=by
  rintro e;rw[Af]at e;subst e;simp at ak
 obtain⟨b,off,ha,hc⟩:=h hx;refine⟨b,off,ha,λi row hi j v hj=>hc i row ?_ j v hj⟩;rw[Ac]at hi ⊢;rw[Ag]at hi;split at hi
 ·exact hi
 ·cases hi
end
section
open Go Go.RowKit
attribute [local go_sem] aO
theorem sE0 {s:ByteArray} {k:Nat} (hk:k<s.size) :
  ((nextS s k).2=0/\Aa (s.data.toList.drop k)=false)\/(1<=(nextS s k).2/\k+(nextS s k).2<=s.size/\Aa (s.data.toList.drop k)=Aa (s.data.toList.drop (k+(nextS s k).2))/\runesD (s.data.toList.drop k)=(nextS s k).1::runesD (s.data.toList.drop (k+(nextS s k).2))):=by
 have ak:s.data.toList.drop k≠[]:=λe=>jC.1 e hk;have hd:=vJ _ ak;unfold nextS;rw[hd,Lib.validD_step _ ak,iX _ ak];by_cases hb:(Aj (s.data.toList.drop k)).1=65533/\(Aj (s.data.toList.drop k)).2=1
 ·rw[if_pos hb,if_pos hb];exact Or.inl ⟨rfl,rfl⟩
 ·rw[if_neg hb,if_neg hb,yI]
  have hs:=nR (s.data.toList.drop k).length ((s.data.toList.drop k).getD 0 0).toNat ((s.data.toList.drop k).getD 1 0).toNat ((s.data.toList.drop k).getD 2 0).toNat ((s.data.toList.drop k).getD 3 0).toNat (Ae _) (Ae _) (Ae _) (by rw[<-Ai];exact hb);rw[<-Ai]at hs;refine Or.inr ⟨Lib.decodeL_width _,?_,rfl,rfl⟩;have hl:(s.data.toList.drop k).length=s.size-k:=by rw[List.length_drop,Ak]
  rcases hs with ⟨_,h⟩|⟨_,h,_⟩
  ·rw[h];show k+1<=_;omega
  ·rw[hl]at h;omega
def tH (s:ByteArray) (w:World) (e:Ending) (w':World):Prop :=
 ∃a cap,e=.returned (.tuple #[.slice a (if Aa s.data.toList then runesD s.data.toList else []).length cap,.bool (Aa s.data.toList)])/\aG w' a 1 ((if Aa s.data.toList then runesD s.data.toList else []).map fD1)/\aB w w'
theorem yH0 (s:ByteArray) (w:World) (hs:s.size<=35184372088832) :
  Calls Tryz.prog 86 #[.string s] w (tH s w):=by
 go_enter Tryz.func86,Tryz.ntmps86
 go_wp2_with fail
 go_loopw [4,5] (λv i wr=>∃(k:Nat) (rs:List Nat),k<=s.size/\i=.int .i64 k/\aU wr w.heap.size 21 1 fD1 v rs/\Hid (Aa s.data.toList=Aa (s.data.toList.drop k)/\runesD s.data.toList=rs++runesD (s.data.toList.drop k))/\rs.length<=k/\aB w wr) (λ_ i _=>s.size-(intOf i).toNat)
 case atStart=>exact⟨0,[],Nat.zero_le _,rfl,aU.nil _ _ _ _ _,⟨rfl,rfl⟩,Al _,aB.refl _⟩
 case round =>
  obtain⟨k,rs,hk,rfl,aa,cp,hrl,hg⟩:=hrel;obtain⟨a3,c3,rfl,nu,hc2,ac⟩:=aa.at_ wP0.len;by_cases af:k<s.size
  ·have HN:=λW=>Ab (gB1 s k W (by omega) af)
   have dg:=sE0 af;generalize nextS s k=R at *;obtain⟨c,n⟩:=R;simp only at HN dg;rcases dg with ⟨h0,hv⟩|⟨h1,h2,hv,hr⟩
   ·subst h0
    have dl:Aa s.data.toList=false:=cp.out.1.trans hv;have HB:=Ab dl;clear dl hv cp ac;go_wp2_with (first|(go_at_call 159;refine(HN _).out.mono ?_;rintro e w1 ⟨rfl,ai⟩))
    go_ret2;unfold tH;rw[HB.out];exact⟨none,0,rfl,aG.nil _ _ _,hg.tr ai⟩
   ·have l8:Aa s.data.toList=Aa (s.data.toList.drop (k+n))/\runesD s.data.toList=(rs++[c])++runesD (s.data.toList.drop (k+n)):=⟨cp.out.1.trans hv,by rw[cp.out.2,hr];simp⟩
    have HI:=Ab l8;have lh:((n:Int)==0)=false:=by rw[beq_eq_false_iff_ne];omega
    clear cp l8 hv hr ac;go_wp2_with (first|(go_at_call 159;refine(HN _).out.mono ?_;rintro e w1 ⟨rfl,ai⟩)|(at_builtin;refine nR0 wP0 rfl _ _ rfl w.heap.size _ _ c rfl (aa.grows ai) (aB.refl _) w1.heap.size 1 rfl #[.int .i32 c] rfl rfl (by omega) (hg.tr ai).size ?_;intro v' w5 l9 bi))
    have du:=bi w (hg.tr ai) (Al _);go_wp2
    go_roundw
    case rel=>exact⟨k+n,rs++[c],h2,by go_num,l9,HI.out,by simp;omega,du⟩
    case measure=>simp[intOf];omega
  ·obtain rfl:k=s.size:=by omega
   have ax:Aa s.data.toList=true/\runesD s.data.toList=rs:=by
    have:=cp.out
    rw[show s.data.toList.drop s.size=[] by rw[Ak,List.drop_length]]at this
    exact⟨this.1,by rw[this.2,tE0,List.append_nil]⟩
   have HF:=Ab ax;clear ax cp;go_wp2
   go_ret2;unfold tH;rw[HF.out.1,HF.out.2,if_pos rfl];exact⟨_,_,rfl,ac,hg⟩
end
section
open Go
end
section
open Go Go.RowKit
attribute [local go_sem] aO
end
end Go.Proofs.YtjhajgffmnkocaaGreatDoor
