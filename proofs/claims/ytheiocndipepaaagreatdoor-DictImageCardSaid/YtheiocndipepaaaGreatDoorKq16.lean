/- The texts Kana Echk Bchk NamedD OpenE OpenS Slc KanaP RefK LessW, one behind the other. -/
import Derived.Test.YtheiocndipepaaaGreatDoorKq15
import Derived.Test.YtheiocndipepaaaGreatDoorKq5
import Derived.Test.YtheiocndipepaaaGreatDoorKq11
import Derived.Test.YtheiocndipepaaaGreatDoorKq3
import Derived.Test.YtheiocndipepaaaGreatDoorKq7
import Derived.ChangeSame
import Derived.ChangeMaps5
import Derived.Deep.Slices
import Derived.SizedLaws
import Derived.Test.YtheiocndipepaaaGreatDoorKq4
open Go.Lib renaming hid → Aa,validD → Ab,idxFunc → Ah,size_eq → An
open Bool renaming eq_iff_iff → Ac,true_and → Ak,and_self → Am
open List renaming getElem?_eq_getElem → Ad,drop_eq_getElem_cons → Ae,getElem?_map → Af,drop_length → Ag,map_eq_nil_iff → Aj,getElem?_take → Al
open Nat renaming zero_le → Ai
set_option maxHeartbeats 4000000
namespace Go.Proofs.YtheiocndipepaaaGreatDoor
set_option maxRecDepth 100000
section
open Go Go.RowKit Go.Shelf
attribute [local go_sem] aM
def countS (s:ByteArray):Int:=if Ab s.data.toList then (Lib.runeCount s:Int) else -1
theorem fE0 (s:ByteArray) (w:World) (hs:s.size<9223372036854775807) (he:Env w) :
  Calls Tryz.prog 192 #[.string s] w λe w'=>e=.returned (.int .i64 (countS s))/\Grows w w':=by
 have cV:Calls Tryz.prog 224 #[.string s] w _:=Any.utf8_ValidString Tryz.laysValid s w (by omega) he.utf;have CV:=Aa cV;clear cV he;unfold countS;generalize Ab s.data.toList=v at CV ⊢;have HS:=Aa hs;clear hs;cases v
 ·go_enter Tryz.func192,Tryz.ntmps192
  go_wp2_with (go_at_call 224;refine CV.out.mono ?_;rintro e w' ⟨rfl,hg⟩)
  go_ret;exact⟨rfl,hg⟩
 ·go_enter Tryz.func192,Tryz.ntmps192
  go_wp2_with (first|(go_at_call 224;refine CV.out.mono ?_;rintro e w' ⟨rfl,hg⟩)|(go_at_call 225;refine(Tryz.utf8_RuneCountInString s _ HS.out).mono ?_;rintro e w2 ⟨rfl,pos,rfl⟩))
  go_ret;exact⟨rfl,hg.trans (Below.mono (tR0 _ _ _) hg.size)⟩
def pD (c:Int):Bool:=decide (12353<=c)&&decide (c<=12438)
def kJ0 (c:Int) (w:World) (e:Ending) (w':World):Prop:=∃r:Int,e=.returned (.int .i64 r)/\(r=1↔pD c=true)/\w=w'
theorem aC1 (c:Int) (w:World):Calls Tryz.prog 194 #[.int .i32 c] w (kJ0 c w):=by
 by_cases h1:12353<=c
 ·by_cases h2:c<=12438
  ·go_enter Tryz.func194,Tryz.ntmps194
   go_wp2
   go_ret;exact⟨1,rfl,by simp[pD,h1,h2],rfl⟩
  ·have hN:=Aa (show ∀r:Int,r≠1->(r=1↔pD c=true) from λr hr=>by simp[pD,h2,hr])
   go_enter Tryz.func194,Tryz.ntmps194
   go_wp2
   all_goals (go_ret;exact⟨_,rfl,hN.out _ (by decide),rfl⟩)
 ·have hN:=Aa (show ∀r:Int,r≠1->(r=1↔pD c=true) from λr hr=>by simp[pD,h1,hr])
  have h2:c<12353:=by omega
  go_enter Tryz.func194,Tryz.ntmps194
  go_wp2
  all_goals (go_ret;exact⟨_,rfl,hN.out _ (by decide),rfl⟩)
def kanaBad (c:Nat):Bool := !((c:Int)==12540) && !pD c
theorem lU0 (w:World):PredAt Tryz.prog 193 #[] encR kanaBad w:=λW x _=>by
 unfold FnGives;show Calls Tryz.prog 193 #[.int .i32 (x:Int)] W _
 unfold kanaBad;have il:=Aa (aC1 (x:Int) W);generalize (x:Int)=c at il ⊢;by_cases h:c=12540
 ·subst h
  go_enter Tryz.func193,Tryz.ntmps193
  go_wp2
  go_ret;exact⟨rfl,0,rfl⟩
 ·have h1:(c != 12540)=true:=by simp[h]
  have h2:(!(c==12540))=true:=by simp[h]
  rw[h2,Ak];generalize hh:pD c=hb at il ⊢;have HH:=Aa hh;clear hh h h2;go_enter Tryz.func193,Tryz.ntmps193
  go_wp2_with (go_at_call 194;refine il.out.mono ?_;rintro e w' ⟨r,rfl,hr,rfl⟩;have HR:=Aa hr;clear hr)
  all_goals (go_ret;refine⟨bD ?_,0,rfl⟩;have h1:=HR.out;rw[HH.out]at h1;rw[Ac];simp;rw[h1];simp)
def readingS (s:ByteArray):Bool:=decide (1<=countS s)&&decide (countS s<=64) && !decide (0<=Ah kanaBad true s)
def surfBad (c:Nat):Bool:=decide ((c:Int)<32)||(decide (127<=(c:Int))&&decide ((c:Int)<=159))
def surfaceS (s:ByteArray):Bool:=decide (1<=countS s)&&decide (countS s<=64) && !decide (0<=Ah surfBad true s)
theorem qD0 (s:ByteArray) (w:World) (hs:s.size<9223372036854775807) (he:Env w) :
  Calls Tryz.prog 136 #[.string s] w λe w'=>e=.returned (.bool (readingS s))/\Grows w w':=by
 have C1:=Aa (fE0 s w hs he);have C2:∀W,Hid (Calls Tryz.prog 190 _ W _):=λW=>Aa (Tryz.strings_ContainsFunc 193 #[] (enters_of Tryz.func193 (by kernel_rfl) rfl) kanaBad s W (lU0 W));clear hs he;unfold readingS;generalize countS s=n at C1 ⊢;generalize decide (0<=Ah kanaBad true s)=r at C2 ⊢;by_cases h1:1<=n
 ·by_cases h2:n<=64
  ·go_enter Tryz.func136,Tryz.ntmps136
   go_wp2_with (first|(go_at_call 192;refine C1.out.mono ?_;rintro e w1 ⟨rfl,hg⟩)|(go_at_call 190;refine(C2 _).out.mono ?_;rintro e w2 ⟨rfl,af⟩))
   go_ret;exact⟨bD (by simp[h1,h2]),hg.tr af⟩
  ·go_enter Tryz.func136,Tryz.ntmps136
   go_wp2_with (first|(go_at_call 192;refine C1.out.mono ?_;rintro e w1 ⟨rfl,hg⟩))
   go_ret;exact⟨bD (by simp;omega),hg⟩
 ·go_enter Tryz.func136,Tryz.ntmps136
  go_wp2_with (first|(go_at_call 192;refine C1.out.mono ?_;rintro e w1 ⟨rfl,hg⟩))
  go_ret;exact⟨bD (by simp;omega),hg⟩
theorem aN1 (w:World):PredAt Tryz.prog 195 #[] encR surfBad w:=λW x _=>by
 unfold FnGives;show Calls Tryz.prog 195 #[.int .i32 (x:Int)] W _
 unfold surfBad;generalize (x:Int)=c;go_enter Tryz.func195,Tryz.ntmps195
 go_wp2
 all_goals (go_ret;refine⟨bD ?_,0,rfl⟩;first|rfl|(rw[Ac];simp;try omega))
theorem hF0 (s:ByteArray) (w:World) (hs:s.size<9223372036854775807) (he:Env w) :
  Calls Tryz.prog 137 #[.string s] w λe w'=>e=.returned (.bool (surfaceS s))/\Grows w w':=by
 have C1:=Aa (fE0 s w hs he);have C2:∀W,Hid (Calls Tryz.prog 190 _ W _):=λW=>Aa (Tryz.strings_ContainsFunc 195 #[] (enters_of Tryz.func195 (by kernel_rfl) rfl) surfBad s W (aN1 W));clear hs he;unfold surfaceS;generalize countS s=n at C1 ⊢;generalize decide (0<=Ah surfBad true s)=r at C2 ⊢;by_cases h1:1<=n
 ·by_cases h2:n<=64
  ·go_enter Tryz.func137,Tryz.ntmps137
   go_wp2_with (first|(go_at_call 192;refine C1.out.mono ?_;rintro e w1 ⟨rfl,hg⟩)|(go_at_call 190;refine(C2 _).out.mono ?_;rintro e w2 ⟨rfl,af⟩))
   go_ret;exact⟨bD (by simp[h1,h2]),hg.tr af⟩
  ·go_enter Tryz.func137,Tryz.ntmps137
   go_wp2_with (first|(go_at_call 192;refine C1.out.mono ?_;rintro e w1 ⟨rfl,hg⟩))
   go_ret;exact⟨bD (by simp;omega),hg⟩
 ·go_enter Tryz.func137,Tryz.ntmps137
  go_wp2_with (first|(go_at_call 192;refine C1.out.mono ?_;rintro e w1 ⟨rfl,hg⟩))
  go_ret;exact⟨bD (by simp;omega),hg⟩
def tJ (r s:ByteArray) (l t c n:Int):Int :=
 if readingS r&&surfaceS s then (if l<0\/n<=l\/t<0\/n<=t then 150 else if c<0\/30000<c then 6 else 0) else 5
theorem wM0 (r s:ByteArray) (l t c n:Int) (w:World) (hr:r.size<9223372036854775807) (hs:s.size<9223372036854775807) (he:Env w) :
  Calls Tryz.prog 83 #[.agg #[.string r,.string s,.int .i64 l,.int .i64 t,.int .i64 c],.int .i64 n] w λe w'=>e=.returned (.int .i64 (tJ r s l t c n))/\Grows w w':=by
 have C1:∀W,Grows w W->Hid (Calls Tryz.prog 136 _ W _):=λW hW=>Aa (qD0 r W hr (he.grows hW));have C2:∀W,Grows w W->Hid (Calls Tryz.prog 137 _ W _):=λW hW=>Aa (hF0 s W hs (he.grows hW));unfold tJ;clear hr hs he;generalize readingS r=br at C1 ⊢;generalize surfaceS s=bs at C2 ⊢;cases br
 ·go_enter Tryz.func83,Tryz.ntmps83
  go_wp2_with (first|(go_at_call 136;refine(C1 _ (Grows.alloc _ _)).out.mono ?_;rintro e w1 ⟨rfl,hg⟩))
  go_ret;exact⟨rfl,(Grows.alloc _ _).tr hg⟩
 ·cases bs
  ·go_enter Tryz.func83,Tryz.ntmps83
   go_wp2_with (first|(go_at_call 136;refine(C1 _ (Grows.alloc _ _)).out.mono ?_;rintro e w1 ⟨rfl,hg⟩;have ag:=(Grows.alloc _ _).tr hg;have b1:w1.cell? ⟨w.heap.size,1,none⟩=some (.string s):=hg.cell (aT _ _ _ _ 1 _ rfl))|(go_at_call 137;refine(C2 _ ag).out.mono ?_;rintro e w2 ⟨rfl,af⟩))
   go_ret;exact⟨rfl,ag.tr af⟩
  ·rw[if_pos (by rfl)]
   go_enter Tryz.func83,Tryz.ntmps83
   go_wp2_with (first|(go_at_call 136;refine(C1 _ (Grows.alloc _ _)).out.mono ?_;rintro e w1 ⟨rfl,hg⟩;have ag:=(Grows.alloc _ _).tr hg;have b1:w1.cell? ⟨w.heap.size,1,none⟩=some (.string s):=hg.cell (aT _ _ _ _ 1 _ rfl);have b2:w1.cell? ⟨w.heap.size,2,none⟩=some (.int .i64 l):=hg.cell (aT _ _ _ _ 2 _ rfl);have b3:w1.cell? ⟨w.heap.size,3,none⟩=some (.int .i64 t):=hg.cell (aT _ _ _ _ 3 _ rfl);have b4:w1.cell? ⟨w.heap.size,4,none⟩=some (.int .i64 c):=hg.cell (aT _ _ _ _ 4 _ rfl))|(go_at_call 137;refine(C2 _ ag).out.mono ?_;rintro e w2 ⟨rfl,af⟩;have d2:=af.cell b2;have d3:=af.cell b3;have d4:=af.cell b4))
   all_goals (go_ret;exact⟨rfl,ag.tr af⟩)
end
section
open Go Go.RowKit
attribute [local go_sem] aM
def pA (x:En) (n:Int):Int:=tJ x.r x.s x.l x.t x.c n
def fP (n:Int):List En->Int
 | []=>0
 | x::l=>if pA x n=0 then fP n l else pA x n
theorem aQ0 {n:Int} {l:List En} {k:Nat} {x:En} (hx:l[k]?=some x):fP n (l.drop k)=if pA x n=0 then fP n (l.drop (k+1)) else pA x n:=by
 rw[Ae (List.getElem?_eq_some_iff.1 hx).1,(List.getElem?_eq_some_iff.1 hx).2];rfl
def fC1 (w:World) (v:Value):Option Mx->Prop
 | none=>v=.pointer none
 | some m=>∃mb bm,v=.pointer (some ⟨mb,0,none⟩)/\fM w mb bm m
theorem fC1.grows {w w':World} {v:Value} {m:Option Mx} (h:fC1 w v m) (hg:Grows w w'):fC1 w' v m:=by
 cases m with
 | none=>exact h
 | some m=>obtain⟨mb,bm,e,h⟩:=h;exact⟨mb,bm,e,h.grows hg⟩
def mL (p:List cH) (m:Option Mx) (l:List En):Int :=
 if dF p=false then 5 else match m with
  | none=>9
  | some m=>if (m.n:Int)=p.length then (if 20000<l.length then 2 else fP p.length l) else 5
theorem fT0 (p:List cH) (mv:Value) (m:Option Mx) (l:List En) (pa a:Option Addr) (pc c:Nat) (w:World) (he:Env w) (hp:p.length<=4611686018427387904) (hl:l.length<=140737488355328) (hs:∀x∈l,x.r.size<9223372036854775807/\x.s.size<9223372036854775807)
  (ms:aF w pa 2 (p.map bG)) (hm:fC1 w mv m) (ac:aF w a 5 (l.map aQ)) :
  Calls Tryz.prog 34 #[.slice pa p.length pc,mv,.slice a l.length c] w λe w'=>e=.returned (.int .i64 (mL p m l))/\Grows w w':=by
 have HAT:=Aa ac;have HE:=Aa he;have HS:=Aa hs;have HM:=Aa hm;have CP:=Aa (cD0 p pa pc w ms hp);unfold mL qH1 at *;clear ac he hs hm ms
 cases hv:dF p with
 | false =>
  rw[hv]at CP;clear hv;go_enter Tryz.func34,Tryz.ntmps34
  go_wp2_with fail
  refine CP.out.mono ?_;rintro e w1 ⟨rfl,ag⟩;go_wp2
  go_ret;exact⟨rfl,ag⟩
 | true =>
  rw[hv]at CP;clear hv
  cases m with
  | none =>
   obtain rfl:mv=.pointer none:=HM.out;go_enter Tryz.func34,Tryz.ntmps34
   go_wp2_with fail
   refine CP.out.mono ?_;rintro e w1 ⟨rfl,ag⟩;go_wp2
   go_ret;exact⟨rfl,ag⟩
  | some m =>
   obtain⟨mb,bm,rfl,hma⟩:=HM.out;have CZ:=λW h=>Aa (rK0 W mb bm m (hma.grows h));clear HM hma;by_cases h1:(m.n:Int)=p.length
   ·by_cases h2:20000<l.length
    ·have h2i:(20000:Int)<l.length:=by omega
     rw[show (if true=false then (5:Int) else if (m.n:Int)=p.length then if 20000<l.length then 2 else fP p.length l else 5)=2 by simp[h1,h2]]
     go_enter Tryz.func34,Tryz.ntmps34
     go_wp2_with fail
     refine CP.out.mono ?_;rintro e w1 ⟨rfl,ag⟩;have CZ1:=CZ w1 ag;clear CP CZ;go_wp2_with fail
     refine CZ1.out.mono ?_;rintro e w2 ⟨rfl,rfl⟩;clear CZ1;go_wp2
     go_ret;exact⟨rfl,ag⟩
    ·have h2i:¬(20000:Int)<l.length:=by omega
     rw[show (if true=false then (5:Int) else if (m.n:Int)=p.length then if 20000<l.length then 2 else fP p.length l else 5)=fP p.length l by simp[h1,h2]]
     go_enter Tryz.func34,Tryz.ntmps34
     go_wp2_with fail
     refine CP.out.mono ?_;rintro e w1 ⟨rfl,ag⟩;have CZ1:=CZ w1 ag;clear CP CZ;go_wp2_with fail
     refine CZ1.out.mono ?_;rintro e w2 ⟨rfl,rfl⟩;clear CZ1;clear h2;go_wp2_with fail
     clear h1;go_loopw [29] (λi wr=>∃(k:Nat),k<=l.length/\i=.int .i64 k/\Hid (fP p.length (l.drop k)=fP p.length l)/\Grows w wr) (λi _=>l.length-(intOf i).toNat)
     case atStart=>exact⟨0,Ai _,rfl,rfl,ag⟩
     case round =>
      obtain⟨k,hk,rfl,hF,hg⟩:=hrel;by_cases ae:k<l.length
      ·obtain⟨⟨xr,xs,xl,xt,xc⟩,hx⟩:∃x,l[k]?=some x:=⟨_,Ad ae⟩
       obtain⟨ba,oa,rfl,be⟩:=(HAT.out.grows hg).get (aH ae);have c0:wr.cell? ⟨ba,oa+k*5,none⟩=some (.string xr):=be k _ hx 0 _ rfl;have c1:wr.cell? ⟨ba,oa+k*5+1,none⟩=some (.string xs):=be k _ hx 1 _ rfl;have c2:wr.cell? ⟨ba,oa+k*5+2,none⟩=some (.int .i64 xl):=be k _ hx 2 _ rfl;have c3:wr.cell? ⟨ba,oa+k*5+3,none⟩=some (.int .i64 xt):=be k _ hx 3 _ rfl;have c4:wr.cell? ⟨ba,oa+k*5+4,none⟩=some (.int .i64 xc):=be k _ hx 4 _ rfl;have di:=HS.out _ (List.mem_of_getElem? hx);simp only at di;have CC:=λW h=>Aa (wM0 xr xs xl xt xc p.length W di.1 di.2 (HE.out.grows h));have HD:=aQ0 (n:=p.length) hx;rw[hF.out]at HD;obtain⟨f,hf⟩:=exq (pA ⟨xr,xs,xl,xt,xc⟩ p.length);rw[<-hf]at HD;have vh:tJ xr xs xl xt xc p.length=f:=hf.symm;simp only[vh]at CC;have CC1:=CC (wr.alloc (.cells #[.string xr,.string xs,.int .i64 xl,.int .i64 xt,.int .i64 xc] 52)) (hg.al _);have HD:=Aa HD;clear be hx di hf vh CC hF;go_wp2_with fail
       refine CC1.out.mono ?_;rintro e w2 ⟨rfl,af⟩;clear CC1;have aw:=Grows.trans _ _ _ (hg.al _) af;by_cases hf0:f=0
       ·subst hf0
        have HX:Hid (fP p.length (l.drop (k+1))=fP p.length l):=by show _=_;rw[HD.out,if_pos rfl]
        clear HD;go_wp2_with fail
        go_roundw
        case rel=>exact⟨k+1,by omega,by go_num,HX,aw⟩
        case measure=>simp[intOf];omega
       ·go_wp2_with fail
        go_ret;exact⟨by rw[HD.out,if_neg hf0];rfl,aw⟩
      ·obtain rfl:k=l.length:=by omega
       have HX:Hid (fP p.length l=0):=by show _=_;rw[<-hF.out,Ag];rfl
       clear hF;go_wp2_with fail
       go_ret;exact⟨by rw[HX.out];rfl,hg⟩
   ·rw[show (if true=false then (5:Int) else if (m.n:Int)=p.length then if 20000<l.length then 2 else fP p.length l else 5)=5 by simp[h1]]
    go_enter Tryz.func34,Tryz.ntmps34
    go_wp2_with fail
    refine CP.out.mono ?_;rintro e w1 ⟨rfl,ag⟩;have CZ1:=CZ w1 ag;clear CP CZ;go_wp2_with fail
    refine CZ1.out.mono ?_;rintro e w2 ⟨rfl,rfl⟩;clear CZ1;go_wp2
    go_ret;exact⟨rfl,ag⟩
end
section
open Go
theorem iI1 (s:ByteArray):rY s=(!s.toList.isEmpty&&decide (s.size<=16) && !(runesD s.data.toList).any nameBad):=by
 unfold rY;rw[jX1]
end
section
open Go Go.ChangeShapes Go.WideShapes Go.ChangeAt Go.RowKit Go.Shelf Go.Lib
open Go.ChangeMaps (open_string shut_string)
end
section
open Go Go.ChangeShapes Go.WideShapes Go.ChangeAt Go.RowKit Go.Shelf Go.Lib
open Go.ChangeMaps (open_string shut_string)
theorem dT1 {H:Type} {enc:TypeId×Value->H} {W:World} {base:Nat} {sp:Nat->Bool} {hd:Bool} (n:Nat) (cs:List Value) (x:DataW H×List MemPlace) (hl:cs.length=5) (h:DataW.trod enc Tryz.prog W base sp hd n 52 cs=some x) :
  ∃y:En,cs=aQ y/\rZ y:=by
 obtain⟨xs,n,_,hx,_,an,ci⟩:=DataW.trod_struct Tryz.underlying52 h
 match cs,hl with
 | [c0,c1,c2,c3,c4],_ =>
  match xs,an with
  | [y0,y1,y2,y3,y4],_ =>
   have g0:=ci 0 _ rfl;have g1:=ci 1 _ rfl;have g2:=ci 2 _ rfl;have g3:=ci 3 _ rfl;have g4:=ci 4 _ rfl;obtain⟨s0,k0,_,z0⟩:=DataW.trod_string Tryz.underlying9 g0;obtain⟨s1,k1,_,z1⟩:=DataW.trod_string Tryz.underlying9 g1;obtain⟨n2,k2,_,z2⟩:=DataW.trod_int Tryz.underlying3 g2;obtain⟨n3,k3,_,z3⟩:=DataW.trod_int Tryz.underlying3 g3;obtain⟨n4,k4,_,z4⟩:=DataW.trod_int Tryz.underlying3 g4;refine⟨⟨s0,s1,n2,n3,n4⟩,?_,⟨z0,z1,z2,z3,z4⟩⟩;have e0:c0=.string s0:=by injection k0
   have e1:c1=.string s1:=by injection k1
   have e2:c2=.int .i64 n2:=by injection k2
   have e3:c3=.int .i64 n3:=by injection k3
   have e4:c4=.int .i64 n4:=by injection k4
   subst e0 e1 e2 e3 e4;rfl
section
variable {H:Type} {enc:TypeId×Value->H} {W:World} {base b0:Nat} {sp:Nat->Bool} {hd:Bool} {r:Reach} {v:Value} {d:DataW H} {ps:List MemPlace}
end
end
section
open Go Go.RowKit
theorem qN {α:Type} {enc:α->List Value} {k:Nat} {w:World} {a:Option Addr} {xs:List α} {c l h:Nat} (ac:aF w a k (xs.map enc)) (hn:a=none->c=0) (_:l<=h) (hh:h<=xs.length) (hc:xs.length<=c) :
  ∃a',sliced a l h c k=.slice a' (h-l) (c-l)/\aF w a' k (((xs.take h).drop l).map enc)/\(a'=none->c-l=0):=by
 unfold sliced;by_cases hm:c=l
 ·rw[if_pos hm]
  refine⟨a,rfl,?_,λ_=>by omega⟩
  have:(xs.take h).drop l=[]:=List.drop_eq_nil_of_le (by rw[List.length_take];omega)
  rw[this];exact aF.nil _ _ _
 ·rw[if_neg hm]
  refine⟨_,rfl,λai=>?_,λh0=>?_⟩
  ·have hx:xs.map enc≠[]:=by
    rintro e;rw[Aj]at e;subst e;simp at ai
   obtain⟨b,off,rfl,bu⟩:=ac hx;refine⟨b,off+l*k,by rw[Option.map_some,iJ],λi row hi j v hj=>?_⟩;rw[Af,List.getElem?_drop]at hi
   have h1:(xs.map enc)[l+i]?=some row:=by
    rw[Af];rw[Al]at hi;split at hi
    ·exact hi
    ·cases hi
   have:=bu (l+i) row h1 j v hj
   rwa [Nat.add_mul,<-Nat.add_assoc]at this
  ·have h1:a=none:=by cases a with
    | none=>rfl
    | some x=>simp at h0
   have:=hn h1
   omega
theorem pN {α:Type} {enc:α->List Value} {k:Nat} {w:World} {a:Option Addr} {xs:List α} (h:aF w a k (xs.map enc)) (n:Nat):aF w a k ((xs.take n).map enc):=λai=>by
 have hx:xs.map enc≠[]:=by
  rintro e;rw[Aj]at e;subst e;simp at ai
 obtain⟨b,off,ha,hc⟩:=h hx;refine⟨b,off,ha,λi row hi j v hj=>hc i row ?_ j v hj⟩;rw[Af]at hi ⊢;rw[Al]at hi;split at hi
 ·exact hi
 ·cases hi
end
section
open Go
theorem uC0 (s:ByteArray):readingS s=(Ab s.data.toList&&decide (1<=(runesD s.data.toList).length)&&decide ((runesD s.data.toList).length<=64) && !(runesD s.data.toList).any kanaBad):=by
 unfold readingS countS;rw[jX1,cU0];cases Ab s.data.toList
 ·simp
 ·simp only[if_true,Ak]
  congr 2
  ·rw[Ac];simp only[decide_eq_true_eq];omega
  ·rw[Ac];simp only[decide_eq_true_eq];omega
theorem tZ0 (s:ByteArray):surfaceS s=(Ab s.data.toList&&decide (1<=(runesD s.data.toList).length)&&decide ((runesD s.data.toList).length<=64) && !(runesD s.data.toList).any surfBad):=by
 unfold surfaceS countS;rw[jX1,cU0];cases Ab s.data.toList
 ·simp
 ·simp only[if_true,Ak]
  congr 2
  ·rw[Ac];simp only[decide_eq_true_eq];omega
  ·rw[Ac];simp only[decide_eq_true_eq];omega
end
section
open Go Go.RowKit
attribute [local go_sem] aM
theorem sY (c l h:Int) (w:World) :
  Calls Tryz.prog 234 #[.int .i32 c,.int .i32 l,.int .i32 h] w λe w'=>e=.returned (.bool (decide (l<=c)&&decide (c<=h)))/\w=w':=by
 go_enter Tryz.func234,Tryz.ntmps234
 go_wp2
 all_goals (go_ret;refine⟨bD ?_,rfl⟩;rw[Ac];simp;try omega)
theorem vU (c:Int) (w:World):Calls Tryz.prog 221 #[.int .i32 c] w (kJ0 c w):=by
 cases h:pD c
 ·have hN:=Aa (show ∀r:Int,r≠1->(r=1↔pD c=true) from λr hr=>by simp[h,hr])
  have HB:=sY c 12353 12438 w;have hb:(decide ((12353:Int)<=c)&&decide (c<=12438))=false:=h;rw[hb]at HB;have HB2:=Aa HB;clear hb h HB;go_enter Tryz.func221,Tryz.ntmps221
  go_wp2_with fail
  refine HB2.out.mono ?_;rintro e w1 ⟨rfl,rfl⟩;go_wp2_with (first|(go_at_call 234;refine(sY _ _ _ _).mono ?_;rintro e w1 ⟨rfl,rfl⟩))
  all_goals (go_ret;exact⟨_,rfl,hN.out _ (by decide),rfl⟩)
 ·have HB:=sY c 12353 12438 w
  have hb:(decide ((12353:Int)<=c)&&decide (c<=12438))=true:=h;rw[hb]at HB;have HB2:=Aa HB;have HH:=Aa h;clear hb h HB;go_enter Tryz.func221,Tryz.ntmps221
  go_wp2_with fail
  refine HB2.out.mono ?_;rintro e w1 ⟨rfl,rfl⟩;go_wp2
  go_ret;exact⟨1,rfl,by simp[HH.out],rfl⟩
theorem tE0 {p:Nat->Bool} {l:List Nat} {k c:Nat} (h:l[k]?=some c):(l.drop k).any p=(p c||(l.drop (k+1)).any p):=by
 have ae:=(List.getElem?_eq_some_iff.1 h).1;rw[Ae ae,List.any_cons,(List.getElem?_eq_some_iff.1 h).2]
theorem jW0 (s:ByteArray) (w:World) (hs:s.size<=35184372088832) :
  Calls Tryz.prog 181 #[.string s] w λe w'=>e=.returned (.bool (readingS s))/\Grows w w':=by
 have HR:=Aa (nD0 s w hs);have an:=eT0 s.data.toList;rw[<-An]at an;rw[uC0];unfold pR at HR;generalize Ab s.data.toList=v at *;generalize runesD s.data.toList=rs at *;cases v
 ·go_enter Tryz.func181,Tryz.ntmps181
  go_wp2_with (first|(go_at_call 220;refine HR.out.mono ?_;rintro e w1 ⟨a,c,rfl,ac,ag⟩))
  go_ret;exact⟨rfl,ag⟩
 ·simp only[if_true]at HR
  by_cases h1:1<=rs.length
  ·by_cases h2:rs.length<=64
   ·have g1:¬(rs.length:Int)<1:=by omega
    have g2:¬(64:Int)<rs.length:=by omega
    have e1:(decide (1<=rs.length))=true:=by simpa using h1
    have e2:(decide (rs.length<=64))=true:=by simpa using h2
    rw[e1,e2];clear e1 e2 h1 h2;go_enter Tryz.func181,Tryz.ntmps181
    go_wp2_with (first|(go_at_call 220;refine HR.out.mono ?_;rintro e w1 ⟨a,c,rfl,ac,ag⟩))
    go_loopw [5] (λi wr=>∃k:Nat,k<=rs.length/\i=.int .i64 k/\Hid (rs.any kanaBad=(rs.drop k).any kanaBad)/\Grows w1 wr) (λi _=>rs.length-(intOf i).toNat)
    case atStart=>exact⟨0,Ai _,rfl,rfl,Grows.refl _⟩
    case round =>
     obtain⟨k,hk,rfl,ay,hg⟩:=hrel;by_cases ae:k<rs.length
     ·obtain⟨x,hx⟩:∃x,rs[k]?=some x:=⟨_,Ad ae⟩
      obtain⟨ba,oa,rfl,be⟩:=(ac.grows hg).get (aH ae);have c0:wr.cell? ⟨ba,oa+k,none⟩=some (.int .i32 x):=by simpa using be k _ hx 0 _ rfl
      have hi:=ay.out;rw[tE0 hx]at hi;have HI:=Aa hi;clear ay hi be hx;by_cases jh:(x:Int)=12540
      ·have pq:kanaBad x=false:=by unfold kanaBad;simp[jh]
       have fo:rs.any kanaBad=(rs.drop (k+1)).any kanaBad:=by rw[HI.out,pq];rfl
       have HI2:=Aa fo;have ai:((x:Int) != 12540)=false:=by simp[jh]
       clear HI pq fo jh;go_wp2_with (first|(go_at_call 221;refine(vU _ _).mono ?_;rintro e w2 ⟨r,rfl,hr,rfl⟩;clear hr))
       all_goals
        go_roundw
        case rel=>exact⟨k+1,ae,by go_num,HI2.out,hg⟩
        case measure=>simp[intOf];omega
      ·have ai:((x:Int) != 12540)=true:=by simp[jh]
       have pq:kanaBad x = !pD x:=by unfold kanaBad;simp[jh]
       cases hh:pD x
       ·have fo:rs.any kanaBad=true:=by rw[HI.out,pq,hh];rfl
        have HI2:=Aa fo;have HH:=Aa hh;clear HI pq fo jh hh;go_wp2_with (first|(go_at_call 221;refine(vU _ _).mono ?_;rintro e w2 ⟨r,rfl,hr,rfl⟩;have hr1:(r != 1)=true:=(by rw[HH.out]at hr;simpa using hr);clear hr))
        go_ret;exact⟨bD (by rw[HI2.out];rfl),ag.tr hg⟩
       ·have fo:rs.any kanaBad=(rs.drop (k+1)).any kanaBad:=by rw[HI.out,pq,hh];rfl
        have HI2:=Aa fo;have HH:=Aa hh;clear HI pq fo jh hh;go_wp2_with (first|(go_at_call 221;refine(vU _ _).mono ?_;rintro e w2 ⟨r,rfl,hr,rfl⟩;have hr1:(r != 1)=false:=(by rw[HH.out]at hr;simpa using hr);clear hr))
        go_roundw
        case rel=>exact⟨k+1,ae,by go_num,HI2.out,hg⟩
        case measure=>simp[intOf];omega
     ·obtain rfl:k=rs.length:=by omega
      have fo:rs.any kanaBad=false:=by rw[ay.out,Ag];rfl
      have HI2:=Aa fo;clear ay fo ac;go_wp2
      go_ret;exact⟨bD (by rw[HI2.out];rfl),ag.tr hg⟩
   ·have g1:¬(rs.length:Int)<1:=by omega
    have g2:(64:Int)<rs.length:=by omega
    have e2:(decide (rs.length<=64))=false:=by simpa using h2
    rw[e2];clear e2 h2 h1;go_enter Tryz.func181,Tryz.ntmps181
    go_wp2_with (first|(go_at_call 220;refine HR.out.mono ?_;rintro e w1 ⟨a,c,rfl,ac,ag⟩))
    go_ret;exact⟨bD (by simp),ag⟩
  ·have g1:(rs.length:Int)<1:=by omega
   have e1:(decide (1<=rs.length))=false:=by simpa using h1
   rw[e1];clear e1 h1;go_enter Tryz.func181,Tryz.ntmps181
   go_wp2_with (first|(go_at_call 220;refine HR.out.mono ?_;rintro e w1 ⟨a,c,rfl,ac,ag⟩))
   go_ret;exact⟨bD (by simp),ag⟩
theorem nC0 (s:ByteArray) (w:World) (hs:s.size<=35184372088832) :
  Calls Tryz.prog 182 #[.string s] w λe w'=>e=.returned (.bool (surfaceS s))/\Grows w w':=by
 have HR:=Aa (nD0 s w hs);have an:=eT0 s.data.toList;rw[<-An]at an;rw[tZ0];unfold pR at HR
 have hq:∃L:List Nat,L.length<=s.size/\(Ab s.data.toList=true->L=runesD s.data.toList)/\Hid (Calls Tryz.prog 220 #[.string s] w λe w'=>∃a cap,e=.returned (.tuple #[.slice a L.length cap,.bool (Ab s.data.toList)])/\aF w' a 1 (L.map cD1)/\Grows w w')/\(Ab s.data.toList=false->L=[]):=by
  cases hv:Ab s.data.toList
  ·exact⟨[],Ai _,(λh=>by cases h),by rw[hv]at HR;exact HR,λ_=>rfl⟩
  ·exact⟨runesD s.data.toList,an,λ_=>rfl,by rw[hv]at HR;exact HR,(λh=>by cases h)⟩
 obtain⟨rs,jn,hL,HR2,hL2⟩:=hq
 have kq:(Ab s.data.toList&&decide (1<=(runesD s.data.toList).length)&&decide ((runesD s.data.toList).length<=64) && !(runesD s.data.toList).any surfBad)=(Ab s.data.toList&&decide (1<=rs.length)&&decide (rs.length<=64) && !rs.any surfBad):=by
  cases hv:Ab s.data.toList
  ·rfl
  ·rw[hL hv]
 rw[kq];clear HR an kq;generalize Ab s.data.toList=v at *;have HL2:=Aa hL2;clear hL hL2;go_enter Tryz.func182,Tryz.ntmps182
 go_wp2_with (first|(go_at_call 220;refine HR2.out.mono ?_;rintro e w1 ⟨a,c,rfl,ac,ag⟩))
 go_loopw [5] (λi wr=>∃k:Nat,k<=rs.length/\i=.int .i64 k/\Hid (rs.any surfBad=(rs.drop k).any surfBad)/\Grows w1 wr) (λi _=>rs.length-(intOf i).toNat)
 case atStart=>exact⟨0,Ai _,rfl,rfl,Grows.refl _⟩
 case round =>
  obtain⟨k,hk,rfl,ay,hg⟩:=hrel;by_cases ae:k<rs.length
  ·obtain⟨x,hx⟩:∃x,rs[k]?=some x:=⟨_,Ad ae⟩
   obtain⟨ba,oa,rfl,be⟩:=(ac.grows hg).get (aH ae);have c0:wr.cell? ⟨ba,oa+k,none⟩=some (.int .i32 x):=by simpa using be k _ hx 0 _ rfl
   have hi:=ay.out;rw[tE0 hx]at hi;have HI:=Aa hi;clear ay hi be hx;cases hh:surfBad x
   ·have fo:rs.any surfBad=(rs.drop (k+1)).any surfBad:=by rw[HI.out,hh];rfl
    have HI2:=Aa fo;have q1:¬(x:Int)<32:=by unfold surfBad at hh;simp at hh;omega
    have q2:(x:Int)<127\/160<=(x:Int):=by unfold surfBad at hh;simp at hh;omega
    clear HI fo hh;rcases q2 with q2|q2
    ·have q3:¬127<=(x:Int):=by omega
     go_wp2
     go_roundw
     case rel=>exact⟨k+1,ae,by go_num,HI2.out,hg⟩
     case measure=>simp[intOf];omega
    ·have q3:127<=(x:Int):=by omega
     have q4:¬(x:Int)<160:=by omega
     go_wp2
     go_roundw
     case rel=>exact⟨k+1,ae,by go_num,HI2.out,hg⟩
     case measure=>simp[intOf];omega
   ·have fo:rs.any surfBad=true:=by rw[HI.out,hh];rfl
    have HI2:=Aa fo;have q2:(x:Int)<32\/(¬(x:Int)<32/\127<=(x:Int)/\(x:Int)<160):=by unfold surfBad at hh;simp at hh;omega
    clear HI fo hh;rcases q2 with q2|⟨q2,q3,q4⟩
    ·go_wp2
     go_ret;exact⟨bD (by rw[HI2.out];simp),ag.tr hg⟩
    ·go_wp2
     go_ret;exact⟨bD (by rw[HI2.out];simp),ag.tr hg⟩
  ·obtain rfl:k=rs.length:=by omega
   have fo:rs.any surfBad=false:=by rw[ay.out,Ag];rfl
   have HI2:=Aa fo;clear ay fo ac;cases v
   ·go_wp2
    go_ret;exact⟨rfl,ag.tr hg⟩
   ·by_cases h1:1<=rs.length
    ·have g1:(1:Int)<=rs.length:=by omega
     go_wp2
     go_ret;exact⟨bD (by rw[HI2.out,Ac];simp;omega),ag.tr hg⟩
    ·have g1:¬(1:Int)<=rs.length:=by omega
     go_wp2
     go_ret;exact⟨bD (by first|rfl|(simp;omega)|(rw[HI2.out,Ac];simp;omega)),ag.tr hg⟩
theorem eX0 (r s:ByteArray) (l t c n:Int) (w:World) (hr:r.size<=35184372088832) (hs:s.size<=35184372088832) :
  Calls Tryz.prog 127 #[.agg #[.string r,.string s,.int .i64 l,.int .i64 t,.int .i64 c],.int .i64 n] w λe w'=>e=.returned (.int .i64 (tJ r s l t c n))/\Grows w w':=by
 have C1:∀W,Hid (Calls Tryz.prog 181 _ W _):=λW=>Aa (jW0 r W hr);have C2:∀W,Hid (Calls Tryz.prog 182 _ W _):=λW=>Aa (nC0 s W hs);unfold tJ;generalize readingS r=br at C1 ⊢;generalize surfaceS s=bs at C2 ⊢
 have box:∀ {W:World},Grows (w.alloc (.cells #[.string r,.string s,.int .i64 l,.int .i64 t,.int .i64 c] 52)) W->W.cell? ⟨w.heap.size,1,none⟩=some (.string s)/\W.cell? ⟨w.heap.size,2,none⟩=some (.int .i64 l)/\W.cell? ⟨w.heap.size,3,none⟩=some (.int .i64 t)/\W.cell? ⟨w.heap.size,4,none⟩=some (.int .i64 c):=λhg =>
  ⟨(kI hg rfl) 1 _ rfl,(kI hg rfl) 2 _ rfl,(kI hg rfl) 3 _ rfl,(kI hg rfl) 4 _ rfl⟩
 have BOX:Hid (∀ {W:World},Grows (w.alloc (.cells #[.string r,.string s,.int .i64 l,.int .i64 t,.int .i64 c] 52)) W->W.cell? ⟨w.heap.size,1,none⟩=some (.string s)/\W.cell? ⟨w.heap.size,2,none⟩=some (.int .i64 l)/\W.cell? ⟨w.heap.size,3,none⟩=some (.int .i64 t)/\W.cell? ⟨w.heap.size,4,none⟩=some (.int .i64 c)):=@box;clear box;cases br
 ·go_enter Tryz.func127,Tryz.ntmps127
  go_wp2_with (first|(go_at_call 181;refine(C1 _).out.mono ?_;rintro e w1 ⟨rfl,ag⟩))
  go_ret;exact⟨rfl,(Grows.alloc _ _).tr ag⟩
 ·cases bs
  ·go_enter Tryz.func127,Tryz.ntmps127
   go_wp2_with (first|(go_at_call 181;refine(C1 _).out.mono ?_;rintro e w1 ⟨rfl,ag⟩;obtain⟨k1,k2,k3,k4⟩:=BOX.out ag)|(go_at_call 182;refine(C2 _).out.mono ?_;rintro e w2 ⟨rfl,af⟩))
   go_ret;exact⟨rfl,((Grows.alloc _ _).tr ag).tr af⟩
  ·go_enter Tryz.func127,Tryz.ntmps127
   go_wp2_with (first|(go_at_call 181;refine(C1 _).out.mono ?_;rintro e w1 ⟨rfl,ag⟩;obtain⟨k1,k2,k3,k4⟩:=BOX.out ag)|(go_at_call 182;refine(C2 _).out.mono ?_;rintro e w2 ⟨rfl,af⟩;replace k1:=af.cell k1;replace k2:=af.cell k2;replace k3:=af.cell k3;replace k4:=af.cell k4))
   all_goals (go_ret;refine⟨aF0 ?_,((Grows.alloc _ _).tr ag).tr af⟩;first|rfl|(simp only[Am,if_true];done)|(simp only[Am,if_true];(repeat' split)<;>first|rfl|(exfalso;omega)))
end
section
open Go Go.RowKit Go.Shelf
attribute [local go_sem] aM
theorem gQ1 (x y:En) (w:World) :
  Calls Tryz.prog 26 #[x.agg,y.agg] w λe w'=>e=.returned (.bool (lessS x y))/\Grows w w':=by
 obtain⟨xr,xs,xl,xt,xc⟩:=x;obtain⟨yr,ys,yl,yt,yc⟩:=y;have HC:=λW=>Aa (nY0 xr xs yr ys xl xt xc yl yt yc W);have hd:lessS ⟨xr,xs,xl,xt,xc⟩ ⟨yr,ys,yl,yt,yc⟩=decide (orI [cmpS xr yr,cmpI xc yc,cmpS xs ys,cmpI xl yl,cmpI xt yt]<0):=rfl;rw[hd];unfold En.agg;clear hd;generalize orI [cmpS xr yr,cmpI xc yc,cmpS xs ys,cmpI xl yl,cmpI xt yt]=n at *;go_enter Tryz.func26,Tryz.ntmps26
 go_wp2_with (first|(go_at_call 72;refine(HC _).out.mono ?_;rintro e w1 ⟨rfl,ag⟩))
 go_ret;exact⟨rfl,((Grows.alloc _ _).al _).tr ag⟩
end
end Go.Proofs.YtheiocndipepaaaGreatDoor
