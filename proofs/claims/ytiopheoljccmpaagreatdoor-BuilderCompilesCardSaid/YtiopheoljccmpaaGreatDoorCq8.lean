/- The texts NamedD Kana Echk OpenE OpenS Slc Runes KanaP RefK, one behind the other. -/
import Derived.Test.YtiopheoljccmpaaGreatDoorCq3
import Derived.Test.YtiopheoljccmpaaGreatDoorCq5
import Derived.Test.YtiopheoljccmpaaGreatDoorCq7
import Derived.Test.YtiopheoljccmpaaGreatDoorCq2
import Derived.ChangeSame
import Derived.ChangeMaps5
import Derived.Deep.Slices
import Derived.SizedLaws
import Derived.Test.YtiopheoljccmpaaGreatDoorCq1
open Go.Lib renaming validD → Aa,hid → Ab,idxFunc → Ag,size_eq → Ai,decodeL_N → An,decodeL → Ap
open Bool renaming eq_iff_iff → Ac,true_and → Al,and_self → Ao
open List renaming getElem?_map → Ad,getElem?_eq_getElem → Ae,drop_length → Af,map_eq_nil_iff → Ak,getElem?_take → Am
open UInt8 renaming toNat_lt → Ah
open Nat renaming zero_le → Aj,le_refl → Aq
set_option maxHeartbeats 4000000
namespace Go.Proofs.YtiopheoljccmpaaGreatDoor
set_option maxRecDepth 100000
section
open Go
theorem oK0 (s:ByteArray):iI s=(!s.toList.isEmpty&&decide (s.size<=16) && !(runesD s.data.toList).any nameBad):=by
 unfold iI;rw[dJ1]
end
section
open Go Go.RowKit Go.Shelf
attribute [local go_sem] aM
def countS (s:ByteArray):Int:=if Aa s.data.toList then (Lib.runeCount s:Int) else -1
theorem eB0 (s:ByteArray) (w:World) (hs:s.size<9223372036854775807) (he:Env w) :
  Calls Tryz.prog 207 #[.string s] w λe w'=>e=.returned (.int .i64 (countS s))/\aB w w':=by
 have cV:Calls Tryz.prog 255 #[.string s] w _:=Any.utf8_ValidString Tryz.laysValid s w (by omega) he.utf;have CV:=Ab cV;clear cV he;unfold countS;generalize Aa s.data.toList=v at CV ⊢;have HS:=Ab hs;clear hs;cases v
 ·go_enter Tryz.func207,Tryz.ntmps207
  go_wp2_with (go_at_call 255;refine CV.out.mono ?_;rintro e w' ⟨rfl,hg⟩)
  go_ret;exact⟨rfl,hg⟩
 ·go_enter Tryz.func207,Tryz.ntmps207
  go_wp2_with (first|(go_at_call 255;refine CV.out.mono ?_;rintro e w' ⟨rfl,hg⟩)|(go_at_call 205;refine(Tryz.utf8_RuneCountInString s _ HS.out).mono ?_;rintro e w2 ⟨rfl,pos,rfl⟩))
  go_ret;exact⟨rfl,hg.trans (Below.mono (tE0 _ _ _) hg.size)⟩
def nT (c:Int):Bool:=decide (12353<=c)&&decide (c<=12438)
def gW0 (c:Int) (w:World) (e:Ending) (w':World):Prop:=∃r:Int,e=.returned (.int .i64 r)/\(r=1↔nT c=true)/\w=w'
theorem xE0 (c:Int) (w:World):Calls Tryz.prog 209 #[.int .i32 c] w (gW0 c w):=by
 by_cases h1:12353<=c
 ·by_cases h2:c<=12438
  ·go_enter Tryz.func209,Tryz.ntmps209
   go_wp2
   go_ret;exact⟨1,rfl,by simp[nT,h1,h2],rfl⟩
  ·have hN:=Ab (show ∀r:Int,r≠1->(r=1↔nT c=true) from λr hr=>by simp[nT,h2,hr])
   go_enter Tryz.func209,Tryz.ntmps209
   go_wp2
   all_goals (go_ret;exact⟨_,rfl,hN.out _ (by decide),rfl⟩)
 ·have hN:=Ab (show ∀r:Int,r≠1->(r=1↔nT c=true) from λr hr=>by simp[nT,h1,hr])
  have h2:c<12353:=by omega
  go_enter Tryz.func209,Tryz.ntmps209
  go_wp2
  all_goals (go_ret;exact⟨_,rfl,hN.out _ (by decide),rfl⟩)
def kanaBad (c:Nat):Bool := !((c:Int)==12540) && !nT c
theorem iQ0 (w:World):PredAt Tryz.prog 208 #[] encR kanaBad w:=λW x _=>by
 unfold FnGives;show Calls Tryz.prog 208 #[.int .i32 (x:Int)] W _
 unfold kanaBad;have fm:=Ab (xE0 (x:Int) W);generalize (x:Int)=c at fm ⊢;by_cases h:c=12540
 ·subst h
  go_enter Tryz.func208,Tryz.ntmps208
  go_wp2
  go_ret;exact⟨rfl,0,rfl⟩
 ·have h1:(c != 12540)=true:=by simp[h]
  have h2:(!(c==12540))=true:=by simp[h]
  rw[h2,Al];generalize hh:nT c=hb at fm ⊢;have HH:=Ab hh;clear hh h h2;go_enter Tryz.func208,Tryz.ntmps208
  go_wp2_with (go_at_call 209;refine fm.out.mono ?_;rintro e w' ⟨r,rfl,hr,rfl⟩;have HR:=Ab hr;clear hr)
  all_goals (go_ret;refine⟨aZ ?_,0,rfl⟩;have h1:=HR.out;rw[HH.out]at h1;rw[Ac];simp;rw[h1];simp)
def readingS (s:ByteArray):Bool:=decide (1<=countS s)&&decide (countS s<=64) && !decide (0<=Ag kanaBad true s)
def surfBad (c:Nat):Bool:=decide ((c:Int)<32)||(decide (127<=(c:Int))&&decide ((c:Int)<=159))
def surfaceS (s:ByteArray):Bool:=decide (1<=countS s)&&decide (countS s<=64) && !decide (0<=Ag surfBad true s)
theorem nB0 (s:ByteArray) (w:World) (hs:s.size<9223372036854775807) (he:Env w) :
  Calls Tryz.prog 145 #[.string s] w λe w'=>e=.returned (.bool (readingS s))/\aB w w':=by
 have C1:=Ab (eB0 s w hs he);have C2:∀W,Hid (Calls Tryz.prog 78 _ W _):=λW=>Ab (Tryz.strings_ContainsFunc 208 #[] (enters_of Tryz.func208 (by kernel_rfl) rfl) kanaBad s W (iQ0 W));clear hs he;unfold readingS;generalize countS s=n at C1 ⊢;generalize decide (0<=Ag kanaBad true s)=r at C2 ⊢;by_cases h1:1<=n
 ·by_cases h2:n<=64
  ·go_enter Tryz.func145,Tryz.ntmps145
   go_wp2_with (first|(go_at_call 207;refine C1.out.mono ?_;rintro e w1 ⟨rfl,hg⟩)|(go_at_call 78;refine(C2 _).out.mono ?_;rintro e w2 ⟨rfl,an⟩))
   go_ret;exact⟨aZ (by simp[h1,h2]),hg.tr an⟩
  ·go_enter Tryz.func145,Tryz.ntmps145
   go_wp2_with (first|(go_at_call 207;refine C1.out.mono ?_;rintro e w1 ⟨rfl,hg⟩))
   go_ret;exact⟨aZ (by simp;omega),hg⟩
 ·go_enter Tryz.func145,Tryz.ntmps145
  go_wp2_with (first|(go_at_call 207;refine C1.out.mono ?_;rintro e w1 ⟨rfl,hg⟩))
  go_ret;exact⟨aZ (by simp;omega),hg⟩
theorem vO0 (w:World):PredAt Tryz.prog 210 #[] encR surfBad w:=λW x _=>by
 unfold FnGives;show Calls Tryz.prog 210 #[.int .i32 (x:Int)] W _
 unfold surfBad;generalize (x:Int)=c;go_enter Tryz.func210,Tryz.ntmps210
 go_wp2
 all_goals (go_ret;refine⟨aZ ?_,0,rfl⟩;first|rfl|(rw[Ac];simp;try omega))
theorem gJ0 (s:ByteArray) (w:World) (hs:s.size<9223372036854775807) (he:Env w) :
  Calls Tryz.prog 146 #[.string s] w λe w'=>e=.returned (.bool (surfaceS s))/\aB w w':=by
 have C1:=Ab (eB0 s w hs he);have C2:∀W,Hid (Calls Tryz.prog 78 _ W _):=λW=>Ab (Tryz.strings_ContainsFunc 210 #[] (enters_of Tryz.func210 (by kernel_rfl) rfl) surfBad s W (vO0 W));clear hs he;unfold surfaceS;generalize countS s=n at C1 ⊢;generalize decide (0<=Ag surfBad true s)=r at C2 ⊢;by_cases h1:1<=n
 ·by_cases h2:n<=64
  ·go_enter Tryz.func146,Tryz.ntmps146
   go_wp2_with (first|(go_at_call 207;refine C1.out.mono ?_;rintro e w1 ⟨rfl,hg⟩)|(go_at_call 78;refine(C2 _).out.mono ?_;rintro e w2 ⟨rfl,an⟩))
   go_ret;exact⟨aZ (by simp[h1,h2]),hg.tr an⟩
  ·go_enter Tryz.func146,Tryz.ntmps146
   go_wp2_with (first|(go_at_call 207;refine C1.out.mono ?_;rintro e w1 ⟨rfl,hg⟩))
   go_ret;exact⟨aZ (by simp;omega),hg⟩
 ·go_enter Tryz.func146,Tryz.ntmps146
  go_wp2_with (first|(go_at_call 207;refine C1.out.mono ?_;rintro e w1 ⟨rfl,hg⟩))
  go_ret;exact⟨aZ (by simp;omega),hg⟩
def checkS (r s:ByteArray) (l t c n:Int):Int :=
 if readingS r&&surfaceS s then (if l<0\/n<=l\/t<0\/n<=t then 150 else if c<0\/30000<c then 6 else 0) else 5
theorem cF0 (r s:ByteArray) (l t c n:Int) (w:World) (hr:r.size<9223372036854775807) (hs:s.size<9223372036854775807) (he:Env w) :
  Calls Tryz.prog 86 #[.agg #[.string r,.string s,.int .i64 l,.int .i64 t,.int .i64 c],.int .i64 n] w λe w'=>e=.returned (.int .i64 (checkS r s l t c n))/\aB w w':=by
 have C1:∀W,aB w W->Hid (Calls Tryz.prog 145 _ W _):=λW hW=>Ab (nB0 r W hr (he.grows hW));have C2:∀W,aB w W->Hid (Calls Tryz.prog 146 _ W _):=λW hW=>Ab (gJ0 s W hs (he.grows hW));unfold checkS;clear hr hs he;generalize readingS r=br at C1 ⊢;generalize surfaceS s=bs at C2 ⊢;cases br
 ·go_enter Tryz.func86,Tryz.ntmps86
  go_wp2_with (first|(go_at_call 145;refine(C1 _ (aB.alloc _ _)).out.mono ?_;rintro e w1 ⟨rfl,hg⟩))
  go_ret;exact⟨rfl,(aB.alloc _ _).tr hg⟩
 ·cases bs
  ·go_enter Tryz.func86,Tryz.ntmps86
   go_wp2_with (first|(go_at_call 145;refine(C1 _ (aB.alloc _ _)).out.mono ?_;rintro e w1 ⟨rfl,hg⟩;have aq:=(aB.alloc _ _).tr hg;have b1:w1.cell? ⟨w.heap.size,1,none⟩=some (.string s):=hg.cell (aX _ _ _ _ 1 _ rfl))|(go_at_call 146;refine(C2 _ aq).out.mono ?_;rintro e w2 ⟨rfl,an⟩))
   go_ret;exact⟨rfl,aq.tr an⟩
  ·rw[if_pos (by rfl)]
   go_enter Tryz.func86,Tryz.ntmps86
   go_wp2_with (first|(go_at_call 145;refine(C1 _ (aB.alloc _ _)).out.mono ?_;rintro e w1 ⟨rfl,hg⟩;have aq:=(aB.alloc _ _).tr hg;have b1:w1.cell? ⟨w.heap.size,1,none⟩=some (.string s):=hg.cell (aX _ _ _ _ 1 _ rfl);have b2:w1.cell? ⟨w.heap.size,2,none⟩=some (.int .i64 l):=hg.cell (aX _ _ _ _ 2 _ rfl);have b3:w1.cell? ⟨w.heap.size,3,none⟩=some (.int .i64 t):=hg.cell (aX _ _ _ _ 3 _ rfl);have b4:w1.cell? ⟨w.heap.size,4,none⟩=some (.int .i64 c):=hg.cell (aX _ _ _ _ 4 _ rfl))|(go_at_call 146;refine(C2 _ aq).out.mono ?_;rintro e w2 ⟨rfl,an⟩;have d2:=an.cell b2;have d3:=an.cell b3;have d4:=an.cell b4))
   all_goals (go_ret;exact⟨rfl,aq.tr an⟩)
end
section
open Go Go.ChangeShapes Go.WideShapes Go.ChangeAt Go.RowKit Go.Shelf Go.Lib
open Go.ChangeMaps (open_string shut_string)
end
section
open Go Go.ChangeShapes Go.WideShapes Go.ChangeAt Go.RowKit Go.Shelf Go.Lib
open Go.ChangeMaps (open_string shut_string)
section
variable {H:Type} {enc:TypeId×Value->H} {W:World} {base b0:Nat} {sp:Nat->Bool} {hd:Bool} {r:Reach} {v:Value} {d:DataW H} {ps:List MemPlace}
end
end
section
open Go Go.RowKit
theorem pF {α:Type} {enc:α->List Value} {k:Nat} {w:World} {a:Option Addr} {xs:List α} {c l h:Nat} (ah:aF w a k (xs.map enc)) (hn:a=none->c=0) (_:l<=h) (hh:h<=xs.length) (hc:xs.length<=c) :
  ∃a',sliced a l h c k=.slice a' (h-l) (c-l)/\aF w a' k (((xs.take h).drop l).map enc)/\(a'=none->c-l=0):=by
 unfold sliced;by_cases hm:c=l
 ·rw[if_pos hm]
  refine⟨a,rfl,?_,λ_=>by omega⟩
  have:(xs.take h).drop l=[]:=List.drop_eq_nil_of_le (by rw[List.length_take];omega)
  rw[this];exact aF.nil _ _ _
 ·rw[if_neg hm]
  refine⟨_,rfl,λaw=>?_,λh0=>?_⟩
  ·have hx:xs.map enc≠[]:=by
    rintro e;rw[Ak]at e;subst e;simp at aw
   obtain⟨b,off,rfl,cj⟩:=ah hx;refine⟨b,off+l*k,by rw[Option.map_some,pO],λi row hi j v hj=>?_⟩;rw[Ad,List.getElem?_drop]at hi
   have h1:(xs.map enc)[l+i]?=some row:=by
    rw[Ad];rw[Am]at hi;split at hi
    ·exact hi
    ·cases hi
   have:=cj (l+i) row h1 j v hj
   rwa [Nat.add_mul,<-Nat.add_assoc]at this
  ·have h1:a=none:=by cases a with
    | none=>rfl
    | some x=>simp at h0
   have:=hn h1
   omega
theorem fB0 {α:Type} {enc:α->List Value} {k:Nat} {w:World} {a:Option Addr} {xs:List α} (h:aF w a k (xs.map enc)) (n:Nat):aF w a k ((xs.take n).map enc):=λaw=>by
 have hx:xs.map enc≠[]:=by
  rintro e;rw[Ak]at e;subst e;simp at aw
 obtain⟨b,off,ha,hc⟩:=h hx;refine⟨b,off,ha,λi row hi j v hj=>hc i row ?_ j v hj⟩;rw[Ad]at hi ⊢;rw[Am]at hi;split at hi
 ·exact hi
 ·cases hi
end
section
open Go Go.RowKit
attribute [local go_sem] aM
theorem qD0 {s:ByteArray} {k:Nat} (hk:k<s.size) :
  ((nextS s k).2=0/\Aa (s.data.toList.drop k)=false)\/(1<=(nextS s k).2/\k+(nextS s k).2<=s.size/\Aa (s.data.toList.drop k)=Aa (s.data.toList.drop (k+(nextS s k).2))/\runesD (s.data.toList.drop k)=(nextS s k).1::runesD (s.data.toList.drop (k+(nextS s k).2))):=by
 have aw:s.data.toList.drop k≠[]:=λe=>jC.1 e hk;have hd:=hN0 _ aw;unfold nextS;rw[hd,Lib.validD_step _ aw,gO _ aw];by_cases hb:(Ap (s.data.toList.drop k)).1=65533/\(Ap (s.data.toList.drop k)).2=1
 ·rw[if_pos hb,if_pos hb];exact Or.inl ⟨rfl,rfl⟩
 ·rw[if_neg hb,if_neg hb,aC0]
  have hs:=nA (s.data.toList.drop k).length ((s.data.toList.drop k).getD 0 0).toNat ((s.data.toList.drop k).getD 1 0).toNat ((s.data.toList.drop k).getD 2 0).toNat ((s.data.toList.drop k).getD 3 0).toNat (Ah _) (Ah _) (Ah _) (by rw[<-An];exact hb);rw[<-An]at hs;refine Or.inr ⟨Lib.decodeL_width _,?_,rfl,rfl⟩;have hl:(s.data.toList.drop k).length=s.size-k:=by rw[List.length_drop,Ai]
  rcases hs with ⟨_,h⟩|⟨_,h,_⟩
  ·rw[h];show k+1<=_;omega
  ·rw[hl]at h;omega
def pC (s:ByteArray) (w:World) (e:Ending) (w':World):Prop :=
 ∃a cap,e=.returned (.tuple #[.slice a (if Aa s.data.toList then runesD s.data.toList else []).length cap,.bool (Aa s.data.toList)])/\aF w' a 1 ((if Aa s.data.toList then runesD s.data.toList else []).map wC0)/\aB w w'
theorem kC0 (s:ByteArray) (w:World) (hs:s.size<=35184372088832) :
  Calls Tryz.prog 170 #[.string s] w (pC s w):=by
 go_enter Tryz.func170,Tryz.ntmps170
 go_wp2_with fail
 go_loopw [4,5] (λv i wr=>∃(k:Nat) (rs:List Nat),k<=s.size/\i=.int .i64 k/\aO wr w.heap.size 21 1 wC0 v rs/\Hid (Aa s.data.toList=Aa (s.data.toList.drop k)/\runesD s.data.toList=rs++runesD (s.data.toList.drop k))/\rs.length<=k/\aB w wr) (λ_ i _=>s.size-(intOf i).toNat)
 case atStart=>exact⟨0,[],Aj _,rfl,aO.nil _ _ _ _ _,⟨rfl,rfl⟩,Aq _,aB.refl _⟩
 case round =>
  obtain⟨k,rs,hk,rfl,ae,ak,hrl,hg⟩:=hrel;obtain⟨a3,c3,rfl,jr,th,ah⟩:=ae.at_ uQ0.len;by_cases af:k<s.size
  ·have HN:=λW=>Ab (cO1 s k W (by omega) af)
   have dz:=qD0 af;generalize nextS s k=R at *;obtain⟨c,n⟩:=R;simp only at HN dz;rcases dz with ⟨h0,hv⟩|⟨h1,h2,hv,hr⟩
   ·subst h0
    have fq:Aa s.data.toList=false:=ak.out.1.trans hv;have HB:=Ab fq;clear fq hv ak ah;go_wp2_with (first|(go_at_call 236;refine(HN _).out.mono ?_;rintro e w1 ⟨rfl,aq⟩))
    go_ret2;unfold pC;rw[HB.out];exact⟨none,0,rfl,aF.nil _ _ _,hg.tr aq⟩
   ·have og:Aa s.data.toList=Aa (s.data.toList.drop (k+n))/\runesD s.data.toList=(rs++[c])++runesD (s.data.toList.drop (k+n)):=⟨ak.out.1.trans hv,by rw[ak.out.2,hr];simp⟩
    have HI:=Ab og;have ko:((n:Int)==0)=false:=by rw[beq_eq_false_iff_ne];omega
    clear ak og hv hr ah;go_wp2_with (first|(go_at_call 236;refine(HN _).out.mono ?_;rintro e w1 ⟨rfl,aq⟩)|(at_builtin;refine dQ uQ0 rfl _ _ rfl w.heap.size _ _ c rfl (ae.grows aq) (aB.refl _) w1.heap.size 1 rfl #[.int .i32 c] rfl rfl (by omega) (hg.tr aq).size ?_;intro v' w5 cw bg))
    have fh:=bg w (hg.tr aq) (Aq _);go_wp2
    go_roundw
    case rel=>exact⟨k+n,rs++[c],h2,by go_num,cw,HI.out,by simp;omega,fh⟩
    case measure=>simp[intOf];omega
  ·obtain rfl:k=s.size:=by omega
   have au:Aa s.data.toList=true/\runesD s.data.toList=rs:=by
    have:=ak.out
    rw[show s.data.toList.drop s.size=[] by rw[Ai,Af]]at this
    exact⟨this.1,by rw[this.2,sT0,List.append_nil]⟩
   have HF:=Ab au;clear au ak;go_wp2
   go_ret2;unfold pC;rw[HF.out.1,HF.out.2,if_pos rfl];exact⟨_,_,rfl,ah,hg⟩
end
section
open Go
theorem rF0 (s:ByteArray):readingS s=(Aa s.data.toList&&decide (1<=(runesD s.data.toList).length)&&decide ((runesD s.data.toList).length<=64) && !(runesD s.data.toList).any kanaBad):=by
 unfold readingS countS;rw[dJ1,bE0];cases Aa s.data.toList
 ·simp
 ·simp only[if_true,Al]
  congr 2
  ·rw[Ac];simp only[decide_eq_true_eq];omega
  ·rw[Ac];simp only[decide_eq_true_eq];omega
theorem sH0 (s:ByteArray):surfaceS s=(Aa s.data.toList&&decide (1<=(runesD s.data.toList).length)&&decide ((runesD s.data.toList).length<=64) && !(runesD s.data.toList).any surfBad):=by
 unfold surfaceS countS;rw[dJ1,bE0];cases Aa s.data.toList
 ·simp
 ·simp only[if_true,Al]
  congr 2
  ·rw[Ac];simp only[decide_eq_true_eq];omega
  ·rw[Ac];simp only[decide_eq_true_eq];omega
end
section
open Go Go.RowKit
attribute [local go_sem] aM
theorem rL (c l h:Int) (w:World) :
  Calls Tryz.prog 237 #[.int .i32 c,.int .i32 l,.int .i32 h] w λe w'=>e=.returned (.bool (decide (l<=c)&&decide (c<=h)))/\w=w':=by
 go_enter Tryz.func237,Tryz.ntmps237
 go_wp2
 all_goals (go_ret;refine⟨aZ ?_,rfl⟩;rw[Ac];simp;try omega)
theorem uO (c:Int) (w:World):Calls Tryz.prog 171 #[.int .i32 c] w (gW0 c w):=by
 cases h:nT c
 ·have hN:=Ab (show ∀r:Int,r≠1->(r=1↔nT c=true) from λr hr=>by simp[h,hr])
  have HB:=rL c 12353 12438 w;have hb:(decide ((12353:Int)<=c)&&decide (c<=12438))=false:=h;rw[hb]at HB;have HB2:=Ab HB;clear hb h HB;go_enter Tryz.func171,Tryz.ntmps171
  go_wp2_with fail
  refine HB2.out.mono ?_;rintro e w1 ⟨rfl,rfl⟩;go_wp2_with (first|(go_at_call 237;refine(rL _ _ _ _).mono ?_;rintro e w1 ⟨rfl,rfl⟩))
  all_goals (go_ret;exact⟨_,rfl,hN.out _ (by decide),rfl⟩)
 ·have HB:=rL c 12353 12438 w
  have hb:(decide ((12353:Int)<=c)&&decide (c<=12438))=true:=h;rw[hb]at HB;have HB2:=Ab HB;have HH:=Ab h;clear hb h HB;go_enter Tryz.func171,Tryz.ntmps171
  go_wp2_with fail
  refine HB2.out.mono ?_;rintro e w1 ⟨rfl,rfl⟩;go_wp2
  go_ret;exact⟨1,rfl,by simp[HH.out],rfl⟩
theorem oO0 {p:Nat->Bool} {l:List Nat} {k c:Nat} (h:l[k]?=some c):(l.drop k).any p=(p c||(l.drop (k+1)).any p):=by
 have af:=(List.getElem?_eq_some_iff.1 h).1;rw[List.drop_eq_getElem_cons af,List.any_cons,(List.getElem?_eq_some_iff.1 h).2]
theorem wH (s:ByteArray) (w:World) (hs:s.size<=35184372088832) :
  Calls Tryz.prog 111 #[.string s] w λe w'=>e=.returned (.bool (readingS s))/\aB w w':=by
 have HR:=Ab (kC0 s w hs);have ay:=cH0 s.data.toList;rw[<-Ai]at ay;rw[rF0];unfold pC at HR;generalize Aa s.data.toList=v at *;generalize runesD s.data.toList=rs at *;cases v
 ·go_enter Tryz.func111,Tryz.ntmps111
  go_wp2_with (first|(go_at_call 170;refine HR.out.mono ?_;rintro e w1 ⟨a,c,rfl,ah,aq⟩))
  go_ret;exact⟨rfl,aq⟩
 ·simp only[if_true]at HR
  by_cases h1:1<=rs.length
  ·by_cases h2:rs.length<=64
   ·have g1:¬(rs.length:Int)<1:=by omega
    have g2:¬(64:Int)<rs.length:=by omega
    have e1:(decide (1<=rs.length))=true:=by simpa using h1
    have e2:(decide (rs.length<=64))=true:=by simpa using h2
    rw[e1,e2];clear e1 e2 h1 h2;go_enter Tryz.func111,Tryz.ntmps111
    go_wp2_with (first|(go_at_call 170;refine HR.out.mono ?_;rintro e w1 ⟨a,c,rfl,ah,aq⟩))
    go_loopw [5] (λi wr=>∃k:Nat,k<=rs.length/\i=.int .i64 k/\Hid (rs.any kanaBad=(rs.drop k).any kanaBad)/\aB w1 wr) (λi _=>rs.length-(intOf i).toNat)
    case atStart=>exact⟨0,Aj _,rfl,rfl,aB.refl _⟩
    case round =>
     obtain⟨k,hk,rfl,ak,hg⟩:=hrel;by_cases af:k<rs.length
     ·obtain⟨x,hx⟩:∃x,rs[k]?=some x:=⟨_,Ae af⟩
      obtain⟨ba,oa,rfl,cn⟩:=(ah.grows hg).get (aH af);have c0:wr.cell? ⟨ba,oa+k,none⟩=some (.int .i32 x):=by simpa using cn k _ hx 0 _ rfl
      have hi:=ak.out;rw[oO0 hx]at hi;have HI:=Ab hi;clear ak hi cn hx;by_cases jl:(x:Int)=12540
      ·have qv:kanaBad x=false:=by unfold kanaBad;simp[jl]
       have gb:rs.any kanaBad=(rs.drop (k+1)).any kanaBad:=by rw[HI.out,qv];rfl
       have HI2:=Ab gb;have aw:((x:Int) != 12540)=false:=by simp[jl]
       clear HI qv gb jl;go_wp2_with (first|(go_at_call 171;refine(uO _ _).mono ?_;rintro e w2 ⟨r,rfl,hr,rfl⟩;clear hr))
       all_goals
        go_roundw
        case rel=>exact⟨k+1,af,by go_num,HI2.out,hg⟩
        case measure=>simp[intOf];omega
      ·have aw:((x:Int) != 12540)=true:=by simp[jl]
       have qv:kanaBad x = !nT x:=by unfold kanaBad;simp[jl]
       cases hh:nT x
       ·have gb:rs.any kanaBad=true:=by rw[HI.out,qv,hh];rfl
        have HI2:=Ab gb;have HH:=Ab hh;clear HI qv gb jl hh;go_wp2_with (first|(go_at_call 171;refine(uO _ _).mono ?_;rintro e w2 ⟨r,rfl,hr,rfl⟩;have hr1:(r != 1)=true:=(by rw[HH.out]at hr;simpa using hr);clear hr))
        go_ret;exact⟨aZ (by rw[HI2.out];rfl),aq.tr hg⟩
       ·have gb:rs.any kanaBad=(rs.drop (k+1)).any kanaBad:=by rw[HI.out,qv,hh];rfl
        have HI2:=Ab gb;have HH:=Ab hh;clear HI qv gb jl hh;go_wp2_with (first|(go_at_call 171;refine(uO _ _).mono ?_;rintro e w2 ⟨r,rfl,hr,rfl⟩;have hr1:(r != 1)=false:=(by rw[HH.out]at hr;simpa using hr);clear hr))
        go_roundw
        case rel=>exact⟨k+1,af,by go_num,HI2.out,hg⟩
        case measure=>simp[intOf];omega
     ·obtain rfl:k=rs.length:=by omega
      have gb:rs.any kanaBad=false:=by rw[ak.out,Af];rfl
      have HI2:=Ab gb;clear ak gb ah;go_wp2
      go_ret;exact⟨aZ (by rw[HI2.out];rfl),aq.tr hg⟩
   ·have g1:¬(rs.length:Int)<1:=by omega
    have g2:(64:Int)<rs.length:=by omega
    have e2:(decide (rs.length<=64))=false:=by simpa using h2
    rw[e2];clear e2 h2 h1;go_enter Tryz.func111,Tryz.ntmps111
    go_wp2_with (first|(go_at_call 170;refine HR.out.mono ?_;rintro e w1 ⟨a,c,rfl,ah,aq⟩))
    go_ret;exact⟨aZ (by simp),aq⟩
  ·have g1:(rs.length:Int)<1:=by omega
   have e1:(decide (1<=rs.length))=false:=by simpa using h1
   rw[e1];clear e1 h1;go_enter Tryz.func111,Tryz.ntmps111
   go_wp2_with (first|(go_at_call 170;refine HR.out.mono ?_;rintro e w1 ⟨a,c,rfl,ah,aq⟩))
   go_ret;exact⟨aZ (by simp),aq⟩
theorem xE (s:ByteArray) (w:World) (hs:s.size<=35184372088832) :
  Calls Tryz.prog 112 #[.string s] w λe w'=>e=.returned (.bool (surfaceS s))/\aB w w':=by
 have HR:=Ab (kC0 s w hs);have ay:=cH0 s.data.toList;rw[<-Ai]at ay;rw[sH0];unfold pC at HR
 have hq:∃L:List Nat,L.length<=s.size/\(Aa s.data.toList=true->L=runesD s.data.toList)/\Hid (Calls Tryz.prog 170 #[.string s] w λe w'=>∃a cap,e=.returned (.tuple #[.slice a L.length cap,.bool (Aa s.data.toList)])/\aF w' a 1 (L.map wC0)/\aB w w')/\(Aa s.data.toList=false->L=[]):=by
  cases hv:Aa s.data.toList
  ·exact⟨[],Aj _,(λh=>by cases h),by rw[hv]at HR;exact HR,λ_=>rfl⟩
  ·exact⟨runesD s.data.toList,ay,λ_=>rfl,by rw[hv]at HR;exact HR,(λh=>by cases h)⟩
 obtain⟨rs,ja,hL,HR2,hL2⟩:=hq
 have k9:(Aa s.data.toList&&decide (1<=(runesD s.data.toList).length)&&decide ((runesD s.data.toList).length<=64) && !(runesD s.data.toList).any surfBad)=(Aa s.data.toList&&decide (1<=rs.length)&&decide (rs.length<=64) && !rs.any surfBad):=by
  cases hv:Aa s.data.toList
  ·rfl
  ·rw[hL hv]
 rw[k9];clear HR ay k9;generalize Aa s.data.toList=v at *;have HL2:=Ab hL2;clear hL hL2;go_enter Tryz.func112,Tryz.ntmps112
 go_wp2_with (first|(go_at_call 170;refine HR2.out.mono ?_;rintro e w1 ⟨a,c,rfl,ah,aq⟩))
 go_loopw [5] (λi wr=>∃k:Nat,k<=rs.length/\i=.int .i64 k/\Hid (rs.any surfBad=(rs.drop k).any surfBad)/\aB w1 wr) (λi _=>rs.length-(intOf i).toNat)
 case atStart=>exact⟨0,Aj _,rfl,rfl,aB.refl _⟩
 case round =>
  obtain⟨k,hk,rfl,ak,hg⟩:=hrel;by_cases af:k<rs.length
  ·obtain⟨x,hx⟩:∃x,rs[k]?=some x:=⟨_,Ae af⟩
   obtain⟨ba,oa,rfl,cn⟩:=(ah.grows hg).get (aH af);have c0:wr.cell? ⟨ba,oa+k,none⟩=some (.int .i32 x):=by simpa using cn k _ hx 0 _ rfl
   have hi:=ak.out;rw[oO0 hx]at hi;have HI:=Ab hi;clear ak hi cn hx;cases hh:surfBad x
   ·have gb:rs.any surfBad=(rs.drop (k+1)).any surfBad:=by rw[HI.out,hh];rfl
    have HI2:=Ab gb;have q1:¬(x:Int)<32:=by unfold surfBad at hh;simp at hh;omega
    have q2:(x:Int)<127\/160<=(x:Int):=by unfold surfBad at hh;simp at hh;omega
    clear HI gb hh;rcases q2 with q2|q2
    ·have q3:¬127<=(x:Int):=by omega
     go_wp2
     go_roundw
     case rel=>exact⟨k+1,af,by go_num,HI2.out,hg⟩
     case measure=>simp[intOf];omega
    ·have q3:127<=(x:Int):=by omega
     have q4:¬(x:Int)<160:=by omega
     go_wp2
     go_roundw
     case rel=>exact⟨k+1,af,by go_num,HI2.out,hg⟩
     case measure=>simp[intOf];omega
   ·have gb:rs.any surfBad=true:=by rw[HI.out,hh];rfl
    have HI2:=Ab gb;have q2:(x:Int)<32\/(¬(x:Int)<32/\127<=(x:Int)/\(x:Int)<160):=by unfold surfBad at hh;simp at hh;omega
    clear HI gb hh;rcases q2 with q2|⟨q2,q3,q4⟩
    ·go_wp2
     go_ret;exact⟨aZ (by rw[HI2.out];simp),aq.tr hg⟩
    ·go_wp2
     go_ret;exact⟨aZ (by rw[HI2.out];simp),aq.tr hg⟩
  ·obtain rfl:k=rs.length:=by omega
   have gb:rs.any surfBad=false:=by rw[ak.out,Af];rfl
   have HI2:=Ab gb;clear ak gb ah;cases v
   ·go_wp2
    go_ret;exact⟨rfl,aq.tr hg⟩
   ·by_cases h1:1<=rs.length
    ·have g1:(1:Int)<=rs.length:=by omega
     go_wp2
     go_ret;exact⟨aZ (by rw[HI2.out,Ac];simp;omega),aq.tr hg⟩
    ·have g1:¬(1:Int)<=rs.length:=by omega
     go_wp2
     go_ret;exact⟨aZ (by first|rfl|(simp;omega)|(rw[HI2.out,Ac];simp;omega)),aq.tr hg⟩
theorem bY0 (r s:ByteArray) (l t c n:Int) (w:World) (hr:r.size<=35184372088832) (hs:s.size<=35184372088832) :
  Calls Tryz.prog 114 #[.agg #[.string r,.string s,.int .i64 l,.int .i64 t,.int .i64 c],.int .i64 n] w λe w'=>e=.returned (.int .i64 (checkS r s l t c n))/\aB w w':=by
 have C1:∀W,Hid (Calls Tryz.prog 111 _ W _):=λW=>Ab (wH r W hr);have C2:∀W,Hid (Calls Tryz.prog 112 _ W _):=λW=>Ab (xE s W hs);unfold checkS;generalize readingS r=br at C1 ⊢;generalize surfaceS s=bs at C2 ⊢
 have box:∀ {W:World},aB (w.alloc (.cells #[.string r,.string s,.int .i64 l,.int .i64 t,.int .i64 c] 89)) W->W.cell? ⟨w.heap.size,1,none⟩=some (.string s)/\W.cell? ⟨w.heap.size,2,none⟩=some (.int .i64 l)/\W.cell? ⟨w.heap.size,3,none⟩=some (.int .i64 t)/\W.cell? ⟨w.heap.size,4,none⟩=some (.int .i64 c):=λhg =>
  ⟨(bI0 hg rfl) 1 _ rfl,(bI0 hg rfl) 2 _ rfl,(bI0 hg rfl) 3 _ rfl,(bI0 hg rfl) 4 _ rfl⟩
 have BOX:Hid (∀ {W:World},aB (w.alloc (.cells #[.string r,.string s,.int .i64 l,.int .i64 t,.int .i64 c] 89)) W->W.cell? ⟨w.heap.size,1,none⟩=some (.string s)/\W.cell? ⟨w.heap.size,2,none⟩=some (.int .i64 l)/\W.cell? ⟨w.heap.size,3,none⟩=some (.int .i64 t)/\W.cell? ⟨w.heap.size,4,none⟩=some (.int .i64 c)):=@box;clear box;cases br
 ·go_enter Tryz.func114,Tryz.ntmps114
  go_wp2_with (first|(go_at_call 111;refine(C1 _).out.mono ?_;rintro e w1 ⟨rfl,aq⟩))
  go_ret;exact⟨rfl,(aB.alloc _ _).tr aq⟩
 ·cases bs
  ·go_enter Tryz.func114,Tryz.ntmps114
   go_wp2_with (first|(go_at_call 111;refine(C1 _).out.mono ?_;rintro e w1 ⟨rfl,aq⟩;obtain⟨k1,k2,k3,k4⟩:=BOX.out aq)|(go_at_call 112;refine(C2 _).out.mono ?_;rintro e w2 ⟨rfl,an⟩))
   go_ret;exact⟨rfl,((aB.alloc _ _).tr aq).tr an⟩
  ·go_enter Tryz.func114,Tryz.ntmps114
   go_wp2_with (first|(go_at_call 111;refine(C1 _).out.mono ?_;rintro e w1 ⟨rfl,aq⟩;obtain⟨k1,k2,k3,k4⟩:=BOX.out aq)|(go_at_call 112;refine(C2 _).out.mono ?_;rintro e w2 ⟨rfl,an⟩;replace k1:=an.cell k1;replace k2:=an.cell k2;replace k3:=an.cell k3;replace k4:=an.cell k4))
   all_goals (go_ret;refine⟨lK0 ?_,((aB.alloc _ _).tr aq).tr an⟩;first|rfl|(simp only[Ao,if_true];done)|(simp only[Ao,if_true];(repeat' split)<;>first|rfl|(exfalso;omega)))
end
end Go.Proofs.YtiopheoljccmpaaGreatDoor
