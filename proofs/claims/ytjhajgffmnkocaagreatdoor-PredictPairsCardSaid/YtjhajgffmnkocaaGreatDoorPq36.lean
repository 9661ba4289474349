/- The texts Kmk, one behind the other. -/
import Derived.Test.YtjhajgffmnkocaaGreatDoorPq8
import Derived.Test.YtjhajgffmnkocaaGreatDoorPq29
import Derived.Test.YtjhajgffmnkocaaGreatDoorPq35
import Derived.Shelf.Strings.Cut
import Derived.Lib.SmallJoins
open Go.IntKind renaming signed → Aa,bits → Ac,wrap → Ad
open Go.Lib renaming index → Ab,hid → Ae,cut → Ag,size_eq → Ah,extract_data → Ai,toList_data → Ak,validD → An,bitLen → Ao
open List renaming isEmpty_eq_false_iff → Af,length_drop → Aj,isPrefixOf → Al
open UInt8 renaming toNat_lt → Am
set_option maxHeartbeats 4000000
namespace Go.Proofs.YtjhajgffmnkocaaGreatDoor
set_option maxRecDepth 100000
open Go Go.RowKit Go.Shelf
attribute [local go_sem] aO
def zeroP (c:Nat):Bool:=c==0
theorem nV0 (w:World):PredAt Tryz.prog 141 #[] encR zeroP w:=λW x _=>by
 unfold FnGives;show Calls Tryz.prog 141 #[.int .i32 (x:Int)] W _
 go_enter Tryz.func141,Tryz.ntmps141
 go_wp2
 all_goals (go_ret;refine⟨dI ?_,0,rfl⟩;rw[Bool.eq_iff_iff];simp[zeroP];try omega)
theorem cL0 (s:ByteArray) (w:World) (hs:s.size<9223372036854775807) (he:Env w) :
  Calls Tryz.prog 73 #[.string s] w λe w'=>e=.returned (.bool (partK s))/\aB w w':=by
 have CV:=Ae (uL s w hs he);have ie:=λ(u:World)=>Ae (Tryz.strings_ContainsFunc 141 #[] (enters_of Tryz.func141 (by kernel_rfl) rfl) zeroP s u (nV0 u));have hp:partK s=(!(bl s).isEmpty&&(An s.data.toList && !((runesD s.data.toList).any zeroP))):=oA0 s;rw[hp];simp only[jX1]at ie;generalize (runesD s.data.toList).any zeroP=z at ie ⊢;generalize An s.data.toList=v at CV ⊢;clear he hs hp;by_cases h0:s=⟨#[]⟩
 ·subst h0
  go_enter Tryz.func73,Tryz.ntmps73
  go_wp2_with fail
  go_ret;exact⟨rfl,aB.refl _⟩
 ·have hb:(bl s).isEmpty=false:=by
   rw[Af];exact λe=>h0 (qY e)
  have h1:¬s.toList=[]:=by rw[Ak];exact λe=>h0 (qY e)
  have h2:s.toList.isEmpty=false:=by rw[Af];exact h1
  rw[hb];clear hb h0;go_enter Tryz.func73,Tryz.ntmps73
  cases v
  ·go_wp2_with (go_at_call 32;refine CV.out.mono ?_;rintro e w1 ⟨rfl,ai⟩)
   go_ret;exact⟨rfl,ai⟩
  ·go_wp2_with (first|(go_at_call 32;refine CV.out.mono ?_;rintro e w1 ⟨rfl,ai⟩)|(go_at_call 140;refine(ie _).out.mono ?_;rintro e w2 ⟨rfl,ae⟩))
   go_ret;exact⟨rfl,ai.tr ae⟩
theorem part_len {s:ByteArray} (k:Nat) (h:s.size<=k):(s.size:Int)<=k:=by omega
theorem pW0 (k:UInt8) (a b:ByteArray) (n:Int) (hk:UInt8.ofNat (48+n.toNat)=k):(⟨#[k]⟩:ByteArray)++a++⟨#[0]⟩++b=keyK n a b:=by
 apply pA
 rw[Joins.data_append,Joins.data_append,Joins.data_append];unfold keyK;rw[iR,hk];simp[bl]
def bN0 (k:Int) (a b:ByteArray) (w:World) (e:Ending) (w':World):Prop:=e=.returned (.tuple #[.string (if okK k a b then keyK k a b else ⟨#[]⟩),.bool (okK k a b)])/\aB w w'
theorem xN {k:Int} {a b:ByteArray} {w w':World} (h:okK k a b=false) (hg:aB w w'):bN0 k a b w (.returned (.tuple #[.string ⟨#[]⟩,.bool false])) w':=⟨by rw[h]; rfl,hg⟩
theorem dW1 {k:Int} {a b:ByteArray} {w w':World} (h:okK k a b=true) (hg:aB w w'):bN0 k a b w (.returned (.tuple #[.string (keyK k a b),.bool true])) w':=⟨by rw[h]; rfl,hg⟩
theorem jJ0 (k:Int) (a b:ByteArray) (w:World) (ha:a.size<=4611686018427387000) (hb:b.size<=4611686018427387000) (he:Env w) :
  Calls Tryz.prog 34 #[.int .i64 k,.string a,.string b] w (bN0 k a b w):=by
 have CA:=λ(u:World) (hu:aB w u)=>Ae (cL0 a u (by omega) (he.grows hu));have CB:=λ(u:World) (hu:aB w u)=>Ae (cL0 b u (by omega) (he.grows hu));have ag:okK k a b=((decide (k=1)||decide (k=2))&&partK a&&partK b&&decide (a.size+b.size<=398)):=rfl
 generalize partK a=pa at CA ag;generalize partK b=pb at CB ag;have hz:(a.size:Int)+b.size<9223372036854775807:=by omega
 clear he;by_cases hk:k=1\/k=2
 ·by_cases hl:a.size+b.size<=398
  ·have hli:decide ((398:Int)<(a.size:Int)+b.size)=false:=decide_eq_false (by omega)
   have fe:1+a.size<=400:=by omega
   have hwr:IntKind.i64.wrap ((a.size:Int)+b.size)=(a.size:Int)+b.size:=by simp[Ad,Ac,Aa];omega
   cases pa
   ·have HN:=λ(u:World) (hg:aB w u)=>Ae (xN (by rw[ag];simp) hg:bN0 k a b w _ u)
    clear ag hl;rcases hk with rfl|rfl <;>
    ·go_enter Tryz.func34,Tryz.ntmps34
     go_wp2_with (go_at_call 73;refine(CA _ (aB.refl _)).out.mono ?_;rintro e w1 ⟨rfl,ai⟩)
     go_ret2;exact(HN _ ai).out
   ·cases pb
    ·have HN:=λ(u:World) (hg:aB w u)=>Ae (xN (by rw[ag];simp) hg:bN0 k a b w _ u)
     clear ag hl;rcases hk with rfl|rfl <;>
     ·go_enter Tryz.func34,Tryz.ntmps34
      go_wp2_with fail
      refine(CA _ (aB.refl _)).out.mono ?_;rintro e w1 ⟨rfl,ai⟩;go_wp2_with fail
      refine(CB _ ai).out.mono ?_;rintro e w2 ⟨rfl,ae⟩;go_wp2_with fail
      go_ret2;exact(HN _ (ai.tr ae)).out
    ·have HK:=λ(u:World) (hg:aB w u)=>Ae (dW1 (by rw[ag];simpa [hl] using hk) hg:bN0 k a b w _ u)
     have iq:1+a.size+1<=400:=by omega
     have hs3:1+a.size+1+b.size<=400:=by omega
     clear ag hl;rcases hk with rfl|rfl
     ·rw[<-pW0 49 a b 1 rfl]at HK
      have e49:Utf8.encode 49=⟨#[49]⟩:=by kernel_rfl
      have z49:(⟨#[49]⟩:ByteArray).size=1:=rfl;have z0:(⟨#[0]⟩:ByteArray).size=1:=rfl;go_enter Tryz.func34,Tryz.ntmps34
      go_wp2_with fail
      refine(CA _ (aB.refl _)).out.mono ?_;rintro e w1 ⟨rfl,ai⟩;go_wp2_with fail
      refine(CB _ ai).out.mono ?_;rintro e w2 ⟨rfl,ae⟩;go_wp2_with fail
      go_ret2;exact(HK _ (ai.tr ae)).out
     ·rw[<-pW0 50 a b 2 rfl]at HK
      have e49:Utf8.encode 50=⟨#[50]⟩:=by kernel_rfl
      have z49:(⟨#[50]⟩:ByteArray).size=1:=rfl;have z0:(⟨#[0]⟩:ByteArray).size=1:=rfl;go_enter Tryz.func34,Tryz.ntmps34
      go_wp2_with fail
      refine(CA _ (aB.refl _)).out.mono ?_;rintro e w1 ⟨rfl,ai⟩;go_wp2_with fail
      refine(CB _ ai).out.mono ?_;rintro e w2 ⟨rfl,ae⟩;go_wp2_with fail
      go_ret2;exact(HK _ (ai.tr ae)).out
  ·have hli:(398:Int)<(a.size:Int)+b.size:=by omega
   have HN:=λ(u:World) (hg:aB w u)=>Ae (xN (by rw[ag];simp[hl]) hg:bN0 k a b w _ u);have hwr:IntKind.i64.wrap ((a.size:Int)+b.size)=(a.size:Int)+b.size:=by simp[Ad,Ac,Aa];omega
   clear ag hl;cases pa
   ·rcases hk with rfl|rfl <;>
    ·go_enter Tryz.func34,Tryz.ntmps34
     go_wp2_with fail
     refine(CA _ (aB.refl _)).out.mono ?_;rintro e w1 ⟨rfl,ai⟩;go_wp2_with fail
     go_ret2;exact(HN _ ai).out
   ·cases pb <;>
    ·rcases hk with rfl|rfl <;>
     ·go_enter Tryz.func34,Tryz.ntmps34
      go_wp2_with fail
      refine(CA _ (aB.refl _)).out.mono ?_;rintro e w1 ⟨rfl,ai⟩;go_wp2_with fail
      refine(CB _ ai).out.mono ?_;rintro e w2 ⟨rfl,ae⟩;go_wp2_with fail
      go_ret2;exact(HN _ (ai.tr ae)).out
 ·have HN:=λ(u:World) (hg:aB w u)=>Ae (xN (by rw[ag];simp;omega) hg:bN0 k a b w _ u)
  have h1:(k==1)=false:=by rw[beq_eq_false_iff_ne];exact λe=>hk (Or.inl e)
  have h2:(k==2)=false:=by rw[beq_eq_false_iff_ne];exact λe=>hk (Or.inr e)
  have h3:(k != 1)=true:=by simpa using h1
  have h4:(k != 2)=true:=by simpa using h2
  clear ag hk;go_enter Tryz.func34,Tryz.ntmps34
  go_wp2_with fail
  go_ret2;exact(HN _ (aB.refl _)).out
theorem qF0:∀l:List UInt8,(Ag l [0]).1=(l.takeWhile λc=>c != 0)/\(Ag l [0]).2.1=(l.dropWhile λc=>c != 0).drop 1
 | []=>by
  unfold Ag;rw[if_neg (by simp[Ab])];exact⟨rfl,rfl⟩
 | c::l=>by
  obtain⟨h1,h2⟩:=qF0 l;by_cases h:c=0
  ·subst h
   have hix:Ab (0::l) [0]=((0:Nat):Int):=by rw[Ab];simp[Al]
   unfold Ag;rw[hix,if_pos (by omega)];simp
  ·have hp:([0]:List UInt8).isPrefixOf (c::l)=false:=by simp[Al,Ne.symm h]
   have hix:Ab (c::l) [0]=if Ab l [0] == -1 then -1 else Ab l [0]+1:=by rw[Ab,hp];simp
   have hc:(c != 0)=true:=by simpa using h
   rw[List.takeWhile_cons,List.dropWhile_cons,if_pos hc,if_pos hc,<-h1,<-h2];have yv:=Lib.index_ge l [0];unfold Ag;rw[hix];by_cases hm:Ab l [0] = -1
   ·rw[hm]
    simp
   ·have hb:(Ab l [0] == -1)=false:=by simpa using hm
    rw[hb];simp only[Bool.false_eq_true,if_false];rw[if_pos (by omega),if_pos (by omega)];have e:(Ab l [0]+1).toNat=(Ab l [0]).toNat+1:=by omega
    rw[e];refine⟨by rw[List.take_succ_cons],?_⟩;simp only[List.length_singleton];rw[show (Ab l [0]).toNat+1+1=((Ab l [0]).toNat+1)+1 from rfl,List.drop_succ_cons]
theorem lW1 {s:ByteArray} {c:UInt8} {l:List UInt8} (h:bl s=c::l):(⟨(Ag (s.extract 1 s.size).data.toList [0]).1.toArray⟩:ByteArray)=(bM0 l).1/\(⟨(Ag (s.extract 1 s.size).data.toList [0]).2.1.toArray⟩:ByteArray)=(bM0 l).2:=by
 have e:(s.extract 1 s.size).data.toList=l:=by
  rw[Ai];show ((bl s).drop 1).take (s.size-1)=l
  rw[<-eE s,h];simp
 rw[e];obtain⟨h1,h2⟩:=qF0 l;rw[h1,h2];exact⟨rfl,rfl⟩
theorem hY1 (s:ByteArray) (m:Int) (w:World) (hs:s.size<4294967281) (hm:w.cell? ⟨2,0,none⟩=some (.int .i64 m)) :
  Calls Tryz.prog 79 #[.string s,.string ⟨#[0]⟩] w λe w'=>(∃b,e=.returned (.tuple #[.string ⟨(Ag s.data.toList [0]).1.toArray⟩,.string ⟨(Ag s.data.toList [0]).2.1.toArray⟩,.bool b]))/\aB w w':=by
 have h:Calls Tryz.prog 79 #[.string s,.string ⟨#[0]⟩] w _:=Any.strings_Cut Tryz.laysCut s ⟨#[0]⟩ m w hs hm;refine h.mono λe w' ⟨h1,n,h2⟩=>⟨⟨_,h1⟩,?_⟩;rw[h2];exact(Below.refl _ w).trans ⟨rfl,rfl,rfl,Nat.le_refl _,λ_ _=>rfl⟩
def yO (key:ByteArray) (w:World) (e:Ending) (w':World):Prop:=e=.returned (.tuple #[.int .i64 (dR key).1,.string (dR key).2.1,.string (dR key).2.2,.bool (decide ((dR key).1≠0))])/\aB w w'
theorem iB0 {key:ByteArray} {w w':World} (h:dR key=noK) (hg:aB w w'):yO key w (.returned (.tuple #[.int .i64 0,.string ⟨#[]⟩,.string ⟨#[]⟩,.bool false])) w':=⟨by rw[h]; rfl,hg⟩
theorem wY0 {key:ByteArray} {k:Int} {a b:ByteArray} {w w':World} (h:dR key=(k,a,b)) (h0:k≠0) (hg:aB w w'):yO key w (.returned (.tuple #[.int .i64 k,.string a,.string b,.bool true])) w':=⟨by rw[h]; simp[h0],hg⟩
theorem tN0 (s:ByteArray) (w:World) (hs:s.size<=1048576) (he:Env w) :
  Calls Tryz.prog 38 #[.string s] w (yO s w):=by
 by_cases h0:s=⟨#[]⟩
 ·have HN:=λ(u:World) (hg:aB w u)=>Ae (iB0 (by rw[h0];rfl) hg:yO s w _ u)
  subst h0;clear hs he;go_enter Tryz.func38,Tryz.ntmps38
  go_wp2_with fail
  refine bodyPost_ret (v:=.tuple #[.int .i64 0,.string ⟨#[]⟩,.string ⟨#[]⟩,.bool false]) (by simp[results,Tryz.results38,go_sem]) rfl ?_
  exact(HN _ (aB.refl _)).out
 ·obtain⟨c,l,hb⟩:∃c l,bl s=c::l:=by
   cases hb:bl s with
   | nil=>exact absurd (qY hb) h0
   | cons c l=>exact⟨c,l,rfl⟩
  have aj:l.length+1=s.size:=by rw[<-eE s,hb];rfl
  have hz:0<s.size:=by omega
  have hc:s[0]=c:=by
   have:=mX (s:=s) (k:=0) hz
   rw[hb]at this;simpa using this.symm
  obtain⟨m,hm⟩:=he.mx;obtain⟨e1,e2⟩:=lW1 hb
  have hxs:(s.extract 1 s.size).size<=1048576:=by
   rw[Ah,Ai,List.length_take,Aj,<-Ah];omega
  have CC:=λ(u:World) (hu:aB w u)=>Ae (hY1 (s.extract 1 s.size) m u (by omega) (hu.cell hm));rw[e1,e2]at CC
  have hk1:(bM0 l).1.size<=1048576/\(bM0 l).2.size<=1048576:=by
   unfold bM0 mkB;rw[Ah,Ah];simp only;have h1:=(List.takeWhile_prefix (λc:UInt8=>c != 0) (l:=l)).length_le;have h2:=(List.dropWhile_suffix (λc:UInt8=>c != 0) (l:=l)).length_le;rw[Aj];omega
  have HP:dR s=if okK ((c.toNat:Int)-48) (bM0 l).1 (bM0 l).2 then ((c.toNat:Int)-48,(bM0 l).1,(bM0 l).2) else noK:=by
   unfold dR;rw[hb]
  obtain⟨a,ha⟩:=exq (bM0 l).1;obtain⟨b,j5⟩:=exq (bM0 l).2;rw[<-ha,<-j5]at CC hk1 HP;obtain⟨k,hk⟩:=exq ((c.toNat:Int)-48);rw[<-hk]at HP
  have hw8:IntKind.i64.wrap (c.toNat:Int)=c.toNat:=by
   have:=Am c
   simp[Ad,Ac,Aa];omega
  have hwk:IntKind.i64.wrap ((c.toNat:Int)-48)=k:=by
   rw[hk]
   have:=Am c
   simp[Ad,Ac,Aa];omega
  have CM:=λ(u:World) (hu:aB w u)=>Ae (jJ0 k a b u (by omega) (by omega) (he.grows hu));unfold bN0 at CM;have h1:¬s.toList=[]:=by rw[Ak];exact λe=>h0 (qY e)
  have h2:s.toList.isEmpty=false:=by rw[Af];exact h1
  have h1s:1<=s.size:=hz;have h1i:(1:Int)<=s.size:=by omega
  have hzi:(0:Int)<s.size:=by omega
  cases ag:okK k a b with
  | true =>
   have HY:=λ(u:World) (hg:aB w u)=>Ae (wY0 (k:=k) (a:=a) (b:=b) (by rw[HP,ag,if_pos rfl]) (by rcases tB ag with e|e<;>omega) hg:yO s w _ u)
   rw[ag]at CM;clear HP ag hb ha j5 hk e1 e2 he hm h0 aj;go_enter Tryz.func38,Tryz.ntmps38
   go_wp2_with fail
   refine(CC _ (aB.refl _)).out.mono ?_;rintro e w1 ⟨⟨fb,rfl⟩,ai⟩;go_wp2_with fail
   refine(CM _ ai).out.mono ?_;rintro e w2 ⟨rfl,ae⟩;clear CC CM;go_wp2_with fail
   refine bodyPost_ret (v:=.tuple #[.int .i64 k,.string a,.string b,.bool true]) (by simp[results,Tryz.results38,go_sem]) rfl ?_
   exact(HY _ (ai.tr ae)).out
  | false =>
   have HN:=λ(u:World) (hg:aB w u)=>Ae (iB0 (by rw[HP,ag];rfl) hg:yO s w _ u);rw[ag]at CM;clear HP ag hb ha j5 hk e1 e2 he hm h0 aj;go_enter Tryz.func38,Tryz.ntmps38
   go_wp2_with fail
   refine(CC _ (aB.refl _)).out.mono ?_;rintro e w1 ⟨⟨fb,rfl⟩,ai⟩;go_wp2_with fail
   refine(CM _ ai).out.mono ?_;rintro e w2 ⟨rfl,ae⟩;clear CC CM;go_wp2_with fail
   refine bodyPost_ret (v:=.tuple #[.int .i64 0,.string ⟨#[]⟩,.string ⟨#[]⟩,.bool false]) (by simp[results,Tryz.results38,go_sem]) rfl ?_
   exact(HN _ (ai.tr ae)).out
theorem gF1 (r p:ByteArray) (w:World):Calls Tryz.prog 36 #[.string r,.string p] w λe w'=>e=.returned (.bool (Lib.hasPrefix r.data.toList p.data.toList))/\w'=w:=Any.strings_HasPrefix Tryz.laysHasPrefix r p w
theorem tB0 {n:Int} (h:WfI n) : -9223372036854775808<=n/\n<=9223372036854775807:=by
 unfold WfI Lit.wf at h;simpa [IntKind.min,IntKind.max,Aa,Ac] using h
theorem iC0 (v:Int) (w:World) (hv:WfI v):Calls Tryz.prog 23 #[.int .i64 v] w λe w'=>e=.returned (.int .i64 (bonI v))/\w'=w:=by
 have hr:v<=9223372036854775807:=by
  have:=tB0 hv
  omega
 by_cases h0:v<=0
 ·have hb:bonI v=0:=by unfold bonI;rw[if_pos h0]
  rw[hb];go_enter Tryz.func23,Tryz.ntmps23
  go_wp2_with fail
  go_ret;exact⟨rfl,rfl⟩
 ·obtain⟨q,hq⟩:=exq (v/65536)
  have hq0:0<=q/\q<=140737488355328:=by omega
  have CL:=Ae (Tryz.bits_Len q w (by omega) (by omega));have hb:bonI v=min 3000 (500+250*(Ao q.toNat:Int)):=by unfold bonI;rw[if_neg h0,<-hq]
  have hl:=gN1 q.toNat;have hd:v.tdiv 65536=q:=by rw[hq];exact Int.tdiv_eq_ediv_of_nonneg (by omega)
  rw[hb];generalize Ao q.toNat=n at CL hl ⊢;have vj:IntKind.u64.wrap q=q:=by simp[Ad,Ac,Aa];omega
  have pq:IntKind.i64.wrap q=q:=by simp[Ad,Ac,Aa];omega
  have hw3:IntKind.i64.wrap (250*(n:Int))=250*n:=by simp[Ad,Ac,Aa];omega
  have hw4:IntKind.i64.wrap (500+250*(n:Int))=500+250*n:=by simp[Ad,Ac,Aa];omega
  have h1:decide (v<=0)=false:=decide_eq_false h0;clear hb hv hq hq0 hr h0;go_enter Tryz.func23,Tryz.ntmps23
  go_wp2_with fail
  refine CL.out.mono ?_;rintro e w1 ⟨rfl,rfl⟩;clear CL;go_wp2_with fail
  go_ret;exact⟨rfl,rfl⟩
end Go.Proofs.YtjhajgffmnkocaaGreatDoor
