/- The texts Bytes App2 PutU RefU App3 rU0 Bx W13 W10 W09 wF0, one behind the other. -/
import Derived.Test.YtjhajgffmnkocaaGreatDoorPq1
import Derived.Test.YtjhajgffmnkocaaGreatDoorPq19
import Derived.Test.YtjhajgffmnkocaaGreatDoorProg
import Derived.Lib.AppendStr
import Derived.Lib.BufferRead
import Derived.Lib.SlBytesRow
import Derived.Laws.AppendOwnNone
import Derived.ArgAppend
import Derived.Lib.SliceRun
import Derived.Test.YtjhajgffmnkocaaGreatDoorPq4
import Derived.Laws.BitsAllLaws
open Bool renaming and_eq_true → Aa,false_eq_true → Ag,false_or → Ax
open UInt8 renaming ofNat → Ab,toNat_ofNat' → Ae
open Nat renaming le_trans → Ac,le_mul_of_pos_right → Ah,le_refl → Ai,mul_comm → As,mod_eq_of_lt → At,add_assoc → Aw,zero_add → Ay,lt_or_ge → Az,add_zero → Ba,mod_lt → Bd
open List renaming length_append → Ad,flatMap_append → Af,eq_nil_of_length_eq_zero → Aj,map_eq_nil_iff → Ak,getElem?_map → Al,append_assoc → Am,length_cons → An,append_nil → Ao,length_singleton → Ap,flatMap_cons → Ar,nil_append → Au
open Go.Lib renaming run_eql_slice_nil → Aq,hid → Av,size_eq → Bb
open Go.Addr renaming add → Bc
set_option maxHeartbeats 2000000
namespace Go.Proofs.YtjhajgffmnkocaaGreatDoor
set_option maxRecDepth 100000
section
open Go Go.RowKit
def aV (b:UInt8):List Value:=[.int .u8 b.toNat]
theorem bI:dZ Tryz.prog 67 5 1 1 aV where
 sl:=Tryz.underlying67
 info:=iH (z:=.int .u8 0) (by kernel_rfl) rfl
 pos:=by decide
 by1:=by decide
 len _:=rfl
 one x u hu:=by
  simp[aV]at hu;subst hu;rfl
theorem cV1:∃i,Tryz.prog.info? 5=some i/\i.zero=some (.int .u8 0)/\i.size=1/\i.bytes=1:=by
 have h:(Tryz.prog.info? 5).map (λi=>(i.zero,i.size,i.bytes))=some (some (.int .u8 0),1,1):=by kernel_rfl
 cases hi:Tryz.prog.info? 5 with
 | none=>rw[hi]at h;cases h
 | some i =>
  rw[hi]at h;simp only[Option.map_some,Option.some.injEq,Prod.mk.injEq]at h;exact⟨i,rfl,h.1,h.2.1,h.2.2⟩
theorem pQ (l:List UInt8):l.flatMap aV=l.map λb=>Value.int .u8 b.toNat:=by
 induction l with
 | nil=>rfl
 | cons b l ih=>rw[Ar,ih];rfl
theorem gH0 (s:ByteArray):Lib.strCells s=s.data.toList.flatMap aV:=by rw[pQ]; rfl
theorem aU.other {α:Type} {w w':World} {base:Nat} {e e':TypeId} {k:Nat} {enc:α->List Value} {v v2:Value} {xs:List α} {n2 k2 b2:Nat} {ys:List Value} (h:aU w base e k enc v xs) (h2:w.ownsRow b2 e' k2 v2 n2 ys) (ak:e≠e') (hg:w.grownBy w' v2.ownBlock):aU w' base e k enc v xs:=by
 obtain⟨h1,h3⟩:=h;refine⟨h1,?_⟩;rcases h3 with h3|⟨g,cap,ct,rfl,hb,hh,r⟩
 ·exact Or.inl h3
 ·refine Or.inr ⟨g,cap,ct,rfl,hb,?_,r⟩
  rw[hg.block g (Array.getElem?_eq_some_iff.1 hh).1 ?_]
  ·exact hh
  ·rcases h2.2 with ⟨rfl,_⟩|⟨g',mo,aiw,rfl,_,hh',_⟩
   ·simp[Value.ownBlock]
   ·intro he
    have:g=g':=by simpa [Value.ownBlock] using he
    subst this;rw[hh]at hh';injection hh' with hh'
    injection hh' with _ ht
    exact ak ht
theorem aU.al {α:Type} {w:World} {base:Nat} {e:TypeId} {k:Nat} {enc:α->List Value} {v:Value} {xs:List α} (h:aU w base e k enc v xs) (o:Obj):aU (w.alloc o) base e k enc v xs:=h.grows (aB.alloc _ _)
theorem lS1 {ops:Array Oper} {rest:List Oper} {o:Oper} {a:Act} {Q:Exit->Act->World->Prop} {w W:World}
  (j6:o.guard=none) (s x:Operand) (iz:o.op=.call { callee:=.builtin .append,args:=#[s,x],argTypes:=#[67,9] })
  (base:Nat) (v:Value) (xs:List UInt8) (y:ByteArray) (hs:a.eval s=v) (aa:aU w base 5 1 aV v xs) (gh:aB w W)
  (hx:a.eval x=.string y) (aj:xs.length+y.size<=140737488355328) (bj:base<=w.heap.size)
  (h:∀v' w',aU w' base 5 1 aV v' (xs++y.data.toList)->(∀a0,aB a0 w->a0.heap.size<=base->aB a0 w')->(∀ {α:Type} {b2 k2:Nat} {e2:TypeId} {uz:α->List Value} {v2:Value} {ys:List α},e2≠5->aU w b2 e2 k2 uz v2 ys->aU w' b2 e2 k2 uz v2 ys)->wpList Tryz.prog ops Q rest (a.put o.dst v') w') :
  wpList Tryz.prog ops Q (o::rest) a W:=by
 obtain⟨i,hi,hz,cj,i7⟩:=cV1;have ah:=dJ aa gh;refine Lib.wpList_append_own_string W j6 s x 67 9 iz base 5 i Tryz.underlying67 Tryz.underlying9 hi hz cj i7 v xs.length (xs.flatMap aV) hs ah y hx (by unfold maxLen;omega) aj (Ac bj gh.size) ?_;intro v' w' h1 h2 _;refine h v' w' ?_ (λa0 h0 hb=>(h0.tr gh).grown h2 (λq hq=>Ac hb (aX aa q hq))) (λak ho=>(ho.grows gh).other ah ak h2);unfold aU;rw[Ad,<-Bb,Af,<-gH0];exact h1
theorem app_one2 {α:Type} {P:Program} {t e:TypeId} {k bytes:Nat} {enc:α->List Value} (L:dZ P t e k bytes enc) {ops:Array Oper} {rest:List Oper} {o:Oper} {a:Act} {Q:Exit->Act->World->Prop} {w W:World}
  (j6:o.guard=none) (s x:Operand) (iz:o.op=.call { callee:=.builtin .append,args:=#[s,x],argTypes:=#[t,t] })
  (base:Nat) (v:Value) (xs:List α) (y:α) (hs:a.eval s=v) (aa:aU w base e k enc v xs) (gh:aB w W) (n c:Nat) (hn:n=W.heap.size) (cs:Array Value) (dg:cs.toList=enc y)
  (hx:a.eval x=.slice (some ⟨n,0,none⟩) 1 c) (aj:(xs.length+1)*bytes<=140737488355328) (bj:base<=w.heap.size)
  (h:∀v' w',aU w' base e k enc v' (xs++[y])->(∀a0,aB a0 w->a0.heap.size<=base->aB a0 w')->(∀ {α:Type} {b2 k2:Nat} {e2:TypeId} {uz:α->List Value} {v2:Value} {ys:List α},e2≠e->aU w b2 e2 k2 uz v2 ys->aU w' b2 e2 k2 uz v2 ys)->wpList P ops Q rest (a.put o.dst v') w') :
  wpList P ops Q (o::rest) a (W.alloc (.cells cs e)):=by
 obtain⟨i,z,hi,hz,cj,i7,k9⟩:=L.info;have sd:xs.length+1<=140737488355328:=Ac (Ah _ L.by1) aj;have gw:aB w (W.alloc (.cells cs e)):=gh.al _;have ah:=dJ aa gw
 refine wpList_append_own _ j6 s x t iz base e i z k bytes L.sl hi hz cj i7 k9 L.pos v xs.length (xs.flatMap enc) hs ah ⟨n,0,none⟩ 1 c (enc y) hx (by rw[L.len,Nat.one_mul])
  (λj u hu=>dX hn j u (by rw[dg];exact hu)) (L.one y) (by unfold maxLen;omega) aj (Ac bj gw.size) ?_
 intro v' w' h1 h2 _;refine h v' w' ?_ (λa0 h0 hb=>(h0.tr gw).grown h2 (λq hq=>Ac hb (aX aa q hq))) (λak ho=>(ho.grows gw).other ah ak h2);unfold aU;rw[Ad,Ap,Af];simpa using h1
theorem yM {w:World} {base:Nat} {v:Value} {l:List UInt8} (h:aU w base 5 1 aV v l):(convert 67 9 v).run Tryz.prog w=.ok (.string (mkB l)) w:=by
 rcases h.2 with ⟨rfl,h0⟩|⟨g,cap,ct,rfl,hb,hh,hn,hc,hs,ht⟩
 ·obtain rfl:l=[]:=Aj h0
  exact Lib.run_convert_nil_bytes w _ _ 5 0 Tryz.underlying67 Tryz.underlying5 Tryz.underlying9
 ·have hz:(mkB l).size=l.length:=by rw[Bb,iR]
  have hB:Lib.Bytes w g 0 (mkB l):=λi hi=>by
   rw[hz]at hi;have hf:=qF (enc:=aV) (k:=1) (λ_=>rfl) l i 0 l[i] (.int .u8 l[i].toNat) (List.getElem?_eq_getElem hi) rfl;rw[<-ht,List.getElem?_take]at hf;split at hf
   ·unfold World.cell?
    simp only[hh,Option.isSome_none,Ag,if_false];rw[Ay];have hg:(mkB l)[i]'(by rw[hz];exact hi)=l[i]:=rfl;rw[hg];simpa using hf
   ·cases hf
  have:=Lib.run_convert_whole (P:=Tryz.prog) w 67 5 9 Tryz.underlying67 Tryz.underlying5 Tryz.underlying9 g 0 (mkB l) hB cap
  rw[hz]at this;exact this
theorem mH {α:Type} {enc:α->List Value} {k:Nat} (hk:∀x,(enc x).length=k):∀(ys:List α) (j:Nat) (u:Value),(ys.flatMap enc)[j]?=some u->∃i jj y,j=i*k+jj/\ys[i]?=some y/\(enc y)[jj]?=some u
 | [],j,u,h=>by simp at h
 | y::r,j,u,h=>by
  rw[Ar]at h;rcases Az j (enc y).length with af|yv
  ·rw[List.getElem?_append_left af]at h
   exact⟨0,j,y,by omega,rfl,h⟩
  ·rw[List.getElem?_append_right yv]at h
   obtain⟨i,jj,z,h1,h2,h3⟩:=mH hk r _ u h;refine⟨i+1,jj,z,?_,by simpa using h2,h3⟩;rw[hk]at yv h1;rw[Nat.succ_mul];omega
theorem tC {α:Type} {P:Program} {t e:TypeId} {k bytes:Nat} {enc:α->List Value} (L:dZ P t e k bytes enc) {ops:Array Oper} {rest:List Oper} {o:Oper} {a:Act} {Q:Exit->Act->World->Prop} {w W:World}
  (j6:o.guard=none) (s x:Operand) (iz:o.op=.call { callee:=.builtin .append,args:=#[s,x],argTypes:=#[t,t] })
  (base:Nat) (v:Value) (xs ys:List α) (hs:a.eval s=v) (aa:aU w base e k enc v xs) (gh:aB w W) (sa:Option Addr) (sc:Nat)
  (hx:a.eval x=.slice sa ys.length sc) (gj:aG W sa k (ys.map enc)) (gk:sa=none->sc=0) (aj:(xs.length+ys.length)*bytes<=140737488355328) (bj:base<=w.heap.size)
  (h:∀v' w',aU w' base e k enc v' (xs++ys)->(∀a0,aB a0 w->a0.heap.size<=base->aB a0 w')->wpList P ops Q rest (a.put o.dst v') w') :
  wpList P ops Q (o::rest) a W:=by
 obtain⟨i,z,hi,hz,cj,i7,k9⟩:=L.info;have sd:xs.length+ys.length<=140737488355328:=Ac (Ah _ L.by1) aj;have ah:=dJ aa gh
 cases sa with
 | none =>
  obtain rfl:=gk rfl
  have hy:ys=[]:=Decidable.byContradiction λak=>by
   have oq:ys.map enc≠[]:=by simpa using ak
   obtain⟨b,off,ha,_⟩:=gj oq;cases ha
  subst hy;refine wpList_append_own_none j6 s x t iz base e i k L.sl hi v xs.length (xs.flatMap enc) hs ah hx ?_;refine h v W ?_ (λa0 h0 _=>h0.tr gh);rw[Ao];exact ah
 | some ad =>
  refine wpList_append_own _ j6 s x t iz base e i z k bytes L.sl hi hz cj i7 k9 L.pos v xs.length (xs.flatMap enc) hs ah ad ys.length sc (ys.flatMap enc) hx (gB L.len ys)
   (λj u hu=>?_) (λu hu=>by obtain⟨y,_,hy⟩:=List.mem_flatMap.1 hu;exact L.one y u hy) (by unfold maxLen;omega) aj (Ac bj gh.size) ?_
  ·obtain⟨i',jj,y,h1,h2,h3⟩:=mH L.len ys j u hu
   have ak:ys.map enc≠[]:=by rintro e;rw[Ak]at e;subst e;simp at h2
   obtain⟨b,off,ha,hc⟩:=gj ak;obtain rfl:=Option.some.inj ha;have bk:=hc i' (enc y) (by rw[Al,h2];rfl) jj u h3;unfold Bc;by_cases h0:j=0
   ·subst h0
    have ms:i'*k=0/\jj=0:=by omega
    rw[if_pos rfl];rw[ms.1,ms.2]at bk;simpa using bk
   ·rw[if_neg h0]
    subst h1;rw[<-Aw];exact bk
  ·intro v' w' h1 h2 _
   refine h v' w' ?_ (λa0 h0 hb=>(h0.tr gh).grown h2 (λq hq=>Ac hb (aX aa q hq)));unfold aU;rw[Ad,Af];exact h1
theorem qE0 {α:Type} {enc:α->List Value} {k:Nat} {w:World} {e:TypeId} (base:Nat) (hb:base<=w.heap.size):aU (w.alloc (.cells #[] e)) base e k enc (.slice (some ⟨w.heap.size,0,none⟩) 0 0) []:=by
 refine⟨by simp,Or.inr ⟨w.heap.size,0,#[],rfl,hb,?_,Ai _,Nat.zero_le _,by simp,by simp⟩⟩;show (w.heap.push _)[w.heap.size]?=_
 simp
end
section
open Go Go.RowKit
attribute [local go_sem] aO
def tD:Nat->Nat->List UInt8
 | 0,_=>[]
 | f+1,n=>if n<128 then [Ab n] else Ab (n%128+128)::tD f (n/128)
def putU (n:Nat):List UInt8:=tD 10 n
theorem tZ:∀(f g n:Nat),n<128^f->f<=g->0<f->tD g n=tD f n
 | 0,_,_,_,_,h=>by omega
 | f+1,0,_,_,h,_=>by omega
 | f+1,g+1,n,h,gv,_=>by
  unfold tD;by_cases h1:n<128
  ·rw[if_pos h1,if_pos h1]
  ·rw[if_neg h1,if_neg h1]
   rw[Nat.pow_succ]at h;have h2:n/128<128^f:=Nat.div_lt_of_lt_mul (by rw[As];exact h);rcases Nat.eq_zero_or_pos f with h0|h0
   ·subst h0
    simp at h;omega
   ·rw[tZ f g (n/128) h2 (by omega) h0]
theorem kJ {n:Nat} (h:n<128):putU n=[Ab n]:=by unfold putU tD; rw[if_pos h]
theorem gQ1 {n:Nat} (h:128<=n) (hn:n<128^9):putU n=Ab (n%128+128)::putU (n/128):=by
 have h1:putU n=Ab (n%128+128)::tD 9 (n/128):=by
  show (if n<128 then [Ab n] else Ab (n%128+128)::tD 9 (n/128))=_
  rw[if_neg (by omega)]
 have h2:n/128<128^9:=Nat.lt_of_le_of_lt (Nat.div_le_self _ _) hn;rw[h1];unfold putU;rw[tZ 9 10 (n/128) h2 (by omega) (by omega)]
theorem kX0:∀(f n:Nat),(tD f n).length<=f
 | 0,_=>by simp[tD]
 | f+1,n=>by
  unfold tD;split
  ·simp
  ·have:=kX0 f (n/128)
   simp only[An];omega
theorem cK (n:Nat):(putU n).length<=10:=kX0 10 n
theorem oL1:∀x:Fin 256,bits BinOp.or .u8 (x.val:Int) 128=((x.val%128+128:Nat):Int):=by decide +kernel
theorem jF0 (k:Nat):bits BinOp.or .u8 ((k:Int)%256) 128=((Ab (k%128+128)).toNat:Int):=by
 have h:=oL1 ⟨k%256,Bd _ (by decide)⟩;have e:(((⟨k%256,Bd _ (by decide)⟩:Fin 256).val:Nat):Int)=(k:Int)%256:=by simp
 rw[e]at h;rw[h,Ae];simp only;omega
theorem xA0 {k:Nat} (h:k<128):Value.int .u8 (k:Int)=.int .u8 ((Ab k).toNat:Int):=by
 rw[Ae];congr 1;omega
def Src (w:World) (base:Nat) (v:Value) (xs:List UInt8):Prop :=
 aU w base 5 1 aV v xs\/∃a,v=.slice a xs.length xs.length/\aG w a 1 (xs.map aV)/\(a=none->xs=[])
theorem eO0 {ops:Array Oper} {rest:List Oper} {o:Oper} {a:Act} {Q:Exit->Act->World->Prop} {w W:World}
  (j6:o.guard=none) (s x:Operand) (iz:o.op=.call { callee:=.builtin .append,args:=#[s,x],argTypes:=#[67,67] })
  (base:Nat) (v:Value) (xs:List UInt8) (y:UInt8) (hs:a.eval s=v) (aa:Src w base v xs) (gh:aB w W) (n c:Nat) (hn:n=W.heap.size) (cs:Array Value) (dg:cs.toList=aV y)
  (hx:a.eval x=.slice (some ⟨n,0,none⟩) 1 c) (aj:xs.length+1<=140737488355328) (bj:base<=w.heap.size)
  (h:∀v' w',aU w' base 5 1 aV v' (xs++[y])->(∀a0,aB a0 w->a0.heap.size<=base->aB a0 w')->wpList Tryz.prog ops Q rest (a.put o.dst v') w') :
  wpList Tryz.prog ops Q (o::rest) a (W.alloc (.cells cs 5)):=by
 rcases aa with aa|⟨b,rfl,ac,gk⟩
 ·exact nR0 bI j6 s x iz base v xs y hs aa gh n c hn cs dg hx (by omega) bj h
 ·obtain⟨i,z,hi,hz,cj,i7,k9⟩:=bI.info
  have gw:aB w (W.alloc (.cells cs 5)):=gh.al _
  refine wpList_append_grows _ j6 s x _ iz 5 i z 1 1 bI.sl hi hz cj i7 k9 (by decide) b xs.length xs.length (xs.flatMap aV) hs (λhb=>by rw[gk hb];exact⟨rfl,rfl⟩) (gB bI.len xs) (λad had j u hu=>?_)
   ⟨n,0,none⟩ 1 c (aV y) hx rfl (λj u hu=>dX hn j u (by rw[dg];exact hu)) (bI.one y) (by omega) (by unfold maxLen;omega) (by omega) ?_
  ·obtain⟨i',jj,y',h1,h2,h3⟩:=mH bI.len xs j u hu
   have ak:xs.map aV≠[]:=by rintro e;rw[Ak]at e;subst e;simp at h2
   obtain⟨b',off,ha,hc⟩:=ac ak;rw[had]at ha;obtain rfl:=Option.some.inj ha;have bk:=hc i' (aV y') (by rw[Al,h2];rfl) jj u h3
   have:(⟨b',off,none⟩:Addr).add j=⟨b',off+i'*1+jj,none⟩:=by
    unfold Bc;by_cases h0:j=0
    ·subst h0
     have ms:i'=0/\jj=0:=by omega
     simp[ms.1,ms.2]
    ·simp[h0];omega
   rw[this];exact gw.cell bk
  ·intro v' w' h1 h2
   refine h v' w' ?_ (λa0 h0 hb=>(h0.tr gw).grown h2 (λq hq=>by cases hq))
   have h3:w'.ownsRow (W.alloc (.cells cs 5)).heap.size 5 1 v' (xs++[y]).length ((xs++[y]).flatMap aV):=by
    rw[Ad,Ap,Af];simpa using h1
   exact vV h3 (Ac bj gw.size)
theorem cF {α:Type} {w:World} {base:Nat} {e:TypeId} {k:Nat} {enc:α->List Value} {a:Option Addr} {n c:Nat} {xs:List α} (h:aU w base e k enc (.slice a n c) xs):a=none->c=0:=by
 intro ha;rcases h.2 with ⟨h1,_⟩|⟨g,cap,ct,h1,_⟩
 ·have:a=none/\n=0/\c=0:=by simpa using h1
  exact this.2.2
 ·rw[ha]at h1;simp at h1
theorem iJ0 (xs:List UInt8) (a:Option Addr) (c:Nat) (w:World) (hx:xs.length<=1099511627776) (ac:aG w a 1 (xs.map aV)) (hn:a=none->c=0) :
  Calls Tryz.prog 220 #[.slice a xs.length c] w λe w'=>∃v,e=.returned v/\aU w' w.heap.size 5 1 aV v xs/\aB w w':=by
 have HAT:=Av ac
 cases a with
 | none =>
  obtain rfl:=hn rfl
  have j4:xs=[]:=Decidable.byContradiction λak=>by
   obtain⟨b,off,h,_⟩:=ac (by simpa using ak);cases h
  subst j4;have hq:=λw=>Aq (P:=Tryz.prog) w 67 5 none 0 0 0 0 Tryz.underlying67;clear ac hn HAT;go_enter Tryz.func220,Tryz.ntmps220
  go_wp2_with fail
  go_ret;exact⟨_,rfl,aU.nil _ _ _ _ _,aB.refl _⟩
 | some ad =>
  have hq:=λw=>Aq (P:=Tryz.prog) w 67 5 (some ad) xs.length c 0 0 Tryz.underlying67;clear ac hn;go_enter Tryz.func220,Tryz.ntmps220
  have HSRC:=Av (HAT.out.grows (aB.alloc w (.cells #[] 5)));go_wp2_with (at_builtin;refine tC bI rfl _ _ rfl w.heap.size _ [] xs rfl (qE0 w.heap.size (Ai _)) (aB.refl _) (some ad) c rfl HSRC.out (λh=>by cases h) (by simp;omega) (by simp) ?_;intro v' w3 av aw)
  go_ret;rw[Au]at av;exact⟨_,rfl,av,aw w (aB.alloc _ _) (Ai _)⟩
theorem qG0 (xs:List UInt8) (a:Option Addr) (c:Nat) (w:World) (hc:xs.length<=c) :
  Calls Tryz.prog 219 #[.slice a xs.length c] w λe w'=>e=.returned (.slice a xs.length xs.length)/\w=w':=by
 go_enter Tryz.func219,Tryz.ntmps219
 go_wp2_with fail
 go_ret;exact⟨rfl,rfl⟩
theorem kP (xs:List UInt8) (a:Option Addr) (c n:Nat) (w:World) (hx:xs.length<=1099511627776) (hv:n<=1048576) (ac:aG w a 1 (xs.map aV)) (hn:a=none->c=0) :
  Calls Tryz.prog 172 #[.slice a xs.length c,.int .u64 n] w λe w'=>∃v,e=.returned v/\aU w' w.heap.size 5 1 aV v (xs++putU n)/\aB w w':=by
 have CC:=Av (iJ0 xs a c w hx ac hn);clear ac hn;go_enter Tryz.func172,Tryz.ntmps172
 go_wp2_with fail
 refine CC.out.mono ?_;rintro e w1 ⟨v1,rfl,ay,ai⟩;obtain⟨a1,c1,rfl,zv,h12,cw⟩:=ay.at_ bI.len;have jl:=cF ay;go_wp2_with fail
 refine(qG0 xs a1 c1 w1 zv).mono ?_;rintro e w2 ⟨rfl,rfl⟩;have gj:Src w1 w.heap.size (.slice a1 xs.length xs.length) xs:=Or.inr ⟨a1,rfl,cw,λh=>Aj (by have:=jl h;omega)⟩;clear ay cw jl CC;go_wp2_with fail
 go_loopw [0,1] (λb v wr=>∃(k:Nat) (pre:List UInt8),v=.int .u64 k/\Src wr w.heap.size b (xs++pre)/\Hid (pre++putU k=putU n)/\k<=1048576/\aB w wr) (λ_ v _=>(intOf v).toNat)
 case atStart=>exact⟨n,[],rfl,by rw[Ao];exact gj,rfl,hv,ai⟩
 case round =>
  obtain⟨k,pre,rfl,hs,hp,hk,hg⟩:=hrel
  have ou:pre.length<=10:=by
   have h1:=congrArg List.length hp.out;have h2:=cK n;rw[Ad]at h1;omega
  by_cases acl:128<=k
  ·have cz:(128:Int)<=k:=by omega
   have hb:=Av (jF0 k);rw[gQ1 acl (by omega)]at hp;go_wp2_with (at_builtin;refine eO0 rfl _ _ rfl w.heap.size _ (xs++pre) (Ab (k%128+128)) rfl hs (aB.refl _) _ 1 rfl _ (by rw[hb.out];rfl) rfl (by rw[Ad];omega) hg.size ?_;intro v' w5 au bi)
   go_roundw
   case rel=>exact⟨k/128,pre++[Ab (k%128+128)],by go_num,Or.inl (by rw[<-Am];exact au),by show (pre++[_])++putU (k/128)=putU n;rw[Am];exact hp.out,by omega,bi w hg (Ai _)⟩
   case measure=>simp[intOf];omega
  ·have cz:¬(128:Int)<=k:=by omega
   have hb:=Av (xA0 (k:=k) (by omega));rw[kJ (by omega)]at hp;go_wp2_with (at_builtin;refine eO0 rfl _ _ rfl w.heap.size _ (xs++pre) (Ab k) rfl hs (aB.refl _) _ 1 rfl _ (by rw[hb.out];rfl) rfl (by rw[Ad];omega) hg.size ?_;intro v' w5 au bi)
   go_ret;refine⟨_,rfl,?_,bi w hg (Ai _)⟩;rw[<-hp.out,<-Am];exact au
end
section
open Go Go.RowKit
def EB (B:Nat) (w w':World):Prop:=Below B w w'/\w.heap.size<=w'.heap.size
theorem EB.refl (B:Nat) (w:World):EB B w w:=⟨Below.refl _ _,Ai _⟩
theorem EB.trans (B:Nat) (a b c:World) (h:EB B a b) (k:EB B b c):EB B a c:=⟨Below.trans h.1 k.1,Ac h.2 k.2⟩
instance (B:Nat) (w:World):Nonempty (Ext (EB B) w):=⟨⟨w,EB.refl B w⟩⟩
theorem EB.of {B:Nat} {w w':World} (h:aB w w') (hB:B<=w.heap.size):EB B w w':=⟨Below.mono h hB,h.size⟩
theorem EB.grows {a w w':World} (h:aB a w) (k:EB a.heap.size w w'):aB a w':=Below.trans h k.1
theorem app_many_wp {α:Type} {P:Program} {t e:TypeId} {k bytes:Nat} {enc:α->List Value} (L:dZ P t e k bytes enc) {o:Oper} {a:Act} {Q:Exit->Act->World->Prop} {w W:World} {Next:Act->World->Prop}
  (s x:Operand) (iz:o.op=.call { callee:=.builtin .append,args:=#[s,x],argTypes:=#[t,t] })
  (base:Nat) (v:Value) (xs ys:List α) (hs:a.eval s=v) (aa:aU w base e k enc v xs) (gh:aB w W) (sa:Option Addr) (sc:Nat)
  (hx:a.eval x=.slice sa ys.length sc) (gj:aG W sa k (ys.map enc)) (gk:sa=none->sc=0) (aj:(xs.length+ys.length)*bytes<=140737488355328) (bj:base<=w.heap.size)
  (h:∀v' w',aU w' base e k enc v' (xs++ys)->EB base W w'->Next (a.put o.dst v') w') :
  o.wp P a W Next Q:=by
 obtain⟨i,z,hi,hz,cj,i7,k9⟩:=L.info;have sd:xs.length+ys.length<=140737488355328:=Ac (Ah _ L.by1) aj;have ah:=dJ aa gh
 cases sa with
 | none =>
  obtain rfl:=gk rfl
  have hy:ys=[]:=Decidable.byContradiction λak=>by
   have oq:ys.map enc≠[]:=by simpa using ak
   obtain⟨b,off,ha,_⟩:=gj oq;cases ha
  subst hy;have i6:=run_append_owned_none (P:=P) (w:=W) base t o.type e i k L.sl hi v xs.length (xs.flatMap enc) ah;have i5:a.eval x=.slice none 0 0:=hx;unfold Oper.wp;simp[execOp,iz,resolve,invoke,builtin,hs,i5,i6,Result.andThen];refine h v W ?_ (EB.refl _ _);rw[Ao];exact ah
 | some ad =>
  obtain⟨v',w',i6,h1,h2,_⟩:=run_append_own (P:=P) W base t o.type e i z k bytes L.sl hi hz cj i7 k9 L.pos v xs.length (xs.flatMap enc) ah ad ys.length sc (ys.flatMap enc) (gB L.len ys)
   (λj u hu=>by
    obtain⟨i',jj,y,h1,h2,h3⟩:=mH L.len ys j u hu;have ak:ys.map enc≠[]:=by rintro e;rw[Ak]at e;subst e;simp at h2
    obtain⟨b,off,ha,hc⟩:=gj ak;obtain rfl:=Option.some.inj ha;have bk:=hc i' (enc y) (by rw[Al,h2];rfl) jj u h3;unfold Bc;by_cases h0:j=0
    ·subst h0
     have ms:i'*k=0/\jj=0:=by omega
     rw[if_pos rfl];rw[ms.1,ms.2]at bk;simpa using bk
    ·rw[if_neg h0]
     subst h1;rw[<-Aw];exact bk)
   (λu hu=>by obtain⟨y,_,hy⟩:=List.mem_flatMap.1 hu;exact L.one y u hy) (by unfold maxLen;omega) aj (Ac bj gh.size)
  unfold Oper.wp;simp[execOp,iz,resolve,invoke,builtin,hs,hx,i6,Result.andThen];refine h v' w' ?_ ⟨?_,h2.size⟩
  ·unfold aU
   rw[Ad,Af];exact h1
  ·exact Below.grown (Below.refl _ _) h2 (Ac bj gh.size) (λq hq=>aX ah q hq)
end
section
open Go Go.RowKit
section
variable {P:Program} {ops:Array Oper} {Q:Exit->Act->World->Prop} {md:Region.Mode} {E:World->World->Prop} {fin:Act->World->Prop}
def aM (P:Program) (o:Oper) (a:Act) (E:World->World->Prop) (w:World) (next:Act->Prop):Prop :=
 ∃v,(∀w2,(∃x:Ext E w,w2=x.u)->o.quietAt P a (λw3=>w3=w2) w2 v)/\next (a.put o.dst v)
def gR (P:Program) (ops:Array Oper) (E:World->World->Prop) (Q:Exit->Act->World->Prop) (fin:Act->World->Prop):List (Nat×Bool)->Act->World->Prop
 | [],a,w=>fin a w
 | (i,late)::rest,a,w=>match ops[i]? with
  | none=>False
  | some o=>if Region.wanted o (yielded ops a.tmps) then
    (if late then o.wp P a w (λa' w'=>E w w'/\gR P ops E Q fin rest a' w') Q else aM P o a E w (λa'=>gR P ops E Q fin rest a' w))
   else gR P ops E Q fin rest (a.put o.dst undef) w
def iI (P:Program) (md:Region.Mode) (ops:Array Oper) (Q:Exit->Act->World->Prop) (E:World->World->Prop):Nat->Array Bool->Act->World->Prop
 | 0,listed,a,w=>Region.ready md ops listed=[]/\Q .normal a w
 | bu+1,listed,a,w =>
  (Region.ready md ops listed=[]->Q .normal a w) /\
  ∀i∈Region.ready md ops listed,wpOp P ops Q i (λa' w'=>(E w w'/\iI P md ops Q E bu (listed.setIfInBounds i true) a' w')\/(iI0 md ops i=true/\wpAny P md ops Q bu (listed.setIfInBounds i true) a' w')) a w
theorem iW:∀(bu:Nat) (listed:Array Bool) (a:Act) (w:World),iI P md ops Q E bu listed a w->wpAny P md ops Q bu listed a w
 | 0,_,_,_,h=>⟨h.1,h.2⟩
 | bu+1,_,_,_,h=>⟨λh0=>h.1 h0,λi hi=>wpOp_mono (λa' w' h'=>h'.elim (λh'=>iW bu _ a' w' h'.2) (λh'=>h'.2)) (h.2 i hi)⟩
def eY (P:Program) (ops:Array Oper) (E:World->World->Prop) (o:Oper) (v:Value) (a:Act) (w:World):Prop :=
 (Region.wanted o (yielded ops a.tmps)=true/\∀w2,(∃x:Ext E w,w2=x.u)->o.quietAt P a (λw3=>w3=w2) w2 v) \/
 (Region.wanted o (yielded ops a.tmps)=false/\v=undef)
theorem eY.later (ht:∀a b c,E a b->E b c->E a c) {o:Oper} {v:Value} {a:Act} {w w':World} (hw:E w w') (h:eY P ops E o v a w):eY P ops E o v a w' :=
 h.imp (λ⟨h1,h2⟩=>⟨h1,λw2 ⟨x,hx⟩=>h2 w2 ⟨⟨x.u,ht _ _ _ hw x.h⟩,hx⟩⟩) id
theorem eY.of_same {o:Oper} {v:Value} {a a':Act} {w:World} (hy:eY P ops E o v a w) (he:execOp a'.eval o=execOp a.eval o)
  (hw:Region.wanted o (yielded ops a'.tmps)=Region.wanted o (yielded ops a.tmps)):eY P ops E o v a' w:=by
 unfold eY Oper.quietAt at *;rw[he,hw];exact hy
theorem bV0 {o:Oper} {v:Value} {a:Act} {w:World} {K:Act->World->Prop} (h:o.quietAt P a (λw3=>w3=w) w v) (hk:K (a.put o.dst v) w):o.wp P a w K Q:=by
 unfold Oper.quietAt at h;unfold Oper.wp;generalize (execOp a.eval o).run P w=r at *
 cases r with
 | ok n w' =>
  cases n<;>simp only[Oper.quietUpon]at h<;>simp only[Oper.upon]
  case value u =>
   obtain⟨e1,e2⟩:=h;rw[e1,e2];exact hk
  case skip =>
   obtain⟨e1,e2⟩:=h;rw[e1,<-e2];exact hk
  case enter f args =>
   obtain⟨e1,hc⟩:=h;rw[e1];exact hc.mono λe mi ⟨he,hy⟩=>by subst he;subst hy;exact hk
 | halt x w'=>simp only[Oper.quietUpon]at h
theorem eY.wpOp {i:Nat} {o:Oper} {v:Value} {a:Act} {w:World} (hr:E w w) (hi:ops[i]?=some o) (hy:eY P ops E o v a w)
  {K:Act->World->Prop} (h:K (a.put o.dst v) w):wpOp P ops Q i K a w:=by
 unfold Go.wpOp;simp only[hi];rcases hy with ⟨hw,hv⟩|⟨hw,rfl⟩
 ·simp only[hw,if_true];exact .inl (bV0 (hv w ⟨⟨w,hr⟩,rfl⟩) h)
 ·simp only[hw,Ag,if_false];exact h
theorem uI0 {j:Nat} {oi oj:Oper} {v:Value} (hj:ops[j]?=some oj) (hap:oi.apart ops oj=true)
  (hsi:∀cs b,oi.op ≠ .select cs b) (hsj:∀cs b,oj.op ≠ .select cs b)
  (hQ:∀d v c a w,Q (.panic c) (a.put d v) w->Q (.panic c) a w) {K:Act->World->Prop} {a:Act} {w wb:World}
  (hy:eY P ops E oi v a wb) (h:wpOp P ops Q j K (a.put oi.dst v) w) :
  wpOp P ops Q j (λa' w'=>eY P ops E oi v a' wb/\K (a'.put oi.dst v) w') a w:=by
 obtain⟨h1,h2,h3⟩:=Oper.apart_spec hap
 have keep:∀(a:Act),eY P ops E oi v a wb->∀u,eY P ops E oi v (a.put oj.dst u) wb:=λa hy u =>
  hy.of_same (execOp_put oi hsi a oj.dst u h3) (wanted_put oi a oj.dst u h3)
 have ui:∀d,eY P ops E oi v { a with defers:=d::a.defers } wb:=λd=>hy.of_same rfl rfl
 unfold wpOp at *;simp only[hj] at *;rw[wanted_put oj a oi.dst v h1]at h;split
 ·rename_i hw
  simp only[hw,if_true]at h;rcases h with h|⟨n5,uj⟩
  case inr=>exact .inr ⟨by unfold Oper.asks at *;rw[execOp_put oj hsj a oi.dst v h1]at n5;exact n5,uj⟩
  refine .inl ?_;unfold Oper.wp at *;rw[execOp_put oj hsj a oi.dst v h1]at h;generalize (execOp a.eval oj).run P w=r at *
  cases r with
  | ok n w' =>
   cases n<;>simp only[Oper.upon]at h ⊢
   case value u=>exact⟨keep a hy u,by rw[<-Act.put_comm a v u h2];exact h⟩
   case skip=>exact⟨keep a hy _,by rw[<-Act.put_comm a v undef h2];exact h⟩
   case defer d =>
    refine⟨keep _ (ui d) _,?_⟩;rw[<-Act.put_comm _ v undef h2,<-Act.put_defers];exact h
   case enter f args =>
    refine Calls.mono h λe mi he=>?_
    cases e with
    | returned u=>exact⟨keep a hy u,by rw[<-Act.put_comm a v u h2];exact he⟩
    | panicked c=>exact hQ _ _ _ _ _ he
    | outgrown=>exact he
   case row row args=>exact Rows.mono h λu mi he=>⟨keep a hy u,by rw[<-Act.put_comm a v u h2];exact he⟩
  | halt x w' =>
   cases x<;>simp only[Oper.upon]at h ⊢
   case panic u=>exact hQ _ _ _ _ _ h
 ·rename_i hw
  simp only[hw]at h;exact⟨keep a hy _,by rw[<-Act.put_comm a v undef h2];exact h⟩
theorem jZ (hr:∀w,E w w) (ht:∀a b c,E a b->E b c->E a c) {i:Nat} {oi:Oper} {v:Value} (hi:ops[i]?=some oi) (uk:∀(j:Nat) (o:Oper) cs b,ops[j]?=some o->o.op ≠ .select cs b)
  (hQ:∀d v c a w,Q (.panic c) (a.put d v) w->Q (.panic c) a w) :
  ∀(bu:Nat) (listed:Array Bool) (a:Act) (w:World),kV md ops listed ->
   (∀j oj,ops[j]?=some oj->j≠i->listed.getD j true=false->(∀e∈oj.after,Region.binds md e=true->e.on≠i)->oi.apart ops oj=true) ->
   i∈Region.ready md ops listed->eY P ops E oi v a w ->
   iI P md ops Q E bu (listed.setIfInBounds i true) (a.put oi.dst v) w->iI P md ops Q E (bu+1) listed a w:=by
 intro bu
 induction bu with
 | zero =>
  intro listed a w _ _ dv hy H;refine⟨λh=>(by rw[h]at dv;cases dv),λj hj=>?_⟩;by_cases im:j=i
  ·subst im;exact hy.wpOp (hr _) hi (.inl ⟨hr _,H⟩)
  ·have:=ready_mono hj im
   rw[H.1]at this;cases this
 | succ bu ih =>
  intro listed a w cr n8 dv hy H;refine⟨λh=>(by rw[h]at dv;cases dv),λj hj=>?_⟩;by_cases im:j=i
  ·subst im;exact hy.wpOp (hr _) hi (.inl ⟨hr _,H⟩)
  ·have h1:=H.2 j (ready_mono hj im)
   obtain⟨ul,oj,hoj,bg⟩:=mem_ready.1 hj
   have ace:∀e∈oj.after,Region.binds md e=true->e.on≠i:=λe he hb yo=>by
    have h1:=bg e he hb;have h0:=(mem_ready.1 dv).1;rw[yo]at h1;rcases Az i listed.size with h'|h'
    ·simp[h']at h0 h1;rw[h0]at h1;cases h1
    ·simp[Array.getElem?_eq_none h']at h1
   have h2:=uI0 hoj (n8 j oj hoj im ul ace) (λcs b=>uk i oi cs b hi) (λcs b=>uk j oj cs b hoj) hQ hy h1
   have py:∀k ok,ops[k]?=some ok->k≠i->(listed.setIfInBounds j true).getD k true=false ->
     (∀e∈ok.after,Region.binds md e=true->e.on≠i)->oi.apart ops ok=true:=λk ok hk cz hun n9=>by
    refine n8 k ok hk cz ?_ n9;by_cases mj:j=k
    ·subst mj;exact ul
    ·rw[getD_set_ne true mj]at hun;exact hun
   refine wpOp_mono (λa' w' h3=>?_) h2;rcases h3.2 with h4|h4
   ·refine .inl ⟨h4.1,ih (listed.setIfInBounds j true) a' w' (dB cr hj) py (ready_mono dv (Ne.symm im)) (h3.1.later ht h4.1) ?_⟩
    rw[Array.setIfInBounds_comm _ _ im];exact h4.2
   ·exact(sZ cr dv hj im h4.1).elim
theorem eC (hr:∀w,E w w) (ht:∀a b c,E a b->E b c->E a c) (hs:Region.noSelect ops=true)
  (hQ:∀d v c a w,Q (.panic c) (a.put d v) w->Q (.panic c) a w) {g k:Nat}
  (ax:∀listed a w,Region.seqB md ops g k listed=true->fin a w->iI P md ops Q E g listed a w) :
  ∀(l:List (Nat×Bool)) (listed:Array Bool) (a:Act) (w:World),kV md ops listed->cN1 md ops g k l listed=true->gR P ops E Q fin l a w->iI P md ops Q E (l.length+g) listed a w
 | [],listed,a,w,_,hB,h=>by rw[List.length_nil,Ay];exact ax listed a w hB h
 | (i,false)::rest,listed,a,w,cr,hB,h=>by
  simp only[cN1,Aa]at hB;obtain⟨⟨dv,hf⟩,pg⟩:=hB;have gu:i∈Region.ready md ops listed:=by simpa using dv
  unfold gR at h;rw[An,show rest.length+1+g=(rest.length+g)+1 by omega]
  split at h
  ·exact h.elim
  ·rename_i o ho
   split at h
   ·rename_i hw
    simp only[Ag,if_false]at h;obtain⟨v,hv,hk⟩:=h;exact jZ hr ht ho (Region.noSelect_spec hs) hQ _ listed a w cr (Region.free_spec ho hf) gu (.inl ⟨hw,hv⟩) (eC hr ht hs hQ ax rest _ _ _ (dB cr gu) pg hk)
   ·rename_i hw
    exact jZ hr ht ho (Region.noSelect_spec hs) hQ _ listed a w cr (Region.free_spec ho hf) gu (.inr ⟨by simpa using hw,rfl⟩) (eC hr ht hs hQ ax rest _ _ _ (dB cr gu) pg h)
 | (i,true)::rest,listed,a,w,cr,hB,h=>by
  simp only[cN1,Aa,decide_eq_true_eq]at hB;obtain⟨dv,pg⟩:=hB;rw[An,show rest.length+1+g=(rest.length+g)+1 by omega]
  refine⟨λh0=>(by rw[h0]at dv;cases dv),λj hj=>?_⟩;have pj:=hj;rw[dv]at hj;have im:j=i:=by simpa using hj
  subst im;unfold gR at h;unfold wpOp;split at h
  ·exact h.elim
  ·rename_i o ho
   simp only[ho];split at h
   ·rename_i hw
    simp only[hw,if_true]at h ⊢;exact .inl (Oper.wp_mono (λa' w' h' => .inl ⟨h'.1,eC hr ht hs hQ ax rest _ _ _ (dB cr pj) pg h'.2⟩) h)
   ·rename_i hw
    simp only[hw] at ⊢;exact .inl ⟨hr _,eC hr ht hs hQ ax rest _ _ _ (dB cr pj) pg h⟩
theorem bS0 (E:World->World->Prop) (l:List (Nat×Bool)) {id:Nat} {a:Act} {w:World} (hr:∀w,E w w) (ht:∀a b c,E a b->E b c->E a c)
  (hm:P.follows .mixedOrders=true) (hB:rC ops l=true)
  (hQ:∀d v c a w,Q (.panic c) (a.put d v) w->Q (.panic c) a w) (h:gR P ops E Q (Q .normal) l a w.drew):(Code.region id ops true).wp P Q a w:=by
 simp only[rC,Aa,decide_eq_true_eq]at hB;obtain⟨⟨hs,hl⟩,hB⟩:=hB
 have:=eC (md:=.any) (g:=0) (k:=0) hr ht hs hQ (λlisted a w hB h=>⟨by simpa [Region.seqB] using hB,h⟩) l _ a w.drew (fQ _ _) hB h
 rw[Ba,hl]at this;exact wp_region_any hm (iW _ _ _ _ this)
theorem zW (E:World->World->Prop) (k:Nat) (l:List (Nat×Bool)) {id:Nat} {L:List Oper} {a:Act} {w:World} (hr:∀w,E w w) (ht:∀a b c,E a b->E b c->E a c)
  (hm:P.follows .mixedOrders=true) (hB:jY L.toArray k l=true)
  (hQ:∀d v c a w,Q (.panic c) (a.put d v) w->Q (.panic c) a w) (h:gR P L.toArray E Q (wpList P L.toArray Q (L.drop k)) l a w.drew):(Code.region id L.toArray true).wp P Q a w:=by
 simp only[jY,Aa,decide_eq_true_eq]at hB;obtain⟨⟨⟨⟨hs,hl⟩,hk⟩,nj⟩,hB⟩:=hB;have j3:(L.drop k).length=L.toArray.size-k:=by simp
 have:=eC (P:=P) (Q:=Q) (md:=.any) (ops:=L.toArray) (fin:=wpList P L.toArray Q (L.drop k)) (g:=L.toArray.size-k) (k:=k) hr ht hs hQ (λlisted a w hB h=>by
  obtain⟨g,hg⟩:∃g,L.toArray.size-k=g+1:=⟨L.toArray.size-k-1,by omega⟩
  have dv:Region.ready .any L.toArray listed=[k]:=by
   rw[hg]at hB;simp only[Region.seqB,Aa,decide_eq_true_eq]at hB;exact hB.1
  have bg:=wpAny_of_seq (md:=.any) (Q':=Q) (L.drop k) k listed a w (λj=>by simp[List.getElem?_drop]) (by rw[j3];exact hB) h;rw[hg];refine⟨λh0=>(by rw[h0]at dv;cases dv),λj hj=>?_⟩;have h1:=bg;rw[j3,hg]at h1;have mj:j=k:=by rw[dv]at hj;simpa using hj
  subst mj;exact wpOp_mono (λa' w' h' => .inr ⟨nj,h'⟩) (h1.2 j hj)) l _ a w.drew (fQ _ _) hB h
 rw[hl,show k+(L.toArray.size-k)=L.toArray.size by omega]at this
 exact wp_region_any hm (iW _ _ _ _ this)
theorem rN0 {i:Nat} {rest:List (Nat×Bool)} {a:Act} {w:World} {o:Oper} (ho:ops[i]?=some o)
  (h:∀K:Act->Prop,(∀a,gR P ops E Q fin rest a w->K a)->if Region.wanted o (yielded ops a.tmps) then aM P o a E w K else K (a.put o.dst undef)):gR P ops E Q fin ((i,false)::rest) a w:=by
 unfold gR;simp only[ho];exact h _ (λ_ h=>h)
theorem xV0 {i:Nat} {rest:List (Nat×Bool)} {a:Act} {w:World} {o:Oper} (ho:ops[i]?=some o)
  (h:∀K:Act->World->Prop,(∀a w,gR P ops E Q fin rest a w->K a w)->if Region.wanted o (yielded ops a.tmps) then o.wp P a w (λa' w'=>E w w'/\K a' w') Q else K (a.put o.dst undef) w):gR P ops E Q fin ((i,true)::rest) a w:=by
 unfold gR;simp only[ho];exact h _ (λ_ _ h=>h)
theorem nP0 {i:Nat} {rest:List (Nat×Bool)} {a:Act} {w:World} {o:Oper} (ho:ops[i]?=some o) (hw:Region.wanted o (yielded ops a.tmps)=true)
  (h:∀K:Act->World->Prop,(∀a w,gR P ops E Q fin rest a w->K a w)->o.wp P a w (λa' w'=>E w w'/\K a' w') Q):gR P ops E Q fin ((i,true)::rest) a w :=
 xV0 ho λK hK=>by rw[if_pos hw];exact h K hK
theorem wW0 {i:Nat} {b:Bool} {rest:List (Nat×Bool)} {a:Act} {w:World} {o:Oper} (ho:ops[i]?=some o) (hw:Region.wanted o (yielded ops a.tmps)=false)
  (h:gR P ops E Q fin rest (a.put o.dst undef) w):gR P ops E Q fin ((i,b)::rest) a w:=by
 unfold gR;simp only[ho,hw,Ag,if_false];exact h
theorem ord_end2 {a:Act} {w:World} (h:fin a w):gR P ops E Q fin [] a w:=h
structure rU0 (P:Program) (ops:Array Oper) (E:World->World->Prop) (Q:Exit->Act->World->Prop) (fin:Act->World->Prop) (l:List (Nat×Bool)) (a:Act) (w:World):Prop where
 out:gR P ops E Q fin l a w
theorem lK (E:World->World->Prop) (l:List (Nat×Bool)) {id:Nat} {a:Act} {w:World} (hr:∀w,E w w) (ht:∀a b c,E a b->E b c->E a c)
 (hm:P.follows .mixedOrders=true) (hB:rC ops l=true)
 (hQ:∀d v c a w,Q (.panic c) (a.put d v) w->Q (.panic c) a w) (h:rU0 P ops E Q (Q .normal) l a w.drew):(Code.region id ops true).wp P Q a w:=bS0 E l hr ht hm hB hQ h.out
theorem pV0 {P:Program} {Q:Exit->Act->World->Prop} (E:World->World->Prop) (k:Nat) (l:List (Nat×Bool)) {id:Nat} {L:List Oper} {a:Act} {w:World} (hr:∀w,E w w) (ht:∀a b c,E a b->E b c->E a c)
 (hm:P.follows .mixedOrders=true) (hB:jY L.toArray k l=true)
 (hQ:∀d v c a w,Q (.panic c) (a.put d v) w->Q (.panic c) a w) (h:rU0 P L.toArray E Q (wpList P L.toArray Q (L.drop k)) l a w.drew):(Code.region id L.toArray true).wp P Q a w:=zW E k l hr ht hm hB hQ h.out
theorem bH (l:List (Nat×Bool)) {id:Nat} {a:Act} {w:World} (hB:(P.follows .mixedOrders&&rC ops l)=true)
  (hQ:∀d v c a w,Q (.panic c) (a.put d v) w->Q (.panic c) a w) (h:rU0 P ops aB Q (Q .normal) l a w.drew):(Code.region id ops true).wp P Q a w :=
 lK aB l aB.refl aB.trans (Bool.and_eq_true_iff.1 hB).1 (Bool.and_eq_true_iff.1 hB).2 hQ h
theorem oV {P:Program} {Q:Exit->Act->World->Prop} (k:Nat) (l:List (Nat×Bool)) {id:Nat} {L:List Oper} {a:Act} {w:World}
  (hB:(P.follows .mixedOrders&&jY L.toArray k l)=true)
  (hQ:∀d v c a w,Q (.panic c) (a.put d v) w->Q (.panic c) a w) (h:rU0 P L.toArray aB Q (wpList P L.toArray Q (L.drop k)) l a w.drew):(Code.region id L.toArray true).wp P Q a w :=
 pV0 aB k l aB.refl aB.trans (Bool.and_eq_true_iff.1 hB).1 (Bool.and_eq_true_iff.1 hB).2 hQ h
theorem aH {i:Nat} {rest:List (Nat×Bool)} {a:Act} {w:World} {o:Oper} (ho:ops[i]?=some o)
  (h:∀K:Act->Prop,(∀a,rU0 P ops E Q fin rest a w->K a)->if Region.wanted o (yielded ops a.tmps) then aM P o a E w K else K (a.put o.dst undef)):rU0 P ops E Q fin ((i,false)::rest) a w :=
 ⟨rN0 ho λK hK=>h K λa ha=>hK a ha.out⟩
theorem bG {i:Nat} {rest:List (Nat×Bool)} {a:Act} {w:World} {o:Oper} (ho:ops[i]?=some o) (hw:Region.wanted o (yielded ops a.tmps)=true)
  (h:∀K:Act->World->Prop,(∀a w,rU0 P ops E Q fin rest a w->K a w)->o.wp P a w (λa' w'=>E w w'/\K a' w') Q):rU0 P ops E Q fin ((i,true)::rest) a w :=
 ⟨nP0 ho hw λK hK=>h K λa w ha=>hK a w ha.out⟩
theorem t_skip {i:Nat} {b:Bool} {rest:List (Nat×Bool)} {a:Act} {w:World} {o:Oper} (ho:ops[i]?=some o) (hw:Region.wanted o (yielded ops a.tmps)=false)
 (h:rU0 P ops E Q fin rest (a.put o.dst undef) w):rU0 P ops E Q fin ((i,b)::rest) a w:=⟨wW0 ho hw h.out⟩
theorem bN {a:Act} {w:World} (h:fin a w):rU0 P ops E Q fin [] a w:=⟨h⟩
end
theorem cX {P:Program} {f:FuncId} {args:Array Value} {w:World} {v:Value} (h:Calls P f args w λe w'=>e=.returned v/\w=w'):Calls P f args w λe mi=>e=.returned v/\mi=w:=h.mono λ_ _ ⟨he,hw⟩=>⟨he,hw.symm⟩
theorem mU {B:Nat} {w:World} {p:Addr} {v:Value} (hb:p.block<B) (hc:w.cell? p=some v) (x:Ext (EB B) w):x.u.cell? p=some v:=by
 rw[Below.cell x.h.1 hb];exact hc
end
section
open Go Go.RowKit
theorem jB {α:Type} {enc:α->List Value} {k:Nat} (hk:∀x,(enc x).length=k) {w:World} {e:TypeId} {base n:Nat} (hb:base<=w.heap.size) (xs:List α) {cs:Array Value} (dg:cs.toList=xs.flatMap enc) (hn:xs.length=n) (hl:n<=maxLen) :
  aU (w.alloc (.cells cs e)) base e k enc (.slice (some ⟨w.heap.size,0,none⟩) n n) xs:=by
 subst hn;have aj:=gB hk xs;refine⟨aj,Or.inr ⟨w.heap.size,xs.length,cs,rfl,hb,?_,Ai _,hl,?_,?_⟩⟩
 ·show (w.heap.push _)[w.heap.size]?=_
  simp
 ·rw[<-Array.length_toList,dg,aj]
 ·rw[dg,<-aj,List.take_length]
def kF (n:Nat):List Value:=[.int .u64 n]
def qQ (b:Bool):List Value:=[.bool b]
def jS (n:Nat):List Value:=[.int .i64 n]
def stC (s:ByteArray):List Value:=[.string s]
theorem cG1:dZ Tryz.prog 220 154 1 8 kF where
 sl:=Tryz.underlying220
 info:=iH (z:=.int .u64 0) (by kernel_rfl) rfl
 pos:=by decide
 by1:=by decide
 len _:=rfl
 one x u hu:=by
  simp[kF]at hu;subst hu;rfl
theorem aP0:dZ Tryz.prog 219 4 1 1 qQ where
 sl:=Tryz.underlying219
 info:=iH (z:=.bool false) (by kernel_rfl) rfl
 pos:=by decide
 by1:=by decide
 len _:=rfl
 one x u hu:=by
  simp[qQ]at hu;subst hu;rfl
theorem nW:dZ Tryz.prog 66 3 1 8 jS where
 sl:=Tryz.underlying66
 info:=iH (z:=.int .i64 0) (by kernel_rfl) rfl
 pos:=by decide
 by1:=by decide
 len _:=rfl
 one x u hu:=by
  simp[jS]at hu;subst hu;rfl
theorem oE1:dZ Tryz.prog 65 9 1 16 stC where
 sl:=Tryz.underlying65
 info:=iH (z:=.string ByteArray.empty) (by kernel_rfl) rfl
 pos:=by decide
 by1:=by decide
 len _:=rfl
 one x u hu:=by
  simp[stC]at hu;subst hu;rfl
theorem at1 {α:Type} {w:World} {a:Option Addr} {xs:List α} {f:α->Value} (h:aG w a 1 (xs.map λx=>[f x])) (hn:xs≠[]):∃b o,a=some ⟨b,o,none⟩/\∀k x,xs[k]?=some x->w.cell? ⟨b,o+k,none⟩=some (f x):=by
 obtain⟨b,o,ha,hc⟩:=aG.get (enc:=λx=>[f x]) h hn;exact⟨b,o,ha,λk x hx=>by simpa using hc k x hx 0 _ rfl⟩
end
section
open Go Go.RowKit
attribute [local go_sem] aO aM
theorem aY0 (x V:Nat):(x:Int)/2^V=((x>>>V:Nat):Int):=by rw[Nat.shiftRight_eq_div_pow]; push_cast; rfl
theorem yN (x:Nat):Ab (x%256)=Ab x:=by
 apply UInt8.toNat_inj.1
 rw[Ae,Ae];omega
theorem jM0 (x:Nat):[Value.int .u8 ((x:Int)%256)]=aV (Ab x):=by
 unfold aV;rw[Ae];congr 2
theorem wU0 (n w:Nat) (hw:w<=64):(#[Value.int .u8 ((n:Int)%256),.int .u8 ((n:Int)/256%256),.int .u8 ((n:Int)/65536%256),.int .u8 ((n:Int)/16777216%256),.int .u8 (w:Int)]:Array Value).toList=(leB 4 n++[Ab w]).flatMap aV:=by
 have h:leB 4 n=[Ab n,Ab (n/256),Ab (n/65536),Ab (n/16777216)]:=by
  unfold leB;simp[List.range_succ]
 rw[h,pQ];simp only[List.cons_append,Au,List.map_cons,List.map_nil,Ae];rw[At (show w<2^8 by omega)]
 congr 1
theorem fQ0 {l:List Nat} {W k t x:Nat} (hx:l[k]?=some x) (ht:t<W):bitAt l W (k*W+t)=x.testBit t:=by
 unfold bitAt
 have h1:(k*W+t)/W=k:=by
  rw[As,Nat.mul_add_div (by omega),Nat.div_eq_of_lt ht,Ba]
 have h2:(k*W+t)%W=t:=by rw[As,Nat.mul_add_mod,At ht]
 rw[h1,h2,List.getD_eq_getElem?_getD,hx];rfl
end
section
open Go Go.RowKit
inductive lX where
 | done
 | quiet (i:Nat) (t:lX)
 | late (i:Nat) (t:lX)
 | alt (s t:lX)
def lX.heads:lX->List Nat
 | .late i _=>[i]
 | .alt s t=>s.heads++t.heads
 | _=>[]
def lX.len:lX->Nat
 | .done=>0
 | .quiet _ t=>t.len+1
 | .late _ t=>t.len+1
 | .alt s _=>s.len
section
variable {P:Program} {ops:Array Oper} {Q:Exit->Act->World->Prop} {md:Region.Mode} {E:World->World->Prop} {fin:Act->World->Prop}
def jI (P:Program) (ops:Array Oper) (E:World->World->Prop) (Q:Exit->Act->World->Prop) (fin:Act->World->Prop):lX->Act->World->Prop
 | .done,a,w=>fin a w
 | .quiet i t,a,w=>match ops[i]? with
  | none=>False
  | some o=>if Region.wanted o (yielded ops a.tmps) then aM P o a E w (λa'=>jI P ops E Q fin t a' w) else jI P ops E Q fin t (a.put o.dst undef) w
 | .late i t,a,w=>match ops[i]? with
  | none=>False
  | some o=>if Region.wanted o (yielded ops a.tmps) then o.wp P a w (λa' w'=>E w w'/\jI P ops E Q fin t a' w') Q else jI P ops E Q fin t (a.put o.dst undef) w
 | .alt s t,a,w=>jI P ops E Q fin s a w/\jI P ops E Q fin t a w
def lB (md:Region.Mode) (ops:Array Oper):Bool->lX->Array Bool->Bool
 | b,.done,listed => !b&&decide (Region.ready md ops listed=[])
 | b,.quiet i t,listed => !b&&(Region.ready md ops listed).contains i&&Region.free md ops listed i&&lB md ops false t (listed.setIfInBounds i true)
 | b,.late i t,listed=>(Region.ready md ops listed).contains i&&(b||(Region.ready md ops listed).all λj=>j==i)&&lB md ops false t (listed.setIfInBounds i true)
 | b,.alt s t,listed=>decide (s.len=t.len)&&(b||(Region.ready md ops listed).all λj=>(s.heads++t.heads).contains j)&&lB md ops true s listed&&lB md ops true t listed
theorem oB0 (hr:∀w,E w w) {i:Nat} {t:lX} {a:Act} {w:World} {n:Nat} {listed:Array Bool} (h:jI P ops E Q fin (.late i t) a w) (hk:∀a' w',jI P ops E Q fin t a' w'->iI P md ops Q E n (listed.setIfInBounds i true) a' w') :
  wpOp P ops Q i (λa' w'=>(E w w'/\iI P md ops Q E n (listed.setIfInBounds i true) a' w')\/(iI0 md ops i=true/\wpAny P md ops Q n (listed.setIfInBounds i true) a' w')) a w:=by
 unfold jI at h;unfold wpOp;split at h
 ·exact h.elim
 ·rename_i o ho
  simp only[ho];split at h
  ·rename_i hw
   simp only[hw,if_true];exact .inl (Oper.wp_mono (λa' w' h' => .inl ⟨h'.1,hk _ _ h'.2⟩) h)
  ·rename_i hw
   simp only[hw] at ⊢;exact .inl ⟨hr _,hk _ _ h⟩
theorem cD0:∀(t:lX) (listed:Array Bool),lB md ops true t listed=true->(∃n,t.len=n+1)/\∃i,i∈Region.ready md ops listed
 | .done,_,h=>by simp[lB]at h
 | .quiet _ _,_,h=>by simp[lB]at h
 | .late i t,_,h=>by
  simp only[lB,Aa]at h;exact⟨⟨t.len,rfl⟩,i,by simpa using h.1.1⟩
 | .alt s t,listed,h=>by
  simp only[lB,Aa]at h;exact cD0 s listed h.1.2
theorem eA (hr:∀w,E w w) (ht:∀a b c,E a b->E b c->E a c) (hs:Region.noSelect ops=true)
  (hQ:∀d v c a w,Q (.panic c) (a.put d v) w->Q (.panic c) a w) (ax:∀a w,fin a w->Q .normal a w):∀(t:lX) (listed:Array Bool),kV md ops listed ->
  (∀a w,lB md ops false t listed=true->jI P ops E Q fin t a w->iI P md ops Q E t.len listed a w) /\
  (∀a w,lB md ops true t listed=true->jI P ops E Q fin t a w->∀n,t.len=n+1->∀i∈t.heads,i∈Region.ready md ops listed ->
   wpOp P ops Q i (λa' w'=>(E w w'/\iI P md ops Q E n (listed.setIfInBounds i true) a' w')\/(iI0 md ops i=true/\wpAny P md ops Q n (listed.setIfInBounds i true) a' w')) a w)
 | .done,listed,cr=>by
  refine⟨λa w hB h=>?_,λa w hB=>by simp[lB]at hB⟩;simp only[lB,Bool.not_false,Bool.true_and,decide_eq_true_eq]at hB;exact⟨hB,ax _ _ h⟩
 | .quiet i t,listed,cr=>by
  refine⟨λa w hB h=>?_,λa w hB=>by simp[lB]at hB⟩;simp only[lB,Aa]at hB;obtain⟨⟨⟨_,dv⟩,hf⟩,pg⟩:=hB;have gu:i∈Region.ready md ops listed:=by simpa using dv
  unfold jI at h;show iI P md ops Q E (t.len+1) listed a w
  split at h
  ·exact h.elim
  ·rename_i o ho
   split at h
   ·rename_i hw
    obtain⟨v,hv,hk⟩:=h;exact jZ hr ht ho (Region.noSelect_spec hs) hQ _ listed a w cr (Region.free_spec ho hf) gu (.inl ⟨hw,hv⟩) ((eA hr ht hs hQ ax t _ (dB cr gu)).1 _ _ pg hk)
   ·rename_i hw
    exact jZ hr ht ho (Region.noSelect_spec hs) hQ _ listed a w cr (Region.free_spec ho hf) gu (.inr ⟨by simpa using hw,rfl⟩) ((eA hr ht hs hQ ax t _ (dB cr gu)).1 _ _ pg h)
 | .late i t,listed,cr=>by
  have key:∀b a w,lB md ops b (.late i t) listed=true->jI P ops E Q fin (.late i t) a w->wpOp P ops Q i (λa' w'=>(E w w'/\iI P md ops Q E t.len (listed.setIfInBounds i true) a' w')\/(iI0 md ops i=true/\wpAny P md ops Q t.len (listed.setIfInBounds i true) a' w')) a w:=λb a w hB h=>by
   simp only[lB,Aa]at hB;obtain⟨⟨dv,_⟩,pg⟩:=hB;have gu:i∈Region.ready md ops listed:=by simpa using dv
   exact oB0 hr h λa' w' h'=>(eA hr ht hs hQ ax t _ (dB cr gu)).1 _ _ pg h'
  refine⟨λa w hB h=>?_,λa w hB h n hn j hj _=>?_⟩
  ·have lg:=hB
   simp only[lB,Aa,Ax]at lg;obtain⟨⟨dv,bg⟩,_⟩:=lg;refine⟨λh0=>(by rw[h0]at dv;simp at dv),λj hj=>?_⟩;obtain rfl:j=i:=by simpa using List.all_eq_true.1 bg j hj
   exact key false a w hB h
  ·obtain rfl:j=i:=by simpa [lX.heads] using hj
   obtain rfl:t.len=n:=by simpa [lX.len] using hn
   exact key true a w hB h
 | .alt s t,listed,cr=>by
  have both:∀b a w,lB md ops b (.alt s t) listed=true->jI P ops E Q fin (.alt s t) a w->∀n,s.len=n+1->∀i∈s.heads++t.heads,i∈Region.ready md ops listed ->
    wpOp P ops Q i (λa' w'=>(E w w'/\iI P md ops Q E n (listed.setIfInBounds i true) a' w')\/(iI0 md ops i=true/\wpAny P md ops Q n (listed.setIfInBounds i true) a' w')) a w:=λb a w hB h n hn i hi dv=>by
   simp only[lB,Aa,decide_eq_true_eq]at hB;obtain⟨⟨⟨hl,_⟩,fe⟩,iq⟩:=hB;rcases List.mem_append.1 hi with hi|hi
   ·exact(eA hr ht hs hQ ax s listed cr).2 a w fe h.1 n hn i hi dv
   ·exact(eA hr ht hs hQ ax t listed cr).2 a w iq h.2 n (by rw[<-hl];exact hn) i hi dv
  refine⟨λa w hB h=>?_,λa w hB h n hn i hi dv=>both true a w hB h n hn i hi dv⟩;have lg:=hB;simp only[lB,Aa,decide_eq_true_eq,Ax]at lg;obtain⟨⟨⟨hl,bg⟩,fe⟩,iq⟩:=lg;show iI P md ops Q E s.len listed a w
  obtain⟨⟨n,hn⟩,i0,hi0⟩:=cD0 s listed fe;rw[hn];refine⟨λh0=>(by rw[h0]at hi0;cases hi0),λj hj=>both false a w hB h n hn j (by simpa using List.all_eq_true.1 bg j hj) hj⟩
def xP (ops:Array Oper) (t:lX):Bool:=Region.noSelect ops&&decide (t.len=ops.size)&&lB .any ops false t (Array.replicate ops.size false)
structure wF0 (P:Program) (ops:Array Oper) (E:World->World->Prop) (Q:Exit->Act->World->Prop) (fin:Act->World->Prop) (t:lX) (a:Act) (w:World):Prop where
 out:jI P ops E Q fin t a w
theorem f_region (E:World->World->Prop) (t:lX) {id:Nat} {a:Act} {w:World} (hr:∀w,E w w) (ht:∀a b c,E a b->E b c->E a c)
  (hm:P.follows .mixedOrders=true) (hB:xP ops t=true)
  (hQ:∀d v c a w,Q (.panic c) (a.put d v) w->Q (.panic c) a w) (h:wF0 P ops E Q (Q .normal) t a w.drew):(Code.region id ops true).wp P Q a w:=by
 simp only[xP,Aa,decide_eq_true_eq]at hB;obtain⟨⟨hs,hl⟩,hB⟩:=hB
 have:=(eA (md:=.any) hr ht hs hQ (λ_ _ h=>h) t _ (fQ _ _)).1 a w.drew hB h.out
 rw[hl]at this;exact wp_region_any hm (iW _ _ _ _ this)
def kH0 (a:Act) (l:List (Option Nat×Value)):Act:=l.foldl (λa p=>a.put p.1 p.2) a
theorem xN0 {ι:Type} (E:World->World->Prop) (t:lX) (upd:ι->List (Option Nat×Value)) (F:ι->World->Prop) {id:Nat} {a:Act} {w:World} (hr:∀w,E w w) (ht:∀a b c,E a b->E b c->E a c)
  (hm:P.follows .mixedOrders=true) (hB:xP ops t=true)
  (hQ:∀d v c a w,Q (.panic c) (a.put d v) w->Q (.panic c) a w) (h:wF0 P ops E Q (λa' w'=>∃x,F x w'/\a'=kH0 a (upd x)) t a w.drew)
  (hk:∀x w',F x w'->Q .normal (kH0 a (upd x)) w'):(Code.region id ops true).wp P Q a w:=by
 simp only[xP,Aa,decide_eq_true_eq]at hB;obtain⟨⟨hs,hl⟩,hB⟩:=hB
 have:=(eA (md:=.any) (Q:=Q) hr ht hs hQ (λa' w' (h:∃x,F x w'/\a'=kH0 a (upd x))=>by obtain⟨x,hF,rfl⟩:=h;exact hk x w' hF) t _ (fQ _ _)).1 a w.drew hB h.out
 rw[hl]at this;exact wp_region_any hm (iW _ _ _ _ this)
theorem gZ {i:Nat} {t:lX} {a:Act} {w:World} {o:Oper} (ho:ops[i]?=some o)
  (h:∀K:Act->Prop,(∀a,wF0 P ops E Q fin t a w->K a)->if Region.wanted o (yielded ops a.tmps) then aM P o a E w K else K (a.put o.dst undef)):wF0 P ops E Q fin (.quiet i t) a w:=by
 refine⟨?_⟩;unfold jI;simp only[ho];exact h _ λ_ ha=>ha.out
theorem cH {i:Nat} {t:lX} {a:Act} {w:World} {o:Oper} (ho:ops[i]?=some o) (hw:Region.wanted o (yielded ops a.tmps)=true)
  (h:∀K:Act->World->Prop,(∀a w,wF0 P ops E Q fin t a w->K a w)->o.wp P a w (λa' w'=>E w w'/\K a' w') Q):wF0 P ops E Q fin (.late i t) a w:=by
 refine⟨?_⟩;unfold jI;simp only[ho,hw,if_true];exact h _ λ_ _ ha=>ha.out
theorem jC0 {s t:lX} {a:Act} {w:World} (h1:wF0 P ops E Q fin s a w) (h2:wF0 P ops E Q fin t a w):wF0 P ops E Q fin (.alt s t) a w:=⟨⟨h1.out,h2.out⟩⟩
theorem aR0 {a:Act} {w:World} (h:fin a w):wF0 P ops E Q fin .done a w:=⟨h⟩
end
end
end Go.Proofs.YtjhajgffmnkocaaGreatDoor
