/- The texts Bytes App2 App3 PutU RefU bN1 Bx W10 W09 W13 eS1, one behind the other. -/
import Derived.Test.YtheiocndipepaaaGreatDoorKq2
import Derived.Test.YtheiocndipepaaaGreatDoorKq19
import Derived.Test.YtheiocndipepaaaGreatDoorProg
import Derived.Lib.AppendStr
import Derived.Lib.BufferRead
import Derived.Lib.SlBytesRow
import Derived.Laws.AppendOwnNone
import Derived.ArgAppend
import Derived.Lib.SliceRun
import Derived.Test.YtheiocndipepaaaGreatDoorKq1
import Derived.Laws.BitsAllLaws
open Bool renaming and_eq_true → Aa,false_eq_true → Ai,false_or → Aw
open UInt8 renaming ofNat → Ab,toNat_ofNat' → Ad
open List renaming length_append → Ac,eq_nil_of_length_eq_zero → Ag,flatMap_append → Ah,append_assoc → Aj,getElem?_eq_getElem → Ak,length_cons → Al,map_eq_nil_iff → Ao,flatMap_cons → Ap,getElem?_map → Aq,append_nil → At,nil_append → Au
open Nat renaming le_trans → Ae,le_refl → Af,mul_comm → Ar,mod_eq_of_lt → As,zero_add → Ax,lt_or_ge → Ay,add_zero → Az,mod_lt → Ba
open Go.Lib renaming run_eql_slice_nil → Am,size_eq → An,hid → Av
open Go.Addr renaming add → Bb
set_option maxHeartbeats 2000000
namespace Go.Proofs.YtheiocndipepaaaGreatDoor
set_option maxRecDepth 100000
section
open Go Go.RowKit
def aX (b:UInt8):List Value:=[.int .u8 b.toNat]
theorem bI:eW Tryz.prog 36 5 1 1 aX where
 sl:=Tryz.underlying36
 info:=gF (z:=.int .u8 0) (by kernel_rfl) rfl
 pos:=by decide
 by1:=by decide
 len _:=rfl
 one x u hu:=by
  simp[aX]at hu;subst hu;rfl
theorem hT1:∃i,Tryz.prog.info? 5=some i/\i.zero=some (.int .u8 0)/\i.size=1/\i.bytes=1:=by
 have h:(Tryz.prog.info? 5).map (λi=>(i.zero,i.size,i.bytes))=some (some (.int .u8 0),1,1):=by kernel_rfl
 cases hi:Tryz.prog.info? 5 with
 | none=>rw[hi]at h;cases h
 | some i =>
  rw[hi]at h;simp only[Option.map_some,Option.some.injEq,Prod.mk.injEq]at h;exact⟨i,rfl,h.1,h.2.1,h.2.2⟩
theorem qY (l:List UInt8):l.flatMap aX=l.map λb=>Value.int .u8 b.toNat:=by
 induction l with
 | nil=>rfl
 | cons b l ih=>rw[Ap,ih];rfl
theorem gP0 (s:ByteArray):Lib.strCells s=s.data.toList.flatMap aX:=by rw[qY]; rfl
theorem aV.other {α:Type} {w w':World} {base:Nat} {e e':TypeId} {k:Nat} {enc:α->List Value} {v v2:Value} {xs:List α} {n2 k2 b2:Nat} {ys:List Value} (h:aV w base e k enc v xs) (h2:w.ownsRow b2 e' k2 v2 n2 ys) (ai:e≠e') (hg:w.grownBy w' v2.ownBlock):aV w' base e k enc v xs:=by
 obtain⟨h1,h3⟩:=h;refine⟨h1,?_⟩;rcases h3 with h3|⟨g,cap,cm,rfl,hb,hh,r⟩
 ·exact Or.inl h3
 ·refine Or.inr ⟨g,cap,cm,rfl,hb,?_,r⟩
  rw[hg.block g (Array.getElem?_eq_some_iff.1 hh).1 ?_]
  ·exact hh
  ·rcases h2.2 with ⟨rfl,_⟩|⟨g',ab4,aj5,rfl,_,hh',_⟩
   ·simp[Value.ownBlock]
   ·intro he
    have:g=g':=by simpa [Value.ownBlock] using he
    subst this;rw[hh]at hh';injection hh' with hh'
    injection hh' with _ ht
    exact ai ht
theorem lJ1 {ops:Array Oper} {rest:List Oper} {o:Oper} {a:Act} {Q:Exit->Act->World->Prop} {w W:World}
  (mx:o.guard=none) (s x:Operand) (ew:o.op=.call { callee:=.builtin .append,args:=#[s,x],argTypes:=#[36,9] })
  (base:Nat) (v:Value) (xs:List UInt8) (y:ByteArray) (hs:a.eval s=v) (aa:aV w base 5 1 aX v xs) (fh:Grows w W)
  (hx:a.eval x=.string y) (an:xs.length+y.size<=140737488355328) (cj:base<=w.heap.size)
  (h:∀v' w',aV w' base 5 1 aX v' (xs++y.data.toList)->(∀a0,Grows a0 w->a0.heap.size<=base->Grows a0 w')->(∀ {α:Type} {b2 k2:Nat} {e2:TypeId} {aff:α->List Value} {v2:Value} {ys:List α},e2≠5->aV w b2 e2 k2 aff v2 ys->aV w' b2 e2 k2 aff v2 ys)->wpList Tryz.prog ops Q rest (a.put o.dst v') w') :
  wpList Tryz.prog ops Q (o::rest) a W:=by
 obtain⟨i,hi,hz,de,lf⟩:=hT1;have aj:=fO aa fh;refine Lib.wpList_append_own_string W mx s x 36 9 ew base 5 i Tryz.underlying36 Tryz.underlying9 hi hz de lf v xs.length (xs.flatMap aX) hs aj y hx (by unfold maxLen;omega) an (Ae cj fh.size) ?_;intro v' w' h1 h2 _;refine h v' w' ?_ (λa0 h0 hb=>(h0.tr fh).grown h2 (λq hq=>Ae hb (bB aa q hq))) (λai ho=>(ho.grows fh).other aj ai h2);unfold aV;rw[Ac,<-An,Ah,<-gP0];exact h1
theorem aI0 {w:World} {base:Nat} {v:Value} {l:List UInt8} (h:aV w base 5 1 aX v l):(convert 36 9 v).run Tryz.prog w=.ok (.string (mkB l)) w:=by
 rcases h.2 with ⟨rfl,h0⟩|⟨g,cap,cm,rfl,hb,hh,hn,hc,hs,ht⟩
 ·obtain rfl:l=[]:=Ag h0
  exact Lib.run_convert_nil_bytes w _ _ 5 0 Tryz.underlying36 Tryz.underlying5 Tryz.underlying9
 ·have hz:(mkB l).size=l.length:=by rw[An,gZ]
  have hB:Lib.Bytes w g 0 (mkB l):=λi hi=>by
   rw[hz]at hi;have hf:=rP (enc:=aX) (k:=1) (λ_=>rfl) l i 0 l[i] (.int .u8 l[i].toNat) (Ak hi) rfl;rw[<-ht,List.getElem?_take]at hf;split at hf
   ·unfold World.cell?
    simp only[hh,Option.isSome_none,Ai,if_false];rw[Ax];have hg:(mkB l)[i]'(by rw[hz];exact hi)=l[i]:=rfl;rw[hg];simpa using hf
   ·cases hf
  have:=Lib.run_convert_whole (P:=Tryz.prog) w 36 5 9 Tryz.underlying36 Tryz.underlying5 Tryz.underlying9 g 0 (mkB l) hB cap
  rw[hz]at this;exact this
theorem rG {α:Type} {enc:α->List Value} {k:Nat} (hk:∀x,(enc x).length=k):∀(ys:List α) (j:Nat) (u:Value),(ys.flatMap enc)[j]?=some u->∃i jj y,j=i*k+jj/\ys[i]?=some y/\(enc y)[jj]?=some u
 | [],j,u,h=>by simp at h
 | y::r,j,u,h=>by
  rw[Ap]at h;rcases Ay j (enc y).length with ae|xm
  ·rw[List.getElem?_append_left ae]at h
   exact⟨0,j,y,by omega,rfl,h⟩
  ·rw[List.getElem?_append_right xm]at h
   obtain⟨i,jj,z,h1,h2,h3⟩:=rG hk r _ u h;refine⟨i+1,jj,z,?_,by simpa using h2,h3⟩;rw[hk]at xm h1;rw[Nat.succ_mul];omega
theorem kV {α:Type} {P:Program} {t e:TypeId} {k bytes:Nat} {enc:α->List Value} (L:eW P t e k bytes enc) {ops:Array Oper} {rest:List Oper} {o:Oper} {a:Act} {Q:Exit->Act->World->Prop} {w W:World}
  (mx:o.guard=none) (s x:Operand) (ew:o.op=.call { callee:=.builtin .append,args:=#[s,x],argTypes:=#[t,t] })
  (base:Nat) (v:Value) (xs ys:List α) (hs:a.eval s=v) (aa:aV w base e k enc v xs) (fh:Grows w W) (sa:Option Addr) (sc:Nat)
  (hx:a.eval x=.slice sa ys.length sc) (jq:aF W sa k (ys.map enc)) (jr:sa=none->sc=0) (an:(xs.length+ys.length)*bytes<=140737488355328) (cj:base<=w.heap.size)
  (h:∀v' w',aV w' base e k enc v' (xs++ys)->(∀a0,Grows a0 w->a0.heap.size<=base->Grows a0 w')->wpList P ops Q rest (a.put o.dst v') w') :
  wpList P ops Q (o::rest) a W:=by
 obtain⟨i,z,hi,hz,de,lf,pg⟩:=L.info;have lj:xs.length+ys.length<=140737488355328:=Ae (Nat.le_mul_of_pos_right _ L.by1) an;have aj:=fO aa fh
 cases sa with
 | none =>
  obtain rfl:=jr rfl
  have hy:ys=[]:=Decidable.byContradiction λai=>by
   have sg:ys.map enc≠[]:=by simpa using ai
   obtain⟨b,off,ha,_⟩:=jq sg;cases ha
  subst hy;refine wpList_append_own_none mx s x t ew base e i k L.sl hi v xs.length (xs.flatMap enc) hs aj hx ?_;refine h v W ?_ (λa0 h0 _=>h0.tr fh);rw[At];exact aj
 | some ad =>
  refine wpList_append_own _ mx s x t ew base e i z k bytes L.sl hi hz de lf pg L.pos v xs.length (xs.flatMap enc) hs aj ad ys.length sc (ys.flatMap enc) hx (iD L.len ys)
   (λj u hu=>?_) (λu hu=>by obtain⟨y,_,hy⟩:=List.mem_flatMap.1 hu;exact L.one y u hy) (by unfold maxLen;omega) an (Ae cj fh.size) ?_
  ·obtain⟨i',jj,y,h1,h2,h3⟩:=rG L.len ys j u hu
   have ai:ys.map enc≠[]:=by rintro e;rw[Ao]at e;subst e;simp at h2
   obtain⟨b,off,ha,hc⟩:=jq ai;obtain rfl:=Option.some.inj ha;have bu:=hc i' (enc y) (by rw[Aq,h2];rfl) jj u h3;unfold Bb;by_cases h0:j=0
   ·subst h0
    have rh:i'*k=0/\jj=0:=by omega
    rw[if_pos rfl];rw[rh.1,rh.2]at bu;simpa using bu
   ·rw[if_neg h0]
    subst h1;rw[<-Nat.add_assoc];exact bu
  ·intro v' w' h1 h2 _
   refine h v' w' ?_ (λa0 h0 hb=>(h0.tr fh).grown h2 (λq hq=>Ae hb (bB aa q hq)));unfold aV;rw[Ac,Ah];exact h1
theorem sN0 {α:Type} {enc:α->List Value} {k:Nat} {w:World} {e:TypeId} (base:Nat) (hb:base<=w.heap.size):aV (w.alloc (.cells #[] e)) base e k enc (.slice (some ⟨w.heap.size,0,none⟩) 0 0) []:=by
 refine⟨by simp,Or.inr ⟨w.heap.size,0,#[],rfl,hb,?_,Af _,Nat.zero_le _,by simp,by simp⟩⟩;show (w.heap.push _)[w.heap.size]?=_
 simp
def EB (B:Nat) (w w':World):Prop:=Below B w w'/\w.heap.size<=w'.heap.size
theorem EB.refl (B:Nat) (w:World):EB B w w:=⟨Below.refl _ _,Af _⟩
theorem EB.trans (B:Nat) (a b c:World) (h:EB B a b) (k:EB B b c):EB B a c:=⟨Below.trans h.1 k.1,Ae h.2 k.2⟩
instance (B:Nat) (w:World):Nonempty (Ext (EB B) w):=⟨⟨w,EB.refl B w⟩⟩
theorem EB.of {B:Nat} {w w':World} (h:Grows w w') (hB:B<=w.heap.size):EB B w w':=⟨Below.mono h hB,h.size⟩
theorem EB.grows {a w w':World} (h:Grows a w) (k:EB a.heap.size w w'):Grows a w':=Below.trans h k.1
end
section
open Go Go.RowKit
attribute [local go_sem] aM
def uQ:Nat->Nat->List UInt8
 | 0,_=>[]
 | f+1,n=>if n<128 then [Ab n] else Ab (n%128+128)::uQ f (n/128)
def putU (n:Nat):List UInt8:=uQ 10 n
theorem xM:∀(f g n:Nat),n<128^f->f<=g->0<f->uQ g n=uQ f n
 | 0,_,_,_,_,h=>by omega
 | f+1,0,_,_,h,_=>by omega
 | f+1,g+1,n,h,ia,_=>by
  unfold uQ;by_cases h1:n<128
  ·rw[if_pos h1,if_pos h1]
  ·rw[if_neg h1,if_neg h1]
   rw[Nat.pow_succ]at h;have h2:n/128<128^f:=Nat.div_lt_of_lt_mul (by rw[Ar];exact h);rcases Nat.eq_zero_or_pos f with h0|h0
   ·subst h0
    simp at h;omega
   ·rw[xM f g (n/128) h2 (by omega) h0]
theorem kY {n:Nat} (h:n<128):putU n=[Ab n]:=by unfold putU uQ; rw[if_pos h]
theorem iJ1 {n:Nat} (h:128<=n) (hn:n<128^9):putU n=Ab (n%128+128)::putU (n/128):=by
 have h1:putU n=Ab (n%128+128)::uQ 9 (n/128):=by
  show (if n<128 then [Ab n] else Ab (n%128+128)::uQ 9 (n/128))=_
  rw[if_neg (by omega)]
 have h2:n/128<128^9:=Nat.lt_of_le_of_lt (Nat.div_le_self _ _) hn;rw[h1];unfold putU;rw[xM 9 10 (n/128) h2 (by omega) (by omega)]
theorem kO0:∀(f n:Nat),(uQ f n).length<=f
 | 0,_=>by simp[uQ]
 | f+1,n=>by
  unfold uQ;split
  ·simp
  ·have:=kO0 f (n/128)
   simp only[Al];omega
theorem dB (n:Nat):(putU n).length<=10:=kO0 10 n
theorem qC1:∀x:Fin 256,bits BinOp.or .u8 (x.val:Int) 128=((x.val%128+128:Nat):Int):=by decide +kernel
theorem kP0 (k:Nat):bits BinOp.or .u8 ((k:Int)%256) 128=((Ab (k%128+128)).toNat:Int):=by
 have h:=qC1 ⟨k%256,Ba _ (by decide)⟩;have e:(((⟨k%256,Ba _ (by decide)⟩:Fin 256).val:Nat):Int)=(k:Int)%256:=by simp
 rw[e]at h;rw[h,Ad];simp only;omega
theorem eE1 {k:Nat} (h:k<128):Value.int .u8 (k:Int)=.int .u8 ((Ab k).toNat:Int):=by
 rw[Ad];congr 1;omega
def Src (w:World) (base:Nat) (v:Value) (xs:List UInt8):Prop :=
 aV w base 5 1 aX v xs\/∃a,v=.slice a xs.length xs.length/\aF w a 1 (xs.map aX)/\(a=none->xs=[])
theorem fZ0 {ops:Array Oper} {rest:List Oper} {o:Oper} {a:Act} {Q:Exit->Act->World->Prop} {w W:World}
  (mx:o.guard=none) (s x:Operand) (ew:o.op=.call { callee:=.builtin .append,args:=#[s,x],argTypes:=#[36,36] })
  (base:Nat) (v:Value) (xs:List UInt8) (y:UInt8) (hs:a.eval s=v) (aa:Src w base v xs) (fh:Grows w W) (n c:Nat) (hn:n=W.heap.size) (cs:Array Value) (er:cs.toList=aX y)
  (hx:a.eval x=.slice (some ⟨n,0,none⟩) 1 c) (an:xs.length+1<=140737488355328) (cj:base<=w.heap.size)
  (h:∀v' w',aV w' base 5 1 aX v' (xs++[y])->(∀a0,Grows a0 w->a0.heap.size<=base->Grows a0 w')->wpList Tryz.prog ops Q rest (a.put o.dst v') w') :
  wpList Tryz.prog ops Q (o::rest) a (W.alloc (.cells cs 5)):=by
 rcases aa with aa|⟨b,rfl,ac,jr⟩
 ·exact xG bI mx s x ew base v xs y hs aa fh n c hn cs er hx (by omega) cj h
 ·obtain⟨i,z,hi,hz,de,lf,pg⟩:=bI.info
  have lk:Grows w (W.alloc (.cells cs 5)):=fh.al _
  refine wpList_append_grows _ mx s x _ ew 5 i z 1 1 bI.sl hi hz de lf pg (by decide) b xs.length xs.length (xs.flatMap aX) hs (λhb=>by rw[jr hb];exact⟨rfl,rfl⟩) (iD bI.len xs) (λad had j u hu=>?_)
   ⟨n,0,none⟩ 1 c (aX y) hx rfl (λj u hu=>fH hn j u (by rw[er];exact hu)) (bI.one y) (by omega) (by unfold maxLen;omega) (by omega) ?_
  ·obtain⟨i',jj,y',h1,h2,h3⟩:=rG bI.len xs j u hu
   have ai:xs.map aX≠[]:=by rintro e;rw[Ao]at e;subst e;simp at h2
   obtain⟨b',off,ha,hc⟩:=ac ai;rw[had]at ha;obtain rfl:=Option.some.inj ha;have bu:=hc i' (aX y') (by rw[Aq,h2];rfl) jj u h3
   have:(⟨b',off,none⟩:Addr).add j=⟨b',off+i'*1+jj,none⟩:=by
    unfold Bb;by_cases h0:j=0
    ·subst h0
     have rh:i'=0/\jj=0:=by omega
     simp[rh.1,rh.2]
    ·simp[h0];omega
   rw[this];exact lk.cell bu
  ·intro v' w' h1 h2
   refine h v' w' ?_ (λa0 h0 hb=>(h0.tr lk).grown h2 (λq hq=>by cases hq))
   have h3:w'.ownsRow (W.alloc (.cells cs 5)).heap.size 5 1 v' (xs++[y]).length ((xs++[y]).flatMap aX):=by
    rw[Ac,List.length_singleton,Ah];simpa using h1
   exact xX h3 (Ae cj lk.size)
theorem bQ {α:Type} {w:World} {base:Nat} {e:TypeId} {k:Nat} {enc:α->List Value} {a:Option Addr} {n c:Nat} {xs:List α} (h:aV w base e k enc (.slice a n c) xs):a=none->c=0:=by
 intro ha;rcases h.2 with ⟨h1,_⟩|⟨g,cap,cm,h1,_⟩
 ·have:a=none/\n=0/\c=0:=by simpa using h1
  exact this.2.2
 ·rw[ha]at h1;simp at h1
theorem kM0 (xs:List UInt8) (a:Option Addr) (c:Nat) (w:World) (hx:xs.length<=1099511627776) (ac:aF w a 1 (xs.map aX)) (hn:a=none->c=0) :
  Calls Tryz.prog 148 #[.slice a xs.length c] w λe w'=>∃v,e=.returned v/\aV w' w.heap.size 5 1 aX v xs/\Grows w w':=by
 have HAT:=Av ac
 cases a with
 | none =>
  obtain rfl:=hn rfl
  have ld:xs=[]:=Decidable.byContradiction λai=>by
   obtain⟨b,off,h,_⟩:=ac (by simpa using ai);cases h
  subst ld;have hq:=λw=>Am (P:=Tryz.prog) w 36 5 none 0 0 0 0 Tryz.underlying36;clear ac hn HAT;go_enter Tryz.func148,Tryz.ntmps148
  go_wp2_with fail
  go_ret;exact⟨_,rfl,aV.nil _ _ _ _ _,Grows.refl _⟩
 | some ad =>
  have hq:=λw=>Am (P:=Tryz.prog) w 36 5 (some ad) xs.length c 0 0 Tryz.underlying36;clear ac hn;go_enter Tryz.func148,Tryz.ntmps148
  have HSRC:=Av (HAT.out.grows (Grows.alloc w (.cells #[] 5)));go_wp2_with (at_builtin;refine kV bI rfl _ _ rfl w.heap.size _ [] xs rfl (sN0 w.heap.size (Af _)) (Grows.refl _) (some ad) c rfl HSRC.out (λh=>by cases h) (by simp;omega) (by simp) ?_;intro v' w3 ax aw)
  go_ret;rw[Au]at ax;exact⟨_,rfl,ax,aw w (Grows.alloc _ _) (Af _)⟩
theorem sL0 (xs:List UInt8) (a:Option Addr) (c:Nat) (w:World) (hc:xs.length<=c) :
  Calls Tryz.prog 147 #[.slice a xs.length c] w λe w'=>e=.returned (.slice a xs.length xs.length)/\w=w':=by
 go_enter Tryz.func147,Tryz.ntmps147
 go_wp2_with fail
 go_ret;exact⟨rfl,rfl⟩
theorem lF (xs:List UInt8) (a:Option Addr) (c n:Nat) (w:World) (hx:xs.length<=1099511627776) (hv:n<=1048576) (ac:aF w a 1 (xs.map aX)) (hn:a=none->c=0) :
  Calls Tryz.prog 92 #[.slice a xs.length c,.int .u64 n] w λe w'=>∃v,e=.returned v/\aV w' w.heap.size 5 1 aX v (xs++putU n)/\Grows w w':=by
 have CC:=Av (kM0 xs a c w hx ac hn);clear ac hn;go_enter Tryz.func92,Tryz.ntmps92
 go_wp2_with fail
 refine CC.out.mono ?_;rintro e w1 ⟨v1,rfl,az,ag⟩;obtain⟨a1,c1,rfl,h11,h12,da⟩:=az.at_ bI.len;have fk:=bQ az;go_wp2_with fail
 refine(sL0 xs a1 c1 w1 h11).mono ?_;rintro e w2 ⟨rfl,rfl⟩;have jq:Src w1 w.heap.size (.slice a1 xs.length xs.length) xs:=Or.inr ⟨a1,rfl,da,λh=>Ag (by have:=fk h;omega)⟩;clear az da fk CC;go_wp2_with fail
 go_loopw [0,1] (λb v wr=>∃(k:Nat) (pre:List UInt8),v=.int .u64 k/\Src wr w.heap.size b (xs++pre)/\Hid (pre++putU k=putU n)/\k<=1048576/\Grows w wr) (λ_ v _=>(intOf v).toNat)
 case atStart=>exact⟨n,[],rfl,by rw[At];exact jq,rfl,hv,ag⟩
 case round =>
  obtain⟨k,pre,rfl,hs,hp,hk,hg⟩:=hrel
  have m8:pre.length<=10:=by
   have h1:=congrArg List.length hp.out;have h2:=dB n;rw[Ac]at h1;omega
  by_cases adf:128<=k
  ·have cy:(128:Int)<=k:=by omega
   have hb:=Av (kP0 k);rw[iJ1 adf (by omega)]at hp;go_wp2_with (at_builtin;refine fZ0 rfl _ _ rfl w.heap.size _ (xs++pre) (Ab (k%128+128)) rfl hs (Grows.refl _) _ 1 rfl _ (by rw[hb.out];rfl) rfl (by rw[Ac];omega) hg.size ?_;intro v' w5 ak bg)
   go_roundw
   case rel=>exact⟨k/128,pre++[Ab (k%128+128)],by go_num,Or.inl (by rw[<-Aj];exact ak),by show (pre++[_])++putU (k/128)=putU n;rw[Aj];exact hp.out,by omega,bg w hg (Af _)⟩
   case measure=>simp[intOf];omega
  ·have cy:¬(128:Int)<=k:=by omega
   have hb:=Av (eE1 (k:=k) (by omega));rw[kY (by omega)]at hp;go_wp2_with (at_builtin;refine fZ0 rfl _ _ rfl w.heap.size _ (xs++pre) (Ab k) rfl hs (Grows.refl _) _ 1 rfl _ (by rw[hb.out];rfl) rfl (by rw[Ac];omega) hg.size ?_;intro v' w5 ak bg)
   go_ret;refine⟨_,rfl,?_,bg w hg (Af _)⟩;rw[<-hp.out,<-Aj];exact ak
end
section
open Go Go.RowKit
section
variable {P:Program} {ops:Array Oper} {Q:Exit->Act->World->Prop} {md:Region.Mode} {E:World->World->Prop} {fin:Act->World->Prop}
def aK (P:Program) (o:Oper) (a:Act) (E:World->World->Prop) (w:World) (next:Act->Prop):Prop :=
 ∃v,(∀w2,(∃x:Ext E w,w2=x.u)->o.quietAt P a (λw3=>w3=w2) w2 v)/\next (a.put o.dst v)
def jT (P:Program) (ops:Array Oper) (E:World->World->Prop) (Q:Exit->Act->World->Prop) (fin:Act->World->Prop):List (Nat×Bool)->Act->World->Prop
 | [],a,w=>fin a w
 | (i,late)::rest,a,w=>match ops[i]? with
  | none=>False
  | some o=>if Region.wanted o (yielded ops a.tmps) then
    (if late then o.wp P a w (λa' w'=>E w w'/\jT P ops E Q fin rest a' w') Q else aK P o a E w (λa'=>jT P ops E Q fin rest a' w))
   else jT P ops E Q fin rest (a.put o.dst undef) w
def iS (P:Program) (md:Region.Mode) (ops:Array Oper) (Q:Exit->Act->World->Prop) (E:World->World->Prop):Nat->Array Bool->Act->World->Prop
 | 0,listed,a,w=>Region.ready md ops listed=[]/\Q .normal a w
 | cn+1,listed,a,w =>
  (Region.ready md ops listed=[]->Q .normal a w) /\
  ∀i∈Region.ready md ops listed,wpOp P ops Q i (λa' w'=>(E w w'/\iS P md ops Q E cn (listed.setIfInBounds i true) a' w')\/(kC0 md ops i=true/\wpAny P md ops Q cn (listed.setIfInBounds i true) a' w')) a w
theorem lX:∀(cn:Nat) (listed:Array Bool) (a:Act) (w:World),iS P md ops Q E cn listed a w->wpAny P md ops Q cn listed a w
 | 0,_,_,_,h=>⟨h.1,h.2⟩
 | cn+1,_,_,_,h=>⟨λh0=>h.1 h0,λi hi=>wpOp_mono (λa' w' h'=>h'.elim (λh'=>lX cn _ a' w' h'.2) (λh'=>h'.2)) (h.2 i hi)⟩
def fJ (P:Program) (ops:Array Oper) (E:World->World->Prop) (o:Oper) (v:Value) (a:Act) (w:World):Prop :=
 (Region.wanted o (yielded ops a.tmps)=true/\∀w2,(∃x:Ext E w,w2=x.u)->o.quietAt P a (λw3=>w3=w2) w2 v) \/
 (Region.wanted o (yielded ops a.tmps)=false/\v=undef)
theorem fJ.later (ht:∀a b c,E a b->E b c->E a c) {o:Oper} {v:Value} {a:Act} {w w':World} (hw:E w w') (h:fJ P ops E o v a w):fJ P ops E o v a w' :=
 h.imp (λ⟨h1,h2⟩=>⟨h1,λw2 ⟨x,hx⟩=>h2 w2 ⟨⟨x.u,ht _ _ _ hw x.h⟩,hx⟩⟩) id
theorem fJ.of_same {o:Oper} {v:Value} {a a':Act} {w:World} (hy:fJ P ops E o v a w) (he:execOp a'.eval o=execOp a.eval o)
  (hw:Region.wanted o (yielded ops a'.tmps)=Region.wanted o (yielded ops a.tmps)):fJ P ops E o v a' w:=by
 unfold fJ Oper.quietAt at *;rw[he,hw];exact hy
theorem dV0 {o:Oper} {v:Value} {a:Act} {w:World} {K:Act->World->Prop} (h:o.quietAt P a (λw3=>w3=w) w v) (hk:K (a.put o.dst v) w):o.wp P a w K Q:=by
 unfold Oper.quietAt at h;unfold Oper.wp;generalize (execOp a.eval o).run P w=r at *
 cases r with
 | ok n w' =>
  cases n<;>simp only[Oper.quietUpon]at h<;>simp only[Oper.upon]
  case value u =>
   obtain⟨e1,e2⟩:=h;rw[e1,e2];exact hk
  case skip =>
   obtain⟨e1,e2⟩:=h;rw[e1,<-e2];exact hk
  case enter f args =>
   obtain⟨e1,hc⟩:=h;rw[e1];exact hc.mono λe n8 ⟨he,hy⟩=>by subst he;subst hy;exact hk
 | halt x w'=>simp only[Oper.quietUpon]at h
theorem fJ.wpOp {i:Nat} {o:Oper} {v:Value} {a:Act} {w:World} (hr:E w w) (hi:ops[i]?=some o) (hy:fJ P ops E o v a w)
  {K:Act->World->Prop} (h:K (a.put o.dst v) w):wpOp P ops Q i K a w:=by
 unfold Go.wpOp;simp only[hi];rcases hy with ⟨hw,hv⟩|⟨hw,rfl⟩
 ·simp only[hw,if_true];exact .inl (dV0 (hv w ⟨⟨w,hr⟩,rfl⟩) h)
 ·simp only[hw,Ai,if_false];exact h
theorem xV0 {j:Nat} {oi oj:Oper} {v:Value} (hj:ops[j]?=some oj) (hap:oi.apart ops oj=true)
  (hsi:∀cs b,oi.op ≠ .select cs b) (hsj:∀cs b,oj.op ≠ .select cs b)
  (hQ:∀d v c a w,Q (.panic c) (a.put d v) w->Q (.panic c) a w) {K:Act->World->Prop} {a:Act} {w wb:World}
  (hy:fJ P ops E oi v a wb) (h:wpOp P ops Q j K (a.put oi.dst v) w) :
  wpOp P ops Q j (λa' w'=>fJ P ops E oi v a' wb/\K (a'.put oi.dst v) w') a w:=by
 obtain⟨h1,h2,h3⟩:=Oper.apart_spec hap
 have keep:∀(a:Act),fJ P ops E oi v a wb->∀u,fJ P ops E oi v (a.put oj.dst u) wb:=λa hy u =>
  hy.of_same (execOp_put oi hsi a oj.dst u h3) (wanted_put oi a oj.dst u h3)
 have yb:∀d,fJ P ops E oi v { a with defers:=d::a.defers } wb:=λd=>hy.of_same rfl rfl
 unfold wpOp at *;simp only[hj] at *;rw[wanted_put oj a oi.dst v h1]at h;split
 ·rename_i hw
  simp only[hw,if_true]at h;rcases h with h|⟨py,ye⟩
  case inr=>exact .inr ⟨by unfold Oper.asks at *;rw[execOp_put oj hsj a oi.dst v h1]at py;exact py,ye⟩
  refine .inl ?_;unfold Oper.wp at *;rw[execOp_put oj hsj a oi.dst v h1]at h;generalize (execOp a.eval oj).run P w=r at *
  cases r with
  | ok n w' =>
   cases n<;>simp only[Oper.upon]at h ⊢
   case value u=>exact⟨keep a hy u,by rw[<-Act.put_comm a v u h2];exact h⟩
   case skip=>exact⟨keep a hy _,by rw[<-Act.put_comm a v undef h2];exact h⟩
   case defer d =>
    refine⟨keep _ (yb d) _,?_⟩;rw[<-Act.put_comm _ v undef h2,<-Act.put_defers];exact h
   case enter f args =>
    refine Calls.mono h λe n8 he=>?_
    cases e with
    | returned u=>exact⟨keep a hy u,by rw[<-Act.put_comm a v u h2];exact he⟩
    | panicked c=>exact hQ _ _ _ _ _ he
    | outgrown=>exact he
   case row row args=>exact Rows.mono h λu n8 he=>⟨keep a hy u,by rw[<-Act.put_comm a v u h2];exact he⟩
  | halt x w' =>
   cases x<;>simp only[Oper.upon]at h ⊢
   case panic u=>exact hQ _ _ _ _ _ h
 ·rename_i hw
  simp only[hw]at h;exact⟨keep a hy _,by rw[<-Act.put_comm a v undef h2];exact h⟩
theorem kK (hr:∀w,E w w) (ht:∀a b c,E a b->E b c->E a c) {i:Nat} {oi:Oper} {v:Value} (hi:ops[i]?=some oi) (yf:∀(j:Nat) (o:Oper) cs b,ops[j]?=some o->o.op ≠ .select cs b)
  (hQ:∀d v c a w,Q (.panic c) (a.put d v) w->Q (.panic c) a w) :
  ∀(cn:Nat) (listed:Array Bool) (a:Act) (w:World),lG md ops listed ->
   (∀j oj,ops[j]?=some oj->j≠i->listed.getD j true=false->(∀e∈oj.after,Region.binds md e=true->e.on≠i)->oi.apart ops oj=true) ->
   i∈Region.ready md ops listed->fJ P ops E oi v a w ->
   iS P md ops Q E cn (listed.setIfInBounds i true) (a.put oi.dst v) w->iS P md ops Q E (cn+1) listed a w:=by
 intro cn
 induction cn with
 | zero =>
  intro listed a w _ _ ed hy H;refine⟨λh=>(by rw[h]at ed;cases ed),λj hj=>?_⟩;by_cases iy:j=i
  ·subst iy;exact hy.wpOp (hr _) hi (.inl ⟨hr _,H⟩)
  ·have:=ready_mono hj iy
   rw[H.1]at this;cases this
 | succ cn ih =>
  intro listed a w bh pz ed hy H;refine⟨λh=>(by rw[h]at ed;cases ed),λj hj=>?_⟩;by_cases iy:j=i
  ·subst iy;exact hy.wpOp (hr _) hi (.inl ⟨hr _,H⟩)
  ·have h1:=H.2 j (ready_mono hj iy)
   obtain⟨yh,oj,hoj,ci⟩:=mem_ready.1 hj
   have ac6:∀e∈oj.after,Region.binds md e=true->e.on≠i:=λe he hb wl=>by
    have h1:=ci e he hb;have h0:=(mem_ready.1 ed).1;rw[wl]at h1;rcases Ay i listed.size with h'|h'
    ·simp[h']at h0 h1;rw[h0]at h1;cases h1
    ·simp[Array.getElem?_eq_none h']at h1
   have h2:=xV0 hoj (pz j oj hoj iy yh ac6) (λcs b=>yf i oi cs b hi) (λcs b=>yf j oj cs b hoj) hQ hy h1
   have ru:∀k ok,ops[k]?=some ok->k≠i->(listed.setIfInBounds j true).getD k true=false ->
     (∀e∈ok.after,Region.binds md e=true->e.on≠i)->oi.apart ops ok=true:=λk ok hk cy hun ry=>by
    refine pz k ok hk cy ?_ ry;by_cases n9:j=k
    ·subst n9;exact yh
    ·rw[getD_set_ne true n9]at hun;exact hun
   refine wpOp_mono (λa' w' h3=>?_) h2;rcases h3.2 with h4|h4
   ·refine .inl ⟨h4.1,ih (listed.setIfInBounds j true) a' w' (dG bh hj) ru (ready_mono ed (Ne.symm iy)) (h3.1.later ht h4.1) ?_⟩
    rw[Array.setIfInBounds_comm _ _ iy];exact h4.2
   ·exact(tQ bh ed hj iy h4.1).elim
theorem eV (hr:∀w,E w w) (ht:∀a b c,E a b->E b c->E a c) (hs:Region.noSelect ops=true)
  (hQ:∀d v c a w,Q (.panic c) (a.put d v) w->Q (.panic c) a w) {g k:Nat}
  (au:∀listed a w,Region.seqB md ops g k listed=true->fin a w->iS P md ops Q E g listed a w) :
  ∀(l:List (Nat×Bool)) (listed:Array Bool) (a:Act) (w:World),lG md ops listed->eU1 md ops g k l listed=true->jT P ops E Q fin l a w->iS P md ops Q E (l.length+g) listed a w
 | [],listed,a,w,_,hB,h=>by rw[List.length_nil,Ax];exact au listed a w hB h
 | (i,false)::rest,listed,a,w,bh,hB,h=>by
  simp only[eU1,Aa]at hB;obtain⟨⟨ed,hf⟩,q9⟩:=hB;have i5:i∈Region.ready md ops listed:=by simpa using ed
  unfold jT at h;rw[Al,show rest.length+1+g=(rest.length+g)+1 by omega]
  split at h
  ·exact h.elim
  ·rename_i o ho
   split at h
   ·rename_i hw
    simp only[Ai,if_false]at h;obtain⟨v,hv,hk⟩:=h;exact kK hr ht ho (Region.noSelect_spec hs) hQ _ listed a w bh (Region.free_spec ho hf) i5 (.inl ⟨hw,hv⟩) (eV hr ht hs hQ au rest _ _ _ (dG bh i5) q9 hk)
   ·rename_i hw
    exact kK hr ht ho (Region.noSelect_spec hs) hQ _ listed a w bh (Region.free_spec ho hf) i5 (.inr ⟨by simpa using hw,rfl⟩) (eV hr ht hs hQ au rest _ _ _ (dG bh i5) q9 h)
 | (i,true)::rest,listed,a,w,bh,hB,h=>by
  simp only[eU1,Aa,decide_eq_true_eq]at hB;obtain⟨ed,q9⟩:=hB;rw[Al,show rest.length+1+g=(rest.length+g)+1 by omega]
  refine⟨λh0=>(by rw[h0]at ed;cases ed),λj hj=>?_⟩;have re:=hj;rw[ed]at hj;have iy:j=i:=by simpa using hj
  subst iy;unfold jT at h;unfold wpOp;split at h
  ·exact h.elim
  ·rename_i o ho
   simp only[ho];split at h
   ·rename_i hw
    simp only[hw,if_true]at h ⊢;exact .inl (Oper.wp_mono (λa' w' h' => .inl ⟨h'.1,eV hr ht hs hQ au rest _ _ _ (dG bh re) q9 h'.2⟩) h)
   ·rename_i hw
    simp only[hw] at ⊢;exact .inl ⟨hr _,eV hr ht hs hQ au rest _ _ _ (dG bh re) q9 h⟩
theorem dY0 (E:World->World->Prop) (l:List (Nat×Bool)) {id:Nat} {a:Act} {w:World} (hr:∀w,E w w) (ht:∀a b c,E a b->E b c->E a c)
  (hm:P.follows .mixedOrders=true) (hB:sC ops l=true)
  (hQ:∀d v c a w,Q (.panic c) (a.put d v) w->Q (.panic c) a w) (h:jT P ops E Q (Q .normal) l a w.drew):(Code.region id ops true).wp P Q a w:=by
 simp only[sC,Aa,decide_eq_true_eq]at hB;obtain⟨⟨hs,hl⟩,hB⟩:=hB
 have:=eV (md:=.any) (g:=0) (k:=0) hr ht hs hQ (λlisted a w hB h=>⟨by simpa [Region.seqB] using hB,h⟩) l _ a w.drew (iK _ _) hB h
 rw[Az,hl]at this;exact wp_region_any hm (lX _ _ _ _ this)
theorem dG0 (E:World->World->Prop) (k:Nat) (l:List (Nat×Bool)) {id:Nat} {L:List Oper} {a:Act} {w:World} (hr:∀w,E w w) (ht:∀a b c,E a b->E b c->E a c)
  (hm:P.follows .mixedOrders=true) (hB:kU L.toArray k l=true)
  (hQ:∀d v c a w,Q (.panic c) (a.put d v) w->Q (.panic c) a w) (h:jT P L.toArray E Q (wpList P L.toArray Q (L.drop k)) l a w.drew):(Code.region id L.toArray true).wp P Q a w:=by
 simp only[kU,Aa,decide_eq_true_eq]at hB;obtain⟨⟨⟨⟨hs,hl⟩,hk⟩,j7⟩,hB⟩:=hB;have kn:(L.drop k).length=L.toArray.size-k:=by simp
 have:=eV (P:=P) (Q:=Q) (md:=.any) (ops:=L.toArray) (fin:=wpList P L.toArray Q (L.drop k)) (g:=L.toArray.size-k) (k:=k) hr ht hs hQ (λlisted a w hB h=>by
  obtain⟨g,hg⟩:∃g,L.toArray.size-k=g+1:=⟨L.toArray.size-k-1,by omega⟩
  have ed:Region.ready .any L.toArray listed=[k]:=by
   rw[hg]at hB;simp only[Region.seqB,Aa,decide_eq_true_eq]at hB;exact hB.1
  have ci:=wpAny_of_seq (md:=.any) (Q':=Q) (L.drop k) k listed a w (λj=>by simp[List.getElem?_drop]) (by rw[kn];exact hB) h;rw[hg];refine⟨λh0=>(by rw[h0]at ed;cases ed),λj hj=>?_⟩;have h1:=ci;rw[kn,hg]at h1;have n9:j=k:=by rw[ed]at hj;simpa using hj
  subst n9;exact wpOp_mono (λa' w' h' => .inr ⟨j7,h'⟩) (h1.2 j hj)) l _ a w.drew (iK _ _) hB h
 rw[hl,show k+(L.toArray.size-k)=L.toArray.size by omega]at this
 exact wp_region_any hm (lX _ _ _ _ this)
theorem uU0 {i:Nat} {rest:List (Nat×Bool)} {a:Act} {w:World} {o:Oper} (ho:ops[i]?=some o)
  (h:∀K:Act->Prop,(∀a,jT P ops E Q fin rest a w->K a)->if Region.wanted o (yielded ops a.tmps) then aK P o a E w K else K (a.put o.dst undef)):jT P ops E Q fin ((i,false)::rest) a w:=by
 unfold jT;simp only[ho];exact h _ (λ_ h=>h)
theorem aU1 {i:Nat} {rest:List (Nat×Bool)} {a:Act} {w:World} {o:Oper} (ho:ops[i]?=some o)
  (h:∀K:Act->World->Prop,(∀a w,jT P ops E Q fin rest a w->K a w)->if Region.wanted o (yielded ops a.tmps) then o.wp P a w (λa' w'=>E w w'/\K a' w') Q else K (a.put o.dst undef) w):jT P ops E Q fin ((i,true)::rest) a w:=by
 unfold jT;simp only[ho];exact h _ (λ_ _ h=>h)
theorem oG0 {i:Nat} {rest:List (Nat×Bool)} {a:Act} {w:World} {o:Oper} (ho:ops[i]?=some o) (hw:Region.wanted o (yielded ops a.tmps)=true)
  (h:∀K:Act->World->Prop,(∀a w,jT P ops E Q fin rest a w->K a w)->o.wp P a w (λa' w'=>E w w'/\K a' w') Q):jT P ops E Q fin ((i,true)::rest) a w :=
 aU1 ho λK hK=>by rw[if_pos hw];exact h K hK
structure bN1 (P:Program) (ops:Array Oper) (E:World->World->Prop) (Q:Exit->Act->World->Prop) (fin:Act->World->Prop) (l:List (Nat×Bool)) (a:Act) (w:World):Prop where
 out:jT P ops E Q fin l a w
theorem iV (E:World->World->Prop) (l:List (Nat×Bool)) {id:Nat} {a:Act} {w:World} (hr:∀w,E w w) (ht:∀a b c,E a b->E b c->E a c)
 (hm:P.follows .mixedOrders=true) (hB:sC ops l=true)
 (hQ:∀d v c a w,Q (.panic c) (a.put d v) w->Q (.panic c) a w) (h:bN1 P ops E Q (Q .normal) l a w.drew):(Code.region id ops true).wp P Q a w:=dY0 E l hr ht hm hB hQ h.out
theorem sI0 {P:Program} {Q:Exit->Act->World->Prop} (E:World->World->Prop) (k:Nat) (l:List (Nat×Bool)) {id:Nat} {L:List Oper} {a:Act} {w:World} (hr:∀w,E w w) (ht:∀a b c,E a b->E b c->E a c)
 (hm:P.follows .mixedOrders=true) (hB:kU L.toArray k l=true)
 (hQ:∀d v c a w,Q (.panic c) (a.put d v) w->Q (.panic c) a w) (h:bN1 P L.toArray E Q (wpList P L.toArray Q (L.drop k)) l a w.drew):(Code.region id L.toArray true).wp P Q a w:=dG0 E k l hr ht hm hB hQ h.out
theorem bE (l:List (Nat×Bool)) {id:Nat} {a:Act} {w:World} (hB:(P.follows .mixedOrders&&sC ops l)=true)
  (hQ:∀d v c a w,Q (.panic c) (a.put d v) w->Q (.panic c) a w) (h:bN1 P ops Grows Q (Q .normal) l a w.drew):(Code.region id ops true).wp P Q a w :=
 iV Grows l Grows.refl Grows.trans (Bool.and_eq_true_iff.1 hB).1 (Bool.and_eq_true_iff.1 hB).2 hQ h
theorem qA {P:Program} {Q:Exit->Act->World->Prop} (k:Nat) (l:List (Nat×Bool)) {id:Nat} {L:List Oper} {a:Act} {w:World}
  (hB:(P.follows .mixedOrders&&kU L.toArray k l)=true)
  (hQ:∀d v c a w,Q (.panic c) (a.put d v) w->Q (.panic c) a w) (h:bN1 P L.toArray Grows Q (wpList P L.toArray Q (L.drop k)) l a w.drew):(Code.region id L.toArray true).wp P Q a w :=
 sI0 Grows k l Grows.refl Grows.trans (Bool.and_eq_true_iff.1 hB).1 (Bool.and_eq_true_iff.1 hB).2 hQ h
theorem aG {i:Nat} {rest:List (Nat×Bool)} {a:Act} {w:World} {o:Oper} (ho:ops[i]?=some o)
  (h:∀K:Act->Prop,(∀a,bN1 P ops E Q fin rest a w->K a)->if Region.wanted o (yielded ops a.tmps) then aK P o a E w K else K (a.put o.dst undef)):bN1 P ops E Q fin ((i,false)::rest) a w :=
 ⟨uU0 ho λK hK=>h K λa ha=>hK a ha.out⟩
theorem aZ {i:Nat} {rest:List (Nat×Bool)} {a:Act} {w:World} {o:Oper} (ho:ops[i]?=some o) (hw:Region.wanted o (yielded ops a.tmps)=true)
  (h:∀K:Act->World->Prop,(∀a w,bN1 P ops E Q fin rest a w->K a w)->o.wp P a w (λa' w'=>E w w'/\K a' w') Q):bN1 P ops E Q fin ((i,true)::rest) a w :=
 ⟨oG0 ho hw λK hK=>h K λa w ha=>hK a w ha.out⟩
theorem bH {a:Act} {w:World} (h:fin a w):bN1 P ops E Q fin [] a w:=⟨h⟩
end
theorem aY {P:Program} {f:FuncId} {args:Array Value} {w:World} {v:Value} (h:Calls P f args w λe w'=>e=.returned v/\w=w'):Calls P f args w λe n8=>e=.returned v/\n8=w:=h.mono λ_ _ ⟨he,hw⟩=>⟨he,hw.symm⟩
theorem nN {B:Nat} {w:World} {p:Addr} {v:Value} (hb:p.block<B) (hc:w.cell? p=some v) (x:Ext (EB B) w):x.u.cell? p=some v:=by
 rw[Below.cell x.h.1 hb];exact hc
end
section
open Go Go.RowKit
theorem jJ {α:Type} {enc:α->List Value} {k:Nat} (hk:∀x,(enc x).length=k) {w:World} {e:TypeId} {base n:Nat} (hb:base<=w.heap.size) (xs:List α) {cs:Array Value} (er:cs.toList=xs.flatMap enc) (hn:xs.length=n) (hl:n<=maxLen) :
  aV (w.alloc (.cells cs e)) base e k enc (.slice (some ⟨w.heap.size,0,none⟩) n n) xs:=by
 subst hn;have an:=iD hk xs;refine⟨an,Or.inr ⟨w.heap.size,xs.length,cs,rfl,hb,?_,Af _,hl,?_,?_⟩⟩
 ·show (w.heap.push _)[w.heap.size]?=_
  simp
 ·rw[<-Array.length_toList,er,an]
 ·rw[er,<-an,List.take_length]
def kS (n:Nat):List Value:=[.int .u64 n]
def rT (b:Bool):List Value:=[.bool b]
def kG (n:Nat):List Value:=[.int .i64 n]
def stC (s:ByteArray):List Value:=[.string s]
def bl (s:ByteArray):List UInt8:=s.data.toList
theorem dI (s:ByteArray):(bl s).length=s.size:=(An s).symm
theorem nR {s:ByteArray} {k:Nat} (h:k<s.size):(bl s)[k]?=some s[k]:=by
 unfold bl;rw[Ak (by rw[<-An];exact h)];rfl
theorem oX1 {s t:ByteArray} (h:bl s=bl t):s=t:=cN0 h
theorem pS1 {s:ByteArray} {n:Nat}:bl (s.extract 0 n)=(bl s).take n:=by
 unfold bl;rw[Lib.extract_data];simp
theorem yQ0:eW Tryz.prog 137 144 1 8 kS where
 sl:=Tryz.underlying137
 info:=gF (z:=.int .u64 0) (by kernel_rfl) rfl
 pos:=by decide
 by1:=by decide
 len _:=rfl
 one x u hu:=by
  simp[kS]at hu;subst hu;rfl
theorem aS0:eW Tryz.prog 136 4 1 1 rT where
 sl:=Tryz.underlying136
 info:=gF (z:=.bool false) (by kernel_rfl) rfl
 pos:=by decide
 by1:=by decide
 len _:=rfl
 one x u hu:=by
  simp[rT]at hu;subst hu;rfl
theorem pB:eW Tryz.prog 77 3 1 8 kG where
 sl:=Tryz.underlying77
 info:=gF (z:=.int .i64 0) (by kernel_rfl) rfl
 pos:=by decide
 by1:=by decide
 len _:=rfl
 one x u hu:=by
  simp[kG]at hu;subst hu;rfl
theorem oN0:eW Tryz.prog 70 9 1 16 stC where
 sl:=Tryz.underlying70
 info:=gF (z:=.string ByteArray.empty) (by kernel_rfl) rfl
 pos:=by decide
 by1:=by decide
 len _:=rfl
 one x u hu:=by
  simp[stC]at hu;subst hu;rfl
theorem bN {α:Type} {l:List α} {k:Nat} {x:α} (h:l[k]?=some x):l.take (k+1)=l.take k++[x]:=by
 rw[List.take_add_one,h];rfl
theorem at1 {α:Type} {w:World} {a:Option Addr} {xs:List α} {f:α->Value} (h:aF w a 1 (xs.map λx=>[f x])) (hn:xs≠[]):∃b o,a=some ⟨b,o,none⟩/\∀k x,xs[k]?=some x->w.cell? ⟨b,o+k,none⟩=some (f x):=by
 obtain⟨b,o,ha,hc⟩:=aF.get (enc:=λx=>[f x]) h hn;exact⟨b,o,ha,λk x hx=>by simpa using hc k x hx 0 _ rfl⟩
end
section
open Go Go.RowKit
attribute [local go_sem] aM aK
theorem bH0 (x V:Nat):(x:Int)/2^V=((x>>>V:Nat):Int):=by rw[Nat.shiftRight_eq_div_pow]; push_cast; rfl
theorem dC0 (x:Nat):Ab (x%256)=Ab x:=by
 apply UInt8.toNat_inj.1
 rw[Ad,Ad];omega
theorem nI0 (x:Nat):[Value.int .u8 ((x:Int)%256)]=aX (Ab x):=by
 unfold aX;rw[Ad];congr 2
theorem yK0 (n w:Nat) (hw:w<=64):(#[Value.int .u8 ((n:Int)%256),.int .u8 ((n:Int)/256%256),.int .u8 ((n:Int)/65536%256),.int .u8 ((n:Int)/16777216%256),.int .u8 (w:Int)]:Array Value).toList=(leB 4 n++[Ab w]).flatMap aX:=by
 have h:leB 4 n=[Ab n,Ab (n/256),Ab (n/65536),Ab (n/16777216)]:=by
  unfold leB;simp[List.range_succ]
 rw[h,qY];simp only[List.cons_append,Au,List.map_cons,List.map_nil,Ad];rw[As (show w<2^8 by omega)]
 congr 1
theorem gI0 {l:List Nat} {W k t x:Nat} (hx:l[k]?=some x) (ht:t<W):bitAt l W (k*W+t)=x.testBit t:=by
 unfold bitAt
 have h1:(k*W+t)/W=k:=by
  rw[Ar,Nat.mul_add_div (by omega),Nat.div_eq_of_lt ht,Az]
 have h2:(k*W+t)%W=t:=by rw[Ar,Nat.mul_add_mod,As ht]
 rw[h1,h2,List.getD_eq_getElem?_getD,hx];rfl
end
section
open Go Go.RowKit
inductive nI where
 | done
 | quiet (i:Nat) (t:nI)
 | late (i:Nat) (t:nI)
 | alt (s t:nI)
def nI.heads:nI->List Nat
 | .late i _=>[i]
 | .alt s t=>s.heads++t.heads
 | _=>[]
def nI.len:nI->Nat
 | .done=>0
 | .quiet _ t=>t.len+1
 | .late _ t=>t.len+1
 | .alt s _=>s.len
section
variable {P:Program} {ops:Array Oper} {Q:Exit->Act->World->Prop} {md:Region.Mode} {E:World->World->Prop} {fin:Act->World->Prop}
def jR (P:Program) (ops:Array Oper) (E:World->World->Prop) (Q:Exit->Act->World->Prop) (fin:Act->World->Prop):nI->Act->World->Prop
 | .done,a,w=>fin a w
 | .quiet i t,a,w=>match ops[i]? with
  | none=>False
  | some o=>if Region.wanted o (yielded ops a.tmps) then aK P o a E w (λa'=>jR P ops E Q fin t a' w) else jR P ops E Q fin t (a.put o.dst undef) w
 | .late i t,a,w=>match ops[i]? with
  | none=>False
  | some o=>if Region.wanted o (yielded ops a.tmps) then o.wp P a w (λa' w'=>E w w'/\jR P ops E Q fin t a' w') Q else jR P ops E Q fin t (a.put o.dst undef) w
 | .alt s t,a,w=>jR P ops E Q fin s a w/\jR P ops E Q fin t a w
def mF (md:Region.Mode) (ops:Array Oper):Bool->nI->Array Bool->Bool
 | b,.done,listed => !b&&decide (Region.ready md ops listed=[])
 | b,.quiet i t,listed => !b&&(Region.ready md ops listed).contains i&&Region.free md ops listed i&&mF md ops false t (listed.setIfInBounds i true)
 | b,.late i t,listed=>(Region.ready md ops listed).contains i&&(b||(Region.ready md ops listed).all λj=>j==i)&&mF md ops false t (listed.setIfInBounds i true)
 | b,.alt s t,listed=>decide (s.len=t.len)&&(b||(Region.ready md ops listed).all λj=>(s.heads++t.heads).contains j)&&mF md ops true s listed&&mF md ops true t listed
theorem pB0 (hr:∀w,E w w) {i:Nat} {t:nI} {a:Act} {w:World} {n:Nat} {listed:Array Bool} (h:jR P ops E Q fin (.late i t) a w) (hk:∀a' w',jR P ops E Q fin t a' w'->iS P md ops Q E n (listed.setIfInBounds i true) a' w') :
  wpOp P ops Q i (λa' w'=>(E w w'/\iS P md ops Q E n (listed.setIfInBounds i true) a' w')\/(kC0 md ops i=true/\wpAny P md ops Q n (listed.setIfInBounds i true) a' w')) a w:=by
 unfold jR at h;unfold wpOp;split at h
 ·exact h.elim
 ·rename_i o ho
  simp only[ho];split at h
  ·rename_i hw
   simp only[hw,if_true];exact .inl (Oper.wp_mono (λa' w' h' => .inl ⟨h'.1,hk _ _ h'.2⟩) h)
  ·rename_i hw
   simp only[hw] at ⊢;exact .inl ⟨hr _,hk _ _ h⟩
theorem eN0:∀(t:nI) (listed:Array Bool),mF md ops true t listed=true->(∃n,t.len=n+1)/\∃i,i∈Region.ready md ops listed
 | .done,_,h=>by simp[mF]at h
 | .quiet _ _,_,h=>by simp[mF]at h
 | .late i t,_,h=>by
  simp only[mF,Aa]at h;exact⟨⟨t.len,rfl⟩,i,by simpa using h.1.1⟩
 | .alt s t,listed,h=>by
  simp only[mF,Aa]at h;exact eN0 s listed h.1.2
theorem fW (hr:∀w,E w w) (ht:∀a b c,E a b->E b c->E a c) (hs:Region.noSelect ops=true)
  (hQ:∀d v c a w,Q (.panic c) (a.put d v) w->Q (.panic c) a w) (au:∀a w,fin a w->Q .normal a w):∀(t:nI) (listed:Array Bool),lG md ops listed ->
  (∀a w,mF md ops false t listed=true->jR P ops E Q fin t a w->iS P md ops Q E t.len listed a w) /\
  (∀a w,mF md ops true t listed=true->jR P ops E Q fin t a w->∀n,t.len=n+1->∀i∈t.heads,i∈Region.ready md ops listed ->
   wpOp P ops Q i (λa' w'=>(E w w'/\iS P md ops Q E n (listed.setIfInBounds i true) a' w')\/(kC0 md ops i=true/\wpAny P md ops Q n (listed.setIfInBounds i true) a' w')) a w)
 | .done,listed,bh=>by
  refine⟨λa w hB h=>?_,λa w hB=>by simp[mF]at hB⟩;simp only[mF,Bool.not_false,Bool.true_and,decide_eq_true_eq]at hB;exact⟨hB,au _ _ h⟩
 | .quiet i t,listed,bh=>by
  refine⟨λa w hB h=>?_,λa w hB=>by simp[mF]at hB⟩;simp only[mF,Aa]at hB;obtain⟨⟨⟨_,ed⟩,hf⟩,q9⟩:=hB;have i5:i∈Region.ready md ops listed:=by simpa using ed
  unfold jR at h;show iS P md ops Q E (t.len+1) listed a w
  split at h
  ·exact h.elim
  ·rename_i o ho
   split at h
   ·rename_i hw
    obtain⟨v,hv,hk⟩:=h;exact kK hr ht ho (Region.noSelect_spec hs) hQ _ listed a w bh (Region.free_spec ho hf) i5 (.inl ⟨hw,hv⟩) ((fW hr ht hs hQ au t _ (dG bh i5)).1 _ _ q9 hk)
   ·rename_i hw
    exact kK hr ht ho (Region.noSelect_spec hs) hQ _ listed a w bh (Region.free_spec ho hf) i5 (.inr ⟨by simpa using hw,rfl⟩) ((fW hr ht hs hQ au t _ (dG bh i5)).1 _ _ q9 h)
 | .late i t,listed,bh=>by
  have key:∀b a w,mF md ops b (.late i t) listed=true->jR P ops E Q fin (.late i t) a w->wpOp P ops Q i (λa' w'=>(E w w'/\iS P md ops Q E t.len (listed.setIfInBounds i true) a' w')\/(kC0 md ops i=true/\wpAny P md ops Q t.len (listed.setIfInBounds i true) a' w')) a w:=λb a w hB h=>by
   simp only[mF,Aa]at hB;obtain⟨⟨ed,_⟩,q9⟩:=hB;have i5:i∈Region.ready md ops listed:=by simpa using ed
   exact pB0 hr h λa' w' h'=>(fW hr ht hs hQ au t _ (dG bh i5)).1 _ _ q9 h'
  refine⟨λa w hB h=>?_,λa w hB h n hn j hj _=>?_⟩
  ·have ij:=hB
   simp only[mF,Aa,Aw]at ij;obtain⟨⟨ed,ci⟩,_⟩:=ij;refine⟨λh0=>(by rw[h0]at ed;simp at ed),λj hj=>?_⟩;obtain rfl:j=i:=by simpa using List.all_eq_true.1 ci j hj
   exact key false a w hB h
  ·obtain rfl:j=i:=by simpa [nI.heads] using hj
   obtain rfl:t.len=n:=by simpa [nI.len] using hn
   exact key true a w hB h
 | .alt s t,listed,bh=>by
  have both:∀b a w,mF md ops b (.alt s t) listed=true->jR P ops E Q fin (.alt s t) a w->∀n,s.len=n+1->∀i∈s.heads++t.heads,i∈Region.ready md ops listed ->
    wpOp P ops Q i (λa' w'=>(E w w'/\iS P md ops Q E n (listed.setIfInBounds i true) a' w')\/(kC0 md ops i=true/\wpAny P md ops Q n (listed.setIfInBounds i true) a' w')) a w:=λb a w hB h n hn i hi ed=>by
   simp only[mF,Aa,decide_eq_true_eq]at hB;obtain⟨⟨⟨hl,_⟩,ei⟩,im⟩:=hB;rcases List.mem_append.1 hi with hi|hi
   ·exact(fW hr ht hs hQ au s listed bh).2 a w ei h.1 n hn i hi ed
   ·exact(fW hr ht hs hQ au t listed bh).2 a w im h.2 n (by rw[<-hl];exact hn) i hi ed
  refine⟨λa w hB h=>?_,λa w hB h n hn i hi ed=>both true a w hB h n hn i hi ed⟩;have ij:=hB;simp only[mF,Aa,decide_eq_true_eq,Aw]at ij;obtain⟨⟨⟨hl,ci⟩,ei⟩,im⟩:=ij;show iS P md ops Q E s.len listed a w
  obtain⟨⟨n,hn⟩,i0,hi0⟩:=eN0 s listed ei;rw[hn];refine⟨λh0=>(by rw[h0]at hi0;cases hi0),λj hj=>both false a w hB h n hn j (by simpa using List.all_eq_true.1 ci j hj) hj⟩
def sR0 (ops:Array Oper) (t:nI):Bool:=Region.noSelect ops&&decide (t.len=ops.size)&&mF .any ops false t (Array.replicate ops.size false)
structure eS1 (P:Program) (ops:Array Oper) (E:World->World->Prop) (Q:Exit->Act->World->Prop) (fin:Act->World->Prop) (t:nI) (a:Act) (w:World):Prop where
 out:jR P ops E Q fin t a w
def kT0 (a:Act) (l:List (Option Nat×Value)):Act:=l.foldl (λa p=>a.put p.1 p.2) a
theorem cC1 {ι:Type} (E:World->World->Prop) (t:nI) (upd:ι->List (Option Nat×Value)) (F:ι->World->Prop) {id:Nat} {a:Act} {w:World} (hr:∀w,E w w) (ht:∀a b c,E a b->E b c->E a c)
  (hm:P.follows .mixedOrders=true) (hB:sR0 ops t=true)
  (hQ:∀d v c a w,Q (.panic c) (a.put d v) w->Q (.panic c) a w) (h:eS1 P ops E Q (λa' w'=>∃x,F x w'/\a'=kT0 a (upd x)) t a w.drew)
  (hk:∀x w',F x w'->Q .normal (kT0 a (upd x)) w'):(Code.region id ops true).wp P Q a w:=by
 simp only[sR0,Aa,decide_eq_true_eq]at hB;obtain⟨⟨hs,hl⟩,hB⟩:=hB
 have:=(fW (md:=.any) (Q:=Q) hr ht hs hQ (λa' w' (h:∃x,F x w'/\a'=kT0 a (upd x))=>by obtain⟨x,hF,rfl⟩:=h;exact hk x w' hF) t _ (iK _ _)).1 a w.drew hB h.out
 rw[hl]at this;exact wp_region_any hm (lX _ _ _ _ this)
theorem iC {i:Nat} {t:nI} {a:Act} {w:World} {o:Oper} (ho:ops[i]?=some o)
  (h:∀K:Act->Prop,(∀a,eS1 P ops E Q fin t a w->K a)->if Region.wanted o (yielded ops a.tmps) then aK P o a E w K else K (a.put o.dst undef)):eS1 P ops E Q fin (.quiet i t) a w:=by
 refine⟨?_⟩;unfold jR;simp only[ho];exact h _ λ_ ha=>ha.out
theorem cY {i:Nat} {t:nI} {a:Act} {w:World} {o:Oper} (ho:ops[i]?=some o) (hw:Region.wanted o (yielded ops a.tmps)=true)
  (h:∀K:Act->World->Prop,(∀a w,eS1 P ops E Q fin t a w->K a w)->o.wp P a w (λa' w'=>E w w'/\K a' w') Q):eS1 P ops E Q fin (.late i t) a w:=by
 refine⟨?_⟩;unfold jR;simp only[ho,hw,if_true];exact h _ λ_ _ ha=>ha.out
theorem kQ0 {s t:nI} {a:Act} {w:World} (h1:eS1 P ops E Q fin s a w) (h2:eS1 P ops E Q fin t a w):eS1 P ops E Q fin (.alt s t) a w:=⟨⟨h1.out,h2.out⟩⟩
theorem cT0 {a:Act} {w:World} (h:fin a w):eS1 P ops E Q fin .done a w:=⟨h⟩
end
end
end Go.Proofs.YtheiocndipepaaaGreatDoor
