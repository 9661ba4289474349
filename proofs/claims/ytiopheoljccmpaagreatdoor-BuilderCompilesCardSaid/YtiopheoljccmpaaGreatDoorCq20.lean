/- The texts Bytes App2 PutU RefU App3 xQ0 Bx W10 W09 W13, one behind the other. -/
import Derived.Test.YtiopheoljccmpaaGreatDoorCq1
import Derived.Test.YtiopheoljccmpaaGreatDoorCq19
import Derived.Test.YtiopheoljccmpaaGreatDoorProg
import Derived.Lib.AppendStr
import Derived.Lib.BufferRead
import Derived.Lib.SlBytesRow
import Derived.Laws.AppendOwnNone
import Derived.ArgAppend
import Derived.Lib.SliceRun
import Derived.Test.YtiopheoljccmpaaGreatDoorCq4
import Derived.Laws.BitsAllLaws
open UInt8 renaming ofNat → Aa,toNat_ofNat' → Ae
open List renaming length_append → Ab,getElem?_eq_getElem → Af,append_assoc → Ah,getD_eq_getElem?_getD → Ak,flatMap_append → Am,append_nil → Ao,map_append → Ap,map_eq_nil_iff → Aq,getElem?_map → At,length_cons → Av,take_length → Aw,nil_append → Ay,range_succ → Az,flatten_append → Bb,flatMap_cons → Bc,length → Bk,range → Bo
open Nat renaming le_refl → Ac,le_trans → Ag,zero_le → Aj,pow_le_pow_right → An,add_zero → Ar,shiftRight_eq_div_pow → As,le_mul_of_pos_right → Au,mod_eq_of_lt → Ax,mul_comm → Bd,mul_le_mul → Bf,add_assoc → Bg,lt_or_ge → Bh,succ_mul → Bi,mod_lt → Bn
open Go.Lib renaming hid → Ad,run_eql_slice_nil → Ba
open Bool renaming false_eq_true → Ai,and_eq_true → Al,eq_iff_iff → Be
open Go.Addr renaming add → Bj
set_option maxHeartbeats 8000000
namespace Go.Proofs.YtiopheoljccmpaaGreatDoor
set_option maxRecDepth 100000
section
open Go Go.RowKit
def aQ (b:UInt8):List Value:=[.int .u8 b.toNat]
theorem aR:eG Tryz.prog 24 5 1 1 aQ where
 sl:=Tryz.underlying24
 info:=eY (z:=.int .u8 0) (by kernel_rfl) rfl
 pos:=by decide
 by1:=by decide
 len _:=rfl
 one x u hu:=by
  simp[aQ]at hu;subst hu;rfl
theorem aR1:∃i,Tryz.prog.info? 5=some i/\i.zero=some (.int .u8 0)/\i.size=1/\i.bytes=1:=by
 have h:(Tryz.prog.info? 5).map (λi=>(i.zero,i.size,i.bytes))=some (some (.int .u8 0),1,1):=by kernel_rfl
 cases hi:Tryz.prog.info? 5 with
 | none=>rw[hi]at h;cases h
 | some i =>
  rw[hi]at h;simp only[Option.map_some,Option.some.injEq,Prod.mk.injEq]at h;exact⟨i,rfl,h.1,h.2.1,h.2.2⟩
theorem qB (l:List UInt8):l.flatMap aQ=l.map λb=>Value.int .u8 b.toNat:=by
 induction l with
 | nil=>rfl
 | cons b l ih=>rw[Bc,ih];rfl
theorem fL0 (s:ByteArray):Lib.strCells s=s.data.toList.flatMap aQ:=by rw[qB]; rfl
theorem aO.other {α:Type} {w w':World} {base:Nat} {e e':TypeId} {k:Nat} {enc:α->List Value} {v v2:Value} {xs:List α} {n2 k2 b2:Nat} {ys:List Value} (h:aO w base e k enc v xs) (h2:w.ownsRow b2 e' k2 v2 n2 ys) (aw:e≠e') (hg:w.grownBy w' v2.ownBlock):aO w' base e k enc v xs:=by
 obtain⟨h1,h3⟩:=h;refine⟨h1,?_⟩;rcases h3 with h3|⟨g,cap,ei,rfl,hb,hh,r⟩
 ·exact Or.inl h3
 ·refine Or.inr ⟨g,cap,ei,rfl,hb,?_,r⟩
  rw[hg.block g (Array.getElem?_eq_some_iff.1 hh).1 ?_]
  ·exact hh
  ·rcases h2.2 with ⟨rfl,_⟩|⟨g',afi,aj6,rfl,_,hh',_⟩
   ·simp[Value.ownBlock]
   ·intro he
    have:g=g':=by simpa [Value.ownBlock] using he
    subst this;rw[hh]at hh';injection hh' with hh'
    injection hh' with _ ht
    exact aw ht
theorem aO.al {α:Type} {w:World} {base:Nat} {e:TypeId} {k:Nat} {enc:α->List Value} {v:Value} {xs:List α} (h:aO w base e k enc v xs) (o:Obj):aO (w.alloc o) base e k enc v xs:=h.grows (aB.alloc _ _)
theorem yZ0 {ops:Array Oper} {rest:List Oper} {o:Oper} {a:Act} {Q:Exit->Act->World->Prop} {w W:World}
  (ll:o.guard=none) (s x:Operand) (lr:o.op=.call { callee:=.builtin .append,args:=#[s,x],argTypes:=#[24,9] })
  (base:Nat) (v:Value) (xs:List UInt8) (y:ByteArray) (hs:a.eval s=v) (ae:aO w base 5 1 aQ v xs) (fx:aB w W)
  (hx:a.eval x=.string y) (ay:xs.length+y.size<=140737488355328) (dl:base<=w.heap.size)
  (h:∀v' w',aO w' base 5 1 aQ v' (xs++y.data.toList)->(∀a0,aB a0 w->a0.heap.size<=base->aB a0 w')->(∀ {α:Type} {b2 k2:Nat} {e2:TypeId} {afl:α->List Value} {v2:Value} {ys:List α},e2≠5->aO w b2 e2 k2 afl v2 ys->aO w' b2 e2 k2 afl v2 ys)->wpList Tryz.prog ops Q rest (a.put o.dst v') w') :
  wpList Tryz.prog ops Q (o::rest) a W:=by
 obtain⟨i,hi,hz,fg,mq⟩:=aR1;have aj:=dJ ae fx;refine Lib.wpList_append_own_string W ll s x 24 9 lr base 5 i Tryz.underlying24 Tryz.underlying9 hi hz fg mq v xs.length (xs.flatMap aQ) hs aj y hx (by unfold maxLen;omega) ay (Ag dl fx.size) ?_;intro v' w' h1 h2 _;refine h v' w' ?_ (λa0 h0 hb=>(h0.tr fx).grown h2 (λq hq=>Ag hb (bF ae q hq))) (λaw ho=>(ho.grows fx).other aj aw h2);unfold aO;rw[Ab,<-Lib.size_eq,Am,<-fL0];exact h1
theorem lX {α:Type} {enc:α->List Value} {k:Nat} (hk:∀x,(enc x).length=k):∀(ys:List α) (j:Nat) (u:Value),(ys.flatMap enc)[j]?=some u->∃i jj y,j=i*k+jj/\ys[i]?=some y/\(enc y)[jj]?=some u
 | [],j,u,h=>by simp at h
 | y::r,j,u,h=>by
  rw[Bc]at h;rcases Bh j (enc y).length with af|ze
  ·rw[List.getElem?_append_left af]at h
   exact⟨0,j,y,by omega,rfl,h⟩
  ·rw[List.getElem?_append_right ze]at h
   obtain⟨i,jj,z,h1,h2,h3⟩:=lX hk r _ u h;refine⟨i+1,jj,z,?_,by simpa using h2,h3⟩;rw[hk]at ze h1;rw[Bi];omega
theorem dE {α:Type} {P:Program} {t e:TypeId} {k bytes:Nat} {enc:α->List Value} (L:eG P t e k bytes enc) {ops:Array Oper} {rest:List Oper} {o:Oper} {a:Act} {Q:Exit->Act->World->Prop} {w W:World}
  (ll:o.guard=none) (s x:Operand) (lr:o.op=.call { callee:=.builtin .append,args:=#[s,x],argTypes:=#[t,t] })
  (base:Nat) (v:Value) (xs ys:List α) (hs:a.eval s=v) (ae:aO w base e k enc v xs) (fx:aB w W) (sa:Option Addr) (sc:Nat)
  (hx:a.eval x=.slice sa ys.length sc) (jn:aF W sa k (ys.map enc)) (iw:sa=none->sc=0) (ay:(xs.length+ys.length)*bytes<=140737488355328) (dl:base<=w.heap.size)
  (h:∀v' w',aO w' base e k enc v' (xs++ys)->(∀a0,aB a0 w->a0.heap.size<=base->aB a0 w')->wpList P ops Q rest (a.put o.dst v') w') :
  wpList P ops Q (o::rest) a W:=by
 obtain⟨i,z,hi,hz,fg,mq,qb⟩:=L.info;have js:xs.length+ys.length<=140737488355328:=Ag (Au _ L.by1) ay;have aj:=dJ ae fx
 cases sa with
 | none =>
  obtain rfl:=iw rfl
  have hy:ys=[]:=Decidable.byContradiction λaw=>by
   have xx:ys.map enc≠[]:=by simpa using aw
   obtain⟨b,off,ha,_⟩:=jn xx;cases ha
  subst hy;refine wpList_append_own_none ll s x t lr base e i k L.sl hi v xs.length (xs.flatMap enc) hs aj hx ?_;refine h v W ?_ (λa0 h0 _=>h0.tr fx);rw[Ao];exact aj
 | some ad =>
  refine wpList_append_own _ ll s x t lr base e i z k bytes L.sl hi hz fg mq qb L.pos v xs.length (xs.flatMap enc) hs aj ad ys.length sc (ys.flatMap enc) hx (fO L.len ys)
   (λj u hu=>?_) (λu hu=>by obtain⟨y,_,hy⟩:=List.mem_flatMap.1 hu;exact L.one y u hy) (by unfold maxLen;omega) ay (Ag dl fx.size) ?_
  ·obtain⟨i',jj,y,h1,h2,h3⟩:=lX L.len ys j u hu
   have aw:ys.map enc≠[]:=by rintro e;rw[Aq]at e;subst e;simp at h2
   obtain⟨b,off,ha,hc⟩:=jn aw;obtain rfl:=Option.some.inj ha;have cj:=hc i' (enc y) (by rw[At,h2];rfl) jj u h3;unfold Bj;by_cases h0:j=0
   ·subst h0
    have lw:i'*k=0/\jj=0:=by omega
    rw[if_pos rfl];rw[lw.1,lw.2]at cj;simpa using cj
   ·rw[if_neg h0]
    subst h1;rw[<-Bg];exact cj
  ·intro v' w' h1 h2 _
   refine h v' w' ?_ (λa0 h0 hb=>(h0.tr fx).grown h2 (λq hq=>Ag hb (bF ae q hq)));unfold aO;rw[Ab,Am];exact h1
theorem oN0 {α:Type} {enc:α->List Value} {k:Nat} {w:World} {e:TypeId} (base:Nat) (hb:base<=w.heap.size):aO (w.alloc (.cells #[] e)) base e k enc (.slice (some ⟨w.heap.size,0,none⟩) 0 0) []:=by
 refine⟨by simp,Or.inr ⟨w.heap.size,0,#[],rfl,hb,?_,Ac _,Aj _,by simp,by simp⟩⟩;show (w.heap.push _)[w.heap.size]?=_
 simp
end
section
open Go Go.RowKit
attribute [local go_sem] aM
def tI:Nat->Nat->List UInt8
 | 0,_=>[]
 | f+1,n=>if n<128 then [Aa n] else Aa (n%128+128)::tI f (n/128)
def putU (n:Nat):List UInt8:=tI 10 n
theorem vH:∀(f g n:Nat),n<128^f->f<=g->0<f->tI g n=tI f n
 | 0,_,_,_,_,h=>by omega
 | f+1,0,_,_,h,_=>by omega
 | f+1,g+1,n,h,o4,_=>by
  unfold tI;by_cases h1:n<128
  ·rw[if_pos h1,if_pos h1]
  ·rw[if_neg h1,if_neg h1]
   rw[Nat.pow_succ]at h;have h2:n/128<128^f:=Nat.div_lt_of_lt_mul (by rw[Bd];exact h);rcases Nat.eq_zero_or_pos f with h0|h0
   ·subst h0
    simp at h;omega
   ·rw[vH f g (n/128) h2 (by omega) h0]
theorem gS {n:Nat} (h:n<128):putU n=[Aa n]:=by unfold putU tI; rw[if_pos h]
theorem oI0 {n:Nat} (h:128<=n) (hn:n<128^9):putU n=Aa (n%128+128)::putU (n/128):=by
 have h1:putU n=Aa (n%128+128)::tI 9 (n/128):=by
  show (if n<128 then [Aa n] else Aa (n%128+128)::tI 9 (n/128))=_
  rw[if_neg (by omega)]
 have h2:n/128<128^9:=Nat.lt_of_le_of_lt (Nat.div_le_self _ _) hn;rw[h1];unfold putU;rw[vH 9 10 (n/128) h2 (by omega) (by omega)]
theorem iF0:∀(f n:Nat),(tI f n).length<=f
 | 0,_=>by simp[tI]
 | f+1,n=>by
  unfold tI;split
  ·simp
  ·have:=iF0 f (n/128)
   simp only[Av];omega
theorem bK (n:Nat):(putU n).length<=10:=iF0 10 n
theorem kH1:∀x:Fin 256,bits BinOp.or .u8 (x.val:Int) 128=((x.val%128+128:Nat):Int):=by decide +kernel
theorem iM0 (k:Nat):bits BinOp.or .u8 ((k:Int)%256) 128=((Aa (k%128+128)).toNat:Int):=by
 have h:=kH1 ⟨k%256,Bn _ (by decide)⟩;have e:(((⟨k%256,Bn _ (by decide)⟩:Fin 256).val:Nat):Int)=(k:Int)%256:=by simp
 rw[e]at h;rw[h,Ae];simp only;omega
theorem eQ0 {k:Nat} (h:k<128):Value.int .u8 (k:Int)=.int .u8 ((Aa k).toNat:Int):=by
 rw[Ae];congr 1;omega
def Src (w:World) (base:Nat) (v:Value) (xs:List UInt8):Prop :=
 aO w base 5 1 aQ v xs\/∃a,v=.slice a xs.length xs.length/\aF w a 1 (xs.map aQ)/\(a=none->xs=[])
theorem Src.grows {w w':World} {base:Nat} {v:Value} {xs:List UInt8} (h:Src w base v xs) (hg:aB w w'):Src w' base v xs:=by
 rcases h with h|⟨a,h1,h2,h3⟩
 ·exact Or.inl (h.grows hg)
 ·exact Or.inr ⟨a,h1,h2.grows hg,h3⟩
theorem eG0 {ops:Array Oper} {rest:List Oper} {o:Oper} {a:Act} {Q:Exit->Act->World->Prop} {w W:World}
  (ll:o.guard=none) (s x:Operand) (lr:o.op=.call { callee:=.builtin .append,args:=#[s,x],argTypes:=#[24,24] })
  (base:Nat) (v:Value) (xs:List UInt8) (y:UInt8) (hs:a.eval s=v) (ae:Src w base v xs) (fx:aB w W) (n c:Nat) (hn:n=W.heap.size) (cs:Array Value) (dz:cs.toList=aQ y)
  (hx:a.eval x=.slice (some ⟨n,0,none⟩) 1 c) (ay:xs.length+1<=140737488355328) (dl:base<=w.heap.size)
  (h:∀v' w',aO w' base 5 1 aQ v' (xs++[y])->(∀a0,aB a0 w->a0.heap.size<=base->aB a0 w')->wpList Tryz.prog ops Q rest (a.put o.dst v') w') :
  wpList Tryz.prog ops Q (o::rest) a (W.alloc (.cells cs 5)):=by
 rcases ae with ae|⟨b,rfl,ah,iw⟩
 ·exact dQ aR ll s x lr base v xs y hs ae fx n c hn cs dz hx (by omega) dl h
 ·obtain⟨i,z,hi,hz,fg,mq,qb⟩:=aR.info
  have lu:aB w (W.alloc (.cells cs 5)):=fx.al _
  refine wpList_append_grows _ ll s x _ lr 5 i z 1 1 aR.sl hi hz fg mq qb (by decide) b xs.length xs.length (xs.flatMap aQ) hs (λhb=>by rw[iw hb];exact⟨rfl,rfl⟩) (fO aR.len xs) (λad had j u hu=>?_)
   ⟨n,0,none⟩ 1 c (aQ y) hx rfl (λj u hu=>eN hn j u (by rw[dz];exact hu)) (aR.one y) (by omega) (by unfold maxLen;omega) (by omega) ?_
  ·obtain⟨i',jj,y',h1,h2,h3⟩:=lX aR.len xs j u hu
   have aw:xs.map aQ≠[]:=by rintro e;rw[Aq]at e;subst e;simp at h2
   obtain⟨b',off,ha,hc⟩:=ah aw;rw[had]at ha;obtain rfl:=Option.some.inj ha;have cj:=hc i' (aQ y') (by rw[At,h2];rfl) jj u h3
   have:(⟨b',off,none⟩:Addr).add j=⟨b',off+i'*1+jj,none⟩:=by
    unfold Bj;by_cases h0:j=0
    ·subst h0
     have lw:i'=0/\jj=0:=by omega
     simp[lw.1,lw.2]
    ·simp[h0];omega
   rw[this];exact lu.cell cj
  ·intro v' w' h1 h2
   refine h v' w' ?_ (λa0 h0 hb=>(h0.tr lu).grown h2 (λq hq=>by cases hq))
   have h3:w'.ownsRow (W.alloc (.cells cs 5)).heap.size 5 1 v' (xs++[y]).length ((xs++[y]).flatMap aQ):=by
    rw[Ab,List.length_singleton,Am];simpa using h1
   exact lC h3 (Ag dl lu.size)
theorem bC {α:Type} {w:World} {base:Nat} {e:TypeId} {k:Nat} {enc:α->List Value} {a:Option Addr} {n c:Nat} {xs:List α} (h:aO w base e k enc (.slice a n c) xs):a=none->c=0:=by
 intro ha;rcases h.2 with ⟨h1,_⟩|⟨g,cap,ei,h1,_⟩
 ·have:a=none/\n=0/\c=0:=by simpa using h1
  exact this.2.2
 ·rw[ha]at h1;simp at h1
theorem jY0 (xs:List UInt8) (a:Option Addr) (c:Nat) (w:World) (hx:xs.length<=1099511627776) (ah:aF w a 1 (xs.map aQ)) (hn:a=none->c=0) :
  Calls Tryz.prog 162 #[.slice a xs.length c] w λe w'=>∃v,e=.returned v/\aO w' w.heap.size 5 1 aQ v xs/\aB w w':=by
 have HAT:=Ad ah
 cases a with
 | none =>
  obtain rfl:=hn rfl
  have ti:xs=[]:=Decidable.byContradiction λaw=>by
   obtain⟨b,off,h,_⟩:=ah (by simpa using aw);cases h
  subst ti;have hq:=λw=>Ba (P:=Tryz.prog) w 24 5 none 0 0 0 0 Tryz.underlying24;clear ah hn HAT;go_enter Tryz.func162,Tryz.ntmps162
  go_wp2_with fail
  go_ret;exact⟨_,rfl,aO.nil _ _ _ _ _,aB.refl _⟩
 | some ad =>
  have hq:=λw=>Ba (P:=Tryz.prog) w 24 5 (some ad) xs.length c 0 0 Tryz.underlying24;clear ah hn;go_enter Tryz.func162,Tryz.ntmps162
  have HSRC:=Ad (HAT.out.grows (aB.alloc w (.cells #[] 5)));go_wp2_with (at_builtin;refine dE aR rfl _ _ rfl w.heap.size _ [] xs rfl (oN0 w.heap.size (Ac _)) (aB.refl _) (some ad) c rfl HSRC.out (λh=>by cases h) (by simp;omega) (by simp) ?_;intro v' w3 bd bu)
  go_ret;rw[Ay]at bd;exact⟨_,rfl,bd,bu w (aB.alloc _ _) (Ac _)⟩
theorem pN0 (xs:List UInt8) (a:Option Addr) (c:Nat) (w:World) (hc:xs.length<=c) :
  Calls Tryz.prog 161 #[.slice a xs.length c] w λe w'=>e=.returned (.slice a xs.length xs.length)/\w=w':=by
 go_enter Tryz.func161,Tryz.ntmps161
 go_wp2_with fail
 go_ret;exact⟨rfl,rfl⟩
theorem kL (xs:List UInt8) (a:Option Addr) (c n:Nat) (w:World) (hx:xs.length<=1099511627776) (hv:n<=1048576) (ah:aF w a 1 (xs.map aQ)) (hn:a=none->c=0) :
  Calls Tryz.prog 98 #[.slice a xs.length c,.int .u64 n] w λe w'=>∃v,e=.returned v/\aO w' w.heap.size 5 1 aQ v (xs++putU n)/\aB w w':=by
 have CC:=Ad (jY0 xs a c w hx ah hn);clear ah hn;go_enter Tryz.func98,Tryz.ntmps98
 go_wp2_with fail
 refine CC.out.mono ?_;rintro e w1 ⟨v1,rfl,ax,aq⟩;obtain⟨a1,c1,rfl,h11,h12,dw⟩:=ax.at_ aR.len;have j6:=bC ax;go_wp2_with fail
 refine(pN0 xs a1 c1 w1 h11).mono ?_;rintro e w2 ⟨rfl,rfl⟩;have jn:Src w1 w.heap.size (.slice a1 xs.length xs.length) xs:=Or.inr ⟨a1,rfl,dw,λh=>List.eq_nil_of_length_eq_zero (by have:=j6 h;omega)⟩;clear ax dw j6 CC;go_wp2_with fail
 go_loopw [0,1] (λb v wr=>∃(k:Nat) (pre:List UInt8),v=.int .u64 k/\Src wr w.heap.size b (xs++pre)/\Hid (pre++putU k=putU n)/\k<=1048576/\aB w wr) (λ_ v _=>(intOf v).toNat)
 case atStart=>exact⟨n,[],rfl,by rw[Ao];exact jn,rfl,hv,aq⟩
 case round =>
  obtain⟨k,pre,rfl,hs,hp,hk,hg⟩:=hrel
  have jd:pre.length<=10:=by
   have h1:=congrArg Bk hp.out;have h2:=bK n;rw[Ab]at h1;omega
  by_cases ul:128<=k
  ·have di:(128:Int)<=k:=by omega
   have hb:=Ad (iM0 k);rw[oI0 ul (by omega)]at hp;go_wp2_with (at_builtin;refine eG0 rfl _ _ rfl w.heap.size _ (xs++pre) (Aa (k%128+128)) rfl hs (aB.refl _) _ 1 rfl _ (by rw[hb.out];rfl) rfl (by rw[Ab];omega) hg.size ?_;intro v' w5 ai bg)
   go_roundw
   case rel=>exact⟨k/128,pre++[Aa (k%128+128)],by go_num,Or.inl (by rw[<-Ah];exact ai),by show (pre++[_])++putU (k/128)=putU n;rw[Ah];exact hp.out,by omega,bg w hg (Ac _)⟩
   case measure=>simp[intOf];omega
  ·have di:¬(128:Int)<=k:=by omega
   have hb:=Ad (eQ0 (k:=k) (by omega));rw[gS (by omega)]at hp;go_wp2_with (at_builtin;refine eG0 rfl _ _ rfl w.heap.size _ (xs++pre) (Aa k) rfl hs (aB.refl _) _ 1 rfl _ (by rw[hb.out];rfl) rfl (by rw[Ab];omega) hg.size ?_;intro v' w5 ai bg)
   go_ret;refine⟨_,rfl,?_,bg w hg (Ac _)⟩;rw[<-hp.out,<-Ah];exact ai
theorem fF1 (k:Nat):[Value.int .u8 ((k:Int)%128+128)]=aQ (Aa (k%128+128)):=by
 unfold aQ;rw[Ae];congr 2
 omega
theorem oU (n:Nat) (w:World) (hv:n<=1048576) :
  Calls Tryz.prog 177 #[.int .u64 n] w λe w'=>∃v,e=.returned v/\aO w' w.heap.size 5 1 aQ v (putU n)/\aB w w':=by
 go_enter Tryz.func177,Tryz.ntmps177
 go_wp2_with fail
 go_loopw [0,3] (λv b wr=>∃(k:Nat) (pre:List UInt8),v=.int .u64 k/\aO wr w.heap.size 5 1 aQ b pre/\Hid (pre++putU k=putU n)/\k<=1048576/\aB w wr) (λv _ _=>(intOf v).toNat)
 case atStart=>exact⟨n,[],rfl,aO.nil _ _ _ _ _,rfl,hv,aB.refl _⟩
 case round =>
  obtain⟨k,pre,rfl,hs,hp,hk,hg⟩:=hrel
  have jd:pre.length<=10:=by
   have h1:=congrArg Bk hp.out;have h2:=bK n;rw[Ab]at h1;omega
  by_cases ul:128<=k
  ·have di:(128:Int)<=k:=by omega
   have HB:=Ad (fF1 k);rw[oI0 ul (by omega)]at hp;go_wp2_with (at_builtin;refine dQ aR rfl _ _ rfl w.heap.size _ pre (Aa (k%128+128)) rfl hs (aB.refl _) _ 1 rfl _ HB.out rfl (by omega) hg.size ?_;intro v' w5 ai bg)
   go_roundw
   case rel=>exact⟨k/128,pre++[Aa (k%128+128)],by go_num,ai,by show (pre++[_])++putU (k/128)=putU n;rw[Ah];exact hp.out,by omega,bg w hg (Ac _)⟩
   case measure=>simp[intOf];omega
  ·have di:¬(128:Int)<=k:=by omega
   have hb:=Ad (eQ0 (k:=k) (by omega));rw[gS (by omega)]at hp;go_wp2_with (at_builtin;refine dQ aR rfl _ _ rfl w.heap.size _ pre (Aa k) rfl hs (aB.refl _) _ 1 rfl _ (by rw[hb.out];rfl) rfl (by omega) hg.size ?_;intro v' w5 ai bg)
   go_ret;refine⟨_,rfl,?_,bg w hg (Ac _)⟩;rw[<-hp.out];exact ai
end
section
open Go Go.RowKit
def EB (B:Nat) (w w':World):Prop:=Below B w w'/\w.heap.size<=w'.heap.size
theorem EB.refl (B:Nat) (w:World):EB B w w:=⟨Below.refl _ _,Ac _⟩
theorem EB.trans (B:Nat) (a b c:World) (h:EB B a b) (k:EB B b c):EB B a c:=⟨Below.trans h.1 k.1,Ag h.2 k.2⟩
instance (B:Nat) (w:World):Nonempty (Ext (EB B) w):=⟨⟨w,EB.refl B w⟩⟩
theorem EB.of {B:Nat} {w w':World} (h:aB w w') (hB:B<=w.heap.size):EB B w w':=⟨Below.mono h hB,h.size⟩
theorem EB.grows {a w w':World} (h:aB a w) (k:EB a.heap.size w w'):aB a w':=Below.trans h k.1
theorem rO {α:Type} {P:Program} {t e:TypeId} {k bytes:Nat} {enc:α->List Value} (L:eG P t e k bytes enc) {o:Oper} {a:Act} {Q:Exit->Act->World->Prop} {w W:World} {Next:Act->World->Prop}
  (s x:Operand) (lr:o.op=.call { callee:=.builtin .append,args:=#[s,x],argTypes:=#[t,t] })
  (base:Nat) (v:Value) (xs ys:List α) (hs:a.eval s=v) (ae:aO w base e k enc v xs) (fx:aB w W) (sa:Option Addr) (sc:Nat)
  (hx:a.eval x=.slice sa ys.length sc) (jn:aF W sa k (ys.map enc)) (iw:sa=none->sc=0) (ay:(xs.length+ys.length)*bytes<=140737488355328) (dl:base<=w.heap.size)
  (h:∀v' w',aO w' base e k enc v' (xs++ys)->EB base W w'->Next (a.put o.dst v') w') :
  o.wp P a W Next Q:=by
 obtain⟨i,z,hi,hz,fg,mq,qb⟩:=L.info;have js:xs.length+ys.length<=140737488355328:=Ag (Au _ L.by1) ay;have aj:=dJ ae fx
 cases sa with
 | none =>
  obtain rfl:=iw rfl
  have hy:ys=[]:=Decidable.byContradiction λaw=>by
   have xx:ys.map enc≠[]:=by simpa using aw
   obtain⟨b,off,ha,_⟩:=jn xx;cases ha
  subst hy;have jb:=run_append_owned_none (P:=P) (w:=W) base t o.type e i k L.sl hi v xs.length (xs.flatMap enc) aj;have ik:a.eval x=.slice none 0 0:=hx;unfold Oper.wp;simp[execOp,lr,resolve,invoke,builtin,hs,ik,jb,Result.andThen];refine h v W ?_ (EB.refl _ _);rw[Ao];exact aj
 | some ad =>
  obtain⟨v',w',jb,h1,h2,_⟩:=run_append_own (P:=P) W base t o.type e i z k bytes L.sl hi hz fg mq qb L.pos v xs.length (xs.flatMap enc) aj ad ys.length sc (ys.flatMap enc) (fO L.len ys)
   (λj u hu=>by
    obtain⟨i',jj,y,h1,h2,h3⟩:=lX L.len ys j u hu;have aw:ys.map enc≠[]:=by rintro e;rw[Aq]at e;subst e;simp at h2
    obtain⟨b,off,ha,hc⟩:=jn aw;obtain rfl:=Option.some.inj ha;have cj:=hc i' (enc y) (by rw[At,h2];rfl) jj u h3;unfold Bj;by_cases h0:j=0
    ·subst h0
     have lw:i'*k=0/\jj=0:=by omega
     rw[if_pos rfl];rw[lw.1,lw.2]at cj;simpa using cj
    ·rw[if_neg h0]
     subst h1;rw[<-Bg];exact cj)
   (λu hu=>by obtain⟨y,_,hy⟩:=List.mem_flatMap.1 hu;exact L.one y u hy) (by unfold maxLen;omega) ay (Ag dl fx.size)
  unfold Oper.wp;simp[execOp,lr,resolve,invoke,builtin,hs,hx,jb,Result.andThen];refine h v' w' ?_ ⟨?_,h2.size⟩
  ·unfold aO
   rw[Ab,Am];exact h1
  ·exact Below.grown (Below.refl _ _) h2 (Ag dl fx.size) (λq hq=>bF aj q hq)
end
section
open Go Go.RowKit
section
variable {P:Program} {ops:Array Oper} {Q:Exit->Act->World->Prop} {md:Region.Mode} {E:World->World->Prop} {fin:Act->World->Prop}
def aP (P:Program) (o:Oper) (a:Act) (E:World->World->Prop) (w:World) (next:Act->Prop):Prop :=
 ∃v,(∀w2,(∃x:Ext E w,w2=x.u)->o.quietAt P a (λw3=>w3=w2) w2 v)/\next (a.put o.dst v)
def jA (P:Program) (ops:Array Oper) (E:World->World->Prop) (Q:Exit->Act->World->Prop) (fin:Act->World->Prop):List (Nat×Bool)->Act->World->Prop
 | [],a,w=>fin a w
 | (i,late)::rest,a,w=>match ops[i]? with
  | none=>False
  | some o=>if Region.wanted o (yielded ops a.tmps) then
    (if late then o.wp P a w (λa' w'=>E w w'/\jA P ops E Q fin rest a' w') Q else aP P o a E w (λa'=>jA P ops E Q fin rest a' w))
   else jA P ops E Q fin rest (a.put o.dst undef) w
def uW (P:Program) (md:Region.Mode) (ops:Array Oper) (Q:Exit->Act->World->Prop) (E:World->World->Prop):Nat->Array Bool->Act->World->Prop
 | 0,ag,a,w=>Region.ready md ops ag=[]/\Q .normal a w
 | ct+1,ag,a,w =>
  (Region.ready md ops ag=[]->Q .normal a w) /\
  ∀i∈Region.ready md ops ag,wpOp P ops Q i (λa' w'=>(E w w'/\uW P md ops Q E ct (ag.setIfInBounds i true) a' w')\/(dI1 md ops i=true/\wpAny P md ops Q ct (ag.setIfInBounds i true) a' w')) a w
theorem nJ:∀(ct:Nat) (ag:Array Bool) (a:Act) (w:World),uW P md ops Q E ct ag a w->wpAny P md ops Q ct ag a w
 | 0,_,_,_,h=>⟨h.1,h.2⟩
 | ct+1,_,_,_,h=>⟨λh0=>h.1 h0,λi hi=>wpOp_mono (λa' w' h'=>h'.elim (λh'=>nJ ct _ a' w' h'.2) (λh'=>h'.2)) (h.2 i hi)⟩
def eW (P:Program) (ops:Array Oper) (E:World->World->Prop) (o:Oper) (v:Value) (a:Act) (w:World):Prop :=
 (Region.wanted o (yielded ops a.tmps)=true/\∀w2,(∃x:Ext E w,w2=x.u)->o.quietAt P a (λw3=>w3=w2) w2 v) \/
 (Region.wanted o (yielded ops a.tmps)=false/\v=undef)
theorem eW.later (ht:∀a b c,E a b->E b c->E a c) {o:Oper} {v:Value} {a:Act} {w w':World} (hw:E w w') (h:eW P ops E o v a w):eW P ops E o v a w' :=
 h.imp (λ⟨h1,h2⟩=>⟨h1,λw2 ⟨x,hx⟩=>h2 w2 ⟨⟨x.u,ht _ _ _ hw x.h⟩,hx⟩⟩) id
theorem eW.of_same {o:Oper} {v:Value} {a a':Act} {w:World} (hy:eW P ops E o v a w) (he:execOp a'.eval o=execOp a.eval o)
  (hw:Region.wanted o (yielded ops a'.tmps)=Region.wanted o (yielded ops a.tmps)):eW P ops E o v a' w:=by
 unfold eW Oper.quietAt at *;rw[he,hw];exact hy
theorem bX0 {o:Oper} {v:Value} {a:Act} {w:World} {K:Act->World->Prop} (h:o.quietAt P a (λw3=>w3=w) w v) (hk:K (a.put o.dst v) w):o.wp P a w K Q:=by
 unfold Oper.quietAt at h;unfold Oper.wp;generalize (execOp a.eval o).run P w=r at *
 cases r with
 | ok n w' =>
  cases n<;>simp only[Oper.quietUpon]at h<;>simp only[Oper.upon]
  case value u =>
   obtain⟨e1,e2⟩:=h;rw[e1,e2];exact hk
  case skip =>
   obtain⟨e1,e2⟩:=h;rw[e1,<-e2];exact hk
  case enter f args =>
   obtain⟨e1,hc⟩:=h;rw[e1];exact hc.mono λe lq ⟨he,hy⟩=>by subst he;subst hy;exact hk
 | halt x w'=>simp only[Oper.quietUpon]at h
theorem eW.wpOp {i:Nat} {o:Oper} {v:Value} {a:Act} {w:World} (hr:E w w) (hi:ops[i]?=some o) (hy:eW P ops E o v a w)
  {K:Act->World->Prop} (h:K (a.put o.dst v) w):wpOp P ops Q i K a w:=by
 unfold Go.wpOp;simp only[hi];rcases hy with ⟨hw,hv⟩|⟨hw,rfl⟩
 ·simp only[hw,if_true];exact .inl (bX0 (hv w ⟨⟨w,hr⟩,rfl⟩) h)
 ·simp only[hw,Ai,if_false];exact h
theorem pZ0 {j:Nat} {oi oj:Oper} {v:Value} (hj:ops[j]?=some oj) (hap:oi.apart ops oj=true)
  (mi:∀cs b,oi.op ≠ .select cs b) (hsj:∀cs b,oj.op ≠ .select cs b)
  (hQ:∀d v c a w,Q (.panic c) (a.put d v) w->Q (.panic c) a w) {K:Act->World->Prop} {a:Act} {w wb:World}
  (hy:eW P ops E oi v a wb) (h:wpOp P ops Q j K (a.put oi.dst v) w) :
  wpOp P ops Q j (λa' w'=>eW P ops E oi v a' wb/\K (a'.put oi.dst v) w') a w:=by
 obtain⟨h1,h2,h3⟩:=Oper.apart_spec hap
 have keep:∀(a:Act),eW P ops E oi v a wb->∀u,eW P ops E oi v (a.put oj.dst u) wb:=λa hy u =>
  hy.of_same (execOp_put oi mi a oj.dst u h3) (wanted_put oi a oj.dst u h3)
 have zp:∀d,eW P ops E oi v { a with defers:=d::a.defers } wb:=λd=>hy.of_same rfl rfl
 unfold wpOp at *;simp only[hj] at *;rw[wanted_put oj a oi.dst v h1]at h;split
 ·rename_i hw
  simp only[hw,if_true]at h;rcases h with h|⟨qm,zq⟩
  case inr=>exact .inr ⟨by unfold Oper.asks at *;rw[execOp_put oj hsj a oi.dst v h1]at qm;exact qm,zq⟩
  refine .inl ?_;unfold Oper.wp at *;rw[execOp_put oj hsj a oi.dst v h1]at h;generalize (execOp a.eval oj).run P w=r at *
  cases r with
  | ok n w' =>
   cases n<;>simp only[Oper.upon]at h ⊢
   case value u=>exact⟨keep a hy u,by rw[<-Act.put_comm a v u h2];exact h⟩
   case skip=>exact⟨keep a hy _,by rw[<-Act.put_comm a v undef h2];exact h⟩
   case defer d =>
    refine⟨keep _ (zp d) _,?_⟩;rw[<-Act.put_comm _ v undef h2,<-Act.put_defers];exact h
   case enter f args =>
    refine Calls.mono h λe lq he=>?_
    cases e with
    | returned u=>exact⟨keep a hy u,by rw[<-Act.put_comm a v u h2];exact he⟩
    | panicked c=>exact hQ _ _ _ _ _ he
    | outgrown=>exact he
   case row row args=>exact Rows.mono h λu lq he=>⟨keep a hy u,by rw[<-Act.put_comm a v u h2];exact he⟩
  | halt x w' =>
   cases x<;>simp only[Oper.upon]at h ⊢
   case panic u=>exact hQ _ _ _ _ _ h
 ·rename_i hw
  simp only[hw]at h;exact⟨keep a hy _,by rw[<-Act.put_comm a v undef h2];exact h⟩
theorem tG (hr:∀w,E w w) (ht:∀a b c,E a b->E b c->E a c) {i:Nat} {oi:Oper} {v:Value} (hi:ops[i]?=some oi) (zr:∀(j:Nat) (o:Oper) cs b,ops[j]?=some o->o.op ≠ .select cs b)
  (hQ:∀d v c a w,Q (.panic c) (a.put d v) w->Q (.panic c) a w) :
  ∀(ct:Nat) (ag:Array Bool) (a:Act) (w:World),lM md ops ag ->
   (∀j oj,ops[j]?=some oj->j≠i->ag.getD j true=false->(∀e∈oj.after,Region.binds md e=true->e.on≠i)->oi.apart ops oj=true) ->
   i∈Region.ready md ops ag->eW P ops E oi v a w ->
   uW P md ops Q E ct (ag.setIfInBounds i true) (a.put oi.dst v) w->uW P md ops Q E (ct+1) ag a w:=by
 intro ct
 induction ct with
 | zero =>
  intro ag a w _ _ ic hy H;refine⟨λh=>(by rw[h]at ic;cases ic),λj hj=>?_⟩;by_cases i6:j=i
  ·subst i6;exact hy.wpOp (hr _) hi (.inl ⟨hr _,H⟩)
  ·have:=ready_mono hj i6
   rw[H.1]at this;cases this
 | succ ct ih =>
  intro ag a w fu qn ic hy H;refine⟨λh=>(by rw[h]at ic;cases ic),λj hj=>?_⟩;by_cases i6:j=i
  ·subst i6;exact hy.wpOp (hr _) hi (.inl ⟨hr _,H⟩)
  ·have h1:=H.2 j (ready_mono hj i6)
   obtain⟨zt,oj,hoj,d5⟩:=mem_ready.1 hj
   have adi:∀e∈oj.after,Region.binds md e=true->e.on≠i:=λe he hb mj=>by
    have h1:=d5 e he hb;have h0:=(mem_ready.1 ic).1;rw[mj]at h1;rcases Bh i ag.size with h'|h'
    ·simp[h']at h0 h1;rw[h0]at h1;cases h1
    ·simp[Array.getElem?_eq_none h']at h1
   have h2:=pZ0 hoj (qn j oj hoj i6 zt adi) (λcs b=>zr i oi cs b hi) (λcs b=>zr j oj cs b hoj) hQ hy h1
   have tq:∀k ok,ops[k]?=some ok->k≠i->(ag.setIfInBounds j true).getD k true=false ->
     (∀e∈ok.after,Region.binds md e=true->e.on≠i)->oi.apart ops ok=true:=λk ok hk di hun gj=>by
    refine qn k ok hk di ?_ gj;by_cases jx:j=k
    ·subst jx;exact zt
    ·rw[getD_set_ne true jx]at hun;exact hun
   refine wpOp_mono (λa' w' h3=>?_) h2;rcases h3.2 with h4|h4
   ·refine .inl ⟨h4.1,ih (ag.setIfInBounds j true) a' w' (dY fu hj) tq (ready_mono ic (Ne.symm i6)) (h3.1.later ht h4.1) ?_⟩
    rw[Array.setIfInBounds_comm _ _ i6];exact h4.2
   ·exact(sQ fu ic hj i6 h4.1).elim
theorem dX (hr:∀w,E w w) (ht:∀a b c,E a b->E b c->E a c) (hs:Region.noSelect ops=true)
  (hQ:∀d v c a w,Q (.panic c) (a.put d v) w->Q (.panic c) a w) {g k:Nat}
  (au:∀ag a w,Region.seqB md ops g k ag=true->fin a w->uW P md ops Q E g ag a w) :
  ∀(l:List (Nat×Bool)) (ag:Array Bool) (a:Act) (w:World),lM md ops ag->aK1 md ops g k l ag=true->jA P ops E Q fin l a w->uW P md ops Q E (l.length+g) ag a w
 | [],ag,a,w,_,hB,h=>by rw[List.length_nil,Nat.zero_add];exact au ag a w hB h
 | (i,false)::rest,ag,a,w,fu,hB,h=>by
  simp only[aK1,Al]at hB;obtain⟨⟨ic,hf⟩,zu⟩:=hB;have ou:i∈Region.ready md ops ag:=by simpa using ic
  unfold jA at h;rw[Av,show rest.length+1+g=(rest.length+g)+1 by omega]
  split at h
  ·exact h.elim
  ·rename_i o ho
   split at h
   ·rename_i hw
    simp only[Ai,if_false]at h;obtain⟨v,hv,hk⟩:=h;exact tG hr ht ho (Region.noSelect_spec hs) hQ _ ag a w fu (Region.free_spec ho hf) ou (.inl ⟨hw,hv⟩) (dX hr ht hs hQ au rest _ _ _ (dY fu ou) zu hk)
   ·rename_i hw
    exact tG hr ht ho (Region.noSelect_spec hs) hQ _ ag a w fu (Region.free_spec ho hf) ou (.inr ⟨by simpa using hw,rfl⟩) (dX hr ht hs hQ au rest _ _ _ (dY fu ou) zu h)
 | (i,true)::rest,ag,a,w,fu,hB,h=>by
  simp only[aK1,Al,decide_eq_true_eq]at hB;obtain⟨ic,zu⟩:=hB;rw[Av,show rest.length+1+g=(rest.length+g)+1 by omega]
  refine⟨λh0=>(by rw[h0]at ic;cases ic),λj hj=>?_⟩;have ow:=hj;rw[ic]at hj;have i6:j=i:=by simpa using hj
  subst i6;unfold jA at h;unfold wpOp;split at h
  ·exact h.elim
  ·rename_i o ho
   simp only[ho];split at h
   ·rename_i hw
    simp only[hw,if_true]at h ⊢;exact .inl (Oper.wp_mono (λa' w' h' => .inl ⟨h'.1,dX hr ht hs hQ au rest _ _ _ (dY fu ow) zu h'.2⟩) h)
   ·rename_i hw
    simp only[hw] at ⊢;exact .inl ⟨hr _,dX hr ht hs hQ au rest _ _ _ (dY fu ow) zu h⟩
theorem bN0 (E:World->World->Prop) (l:List (Nat×Bool)) {id:Nat} {a:Act} {w:World} (hr:∀w,E w w) (ht:∀a b c,E a b->E b c->E a c)
  (hm:P.follows .mixedOrders=true) (hB:rQ ops l=true)
  (hQ:∀d v c a w,Q (.panic c) (a.put d v) w->Q (.panic c) a w) (h:jA P ops E Q (Q .normal) l a w.drew):(Code.region id ops true).wp P Q a w:=by
 simp only[rQ,Al,decide_eq_true_eq]at hB;obtain⟨⟨hs,hl⟩,hB⟩:=hB
 have:=dX (md:=.any) (g:=0) (k:=0) hr ht hs hQ (λag a w hB h=>⟨by simpa [Region.seqB] using hB,h⟩) l _ a w.drew (jI _ _) hB h
 rw[Ar,hl]at this;exact wp_region_any hm (nJ _ _ _ _ this)
theorem aI0 (E:World->World->Prop) (k:Nat) (l:List (Nat×Bool)) {id:Nat} {L:List Oper} {a:Act} {w:World} (hr:∀w,E w w) (ht:∀a b c,E a b->E b c->E a c)
  (hm:P.follows .mixedOrders=true) (hB:jX L.toArray k l=true)
  (hQ:∀d v c a w,Q (.panic c) (a.put d v) w->Q (.panic c) a w) (h:jA P L.toArray E Q (wpList P L.toArray Q (L.drop k)) l a w.drew):(Code.region id L.toArray true).wp P Q a w:=by
 simp only[jX,Al,decide_eq_true_eq]at hB;obtain⟨⟨⟨⟨hs,hl⟩,hk⟩,zv⟩,hB⟩:=hB;have hdl:(L.drop k).length=L.toArray.size-k:=by simp
 have:=dX (P:=P) (Q:=Q) (md:=.any) (ops:=L.toArray) (fin:=wpList P L.toArray Q (L.drop k)) (g:=L.toArray.size-k) (k:=k) hr ht hs hQ (λag a w hB h=>by
  obtain⟨g,hg⟩:∃g,L.toArray.size-k=g+1:=⟨L.toArray.size-k-1,by omega⟩
  have ic:Region.ready .any L.toArray ag=[k]:=by
   rw[hg]at hB;simp only[Region.seqB,Al,decide_eq_true_eq]at hB;exact hB.1
  have d5:=wpAny_of_seq (md:=.any) (Q':=Q) (L.drop k) k ag a w (λj=>by simp[List.getElem?_drop]) (by rw[hdl];exact hB) h;rw[hg];refine⟨λh0=>(by rw[h0]at ic;cases ic),λj hj=>?_⟩;have h1:=d5;rw[hdl,hg]at h1;have jx:j=k:=by rw[ic]at hj;simpa using hj
  subst jx;exact wpOp_mono (λa' w' h' => .inr ⟨zv,h'⟩) (h1.2 j hj)) l _ a w.drew (jI _ _) hB h
 rw[hl,show k+(L.toArray.size-k)=L.toArray.size by omega]at this
 exact wp_region_any hm (nJ _ _ _ _ this)
theorem sD0 {i:Nat} {rest:List (Nat×Bool)} {a:Act} {w:World} {o:Oper} (ho:ops[i]?=some o)
  (h:∀K:Act->Prop,(∀a,jA P ops E Q fin rest a w->K a)->if Region.wanted o (yielded ops a.tmps) then aP P o a E w K else K (a.put o.dst undef)):jA P ops E Q fin ((i,false)::rest) a w:=by
 unfold jA;simp only[ho];exact h _ (λ_ h=>h)
theorem yE0 {i:Nat} {rest:List (Nat×Bool)} {a:Act} {w:World} {o:Oper} (ho:ops[i]?=some o)
  (h:∀K:Act->World->Prop,(∀a w,jA P ops E Q fin rest a w->K a w)->if Region.wanted o (yielded ops a.tmps) then o.wp P a w (λa' w'=>E w w'/\K a' w') Q else K (a.put o.dst undef) w):jA P ops E Q fin ((i,true)::rest) a w:=by
 unfold jA;simp only[ho];exact h _ (λ_ _ h=>h)
theorem mJ0 {i:Nat} {rest:List (Nat×Bool)} {a:Act} {w:World} {o:Oper} (ho:ops[i]?=some o) (hw:Region.wanted o (yielded ops a.tmps)=true)
  (h:∀K:Act->World->Prop,(∀a w,jA P ops E Q fin rest a w->K a w)->o.wp P a w (λa' w'=>E w w'/\K a' w') Q):jA P ops E Q fin ((i,true)::rest) a w :=
 yE0 ho λK hK=>by rw[if_pos hw];exact h K hK
structure xQ0 (P:Program) (ops:Array Oper) (E:World->World->Prop) (Q:Exit->Act->World->Prop) (fin:Act->World->Prop) (l:List (Nat×Bool)) (a:Act) (w:World):Prop where
 out:jA P ops E Q fin l a w
theorem nF (E:World->World->Prop) (l:List (Nat×Bool)) {id:Nat} {a:Act} {w:World} (hr:∀w,E w w) (ht:∀a b c,E a b->E b c->E a c)
 (hm:P.follows .mixedOrders=true) (hB:rQ ops l=true)
 (hQ:∀d v c a w,Q (.panic c) (a.put d v) w->Q (.panic c) a w) (h:xQ0 P ops E Q (Q .normal) l a w.drew):(Code.region id ops true).wp P Q a w:=bN0 E l hr ht hm hB hQ h.out
theorem gO0 {P:Program} {Q:Exit->Act->World->Prop} (E:World->World->Prop) (k:Nat) (l:List (Nat×Bool)) {id:Nat} {L:List Oper} {a:Act} {w:World} (hr:∀w,E w w) (ht:∀a b c,E a b->E b c->E a c)
 (hm:P.follows .mixedOrders=true) (hB:jX L.toArray k l=true)
 (hQ:∀d v c a w,Q (.panic c) (a.put d v) w->Q (.panic c) a w) (h:xQ0 P L.toArray E Q (wpList P L.toArray Q (L.drop k)) l a w.drew):(Code.region id L.toArray true).wp P Q a w:=aI0 E k l hr ht hm hB hQ h.out
theorem bH (l:List (Nat×Bool)) {id:Nat} {a:Act} {w:World} (hB:(P.follows .mixedOrders&&rQ ops l)=true)
  (hQ:∀d v c a w,Q (.panic c) (a.put d v) w->Q (.panic c) a w) (h:xQ0 P ops aB Q (Q .normal) l a w.drew):(Code.region id ops true).wp P Q a w :=
 nF aB l aB.refl aB.trans (Bool.and_eq_true_iff.1 hB).1 (Bool.and_eq_true_iff.1 hB).2 hQ h
theorem pD {P:Program} {Q:Exit->Act->World->Prop} (k:Nat) (l:List (Nat×Bool)) {id:Nat} {L:List Oper} {a:Act} {w:World}
  (hB:(P.follows .mixedOrders&&jX L.toArray k l)=true)
  (hQ:∀d v c a w,Q (.panic c) (a.put d v) w->Q (.panic c) a w) (h:xQ0 P L.toArray aB Q (wpList P L.toArray Q (L.drop k)) l a w.drew):(Code.region id L.toArray true).wp P Q a w :=
 gO0 aB k l aB.refl aB.trans (Bool.and_eq_true_iff.1 hB).1 (Bool.and_eq_true_iff.1 hB).2 hQ h
theorem aJ {i:Nat} {rest:List (Nat×Bool)} {a:Act} {w:World} {o:Oper} (ho:ops[i]?=some o)
  (h:∀K:Act->Prop,(∀a,xQ0 P ops E Q fin rest a w->K a)->if Region.wanted o (yielded ops a.tmps) then aP P o a E w K else K (a.put o.dst undef)):xQ0 P ops E Q fin ((i,false)::rest) a w :=
 ⟨sD0 ho λK hK=>h K λa ha=>hK a ha.out⟩
theorem bM {i:Nat} {rest:List (Nat×Bool)} {a:Act} {w:World} {o:Oper} (ho:ops[i]?=some o) (hw:Region.wanted o (yielded ops a.tmps)=true)
  (h:∀K:Act->World->Prop,(∀a w,xQ0 P ops E Q fin rest a w->K a w)->o.wp P a w (λa' w'=>E w w'/\K a' w') Q):xQ0 P ops E Q fin ((i,true)::rest) a w :=
 ⟨mJ0 ho hw λK hK=>h K λa w ha=>hK a w ha.out⟩
theorem bN {a:Act} {w:World} (h:fin a w):xQ0 P ops E Q fin [] a w:=⟨h⟩
end
theorem dN0 {P:Program} {f:FuncId} {args:Array Value} {w:World} {v:Value} (h:Calls P f args w λe w'=>e=.returned v/\w=w'):Calls P f args w λe lq=>e=.returned v/\lq=w:=h.mono λ_ _ ⟨he,hw⟩=>⟨he,hw.symm⟩
theorem mR {B:Nat} {w:World} {p:Addr} {v:Value} (hb:p.block<B) (hc:w.cell? p=some v) (x:Ext (EB B) w):x.u.cell? p=some v:=by
 rw[Below.cell x.h.1 hb];exact hc
end
section
open Go Go.RowKit
theorem fY {α:Type} {enc:α->List Value} {k:Nat} (hk:∀x,(enc x).length=k) {w:World} {e:TypeId} {base n:Nat} (hb:base<=w.heap.size) (xs:List α) {cs:Array Value} (dz:cs.toList=xs.flatMap enc) (hn:xs.length=n) (hl:n<=maxLen) :
  aO (w.alloc (.cells cs e)) base e k enc (.slice (some ⟨w.heap.size,0,none⟩) n n) xs:=by
 subst hn;have ay:=fO hk xs;refine⟨ay,Or.inr ⟨w.heap.size,xs.length,cs,rfl,hb,?_,Ac _,hl,?_,?_⟩⟩
 ·show (w.heap.push _)[w.heap.size]?=_
  simp
 ·rw[<-Array.length_toList,dz,ay]
 ·rw[dz,<-ay,Aw]
def jR (n:Nat):List Value:=[.int .u64 n]
def jJ (b:Bool):List Value:=[.bool b]
def jP (n:Nat):List Value:=[.int .i64 n]
def stC (s:ByteArray):List Value:=[.string s]
theorem gC:eG Tryz.prog 168 142 1 8 jR where
 sl:=Tryz.underlying168
 info:=eY (z:=.int .u64 0) (by kernel_rfl) rfl
 pos:=by decide
 by1:=by decide
 len _:=rfl
 one x u hu:=by
  simp[jR]at hu;subst hu;rfl
theorem fF:eG Tryz.prog 121 4 1 1 jJ where
 sl:=Tryz.underlying121
 info:=eY (z:=.bool false) (by kernel_rfl) rfl
 pos:=by decide
 by1:=by decide
 len _:=rfl
 one x u hu:=by
  simp[jJ]at hu;subst hu;rfl
theorem pU0:eG Tryz.prog 63 3 1 8 jP where
 sl:=Tryz.underlying63
 info:=eY (z:=.int .i64 0) (by kernel_rfl) rfl
 pos:=by decide
 by1:=by decide
 len _:=rfl
 one x u hu:=by
  simp[jP]at hu;subst hu;rfl
theorem bP0:eG Tryz.prog 71 9 1 16 stC where
 sl:=Tryz.underlying71
 info:=eY (z:=.string ByteArray.empty) (by kernel_rfl) rfl
 pos:=by decide
 by1:=by decide
 len _:=rfl
 one x u hu:=by
  simp[stC]at hu;subst hu;rfl
theorem at1 {α:Type} {w:World} {a:Option Addr} {xs:List α} {f:α->Value} (h:aF w a 1 (xs.map λx=>[f x])) (hn:xs≠[]):∃b o,a=some ⟨b,o,none⟩/\∀k x,xs[k]?=some x->w.cell? ⟨b,o+k,none⟩=some (f x):=by
 obtain⟨b,o,ha,hc⟩:=aF.get (enc:=λx=>[f x]) h hn;exact⟨b,o,ha,λk x hx=>by simpa using hc k x hx 0 _ rfl⟩
end
section
open Go Go.RowKit
attribute [local go_sem] aM aP
theorem uU (x V:Nat):(x:Int)/2^V=((x>>>V:Nat):Int):=by rw[As]; push_cast; rfl
theorem eU1 (x V:Nat):((x:Int)/2^V != 0)=decide (V<bitLen x):=by
 rw[uU,Be];simp only[bne_iff_ne,ne_eq,decide_eq_true_eq]
 have:=kP0 (n:=x) (w:=V)
 omega
theorem tF0 (l:List Nat) (a:Option Addr) (c:Nat) (w:World) (hl:l.length<=1099511627776) (hn:∀n∈l,n<18446744073709551616) (ah:aF w a 1 (l.map jR)) :
  Calls Tryz.prog 185 #[.slice a l.length c] w λe w'=>e=.returned (.int .i64 (gU l))/\w=w':=by
 have HAT:=Ad ah;have HN:=Ad hn;clear ah hn;go_enter Tryz.func185,Tryz.ntmps185
 go_wp2
 go_loop [3,4] (λv i=>∃k W:Nat,k<=l.length/\i=.int .i64 k/\v=.int .i64 W/\Hid (W=gU (l.take k))) (λ_ i=>l.length-(intOf i).toNat)
 case atStart=>exact⟨0,0,Aj _,rfl,rfl,rfl⟩
 case round =>
  obtain⟨k,W,hk,rfl,rfl,hW⟩:=hrel;by_cases af:k<l.length
  ·obtain⟨x,hx⟩:∃x,l[k]?=some x:=⟨_,Af af⟩
   obtain⟨b,o,rfl,hc⟩:=HAT.out.get (aH af);have jy:w.cell? ⟨b,o+k,none⟩=some (.int .u64 x):=by simpa using hc k x hx 0 _ rfl
   have l6:=HN.out x (List.mem_of_getElem? hx);have HX:Hid (gU (l.take (k+1))=max W (bitLen x)):=by show _=_;rw[aY hx,yB0,<-hW.out]
   have aj7:bitLen x<=64:=gF.2 l6
   have fy:W<=64:=by
    rw[hW.out];exact lP.2 (λn hn=>HN.out n (List.mem_of_mem_take hn))
   clear hc hx hW;go_wp2
   go_loop [3] (λv=>∃V:Nat,W<=V/\V<=max W (bitLen x)/\v=.int .i64 V) (λv=>64-(intOf v).toNat)
   case atStart=>exact⟨W,Ac _,by omega,rfl⟩
   case round =>
    obtain⟨V,hV1,qg,rfl⟩:=hrel;by_cases ky:V<64
    ·have m5:(V:Int)<64:=by omega
     by_cases afm:V<bitLen x
     ·have hs:((x:Int)/2^V != 0)=true:=by rw[eU1];simpa using afm
      go_wp2
      go_round
      case rel=>exact⟨V+1,by omega,by omega,by go_num⟩
      case measure=>simp[intOf];omega
     ·have hs:((x:Int)/2^V != 0)=false:=by rw[eU1];simpa using afm
      have HV:Hid (V=max W (bitLen x)):=by show V=_;omega
      go_wp2
      go_round
      case rel=>exact⟨k+1,V,af,by go_num,rfl,by show V=_;rw[HX.out];exact HV.out⟩
      case measure=>simp[intOf];omega
    ·have m5:¬(V:Int)<64:=by omega
     have HV:Hid (V=max W (bitLen x)):=by show V=_;omega
     go_wp2
     go_round
     case rel=>exact⟨k+1,V,af,by go_num,rfl,by show V=_;rw[HX.out];exact HV.out⟩
     case measure=>simp[intOf];omega
  ·have fw:k=l.length:=by omega
   have au:W=gU l:=by rw[hW.out,fw,Aw]
   subst au;go_wp2
   go_ret;exact⟨rfl,rfl⟩
theorem iJ0 (x:Nat):Aa (x%256)=Aa x:=by
 apply UInt8.toNat_inj.1
 rw[Ae,Ae];omega
theorem zR (x:Nat):[Value.int .u8 ((x:Int)%256)]=aQ (Aa x):=by
 unfold aQ;rw[Ae];congr 2
theorem nE0 {x:Nat} (h:x<256):[Value.int .u8 (x:Int)]=aQ (Aa x):=by
 unfold aQ;rw[Ae,Ax h]
theorem jV0 (n w:Nat) (hw:w<=64):(#[Value.int .u8 ((n:Int)%256),.int .u8 ((n:Int)/256%256),.int .u8 ((n:Int)/65536%256),.int .u8 ((n:Int)/16777216%256),.int .u8 (w:Int)]:Array Value).toList=(leB 4 n++[Aa w]).flatMap aQ:=by
 have h:leB 4 n=[Aa n,Aa (n/256),Aa (n/65536),Aa (n/16777216)]:=by
  unfold leB;simp[Az]
 rw[h,qB];simp only[List.cons_append,Ay,List.map_cons,List.map_nil,Ae];rw[Ax (show w<2^8 by omega)]
 congr 1
structure bH0 (l:List Nat) (W p v c:Nat) (acc:List UInt8):Prop where
 v:v=dG (bitAt l W) (8*(p/8)) (p%8)
 c:c=p%8
 acc:acc=leB 4 l.length++[Aa W]++yM (bitAt l W) p
theorem bH0.lt {l:List Nat} {W p v c:Nat} {acc:List UInt8} (h:bH0 l W p v c acc):v<2^c/\c<8:=by
 rw[h.v,h.c];exact⟨gV _ _ _,by omega⟩
theorem bH0.start (l:List Nat) (W:Nat):bH0 l W 0 0 0 (leB 4 l.length++[Aa W]):=⟨rfl,rfl,by simp[yM]⟩
theorem bH0.more {l:List Nat} {W p v c:Nat} {acc:List UInt8} (h:bH0 l W p v c acc) (h8:c≠7):bH0 l W (p+1) (v+if bitAt l W p then 2^c else 0) (c+1) acc:=by
 have hc:=h.c;refine⟨?_,by omega,?_⟩
 ·rw[h.v,hc,bZ0,show (p+1)/8=p/8 by omega,show (p+1)%8=p%8+1 by omega]
 ·rw[h.acc,rO0 (by omega)]
theorem bH0.full {l:List Nat} {W p v c:Nat} {acc:List UInt8} (h:bH0 l W p v c acc) (h8:c=7):bH0 l W (p+1) 0 0 (acc++[Aa (v+if bitAt l W p then 2^c else 0)]):=by
 have hc:=h.c;refine⟨?_,by omega,?_⟩
 ·rw[show (p+1)%8=0 by omega];rfl
 ·rw[h.acc,qH0 (by omega),h.v,hc,bZ0,show p%8+1=8 by omega]
  simp
theorem bH0.end0 {l:List Nat} {v:Nat} {acc:List UInt8} (h:bH0 l (gU l) (l.length*gU l) v 0 acc):acc=cG l:=by
 have hc:=h.c;unfold cG;rw[h.acc,iS0,if_pos (by omega),Ao]
theorem bH0.end1 {l:List Nat} {v c:Nat} {acc:List UInt8} (h:bH0 l (gU l) (l.length*gU l) v c acc) (h0:0<c):acc++[Aa v]=cG l:=by
 have hc:=h.c;unfold cG;rw[h.acc,iS0,if_neg (by omega),h.v];simp
theorem bH0.len {l:List Nat} {W p v c:Nat} {acc:List UInt8} (h:bH0 l W p v c acc):acc.length=5+p/8:=by
 rw[h.acc];simp[cE,yM];omega
theorem cN1 (x k:Nat):(((x:Int)/2^k).tmod 2==1)=x.testBit k:=by
 rw[uU,Int.tmod_eq_emod_of_nonneg (Int.natCast_nonneg _),Be];simp only[beq_iff_eq];rw[Nat.testBit_eq_decide_div_mod_eq,As,decide_eq_true_eq];omega
theorem xV {l:List Nat} {W k t x:Nat} (hx:l[k]?=some x) (ht:t<W):bitAt l W (k*W+t)=x.testBit t:=by
 unfold bitAt
 have h1:(k*W+t)/W=k:=by
  rw[Bd,Nat.mul_add_div (by omega),Nat.div_eq_of_lt ht,Ar]
 have h2:(k*W+t)%W=t:=by rw[Bd,Nat.mul_add_mod,Ax ht]
 rw[h1,h2,Ak,hx];rfl
theorem jG (l:List Nat) (a:Option Addr) (c:Nat) (w:World) (hl:l.length<=1099511627776) (hn:∀n∈l,n<18446744073709551616) (ah:aF w a 1 (l.map jR)) :
  Calls Tryz.prog 124 #[.slice a l.length c] w λe w'=>∃v,e=.returned v/\aO w' w.heap.size 5 1 aQ v (cG l)/\aB w w':=by
 have CW:=Ad (tF0 l a c w hl hn ah);have HAT:=Ad ah;have fy:gU l<=64:=lP.2 hn;obtain⟨W,hWe⟩:=exq (gU l);rw[<-hWe]at CW fy;have HW:=Ad hWe;clear ah hWe hn;go_enter Tryz.func124,Tryz.ntmps124
 go_wp2_with fail
 refine CW.out.mono ?_;rintro e w1 ⟨rfl,rfl⟩;have HH:=Ad (jV0 l.length W fy);go_wp2_with fail
 have dx:=fY (enc:=aQ) (e:=5) (w:=w) (base:=w.heap.size) (λ_=>rfl) (Ac _) (leB 4 l.length++[Aa W]) HH.out (n:=5) (by simp[cE]) (by decide);have ij:aB w (w.alloc (.cells #[.int .u8 ((l.length:Int)%256),.int .u8 ((l.length:Int)/256%256),.int .u8 ((l.length:Int)/65536%256),.int .u8 ((l.length:Int)/16777216%256),.int .u8 (W:Int)] 5)):=aB.alloc _ _;go_loopw [5,6,7,8] (λout v c i wr=>∃(k V C:Nat) (acc:List UInt8),k<=l.length/\i=.int .i64 k/\v=.int .i64 V/\c=.int .i64 C/\V<256/\C<8/\aO wr w.heap.size 5 1 aQ out acc/\Hid (bH0 l W (k*W) V C acc)/\aB w wr) (λ_ _ _ i _=>l.length-(intOf i).toNat)
 case atStart=>exact⟨0,0,0,_,Aj _,rfl,rfl,rfl,by decide,by decide,dx,by rw[Nat.zero_mul];exact bH0.start l W,ij⟩
 case round =>
  obtain⟨k,V,C,acc,hk,rfl,rfl,rfl,hV,hC,ae,ak,hg⟩:=hrel;by_cases af:k<l.length
  ·obtain⟨x,hx⟩:∃x,l[k]?=some x:=⟨_,Af af⟩
   obtain⟨b,o,rfl,hc⟩:=at1 HAT.out (aH af);have jy:=hc k x hx;have HX:=Ad hx;clear hc hx;go_wp2_with fail
   obtain⟨u0,rfl⟩:=exq wr;go_loopw [5,6,7,9] (λout v c t wr=>∃(q V C:Nat) (acc:List UInt8),q<=W/\t=.int .i64 q/\v=.int .i64 V/\c=.int .i64 C/\V<256/\C<8/\aO wr w.heap.size 5 1 aQ out acc/\Hid (bH0 l W (k*W+q) V C acc)/\aB w wr) (λ_ _ _ t _=>W-(intOf t).toNat)
   case atStart=>exact⟨0,V,C,acc,Aj _,rfl,rfl,rfl,hV,hC,ae,ak.out,hg⟩
   case round =>
    obtain⟨q,V,C,acc,hq,rfl,rfl,rfl,hV,hC,ae,ak,hg⟩:=hrel;have lh:wr.cell? ⟨b,o+k,none⟩=some (.int .u64 x):=hg.cell jy;by_cases hqW:q<W
    ·have zf:=cN1 x q
     have HB:=Ad (xV (W:=W) HX.out hqW)
     have li:acc.length<=20000000000000:=by
      have h1:=ak.out.len;have h2:k*W<=1099511627776*64:=Bf (by omega) fy;omega
     have hVC:=ak.out.lt.1;have h2C:2^C<=128:=An (n:=2) (by decide) (show C<=7 by omega)
     obtain⟨S,hS⟩:∃S,2^C=S:=⟨_,rfl⟩;have hSi:(2:Int)^C=S:=by rw[<-hS];push_cast;rfl
     cases hb:x.testBit q
     ·rw[hb]at zf HB
      by_cases h7:C=7
      ·subst h7
       have HN:=Ad (ak.out.full rfl);rw[HB.out]at HN;have HBY:=Ad (nE0 hV);go_wp2_with (at_builtin;refine dQ aR rfl _ _ rfl w.heap.size _ acc (Aa V) rfl ae (aB.refl _) _ 1 rfl _ (by exact HBY.out) rfl (by omega) hg.size ?_;intro v' w5 ai bg)
       go_roundw
       case rel=>exact⟨q+1,0,0,_,hqW,by go_num,rfl,rfl,by decide,by decide,ai,HN.out,bg w hg (Ac _)⟩
       case measure=>simp[intOf];omega
      ·have HN:=Ad (ak.out.more h7)
       rw[HB.out]at HN;have h7i:((C:Int)+1==8)=false:=by rw[beq_eq_false_iff_ne];omega
       go_wp2_with fail
       go_roundw
       case rel=>exact⟨q+1,V,C+1,acc,hqW,by go_num,rfl,by go_num,hV,by omega,ae,HN.out,hg⟩
       case measure=>simp[intOf];omega
     ·rw[hb]at zf HB
      by_cases h7:C=7
      ·subst h7
       have HN:=Ad (ak.out.full rfl);rw[HB.out]at HN;simp only[if_true]at HN;rw[hS]at HN;have hS7:S=128:=by rw[<-hS]
       have HBY:Hid ([Value.int .u8 ((V:Int)+S)]=aQ (Aa (V+S))):=by
        have h1:=nE0 (x:=V+S) (by omega);push_cast at h1
        exact h1
       clear hS7;go_wp2_with (at_builtin;refine dQ aR rfl _ _ rfl w.heap.size _ acc (Aa (V+S)) rfl ae (aB.refl _) _ 1 rfl _ (by exact HBY.out) rfl (by omega) hg.size ?_;intro v' w5 ai bg)
       go_roundw
       case rel=>exact⟨q+1,0,0,_,hqW,by go_num,rfl,rfl,by decide,by decide,ai,HN.out,bg w hg (Ac _)⟩
       case measure=>simp[intOf];omega
      ·have HN:=Ad (ak.out.more h7)
       rw[HB.out]at HN;simp only[if_true]at HN;rw[hS]at HN
       have hVS:V+S<256:=by
        have h1:=HN.out.lt.1;have h2:2^(C+1)<=128:=An (n:=2) (by decide) (show C+1<=7 by omega)
        omega
       have h7i:((C:Int)+1==8)=false:=by rw[beq_eq_false_iff_ne];omega
       go_wp2_with fail
       go_roundw
       case rel=>exact⟨q+1,V+S,C+1,acc,hqW,by go_num,by go_num,by go_num,hVS,by omega,ae,HN.out,hg⟩
       case measure=>simp[intOf];omega
    ·have hqe:q=W:=by omega
     have HN:Hid (bH0 l W ((k+1)*W) V C acc):=by show bH0 _ _ _ _ _ _;rw[Bi];have h1:=ak.out;rw[hqe]at h1;exact h1
     have hqi:¬(q:Int)<W:=by omega
     clear hqe;go_wp2_with fail
     go_roundw
     case rel=>exact⟨k+1,V,C,acc,af,by go_num,rfl,rfl,hV,hC,ae,HN.out,hg⟩
     case measure=>simp[intOf];omega
  ·have fw:k=l.length:=by omega
   have di:¬(k:Int)<l.length:=by omega
   have HP:Hid (bH0 l (gU l) (l.length*gU l) V C acc):=by show bH0 _ _ _ _ _ _;rw[<-HW.out,<-fw];exact ak.out
   clear fw ak;by_cases h0:C=0
   ·subst h0
    have HF:=Ad HP.out.end0;go_wp2_with fail
    go_ret;exact⟨_,rfl,by rw[<-HF.out];exact ae,hg⟩
   ·have tj:(0:Int)<C:=by omega
    have HF:=Ad (HP.out.end1 (by omega))
    have li:acc.length<=20000000000000:=by
     have h1:=HP.out.len;have h2:l.length*gU l<=1099511627776*64:=Bf (by omega) (by rw[<-HW.out];exact fy);omega
    have HBY:=Ad (nE0 hV);go_wp2_with (at_builtin;refine dQ aR rfl _ _ rfl w.heap.size _ acc (Aa V) rfl ae (aB.refl _) _ 1 rfl _ (by exact HBY.out) rfl (by omega) hg.size ?_;intro v' w5 ai bg)
    go_ret;exact⟨_,rfl,by rw[<-HF.out];exact ai,bg w hg (Ac _)⟩
theorem fT0 (v0:Value) (pre:List UInt8) (n many:Nat) (w0 w:World) (ij:aB w0 w) (hn:n<18446744073709551616) (hm:many<=8) (hp:pre.length<=100000000000000) (dx:aO w w0.heap.size 5 1 aQ v0 pre) :
  Calls Tryz.prog 242 #[v0,.int .u64 n,.int .i64 many] w λe w'=>∃v,e=.returned v/\aO w' w0.heap.size 5 1 aQ v (pre++leB many n)/\aB w0 w':=by
 go_enter Tryz.func242,Tryz.ntmps242
 go_wp2_with fail
 go_loopw [0,1,7] (λb v i wr=>∃(k m:Nat) (acc:List UInt8),k<=many/\i=.int .i64 k/\v=.int .u64 m/\m<18446744073709551616/\acc.length<=pre.length+k/\aO wr w0.heap.size 5 1 aQ b acc/\Hid (acc++leB (many-k) m=pre++leB many n)/\aB w0 wr) (λ_ _ i _=>many-(intOf i).toNat)
 case atStart=>exact⟨0,n,pre,Aj _,rfl,rfl,hn,by omega,dx,rfl,ij⟩
 case round =>
  obtain⟨k,m,acc,hk,rfl,rfl,ads,li,ae,ak,hg⟩:=hrel;by_cases af:k<many
  ·have di:(k:Int)<many:=by omega
   have HN:Hid ((acc++[Aa m])++leB (many-(k+1)) (m/256)=pre++leB many n):=by
    show _=_
    rw[<-ak.out,show many-k=(many-(k+1))+1 by omega,cT1]
    simp
   have HB:=Ad (zR m);go_wp2_with (at_builtin;refine dQ aR rfl _ _ rfl w0.heap.size _ acc (Aa m) rfl ae (aB.refl _) _ 1 rfl _ (by exact HB.out) rfl (by omega) hg.size ?_;intro v' w5 ai bg)
   go_roundw
   case rel=>exact⟨k+1,m/256,_,af,by go_num,by go_num,by omega,by simp;omega,ai,HN.out,bg w0 hg (Ac _)⟩
   case measure=>simp[intOf];omega
  ·have di:¬(k:Int)<many:=by omega
   have HF:Hid (acc=pre++leB many n):=by
    show _=_
    rw[<-ak.out,show many-k=0 by omega]
    simp[leB]
   clear ak;go_wp2_with fail
   go_ret;exact⟨_,rfl,by rw[<-HF.out];exact ae,hg⟩
theorem pS0 (l:List Bool) (a:Option Addr) (c i:Nat) (w:World) (_:l.length<=1099511627776) (ah:aF w a 1 (l.map jJ)) :
  Calls Tryz.prog 243 #[.slice a l.length c,.int .i64 i] w λe w'=>e=.returned (.bool (fQ l i))/\w=w':=by
 by_cases af:i<l.length
 ·obtain⟨x,hx⟩:∃x,l[i]?=some x:=⟨_,Af af⟩
  obtain⟨b,o,rfl,hc⟩:=at1 ah (aH af);have jy:=hc i x hx;have HX:Hid (fQ l i=x):=by show _=_;unfold fQ;rw[Ak,hx];rfl
  have hli:(i:Int)<l.length:=by omega
  clear hc hx ah;go_enter Tryz.func243,Tryz.ntmps243
  go_wp2
  go_ret;exact⟨by rw[HX.out];rfl,rfl⟩
 ·have HX:Hid (fQ l i=false):=wR0 (by omega)
  have hli:¬(i:Int)<l.length:=by omega
  go_enter Tryz.func243,Tryz.ntmps243
  go_wp2
  go_ret;exact⟨by rw[HX.out];rfl,rfl⟩
def lG (l:List Bool) (k:Nat):List UInt8:=(((Bo k).map (tF l)).map (leB 8)).flatten
theorem hT0 (l:List Bool) (k:Nat):lG l (k+1)=lG l k++leB 8 (tF l k):=by
 unfold lG;rw[Az,Ap,Ap,Bb];simp
def iU (l:List Bool) (k:Nat):List UInt8:=(((Bo k).map λg=>fE l (512*g)).map (leB 4)).flatten
theorem gA0 (l:List Bool) (k:Nat):iU l (k+1)=iU l k++leB 4 (fE l (512*k)):=by
 unfold iU;rw[Az,Ap,Ap,Bb];simp
theorem zD (l:List Bool) (k:Nat):(lG l k).length=8*k:=by
 unfold lG;rw[jF];simp
theorem jK0 (l:List Bool) (k:Nat):(iU l k).length=4*k:=by
 unfold iU;rw[jF];simp
theorem iJ1 (l:List Bool):fE0 l=leB 4 l.length++lG l ((l.length+63)/64)++iU l ((l.length+511)/512):=rfl
theorem pX0 (l:List Bool) (a:Option Addr) (c:Nat) (w:World) (hl:l.length<=1099511627776) (ah:aF w a 1 (l.map jJ)) :
  Calls Tryz.prog 184 #[.slice a l.length c] w λe w'=>∃v,e=.returned v/\aO w' w.heap.size 5 1 aQ v (fE0 l)/\aB w w':=by
 have HAT:=Ad ah;clear ah;go_enter Tryz.func184,Tryz.ntmps184
 go_wp2_with fail
 refine(fT0 (.slice none 0 0) [] l.length 4 w w (aB.refl _) (by omega) (by decide) (by simp) (aO.nil _ _ _ _ _)).mono ?_;rintro e w1 ⟨v1,rfl,ax,aq⟩;rw[Ay]at ax;go_wp2_with fail
 go_loopw [3,4] (λout i wr=>∃(q k:Nat) (acc:List UInt8),Hid (k=64*q/\q<=(l.length+63)/64/\acc=leB 4 l.length++lG l q)/\i=.int .i64 k/\aO wr w.heap.size 5 1 aQ out acc/\aB w wr) (λ_ i _=>l.length+64-(intOf i).toNat)
 case atStart=>exact⟨0,0,_,⟨rfl,Aj _,by simp[lG]⟩,rfl,ax,aq⟩
 case round =>
  obtain⟨q,k,acc,ak,rfl,ae,hg⟩:=hrel;obtain⟨hk,hq,bk⟩:=ak.out;by_cases af:k<l.length
  ·have di:(k:Int)<l.length:=by omega
   have li:acc.length<=1000000000000:=by rw[bk,Ab,cE,zD];omega
   have HK:=Ad hk;have HACC:=Ad bk;clear hk hq bk ak;go_wp2_with fail
   obtain⟨u0,rfl⟩:=exq wr;go_loopw [5,6] (λv t wr=>∃(m V:Nat),m<=64/\t=.int .i64 ((m:Int)-1)/\v=.int .u64 V/\Hid (V=dG (fQ l) (k+m) (64-m))/\u0=wr) (λ_ t _=>(intOf t+1).toNat)
   case atStart=>exact⟨64,0,Ac _,rfl,rfl,rfl,rfl⟩
   case round =>
    obtain⟨m,V,hm,rfl,rfl,hV,rfl⟩:=hrel;by_cases hm0:m=0
    ·subst hm0
     have HV:Hid (V=tF l q):=by show _=_;rw[hV.out,HK.out];rfl
     have ah8:V<18446744073709551616:=by rw[HV.out];exact uR l q
     clear hV;go_wp2_with fail
     refine(fT0 _ acc V 8 w u0 hg ah8 (by decide) (by omega) ae).mono ?_;rintro e w2 ⟨v2,rfl,aj,an⟩;have HN:Hid (acc++leB 8 V=leB 4 l.length++lG l (q+1)):=by show _=_;rw[HACC.out,hT0,HV.out,Ah]
     go_wp2_with fail
     go_roundw
     case rel=>exact⟨q+1,k+64,_,⟨by have:=HK.out;omega,by have:=HK.out;omega,HN.out⟩,by go_num,aj,an⟩
     case measure=>simp[intOf];omega
    ·obtain⟨p,rfl⟩:∃p,m=p+1:=⟨m-1,by omega⟩
     have HV2:Hid (2*V+(if fQ l (k+p) then 1 else 0)=dG (fQ l) (k+p) (64-p)):=by
      show _=_
      rw[show 64-p=(64-(p+1))+1 by omega]
      exact sP0 _ _ (k:=p) hV.out
     have acz:2*V+(if fQ l (k+p) then 1 else 0)<18446744073709551616:=by
      rw[HV2.out];exact Nat.lt_of_lt_of_le (gV _ _ _) (An (n:=2) (by decide) (show 64-p<=64 by omega))
     have hpi:((p+1:Nat):Int)-1=p:=by omega
     rw[hpi];have ah:=HAT.out.grows hg;cases hb:fQ l (k+p)
     ·rw[hb]at HV2 acz
      simp only[Ai,if_false,Ar]at HV2 acz;have qg:V<9223372036854775808:=by omega
      have fm:=pS0 l a c (k+p) u0 hl ah;rw[hb]at fm;go_wp2_with fail
      refine fm.mono ?_;rintro e w2 ⟨rfl,rfl⟩;go_wp2_with fail
      go_roundw
      case rel=>exact⟨p,2*V,by omega,by go_num,by go_num,HV2.out,(by trivial)⟩
      case measure=>simp[intOf]
     ·rw[hb]at HV2 acz
      simp only[if_true]at HV2 acz;have qg:V<9223372036854775808:=by omega
      have fm:=pS0 l a c (k+p) u0 hl ah;rw[hb]at fm;go_wp2_with fail
      refine fm.mono ?_;rintro e w2 ⟨rfl,rfl⟩;go_wp2_with fail
      go_roundw
      case rel=>exact⟨p,2*V+1,by omega,by go_num,by go_num,HV2.out,(by trivial)⟩
      case measure=>simp[intOf]
  ·have di:¬(k:Int)<l.length:=by omega
   have HACC:Hid (acc=leB 4 l.length++lG l ((l.length+63)/64)):=by show _=_;rw[bk,show q=(l.length+63)/64 by omega]
   clear hk hq bk ak;go_wp2_with fail
   obtain⟨u0,rfl⟩:=exq wr;go_loopw [3,7,8] (λout n i wr=>∃(N k:Nat) (cq:List UInt8),k<=l.length/\n=.int .i64 N/\i=.int .i64 k/\Hid (N=fE l k/\cq=acc++iU l ((k+511)/512))/\aO wr w.heap.size 5 1 aQ out cq/\aB w wr) (λ_ _ i _=>l.length-(intOf i).toNat)
   case atStart=>exact⟨0,0,acc,Aj _,rfl,rfl,⟨rfl,by simp[iU]⟩,ae,hg⟩
   case round =>
    obtain⟨N,k,cq,hk,rfl,rfl,ak,ae,hg⟩:=hrel;obtain⟨hN,dy⟩:=ak.out;have hNk:N<=k:=by rw[hN];exact nC l k
    by_cases af:k<l.length
    ·have di:(k:Int)<l.length:=by omega
     obtain⟨x,hx⟩:∃x,l[k]?=some x:=⟨_,Af af⟩;obtain⟨b,o,rfl,hc⟩:=at1 HAT.out (aH af);have lh:=hc k x hx;have jy:=hg.cell lh
     have HX:Hid (fE l (k+1)=N+(if x then 1 else 0)):=by
      show _=_
      rw[iS,<-hN];unfold fQ;rw[Ak,hx];rfl
     have li:cq.length<=2000000000000:=by rw[dy,HACC.out];simp[cE,zD,jK0];omega
     by_cases aj8:k%512=0
     ·have h5i:(k:Int)%512=0:=by omega
      have HN:Hid (cq++leB 4 N=acc++iU l ((k+1+511)/512)):=by
       show _=_
       rw[dy,show (k+1+511)/512=(k+511)/512+1 by omega,gA0,show 512*((k+511)/512)=k by omega,<-hN,Ah]
      clear hc hx ak hN dy;go_wp2_with fail
      refine(fT0 _ cq N 4 w wr hg (by omega) (by decide) (by omega) ae).mono ?_;rintro e w2 ⟨v2,rfl,aj,an⟩;have aj9:=an.cell lh;cases x
      ·simp only[Ai,if_false,Ar]at HX
       go_wp2_with fail
       go_roundw
       case rel=>exact⟨N,k+1,_,af,rfl,by go_num,⟨HX.out.symm,HN.out⟩,aj,an⟩
       case measure=>simp[intOf];omega
      ·simp only[if_true]at HX
       go_wp2_with fail
       go_roundw
       case rel=>exact⟨N+1,k+1,_,af,by go_num,by go_num,⟨HX.out.symm,HN.out⟩,aj,an⟩
       case measure=>simp[intOf];omega
     ·have h5i:¬(k:Int)%512=0:=by omega
      have HN:Hid (cq=acc++iU l ((k+1+511)/512)):=by
       show _=_
       rw[dy,show (k+1+511)/512=(k+511)/512 by omega]
      clear hc hx ak hN dy;cases x
      ·simp only[Ai,if_false,Ar]at HX
       go_wp2_with fail
       go_roundw
       case rel=>exact⟨N,k+1,_,af,rfl,by go_num,⟨HX.out.symm,HN.out⟩,ae,hg⟩
       case measure=>simp[intOf];omega
      ·simp only[if_true]at HX
       go_wp2_with fail
       go_roundw
       case rel=>exact⟨N+1,k+1,_,af,by go_num,by go_num,⟨HX.out.symm,HN.out⟩,ae,hg⟩
       case measure=>simp[intOf];omega
    ·have fw:k=l.length:=by omega
     have di:¬(k:Int)<l.length:=by omega
     have HF:Hid (cq=fE0 l):=by
      show _=_
      rw[dy,HACC.out,iJ1,fw]
     clear ak hN dy fw;go_wp2_with fail
     go_ret;exact⟨_,rfl,by rw[<-HF.out];exact ae,hg⟩
def jY1:Nat->Nat->Nat
 | 0,r=>r
 | n+1,r=>jY1 n (cD0 r)
theorem aD1 (r:Nat) (w:World) (hr:r<4294967296) :
  Calls Tryz.prog 270 #[.int .u32 r] w λe w'=>e=.returned (.int .u32 (iQ1 r))/\w=w':=by
 obtain⟨R0,zg⟩:=exq (iQ1 r);rw[<-zg];have HR0:Hid (jY1 8 r=R0):=by show _=_;rw[zg];rfl
 clear zg;go_enter Tryz.func270,Tryz.ntmps270
 go_wp2
 go_loop [0,3] (λr i=>∃k R:Nat,k<=8/\i=.int .i64 k/\r=.int .u32 R/\R<4294967296/\Hid (jY1 (8-k) R=R0)) (λ_ i=>8-(intOf i).toNat)
 case atStart=>exact⟨0,r,by decide,rfl,rfl,hr,HR0.out⟩
 case round =>
  obtain⟨k,R,hk,rfl,rfl,hR,ak⟩:=hrel;by_cases af:k<8
  ·have di:(k:Int)<8:=by omega
   have HN:Hid (jY1 (8-(k+1)) (cD0 R)=R0):=by
    have h1:=ak.out;rw[show 8-k=(8-(k+1))+1 by omega]at h1
    exact h1
   have hx:=u32_xor_nat (R/2) 3988292384 (by omega) (by decide);have uh:=aM0 hR;by_cases h1:R%2=1
   ·have h1i:(R:Int)%2=1:=by omega
    have HC:Hid (cD0 R=R/2 ^^^ 3988292384):=by show _=_;unfold cD0;rw[if_pos h1]
    go_wp2
    go_round
    case rel=>exact⟨k+1,cD0 R,af,by go_num,by rw[HC.out,<-hx];rfl,uh,HN.out⟩
    case measure=>simp[intOf];omega
   ·have h1i:¬(R:Int)%2=1:=by omega
    have HC:Hid (cD0 R=R/2):=by show _=_;unfold cD0;rw[if_neg h1]
    go_wp2
    go_round
    case rel=>exact⟨k+1,cD0 R,af,by go_num,by rw[HC.out];rfl,uh,HN.out⟩
    case measure=>simp[intOf];omega
  ·obtain rfl:k=8:=by omega
   have au:R=R0:=ak.out;subst au;go_wp2
   go_ret;exact⟨rfl,rfl⟩
theorem oV0 (r:Nat) (w:World) (hr:r<4294967296) :
  Calls Tryz.prog 269 #[.int .u32 r] w λe w'=>e=.returned (.int .u32 ((r ^^^ 4294967295:Nat):Int))/\w=w':=by
 have hx:=u32_xor_nat r 4294967295 hr (by decide);go_enter Tryz.func269,Tryz.ntmps269
 go_wp2
 go_ret;exact⟨by rw[<-hx];rfl,rfl⟩
theorem dA1 (b:List UInt8) (a:Option Addr) (c:Nat) (w:World) (hb:b.length<=1099511627776) (ah:aF w a 1 (b.map aQ)) :
  Calls Tryz.prog 240 #[.int .u32 0,.slice a b.length c] w λe w'=>e=.returned (.int .u32 (crcSum b))/\w=w':=by
 have HAT:=Ad ah;clear ah;go_enter Tryz.func240,Tryz.ntmps240
 go_wp2_with fail
 refine(oV0 0 w (by decide)).mono ?_;rintro e w1 ⟨rfl,rfl⟩;go_wp2_with fail
 go_loop [5,6] (λr i=>∃k R:Nat,k<=b.length/\i=.int .i64 k/\r=.int .u32 R/\R<4294967296/\Hid (R=bU0 4294967295 (b.take k))) (λ_ i=>b.length-(intOf i).toNat)
 case atStart=>exact⟨0,4294967295,Aj _,rfl,rfl,by decide,rfl⟩
 case round =>
  obtain⟨k,R,hk,rfl,rfl,hR,ak⟩:=hrel;by_cases af:k<b.length
  ·obtain⟨x,hx⟩:∃x,b[k]?=some x:=⟨_,Af af⟩
   obtain⟨bb,bo,rfl,hc⟩:=at1 HAT.out (aH af);have jy:=hc k x hx;have HN:Hid (iQ1 (R ^^^ x.toNat)=bU0 4294967295 (b.take (k+1))):=by show _=_;rw[aY hx,uP,<-ak.out]
   have ae2:=x.toNat_lt;have hxo:=u32_xor_nat R x.toNat hR (by omega);have hxl:R ^^^ x.toNat<4294967296:=Nat.xor_lt_two_pow (n:=32) hR (by omega);have fu:iQ1 (R ^^^ x.toNat)<4294967296:=vO (vO hxl);clear hc hx ak;go_wp2_with fail
   refine(aD1 _ w hxl).mono ?_;rintro e w1 ⟨rfl,rfl⟩;go_wp2_with fail
   go_round
   case rel=>exact⟨k+1,_,af,by go_num,rfl,fu,HN.out⟩
   case measure=>simp[intOf];omega
  ·have fw:k=b.length:=by omega
   have di:¬(k:Int)<b.length:=by omega
   have HF:Hid (R ^^^ 4294967295=crcSum b):=by show _=_;rw[ak.out,fw,Aw];rfl
   clear ak fw;go_wp2_with fail
   refine(oV0 _ w hR).mono ?_;rintro e w1 ⟨rfl,rfl⟩;go_wp2_with fail
   go_ret;exact⟨by rw[<-HF.out];rfl,rfl⟩
theorem dT1 (b:List UInt8) (a:Option Addr) (c:Nat) (w:World) (hb:b.length<=1099511627776) (ah:aF w a 1 (b.map aQ)) :
  Calls Tryz.prog 180 #[.slice a b.length c] w λe w'=>e=.returned (.int .u32 (crcSum b))/\w=w':=by
 go_enter Tryz.func180,Tryz.ntmps180
 go_wp2_with fail
 refine(dA1 b a c w hb ah).mono ?_;rintro e w1 ⟨rfl,rfl⟩;go_wp2_with fail
 go_ret;exact⟨rfl,rfl⟩
end
end Go.Proofs.YtiopheoljccmpaaGreatDoor
