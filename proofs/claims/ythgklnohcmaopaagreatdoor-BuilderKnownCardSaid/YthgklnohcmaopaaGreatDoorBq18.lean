/- The texts Bytes App2 PutU RefU App3 kP0 Bx W10 W09 W13 pV0, one behind the other. -/
import Derived.Test.YthgklnohcmaopaaGreatDoorBq1
import Derived.Test.YthgklnohcmaopaaGreatDoorBq17
import Derived.Test.YthgklnohcmaopaaGreatDoorProg
import Derived.Lib.AppendStr
import Derived.Lib.BufferRead
import Derived.Lib.SlBytesRow
import Derived.Laws.AppendOwnNone
import Derived.ArgAppend
import Derived.Lib.SliceRun
import Derived.Test.YthgklnohcmaopaaGreatDoorBq4
import Derived.Laws.BitsAllLaws
open Bool renaming and_eq_true → Aa,false_eq_true → Af,false_or → Au
open UInt8 renaming ofNat → Ab,toNat_ofNat' → Ad
open List renaming length_append → Ac,eq_nil_of_length_eq_zero → Ah,flatMap_append → Ai,append_assoc → Aj,length_cons → Ak,map_eq_nil_iff → Am,flatMap_cons → An,getElem?_map → Ao,append_nil → Ar,nil_append → As
open Nat renaming le_trans → Ae,le_refl → Ag,mul_comm → Ap,mod_eq_of_lt → Aq,zero_add → Av,lt_or_ge → Aw,add_zero → Ax,mod_lt → Az
open Go.Lib renaming run_eql_slice_nil → Al,hid → At,size_eq → Ay
open Go.Addr renaming add → Ba
set_option maxHeartbeats 2000000
namespace Go.Proofs.YthgklnohcmaopaaGreatDoor
set_option maxRecDepth 100000
section
open Go Go.RowKit
def aQ (b:UInt8):List Value:=[.int .u8 b.toNat]
theorem bE:eV Tryz.prog 28 5 1 1 aQ where
 sl:=Tryz.underlying28
 info:=iK (z:=.int .u8 0) (by kernel_rfl) rfl
 pos:=by decide
 by1:=by decide
 len _:=rfl
 one x u hu:=by
  simp[aQ]at hu;subst hu;rfl
theorem tI0:∃i,Tryz.prog.info? 5=some i/\i.zero=some (.int .u8 0)/\i.size=1/\i.bytes=1:=by
 have h:(Tryz.prog.info? 5).map (λi=>(i.zero,i.size,i.bytes))=some (some (.int .u8 0),1,1):=by kernel_rfl
 cases hi:Tryz.prog.info? 5 with
 | none=>rw[hi]at h;cases h
 | some i =>
  rw[hi]at h;simp only[Option.map_some,Option.some.injEq,Prod.mk.injEq]at h;exact⟨i,rfl,h.1,h.2.1,h.2.2⟩
theorem mG (l:List UInt8):l.flatMap aQ=l.map λb=>Value.int .u8 b.toNat:=by
 induction l with
 | nil=>rfl
 | cons b l ih=>rw[An,ih];rfl
theorem zH (s:ByteArray):Lib.strCells s=s.data.toList.flatMap aQ:=by rw[mG]; rfl
theorem aT.other {α:Type} {w w':World} {base:Nat} {e e':TypeId} {k:Nat} {enc:α->List Value} {v v2:Value} {xs:List α} {n2 k2 b2:Nat} {ys:List Value} (h:aT w base e k enc v xs) (h2:w.ownsRow b2 e' k2 v2 n2 ys) (aq:e≠e') (hg:w.grownBy w' v2.ownBlock):aT w' base e k enc v xs:=by
 obtain⟨h1,h3⟩:=h;refine⟨h1,?_⟩;rcases h3 with h3|⟨g,cap,b9,rfl,hb,hh,r⟩
 ·exact Or.inl h3
 ·refine Or.inr ⟨g,cap,b9,rfl,hb,?_,r⟩
  rw[hg.block g (Array.getElem?_eq_some_iff.1 hh).1 ?_]
  ·exact hh
  ·rcases h2.2 with ⟨rfl,_⟩|⟨g',ry,afr,rfl,_,y7,_⟩
   ·simp[Value.ownBlock]
   ·intro he
    have:g=g':=by simpa [Value.ownBlock] using he
    subst this;rw[hh]at y7;injection y7 with y7
    injection y7 with _ ht
    exact aq ht
theorem vX0 {ops:Array Oper} {rest:List Oper} {o:Oper} {a:Act} {Q:Exit->Act->World->Prop} {w W:World}
  (io:o.guard=none) (s x:Operand) (f9:o.op=.call { callee:=.builtin .append,args:=#[s,x],argTypes:=#[28,9] })
  (base:Nat) (v:Value) (xs:List UInt8) (y:ByteArray) (hs:a.eval s=v) (aa:aT w base 5 1 aQ v xs) (et:aB w W)
  (hx:a.eval x=.string y) (ak:xs.length+y.size<=140737488355328) (be:base<=w.heap.size)
  (h:∀v' w',aT w' base 5 1 aQ v' (xs++y.data.toList)->(∀a0,aB a0 w->a0.heap.size<=base->aB a0 w')->(∀ {α:Type} {b2 k2:Nat} {e2:TypeId} {abh:α->List Value} {v2:Value} {ys:List α},e2≠5->aT w b2 e2 k2 abh v2 ys->aT w' b2 e2 k2 abh v2 ys)->wpList Tryz.prog ops Q rest (a.put o.dst v') w') :
  wpList Tryz.prog ops Q (o::rest) a W:=by
 obtain⟨i,hi,hz,bu,ga⟩:=tI0;have af:=dR aa et;refine Lib.wpList_append_own_string W io s x 28 9 f9 base 5 i Tryz.underlying28 Tryz.underlying9 hi hz bu ga v xs.length (xs.flatMap aQ) hs af y hx (by unfold maxLen;omega) ak (Ae be et.size) ?_;intro v' w' h1 h2 _;refine h v' w' ?_ (λa0 h0 hb=>(h0.tr et).grown h2 (λq hq=>Ae hb (aV aa q hq))) (λaq ho=>(ho.grows et).other af aq h2);unfold aT;rw[Ac,<-Ay,Ai,<-zH];exact h1
theorem aK0 {w:World} {base:Nat} {v:Value} {l:List UInt8} (h:aT w base 5 1 aQ v l):(convert 28 9 v).run Tryz.prog w=.ok (.string (mkB l)) w:=by
 rcases h.2 with ⟨rfl,h0⟩|⟨g,cap,b9,rfl,hb,hh,hn,hc,hs,ht⟩
 ·obtain rfl:l=[]:=Ah h0
  exact Lib.run_convert_nil_bytes w _ _ 5 0 Tryz.underlying28 Tryz.underlying5 Tryz.underlying9
 ·have hz:(mkB l).size=l.length:=by rw[Ay,gO]
  have hB:Lib.Bytes w g 0 (mkB l):=λi hi=>by
   rw[hz]at hi;have hf:=mP (enc:=aQ) (k:=1) (λ_=>rfl) l i 0 l[i] (.int .u8 l[i].toNat) (List.getElem?_eq_getElem hi) rfl;rw[<-ht,List.getElem?_take]at hf;split at hf
   ·unfold World.cell?
    simp only[hh,Option.isSome_none,Af,if_false];rw[Av];have hg:(mkB l)[i]'(by rw[hz];exact hi)=l[i]:=rfl;rw[hg];simpa using hf
   ·cases hf
  have:=Lib.run_convert_whole (P:=Tryz.prog) w 28 5 9 Tryz.underlying28 Tryz.underlying5 Tryz.underlying9 g 0 (mkB l) hB cap
  rw[hz]at this;exact this
theorem mE {α:Type} {enc:α->List Value} {k:Nat} (hk:∀x,(enc x).length=k):∀(ys:List α) (j:Nat) (u:Value),(ys.flatMap enc)[j]?=some u->∃i jj y,j=i*k+jj/\ys[i]?=some y/\(enc y)[jj]?=some u
 | [],j,u,h=>by simp at h
 | y::r,j,u,h=>by
  rw[An]at h;rcases Aw j (enc y).length with ae|y8
  ·rw[List.getElem?_append_left ae]at h
   exact⟨0,j,y,by omega,rfl,h⟩
  ·rw[List.getElem?_append_right y8]at h
   obtain⟨i,jj,z,h1,h2,h3⟩:=mE hk r _ u h;refine⟨i+1,jj,z,?_,by simpa using h2,h3⟩;rw[hk]at y8 h1;rw[Nat.succ_mul];omega
theorem oP {α:Type} {P:Program} {t e:TypeId} {k bytes:Nat} {enc:α->List Value} (L:eV P t e k bytes enc) {ops:Array Oper} {rest:List Oper} {o:Oper} {a:Act} {Q:Exit->Act->World->Prop} {w W:World}
  (io:o.guard=none) (s x:Operand) (f9:o.op=.call { callee:=.builtin .append,args:=#[s,x],argTypes:=#[t,t] })
  (base:Nat) (v:Value) (xs ys:List α) (hs:a.eval s=v) (aa:aT w base e k enc v xs) (et:aB w W) (sa:Option Addr) (sc:Nat)
  (hx:a.eval x=.slice sa ys.length sc) (du:aF W sa k (ys.map enc)) (eu:sa=none->sc=0) (ak:(xs.length+ys.length)*bytes<=140737488355328) (be:base<=w.heap.size)
  (h:∀v' w',aT w' base e k enc v' (xs++ys)->(∀a0,aB a0 w->a0.heap.size<=base->aB a0 w')->wpList P ops Q rest (a.put o.dst v') w') :
  wpList P ops Q (o::rest) a W:=by
 obtain⟨i,z,hi,hz,bu,ga,jv⟩:=L.info;have od:xs.length+ys.length<=140737488355328:=Ae (Nat.le_mul_of_pos_right _ L.by1) ak;have af:=dR aa et
 cases sa with
 | none =>
  obtain rfl:=eu rfl
  have hy:ys=[]:=Decidable.byContradiction λaq=>by
   have y9:ys.map enc≠[]:=by simpa using aq
   obtain⟨b,off,ha,_⟩:=du y9;cases ha
  subst hy;refine wpList_append_own_none io s x t f9 base e i k L.sl hi v xs.length (xs.flatMap enc) hs af hx ?_;refine h v W ?_ (λa0 h0 _=>h0.tr et);rw[Ar];exact af
 | some ad =>
  refine wpList_append_own _ io s x t f9 base e i z k bytes L.sl hi hz bu ga jv L.pos v xs.length (xs.flatMap enc) hs af ad ys.length sc (ys.flatMap enc) hx (fC L.len ys)
   (λj u hu=>?_) (λu hu=>by obtain⟨y,_,hy⟩:=List.mem_flatMap.1 hu;exact L.one y u hy) (by unfold maxLen;omega) ak (Ae be et.size) ?_
  ·obtain⟨i',jj,y,h1,h2,h3⟩:=mE L.len ys j u hu
   have aq:ys.map enc≠[]:=by rintro e;rw[Am]at e;subst e;simp at h2
   obtain⟨b,off,ha,hc⟩:=du aq;obtain rfl:=Option.some.inj ha;have bi:=hc i' (enc y) (by rw[Ao,h2];rfl) jj u h3;unfold Ba;by_cases h0:j=0
   ·subst h0
    have ky:i'*k=0/\jj=0:=by omega
    rw[if_pos rfl];rw[ky.1,ky.2]at bi;simpa using bi
   ·rw[if_neg h0]
    subst h1;rw[<-Nat.add_assoc];exact bi
  ·intro v' w' h1 h2 _
   refine h v' w' ?_ (λa0 h0 hb=>(h0.tr et).grown h2 (λq hq=>Ae hb (aV aa q hq)));unfold aT;rw[Ac,Ai];exact h1
theorem fZ0 {α:Type} {enc:α->List Value} {k:Nat} {w:World} {e:TypeId} (base:Nat) (hb:base<=w.heap.size):aT (w.alloc (.cells #[] e)) base e k enc (.slice (some ⟨w.heap.size,0,none⟩) 0 0) []:=by
 refine⟨by simp,Or.inr ⟨w.heap.size,0,#[],rfl,hb,?_,Ag _,Nat.zero_le _,by simp,by simp⟩⟩;show (w.heap.push _)[w.heap.size]?=_
 simp
end
section
open Go Go.RowKit
attribute [local go_sem] aM
def nZ:Nat->Nat->List UInt8
 | 0,_=>[]
 | f+1,n=>if n<128 then [Ab n] else Ab (n%128+128)::nZ f (n/128)
def dE (n:Nat):List UInt8:=nZ 10 n
theorem pQ:∀(f g n:Nat),n<128^f->f<=g->0<f->nZ g n=nZ f n
 | 0,_,_,_,_,h=>by omega
 | f+1,0,_,_,h,_=>by omega
 | f+1,g+1,n,h,np,_=>by
  unfold nZ;by_cases h1:n<128
  ·rw[if_pos h1,if_pos h1]
  ·rw[if_neg h1,if_neg h1]
   rw[Nat.pow_succ]at h;have h2:n/128<128^f:=Nat.div_lt_of_lt_mul (by rw[Ap];exact h);rcases Nat.eq_zero_or_pos f with h0|h0
   ·subst h0
    simp at h;omega
   ·rw[pQ f g (n/128) h2 (by omega) h0]
theorem gV {n:Nat} (h:n<128):dE n=[Ab n]:=by unfold dE nZ; rw[if_pos h]
theorem rX0 {n:Nat} (h:128<=n) (hn:n<128^9):dE n=Ab (n%128+128)::dE (n/128):=by
 have h1:dE n=Ab (n%128+128)::nZ 9 (n/128):=by
  show (if n<128 then [Ab n] else Ab (n%128+128)::nZ 9 (n/128))=_
  rw[if_neg (by omega)]
 have h2:n/128<128^9:=Nat.lt_of_le_of_lt (Nat.div_le_self _ _) hn;rw[h1];unfold dE;rw[pQ 9 10 (n/128) h2 (by omega) (by omega)]
theorem aD0:∀(f n:Nat),(nZ f n).length<=f
 | 0,_=>by simp[nZ]
 | f+1,n=>by
  unfold nZ;split
  ·simp
  ·have:=aD0 f (n/128)
   simp only[Ak];omega
theorem bK (n:Nat):(dE n).length<=10:=aD0 10 n
theorem zM0:∀x:Fin 256,bits BinOp.or .u8 (x.val:Int) 128=((x.val%128+128:Nat):Int):=by decide +kernel
theorem aU0 (k:Nat):bits BinOp.or .u8 ((k:Int)%256) 128=((Ab (k%128+128)).toNat:Int):=by
 have h:=zM0 ⟨k%256,Az _ (by decide)⟩;have e:(((⟨k%256,Az _ (by decide)⟩:Fin 256).val:Nat):Int)=(k:Int)%256:=by simp
 rw[e]at h;rw[h,Ad];simp only;omega
theorem nX0 {k:Nat} (h:k<128):Value.int .u8 (k:Int)=.int .u8 ((Ab k).toNat:Int):=by
 rw[Ad];congr 1;omega
def Src (w:World) (base:Nat) (v:Value) (xs:List UInt8):Prop :=
 aT w base 5 1 aQ v xs\/∃a,v=.slice a xs.length xs.length/\aF w a 1 (xs.map aQ)/\(a=none->xs=[])
theorem zM {ops:Array Oper} {rest:List Oper} {o:Oper} {a:Act} {Q:Exit->Act->World->Prop} {w W:World}
  (io:o.guard=none) (s x:Operand) (f9:o.op=.call { callee:=.builtin .append,args:=#[s,x],argTypes:=#[28,28] })
  (base:Nat) (v:Value) (xs:List UInt8) (y:UInt8) (hs:a.eval s=v) (aa:Src w base v xs) (et:aB w W) (n c:Nat) (hn:n=W.heap.size) (cs:Array Value) (ct:cs.toList=aQ y)
  (hx:a.eval x=.slice (some ⟨n,0,none⟩) 1 c) (ak:xs.length+1<=140737488355328) (be:base<=w.heap.size)
  (h:∀v' w',aT w' base 5 1 aQ v' (xs++[y])->(∀a0,aB a0 w->a0.heap.size<=base->aB a0 w')->wpList Tryz.prog ops Q rest (a.put o.dst v') w') :
  wpList Tryz.prog ops Q (o::rest) a (W.alloc (.cells cs 5)):=by
 rcases aa with aa|⟨b,rfl,ac,eu⟩
 ·exact oP0 bE io s x f9 base v xs y hs aa et n c hn cs ct hx (by omega) be h
 ·obtain⟨i,z,hi,hz,bu,ga,jv⟩:=bE.info
  have gk:aB w (W.alloc (.cells cs 5)):=et.al _
  refine wpList_append_grows _ io s x _ f9 5 i z 1 1 bE.sl hi hz bu ga jv (by decide) b xs.length xs.length (xs.flatMap aQ) hs (λhb=>by rw[eu hb];exact⟨rfl,rfl⟩) (fC bE.len xs) (λad had j u hu=>?_)
   ⟨n,0,none⟩ 1 c (aQ y) hx rfl (λj u hu=>dK hn j u (by rw[ct];exact hu)) (bE.one y) (by omega) (by unfold maxLen;omega) (by omega) ?_
  ·obtain⟨i',jj,y',h1,h2,h3⟩:=mE bE.len xs j u hu
   have aq:xs.map aQ≠[]:=by rintro e;rw[Am]at e;subst e;simp at h2
   obtain⟨b',off,ha,hc⟩:=ac aq;rw[had]at ha;obtain rfl:=Option.some.inj ha;have bi:=hc i' (aQ y') (by rw[Ao,h2];rfl) jj u h3
   have:(⟨b',off,none⟩:Addr).add j=⟨b',off+i'*1+jj,none⟩:=by
    unfold Ba;by_cases h0:j=0
    ·subst h0
     have ky:i'=0/\jj=0:=by omega
     simp[ky.1,ky.2]
    ·simp[h0];omega
   rw[this];exact gk.cell bi
  ·intro v' w' h1 h2
   refine h v' w' ?_ (λa0 h0 hb=>(h0.tr gk).grown h2 (λq hq=>by cases hq))
   have h3:w'.ownsRow (W.alloc (.cells cs 5)).heap.size 5 1 v' (xs++[y]).length ((xs++[y]).flatMap aQ):=by
    rw[Ac,List.length_singleton,Ai];simpa using h1
   exact rF h3 (Ae be gk.size)
theorem bJ {α:Type} {w:World} {base:Nat} {e:TypeId} {k:Nat} {enc:α->List Value} {a:Option Addr} {n c:Nat} {xs:List α} (h:aT w base e k enc (.slice a n c) xs):a=none->c=0:=by
 intro ha;rcases h.2 with ⟨h1,_⟩|⟨g,cap,b9,h1,_⟩
 ·have:a=none/\n=0/\c=0:=by simpa using h1
  exact this.2.2
 ·rw[ha]at h1;simp at h1
theorem aV0 (xs:List UInt8) (a:Option Addr) (c:Nat) (w:World) (hx:xs.length<=1099511627776) (ac:aF w a 1 (xs.map aQ)) (hn:a=none->c=0) :
  Calls Tryz.prog 191 #[.slice a xs.length c] w λe w'=>∃v,e=.returned v/\aT w' w.heap.size 5 1 aQ v xs/\aB w w':=by
 have HAT:=At ac
 cases a with
 | none =>
  obtain rfl:=hn rfl
  have kw:xs=[]:=Decidable.byContradiction λaq=>by
   obtain⟨b,off,h,_⟩:=ac (by simpa using aq);cases h
  subst kw;have hq:=λw=>Al (P:=Tryz.prog) w 28 5 none 0 0 0 0 Tryz.underlying28;clear ac hn HAT;go_enter Tryz.func191,Tryz.ntmps191
  go_wp2_with fail
  go_ret;exact⟨_,rfl,aT.nil _ _ _ _ _,aB.refl _⟩
 | some ad =>
  have hq:=λw=>Al (P:=Tryz.prog) w 28 5 (some ad) xs.length c 0 0 Tryz.underlying28;clear ac hn;go_enter Tryz.func191,Tryz.ntmps191
  have HSRC:=At (HAT.out.grows (aB.alloc w (.cells #[] 5)));go_wp2_with (at_builtin;refine oP bE rfl _ _ rfl w.heap.size _ [] xs rfl (fZ0 w.heap.size (Ag _)) (aB.refl _) (some ad) c rfl HSRC.out (λh=>by cases h) (by simp;omega) (by simp) ?_;intro v' w3 an bv)
  go_ret;rw[As]at an;exact⟨_,rfl,an,bv w (aB.alloc _ _) (Ag _)⟩
theorem gT0 (xs:List UInt8) (a:Option Addr) (c:Nat) (w:World) (hc:xs.length<=c) :
  Calls Tryz.prog 190 #[.slice a xs.length c] w λe w'=>e=.returned (.slice a xs.length xs.length)/\w=w':=by
 go_enter Tryz.func190,Tryz.ntmps190
 go_wp2_with fail
 go_ret;exact⟨rfl,rfl⟩
theorem iJ (xs:List UInt8) (a:Option Addr) (c n:Nat) (w:World) (hx:xs.length<=1099511627776) (hv:n<=1048576) (ac:aF w a 1 (xs.map aQ)) (hn:a=none->c=0) :
  Calls Tryz.prog 125 #[.slice a xs.length c,.int .u64 n] w λe w'=>∃v,e=.returned v/\aT w' w.heap.size 5 1 aQ v (xs++dE n)/\aB w w':=by
 have CC:=At (aV0 xs a c w hx ac hn);clear ac hn;go_enter Tryz.func125,Tryz.ntmps125
 go_wp2_with fail
 refine CC.out.mono ?_;rintro e w1 ⟨v1,rfl,ar,av⟩;obtain⟨a1,c1,rfl,rs,h12,cv⟩:=ar.at_ bE.len;have jc:=bJ ar;go_wp2_with fail
 refine(gT0 xs a1 c1 w1 rs).mono ?_;rintro e w2 ⟨rfl,rfl⟩;have du:Src w1 w.heap.size (.slice a1 xs.length xs.length) xs:=Or.inr ⟨a1,rfl,cv,λh=>Ah (by have:=jc h;omega)⟩;clear ar cv jc CC;go_wp2_with fail
 go_loopw [0,1] (λb v wr=>∃(k:Nat) (pre:List UInt8),v=.int .u64 k/\Src wr w.heap.size b (xs++pre)/\Hid (pre++dE k=dE n)/\k<=1048576/\aB w wr) (λ_ v _=>(intOf v).toNat)
 case atStart=>exact⟨n,[],rfl,by rw[Ar];exact du,rfl,hv,av⟩
 case round =>
  obtain⟨k,pre,rfl,hs,hp,hk,hg⟩:=hrel
  have me:pre.length<=10:=by
   have h1:=congrArg List.length hp.out;have h2:=bK n;rw[Ac]at h1;omega
  by_cases za:128<=k
  ·have cp:(128:Int)<=k:=by omega
   have hb:=At (aU0 k);rw[rX0 za (by omega)]at hp;go_wp2_with (at_builtin;refine zM rfl _ _ rfl w.heap.size _ (xs++pre) (Ab (k%128+128)) rfl hs (aB.refl _) _ 1 rfl _ (by rw[hb.out];rfl) rfl (by rw[Ac];omega) hg.size ?_;intro v' w5 ai bk)
   go_roundw
   case rel=>exact⟨k/128,pre++[Ab (k%128+128)],by go_num,Or.inl (by rw[<-Aj];exact ai),by show (pre++[_])++dE (k/128)=dE n;rw[Aj];exact hp.out,by omega,bk w hg (Ag _)⟩
   case measure=>simp[intOf];omega
  ·have cp:¬(128:Int)<=k:=by omega
   have hb:=At (nX0 (k:=k) (by omega));rw[gV (by omega)]at hp;go_wp2_with (at_builtin;refine zM rfl _ _ rfl w.heap.size _ (xs++pre) (Ab k) rfl hs (aB.refl _) _ 1 rfl _ (by rw[hb.out];rfl) rfl (by rw[Ac];omega) hg.size ?_;intro v' w5 ai bk)
   go_ret;refine⟨_,rfl,?_,bk w hg (Ag _)⟩;rw[<-hp.out,<-Aj];exact ai
end
section
open Go Go.RowKit
def EB (B:Nat) (w w':World):Prop:=Below B w w'/\w.heap.size<=w'.heap.size
theorem EB.refl (B:Nat) (w:World):EB B w w:=⟨Below.refl _ _,Ag _⟩
theorem EB.trans (B:Nat) (a b c:World) (h:EB B a b) (k:EB B b c):EB B a c:=⟨Below.trans h.1 k.1,Ae h.2 k.2⟩
instance (B:Nat) (w:World):Nonempty (Ext (EB B) w):=⟨⟨w,EB.refl B w⟩⟩
theorem EB.of {B:Nat} {w w':World} (h:aB w w') (hB:B<=w.heap.size):EB B w w':=⟨Below.mono h hB,h.size⟩
theorem EB.grows {a w w':World} (h:aB a w) (k:EB a.heap.size w w'):aB a w':=Below.trans h k.1
end
section
open Go Go.RowKit
section
variable {P:Program} {ops:Array Oper} {Q:Exit->Act->World->Prop} {md:Region.Mode} {E:World->World->Prop} {fin:Act->World->Prop}
def aO (P:Program) (o:Oper) (a:Act) (E:World->World->Prop) (w:World) (next:Act->Prop):Prop :=
 ∃v,(∀w2,(∃x:Ext E w,w2=x.u)->o.quietAt P a (λw3=>w3=w2) w2 v)/\next (a.put o.dst v)
def fH (P:Program) (ops:Array Oper) (E:World->World->Prop) (Q:Exit->Act->World->Prop) (fin:Act->World->Prop):List (Nat×Bool)->Act->World->Prop
 | [],a,w=>fin a w
 | (i,late)::rest,a,w=>match ops[i]? with
  | none=>False
  | some o=>if Region.wanted o (yielded ops a.tmps) then
    (if late then o.wp P a w (λa' w'=>E w w'/\fH P ops E Q fin rest a' w') Q else aO P o a E w (λa'=>fH P ops E Q fin rest a' w))
   else fH P ops E Q fin rest (a.put o.dst undef) w
def fO (P:Program) (md:Region.Mode) (ops:Array Oper) (Q:Exit->Act->World->Prop) (E:World->World->Prop):Nat->Array Bool->Act->World->Prop
 | 0,listed,a,w=>Region.ready md ops listed=[]/\Q .normal a w
 | az+1,listed,a,w =>
  (Region.ready md ops listed=[]->Q .normal a w) /\
  ∀i∈Region.ready md ops listed,wpOp P ops Q i (λa' w'=>(E w w'/\fO P md ops Q E az (listed.setIfInBounds i true) a' w')\/(aE0 md ops i=true/\wpAny P md ops Q az (listed.setIfInBounds i true) a' w')) a w
theorem iO:∀(az:Nat) (listed:Array Bool) (a:Act) (w:World),fO P md ops Q E az listed a w->wpAny P md ops Q az listed a w
 | 0,_,_,_,h=>⟨h.1,h.2⟩
 | az+1,_,_,_,h=>⟨λh0=>h.1 h0,λi hi=>wpOp_mono (λa' w' h'=>h'.elim (λh'=>iO az _ a' w' h'.2) (λh'=>h'.2)) (h.2 i hi)⟩
def dP (P:Program) (ops:Array Oper) (E:World->World->Prop) (o:Oper) (v:Value) (a:Act) (w:World):Prop :=
 (Region.wanted o (yielded ops a.tmps)=true/\∀w2,(∃x:Ext E w,w2=x.u)->o.quietAt P a (λw3=>w3=w2) w2 v) \/
 (Region.wanted o (yielded ops a.tmps)=false/\v=undef)
theorem dP.later (ht:∀a b c,E a b->E b c->E a c) {o:Oper} {v:Value} {a:Act} {w w':World} (hw:E w w') (h:dP P ops E o v a w):dP P ops E o v a w' :=
 h.imp (λ⟨h1,h2⟩=>⟨h1,λw2 ⟨x,hx⟩=>h2 w2 ⟨⟨x.u,ht _ _ _ hw x.h⟩,hx⟩⟩) id
theorem dP.of_same {o:Oper} {v:Value} {a a':Act} {w:World} (hy:dP P ops E o v a w) (he:execOp a'.eval o=execOp a.eval o)
  (hw:Region.wanted o (yielded ops a'.tmps)=Region.wanted o (yielded ops a.tmps)):dP P ops E o v a' w:=by
 unfold dP Oper.quietAt at *;rw[he,hw];exact hy
theorem uM {o:Oper} {v:Value} {a:Act} {w:World} {K:Act->World->Prop} (h:o.quietAt P a (λw3=>w3=w) w v) (hk:K (a.put o.dst v) w):o.wp P a w K Q:=by
 unfold Oper.quietAt at h;unfold Oper.wp;generalize (execOp a.eval o).run P w=r at *
 cases r with
 | ok n w' =>
  cases n<;>simp only[Oper.quietUpon]at h<;>simp only[Oper.upon]
  case value u =>
   obtain⟨e1,e2⟩:=h;rw[e1,e2];exact hk
  case skip =>
   obtain⟨e1,e2⟩:=h;rw[e1,<-e2];exact hk
  case enter f args =>
   obtain⟨e1,hc⟩:=h;rw[e1];exact hc.mono λe ld ⟨he,hy⟩=>by subst he;subst hy;exact hk
 | halt x w'=>simp only[Oper.quietUpon]at h
theorem dP.wpOp {i:Nat} {o:Oper} {v:Value} {a:Act} {w:World} (hr:E w w) (hi:ops[i]?=some o) (hy:dP P ops E o v a w)
  {K:Act->World->Prop} (h:K (a.put o.dst v) w):wpOp P ops Q i K a w:=by
 unfold Go.wpOp;simp only[hi];rcases hy with ⟨hw,hv⟩|⟨hw,rfl⟩
 ·simp only[hw,if_true];exact .inl (uM (hv w ⟨⟨w,hr⟩,rfl⟩) h)
 ·simp only[hw,Af,if_false];exact h
theorem iU0 {j:Nat} {oi oj:Oper} {v:Value} (hj:ops[j]?=some oj) (hap:oi.apart ops oj=true)
  (hsi:∀cs b,oi.op ≠ .select cs b) (hsj:∀cs b,oj.op ≠ .select cs b)
  (hQ:∀d v c a w,Q (.panic c) (a.put d v) w->Q (.panic c) a w) {K:Act->World->Prop} {a:Act} {w wb:World}
  (hy:dP P ops E oi v a wb) (h:wpOp P ops Q j K (a.put oi.dst v) w) :
  wpOp P ops Q j (λa' w'=>dP P ops E oi v a' wb/\K (a'.put oi.dst v) w') a w:=by
 obtain⟨h1,h2,h3⟩:=Oper.apart_spec hap
 have keep:∀(a:Act),dP P ops E oi v a wb->∀u,dP P ops E oi v (a.put oj.dst u) wb:=λa hy u =>
  hy.of_same (execOp_put oi hsi a oj.dst u h3) (wanted_put oi a oj.dst u h3)
 have n7:∀d,dP P ops E oi v { a with defers:=d::a.defers } wb:=λd=>hy.of_same rfl rfl
 unfold wpOp at *;simp only[hj] at *;rw[wanted_put oj a oi.dst v h1]at h;split
 ·rename_i hw
  simp only[hw,if_true]at h;rcases h with h|⟨j4,n8⟩
  case inr=>exact .inr ⟨by unfold Oper.asks at *;rw[execOp_put oj hsj a oi.dst v h1]at j4;exact j4,n8⟩
  refine .inl ?_;unfold Oper.wp at *;rw[execOp_put oj hsj a oi.dst v h1]at h;generalize (execOp a.eval oj).run P w=r at *
  cases r with
  | ok n w' =>
   cases n<;>simp only[Oper.upon]at h ⊢
   case value u=>exact⟨keep a hy u,by rw[<-Act.put_comm a v u h2];exact h⟩
   case skip=>exact⟨keep a hy _,by rw[<-Act.put_comm a v undef h2];exact h⟩
   case defer d =>
    refine⟨keep _ (n7 d) _,?_⟩;rw[<-Act.put_comm _ v undef h2,<-Act.put_defers];exact h
   case enter f args =>
    refine Calls.mono h λe ld he=>?_
    cases e with
    | returned u=>exact⟨keep a hy u,by rw[<-Act.put_comm a v u h2];exact he⟩
    | panicked c=>exact hQ _ _ _ _ _ he
    | outgrown=>exact he
   case row row args=>exact Rows.mono h λu ld he=>⟨keep a hy u,by rw[<-Act.put_comm a v u h2];exact he⟩
  | halt x w' =>
   cases x<;>simp only[Oper.upon]at h ⊢
   case panic u=>exact hQ _ _ _ _ _ h
 ·rename_i hw
  simp only[hw]at h;exact⟨keep a hy _,by rw[<-Act.put_comm a v undef h2];exact h⟩
theorem gS (hr:∀w,E w w) (ht:∀a b c,E a b->E b c->E a c) {i:Nat} {oi:Oper} {v:Value} (hi:ops[i]?=some oi) (n9:∀(j:Nat) (o:Oper) cs b,ops[j]?=some o->o.op ≠ .select cs b)
  (hQ:∀d v c a w,Q (.panic c) (a.put d v) w->Q (.panic c) a w) :
  ∀(az:Nat) (listed:Array Bool) (a:Act) (w:World),iB md ops listed ->
   (∀j oj,ops[j]?=some oj->j≠i->listed.getD j true=false->(∀e∈oj.after,Region.binds md e=true->e.on≠i)->oi.apart ops oj=true) ->
   i∈Region.ready md ops listed->dP P ops E oi v a w ->
   fO P md ops Q E az (listed.setIfInBounds i true) (a.put oi.dst v) w->fO P md ops Q E (az+1) listed a w:=by
 intro az
 induction az with
 | zero =>
  intro listed a w _ _ cq hy H;refine⟨λh=>(by rw[h]at cq;cases cq),λj hj=>?_⟩;by_cases ek:j=i
  ·subst ek;exact hy.wpOp (hr _) hi (.inl ⟨hr _,H⟩)
  ·have:=ready_mono hj ek
   rw[H.1]at this;cases this
 | succ az ih =>
  intro listed a w cj j5 cq hy H;refine⟨λh=>(by rw[h]at cq;cases cq),λj hj=>?_⟩;by_cases ek:j=i
  ·subst ek;exact hy.wpOp (hr _) hi (.inl ⟨hr _,H⟩)
  ·have h1:=H.2 j (ready_mono hj ek)
   obtain⟨oc,oj,um,da⟩:=mem_ready.1 hj
   have yb:∀e∈oj.after,Region.binds md e=true->e.on≠i:=λe he hb ye=>by
    have h1:=da e he hb;have h0:=(mem_ready.1 cq).1;rw[ye]at h1;rcases Aw i listed.size with h'|h'
    ·simp[h']at h0 h1;rw[h0]at h1;cases h1
    ·simp[Array.getElem?_eq_none h']at h1
   have h2:=iU0 um (j5 j oj um ek oc yb) (λcs b=>n9 i oi cs b hi) (λcs b=>n9 j oj cs b um) hQ hy h1
   have lf:∀k ok,ops[k]?=some ok->k≠i->(listed.setIfInBounds j true).getD k true=false ->
     (∀e∈ok.after,Region.binds md e=true->e.on≠i)->oi.apart ops ok=true:=λk ok hk cp hun rq=>by
    refine j5 k ok hk cp ?_ rq;by_cases jb:j=k
    ·subst jb;exact oc
    ·rw[getD_set_ne true jb]at hun;exact hun
   refine wpOp_mono (λa' w' h3=>?_) h2;rcases h3.2 with h4|h4
   ·refine .inl ⟨h4.1,ih (listed.setIfInBounds j true) a' w' (cB cj hj) lf (ready_mono cq (Ne.symm ek)) (h3.1.later ht h4.1) ?_⟩
    rw[Array.setIfInBounds_comm _ _ ek];exact h4.2
   ·exact(oZ cj cq hj ek h4.1).elim
theorem dC (hr:∀w,E w w) (ht:∀a b c,E a b->E b c->E a c) (hs:Region.noSelect ops=true)
  (hQ:∀d v c a w,Q (.panic c) (a.put d v) w->Q (.panic c) a w) {g k:Nat}
  (ax:∀listed a w,Region.seqB md ops g k listed=true->fin a w->fO P md ops Q E g listed a w) :
  ∀(l:List (Nat×Bool)) (listed:Array Bool) (a:Act) (w:World),iB md ops listed->pU0 md ops g k l listed=true->fH P ops E Q fin l a w->fO P md ops Q E (l.length+g) listed a w
 | [],listed,a,w,_,hB,h=>by rw[List.length_nil,Av];exact ax listed a w hB h
 | (i,false)::rest,listed,a,w,cj,hB,h=>by
  simp only[pU0,Aa]at hB;obtain⟨⟨cq,hf⟩,kt⟩:=hB;have ed:i∈Region.ready md ops listed:=by simpa using cq
  unfold fH at h;rw[Ak,show rest.length+1+g=(rest.length+g)+1 by omega]
  split at h
  ·exact h.elim
  ·rename_i o ho
   split at h
   ·rename_i hw
    simp only[Af,if_false]at h;obtain⟨v,hv,hk⟩:=h;exact gS hr ht ho (Region.noSelect_spec hs) hQ _ listed a w cj (Region.free_spec ho hf) ed (.inl ⟨hw,hv⟩) (dC hr ht hs hQ ax rest _ _ _ (cB cj ed) kt hk)
   ·rename_i hw
    exact gS hr ht ho (Region.noSelect_spec hs) hQ _ listed a w cj (Region.free_spec ho hf) ed (.inr ⟨by simpa using hw,rfl⟩) (dC hr ht hs hQ ax rest _ _ _ (cB cj ed) kt h)
 | (i,true)::rest,listed,a,w,cj,hB,h=>by
  simp only[pU0,Aa,decide_eq_true_eq]at hB;obtain⟨cq,kt⟩:=hB;rw[Ak,show rest.length+1+g=(rest.length+g)+1 by omega]
  refine⟨λh0=>(by rw[h0]at cq;cases cq),λj hj=>?_⟩;have ku:=hj;rw[cq]at hj;have ek:j=i:=by simpa using hj
  subst ek;unfold fH at h;unfold wpOp;split at h
  ·exact h.elim
  ·rename_i o ho
   simp only[ho];split at h
   ·rename_i hw
    simp only[hw,if_true]at h ⊢;exact .inl (Oper.wp_mono (λa' w' h' => .inl ⟨h'.1,dC hr ht hs hQ ax rest _ _ _ (cB cj ku) kt h'.2⟩) h)
   ·rename_i hw
    simp only[hw] at ⊢;exact .inl ⟨hr _,dC hr ht hs hQ ax rest _ _ _ (cB cj ku) kt h⟩
theorem uV (E:World->World->Prop) (l:List (Nat×Bool)) {id:Nat} {a:Act} {w:World} (hr:∀w,E w w) (ht:∀a b c,E a b->E b c->E a c)
  (hm:P.follows .mixedOrders=true) (hB:nG ops l=true)
  (hQ:∀d v c a w,Q (.panic c) (a.put d v) w->Q (.panic c) a w) (h:fH P ops E Q (Q .normal) l a w.drew):(Code.region id ops true).wp P Q a w:=by
 simp only[nG,Aa,decide_eq_true_eq]at hB;obtain⟨⟨hs,hl⟩,hB⟩:=hB
 have:=dC (md:=.any) (g:=0) (k:=0) hr ht hs hQ (λlisted a w hB h=>⟨by simpa [Region.seqB] using hB,h⟩) l _ a w.drew (fF _ _) hB h
 rw[Ax,hl]at this;exact wp_region_any hm (iO _ _ _ _ this)
theorem tT (E:World->World->Prop) (k:Nat) (l:List (Nat×Bool)) {id:Nat} {L:List Oper} {a:Act} {w:World} (hr:∀w,E w w) (ht:∀a b c,E a b->E b c->E a c)
  (hm:P.follows .mixedOrders=true) (hB:jC L.toArray k l=true)
  (hQ:∀d v c a w,Q (.panic c) (a.put d v) w->Q (.panic c) a w) (h:fH P L.toArray E Q (wpList P L.toArray Q (L.drop k)) l a w.drew):(Code.region id L.toArray true).wp P Q a w:=by
 simp only[jC,Aa,decide_eq_true_eq]at hB;obtain⟨⟨⟨⟨hs,hl⟩,hk⟩,i5⟩,hB⟩:=hB;have ni:(L.drop k).length=L.toArray.size-k:=by simp
 have:=dC (P:=P) (Q:=Q) (md:=.any) (ops:=L.toArray) (fin:=wpList P L.toArray Q (L.drop k)) (g:=L.toArray.size-k) (k:=k) hr ht hs hQ (λlisted a w hB h=>by
  obtain⟨g,hg⟩:∃g,L.toArray.size-k=g+1:=⟨L.toArray.size-k-1,by omega⟩
  have cq:Region.ready .any L.toArray listed=[k]:=by
   rw[hg]at hB;simp only[Region.seqB,Aa,decide_eq_true_eq]at hB;exact hB.1
  have da:=wpAny_of_seq (md:=.any) (Q':=Q) (L.drop k) k listed a w (λj=>by simp[List.getElem?_drop]) (by rw[ni];exact hB) h;rw[hg];refine⟨λh0=>(by rw[h0]at cq;cases cq),λj hj=>?_⟩;have h1:=da;rw[ni,hg]at h1;have jb:j=k:=by rw[cq]at hj;simpa using hj
  subst jb;exact wpOp_mono (λa' w' h' => .inr ⟨i5,h'⟩) (h1.2 j hj)) l _ a w.drew (fF _ _) hB h
 rw[hl,show k+(L.toArray.size-k)=L.toArray.size by omega]at this
 exact wp_region_any hm (iO _ _ _ _ this)
theorem hP0 {i:Nat} {rest:List (Nat×Bool)} {a:Act} {w:World} {o:Oper} (ho:ops[i]?=some o)
  (h:∀K:Act->Prop,(∀a,fH P ops E Q fin rest a w->K a)->if Region.wanted o (yielded ops a.tmps) then aO P o a E w K else K (a.put o.dst undef)):fH P ops E Q fin ((i,false)::rest) a w:=by
 unfold fH;simp only[ho];exact h _ (λ_ h=>h)
theorem lV0 {i:Nat} {rest:List (Nat×Bool)} {a:Act} {w:World} {o:Oper} (ho:ops[i]?=some o)
  (h:∀K:Act->World->Prop,(∀a w,fH P ops E Q fin rest a w->K a w)->if Region.wanted o (yielded ops a.tmps) then o.wp P a w (λa' w'=>E w w'/\K a' w') Q else K (a.put o.dst undef) w):fH P ops E Q fin ((i,true)::rest) a w:=by
 unfold fH;simp only[ho];exact h _ (λ_ _ h=>h)
theorem eG0 {i:Nat} {rest:List (Nat×Bool)} {a:Act} {w:World} {o:Oper} (ho:ops[i]?=some o) (hw:Region.wanted o (yielded ops a.tmps)=true)
  (h:∀K:Act->World->Prop,(∀a w,fH P ops E Q fin rest a w->K a w)->o.wp P a w (λa' w'=>E w w'/\K a' w') Q):fH P ops E Q fin ((i,true)::rest) a w :=
 lV0 ho λK hK=>by rw[if_pos hw];exact h K hK
theorem pB0 {i:Nat} {b:Bool} {rest:List (Nat×Bool)} {a:Act} {w:World} {o:Oper} (ho:ops[i]?=some o) (hw:Region.wanted o (yielded ops a.tmps)=false)
  (h:fH P ops E Q fin rest (a.put o.dst undef) w):fH P ops E Q fin ((i,b)::rest) a w:=by
 unfold fH;simp only[ho,hw,Af,if_false];exact h
structure kP0 (P:Program) (ops:Array Oper) (E:World->World->Prop) (Q:Exit->Act->World->Prop) (fin:Act->World->Prop) (l:List (Nat×Bool)) (a:Act) (w:World):Prop where
 out:fH P ops E Q fin l a w
theorem mR (E:World->World->Prop) (l:List (Nat×Bool)) {id:Nat} {a:Act} {w:World} (hr:∀w,E w w) (ht:∀a b c,E a b->E b c->E a c)
 (hm:P.follows .mixedOrders=true) (hB:nG ops l=true)
 (hQ:∀d v c a w,Q (.panic c) (a.put d v) w->Q (.panic c) a w) (h:kP0 P ops E Q (Q .normal) l a w.drew):(Code.region id ops true).wp P Q a w:=uV E l hr ht hm hB hQ h.out
theorem hF0 {P:Program} {Q:Exit->Act->World->Prop} (E:World->World->Prop) (k:Nat) (l:List (Nat×Bool)) {id:Nat} {L:List Oper} {a:Act} {w:World} (hr:∀w,E w w) (ht:∀a b c,E a b->E b c->E a c)
 (hm:P.follows .mixedOrders=true) (hB:jC L.toArray k l=true)
 (hQ:∀d v c a w,Q (.panic c) (a.put d v) w->Q (.panic c) a w) (h:kP0 P L.toArray E Q (wpList P L.toArray Q (L.drop k)) l a w.drew):(Code.region id L.toArray true).wp P Q a w:=tT E k l hr ht hm hB hQ h.out
theorem bI (l:List (Nat×Bool)) {id:Nat} {a:Act} {w:World} (hB:(P.follows .mixedOrders&&nG ops l)=true)
  (hQ:∀d v c a w,Q (.panic c) (a.put d v) w->Q (.panic c) a w) (h:kP0 P ops aB Q (Q .normal) l a w.drew):(Code.region id ops true).wp P Q a w :=
 mR aB l aB.refl aB.trans (Bool.and_eq_true_iff.1 hB).1 (Bool.and_eq_true_iff.1 hB).2 hQ h
theorem qB {P:Program} {Q:Exit->Act->World->Prop} (k:Nat) (l:List (Nat×Bool)) {id:Nat} {L:List Oper} {a:Act} {w:World}
  (hB:(P.follows .mixedOrders&&jC L.toArray k l)=true)
  (hQ:∀d v c a w,Q (.panic c) (a.put d v) w->Q (.panic c) a w) (h:kP0 P L.toArray aB Q (wpList P L.toArray Q (L.drop k)) l a w.drew):(Code.region id L.toArray true).wp P Q a w :=
 hF0 aB k l aB.refl aB.trans (Bool.and_eq_true_iff.1 hB).1 (Bool.and_eq_true_iff.1 hB).2 hQ h
theorem aK {i:Nat} {rest:List (Nat×Bool)} {a:Act} {w:World} {o:Oper} (ho:ops[i]?=some o)
  (h:∀K:Act->Prop,(∀a,kP0 P ops E Q fin rest a w->K a)->if Region.wanted o (yielded ops a.tmps) then aO P o a E w K else K (a.put o.dst undef)):kP0 P ops E Q fin ((i,false)::rest) a w :=
 ⟨hP0 ho λK hK=>h K λa ha=>hK a ha.out⟩
theorem bU {i:Nat} {rest:List (Nat×Bool)} {a:Act} {w:World} {o:Oper} (ho:ops[i]?=some o) (hw:Region.wanted o (yielded ops a.tmps)=true)
  (h:∀K:Act->World->Prop,(∀a w,kP0 P ops E Q fin rest a w->K a w)->o.wp P a w (λa' w'=>E w w'/\K a' w') Q):kP0 P ops E Q fin ((i,true)::rest) a w :=
 ⟨eG0 ho hw λK hK=>h K λa w ha=>hK a w ha.out⟩
theorem t_skip {i:Nat} {b:Bool} {rest:List (Nat×Bool)} {a:Act} {w:World} {o:Oper} (ho:ops[i]?=some o) (hw:Region.wanted o (yielded ops a.tmps)=false)
 (h:kP0 P ops E Q fin rest (a.put o.dst undef) w):kP0 P ops E Q fin ((i,b)::rest) a w:=⟨pB0 ho hw h.out⟩
theorem bT {a:Act} {w:World} (h:fin a w):kP0 P ops E Q fin [] a w:=⟨h⟩
end
theorem pN {P:Program} {f:FuncId} {args:Array Value} {w:World} {v:Value} (h:Calls P f args w λe w'=>e=.returned v/\w=w'):Calls P f args w λe ld=>e=.returned v/\ld=w:=h.mono λ_ _ ⟨he,hw⟩=>⟨he,hw.symm⟩
theorem sR {B:Nat} {w:World} {p:Addr} {v:Value} (hb:p.block<B) (hc:w.cell? p=some v) (x:Ext (EB B) w):x.u.cell? p=some v:=by
 rw[Below.cell x.h.1 hb];exact hc
end
section
open Go Go.RowKit
theorem fZ {α:Type} {enc:α->List Value} {k:Nat} (hk:∀x,(enc x).length=k) {w:World} {e:TypeId} {base n:Nat} (hb:base<=w.heap.size) (xs:List α) {cs:Array Value} (ct:cs.toList=xs.flatMap enc) (hn:xs.length=n) (hl:n<=maxLen) :
  aT (w.alloc (.cells cs e)) base e k enc (.slice (some ⟨w.heap.size,0,none⟩) n n) xs:=by
 subst hn;have ak:=fC hk xs;refine⟨ak,Or.inr ⟨w.heap.size,xs.length,cs,rfl,hb,?_,Ag _,hl,?_,?_⟩⟩
 ·show (w.heap.push _)[w.heap.size]?=_
  simp
 ·rw[<-Array.length_toList,ct,ak]
 ·rw[ct,<-ak,List.take_length]
def gT (n:Nat):List Value:=[.int .u64 n]
def mT (b:Bool):List Value:=[.bool b]
def fI (n:Nat):List Value:=[.int .i64 n]
def stC (s:ByteArray):List Value:=[.string s]
theorem nA0:eV Tryz.prog 206 213 1 8 gT where
 sl:=Tryz.underlying206
 info:=iK (z:=.int .u64 0) (by kernel_rfl) rfl
 pos:=by decide
 by1:=by decide
 len _:=rfl
 one x u hu:=by
  simp[gT]at hu;subst hu;rfl
theorem tD:eV Tryz.prog 205 4 1 1 mT where
 sl:=Tryz.underlying205
 info:=iK (z:=.bool false) (by kernel_rfl) rfl
 pos:=by decide
 by1:=by decide
 len _:=rfl
 one x u hu:=by
  simp[mT]at hu;subst hu;rfl
theorem mV:eV Tryz.prog 109 3 1 8 fI where
 sl:=Tryz.underlying109
 info:=iK (z:=.int .i64 0) (by kernel_rfl) rfl
 pos:=by decide
 by1:=by decide
 len _:=rfl
 one x u hu:=by
  simp[fI]at hu;subst hu;rfl
theorem xO0:eV Tryz.prog 65 9 1 16 stC where
 sl:=Tryz.underlying65
 info:=iK (z:=.string ByteArray.empty) (by kernel_rfl) rfl
 pos:=by decide
 by1:=by decide
 len _:=rfl
 one x u hu:=by
  simp[stC]at hu;subst hu;rfl
theorem at1 {α:Type} {w:World} {a:Option Addr} {xs:List α} {f:α->Value} (h:aF w a 1 (xs.map λx=>[f x])) (hn:xs≠[]):∃b o,a=some ⟨b,o,none⟩/\∀k x,xs[k]?=some x->w.cell? ⟨b,o+k,none⟩=some (f x):=by
 obtain⟨b,o,ha,hc⟩:=aF.get (enc:=λx=>[f x]) h hn;exact⟨b,o,ha,λk x hx=>by simpa using hc k x hx 0 _ rfl⟩
end
section
open Go Go.RowKit
attribute [local go_sem] aM aO
theorem rV (x V:Nat):(x:Int)/2^V=((x>>>V:Nat):Int):=by rw[Nat.shiftRight_eq_div_pow]; push_cast; rfl
theorem tO (x:Nat):Ab (x%256)=Ab x:=by
 apply UInt8.toNat_inj.1
 rw[Ad,Ad];omega
theorem zT (x:Nat):[Value.int .u8 ((x:Int)%256)]=aQ (Ab x):=by
 unfold aQ;rw[Ad];congr 2
theorem lF0 (n w:Nat) (hw:w<=64):(#[Value.int .u8 ((n:Int)%256),.int .u8 ((n:Int)/256%256),.int .u8 ((n:Int)/65536%256),.int .u8 ((n:Int)/16777216%256),.int .u8 (w:Int)]:Array Value).toList=(leB 4 n++[Ab w]).flatMap aQ:=by
 have h:leB 4 n=[Ab n,Ab (n/256),Ab (n/65536),Ab (n/16777216)]:=by
  unfold leB;simp[List.range_succ]
 rw[h,mG];simp only[List.cons_append,As,List.map_cons,List.map_nil,Ad];rw[Aq (show w<2^8 by omega)]
 congr 1
theorem yE {l:List Nat} {W k t x:Nat} (hx:l[k]?=some x) (ht:t<W):bitAt l W (k*W+t)=x.testBit t:=by
 unfold bitAt
 have h1:(k*W+t)/W=k:=by
  rw[Ap,Nat.mul_add_div (by omega),Nat.div_eq_of_lt ht,Ax]
 have h2:(k*W+t)%W=t:=by rw[Ap,Nat.mul_add_mod,Aq ht]
 rw[h1,h2,List.getD_eq_getElem?_getD,hx];rfl
end
section
open Go Go.RowKit
inductive kA where
 | done
 | quiet (i:Nat) (t:kA)
 | late (i:Nat) (t:kA)
 | alt (s t:kA)
def kA.heads:kA->List Nat
 | .late i _=>[i]
 | .alt s t=>s.heads++t.heads
 | _=>[]
def kA.len:kA->Nat
 | .done=>0
 | .quiet _ t=>t.len+1
 | .late _ t=>t.len+1
 | .alt s _=>s.len
section
variable {P:Program} {ops:Array Oper} {Q:Exit->Act->World->Prop} {md:Region.Mode} {E:World->World->Prop} {fin:Act->World->Prop}
def gB (P:Program) (ops:Array Oper) (E:World->World->Prop) (Q:Exit->Act->World->Prop) (fin:Act->World->Prop):kA->Act->World->Prop
 | .done,a,w=>fin a w
 | .quiet i t,a,w=>match ops[i]? with
  | none=>False
  | some o=>if Region.wanted o (yielded ops a.tmps) then aO P o a E w (λa'=>gB P ops E Q fin t a' w) else gB P ops E Q fin t (a.put o.dst undef) w
 | .late i t,a,w=>match ops[i]? with
  | none=>False
  | some o=>if Region.wanted o (yielded ops a.tmps) then o.wp P a w (λa' w'=>E w w'/\gB P ops E Q fin t a' w') Q else gB P ops E Q fin t (a.put o.dst undef) w
 | .alt s t,a,w=>gB P ops E Q fin s a w/\gB P ops E Q fin t a w
def iV (md:Region.Mode) (ops:Array Oper):Bool->kA->Array Bool->Bool
 | b,.done,listed => !b&&decide (Region.ready md ops listed=[])
 | b,.quiet i t,listed => !b&&(Region.ready md ops listed).contains i&&Region.free md ops listed i&&iV md ops false t (listed.setIfInBounds i true)
 | b,.late i t,listed=>(Region.ready md ops listed).contains i&&(b||(Region.ready md ops listed).all λj=>j==i)&&iV md ops false t (listed.setIfInBounds i true)
 | b,.alt s t,listed=>decide (s.len=t.len)&&(b||(Region.ready md ops listed).all λj=>(s.heads++t.heads).contains j)&&iV md ops true s listed&&iV md ops true t listed
theorem dU0 (hr:∀w,E w w) {i:Nat} {t:kA} {a:Act} {w:World} {n:Nat} {listed:Array Bool} (h:gB P ops E Q fin (.late i t) a w) (hk:∀a' w',gB P ops E Q fin t a' w'->fO P md ops Q E n (listed.setIfInBounds i true) a' w') :
  wpOp P ops Q i (λa' w'=>(E w w'/\fO P md ops Q E n (listed.setIfInBounds i true) a' w')\/(aE0 md ops i=true/\wpAny P md ops Q n (listed.setIfInBounds i true) a' w')) a w:=by
 unfold gB at h;unfold wpOp;split at h
 ·exact h.elim
 ·rename_i o ho
  simp only[ho];split at h
  ·rename_i hw
   simp only[hw,if_true];exact .inl (Oper.wp_mono (λa' w' h' => .inl ⟨h'.1,hk _ _ h'.2⟩) h)
  ·rename_i hw
   simp only[hw] at ⊢;exact .inl ⟨hr _,hk _ _ h⟩
theorem wO:∀(t:kA) (listed:Array Bool),iV md ops true t listed=true->(∃n,t.len=n+1)/\∃i,i∈Region.ready md ops listed
 | .done,_,h=>by simp[iV]at h
 | .quiet _ _,_,h=>by simp[iV]at h
 | .late i t,_,h=>by
  simp only[iV,Aa]at h;exact⟨⟨t.len,rfl⟩,i,by simpa using h.1.1⟩
 | .alt s t,listed,h=>by
  simp only[iV,Aa]at h;exact wO s listed h.1.2
theorem dW (hr:∀w,E w w) (ht:∀a b c,E a b->E b c->E a c) (hs:Region.noSelect ops=true)
  (hQ:∀d v c a w,Q (.panic c) (a.put d v) w->Q (.panic c) a w) (ax:∀a w,fin a w->Q .normal a w):∀(t:kA) (listed:Array Bool),iB md ops listed ->
  (∀a w,iV md ops false t listed=true->gB P ops E Q fin t a w->fO P md ops Q E t.len listed a w) /\
  (∀a w,iV md ops true t listed=true->gB P ops E Q fin t a w->∀n,t.len=n+1->∀i∈t.heads,i∈Region.ready md ops listed ->
   wpOp P ops Q i (λa' w'=>(E w w'/\fO P md ops Q E n (listed.setIfInBounds i true) a' w')\/(aE0 md ops i=true/\wpAny P md ops Q n (listed.setIfInBounds i true) a' w')) a w)
 | .done,listed,cj=>by
  refine⟨λa w hB h=>?_,λa w hB=>by simp[iV]at hB⟩;simp only[iV,Bool.not_false,Bool.true_and,decide_eq_true_eq]at hB;exact⟨hB,ax _ _ h⟩
 | .quiet i t,listed,cj=>by
  refine⟨λa w hB h=>?_,λa w hB=>by simp[iV]at hB⟩;simp only[iV,Aa]at hB;obtain⟨⟨⟨_,cq⟩,hf⟩,kt⟩:=hB;have ed:i∈Region.ready md ops listed:=by simpa using cq
  unfold gB at h;show fO P md ops Q E (t.len+1) listed a w
  split at h
  ·exact h.elim
  ·rename_i o ho
   split at h
   ·rename_i hw
    obtain⟨v,hv,hk⟩:=h;exact gS hr ht ho (Region.noSelect_spec hs) hQ _ listed a w cj (Region.free_spec ho hf) ed (.inl ⟨hw,hv⟩) ((dW hr ht hs hQ ax t _ (cB cj ed)).1 _ _ kt hk)
   ·rename_i hw
    exact gS hr ht ho (Region.noSelect_spec hs) hQ _ listed a w cj (Region.free_spec ho hf) ed (.inr ⟨by simpa using hw,rfl⟩) ((dW hr ht hs hQ ax t _ (cB cj ed)).1 _ _ kt h)
 | .late i t,listed,cj=>by
  have key:∀b a w,iV md ops b (.late i t) listed=true->gB P ops E Q fin (.late i t) a w->wpOp P ops Q i (λa' w'=>(E w w'/\fO P md ops Q E t.len (listed.setIfInBounds i true) a' w')\/(aE0 md ops i=true/\wpAny P md ops Q t.len (listed.setIfInBounds i true) a' w')) a w:=λb a w hB h=>by
   simp only[iV,Aa]at hB;obtain⟨⟨cq,_⟩,kt⟩:=hB;have ed:i∈Region.ready md ops listed:=by simpa using cq
   exact dU0 hr h λa' w' h'=>(dW hr ht hs hQ ax t _ (cB cj ed)).1 _ _ kt h'
  refine⟨λa w hB h=>?_,λa w hB h n hn j hj _=>?_⟩
  ·have jx:=hB
   simp only[iV,Aa,Au]at jx;obtain⟨⟨cq,da⟩,_⟩:=jx;refine⟨λh0=>(by rw[h0]at cq;simp at cq),λj hj=>?_⟩;obtain rfl:j=i:=by simpa using List.all_eq_true.1 da j hj
   exact key false a w hB h
  ·obtain rfl:j=i:=by simpa [kA.heads] using hj
   obtain rfl:t.len=n:=by simpa [kA.len] using hn
   exact key true a w hB h
 | .alt s t,listed,cj=>by
  have both:∀b a w,iV md ops b (.alt s t) listed=true->gB P ops E Q fin (.alt s t) a w->∀n,s.len=n+1->∀i∈s.heads++t.heads,i∈Region.ready md ops listed ->
    wpOp P ops Q i (λa' w'=>(E w w'/\fO P md ops Q E n (listed.setIfInBounds i true) a' w')\/(aE0 md ops i=true/\wpAny P md ops Q n (listed.setIfInBounds i true) a' w')) a w:=λb a w hB h n hn i hi cq=>by
   simp only[iV,Aa,decide_eq_true_eq]at hB;obtain⟨⟨⟨hl,_⟩,de⟩,jh⟩:=hB;rcases List.mem_append.1 hi with hi|hi
   ·exact(dW hr ht hs hQ ax s listed cj).2 a w de h.1 n hn i hi cq
   ·exact(dW hr ht hs hQ ax t listed cj).2 a w jh h.2 n (by rw[<-hl];exact hn) i hi cq
  refine⟨λa w hB h=>?_,λa w hB h n hn i hi cq=>both true a w hB h n hn i hi cq⟩;have jx:=hB;simp only[iV,Aa,decide_eq_true_eq,Au]at jx;obtain⟨⟨⟨hl,da⟩,de⟩,jh⟩:=jx;show fO P md ops Q E s.len listed a w
  obtain⟨⟨n,hn⟩,i0,yk⟩:=wO s listed de;rw[hn];refine⟨λh0=>(by rw[h0]at yk;cases yk),λj hj=>both false a w hB h n hn j (by simpa using List.all_eq_true.1 da j hj) hj⟩
def gZ0 (ops:Array Oper) (t:kA):Bool:=Region.noSelect ops&&decide (t.len=ops.size)&&iV .any ops false t (Array.replicate ops.size false)
structure pV0 (P:Program) (ops:Array Oper) (E:World->World->Prop) (Q:Exit->Act->World->Prop) (fin:Act->World->Prop) (t:kA) (a:Act) (w:World):Prop where
 out:gB P ops E Q fin t a w
def pX0 (a:Act) (l:List (Option Nat×Value)):Act:=l.foldl (λa p=>a.put p.1 p.2) a
theorem tY0 {ι:Type} (E:World->World->Prop) (t:kA) (upd:ι->List (Option Nat×Value)) (F:ι->World->Prop) {id:Nat} {a:Act} {w:World} (hr:∀w,E w w) (ht:∀a b c,E a b->E b c->E a c)
  (hm:P.follows .mixedOrders=true) (hB:gZ0 ops t=true)
  (hQ:∀d v c a w,Q (.panic c) (a.put d v) w->Q (.panic c) a w) (h:pV0 P ops E Q (λa' w'=>∃x,F x w'/\a'=pX0 a (upd x)) t a w.drew)
  (hk:∀x w',F x w'->Q .normal (pX0 a (upd x)) w'):(Code.region id ops true).wp P Q a w:=by
 simp only[gZ0,Aa,decide_eq_true_eq]at hB;obtain⟨⟨hs,hl⟩,hB⟩:=hB
 have:=(dW (md:=.any) (Q:=Q) hr ht hs hQ (λa' w' (h:∃x,F x w'/\a'=pX0 a (upd x))=>by obtain⟨x,hF,rfl⟩:=h;exact hk x w' hF) t _ (fF _ _)).1 a w.drew hB h.out
 rw[hl]at this;exact wp_region_any hm (iO _ _ _ _ this)
theorem lQ {i:Nat} {t:kA} {a:Act} {w:World} {o:Oper} (ho:ops[i]?=some o)
  (h:∀K:Act->Prop,(∀a,pV0 P ops E Q fin t a w->K a)->if Region.wanted o (yielded ops a.tmps) then aO P o a E w K else K (a.put o.dst undef)):pV0 P ops E Q fin (.quiet i t) a w:=by
 refine⟨?_⟩;unfold gB;simp only[ho];exact h _ λ_ ha=>ha.out
theorem iH {i:Nat} {t:kA} {a:Act} {w:World} {o:Oper} (ho:ops[i]?=some o) (hw:Region.wanted o (yielded ops a.tmps)=true)
  (h:∀K:Act->World->Prop,(∀a w,pV0 P ops E Q fin t a w->K a w)->o.wp P a w (λa' w'=>E w w'/\K a' w') Q):pV0 P ops E Q fin (.late i t) a w:=by
 refine⟨?_⟩;unfold gB;simp only[ho,hw,if_true];exact h _ λ_ _ ha=>ha.out
theorem wA0 {s t:kA} {a:Act} {w:World} (h1:pV0 P ops E Q fin s a w) (h2:pV0 P ops E Q fin t a w):pV0 P ops E Q fin (.alt s t) a w:=⟨⟨h1.out,h2.out⟩⟩
theorem nQ0 {a:Act} {w:World} (h:fin a w):pV0 P ops E Q fin .done a w:=⟨h⟩
end
end
end Go.Proofs.YthgklnohcmaopaaGreatDoor
