/- The texts PpsP pA0 PrintB ParS Src RefS RdS CutV EnvL9 Witness9, one behind the other. -/
import Derived.Test.YtiopheoljccmpaaGreatDoorCq3
import Derived.Test.YtiopheoljccmpaaGreatDoorCq1
import Derived.Test.YtiopheoljccmpaaGreatDoorCq7
import Derived.Test.YtiopheoljccmpaaGreatDoorCq8
import Derived.Test.YtiopheoljccmpaaGreatDoorCq19
import Derived.Lib.SlicesS
import Derived.Lib.IndexMore
import Derived.Lib.ItoaNum
import Derived.Lib.ItoaLen
import Derived.Test.YtiopheoljccmpaaGreatDoorCq18
import Derived.Test.YtiopheoljccmpaaGreatDoorCq12
import Derived.Test.YtiopheoljccmpaaGreatDoorCq20
import Derived.Test.YtiopheoljccmpaaGreatDoorCq14
import Derived.Test.YtiopheoljccmpaaGreatDoorCq2
import Derived.Test.YtiopheoljccmpaaGreatDoorCq21
open Go.World renaming cell?_setCell_other → Aa,cell?_setCell_same → Ab,block_lt_of_cell? → Ad,frozen?_setCell → Aj
open Go.Lib renaming hid → Ac,index → Be,cut → Bf,pow10Tab → Bg
open Nat renaming le_refl → Ae,le_trans → Al,zero_le → Ao,mul_one → Az,le_of_lt → Bh
open List renaming getElem?_eq_getElem → Af,length_drop → Ag,length_append → Ai,nil_append → Ak,append_assoc → An,getElem?_map → Ap,cons_append → Aq,take_length → Ar,length_take → As,getElem?_eq_none → Av,mem_cons_of_mem → Aw,drop_succ_cons → Ax,mem_cons_self → Ay,isPrefixOf → Ba,drop_zero → Bc,length → Bi
open Go.Addr renaming block → Ah
open Go.IntKind renaming signed → Am,wrap → At,bits → Au
open Array renaming replicate → Bb
open Option renaming map → Bd
set_option maxHeartbeats 8000000
namespace Go.Proofs.YtiopheoljccmpaaGreatDoor
set_option maxRecDepth 100000
section
open Go
def iM:List ByteArray:=[mkB [99,111,110,116,101,110,116],mkB [102,117,110,99,116,105,111,110],mkB [112,114,101,102,105,120]]
def bM0 (s:ByteArray):Int:=Lib.idxOfS iM s
def bO0 (s:ByteArray):bT:=⟨mkB (Bf s.data.toList [9]).1,bM0 (mkB (Bf s.data.toList [9]).2.1)⟩
def eE (out:List bT) (q:bT):Int :=
 if q.kind<0\/iI q.name=false\/(out=[]/\lK q=false) then 5 else if (posFind out q.name).isSome=true then 4 else if out.length=64 then 2 else 0
def gD:List ByteArray->Nat->List (Nat×ByteArray)
 | [],_=>[]
 | s::r,i=>if iK s then gD r (i+1) else (i+1,s)::gD r (i+1)
def uB:List (Nat×ByteArray)->List bT->List bT×Int×Int
 | [],out=>if out=[] then ([],0,5) else (out,0,0)
 | x::r,out=>if eE out (bO0 x.2)≠0 then ([],x.1,eE out (bO0 x.2)) else uB r (out++[bO0 x.2])
def iZ (text:ByteArray):List bT×Int×Int:=if 1048576<text.size then ([],0,2) else uB (gD (splitS 10 text) 0) []
def okP:List (Nat×ByteArray)->List bT->Option (List bT)
 | [],out=>some out
 | x::r,out=>if eE out (bO0 x.2)≠0 then none else okP r (out++[bO0 x.2])
theorem yW:∀ {pre:List (Nat×ByteArray)} {o out:List bT} (rest:List (Nat×ByteArray)),okP pre o=some out->uB (pre++rest) o=uB rest out
 | [],o,out,rest,h=>by obtain rfl:=Option.some.inj h;rfl
 | x::r,o,out,rest,h=>by
  rw[okP]at h;split at h
  ·cases h
  ·rename_i hn
   rw[Aq,uB,if_neg hn];exact yW rest h
theorem pW0:∀ {pre:List (Nat×ByteArray)} {o out:List bT} {x:Nat×ByteArray},okP pre o=some out->eE out (bO0 x.2)=0->okP (pre++[x]) o=some (out++[bO0 x.2])
 | [],o,out,x,h,he=>by
  obtain rfl:=Option.some.inj h;rw[Ak,okP,if_neg (by rw[he];decide)];rfl
 | y::r,o,out,x,h,he=>by
  rw[okP]at h;split at h
  ·cases h
  ·rename_i hn
   rw[Aq,okP,if_neg hn];exact pW0 h he
theorem sY0 {all pre:List (Nat×ByteArray)} {x:Nat×ByteArray} {out:List bT} {e:Int} (hp:pre++[x] <+: all) (h:okP pre []=some out) (he:eE out (bO0 x.2)=e) (h0:e≠0):uB all []=([],(x.1:Int),e):=by
 obtain⟨r,rfl⟩:=hp;rw[An,yW _ h,List.singleton_append,uB,if_pos (by rw[he];exact h0),he]
theorem sQ0 {all:List (Nat×ByteArray)} {out:List bT} (h:okP all []=some out):uB all []=if out=[] then ([],0,5) else (out,0,0):=by
 have:=yW [] h
 rwa [List.append_nil]at this
theorem wI0:∀ {pre:List (Nat×ByteArray)} {o out:List bT},o.length<=64->okP pre o=some out->out.length<=64
 | [],o,out,ho,h=>by obtain rfl:=Option.some.inj h;exact ho
 | y::r,o,out,ho,h=>by
  rw[okP]at h;split at h
  ·cases h
  ·rename_i hn
   refine wI0 ?_ h
   have ky:¬o.length=64:=λe=>hn (by
    unfold eE;split
    ·decide
    ·split
     ·decide
     ·first|decide|(rw[if_pos e];decide))
   rw[Ai,List.length_singleton];omega
theorem vG0:∀ {x:List UInt8} (l:List UInt8),(9:UInt8)∉x->Be (x++9::l) [9]=(x.length:Int)
 | [],l,_=>by rw[Ak,Be,if_pos (by simp[Ba])];rfl
 | b::x,l,h=>by
  have h1:¬(9:UInt8)=b:=λe=>h (by rw[e];exact Ay);have ih:=vG0 l (λhm=>h (Aw _ hm));rw[Aq,Be,if_neg (by simp[Ba,h1]),ih,if_neg (by rw[beq_iff_eq];omega),List.length_cons];omega
theorem kR1 {x:List UInt8} (l:List UInt8) (h:(9:UInt8)∉x):Bf (x++9::l) [9]=(x,l,true):=by
 unfold Bf;rw[vG0 l h,if_pos (by omega),Int.toNat_natCast];simp
theorem tQ:∀(n:Nat) (l:List UInt8),l.length<=n->65533∉runesD l->Lib.validD l=true
 | 0,l,hl,_=>by
  have:l=[]:=List.eq_nil_of_length_eq_zero (by omega)
  subst this;rfl
 | n+1,l,hl,h=>by
  by_cases aw:l=[]
  ·subst aw;rfl
  ·have ay:0<l.length:=List.length_pos_iff.2 aw
   have hw:=Lib.decodeL_width l;rw[gO l aw]at h;rw[Lib.validD_step l aw,if_neg (λhb=>h (by rw[hb.1];exact Ay))];exact tQ n _ (by rw[Ag];omega) (λhm=>h (Aw _ hm))
theorem lU0 {s:ByteArray} (h:iI s=true):s.data.toList≠[]/\s.size<=16/\∀b∈s.data.toList,36<=b.toNat:=by
 rw[oK0]at h;simp only[Bool.and_eq_true,decide_eq_true_eq,Bool.not_eq_true',List.any_eq_false]at h;obtain⟨⟨h0,h16⟩,d5⟩:=h;have hv:=tQ _ _ (Ae _) (λhm=>d5 _ hm (by decide));refine⟨λe=>by rw[Lib.toList_data,e]at h0;simp at h0,h16,λb hb=>?_⟩;rcases Nat.lt_or_ge b.toNat 36 with af|ze
 ·exfalso
  apply d5 _ (gX0 _ _ (Ae _) hv b hb (by omega))
  unfold nameBad;simp;omega
 ·exact ze
end
section
open Go Go.RowKit Go.Shelf
structure pA0 (w:World):Prop extends Env w where
 pow : Lib.TabIs Tryz.prog w "internal/strconv.uint64pow10" .u64 Bg
 kin:∀(i:Nat) (s:ByteArray),iM[i]?=some s->w.cell? ⟨0,i,none⟩=some (.string s)
theorem kL1 : Tryz.prog.globalNamed "internal/strconv.uint64pow10" = some 7 := by kernel_rfl
theorem pA0.env {w:World} (h:pA0 w):Env w:=h.toEnv
theorem pA0.grows {w w':World} (h:pA0 w) (hg:aB w w'):pA0 w' where
 toEnv:=h.toEnv.grows hg
 pow:=var?_below hg.below kL1 (Ad w _ (h.pow.cell kL1 0 (by decide))) h.pow
 kin:=λi s hs=>hg.cell (h.kin i s hs)
end
section
open Go Go.RowKit Go.Shelf
attribute [local go_sem] aM
def eY1 (p:List bT) (i:Int):ByteArray:=((p[i.toNat]?).map (·.name)).getD ByteArray.empty
end
section
open Go Go.RowKit
structure CB (b:Nat) (w w':World):Prop where
 size:w.heap.size<=w'.heap.size
 cell:∀(p:Addr) (v:Value),p.block≠b->w.cell? p=some v->w'.cell? p=some v
theorem CB.of {b:Nat} {w w':World} (h:aB w w'):CB b w w':=⟨h.size,λ_ _ _ hc=>h.cell hc⟩
theorem CB.trans {b:Nat} {w w' lq:World} (h:CB b w w') (k:CB b w' lq):CB b w lq:=⟨Al h.size k.size,λp v hp hc=>k.cell p v hp (h.cell p v hp hc)⟩
theorem CB.tr {b:Nat} {w w' lq:World} (h:CB b w w') (k:aB w' lq):CB b w lq:=h.trans (CB.of k)
theorem fT {H:Type} {P:Program} {k:TypeId} {R:Value->Option (DataW H×List MemPlace)} {w:World} {bs N:Nat} {D:DataW H} (h:w.ownsMap P k R bs N D) {p:Addr} {v:Value} (hc:w.cell? p=some v):p.block≠bs:=by
 obtain⟨es,clock,hb,_⟩:=h;intro e;rw[<-e]at hb;simp[World.cell?,hb]at hc
theorem CB.of_map {H:Type} {P:Program} {k:TypeId} {R:Value->Option (DataW H×List MemPlace)} {b:Nat} {w w':World} {bs N:Nat} {D:DataW H} (h:w.ownsMap P k R bs N D) (hg:w.grownBy w' (some bs)):CB b w w' :=
 ⟨hg.size,λ_ _ _ hc=>bB hg hc (λe=>fT h hc (Option.some.inj e))⟩
theorem CB.set {w:World} (b i:Nat) (v:Value):CB b w (w.setCell ⟨b,i,none⟩ v) :=
 ⟨by simp,λp u hp hc=>by rw[Aa _ _ _ _ (λe=>hp (by rw[<-e]))];exact hc⟩
theorem CB.cells {b:Nat} {w w':World} {a:Option Addr} {k:Nat} {rows:List (List Value)} (h:CB b w w') (ah:aF w a k rows) (hb:∀q:Addr,a=some q->q.block≠b):aF w' a k rows:=λhn=>by
 obtain⟨b',off,rfl,hc⟩:=ah hn;exact⟨b',off,rfl,λi row hi j v hj=>h.cell _ _ (show b'≠b from hb ⟨b',off,none⟩ rfl) (hc i row hi j v hj)⟩
def eX1:nY->List (Nat×Nat)
 | none=>[]
 | some ms=>ms.2
def yQ (seen:List (Nat×Nat)) (D:DataW Unit):Prop:=∀a b:Nat,a<=64->b<=64->D.atKey (klP ((a:Int),(b:Int))) (.lit (.int .i64 0))=.lit (.int .i64 (if (a,b)∈seen then 1 else 0))
theorem oE {a:Nat} (h:a<=64):WfI (a:Int):=by
 unfold WfI;exact WalkArith.wf_i64 (by omega)
theorem yQ.nil:yQ [] (.map []):=λ_ _ _ _=>rfl
theorem yQ.put {seen:List (Nat×Nat)} {D:DataW Unit} (h:yQ seen D) (hm:Go.Maps.IsMap D) {a b:Nat} (ha:a<=64) (hb:b<=64):yQ ((a,b)::seen) (D.put (klP ((a:Int),(b:Int))) (.lit (.int .i64 1))):=λa' b' ha' hb'=>by
 by_cases e:(a',b')=(a,b)
 ·obtain⟨rfl,rfl⟩:=Prod.mk.inj e
  rw[Go.Maps.atKey_put_same hm (yL _)];simp
 ·rw[Go.Maps.atKey_put_other (λe2=>e ?_),h a' b' ha' hb']
  ·simp[e]
  ·have:=gF0 (oE ha') (oE hb') (oE ha) (oE hb) e2
   simp only[Prod.mk.injEq,Int.natCast_inj]at this;rw[this.1,this.2]
structure PSt (w:World) (B b7 b8 bs N:Nat) (st:nY):Prop where
 g7:B<=b7
 gs:B<=bs
 n78:b8≠b7
 c8:w.cell? ⟨b8,0,none⟩=some (.map (some bs))
 c7:∃v,w.cell? ⟨b7,0,none⟩=some v
 f7:w.frozen? ⟨b7,0,none⟩=false
 mp:∃D,w.ownsMap Tryz.prog 84 (plainElem Tryz.prog 3) bs N D/\yQ (eX1 st) D
 no:st=none->w.cell? ⟨b7,0,none⟩=some (.pointer none)
 so:∀m seen,st=some (m,seen)->∃mb bm,w.cell? ⟨b7,0,none⟩=some (.pointer (some ⟨mb,0,none⟩))/\gA w mb bm m/\B<=mb/\B<=bm/\bm≠bs/\mb≠b7
theorem PSt.lt7 {w:World} {B b7 b8 bs N:Nat} {st:nY} (h:PSt w B b7 b8 bs N st):b7<w.heap.size:=let ⟨_,hv⟩:=h.c7; Ad w _ hv
theorem PSt.grows {w w':World} {B b7 b8 bs N:Nat} {st:nY} (h:PSt w B b7 b8 bs N st) (hg:aB w w'):PSt w' B b7 b8 bs N st :=
 ⟨h.g7,h.gs,h.n78,hg.cell h.c8,let ⟨v,hv⟩:=h.c7;⟨v,hg.cell hv⟩,(hg.froz (p:=⟨b7,0,none⟩) h.lt7).trans h.f7,let ⟨D,ho,hm⟩:=h.mp;⟨D,bQ ho hg,hm⟩,
  λe=>hg.cell (h.no e),λm seen e=>let ⟨mb,bm,h1,h2,h3⟩:=h.so m seen e;⟨mb,bm,hg.cell h1,h2.grows hg,h3⟩⟩
def dH (p:List bT) (st:nY) (f:List ByteArray) (B b7 b8 bs N:Nat) (w:World) (e:Ending) (w':World):Prop :=
 e=.returned (.int .i64 (lineM p st f).2)/\((lineM p st f).2=0->PSt w' B b7 b8 bs (N+1) (lineM p st f).1)/\EB B w w'/\CB b7 w w'
theorem dH.err {p:List bT} {st:nY} {f:List ByteArray} {B b7 b8 bs N:Nat} {w w':World} {E:Int} (hl:(lineM p st f).2=E) (hE:E≠0) (h1:EB B w w') (h2:CB b7 w w'):dH p st f B b7 b8 bs N w (.returned (.int .i64 E)) w' :=
 ⟨by rw[hl],λh=>absurd (hl.symm.trans h) hE,h1,h2⟩
theorem lW {p:List bT} {f:List ByteArray} (h:¬(f.length=2/\iE f 0=gA1/\numMb (iE f 1)=true)):lineM p none f=(none,5):=by
 unfold lineM;simp only;rw[if_neg h]
theorem kH0 {p:List bT} {a b:ByteArray} (ha:a=gA1) (hb:numMb b=true):lineM p none [a,b]=(some (newM p.length (numMv b),[]),0):=by
 unfold lineM;simp only;rw[if_pos ⟨rfl,ha,hb⟩];rfl
theorem rM0 (p:List bT) (m:Mx) (seen:List (Nat×Nat)) (f:List ByteArray):∃m' f8,(lineM p (some (m,seen)) f).1=some (m',f8)/\m'.n=m.n:=by
 unfold lineM;simp only;split
 ·split
  ·split
   ·exact⟨_,_,rfl,rfl⟩
   ·exact⟨_,_,rfl,wG0 _ _ _⟩
  ·exact⟨_,_,rfl,rfl⟩
 ·exact⟨_,_,rfl,rfl⟩
theorem nC0 {p:List bT} {m:Mx} {seen:List (Nat×Nat)} {x y z:ByteArray} (hz:numMb z=true):lineM p (some (m,seen)) [x,y,z]=(match posFind p x,posFind p y with
  | some a,some b=>if (a,b)∈seen then (some (m,seen),4) else (some (m.setIf ((a:Int),(b:Int)) (numMv z),(a,b)::seen),0)
  | _,_=>(some (m,seen),150)):=by
 unfold lineM;simp only;rw[if_pos ⟨rfl,hz⟩];rfl
theorem cE0 {p:List bT} {m:Mx} {seen:List (Nat×Nat)} {f:List ByteArray} (h:¬(f.length=3/\numMb (iE f 2)=true)):lineM p (some (m,seen)) f=(some (m,seen),5):=by
 unfold lineM;simp only;rw[if_neg h]
def EM (P:Program) (t:TypeId) (bs:Nat) (key:Value) (w u:World):Prop:=w.grownBy u (some bs)/\∀v,(Instr.lookup t (.map (some bs)) key false).run P w=.ok v w->(Instr.lookup t (.map (some bs)) key false).run P u=.ok v u
theorem EM.refl (P:Program) (t:TypeId) (bs:Nat) (key:Value) (w:World):EM P t bs key w w:=⟨⟨rfl,rfl,rfl,Ae _,λ_ _ _=>rfl⟩,λ_ h=>h⟩
instance (P:Program) (t:TypeId) (bs:Nat) (key:Value) (w:World):Nonempty (Ext (EM P t bs key) w):=⟨⟨w,EM.refl _ _ _ _ _⟩⟩
theorem EM.trans (P:Program) (t:TypeId) (bs:Nat) (key:Value) (a b c:World) (h:EM P t bs key a b) (k:EM P t bs key b c):EM P t bs key a c:=⟨h.1.andThen k.1 (λ_ hj=>Or.inr hj),λv hv=>k.2 v (h.2 v hv)⟩
end
section
open Go Go.RowKit
attribute [local go_sem] aM aP
def iS1 (w:World) (v:Value):Option Mx->Prop
 | none=>v=.pointer none
 | some m=>∃rb,v=.pointer (some ⟨rb,0,none⟩)/\iQ w rb m
theorem iS1.grows {w w':World} {v:Value} {m:Option Mx} (h:iS1 w v m) (hg:aB w w'):iS1 w' v m:=by
 cases m with
 | none=>exact h
 | some m=>obtain⟨rb,e,hr⟩:=h;exact⟨rb,e,hr.grows hg⟩
structure bM1 where
 p:List bT
 d:Int
 s:List iU1
 e:List En
structure uC0 where
 pa:Option Addr
 pc:Nat
 sa:Option Addr
 sc:Nat
 ea:Option Addr
 ec:Nat
def uC0.cells (a:uC0) (x:bM1):Array Value := #[.slice a.pa x.p.length a.pc,.int .i64 x.d,.slice a.sa x.s.length a.sc,.slice a.ea x.e.length a.ec]
def uC0.agg (a:uC0) (x:bM1):Value := .agg (a.cells x)
structure iZ0 (w:World) (a:uC0) (x:bM1):Prop where
 p:aF w a.pa 2 (x.p.map bI)
 s:aF w a.sa 3 (x.s.map kV1)
 e:aF w a.ea 5 (x.e.map bE)
theorem iZ0.grows {w w':World} {a:uC0} {x:bM1} (h:iZ0 w a x) (hg:aB w w'):iZ0 w' a x:=⟨h.p.grows hg,h.s.grows hg,h.e.grows hg⟩
structure hJ1 (x:bM1):Prop where
 p:∀y∈x.p,y.name.size<=maxLen
 s:∀y∈x.s,WfI y.c
 e:∀y∈x.e,xM y
 d:WfI x.d
 lp:x.p.length<=140737488355328
 ls:x.s.length<=140737488355328
 le:x.e.length<=140737488355328
def yQ0 (x:bM1):Option Mx:=if uD0 x.p.length x.d then some (runSets (newM x.p.length x.d) x.s) else none
theorem qC0 (x:bM1) (A:uC0) (w:World) (be:hJ1 x) (ah:iZ0 w A x) :
  Calls Tryz.prog 66 #[A.agg x] w λe w'=>∃v,e=.returned v/\dX1 w' v (yQ0 x)/\aB w w':=by
 have HOS:=Ac be.s;have hlp:=be.lp;have m0:=be.ls;clear be;obtain⟨pa,pc,sa,sc,ea,ec⟩:=A;obtain⟨xp,xd,xs,xe⟩:=x;try replace hlp:xp.length<=140737488355328:=hlp
 try replace m0:xs.length<=140737488355328:=m0
 try replace o4:xe.length<=140737488355328:=o4
 obtain⟨W0,gv⟩:=exq (w.alloc (.cells #[.slice pa xp.length pc,.int .i64 xd,.slice sa xs.length sc,.slice ea xe.length ec] 56));have ij:aB w W0:=by rw[gv];exact aB.alloc _ _
 have jf:=λj u h=>aX w #[.slice pa xp.length pc,.int .i64 xd,.slice sa xs.length sc,.slice ea xe.length ec] 56 (0,0) j u h;rw[<-gv]at jf;have q0:=jf 0 _ rfl;have q1:=jf 1 _ rfl;have q2:=jf 2 _ rfl;have q3:=jf 3 _ rfl;have HQ:=Ac (And.intro q0 (And.intro q1 (And.intro q2 q3)));have HP:Hid (aF W0 pa 2 (xp.map bI)):=ah.p.grows ij;have HS:Hid (aF W0 sa 3 (xs.map kV1)):=ah.s.grows ij;have HE:Hid (aF W0 ea 5 (xe.map bE)):=ah.e.grows ij;have HG0:=Ac ij;clear jf ah ij;show Calls _ _ #[.agg #[.slice pa xp.length pc,.int .i64 xd,.slice sa xs.length sc,.slice ea xe.length ec]] _ _
 have HSM:Hid (yQ0 ⟨xp,xd,xs,xe⟩=if uD0 xp.length xd then some (runSets (newM xp.length xd) xs) else none):=rfl
 obtain⟨SM,hSM⟩:=exq (yQ0 ⟨xp,xd,xs,xe⟩);rw[<-hSM]at HSM ⊢;clear hSM q2 q3;replace HOS:Hid (∀y∈xs,WfI y.c):=HOS;go_enter Tryz.func66,Tryz.ntmps66
 cases ko:uD0 xp.length xd with
 | false =>
  rw[ko]at HSM;go_wp2_with fail
  rw[<-gv];clear gv;refine(gQ1 xp.length xd _ ko).mono ?_;rintro e w1 ⟨rfl,rfl⟩;go_wp2_with fail
  go_ret;exact⟨_,rfl,by rw[HSM.out];rfl,HG0.out⟩
 | true =>
  rw[ko]at HSM;replace HSM:Hid (SM=some (runSets (newM xp.length xd) xs)):=HSM;go_wp2_with fail
  rw[<-gv];clear gv;refine(yC0 xp.length xd _ ko).mono ?_;rintro e w1 ⟨rfl,tu,aq⟩;clear q0 q1;go_wp2_with fail
  go_loopw [5] (λi wr=>∃(k:Nat),k<=xs.length/\i=.int .i64 k/\gA wr (W0.heap.size+1) W0.heap.size (runSets (newM xp.length xd) (xs.take k))/\aB W0 wr) (λi _=>xs.length-(intOf i).toNat)
  case atStart=>exact⟨0,Ao _,rfl,tu,aq⟩
  case round =>
  obtain⟨k,hk,rfl,hm,hg⟩:=hrel;clear tu aq;by_cases af:k<xs.length
  ·obtain⟨⟨sr,sl,sq⟩,hs⟩:∃s,xs[k]?=some s:=⟨_,Af af⟩
   have hsq:WfI sq:=HOS.out _ (List.mem_of_getElem? hs);have HT:=Ac (jI0 (m:=newM xp.length xd) hs);obtain⟨lb,lo,rfl,fu⟩:=HS.out.get (aH af);have di:(k:Int)<xs.length:=by omega
   have b2:=hg.cell HQ.out.2.2.1;have z2:∀x:Ext aB wr.drew,x.u.cell? ⟨w.heap.size,2,none⟩=some (.slice (some ⟨lb,lo,none⟩) xs.length sc):=aG (hg.dr.cell HQ.out.2.2.1);have y0:∀x:Ext aB wr.drew,x.u.cell? ⟨lb,lo+k*3,none⟩=some (.int .i64 sr):=aG (hg.dr.cell (fu k _ hs 0 _ rfl));have y1:∀x:Ext aB wr.drew,x.u.cell? ⟨lb,lo+k*3+1,none⟩=some (.int .i64 sl):=aG (hg.dr.cell (fu k _ hs 1 _ rfl));have y2:∀x:Ext aB wr.drew,x.u.cell? ⟨lb,lo+k*3+2,none⟩=some (.int .i64 sq):=aG (hg.dr.cell (fu k _ hs 2 _ rfl));clear fu hs;generalize runSets (newM xp.length xd) (xs.take k)=M1 at *;go_wp2_with fail
   refine pD 19 (aT 19 []) (by kernel_rfl) (λd _ _ _ _ h=>by cases d<;>exact h) ?_
   iterate 19 (refine aJ rfl (λK hK=>?_);go_simp;refine hK _ ?_;clear hK K)
   refine bN ?_;simp only[Ax,Bc];clear z2 y0 y1 y2 b2;have hSV:=wB0 wr.drew _ _ _ (hm.grows (aB.drew wr)) sr sl sq hsq;go_wp2_with fail
   refine hSV.mono ?_;rintro e w4 ⟨rfl,hm4,cd⟩;have d8:aB W0 w4:=hg.dr.grown cd (λq hq=>by cases hq;exact Ae _);go_wp2_with fail
   go_roundw
   case rel=>exact⟨k+1,af,by go_num,by rw[HT.out];exact hm4,d8⟩
   case measure=>simp[intOf];omega
  ·obtain rfl:k=xs.length:=by omega
   rw[Ar]at hm;have b2:=hg.cell HQ.out.2.2.1;go_wp2_with fail
   go_ret;refine⟨_,rfl,?_,aB.trans _ _ _ HG0.out hg⟩;rw[HSM.out];exact⟨_,_,rfl,hm⟩
end
section
open Go Go.RowKit
attribute [local go_sem] aM
def mL (l:List En) (x:En) (k m:Nat) (kb:Bool):Prop:=kb=true↔∀j y,j<m->l[j]?=some y->¬Bad x k y j
theorem mL.start (l:List En) (x:En) (k:Nat):mL l x k 0 true:=⟨λ_ j y hj=>by omega,λ_=>rfl⟩
theorem mL.bad {l:List En} {x y:En} {k m:Nat} (hy:l[m]?=some y) (hb:Bad x k y m):mL l x k (m+1) false:=⟨λh=>(by cases h),λh=>absurd hb (h m y (Nat.lt_succ_self _) hy)⟩
theorem mL.good {l:List En} {x y:En} {k m:Nat} {kb:Bool} (h:mL l x k m kb) (hy:l[m]?=some y) (hb:¬Bad x k y m):mL l x k (m+1) kb:=by
 constructor
 ·intro hk j z hj hz
  rcases Nat.lt_succ_iff_lt_or_eq.1 hj with hj|rfl
  ·exact h.1 hk j z hj hz
  ·rw[hy]at hz
   rw[<-Option.some.inj hz];exact hb
 ·intro hk
  exact h.2 λj z hj hz=>hk j z (by omega) hz
theorem mL.full {l:List En} {x:En} {k:Nat} {kb:Bool} (h:mL l x k l.length kb) (hx:l[k]?=some x):kb=true↔tV l x=true/\x∉l.take k:=h.trans (cU1 hx)
theorem zQ {x y:En} {b:Bool} (hb:decide (dO x y)=b) (W:World):Calls Tryz.prog 172 #[x.agg,y.agg] W λe w'=>e=.returned (.bool b)/\aB W w':=hb▸iX0 x y W
theorem pO0 {x y:En} {b:Bool} (hb:lessS x y=b) (W:World):Calls Tryz.prog 173 #[x.agg,y.agg] W λe w'=>e=.returned (.bool b)/\aB W w':=hb▸xY0 x y W
theorem zX0 {α:Type} {w:World} {base:Nat} {e:TypeId} {k:Nat} {enc:α->List Value} {a:Option Addr} {n c:Nat} {xs:List α} (h:aO w base e k enc (.slice a n c) xs):a=none->c=0:=by
 intro ha;rcases h.2 with ⟨h1,_⟩|⟨g,cap,ei,h1,_⟩
 ·have:a=none/\n=0/\c=0:=by simpa using h1
  exact this.2.2
 ·rw[ha]at h1;simp at h1
theorem vB0 (l:List En) (la:Option Addr) (cap:Nat) (w:World) (hl:l.length<=1048576) (ah:aF w la 5 (l.map bE)) :
  Calls Tryz.prog 115 #[.slice la l.length cap] w (iD0 l w):=by
 have HAT:=Ac ah;clear ah;go_enter Tryz.func115,Tryz.ntmps115
 go_wp2_with fail
 go_loopw [3,4] (λv i wr=>∃(k:Nat) (o:List En),k<=l.length/\i=.int .i64 k/\aO wr w.heap.size 89 5 bE v o/\o.length<=k/\Hid (kU0 l k o)/\aB w wr) (λ_ i _=>l.length-(intOf i).toNat)
 case atStart=>exact⟨0,[],Ao _,rfl,aO.nil _ _ _ _ _,Ao _,kU0.start l,aB.refl _⟩
 case round =>
  obtain⟨k,o,hk,rfl,ae,uj,ak,hg⟩:=hrel;obtain⟨u0,rfl⟩:=exq wr;by_cases af:k<l.length
  ·obtain⟨⟨xr,xs,xl,xt,xc⟩,hx⟩:∃x,l[k]?=some x:=⟨_,Af af⟩
   obtain⟨a3,c3,rfl,jr,th,aav⟩:=ae.at_ sT.len;obtain⟨ba,oa,rfl,cn⟩:=(HAT.out.grows hg).get (aH af);have HCA:=Ac cn;have HX:=Ac hx;have HO:=Ac aav;clear cn hx aav;go_wp2_with fail
   go_loopw [5,6] (λb j wx=>∃(m:Nat) (kb:Bool),m<=l.length/\j=.int .i64 m/\b=.bool kb/\Hid (mL l ⟨xr,xs,xl,xt,xc⟩ k m kb)/\aB u0 wx) (λ_ j _=>l.length-(intOf j).toNat)
   case atStart=>exact⟨0,true,Ao _,rfl,rfl,mL.start _ _ _,aB.refl _⟩
   case round =>
    obtain⟨m,kb,hm,rfl,rfl,qv,j4⟩:=hrel;by_cases hml:m<l.length
    ·obtain⟨⟨yr,ys,yl,yt,yc⟩,hy⟩:∃y,l[m]?=some y:=⟨_,Af hml⟩
     have HY:=Ac hy;clear hy;go_wp2_with fail
     have x0:∀x:Ext aB wr.drew,x.u.cell? ⟨ba,oa+k*5,none⟩=some (.string xr):=aG (j4.dr.cell (HCA.out k _ HX.out 0 _ rfl));have x1:∀x:Ext aB wr.drew,x.u.cell? ⟨ba,oa+k*5+1,none⟩=some (.string xs):=aG (j4.dr.cell (HCA.out k _ HX.out 1 _ rfl));have x2:∀x:Ext aB wr.drew,x.u.cell? ⟨ba,oa+k*5+2,none⟩=some (.int .i64 xl):=aG (j4.dr.cell (HCA.out k _ HX.out 2 _ rfl));have x3:∀x:Ext aB wr.drew,x.u.cell? ⟨ba,oa+k*5+3,none⟩=some (.int .i64 xt):=aG (j4.dr.cell (HCA.out k _ HX.out 3 _ rfl));have x4:∀x:Ext aB wr.drew,x.u.cell? ⟨ba,oa+k*5+4,none⟩=some (.int .i64 xc):=aG (j4.dr.cell (HCA.out k _ HX.out 4 _ rfl));have y0:∀x:Ext aB wr.drew,x.u.cell? ⟨ba,oa+m*5,none⟩=some (.string yr):=aG (j4.dr.cell (HCA.out m _ HY.out 0 _ rfl));have y1:∀x:Ext aB wr.drew,x.u.cell? ⟨ba,oa+m*5+1,none⟩=some (.string ys):=aG (j4.dr.cell (HCA.out m _ HY.out 1 _ rfl));have y2:∀x:Ext aB wr.drew,x.u.cell? ⟨ba,oa+m*5+2,none⟩=some (.int .i64 yl):=aG (j4.dr.cell (HCA.out m _ HY.out 2 _ rfl));have y3:∀x:Ext aB wr.drew,x.u.cell? ⟨ba,oa+m*5+3,none⟩=some (.int .i64 yt):=aG (j4.dr.cell (HCA.out m _ HY.out 3 _ rfl));have y4:∀x:Ext aB wr.drew,x.u.cell? ⟨ba,oa+m*5+4,none⟩=some (.int .i64 yc):=aG (j4.dr.cell (HCA.out m _ HY.out 4 _ rfl));by_cases hs:dO ⟨xr,xs,xl,xt,xc⟩ ⟨yr,ys,yl,yt,yc⟩
     ·have HSB:Hid (decide (dO ⟨xr,xs,xl,xt,xc⟩ ⟨yr,ys,yl,yt,yc⟩)=true):=decide_eq_true hs
      have HS:=Ac hs;clear hs;refine iX aB (aT 40 []) aB.refl aB.trans (by kernel_rfl) (by kernel_rfl) (λd _ _ _ _ h=>by cases d<;>exact h) ?_
      iterate 8 (refine cQ rfl (λK hK=>?_);go_simp;refine hK _ ?_;clear hK K)
      refine cQ rfl (λK hK=>?_);go_simp;apply Exists.intro
      refine⟨λx=>?_,hK _ ?_⟩
      ·go_at_call 172;exact tY (zQ (x:=⟨xr,xs,xl,xt,xc⟩) (y:=⟨yr,ys,yl,yt,yc⟩) HSB.out _)
      clear hK K;iterate 1 (refine cQ rfl (λK hK=>?_);go_simp;refine hK _ ?_;clear hK K)
      iterate 12 (refine cQ rfl (λK hK=>?_);go_simp;refine hK _ ?_;clear hK K)
      by_cases h1:yc<xc
      ·have HB:Hid (Bad ⟨xr,xs,xl,xt,xc⟩ k ⟨yr,ys,yl,yt,yc⟩ m):=⟨HS.out,Or.inl h1⟩
       iterate 18 (refine cQ rfl (λK hK=>?_);go_simp;refine hK _ ?_;clear hK K)
       refine sG (λw4 h4=>?_);go_wp2_with fail
       go_roundw
       case rel=>exact⟨m+1,false,hml,by go_num,rfl,mL.bad HY.out HB.out,j4.dr.tr h4⟩
       case measure=>simp[intOf];omega
      ·iterate 12 (refine cQ rfl (λK hK=>?_);go_simp;refine hK _ ?_;clear hK K)
       by_cases h2:yc=xc
       ·by_cases h3:m<k
        ·have HB:Hid (Bad ⟨xr,xs,xl,xt,xc⟩ k ⟨yr,ys,yl,yt,yc⟩ m):=⟨HS.out,Or.inr ⟨h2,h3⟩⟩
         iterate 6 (refine cQ rfl (λK hK=>?_);go_simp;refine hK _ ?_;clear hK K)
         refine sG (λw4 h4=>?_);go_wp2_with fail
         go_roundw
         case rel=>exact⟨m+1,false,hml,by go_num,rfl,mL.bad HY.out HB.out,j4.dr.tr h4⟩
         case measure=>simp[intOf];omega
        ·have HB:Hid (¬Bad ⟨xr,xs,xl,xt,xc⟩ k ⟨yr,ys,yl,yt,yc⟩ m):=λh=>by rcases h.2 with h4|⟨_,h4⟩<;>(try simp only at h4)<;>omega
         iterate 6 (refine cQ rfl (λK hK=>?_);go_simp;refine hK _ ?_;clear hK K)
         refine sG (λw4 h4=>?_);go_wp2_with fail
         go_roundw
         case rel=>exact⟨m+1,kb,hml,by go_num,rfl,qv.out.good HY.out HB.out,j4.dr.tr h4⟩
         case measure=>simp[intOf];omega
       ·have HB:Hid (¬Bad ⟨xr,xs,xl,xt,xc⟩ k ⟨yr,ys,yl,yt,yc⟩ m):=λh=>by rcases h.2 with h4|⟨h4,_⟩<;>(try simp only at h4)<;>omega
        iterate 6 (refine cQ rfl (λK hK=>?_);go_simp;refine hK _ ?_;clear hK K)
        refine sG (λw4 h4=>?_);go_wp2_with fail
        go_roundw
        case rel=>exact⟨m+1,kb,hml,by go_num,rfl,qv.out.good HY.out HB.out,j4.dr.tr h4⟩
        case measure=>simp[intOf];omega
     ·have HSB:Hid (decide (dO ⟨xr,xs,xl,xt,xc⟩ ⟨yr,ys,yl,yt,yc⟩)=false):=decide_eq_false hs
      have HS:=Ac hs;clear hs;refine iX aB (aT 40 []) aB.refl aB.trans (by kernel_rfl) (by kernel_rfl) (λd _ _ _ _ h=>by cases d<;>exact h) ?_
      iterate 8 (refine cQ rfl (λK hK=>?_);go_simp;refine hK _ ?_;clear hK K)
      refine cQ rfl (λK hK=>?_);go_simp;apply Exists.intro
      refine⟨λx=>?_,hK _ ?_⟩
      ·go_at_call 172;exact tY (zQ (x:=⟨xr,xs,xl,xt,xc⟩) (y:=⟨yr,ys,yl,yt,yc⟩) HSB.out _)
      clear hK K;iterate 1 (refine cQ rfl (λK hK=>?_);go_simp;refine hK _ ?_;clear hK K)
      have HB:Hid (¬Bad ⟨xr,xs,xl,xt,xc⟩ k ⟨yr,ys,yl,yt,yc⟩ m):=λh=>HS.out h.1;iterate 30 (refine cQ rfl (λK hK=>?_);go_simp;refine hK _ ?_;clear hK K)
      refine sG (λw4 h4=>?_);go_wp2_with fail
      go_roundw
      case rel=>exact⟨m+1,kb,hml,by go_num,rfl,qv.out.good HY.out HB.out,j4.dr.tr h4⟩
      case measure=>simp[intOf];omega
    ·obtain rfl:m=l.length:=by omega
     have gi:=qv.out.full HX.out;have ax:=ae.grows j4;cases kb
     ·have HN:Hid (kU0 l (k+1) o):=ak.out.skip HX.out (λh=>by cases gi.2 h)
      clear gi;go_wp2_with fail
      go_roundw
      case rel=>exact⟨k+1,o,af,by go_num,ax,by omega,HN,hg.tr j4⟩
      case measure=>simp[intOf];omega
     ·obtain⟨za,hf2⟩:=gi.1 rfl
      have HN:Hid (kU0 l (k+1) (gN0 ⟨xr,xs,xl,xt,xc⟩ o)):=ak.out.ins HX.out za hf2;have HCN:Hid (a3=none->c3=0):=zX0 ae;clear gi za hf2;obtain⟨u1,rfl⟩:=exq wr;go_wp2_with fail
      go_loopw [8] (λa wx=>∃(m:Nat),m<=o.length/\a=.int .i64 m/\Hid (∀j y,j<m->o[j]?=some y->lessS y ⟨xr,xs,xl,xt,xc⟩=true)/\aB u0 wx) (λa _=>o.length-(intOf a).toNat)
      case atStart=>exact⟨0,Ao _,rfl,λj y hj=>by omega,j4⟩
      case round =>
       obtain⟨m,hm,rfl,d5,x5⟩:=hrel;obtain⟨u2,rfl⟩:=exq wr;by_cases hmo:m<o.length
       ·obtain⟨⟨yr,ys,yl,yt,yc⟩,hy⟩:∃y,o[m]?=some y:=⟨_,Af hmo⟩
        obtain⟨ob,oo,rfl,hco⟩:=HO.out.get (aH hmo);have HCO:=Ac hco;have HY:=Ac hy;clear hco hy;have x0:∀x:Ext aB u2.drew,x.u.cell? ⟨ba,oa+k*5,none⟩=some (.string xr):=aG (x5.dr.cell (HCA.out k _ HX.out 0 _ rfl));have x1:∀x:Ext aB u2.drew,x.u.cell? ⟨ba,oa+k*5+1,none⟩=some (.string xs):=aG (x5.dr.cell (HCA.out k _ HX.out 1 _ rfl));have x2:∀x:Ext aB u2.drew,x.u.cell? ⟨ba,oa+k*5+2,none⟩=some (.int .i64 xl):=aG (x5.dr.cell (HCA.out k _ HX.out 2 _ rfl));have x3:∀x:Ext aB u2.drew,x.u.cell? ⟨ba,oa+k*5+3,none⟩=some (.int .i64 xt):=aG (x5.dr.cell (HCA.out k _ HX.out 3 _ rfl));have x4:∀x:Ext aB u2.drew,x.u.cell? ⟨ba,oa+k*5+4,none⟩=some (.int .i64 xc):=aG (x5.dr.cell (HCA.out k _ HX.out 4 _ rfl));have y0:∀x:Ext aB u2.drew,x.u.cell? ⟨ob,oo+m*5,none⟩=some (.string yr):=aG (x5.dr.cell (HCO.out m _ HY.out 0 _ rfl));have y1:∀x:Ext aB u2.drew,x.u.cell? ⟨ob,oo+m*5+1,none⟩=some (.string ys):=aG (x5.dr.cell (HCO.out m _ HY.out 1 _ rfl));have y2:∀x:Ext aB u2.drew,x.u.cell? ⟨ob,oo+m*5+2,none⟩=some (.int .i64 yl):=aG (x5.dr.cell (HCO.out m _ HY.out 2 _ rfl));have y3:∀x:Ext aB u2.drew,x.u.cell? ⟨ob,oo+m*5+3,none⟩=some (.int .i64 yt):=aG (x5.dr.cell (HCO.out m _ HY.out 3 _ rfl));have y4:∀x:Ext aB u2.drew,x.u.cell? ⟨ob,oo+m*5+4,none⟩=some (.int .i64 yc):=aG (x5.dr.cell (HCO.out m _ HY.out 4 _ rfl));cases m0:lessS ⟨yr,ys,yl,yt,yc⟩ ⟨xr,xs,xl,xt,xc⟩
        ·have aaw:=nF0 (x:=⟨xr,xs,xl,xt,xc⟩) hm d5.out (Or.inr ⟨_,HY.out,m0⟩)
         have HIN:=Ac aaw;clear aaw;go_wp2_with fail
         refine iX aB (aT 15 []) aB.refl aB.trans (by kernel_rfl) (by kernel_rfl) (λd _ _ _ _ h=>by cases d<;>exact h) ?_
         iterate 13 (refine cQ rfl (λK hK=>?_);go_simp;refine hK _ ?_;clear hK K)
         refine cQ rfl (λK hK=>?_);go_simp;apply Exists.intro
         refine⟨λx=>?_,hK _ ?_⟩
         ·go_at_call 173;exact tY (pO0 (x:=⟨yr,ys,yl,yt,yc⟩) (y:=⟨xr,xs,xl,xt,xc⟩) m0 _)
         clear hK K;iterate 1 (refine cQ rfl (λK hK=>?_);go_simp;refine hK _ ?_;clear hK K)
         refine sG (λw4 h4=>?_);have d8:=x5.dr.tr h4;obtain⟨p2,cz,b9,dd⟩:=pF (k:=5) (l:=m) (h:=o.length) (HO.out.grows d8) HCN.out hm (Ae _) jr;have aw:¬c3=m:=by omega
         obtain rfl:p2=some ⟨ob,oo+m*5,none⟩:=by
          unfold sliced at cz;rw[if_neg aw,Option.map_some,pO]at cz;injection cz with h
          exact h.symm
         clear cz;rw[Ar]at b9;have hq1:=fB0 (HO.out.grows d8) m;have hmc:m<=c3:=by omega
         have js:(o.take m).length=m:=by rw[As];omega
         have ja:(o.drop m).length=o.length-m:=Ag;have HQ1:=Ac hq1;have HQ2:=Ac b9;clear hq1 b9
         go_wp2_with (first
          | (at_builtin;refine dE sT rfl _ _ rfl w4.heap.size (.slice none 0 0) [] (o.take m) rfl (aO.nil w4 _ _ _ _) (aB.refl _) _ c3 (by rw[js];rfl) HQ1.out HCN.out (by rw[js];simp;omega) (Ae _) ?_;intro v5 w5 ai bg;have jo:=bg w4 (aB.refl _) (Ae _);clear bg;rw[Ak]at ai;have z0:w5.cell? ⟨ba,oa+k*5,none⟩=some (.string xr):=(d8.tr jo).cell (HCA.out k _ HX.out 0 _ rfl);have z1:w5.cell? ⟨ba,oa+k*5+1,none⟩=some (.string xs):=(d8.tr jo).cell (HCA.out k _ HX.out 1 _ rfl);have z2:w5.cell? ⟨ba,oa+k*5+2,none⟩=some (.int .i64 xl):=(d8.tr jo).cell (HCA.out k _ HX.out 2 _ rfl);have z3:w5.cell? ⟨ba,oa+k*5+3,none⟩=some (.int .i64 xt):=(d8.tr jo).cell (HCA.out k _ HX.out 3 _ rfl);have z4:w5.cell? ⟨ba,oa+k*5+4,none⟩=some (.int .i64 xc):=(d8.tr jo).cell (HCA.out k _ HX.out 4 _ rfl))
          | (at_builtin;refine dQ sT rfl _ _ rfl w4.heap.size _ (o.take m) ⟨xr,xs,xl,xt,xc⟩ rfl ai (aB.refl _) _ 1 rfl _ rfl rfl (by rw[js];omega) jo.size ?_;intro v6 w6 cp de;have un:=de w4 jo (Ae _);clear de)
          | (at_builtin;refine dE sT rfl _ _ rfl w4.heap.size _ (o.take m++[⟨xr,xs,xl,xt,xc⟩]) (o.drop m) rfl cp (aB.refl _) _ (c3-m) (by rw[ja];rfl) (HQ2.out.grows un) dd (by rw[Ai,js,ja];simp;omega) un.size ?_;intro v7 w7 bi ck;have adw:=ck w4 un (Ae _);clear ck))
         go_roundw
         case rel=>exact⟨k+1,gN0 ⟨xr,xs,xl,xt,xc⟩ o,af,by go_num,by rw[HIN.out,<-An];exact bi.base (Al hg.size (d8.size)),by rw[rP];omega,HN,(hg.tr d8).tr adw⟩
         case measure=>simp[intOf];omega
        ·have aad:Hid (∀j y,j<m+1->o[j]?=some y->lessS y ⟨xr,xs,xl,xt,xc⟩=true):=λj y hj hy=>by
          rcases Nat.lt_succ_iff_lt_or_eq.1 hj with h|rfl
          ·exact d5.out j y h hy
          ·rw[HY.out]at hy
           rw[<-Option.some.inj hy];exact m0
         go_wp2_with fail
         refine iX aB (aT 15 []) aB.refl aB.trans (by kernel_rfl) (by kernel_rfl) (λd _ _ _ _ h=>by cases d<;>exact h) ?_
         iterate 13 (refine cQ rfl (λK hK=>?_);go_simp;refine hK _ ?_;clear hK K)
         refine cQ rfl (λK hK=>?_);go_simp;apply Exists.intro
         refine⟨λx=>?_,hK _ ?_⟩
         ·go_at_call 173;exact tY (pO0 (x:=⟨yr,ys,yl,yt,yc⟩) (y:=⟨xr,xs,xl,xt,xc⟩) m0 _)
         clear hK K;iterate 1 (refine cQ rfl (λK hK=>?_);go_simp;refine hK _ ?_;clear hK K)
         refine sG (λw4 h4=>?_);go_wp2_with fail
         go_roundw
         case rel=>exact⟨m+1,hmo,by go_num,aad,x5.dr.tr h4⟩
         case measure=>simp[intOf];omega
       ·have hme:m=o.length:=by omega
        have aaw:=nF0 (x:=⟨xr,xs,xl,xt,xc⟩) hm d5.out (Or.inl hme);have HIN:=Ac aaw;clear aaw hme;go_wp2_with fail
        refine iX aB (aT 15 []) aB.refl aB.trans (by kernel_rfl) (by kernel_rfl) (λd _ _ _ _ h=>by cases d<;>exact h) ?_
        iterate 15 (refine cQ rfl (λK hK=>?_);go_simp;refine hK _ ?_;clear hK K)
        refine sG (λw4 h4=>?_);have d8:=x5.dr.tr h4;obtain⟨p2,cz,b9,dd⟩:=pF (k:=5) (l:=m) (h:=o.length) (HO.out.grows d8) HCN.out hm (Ae _) jr
        have kr:(if c3=m then a3 else Bd (λx=>x.add (m*5)) a3)=p2:=by
         unfold sliced at cz;injection cz
        clear cz;rw[Ar]at b9;have hq1:=fB0 (HO.out.grows d8) m;have hmc:m<=c3:=by omega
        have js:(o.take m).length=m:=by rw[As];omega
        have ja:(o.drop m).length=o.length-m:=Ag;have HQ1:=Ac hq1;have HQ2:=Ac b9;clear hq1 b9
        go_wp2_with (first
         | (at_builtin;refine dE sT rfl _ _ rfl w4.heap.size (.slice none 0 0) [] (o.take m) rfl (aO.nil w4 _ _ _ _) (aB.refl _) _ c3 (by rw[js];rfl) HQ1.out HCN.out (by rw[js];simp;omega) (Ae _) ?_;intro v5 w5 ai bg;have jo:=bg w4 (aB.refl _) (Ae _);clear bg;rw[Ak]at ai;have z0:w5.cell? ⟨ba,oa+k*5,none⟩=some (.string xr):=(d8.tr jo).cell (HCA.out k _ HX.out 0 _ rfl);have z1:w5.cell? ⟨ba,oa+k*5+1,none⟩=some (.string xs):=(d8.tr jo).cell (HCA.out k _ HX.out 1 _ rfl);have z2:w5.cell? ⟨ba,oa+k*5+2,none⟩=some (.int .i64 xl):=(d8.tr jo).cell (HCA.out k _ HX.out 2 _ rfl);have z3:w5.cell? ⟨ba,oa+k*5+3,none⟩=some (.int .i64 xt):=(d8.tr jo).cell (HCA.out k _ HX.out 3 _ rfl);have z4:w5.cell? ⟨ba,oa+k*5+4,none⟩=some (.int .i64 xc):=(d8.tr jo).cell (HCA.out k _ HX.out 4 _ rfl))
         | (at_builtin;refine dQ sT rfl _ _ rfl w4.heap.size _ (o.take m) ⟨xr,xs,xl,xt,xc⟩ rfl ai (aB.refl _) _ 1 rfl _ rfl rfl (by rw[js];omega) jo.size ?_;intro v6 w6 cp de;have un:=de w4 jo (Ae _);clear de)
         | (at_builtin;refine dE sT rfl _ _ rfl w4.heap.size _ (o.take m++[⟨xr,xs,xl,xt,xc⟩]) (o.drop m) rfl cp (aB.refl _) _ (c3-m) (by rw[ja];rfl) (HQ2.out.grows un) dd (by rw[Ai,js,ja];simp;omega) un.size ?_;intro v7 w7 bi ck;have adw:=ck w4 un (Ae _);clear ck))
        go_roundw
        case rel=>exact⟨k+1,gN0 ⟨xr,xs,xl,xt,xc⟩ o,af,by go_num,by rw[HIN.out,<-An];exact bi.base (Al hg.size (d8.size)),by rw[rP];omega,HN,(hg.tr d8).tr adw⟩
        case measure=>simp[intOf];omega
  ·obtain rfl:k=l.length:=by omega
   have HN:=ak.out.done;go_wp2_with fail
   go_ret;exact⟨_,rfl,HN▸ae,hg⟩
end
section
open Go Go.RowKit
attribute [local go_sem] aM aP
theorem yH {w:World} {a:Option Addr} {c:Nat} {l:List UInt8} (h:aF w a 1 (l.map aQ)):(convert 24 9 (.slice a l.length c)).run Tryz.prog w=.ok (.string (mkB l)) w:=by
 cases l with
 | nil =>
  rw[run_convert_bytes_string w 24 9 5 a ([]:List UInt8).length c Tryz.underlying24 Tryz.underlying5 Tryz.underlying9];cases a<;>(simp[Conv.bytesToString];rfl)
 | cons x r =>
  obtain⟨b,o,rfl,hc⟩:=h.get (by simp);generalize hL:x::r=L at *;have hz:(mkB L).size=L.length:=by rw[Lib.size_eq,mU]
  have hB:Lib.Bytes w b o (mkB L):=λi hi=>by
   rw[hz]at hi;have h1:=hc i L[i] (by simp_all) 0 _ rfl;have hg:(mkB L)[i]'(by rw[hz];exact hi)=L[i]:=rfl;simp_all
  have:=Lib.run_convert_whole (P:=Tryz.prog) w 24 5 9 Tryz.underlying24 Tryz.underlying5 Tryz.underlying9 b o (mkB L) hB c
  rw[hz]at this;exact this
def rdT (l:List UInt8):Option (ByteArray×Nat):=match rdU l with
 | none=>none
 | some (n,j)=>if n<=(l.drop j).length then some (mkB ((l.drop j).take n),j+n) else none
def xF0 (k:Nat):Option (ByteArray×Nat)->Value
 | some (v,n) => .tuple #[.string v,.int .i64 ((k+n:Nat):Int),.bool true]
 | none => .tuple #[.string ⟨#[]⟩,.int .i64 0,.bool false]
def iI1 (R:Option (ByteArray×Nat)) (rb k:Nat) (w:World) (e:Ending) (w':World):Prop :=
 ((∃v n,R=some (v,n)/\e=.returned (.string v)/\w'.cell? ⟨rb,1,none⟩=some (.int .i64 ((k+n:Nat):Int)))\/(R=none/\e=.panicked [{ v:=hM0,recovered:=false }]))/\EB rb w w'
theorem sJ0 (p0 p1 p2:Nat) (w:World) (re:List PanicEntry) (v0 v1 v2:Value) (c0:w.cell? ⟨p0,0,none⟩=some v0) (c1:w.cell? ⟨p1,0,none⟩=some v1) (c2:w.cell? ⟨p2,0,none⟩=some v2)
  (f0:w.frozen? ⟨p0,0,none⟩=false) (f1:w.frozen? ⟨p1,0,none⟩=false) (f2:w.frozen? ⟨p2,0,none⟩=false) (n01:p0≠p1) (n02:p0≠p2) (n12:p1≠p2) (B:Nat) (hB0:B<=p0) (hB1:B<=p1) (hB2:B<=p2) :
  CallsD Tryz.prog 245 #[.pointer (some ⟨p0,0,none⟩),.pointer (some ⟨p1,0,none⟩),.pointer (some ⟨p2,0,none⟩)] (.panicking ({ v:=hM0,recovered:=false }::re)) w λe u' w' =>
   e=.returned (.tuple #[])/\u' = .panicking ({ v:=hM0,recovered:=true }::re)/\w'.cell? ⟨p0,0,none⟩=some (.string ⟨#[]⟩)/\w'.cell? ⟨p1,0,none⟩=some (.int .i64 0)/\w'.cell? ⟨p2,0,none⟩=some (.bool false)/\EB B w w':=by
 have hta:∀W:World,(Instr.typeAssert (.iface 299 (.agg #[])) 20 299 true).run Tryz.prog W=.ok (.tuple #[.agg #[],.bool true]) W:=λW=>by kernel_rfl
 have ol:=aB.alloc w (.cells #[] 299);have b0:=Ad w _ c0;have b1:=Ad w _ c1;have b2:=Ad w _ c2;have d0:=ol.cell c0;have d1:=ol.cell c1;have d2:=ol.cell c2;have g0:=(ol.froz (p:=⟨p0,0,none⟩) b0).trans f0;have g1:=(ol.froz (p:=⟨p1,0,none⟩) b1).trans f1;have g2:=(ol.froz (p:=⟨p2,0,none⟩) b2).trans f2;have e1:(w.alloc (.cells #[] 299) |>.setCell ⟨p0,0,none⟩ (.string ⟨#[]⟩)).cell? ⟨p1,0,none⟩=some v1:=(Aa _ _ _ _ (by simp_all)).trans d1
 have e2:((w.alloc (.cells #[] 299) |>.setCell ⟨p0,0,none⟩ (.string ⟨#[]⟩)).setCell ⟨p1,0,none⟩ (.int .i64 0)).cell? ⟨p2,0,none⟩=some v2:=(Aa _ _ _ _ (by simp_all)).trans ((Aa _ _ _ _ (by simp_all)).trans d2)
 refine callsD_of_wpS Tryz.func245 rfl λc₀ cs hu=>?_;apply wpS_seq
 apply wpS_region
 simp[wpOpsS,go_sem,recoverD,hu,Tryz.ntmps245,Exit.thenS,hM0]
 refine wpS_of_wp ?_;rw[show (#[Value.pointer (some ⟨p0,0,none⟩),.pointer (some ⟨p1,0,none⟩),.pointer (some ⟨p2,0,none⟩)]++(Bb 11 undef).setIfInBounds 4 (.iface 299 (.agg #[]))) = #[.pointer (some ⟨p0,0,none⟩),.pointer (some ⟨p1,0,none⟩),.pointer (some ⟨p2,0,none⟩),undef,undef,undef,undef,.iface 299 (.agg #[]),undef,undef,undef,undef,undef,undef] from rfl]
 go_wp2
 have m4:(((w.setCell ⟨p0,0,none⟩ (.string ⟨#[]⟩)).setCell ⟨p1,0,none⟩ (.int .i64 0)).setCell ⟨p2,0,none⟩ (.bool false)).cell? ⟨p0,0,none⟩=some (.string ⟨#[]⟩):=by
  rw[Aa _ _ _ _ (by simp_all),Aa _ _ _ _ (by simp_all)];exact Ab _ _ _ c0
 have gk:(((w.setCell ⟨p0,0,none⟩ (.string ⟨#[]⟩)).setCell ⟨p1,0,none⟩ (.int .i64 0)).setCell ⟨p2,0,none⟩ (.bool false)).cell? ⟨p1,0,none⟩=some (.int .i64 0):=by
  rw[Aa _ _ _ _ (by simp_all)];exact Ab _ _ _ ((Aa _ _ _ _ (by simp_all)).trans c1)
 have ir:(((w.setCell ⟨p0,0,none⟩ (.string ⟨#[]⟩)).setCell ⟨p1,0,none⟩ (.int .i64 0)).setCell ⟨p2,0,none⟩ (.bool false)).cell? ⟨p2,0,none⟩=some (.bool false) :=
  Ab _ _ _ ((Aa _ _ _ _ (by simp_all)).trans ((Aa _ _ _ _ (by simp_all)).trans c2))
 have ed:Below B w ((((w.setCell ⟨p0,0,none⟩ (.string ⟨#[]⟩)).setCell ⟨p1,0,none⟩ (.int .i64 0)).setCell ⟨p2,0,none⟩ (.bool false)).alloc (.cells #[] 299)):=((((Below.refl B w).setCell (p:=⟨p0,0,none⟩) hB0 _).setCell (p:=⟨p1,0,none⟩) hB1 _).setCell (p:=⟨p2,0,none⟩) hB2 _).alloc (by simp;omega) _;have li:=aB.alloc (((w.setCell ⟨p0,0,none⟩ (.string ⟨#[]⟩)).setCell ⟨p1,0,none⟩ (.int .i64 0)).setCell ⟨p2,0,none⟩ (.bool false)) (.cells #[] 299);have k0:=li.cell m4;have k1:=li.cell gk;have k2:=li.cell ir;have ff:EB B w ((((w.setCell ⟨p0,0,none⟩ (.string ⟨#[]⟩)).setCell ⟨p1,0,none⟩ (.int .i64 0)).setCell ⟨p2,0,none⟩ (.bool false)).alloc (.cells #[] 299)):=⟨ed,ed.size⟩;exact⟨rfl,_,rfl,_,results_none rfl _ _ _,rfl,rfl,k0,k1,k2,ff⟩
theorem dB1 (p0 p1 p2:Nat) (w:World) :
  CallsD Tryz.prog 245 #[.pointer (some ⟨p0,0,none⟩),.pointer (some ⟨p1,0,none⟩),.pointer (some ⟨p2,0,none⟩)] .returning w λe u' w'=>e=.returned (.tuple #[])/\u' = .returning/\w'=w:=by
 refine callsD_of_wpS Tryz.func245 rfl λc₀ cs hu=>?_;apply wpS_seq
 apply wpS_region
 simp[wpOpsS,go_sem,recoverD,hu,Tryz.ntmps245,Exit.thenS]
 refine wpS_of_wp ?_;rw[show (#[Value.pointer (some ⟨p0,0,none⟩),.pointer (some ⟨p1,0,none⟩),.pointer (some ⟨p2,0,none⟩)]++(Bb 11 undef).setIfInBounds 4 .nilIface) = #[.pointer (some ⟨p0,0,none⟩),.pointer (some ⟨p1,0,none⟩),.pointer (some ⟨p2,0,none⟩),undef,undef,undef,undef,.nilIface,undef,undef,undef,undef,undef,undef] from rfl]
 go_wp2
 cases c₀
 simp only at hu;subst hu;exact⟨rfl,_,rfl,_,results_none rfl _ _ _,rfl,rfl,rfl⟩
theorem gZ1 (b:List UInt8) (rb k:Nat) (ba:Option Addr) (bc:Nat) (w:World) (hk:k<=b.length) (hb:b.length<=1099511627776) (mm:b.length<=bc) (tp:ba=none->bc=0) (ah:aF w ba 1 (b.map aQ)) (hba:∀q:Addr,ba=some q->b≠[]->q.block<rb)
  (c0:w.cell? ⟨rb,0,none⟩=some (.slice ba b.length bc)) (c1:w.cell? ⟨rb,1,none⟩=some (.int .i64 k)) (f1:w.frozen? ⟨rb,1,none⟩=false) :
  Calls Tryz.prog 190 #[.pointer (some ⟨rb,0,none⟩)] w (iI1 (rdT (b.drop k)) rb k w):=by
 have hRT:∀n j,rdU (b.drop k)=some (n,j)->rdT (b.drop k)=if n<=(b.drop (k+j)).length then some (mkB ((b.drop (k+j)).take n),j+n) else none:=λn j h=>by
  unfold rdT;rw[h];simp only;rw[List.drop_drop]
 have zg:rdU (b.drop k)=none->rdT (b.drop k)=none:=λh=>by unfold rdT;rw[h]
 have CN:=Ac (yV0 b rb k ba bc w hk hb ah hba c0 c1 f1);have HAT:=Ac ah;have HNC:=Ac tp;have HBA:=Ac hba;have hrb:=Ad w _ c0;simp only at hrb
 cases hU:rdU (b.drop k) with
 | none =>
  rw[hU]at CN;have HR:=Ac (zg hU);clear hRT zg hU ah hba;go_enter Tryz.func190,Tryz.ntmps190
  go_wp2_with fail
  refine CN.out.mono ?_;rintro e w1 ⟨k9,ff⟩;rcases k9 with ⟨v,n,hR,_⟩|⟨_,rfl⟩
  ·cases hR
  ·exact⟨rfl,Or.inr ⟨HR.out,rfl⟩,ff⟩
 | some x =>
  obtain⟨n,j⟩:=x;rw[hU]at CN;have HR:=Ac (hRT n j hU);obtain⟨r,xy,hlr,hjj⟩:=lP0.1 hU
  have hj:j<=b.length-k:=by
   have:=congrArg Bi hlr
   rw[Ag,Ai]at this;omega
  clear hlr hjj r;clear hRT zg ah hba hU;obtain⟨K,hK⟩:=exq (k+j);have hKb:K<=b.length:=by omega
  rw[<-hK]at HR;have HK:=Ac hK;go_enter Tryz.func190,Tryz.ntmps190
  go_wp2_with fail
  refine CN.out.mono ?_;rintro e w1 ⟨k9,ff⟩;rcases k9 with ⟨v,n',hR,rfl,jr,t9,za⟩|⟨hR,_⟩
  case inr=>cases hR
  obtain⟨rfl,rfl⟩:n=v/\j=n':=by simpa using hR
  rw[<-hK]at jr;have z0:∀x:Ext aB w1.drew,x.u.cell? ⟨rb,0,none⟩=some (.slice ba b.length bc):=aG ((aB.drew w1).cell t9);have z1:∀x:Ext aB w1.drew,x.u.cell? ⟨rb,1,none⟩=some (.int .i64 (K:Int)):=aG ((aB.drew w1).cell jr);have afp:IntKind.i64.wrap ((b.length:Int)-(K:Int))=((b.length-K:Nat):Int):=by simp[At,Au,Am];omega
  have wcv:IntKind.u64.wrap ((b.length-K:Nat):Int)=((b.length-K:Nat):Int):=by simp[At,Au,Am];omega
  clear hR hK;by_cases da:b.length-K<n
  ·have zi:((b.length-K:Nat):Int)<n:=by omega
   have HRN:Hid (rdT (b.drop k)=none):=by show _=_;rw[HR.out,if_neg (by rw[Ag];omega)]
   clear HR;go_wp2_with fail
   refine bH (aT 13 []) (by kernel_rfl) (λd _ _ _ _ h=>by cases d<;>exact h) ?_
   iterate 13 (refine aJ rfl (λK hK=>?_);go_simp;refine hK _ ?_;clear hK K)
   refine bN ?_;clear z0 z1;go_wp2_with fail
   exact⟨rfl,Or.inr ⟨HRN.out,rfl⟩,EB.trans _ _ _ _ ff (EB.of (aB.drew w1) (Al (Bh hrb) ff.2))⟩
  ·have zi:¬((b.length-K:Nat):Int)<n:=by omega
   have HRS:Hid (rdT (b.drop k)=some (mkB ((b.drop K).take n),j+n)):=by show _=_;rw[HR.out,if_pos (by rw[Ag];omega)]
   clear HR;go_wp2_with fail
   refine bH (aT 13 []) (by kernel_rfl) (λd _ _ _ _ h=>by cases d<;>exact h) ?_
   iterate 13 (refine aJ rfl (λK hK=>?_);go_simp;refine hK _ ?_;clear hK K)
   refine bN ?_;clear z0 z1;have y0:∀x:Ext aB w1.drew.drew,x.u.cell? ⟨rb,0,none⟩=some (.slice ba b.length bc):=aG ((aB.drew _).cell ((aB.drew w1).cell t9));have y1:∀x:Ext aB w1.drew.drew,x.u.cell? ⟨rb,1,none⟩=some (.int .i64 (K:Int)):=aG ((aB.drew _).cell ((aB.drew w1).cell jr));have wn:IntKind.i64.wrap (n:Int)=n:=by simp[At,Au,Am];omega
   have wa:IntKind.i64.wrap ((K:Int)+n)=((K+n:Nat):Int):=by simp[At,Au,Am];omega
   go_wp2_with fail
   refine bH (aT 18 []) (by kernel_rfl) (λd _ _ _ _ h=>by cases d<;>exact h) ?_
   have h01:(0:Int)<=(K:Int)+n:=by omega
   have h02:(K:Int)+n<=bc:=by omega
   have tn:((K:Int)+n).toNat=K+n:=by omega
   have tk:K<=K+n:=by omega
   have tm:K+n-K=n:=by omega
   have HAT1:aF w1 ba 1 (b.map aQ):=λaw=>by
    obtain⟨bb,bo,e,hc⟩:=HAT.out aw;have af:=HBA.out _ e (λh0=>aw (by rw[h0];rfl));exact⟨bb,bo,e,λi row hi j v hj=>(Below.cell ff.1 (by simpa using af)).trans (hc i row hi j v hj)⟩
   obtain⟨a',kr,jw,_⟩:=pF (c:=bc) (l:=K) (h:=K+n) (k:=1) HAT1 HNC.out (by omega) (by omega) (by omega);rw[show K+n-K=n by omega]at kr
   have ah9:(if bc=K then ba else Bd (λx=>x.add K) ba)=a':=by
    unfold sliced at kr;by_cases x7:bc=K
    ·rw[if_pos x7]at kr ⊢;exact(Value.slice.inj kr).1
    ·rw[if_neg x7]at kr ⊢
     have:=(Value.slice.inj kr).1
     rw[<-this];congr 1
     funext x
     rw[Az]
   have hll:((b.take (K+n)).drop K)=(b.drop K).take n:=by rw[List.take_drop]
   have hln:((b.drop K).take n).length=n:=by rw[As,Ag];omega
   rw[hll]at jw
   have hcv:∀x:Ext aB w1.drew.drew,(convert 24 9 (.slice a' n (bc-K))).run Tryz.prog x.u=.ok (.string (mkB ((b.drop K).take n))) x.u:=λx=>by
    have:=yH (c:=bc-K) (jw.grows (aB.trans _ _ _ (aB.trans _ _ _ (aB.drew w1) (aB.drew _)) x.h))
    rw[hln]at this;exact this
   generalize (b.drop K).take n=S at *;iterate 18 (refine aJ rfl (λK hK=>?_);go_simp;refine hK _ ?_;clear hK K)
   refine bN ?_;go_wp2_with fail
   go_ret;refine⟨Or.inl ⟨_,_,HRS.out,rfl,?_⟩,EB.trans _ _ _ _ (EB.trans _ _ _ _ ff (⟨(Below.refl rb w1).setCell (p:=⟨rb,1,none⟩) (Ae rb) _,by simp⟩:EB rb w1 (w1.setCell ⟨rb,1,none⟩ (.int .i64 ((K:Int)+n))))) (EB.of ((aB.drew _).dr) (by simp;exact Al (Bh hrb) ff.2))⟩;rw[show ((k+(j+n):Nat):Int)=(K:Int)+n by rw[HK.out];push_cast;omega]
   exact Ab _ _ _ jr
structure lH1 (w:World) (s:Value) (k:Int) (W:World):Prop where
 g:aB w W
 sz:w.heap.size+1+1+1<W.heap.size
 c0:W.cell? ⟨w.heap.size,0,none⟩=some (.string ⟨#[]⟩)
 f0:W.frozen? ⟨w.heap.size,0,none⟩=false
 c1:W.cell? ⟨w.heap.size+1,0,none⟩=some (.int .i64 0)
 f1:W.frozen? ⟨w.heap.size+1,0,none⟩=false
 c2:W.cell? ⟨w.heap.size+1+1,0,none⟩=some (.bool false)
 f2:W.frozen? ⟨w.heap.size+1+1,0,none⟩=false
 r0:W.cell? ⟨w.heap.size+1+1+1,0,none⟩=some s
 r1:W.cell? ⟨w.heap.size+1+1+1,1,none⟩=some (.int .i64 k)
 rf:W.frozen? ⟨w.heap.size+1+1+1,1,none⟩=false
theorem lA1 (w:World) (s:Value) (k:Int):lH1 w s k ((((w.alloc (.cells #[.string ⟨#[]⟩] 9)).alloc (.cells #[.int .i64 0] 3)).alloc (.cells #[.bool false] 4)).alloc (.cells #[s,.int .i64 k] 301)):=by
 have e1:(w.alloc (.cells #[.string ⟨#[]⟩] 9)).heap.size=w.heap.size+1:=by simp
 have e2:((w.alloc (.cells #[.string ⟨#[]⟩] 9)).alloc (.cells #[.int .i64 0] 3)).heap.size=w.heap.size+1+1:=by simp
 have e3:(((w.alloc (.cells #[.string ⟨#[]⟩] 9)).alloc (.cells #[.int .i64 0] 3)).alloc (.cells #[.bool false] 4)).heap.size=w.heap.size+1+1+1:=by simp
 have b0:=cO (w:=w) (cs:=#[.string ⟨#[]⟩]) (t:=9) (w':=((((w.alloc (.cells #[.string ⟨#[]⟩] 9)).alloc (.cells #[.int .i64 0] 3)).alloc (.cells #[.bool false] 4)).alloc (.cells #[s,.int .i64 k] 301))) (((aB.alloc _ _).al _).al _);have b1:=cO (w:=w.alloc (.cells #[.string ⟨#[]⟩] 9)) (cs:=#[.int .i64 0]) (t:=3) (w':=((((w.alloc (.cells #[.string ⟨#[]⟩] 9)).alloc (.cells #[.int .i64 0] 3)).alloc (.cells #[.bool false] 4)).alloc (.cells #[s,.int .i64 k] 301))) ((aB.alloc _ _).al _);have b2:=cO (w:=(w.alloc (.cells #[.string ⟨#[]⟩] 9)).alloc (.cells #[.int .i64 0] 3)) (cs:=#[.bool false]) (t:=4) (w':=((((w.alloc (.cells #[.string ⟨#[]⟩] 9)).alloc (.cells #[.int .i64 0] 3)).alloc (.cells #[.bool false] 4)).alloc (.cells #[s,.int .i64 k] 301))) (aB.alloc _ _);have b3:=cO (w:=((w.alloc (.cells #[.string ⟨#[]⟩] 9)).alloc (.cells #[.int .i64 0] 3)).alloc (.cells #[.bool false] 4)) (cs:=#[s,.int .i64 k]) (t:=301) (w':=((((w.alloc (.cells #[.string ⟨#[]⟩] 9)).alloc (.cells #[.int .i64 0] 3)).alloc (.cells #[.bool false] 4)).alloc (.cells #[s,.int .i64 k] 301))) (aB.refl _);rw[e1]at b1;rw[e2]at b2;rw[e3]at b3;exact⟨(((aB.alloc _ _).al _).al _).al _,by simp,b0.1 0 _ rfl,b0.2 0,b1.1 0 _ rfl,b1.2 0,b2.1 0 _ rfl,b2.2 0,b3.1 0 _ rfl,b3.1 1 _ rfl,b3.2 1⟩
theorem yI0 (b:List UInt8) (k:Nat) (ba:Option Addr) (bc:Nat) (w:World) (hk:k<=b.length) (hb:b.length<=1099511627776) (mm:b.length<=bc) (tp:ba=none->bc=0) (ah:aF w ba 1 (b.map aQ)) :
  Calls Tryz.prog 189 #[.slice ba b.length bc,.int .i64 k,.func (.func 190) #[] #[]] w λe w'=>e=.returned (xF0 k (rdT (b.drop k)))/\aB w w':=by
 have hmf:∀(fn:Fn) (first cap:Array Value) (w:World),(Instr.makeFunc fn first cap).run Tryz.prog w=.ok (.func fn first cap) w:=λ_ _ _ _=>rfl
 have jt:¬(k:Int)<0:=by omega
 have HAT:=Ac ah
 have HBA:Hid (∀q:Addr,ba=some q->b≠[]->q.block<w.heap.size):=λq hq aw=>by
  obtain⟨x,hx⟩:∃x,b[0]?=some x:=⟨_,Af (List.length_pos_iff.2 aw)⟩;obtain⟨bb,bo,e,mm⟩:=ah.get aw;rw[e]at hq;cases hq
  exact Ad _ _ (mm 0 x hx 0 _ rfl)
 obtain⟨R,hR⟩:=exq (rdT (b.drop k));have HR:=Ac hR;rw[<-hR];clear hR ah;go_enter_defers Tryz.func189,Tryz.ntmps189
 go_wp2_with fail
 have hB:=lA1 w (.slice ba b.length bc) k;generalize ((((w.alloc (.cells #[Value.string ⟨#[]⟩] 9)).alloc (.cells #[.int .i64 0] 3)).alloc (.cells #[.bool false] 4)).alloc (.cells #[Value.slice ba b.length bc,.int .i64 k] 301))=W4 at *;refine(gZ1 b _ k ba bc W4 hk hb mm tp (HAT.out.grows hB.g) (λq hq aw=>Nat.lt_trans (HBA.out q hq aw) (by omega)) hB.r0 hB.r1 hB.rf).mono ?_;rintro e w5 ⟨k9,ff⟩;rw[<-HR.out]at k9;have hs5:=ff.2;have dm:=hB.sz;have c0:w5.cell? ⟨w.heap.size,0,none⟩=_:=(Below.cell ff.1 (by simp only;omega)).trans hB.c0;have c1:w5.cell? ⟨w.heap.size+1,0,none⟩=_:=(Below.cell ff.1 (by simp only;omega)).trans hB.c1;have c2:w5.cell? ⟨w.heap.size+1+1,0,none⟩=_:=(Below.cell ff.1 (by simp only;omega)).trans hB.c2;have f0:w5.frozen? ⟨w.heap.size,0,none⟩=_:=(Below.frozen ff.1 (by simp only;omega)).trans hB.f0;have f1:w5.frozen? ⟨w.heap.size+1,0,none⟩=_:=(Below.frozen ff.1 (by simp only;omega)).trans hB.f1;have f2:w5.frozen? ⟨w.heap.size+1+1,0,none⟩=_:=(Below.frozen ff.1 (by simp only;omega)).trans hB.f2;have bg:aB w w5:=gQ0 hB.g ff (by omega);rcases k9 with ⟨v,n,rfl,rfl,hc⟩|⟨rfl,rfl⟩
 ·have g0:(w5.setCell ⟨w.heap.size,0,none⟩ (.string v)).cell? ⟨w.heap.size,0,none⟩=some (.string v):=Ab _ _ _ c0
  have g1:(w5.setCell ⟨w.heap.size,0,none⟩ (.string v)).cell? ⟨w.heap.size+1,0,none⟩=some (.int .i64 0):=(Aa _ _ _ _ (λe=>by have:=congrArg Ah e;simp only at this;omega)).trans c1;have g2:(w5.setCell ⟨w.heap.size,0,none⟩ (.string v)).cell? ⟨w.heap.size+1+1,0,none⟩=some (.bool false):=(Aa _ _ _ _ (λe=>by have:=congrArg Ah e;simp only at this;omega)).trans c2;have g3:(w5.setCell ⟨w.heap.size,0,none⟩ (.string v)).cell? ⟨w.heap.size+1+1+1,1,none⟩=some (.int .i64 ((k+n:Nat):Int)):=(Aa _ _ _ _ (λe=>by have:=congrArg Ah e;simp only at this;omega)).trans hc
  have gg:∀j,j=w.heap.size\/j=w.heap.size+1\/j=w.heap.size+1+1->(w5.setCell ⟨w.heap.size,0,none⟩ (.string v)).frozen? ⟨j,0,none⟩=false:=λj hj=>by
   rw[Aj];rcases hj with rfl|rfl|rfl
   ·exact f0
   ·exact f1
   ·exact f2
  obtain⟨K,qp⟩:=exq (k+n);rw[<-qp]at g3 hc;have HK2:=Ac qp;clear qp;have um:aB w (w5.setCell ⟨w.heap.size,0,none⟩ (.string v)):=bg.set (by simp only;omega) _;have hsp:w.heap.size+1+1+1<(w5.setCell ⟨w.heap.size,0,none⟩ (.string v)).heap.size:=by simp;omega
  clear HR hB ff c1 c2 f1 f2 hc bg;go_wp2_with fail
  clear c0 f0;generalize (w5.setCell ⟨w.heap.size,0,none⟩ (.string v))=w6 at *;have z0:∀x:Ext (ES w.heap.size (.string v)) w6.drew,x.u.cell? ⟨w.heap.size,0,none⟩=some (.string v):=λx=>x.h.2.2.2.1 ((aB.drew _).cell g0);have z3:∀x:Ext (ES w.heap.size (.string v)) w6.drew,x.u.cell? ⟨w.heap.size+1+1+1,1,none⟩=some (.int .i64 (K:Int)):=λx=>x.h.2.1 _ _ (by simp only;omega) ((aB.drew _).cell g3);have x0:w6.drew.cell? ⟨w.heap.size,0,none⟩=some (.string v):=g0;have xf:w6.drew.frozen? ⟨w.heap.size,0,none⟩=false:=gg _ (Or.inl rfl);refine nN0 ?_;refine gO0 (ES w.heap.size (.string v)) 6 (aT 6 [5]) (ES.refl _ _) (ES.trans _ _) (by kernel_rfl) (by kernel_rfl) (λ_ _ _ _ _ h=>h) ?_;iterate 5 (refine aJ rfl (λK hK=>?_);go_simp;refine hK _ ?_;clear hK K)
  refine bM rfl rfl (λK hK=>?_);go_simp;refine⟨ES.put x0,hK _ _ ?_⟩;clear hK K;refine bN ?_;simp only[Ax,Bc];clear z0 z3;have n0:=g0;have y0:(w6.setCell ⟨w.heap.size,0,none⟩ (.string v)).cell? ⟨w.heap.size,0,none⟩=some (.string v):=Ab _ _ _ g0;have y1:(w6.setCell ⟨w.heap.size,0,none⟩ (.string v)).cell? ⟨w.heap.size+1,0,none⟩=some (.int .i64 0):=(Aa _ _ _ _ (λe=>by have:=congrArg Ah e;simp only at this;omega)).trans g1;have y2:(w6.setCell ⟨w.heap.size,0,none⟩ (.string v)).cell? ⟨w.heap.size+1+1,0,none⟩=some (.bool false):=(Aa _ _ _ _ (λe=>by have:=congrArg Ah e;simp only at this;omega)).trans g2;have yg:aB w (w6.setCell ⟨w.heap.size,0,none⟩ (.string v)):=um.set (by simp only;omega) _;have yf1:(w6.setCell ⟨w.heap.size,0,none⟩ (.string v)).frozen? ⟨w.heap.size+1,0,none⟩=false:=(Aj _ _ _ _).trans (gg _ (Or.inr (Or.inl rfl)));have yf2:(w6.setCell ⟨w.heap.size,0,none⟩ (.string v)).frozen? ⟨w.heap.size+1+1,0,none⟩=false:=(Aj _ _ _ _).trans (gg _ (Or.inr (Or.inr rfl)));clear x0 xf g0 g1 g2 g3 gg n0;generalize w6.setCell ⟨w.heap.size,0,none⟩ (.string v)=w7 at *
  have k1:((w7.setCell ⟨w.heap.size+1,0,none⟩ (.int .i64 K)).setCell ⟨w.heap.size+1+1,0,none⟩ (.bool true)).drew.cell? ⟨w.heap.size+1,0,none⟩=some (.int .i64 K):=by
   refine(Aa _ _ _ _ (λe=>by have:=congrArg Ah e;simp only at this;omega)).trans ?_;exact Ab _ _ _ y1
  have y2':(w7.setCell ⟨w.heap.size+1,0,none⟩ (.int .i64 K)).cell? ⟨w.heap.size+1+1,0,none⟩=some (.bool false):=by
   rw[Aa _ _ _ _ (λe=>by have:=congrArg Ah e;simp only at this;omega)];exact y2
  have k2:((w7.setCell ⟨w.heap.size+1,0,none⟩ (.int .i64 K)).setCell ⟨w.heap.size+1+1,0,none⟩ (.bool true)).drew.cell? ⟨w.heap.size+1+1,0,none⟩=some (.bool true):=Ab _ _ _ y2'
  have k0:((w7.setCell ⟨w.heap.size+1,0,none⟩ (.int .i64 K)).setCell ⟨w.heap.size+1+1,0,none⟩ (.bool true)).drew.cell? ⟨w.heap.size,0,none⟩=some (.string v):=by
   refine(Aa _ _ _ _ (λe=>by have:=congrArg Ah e;simp only at this;omega)).trans ?_;refine(Aa _ _ _ _ (λe=>by have:=congrArg Ah e;simp only at this;omega)).trans ?_;exact y0
  have kg:aB w ((w7.setCell ⟨w.heap.size+1,0,none⟩ (.int .i64 K)).setCell ⟨w.heap.size+1+1,0,none⟩ (.bool true)).drew:=((yg.set (by simp only;omega) _).set (by simp only;omega) _).dr;go_wp2_with fail
  simp only[vX];go_wp2_with fail
  refine leaves_cons (f:=245) (args:=#[.pointer (some ⟨w.heap.size,0,none⟩),.pointer (some ⟨w.heap.size+1,0,none⟩),.pointer (some ⟨w.heap.size+1+1,0,none⟩)]) (by simp) (by simp[go_sem]) ?_
  refine(dB1 _ _ _ _).mono ?_;rintro e u' lq ⟨rfl,rfl,rfl⟩;show Leaves _ _ _ _ _ _ _
  simp only[settle];refine⟨.tuple #[.string v,.int .i64 K,.bool true],?_,by rw[HK2.out];rfl,kg⟩;simp[results,Tryz.results189,go_sem,k0,k1,k2]
 ·clear HR hB ff
  go_wp2_with fail
  refine leaves_cons (f:=245) (args:=#[.pointer (some ⟨w.heap.size,0,none⟩),.pointer (some ⟨w.heap.size+1,0,none⟩),.pointer (some ⟨w.heap.size+1+1,0,none⟩)]) (by simp) (by simp[go_sem]) ?_
  refine(sJ0 w.heap.size (w.heap.size+1) (w.heap.size+1+1) w5 [] _ _ _ c0 c1 c2 f0 f1 f2 (by omega) (by omega) (by omega) w.heap.size (by omega) (by omega) (by omega)).mono ?_;rintro e u' lq ⟨rfl,rfl,k0,k1,k2,adu⟩;have kg:aB w lq:=EB.grows bg adu;show Leaves _ _ _ _ _ _ _
  simp only[settle];refine⟨.tuple #[.string ⟨#[]⟩,.int .i64 0,.bool false],?_,rfl,kg⟩;simp[results,Tryz.results189,go_sem,k0,k1,k2]
theorem sL0 (b:List UInt8) (k:Nat) (ba:Option Addr) (bc:Nat) (w:World) (hk:k<=b.length) (hb:b.length<=1099511627776) (mm:b.length<=bc) (tp:ba=none->bc=0) (ah:aF w ba 1 (b.map aQ)) :
  Calls Tryz.prog 128 #[.slice ba b.length bc,.int .i64 k] w λe w'=>e=.returned (xF0 k (rdT (b.drop k)))/\aB w w':=by
 have CR:=Ac (yI0 b k ba bc w hk hb mm tp ah)
 cases hR:rdT (b.drop k) with
 | none =>
  rw[hR]at CR;unfold xF0 at CR ⊢;clear hR ah;go_enter Tryz.func128,Tryz.ntmps128
  go_wp2_with fail
  refine CR.out.mono ?_;rintro e w1 ⟨rfl,hg⟩;go_wp2_with fail
  go_ret3;exact⟨rfl,hg⟩
 | some x =>
  obtain⟨v,n⟩:=x;rw[hR]at CR;unfold xF0 at CR ⊢;obtain⟨K,hK⟩:=exq (k+n);simp only[<-hK]at CR ⊢;clear hR ah hK;go_enter Tryz.func128,Tryz.ntmps128
  go_wp2_with fail
  refine CR.out.mono ?_;rintro e w1 ⟨rfl,hg⟩;go_wp2_with fail
  go_ret3;exact⟨rfl,hg⟩
end
section
open Go Go.RowKit
theorem yD0 {w:World} {ba:Option Addr} {b:List UInt8} {bc l h:Nat} (ah:aF w ba 1 (b.map aQ)) (hn:ba=none->bc=0) (h1:l<=h) (h2:h<=b.length) (h3:b.length<=bc) :
  ∃a',(if bc=l then ba else Bd (λx=>x.add l) ba)=a'/\aF w a' 1 (((b.take h).drop l).map aQ)/\(a'=none->bc-l=0):=by
 obtain⟨a',kr,jw,ac0⟩:=pF (c:=bc) (l:=l) (h:=h) (k:=1) ah hn h1 h2 h3;refine⟨a',?_,jw,ac0⟩;unfold sliced at kr;by_cases x7:bc=l
 ·rw[if_pos x7]at kr ⊢;exact(Value.slice.inj kr).1
 ·rw[if_neg x7]at kr ⊢
  have:=(Value.slice.inj kr).1
  rw[<-this];congr 1
  funext x
  rw[Az]
end
section
open Go Go.ChangeShapes Go.WideShapes Go.ChangeAt Go.RowKit Go.Shelf Go.Lib
def wW0 : List (String × DataW Unit) := [("henkan/crc.quarter", Rows.laid_henkan_crc_quarter), ("math/bits.deBruijn32tab", Rows.laid_math_bits_deBruijn32tab), ("math/bits.deBruijn64tab", Rows.laid_math_bits_deBruijn64tab), ("internal/strconv.uint64pow10", Rows.laid_internal_strconv_uint64pow10), ("unicode/utf8.acceptRanges", Rows.laid_unicode_utf8_acceptRanges), ("strconv.ErrRange", Rows.laid_strconv_ErrRange), ("strconv.ErrSyntax", Rows.laid_strconv_ErrSyntax), ("henkan/pos.kinds", Rows.laid_henkan_pos_kinds), ("unicode/utf8.first", Rows.laid_unicode_utf8_first)]
theorem uK0 {W:World} (h:laidMetH Tryz.prog wW0 W):laidMet Tryz.prog wW0 W:=h
theorem e3:(Rows.laid_internal_strconv_uint64pow10:DataW Unit)=Lib.tabData .u64 Bg:=by kernel_rfl
theorem e5:(Rows.laid_henkan_pos_kinds:DataW Unit)=.agg (iM.map λs => .lit (.string s.data.toList)):=by kernel_rfl
theorem fW0 {P:Program} {w:World} {base:Nat} {sp:Nat->Bool} {held:Bool} {ct:Nat} {t e:TypeId} {n:Nat} {cs:List Value} {zs:List ByteArray} {p:List MemPlace}
  (ht:P.underlying t=some (.array n e)) (he:P.underlying e=some .string) (hce:P.cellsOf e=1) (hct:P.cellsOf t=n)
  (h:DataW.trod (λ_=>()) P w base sp held ct t cs=some (.agg (zs.map λs => .lit (.string s.data.toList)),p)):cs=zs.map Value.string:=by
 cases ct with
 | zero=>simp[DataW.trod]at h
 | succ ct =>
  simp only[DataW.trod,ht,hce,hct,Az]at h;split at h
  ·rename_i hl
   obtain⟨xs,hm,hx⟩:=Option.map_eq_some_iff.1 h
   have hxs:xs.map (·.1)=zs.map λs=>(DataW.lit (.string s.data.toList):DataW Unit):=by
    have:=congrArg Prod.fst hx
    simpa using this
   have hxl:xs.length=n:=by simpa using mapM_length hm
   have hzl:zs.length=n:=by
    have:=congrArg Bi hxs
    simp at this;omega
   apply List.ext_getElem?
   intro i;by_cases hi:i<n
   ·obtain⟨b,hb,hf⟩:=mapM_at hm i i (by simp[hi])
    obtain⟨s,hc,rfl,_⟩:=DataW.trod_string he hf
    have h1:cs[i]?=some (.string s):=by
     have:=congrArg (·[0]?) hc
     simpa [List.getElem?_take,List.getElem?_drop] using this
    have h2:(xs.map (·.1))[i]?=some (DataW.lit (.string s.data.toList):DataW Unit):=by simp[hb]
    rw[hxs]at h2;simp only[Ap,Option.map_eq_some_iff,DataW.lit.injEq,Lit.string.injEq]at h2;obtain⟨z',hz',hzz⟩:=h2;simp[h1,hz',jD hzz]
   ·rw[Av (by omega),Av (by simp;omega)]
  ·cases h
theorem env9_of {W:World} (h:laidMetH Tryz.prog wW0 W) (hS:W.ShapedOpen Tryz.prog):pA0 W:=by
 have hL:=uK0 h
 have r1 : VarReads Tryz.prog W "unicode/utf8.first" firstData := by
  rw[<-e1];exact laidMet.reads hL (.tail _ (.tail _ (.tail _ (.tail _ (.tail _ (.tail _ (.tail _ (.tail _ (.head _)))))))))
 have r2 : VarReads Tryz.prog W "unicode/utf8.acceptRanges" acceptData := by
  rw[<-e2];exact laidMet.reads hL (.tail _ (.tail _ (.tail _ (.tail _ (.head _)))))
 have r3 : VarReads Tryz.prog W "internal/strconv.uint64pow10" (tabData .u64 pow10Tab) := by
  rw[<-e3];exact laidMet.reads hL (.tail _ (.tail _ (.tail _ (.head _))))
 have r4 : VarReads Tryz.prog W "henkan/crc.quarter" (tabData .u32 (jY.map fun n : Nat => (n : Int))) := by
  rw[<-e4];exact laidMet.reads hL (.head _)
 have r5 : VarReads Tryz.prog W "henkan/pos.kinds" (.agg (iM.map fun s => .lit (.string s.data.toList))) := by
  rw[<-e5];exact laidMet.reads hL (.tail _ (.tail _ (.tail _ (.tail _ (.tail _ (.tail _ (.tail _ (.head _))))))))
 refine⟨⟨utf8Tabs_of_readsT (U8Types.of196 Tryz.laysValid) ⟨by kernel_rfl,by kernel_rfl,by kernel_rfl,by kernel_rfl,by kernel_rfl,by kernel_rfl,by kernel_rfl⟩ r1 r2,cell_of_shapedOpen_int (P:=Tryz.prog) (g:=1) (t:=3) (zero:=#[.int .i64 0]) hS (of_decide_eq_true (by kernel_rfl)) (by kernel_rfl) rfl (by kernel_rfl) (by kernel_rfl) Tryz.underlying3,?_⟩,?_,?_⟩
 ·obtain⟨g,t,cs,ct,p,hg,hty,aax,hd⟩:=r4
  have ht:(Tryz.prog.globals[2]?).map (·.type)=some 297:=by kernel_rfl
  obtain rfl:=Option.some.inj (kZ1.symm.trans hg);obtain rfl:=Option.some.inj (ht.symm.trans hty);have dz:=cells_of_tab Tryz.underlying297 Tryz.underlying202 (by kernel_rfl) (by kernel_rfl) hd
  have T : TabIs Tryz.prog W "henkan/crc.quarter" .u32 (jY.map fun n : Nat => (n : Int)) := by
   unfold TabIs;rw[aax,<-dz]
  intro i q hq;have hi:=(List.getElem?_eq_some_iff.1 hq).1;have hc:=T.cell kZ1 i (by rw[List.length_map];exact hi);rw[hc,List.getD_eq_getElem?_getD,Ap,hq];rfl
 ·obtain⟨g,t,cs,ct,p,hg,hty,aax,hd⟩:=r3
  have ht:(Tryz.prog.globals[7]?).map (·.type)=some 350:=by kernel_rfl
  obtain rfl:=Option.some.inj (kL1.symm.trans hg);obtain rfl:=Option.some.inj (ht.symm.trans hty);have dz:=cells_of_tab Tryz.underlying350 Tryz.underlying142 (by kernel_rfl) (by kernel_rfl) hd;unfold TabIs;rw[aax,<-dz]
 ·obtain⟨g,t,cs,ct,p,hg,hty,aax,hd⟩:=r5
  have hgk : Tryz.prog.globalNamed "henkan/pos.kinds" = some 0 := by kernel_rfl
  have ht:(Tryz.prog.globals[0]?).map (·.type)=some 72:=by kernel_rfl
  obtain rfl:=Option.some.inj (hgk.symm.trans hg);obtain rfl:=Option.some.inj (ht.symm.trans hty);have hcs:=fW0 Tryz.underlying72 Tryz.underlying9 (by kernel_rfl) (by kernel_rfl) hd;intro i s hs;have hv2 : W.var? Tryz.prog "henkan/pos.kinds" = some (iM.map Value.string).toArray := by rw [aax, ← hcs]
  rw[World.var?_cell hgk hv2 i,List.getElem?_toArray,Ap,hs];rfl
noncomputable def low:Nat:=(World.settled Tryz.prog default).heap.size
noncomputable def tL0 (os:Os):World :=
 let w0:=World.holding Tryz.prog os ⟨#[.cells #[.string ⟨#[118,97,108,117,101,32,111,117,116,32,111,102,32,114,97,110,103,101]⟩] 330,.cells #[.string ⟨#[105,110,118,97,108,105,100,32,115,121,110,116,97,120]⟩] 330],#[],[]⟩
 let put (h:Array Obj) (g:Nat) (cs:Array Value):Array Obj:=h.modify g λ
  | .cells _ t frozen => .cells cs t frozen
  | o=>o
 let ints (d:DataW Unit):Array Value:=match d with
  | .agg l=>(l.map λx=>match x with
   | .lit (.int k z)=>Value.int k z
   | _ => .nilIface).toArray
  | _ => #[]
 let h1:=put w0.heap 5 (Lib.firstTab.map λz=>Value.int .u8 z).toArray
 let h2:=put h1 6 ((List.range 16).flatMap λi=>[Value.int .u8 (Lib.accLo i),Value.int .u8 (Lib.accHi i)]).toArray
 let h3:=put h2 7 (Lib.pow10Tab.map λz=>Value.int .u64 z).toArray
 let h4:=put h3 8 (ints Rows.laid_math_bits_deBruijn32tab)
 let h5:=put h4 9 (ints Rows.laid_math_bits_deBruijn64tab)
 let h6:=put h5 4 #[.iface 328 (.pointer (some ⟨low,0,none⟩))]
 let h7:=put h6 3 #[.iface 328 (.pointer (some ⟨low+1,0,none⟩))]
 let h8:=put h7 2 (jY.map λn:Nat=>Value.int .u32 (n:Int)).toArray
 let h9:=put h8 0 (iM.map Value.string).toArray
 { w0 with heap:=h9 }
theorem laid9_met (os:Os) (args:Array Value):laidMet Tryz.prog wW0 ((tL0 os).forCall (λ_ _=>0) ⟨#[],args,[]⟩).memory :=
 (LaidIn.of_run (l:=wW0) [5,6,7,8,9,4,3,2,0,low,low+1] 10 (by kernel_rfl) (by kernel_rfl) (by kernel_rfl) (by kernel_rfl)).met
end
end Go.Proofs.YtiopheoljccmpaaGreatDoor
