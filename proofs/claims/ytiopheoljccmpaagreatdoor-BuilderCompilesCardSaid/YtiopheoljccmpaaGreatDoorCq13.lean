/- The texts IterP IterP2 IterP3, one behind the other. -/
import Derived.Test.YtiopheoljccmpaaGreatDoorCq12
import Derived.RangeFuncBox
import Derived.RangeFuncNested
import Derived.RangeFuncLeaves
import Derived.RangeFuncStops
import Derived.Shelf.Abstract
import Derived.WalkKit
import Derived.OwnWalkIn
import Derived.TacticsInMore
import Derived.RegionIn
import Derived.LoopNIn
import Derived.LoopIn
import Derived.Maps.AppendAt
import Derived.Sort.MapsRangeIn
import Derived.Sort.KeysCollected
open Array renaming replicate_succ → Aa,replicate_zero → Ab
open List renaming append_toArray → Ac,size_toArray → Ad,push_toArray → Ae,length_cons → Af,cons_append → Ag,length_nil → Ah,nil_append → Ai
open Nat renaming le_refl → Aj,reduceAdd → Ak,reduceSub → Al
open Go.World renaming cell? → Am
set_option maxHeartbeats 2000000
namespace Go.Proofs.YtiopheoljccmpaaGreatDoor
set_option maxRecDepth 100000
section
open Go Go.RowKit Go.Shelf Go.Maps Go.Sort
attribute [local go_sem] Oper.semAt_some
abbrev PW:={ x:Int×Int // WfI x.1/\WfI x.2 }
def oV (x:PW):List Value:=[.int .i64 x.1.1,.int .i64 x.1.2]
def qT0 (D0:DataW Unit) (left:Lit->Bool) (ss:List PW):Prop:=ss.Nodup/\∀x:PW,x∈ss↔(has D0 (klP x.1)=true/\left (klP x.1)=false)
theorem mX0 (D0:DataW Unit):qT0 D0 (has D0) []:=⟨List.nodup_nil,λx=>by cases has D0 (klP x.1)<;>simp⟩
theorem qT0.step {D0:DataW Unit} {left:Lit->Bool} {ss:List PW} (h:qT0 D0 left ss) {x:PW} {y:DataW Unit} (hl:left (klP x.1)=true) (ah:∀zd,D0.atKey (klP x.1) zd=y):qT0 D0 (λz=>left z && !z.sameKey (klP x.1)) (ss++[x]):=by
 have o0:=has_true_of_atKey ah;refine⟨List.nodup_append.2 ⟨h.1,by simp,λa ha b hb e=>?_⟩,λz=>?_⟩
 ·obtain rfl:b=x:=by simpa using hb
  subst e
  have:=((h.2 a).1 ha).2
  rw[hl]at this;cases this
 ·constructor
  ·intro hz
   rcases List.mem_append.1 hz with hz|hz
   ·obtain⟨k1,k2⟩:=(h.2 z).1 hz
    exact⟨k1,by simp[k2]⟩
   ·obtain rfl:z=x:=by simpa using hz
    exact⟨o0,by simp[nP0]⟩
  ·rintro⟨k1,k2⟩
   by_cases e:z=x
   ·rw[e];simp
   ·have aw:klP z.1≠klP x.1:=λh=>e (Subtype.ext (gF0 z.2.1 z.2.2 x.2.1 x.2.2 h))
    have k3:(left (klP z.1) && !(klP z.1).sameKey (klP x.1))=false:=k2;rw[sameKey_ne aw]at k3;exact List.mem_append_left _ ((h.2 z).2 ⟨k1,by simpa using k3⟩)
theorem zT0 (F:Fence) (n:Nat) (h10:F.fn 235) (hro:F.round=none) (hn:1<=n) (l Bm b nn:Nat) (D0:DataW Unit) (J Jx:List PW->World->Prop)
  (hY:∀pre x W,J pre W->pre.length<Maps.size D0->YieldAt F (n-1) Tryz.prog l #[.agg #[.int .i64 x.1.1,.int .i64 x.1.2]] W λe W' =>
   (e=.returned (.bool true)/\J (pre++[x]) W'/\KeepsWalks W W')\/(e=.returned (.bool false)/\Jx (pre++[x]) W'))
  (W:World) (hJ:AbidesFrom W.heap.size J) (hm:W.cell? ⟨Bm,0,none⟩=some (.map (some b))) (ae:W.ownsMap Tryz.prog 84 (plainElem Tryz.prog 3) b nn D0) (h0:J [] W) :
  CallsIn F n Tryz.prog 235 #[.func (.yield l) #[] #[],.pointer (some ⟨Bm,0,none⟩)] W λe W'=>(∃v,e=.returned v) /\
   ((∃ss:List PW,(ss.Nodup/\∀x:PW,x∈ss↔has D0 (klP x.1)=true)/\J ss W')\/(∃pre:List PW,True/\Jx pre W')):=by
 refine callsIn_of_wp Tryz.func235 rfl h10 ?_ hro;simp only[Tryz.ntmps235,Ad,Af,Ah,Ak,Al,Aa,Ab,Ae,Ac,Ai,Ag]
 gi_wp2_with (first
  | (gi_at_range;refine wpListIn_range_own _ rfl _ 79 rfl 84 3 qP Tryz.underlying79 _ b nn _ rfl ae ?_;intro w0 adm ij m4)
  | gi_in)
 go_frame
 gi_loopw [3] (λ_ wr=>∃(left:Lit->Bool) (kq:Nat) (ss:List PW),wr.ranges Tryz.prog 84 (plainElem Tryz.prog 3) b W.heap.size nn D0 left kq/\ss.length+kq<=Maps.size D0/\qT0 D0 left ss/\J ss wr)
  (λ_ wr=>wr.rangeLeft b W.heap.size)
 case atStart =>
  exact⟨_,_,[],adm,by simp,mX0 D0,hJ [] W w0 none h0 ij (λr e=>by cases e)⟩
 case round =>
  obtain⟨left,kq,ss,hrg,dz,hC,ml⟩:=hrel
  gi_wp2_with (first
   | (gi_at_next;refine wpListIn_next_ranges _ rfl _ rfl 84 qP (plainElem Tryz.prog 3) (λx:Int×Int => .agg #[.int .i64 x.1,.int .i64 x.2]) id (λkey kl hk=>by obtain⟨x,_,_,hx,_⟩:=eK0 hk;exact⟨x,hx⟩) (λv _ _=>⟨v,rfl⟩) b W.heap.size nn _ _ _ rfl hrg ?_ ?_)
   | gi_in)
  ·intro t9 hl0
   gi_wp2
   go_end0;exact⟨⟨_,rfl⟩,.inl ⟨ss,⟨hC.1,λx=>by rw[hC.2 x,hl0];simp⟩,ml⟩⟩
  ·intro x0 x1 c kl yd yp w2 adn ek ud hv ah ado af an ir hen
   obtain⟨x',lg,ik,ex,rfl⟩:=eK0 ek
   obtain rfl:x'=(x0,x1):=by
    obtain⟨a',b'⟩:=x';simp[vM0]at ex;rw[ex.1,ex.2]
   have hC2:=qT0.step (x:=⟨(x0,x1),lg,ik⟩) hC ud ah;have hJ2:J ss w2:=hJ ss wr w2 (some W.heap.size) ml an (λr e=>by cases e;exact⟨Aj _,hrg.iter_walk⟩);have qz:J ss (w2.alloc (.cells #[.int .i64 x0,.int .i64 x1] 84)):=hJ ss w2 _ none hJ2 (World.grownBy_alloc _ _ _) (λr e=>by cases e);have ah0:=ado.alloc (.cells #[.int .i64 x0,.int .i64 x1] 84);obtain⟨fn,tmps,assign,body,hy,hR⟩:=hY ss ⟨(x0,x1),lg,ik⟩ _ qz (by omega);dsimp only at hen hy hC2
   clear ir ex ek hv ah ud;gi_wp2
   refine hR.mono ?_;rintro e W3 (⟨rfl,qz,o6⟩|⟨rfl,jm⟩)
   ·gi_wp2
    have afh:=ah0.of_walks o6;go_roundw
    case rel=>exact⟨_,adn,ss++[⟨(x0,x1),lg,ik⟩],afh,by simp;omega,hC2,qz⟩
    case measure=>rw[afh.left_eq,hrg.left_eq];exact af
   ·gi_wp2
    refine bodyPost_ret (results_none rfl _ _ _) rfl ?_;exact⟨⟨_,rfl⟩,.inr ⟨ss++[⟨(x0,x1),lg,ik⟩],trivial,jm⟩⟩
def aB0 (D0:DataW Unit) (ss:List PW):Prop:=ss.Nodup/\∀x:PW,x∈ss↔has D0 (klP x.1)=true
theorem mQ0 (F:Fence) (n:Nat) (h10:F.fn 235) (hro:F.round=none) (hn:1<=n) (Bm b nn:Nat) (D0:DataW Unit) (w:World) (hBm:Bm<w.heap.size)
  (hm:w.cell? ⟨Bm,0,none⟩=some (.map (some b))) (ae:w.ownsMap Tryz.prog 84 (plainElem Tryz.prog 3) b nn D0) :
  SeqStopsK F n Tryz.prog 235 #[.pointer (some ⟨Bm,0,none⟩)] (λx:PW => #[.agg #[.int .i64 x.1.1,.int .i64 x.1.2]]) KeepsWalks (aB0 D0) (λ_=>True) (Maps.size D0) w:=λl J Jx W hW hJ _ hY h0=>by
 have cw:W.ownsMap Tryz.prog 84 (plainElem Tryz.prog 3) b nn D0:=by
  have ed:=ae.lt;obtain⟨es,clock,hb,Ft,hs,hD⟩:=ae;exact⟨es,clock,(hW.block b ed).trans hb,Ft,hs,hD⟩
 exact zT0 F n h10 hro hn l Bm b nn D0 J Jx hY W hJ ((hW.cell (p:=⟨Bm,0,none⟩) hBm).trans hm) cw h0
theorem eB1 (F:Fence) (n:Nat) (h7:F.fn 167) (hro:F.round=none) (mb:Option Nat) (w:World) :
  CallsIn F n Tryz.prog 167 #[.map mb] w λe w'=>e=.returned (.func (.func 235) #[] #[.pointer (some ⟨w.heap.size,0,none⟩)])/\w'=w.alloc (.cells #[.map mb] 79):=by
 refine callsIn_of_wp Tryz.func167 rfl h7 ?_ hro;simp only[Tryz.ntmps167,Ad,Af,Ah,Ak,Al,Aa,Ab,Ae,Ac,Ai,Ag];gi_wp2
 go_ret;exact⟨rfl,rfl⟩
theorem fJ1 {β:Type} (B:Nat) (cs:Array Value) (t:TypeId):Own (λ(_:β) W=>W.heap[B]?=some (.cells cs t (0,0))):=λs X Y row hs hg eu =>
 (hg.block B (Array.getElem?_eq_some_iff.1 hs).1 (λe'=>by obtain⟨o,ho,hc⟩:=eu B e'.symm;rw[hs]at ho;cases ho;cases hc)).trans hs
theorem mY0 {W:World} {base:Nat} {e:TypeId} {size:Nat} {v:Value} {k:Nat} {xs:List Value} (h:W.ownsRow base e size v k xs):∀(j:Nat) (o:Obj),v.ownBlock=some j->W.heap[j]?=some o->o.isWalk=false:=by
 intro j o hj ho;rcases h.2 with ⟨rfl,_⟩|⟨g,cap,ei,rfl,_,ld,_⟩
 ·simp[Value.ownBlock]at hj
 ·have:g=j:=by simpa [Value.ownBlock] using hj
  subst this;rw[ld]at ho;cases ho;rfl
theorem aS1:(Tryz.prog.info? 84).map (λi=>(i.zero,i.size,i.bytes))=some (some (.agg #[.int .i64 0,.int .i64 0]),2,16):=by kernel_rfl
theorem eN0 (F:Fence) (n:Nat) (h11:F.fn 265) (hro:F.round=none) (hn:2<=n) (g:Nat) (lb:Array Value) (hFg:F.fn g) (eg:∀args w,(callFunc g args).run Tryz.prog w=.ok (.enter g args) w)
  (S:List PW->Prop) (N:Nat) (hN:N<=4096) (w:World) (adp:SeqStopsK F (n-1) Tryz.prog g lb (λx:PW => #[.agg #[.int .i64 x.1.1,.int .i64 x.1.2]]) KeepsWalks S (λ_=>True) N w) :
  CallsIn F n Tryz.prog 265 #[.slice none 0 0,.func (.func g) #[] lb] w λe w'=>∃(v:Value) (ss:List PW),e=.returned v/\S ss/\w'.ownsRow w.heap.size 84 2 v ss.length (ss.flatMap oV)/\Below w.heap.size w w':=by
 have h1:1<=n:=by omega
 obtain⟨i0,hi,lw,hz1,ju⟩:=info_parts aS1;refine callsIn_of_wp_marks Tryz.func265 rfl h11 ?_ hro;simp only[Tryz.ntmps265,Ad,Af,Ah,Ak,Al,Aa,Ab,Ae,Ac,Ai,Ag];gi_wp2
 have bO:=Boxed.new w 186 (.slice none 0 0);have hB0:Below w.heap.size w (w.alloc (.cells #[.slice none 0 0] 186)):=(Below.refl _ w).alloc (Aj _) _
 refine wpIn_rangeFunc_ownH hro h1 (gf:=g) (lb:=lb) rfl hFg eg adp walksK_t walksK_b hB0 (λ_=>rfl)
  (λpre W=>(∃v,Boxed W w.heap.size 186 v/\W.ownsRow w.heap.size 84 2 v pre.length (pre.flatMap oV)/\True)/\Below w.heap.size w W)
  (λ_ _ _=>False)
  (OwnFrom.and (Own.from (holdsRow_own w.heap.size w.heap.size 186 84 2 (λpre:List PW=>pre.length) (λpre=>pre.flatMap oV) (λ_ _=>True)) _) (ownFrom_below (Aj _) (by simp)))
  (λ_ _ _ _ _ hs _ _=>hs)
  ⟨⟨_,bO,World.ownsRow_nil _ _ _ _,trivial⟩,hB0⟩
  (λx a' W=>∃Bx,w.heap.size<Bx/\W.heap[Bx]?=some (.cells #[.int .i64 x.1.1,.int .i64 x.1.2] 84 (0,0))/\a'={ tmps:=#[.slice none 0 0,.func (.func g) #[] lb,.pointer (some ⟨w.heap.size,0,none⟩),undef,.slice none 0 0,.pointer (some ⟨Bx,0,none⟩),.func (.func g) #[] lb,.agg #[.int .i64 x.1.1,.int .i64 x.1.2],undef,undef,undef,undef,undef],defers:=[] })
  (λx a' _ X Y row hs hg hr=>by obtain⟨Bx,h1,h2,h3⟩:=hs;exact⟨Bx,h1,fJ1 (β:=Unit) Bx _ _ () X Y row h2 hg (λr e=>(hr r e).2),h3⟩)
  ?assign ?body ?done ?stop
 case assign =>
  rintro l pre x W K ⟨⟨v,hv,eu,_⟩,hB⟩ hK;gi_wp2
  exact hK _ _ ((KeepsOthers.alloc _ _).from _) (KeepsWalks.alloc _ _) ⟨⟨v,hv.alloc _,eu.alloc _,trivial⟩,hB.alloc hB.size _⟩ ⟨W.heap.size,hv.lt,World.alloc_heap_new W _,rfl⟩
 case body =>
  rintro l pre x a' W hl _ ⟨⟨v,hv,eu,_⟩,hB⟩ ⟨Bx,hBx,bX,rfl⟩ af;have hc:=hv.cell;have x0:W.cell? ⟨Bx,0,none⟩=some (.int .i64 x.1.1):=by simp[Am,bX]
  have x1:W.cell? ⟨Bx,1,none⟩=some (.int .i64 x.1.2):=by simp[Am,bX]
  gi_wp2_with (gi_at_builtin;refine wpListIn_append_own _ rfl _ _ 186 rfl w.heap.size 84 i0 (.agg #[.int .i64 0,.int .i64 0]) 2 16 Tryz.underlying186 hi lw hz1 ju rfl (by decide) _ _ _ rfl (eu.alloc _) ⟨W.heap.size,0,none⟩ 1 1 (oV x) rfl rfl (λj u hu=>eN rfl j u hu) (λu hu=>by simp[oV]at hu;rcases hu with rfl|rfl<;>rfl) (by unfold maxLen;omega) (by omega) (by have:=hB.size;simp;omega) ?_;intro v' w1 cw q8 _;obtain⟨g',afi,rfl⟩:=ownsRow_succ cw;obtain⟨lf,ji,dd,j7,fp⟩:=hv.appended (by decide) eu hB.size (Aj _) cw q8;have jr:=lf.cell;have za:=lf.frozen)
  refine⟨j7.from _,((KeepsWalks.alloc W _).trans (KeepsWalks.of_grownBy q8 (mY0 (eu.alloc _)))).trans (KeepsWalks.setCell _ _ _),⟨⟨_,ji,?_,trivial⟩,hB.trans fp⟩⟩
  rw[List.length_append,List.length_singleton,List.flatMap_append];simpa using dd
 case done =>
  rintro D ys W hD hS ⟨⟨v,hv,eu,_⟩,hB⟩ hK;have hc:=hv.cell;gi_wp2
  refine⟨by simp,.inl ⟨_,_,rfl,run_takeDeferred hK,?_⟩⟩;exact⟨_,results_tmp rfl _ _ _,v,ys,rfl,hS,ownsRow_putObj eu _ hK rfl,hB.trans (belowK_b (w:=w) (Aj _) W D _ _ (by simp at hD;omega) hK rfl rfl)⟩
 case stop =>
  rintro D c pre W _ _ h _;exact h.elim
end
section
open Go Go.RowKit Go.Shelf Go.Maps Go.Sort
theorem mO0 (F:Fence) (n:Nat) (h8:F.fn 233) (h11:F.fn 265) (hro:F.round=none) (hn:3<=n) (g:Nat) (lb:Array Value) (hFg:F.fn g) (eg:∀args w,(callFunc g args).run Tryz.prog w=.ok (.enter g args) w)
  (S:List PW->Prop) (N:Nat) (hN:N<=4096) (w:World) (adp:SeqStopsK F (n-1-1) Tryz.prog g lb (λx:PW => #[.agg #[.int .i64 x.1.1,.int .i64 x.1.2]]) KeepsWalks S (λ_=>True) N w) :
  CallsIn F n Tryz.prog 233 #[.func (.func g) #[] lb] w λe w'=>∃(v:Value) (ss:List PW),e=.returned v/\S ss/\w'.ownsRow w.heap.size 84 2 v ss.length (ss.flatMap oV)/\Below w.heap.size w w':=by
 have h1:1<=n:=by omega
 refine callsIn_of_wp Tryz.func233 rfl h8 ?_ hro;simp only[Tryz.ntmps233,Ad,Af,Ah,Ak,Al,Aa,Ab,Ae,Ac,Ai,Ag];gi_wp2_with (gi_at_call 265;refine(eN0 F (n-1) h11 hro (by omega) g lb hFg eg S N hN _ adp).mono ?_;rintro e w' ⟨v,ss,rfl,hS,eu,hb⟩)
 go_ret;exact⟨v,ss,rfl,hS,eu,hb⟩
theorem kO0 (w:World) (Bm b nn:Nat) (D0:DataW Unit) (dm:Maps.size D0<=4096) (hm:w.cell? ⟨Bm,0,none⟩=some (.map (some b))) (ae:w.ownsMap Tryz.prog 84 (plainElem Tryz.prog 3) b nn D0) :
  Calls Tryz.prog 233 #[.func (.func 235) #[] #[.pointer (some ⟨Bm,0,none⟩)]] w λe w'=>∃(v:Value) (ss:List PW),e=.returned v/\aB0 D0 ss/\w'.ownsRow w.heap.size 84 2 v ss.length (ss.flatMap oV)/\Below w.heap.size w w' :=
 callsIn_wide.1 (mO0 Fence.wide 6 trivial trivial rfl (by decide) 235 #[.pointer (some ⟨Bm,0,none⟩)] trivial (enters_of Tryz.func235 (by kernel_rfl) rfl) (aB0 D0) (Maps.size D0) dm w
  (mQ0 Fence.wide (6-1-1) trivial rfl (by decide) Bm b nn D0 w (World.block_lt_of_cell? w _ hm) hm ae))
theorem uH0 (mb:Option Nat) (w:World) :
  Calls Tryz.prog 167 #[.map mb] w λe w'=>e=.returned (.func (.func 235) #[] #[.pointer (some ⟨w.heap.size,0,none⟩)])/\w'=w.alloc (.cells #[.map mb] 79) :=
 callsIn_wide.1 (eB1 Fence.wide 2 trivial rfl mb w)
end
end Go.Proofs.YtiopheoljccmpaaGreatDoor
