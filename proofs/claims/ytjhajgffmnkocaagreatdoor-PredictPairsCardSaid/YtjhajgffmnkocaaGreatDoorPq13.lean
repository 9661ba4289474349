/- The texts IterP IterP2 IterP3, one behind the other. -/
import Derived.Test.YtjhajgffmnkocaaGreatDoorPq12
import Derived.RangeFuncBox
import Derived.RangeFuncNested
import Derived.RangeFuncLeaves
import Derived.RangeFuncStops
import Derived.Shelf.Abstract
import Derived.WalkKit
import Derived.OwnWalkIn
import Derived.TacticsInMore
import Derived.RegionIn
import Derived.LoopNIn
import Derived.LoopIn
import Derived.Maps.AppendAt
import Derived.Sort.MapsRangeIn
import Derived.Sort.KeysCollected
open Array renaming replicate_succ → Aa,replicate_zero → Ab
open List renaming append_toArray → Ac,size_toArray → Ad,push_toArray → Ae,length_cons → Af,cons_append → Ag,length_nil → Ah,nil_append → Ai
open Nat renaming le_refl → Aj,reduceAdd → Ak,reduceSub → Al
open Go.World renaming cell? → Am
set_option maxHeartbeats 2000000
namespace Go.Proofs.YtjhajgffmnkocaaGreatDoor
set_option maxRecDepth 100000
section
open Go Go.RowKit Go.Shelf Go.Maps Go.Sort
attribute [local go_sem] Oper.semAt_some
abbrev PW:={ x:Int×Int // WfI x.1/\WfI x.2 }
def oQ (x:PW):List Value:=[.int .i64 x.1.1,.int .i64 x.1.2]
def vF0 (D0:DataW Unit) (left:Lit->Bool) (ss:List PW):Prop:=ss.Nodup/\∀x:PW,x∈ss↔(has D0 (klP x.1)=true/\left (klP x.1)=false)
theorem mF0 (D0:DataW Unit):vF0 D0 (has D0) []:=⟨List.nodup_nil,λx=>by cases has D0 (klP x.1)<;>simp⟩
theorem vF0.step {D0:DataW Unit} {left:Lit->Bool} {ss:List PW} (h:vF0 D0 left ss) {x:PW} {y:DataW Unit} (hl:left (klP x.1)=true) (ac:∀zd,D0.atKey (klP x.1) zd=y):vF0 D0 (λz=>left z && !z.sameKey (klP x.1)) (ss++[x]):=by
 have ml:=has_true_of_atKey ac;refine⟨List.nodup_append.2 ⟨h.1,by simp,λa ha b hb e=>?_⟩,λz=>?_⟩
 ·obtain rfl:b=x:=by simpa using hb
  subst e
  have:=((h.2 a).1 ha).2
  rw[hl]at this;cases this
 ·constructor
  ·intro hz
   rcases List.mem_append.1 hz with hz|hz
   ·obtain⟨k1,k2⟩:=(h.2 z).1 hz
    exact⟨k1,by simp[k2]⟩
   ·obtain rfl:z=x:=by simpa using hz
    exact⟨ml,by simp[oV0]⟩
  ·rintro⟨k1,k2⟩
   by_cases e:z=x
   ·rw[e];simp
   ·have ak:klP z.1≠klP x.1:=λh=>e (Subtype.ext (lW0 z.2.1 z.2.2 x.2.1 x.2.2 h))
    have k3:(left (klP z.1) && !(klP z.1).sameKey (klP x.1))=false:=k2;rw[sameKey_ne ak]at k3;exact List.mem_append_left _ ((h.2 z).2 ⟨k1,by simpa using k3⟩)
theorem xE0 (F:Fence) (n:Nat) (h10:F.fn 268) (sn:F.round=none) (hn:1<=n) (l Bm b nn:Nat) (D0:DataW Unit) (J Jx:List PW->World->Prop)
  (hY:∀pre x W,J pre W->pre.length<Maps.size D0->YieldAt F (n-1) Tryz.prog l #[.agg #[.int .i64 x.1.1,.int .i64 x.1.2]] W λe W' =>
   (e=.returned (.bool true)/\J (pre++[x]) W'/\KeepsWalks W W')\/(e=.returned (.bool false)/\Jx (pre++[x]) W'))
  (W:World) (hJ:AbidesFrom W.heap.size J) (hm:W.cell? ⟨Bm,0,none⟩=some (.map (some b))) (aa:W.ownsMap Tryz.prog 243 (plainElem Tryz.prog 3) b nn D0) (h0:J [] W) :
  CallsIn F n Tryz.prog 268 #[.func (.yield l) #[] #[],.pointer (some ⟨Bm,0,none⟩)] W λe W'=>(∃v,e=.returned v) /\
   ((∃ss:List PW,(ss.Nodup/\∀x:PW,x∈ss↔has D0 (klP x.1)=true)/\J ss W')\/(∃pre:List PW,True/\Jx pre W')):=by
 refine callsIn_of_wp Tryz.func268 rfl h10 ?_ sn;simp only[Tryz.ntmps268,Ad,Af,Ah,Ak,Al,Aa,Ab,Ae,Ac,Ai,Ag]
 gi_wp2_with (first
  | (gi_at_range;refine wpListIn_range_own _ rfl _ 239 rfl 243 3 yV Tryz.underlying239 _ b nn _ rfl aa ?_;intro w0 ol et j8)
  | gi_in)
 go_frame
 gi_loopw [3] (λ_ wr=>∃(left:Lit->Bool) (io:Nat) (ss:List PW),wr.ranges Tryz.prog 243 (plainElem Tryz.prog 3) b W.heap.size nn D0 left io/\ss.length+io<=Maps.size D0/\vF0 D0 left ss/\J ss wr)
  (λ_ wr=>wr.rangeLeft b W.heap.size)
 case atStart =>
  exact⟨_,_,[],ol,by simp,mF0 D0,hJ [] W w0 none h0 et (λr e=>by cases e)⟩
 case round =>
  obtain⟨left,io,ss,g9,dg,hC,li⟩:=hrel
  gi_wp2_with (first
   | (gi_at_next;refine wpListIn_next_ranges _ rfl _ rfl 243 yV (plainElem Tryz.prog 3) (λx:Int×Int => .agg #[.int .i64 x.1,.int .i64 x.2]) id (λkey kl hk=>by obtain⟨x,_,_,hx,_⟩:=fO0 hk;exact⟨x,hx⟩) (λv _ _=>⟨v,rfl⟩) b W.heap.size nn _ _ _ rfl g9 ?_ ?_)
   | gi_in)
  ·intro lu qv
   gi_wp2
   go_end0;exact⟨⟨_,rfl⟩,.inl ⟨ss,⟨hC.1,λx=>by rw[hC.2 x,qv];simp⟩,li⟩⟩
  ·intro x0 x1 c kl yd yp w2 d9 d8 ma hv ac ff af ae iq hen
   obtain⟨x',jn,i5,ex,rfl⟩:=fO0 d8
   obtain rfl:x'=(x0,x1):=by
    obtain⟨a',b'⟩:=x';simp[cA1]at ex;rw[ex.1,ex.2]
   have hC2:=vF0.step (x:=⟨(x0,x1),jn,i5⟩) hC ma ac;have hJ2:J ss w2:=hJ ss wr w2 (some W.heap.size) li ae (λr e=>by cases e;exact⟨Aj _,g9.iter_walk⟩);have mr:J ss (w2.alloc (.cells #[.int .i64 x0,.int .i64 x1] 243)):=hJ ss w2 _ none hJ2 (World.grownBy_alloc _ _ _) (λr e=>by cases e);have eu:=ff.alloc (.cells #[.int .i64 x0,.int .i64 x1] 243);obtain⟨fn,tmps,assign,body,hy,hR⟩:=hY ss ⟨(x0,x1),jn,i5⟩ _ mr (by omega);dsimp only at hen hy hC2
   clear iq ex d8 hv ac ma;gi_wp2
   refine hR.mono ?_;rintro e W3 (⟨rfl,mr,ii⟩|⟨rfl,gi⟩)
   ·gi_wp2
    have sv:=eu.of_walks ii;go_roundw
    case rel=>exact⟨_,d9,ss++[⟨(x0,x1),jn,i5⟩],sv,by simp;omega,hC2,mr⟩
    case measure=>rw[sv.left_eq,g9.left_eq];exact af
   ·gi_wp2
    refine bodyPost_ret (results_none rfl _ _ _) rfl ?_;exact⟨⟨_,rfl⟩,.inr ⟨ss++[⟨(x0,x1),jn,i5⟩],trivial,gi⟩⟩
def aO0 (D0:DataW Unit) (ss:List PW):Prop:=ss.Nodup/\∀x:PW,x∈ss↔has D0 (klP x.1)=true
theorem nS0 (F:Fence) (n:Nat) (h10:F.fn 268) (sn:F.round=none) (hn:1<=n) (Bm b nn:Nat) (D0:DataW Unit) (w:World) (hBm:Bm<w.heap.size)
  (hm:w.cell? ⟨Bm,0,none⟩=some (.map (some b))) (aa:w.ownsMap Tryz.prog 243 (plainElem Tryz.prog 3) b nn D0) :
  SeqStopsK F n Tryz.prog 268 #[.pointer (some ⟨Bm,0,none⟩)] (λx:PW => #[.agg #[.int .i64 x.1.1,.int .i64 x.1.2]]) KeepsWalks (aO0 D0) (λ_=>True) (Maps.size D0) w:=λl J Jx W hW hJ _ hY h0=>by
 have l9:W.ownsMap Tryz.prog 243 (plainElem Tryz.prog 3) b nn D0:=by
  have gd:=aa.lt;obtain⟨es,clock,hb,Ft,hs,hD⟩:=aa;exact⟨es,clock,(hW.block b gd).trans hb,Ft,hs,hD⟩
 exact xE0 F n h10 sn hn l Bm b nn D0 J Jx hY W hJ ((hW.cell (p:=⟨Bm,0,none⟩) hBm).trans hm) l9 h0
theorem dL1 (F:Fence) (n:Nat) (h7:F.fn 225) (sn:F.round=none) (mb:Option Nat) (w:World) :
  CallsIn F n Tryz.prog 225 #[.map mb] w λe w'=>e=.returned (.func (.func 268) #[] #[.pointer (some ⟨w.heap.size,0,none⟩)])/\w'=w.alloc (.cells #[.map mb] 239):=by
 refine callsIn_of_wp Tryz.func225 rfl h7 ?_ sn;simp only[Tryz.ntmps225,Ad,Af,Ah,Ak,Al,Aa,Ab,Ae,Ac,Ai,Ag];gi_wp2
 go_ret;exact⟨rfl,rfl⟩
theorem lQ1 {β:Type} (B:Nat) (cs:Array Value) (t:TypeId):Own (λ(_:β) W=>W.heap[B]?=some (.cells cs t (0,0))):=λs X Y row hs hg cm =>
 (hg.block B (Array.getElem?_eq_some_iff.1 hs).1 (λe'=>by obtain⟨o,ho,hc⟩:=cm B e'.symm;rw[hs]at ho;cases ho;cases hc)).trans hs
theorem oN0 {W:World} {base:Nat} {e:TypeId} {size:Nat} {v:Value} {k:Nat} {xs:List Value} (h:W.ownsRow base e size v k xs):∀(j:Nat) (o:Obj),v.ownBlock=some j->W.heap[j]?=some o->o.isWalk=false:=by
 intro j o hj ho;rcases h.2 with ⟨rfl,_⟩|⟨g,cap,ct,rfl,_,mq,_⟩
 ·simp[Value.ownBlock]at hj
 ·have:g=j:=by simpa [Value.ownBlock] using hj
  subst this;rw[mq]at ho;cases ho;rfl
theorem eD1:(Tryz.prog.info? 243).map (λi=>(i.zero,i.size,i.bytes))=some (some (.agg #[.int .i64 0,.int .i64 0]),2,16):=by kernel_rfl
theorem gL0 (F:Fence) (n:Nat) (zv:F.fn 279) (sn:F.round=none) (hn:2<=n) (g:Nat) (lb:Array Value) (hFg:F.fn g) (eg:∀args w,(callFunc g args).run Tryz.prog w=.ok (.enter g args) w)
  (S:List PW->Prop) (N:Nat) (hN:N<=4096) (w:World) (zw:SeqStopsK F (n-1) Tryz.prog g lb (λx:PW => #[.agg #[.int .i64 x.1.1,.int .i64 x.1.2]]) KeepsWalks S (λ_=>True) N w) :
  CallsIn F n Tryz.prog 279 #[.slice none 0 0,.func (.func g) #[] lb] w λe w'=>∃(v:Value) (ss:List PW),e=.returned v/\S ss/\w'.ownsRow w.heap.size 243 2 v ss.length (ss.flatMap oQ)/\Below w.heap.size w w':=by
 have h1:1<=n:=by omega
 obtain⟨i0,hi,ms,zy,fw⟩:=info_parts eD1;refine callsIn_of_wp_marks Tryz.func279 rfl zv ?_ sn;simp only[Tryz.ntmps279,Ad,Af,Ah,Ak,Al,Aa,Ab,Ae,Ac,Ai,Ag];gi_wp2
 have bO:=Boxed.new w 237 (.slice none 0 0);have qe:Below w.heap.size w (w.alloc (.cells #[.slice none 0 0] 237)):=(Below.refl _ w).alloc (Aj _) _
 refine wpIn_rangeFunc_ownH sn h1 (gf:=g) (lb:=lb) rfl hFg eg zw walksK_t walksK_b qe (λ_=>rfl)
  (λpre W=>(∃v,Boxed W w.heap.size 237 v/\W.ownsRow w.heap.size 243 2 v pre.length (pre.flatMap oQ)/\True)/\Below w.heap.size w W)
  (λ_ _ _=>False)
  (OwnFrom.and (Own.from (holdsRow_own w.heap.size w.heap.size 237 243 2 (λpre:List PW=>pre.length) (λpre=>pre.flatMap oQ) (λ_ _=>True)) _) (ownFrom_below (Aj _) (by simp)))
  (λ_ _ _ _ _ hs _ _=>hs)
  ⟨⟨_,bO,World.ownsRow_nil _ _ _ _,trivial⟩,qe⟩
  (λx a' W=>∃Bx,w.heap.size<Bx/\W.heap[Bx]?=some (.cells #[.int .i64 x.1.1,.int .i64 x.1.2] 243 (0,0))/\a'={ tmps:=#[.slice none 0 0,.func (.func g) #[] lb,.pointer (some ⟨w.heap.size,0,none⟩),undef,.slice none 0 0,.pointer (some ⟨Bx,0,none⟩),.func (.func g) #[] lb,.agg #[.int .i64 x.1.1,.int .i64 x.1.2],undef,undef,undef,undef,undef],defers:=[] })
  (λx a' _ X Y row hs hg hr=>by obtain⟨Bx,h1,h2,h3⟩:=hs;exact⟨Bx,h1,lQ1 (β:=Unit) Bx _ _ () X Y row h2 hg (λr e=>(hr r e).2),h3⟩)
  ?assign ?body ?done ?stop
 case assign =>
  rintro l pre x W K ⟨⟨v,hv,cm,_⟩,hB⟩ hK;gi_wp2
  exact hK _ _ ((KeepsOthers.alloc _ _).from _) (KeepsWalks.alloc _ _) ⟨⟨v,hv.alloc _,cm.alloc _,trivial⟩,hB.alloc hB.size _⟩ ⟨W.heap.size,hv.lt,World.alloc_heap_new W _,rfl⟩
 case body =>
  rintro l pre x a' W hl _ ⟨⟨v,hv,cm,_⟩,hB⟩ ⟨Bx,hBx,bX,rfl⟩ af;have hc:=hv.cell;have x0:W.cell? ⟨Bx,0,none⟩=some (.int .i64 x.1.1):=by simp[Am,bX]
  have x1:W.cell? ⟨Bx,1,none⟩=some (.int .i64 x.1.2):=by simp[Am,bX]
  gi_wp2_with (gi_at_builtin;refine wpListIn_append_own _ rfl _ _ 237 rfl w.heap.size 243 i0 (.agg #[.int .i64 0,.int .i64 0]) 2 16 Tryz.underlying237 hi ms zy fw rfl (by decide) _ _ _ rfl (cm.alloc _) ⟨W.heap.size,0,none⟩ 1 1 (oQ x) rfl rfl (λj u hu=>dX rfl j u hu) (λu hu=>by simp[oQ]at hu;rcases hu with rfl|rfl<;>rfl) (by unfold maxLen;omega) (by omega) (by have:=hB.size;simp;omega) ?_;intro v' w1 l9 aaf _;obtain⟨g',mo,rfl⟩:=ownsRow_succ l9;obtain⟨ij,gq,cy,ig,dn⟩:=hv.appended (by decide) cm hB.size (Aj _) l9 aaf;have nu:=ij.cell;have hf1:=ij.frozen)
  refine⟨ig.from _,((KeepsWalks.alloc W _).trans (KeepsWalks.of_grownBy aaf (oN0 (cm.alloc _)))).trans (KeepsWalks.setCell _ _ _),⟨⟨_,gq,?_,trivial⟩,hB.trans dn⟩⟩
  rw[List.length_append,List.length_singleton,List.flatMap_append];simpa using cy
 case done =>
  rintro D ys W hD hS ⟨⟨v,hv,cm,_⟩,hB⟩ hK;have hc:=hv.cell;gi_wp2
  refine⟨by simp,.inl ⟨_,_,rfl,run_takeDeferred hK,?_⟩⟩;exact⟨_,results_tmp rfl _ _ _,v,ys,rfl,hS,ownsRow_putObj cm _ hK rfl,hB.trans (belowK_b (w:=w) (Aj _) W D _ _ (by simp at hD;omega) hK rfl rfl)⟩
 case stop =>
  rintro D c pre W _ _ h _;exact h.elim
end
section
open Go Go.RowKit Go.Shelf Go.Maps Go.Sort
theorem nB0 (F:Fence) (n:Nat) (h8:F.fn 266) (zv:F.fn 279) (sn:F.round=none) (hn:3<=n) (g:Nat) (lb:Array Value) (hFg:F.fn g) (eg:∀args w,(callFunc g args).run Tryz.prog w=.ok (.enter g args) w)
  (S:List PW->Prop) (N:Nat) (hN:N<=4096) (w:World) (zw:SeqStopsK F (n-1-1) Tryz.prog g lb (λx:PW => #[.agg #[.int .i64 x.1.1,.int .i64 x.1.2]]) KeepsWalks S (λ_=>True) N w) :
  CallsIn F n Tryz.prog 266 #[.func (.func g) #[] lb] w λe w'=>∃(v:Value) (ss:List PW),e=.returned v/\S ss/\w'.ownsRow w.heap.size 243 2 v ss.length (ss.flatMap oQ)/\Below w.heap.size w w':=by
 have h1:1<=n:=by omega
 refine callsIn_of_wp Tryz.func266 rfl h8 ?_ sn;simp only[Tryz.ntmps266,Ad,Af,Ah,Ak,Al,Aa,Ab,Ae,Ac,Ai,Ag];gi_wp2_with (gi_at_call 279;refine(gL0 F (n-1) zv sn (by omega) g lb hFg eg S N hN _ zw).mono ?_;rintro e w' ⟨v,ss,rfl,hS,cm,hb⟩)
 go_ret;exact⟨v,ss,rfl,hS,cm,hb⟩
theorem iV0 (w:World) (Bm b nn:Nat) (D0:DataW Unit) (dm:Maps.size D0<=4096) (hm:w.cell? ⟨Bm,0,none⟩=some (.map (some b))) (aa:w.ownsMap Tryz.prog 243 (plainElem Tryz.prog 3) b nn D0) :
  Calls Tryz.prog 266 #[.func (.func 268) #[] #[.pointer (some ⟨Bm,0,none⟩)]] w λe w'=>∃(v:Value) (ss:List PW),e=.returned v/\aO0 D0 ss/\w'.ownsRow w.heap.size 243 2 v ss.length (ss.flatMap oQ)/\Below w.heap.size w w' :=
 callsIn_wide.1 (nB0 Fence.wide 6 trivial trivial rfl (by decide) 268 #[.pointer (some ⟨Bm,0,none⟩)] trivial (enters_of Tryz.func268 (by kernel_rfl) rfl) (aO0 D0) (Maps.size D0) dm w
  (nS0 Fence.wide (6-1-1) trivial rfl (by decide) Bm b nn D0 w (World.block_lt_of_cell? w _ hm) hm aa))
theorem wH0 (mb:Option Nat) (w:World) :
  Calls Tryz.prog 225 #[.map mb] w λe w'=>e=.returned (.func (.func 268) #[] #[.pointer (some ⟨w.heap.size,0,none⟩)])/\w'=w.alloc (.cells #[.map mb] 239) :=
 callsIn_wide.1 (dL1 Fence.wide 2 trivial rfl mb w)
end
end Go.Proofs.YtjhajgffmnkocaaGreatDoor
