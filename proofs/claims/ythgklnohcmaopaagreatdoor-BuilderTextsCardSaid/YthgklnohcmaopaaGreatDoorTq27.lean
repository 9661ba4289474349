/- The texts Rnd, one behind the other. -/
import Derived.Test.YthgklnohcmaopaaGreatDoorTq20
import Derived.RangeFuncBox
import Derived.RangeFuncNested
import Derived.RangeFuncLeaves
import Derived.RangeFuncCalls
import Derived.OrdersIn
import Derived.TacticsInMore
open Bool renaming and_eq_true → Aa
open Go.World renaming putObj_heap_other → Ab
namespace Go.Proofs.YthgklnohcmaopaaGreatDoor
open Go Go.RowKit
section
variable {P:Program} {ops:Array Oper} {Q:Exit->Act->World->Prop} {md:Region.Mode} {E:World->World->Prop} {rl n:Nat}
def jL (o:Oper):Bool:=match o.op with | .defer _=>false|_=>true
theorem bM0 {o:Oper} (h:jL o=true):∀c,o.op ≠ .defer c:=λc hc=>by
 unfold jL at h;rw[hc]at h;cases h
theorem lN0 {row:String} {args:Array Value} {w:World} {R:Value->World->Prop} (h:Rows P row args w R):RowsIn (Fence.wide.inRound rl) n P row args w R :=
 λc cs _=>let ⟨v,w',r,s⟩:=h c cs;⟨v,w',r,stepsIn_wide.2 s⟩
theorem kP0 {o:Oper} {a:Act} {w:World} {K:Act->World->Prop} (xg:jL o=true) (h:o.wp P a w K Q):o.wpIn (Fence.wide.inRound rl) n P a w K Q:=by
 refine⟨λ_ _=>trivial,?_⟩;rw[show (Fence.wide.inRound rl).round=some rl from rfl,Oper.semAt_some rl _ o (bM0 xg)]
 unfold Oper.wp at h;generalize (execOp a.eval o).run P w=r at *
 cases r with
 | ok x w' =>
  cases x<;>simp only[Oper.upon]at h<;>simp only[Oper.uponIn]
  case value v=>exact h
  case skip=>exact h
  case defer d=>exact h
  case enter f args=>exact⟨λhd=>(by cases hd),(callsIn_wide.2 h).inRound rl⟩
  case row row args=>exact⟨λhd=>(by cases hd),lN0 h⟩
 | halt x w'=>cases x<;>simp only[Oper.upon]at h<;>simp only[Oper.uponIn];exact h
theorem rN (hl:¬LetsOut Q):∀(rest:List Oper) {a:Act} {w:World},rest.all jL=true->wpList P ops Q rest a w->wpListIn (Fence.wide.inRound rl) n P ops Q rest a w
 | [],a,w,_,h=>h
 | o::rest,a,w,hn,h=>by
  rw[List.all_cons,Aa]at hn;unfold wpList at h;unfold wpListIn;split
  ·rename_i hw
   simp only[hw,if_true]at h;rcases h with h|⟨_,h⟩
   ·exact kP0 hn.1 (Oper.wp_mono (λa' w' h'=>rN hl rest hn.2 h') h)
   ·exact(hl h).elim
  ·rename_i hw
   simp only[hw]at h;exact⟨λ_ _=>trivial,rN hl rest hn.2 h⟩
theorem pE (hl:¬LetsOut Q) (hn:ops.toList.all jL=true):∀(bd:Nat) (listed:Array Bool) (a:Act) (w:World),wpAny P md ops Q bd listed a w->wpAnyIn (Fence.wide.inRound rl) n P md ops Q bd listed a w
 | 0,_,_,_,h=>h
 | bd+1,listed,a,w,h=>by
  refine⟨h.1,λi hi=>?_⟩;have h1:=h.2 i hi;unfold wpOp at h1;unfold wpOpIn
  cases ho:ops[i]? with
  | none=>simp only[ho]at h1;exact pE hl hn bd _ a w h1
  | some o =>
   simp only[ho]at h1 ⊢;have iq:jL o=true:=List.all_eq_true.1 hn o (by rw[<-Array.getElem?_toList]at ho;exact List.mem_of_getElem? ho);split
   ·rename_i hw
    simp only[hw,if_true]at h1;rcases h1 with h1|⟨_,h1⟩
    ·exact kP0 iq (Oper.wp_mono (λa' w' h'=>pE hl hn bd _ a' w' h') h1)
    ·exact(hl h1).elim
   ·rename_i hw
    simp only[hw]at h1;exact⟨λ_ _=>trivial,pE hl hn bd _ _ w h1⟩
theorem yI0 {id:Nat} {l:List Oper} {a:Act} {w:World} (hl:¬LetsOut Q) (hn:l.all jL=true) (h:wpList P l.toArray Q l a w):(Code.region id l.toArray false).wpIn (Fence.wide.inRound rl) n P Q a w :=
 wpIn_region_lit (rN hl l hn h)
theorem cC1 (E:World->World->Prop) (k:Nat) (l:List (Nat×Bool)) {id:Nat} {L:List Oper} {a:Act} {w:World} (hl:¬LetsOut Q) (hn:L.all jL=true) (hr:∀w,E w w) (ht:∀a b c,E a b->E b c->E a c)
  (hm:P.follows .mixedOrders=true) (hB:iC L.toArray k l=true)
  (hQ:∀d v c a w,Q (.panic c) (a.put d v) w->Q (.panic c) a w) (h:mL0 P L.toArray E Q (wpList P L.toArray Q (L.drop k)) l a w.drew):(Code.region id L.toArray true).wpIn (Fence.wide.inRound rl) n P Q a w:=by
 have h:=h.out;simp only[iC,Aa,decide_eq_true_eq]at hB;obtain⟨⟨⟨⟨hs,hll⟩,hk⟩,qi⟩,hB⟩:=hB;have s6:(L.drop k).length=L.toArray.size-k:=by simp
 have:=dE (P:=P) (Q:=Q) (md:=.any) (ops:=L.toArray) (fin:=wpList P L.toArray Q (L.drop k)) (g:=L.toArray.size-k) (k:=k) hr ht hs hQ (λlisted a w hB h=>by
  obtain⟨g,hg⟩:∃g,L.toArray.size-k=g+1:=⟨L.toArray.size-k-1,by omega⟩
  have dl:Region.ready .any L.toArray listed=[k]:=by
   rw[hg]at hB;simp only[Region.seqB,Aa,decide_eq_true_eq]at hB;exact hB.1
  have ay:=wpAny_of_seq (md:=.any) (Q':=Q) (L.drop k) k listed a w (λj=>by simp[List.getElem?_drop]) (by rw[s6];exact hB) h;rw[hg];refine⟨λh0=>(by rw[h0]at dl;cases dl),λj hj=>?_⟩;have h1:=ay;rw[s6,hg]at h1;have lw:j=k:=by rw[dl]at hj;simpa using hj
  subst lw;exact wpOp_mono (λa' w' h' => .inr ⟨qi,h'⟩) (h1.2 j hj)) l _ a w.drew (gO _ _) hB h
 rw[hll,show k+(L.toArray.size-k)=L.toArray.size by omega]at this
 exact wpIn_region_any hm (pE hl (by simpa using hn) _ _ _ _ (kU _ _ _ _ this))
end
theorem cA0 {P:Program} (id n:Nat) {ops:Array Oper} {dr:Bool} {Q:Exit->Act->World->Prop} {a:Act} {w:World} (h:(Code.region id ops dr).wpIn Fence.wide n P Q a w):(Code.region id ops dr).wp P Q a w:=wpIn_wide.1 h
def sL0 (ds:List Nat):List Deferred:=ds.map λD=>{ target := .collected D,args := #[] }
structure jI (w:World) (lo:Nat) (ds:List Nat):Prop where
 at_:∀D∈ds,lo<=D/\w.heap[D]?=some (Obj.deferred (some []))
 nodup:ds.Nodup
theorem jI.nil (w:World) (lo:Nat):jI w lo []:=⟨λ_ h=>by simp at h,List.nodup_nil⟩
theorem mP {P:Program} {n:Nat} {fn:Func} {tmps:Array Value} {R:Ending->World->Prop} {lo:Nat}:∀ {ds:List Nat} {w:World},jI w lo ds ->
  (∀w',(∀k,k<w.heap.size->k∉ds->w'.heap[k]?=w.heap[k]?)->w'.heap.size=w.heap.size->(w'.os=w.os/\w'.tape=w.tape/\w'.output=w.output)->∃v,(results fn tmps).run P w' = .ok v w'/\R (.returned v) w')->LeavesInM Fence.wide n P fn tmps R (sL0 ds) .returning w
 | [],w,_,h=>h w (λ_ _ _=>rfl) rfl ⟨rfl,rfl,rfl⟩
 | D::ds,w,hm,h=>by
  obtain⟨h1,h2⟩:=hm.at_ D (by simp);have xg:=List.nodup_cons.1 hm.nodup;refine⟨by simp,.inl ⟨D,_,rfl,run_takeDeferred h2,mP (lo:=lo) ⟨λD' hD'=>⟨(hm.at_ D' (by simp[hD'])).1,?_⟩,xg.2⟩ λw' a b c=>h w' (λk hk hkd=>?_) ?_ ?_⟩⟩
  ·have ai:D≠D':=λe=>xg.1 (e▸hD')
   rw[Ab (Ne.symm ai)];exact(hm.at_ D' (by simp[hD'])).2
  ·rw[a k (by simpa using hk) (λkq=>hkd (by simp[kq])),Ab (λe=>hkd (by simp[e]))]
  ·rw[b];simp
  ·exact c
theorem uM {w V w':World} {lo:Nat} {ds:List Nat} (hg:aB w V) (hm:jI V lo ds) (hlo:lo=w.heap.size) (h1:∀k,k<V.heap.size->k∉ds->w'.heap[k]?=V.heap[k]?) (h2:w'.heap.size=V.heap.size) (h3:w'.os=V.os/\w'.tape=V.tape/\w'.output=V.output):aB w w' :=
 Below.grown (row:=none) (Below.refl _ _) ⟨h3.1.trans (Below.os hg),h3.2.1.trans (Below.tape hg),h3.2.2.trans (Below.output hg),by rw[h2];exact hg.size,λk hk _=>(h1 k (Nat.lt_of_lt_of_le hk hg.size) (λff=>by have:=(hm.at_ k ff).1;omega)).trans (Below.block hg k hk)⟩ (Nat.le_refl _) (λk h=>by cases h)
end Go.Proofs.YthgklnohcmaopaaGreatDoor
