/- The texts Rnd, one behind the other. -/
import Derived.Test.YtiopheoljccmpaaGreatDoorCq20
import Derived.RangeFuncBox
import Derived.RangeFuncNested
import Derived.RangeFuncLeaves
import Derived.RangeFuncCalls
import Derived.OrdersIn
import Derived.TacticsInMore
open Bool renaming and_eq_true → Aa
open Go.World renaming putObj_heap_other → Ab
namespace Go.Proofs.YtiopheoljccmpaaGreatDoor
open Go Go.RowKit
section
variable {P:Program} {ops:Array Oper} {Q:Exit->Act->World->Prop} {md:Region.Mode} {E:World->World->Prop} {rl n:Nat}
def kY (o:Oper):Bool:=match o.op with | .defer _=>false|_=>true
theorem gG0 {o:Oper} (h:kY o=true):∀c,o.op ≠ .defer c:=λc hc=>by
 unfold kY at h;rw[hc]at h;cases h
theorem qN0 {row:String} {args:Array Value} {w:World} {R:Value->World->Prop} (h:Rows P row args w R):RowsIn (Fence.wide.inRound rl) n P row args w R :=
 λc cs _=>let ⟨v,w',r,s⟩:=h c cs;⟨v,w',r,stepsIn_wide.2 s⟩
theorem pV0 {o:Oper} {a:Act} {w:World} {K:Act->World->Prop} (hnd:kY o=true) (h:o.wp P a w K Q):o.wpIn (Fence.wide.inRound rl) n P a w K Q:=by
 refine⟨λ_ _=>trivial,?_⟩;rw[show (Fence.wide.inRound rl).round=some rl from rfl,Oper.semAt_some rl _ o (gG0 hnd)]
 unfold Oper.wp at h;generalize (execOp a.eval o).run P w=r at *
 cases r with
 | ok x w' =>
  cases x<;>simp only[Oper.upon]at h<;>simp only[Oper.uponIn]
  case value v=>exact h
  case skip=>exact h
  case defer d=>exact h
  case enter f args=>exact⟨λhd=>(by cases hd),(callsIn_wide.2 h).inRound rl⟩
  case row row args=>exact⟨λhd=>(by cases hd),qN0 h⟩
 | halt x w'=>cases x<;>simp only[Oper.upon]at h<;>simp only[Oper.uponIn];exact h
theorem mH (hl:¬LetsOut Q):∀(rest:List Oper) {a:Act} {w:World},rest.all kY=true->wpList P ops Q rest a w->wpListIn (Fence.wide.inRound rl) n P ops Q rest a w
 | [],a,w,_,h=>h
 | o::rest,a,w,hn,h=>by
  rw[List.all_cons,Aa]at hn;unfold wpList at h;unfold wpListIn;split
  ·rename_i hw
   simp only[hw,if_true]at h;rcases h with h|⟨_,h⟩
   ·exact pV0 hn.1 (Oper.wp_mono (λa' w' h'=>mH hl rest hn.2 h') h)
   ·exact(hl h).elim
  ·rename_i hw
   simp only[hw]at h;exact⟨λ_ _=>trivial,mH hl rest hn.2 h⟩
theorem sV (hl:¬LetsOut Q) (hn:ops.toList.all kY=true):∀(ct:Nat) (ag:Array Bool) (a:Act) (w:World),wpAny P md ops Q ct ag a w->wpAnyIn (Fence.wide.inRound rl) n P md ops Q ct ag a w
 | 0,_,_,_,h=>h
 | ct+1,ag,a,w,h=>by
  refine⟨h.1,λi hi=>?_⟩;have h1:=h.2 i hi;unfold wpOp at h1;unfold wpOpIn
  cases ho:ops[i]? with
  | none=>simp only[ho]at h1;exact sV hl hn ct _ a w h1
  | some o =>
   simp only[ho]at h1 ⊢;have gj:kY o=true:=List.all_eq_true.1 hn o (by rw[<-Array.getElem?_toList]at ho;exact List.mem_of_getElem? ho);split
   ·rename_i hw
    simp only[hw,if_true]at h1;rcases h1 with h1|⟨_,h1⟩
    ·exact pV0 gj (Oper.wp_mono (λa' w' h'=>sV hl hn ct _ a' w' h') h1)
    ·exact(hl h1).elim
   ·rename_i hw
    simp only[hw]at h1;exact⟨λ_ _=>trivial,sV hl hn ct _ _ w h1⟩
theorem fC1 {id:Nat} {l:List Oper} {a:Act} {w:World} (hl:¬LetsOut Q) (hn:l.all kY=true) (h:wpList P l.toArray Q l a w):(Code.region id l.toArray false).wpIn (Fence.wide.inRound rl) n P Q a w :=
 wpIn_region_lit (mH hl l hn h)
theorem jM1 (E:World->World->Prop) (k:Nat) (l:List (Nat×Bool)) {id:Nat} {L:List Oper} {a:Act} {w:World} (hl:¬LetsOut Q) (hn:L.all kY=true) (hr:∀w,E w w) (ht:∀a b c,E a b->E b c->E a c)
  (hm:P.follows .mixedOrders=true) (hB:jX L.toArray k l=true)
  (hQ:∀d v c a w,Q (.panic c) (a.put d v) w->Q (.panic c) a w) (h:xQ0 P L.toArray E Q (wpList P L.toArray Q (L.drop k)) l a w.drew):(Code.region id L.toArray true).wpIn (Fence.wide.inRound rl) n P Q a w:=by
 have h:=h.out;simp only[jX,Aa,decide_eq_true_eq]at hB;obtain⟨⟨⟨⟨hs,hll⟩,hk⟩,zv⟩,hB⟩:=hB;have hdl:(L.drop k).length=L.toArray.size-k:=by simp
 have:=dX (P:=P) (Q:=Q) (md:=.any) (ops:=L.toArray) (fin:=wpList P L.toArray Q (L.drop k)) (g:=L.toArray.size-k) (k:=k) hr ht hs hQ (λag a w hB h=>by
  obtain⟨g,hg⟩:∃g,L.toArray.size-k=g+1:=⟨L.toArray.size-k-1,by omega⟩
  have ic:Region.ready .any L.toArray ag=[k]:=by
   rw[hg]at hB;simp only[Region.seqB,Aa,decide_eq_true_eq]at hB;exact hB.1
  have d5:=wpAny_of_seq (md:=.any) (Q':=Q) (L.drop k) k ag a w (λj=>by simp[List.getElem?_drop]) (by rw[hdl];exact hB) h;rw[hg];refine⟨λh0=>(by rw[h0]at ic;cases ic),λj hj=>?_⟩;have h1:=d5;rw[hdl,hg]at h1;have jx:j=k:=by rw[ic]at hj;simpa using hj
  subst jx;exact wpOp_mono (λa' w' h' => .inr ⟨zv,h'⟩) (h1.2 j hj)) l _ a w.drew (jI _ _) hB h
 rw[hll,show k+(L.toArray.size-k)=L.toArray.size by omega]at this
 exact wpIn_region_any hm (sV hl (by simpa using hn) _ _ _ _ (nJ _ _ _ _ this))
end
theorem fI0 {P:Program} (id n:Nat) {ops:Array Oper} {dr:Bool} {Q:Exit->Act->World->Prop} {a:Act} {w:World} (h:(Code.region id ops dr).wpIn Fence.wide n P Q a w):(Code.region id ops dr).wp P Q a w:=wpIn_wide.1 h
def xW0 (ds:List Nat):List Deferred:=ds.map λD=>{ target := .collected D,args := #[] }
structure jL (w:World) (lo:Nat) (ds:List Nat):Prop where
 at_:∀D∈ds,lo<=D/\w.heap[D]?=some (Obj.deferred (some []))
 nodup:ds.Nodup
theorem jL.nil (w:World) (lo:Nat):jL w lo []:=⟨λ_ h=>by simp at h,List.nodup_nil⟩
theorem jL.kept {w w':World} {lo:Nat} {ds:List Nat} (h:jL w lo ds) (hk:∀D:Nat,w.heap[D]?=some (Obj.deferred (some []))->w'.heap[D]?=some (Obj.deferred (some []))):jL w' lo ds :=
 ⟨λD hD=>⟨(h.at_ D hD).1,hk D (h.at_ D hD).2⟩,h.nodup⟩
theorem oX {P:Program} {n:Nat} {fn:Func} {tmps:Array Value} {R:Ending->World->Prop} {lo:Nat}:∀ {ds:List Nat} {w:World},jL w lo ds ->
  (∀w',(∀k,k<w.heap.size->k∉ds->w'.heap[k]?=w.heap[k]?)->w'.heap.size=w.heap.size->(w'.os=w.os/\w'.tape=w.tape/\w'.output=w.output)->∃v,(results fn tmps).run P w' = .ok v w'/\R (.returned v) w')->LeavesInM Fence.wide n P fn tmps R (xW0 ds) .returning w
 | [],w,_,h=>h w (λ_ _ _=>rfl) rfl ⟨rfl,rfl,rfl⟩
 | D::ds,w,hm,h=>by
  obtain⟨h1,h2⟩:=hm.at_ D (by simp);have hnd:=List.nodup_cons.1 hm.nodup;refine⟨by simp,.inl ⟨D,_,rfl,run_takeDeferred h2,oX (lo:=lo) ⟨λD' hD'=>⟨(hm.at_ D' (by simp[hD'])).1,?_⟩,hnd.2⟩ λw' a b c=>h w' (λk hk hkd=>?_) ?_ ?_⟩⟩
  ·have aw:D≠D':=λe=>hnd.1 (e▸hD')
   rw[Ab (Ne.symm aw)];exact(hm.at_ D' (by simp[hD'])).2
  ·rw[a k (by simpa using hk) (λj7=>hkd (by simp[j7])),Ab (λe=>hkd (by simp[e]))]
  ·rw[b];simp
  ·exact c
theorem zM {w V w':World} {lo:Nat} {ds:List Nat} (hg:aB w V) (hm:jL V lo ds) (qe:lo=w.heap.size) (h1:∀k,k<V.heap.size->k∉ds->w'.heap[k]?=V.heap[k]?) (h2:w'.heap.size=V.heap.size) (h3:w'.os=V.os/\w'.tape=V.tape/\w'.output=V.output):aB w w' :=
 Below.grown (row:=none) (Below.refl _ _) ⟨h3.1.trans (Below.os hg),h3.2.1.trans (Below.tape hg),h3.2.2.trans (Below.output hg),by rw[h2];exact hg.size,λk hk _=>(h1 k (Nat.lt_of_lt_of_le hk hg.size) (λjg=>by have:=(hm.at_ k jg).1;omega)).trans (Below.block hg k hk)⟩ (Nat.le_refl _) (λk h=>by cases h)
end Go.Proofs.YtiopheoljccmpaaGreatDoor
