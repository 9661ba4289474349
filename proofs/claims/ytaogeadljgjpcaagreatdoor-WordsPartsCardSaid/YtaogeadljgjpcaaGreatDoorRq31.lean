/- The texts Rnd, one behind the other. -/
import Derived.Test.YtaogeadljgjpcaaGreatDoorRq20
import Derived.RangeFuncBox
import Derived.RangeFuncNested
import Derived.RangeFuncLeaves
import Derived.RangeFuncCalls
import Derived.OrdersIn
import Derived.TacticsInMore
open Bool renaming and_eq_true → Aa
open Go.World renaming putObj_heap_other → Ab
namespace Go.Proofs.YtaogeadljgjpcaaGreatDoor
open Go Go.RowKit
section
variable {P:Program} {ops:Array Oper} {Q:Exit->Act->World->Prop} {md:Region.Mode} {E:World->World->Prop} {rl n:Nat}
def lQ (o:Oper):Bool:=match o.op with | .defer _=>false|_=>true
theorem gS0 {o:Oper} (h:lQ o=true):∀c,o.op ≠ .defer c:=λc hc=>by
 unfold lQ at h;rw[hc]at h;cases h
theorem uN0 {row:String} {args:Array Value} {w:World} {R:Value->World->Prop} (h:Rows P row args w R):RowsIn (Fence.wide.inRound rl) n P row args w R :=
 λc cs _=>let ⟨v,w',r,s⟩:=h c cs;⟨v,w',r,stepsIn_wide.2 s⟩
theorem rR0 {o:Oper} {a:Act} {w:World} {K:Act->World->Prop} (o7:lQ o=true) (h:o.wp P a w K Q):o.wpIn (Fence.wide.inRound rl) n P a w K Q:=by
 refine⟨λ_ _=>trivial,?_⟩;rw[show (Fence.wide.inRound rl).round=some rl from rfl,Oper.semAt_some rl _ o (gS0 o7)]
 unfold Oper.wp at h;generalize (execOp a.eval o).run P w=r at *
 cases r with
 | ok x w' =>
  cases x<;>simp only[Oper.upon]at h<;>simp only[Oper.uponIn]
  case value v=>exact h
  case skip=>exact h
  case defer d=>exact h
  case enter f args=>exact⟨λhd=>(by cases hd),(callsIn_wide.2 h).inRound rl⟩
  case row row args=>exact⟨λhd=>(by cases hd),uN0 h⟩
 | halt x w'=>cases x<;>simp only[Oper.upon]at h<;>simp only[Oper.uponIn];exact h
theorem uI (hl:¬LetsOut Q):∀(rest:List Oper) {a:Act} {w:World},rest.all lQ=true->wpList P ops Q rest a w->wpListIn (Fence.wide.inRound rl) n P ops Q rest a w
 | [],a,w,_,h=>h
 | o::rest,a,w,hn,h=>by
  rw[List.all_cons,Aa]at hn;unfold wpList at h;unfold wpListIn;split
  ·rename_i hw
   simp only[hw,if_true]at h;rcases h with h|⟨_,h⟩
   ·exact rR0 hn.1 (Oper.wp_mono (λa' w' h'=>uI hl rest hn.2 h') h)
   ·exact(hl h).elim
  ·rename_i hw
   simp only[hw]at h;exact⟨λ_ _=>trivial,uI hl rest hn.2 h⟩
theorem tE (hl:¬LetsOut Q) (hn:ops.toList.all lQ=true):∀(b9:Nat) (listed:Array Bool) (a:Act) (w:World),wpAny P md ops Q b9 listed a w->wpAnyIn (Fence.wide.inRound rl) n P md ops Q b9 listed a w
 | 0,_,_,_,h=>h
 | b9+1,listed,a,w,h=>by
  refine⟨h.1,λi hi=>?_⟩;have h1:=h.2 i hi;unfold wpOp at h1;unfold wpOpIn
  cases ho:ops[i]? with
  | none=>simp only[ho]at h1;exact tE hl hn b9 _ a w h1
  | some o =>
   simp only[ho]at h1 ⊢;have im:lQ o=true:=List.all_eq_true.1 hn o (by rw[<-Array.getElem?_toList]at ho;exact List.mem_of_getElem? ho);split
   ·rename_i hw
    simp only[hw,if_true]at h1;rcases h1 with h1|⟨_,h1⟩
    ·exact rR0 im (Oper.wp_mono (λa' w' h'=>tE hl hn b9 _ a' w' h') h1)
    ·exact(hl h1).elim
   ·rename_i hw
    simp only[hw]at h1;exact⟨λ_ _=>trivial,tE hl hn b9 _ _ w h1⟩
theorem jE1 {id:Nat} {l:List Oper} {a:Act} {w:World} (hl:¬LetsOut Q) (hn:l.all lQ=true) (h:wpList P l.toArray Q l a w):(Code.region id l.toArray false).wpIn (Fence.wide.inRound rl) n P Q a w :=
 wpIn_region_lit (uI hl l hn h)
theorem jQ1 (E:World->World->Prop) (k:Nat) (l:List (Nat×Bool)) {id:Nat} {L:List Oper} {a:Act} {w:World} (hl:¬LetsOut Q) (hn:L.all lQ=true) (hr:∀w,E w w) (ht:∀a b c,E a b->E b c->E a c)
  (hm:P.follows .mixedOrders=true) (hB:kD L.toArray k l=true)
  (hQ:∀d v c a w,Q (.panic c) (a.put d v) w->Q (.panic c) a w) (h:sG0 P L.toArray E Q (wpList P L.toArray Q (L.drop k)) l a w.drew):(Code.region id L.toArray true).wpIn (Fence.wide.inRound rl) n P Q a w:=by
 have h:=h.out;simp only[kD,Aa,decide_eq_true_eq]at hB;obtain⟨⟨⟨⟨hs,mh⟩,hk⟩,ld⟩,hB⟩:=hB;have jp:(L.drop k).length=L.toArray.size-k:=by simp
 have:=eB (P:=P) (Q:=Q) (md:=.any) (ops:=L.toArray) (fin:=wpList P L.toArray Q (L.drop k)) (g:=L.toArray.size-k) (k:=k) hr ht hs hQ (λlisted a w hB h=>by
  obtain⟨g,hg⟩:∃g,L.toArray.size-k=g+1:=⟨L.toArray.size-k-1,by omega⟩
  have di:Region.ready .any L.toArray listed=[k]:=by
   rw[hg]at hB;simp only[Region.seqB,Aa,decide_eq_true_eq]at hB;exact hB.1
  have ax:=wpAny_of_seq (md:=.any) (Q':=Q) (L.drop k) k listed a w (λj=>by simp[List.getElem?_drop]) (by rw[jp];exact hB) h;rw[hg];refine⟨λh0=>(by rw[h0]at di;cases di),λj hj=>?_⟩;have h1:=ax;rw[jp,hg]at h1;have ma:j=k:=by rw[di]at hj;simpa using hj
  subst ma;exact wpOp_mono (λa' w' h' => .inr ⟨ld,h'⟩) (h1.2 j hj)) l _ a w.drew (fU _ _) hB h
 rw[mh,show k+(L.toArray.size-k)=L.toArray.size by omega]at this
 exact wpIn_region_any hm (tE hl (by simpa using hn) _ _ _ _ (jD _ _ _ _ this))
end
theorem gG0 {P:Program} (id n:Nat) {ops:Array Oper} {dr:Bool} {Q:Exit->Act->World->Prop} {a:Act} {w:World} (h:(Code.region id ops dr).wpIn Fence.wide n P Q a w):(Code.region id ops dr).wp P Q a w:=wpIn_wide.1 h
def yM0 (ds:List Nat):List Deferred:=ds.map λD=>{ target := .collected D,args := #[] }
structure lN (w:World) (lo:Nat) (ds:List Nat):Prop where
 at_:∀D∈ds,lo<=D/\w.heap[D]?=some (Obj.deferred (some []))
 nodup:ds.Nodup
theorem lN.nil (w:World) (lo:Nat):lN w lo []:=⟨λ_ h=>by simp at h,List.nodup_nil⟩
theorem oT {P:Program} {n:Nat} {fn:Func} {tmps:Array Value} {R:Ending->World->Prop} {lo:Nat}:∀ {ds:List Nat} {w:World},lN w lo ds ->
  (∀w',(∀k,k<w.heap.size->k∉ds->w'.heap[k]?=w.heap[k]?)->w'.heap.size=w.heap.size->(w'.os=w.os/\w'.tape=w.tape/\w'.output=w.output)->∃v,(results fn tmps).run P w' = .ok v w'/\R (.returned v) w')->LeavesInM Fence.wide n P fn tmps R (yM0 ds) .returning w
 | [],w,_,h=>h w (λ_ _ _=>rfl) rfl ⟨rfl,rfl,rfl⟩
 | D::ds,w,hm,h=>by
  obtain⟨h1,h2⟩:=hm.at_ D (by simp);have o7:=List.nodup_cons.1 hm.nodup;refine⟨by simp,.inl ⟨D,_,rfl,run_takeDeferred h2,oT (lo:=lo) ⟨λD' hD'=>⟨(hm.at_ D' (by simp[hD'])).1,?_⟩,o7.2⟩ λw' a b c=>h w' (λk hk hkd=>?_) ?_ ?_⟩⟩
  ·have aj:D≠D':=λe=>o7.1 (e▸hD')
   rw[Ab (Ne.symm aj)];exact(hm.at_ D' (by simp[hD'])).2
  ·rw[a k (by simpa using hk) (λjq=>hkd (by simp[jq])),Ab (λe=>hkd (by simp[e]))]
  ·rw[b];simp
  ·exact c
theorem aY0 {w V w':World} {lo:Nat} {ds:List Nat} (hg:aB w V) (hm:lN V lo ds) (iq:lo=w.heap.size) (h1:∀k,k<V.heap.size->k∉ds->w'.heap[k]?=V.heap[k]?) (h2:w'.heap.size=V.heap.size) (h3:w'.os=V.os/\w'.tape=V.tape/\w'.output=V.output):aB w w' :=
 Below.grown (row:=none) (Below.refl _ _) ⟨h3.1.trans (Below.os hg),h3.2.1.trans (Below.tape hg),h3.2.2.trans (Below.output hg),by rw[h2];exact hg.size,λk hk _=>(h1 k (Nat.lt_of_lt_of_le hk hg.size) (λi7=>by have:=(hm.at_ k i7).1;omega)).trans (Below.block hg k hk)⟩ (Nat.le_refl _) (λk h=>by cases h)
end Go.Proofs.YtaogeadljgjpcaaGreatDoor
