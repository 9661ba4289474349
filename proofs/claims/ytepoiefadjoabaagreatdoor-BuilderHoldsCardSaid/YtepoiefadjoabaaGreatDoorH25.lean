/- The texts App5 AppL, one behind the other. -/
import Derived.Test.YtepoiefadjoabaaGreatDoorH12
import Derived.Test.YtepoiefadjoabaaGreatDoorH21
namespace Go.Proofs.YtepoiefadjoabaaGreatDoor
open Go Go.RowKit
def Fresh (w : World) (v v' : Value) : Prop := v'.ownBlock = v.ownBlock ∨ ∃ q, v'.ownBlock = some q ∧ w.heap.size ≤ q
def Apart (v u : Value) : Prop := ∀ q, v.ownBlock = some q → u.ownBlock ≠ some q
theorem Apart.symm {v u : Value} (h : Apart v u) : Apart u v := fun q hu hv => h q hv hu
theorem Apart.nil (a b : Nat) (u : Value) : Apart (.slice none a b) u := fun q h => by simp [Value.ownBlock] at h
theorem own_lt {α : Type} {w : World} {base : Nat} {e : TypeId} {k : Nat} {enc : α → List Value} {v : Value} {xs : List α} (h : Owns w base e k enc v xs) : ∀ q, v.ownBlock = some q → q < w.heap.size := by
 intro q hq
 rcases h.2 with ⟨rfl,_⟩ | ⟨g,cap,cur,rfl,_,hh,_⟩
 ·cases hq
 ·have : g = q:=Option.some.inj hq
  subst this
  exact (Array.getElem?_eq_some_iff.1 hh).1
theorem Apart.fresh {w : World} {v v' u : Value} (h : Apart v u) (hu : ∀ q, u.ownBlock = some q → q < w.heap.size) (hf : Fresh w v v') : Apart v' u := by
 intro q hq hq2
 rcases hf with hf | ⟨r,hr,hle⟩
 ·exact h q (hf ▸ hq) hq2
 ·have : r = q:=Option.some.inj (hr.symm.trans hq)
  have:=hu q hq2
  omega
theorem owns_keep {α : Type} {w w' : World} {base : Nat} {e : TypeId} {k : Nat} {enc : α → List Value} {v u : Value} {ys : List α} (h : Owns w base e k enc u ys) (hg : w.grownBy w' v.ownBlock) (ha : Apart v u) : Owns w' base e k enc u ys := by
 refine owns_kept h hg ?_
 cases hu : u.ownBlock with
 | none => exact Or.inl rfl
 | some q => exact Or.inr (fun hv => ha q hv.symm hu)
theorem at_keep {w w' : World} {a : Option Addr} {k : Nat} {rows : List (List Value)} {row : Option Nat} (h : AtCells w a k rows) (hg : w.grownBy w' row) (hne : ∀ q : Addr, a = some q → some q.block ≠ row) : AtCells w' a k rows := fun hn => by
 obtain ⟨b,off,ha,hc⟩:=h hn
 exact ⟨b,off,ha,fun i row hi j v hj => hg.cell (hc i row hi j v hj) (hne ⟨b,off,none⟩ ha)⟩
theorem grownBy_refl (w : World) (row : Option Nat) : w.grownBy w row := ⟨rfl, rfl, rfl, Nat.le_refl _, fun _ _ _ => rfl⟩
section
variable {P : Program} (w : World)
theorem run_append_fresh (base : Nat) (t ty e : TypeId) (i : TypeInfo) (z : Value) (size bytes : Nat) (ht : P.underlying t = some (.slice e)) (hi : P.info? e = some i) (hz : i.zero = some z)
  (hsize : i.size = size) (hby : i.bytes = bytes) (hzs : z.cells.size = size) (hsz : 0 < size)
  (v : Value) (n : Nat) (xs : List Value) (hown : w.ownsRow base e size v n xs)
  (a : Addr) (m c : Nat) (news : List Value) (hl : news.length = m * size) (hnews : ∀ j u,news[j]? = some u → w.cell? (a.add j) = some u) (h1 : ∀ u ∈ news,u.oneCell' = true)
  (h63 : n + m ≤ maxLen) (hbytes : (n + m) * bytes ≤ 140737488355328) (hbase : base ≤ w.heap.size) :
  ∃ v' w',(Builtin.append_ #[t,t] ty #[v,.slice (some a) m c]).run P w = .ok v' w'∧w'.ownsRow base e size v' (n + m) (xs ++ news)∧w.grownBy w' v.ownBlock∧Fresh w v v':=by
 obtain ⟨v',w',hr,h2,h3,_⟩:=run_append_own (P:=P) w base t ty e i z size bytes ht hi hz hsize hby hzs hsz v n xs hown a m c news hl hnews h1 h63 hbytes hbase
 refine ⟨v',w',hr,h2,h3, ?_⟩
 rcases hown.2 with ⟨rfl,rfl⟩ | ⟨g,cap,cur,rfl,hbg,hg,hnc,hcm,hcs,htake⟩
 ·have hx : xs = []:=List.eq_nil_of_length_eq_zero (by simpa using hown.1)
  subst hx
  obtain ⟨v2,w2,hr2,h22,_,_⟩:=run_append_own (P:=P) w w.heap.size t ty e i z size bytes ht hi hz hsize hby hzs hsz (.slice none 0 0) 0 [] (World.ownsRow_nil w w.heap.size e size) a m c news hl hnews h1 h63 hbytes (Nat.le_refl _)
  have hv : v' = v2:=by
   rw [hr] at hr2
   injection hr2
  subst hv
  cases hv : v'.ownBlock with
  | none => exact Or.inl (by rw [hv];rfl)
  | some q => exact Or.inr ⟨q,hv,ownBlock_ge h22 q hv⟩
 ·subst hsize
  subst hby
  by_cases hroom : n + m ≤ cap
  ·have hfit : n * i.size + news.length ≤ cur.size:=by rw [hl,hcs,← Nat.add_mul];exact Nat.mul_le_mul_right _ hroom
   have hr2:=run_append_room (P:=P) w t ty e i ht hi g n cap cur hg a m c news hl hnews h1 hroom hfit
   rw [hr] at hr2
   injection hr2 with hv _
   exact Or.inl (by rw [hv];rfl)
  ·have hsmall : n + m ≤ 9223372036854775807:=by simp only [maxLen] at h63;omega
   have holds : ∀ j u,xs[j]? = some u → w.cell? ((⟨g,0,none⟩ : Addr).add j) = some u:=hown.cells (g:=g) rfl
   have hr2:=run_append_grow (P:=P) w t ty e i z ht hi hz ⟨g,0,none⟩ n cap xs hown.1 holds a m c news hl hnews (by omega) (by omega) (growslice_fits (by omega) hbytes)
   rw [hr] at hr2
   injection hr2 with hv _
   exact Or.inr ⟨w.heap.size,by rw [hv];rfl,Nat.le_refl _⟩
end
theorem app_many5 {α : Type} {P : Program} {t e : TypeId} {k bytes : Nat} {enc : α → List Value} (L : ElemLay P t e k bytes enc) {ops : Array Oper} {rest : List Oper} {o : Oper} {a : Act} {Q : Exit → Act → World → Prop} {w W : World}
  (hgd : o.guard = none) (s x : Operand) (hop : o.op = .call { callee:=.builtin .append,args:=#[s,x],argTypes:=#[t,t] })
  (base : Nat) (v : Value) (xs ys : List α) (hs : a.eval s = v) (hown : Owns w base e k enc v xs) (hgr : Grows w W) (sa : Option Addr) (sc : Nat)
  (hx : a.eval x = .slice sa ys.length sc) (hsrc : AtCells W sa k (ys.map enc)) (hnone : sa = none → sc = 0) (hlen : (xs.length + ys.length) * bytes ≤ 140737488355328) (hbase : base ≤ w.heap.size)
  (h : ∀ v' w',Owns w' base e k enc v' (xs ++ ys) → W.grownBy w' v.ownBlock → Fresh W v v' → (∀ a0,Grows a0 w → a0.heap.size ≤ base → Grows a0 w') → wpList P ops Q rest (a.put o.dst v') w') :
  wpList P ops Q (o :: rest) a W:=by
 obtain ⟨i,z,hi,hz,hsize,hby,hzs⟩:=L.info
 have hl1 : xs.length + ys.length ≤ 140737488355328:=Nat.le_trans (Nat.le_mul_of_pos_right _ L.by1) hlen
 have hown2:=ownsRow_grows hown hgr
 cases sa with
 | none =>
  obtain rfl:=hnone rfl
  have hy : ys = []:=Decidable.byContradiction fun hne => by
   have hne2 : ys.map enc ≠ []:=by simpa using hne
   obtain ⟨b,off,ha,_⟩:=hsrc hne2
   cases ha
  subst hy
  refine wpList_append_own_none hgd s x t hop base e i k L.sl hi v xs.length (xs.flatMap enc) hs hown2 hx ?_
  refine h v W ?_ (grownBy_refl _ _) (Or.inl rfl) (fun a0 h0 _ => h0.tr hgr)
  rw [List.append_nil];exact hown2
 | some ad =>
  have hcells : ∀ (j : Nat) (u : Value),(ys.flatMap enc)[j]? = some u → W.cell? (ad.add j) = some u:=by
   intro j u hu
   obtain ⟨i',jj,y,h1,h2,h3⟩:=flat_split L.len ys j u hu
   have hne : ys.map enc ≠ []:=by rintro e;rw [List.map_eq_nil_iff] at e;subst e;simp at h2
   obtain ⟨b,off,ha,hc⟩:=hsrc hne
   obtain rfl:=Option.some.inj ha
   have hcell:=hc i' (enc y) (by rw [List.getElem?_map,h2];rfl) jj u h3
   unfold Addr.add
   by_cases h0 : j = 0
   ·subst h0
    have hz0 : i' * k = 0∧jj = 0:=by omega
    rw [if_pos rfl]
    rw [hz0.1,hz0.2] at hcell
    simpa using hcell
   ·rw [if_neg h0]
    subst h1
    rw [← Nat.add_assoc];exact hcell
  obtain ⟨v',w',hr,h2,h3,h4⟩:=run_append_fresh (P:=P) W base t o.type e i z k bytes L.sl hi hz hsize hby hzs L.pos v xs.length (xs.flatMap enc) hown2 ad ys.length sc (ys.flatMap enc) (flat_length L.len ys) hcells
   (fun u hu => by obtain ⟨y,_,hy⟩:=List.mem_flatMap.1 hu;exact L.one y u hy) (by unfold maxLen;omega) hlen (Nat.le_trans hbase hgr.size)
  refine wpList_plain hgd fun K hK => ?_
  unfold Oper.wp execOp
  simp only [hop,resolve,invoke,builtin,Sem.run_bind,Sem.run_pure,Result.andThen_ok,List.map_toArray,List.map_cons,List.map_nil,hs,hx,hr]
  refine hK _ _ (h v' w' ?_ h3 h4 (fun a0 h0 hb => (h0.tr hgr).grown h3 (fun q hq => Nat.le_trans hb (ownBlock_ge hown q hq))))
  unfold Owns
  rw [List.length_append,List.flatMap_append]
  exact h2
theorem app_one5 {α : Type} {P : Program} {t e : TypeId} {k bytes : Nat} {enc : α → List Value} (L : ElemLay P t e k bytes enc) {ops : Array Oper} {rest : List Oper} {o : Oper} {a : Act} {Q : Exit → Act → World → Prop} {w W : World}
  (hgd : o.guard = none) (s x : Operand) (hop : o.op = .call { callee:=.builtin .append,args:=#[s,x],argTypes:=#[t,t] })
  (base : Nat) (v : Value) (xs : List α) (y : α) (hs : a.eval s = v) (hown : Owns w base e k enc v xs) (hgr : Grows w W) (n c : Nat) (hn : n = W.heap.size) (cs : Array Value) (hcs : cs.toList = enc y)
  (hx : a.eval x = .slice (some ⟨n,0,none⟩) 1 c) (hlen : (xs.length + 1) * bytes ≤ 140737488355328) (hbase : base ≤ w.heap.size)
  (h : ∀ v' w',Owns w' base e k enc v' (xs ++ [y]) → W.grownBy w' v.ownBlock → Fresh W v v' → (∀ a0,Grows a0 w → a0.heap.size ≤ base → Grows a0 w') → wpList P ops Q rest (a.put o.dst v') w') :
  wpList P ops Q (o :: rest) a (W.alloc (.cells cs e)):=by
 subst hn
 have hat : AtCells (W.alloc (.cells cs e)) (some ⟨W.heap.size,0,none⟩) k ([y].map enc):=fun _ => ⟨W.heap.size,0,rfl,fun i row hi j u hj => by
  match i,hi with
  | 0,hi =>
   obtain rfl:=Option.some.inj hi
   simpa using cell_box W cs e (0,0) j u (by rw [← hcs] at hj;simpa using hj)⟩
 refine app_many5 L hgd s x hop base v xs [y] hs hown (hgr.al _) (some ⟨W.heap.size,0,none⟩) c hx hat (fun h => by cases h) hlen hbase (fun v' w' h1 h2 h3 h4 => h v' w' h1 ?_ ?_ h4)
 ·have h5:=World.grownBy_alloc W (.cells cs e) v.ownBlock
  exact ⟨h2.os.trans h5.os,h2.tape.trans h5.tape,h2.output.trans h5.output,Nat.le_trans h5.size h2.size,fun k hk hne => (h2.block k (Nat.lt_of_lt_of_le hk h5.size) hne).trans (h5.block k hk hne)⟩
 ·rcases h3 with h3 | ⟨q,h3,h6⟩
  ·exact Or.inl h3
  ·exact Or.inr ⟨q,h3,by simp at h6;omega⟩
end Go.Proofs.YtepoiefadjoabaaGreatDoor
namespace Go.Proofs.YtepoiefadjoabaaGreatDoor
open Go Go.RowKit
theorem app_late5 {α : Type} {P : Program} {t e : TypeId} {k bytes : Nat} {enc : α → List Value} (L : ElemLay P t e k bytes enc) {o : Oper} {a : Act} {K : Act → World → Prop} {Q : Exit → Act → World → Prop} {W : World}
  (s x : Operand) (hop : o.op = .call { callee:=.builtin .append,args:=#[s,x],argTypes:=#[t,t] })
  (base : Nat) (v : Value) (xs : List α) (y : α) (hs : a.eval s = v) (hown : Owns W base e k enc v xs) (b c : Nat)
  (hx : a.eval x = .slice (some ⟨b,0,none⟩) 1 c) (hsrc : ∀ j u,(enc y)[j]? = some u → W.cell? ⟨b,j,none⟩ = some u) (hlen : (xs.length + 1) * bytes ≤ 140737488355328) (hbase : base ≤ W.heap.size)
  (h : ∀ v' w',Owns w' base e k enc v' (xs ++ [y]) → W.grownBy w' v.ownBlock → Fresh W v v' → K (a.put o.dst v') w') : o.wp P a W K Q:=by
 obtain ⟨i,z,hi,hz,hsize,hby,hzs⟩:=L.info
 have hl1 : xs.length + 1 ≤ 140737488355328:=Nat.le_trans (Nat.le_mul_of_pos_right _ L.by1) hlen
 obtain ⟨v',w',hr,h2,h3,h4⟩:=run_append_fresh (P:=P) W base t o.type e i z k bytes L.sl hi hz hsize hby hzs L.pos v xs.length (xs.flatMap enc) hown ⟨b,0,none⟩ 1 c (enc y) (by rw [L.len,Nat.one_mul])
  (fun j u hu => by rw [add_off];exact hsrc j u hu) (L.one y) (by unfold maxLen;omega) hlen hbase
 unfold Oper.wp execOp
 simp only [hop,resolve,invoke,builtin,Sem.run_bind,Sem.run_pure,Result.andThen_ok,List.map_toArray,List.map_cons,List.map_nil,hs,hx,hr]
 refine h v' w' ?_ h3 h4
 unfold Owns
 rw [List.length_append,List.length_singleton,List.flatMap_append]
 simpa using h2
theorem src1 {W : World} {b x : Nat} (h : W.cell? ⟨b, 0, none⟩ = some (.int .i64 x)) : ∀ j u, (natC x)[j]? = some u → W.cell? ⟨b, j, none⟩ = some u := fun j u hu => by
 cases j with
 | zero => rw [h];exact hu
 | succ j => simp [natC] at hu
theorem src64 {W : World} {b x : Nat} (h : W.cell? ⟨b, 0, none⟩ = some (.int .u64 x)) : ∀ j u, (n64C x)[j]? = some u → W.cell? ⟨b, j, none⟩ = some u := fun j u hu => by
 cases j with
 | zero => rw [h];exact hu
 | succ j => simp [n64C] at hu
theorem box1 (W : World) (x : Value) (t : TypeId) : (W.alloc (.cells #[x] t)).cell? ⟨W.heap.size, 0, none⟩ = some x := cell_box W _ _ (0, 0) 0 _ rfl
theorem EB.mono {B B' : Nat} {w w' : World} (h : EB B' w w') (hb : B ≤ B') : EB B w w' := ⟨Below.mono h.1 hb, h.2⟩
theorem EB.own {α : Type} {w w' : World} {base : Nat} {e : TypeId} {k : Nat} {enc : α → List Value} {v : Value} {xs : List α} (h : Owns w base e k enc v xs) (hk : w.grownBy w' v.ownBlock) (hb : base ≤ w.heap.size) : EB base w w' :=
 ⟨Below.grown (Below.refl _ _) hk hb (ownBlock_ge h),hk.size⟩
theorem owns_atc {α : Type} {w : World} {base : Nat} {e : TypeId} {k : Nat} {enc : α → List Value} {a : Option Addr} {n c : Nat} {xs : List α} (hk : ∀ x, (enc x).length = k) (h : Owns w base e k enc (.slice a n c) xs) : AtCells w a k (xs.map enc) := by
 obtain ⟨a',c',he,_,_,h2⟩:=h.at_ hk
 injection he with h1
 rw [h1];exact h2
theorem append_keeps {P : Program} (w : World) (base : Nat) (t ty e : TypeId) (i : TypeInfo) (z : Value) (size bytes : Nat) (ht : P.underlying t = some (.slice e)) (hi : P.info? e = some i) (hz : i.zero = some z)
  (hsize : i.size = size) (hby : i.bytes = bytes) (g n cap : Nat) (xs : List Value) (hown : w.ownsRow base e size (.slice (some ⟨g,0,none⟩) n cap) n xs)
  (a : Addr) (m c : Nat) (news : List Value) (hl : news.length = m * size) (hnews : ∀ j u,news[j]? = some u → w.cell? (a.add j) = some u) (h1 : ∀ u ∈ news,u.oneCell' = true)
  (h63 : n + m ≤ maxLen) (hbytes : (n + m) * bytes ≤ 140737488355328) {v' : Value} {w' : World} (hr : (Builtin.append_ #[t,t] ty #[.slice (some ⟨g,0,none⟩) n cap,.slice (some a) m c]).run P w = .ok v' w') (h2 : w'.ownsRow base e size v' (n + m) (xs ++ news)) :
  ∀ j u,xs[j]? = some u → w'.cell? ⟨g,j,none⟩ = some u:=fun j u hj => by
 subst hsize
 subst hby
 have holds : ∀ j u,xs[j]? = some u → w.cell? ((⟨g,0,none⟩ : Addr).add j) = some u:=hown.cells (g:=g) rfl
 by_cases hroom : n + m ≤ cap
 ·rcases hown.2 with ⟨hv,_⟩ | ⟨g',cap',cur,hv,hbg,hg,hnc,hcm,hcs,htake⟩
  ·cases hv
  ·obtain ⟨rfl,rfl⟩ : g = g'∧cap = cap':=by
    injection hv with h1 h2 h3
    exact ⟨congrArg Addr.block (Option.some.inj h1),h3⟩
   have hfit : n * i.size + news.length ≤ cur.size:=by rw [hl,hcs,← Nat.add_mul];exact Nat.mul_le_mul_right _ hroom
   have hr2:=run_append_room (P:=P) w t ty e i ht hi g n cap cur hg a m c news hl hnews h1 hroom hfit
   rw [hr] at hr2
   injection hr2 with hv2 _
   have hc:=h2.cells (g:=g) (by rw [hv2];rfl) j u (by rw [List.getElem?_append_left (List.getElem?_eq_some_iff.1 hj).1];exact hj)
   rw [add_off] at hc
   exact hc
 ·have hsmall : n + m ≤ 9223372036854775807:=by simp only [maxLen] at h63;omega
  have hr2:=run_append_grow (P:=P) w t ty e i z ht hi hz ⟨g,0,none⟩ n cap xs hown.1 holds a m c news hl hnews (by omega) (by omega) (growslice_fits (by omega) hbytes)
  rw [hr] at hr2
  injection hr2 with _ hw2
  rw [hw2]
  have hc:=holds j u hj
  rw [add_off] at hc
  exact (Grows.alloc w.drew _).cell ((Grows.drew w).cell hc)
theorem app_late6 {α : Type} {P : Program} {t e : TypeId} {k bytes : Nat} {enc : α → List Value} (L : ElemLay P t e k bytes enc) {o : Oper} {a : Act} {K : Act → World → Prop} {Q : Exit → Act → World → Prop} {W : World}
  (s x : Operand) (hop : o.op = .call { callee:=.builtin .append,args:=#[s,x],argTypes:=#[t,t] })
  (base g cap : Nat) (xs : List α) (y : α) (hs : a.eval s = .slice (some ⟨g,0,none⟩) xs.length cap) (hown : Owns W base e k enc (.slice (some ⟨g,0,none⟩) xs.length cap) xs) (b c : Nat)
  (hx : a.eval x = .slice (some ⟨b,0,none⟩) 1 c) (hsrc : ∀ j u,(enc y)[j]? = some u → W.cell? ⟨b,j,none⟩ = some u) (hlen : (xs.length + 1) * bytes ≤ 140737488355328) (hbase : base ≤ W.heap.size)
  (h : ∀ v' w',Owns w' base e k enc v' (xs ++ [y]) → W.grownBy w' (some g) → Fresh W (.slice (some ⟨g,0,none⟩) xs.length cap) v' → (∀ j u,(xs.flatMap enc)[j]? = some u → w'.cell? ⟨g,j,none⟩ = some u) → K (a.put o.dst v') w') : o.wp P a W K Q:=by
 obtain ⟨i,z,hi,hz,hsize,hby,hzs⟩:=L.info
 have hl1 : xs.length + 1 ≤ 140737488355328:=Nat.le_trans (Nat.le_mul_of_pos_right _ L.by1) hlen
 obtain ⟨v',w',hr,h2,h3,h4⟩:=run_append_fresh (P:=P) W base t o.type e i z k bytes L.sl hi hz hsize hby hzs L.pos _ xs.length (xs.flatMap enc) hown ⟨b,0,none⟩ 1 c (enc y) (by rw [L.len,Nat.one_mul])
  (fun j u hu => by rw [add_off];exact hsrc j u hu) (L.one y) (by unfold maxLen;omega) hlen hbase
 have h5:=append_keeps (P:=P) W base t o.type e i z k bytes L.sl hi hz hsize hby g xs.length cap (xs.flatMap enc) hown ⟨b,0,none⟩ 1 c (enc y) (by rw [L.len,Nat.one_mul])
  (fun j u hu => by rw [add_off];exact hsrc j u hu) (L.one y) (by unfold maxLen;omega) hlen hr h2
 unfold Oper.wp execOp
 simp only [hop,resolve,invoke,builtin,Sem.run_bind,Sem.run_pure,Result.andThen_ok,List.map_toArray,List.map_cons,List.map_nil,hs,hx,hr]
 refine h v' w' ?_ h3 h4 h5
 unfold Owns
 rw [List.length_append,List.length_singleton,List.flatMap_append]
 simpa using h2
theorem own_form {α : Type} {w : World} {base : Nat} {e : TypeId} {k : Nat} {enc : α → List Value} {v : Value} {xs : List α} (h : Owns w base e k enc v xs) (hn : 0 < xs.length) : ∃ g c, v = .slice (some ⟨g, 0, none⟩) xs.length c ∧ base ≤ g := by
 rcases h.2 with ⟨_,h0⟩ | ⟨g,cap,cur,hv,hb,_⟩
 ·omega
 ·exact ⟨g,cap,hv,hb⟩
def EK (B : Nat) (p : Addr) (u : Value) (a b : World) : Prop := EB B a b ∧ (a.cell? p = some u → b.cell? p = some u)
theorem EK.refl (B : Nat) (p : Addr) (u : Value) (w : World) : EK B p u w w := ⟨EB.refl B w, fun h => h⟩
theorem EK.trans (B : Nat) (p : Addr) (u : Value) (a b c : World) (h : EK B p u a b) (k : EK B p u b c) : EK B p u a c := ⟨EB.trans B a b c h.1 k.1, fun x => k.2 (h.2 x)⟩
instance extEK (B : Nat) (p : Addr) (u : Value) (w : World) : Nonempty (Ext (EK B p u) w) := ⟨⟨w, EK.refl B p u w⟩⟩
theorem ext_cellE {B : Nat} {p : Addr} {u : Value} {w : World} (hc : w.cell? p = some u) (x : Ext (EK B p u) w) : x.u.cell? p = some u := x.h.2 hc
end Go.Proofs.YtepoiefadjoabaaGreatDoor
