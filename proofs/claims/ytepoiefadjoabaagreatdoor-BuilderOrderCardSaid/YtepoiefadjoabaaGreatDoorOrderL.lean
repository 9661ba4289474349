/- BuilderOrder's law, walked: entries with greater costs beside them give the same image. -/
import Derived.Test.YtepoiefadjoabaaGreatDoorQ48
import Derived.Test.YtepoiefadjoabaaGreatDoorQ25
import Derived.Test.YtepoiefadjoabaaGreatDoorQ39
import Derived.Test.YtepoiefadjoabaaGreatDoorQ7
import Derived.Test.YtepoiefadjoabaaGreatDoorQ46
namespace Go.Proofs.YtepoiefadjoabaaGreatDoor
open Go Go.RowKit

/-! entries again, with greater costs -/
def moreE (more : Nat) (x : En) : List En := if 0 ≤ x.c ∧ x.c ≤ 30000 - (more : Int) then [{ x with c := x.c + more }, x] else [x]
def moreL (more : Nat) (l : List En) : List En := l.reverse.flatMap (moreE more)
theorem moreE_self (more : Nat) (x : En) : x ∈ moreE more x := by unfold moreE; split <;> simp
theorem moreE_of {more : Nat} {x y : En} (h : y ∈ moreE more x) : y = x ∨ (y = { x with c := x.c + more } ∧ 0 ≤ x.c ∧ x.c ≤ 30000 - (more : Int)) := by
 unfold moreE at h
 split at h
 ·rename_i hc
  rcases List.mem_cons.1 h with e | e
  ·exact Or.inr ⟨e,hc⟩
  ·exact Or.inl (by simpa using e)
 ·exact Or.inl (by simpa using h)
theorem moreL_mem {more : Nat} {l : List En} {y : En} : y ∈ moreL more l ↔ ∃ x ∈ l, y ∈ moreE more x := by
 unfold moreL
 rw [List.mem_flatMap]
 simp
theorem moreL_self {more : Nat} {l : List En} {x : En} (h : x ∈ l) : x ∈ moreL more l := moreL_mem.2 ⟨x, h, moreE_self more x⟩
theorem sort_more (more : Nat) (l : List En) : sortS (moreL more l) = sortS l := by
 refine (IsSort.unique (l:=l) ⟨(sortS_spec (moreL more l)).1,fun y => ?_⟩ (sortS_spec l))
 rw [(sortS_spec (moreL more l)).2 y]
 constructor
 ·rintro ⟨h1,h2⟩
  obtain ⟨x,hx,hy⟩:=moreL_mem.1 h1
  have hyx : y = x:=by
   rcases moreE_of hy with e | ⟨e,_⟩
   ·exact e
   ·have h3:=h2 x (moreL_self hx) (by rw [e];exact ⟨rfl,rfl,rfl,rfl⟩)
    rw [e] at h3
    simp only at h3
    have h4 : (more : Int) = 0:=by omega
    rw [e,h4]
    simp
  rw [hyx] at h2 ⊢
  exact ⟨hx,fun z hz hk => h2 z (moreL_self hz) hk⟩
 ·rintro ⟨h1,h2⟩
  refine ⟨moreL_self h1,fun z hz hk => ?_⟩
  obtain ⟨x,hx,hzx⟩:=moreL_mem.1 hz
  rcases moreE_of hzx with e | ⟨e,_⟩
  ·rw [e] at hk ⊢
   exact h2 x hx hk
  ·rw [e] at hk ⊢
   have:=h2 x hx hk
   simp only
   omega
theorem firstE_all {n : Int} : ∀ {l : List En}, (∀ x ∈ l, checkE x n = 0) → firstE n l = 0
 | [],_ => rfl
 | x :: l,h => by
  unfold firstE
  rw [if_pos (h x (by simp))]
  exact firstE_all fun y hy => h y (by simp [hy])
theorem checkE_cost {x : En} {n c : Int} (h : checkE x n = 0) (h0 : 0 ≤ c) (h1 : c ≤ 30000) : checkE { x with c := c } n = 0 := by
 have hn:=checkE_nums h
 unfold checkE checkS at *
 simp only at *
 split at h
 ·rename_i hb
  rw [if_pos hb]
  split at h
  ·cases h
  ·rename_i h2
   rw [if_neg h2]
   split at h
   ·cases h
   ·rw [if_neg (by omega)]
 ·cases h
theorem chkB_more {p : List PosV} {m : Option Mx} {l : List En} (more : Nat) (hl : l.length ≤ 150) : chkB p m (moreL more l) = 0 ↔ chkB p m l = 0 := by
 have hlen : (moreL more l).length ≤ 300:=by
  have key : ∀ l : List En,(l.flatMap (moreE more)).length ≤ l.length * 2:=fun l => by
   induction l with
   | nil => simp
   | cons x l ih =>
    rw [List.flatMap_cons,List.length_append,List.length_cons]
    have : (moreE more x).length ≤ 2:=by unfold moreE;split <;> simp
    omega
  have:=key l.reverse
  rw [List.length_reverse] at this
  unfold moreL
  omega
 have hf : ∀ n,firstE n (moreL more l) = 0 ↔ firstE n l = 0:=fun n => by
  constructor
  ·intro h
   exact firstE_all fun x hx => firstE_zero h x (moreL_self hx)
  ·intro h
   refine firstE_all fun y hy => ?_
   obtain ⟨x,hx,hyx⟩:=moreL_mem.1 hy
   have h0:=firstE_zero h x hx
   rcases moreE_of hyx with e | ⟨e,h1,h2⟩
   ·rw [e];exact h0
   ·rw [e];exact checkE_cost h0 (by omega) (by omega)
 unfold chkB
 split
 ·exact Iff.rfl
 ·cases m with
  | none => exact Iff.rfl
  | some m =>
   simp only
   split
   ·rw [if_neg (by omega),if_neg (by omega)]
    exact hf _
   ·exact Iff.rfl
/-- What builder.Build answers stays. -/
theorem buildB_more {p : List PosV} {m : Option Mx} {l : List En} (more : Nat) (hl : l.length ≤ 150) (h : (buildB p m l).1 = 0) : buildB p m (moreL more l) = buildB p m l := by
 unfold buildB at h ⊢
 by_cases hc : chkB p m l = 0
 ·rw [if_pos hc] at h ⊢
  rw [if_pos ((chkB_more more hl).2 hc),sort_more]
 ·rw [if_neg hc] at h
  exact absurd h hc
theorem buildB_more_bad {p : List PosV} {m : Option Mx} {l : List En} (more : Nat) (hl : l.length ≤ 150) (h : (buildB p m l).1 ≠ 0) : (buildB p m (moreL more l)).1 ≠ 0 ∧ (buildB p m (moreL more l)).2 = [] := by
 unfold buildB at h ⊢
 by_cases hc : chkB p m l = 0
 ·rw [if_pos hc] at h
  rw [if_pos ((chkB_more more hl).2 hc),sort_more]
  cases m with
  | none => exact absurd rfl h
  | some m =>
   simp only at h ⊢
   split
   ·rename_i h1
    rw [if_pos h1] at h
    split
    ·rename_i h2
     rw [if_pos h2] at h
     exact absurd rfl h
    ·rename_i h2
     exact ⟨by simpa using h2,rfl⟩
   ·exact ⟨by simp,rfl⟩
 ·rw [if_neg (fun e => hc ((chkB_more more hl).1 e))]
  exact ⟨fun e => hc ((chkB_more more hl).1 e),rfl⟩
end Go.Proofs.YtepoiefadjoabaaGreatDoor
namespace Go.Proofs.YtepoiefadjoabaaGreatDoor
open Go Go.RowKit Go.Shelf
attribute [local go_sem] quietE quietE2
/-- The second source while it is filled. -/
structure TR (tb : Nat) (w2 : World) (c0 c1 c2 : Value) (W : World) (v : Value) (L : List En) : Prop where
 t : TB W tb #[c0,c1,c2,v] 26
 own : Owns W (tb + 1) 38 5 enCells v L
 g : Grows w2 W
 sz : w2.heap.size = tb
theorem TR.gr {tb : Nat} {w2 W W' : World} {c0 c1 c2 v : Value} {L : List En} (h : TR tb w2 c0 c1 c2 W v L) (hg : Grows W W') : TR tb w2 c0 c1 c2 W' v L :=
 ⟨h.t.gr hg,h.own.grows hg,Grows.trans _ _ _ h.g hg,h.sz⟩
theorem TR.mid {tb : Nat} {w2 W w5 : World} {c0 c1 c2 v v5 : Value} {L : List En} {y : En} (h : TR tb w2 c0 c1 c2 W v L) (_hown : Owns w5 (tb + 1) 38 5 enCells v5 (L ++ [y]))
  (hk : W.grownBy w5 v.ownBlock) : TB w5 tb #[c0,c1,c2,v] 26:=h.t.keep hk (RT.own h.own) (by decide)
theorem TR.push {tb : Nat} {w2 W w5 : World} {c0 c1 c2 v v5 : Value} {L : List En} {y : En} (h : TR tb w2 c0 c1 c2 W v L) (hown : Owns w5 (tb + 1) 38 5 enCells v5 (L ++ [y]))
  (hk : W.grownBy w5 v.ownBlock) (hg : ∀ a0,Grows a0 W → a0.heap.size ≤ tb + 1 → Grows a0 w5) : TR tb w2 c0 c1 c2 (w5.setCell ⟨tb,3,none⟩ v5) v5 (L ++ [y]) where
 t:=(h.mid hown hk).set 3 v5
 own:=owns_setLo hown (by show tb < tb + 1;omega) v5
 g:=(hg w2 h.g (by rw [h.sz];omega)).set (by show _ ≤ tb;rw [h.sz];omega) v5
 sz:=h.sz

theorem at_new5 (V : World) (x : En) : AtCells (V.alloc (.cells #[.string x.r, .string x.s, .int .i64 x.l, .int .i64 x.t, .int .i64 x.c] 38)).drew (some ⟨V.heap.size, 0, none⟩) 5 ([x].map enCells) := by
 refine AtCells.grows (w:=V.alloc (.cells #[.string x.r,.string x.s,.int .i64 x.l,.int .i64 x.t,.int .i64 x.c] 38)) ?_ (Grows.drew _)
 exact fun _ => ⟨V.heap.size,0,rfl,fun i row hi j u hj => by
  match i,hi with
  | 0,hi =>
   obtain rfl:=Option.some.inj hi
   simpa using cell_box V #[.string x.r,.string x.s,.int .i64 x.l,.int .i64 x.t,.int .i64 x.c] 38 (0,0) j u (by simpa [enCells] using hj)⟩
theorem more_len (more : Nat) (l : List En) : (l.flatMap (moreE more)).length ≤ 2 * l.length := by
 induction l with
 | nil => simp
 | cons x l ih =>
  rw [List.flatMap_cons,List.length_append,List.length_cons]
  have : (moreE more x).length ≤ 2:=by unfold moreE;split <;> simp
  omega
theorem more_srcok {x : SrcV} {more : Nat} (h : SrcOK x) (hl : x.e.length ≤ 150) : SrcOK ⟨x.p, x.d, x.s, moreL more x.e⟩ where
 p:=h.p
 s:=h.s
 d:=h.d
 lp:=h.lp
 ls:=h.ls
 le:=by
  have h1:=more_len more x.e.reverse
  rw [List.length_reverse] at h1
  show (moreL more x.e).length ≤ _
  unfold moreL
  omega
 e:=fun y hy => by
  obtain ⟨z,hz,hyz⟩:=moreL_mem.1 hy
  have h0:=h.e z hz
  rcases moreE_of hyz with e | ⟨e,h1,h2⟩
  ·rw [e];exact h0
  ·rw [e]
   refine ⟨h0.r,h0.s,h0.l,h0.t, ?_⟩
   show (Lit.int .i64 (z.c + more)).wf = true
   have hb1 : 0 ≤ z.c + (more : Int):=by omega
   have hb2 : z.c + (more : Int) ≤ 30000:=by omega
   generalize z.c + (more : Int) = q at hb1 hb2
   simp [Lit.wf,IntKind.min,IntKind.max,IntKind.bits,IntKind.signed]
   omega
set_option maxHeartbeats 8000000 in
set_option maxRecDepth 100000 in
theorem order_of (HW : ∀ W, Env W → Calls Tryz.prog 12 #[] W fun e w' => e = .returned (.bool true) ∧ Grows W w')
  (x : SrcV) (more : Nat) (A : SrcA) (w : World) (hm : more ≤ 255) (he : Env w) (hok : SrcOK x) (hat : SrcAt w A x) :
  Calls Tryz.prog 5 #[A.agg x,.int .u8 more] w fun e w' => e = .returned (.bool true)∧Grows w w':=by
 have hok0:=Lib.hid hok
 obtain ⟨pa,pc,sa,sc,ea,ec⟩:=A
 obtain ⟨xp,xd,xs,xe⟩:=x
 obtain ⟨W0,hW0⟩ : ∃ W0,W0 = w.alloc (.cells #[.slice pa xp.length pc,.int .i64 xd,.slice sa xs.length sc,.slice ea xe.length ec] 26):=⟨_,rfl⟩
 have hg0 : Grows w W0:=by rw [hW0];exact Grows.alloc _ _
 have hbx:=fun j u h => cell_box w #[.slice pa xp.length pc,.int .i64 xd,.slice sa xs.length sc,.slice ea xe.length ec] 26 (0,0) j u h
 rw [← hW0] at hbx
 have q0:=hbx 0 _ rfl
 have q1:=hbx 1 _ rfl
 have q2:=hbx 2 _ rfl
 have q3:=hbx 3 _ rfl
 have HQ:=Lib.hid (And.intro q0 (And.intro q1 (And.intro q2 q3)))
 have HSA:=Lib.hid (hat.grows hg0)
 have HG0:=Lib.hid hg0
 clear hbx
 have HE:=Lib.hid he
 have CW:=fun W (h : Grows w W) => Lib.hid (HW W (he.grows h))
 have CL:=Lib.hid (light_any ⟨xp,xd,xs,xe⟩ ⟨pa,pc,sa,sc,ea,ec⟩ W0 hok0.out HSA.out)
 unfold SrcA.agg SrcA.cells at CL
 simp only at CL
 show Calls _ _ #[.agg #[.slice pa xp.length pc,.int .i64 xd,.slice sa xs.length sc,.slice ea xe.length ec],.int .u8 more] _ _
 cases hl : lightS ⟨xp,xd,xs,xe⟩ with
 | false =>
  rw [hl] at CL
  go_enter Tryz.func5,Tryz.ntmps5
  go_wp2_with fail
  rw [← hW0]
  clear hW0
  refine CL.out.mono ?_
  rintro e w1 ⟨rfl,hg1⟩
  go_wp2
  go_ret
  exact ⟨rfl,Grows.trans _ _ _ HG0.out hg1⟩
 | true =>
  rw [hl] at CL
  by_cases h150 : 150 < xe.length
  ·have h150i : (150 : Int) < xe.length:=by omega
   go_enter Tryz.func5,Tryz.ntmps5
   go_wp2_with fail
   rw [← hW0]
   clear hW0
   refine CL.out.mono ?_
   rintro e w1 ⟨rfl,hg1⟩
   have q3':=hg1.cell HQ.out.2.2.2
   go_wp2
   go_ret
   exact ⟨rfl,Grows.trans _ _ _ HG0.out hg1⟩
  ·have h150i : ¬ (150 : Int) < xe.length:=by omega
   obtain ⟨_,hB2,_⟩:=srcB hl hok0.out
   have HB2 : Hid (∀ y ∈ xe,y.r.size ≤ 1099511627776∧y.s.size ≤ 1099511627776):=hB2
   have CI:=fun (W : World) (h : Grows W0 W) => Lib.hid (image_any ⟨xp,xd,xs,xe⟩ ⟨pa,pc,sa,sc,ea,ec⟩ W (HE.out.grows (Grows.trans _ _ _ HG0.out h)) hok0.out HB2.out (HSA.out.grows h))
   unfold SrcA.agg SrcA.cells at CI
   simp only at CI
   clear hB2 hl hat hok he hg0
   go_enter Tryz.func5,Tryz.ntmps5
   go_wp2_with fail
   rw [← hW0]
   clear hW0
   refine CL.out.mono ?_
   rintro e w1 ⟨rfl,hg1⟩
   clear CL q0 q1 q2 q3
   have q0:=hg1.cell HQ.out.1
   have q1:=hg1.cell HQ.out.2.1
   have q2:=hg1.cell HQ.out.2.2.1
   have q3:=hg1.cell HQ.out.2.2.2
   go_wp2_with fail
   refine (CI w1 hg1).out.mono ?_
   rintro e w2 ⟨hg2,v2,rfl,hv2⟩
   have hgw2:=Grows.trans _ _ _ hg1 hg2
   clear q0 q1 q2 q3
   have q0:=hgw2.cell HQ.out.1
   have q1:=hgw2.cell HQ.out.2.1
   have q2:=hgw2.cell HQ.out.2.2.1
   have q3:=hgw2.cell HQ.out.2.2.2
   have hbl:=World.block_lt_of_cell? w2 _ q3
   have q3a:=(Grows.alloc w2 (.cells #[.slice pa xp.length pc,.int .i64 xd,.slice sa xs.length sc,.slice ea xe.length ec] 26)).cell q3
   go_wp2_with fail
   obtain ⟨tb,htb⟩ : ∃ q,q = w2.heap.size:=⟨_,rfl⟩
   obtain ⟨W3,hW3⟩ : ∃ W,W = w2.alloc (.cells #[.slice pa xp.length pc,.int .i64 xd,.slice sa xs.length sc,.slice none 0 0] 26):=⟨_,rfl⟩
   have hg3 : Grows w2 W3:=by rw [hW3];exact Grows.alloc _ _
   have hsz3 : W3.heap.size = tb + 1:=by rw [hW3,htb];simp
   have hTR0 : TR tb w2 (.slice pa xp.length pc) (.int .i64 xd) (.slice sa xs.length sc) W3 (.slice none 0 0) []:=⟨by rw [htb,hW3];exact TB.alloc _ _ _,Owns.nil _ _ _ _ _,hg3,htb.symm⟩
   rw [← hW3,← htb]
   have HTB:=Lib.hid htb
   have HV2:=Lib.hid hv2
   have HG2:=Lib.hid hgw2
   have HEA : Hid (AtCells W0 ea 5 (xe.map enCells)):=HSA.out.e
   obtain ⟨n,hn⟩ : ∃ n,n = xe.length:=⟨_,rfl⟩
   have HN:=Lib.hid hn
   rw [← hn] at h150 h150i ⊢
   have HOK : Hid (∀ y ∈ xe,EnOK y):=hok0.out.e
   have HSB : Hid (w.heap.size < w2.heap.size):=hbl
   clear hW3 htb hv2 hbl q0 q1 q2 q3 q3a hg1 hg2 hn hgw2 hg3
   go_loopw [8] (fun i wr => ∃ j : Nat,j ≤ n∧i = .int .i64 ((n : Int) - 1 - j)∧∃ v,TR tb w2 (.slice pa xp.length pc) (.int .i64 xd) (.slice sa xs.length sc) wr v ((xe.reverse.take j).flatMap (moreE more))) (fun i _ => ((intOf i) + 1).toNat)
   case atStart => exact ⟨0,Nat.zero_le _,by simp,_,hTR0⟩
   case round =>
    clear hTR0
    obtain ⟨j,hj,rfl,v,hT⟩:=hrel
    by_cases hlt : j < n
    ·obtain ⟨p,hp⟩ : ∃ p,p = n - 1 - j:=⟨_,rfl⟩
     have ep : (n : Int) - 1 - j = p:=by omega
     rw [ep]
     have hpn : p < n:=by omega
     have hpi : (p : Int) < n:=by omega
     have hpx : (p : Int) < xe.length:=by rw [← HN.out];exact hpi
     obtain ⟨⟨xr,xu,xl,xt,xc⟩,hs⟩ : ∃ s,xe[p]? = some s:=⟨_,List.getElem?_eq_getElem (by rw [← HN.out];exact hpn)⟩
     have hxok:=HOK.out _ (List.mem_of_getElem? hs)
     obtain ⟨lb,lo,rfl,hcl⟩:=HEA.out.get (ne_nil_of_lt (by rw [← HN.out];exact hpn))
     have HTK : Hid ((xe.reverse.take (j + 1)).flatMap (moreE more) = (xe.reverse.take j).flatMap (moreE more) ++ moreE more ⟨xr,xu,xl,xt,xc⟩):=by
      have : xe.reverse[j]? = some ⟨xr,xu,xl,xt,xc⟩:=by
       rw [List.getElem?_reverse (by rw [← HN.out];exact hlt),← HN.out,← hp];exact hs
      show _ = _
      rw [List.take_add_one,this,List.flatMap_append]
      simp
     obtain ⟨lt,hlt2⟩ : ∃ l,l = (xe.reverse.take j).flatMap (moreE more):=⟨_,rfl⟩
     rw [← hlt2] at hT HTK
     have HLN : Hid (lt.length ≤ 300):=by
      have h1:=more_len more (xe.reverse.take j)
      have h2:=List.length_take_le j xe.reverse
      show _ ≤ _
      rw [hlt2]
      omega
     clear hlt2
     have HRO : ∀ (W : World),Grows W0 W → W.cell? ⟨lb,lo + p * 5,none⟩ = some (.string xr)∧W.cell? ⟨lb,lo + p * 5 + 1,none⟩ = some (.string xu)∧W.cell? ⟨lb,lo + p * 5 + 2,none⟩ = some (.int .i64 xl)∧W.cell? ⟨lb,lo + p * 5 + 3,none⟩ = some (.int .i64 xt)∧W.cell? ⟨lb,lo + p * 5 + 4,none⟩ = some (.int .i64 xc):=fun W h => And.intro (h.cell (hcl p _ hs 0 _ rfl)) (And.intro (h.cell (hcl p _ hs 1 _ rfl)) (And.intro (h.cell (hcl p _ hs 2 _ rfl)) (And.intro (h.cell (hcl p _ hs 3 _ rfl)) (h.cell (hcl p _ hs 4 _ rfl)))))
     replace HRO:=Lib.hid HRO
     have hgw:=Grows.trans _ _ _ HG2.out hT.g
     have q3:=hgw.cell HQ.out.2.2.2
     obtain ⟨y0,y1,y2,y3,y4⟩:=HRO.out _ hgw
     have HP:=Lib.hid hp
     clear hcl hs hp ep hgw
     have wm : IntKind.i64.wrap (more : Int) = more:=by simp [IntKind.wrap,IntKind.bits,IntKind.signed];omega
     have ws : IntKind.i64.wrap (30000 - (more : Int)) = 30000 - (more : Int):=by simp [IntKind.wrap,IntKind.bits,IntKind.signed];omega
     have hpl : w.heap.size < wr.heap.size:=Nat.lt_of_lt_of_le HSB.out hT.g.size
     by_cases hc1 : 0 ≤ xc
     ·by_cases hc2 : xc ≤ 30000 - (more : Int)
      ·have wa : IntKind.i64.wrap (xc + (more : Int)) = xc + (more : Int):=by simp [IntKind.wrap,IntKind.bits,IntKind.signed];omega
       have hTA:=hT.gr (Grows.alloc wr (.cells #[.string xr,.string xu,.int .i64 xl,.int .i64 xt,.int .i64 (xc + more)] 38))
       have qt:=hTA.t.cell (o:=3) rfl
       go_wp2_with (at_builtin;refine app_one5 entLay rfl _ _ rfl (tb + 1) v _ ⟨xr,xu,xl,xt,xc + more⟩ rfl hTA.own (Grows.refl _) _ 1 (by simp) #[.string xr,.string xu,.int .i64 xl,.int .i64 xt,.int .i64 (xc + more)] rfl rfl (by have:=HLN.out;omega) (by have:=hTA.t.lt;omega) ?_;intro v5 w5 hown5 hk5 _ hgg5;have hT5:=hTA.push hown5 hk5 hgg5;have tb5:=hTA.mid hown5 hk5;have c5:=tb5.cell (o:=3) rfl;have f5:=tb5.froz 3;obtain ⟨g5,p5,rfl⟩:=owns_snoc hown5)
       obtain ⟨v5,hv5⟩ : ∃ v,v = Value.slice (some ⟨g5,0,none⟩) (lt.length + 1) p5:=⟨_,rfl⟩
       rw [← hv5] at hT5 ⊢
       clear hv5 qt c5 f5 tb5 hown5
       obtain ⟨V,hV⟩ : ∃ V,V = w5.setCell ⟨tb,3,none⟩ v5:=⟨_,rfl⟩
       rw [← hV] at hT5 ⊢
       clear hV
       have HGV:=Grows.trans _ _ _ HG2.out hT5.g
       have z1 : ∀ x : Ext Grows V.drew,x.u.cell? ⟨tb,3,none⟩ = some v5:=ext_cell ((Grows.drew V).cell (hT5.t.cell rfl))
       have z3 : ∀ x : Ext Grows V.drew,x.u.cell? ⟨w.heap.size,3,none⟩ = some (.slice (some ⟨lb,lo,none⟩) xe.length ec):=ext_cell ((Grows.drew V).cell (HGV.cell HQ.out.2.2.2))
       obtain ⟨y0,y1,y2,y3,y4⟩:=HRO.out _ HGV.dr
       have e0:=fun x : Ext Grows V.drew => ext_cell y0 x
       have e1:=fun x : Ext Grows V.drew => ext_cell y1 x
       have e2:=fun x : Ext Grows V.drew => ext_cell y2 x
       have e3:=fun x : Ext Grows V.drew => ext_cell y3 x
       have e4:=fun x : Ext Grows V.drew => ext_cell y4 x
       clear y0 y1 y2 y3 y4
       refine t_tail (Grows) 8 [(0,false),(1,false),(2,false),(3,false),(4,false),(5,false),(6,false),(7,true)] Grows.refl Grows.trans (by kernel_rfl) (by kernel_rfl) (fun d _ _ _ _ h => by cases d <;> exact h) ?_
       iterate 7 (refine t_quiet rfl (fun K hK => ?_);go_simp;refine hK _ ?_;clear hK K)
       refine t_late rfl rfl (fun K hK => ?_)
       go_simp
       refine ⟨Grows.alloc _ _,hK _ _ ?_⟩
       clear hK K z1 z3 e0 e1 e2 e3 e4
       refine t_end ?_
       simp only [List.drop_succ_cons,List.drop_zero]
       have hTB:=hT5.gr (Grows.alloc V (.cells #[.string xr,.string xu,.int .i64 xl,.int .i64 xt,.int .i64 xc] 38)).dr
       have hnew : AtCells (V.alloc (.cells #[.string xr,.string xu,.int .i64 xl,.int .i64 xt,.int .i64 xc] 38)).drew (some ⟨V.heap.size,0,none⟩) 5 ([(⟨xr,xu,xl,xt,xc⟩ : En)].map enCells):=at_new5 V ⟨xr,xu,xl,xt,xc⟩
       obtain ⟨V2,hV2⟩ : ∃ W,W = (V.alloc (.cells #[.string xr,.string xu,.int .i64 xl,.int .i64 xt,.int .i64 xc] 38)).drew:=⟨_,rfl⟩
       rw [← hV2] at hTB hnew ⊢
       clear hV2 hT5
       go_wp2_with (at_builtin;refine app_many5 entLay rfl _ _ rfl (tb + 1) v5 _ [⟨xr,xu,xl,xt,xc⟩] rfl hTB.own (Grows.refl _) _ 1 rfl hnew (fun h => by cases h) (by have:=HLN.out;simp only [List.length_append,List.length_singleton];omega) (by have:=hTB.t.lt;omega) ?_;intro v6 w6 hown6 hk6 _ hgg6;have hT6:=hTB.push hown6 hk6 hgg6;have tb6:=hTB.mid hown6 hk6;have c6:=tb6.cell (o:=3) rfl;have f6:=tb6.froz 3;obtain ⟨g6,p6,hv6⟩:=owns_snoc hown6;rw [List.length_append,List.length_singleton] at hv6;subst hv6)
       go_roundw
       case rel =>
        refine ⟨j + 1,hlt,by have:=HP.out;simp only [Value.int.injEq,true_and];omega,.slice (some ⟨g6,0,none⟩) (lt.length + 1 + 1) p6, ?_⟩
        rw [HTK.out]
        have hme : moreE more ⟨xr,xu,xl,xt,xc⟩ = [⟨xr,xu,xl,xt,xc + more⟩,⟨xr,xu,xl,xt,xc⟩]:=if_pos ⟨hc1,hc2⟩
        rw [hme]
        rw [List.append_assoc] at hT6
        exact hT6
       case measure => have:=HP.out;simp [intOf] <;> omega
      ·have hTA:=hT.gr (Grows.alloc wr (.cells #[.string xr,.string xu,.int .i64 xl,.int .i64 xt,.int .i64 xc] 38))
       go_wp2_with fail
       obtain ⟨V,hV⟩ : ∃ V,V = wr.alloc (.cells #[.string xr,.string xu,.int .i64 xl,.int .i64 xt,.int .i64 xc] 38):=⟨_,rfl⟩
       rw [← hV] at hTA ⊢
       clear hV
       have HGV:=Grows.trans _ _ _ HG2.out hTA.g
       have z1 : ∀ x : Ext Grows V.drew,x.u.cell? ⟨tb,3,none⟩ = some v:=ext_cell ((Grows.drew V).cell (hTA.t.cell rfl))
       have z3 : ∀ x : Ext Grows V.drew,x.u.cell? ⟨w.heap.size,3,none⟩ = some (.slice (some ⟨lb,lo,none⟩) xe.length ec):=ext_cell ((Grows.drew V).cell (HGV.cell HQ.out.2.2.2))
       obtain ⟨y0,y1,y2,y3,y4⟩:=HRO.out _ HGV.dr
       have e0:=fun x : Ext Grows V.drew => ext_cell y0 x
       have e1:=fun x : Ext Grows V.drew => ext_cell y1 x
       have e2:=fun x : Ext Grows V.drew => ext_cell y2 x
       have e3:=fun x : Ext Grows V.drew => ext_cell y3 x
       have e4:=fun x : Ext Grows V.drew => ext_cell y4 x
       clear y0 y1 y2 y3 y4
       refine t_tail (Grows) 8 [(0,false),(1,false),(2,false),(3,false),(4,false),(5,false),(6,false),(7,true)] Grows.refl Grows.trans (by kernel_rfl) (by kernel_rfl) (fun d _ _ _ _ h => by cases d <;> exact h) ?_
       iterate 7 (refine t_quiet rfl (fun K hK => ?_);go_simp;refine hK _ ?_;clear hK K)
       refine t_late rfl rfl (fun K hK => ?_)
       go_simp
       refine ⟨Grows.alloc _ _,hK _ _ ?_⟩
       clear hK K z1 z3 e0 e1 e2 e3 e4
       refine t_end ?_
       simp only [List.drop_succ_cons,List.drop_zero]
       have hTB:=hTA.gr (Grows.alloc V (.cells #[.string xr,.string xu,.int .i64 xl,.int .i64 xt,.int .i64 xc] 38)).dr
       have hnew : AtCells (V.alloc (.cells #[.string xr,.string xu,.int .i64 xl,.int .i64 xt,.int .i64 xc] 38)).drew (some ⟨V.heap.size,0,none⟩) 5 ([(⟨xr,xu,xl,xt,xc⟩ : En)].map enCells):=at_new5 V ⟨xr,xu,xl,xt,xc⟩
       obtain ⟨V2,hV2⟩ : ∃ W,W = (V.alloc (.cells #[.string xr,.string xu,.int .i64 xl,.int .i64 xt,.int .i64 xc] 38)).drew:=⟨_,rfl⟩
       rw [← hV2] at hTB hnew ⊢
       clear hV2 hTA
       go_wp2_with (at_builtin;refine app_many5 entLay rfl _ _ rfl (tb + 1) v _ [⟨xr,xu,xl,xt,xc⟩] rfl hTB.own (Grows.refl _) _ 1 rfl hnew (fun h => by cases h) (by have:=HLN.out;simp only [List.length_singleton];omega) (by have:=hTB.t.lt;omega) ?_;intro v6 w6 hown6 hk6 _ hgg6;have hT6:=hTB.push hown6 hk6 hgg6;have tb6:=hTB.mid hown6 hk6;have c6:=tb6.cell (o:=3) rfl;have f6:=tb6.froz 3;obtain ⟨g6,p6,rfl⟩:=owns_snoc hown6)
       go_roundw
       case rel =>
        refine ⟨j + 1,hlt,by have:=HP.out;simp only [Value.int.injEq,true_and];omega,.slice (some ⟨g6,0,none⟩) (lt.length + 1) p6, ?_⟩
        rw [HTK.out]
        have hme : moreE more ⟨xr,xu,xl,xt,xc⟩ = [⟨xr,xu,xl,xt,xc⟩]:=if_neg (fun h => by have h1 : 0 ≤ xc:=h.1;have h2 : xc ≤ 30000 - (more : Int):=h.2;omega)
        rw [hme]
        skip
        exact hT6
       case measure => have:=HP.out;simp [intOf] <;> omega
     ·have hTA:=hT.gr (Grows.alloc wr (.cells #[.string xr,.string xu,.int .i64 xl,.int .i64 xt,.int .i64 xc] 38))
      go_wp2_with fail
      obtain ⟨V,hV⟩ : ∃ V,V = wr.alloc (.cells #[.string xr,.string xu,.int .i64 xl,.int .i64 xt,.int .i64 xc] 38):=⟨_,rfl⟩
      rw [← hV] at hTA ⊢
      clear hV
      have HGV:=Grows.trans _ _ _ HG2.out hTA.g
      have z1 : ∀ x : Ext Grows V.drew,x.u.cell? ⟨tb,3,none⟩ = some v:=ext_cell ((Grows.drew V).cell (hTA.t.cell rfl))
      have z3 : ∀ x : Ext Grows V.drew,x.u.cell? ⟨w.heap.size,3,none⟩ = some (.slice (some ⟨lb,lo,none⟩) xe.length ec):=ext_cell ((Grows.drew V).cell (HGV.cell HQ.out.2.2.2))
      obtain ⟨y0,y1,y2,y3,y4⟩:=HRO.out _ HGV.dr
      have e0:=fun x : Ext Grows V.drew => ext_cell y0 x
      have e1:=fun x : Ext Grows V.drew => ext_cell y1 x
      have e2:=fun x : Ext Grows V.drew => ext_cell y2 x
      have e3:=fun x : Ext Grows V.drew => ext_cell y3 x
      have e4:=fun x : Ext Grows V.drew => ext_cell y4 x
      clear y0 y1 y2 y3 y4
      refine t_tail (Grows) 8 [(0,false),(1,false),(2,false),(3,false),(4,false),(5,false),(6,false),(7,true)] Grows.refl Grows.trans (by kernel_rfl) (by kernel_rfl) (fun d _ _ _ _ h => by cases d <;> exact h) ?_
      iterate 7 (refine t_quiet rfl (fun K hK => ?_);go_simp;refine hK _ ?_;clear hK K)
      refine t_late rfl rfl (fun K hK => ?_)
      go_simp
      refine ⟨Grows.alloc _ _,hK _ _ ?_⟩
      clear hK K z1 z3 e0 e1 e2 e3 e4
      refine t_end ?_
      simp only [List.drop_succ_cons,List.drop_zero]
      have hTB:=hTA.gr (Grows.alloc V (.cells #[.string xr,.string xu,.int .i64 xl,.int .i64 xt,.int .i64 xc] 38)).dr
      have hnew : AtCells (V.alloc (.cells #[.string xr,.string xu,.int .i64 xl,.int .i64 xt,.int .i64 xc] 38)).drew (some ⟨V.heap.size,0,none⟩) 5 ([(⟨xr,xu,xl,xt,xc⟩ : En)].map enCells):=at_new5 V ⟨xr,xu,xl,xt,xc⟩
      obtain ⟨V2,hV2⟩ : ∃ W,W = (V.alloc (.cells #[.string xr,.string xu,.int .i64 xl,.int .i64 xt,.int .i64 xc] 38)).drew:=⟨_,rfl⟩
      rw [← hV2] at hTB hnew ⊢
      clear hV2 hTA
      go_wp2_with (at_builtin;refine app_many5 entLay rfl _ _ rfl (tb + 1) v _ [⟨xr,xu,xl,xt,xc⟩] rfl hTB.own (Grows.refl _) _ 1 rfl hnew (fun h => by cases h) (by have:=HLN.out;simp only [List.length_singleton];omega) (by have:=hTB.t.lt;omega) ?_;intro v6 w6 hown6 hk6 _ hgg6;have hT6:=hTB.push hown6 hk6 hgg6;have tb6:=hTB.mid hown6 hk6;have c6:=tb6.cell (o:=3) rfl;have f6:=tb6.froz 3;obtain ⟨g6,p6,rfl⟩:=owns_snoc hown6)
      go_roundw
      case rel =>
       refine ⟨j + 1,hlt,by have:=HP.out;simp only [Value.int.injEq,true_and];omega,.slice (some ⟨g6,0,none⟩) (lt.length + 1) p6, ?_⟩
       rw [HTK.out]
       have hme : moreE more ⟨xr,xu,xl,xt,xc⟩ = [⟨xr,xu,xl,xt,xc⟩]:=if_neg (fun h => by have h1 : 0 ≤ xc:=h.1;have h2 : xc ≤ 30000 - (more : Int):=h.2;omega)
       rw [hme]
       skip
       exact hT6
      case measure => have:=HP.out;simp [intOf] <;> omega
    ·obtain rfl : j = n:=by omega
     have hgw:=Grows.trans _ _ _ HG2.out hT.g
     have c0:=hT.t.cell (o:=0) rfl
     have c1:=hT.t.cell (o:=1) rfl
     have c2:=hT.t.cell (o:=2) rfl
     have c3:=hT.t.cell (o:=3) rfl
     have HTK : Hid ((xe.reverse.take j).flatMap (moreE more) = moreL more xe):=by
      show _ = _
      rw [HN.out,← List.length_reverse,List.take_length];rfl
     rw [HTK.out] at hT
     obtain ⟨ve,ce,hve,hle,_,hae⟩:=hT.own.at_ enCells_len
     subst hve
     have CI2:=Lib.hid (image_any ⟨xp,xd,xs,moreL more xe⟩ ⟨pa,pc,sa,sc,ve,ce⟩ wr (HE.out.grows (Grows.trans _ _ _ HG0.out hgw)) (more_srcok (x:=⟨xp,xd,xs,xe⟩) hok0.out (by show xe.length ≤ 150;rw [← HN.out];omega)) (fun y hy => by
      obtain ⟨x,hx,hyx⟩:=moreL_mem.1 hy
      have h0:=HB2.out x hx
      rcases moreE_of hyx with e | ⟨e,_,_⟩ <;> (rw [e];exact h0)) ⟨(HSA.out.grows hgw).p,(HSA.out.grows hgw).s,hae⟩)
     unfold SrcA.agg SrcA.cells at CI2
     simp only at CI2
     rw [show srcM ⟨xp,xd,xs,moreL more xe⟩ = srcM ⟨xp,xd,xs,xe⟩ from rfl] at CI2
     have hm0:=buildB_more (p:=xp) (m:=srcM ⟨xp,xd,xs,xe⟩) more (l:=xe) (by rw [← HN.out];omega)
     have hm1:=buildB_more_bad (p:=xp) (m:=srcM ⟨xp,xd,xs,xe⟩) more (l:=xe) (by rw [← HN.out];omega)
     unfold BuildPost at CI2
     obtain ⟨EB,hEB⟩ : ∃ b,b = buildB xp (srcM ⟨xp,xd,xs,xe⟩) xe:=⟨_,rfl⟩
     obtain ⟨FB,hFB⟩ : ∃ b,b = buildB xp (srcM ⟨xp,xd,xs,xe⟩) (moreL more xe):=⟨_,rfl⟩
     rw [← hFB] at CI2 hm0 hm1
     rw [← hEB] at HV2 hm0 hm1 ⊢
     clear hEB hFB
     obtain ⟨er,img⟩:=EB
     obtain ⟨fr,img2⟩:=FB
     simp only at hm0 hm1 CI2 HV2 ⊢
     obtain ⟨b2,d2,hv2,_,_,ha2⟩:=HV2.out.at_ byteLay.len
     subst hv2
     have HA2:=Lib.hid (ha2.grows hT.g)
     have CW7:=fun (W : World) (h : Grows wr W) => CW W (Grows.trans _ _ _ HG0.out (Grows.trans _ _ _ hgw h))
     have HGW:=Lib.hid hgw
     clear CI CW HV2 ha2 hae hT hgw HTK HEA HOK hok0 HQ HSA HB2 HE
     by_cases he0 : er = 0
     ·obtain ⟨rfl,rfl⟩ : fr = er∧img2 = img:=Prod.mk.inj (hm0 he0)
      subst he0
      clear hm0 hm1
      go_wp2_with fail
      refine CI2.out.mono ?_
      rintro e w7 ⟨hg7,v7,rfl,hv7⟩
      obtain ⟨b7,d7,rfl,_,_,ha7⟩:=hv7.at_ byteLay.len
      have c2 : (convert 28 9 (.slice b2 img2.length d2)).run Tryz.prog w7 = .ok (.string (mkB img2)) w7:=conv_at2 (HA2.out.grows hg7)
      have c7 : (convert 28 9 (.slice b7 img2.length d7)).run Tryz.prog w7 = .ok (.string (mkB img2)) w7:=conv_at2 ha7
      have e1 : ((mkB img2).toList == (mkB img2).toList) = true:=by simp
      have CW8:=CW7 w7 hg7
      go_wp2_with fail
      refine CW8.out.mono ?_
      rintro e w8 ⟨rfl,hg8⟩
      go_wp2
      go_ret
      exact ⟨rfl,Grows.trans _ _ _ HG0.out (Grows.trans _ _ _ HGW.out (Grows.trans _ _ _ hg7 hg8))⟩
     ·obtain ⟨hf0,rfl⟩:=hm1 he0
      have he1 : (er != 0) = true:=by simpa using he0
      have hf1 : (fr != 0) = true:=by simpa using hf0
      clear hm0 hm1
      go_wp2_with fail
      refine CI2.out.mono ?_
      rintro e w7 ⟨hg7,v7,rfl,hv7⟩
      obtain ⟨b7,d7,rfl,_,_,ha7⟩:=hv7.at_ byteLay.len
      have CW8:=CW7 w7 hg7
      go_wp2_with fail
      refine CW8.out.mono ?_
      rintro e w8 ⟨rfl,hg8⟩
      go_wp2
      go_ret
      exact ⟨rfl,Grows.trans _ _ _ HG0.out (Grows.trans _ _ _ HGW.out (Grows.trans _ _ _ hg7 hg8))⟩
theorem order_any (HW : ∀ W, Env W → Calls Tryz.prog 12 #[] W fun e w' => e = .returned (.bool true) ∧ Grows W w')
  (x : SrcV) (y : Int) (A : SrcA) (w : World) (he : Env w) (hok : SrcOK x) (hy : (Lit.int .u8 y).wf = true) (hat : SrcAt w A x) :
  Calls Tryz.prog 5 #[A.agg x,.int .u8 y] w fun e w' => e = .returned (.bool true)∧Grows w w':=by
 have h2 : 0 ≤ y∧y ≤ 255:=by
  simp [Lit.wf,IntKind.min,IntKind.max,IntKind.bits,IntKind.signed] at hy
  omega
 obtain ⟨m,rfl⟩ : ∃ m : Nat,y = m:=⟨y.toNat,by omega⟩
 exact order_of HW x m A w (by omega) he hok hat
end Go.Proofs.YtepoiefadjoabaaGreatDoor
