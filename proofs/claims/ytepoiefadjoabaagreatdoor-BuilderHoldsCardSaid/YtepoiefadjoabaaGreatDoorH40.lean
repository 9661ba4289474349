/- The texts SecS SplS, one behind the other. -/
import Derived.Test.YtepoiefadjoabaaGreatDoorH36
import Derived.Test.YtepoiefadjoabaaGreatDoorH7
import Derived.Test.YtepoiefadjoabaaGreatDoorH38
import Derived.Test.YtepoiefadjoabaaGreatDoorH39
import Derived.Test.YtepoiefadjoabaaGreatDoorH13
import Derived.Test.YtepoiefadjoabaaGreatDoorH35
import Derived.Test.YtepoiefadjoabaaGreatDoorH24
namespace Go.Proofs.YtepoiefadjoabaaGreatDoor
open Go Go.RowKit Go.Shelf
attribute [local go_sem] quietE quietE2
theorem partInfo : ∃ i, Tryz.prog.info? 92 = some i ∧ i.zero = some (.agg #[.string ⟨#[]⟩, .slice none 0 0]) ∧ i.size = 2 ∧ i.bytes = 40 := by
 have h : (Tryz.prog.info? 92).map (fun i => (i.zero,i.size,i.bytes)) = some (some (.agg #[.string ⟨#[]⟩,.slice none 0 0]),2,40):=by kernel_rfl
 cases hi : Tryz.prog.info? 92 with
 | none => rw [hi] at h;cases h
 | some i =>
  rw [hi] at h
  simp only [Option.map_some,Option.some.injEq,Prod.mk.injEq] at h
  exact ⟨i,rfl,h.1,h.2.1,h.2.2⟩
def part0 : PartV := ⟨⟨#[]⟩, [], none, 0⟩
theorem chk14_parts {P : List PartV} (h : chk14 P = 0) : P.length ≤ 64 ∧ sum14 P ≤ 16777216 ∧ ∀ p ∈ P, p.name.size ≤ 16 := by
 unfold chk14 at h
 split at h
 ·cases h
 ·split at h
  ·cases h
  ·rename_i h1 h2
   refine ⟨by omega,by omega,fun p hp => ?_⟩
   have h3 : ¬ (!azS p.name) = true:=fun e => h2 (List.any_eq_true.2 ⟨p,hp,e⟩)
   have h4 : azS p.name = true:=by simpa using h3
   unfold azS at h4
   simp only [Bool.and_eq_true,decide_eq_true_eq] at h4
   exact h4.1.2
theorem sum14_in {q : PartV} : ∀ {P : List PartV}, q ∈ P → q.data.length ≤ sum14 P
 | [],h => by cases h
 | x :: P,h => by
  unfold sum14
  rw [List.map_cons,List.sum_cons]
  rcases List.mem_cons.1 h with rfl | h
  ·omega
  ·have:=sum14_in h
   unfold sum14 at this
   omega
theorem head14_small : ∀ {P : List PartV}, (∀ p ∈ P, p.name.size ≤ 16) → (head14 P).length ≤ P.length * 36
 | [],_ => by simp [head14]
 | p :: P,h => by
  have h1:=head14_small (P:=P) fun q hq => h q (by simp [hq])
  have h2:=putS_len p.name
  have h3:=putU_len p.data.length
  have h4:=h p (by simp)
  unfold head14 at h1 ⊢
  rw [List.flatMap_cons,List.length_append,List.length_append,List.length_cons]
  omega
theorem data14_sum : ∀ P : List PartV, (data14 P).length = sum14 P
 | [] => rfl
 | p :: P => by
  have:=data14_sum P
  unfold data14 sum14 at *
  rw [List.flatMap_cons,List.length_append,this,List.map_cons,List.sum_cons]
theorem body14_small {P : List PartV} (h : chk14 P = 0) : (body14 P).length ≤ 16800000 := by
 obtain ⟨h1,h2,h3⟩:=chk14_parts h
 have h4:=head14_small h3
 have h5:=data14_sum P
 have h6:=putU_len P.length
 unfold body14
 simp only [List.length_append,List.length_cons,List.length_nil]
 omega
def flN (z : Nat → Value) (P : List PartV) (k j : Nat) : Value := if j % 2 = 0 ∧ j / 2 < k then .string (P.getD (j / 2) part0).name else z j
def fsN (z : Nat → Value) (P : List PartV) (k j : Nat) : Value := if j < k then .int .i64 ((P.getD j part0).data.length : Nat) else z j
def flD (z : Nat → Value) (P Q : List PartV) (j : Nat) : Value := if j % 2 = 0 then .string (P.getD (j / 2) part0).name else match Q[j / 2]? with | some q => .slice q.a q.data.length q.c | none => z j
theorem flN_step {z : Nat → Value} {P : List PartV} {k : Nat} {p : PartV} (hp : P[k]? = some p) (j : Nat) : (if j = k * 2 then Value.string p.name else flN z P k j) = flN z P (k + 1) j := by
 unfold flN
 by_cases h : j = k * 2
 ·subst h
  rw [if_pos rfl,if_pos ⟨by omega,by omega⟩,show k * 2 / 2 = k by omega,List.getD_eq_getElem?_getD,hp]
  rfl
 ·rw [if_neg h]
  by_cases h2 : j % 2 = 0∧j / 2 < k
  ·rw [if_pos h2,if_pos ⟨h2.1,by omega⟩]
  ·rw [if_neg h2,if_neg (by omega)]
theorem fsN_step {z : Nat → Value} {P : List PartV} {k : Nat} {p : PartV} (hp : P[k]? = some p) (j : Nat) : (if j = k then Value.int .i64 (p.data.length : Nat) else fsN z P k j) = fsN z P (k + 1) j := by
 unfold fsN
 by_cases h : j = k
 ·subst h
  rw [if_pos rfl,if_pos (by omega),List.getD_eq_getElem?_getD,hp]
  rfl
 ·rw [if_neg h]
  by_cases h3 : j < k
  ·rw [if_pos h3,if_pos (by omega)]
  ·rw [if_neg h3,if_neg (by omega)]
theorem fsN_at {z : Nat → Value} {P : List PartV} {k n : Nat} {p : PartV} (hp : P[k]? = some p) (hk : k < n) : fsN z P n k = .int .i64 (p.data.length : Nat) := by
 unfold fsN
 rw [if_pos hk,List.getD_eq_getElem?_getD,hp]
 rfl
theorem flN_flD (z : Nat → Value) (P : List PartV) (j : Nat) (hj : j < P.length * 2) : flN z P P.length j = flD z P [] j := by
 unfold flN flD
 by_cases h : j % 2 = 0
 ·rw [if_pos ⟨h,by omega⟩,if_pos h]
 ·rw [if_neg (fun e => h e.1),if_neg h];simp
theorem flD_step {z : Nat → Value} {P Q : List PartV} (q : PartV) (j : Nat) : (if j = Q.length * 2 + 1 then Value.slice q.a q.data.length q.c else flD z P Q j) = flD z P (Q ++ [q]) j := by
 unfold flD
 by_cases h : j = Q.length * 2 + 1
 ·subst h
  rw [if_pos rfl,if_neg (by omega),show (Q.length * 2 + 1) / 2 = Q.length by omega,List.getElem?_append_right (Nat.le_refl _),Nat.sub_self]
  rfl
 ·rw [if_neg h]
  by_cases h2 : j % 2 = 0
  ·rw [if_pos h2,if_pos h2]
  ·rw [if_neg h2,if_neg h2]
   rcases Nat.lt_trichotomy (j / 2) Q.length with h3 | h3 | h3
   ·rw [List.getElem?_append_left h3]
   ·omega
   ·rw [List.getElem?_eq_none (by omega),List.getElem?_eq_none (by simp;omega)]
theorem ownsRow_rowF {W : World} {base k g n c : Nat} {e : TypeId} {xs : List Value} (h : W.ownsRow base e k (.slice (some ⟨g, 0, none⟩) n c) n xs) : ∃ z, RowF W g (n * k) z := by
 rcases h.2 with ⟨h1,_⟩ | ⟨g',cap,cur,hv,hb,hh,hn,hc,hs,ht⟩
 ·cases h1
 ·have e1:=(Value.slice.inj hv).1
  obtain rfl : g = g':=congrArg Addr.block (Option.some.inj e1)
  refine ⟨fun j => cur.getD j undef,fun j hj => ?_,fun j => by simp [World.frozen?,hh],(Array.getElem?_eq_some_iff.1 hh).1⟩
  have hj2 : j < cur.size:=by rw [hs];exact Nat.lt_of_lt_of_le hj (Nat.mul_le_mul_right k hn)
  simp [World.cell?,hh,hj2]
structure ReadD (w : World) (B : Nat) (P Q : List PartV) : Prop where
 len : Q.length ≤ P.length
 bare : Q.map bare = (P.take Q.length).map bare
 at_ : ∀ q ∈ Q,AtCells w q.a 1 (q.data.map byteC)
 none_ : ∀ q ∈ Q,q.a = none → q.c = 0
 far : ∀ q ∈ Q,∀ r : Addr,q.a = some r → B < r.block
theorem ReadD.grows {w w' : World} {B : Nat} {P Q : List PartV} (h : ReadD w B P Q) (hg : Grows w w') : ReadD w' B P Q := ⟨h.len, h.bare, fun q hq => (h.at_ q hq).grows hg, h.none_, h.far⟩
theorem ReadD.set {w : World} {B : Nat} {P Q : List PartV} (h : ReadD w B P Q) {g i : Nat} (hg : g ≤ B) (v : Value) : ReadD (w.setCell ⟨g, i, none⟩ v) B P Q :=
 ⟨h.len,h.bare,fun q hq => at_keep (h.at_ q hq) ((Grows.refl w).grownBy_set g i v) (fun r hr e => by have:=h.far q hq r hr;have:=Option.some.inj e;omega),h.none_,h.far⟩
theorem rows_at {W : World} {lb : Nat} {P Q : List PartV} {z : Nat → Value} (h : RowF W lb (P.length * 2) (flD z P Q)) (hl : Q.length = P.length) (hb : Q.map bare = P.map bare) : AtCells W (some ⟨lb, 0, none⟩) 2 (Q.map partC) := fun _ => ⟨lb, 0, rfl, fun i row hi j u hj => by
 rw [List.getElem?_map] at hi
 cases hq : Q[i]? with
 | none => rw [hq] at hi;cases hi
 | some q =>
  rw [hq] at hi
  obtain rfl : partC q = row:=by simpa using hi
  have hiQ:=(List.getElem?_eq_some_iff.1 hq).1
  have hj2 : j < 2:=by have:=(List.getElem?_eq_some_iff.1 hj).1;simpa [partC] using this
  have hc:=h.cell (i * 2 + j) (by omega)
  rw [Nat.zero_add,hc]
  have hn : (P.getD i part0).name = q.name:=by
   have h1 : (Q.map bare)[i]? = some (bare q):=by rw [List.getElem?_map,hq];rfl
   rw [hb,List.getElem?_map] at h1
   cases hp : P[i]? with
   | none => rw [hp] at h1;cases h1
   | some p =>
    rw [hp] at h1
    have h2:=Option.some.inj h1
    rw [List.getD_eq_getElem?_getD,hp]
    have h3 : (bare p).name = (bare q).name:=by rw [h2]
    exact h3
  match j,hj2 with
  | 0,_ =>
   simp only [partC,List.getElem?_cons_zero,Option.some.injEq] at hj
   subst hj
   unfold flD
   rw [if_pos (by omega),show (i * 2 + 0) / 2 = i by omega,hn]
  | 1,_ =>
   simp only [partC,List.getElem?_cons_succ,List.getElem?_cons_zero,Option.some.injEq] at hj
   subst hj
   unfold flD
   rw [if_neg (by omega),show (i * 2 + 1) / 2 = i by omega,hq]⟩
theorem box1F {w W : World} {v : Value} {t : TypeId} (hg : Grows (w.alloc (.cells #[v] t)) W) : RowF W w.heap.size 1 (fun _ => v) := by
 obtain ⟨h1,h2⟩:=box_cells2 hg
 have h0 : ∀ j,j < 1 → (#[v] : Array Value)[j]? = some v:=fun j hj => by
  obtain rfl : j = 0:=by omega
  rfl
 exact ⟨fun j hj => h1 j _ (h0 j hj),h2,Nat.lt_of_lt_of_le (by simp) hg.size⟩
def SecPost (P : List PartV) (w : World) (e : Ending) (w' : World) : Prop :=
 Grows w w'∧∃ (Q : List PartV) (a : Option Addr) (c : Nat),e = .returned (.tuple #[.slice a Q.length c,.bool true])∧Q.map bare = P.map bare∧AtCells w' a 2 (Q.map partC)∧PartsAt w' Q
set_option maxHeartbeats 8000000 in
set_option maxRecDepth 100000 in
theorem sparts_any (P : List PartV) (ba : Option Addr) (bc : Nat) (w : World) (hchk : chk14 P = 0) (hbc : (body14 P).length ≤ bc) (_hbm : bc ≤ maxLen) (hnc : ba = none → bc = 0) (hat : AtCells w ba 1 ((body14 P).map byteC)) :
  Calls Tryz.prog 59 #[.slice ba (body14 P).length bc] w (SecPost P w):=by
 obtain ⟨h64,hsum,hname⟩:=chk14_parts hchk
 have hbl:=body14_small hchk
 have HNM:=Lib.hid hname
 have HSZ : Hid (∀ p ∈ P,p.data.length ≤ 16777216):=fun p hp => Nat.le_trans (sum14_in hp) hsum
 have HC0:=Lib.hid (rd_count (P:=P) (by omega))
 have HNA:=Lib.hid (fun i p (h : P[i]? = some p) => rd_name h (by have:=hname p (List.mem_of_getElem? h);omega))
 have HSI:=Lib.hid (fun i p (h : P[i]? = some p) => rd_size h (by have:=Nat.le_trans (sum14_in (List.mem_of_getElem? h)) hsum;omega))
 have HDA:=Lib.hid (fun i p (h : P[i]? = some p) => rd_data h)
 have HHZ:=Lib.hid (hposP_zero P)
 have HHL:=Lib.hid (fun i => hposP_le (P:=P) (i:=i))
 have HDL:=Lib.hid (fun i => dposP_le (P:=P) (i:=i))
 have HDE:=Lib.hid (dposP_end P)
 have HDZ:=Lib.hid (dposP_zero P)
 obtain ⟨b,hb⟩ : ∃ b,b = body14 P:=⟨_,rfl⟩
 rw [← hb] at HC0 HNA HSI HDA HHL HDL HDE hbl hbc hat ⊢
 obtain ⟨n,hn⟩ : ∃ n,n = P.length:=⟨_,rfl⟩
 rw [← hn] at HC0 HHZ HDE HDZ h64
 have HN:=Lib.hid hn
 have HAT:=Lib.hid hat
 have HNC:=Lib.hid hnc
 clear hat hb hname hsum hchk hnc hn
 -- the boxes
 obtain ⟨W1,hW1⟩ : ∃ W,W = ((w.alloc (.cells #[.slice ba b.length bc] 28)).alloc (.cells #[.int .i64 4] 3)).alloc (.cells #[.bool true] 4):=⟨_,rfl⟩
 have hg1 : Grows w W1:=by rw [hW1];exact ((Grows.alloc _ _).al _).al _
 obtain ⟨pb,hpb⟩ : ∃ q,q = w.heap.size:=⟨_,rfl⟩
 have hB1 : RowF W1 pb 1 (fun _ => .slice ba b.length bc):=by
  rw [hW1,hpb]
  exact box1F ((Grows.alloc _ _).al _)
 have hA1 : RowF W1 (pb + 1) 1 (fun _ => .int .i64 4):=by
  rw [hW1,hpb]
  have h:=box1F (w:=w.alloc (.cells #[.slice ba b.length bc] 28)) (v:=.int .i64 4) (t:=3) (W:=((w.alloc (.cells #[.slice ba b.length bc] 28)).alloc (.cells #[.int .i64 4] 3)).alloc (.cells #[.bool true] 4)) (Grows.alloc _ _)
  rw [show (w.alloc (.cells #[.slice ba b.length bc] 28)).heap.size = w.heap.size + 1 by simp] at h
  exact h
 have hO1 : RowF W1 (pb + 1 + 1) 1 (fun _ => .bool true):=by
  rw [hW1,hpb]
  have h:=box1F (w:=(w.alloc (.cells #[.slice ba b.length bc] 28)).alloc (.cells #[.int .i64 4] 3)) (v:=.bool true) (t:=4) (W:=((w.alloc (.cells #[.slice ba b.length bc] 28)).alloc (.cells #[.int .i64 4] 3)).alloc (.cells #[.bool true] 4)) (Grows.refl _)
  rw [show ((w.alloc (.cells #[.slice ba b.length bc] 28)).alloc (.cells #[.int .i64 4] 3)).heap.size = w.heap.size + 1 + 1 by simp] at h
  exact h
 have HG1:=Lib.hid hg1
 have HPB:=Lib.hid hpb
 have eg:=secn_eg
 have cb:=hB1.cell 0 (by decide)
 have ca:=hA1.cell 0 (by decide)
 have co:=hO1.cell 0 (by decide)
 have CN:=Lib.hid (secn_any b ba bc 4 n (putU n).length pb (pb + 1) (pb + 1 + 1) 64 W1 (by have:=HHL.out 0;have:=HHZ.out;omega) (by omega) (HAT.out.grows hg1) HC0.out h64 (by decide) cb ca co (hA1.froz 0))
 have hmk:=fun (Y : World) => mkInt n Y (by omega)
 obtain ⟨iu,hiu,hzu,hsu,hbu⟩:=partInfo
 clear hg1
 go_enter Tryz.func59,Tryz.ntmps59
 go_wp2_with fail
 rw [← hW1,← HPB.out]
 clear hW1 hpb cb ca co
 refine CN.out.mono ?_
 rintro e w3 ⟨rfl,w2,hg2,rfl⟩
 obtain ⟨k0,hk0⟩ : ∃ k,k = 4 + (putU n).length:=⟨_,rfl⟩
 rw [← hk0] at HHZ ⊢
 have hB2:=(hB1.grows hg2).other (b':=pb + 1) (j':=0) (by omega) (.int .i64 (k0 : Nat))
 have hO2:=(hO1.grows hg2).other (b':=pb + 1) (j':=0) (by omega) (.int .i64 (k0 : Nat))
 have hA2:=((hA1.grows hg2).set (k:=0) (by decide) (.int .i64 (k0 : Nat))).congr (g:=fun _ => .int .i64 (k0 : Nat)) (fun j hj => by rw [if_pos (by omega)])
 have hpl:=hO1.lt
 have hg3 : Grows w (w2.setCell ⟨pb + 1,0,none⟩ (.int .i64 (k0 : Nat))):=(Grows.trans _ _ _ HG1.out hg2).set (by rw [HPB.out];simp) _
 have hsz3 : pb + 1 + 1 < (w2.setCell ⟨pb + 1,0,none⟩ (.int .i64 (k0 : Nat))).heap.size:=by have:=hg2.size;simp;omega
 obtain ⟨W3,hW3⟩ : ∃ W,W = w2.setCell ⟨pb + 1,0,none⟩ (.int .i64 (k0 : Nat)):=⟨_,rfl⟩
 rw [← hW3] at hB2 hO2 hA2 hg3 hsz3 ⊢
 clear hW3 hB1 hA1 hO1 hg2 CN hk0
 obtain ⟨pa,hpa⟩ : ∃ q,q = pb + 1:=⟨_,rfl⟩
 obtain ⟨po,hpo⟩ : ∃ q,q = pb + 1 + 1:=⟨_,rfl⟩
 rw [← hpo] at hO2 hsz3 ⊢
 rw [← hpa] at hA2 ⊢
 have hlt1 : pb < pa:=by omega
 have hlt2 : pa < po:=by omega
 have HPA:=Lib.hid (And.intro hpa hpo)
 clear hpa hpo
 go_wp2_with (at_make;refine wpList_make_full _ rfl _ _ 47 rfl W3.heap.size 92 iu (.agg #[.string ⟨#[]⟩,.slice none 0 0]) 2 Tryz.underlying47 hiu hzu hsu .i64 .i64 _ _ n rfl rfl rfl rfl (by rw [hbu];omega) (by unfold maxLen;omega) (Nat.le_refl _) ?_;intro w4 hown4 hgr4)
 obtain ⟨lb,hlb⟩ : ∃ q,q = W3.heap.size:=⟨_,rfl⟩
 rw [← hlb] at hown4 ⊢
 obtain ⟨zl,hL4⟩:=ownsRow_rowF hown4
 have hg4 : Grows W3 w4:=(Grows.refl W3).grown hgr4 (fun q hq => by cases hq)
 have hmi:=madeInt (w:=w4) (n:=n) (by omega)
 obtain ⟨W5,hW5⟩ : ∃ W,W = w4.alloc (.cells (madeCells #[.int .i64 0] (n * 1)) 3):=⟨_,rfl⟩
 have hg5 : Grows w4 W5:=by rw [hW5];exact Grows.alloc _ _
 rw [← hW5] at hmi
 obtain ⟨sb,hsb⟩ : ∃ q,q = w4.heap.size:=⟨_,rfl⟩
 rw [← hsb] at hmi ⊢
 have hmi2 : W5.ownsRow sb 3 1 (.slice (some ⟨sb,0,none⟩) n n) n ((List.replicate n 0).flatMap natC):=by
  have:=hmi
  unfold Owns at this
  rwa [List.length_replicate] at this
 obtain ⟨zs,hS5⟩:=ownsRow_rowF hmi2
 rw [Nat.mul_one] at hS5
 have hL5:=hL4.grows hg5
 have hg35:=Grows.trans _ _ _ hg4 hg5
 have hB5:=hB2.grows hg35
 have hO5:=hO2.grows hg35
 have hA5:=hA2.grows hg35
 have hgw5:=Grows.trans _ _ _ hg3 hg35
 have hlt3 : po < lb:=by omega
 have hlt4 : lb < sb:=by rw [hsb];exact hL4.lt
 rw [Nat.mul_one] at hW5
 try rw [← hW5]
 have HG5:=Lib.hid hgw5
 clear hmi hmi2 hown4 hgr4 hL4 hg4 hg5 hg35 hB2 hO2 hA2 hg3 hgw5 hlb hsb hW5 hiu hzu hsu hbu hsz3 hpl
 go_loopw [9] (fun i wr => ∃ (k : Nat),k ≤ n∧i = .int .i64 k∧RowF wr pb 1 (fun _ => .slice ba b.length bc)∧RowF wr pa 1 (fun _ => .int .i64 (hposP P k : Nat))∧RowF wr po 1 (fun _ => .bool true)∧RowF wr lb (n * 2) (flN zl P k)∧RowF wr sb n (fsN zs P k)∧Grows w wr) (fun i _ => n - (intOf i).toNat)
 case atStart => exact ⟨0,Nat.zero_le _,rfl,hB5,by rw [HHZ.out];exact hA5,hO5,hL5.congr (fun j _ => by unfold flN;rw [if_neg (by omega)]),hS5.congr (fun j _ => by unfold fsN;rw [if_neg (by omega)]),HG5.out⟩
 case round =>
  clear hB5 hO5 hA5 hL5 hS5
  obtain ⟨k,hk,rfl,hB,hA,hO,hL,hS,hg⟩:=hrel
  by_cases hlt : k < n
  ·obtain ⟨p,hp⟩ : ∃ p,P[k]? = some p:=⟨_,List.getElem?_eq_getElem (by rw [← HN.out];exact hlt)⟩
   have hpm:=List.mem_of_getElem? hp
   have hz1:=HNM.out p hpm
   have hz2:=HSZ.out p hpm
   have hki : (k : Int) < n:=by omega
   have cb:=hB.cell 0 (by decide)
   have ca:=hA.cell 0 (by decide)
   have co:=hO.cell 0 (by decide)
   have CT:=Lib.hid (text_any12 b (hposP P k) ba bc wr (HHL.out k) (by omega) hbc HNC.out (HAT.out.grows hg))
   rw [HNA.out k p hp] at CT
   unfold textR at CT
   obtain ⟨K1,hK1⟩ : ∃ K,K = hposP P k + (putS p.name).length:=⟨_,rfl⟩
   have HR:=Lib.hid (HSI.out k p hp)
   have HSUC:=Lib.hid (hposP_succ hp)
   simp only [← hK1] at CT
   rw [← hK1] at HR HSUC
   have hK1b : K1 ≤ b.length:=by have:=HHL.out (k + 1);have:=HSUC.out;omega
   obtain ⟨kk,hkk⟩ : ∃ kk,kk = hposP P k:=⟨_,rfl⟩
   rw [← hkk] at CT ca
   have HKK:=Lib.hid hkk
   clear hK1 hkk hpm
   go_wp2_with fail
   refine CT.out.mono ?_
   rintro e w6 ⟨rfl,hg6⟩
   have hB6:=hB.grows hg6
   have hA6:=hA.grows hg6
   have hO6:=hO.grows hg6
   have hL6:=hL.grows hg6
   have hS6:=hS.grows hg6
   have cl:=hL6.cell (k * 2) (by omega)
   have fl:=hL6.froz (k * 2)
   have hL7:=(hL6.set (k:=k * 2) (by omega) (.string p.name)).congr (g:=fun j => if j = k * 2 then Value.string p.name else flN zl P k j) (fun j _ => rfl)
   have hA7:=hA6.other (b':=lb) (j':=k * 2) (by omega) (.string p.name)
   have ca7:=hA7.cell 0 (by decide)
   have fa7:=hA7.froz 0
   have hL8:=hL7.other (b':=pa) (j':=0) (by omega) (.int .i64 (K1 : Nat))
   have hA8:=(hA7.set (k:=0) (by decide) (.int .i64 (K1 : Nat))).congr (g:=fun _ => .int .i64 (K1 : Nat)) (fun j hj => by rw [if_pos (by omega)])
   have hB8:=(hB6.other (b':=lb) (j':=k * 2) (by omega) (.string p.name)).other (b':=pa) (j':=0) (by omega) (.int .i64 (K1 : Nat))
   have hO8:=(hO6.other (b':=lb) (j':=k * 2) (by omega) (.string p.name)).other (b':=pa) (j':=0) (by omega) (.int .i64 (K1 : Nat))
   have hS8:=(hS6.other (b':=lb) (j':=k * 2) (by omega) (.string p.name)).other (b':=pa) (j':=0) (by omega) (.int .i64 (K1 : Nat))
   have hwpa : w.heap.size ≤ pa:=by have:=HPA.out;have:=HPB.out;omega
   have hg8 : Grows w ((w6.setCell ⟨lb,k * 2,none⟩ (.string p.name)).setCell ⟨pa,0,none⟩ (.int .i64 (K1 : Nat))):=((Grows.trans _ _ _ hg hg6).set (by simp only;omega) _).set hwpa _
   obtain ⟨W8,hW8⟩ : ∃ W,W = (w6.setCell ⟨lb,k * 2,none⟩ (.string p.name)).setCell ⟨pa,0,none⟩ (.int .i64 (K1 : Nat)):=⟨_,rfl⟩
   rw [← hW8] at hL8 hA8 hB8 hO8 hS8 hg8
   clear hB hA hO hL hS hg cb ca co hB6 hA6 hO6 hL6 hS6 hL7 hA7 hg6
   go_wp2_with fail
   rw [← hW8]
   clear hW8 cl fl ca7 fa7
   have cb8:=hB8.cell 0 (by decide)
   have ca8:=hA8.cell 0 (by decide)
   have co8:=hO8.cell 0 (by decide)
   obtain ⟨SZ,hSZ⟩ : ∃ n,n = p.data.length:=⟨_,rfl⟩
   rw [← hSZ] at HR HSUC hz2
   have HSZ2:=Lib.hid hSZ
   refine (secn_any b ba bc K1 SZ (putU SZ).length pb pa po 16777216 W8 hK1b (by omega) (HAT.out.grows hg8) HR.out hz2 (by decide) cb8 ca8 co8 (hA8.froz 0)).mono ?_
   rintro e w10 ⟨rfl,w9,hg9,rfl⟩
   obtain ⟨K2,hK2⟩ : ∃ K,K = K1 + (putU SZ).length:=⟨_,rfl⟩
   rw [← hK2] at HSUC ⊢
   clear hK2 hSZ cb8 ca8 co8
   have hB9:=(hB8.grows hg9).other (b':=pa) (j':=0) (by omega) (.int .i64 (K2 : Nat))
   have hO9:=(hO8.grows hg9).other (b':=pa) (j':=0) (by omega) (.int .i64 (K2 : Nat))
   have hL9:=(hL8.grows hg9).other (b':=pa) (j':=0) (by omega) (.int .i64 (K2 : Nat))
   have hS9:=(hS8.grows hg9).other (b':=pa) (j':=0) (by omega) (.int .i64 (K2 : Nat))
   have hA9:=((hA8.grows hg9).set (k:=0) (by decide) (.int .i64 (K2 : Nat))).congr (g:=fun _ => .int .i64 (K2 : Nat)) (fun j hj => by rw [if_pos (by omega)])
   have hg10 : Grows w (w9.setCell ⟨pa,0,none⟩ (.int .i64 (K2 : Nat))):=(Grows.trans _ _ _ hg8 hg9).set hwpa _
   obtain ⟨W10,hW10⟩ : ∃ W,W = w9.setCell ⟨pa,0,none⟩ (.int .i64 (K2 : Nat)):=⟨_,rfl⟩
   rw [← hW10] at hB9 hO9 hL9 hS9 hA9 hg10 ⊢
   have cs:=hS9.cell k hlt
   have fs:=hS9.froz k
   have hS11:=(hS9.set hlt (.int .i64 (SZ : Nat))).congr (g:=fsN zs P (k + 1)) (fun j _ => by rw [HSZ2.out];exact fsN_step hp j)
   have hB11:=hB9.other (b':=sb) (j':=k) (by omega) (.int .i64 (SZ : Nat))
   have hO11:=hO9.other (b':=sb) (j':=k) (by omega) (.int .i64 (SZ : Nat))
   have hA11:=hA9.other (b':=sb) (j':=k) (by omega) (.int .i64 (SZ : Nat))
   have hL11:=(hL9.other (b':=sb) (j':=k) (by omega) (.int .i64 (SZ : Nat))).congr (g:=flN zl P (k + 1)) (fun j _ => flN_step hp j)
   have hg11:=hg10.set (p:=⟨sb,k,none⟩) (by simp only;omega) (.int .i64 (SZ : Nat))
   clear hB8 hO8 hL8 hS8 hA8 hg8 hg9 hB9 hO9 hL9 hS9 hA9 hg10 hW10 hp
   go_wp2_with fail
   go_roundw
   case rel => exact ⟨k + 1,hlt,by go_num,hB11,by rw [HSUC.out];exact hA11,hO11,hL11,hS11,hg11⟩
   case measure => simp [intOf];omega
  ·obtain rfl : n = k:=by omega
   have hL0 : RowF wr lb (n * 2) (flD zl P []):=hL.congr (fun j hj => by
    have h:=flN_flD zl P j (by rw [← HN.out];exact hj)
    rw [← HN.out] at h
    exact h)
   rw [← HDZ.out] at hA
   have HGR:=Lib.hid hg
   clear hL
   go_wp2_with fail
   go_loopw [53] (fun i wx => ∃ Q : List PartV,i = .int .i64 (Q.length : Nat)∧RowF wx pb 1 (fun _ => .slice ba b.length bc)∧RowF wx pa 1 (fun _ => .int .i64 (dposP P Q.length : Nat))∧RowF wx po 1 (fun _ => .bool true)∧RowF wx lb (n * 2) (flD zl P Q)∧RowF wx sb n (fsN zs P n)∧ReadD wx sb P Q∧Grows w wx) (fun i _ => n - (intOf i).toNat)
   case atStart => exact ⟨[],rfl,hB,hA,hO,hL0,hS,⟨Nat.zero_le _,rfl,fun q hq => by (cases hq),fun q hq => by (cases hq),fun q hq => by (cases hq)⟩,hg⟩
   case round =>
    clear hB hA hO hL0 hS hg
    obtain ⟨Q,rfl,hB,hA,hO,hL,hS,hQ,hg⟩:=hrel
    have hQn : Q.length ≤ n:=by rw [HN.out];exact hQ.len
    obtain ⟨k,hk⟩ : ∃ k,k = Q.length:=⟨_,rfl⟩
    have HKQ:=Lib.hid hk
    by_cases hlt : k < n
    ·obtain ⟨p,hp⟩ : ∃ p,P[k]? = some p:=⟨_,List.getElem?_eq_getElem (by rw [← HN.out];exact hlt)⟩
     have hz2:=HSZ.out p (List.mem_of_getElem? hp)
     have cs:=hS.cell k hlt
     rw [fsN_at hp hlt] at cs
     obtain ⟨D,hD⟩ : ∃ D,D = dposP P k:=⟨_,rfl⟩
     have HD:=Lib.hid hD
     have HDS:=Lib.hid (dposP_succ hp)
     have HDATA:=Lib.hid (HDA.out k p hp)
     have hDb : D + p.data.length ≤ b.length:=by rw [hD,← dposP_succ hp];exact HDL.out (k + 1)
     rw [← hk,← hD] at hA
     rw [← hD] at HDS HDATA
     obtain ⟨SZ,hSZ⟩ : ∃ n,n = p.data.length:=⟨_,rfl⟩
     rw [← hSZ] at cs hz2 hDb HDS HDATA
     have HSE:=Lib.hid hSZ
     have HP:=Lib.hid hp
     have hki : (k : Int) < n:=by omega
     have cb:=hB.cell 0 (by decide)
     have ca:=hA.cell 0 (by decide)
     have co:=hO.cell 0 (by decide)
     have wsub : IntKind.i64.wrap ((b.length : Int) - (D : Int)) = ((b.length - D : Nat) : Int):=by simp [IntKind.wrap,IntKind.bits,IntKind.signed];omega
     have hbi : ¬ ((b.length - D : Nat) : Int) < SZ:=by omega
     have wa : IntKind.i64.wrap ((D : Int) + SZ) = ((D + SZ : Nat) : Int):=by simp [IntKind.wrap,IntKind.bits,IntKind.signed];omega
     have h01 : (0 : Int) ≤ (D : Int) + SZ:=by omega
     have h02 : (D : Int) + SZ ≤ bc:=by omega
     have tn : ((D : Int) + SZ).toNat = D + SZ:=by omega
     have tk : D ≤ D + SZ:=by omega
     have tm : D + SZ - D = SZ:=by omega
     obtain ⟨a',hsl,hat',hna'⟩:=sliced_at (c:=bc) (l:=D) (h:=D + SZ) (k:=1) (HAT.out.grows hg) HNC.out (by omega) (by omega) (by omega)
     rw [tm] at hsl
     rw [HDATA.out] at hat'
     have hsl2 : (if bc = D then ba else Option.map (fun x => x.add D) ba) = a':=by
      unfold sliced at hsl
      by_cases hbk : bc = D
      ·rw [if_pos hbk] at hsl ⊢;exact (Value.slice.inj hsl).1
      ·rw [if_neg hbk] at hsl ⊢
       have:=(Value.slice.inj hsl).1
       rw [← this]
       congr 1
       funext x
       rw [Nat.mul_one]
     have CC:=Lib.hid (bclone_any p.data a' (bc - D) wr (by omega) hna' hat')
     rw [← hSZ] at CC
     rw [← hk]
     clear hD hSZ hp hsl hat' hna' hk
     go_wp2_with fail
     refine CC.out.mono ?_
     rintro e w6 ⟨v6,rfl,hv6,hg6⟩
     obtain ⟨qa,qc,rfl,hqat,hqn⟩:=own_part hv6
     have hfar : ∀ r : Addr,qa = some r → sb < r.block:=fun r hr => by
      have h1:=hS.lt
      rcases hv6.2 with ⟨e,_⟩ | ⟨g,cap,cur,e,hb9,_⟩
      ·rw [hr] at e;cases (Value.slice.inj e).1
      ·have e1:=(Value.slice.inj e).1
       rw [hr] at e1
       cases e1
       simp only
       omega
     have hB6:=hB.grows hg6
     have hA6:=hA.grows hg6
     have hO6:=hO.grows hg6
     have hL6:=hL.grows hg6
     have hS6:=hS.grows hg6
     have hQ6:=hQ.grows hg6
     rw [← HSE.out]
     have cl:=hL6.cell (k * 2 + 1) (by omega)
     have fl:=hL6.froz (k * 2 + 1)
     have ca6:=hA6.cell 0 (by decide)
     have hA7:=hA6.other (b':=lb) (j':=k * 2 + 1) (by omega) (.slice qa SZ qc)
     have ca7:=hA7.cell 0 (by decide)
     have fa7:=hA7.froz 0
     have hL7:=hL6.set (k:=k * 2 + 1) (by omega) (.slice qa SZ qc)
     have hwpa : w.heap.size ≤ pa:=by have:=HPA.out;have:=HPB.out;omega
     have hL8:=(hL7.other (b':=pa) (j':=0) (by omega) (.int .i64 ((D : Int) + SZ))).congr (g:=flD zl P (Q ++ [⟨p.name,p.data,qa,qc⟩])) (fun j _ => by
      rw [HKQ.out,HSE.out]
      exact flD_step ⟨p.name,p.data,qa,qc⟩ j)
     have hA8:=(hA7.set (k:=0) (by decide) (.int .i64 ((D : Int) + SZ))).congr (g:=fun _ => .int .i64 ((D + SZ : Nat) : Int)) (fun j hj => by rw [if_pos (by omega)];push_cast;rfl)
     have hB8:=(hB6.other (b':=lb) (j':=k * 2 + 1) (by omega) (.slice qa SZ qc)).other (b':=pa) (j':=0) (by omega) (.int .i64 ((D : Int) + SZ))
     have hO8:=(hO6.other (b':=lb) (j':=k * 2 + 1) (by omega) (.slice qa SZ qc)).other (b':=pa) (j':=0) (by omega) (.int .i64 ((D : Int) + SZ))
     have hS8:=(hS6.other (b':=lb) (j':=k * 2 + 1) (by omega) (.slice qa SZ qc)).other (b':=pa) (j':=0) (by omega) (.int .i64 ((D : Int) + SZ))
     have hQ8 : ReadD ((w6.setCell ⟨lb,k * 2 + 1,none⟩ (.slice qa SZ qc)).setCell ⟨pa,0,none⟩ (.int .i64 ((D : Int) + SZ))) sb P (Q ++ [⟨p.name,p.data,qa,qc⟩]):=by
      have h1 : ReadD w6 sb P (Q ++ [⟨p.name,p.data,qa,qc⟩]):=by
       refine ⟨by rw [List.length_append,List.length_singleton,← HKQ.out,← HN.out];omega, ?_,fun q hq => ?_,fun q hq => ?_,fun q hq => ?_⟩
       ·rw [List.length_append,List.length_singleton,List.take_add_one,← HKQ.out,HP.out,List.map_append,List.map_append]
        have:=hQ6.bare
        rw [← HKQ.out] at this
        rw [this]
        rfl
       ·rcases List.mem_append.1 hq with h | h
        ·exact hQ6.at_ q h
        ·rw [List.mem_singleton] at h;subst h;exact hqat
       ·rcases List.mem_append.1 hq with h | h
        ·exact hQ6.none_ q h
        ·rw [List.mem_singleton] at h;subst h;exact hqn
       ·rcases List.mem_append.1 hq with h | h
        ·exact hQ6.far q h
        ·rw [List.mem_singleton] at h;subst h;exact hfar
      exact (h1.set (by omega) _).set (by omega) _
     have hg8 : Grows w ((w6.setCell ⟨lb,k * 2 + 1,none⟩ (.slice qa SZ qc)).setCell ⟨pa,0,none⟩ (.int .i64 ((D : Int) + SZ))):=((Grows.trans _ _ _ hg hg6).set (by simp only;omega) _).set hwpa _
     have HLEN : Hid ((Q ++ [(⟨p.name,p.data,qa,qc⟩ : PartV)]).length = k + 1):=by show _ = _;rw [List.length_append,List.length_singleton,← HKQ.out]
     clear hB hA hO hL hS hQ hg cb ca co hB6 hA6 hO6 hL6 hS6 hQ6 hL7 hA7 hg6 hv6 hqat hqn hfar CC
     go_wp2_with fail
     go_roundw
     case rel => exact ⟨Q ++ [⟨p.name,p.data,qa,qc⟩],by rw [HLEN.out];go_num,hB8,by rw [HLEN.out,HDS.out];exact hA8,hO8,hL8,hS8,hQ8,hg8⟩
     case measure => simp [intOf];omega
    ·have hkn : k = n:=by omega
     rw [← hk,hkn,HDE.out] at hA
     have hQl : Q.length = P.length:=by rw [← HN.out];omega
     have hbr : Q.map bare = P.map bare:=by have:=hQ.bare;rw [hQl,List.take_length] at this;exact this
     have hin : ∀ q ∈ Q,∃ p ∈ P,q.name = p.name∧q.data = p.data:=fun q hq => by
      have h1 : bare q ∈ P.map bare:=by rw [← hbr];exact List.mem_map.2 ⟨q,hq,rfl⟩
      obtain ⟨p,hp,he⟩:=List.mem_map.1 h1
      have h2 : (bare p).name = (bare q).name:=by rw [he]
      have h3 : (bare p).data = (bare q).data:=by rw [he]
      exact ⟨p,hp,h2.symm,h3.symm⟩
     have HPOST : Hid (AtCells wr (some ⟨lb,0,none⟩) 2 (Q.map partC)∧PartsAt wr Q):=⟨rows_at (by rw [← HN.out];exact hL) hQl hbr,hQ.at_,hQ.none_,fun q hq => by
      obtain ⟨p,hp,h1,_⟩:=hin q hq
      rw [h1];exact Nat.le_trans (HNM.out p hp) (by decide),fun q hq => by
      obtain ⟨p,hp,_,h2⟩:=hin q hq
      rw [h2];exact Nat.le_trans (HSZ.out p hp) (by decide)⟩
     have HBR:=Lib.hid hbr
     have HQL:=Lib.hid hQl
     have z0 : ∀ x : Ext Grows wr.drew,x.u.cell? ⟨pb,0,none⟩ = some (.slice ba b.length bc):=ext_cell ((Grows.drew wr).cell (hB.cell 0 (by decide)))
     have z1 : ∀ x : Ext Grows wr.drew,x.u.cell? ⟨pa,0,none⟩ = some (.int .i64 (b.length : Nat)):=ext_cell ((Grows.drew wr).cell (hA.cell 0 (by decide)))
     have z2 : ∀ x : Ext Grows wr.drew,x.u.cell? ⟨po,0,none⟩ = some (.bool true):=ext_cell ((Grows.drew wr).cell (hO.cell 0 (by decide)))
     have hki : ¬ (k : Int) < n:=by omega
     have hkk : ((Q.length : Nat) : Int) = k:=by rw [hk]
     clear hB hA hO hL hS hQ hin hbr hQl
     rw [← hk]
     clear hk hkk
     go_wp2_with fail
     refine t_region (Grows) [(0,false),(1,false),(2,false),(3,false),(4,false),(5,false),(6,false),(7,false),(8,false),(9,false)] Grows.refl Grows.trans (by kernel_rfl) (by kernel_rfl) (fun d _ _ _ _ h => by cases d <;> exact h) ?_
     iterate 10 (refine t_quiet rfl (fun K hK => ?_);go_simp;refine hK _ ?_;clear hK K)
     refine t_end ?_
     go_wp2_with fail
     go_ret2
     refine ⟨hg.dr,Q,some ⟨lb,0,none⟩,n, ?_,HBR.out,HPOST.out.1.grows (Grows.drew wr),HPOST.out.2.grows (Grows.drew wr)⟩
     rw [HQL.out,← HN.out]
     rfl
end Go.Proofs.YtepoiefadjoabaaGreatDoor
namespace Go.Proofs.YtepoiefadjoabaaGreatDoor
open Go Go.RowKit Go.Shelf
attribute [local go_sem] quietE quietE2
def SplitPost (P : List PartV) (w : World) (e : Ending) (w' : World) : Prop :=
 Grows w w'∧∃ (Q : List PartV) (a : Option Addr) (c : Nat),e = .returned (.tuple #[.slice a Q.length c,.int .i64 0])∧Q.map bare = P.map bare∧AtCells w' a 2 (Q.map partC)∧PartsAt w' Q
set_option maxHeartbeats 8000000 in
set_option maxRecDepth 100000 in
theorem split_any14 (P : List PartV) (ba : Option Addr) (bc : Nat) (w : World) (he : Env w) (hchk : chk14 P = 0) (hbc : (file14 P).length ≤ bc) (hbm : bc ≤ maxLen) (hnc : ba = none → bc = 0) (hat : AtCells w ba 1 ((file14 P).map byteC)) :
  Calls Tryz.prog 17 #[.slice ba (file14 P).length bc] w (SplitPost P w):=by
 have hbl:=body14_small hchk
 obtain ⟨b,hb⟩ : ∃ b,b = file14 P:=⟨_,rfl⟩
 obtain ⟨bo,hbo⟩ : ∃ b,b = body14 P:=⟨_,rfl⟩
 have hbb : b = bo ++ leB 4 (crcSum bo):=by rw [hb,hbo];rfl
 have hlen : b.length = bo.length + 4:=by rw [hbb,List.length_append,leB_len]
 have h5 : 5 ≤ bo.length:=by
  have : 1 ≤ (putU P.length).length:=List.length_pos_iff.2 (putU_ne P.length)
  rw [hbo];unfold body14
  simp only [List.length_append,List.length_cons,List.length_nil]
  omega
 have hmag : (b.take 4).drop 0 = [72,78,75,49]:=by
  rw [hbb,hbo]
  unfold body14
  simp
 have hbod : (b.take bo.length).drop 0 = bo:=by rw [hbb];simp
 have hsum : (b.take b.length).drop bo.length = leB 4 (crcSum bo):=by rw [List.take_length,hbb];simp
 rw [← hb] at hbc hat ⊢
 rw [← hbo] at hbl
 have HAT:=Lib.hid hat
 have HNC:=Lib.hid hnc
 have HE:=Lib.hid he
 have HB:=Lib.hid hb
 have HBO:=Lib.hid hbo
 have HCHK:=Lib.hid hchk
 have HMAG:=Lib.hid hmag
 have HBOD:=Lib.hid hbod
 have HSUM:=Lib.hid hsum
 have HLEN:=Lib.hid hlen
 obtain ⟨m,hm⟩ : ∃ m,m = bo.length:=⟨_,rfl⟩
 rw [← hm] at hlen h5 hbl
 have HM:=Lib.hid hm
 obtain ⟨n,hn⟩ : ∃ n,n = b.length:=⟨_,rfl⟩
 rw [← hn] at hlen hbc ⊢
 have HN:=Lib.hid hn
 subst hlen
 have hcv : (convert 28 9 (.slice ba 4 bc)).run Tryz.prog w = .ok (.string ⟨#[72,78,75,49]⟩) w:=by
  have h:=conv_at2 (c:=bc) (at_take hat 4)
  rw [show b.take 4 = [72,78,75,49] by exact hmag] at h
  exact h
 have hatb : AtCells w ba 1 (bo.map byteC):=by
  have h:=at_take hat m
  rw [show b.take m = bo by rw [hm];exact hbod] at h
  exact h
 obtain ⟨a1,hv1,ha1,hn1⟩:=cut_val (l:=m) (h:=m + 4) hat hnc (by omega) (by rw [← HN.out];exact Nat.le_refl _) (by rw [← HN.out];exact hbc)
 rw [show (b.take (m + 4)).drop m = leB 4 (crcSum bo) by rw [HN.out,hm];exact hsum] at ha1
 have HA1:=Lib.hid ha1
 have HATB:=Lib.hid hatb
 have hn9 : ¬ ((m : Int) + 4 < 9):=by omega
 have h4a : (4 : Int) ≤ bc:=by omega
 have wsub : IntKind.i64.wrap ((m : Int) + 4 - 4) = (m : Int):=by simp [IntKind.wrap,IntKind.bits,IntKind.signed];omega
 have wm : IntKind.i64.wrap (m : Int) = (m : Int):=by simp [IntKind.wrap,IntKind.bits,IntKind.signed];omega
 have hm1 : (m : Int) ≤ bc:=by omega
 have hm2 : (m : Int) ≤ (m : Int) + 4:=by omega
 have CS:=fun (W : World) (h : Grows w W) => Lib.hid (sumBytes_any bo ba bc W (HE.out.grows h) (by rw [← HM.out];omega) (HATB.out.grows h))
 have CP:=fun (W : World) (h : Grows w W) => Lib.hid (sparts_any P ba bc W HCHK.out (by rw [← HBO.out,← HM.out];omega) hbm HNC.out (by rw [← HBO.out];exact HATB.out.grows h))
 rw [← HBO.out] at CP
 rw [← HM.out] at CS CP
 clear hat hnc he hb hbo hchk hmag hbod hsum hbb hm hn ha1 hatb
 go_enter Tryz.func17,Tryz.ntmps17
 have CE : ∀ (W : World) (s1 : Option Addr) (d1 : Nat),Grows w W → AtCells W s1 1 ((leB 4 (crcSum bo)).map byteC) → Hid (Calls Tryz.prog 57 #[.slice a1 4 (bc - m),.slice s1 4 d1] W fun e w' => e = .returned (.bool true)∧W = w'):=fun W s1 d1 hW h1 => by
  have h:=bequal_any (leB 4 (crcSum bo)) (leB 4 (crcSum bo)) a1 s1 (bc - m) d1 W (HA1.out.grows hW) h1
  rw [leB_len] at h
  simp only [decide_true] at h
  exact h
 have CE2 : ∀ (W : World) (s1 : Option Addr) (d1 : Nat),Grows w W → AtCells W s1 1 (b.map byteC) → Hid (Calls Tryz.prog 57 #[.slice s1 (m + 4) d1,.slice ba (m + 4) bc] W fun e w' => e = .returned (.bool true)∧W = w'):=fun W s1 d1 hW h1 => by
  have h:=bequal_any b b s1 ba d1 bc W h1 (HAT.out.grows hW)
  rw [← HN.out] at h
  simp only [decide_true] at h
  exact h
 go_wp2_with fail
 refine t_region (Grows) [(0,false),(1,false),(2,false),(3,false),(4,false),(5,false),(6,true),(7,true),(8,false)] Grows.refl Grows.trans (by kernel_rfl) (by kernel_rfl) (fun d _ _ _ _ h => by cases d <;> exact h) ?_
 iterate 6 (refine t_quiet rfl (fun K hK => ?_);go_simp;refine hK _ ?_;clear hK K)
 refine t_late rfl rfl (fun K hK => ?_)
 go_simp
 refine ((CS w.drew (Grows.drew w)).out).mono ?_
 rintro e w1 ⟨v1,rfl,hv1',hg1⟩
 refine ⟨hg1,hK _ _ ?_⟩
 clear hK K
 have hgw1:=Grows.trans _ _ _ (Grows.drew w) hg1
 obtain ⟨s1,d1,rfl,hs1,_⟩:=own_part hv1'
 rw [leB_len]
 refine t_late rfl rfl (fun K hK => ?_)
 go_simp
 refine ((CE w1 s1 d1 hgw1 hs1).out).mono ?_
 rintro e w2 ⟨rfl,rfl⟩
 refine ⟨Grows.refl _,hK _ _ ?_⟩
 clear hK K
 iterate 1 (refine t_quiet rfl (fun K hK => ?_);go_simp;refine hK _ ?_;clear hK K)
 refine t_end ?_
 clear hv1' hs1 hg1 CS CE
 go_wp2_with fail
 refine (CP w1 hgw1).out.mono ?_
 rintro e w3 ⟨hg3,Q,qa,qc,rfl,hbr,hqat,hqp⟩
 have hgw3:=Grows.trans _ _ _ hgw1 hg3
 have hq0 : chk14 Q = 0:=by rw [← chk14_bare,hbr,chk14_bare];exact HCHK.out
 have hqf : file14 Q = b:=by rw [← file14_bare,hbr,file14_bare,HB.out]
 have hql:=(chk14_parts hq0).1
 have CJ:=Lib.hid (join_any Q qa qc w3 (HE.out.grows hgw3) (by omega) hqat hqp)
 have HQ:=Lib.hid (And.intro hbr (And.intro hqat hqp))
 have HQ0:=Lib.hid hq0
 have HQF:=Lib.hid hqf
 clear hg3 hbr hqat hqp hq0 hqf CP hgw1
 go_wp2_with fail
 refine CJ.out.mono ?_
 rintro e w4 ⟨hj0,_,hg4⟩
 obtain ⟨v4,rfl,hv4⟩:=hj0 HQ0.out
 rw [HQF.out] at hv4
 obtain ⟨s4,d4,rfl,hs4,_⟩:=own_part hv4
 rw [← HN.out]
 have hgw4:=Grows.trans _ _ _ hgw3 hg4
 have CE4:=CE2 w4 s4 d4 hgw4 hs4
 clear hj0 hv4 hs4 CJ CE2
 go_wp2_with fail
 refine CE4.out.mono ?_
 rintro e w5 ⟨rfl,rfl⟩
 go_wp2
 go_ret2
 exact ⟨hgw4,Q,qa,qc,rfl,HQ.out.1,HQ.out.2.1.grows hg4,HQ.out.2.2.grows hg4⟩
end Go.Proofs.YtepoiefadjoabaaGreatDoor
