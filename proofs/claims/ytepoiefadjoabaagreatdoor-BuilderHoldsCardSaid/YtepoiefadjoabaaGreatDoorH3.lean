/- The texts Cmp EnD Pos KeyP Mx OrderP LoudP, one behind the other. -/
import Derived.Test.YtepoiefadjoabaaGreatDoorProg
import Derived.Test.YtepoiefadjoabaaGreatDoorH2
import Derived.WalkKit
import Derived.WalkLawsBesides
import Derived.Lib.Hide
import Derived.DeepKeys4
import Derived.Maps.RangeWalk
import Derived.Maps.Views
namespace Go.Proofs.YtepoiefadjoabaaGreatDoor
open Go Go.RowKit
def orI : List Int → Int
 | [] => 0
 | z :: l => if z = 0 then orI l else z
theorem orI_drop : ∀ (zs : List Int) (k : Nat), (∀ j, j < k → zs[j]?.getD 0 = 0) → orI zs = orI (zs.drop k)
 | [],k,_ => by simp
 | z :: l,0,_ => by simp
 | z :: l,k + 1,h => by
  have h0 : z = 0:=by simpa using h 0 (by omega)
  simp only [orI,h0,if_true,List.drop_succ_cons]
  exact orI_drop l k fun j hj => by simpa using h (j + 1) (by omega)
theorem orI_hit {zs : List Int} {k : Nat} (hk : k < zs.length) (h : ∀ j, j < k → zs[j]?.getD 0 = 0) (hz : zs[k]?.getD 0 ≠ 0) : orI zs = zs[k]?.getD 0 := by
 rw [orI_drop zs k h,List.drop_eq_getElem_cons hk,orI]
 simp [hk] at hz ⊢
 simp [hz]
theorem orI_none {zs : List Int} (h : ∀ j, j < zs.length → zs[j]?.getD 0 = 0) : orI zs = 0 := by
 rw [orI_drop zs _ h];simp [orI]
set_option maxHeartbeats 400000 in
theorem or_any (zs : List Int) (b off cap : Nat) (w : World) (hl : zs.length ≤ 4611686018427387904) (hc : ∀ k, k < zs.length → w.cell? ⟨b, off + k, none⟩ = some (.int .i64 (zs[k]?.getD 0))) :
  Calls Tryz.prog 109 #[.slice (some ⟨b,off,none⟩) zs.length cap] w fun e w' => e = .returned (.int .i64 (orI zs))∧w = w':=by
 have HC:=Lib.hid hc
 clear hc
 go_enter Tryz.func109,Tryz.ntmps109
 go_wp2
 go_loop [8] (fun i => ∃ k : Nat,k ≤ zs.length∧i = .int .i64 k∧Hid (∀ j,j < k → zs[j]?.getD 0 = 0)) (fun i => zs.length - (intOf i).toNat)
 case atStart => exact ⟨0,Nat.zero_le _,rfl,fun j hj => by omega⟩
 case round =>
  obtain ⟨k,hk,rfl,hz⟩:=hrel
  by_cases hlt : k < zs.length
  ·have hcx:=HC.out k hlt
   obtain ⟨z,hze⟩ : ∃ z,z = zs[k]?.getD 0:=⟨_,rfl⟩
   rw [← hze] at hcx
   have HE:=Lib.hid hze
   clear hze
   by_cases h0 : z = 0
   ·have h0' : (z != 0) = false:=by simp [h0]
    have H0:=Lib.hid h0
    clear h0
    go_wp2
    go_round
    case rel => exact ⟨k + 1,by omega,by go_num,fun j hj => by
     rcases Nat.lt_succ_iff_lt_or_eq.1 hj with h | rfl
     ·exact hz.out j h
     ·rw [← HE.out];exact H0.out⟩
    case measure => simp [intOf];omega
   ·have h0' : (z != 0) = true:=by simpa using h0
    have hfin:=Lib.hid ((orI_hit hlt hz.out (by rw [← HE.out];exact h0)).trans HE.out.symm)
    clear h0
    go_wp2
    go_ret
    exact ⟨by rw [hfin.out];rfl,rfl⟩
  ·obtain rfl : k = zs.length:=by omega
   have hfin:=Lib.hid (orI_none hz.out)
   go_wp2
   go_ret
   exact ⟨by rw [hfin.out];rfl,rfl⟩
def cmpI (x y : Int) : Int := if x < y then -1 else if y < x then 1 else 0
def cmpS (a b : ByteArray) : Int := if Op.bytesLess a.toList b.toList then -1 else if !Op.bytesLess a.toList b.toList && !(a.toList == b.toList) then 1 else 0
set_option maxHeartbeats 400000 in
theorem compareI_any (x y : Int) (w : World) :
  Calls Tryz.prog 111 #[.int .i64 x,.int .i64 y] w fun e w' => e = .returned (.int .i64 (cmpI x y))∧w = w':=by
 go_enter Tryz.func111,Tryz.ntmps111
 go_wp2
 all_goals (go_ret;refine ⟨ret_int ?_,rfl⟩;unfold cmpI;(repeat' split) <;> first | rfl | (exfalso;omega))
set_option maxHeartbeats 400000 in
theorem compareS_any (x y : ByteArray) (w : World) :
  Calls Tryz.prog 110 #[.string x,.string y] w fun e w' => e = .returned (.int .i64 (cmpS x y))∧w = w':=by
 go_enter Tryz.func110,Tryz.ntmps110
 go_wp2
 all_goals (go_ret;exact ⟨ret_int (by simp [cmpS, *]),rfl⟩)
end Go.Proofs.YtepoiefadjoabaaGreatDoor
namespace Go.Proofs.YtepoiefadjoabaaGreatDoor
open Go Go.RowKit
structure En where
 r : ByteArray
 s : ByteArray
 l : Int
 t : Int
 c : Int
def enCells (x : En) : List Value := [.string x.r, .string x.s, .int .i64 x.l, .int .i64 x.t, .int .i64 x.c]
def enZero : En := ⟨ByteArray.empty, ByteArray.empty, 0, 0, 0⟩
theorem enCells_len (x : En) : (enCells x).length = 5 := rfl
def En.agg (x : En) : Value := .agg #[.string x.r, .string x.s, .int .i64 x.l, .int .i64 x.t, .int .i64 x.c]
def enCmp (x y : En) : Int := orI [cmpS x.r y.r, cmpI x.c y.c, cmpS x.s y.s, cmpI x.l y.l, cmpI x.t y.t]
def lessS (x y : En) : Bool := decide (enCmp x y < 0)
instance : DecidableEq En := fun x y => decidable_of_iff (x.r = y.r ∧ x.s = y.s ∧ x.l = y.l ∧ x.t = y.t ∧ x.c = y.c) (by cases x; cases y; simp)
theorem toList_inj {x y : ByteArray} (h : x.toList = y.toList) : x = y := seq_iff.1 (by unfold seq; rw [h]; simp)
structure EnOK (x : En) : Prop where
 r : x.r.size ≤ maxLen
 s : x.s.size ≤ maxLen
 l : (Lit.int .i64 x.l).wf = true
 t : (Lit.int .i64 x.t).wf = true
 c : (Lit.int .i64 x.c).wf = true
theorem enCells_one (x : En) : ∀ u ∈ enCells x, u.oneCell' = true := by
 intro u hu
 simp [enCells] at hu
 rcases hu with rfl | rfl | rfl | rfl | rfl <;> rfl
end Go.Proofs.YtepoiefadjoabaaGreatDoor
namespace Go.Proofs.YtepoiefadjoabaaGreatDoor
open Go Go.RowKit
attribute [local go_sem] quietE
set_option maxHeartbeats 400000 in
theorem find1_any (p : PosV) (name : ByteArray) (b : Nat) (w : World) (hc : w.cell? ⟨b, 0, none⟩ = some (.string name)) (hb : b < w.heap.size) :
  Calls Tryz.prog 182 #[.agg #[.string p.name,.int .i64 p.kind],.pointer (some ⟨b,0,none⟩)] w fun e w' => e = .returned (.bool (seq p.name name))∧Grows w w':=by
 have hne : b ≠ w.heap.size:=by omega
 go_enter Tryz.func182,Tryz.ntmps182
 go_wp2
 go_ret
 exact ⟨rfl,Grows.alloc _ _⟩
def idxI (o : Option Nat) : Int := match o with | some k => k | none => -1
set_option maxHeartbeats 1000000 in
theorem indexFunc_any (l : List PosV) (name : ByteArray) (a : Option Addr) (cap b : Nat) (w : World) (hl : l.length ≤ 4611686018427387904) (hs : AtCells w a 2 (l.map posCells)) (hc : w.cell? ⟨b, 0, none⟩ = some (.string name)) :
  Calls Tryz.prog 181 #[.slice a l.length cap,.func (.func 182) #[] #[.pointer (some ⟨b,0,none⟩)]] w fun e w' => e = .returned (.int .i64 (idxI (posFind l name)))∧Grows w w':=by
 have HS:=Lib.hid hs
 have HC:=Lib.hid hc
 clear hs hc
 go_enter Tryz.func181,Tryz.ntmps181
 go_wp2
 go_loopw [8] (fun i wr => ∃ k : Nat,k ≤ l.length∧i = .int .i64 k∧Hid (∀ j q,j < k → l[j]? = some q → seq q.name name = false)∧Grows w wr) (fun i _ => l.length - (intOf i).toNat)
 case atStart => exact ⟨0,Nat.zero_le _,rfl,fun j q hj => by omega,Grows.refl _⟩
 case round =>
  obtain ⟨k,hk,rfl,hz,hg⟩:=hrel
  by_cases hlt : k < l.length
  ·obtain ⟨p,hp⟩ : ∃ p,l[k]? = some p:=⟨_,List.getElem?_eq_getElem hlt⟩
   obtain ⟨bl,off,rfl,hcells⟩:=(HS.out.grows hg).get (ne_nil_of_lt hlt)
   have c0 : wr.cell? ⟨bl,off + k * 2,none⟩ = some (.string p.name):=hcells k p hp 0 _ rfl
   have c1 : wr.cell? ⟨bl,off + k * 2 + 1,none⟩ = some (.int .i64 p.kind):=hcells k p hp 1 _ rfl
   clear hcells
   have HP:=Lib.hid hp
   clear hp
   have con:=find1_any p name b wr (hg.cell HC.out) (World.block_lt_of_cell? wr _ (hg.cell HC.out))
   have HCON:=Lib.hid con
   clear con
   cases hq : seq p.name name
   ·rw [hq] at HCON
    have HQ:=Lib.hid hq
    clear hq
    go_wp2_with (go_at_call 182;refine HCON.out.mono ?_;rintro e w' ⟨rfl,hg2⟩)
    go_roundw
    case rel => exact ⟨k + 1,by omega,by go_num,fun j q hj hq => by
     rcases Nat.lt_succ_iff_lt_or_eq.1 hj with h | rfl
     ·exact hz.out j q h hq
     ·rw [HP.out] at hq;obtain rfl:=Option.some.inj hq;exact HQ.out,hg.tr hg2⟩
    case measure => simp [intOf];omega
   ·rw [hq] at HCON
    have hfin:=Lib.hid (posFind_hit HP.out hz.out hq)
    clear hq
    go_wp2_with (go_at_call 182;refine HCON.out.mono ?_;rintro e w' ⟨rfl,hg2⟩)
    go_ret
    exact ⟨by rw [hfin.out];rfl,hg.tr hg2⟩
  ·obtain rfl : k = l.length:=by omega
   have hfin:=Lib.hid (posFind_none hz.out)
   go_wp2
   go_ret
   exact ⟨by rw [hfin.out];rfl,hg⟩
def findI (o : Option Nat) : Int := match o with | some k => k | none => 0
set_option maxHeartbeats 1000000 in
theorem posFind_any (l : List PosV) (name : ByteArray) (a : Option Addr) (cap : Nat) (w : World) (hl : l.length ≤ 4611686018427387904) (hs : AtCells w a 2 (l.map posCells)) :
  Calls Tryz.prog 133 #[.slice a l.length cap,.string name] w fun e w' => e = .returned (.tuple #[.int .i64 (findI (posFind l name)),.bool (posFind l name).isSome])∧Grows w w':=by
 have con:=Lib.hid (indexFunc_any l name a cap w.heap.size (w.alloc (.cells #[.string name] 9)) hl (hs.grows (Grows.alloc _ _)) (cell_box _ _ _ _ _ _ rfl))
 clear hs
 cases hq : posFind l name with
 | none =>
  rw [hq] at con
  clear hq
  go_enter Tryz.func133,Tryz.ntmps133
  go_wp2_with (go_at_call 181;refine con.out.mono ?_;rintro e w' ⟨rfl,hg2⟩)
  go_ret2
  exact ⟨rfl,(Grows.alloc _ _).tr hg2⟩
 | some k =>
  rw [hq] at con
  clear hq
  go_enter Tryz.func133,Tryz.ntmps133
  go_wp2_with (go_at_call 181;refine con.out.mono ?_;rintro e w' ⟨rfl,hg2⟩)
  go_ret2
  exact ⟨rfl,(Grows.alloc _ _).tr hg2⟩
end Go.Proofs.YtepoiefadjoabaaGreatDoor
namespace Go.Proofs.YtepoiefadjoabaaGreatDoor
open Go Go.RowKit
theorem keyLits_struct {P : Program} {d : Nat} {t : TypeId} {fs : Array Field} {cs : List Value} (h : P.underlying t = some (.struct fs)) :
  P.keyLits (d + 1) t cs = if cs.length = P.cellsOf t ∧ fs.all (·.name != "_") = true then (fs.toList.mapM fun f => P.keyLits d f.type ((cs.drop f.offset).take (P.cellsOf f.type))).map List.flatten else none := by
 conv => lhs;unfold Program.keyLits
 simp only [h]
def pairV (x : Int × Int) : Value := .agg #[.int .i64 x.1, .int .i64 x.2]
def WfI (n : Int) : Prop := (Lit.int .i64 n).wf = true
def klP (x : Int × Int) : Lit := .string (keyBytes [.int .i64 x.1, .int .i64 x.2])
theorem laidOutP : laidOutB Tryz.prog = true := by kernel_rfl
theorem keyedP : Go.Maps.Keyed Tryz.prog 162 := Go.Maps.Keyed.of_law (deep_law_laid laidOutP (m := 3) (by decide) (of_decide_eq_true (by kernel_rfl)) (by kernel_rfl) (by kernel_rfl))
set_option maxRecDepth 100000 in
theorem keyP {x : Int × Int} (h1 : WfI x.1) (h2 : WfI x.2) : Go.keyOf Tryz.prog 162 (pairV x) = some (klP x) := by
 obtain ⟨m,hm⟩ : ∃ m,Tryz.prog.types.size = m + 1:=⟨Tryz.prog.types.size - 1,by have : 0 < Tryz.prog.types.size:=of_decide_eq_true (by kernel_rfl);omega⟩
 have hI : ∀ (n : Int),WfI n → Tryz.prog.keyLits (m + 1) 3 [.int .i64 n] = some [.int .i64 n]:=fun n hn => by
  unfold Program.keyLits
  unfold WfI at hn
  simp only [Tryz.underlying3,hn,and_self,if_true]
 have hk : Tryz.prog.keyType 162 = true:=by kernel_rfl
 have hc : Tryz.prog.cellsOf 162 = 2:=by kernel_rfl
 have hci : Tryz.prog.cellsOf 3 = 1:=by kernel_rfl
 obtain ⟨a,b⟩:=x
 have g1:=hI a h1
 have g2:=hI b h2
 unfold Go.keyOf
 simp only [Tryz.underlying162,hk,Bool.true_and]
 unfold Value.formed pairV
 simp only [Tryz.underlying162,hc]
 have hz : ((#[Value.int .i64 a,.int .i64 b] : Array Value).size == 2) = true:=rfl
 rw [if_pos hz,hm]
 unfold Program.keyLits
 simp only [Tryz.underlying162,hc,Value.cells]
 simp [hci,g1,g2,klP]
theorem klP_inj {x y : Int × Int} (h1 : WfI x.1) (h2 : WfI x.2) (h3 : WfI y.1) (h4 : WfI y.2) (h : klP x = klP y) : x = y := by
 have k1:=keyP h1 h2
 have k2:=keyP h3 h4
 rw [h] at k1
 have:=keyedP.inj k1 k2
 obtain ⟨a,b⟩:=x
 obtain ⟨a',b'⟩:=y
 simpa [pairV] using this
set_option maxRecDepth 100000 in
theorem keyP_inv {key : Value} {kl : Lit} (h : Go.keyOf Tryz.prog 162 key = some kl) : ∃ x : Int × Int, WfI x.1 ∧ WfI x.2 ∧ key = pairV x ∧ kl = klP x := by
 obtain ⟨m,hm⟩ : ∃ m,Tryz.prog.types.size = m + 1:=⟨Tryz.prog.types.size - 1,by have : 0 < Tryz.prog.types.size:=of_decide_eq_true (by kernel_rfl);omega⟩
 have hI : ∀ (v : Value) (ls : List Lit),Tryz.prog.keyLits (m + 1) 3 [v] = some ls → ∃ n : Int,v = .int .i64 n∧WfI n∧ls = [.int .i64 n]:=fun v ls h => by
  unfold Program.keyLits at h
  simp only [Tryz.underlying3] at h
  cases v <;> simp at h
  obtain ⟨⟨rfl,h2⟩,h3⟩:=h
  exact ⟨_,rfl,h2,h3.symm⟩
 have hk : Tryz.prog.keyType 162 = true:=by kernel_rfl
 have hc : Tryz.prog.cellsOf 162 = 2:=by kernel_rfl
 have hci : Tryz.prog.cellsOf 3 = 1:=by kernel_rfl
 unfold Go.keyOf at h
 simp only [Tryz.underlying162,hk,Bool.true_and] at h
 split at h
 ·rename_i hf
  rw [hm] at h
  obtain ⟨cs,rfl,hsz⟩ : ∃ cs,key = .agg cs∧cs.size = 2:=by
   unfold Value.formed at hf
   cases key <;> simp [Tryz.underlying162,hc] at hf
   exact ⟨_,rfl,hf⟩
  obtain ⟨l⟩:=cs
  match l,hsz with
  | [c0,c1],_ =>
   rw [keyLits_struct Tryz.underlying162] at h
   simp only [Value.cells] at h
   simp [hci,hc,Option.bind_eq_some_iff,List.mapM_cons] at h
   obtain ⟨l0,g0,ls,⟨l1,g1,rfl⟩,rfl⟩:=h
   obtain ⟨n2,rfl,z2,rfl⟩:=hI _ _ g0
   obtain ⟨n3,rfl,z3,rfl⟩:=hI _ _ g1
   exact ⟨⟨n2,n3⟩,z2,z3,rfl,by simp [klP]⟩
 ·cases h
end Go.Proofs.YtepoiefadjoabaaGreatDoor
namespace Go.Proofs.YtepoiefadjoabaaGreatDoor
open Go Go.RowKit
structure Mx where
 n : Nat
 d : Int
 cs : List Int
structure Mx.OK (m : Mx) : Prop where
 n1 : 1 ≤ m.n
 n2 : m.n ≤ 64
 d1 : 0 ≤ m.d
 d2 : m.d ≤ 30000
 len : m.cs.length = m.n * m.n
 cost : ∀ c ∈ m.cs,0 ≤ c∧c ≤ 30000
def isC (c : Int) : Bool := decide (0 ≤ c) && decide (c ≤ 30000)
theorem isC_iff {c : Int} : isC c = true ↔ 0 ≤ c ∧ c ≤ 30000 := by simp [isC]
def newB (n d : Int) : Bool := decide (1 ≤ n) && decide (n ≤ 64) && isC d
theorem newB_iff {n d : Int} : newB n d = true ↔ 1 ≤ n ∧ n ≤ 64 ∧ 0 ≤ d ∧ d ≤ 30000 := by simp [newB, isC, and_assoc]
def newM (n d : Int) : Mx := ⟨n.toNat, d, List.replicate (n.toNat * n.toNat) d⟩
theorem newM_ok {n d : Int} (h : newB n d = true) : (newM n d).OK := by
 obtain ⟨h1,h2,h3,h4⟩:=newB_iff.1 h
 refine ⟨?_, ?_,h3,h4,by simp [newM],fun c hc => ?_⟩
 ·show 1 ≤ n.toNat;omega
 ·show n.toNat ≤ 64;omega
 ·obtain rfl : c = d:=(List.mem_replicate.1 hc).2
  exact ⟨h3,h4⟩
def inR (n : Nat) (r : Int) : Bool := decide (0 ≤ r) && decide (r < n)
theorem inR_iff {n : Nat} {r : Int} : inR n r = true ↔ 0 ≤ r ∧ r < n := by simp [inR]
def at2 (n : Nat) (x : Int × Int) : Nat := x.1.toNat * n + x.2.toNat
def inP (n : Nat) (x : Int × Int) : Bool := inR n x.1 && inR n x.2
theorem inP_iff {n : Nat} {x : Int × Int} : inP n x = true ↔ (0 ≤ x.1 ∧ x.1 < n) ∧ 0 ≤ x.2 ∧ x.2 < n := by simp [inP, inR_iff]
theorem at2_lt {n : Nat} {x : Int × Int} (h : inP n x = true) : at2 n x < n * n := by
 obtain ⟨⟨h1,h2⟩,h3,h4⟩:=inP_iff.1 h
 unfold at2
 have k1 : x.1.toNat + 1 ≤ n:=by omega
 have k2 : x.2.toNat < n:=by omega
 have:=Nat.mul_le_mul_right n k1
 rw [Nat.add_mul,Nat.one_mul] at this
 omega
theorem at2_div {n : Nat} {x : Int × Int} (h : inP n x = true) : at2 n x / n = x.1.toNat ∧ at2 n x % n = x.2.toNat := by
 obtain ⟨⟨h1,h2⟩,h3,h4⟩:=inP_iff.1 h
 have k2 : x.2.toNat < n:=by omega
 unfold at2
 constructor
 ·rw [Nat.mul_comm,Nat.mul_add_div (by omega),Nat.div_eq_of_lt k2,Nat.add_zero]
 ·rw [Nat.mul_comm,Nat.mul_add_mod,Nat.mod_eq_of_lt k2]
theorem at2_inj {n : Nat} {x y : Int × Int} (hx : inP n x = true) (hy : inP n y = true) (h : at2 n x = at2 n y) : x = y := by
 have k1:=at2_div hx
 have k2:=at2_div hy
 rw [h] at k1
 obtain ⟨⟨h1,h2⟩,h3,h4⟩:=inP_iff.1 hx
 obtain ⟨⟨g1,g2⟩,g3,g4⟩:=inP_iff.1 hy
 have e1:=k1.1.symm.trans k2.1
 have e2:=k1.2.symm.trans k2.2
 exact Prod.ext (by omega) (by omega)
def Mx.cost (m : Mx) (x : Int × Int) : Int := if inP m.n x then m.cs.getD (at2 m.n x) 0 else 30000
def Mx.setB (m : Mx) (x : Int × Int) (c : Int) : Bool := inP m.n x && isC c
def Mx.set (m : Mx) (x : Int × Int) (c : Int) : Mx := { m with cs := m.cs.set (at2 m.n x) c }
def Mx.setIf (m : Mx) (x : Int × Int) (c : Int) : Mx := if m.setB x c then m.set x c else m
theorem Mx.OK.set {m : Mx} (h : m.OK) {x : Int × Int} {c : Int} (hs : m.setB x c = true) : (m.set x c).OK := by
 simp only [Mx.setB,Bool.and_eq_true] at hs
 refine ⟨h.n1,h.n2,h.d1,h.d2,by simp [Mx.set,h.len],fun z hz => ?_⟩
 rcases List.mem_or_eq_of_mem_set hz with hz | rfl
 ·exact h.cost z hz
 ·exact isC_iff.1 hs.2
theorem Mx.OK.setIf {m : Mx} (h : m.OK) (x : Int × Int) (c : Int) : (m.setIf x c).OK := by
 unfold Mx.setIf
 split
 ·rename_i hs;exact h.set hs
 ·exact h
theorem Mx.cost_set {m : Mx} (h : m.OK) {x : Int × Int} {c : Int} (hx : inP m.n x = true) (y : Int × Int) : (m.set x c).cost y = if y = x then c else m.cost y := by
 have hl : at2 m.n x < m.cs.length:=by rw [h.len];exact at2_lt hx
 unfold Mx.cost
 show (if inP m.n y then (m.cs.set (at2 m.n x) c).getD (at2 m.n y) 0 else 30000) = _
 by_cases hy : inP m.n y = true
 ·rw [if_pos hy,if_pos hy]
  by_cases e : y = x
  ·subst e;rw [if_pos rfl]
   simp [List.getD,hl]
  ·rw [if_neg e]
   have : at2 m.n x ≠ at2 m.n y:=fun h => e (at2_inj hx hy h).symm
   simp [List.getD,List.getElem?_set_ne this]
 ·rw [if_neg hy,if_neg hy,if_neg (fun e => hy (by rw [e];exact hx))]
theorem Mx.cost_new {n d : Int} (x : Int × Int) : (newM n d).cost x = if inP n.toNat x then d else 30000 := by
 unfold Mx.cost newM
 simp only
 by_cases h : inP n.toNat x = true
 ·rw [if_pos h,if_pos h]
  simp [List.getD,at2_lt h]
 ·rw [if_neg h,if_neg h]
theorem Mx.cost_ok {m : Mx} (h : m.OK) (x : Int × Int) : 0 ≤ m.cost x ∧ m.cost x ≤ 30000 := by
 unfold Mx.cost
 split
 ·rename_i hx
  have hl : at2 m.n x < m.cs.length:=by rw [h.len];exact at2_lt hx
  have : m.cs.getD (at2 m.n x) 0 = m.cs[at2 m.n x]:=by simp [List.getD,hl]
  rw [this]
  exact h.cost _ (List.getElem_mem _)
 ·omega
theorem wf_of_in {n : Nat} (hn : n ≤ 64) {x : Int × Int} (h : inP n x = true) : WfI x.1 ∧ WfI x.2 := by
 obtain ⟨⟨h1,h2⟩,h3,h4⟩:=inP_iff.1 h
 exact ⟨WalkArith.wf_i64 (by omega),WalkArith.wf_i64 (by omega)⟩
section
variable {H : Type}
def MapM (m : Mx) (D : DataW H) : Prop := ∀ x : Int × Int, WfI x.1 → WfI x.2 → (Maps.has D (klP x) = (inP m.n x && decide (m.cost x ≠ m.d))) ∧ (Maps.has D (klP x) = true → ∀ zd, D.atKey (klP x) zd = .lit (.int .i64 (m.cost x)))
theorem klP_key (x : Int × Int) : WideAt.IsKeyLit (klP x) := by simp [klP, WideAt.IsKeyLit]
theorem klP_same (x : Int × Int) : (klP x).sameKey (klP x) = true := by simp [klP, Lit.sameKey]
theorem mapM_new (n d : Int) : MapM (H := H) (newM n d) (.map []) := fun x _ _ => by
 refine ⟨?_,fun h => by cases h⟩
 show false = _
 rw [Mx.cost_new]
 show false = (inP n.toNat x && decide ((if inP n.toNat x then d else 30000) ≠ d))
 cases inP n.toNat x <;> simp
theorem MapM.put {m : Mx} {D : DataW H} (h : MapM m D) (hm : Maps.IsMap D) (hok : m.OK) {x : Int × Int} {c : Int} (hs : m.setB x c = true) (hc : c ≠ m.d) : MapM (m.set x c) (D.put (klP x) (.lit (.int .i64 c))) := fun y h1 h2 => by
 simp only [Mx.setB,Bool.and_eq_true] at hs
 have hw:=wf_of_in hok.n2 hs.1
 rw [Mx.cost_set hok hs.1]
 show Maps.has _ _ = (inP m.n y && decide (_ ≠ m.d))∧_
 by_cases e : y = x
 ·subst e
  rw [if_pos rfl,Maps.has_put_same hm (klP_key _),hs.1]
  exact ⟨by simp [hc],fun _ zd => Maps.atKey_put_same hm (klP_key _) _ _⟩
 ·have hne : klP y ≠ klP x:=fun h => e (klP_inj h1 h2 hw.1 hw.2 h)
  rw [if_neg e,Maps.has_put_other hne]
  refine ⟨(h y h1 h2).1,fun hh zd => ?_⟩
  rw [Maps.atKey_put_other hne]
  exact (h y h1 h2).2 hh zd
theorem MapM.del {m : Mx} {D : DataW H} (h : MapM m D) (hok : m.OK) {x : Int × Int} (hx : inP m.n x = true) : MapM (m.set x m.d) (D.del (klP x)) := fun y h1 h2 => by
 have hw:=wf_of_in hok.n2 hx
 rw [Mx.cost_set hok hx]
 show Maps.has _ _ = (inP m.n y && decide (_ ≠ m.d))∧_
 by_cases e : y = x
 ·subst e
  rw [if_pos rfl,Maps.has_del_same]
  exact ⟨by simp,fun h => by cases h⟩
 ·have hne : klP y ≠ klP x:=fun h => e (klP_inj h1 h2 hw.1 hw.2 h)
  rw [if_neg e,Maps.has_del_other hne]
  refine ⟨(h y h1 h2).1,fun hh zd => ?_⟩
  rw [Maps.atKey_del_other hne]
  exact (h y h1 h2).2 hh zd
theorem MapM.look {m : Mx} {D : DataW H} (h : MapM m D) (hok : m.OK) {x : Int × Int} (hx : inP m.n x = true) {c : Int} (hc : D.atKey (klP x) (.lit (.int .i64 0)) = .lit (.int .i64 c)) : (Maps.has D (klP x) = true → c = m.cost x) ∧ (Maps.has D (klP x) = false → m.cost x = m.d) := by
 have hw:=wf_of_in hok.n2 hx
 obtain ⟨h1,h2⟩:=h x hw.1 hw.2
 refine ⟨fun hh => ?_,fun hh => ?_⟩
 ·have:=h2 hh (.lit (.int .i64 0))
  rw [hc] at this
  simpa using this
 ·rw [hh,hx] at h1
  have h3 : decide (m.cost x ≠ m.d) = false:=by simpa using h1.symm
  simpa using h3
end
def Mx.idx (m : Mx) : List Nat := (List.range (m.n * m.n)).filter fun i => decide (m.cs.getD i 0 ≠ m.d)
def pairAt (n i : Nat) : Int × Int := (((i / n : Nat) : Int), ((i % n : Nat) : Int))
def Mx.pairs (m : Mx) : List (Int × Int) := m.idx.map (pairAt m.n)
theorem pairAt_in {n i : Nat} (h : i < n * n) : inP n (pairAt n i) = true ∧ at2 n (pairAt n i) = i := by
 have hn : 0 < n:=by
  rcases Nat.eq_zero_or_pos n with h0 | h0
  ·subst h0;simp at h
  ·exact h0
 have h1 : i / n < n:=Nat.div_lt_of_lt_mul h
 have h2 : i % n < n:=Nat.mod_lt _ hn
 refine ⟨inP_iff.2 ⟨⟨Int.natCast_nonneg _,Int.ofNat_lt.2 h1⟩,Int.natCast_nonneg _,Int.ofNat_lt.2 h2⟩, ?_⟩
 simp only [at2,pairAt,Int.toNat_natCast]
 rw [Nat.mul_comm];exact Nat.div_add_mod i n
theorem pairAt_at2 {n : Nat} {x : Int × Int} (h : inP n x = true) : pairAt n (at2 n x) = x := at2_inj (pairAt_in (at2_lt h)).1 h (pairAt_in (at2_lt h)).2
theorem Mx.mem_idx {m : Mx} {i : Nat} : i ∈ m.idx ↔ i < m.n * m.n ∧ m.cs.getD i 0 ≠ m.d := by simp [Mx.idx]
theorem Mx.mem_pairs {m : Mx} {x : Int × Int} : x ∈ m.pairs ↔ inP m.n x = true ∧ m.cost x ≠ m.d := by
 unfold Mx.pairs
 rw [List.mem_map]
 constructor
 ·rintro ⟨i,hi,rfl⟩
  obtain ⟨h1,h2⟩:=Mx.mem_idx.1 hi
  obtain ⟨h3,h4⟩:=pairAt_in h1
  refine ⟨h3, ?_⟩
  unfold Mx.cost
  rw [if_pos h3,h4];exact h2
 ·rintro ⟨h1,h2⟩
  refine ⟨at2 m.n x,Mx.mem_idx.2 ⟨at2_lt h1, ?_⟩,pairAt_at2 h1⟩
  unfold Mx.cost at h2
  rwa [if_pos h1] at h2
def cmpP (a b : Int × Int) : Int := orI [cmpI a.1 b.1, cmpI a.2 b.2]
def ltP (a b : Int × Int) : Prop := a.1 < b.1 ∨ a.1 = b.1 ∧ a.2 < b.2
theorem cmpP_lt (a b : Int × Int) : cmpP a b < 0 ↔ ltP a b := by
 unfold cmpP ltP
 simp only [orI]
 unfold cmpI
 constructor
 ·intro h
  split at h <;> (repeat' split at h) <;> omega
 ·intro h
  split <;> (repeat' split) <;> omega
theorem ltP_irrefl (a : Int × Int) : ¬ ltP a a := by unfold ltP; omega
theorem ltP_trans {a b c : Int × Int} (h1 : ltP a b) (h2 : ltP b c) : ltP a c := by unfold ltP at *; omega
theorem ltP_total {a b : Int × Int} (h : a ≠ b) : ltP a b ∨ ltP b a := by
 by_cases h1 : a.1 = b.1
 ·have h2 : a.2 ≠ b.2:=fun h2 => h (Prod.ext h1 h2)
  unfold ltP;omega
 ·unfold ltP;omega
theorem pairAt_lt {n i j : Nat} (h : i < j) : ltP (pairAt n i) (pairAt n j) := by
 have h1 : i / n ≤ j / n:=Nat.div_le_div_right (Nat.le_of_lt h)
 unfold ltP pairAt
 simp only
 by_cases e : i / n = j / n
 ·right
  refine ⟨by omega, ?_⟩
  have h2:=Nat.div_add_mod i n
  have h3:=Nat.div_add_mod j n
  rw [e] at h2
  omega
 ·left;omega
theorem Mx.pairs_sorted (m : Mx) : m.pairs.Pairwise ltP := by
 unfold Mx.pairs Mx.idx
 rw [List.pairwise_map]
 exact (List.Pairwise.filter _ List.pairwise_lt_range).imp fun h => pairAt_lt h
theorem pw_unique {α : Type} {lt : α → α → Prop} (hi : ∀ a, ¬ lt a a) (ht : ∀ {a b c}, lt a b → lt b c → lt a c) : ∀ {o o' : List α}, o.Pairwise lt → o'.Pairwise lt → (∀ y, y ∈ o ↔ y ∈ o') → o = o'
 | [],[],_,_,_ => rfl
 | [],b :: s,_,_,h => by have:=(h b).2 (by simp);cases this
 | a :: r,[],_,_,h => by have:=(h a).1 (by simp);cases this
 | a :: r,b :: s,h1,h2,h => by
  obtain ⟨ha,hr⟩:=List.pairwise_cons.1 h1
  obtain ⟨hb,hs⟩:=List.pairwise_cons.1 h2
  have hab : a = b:=by
   rcases List.mem_cons.1 ((h a).1 (by simp)) with e | e
   ·exact e
   ·rcases List.mem_cons.1 ((h b).2 (by simp)) with e' | e'
    ·exact e'.symm
    ·exact absurd (ht (hb a e) (ha b e')) (hi b)
  subst hab
  have hn1 : a ∉ r:=fun hm => hi a (ha a hm)
  have hn2 : a ∉ s:=fun hm => hi a (hb a hm)
  rw [pw_unique hi ht hr hs fun y => ?_]
  constructor
  ·intro hy
   rcases List.mem_cons.1 ((h y).1 (by simp [hy])) with e | e
   ·subst e;exact absurd hy hn1
   ·exact e
  ·intro hy
   rcases List.mem_cons.1 ((h y).2 (by simp [hy])) with e | e
   ·subst e;exact absurd hy hn2
   ·exact e
theorem Mx.pairs_len {m : Mx} (h : m.OK) : m.pairs.length ≤ 4096 := by
 unfold Mx.pairs
 rw [List.length_map]
 refine Nat.le_trans (List.length_filter_le _ _) ?_
 rw [List.length_range]
 have:=h.n2
 exact Nat.mul_le_mul this this
end Go.Proofs.YtepoiefadjoabaaGreatDoor
namespace Go.Proofs.YtepoiefadjoabaaGreatDoor
open Go Go.RowKit
theorem bytesLess_irrefl : ∀ l : List UInt8, Op.bytesLess l l = false
 | [] => rfl
 | x :: l => by simp [Op.bytesLess,bytesLess_irrefl l]
theorem bytesLess_trans : ∀ {a b c : List UInt8}, Op.bytesLess a b = true → Op.bytesLess b c = true → Op.bytesLess a c = true
 | [],_,[],_,h => by cases ‹List UInt8› <;> simp [Op.bytesLess] at h
 | [],_,_ :: _,_,_ => rfl
 | _ :: _,[],_,h,_ => by simp [Op.bytesLess] at h
 | _ :: _,_ :: _,[],_,h => by simp [Op.bytesLess] at h
 | x :: a,y :: b,z :: c,h1,h2 => by
  simp only [Op.bytesLess,Bool.or_eq_true,Bool.and_eq_true,decide_eq_true_eq,beq_iff_eq] at h1 h2 ⊢
  rcases h1 with h1 | ⟨rfl,h1⟩ <;> rcases h2 with h2 | ⟨rfl,h2⟩
  ·exact Or.inl (Nat.lt_trans h1 h2)
  ·exact Or.inl h1
  ·exact Or.inl h2
  ·exact Or.inr ⟨rfl,bytesLess_trans h1 h2⟩
theorem bytesLess_total : ∀ {a b : List UInt8}, Op.bytesLess a b = false → a ≠ b → Op.bytesLess b a = true
 | [],[],_,h => absurd rfl h
 | [],_ :: _,h,_ => by simp [Op.bytesLess] at h
 | _ :: _,[],_,_ => rfl
 | x :: a,y :: b,h1,h2 => by
  simp only [Op.bytesLess,Bool.or_eq_false_iff,Bool.and_eq_false_iff,decide_eq_false_iff_not,beq_eq_false_iff_ne,Bool.or_eq_true,Bool.and_eq_true,decide_eq_true_eq,beq_iff_eq] at h1 ⊢
  obtain ⟨h1,h3⟩:=h1
  by_cases hxy : y < x
  ·exact Or.inl hxy
  ·have h4 : x.toNat = y.toNat:=by
    have h5 : ¬ x.toNat < y.toNat:=h1
    have h6 : ¬ y.toNat < x.toNat:=hxy
    omega
   obtain rfl : x = y:=UInt8.toNat_inj.1 h4
   rcases h3 with h3 | h3
   ·exact absurd rfl h3
   ·exact Or.inr ⟨rfl,bytesLess_total h3 (fun h => h2 (by rw [h]))⟩
structure Cmp3 {α : Type} (f : α → α → Int) : Prop where
 zero : ∀ x y,f x y = 0 ↔ x = y
 trans : ∀ x y z,f x y < 0 → f y z < 0 → f x z < 0
 flip : ∀ x y,f x y < 0 ↔ 0 < f y x
theorem cmp3I : Cmp3 cmpI where
 zero x y:=by unfold cmpI;split <;> (try split) <;> omega
 trans x y z:=by unfold cmpI;intro h1 h2;split at h1 <;> split at h2 <;> (try split at h1) <;> (try split at h2) <;> (split <;> omega)
 flip x y:=by unfold cmpI;split <;> (try split) <;> (try split) <;> omega
theorem cmpS_eq (a b : ByteArray) : cmpS a b = if Op.bytesLess a.toList b.toList then -1 else if a = b then 0 else 1 := by
 unfold cmpS
 by_cases h1 : Op.bytesLess a.toList b.toList = true
 ·rw [if_pos h1,if_pos h1]
 ·rw [if_neg h1,if_neg h1]
  by_cases h2 : a = b
  ·simp [h2]
  ·have h3 : (a.toList == b.toList) = false:=by
    rw [beq_eq_false_iff_ne];exact fun h => h2 (toList_inj h)
   simp [h1,h2,h3]
theorem bytesLess_asymm {a b : List UInt8} (h : Op.bytesLess a b = true) : ¬ Op.bytesLess b a = true := fun h2 => by
 have:=bytesLess_trans h h2
 rw [bytesLess_irrefl] at this
 cases this
theorem cmp3S : Cmp3 cmpS where
 zero x y:=by
  rw [cmpS_eq]
  split
  ·rename_i h
   refine ⟨fun h => by omega,fun e => ?_⟩
   rw [e,bytesLess_irrefl] at h;cases h
  ·split
   ·rename_i h;simp [h]
   ·rename_i h;simp [h]
 trans x y z:=by
  rw [cmpS_eq,cmpS_eq,cmpS_eq]
  intro h1 h2
  have g1 : Op.bytesLess x.toList y.toList = true:=by
   by_cases h : Op.bytesLess x.toList y.toList = true
   ·exact h
   ·rw [if_neg h] at h1;split at h1 <;> omega
  have g2 : Op.bytesLess y.toList z.toList = true:=by
   by_cases h : Op.bytesLess y.toList z.toList = true
   ·exact h
   ·rw [if_neg h] at h2;split at h2 <;> omega
  rw [if_pos (bytesLess_trans g1 g2)]
  omega
 flip x y:=by
  rw [cmpS_eq,cmpS_eq]
  by_cases h : Op.bytesLess x.toList y.toList = true
  ·have h2:=bytesLess_asymm h
   have h3 : ¬ y = x:=fun e => by rw [e,bytesLess_irrefl] at h;cases h
   rw [if_pos h,if_neg h2,if_neg h3];omega
  ·rw [if_neg h]
   by_cases e : x = y
   ·subst e;rw [if_pos rfl,if_neg h]
   ·have h2:=bytesLess_total (by simpa using h) (fun h => e (toList_inj h))
    rw [if_neg e,if_pos h2];omega
def lexI {α β : Type} (f : α → α → Int) (g : β → β → Int) (x y : α × β) : Int := if f x.1 y.1 = 0 then g x.2 y.2 else f x.1 y.1
theorem Cmp3.refl {α : Type} {f : α → α → Int} (h : Cmp3 f) (x : α) : f x x = 0 := (h.zero x x).2 rfl
theorem cmp3Lex {α β : Type} {f : α → α → Int} {g : β → β → Int} (hf : Cmp3 f) (hg : Cmp3 g) : Cmp3 (lexI f g) where
 zero x y:=by
  unfold lexI
  by_cases h : f x.1 y.1 = 0
  ·rw [if_pos h,hg.zero]
   have:=(hf.zero _ _).1 h
   constructor
   ·intro h2;exact Prod.ext this h2
   ·intro h2;rw [h2]
  ·rw [if_neg h]
   exact ⟨fun h2 => absurd h2 h,fun h2 => absurd (by rw [h2];exact hf.refl _) h⟩
 trans x y z:=by
  unfold lexI
  intro h1 h2
  by_cases e1 : f x.1 y.1 = 0
  ·rw [if_pos e1] at h1
   have e:=(hf.zero _ _).1 e1
   rw [e]
   by_cases e2 : f y.1 z.1 = 0
   ·rw [if_pos e2] at h2 ⊢;exact hg.trans _ _ _ h1 h2
   ·rw [if_neg e2] at h2 ⊢;exact h2
  ·rw [if_neg e1] at h1
   by_cases e2 : f y.1 z.1 = 0
   ·have e:=(hf.zero _ _).1 e2
    rw [← e,if_neg e1];exact h1
   ·rw [if_neg e2] at h2
    have h3:=hf.trans _ _ _ h1 h2
    rw [if_neg (by omega)];exact h3
 flip x y:=by
  unfold lexI
  have hz : f x.1 y.1 = 0 ↔ f y.1 x.1 = 0:=by rw [hf.zero,hf.zero];exact eq_comm
  by_cases e1 : f x.1 y.1 = 0
  ·rw [if_pos e1,if_pos (hz.1 e1)];exact hg.flip _ _
  ·rw [if_neg e1,if_neg (fun h => e1 (hz.2 h))];exact hf.flip _ _
def keyOf (x : En) : ByteArray × Int × ByteArray × Int × Int := (x.r, x.c, x.s, x.l, x.t)
theorem enCmp_key (x y : En) : enCmp x y = lexI cmpS (lexI cmpI (lexI cmpS (lexI cmpI cmpI))) (keyOf x) (keyOf y) := by
 have hl : ∀ z : Int,orI [z] = z:=fun z => by unfold orI;split <;> simp_all [orI]
 unfold enCmp lexI keyOf
 simp only [orI]
 repeat' split
 all_goals simp_all
theorem enCmp3 : Cmp3 enCmp where
 zero x y:=by
  rw [enCmp_key,(cmp3Lex cmp3S (cmp3Lex cmp3I (cmp3Lex cmp3S (cmp3Lex cmp3I cmp3I)))).zero]
  constructor
  ·intro h
   obtain ⟨xr,xs,xl,xt,xc⟩:=x
   obtain ⟨yr,ys,yl,yt,yc⟩:=y
   simp only [keyOf,Prod.mk.injEq] at h
   obtain ⟨rfl,rfl,rfl,rfl,rfl⟩:=h
   rfl
  ·intro h;rw [h]
 trans x y z:=by rw [enCmp_key,enCmp_key,enCmp_key];exact (cmp3Lex cmp3S (cmp3Lex cmp3I (cmp3Lex cmp3S (cmp3Lex cmp3I cmp3I)))).trans _ _ _
 flip x y:=by rw [enCmp_key,enCmp_key];exact (cmp3Lex cmp3S (cmp3Lex cmp3I (cmp3Lex cmp3S (cmp3Lex cmp3I cmp3I)))).flip _ _
theorem lessS_trans {x y z : En} (h1 : lessS x y = true) (h2 : lessS y z = true) : lessS x z = true := by
 unfold lessS at *
 simp only [decide_eq_true_eq] at *
 exact enCmp3.trans _ _ _ h1 h2
theorem lessS_irrefl (x : En) : lessS x x = false := by
 unfold lessS;rw [enCmp3.refl];simp
theorem lessS_one {x y : En} (h : x ≠ y) : lessS y x = !lessS x y := by
 unfold lessS
 have h1:=enCmp3.flip x y
 have h2 : enCmp x y ≠ 0:=fun h0 => h ((enCmp3.zero _ _).1 h0)
 have h3:=enCmp3.flip y x
 by_cases h4 : enCmp x y < 0
 ·have h5 : ¬ enCmp y x < 0:=by have:=h1.1 h4;omega
  simp [h4,h5]
 ·have h5 : enCmp y x < 0:=h3.2 (by omega)
  simp [h4,h5]
end Go.Proofs.YtepoiefadjoabaaGreatDoor
namespace Go.Proofs.YtepoiefadjoabaaGreatDoor
open Go
def comm : List UInt8 → List UInt8 → Nat
 | a :: x,b :: y => if a = b then comm x y + 1 else 0
 | _,_ => 0
theorem comm_nil (b : List UInt8) : comm [] b = 0 := by cases b <;> rfl
theorem comm_nil2 (a : List UInt8) : comm a [] = 0 := by cases a <;> rfl
theorem comm_le : ∀ (a b : List UInt8), comm a b ≤ a.length ∧ comm a b ≤ b.length
 | [],b => by rw [comm_nil];exact ⟨Nat.zero_le _,Nat.zero_le _⟩
 | a :: x,[] => by rw [comm_nil2];exact ⟨Nat.zero_le _,Nat.zero_le _⟩
 | a :: x,b :: y => by
  have:=comm_le x y
  unfold comm
  split
  ·simp only [List.length_cons];omega
  ·exact ⟨Nat.zero_le _,Nat.zero_le _⟩
theorem comm_self : ∀ (a : List UInt8), comm a a = a.length
 | [] => rfl
 | a :: x => by unfold comm;rw [if_pos rfl,comm_self x];rfl
theorem comm_iff : ∀ (e : Nat) (a b : List UInt8), e ≤ comm a b ↔ e ≤ a.length ∧ e ≤ b.length ∧ a.take e = b.take e
 | 0,a,b => by simp
 | e + 1,[],b => by rw [comm_nil];simp
 | e + 1,a :: x,[] => by rw [comm_nil2];simp
 | e + 1,a :: x,b :: y => by
  unfold comm
  by_cases h : a = b
  ·subst h
   rw [if_pos rfl]
   have:=comm_iff e x y
   simp only [List.length_cons,List.take_succ_cons,List.cons.injEq,true_and,Nat.add_le_add_iff_right]
   exact this
  ·rw [if_neg h]
   simp [h]
theorem comm_succ {e : Nat} {a b : List UInt8} (h : e ≤ comm a b) (ha : e < a.length) (hb : e < b.length) : e + 1 ≤ comm a b ↔ a[e]? = b[e]? := by
 rw [comm_iff] at h ⊢
 obtain ⟨_,_,h⟩:=h
 rw [List.take_add_one,List.take_add_one,h]
 constructor
 ·rintro ⟨_,_,h2⟩
  have h3:=List.append_cancel_left h2
  rw [List.getElem?_eq_getElem ha,List.getElem?_eq_getElem hb] at h3 ⊢
  simpa using h3
 ·intro h2
  exact ⟨ha,hb,by rw [h2]⟩
theorem comm_between : ∀ (e : Nat) {a b c : List UInt8}, Op.bytesLess a b = true → Op.bytesLess b c = true → e ≤ comm a c → e ≤ comm a b ∧ e ≤ comm b c
 | 0,_,_,_,_,_,_ => ⟨Nat.zero_le _,Nat.zero_le _⟩
 | e + 1,[],_,c,_,_,h => by rw [comm_nil] at h;omega
 | e + 1,_ :: _,_,[],_,_,h => by rw [comm_nil2] at h;omega
 | e + 1,_ :: _,[],_ :: _,h,_,_ => by simp [Op.bytesLess] at h
 | e + 1,x :: a,y :: b,z :: c,h1,h2,h => by
  unfold comm at h
  split at h
  case isFalse => omega
  rename_i hxz
  subst hxz
  simp only [Op.bytesLess,Bool.or_eq_true,Bool.and_eq_true,decide_eq_true_eq,beq_iff_eq] at h1 h2
  have hxy : x = y:=by
   rcases h1 with h1 | h1
   ·rcases h2 with h2 | h2
    ·have a1 : x.toNat < y.toNat:=h1
     have a2 : y.toNat < x.toNat:=h2
     omega
    ·exact h2.1.symm
   ·exact h1.1
  subst hxy
  have hlt : ¬ x < x:=fun h : x.toNat < x.toNat => Nat.lt_irrefl _ h
  have k1 : Op.bytesLess a b = true:=by
   rcases h1 with h1 | h1
   ·exact absurd h1 hlt
   ·exact h1.2
  have k2 : Op.bytesLess b c = true:=by
   rcases h2 with h2 | h2
   ·exact absurd h2 hlt
   ·exact h2.2
  have:=comm_between e k1 k2 (by omega)
  unfold comm
  rw [if_pos rfl,if_pos rfl]
  omega
theorem comm_trans {e : Nat} {a b c : List UInt8} (h1 : e ≤ comm a b) (h2 : e ≤ comm b c) : e ≤ comm a c := by
 rw [comm_iff] at *
 exact ⟨h1.1,h2.2.1,h1.2.2.trans h2.2.2⟩
theorem comm_symm : ∀ (a b : List UInt8), comm a b = comm b a
 | [],b => by rw [comm_nil,comm_nil2]
 | a :: x,[] => by rw [comm_nil,comm_nil2]
 | a :: x,b :: y => by
  unfold comm
  by_cases h : a = b
  ·rw [if_pos h,if_pos h.symm,comm_symm x y]
  ·rw [if_neg h,if_neg (Ne.symm h)]
theorem comm_less : ∀ {a b : List UInt8}, Op.bytesLess a b = true → comm a b < b.length
 | [],[],h => by simp [Op.bytesLess] at h
 | [],_ :: _,_ => by rw [comm_nil];simp
 | _ :: _,[],h => by simp [Op.bytesLess] at h
 | x :: a,y :: b,h => by
  simp only [Op.bytesLess,Bool.or_eq_true,Bool.and_eq_true,decide_eq_true_eq,beq_iff_eq] at h
  unfold comm
  split
  ·rename_i hxy
   subst hxy
   have hlt : ¬ x < x:=fun h : x.toNat < x.toNat => Nat.lt_irrefl _ h
   rcases h with h | h
   ·exact absurd h hlt
   ·have:=comm_less h.2
    simp only [List.length_cons];omega
  ·simp
def nth (L : List (List UInt8)) (j : Nat) : List UInt8 := L.getD j []
theorem nth_eq {L : List (List UInt8)} {j : Nat} {x : List UInt8} (h : L[j]? = some x) : nth L j = x := by
 unfold nth;rw [List.getD_eq_getElem?_getD,h];rfl
theorem nth_some {L : List (List UInt8)} {j : Nat} (h : j < L.length) : L[j]? = some (nth L j) := by
 rw [List.getElem?_eq_getElem h,← nth_eq (List.getElem?_eq_getElem h)]
def cAt (L : List (List UInt8)) (j : Nat) : Nat := comm (nth L (j - 1)) (nth L j)
def Asc (L : List (List UInt8)) : Prop := ∀ j, j + 1 < L.length → Op.bytesLess (nth L j) (nth L (j + 1)) = true
theorem Asc.lt {L : List (List UInt8)} (h : Asc L) : ∀ (j i : Nat), i < j → j < L.length → Op.bytesLess (nth L i) (nth L j) = true
 | 0,i,hi,_ => by omega
 | j + 1,i,hi,hj => by
  rcases Nat.lt_or_ge i j with h1 | h1
  ·exact bytesLess_trans (h.lt j i h1 (by omega)) (h j hj)
  ·rw [show i = j by omega];exact h j hj
theorem Asc.all {L : List (List UInt8)} (h : Asc L) {e i j m : Nat} (hj : j < L.length) (hm1 : i < m) (hm2 : m ≤ j) (he : e ≤ comm (nth L i) (nth L j)) : e ≤ cAt L m := by
 have h1 : e ≤ comm (nth L (m - 1)) (nth L j):=by
  rcases Nat.lt_or_ge i (m - 1) with h1 | h1
  ·exact (comm_between e (h.lt _ _ h1 (by omega)) (h.lt _ _ (by omega) hj) he).2
  ·rw [show m - 1 = i by omega];exact he
 unfold cAt
 rcases Nat.lt_or_ge m j with h2 | h2
 ·exact (comm_between e (h.lt _ _ (by omega) (by omega)) (h.lt _ _ h2 hj) h1).1
 ·obtain rfl : m = j:=by omega
  exact h1
theorem chain_comm {L : List (List UInt8)} {e i : Nat} (hi : e ≤ (nth L i).length) : ∀ (j : Nat), i ≤ j → (∀ m, i < m → m ≤ j → e ≤ cAt L m) → e ≤ comm (nth L i) (nth L j)
 | 0,hj,_ => by
  obtain rfl : i = 0:=by omega
  rw [comm_self];exact hi
 | j + 1,hj,h => by
  rcases Nat.lt_or_ge i (j + 1) with h1 | h1
  ·exact comm_trans (chain_comm hi j (by omega) (fun m a b => h m a (by omega))) (h (j + 1) h1 (Nat.le_refl _))
  ·obtain rfl : i = j + 1:=by omega
   rw [comm_self];exact hi
def runGo (p : Nat → Bool) (t : Nat) : Nat → Nat → Nat
 | 0,k => k
 | f + 1,k => if k < t∧p k = true then runGo p t f (k + 1) else k
def runTo (p : Nat → Bool) (t k : Nat) : Nat := runGo p t (t - k) k
theorem runTo_step {p : Nat → Bool} {t k : Nat} (h : k < t) (hp : p k = true) : runTo p t k = runTo p t (k + 1) := by
 unfold runTo
 rw [show t - k = (t - (k + 1)) + 1 by omega,runGo,if_pos ⟨h,hp⟩]
theorem runTo_stop {p : Nat → Bool} {t k : Nat} (h : ¬ (k < t ∧ p k = true)) : runTo p t k = k := by
 unfold runTo
 cases hf : t - k with
 | zero => rfl
 | succ f => rw [runGo,if_neg h]
theorem runTo_spec (p : Nat → Bool) (t : Nat) : ∀ (f k : Nat), t - k = f → k ≤ t → k ≤ runTo p t k ∧ runTo p t k ≤ t ∧ (∀ j, k ≤ j → j < runTo p t k → p j = true) ∧ (runTo p t k < t → p (runTo p t k) = false)
 | 0,k,hf,hk => by
  rw [runTo_stop (by omega)]
  exact ⟨Nat.le_refl _,hk,fun j a b => by omega,fun a => by omega⟩
 | f + 1,k,hf,hk => by
  by_cases h : k < t∧p k = true
  ·rw [runTo_step h.1 h.2]
   obtain ⟨a,b,c,d⟩:=runTo_spec p t f (k + 1) (by omega) (by omega)
   refine ⟨by omega,b,fun j h1 h2 => ?_,d⟩
   rcases Nat.lt_or_ge k j with h3 | h3
   ·exact c j h3 h2
   ·rw [show j = k by omega];exact h.2
  ·rw [runTo_stop h]
   refine ⟨Nat.le_refl _,hk,fun j a b => by omega,fun a => ?_⟩
   simpa [a] using h
structure Span where
 i : Nat
 t : Nat
 d : Nat
def sameAt (L : List (List UInt8)) (d i k : Nat) : Bool := (nth L k)[d]? == (nth L i)[d]?
def kidEnd (L : List (List UInt8)) (d t i : Nat) : Nat := runTo (sameAt L d i) t (i + 1)
def kidsGo (L : List (List UInt8)) (d t : Nat) : Nat → Nat → List Span
 | 0,_ => []
 | f + 1,i => if i < t then ⟨i,kidEnd L d t i,d + 1⟩ :: kidsGo L d t f (kidEnd L d t i) else []
theorem kidEnd_gt (L : List (List UInt8)) {d t i : Nat} (h : i < t) : i < kidEnd L d t i ∧ kidEnd L d t i ≤ t := by
 have:=runTo_spec (sameAt L d i) t _ (i + 1) rfl h
 exact ⟨this.1,this.2.1⟩
theorem kidsGo_fuel (L : List (List UInt8)) (d t : Nat) : ∀ (f g i : Nat), t - i ≤ f → t - i ≤ g → kidsGo L d t f i = kidsGo L d t g i
 | 0,0,_,_,_ => rfl
 | 0,g + 1,i,hf,_ => by rw [kidsGo,kidsGo,if_neg (by omega)]
 | f + 1,0,i,_,hg => by rw [kidsGo,kidsGo,if_neg (by omega)]
 | f + 1,g + 1,i,hf,hg => by
  rw [kidsGo,kidsGo]
  split
  ·rename_i h
   have:=kidEnd_gt L (d:=d) h
   rw [kidsGo_fuel L d t f g _ (by omega) (by omega)]
  ·rfl
def kidsFrom (L : List (List UInt8)) (d t i : Nat) : List Span := kidsGo L d t (t - i) i
theorem kidsFrom_step {L : List (List UInt8)} {d t i : Nat} (h : i < t) : kidsFrom L d t i = ⟨i, kidEnd L d t i, d + 1⟩ :: kidsFrom L d t (kidEnd L d t i) := by
 have:=kidEnd_gt L (d:=d) h
 unfold kidsFrom
 rw [show t - i = (t - i - 1) + 1 by omega,kidsGo,if_pos h,kidsGo_fuel L d t (t - i - 1) (t - kidEnd L d t i) _ (by omega) (by omega)]
theorem kidsFrom_end {L : List (List UInt8)} {d t i : Nat} (h : ¬ i < t) : kidsFrom L d t i = [] := by
 unfold kidsFrom
 rw [show t - i = 0 by omega];rfl
def here (L : List (List UInt8)) (x : Span) : Bool := decide (x.i < x.t) && (nth L x.i).length == x.d
def kidStart (L : List (List UInt8)) (x : Span) : Nat := if here L x then x.i + 1 else x.i
def kids (L : List (List UInt8)) (x : Span) : List Span := kidsFrom L x.d x.t (kidStart L x)
structure Good (L : List (List UInt8)) (x : Span) : Prop where
 le : x.i ≤ x.t∧x.t ≤ L.length
 ne : x.i < x.t ∨ x.d = 0
 len : ∀ j,x.i ≤ j → j < x.t → x.d ≤ (nth L j).length
 inn : ∀ j,x.i < j → j < x.t → x.d ≤ cAt L j
 lo : x.i = 0 ∨ cAt L x.i < x.d
 hi : x.t = L.length ∨ cAt L x.t < x.d
def rootS (L : List (List UInt8)) : Span := ⟨0, L.length, 0⟩
theorem good_root (L : List (List UInt8)) : Good L (rootS L) := ⟨⟨Nat.zero_le _, Nat.le_refl _⟩, Or.inr rfl, fun _ _ _ => Nat.zero_le _, fun _ _ _ => Nat.zero_le _, Or.inl rfl, Or.inl rfl⟩
theorem Good.long {L : List (List UInt8)} (hL : Asc L) {x : Span} (g : Good L x) {j : Nat} (h1 : x.i < j) (h2 : j < x.t) : x.d < (nth L j).length := by
 have hc:=g.inn j h1 h2
 have hl:=comm_less (hL.lt j (j - 1) (by omega) (by have:=g.le;omega))
 unfold cAt at hc
 omega
theorem Good.start {L : List (List UInt8)} (hL : Asc L) {x : Span} (g : Good L x) {j : Nat} (h1 : kidStart L x ≤ j) (h2 : j < x.t) : x.d < (nth L j).length := by
 unfold kidStart here at h1
 split at h1
 ·exact g.long hL (by omega) h2
 ·rename_i h
  rcases Nat.lt_or_ge x.i j with h3 | h3
  ·exact g.long hL h3 h2
  ·have hj : j = x.i:=by omega
   have:=g.len j (by omega) h2
   simp only [Bool.and_eq_true,decide_eq_true_eq,beq_iff_eq,not_and] at h
   have:=h (by omega)
   subst hj
   omega
def Tile (L : List (List UInt8)) (e : Nat) : Nat → List Span → Nat → Prop
 | lo,[],hi => lo ≤ hi∧∀ j,lo ≤ j → j < hi → (nth L j).length < e
 | lo,x :: xs,hi => lo ≤ x.i∧(∀ j,lo ≤ j → j < x.i → (nth L j).length < e)∧Good L x∧x.d = e∧Tile L e x.t xs hi
theorem Tile.le {L : List (List UInt8)} {e : Nat} : ∀ {xs : List Span} {lo hi : Nat}, Tile L e lo xs hi → lo ≤ hi
 | [],_,_,h => h.1
 | _ :: _,_,_,h => by have:=Tile.le h.2.2.2.2;have:=h.2.2.1.le;have:=h.1;omega
theorem Tile.before {L : List (List UInt8)} {e : Nat} : ∀ {xs : List Span} {lo lo' hi : Nat}, lo' ≤ lo → (∀ j, lo' ≤ j → j < lo → (nth L j).length < e) → Tile L e lo xs hi → Tile L e lo' xs hi
 | [],lo,lo',hi,h1,h2,h => ⟨Nat.le_trans h1 h.1,fun j a b => by
  rcases Nat.lt_or_ge j lo with h3 | h3
  ·exact h2 j a h3
  ·exact h.2 j h3 b⟩
 | _ :: _,lo,lo',hi,h1,h2,h => ⟨Nat.le_trans h1 h.1,fun j a b => by
  rcases Nat.lt_or_ge j lo with h3 | h3
  ·exact h2 j a h3
  ·exact h.2.1 j h3 b,h.2.2⟩
theorem Tile.append {L : List (List UInt8)} {e : Nat} : ∀ {xs ys : List Span} {lo mid hi : Nat}, Tile L e lo xs mid → Tile L e mid ys hi → Tile L e lo (xs ++ ys) hi
 | [],_,_,_,_,h1,h2 => Tile.before h1.1 h1.2 h2
 | _ :: _,_,_,_,_,h1,h2 => ⟨h1.1,h1.2.1,h1.2.2.1,h1.2.2.2.1,Tile.append h1.2.2.2.2 h2⟩
theorem tile_kids_go {L : List (List UInt8)} (hL : Asc L) {x : Span} (g : Good L x) : ∀ (f i : Nat), x.t - i ≤ f → kidStart L x ≤ i → i ≤ x.t → (i < x.t → i = 0 ∨ cAt L i < x.d + 1) → Tile L (x.d + 1) i (kidsFrom L x.d x.t i) x.t
 | 0,i,hf,h1,h2,_ => by
  rw [kidsFrom_end (by omega)]
  exact ⟨h2,fun j a b => by omega⟩
 | f + 1,i,hf,h1,h2,h3 => by
  by_cases hlt : i < x.t
  case neg =>
   rw [kidsFrom_end hlt]
   exact ⟨h2,fun j a b => by omega⟩
  rw [kidsFrom_step hlt]
  obtain ⟨e1,e2,e3,e4⟩:=runTo_spec (sameAt L x.d i) x.t _ (i + 1) rfl hlt
  have hn:=g.le
  have hsx : x.i ≤ i:=by unfold kidStart at h1;split at h1 <;> omega
  have hin : ∀ j,i < j → j < kidEnd L x.d x.t i → x.d + 1 ≤ cAt L j:=by
   intro j
   induction j with
   | zero => intro a;omega
   | succ j ih =>
    intro a b
    have hj : j + 1 < x.t:=by unfold kidEnd at b;omega
    have s1:=e3 (j + 1) a b
    have s2 : sameAt L x.d i j = true:=by
     rcases Nat.lt_or_ge i j with h | h
     ·exact e3 j h (by unfold kidEnd at b;omega)
     ·rw [show j = i by omega];simp [sameAt]
    unfold sameAt at s1 s2
    simp only [beq_iff_eq] at s1 s2
    have hc:=g.inn (j + 1) (by omega) hj
    unfold cAt at hc ⊢
    rw [Nat.add_sub_cancel] at hc ⊢
    exact (comm_succ hc (g.start hL (by omega) (by omega)) (g.start hL (by omega) hj)).2 (s2.trans s1.symm)
  have hend : kidEnd L x.d x.t i < x.t → cAt L (kidEnd L x.d x.t i) < x.d + 1:=by
   intro hk
   have s1:=e4 hk
   generalize hK : kidEnd L x.d x.t i = K at *
   have hK2 : runTo (sameAt L x.d i) x.t (i + 1) = K:=hK
   rw [hK2] at e1 e2 e3 e4 s1
   apply Classical.byContradiction
   intro hcon
   have hc : x.d + 1 ≤ cAt L K:=by omega
   have h0 : x.d + 1 ≤ comm (nth L i) (nth L K):=chain_comm (g.start hL h1 hlt) K (by omega) (fun m a b => by
    rcases Nat.lt_or_ge m K with h | h
    ·exact hin m a h
    ·rw [show m = K by omega];exact hc)
   have h4:=(comm_succ (Nat.le_of_succ_le h0) (g.start hL h1 hlt) (g.start hL (by omega) hk)).1 h0
   unfold sameAt at s1
   rw [h4] at s1
   simp at s1
  have hgt:=kidEnd_gt L (d:=x.d) hlt
  refine ⟨Nat.le_refl _,fun j a b => absurd b (Nat.not_lt.2 a),⟨⟨Nat.le_of_lt hgt.1,by show kidEnd L x.d x.t i ≤ L.length;omega⟩,Or.inl hgt.1,fun j a b => ?_,hin,h3 hlt, ?_⟩,rfl, ?_⟩
  ·have b' : j < kidEnd L x.d x.t i:=b
   exact g.start hL (Nat.le_trans h1 a) (by omega)
  ·show kidEnd L x.d x.t i = L.length ∨ cAt L (kidEnd L x.d x.t i) < x.d + 1
   rcases Nat.lt_or_ge (kidEnd L x.d x.t i) x.t with h | h
   ·exact Or.inr (hend h)
   ·rw [show kidEnd L x.d x.t i = x.t by omega]
    rcases g.hi with h2 | h2
    ·exact Or.inl h2
    ·exact Or.inr (by omega)
  ·have hgt2:=hgt.2
   have hgt1:=hgt.1
   exact tile_kids_go hL g f (kidEnd L x.d x.t i) (by omega) (by omega) hgt2 (fun h => Or.inr (hend h))
theorem tile_kids {L : List (List UInt8)} (hL : Asc L) {x : Span} (g : Good L x) : Tile L (x.d + 1) x.i (kids L x) x.t := by
 have hs : x.i ≤ kidStart L x∧kidStart L x ≤ x.t:=by
  unfold kidStart here
  have:=g.le
  split
  ·rename_i h;simp only [Bool.and_eq_true,decide_eq_true_eq] at h;omega
  ·omega
 refine Tile.before hs.1 (fun j a b => ?_) (tile_kids_go hL g _ _ (Nat.le_refl _) (Nat.le_refl _) hs.2 (fun h => ?_))
 ·unfold kidStart at b
  split at b
  ·rename_i h
   unfold here at h
   simp only [Bool.and_eq_true,beq_iff_eq] at h
   rw [show j = x.i by omega]
   omega
  ·omega
 ·unfold kidStart at h ⊢
  split
  ·rename_i hh
   rw [if_pos hh] at h
   unfold here at hh
   simp only [Bool.and_eq_true,beq_iff_eq] at hh
   refine Or.inr ?_
   have:=(comm_le (nth L (x.i + 1 - 1)) (nth L (x.i + 1))).1
   unfold cAt
   rw [Nat.add_sub_cancel] at this ⊢
   omega
  ·rcases g.lo with h2 | h2
   ·exact Or.inl h2
   ·exact Or.inr (by omega)
theorem tile_next {L : List (List UInt8)} (hL : Asc L) {e : Nat} : ∀ {xs : List Span} {lo hi : Nat}, Tile L e lo xs hi → Tile L (e + 1) lo (xs.flatMap (kids L)) hi
 | [],_,_,h => ⟨h.1,fun j a b => Nat.lt_succ_of_lt (h.2 j a b)⟩
 | x :: xs,lo,hi,h => by
  obtain ⟨h1,h2,h3,h4,h5⟩:=h
  have:=tile_kids hL h3
  rw [h4] at this
  rw [List.flatMap_cons]
  exact (this.before h1 (fun j a b => Nat.lt_succ_of_lt (h2 j a b))).append (tile_next hL h5)
def lv (L : List (List UInt8)) : Nat → List Span
 | 0 => [rootS L]
 | d + 1 => (lv L d).flatMap (kids L)
theorem tile_lv {L : List (List UInt8)} (hL : Asc L) : ∀ d, Tile L d 0 (lv L d) L.length
 | 0 => ⟨Nat.le_refl _,fun _ a b => absurd b (Nat.not_lt.2 a),good_root L,rfl,Nat.le_refl _,fun _ a b => absurd b (Nat.not_lt.2 a)⟩
 | d + 1 => tile_next hL (tile_lv hL d)
theorem Tile.mem {L : List (List UInt8)} {e : Nat} : ∀ {xs : List Span} {lo hi : Nat}, Tile L e lo xs hi → ∀ x ∈ xs, Good L x ∧ x.d = e ∧ lo ≤ x.i ∧ x.t ≤ hi
 | [],_,_,_,x,hx => by simp at hx
 | y :: xs,lo,hi,h,x,hx => by
  obtain ⟨h1,h2,h3,h4,h5⟩:=h
  rcases List.mem_cons.1 hx with rfl | hx
  ·exact ⟨h3,h4,h1,Tile.le h5⟩
  ·obtain ⟨a,b,c,d⟩:=Tile.mem h5 x hx
   exact ⟨a,b,by have:=h3.le;omega,d⟩
def isFirst (L : List (List UInt8)) (e j : Nat) : Bool := decide (e ≤ (nth L j).length) && (j == 0 || decide (cAt L j < e))
theorem Tile.firsts {L : List (List UInt8)} {e : Nat} (he : 0 < e) : ∀ {xs : List Span} {lo hi : Nat}, Tile L e lo xs hi → xs.map (fun x => x.i) = (List.range' lo (hi - lo)).filter (isFirst L e)
 | [],lo,hi,h => by
  symm
  rw [List.map_nil,List.filter_eq_nil_iff]
  intro j hj
  rw [List.mem_range'_1] at hj
  have:=h.2 j hj.1 (by omega)
  simp only [isFirst,Bool.and_eq_true,decide_eq_true_eq]
  omega
 | x :: xs,lo,hi,h => by
  obtain ⟨h1,h2,h3,h4,h5⟩:=h
  have h6:=Tile.le h5
  have h7:=h3.le
  have h8 : x.i < x.t:=by rcases h3.ne with h | h <;> omega
  rw [List.map_cons,Tile.firsts he h5,show hi - lo = (x.i - lo) + ((1 + (x.t - x.i - 1)) + (hi - x.t)) by omega,← List.range'_append_1,← List.range'_append_1,← List.range'_append_1,List.filter_append,List.filter_append,List.filter_append]
  have e1 : (List.range' lo (x.i - lo)).filter (isFirst L e) = []:=by
   rw [List.filter_eq_nil_iff]
   intro j hj
   rw [List.mem_range'_1] at hj
   have:=h2 j hj.1 (by omega)
   simp only [isFirst,Bool.and_eq_true,decide_eq_true_eq]
   omega
  have e2 : (List.range' (lo + (x.i - lo)) 1).filter (isFirst L e) = [x.i]:=by
   rw [show lo + (x.i - lo) = x.i by omega]
   have : isFirst L e x.i = true:=by
    unfold isFirst
    have a1:=h3.len x.i (Nat.le_refl _) h8
    rw [h4] at a1
    simp only [Bool.and_eq_true,decide_eq_true_eq,Bool.or_eq_true,beq_iff_eq]
    refine ⟨a1, ?_⟩
    rcases h3.lo with a2 | a2
    ·exact Or.inl a2
    ·rw [h4] at a2;exact Or.inr a2
   simp [List.range',this]
  have e3 : (List.range' (lo + (x.i - lo) + 1) (x.t - x.i - 1)).filter (isFirst L e) = []:=by
   rw [List.filter_eq_nil_iff]
   intro j hj
   rw [List.mem_range'_1] at hj
   have:=h3.inn j (by omega) (by omega)
   have hj0 : ¬ j = 0:=by omega
   have hc : ¬ cAt L j < e:=by omega
   simp [isFirst,hj0,hc]
  rw [e1,e2,e3,show lo + (x.i - lo) + (1 + (x.t - x.i - 1)) = x.t by omega]
  simp
end Go.Proofs.YtepoiefadjoabaaGreatDoor
