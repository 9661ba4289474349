/- The texts Named Chk Bld1 Stab Stab2 Stab3 Stab4 Stab5, one behind the other. -/
import Derived.Test.YtepoiefadjoabaaGreatDoorH3
import Derived.Test.YtepoiefadjoabaaGreatDoorShelf
import Derived.Test.YtepoiefadjoabaaGreatDoorH2
import Derived.Shelf.SlSortCmp.Kit1
import Derived.Test.YtepoiefadjoabaaGreatDoorH4
import Derived.Sort.WalkA
import Derived.Deep.LoopGhost
namespace Go.Proofs.YtepoiefadjoabaaGreatDoor
open Go Go.RowKit Go.Shelf
attribute [local go_sem] quietE
def nameBad (c : Nat) : Bool := (decide (c < 65) || decide (90 < c)) && (decide (c < 97) || decide (122 < c)) && (decide (c < 48) || decide (57 < c)) && !(c == 95) && !(c == 45)
set_option maxHeartbeats 1000000 in
theorem named1_any (w : World) : PredAt Tryz.prog 184 #[] encR nameBad w := fun W x _ => by
 unfold FnGives
 show Calls Tryz.prog 184 #[.int .i32 (x : Int)] W _
 go_enter Tryz.func184,Tryz.ntmps184
 go_wp2
 all_goals (go_ret;refine ⟨ret_bool ?_,0,rfl⟩;rw [Bool.eq_iff_iff];simp [nameBad];try omega)
def namedS (s : ByteArray) : Bool := !s.toList.isEmpty && decide (s.size ≤ 16) && !decide (0 ≤ Lib.idxFunc nameBad true s)
set_option maxHeartbeats 1000000 in
theorem named_any (s : ByteArray) (w : World) :
  Calls Tryz.prog 134 #[.string s] w fun e w' => e = .returned (.bool (namedS s))∧Grows w w':=by
 have con:=Lib.hid (Tryz.strings_ContainsFunc 184 #[] (enters_of Tryz.func184 (by kernel_rfl) rfl) nameBad s w (named1_any w))
 unfold namedS
 generalize decide (0 ≤ Lib.idxFunc nameBad true s) = r at con ⊢
 cases he : s.toList.isEmpty
 ·have h1 : (!s.toList.isEmpty) = true:=by rw [he];rfl
  by_cases hz : s.size ≤ 16
  ·have hz' : (s.size : Int) ≤ 16:=by omega
   go_enter Tryz.func134,Tryz.ntmps134
   go_wp2_with (go_at_call 183;refine con.out.mono ?_;rintro e w' ⟨rfl,hg2⟩)
   go_ret
   exact ⟨ret_bool (by simp [hz]),hg2⟩
  ·go_enter Tryz.func134,Tryz.ntmps134
   go_wp2
   go_ret
   exact ⟨rfl,Grows.refl _⟩
 ·go_enter Tryz.func134,Tryz.ntmps134
  go_wp2
  go_ret
  exact ⟨rfl,Grows.refl _⟩
end Go.Proofs.YtepoiefadjoabaaGreatDoor
namespace Go.Proofs.YtepoiefadjoabaaGreatDoor
open Go Go.RowKit Go.Shelf
attribute [local go_sem] quietE
def posOK (L : List PosV) (i : Nat) (p : PosV) : Bool := findI (posFind L p.name) == (i : Int) && namedS p.name && decide (0 ≤ p.kind) && decide (p.kind ≤ 2)
def posAll (L : List PosV) : List PosV → Nat → Bool
 | [],_ => true
 | p :: r,i => posOK L i p && posAll L r (i + 1)
def isBos (p : PosV) : Bool := seq p.name bos && p.kind == 0
def posValid (l : List PosV) : Bool := match l with
 | [] => false
 | p :: _ => decide (l.length ≤ 64) && isBos p && posAll l l 0
def chkI (b : Bool) : Int := if b then 0 else 5
theorem posAll_drop (L : List PosV) : ∀ (l : List PosV) (i k : Nat), (∀ j p, j < k → l[j]? = some p → posOK L (i + j) p = true) → posAll L l i = posAll L (l.drop k) (i + k)
 | [],i,k,_ => by simp [posAll]
 | p :: l,i,0,_ => by simp
 | p :: l,i,k + 1,h => by
  have h0 : posOK L i p = true:=by simpa using h 0 p (by omega) rfl
  rw [posAll,h0,Bool.true_and,List.drop_succ_cons,posAll_drop L l (i + 1) k fun j q hj hq => by
   have:=h (j + 1) q (by omega) (by simpa using hq)
   rwa [show i + (j + 1) = i + 1 + j by omega] at this]
  congr 1;omega
theorem posAll_hit {L : List PosV} {k : Nat} {p : PosV} (hk : L[k]? = some p) (h : ∀ j q, j < k → L[j]? = some q → posOK L j q = true) (hp : posOK L k p = false) : posAll L L 0 = false := by
 have hlt : k < L.length:=(List.getElem?_eq_some_iff.1 hk).1
 have hp' : L[k] = p:=(List.getElem?_eq_some_iff.1 hk).2
 rw [posAll_drop L L 0 k (fun j q hj hq => by simpa using h j q hj hq),List.drop_eq_getElem_cons hlt,posAll,hp',Nat.zero_add,hp,Bool.false_and]
theorem posAll_end {L : List PosV} (h : ∀ j q, j < L.length → L[j]? = some q → posOK L j q = true) : posAll L L 0 = true := by
 rw [posAll_drop L L 0 L.length (fun j q hj hq => by simpa using h j q hj hq)];simp [posAll]
set_option maxHeartbeats 2000000 in
theorem check_any (l : List PosV) (a : Option Addr) (cap : Nat) (w : World) (hs : AtCells w a 2 (l.map posCells)) (hl : l.length ≤ 4611686018427387904) :
  Calls Tryz.prog 82 #[.slice a l.length cap] w fun e w' => e = .returned (.int .i64 (chkI (posValid l)))∧Grows w w':=by
 have HS:=Lib.hid hs
 clear hs
 cases l with
 | nil =>
  go_enter Tryz.func82,Tryz.ntmps82
  go_wp2
  go_ret
  exact ⟨rfl,Grows.refl _⟩
 | cons p0 r =>
  obtain ⟨L,hL⟩ : ∃ L,L = p0 :: r:=⟨_,rfl⟩
  have hne : L ≠ []:=by rw [hL];simp
  have h0 : L[0]? = some p0:=by rw [hL];rfl
  have hv : posValid L = (decide (L.length ≤ 64) && isBos p0 && posAll L L 0):=by rw [hL];rfl
  rw [← hL] at HS hl ⊢
  clear hL
  obtain ⟨b,off,rfl,hcells⟩:=HS.out.get hne
  have c0 : w.cell? ⟨b,off,none⟩ = some (.string p0.name):=by simpa using hcells 0 p0 h0 0 _ rfl
  have c1 : w.cell? ⟨b,off + 1,none⟩ = some (.int .i64 p0.kind):=by simpa using hcells 0 p0 h0 1 _ rfl
  have HC:=Lib.hid hcells
  have hpos : 0 < L.length:=by cases L with | nil => exact absurd rfl hne | cons _ _ => simp
  have HV:=Lib.hid hv
  clear hcells hne h0 hv
  have hz : ((L.length : Int) == 0) = false:=by rw [beq_eq_false_iff_ne];omega
  have hz' : ¬ L = []:=by rintro rfl;simp at hpos
  by_cases h64 : L.length ≤ 64
  ·have h64' : (L.length : Int) ≤ 64:=by omega
   by_cases hn : p0.name.toList = [66,79,83]
   ·by_cases hk0 : p0.kind = 0
    ·have hbos : isBos p0 = true:=by simp [isBos,seq,hn,hk0,bos,Lib.toList_data]
     have hv2 : posValid L = posAll L L 0:=by rw [HV.out,hbos];simp [h64]
     have HV2:=Lib.hid hv2
     have HC2 : Hid (∀ W,Grows w W → ∀ k p,L[k]? = some p → W.cell? ⟨b,off + k * 2,none⟩ = some (.string p.name)∧W.cell? ⟨b,off + k * 2 + 1,none⟩ = some (.int .i64 p.kind)) :=
      fun W hW k p hp => ⟨hW.cell (HC.out k p hp 0 _ rfl),hW.cell (HC.out k p hp 1 _ rfl)⟩
     rw [hv2]
     clear hbos hv2 HV HC
     go_enter Tryz.func82,Tryz.ntmps82
     go_wp2_with fail
     clear c0 c1 hn hk0
     go_loopw [24] (fun i wr => ∃ k : Nat,k ≤ L.length∧i = .int .i64 k∧Hid (∀ j q,j < k → L[j]? = some q → posOK L j q = true)∧Grows w wr) (fun i _ => L.length - (intOf i).toNat)
     case atStart => exact ⟨0,Nat.zero_le _,rfl,fun j q hj => by omega,Grows.refl _⟩
     case round =>
      obtain ⟨k,hk,rfl,hz,hg⟩:=hrel
      by_cases hlt : k < L.length
      ·obtain ⟨p,hp⟩ : ∃ p,L[k]? = some p:=⟨_,List.getElem?_eq_getElem hlt⟩
       obtain ⟨d0,d1⟩:=HC2.out wr hg k p hp
       have HP:=Lib.hid hp
       clear hp
       go_wp2_with fail
       refine (posFind_any L p.name (some ⟨b,off,none⟩) cap _ hl (HS.out.grows (hg.al _))).mono ?_
       rintro e w1 ⟨rfl,hg1⟩
       have b0 : w1.cell? ⟨wr.heap.size,0,none⟩ = some (.string p.name):=hg1.cell (cell_box _ _ _ _ 0 _ rfl)
       have b1 : w1.cell? ⟨wr.heap.size,1,none⟩ = some (.int .i64 p.kind):=hg1.cell (cell_box _ _ _ _ 1 _ rfl)
       have hgw1 : Grows w w1:=(hg.al _).tr hg1
       obtain ⟨f,hf⟩ : ∃ f,f = findI (posFind L p.name):=⟨_,rfl⟩
       obtain ⟨nm,hnm⟩ : ∃ nm,nm = namedS p.name:=⟨_,rfl⟩
       have con:=named_any p.name w1
       have hok : posOK L k p = (f == (k : Int) && nm && decide (0 ≤ p.kind) && decide (p.kind ≤ 2)):=by rw [hf,hnm];rfl
       rw [← hf]
       rw [← hnm] at con
       have HCON:=Lib.hid con
       have HOK:=Lib.hid hok
       clear hf hnm con hok d0 d1
       cases hfk : (f == (k : Int))
       ·have h1 : (f != (k : Int)) = true:=by rw [bne,hfk];rfl
        have hfin:=Lib.hid (posAll_hit HP.out hz.out (by rw [HOK.out,hfk];rfl))
        clear hfk
        go_wp2
        go_ret
        exact ⟨by rw [hfin.out];rfl,hgw1⟩
       ·have h1 : (f != (k : Int)) = false:=by rw [bne,hfk];rfl
        cases nm
        ·have hfin:=Lib.hid (posAll_hit HP.out hz.out (by rw [HOK.out];simp))
         clear hfk
         go_wp2_with (go_at_call 134;refine HCON.out.mono ?_;rintro e w2 ⟨rfl,hg2⟩)
         go_ret
         exact ⟨by rw [hfin.out];rfl,hgw1.tr hg2⟩
        ·by_cases hk0 : p.kind < 0
         ·have hfin:=Lib.hid (posAll_hit HP.out hz.out (by rw [HOK.out];simp;omega))
          clear hfk
          go_wp2_with (go_at_call 134;refine HCON.out.mono ?_;rintro e w2 ⟨rfl,hg2⟩;have b0':=hg2.cell b0;have b1':=hg2.cell b1)
          go_ret
          exact ⟨by rw [hfin.out];rfl,hgw1.tr hg2⟩
         ·by_cases hk2 : 2 < p.kind
          ·have hfin:=Lib.hid (posAll_hit HP.out hz.out (by rw [HOK.out];simp;omega))
           clear hfk
           go_wp2_with (go_at_call 134;refine HCON.out.mono ?_;rintro e w2 ⟨rfl,hg2⟩;have b0':=hg2.cell b0;have b1':=hg2.cell b1)
           go_ret
           exact ⟨by rw [hfin.out];rfl,hgw1.tr hg2⟩
          ·have hok : posOK L k p = true:=by rw [HOK.out,hfk];simp;omega
           have HOK2:=Lib.hid hok
           clear hfk hok
           go_wp2_with (go_at_call 134;refine HCON.out.mono ?_;rintro e w2 ⟨rfl,hg2⟩;have b0':=hg2.cell b0;have b1':=hg2.cell b1)
           go_roundw
           case rel => exact ⟨k + 1,by omega,by go_num,fun j q hj hq => by
            rcases Nat.lt_succ_iff_lt_or_eq.1 hj with h | rfl
            ·exact hz.out j q h hq
            ·rw [HP.out] at hq;obtain rfl:=Option.some.inj hq;exact HOK2.out,hgw1.tr hg2⟩
           case measure => simp [intOf];omega
      ·obtain rfl : k = L.length:=by omega
       have hfin:=Lib.hid (posAll_end hz.out)
       go_wp2
       go_ret
       exact ⟨by rw [hfin.out];rfl,hg⟩
    ·have hfin : posValid L = false:=by rw [HV.out];simp [isBos,hk0]
     have HF:=Lib.hid hfin
     clear hfin HV
     go_enter Tryz.func82,Tryz.ntmps82
     go_wp2
     go_ret
     exact ⟨by rw [HF.out];rfl,Grows.refl _⟩
   ·have hfin : posValid L = false:=by rw [HV.out];simp [isBos,seq,bos,Lib.toList_data];intro _ h;exact absurd (by rw [Lib.toList_data];exact h) hn
    have HF:=Lib.hid hfin
    clear hfin HV
    go_enter Tryz.func82,Tryz.ntmps82
    go_wp2
    go_ret
    exact ⟨by rw [HF.out];rfl,Grows.refl _⟩
  ·have h64' : (64 : Int) < L.length:=by omega
   have hfin : posValid L = false:=by rw [HV.out];simp [h64]
   have HF:=Lib.hid hfin
   clear hfin HV
   go_enter Tryz.func82,Tryz.ntmps82
   go_wp2
   go_ret
   exact ⟨by rw [HF.out];rfl,Grows.refl _⟩
end Go.Proofs.YtepoiefadjoabaaGreatDoor
namespace Go.Proofs.YtepoiefadjoabaaGreatDoor
open Go Go.Shelf Go.RowKit Go.Lib
theorem toList_beq (x y : ByteArray) : (x.toList == y.toList) = decide (x = y) := by
 by_cases h : x = y
 ·subst h;simp
 ·rw [decide_eq_false h]
  simpa using fun e => h (toList_inj e)
set_option maxHeartbeats 1000000 in
theorem bcl1_any (x : En) (w : World) : Calls Tryz.prog 33 #[x.agg] w fun e w' => e = .returned (.string x.r) ∧ Grows w w' := by
 obtain ⟨xr,xs,xl,xt,xc⟩:=x
 unfold En.agg
 go_enter Tryz.func33,Tryz.ntmps33
 go_wp2
 go_ret
 exact ⟨rfl,Grows.alloc _ _⟩
theorem bcl1_eg : ∀ args w, (callFunc 33 args).run Tryz.prog w = .ok (.enter 33 args) w := enters_of Tryz.func33 (by kernel_rfl) rfl
set_option maxHeartbeats 1000000 in
theorem bcl2_any (x : En) (w : World) : Calls Tryz.prog 34 #[x.agg] w fun e w' => e = .returned (.string x.s) ∧ Grows w w' := by
 obtain ⟨xr,xs,xl,xt,xc⟩:=x
 unfold En.agg
 go_enter Tryz.func34,Tryz.ntmps34
 go_wp2
 go_ret
 exact ⟨rfl,Grows.alloc _ _⟩
theorem bcl2_eg : ∀ args w, (callFunc 34 args).run Tryz.prog w = .ok (.enter 34 args) w := enters_of Tryz.func34 (by kernel_rfl) rfl
set_option maxHeartbeats 1000000 in
theorem bcl8_any (x : En) (w : World) : Calls Tryz.prog 49 #[x.agg] w fun e w' => e = .returned (.int .i64 x.l) ∧ Grows w w' := by
 obtain ⟨xr,xs,xl,xt,xc⟩:=x
 unfold En.agg
 go_enter Tryz.func49,Tryz.ntmps49
 go_wp2
 go_ret
 exact ⟨rfl,Grows.alloc _ _⟩
theorem bcl8_eg : ∀ args w, (callFunc 49 args).run Tryz.prog w = .ok (.enter 49 args) w := enters_of Tryz.func49 (by kernel_rfl) rfl
set_option maxHeartbeats 1000000 in
theorem bcl9_any (x : En) (w : World) : Calls Tryz.prog 50 #[x.agg] w fun e w' => e = .returned (.int .i64 x.t) ∧ Grows w w' := by
 obtain ⟨xr,xs,xl,xt,xc⟩:=x
 unfold En.agg
 go_enter Tryz.func50,Tryz.ntmps50
 go_wp2
 go_ret
 exact ⟨rfl,Grows.alloc _ _⟩
theorem bcl9_eg : ∀ args w, (callFunc 50 args).run Tryz.prog w = .ok (.enter 50 args) w := enters_of Tryz.func50 (by kernel_rfl) rfl
set_option maxHeartbeats 1000000 in
theorem bcl10_any (x : En) (w : World) : Calls Tryz.prog 51 #[x.agg] w fun e w' => e = .returned (.int .i64 x.c) ∧ Grows w w' := by
 obtain ⟨xr,xs,xl,xt,xc⟩:=x
 unfold En.agg
 go_enter Tryz.func51,Tryz.ntmps51
 go_wp2
 go_ret
 exact ⟨rfl,Grows.alloc _ _⟩
theorem bcl10_eg : ∀ args w, (callFunc 51 args).run Tryz.prog w = .ok (.enter 51 args) w := enters_of Tryz.func51 (by kernel_rfl) rfl
set_option maxHeartbeats 1000000 in
theorem bcl3_any (x y : En) (w : World) : Calls Tryz.prog 39 #[x.agg, y.agg] w fun e w' => e = .returned (.bool (!decide (x.r = y.r))) ∧ Grows w w' := by
 obtain ⟨xr,xs,xl,xt,xc⟩:=x
 obtain ⟨yr,ys,yl,yt,yc⟩:=y
 unfold En.agg
 go_enter Tryz.func39,Tryz.ntmps39
 go_wp2
 go_ret
 exact ⟨by rw [← toList_beq];rfl,(Grows.alloc _ _).al _⟩
theorem bcl3_eg : ∀ args w, (callFunc 39 args).run Tryz.prog w = .ok (.enter 39 args) w := enters_of Tryz.func39 (by kernel_rfl) rfl
set_option maxHeartbeats 1000000 in
theorem bcl5_any (x y : En) (w : World) : Calls Tryz.prog 42 #[x.agg, y.agg] w fun e w' => e = .returned (.bool (!decide (x.s = y.s))) ∧ Grows w w' := by
 obtain ⟨xr,xs,xl,xt,xc⟩:=x
 obtain ⟨yr,ys,yl,yt,yc⟩:=y
 unfold En.agg
 go_enter Tryz.func42,Tryz.ntmps42
 go_wp2
 go_ret
 exact ⟨by rw [← toList_beq];rfl,(Grows.alloc _ _).al _⟩
theorem bcl5_eg : ∀ args w, (callFunc 42 args).run Tryz.prog w = .ok (.enter 42 args) w := enters_of Tryz.func42 (by kernel_rfl) rfl
end Go.Proofs.YtepoiefadjoabaaGreatDoor
namespace Go.Proofs.YtepoiefadjoabaaGreatDoor
open Go Go.Shelf Go.RowKit Go.Lib Go.Sort
abbrev nv (n : Nat) : Value := .int .i64 n
def Fd (d : Array Nat) (i : Nat) : Nat := d[i]!
theorem Fd_swp {d : Array Nat} {i j : Nat} (hi : i < d.size) (hj : j < d.size) : Fd (swp d i j) = setF (setF (Fd d) i (Fd d j)) j (Fd d i) := by
 funext x
 unfold Fd setF
 by_cases h1 : x = j
 ·subst h1;rw [if_pos rfl,swp_right _ _ _ hj]
 ·rw [if_neg h1]
  by_cases h2 : x = i
  ·subst h2;rw [if_pos rfl,swp_left _ _ _ hi h1]
  ·rw [if_neg h2,swp_other _ _ _ _ h2 h1]
theorem mixedK : Tryz.prog.follows .mixedOrders = true := by kernel_rfl
structure StabAt (k : Nat → Nat) (n blk g : Nat) (cb : Array Value) (d0 : Array Nat) (w0 : World) : Prop where
 row : Row1 nv w0 blk 0 d0
 size : d0.size = n
 small : n ≤ 1048576
 eg : ∀ args w,(callFunc g args).run Tryz.prog w = .ok (.enter g args) w
 cmp : ∀ (m : Nat) (os : Array Obj) (dk : Array Nat),dk.size = n → ∀ x y,x < n → y < n →
  Calls Tryz.prog g (#[.int .i64 x,.int .i64 y] ++ cb) (sortWorld nv w0 blk 0 m dk os) fun e w' => e = .returned (.int .i64 ((k x : Int) - k y))∧∃ q os',w' = grow ((sortWorld nv w0 blk 0 m dk os).drewN q) os'
abbrev SWn (w0 : World) (blk : Nat) (dk : Array Nat) (w : World) : Prop := SW nv w0 blk 0 dk w
section
variable {k : Nat → Nat} {n blk g : Nat} {cb : Array Value} {d0 : Array Nat} {w0 : World}
theorem StabAt.cellG (H : StabAt k n blk g cb d0 w0) {dk : Array Nat} {w : World} (hs : dk.size = n) (S : SWn w0 blk dk w) {p : Nat} (hp : p < n) : ∀ (m : Nat) (os : Array Obj), (grow (w.drewN m) os).cell? ⟨blk, p, none⟩ = some (.int .i64 (dk[p]! : Nat)) := fun m os => by
 have h:=S.cl H.row (hs.trans H.size.symm) p (by omega) m os
 rwa [Nat.zero_add] at h
theorem StabAt.cell (H : StabAt k n blk g cb d0 w0) {dk : Array Nat} {w : World} (hs : dk.size = n) (S : SWn w0 blk dk w) {p : Nat} (hp : p < n) : w.cell? ⟨blk, p, none⟩ = some (.int .i64 (dk[p]! : Nat)) := by
 have h:=S.c1 H.row (hs.trans H.size.symm) p (by omega)
 rwa [Nat.zero_add] at h
theorem StabAt.froz (H : StabAt k n blk g cb d0 w0) {dk : Array Nat} {w : World} (hs : dk.size = n) (S : SWn w0 blk dk w) {p : Nat} (hp : p < n) : w.frozen? ⟨blk, p, none⟩ = false := by
 have h:=S.f1 H.row (hs.trans H.size.symm) p (by omega)
 rwa [Nat.zero_add] at h
theorem StabAt.second (H : StabAt k n blk g cb d0 w0) {dk : Array Nat} {w : World} (hs : dk.size = n) (S : SWn w0 blk dk w) {p q : Nat} (hp : p < n) (hq : q < n) (v : Value) : ∃ u, (w.setCell ⟨blk, p, none⟩ v).cell? ⟨blk, q, none⟩ = some u := by
 have h:=S.c2 H.row (hs.trans H.size.symm) p q (by omega) (by omega) v
 rwa [Nat.zero_add,Nat.zero_add] at h
theorem StabAt.swapped (H : StabAt k n blk g cb d0 w0) {dk : Array Nat} {w : World} (hs : dk.size = n) (S : SWn w0 blk dk w) {p q : Nat} (hp : p < n) (hq : q < n) :
  SWn w0 blk (swp dk p q) ((w.setCell ⟨blk,p,none⟩ (.int .i64 (dk[q]! : Nat))).setCell ⟨blk,q,none⟩ (.int .i64 (dk[p]! : Nat))).drew:=by
 have h:=S.swapped H.row p q (by omega) (by omega)
 rwa [Nat.zero_add,Nat.zero_add] at h
theorem StabAt.calls (H : StabAt k n blk g cb d0 w0) {dk : Array Nat} {w : World} (hs : dk.size = n) (S : SWn w0 blk dk w) {x y : Nat} (hx : x < n) (hy : y < n) (m : Nat) (os : Array Obj) :
  Calls Tryz.prog g (#[.int .i64 x,.int .i64 y] ++ cb) (grow (w.drewN m) os) fun e w' => e = .returned (.int .i64 ((k x : Int) - k y))∧∃ q os',w' = grow ((grow (w.drewN m) os).drewN q) os':=by
 obtain ⟨m',os0,hw⟩:=S.grown m os
 rw [hw]
 exact H.cmp m' os0 dk hs x y hx hy
set_option maxHeartbeats 8000000 in
set_option maxRecDepth 100000 in
theorem swpR_any (H : StabAt k n blk g cb d0 w0) (a b m c : Nat) (fv : Value) (dk : Array Nat) (w : World) (hs : dk.size = n) (h1 : a + m ≤ b) (h2 : b + m ≤ n) (S : SWn w0 blk dk w) :
  Calls Tryz.prog 220 #[.slice (some ⟨blk,0,none⟩) n c,.int .i64 a,.int .i64 b,.int .i64 m,fv] w fun e w' => e = .returned (.tuple #[])∧∃ dk',dk'.size = n∧Fd dk' = swpF (Fd dk) a b m∧SWn w0 blk dk' w':=by
 have hn:=H.small
 have mixed:=mixedK
 have HH:=Lib.hid H
 have S0:=Lib.hid S
 clear H S
 go_enter Tryz.func220,Tryz.ntmps220
 go_wp2_with fail
 go_loopw [10] (fun i wr => ∃ (I : Nat) (dj : Array Nat),i = .int .i64 I∧I ≤ m∧Hid (dj.size = n∧Fd dj = swpF (Fd dk) a b I∧SWn w0 blk dj wr)) (fun i _ => m - (intOf i).toNat)
 case atStart => exact ⟨0,dk,by go_num,Nat.zero_le _,hs,(swpF_zero _ _ _).symm,S0.out⟩
 case round =>
  obtain ⟨I,dj,rfl,hI,SJ⟩:=hrel
  by_cases hlt : I < m
  ·obtain ⟨e1,e2,S1⟩:=SJ.out
   obtain ⟨p,hp⟩ : ∃ p,p = a + I:=⟨_,rfl⟩
   obtain ⟨q,hq⟩ : ∃ q,q = b + I:=⟨_,rfl⟩
   have hpn : p < n:=by omega
   have hqn : q < n:=by omega
   obtain ⟨x,hx⟩ : ∃ x,x = dj[p]!:=⟨_,rfl⟩
   obtain ⟨y,hy⟩ : ∃ y,y = dj[q]!:=⟨_,rfl⟩
   have ca:=HH.out.cell e1 S1 hpn
   have cb2:=HH.out.cell e1 S1 hqn
   have fa:=HH.out.froz e1 S1 hpn
   have fb:=HH.out.froz e1 S1 hqn
   obtain ⟨u,cc⟩:=HH.out.second e1 S1 hpn hqn (.int .i64 y)
   have S3:=HH.out.swapped e1 S1 hpn hqn
   rw [← hx] at ca S3
   rw [← hy] at cb2 S3
   have S3:=Lib.hid S3
   have E3 : Hid ((swp dj p q).size = n∧Fd (swp dj p q) = swpF (Fd dk) a b (I + 1)):=⟨by rw [size_swp];exact e1,by rw [Fd_swp (by omega) (by omega),e2,hp,hq,swpF_succ (by omega)]⟩
   have hIi : (I : Int) < m:=by omega
   have wp : IntKind.i64.wrap ((a : Int) + I) = p:=by simp [IntKind.wrap,IntKind.bits,IntKind.signed];omega
   have wq : IntKind.i64.wrap ((b : Int) + I) = q:=by simp [IntKind.wrap,IntKind.bits,IntKind.signed];omega
   have bp : (p : Int) < n:=by omega
   have bq : (q : Int) < n:=by omega
   clear SJ e1 e2 S1 hx hy hp hq
   go_wp2_with fail
   go_big_region_o
   clear ca cb2 fa fb cc
   generalize ((wr.setCell ⟨blk,p,none⟩ (.int .i64 y)).setCell ⟨blk,q,none⟩ (.int .i64 x)).drew = w3 at S3 ⊢
   go_wp2_with fail
   go_roundw
   case rel => exact ⟨I + 1,swp dj p q,by go_num,hlt,E3.out.1,E3.out.2,S3.out⟩
   case measure => simp [intOf];omega
  ·have hIi : ¬ (I : Int) < m:=by omega
   obtain rfl : I = m:=by omega
   go_wp2_with fail
   refine bodyPost_end (v:=.tuple #[]) (by simp [results,Tryz.results220,go_sem]) rfl ⟨rfl,dj,SJ.out⟩
end
end Go.Proofs.YtepoiefadjoabaaGreatDoor
namespace Go.Proofs.YtepoiefadjoabaaGreatDoor
open Go Go.Shelf Go.RowKit Go.Lib Go.Sort
section
variable {k : Nat → Nat} {n blk g : Nat} {cb : Array Value} {d0 : Array Nat} {w0 : World}
set_option maxHeartbeats 1000000 in
set_option maxRecDepth 100000 in
theorem rot_any (H : StabAt k n blk g cb d0 w0) (a m b c : Nat) (fv : Value) (dk : Array Nat) (w : World) (hs : dk.size = n) (h1 : a < m) (h2 : m < b) (h3 : b ≤ n) (S : SWn w0 blk dk w) :
  Calls Tryz.prog 198 #[.slice (some ⟨blk,0,none⟩) n c,.int .i64 a,.int .i64 m,.int .i64 b,fv] w fun e w' => e = .returned (.tuple #[])∧∃ dk',dk'.size = n∧Fd dk' = rotF (Fd dk) a m b∧SWn w0 blk dk' w':=by
 have hn:=H.small
 have HH:=Lib.hid H
 have S0:=Lib.hid S
 obtain ⟨i0,hi0⟩ : ∃ i0,i0 = m - a:=⟨_,rfl⟩
 obtain ⟨j0,hj0⟩ : ∃ j0,j0 = b - m:=⟨_,rfl⟩
 have wi0 : IntKind.i64.wrap ((m : Int) - a) = i0:=by simp [IntKind.wrap,IntKind.bits,IntKind.signed];omega
 have wj0 : IntKind.i64.wrap ((b : Int) - m) = j0:=by simp [IntKind.wrap,IntKind.bits,IntKind.signed];omega
 have hstart : Hid (0 < i0∧0 < j0∧i0 ≤ m∧m + j0 ≤ n∧rotF (Fd dk) (m - i0) m (m + j0) = rotF (Fd dk) a m b):=by
  refine ⟨by omega,by omega,by omega,by omega, ?_⟩
  rw [show m - i0 = a by omega,show m + j0 = b by omega]
 clear H S hi0 hj0
 go_enter Tryz.func198,Tryz.ntmps198
 go_wp2_with fail
 go_loopw [10,11] (fun i j wr => ∃ (I J : Nat) (dj : Array Nat),i = .int .i64 I∧j = .int .i64 J∧0 < I∧0 < J∧I ≤ m∧m + J ≤ n∧Hid (dj.size = n∧rotF (Fd dj) (m - I) m (m + J) = rotF (Fd dk) a m b∧SWn w0 blk dj wr)) (fun i j _ => (intOf i).toNat + (intOf j).toNat)
 case atStart => exact ⟨i0,j0,dk,by go_num,by go_num,hstart.out.1,hstart.out.2.1,hstart.out.2.2.1,hstart.out.2.2.2.1,hs,hstart.out.2.2.2.2,S0.out⟩
 case round =>
  clear wi0 wj0 hstart S0
  obtain ⟨I,J,dj,rfl,rfl,hI,hJ,hIm,hJn,SJ⟩:=hrel
  obtain ⟨p,hp⟩ : ∃ p,p = m - I:=⟨_,rfl⟩
  have wmi : IntKind.i64.wrap ((m : Int) - I) = p:=by simp [IntKind.wrap,IntKind.bits,IntKind.signed];omega
  rcases Nat.lt_trichotomy I J with hlt | heq | hgt
  ·have c1 : ¬ (I : Int) = J:=by omega
   have c2 : ¬ (J : Int) < I:=by omega
   obtain ⟨s,hs1⟩ : ∃ s,s = m + J:=⟨_,rfl⟩
   obtain ⟨q,hq⟩ : ∃ q,q = s - I:=⟨_,rfl⟩
   obtain ⟨J',hJ'⟩ : ∃ q,q = J - I:=⟨_,rfl⟩
   have wmj : IntKind.i64.wrap ((m : Int) + J) = s:=by simp [IntKind.wrap,IntKind.bits,IntKind.signed];omega
   have wmji : IntKind.i64.wrap ((s : Int) - I) = q:=by simp [IntKind.wrap,IntKind.bits,IntKind.signed];omega
   have wji : IntKind.i64.wrap ((J : Int) - I) = J':=by simp [IntKind.wrap,IntKind.bits,IntKind.signed];omega
   have CS:=Lib.hid (swpR_any HH.out p q I c fv dj wr SJ.out.1 (by omega) (by omega) SJ.out.2.2)
   have HP:=Lib.hid hp
   have HQ : Hid (q = m + J - I):=by show _ = _;omega
   have HJ':=Lib.hid hJ'
   clear hp hs1 hq hJ'
   go_wp2_with fail
   refine CS.out.mono ?_
   rintro e w3 ⟨rfl,d2,f1,f2,S3⟩
   have E3 : Hid (rotF (Fd d2) (m - I) m (m + (J - I)) = rotF (Fd dk) a m b):=by
    show _ = _;rw [f2,HP.out,HQ.out,rot_small hIm hlt];exact SJ.out.2.1
   have S3:=Lib.hid S3
   have F1:=Lib.hid f1
   clear CS f1 f2 SJ
   go_wp2_with fail
   go_roundw
   case rel => exact ⟨I,J',d2,by go_num,by go_num,hI,by have:=HJ'.out;omega,hIm,by have:=HJ'.out;omega,F1.out,by rw [HJ'.out];exact E3.out,S3.out⟩
   case measure => have:=HJ'.out;simp [intOf];omega
  ·subst heq
   have CS:=Lib.hid (swpR_any HH.out p m I c fv dj wr SJ.out.1 (by omega) (by omega) SJ.out.2.2)
   have HP:=Lib.hid hp
   clear hp
   go_wp2_with fail
   refine CS.out.mono ?_
   rintro e w3 ⟨rfl,d2,f1,f2,S3⟩
   go_wp2_with fail
   refine bodyPost_end (v:=.tuple #[]) (by simp [results,Tryz.results198,go_sem]) rfl ⟨rfl,d2,f1, ?_,S3⟩
   rw [f2,HP.out,rot_even hIm,SJ.out.2.1]
  ·have c1 : ¬ (I : Int) = J:=by omega
   have c2 : (J : Int) < I:=by omega
   obtain ⟨I',hI'⟩ : ∃ q,q = I - J:=⟨_,rfl⟩
   have wij : IntKind.i64.wrap ((I : Int) - J) = I':=by simp [IntKind.wrap,IntKind.bits,IntKind.signed];omega
   have CS:=Lib.hid (swpR_any HH.out p m J c fv dj wr SJ.out.1 (by omega) (by omega) SJ.out.2.2)
   have HP:=Lib.hid hp
   have HI':=Lib.hid hI'
   clear hp hI'
   go_wp2_with fail
   refine CS.out.mono ?_
   rintro e w3 ⟨rfl,d2,f1,f2,S3⟩
   have E3 : Hid (rotF (Fd d2) (m - (I - J)) m (m + J) = rotF (Fd dk) a m b):=by
    show _ = _;rw [f2,HP.out,rot_big hIm hgt];exact SJ.out.2.1
   have S3:=Lib.hid S3
   have F1:=Lib.hid f1
   clear CS f1 f2 SJ
   go_wp2_with fail
   go_roundw
   case rel => exact ⟨I',J,d2,by go_num,by go_num,by have:=HI'.out;omega,hJ,by have:=HI'.out;omega,hJn,F1.out,by rw [HI'.out];exact E3.out,S3.out⟩
   case measure => have:=HI'.out;simp [intOf];omega
end
end Go.Proofs.YtepoiefadjoabaaGreatDoor
namespace Go.Proofs.YtepoiefadjoabaaGreatDoor
open Go Go.Shelf Go.RowKit Go.Lib Go.Sort
theorem Same.bnd {D D' : Nat → Nat} {a b n : Nat} (h : Same D D' a b) (hb : b ≤ n) (hD : ∀ i, i < n → D i < n) : ∀ i, i < n → D' i < n := fun i hi => by
 by_cases hw : a ≤ i∧i < b
 ·obtain ⟨j,_,j2,e⟩:=h.fro i hw.1 hw.2
  rw [e];exact hD j (by omega)
 ·rw [h.out i (by omega)];exact hD i hi
section
variable {k : Nat → Nat} {n blk g : Nat} {cb : Array Value} {d0 : Array Nat} {w0 : World}
set_option maxHeartbeats 4000000 in
set_option maxRecDepth 100000 in
theorem ins_any (H : StabAt k n blk g cb d0 w0) (a b c : Nat) (dk : Array Nat) (w : World) (hs : dk.size = n) (hb : b ≤ n) (ha : a ≤ n) (hbd : ∀ i, i < n → Fd dk i < n) (hid : ∀ i, a ≤ i → i < b → Fd dk i = i) (S : SWn w0 blk dk w) :
  Calls Tryz.prog 148 #[.slice (some ⟨blk,0,none⟩) n c,.int .i64 a,.int .i64 b,.func (.func g) #[] cb] w fun e w' => e = .returned (.tuple #[])∧∃ dk',dk'.size = n∧Same (Fd dk) (Fd dk') a b∧Srt k (Fd dk') a b∧SWn w0 blk dk' w':=by
 have hn:=H.small
 have mixed:=mixedK
 have eg:=H.eg
 have HH:=Lib.hid H
 have S0:=Lib.hid S
 have HID:=Lib.hid hid
 have HBD:=Lib.hid hbd
 have wa1 : IntKind.i64.wrap ((a : Int) + 1) = (a + 1 : Nat):=by simp [IntKind.wrap,IntKind.bits,IntKind.signed];omega
 clear H S hid hbd
 go_enter Tryz.func148,Tryz.ntmps148
 go_wp2_with fail
 go_loopw [8] (fun i wr => ∃ (I : Nat) (dj : Array Nat),i = .int .i64 I∧a < I∧Hid (dj.size = n∧(a < b → I ≤ b∧Same (Fd dk) (Fd dj) a I∧Srt k (Fd dj) a I)∧(¬ a < b → dj = dk)∧SWn w0 blk dj wr)) (fun i _ => b - (intOf i).toNat)
 case atStart => exact ⟨a + 1,dk,by go_num,by omega,hs,fun h => ⟨h,Same.refl _ _ _,fun i j i1 i2 i3 => by omega⟩,fun _ => rfl,S0.out⟩
 case round =>
  clear S0 wa1
  obtain ⟨I,dj,rfl,haI,SJ⟩:=hrel
  by_cases hlt : I < b
  ·have hIi : (I : Int) < b:=by omega
   obtain ⟨e1,e2,_,S1⟩:=SJ.out
   obtain ⟨_,e3,e4⟩:=e2 (by omega)
   have E3:=Lib.hid e3
   have E4:=Lib.hid e4
   have HX : Hid (Fd dj I = I):=by show _ = _;rw [e3.out I (Or.inr (Nat.le_refl _))];exact HID.out I (by omega) hlt
   have HL : Hid (∀ j,a ≤ j → j < I → Fd dj j < I):=fun j j1 j2 => by
    obtain ⟨j',p1,p2,p3⟩:=E3.out.fro j j1 j2
    rw [p3,HID.out j' p1 (by omega)];exact p2
   have S1:=Lib.hid S1
   have wI1 : IntKind.i64.wrap ((I : Int) + 1) = (I + 1 : Nat):=by simp [IntKind.wrap,IntKind.bits,IntKind.signed];omega
   clear SJ e2 e3 e4
   go_wp2_with fail
   go_loopw [9] (fun j wq => ∃ (J : Nat) (dq : Array Nat),j = .int .i64 J∧a ≤ J∧J ≤ I∧Hid (dq.size = n∧Fd dq = rotF (Fd dj) J I (I + 1)∧(∀ c,J ≤ c → c < I → ltK k (Fd dj I) (Fd dj c))∧SWn w0 blk dq wq)) (fun j _ => (intOf j).toNat)
   case atStart => exact ⟨I,dj,rfl,by omega,Nat.le_refl _,e1,(by rw [show rotF (Fd dj) I I (I + 1) = Fd dj from rotF_left (by omega)]),fun c c1 c2 => by omega,S1.out⟩
   case round =>
    clear S1
    obtain ⟨J,dq,rfl,haJ,hJI,SQ⟩:=hrel
    by_cases hja : a < J
    ·have hjai : (a : Int) < J:=by omega
     obtain ⟨q1,q2,q3,SW1⟩:=SQ.out
     obtain ⟨p,hp⟩ : ∃ p,p = J - 1:=⟨_,rfl⟩
     have hpn : p < n:=by omega
     have hJn : J < n:=by omega
     have hpi : (p : Int) < n:=by omega
     have hJi : (J : Int) < n:=by omega
     have wp : IntKind.i64.wrap ((J : Int) - 1) = p:=by simp [IntKind.wrap,IntKind.bits,IntKind.signed];omega
     obtain ⟨x,hx⟩ : ∃ x,x = dq[J]!:=⟨_,rfl⟩
     obtain ⟨y,hy⟩ : ∃ y,y = dq[p]!:=⟨_,rfl⟩
     have ex : x = Fd dj I:=by
      rw [hx];show Fd dq J = _;rw [q2,rotF_1 (Nat.le_refl _) (by omega)];congr 1;omega
     have ey : y = Fd dj p:=by
      rw [hy];show Fd dq p = _;rw [q2,rotF_lo (by omega)]
     have hyx : y < x:=by rw [ex,ey,HX.out];exact HL.out p (by omega) (by omega)
     have hxn : x < n:=by rw [ex,HX.out];omega
     have la:=HH.out.cellG q1 SW1 hJn
     have lb:=HH.out.cellG q1 SW1 hpn
     rw [← hx] at la
     rw [← hy] at lb
     have hc:=HH.out.calls q1 SW1 hxn (show y < n by omega)
     obtain ⟨C,hC⟩ : ∃ C : Int,C = (k x : Int) - k y:=⟨_,rfl⟩
     rw [← hC] at hc
     by_cases hlt2 : k x < k y
     ·have hv : C < 0:=by omega
      have hd : decide (C < 0) = true:=decide_eq_true hv
      have LT : Hid (ltK k (Fd dj I) (Fd dj p)):=by show ltK _ _ _;rw [← ex,← ey];exact (ltK_key hyx).2 hlt2
      have HXY : Hid (x = dq[J]!∧y = dq[p]!):=⟨hx,hy⟩
      have SS:=Lib.hid SW1
      have HPJ:=Lib.hid hp
      clear hx hy ex ey hC hlt2 q2 q3 hp SW1 hyx
      go_wp2_with fail
      go_quiet_grown (first | (go_at_fn g;refine Calls.grown_of (hc _ _)))
      have S2 : Hid (SWn w0 blk dq (grow (wr.drewN nq) osq)):=SS.out.grown nq osq
      clear la lb hc SS
      generalize grow (wr.drewN nq) osq = w2 at S2 ⊢
      clear nq osq
      go_wp2_with fail
      have ca:=HH.out.cell q1 S2.out hJn
      have cb2:=HH.out.cell q1 S2.out hpn
      have fa:=HH.out.froz q1 S2.out hJn
      have fb:=HH.out.froz q1 S2.out hpn
      obtain ⟨u,cc⟩:=HH.out.second q1 S2.out hJn hpn (.int .i64 y)
      have S3:=HH.out.swapped q1 S2.out hJn hpn
      rw [← HXY.out.1] at ca S3
      rw [← HXY.out.2] at cb2 S3
      replace S3:=Lib.hid S3
      have E5 : Hid ((swp dq J p).size = n∧Fd (swp dq J p) = rotF (Fd dj) p I (I + 1)∧(∀ c,p ≤ c → c < I → ltK k (Fd dj I) (Fd dj c))):=by
       obtain ⟨_,q2,q3,_⟩:=SQ.out
       refine ⟨by rw [size_swp];exact q1, ?_,fun c c1 c2 => ?_⟩
       ·have hp:=HPJ.out
        rw [Fd_swp (by omega) (by omega),q2,hp]
        exact rot_down (by omega) hJI
       ·rcases Nat.lt_or_ge c J with h | h
        ·rw [show c = p by have:=HPJ.out;omega];exact LT.out
        ·exact q3 c h c2
      clear S2 HXY SQ
      go_wp2_with fail
      go_big_region_o
      clear ca cb2 fa fb cc
      generalize ((w2.setCell ⟨blk,J,none⟩ (.int .i64 y)).setCell ⟨blk,p,none⟩ (.int .i64 x)).drew = w3 at S3 ⊢
      go_wp2_with fail
      go_roundw
      case rel => exact ⟨p,swp dq J p,by go_num,by have:=HPJ.out;omega,by have:=HPJ.out;omega,E5.out.1,E5.out.2.1,E5.out.2.2,S3.out⟩
      case measure => have:=HPJ.out;simp [intOf];omega
     ·have hv : ¬ C < 0:=by omega
      have hd : decide (C < 0) = false:=decide_eq_false hv
      have LT : Hid (ltK k (Fd dj p) (Fd dj I)):=by show ltK _ _ _;rw [← ex,← ey];exact (ltK_key2 hyx).2 hlt2
      have SS:=Lib.hid SW1
      have HPJ:=Lib.hid hp
      clear hx hy ex ey hC hlt2 q2 q3 hp SW1 hyx
      go_wp2_with fail
      go_quiet_grown (first | (go_at_fn g;refine Calls.grown_of (hc _ _)))
      have S2 : Hid (SWn w0 blk dq (grow (wr.drewN nq) osq)):=SS.out.grown nq osq
      clear la lb hc SS
      generalize grow (wr.drewN nq) osq = w2 at S2 ⊢
      clear nq osq
      have FIN : Hid (Same (Fd dk) (Fd dq) a (I + 1)∧Srt k (Fd dq) a (I + 1)):=by
       obtain ⟨_,q2,q3,_⟩:=SQ.out
       rw [q2]
       refine ⟨(E3.out.wide (Nat.le_refl _) (by omega)).trans ((same_rot hJI (by omega)).wide haJ (Nat.le_refl _)),ins_down E4.out haJ hJI (fun c c1 c2 => ?_) q3⟩
       exact E4.out.ge c1 (by have:=HPJ.out;omega) (by have:=HPJ.out;omega) LT.out
      go_wp2_with fail
      go_roundw
      case rel => exact ⟨I + 1,dq,by go_num,by omega,q1,fun _ => ⟨hlt,FIN.out.1,FIN.out.2⟩,fun h => by omega,S2.out⟩
      case measure => simp [intOf];omega
    ·have hjai : ¬ (a : Int) < J:=by omega
     obtain ⟨q1,q2,q3,SW1⟩:=SQ.out
     have FIN : Hid (Same (Fd dk) (Fd dq) a (I + 1)∧Srt k (Fd dq) a (I + 1)):=by
      rw [q2]
      refine ⟨(E3.out.wide (Nat.le_refl _) (by omega)).trans ((same_rot hJI (by omega)).wide haJ (Nat.le_refl _)),ins_down E4.out haJ hJI (fun c c1 c2 => by omega) q3⟩
     have hjad : decide ((J : Int) > (a : Int)) = false:=decide_eq_false (by omega)
     have S3 : Hid (SWn w0 blk dq wr.drew):=SW1.drew
     clear SQ q2 q3 SW1
     go_wp2_with fail
     go_big_region_o
     generalize wr.drew = w2 at S3 ⊢
     go_wp2_with fail
     go_roundw
     case rel => exact ⟨I + 1,dq,by go_num,by omega,q1,fun _ => ⟨hlt,FIN.out.1,FIN.out.2⟩,fun h => by omega,S3.out⟩
     case measure => simp [intOf];omega
  ·have hIi : ¬ (I : Int) < b:=by omega
   obtain ⟨e1,e2,e3,S1⟩:=SJ.out
   have FIN : Hid (Same (Fd dk) (Fd dj) a b∧Srt k (Fd dj) a b):=by
    by_cases hab : a < b
    ·obtain ⟨e4,e5,e6⟩:=e2 hab
     rw [show b = I by omega];exact ⟨e5,e6⟩
    ·rw [e3 hab];exact ⟨Same.refl _ _ _,fun i j i1 i2 i3 => by omega⟩
   clear SJ e2 e3
   go_wp2_with fail
   refine bodyPost_end (v:=.tuple #[]) (by simp [results,Tryz.results148,go_sem]) rfl ⟨rfl,dj,e1,FIN.out.1,FIN.out.2,S1⟩
end
end Go.Proofs.YtepoiefadjoabaaGreatDoor
namespace Go.Proofs.YtepoiefadjoabaaGreatDoor
open Go Go.Shelf Go.RowKit Go.Lib Go.Sort
section
variable {k : Nat → Nat} {n blk g : Nat} {cb : Array Value} {d0 : Array Nat} {w0 : World}
structure SymPre (k : Nat → Nat) (D : Nat → Nat) (a m b n : Nat) : Prop where
 am : a < m
 mb : m < b
 bn : b ≤ n
 bnd : ∀ i,i < n → D i < n
 s1 : Srt k D a m
 s2 : Srt k D m b
 ap : Apt D a m b
def SymPost (k : Nat → Nat) (n blk : Nat) (w0 : World) (dk : Array Nat) (a b : Nat) (e : Ending) (w' : World) : Prop :=
 e = .returned (.tuple #[])∧∃ dk',dk'.size = n∧Same (Fd dk) (Fd dk') a b∧Srt k (Fd dk') a b∧SWn w0 blk dk' w'
set_option maxHeartbeats 4000000 in
set_option maxRecDepth 100000 in
theorem sym1_any (H : StabAt k n blk g cb d0 w0) (a m b c : Nat) (dk : Array Nat) (w : World) (hs : dk.size = n) (hp : SymPre k (Fd dk) a m b n) (h1 : m - a = 1) (S : SWn w0 blk dk w) :
  Calls Tryz.prog 149 #[.slice (some ⟨blk,0,none⟩) n c,.int .i64 a,.int .i64 m,.int .i64 b,.func (.func g) #[] cb] w (SymPost k n blk w0 dk a b):=by
 have hn:=H.small
 have mixed:=mixedK
 have eg:=H.eg
 have HH:=Lib.hid H
 have S0:=Lib.hid S
 obtain ⟨h2,h3,h4,hbd,s1,s2,ap⟩:=hp
 have HBD:=Lib.hid hbd
 have HS2:=Lib.hid s2
 have HAP:=Lib.hid ap
 have wm : IntKind.i64.wrap ((m : Int) - a) = 1:=by simp [IntKind.wrap,IntKind.bits,IntKind.signed];omega
 have HM : Hid (m = a + 1):=by show _ = _;omega
 clear H S hbd s1 s2 ap h1
 have han : a < n:=by omega
 have hai : (a : Int) < n:=by omega
 go_enter Tryz.func149,Tryz.ntmps149
 go_wp2_with fail
 go_loopw [10,11] (fun i j wr => ∃ (I J : Nat),i = .int .i64 I∧j = .int .i64 J∧m ≤ I∧I ≤ J∧J ≤ b∧Hid ((∀ c,m ≤ c → c < I → k (Fd dk c) < k (Fd dk a))∧(∀ c,J ≤ c → c < b → ¬ k (Fd dk c) < k (Fd dk a))∧SWn w0 blk dk wr)) (fun i j _ => (intOf j).toNat - (intOf i).toNat)
 case atStart => exact ⟨m,b,rfl,rfl,Nat.le_refl _,by omega,Nat.le_refl _,fun c c1 c2 => by omega,fun c c1 c2 => by omega,S0.out⟩
 case round =>
  clear S0 wm
  obtain ⟨I,J,rfl,rfl,haI,hIJ,hJb,SJ⟩:=hrel
  by_cases hlt : I < J
  ·have hlti : (I : Int) < J:=by omega
   obtain ⟨h,hh⟩ : ∃ h,h = (I + J) / 2:=⟨_,rfl⟩
   have eh : ((I : Int) + J) / 2 = h:=by omega
   have hhn : h < n:=by omega
   have hhi : (h : Int) < n:=by omega
   have wh : IntKind.i64.wrap ((h : Int) + 1) = (h + 1 : Nat):=by simp [IntKind.wrap,IntKind.bits,IntKind.signed];omega
   obtain ⟨x,hx⟩ : ∃ x,x = dk[h]!:=⟨_,rfl⟩
   obtain ⟨y,hy⟩ : ∃ y,y = dk[a]!:=⟨_,rfl⟩
   obtain ⟨q1,q2,SW1⟩:=SJ.out
   have la:=HH.out.cellG hs SW1 hhn
   have lb:=HH.out.cellG hs SW1 han
   rw [← hx] at la
   rw [← hy] at lb
   have hc:=HH.out.calls hs SW1 (show x < n by rw [hx];exact HBD.out h hhn) (show y < n by rw [hy];exact HBD.out a han)
   obtain ⟨C,hC⟩ : ∃ C : Int,C = (k x : Int) - k y:=⟨_,rfl⟩
   rw [← hC] at hc
   have SS:=Lib.hid SW1
   have MONO : Hid (∀ c c',m ≤ c → c ≤ c' → c' < b → k (Fd dk c') < k (Fd dk a) → k (Fd dk c) < k (Fd dk a)):=fun c c' c1 c2 c3 c4 => by
    rw [← ltK_key (HAP.out a c' (Nat.le_refl _) (by omega) (by omega) c3)] at c4
    rw [← ltK_key (HAP.out a c (Nat.le_refl _) (by omega) (by omega) (by omega))]
    exact HS2.out.ge c1 c2 c3 c4
   by_cases hlt2 : k x < k y
   ·have hv : C < 0:=by omega
    have hd : decide (C < 0) = true:=decide_eq_true hv
    have Q1 : Hid (∀ c,m ≤ c → c < h + 1 → k (Fd dk c) < k (Fd dk a)):=fun c c1 c2 => MONO.out c h c1 (by omega) (by omega) (by rw [hx,hy] at hlt2;exact hlt2)
    have Q2:=Lib.hid q2
    have hHb : I ≤ h∧h < J:=by omega
    clear SJ q1 q2 hx hy hC hlt2 SW1 MONO hh
    go_wp2_with fail
    go_quiet_grown (first | (go_at_fn g;refine Calls.grown_of (hc _ _)))
    have S2 : Hid (SWn w0 blk dk (grow (wr.drewN nq) osq)):=SS.out.grown nq osq
    clear la lb hc SS
    generalize grow (wr.drewN nq) osq = w2 at S2 ⊢
    clear nq osq
    go_wp2_with fail
    go_roundw
    case rel => exact ⟨h + 1,J,by go_num,rfl,by omega,by omega,hJb,Q1.out,Q2.out,S2.out⟩
    case measure => simp [intOf];omega
   ·have hv : ¬ C < 0:=by omega
    have hd : decide (C < 0) = false:=decide_eq_false hv
    have Q2 : Hid (∀ c,h ≤ c → c < b → ¬ k (Fd dk c) < k (Fd dk a)):=fun c c1 c2 h2 => by
     have:=MONO.out h c (by omega) c1 c2 h2
     rw [hx,hy] at hlt2;exact hlt2 this
    have Q1:=Lib.hid q1
    have hHb : I ≤ h∧h < J:=by omega
    clear SJ q1 q2 hx hy hC hlt2 SW1 MONO hh
    go_wp2_with fail
    go_quiet_grown (first | (go_at_fn g;refine Calls.grown_of (hc _ _)))
    have S2 : Hid (SWn w0 blk dk (grow (wr.drewN nq) osq)):=SS.out.grown nq osq
    clear la lb hc SS
    generalize grow (wr.drewN nq) osq = w2 at S2 ⊢
    clear nq osq
    go_wp2_with fail
    go_roundw
    case rel => exact ⟨I,h,rfl,by go_num,haI,by omega,by omega,Q1.out,Q2.out,S2.out⟩
    case measure => simp [intOf];omega
  ·have hlti : ¬ (I : Int) < J:=by omega
   obtain rfl : I = J:=by omega
   have wI : IntKind.i64.wrap ((I : Int) - 1) = (I - 1 : Nat):=by simp [IntKind.wrap,IntKind.bits,IntKind.signed];omega
   obtain ⟨I1,hI1⟩ : ∃ q,q = I - 1:=⟨_,rfl⟩
   rw [← hI1] at wI
   obtain ⟨q1,q2,SW1⟩:=SJ.out
   have S2:=Lib.hid SW1
   have haI2 : a < I:=by omega
   have FIN : Hid (Srt k (rotF (Fd dk) a (a + 1) I) a b):=ins_up (HM.out ▸ HS2.out) haI2 hJb
    (fun c c1 c2 => (ltK_key (HAP.out a c (Nat.le_refl _) (by omega) (by have:=HM.out;omega) (by omega))).2 (q1 c (by have:=HM.out;omega) c2))
    (fun c c1 c2 => (ltK_key2 (HAP.out a c (Nat.le_refl _) (by omega) (by omega) c2)).2 (q2 c c1 c2))
   have HI1:=Lib.hid hI1
   clear SJ q1 q2 SW1 hI1
   go_wp2_with fail
   go_loopw [13] (fun v wr => ∃ (K : Nat) (dj : Array Nat),v = .int .i64 K∧a ≤ K∧K ≤ I1∧Hid (dj.size = n∧Fd dj = rotF (Fd dk) a (a + 1) (K + 1)∧SWn w0 blk dj wr)) (fun v _ => I - (intOf v).toNat)
   case atStart => exact ⟨a,dk,rfl,Nat.le_refl _,by have:=HI1.out;omega,hs,rotF_right.symm,S2.out⟩
   case round =>
    clear S2
    obtain ⟨K,dj,rfl,haK,hKI,SQ⟩:=hrel
    by_cases hk : K < I1
    ·have hki : (K : Int) < I1:=by omega
     obtain ⟨e1,e2,S1⟩:=SQ.out
     have hI1:=HI1.out
     obtain ⟨q,hq⟩ : ∃ q,q = K + 1:=⟨_,rfl⟩
     have hpn : K < n:=by omega
     have hqn : q < n:=by omega
     obtain ⟨x,hx⟩ : ∃ x,x = dj[K]!:=⟨_,rfl⟩
     obtain ⟨y,hy⟩ : ∃ y,y = dj[q]!:=⟨_,rfl⟩
     have ca:=HH.out.cell e1 S1 hpn
     have cb2:=HH.out.cell e1 S1 hqn
     have fa:=HH.out.froz e1 S1 hpn
     have fb:=HH.out.froz e1 S1 hqn
     obtain ⟨u,cc⟩:=HH.out.second e1 S1 hpn hqn (.int .i64 y)
     have S3:=HH.out.swapped e1 S1 hpn hqn
     rw [← hx] at ca S3
     rw [← hy] at cb2 S3
     replace S3:=Lib.hid S3
     have E3 : Hid ((swp dj K q).size = n∧Fd (swp dj K q) = rotF (Fd dk) a (a + 1) (K + 1 + 1)):=⟨by rw [size_swp];exact e1,by rw [Fd_swp (by omega) (by omega),e2,hq];exact rot_up haK⟩
     have wq : IntKind.i64.wrap ((K : Int) + 1) = q:=by simp [IntKind.wrap,IntKind.bits,IntKind.signed];omega
     have bp : (K : Int) < n:=by omega
     have bq : (q : Int) < n:=by omega
     have HQ:=Lib.hid hq
     clear SQ e1 e2 S1 hx hy hq hI1
     go_wp2_with fail
     go_big_region_o
     clear ca cb2 fa fb cc
     generalize ((wr.setCell ⟨blk,K,none⟩ (.int .i64 y)).setCell ⟨blk,q,none⟩ (.int .i64 x)).drew = w3 at S3 ⊢
     go_wp2_with fail
     go_roundw
     case rel => exact ⟨q,swp dj K q,by go_num,by have:=HQ.out;omega,by have:=HQ.out;omega,E3.out.1,by rw [HQ.out];exact HQ.out ▸ E3.out.2,S3.out⟩
     case measure => have:=HQ.out;have:=HI1.out;simp [intOf];omega
    ·have hki : ¬ (K : Int) < I1:=by omega
     obtain ⟨e1,e2,S1⟩:=SQ.out
     have hKe : K + 1 = I:=by have:=HI1.out;omega
     rw [hKe] at e2
     have FIN2 : Hid (Same (Fd dk) (Fd dj) a b∧Srt k (Fd dj) a b):=by
      rw [e2]
      exact ⟨(same_rot (by omega) haI2).wide (Nat.le_refl _) hJb,FIN.out⟩
     clear SQ e2 FIN hKe
     go_wp2_with fail
     refine bodyPost_ret (v:=.tuple #[]) (by simp [results,Tryz.results149,go_sem]) rfl ⟨rfl,dj,e1,FIN2.out.1,FIN2.out.2,S1⟩
end
end Go.Proofs.YtepoiefadjoabaaGreatDoor
namespace Go.Proofs.YtepoiefadjoabaaGreatDoor
open Go Go.Shelf Go.RowKit Go.Lib Go.Sort
section
variable {k : Nat → Nat} {n blk g : Nat} {cb : Array Value} {d0 : Array Nat} {w0 : World}
set_option maxHeartbeats 4000000 in
set_option maxRecDepth 100000 in
theorem sym2_any (H : StabAt k n blk g cb d0 w0) (a m b c : Nat) (dk : Array Nat) (w : World) (hs : dk.size = n) (hp : SymPre k (Fd dk) a m b n) (h0 : m - a ≠ 1) (h1 : b - m = 1) (S : SWn w0 blk dk w) :
  Calls Tryz.prog 149 #[.slice (some ⟨blk,0,none⟩) n c,.int .i64 a,.int .i64 m,.int .i64 b,.func (.func g) #[] cb] w (SymPost k n blk w0 dk a b):=by
 have hn:=H.small
 have mixed:=mixedK
 have eg:=H.eg
 have HH:=Lib.hid H
 have S0:=Lib.hid S
 obtain ⟨h2,h3,h4,hbd,s1,s2,ap⟩:=hp
 have HBD:=Lib.hid hbd
 have HS1:=Lib.hid s1
 have HAP:=Lib.hid ap
 obtain ⟨d,hd⟩ : ∃ d,d = m - a:=⟨_,rfl⟩
 have wma : IntKind.i64.wrap ((m : Int) - a) = d:=by simp [IntKind.wrap,IntKind.bits,IntKind.signed];omega
 have hd1 : ¬ (d : Int) = 1:=by omega
 have wm : IntKind.i64.wrap ((b : Int) - m) = 1:=by simp [IntKind.wrap,IntKind.bits,IntKind.signed];omega
 have HM : Hid (b = m + 1):=by show _ = _;omega
 clear H S hbd s1 s2 ap h1 h0 hd
 have hmn : m < n:=by omega
 have hmi : (m : Int) < n:=by omega
 go_enter Tryz.func149,Tryz.ntmps149
 go_wp2_with fail
 have hz : ((d : Int) == 1) = false:=by simpa using hd1
 rw [hz]
 clear hz
 go_loopw [14,15] (fun i j wr => ∃ (I J : Nat),i = .int .i64 I∧j = .int .i64 J∧a ≤ I∧I ≤ J∧J ≤ m∧Hid ((∀ c,a ≤ c → c < I → ¬ k (Fd dk m) < k (Fd dk c))∧(∀ c,J ≤ c → c < m → k (Fd dk m) < k (Fd dk c))∧SWn w0 blk dk wr)) (fun i j _ => (intOf j).toNat - (intOf i).toNat)
 case atStart => exact ⟨a,m,rfl,rfl,Nat.le_refl _,by omega,Nat.le_refl _,fun c c1 c2 => by omega,fun c c1 c2 => by omega,S0.out⟩
 case round =>
  clear S0 wm wma hd1
  obtain ⟨I,J,rfl,rfl,haI,hIJ,hJb,SJ⟩:=hrel
  by_cases hlt : I < J
  ·have hlti : (I : Int) < J:=by omega
   obtain ⟨h,hh⟩ : ∃ h,h = (I + J) / 2:=⟨_,rfl⟩
   have eh : ((I : Int) + J) / 2 = h:=by omega
   have hhn : h < n:=by omega
   have hhi : (h : Int) < n:=by omega
   have wh : IntKind.i64.wrap ((h : Int) + 1) = (h + 1 : Nat):=by simp [IntKind.wrap,IntKind.bits,IntKind.signed];omega
   obtain ⟨x,hx⟩ : ∃ x,x = dk[m]!:=⟨_,rfl⟩
   obtain ⟨y,hy⟩ : ∃ y,y = dk[h]!:=⟨_,rfl⟩
   obtain ⟨q1,q2,SW1⟩:=SJ.out
   have la:=HH.out.cellG hs SW1 hmn
   have lb:=HH.out.cellG hs SW1 hhn
   rw [← hx] at la
   rw [← hy] at lb
   have hc:=HH.out.calls hs SW1 (show x < n by rw [hx];exact HBD.out m hmn) (show y < n by rw [hy];exact HBD.out h hhn)
   obtain ⟨C,hC⟩ : ∃ C : Int,C = (k x : Int) - k y:=⟨_,rfl⟩
   rw [← hC] at hc
   have SS:=Lib.hid SW1
   have MONO : Hid (∀ c c',a ≤ c → c ≤ c' → c' < m → k (Fd dk m) < k (Fd dk c) → k (Fd dk m) < k (Fd dk c')):=fun c c' c1 c2 c3 c4 => by
    have hm1:=HM.out
    rw [← ltK_key (HAP.out c m c1 (by omega) (Nat.le_refl _) (by omega))] at c4
    rw [← ltK_key (HAP.out c' m (by omega) c3 (Nat.le_refl _) (by omega))]
    exact HS1.out.le c1 c2 c3 c4
   by_cases hlt2 : k x < k y
   ·have hv : C < 0:=by omega
    have hd : decide (C < 0) = true:=decide_eq_true hv
    have Q2 : Hid (∀ c,h ≤ c → c < m → k (Fd dk m) < k (Fd dk c)):=fun c c1 c2 => MONO.out h c (by omega) c1 c2 (by rw [hx,hy] at hlt2;exact hlt2)
    have Q1:=Lib.hid q1
    have hHb : I ≤ h∧h < J:=by omega
    clear SJ q1 q2 hx hy hC hlt2 SW1 MONO hh
    go_wp2_with fail
    go_quiet_grown (first | (go_at_fn g;refine Calls.grown_of (hc _ _)))
    have S2 : Hid (SWn w0 blk dk (grow (wr.drewN nq) osq)):=SS.out.grown nq osq
    clear la lb hc SS
    generalize grow (wr.drewN nq) osq = w2 at S2 ⊢
    clear nq osq
    go_wp2_with fail
    go_roundw
    case rel => exact ⟨I,h,rfl,by go_num,haI,by omega,by omega,Q1.out,Q2.out,S2.out⟩
    case measure => simp [intOf];omega
   ·have hv : ¬ C < 0:=by omega
    have hd : decide (C < 0) = false:=decide_eq_false hv
    have Q1 : Hid (∀ c,a ≤ c → c < h + 1 → ¬ k (Fd dk m) < k (Fd dk c)):=fun c c1 c2 h2 => by
     have:=MONO.out c h c1 (by omega) (by omega) h2
     rw [hx,hy] at hlt2;exact hlt2 this
    have Q2:=Lib.hid q2
    have hHb : I ≤ h∧h < J:=by omega
    clear SJ q1 q2 hx hy hC hlt2 SW1 MONO hh
    go_wp2_with fail
    go_quiet_grown (first | (go_at_fn g;refine Calls.grown_of (hc _ _)))
    have S2 : Hid (SWn w0 blk dk (grow (wr.drewN nq) osq)):=SS.out.grown nq osq
    clear la lb hc SS
    generalize grow (wr.drewN nq) osq = w2 at S2 ⊢
    clear nq osq
    go_wp2_with fail
    go_roundw
    case rel => exact ⟨h + 1,J,by go_num,rfl,by omega,by omega,hJb,Q1.out,Q2.out,S2.out⟩
    case measure => simp [intOf];omega
  ·have hlti : ¬ (I : Int) < J:=by omega
   obtain rfl : I = J:=by omega
   obtain ⟨q1,q2,SW1⟩:=SJ.out
   have S2:=Lib.hid SW1
   have FIN : Hid (Srt k (rotF (Fd dk) I m (m + 1)) a b):=by
    rw [HM.out]
    have hm1:=HM.out
    exact ins_down HS1.out haI hJb
     (fun c c1 c2 => (ltK_key2 (HAP.out c m c1 (by omega) (Nat.le_refl _) (by omega))).2 (q1 c c1 c2))
     (fun c c1 c2 => (ltK_key (HAP.out c m (by omega) c2 (Nat.le_refl _) (by omega))).2 (q2 c c1 c2))
   clear SJ q1 q2 SW1
   go_wp2_with fail
   go_loopw [17] (fun v wr => ∃ (K : Nat) (dj : Array Nat),v = .int .i64 K∧I ≤ K∧K ≤ m∧Hid (dj.size = n∧Fd dj = rotF (Fd dk) K m (m + 1)∧SWn w0 blk dj wr)) (fun v _ => (intOf v).toNat)
   case atStart => exact ⟨m,dk,rfl,hJb,Nat.le_refl _,hs,(rotF_left (by omega)).symm,S2.out⟩
   case round =>
    clear S2
    obtain ⟨K,dj,rfl,haK,hKI,SQ⟩:=hrel
    by_cases hk : I < K
    ·have hki : (I : Int) < K:=by omega
     obtain ⟨e1,e2,S1⟩:=SQ.out
     obtain ⟨q,hq⟩ : ∃ q,q = K - 1:=⟨_,rfl⟩
     have hpn : K < n:=by omega
     have hqn : q < n:=by omega
     obtain ⟨x,hx⟩ : ∃ x,x = dj[K]!:=⟨_,rfl⟩
     obtain ⟨y,hy⟩ : ∃ y,y = dj[q]!:=⟨_,rfl⟩
     have ca:=HH.out.cell e1 S1 hpn
     have cb2:=HH.out.cell e1 S1 hqn
     have fa:=HH.out.froz e1 S1 hpn
     have fb:=HH.out.froz e1 S1 hqn
     obtain ⟨u,cc⟩:=HH.out.second e1 S1 hpn hqn (.int .i64 y)
     have S3:=HH.out.swapped e1 S1 hpn hqn
     rw [← hx] at ca S3
     rw [← hy] at cb2 S3
     replace S3:=Lib.hid S3
     have E3 : Hid ((swp dj K q).size = n∧Fd (swp dj K q) = rotF (Fd dk) q m (m + 1)):=⟨by rw [size_swp];exact e1,by rw [Fd_swp (by omega) (by omega),e2,hq];exact rot_down (by omega) hKI⟩
     have wq : IntKind.i64.wrap ((K : Int) - 1) = q:=by simp [IntKind.wrap,IntKind.bits,IntKind.signed];omega
     have bp : (K : Int) < n:=by omega
     have bq : (q : Int) < n:=by omega
     have HQ:=Lib.hid hq
     clear SQ e1 e2 S1 hx hy hq
     go_wp2_with fail
     go_big_region_o
     clear ca cb2 fa fb cc
     generalize ((wr.setCell ⟨blk,K,none⟩ (.int .i64 y)).setCell ⟨blk,q,none⟩ (.int .i64 x)).drew = w3 at S3 ⊢
     go_wp2_with fail
     go_roundw
     case rel => exact ⟨q,swp dj K q,by go_num,by have:=HQ.out;omega,by have:=HQ.out;omega,E3.out.1,E3.out.2,S3.out⟩
     case measure => have:=HQ.out;simp [intOf];omega
    ·have hki : ¬ (I : Int) < K:=by omega
     obtain ⟨e1,e2,S1⟩:=SQ.out
     have hKe : K = I:=by omega
     rw [hKe] at e2
     have FIN2 : Hid (Same (Fd dk) (Fd dj) a b∧Srt k (Fd dj) a b):=by
      rw [e2]
      exact ⟨(same_rot (by omega) (by omega)).wide haI (by have:=HM.out;omega),FIN.out⟩
     clear SQ e2 FIN hKe
     go_wp2_with fail
     refine bodyPost_ret (v:=.tuple #[]) (by simp [results,Tryz.results149,go_sem]) rfl ⟨rfl,dj,e1,FIN2.out.1,FIN2.out.2,S1⟩
end
end Go.Proofs.YtepoiefadjoabaaGreatDoor
