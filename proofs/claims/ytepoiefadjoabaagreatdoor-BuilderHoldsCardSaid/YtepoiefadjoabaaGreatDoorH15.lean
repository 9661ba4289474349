/- The texts Bchk, one behind the other. -/
import Derived.Test.YtepoiefadjoabaaGreatDoorH5
import Derived.Test.YtepoiefadjoabaaGreatDoorH11
import Derived.Test.YtepoiefadjoabaaGreatDoorH13
import Derived.Test.YtepoiefadjoabaaGreatDoorH3
namespace Go.Proofs.YtepoiefadjoabaaGreatDoor
open Go Go.RowKit
attribute [local go_sem] quietE
def checkE (x : En) (n : Int) : Int := checkS x.r x.s x.l x.t x.c n
def firstE (n : Int) : List En → Int
 | [] => 0
 | x :: l => if checkE x n = 0 then firstE n l else checkE x n
theorem firstE_drop {n : Int} {l : List En} {k : Nat} {x : En} (hx : l[k]? = some x) : firstE n (l.drop k) = if checkE x n = 0 then firstE n (l.drop (k + 1)) else checkE x n := by
 rw [List.drop_eq_getElem_cons (List.getElem?_eq_some_iff.1 hx).1,(List.getElem?_eq_some_iff.1 hx).2]
 rfl
def MatV (w : World) (v : Value) : Option Mx → Prop
 | none => v = .pointer none
 | some m => ∃ mb bm,v = .pointer (some ⟨mb,0,none⟩)∧MatAt w mb bm m
theorem MatV.grows {w w' : World} {v : Value} {m : Option Mx} (h : MatV w v m) (hg : Grows w w') : MatV w' v m := by
 cases m with
 | none => exact h
 | some m => obtain ⟨mb,bm,e,h⟩:=h;exact ⟨mb,bm,e,h.grows hg⟩
def chkB (p : List PosV) (m : Option Mx) (l : List En) : Int :=
 if posValid p = false then 5 else match m with
  | none => 9
  | some m => if (m.n : Int) = p.length then (if 20000 < l.length then 2 else firstE p.length l) else 5
set_option maxHeartbeats 4000000 in
set_option maxRecDepth 100000 in
theorem bcheck_any (p : List PosV) (mv : Value) (m : Option Mx) (l : List En) (pa a : Option Addr) (pc c : Nat) (w : World) (he : Env w) (hp : p.length ≤ 4611686018427387904) (hl : l.length ≤ 140737488355328) (hs : ∀ x ∈ l, x.r.size < 9223372036854775807 ∧ x.s.size < 9223372036854775807)
  (hpt : AtCells w pa 2 (p.map posCells)) (hm : MatV w mv m) (hat : AtCells w a 5 (l.map enCells)) :
  Calls Tryz.prog 30 #[.slice pa p.length pc,mv,.slice a l.length c] w fun e w' => e = .returned (.int .i64 (chkB p m l))∧Grows w w':=by
 have HAT:=Lib.hid hat
 have HE:=Lib.hid he
 have HS:=Lib.hid hs
 have HM:=Lib.hid hm
 have CP:=Lib.hid (check_any p pa pc w hpt hp)
 unfold chkB chkI at *
 clear hat he hs hm hpt
 cases hv : posValid p with
 | false =>
  rw [hv] at CP
  clear hv
  go_enter Tryz.func30,Tryz.ntmps30
  go_wp2_with fail
  refine CP.out.mono ?_
  rintro e w1 ⟨rfl,hg1⟩
  go_wp2
  go_ret
  exact ⟨rfl,hg1⟩
 | true =>
  rw [hv] at CP
  clear hv
  cases m with
  | none =>
   obtain rfl : mv = .pointer none:=HM.out
   go_enter Tryz.func30,Tryz.ntmps30
   go_wp2_with fail
   refine CP.out.mono ?_
   rintro e w1 ⟨rfl,hg1⟩
   go_wp2
   go_ret
   exact ⟨rfl,hg1⟩
  | some m =>
   obtain ⟨mb,bm,rfl,hma⟩:=HM.out
   have CZ:=fun W h => Lib.hid (size_any W mb bm m (hma.grows h))
   clear HM hma
   by_cases h1 : (m.n : Int) = p.length
   ·by_cases h2 : 20000 < l.length
    ·have h2i : (20000 : Int) < l.length:=by omega
     rw [show (if true = false then (5 : Int) else if (m.n : Int) = p.length then if 20000 < l.length then 2 else firstE p.length l else 5) = 2 by simp [h1,h2]]
     go_enter Tryz.func30,Tryz.ntmps30
     go_wp2_with fail
     refine CP.out.mono ?_
     rintro e w1 ⟨rfl,hg1⟩
     have CZ1:=CZ w1 hg1
     clear CP CZ
     go_wp2_with fail
     refine CZ1.out.mono ?_
     rintro e w2 ⟨rfl,rfl⟩
     clear CZ1
     go_wp2
     go_ret
     exact ⟨rfl,hg1⟩
    ·have h2i : ¬ (20000 : Int) < l.length:=by omega
     rw [show (if true = false then (5 : Int) else if (m.n : Int) = p.length then if 20000 < l.length then 2 else firstE p.length l else 5) = firstE p.length l by simp [h1,h2]]
     go_enter Tryz.func30,Tryz.ntmps30
     go_wp2_with fail
     refine CP.out.mono ?_
     rintro e w1 ⟨rfl,hg1⟩
     have CZ1:=CZ w1 hg1
     clear CP CZ
     go_wp2_with fail
     refine CZ1.out.mono ?_
     rintro e w2 ⟨rfl,rfl⟩
     clear CZ1
     clear h2
     go_wp2_with fail
     clear h1
     go_loopw [29] (fun i wr => ∃ (k : Nat),k ≤ l.length∧i = .int .i64 k∧Hid (firstE p.length (l.drop k) = firstE p.length l)∧Grows w wr) (fun i _ => l.length - (intOf i).toNat)
     case atStart => exact ⟨0,Nat.zero_le _,rfl,rfl,hg1⟩
     case round =>
      obtain ⟨k,hk,rfl,hF,hg⟩:=hrel
      by_cases hlt : k < l.length
      ·obtain ⟨⟨xr,xs,xl,xt,xc⟩,hx⟩ : ∃ x,l[k]? = some x:=⟨_,List.getElem?_eq_getElem hlt⟩
       obtain ⟨ba,oa,rfl,hca⟩:=(HAT.out.grows hg).get (ne_nil_of_lt hlt)
       have c0 : wr.cell? ⟨ba,oa + k * 5,none⟩ = some (.string xr):=hca k _ hx 0 _ rfl
       have c1 : wr.cell? ⟨ba,oa + k * 5 + 1,none⟩ = some (.string xs):=hca k _ hx 1 _ rfl
       have c2 : wr.cell? ⟨ba,oa + k * 5 + 2,none⟩ = some (.int .i64 xl):=hca k _ hx 2 _ rfl
       have c3 : wr.cell? ⟨ba,oa + k * 5 + 3,none⟩ = some (.int .i64 xt):=hca k _ hx 3 _ rfl
       have c4 : wr.cell? ⟨ba,oa + k * 5 + 4,none⟩ = some (.int .i64 xc):=hca k _ hx 4 _ rfl
       have hsz:=HS.out _ (List.mem_of_getElem? hx)
       simp only at hsz
       have CC:=fun W h => Lib.hid (echeck_any xr xs xl xt xc p.length W hsz.1 hsz.2 (HE.out.grows h))
       have HD:=firstE_drop (n:=p.length) hx
       rw [hF.out] at HD
       obtain ⟨f,hf⟩ : ∃ f,f = checkE ⟨xr,xs,xl,xt,xc⟩ p.length:=⟨_,rfl⟩
       rw [← hf] at HD
       have hff : checkS xr xs xl xt xc p.length = f:=hf.symm
       simp only [hff] at CC
       have CC1:=CC (wr.alloc (.cells #[.string xr,.string xs,.int .i64 xl,.int .i64 xt,.int .i64 xc] 38)) (hg.al _)
       have HD:=Lib.hid HD
       clear hca hx hsz hf hff CC hF
       go_wp2_with fail
       refine CC1.out.mono ?_
       rintro e w2 ⟨rfl,hg2⟩
       clear CC1
       have hg3:=Grows.trans _ _ _ (hg.al _) hg2
       by_cases hf0 : f = 0
       ·subst hf0
        have HX : Hid (firstE p.length (l.drop (k + 1)) = firstE p.length l):=by show _ = _;rw [HD.out,if_pos rfl]
        clear HD
        go_wp2_with fail
        go_roundw
        case rel => exact ⟨k + 1,by omega,by go_num,HX,hg3⟩
        case measure => simp [intOf];omega
       ·go_wp2_with fail
        go_ret
        exact ⟨by rw [HD.out,if_neg hf0];rfl,hg3⟩
      ·obtain rfl : k = l.length:=by omega
       have HX : Hid (firstE p.length l = 0):=by show _ = _;rw [← hF.out,List.drop_length];rfl
       clear hF
       go_wp2_with fail
       go_ret
       exact ⟨by rw [HX.out];rfl,hg⟩
   ·rw [show (if true = false then (5 : Int) else if (m.n : Int) = p.length then if 20000 < l.length then 2 else firstE p.length l else 5) = 5 by simp [h1]]
    go_enter Tryz.func30,Tryz.ntmps30
    go_wp2_with fail
    refine CP.out.mono ?_
    rintro e w1 ⟨rfl,hg1⟩
    have CZ1:=CZ w1 hg1
    clear CP CZ
    go_wp2_with fail
    refine CZ1.out.mono ?_
    rintro e w2 ⟨rfl,rfl⟩
    clear CZ1
    go_wp2
    go_ret
    exact ⟨rfl,hg1⟩
end Go.Proofs.YtepoiefadjoabaaGreatDoor
