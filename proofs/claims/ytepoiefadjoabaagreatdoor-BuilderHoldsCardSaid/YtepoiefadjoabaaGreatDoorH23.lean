/- The texts EncP RdU RefRd W12 RdN RdC RdU1, one behind the other. -/
import Derived.Test.YtepoiefadjoabaaGreatDoorH3
import Derived.Test.YtepoiefadjoabaaGreatDoorH21
import Derived.Laws.BitsAllLaws
import Derived.Recover
namespace Go.Proofs.YtepoiefadjoabaaGreatDoor
open Go Go.RowKit
def encGo (m : Mx) : Int → List Nat → List UInt8
 | _,[] => []
 | last,i :: r => putU ((i : Int) - last).toNat ++ (putU (m.cs.getD i 0).toNat ++ encGo m i r)
def Mx.enc (m : Mx) : List UInt8 := putU m.n ++ (putU m.d.toNat ++ (putU m.idx.length ++ encGo m (-1) m.idx))
theorem Mx.idx_len {m : Mx} (h : m.OK) : m.idx.length ≤ 4096 := by have := Mx.pairs_len h; unfold Mx.pairs at this; rwa [List.length_map] at this
theorem Mx.idx_get {m : Mx} (h : m.OK) {k i : Nat} (hi : m.idx[k]? = some i) : i < m.n * m.n ∧ m.pairs[k]? = some (pairAt m.n i) ∧ 0 ≤ m.cs.getD i 0 ∧ m.cs.getD i 0 ≤ 30000 ∧ m.cost (pairAt m.n i) = m.cs.getD i 0 := by
 have hm:=Mx.mem_idx.1 (List.mem_of_getElem? hi)
 obtain ⟨h1,h2⟩:=pairAt_in hm.1
 have h3 : m.cost (pairAt m.n i) = m.cs.getD i 0:=by unfold Mx.cost;rw [if_pos h1,h2]
 have h4:=Mx.cost_ok h (pairAt m.n i)
 rw [h3] at h4
 exact ⟨hm.1,by unfold Mx.pairs;rw [List.getElem?_map,hi];rfl,h4.1,h4.2,h3⟩
theorem Mx.idx_up {m : Mx} : m.idx.Pairwise (· < ·) := List.Pairwise.filter _ List.pairwise_lt_range
end Go.Proofs.YtepoiefadjoabaaGreatDoor
namespace Go.Proofs.YtepoiefadjoabaaGreatDoor
open Go Go.RowKit
theorem putU_big2 {n : Nat} (h : 128 ≤ n) (hn : n < 18446744073709551616) : putU n = UInt8.ofNat (n % 128 + 128) :: putU (n / 128) := by
 have h1 : putU n = UInt8.ofNat (n % 128 + 128) :: putUF 9 (n / 128):=by
  show (if n < 128 then [UInt8.ofNat n] else UInt8.ofNat (n % 128 + 128) :: putUF 9 (n / 128)) = _
  rw [if_neg (by omega)]
 have h2 : n / 128 < 128 ^ 9:=by
  have : (128 : Nat) ^ 9 = 9223372036854775808:=by decide
  omega
 rw [h1]
 unfold putU
 rw [putUF_fuel 9 10 (n / 128) h2 (by omega) (by omega)]
theorem putU_ne (n : Nat) : putU n ≠ [] := by
 unfold putU putUF
 split <;> simp
def rdGo : List UInt8 → Nat → Nat → Option (Nat × Nat)
 | [],_,_ => none
 | c :: r,s,acc =>
  if (s = 63∧1 < c.toNat) ∨ (0 < s∧c.toNat = 0) then none
  else if c.toNat < 128 then some (acc + c.toNat * 2 ^ s,1)
  else (rdGo r (s + 7) (acc + (c.toNat % 128) * 2 ^ s)).map fun x => (x.1,x.2 + 1)
def rdU (l : List UInt8) : Option (Nat × Nat) := rdGo l 0 0
theorem rdGo_iff : ∀ (l : List UInt8) (j acc v k : Nat), j ≤ 9 → (rdGo l (7 * j) acc = some (v, k) ↔
  ∃ n r,n < 2 ^ (64 - 7 * j)∧(0 < j → 0 < n)∧v = acc + n * 2 ^ (7 * j)∧l = putU n ++ r∧k = (putU n).length)
 | [],j,acc,v,k,hj => by
  constructor
  ·intro h;cases h
  ·rintro ⟨n,r,_,_,_,h,_⟩
   have:=congrArg List.length h
   have h2:=putU_ne n
   cases hp : putU n with
   | nil => exact absurd hp h2
   | cons a b => rw [hp] at this;simp at this
 | c :: r,j,acc,v,k,hj => by
  have hc:=c.toNat_lt
  have h64 : (2 : Nat) ^ 64 = 18446744073709551616:=by decide
  have head : ∀ n r',n < 2 ^ (64 - 7 * j) → c :: r = putU n ++ r' → (n < 128 → c.toNat = n∧r = r')∧(128 ≤ n → c.toNat = n % 128 + 128∧r = putU (n / 128) ++ r'):=by
   intro n r' hn e
   have hn64 : n < 18446744073709551616:=by
    have : (2 : Nat) ^ (64 - 7 * j) ≤ 2 ^ 64:=Nat.pow_le_pow_right (by decide) (by omega)
    omega
   constructor
   ·intro h
    rw [putU_small h] at e
    simp only [List.cons_append,List.nil_append,List.cons.injEq] at e
    refine ⟨?_,e.2⟩
    rw [e.1,UInt8.toNat_ofNat']
    omega
   ·intro h
    rw [putU_big2 h hn64] at e
    simp only [List.cons_append,List.cons.injEq] at e
    refine ⟨?_,e.2⟩
    rw [e.1,UInt8.toNat_ofNat']
    omega
  show (if (7 * j = 63∧1 < c.toNat) ∨ (0 < 7 * j∧c.toNat = 0) then none
   else if c.toNat < 128 then some (acc + c.toNat * 2 ^ (7 * j),1)
   else (rdGo r (7 * j + 7) (acc + (c.toNat % 128) * 2 ^ (7 * j))).map fun x => (x.1,x.2 + 1)) = some (v,k) ↔ _
  by_cases hb : (7 * j = 63∧1 < c.toNat) ∨ (0 < 7 * j∧c.toNat = 0)
  ·rw [if_pos hb]
   constructor
   ·intro h;cases h
   ·rintro ⟨n,r',hn,hpos,_,e,_⟩
    obtain ⟨h1,h2⟩:=head n r' hn e
    exfalso
    rcases hb with ⟨hb1,hb2⟩ | ⟨hb1,hb2⟩
    ·obtain rfl : j = 9:=by omega
     have hn2 : n < 2:=by simpa using hn
     have:=(h1 (by omega)).1
     omega
    ·have hp:=hpos (by omega)
     rcases Nat.lt_or_ge n 128 with h | h
     ·have:=(h1 h).1;omega
     ·have:=(h2 h).1;omega
  ·rw [if_neg hb]
   by_cases hs : c.toNat < 128
   ·rw [if_pos hs]
    constructor
    ·intro h
     simp only [Option.some.injEq,Prod.mk.injEq] at h
     refine ⟨c.toNat,r, ?_,fun _ => by omega,h.1.symm, ?_, ?_⟩
     ·by_cases h9 : j = 9
      ·subst h9
       have : ¬ 1 < c.toNat:=fun h => hb (Or.inl ⟨rfl,h⟩)
       show c.toNat < 2
       omega
      ·have : (2 : Nat) ^ 8 ≤ 2 ^ (64 - 7 * j):=Nat.pow_le_pow_right (by decide) (by omega)
       have h8 : (2 : Nat) ^ 8 = 256:=by decide
       omega
     ·rw [putU_small hs];simp
     ·rw [putU_small hs];simp;omega
    ·rintro ⟨n,r',hn,hpos,hv,e,hk⟩
     obtain ⟨h1,h2⟩:=head n r' hn e
     have hn128 : n < 128:=by
      rcases Nat.lt_or_ge n 128 with h | h
      ·exact h
      ·have:=(h2 h).1;omega
     rw [(h1 hn128).1,hv,hk,putU_small hn128]
     rfl
   ·rw [if_neg hs]
    have hj8 : j ≤ 8:=by
     rcases Nat.lt_or_ge j 9 with h | h
     ·omega
     ·exact absurd (Or.inl ⟨by omega,by omega⟩) hb
    have hpow : (2 : Nat) ^ (7 * (j + 1)) = 128 * 2 ^ (7 * j):=by rw [Nat.mul_add,Nat.pow_add,Nat.mul_comm]
    have hlim : (2 : Nat) ^ (64 - 7 * j) = 128 * 2 ^ (64 - 7 * (j + 1)):=by
     rw [show 64 - 7 * j = 7 + (64 - 7 * (j + 1)) by omega,Nat.pow_add]
    have IH:=rdGo_iff r (j + 1) (acc + (c.toNat % 128) * 2 ^ (7 * j))
    rw [show 7 * (j + 1) = 7 * j + 7 by omega] at IH
    constructor
    ·intro h
     cases hr : rdGo r (7 * j + 7) (acc + (c.toNat % 128) * 2 ^ (7 * j)) with
     | none => rw [hr] at h;cases h
     | some x =>
      obtain ⟨v',k'⟩:=x
      rw [hr] at h
      simp only [Option.map_some,Option.some.injEq,Prod.mk.injEq] at h
      obtain ⟨rfl,rfl⟩:=h
      obtain ⟨n',r',hn',hpos',hv',hl',hk'⟩:=(IH v' k' (by omega)).1 hr
      have hp':=hpos' (by omega)
      rw [show 7 * j + 7 = 7 * (j + 1) by omega] at hv' hn'
      have hbig : 128 ≤ n' * 128 + c.toNat % 128:=by omega
      have hn : n' * 128 + c.toNat % 128 < 2 ^ (64 - 7 * j):=by rw [hlim];omega
      have hn64 : n' * 128 + c.toNat % 128 < 18446744073709551616:=by
       have : (2 : Nat) ^ (64 - 7 * j) ≤ 2 ^ 64:=Nat.pow_le_pow_right (by decide) (by omega)
       omega
      have hput : putU (n' * 128 + c.toNat % 128) = c :: putU n':=by
       rw [putU_big2 hbig hn64]
       have e1 : (n' * 128 + c.toNat % 128) / 128 = n':=by omega
       have e2 : (n' * 128 + c.toNat % 128) % 128 + 128 = c.toNat:=by omega
       rw [e1,e2];simp
      refine ⟨n' * 128 + c.toNat % 128,r',hn,fun _ => by omega, ?_, ?_, ?_⟩
      ·rw [hv',hpow,Nat.add_mul,Nat.mul_assoc];omega
      ·rw [hput,hl'];simp
      ·rw [hput,hk'];simp
    ·rintro ⟨n,r',hn,hpos,hv,e,hk⟩
     obtain ⟨h1,h2⟩:=head n r' hn e
     have hn128 : 128 ≤ n:=by
      rcases Nat.lt_or_ge n 128 with h | h
      ·have:=(h1 h).1;omega
      ·exact h
     obtain ⟨g1,g2⟩:=h2 hn128
     have hn64 : n < 18446744073709551616:=by
      have : (2 : Nat) ^ (64 - 7 * j) ≤ 2 ^ 64:=Nat.pow_le_pow_right (by decide) (by omega)
      omega
     have hr:=(IH v (putU (n / 128)).length (by omega)).2 ⟨n / 128,r',by rw [show 7 * j + 7 = 7 * (j + 1) by omega];rw [hlim] at hn;omega,fun _ => by omega,by
      rw [show 7 * j + 7 = 7 * (j + 1) by omega,hpow,hv,← Nat.mul_assoc,show c.toNat % 128 = n % 128 by omega]
      have:=Nat.div_add_mod n 128
      have h3 : n * 2 ^ (7 * j) = (n / 128 * 128 + n % 128) * 2 ^ (7 * j):=by rw [Nat.mul_comm (n / 128) 128,this]
      rw [h3,Nat.add_mul];omega,g2,rfl⟩
     rw [hr,hk,putU_big2 hn128 hn64]
     simp
theorem rdU_iff {l : List UInt8} {v k : Nat} : rdU l = some (v, k) ↔ ∃ r, v < 18446744073709551616 ∧ l = putU v ++ r ∧ k = (putU v).length := by
 have h:=rdGo_iff l 0 0 v k (by omega)
 unfold rdU
 rw [show (0 : Nat) = 7 * 0 from rfl]
 rw [show (7 * 0 : Nat) = 0 from rfl] at h
 rw [show (7 * 0 : Nat) = 0 from rfl,h]
 constructor
 ·rintro ⟨n,r,hn,_,hv,hl,hk⟩
  obtain rfl : v = n:=by simpa using hv
  exact ⟨r,by simpa using hn,hl,hk⟩
 ·rintro ⟨r,hv,hl,hk⟩
  exact ⟨v,r,by simpa using hv,by omega,by simp,hl,hk⟩
theorem rdU_put {v : Nat} (h : v < 18446744073709551616) (r : List UInt8) : rdU (putU v ++ r) = some (v, (putU v).length) := rdU_iff.2 ⟨r, h, rfl, rfl⟩
end Go.Proofs.YtepoiefadjoabaaGreatDoor
namespace Go.Proofs.YtepoiefadjoabaaGreatDoor
open Go Go.RowKit
attribute [local go_sem] quietE quietE2
end Go.Proofs.YtepoiefadjoabaaGreatDoor
namespace Go.Proofs.YtepoiefadjoabaaGreatDoor
open Go Go.RowKit
attribute [local go_sem] quietE quietE2
def putS (s : ByteArray) : List UInt8 := putU s.size ++ s.data.toList
theorem putS_len (s : ByteArray) : (putS s).length ≤ 10 + s.size := by
 have:=putU_len s.size
 unfold putS
 rw [List.length_append,Lib.size_eq]
 rw [← Lib.size_eq];omega
end Go.Proofs.YtepoiefadjoabaaGreatDoor
namespace Go.Proofs.YtepoiefadjoabaaGreatDoor
open Go Go.RowKit
attribute [local go_sem] quietE quietE2
theorem wrap_u64b {n : Nat} (h : n < 18446744073709551616) : IntKind.u64.wrap (n : Int) = n := by simp [IntKind.wrap, IntKind.bits, IntKind.signed]; omega
theorem upd_bits {acc c s : Nat} (h1 : acc < 2 ^ s) (h2 : s ≤ 63) (h3 : c % 128 * 2 ^ s < 18446744073709551616) (hc : c < 256) :
  bits .or .u64 (acc : Int) (IntKind.u64.wrap (IntKind.u64.wrap (bits .and .u8 (c : Int) 127) * 2 ^ s)) = ((acc + c % 128 * 2 ^ s : Nat) : Int):=by
 have e1 : bits .and .u8 (c : Int) 127 = ((c % 128 : Nat) : Int):=by
  rw [show (127 : Int) = ((127 : Nat) : Int) from rfl,u8_and_nat c 127 hc (by decide)]
  congr 1
  exact Nat.and_two_pow_sub_one_eq_mod c 7
 rw [e1,wrap_u64b (by omega),show ((c % 128 : Nat) : Int) * 2 ^ s = ((c % 128 * 2 ^ s : Nat) : Int) by push_cast;rfl,wrap_u64b h3]
 have h4 : (2 : Nat) ^ s ≤ 2 ^ 63:=Nat.pow_le_pow_right (by decide) h2
 have h5 : (2 : Nat) ^ 63 = 9223372036854775808:=by decide
 rw [u64_or_nat _ _ (by omega) h3]
 congr 1
 rw [Nat.or_comm,Nat.mul_comm,← Nat.two_pow_add_eq_or_of_lt h1,Nat.add_comm]
def failV : Value := .iface 250 (.agg #[])
def RdNPost (R : Option (Nat × Nat)) (s : Value) (rb k : Nat) (w : World) (e : Ending) (w' : World) : Prop :=
 ((∃ v n,R = some (v,n)∧e = .returned (.int .u64 v)∧w'.cell? ⟨rb,1,none⟩ = some (.int .i64 ((k + n : Nat) : Int))∧w'.cell? ⟨rb,0,none⟩ = some s∧w'.frozen? ⟨rb,1,none⟩ = false) ∨ (R = none∧e = .panicked [{ v:=failV,recovered:=false }]))∧EB rb w w'
set_option maxHeartbeats 4000000 in
set_option maxRecDepth 100000 in
theorem rdn_any (b : List UInt8) (rb k : Nat) (ba : Option Addr) (bc : Nat) (w : World) (hk : k ≤ b.length) (hb : b.length ≤ 1099511627776) (hat : AtCells w ba 1 (b.map byteC)) (hba : ∀ q : Addr, ba = some q → b ≠ [] → q.block < rb)
  (c0 : w.cell? ⟨rb,0,none⟩ = some (.slice ba b.length bc)) (c1 : w.cell? ⟨rb,1,none⟩ = some (.int .i64 k)) (f1 : w.frozen? ⟨rb,1,none⟩ = false) :
  Calls Tryz.prog 157 #[.pointer (some ⟨rb,0,none⟩)] w (RdNPost (rdU (b.drop k)) (.slice ba b.length bc) rb k w):=by
 obtain ⟨R,hR⟩ : ∃ R,R = rdU (b.drop k):=⟨_,rfl⟩
 rw [← hR]
 have HR : Hid (R = (rdGo (b.drop (k + 0)) 0 0).map fun x => (x.1,x.2 + 0)):=by
  show R = _
  rw [hR]
  unfold rdU
  rw [Nat.add_zero]
  show rdGo (b.drop k) 0 0 = _
  cases rdGo (b.drop k) 0 0 <;> rfl
 have HAT:=Lib.hid hat
 have HBA:=Lib.hid hba
 clear hR hat hba
 go_enter Tryz.func157,Tryz.ntmps157
 go_wp2_with fail
 go_loopw [3,4] (fun v s wr => ∃ S q i acc : Nat,Hid (∃ j,j ≤ 9∧S = 7 * j)∧S ≤ 63∧k + q = i∧i ≤ b.length∧v = .int .u64 acc∧s = .int .i64 (S : Nat)∧acc < 2 ^ S∧wr.cell? ⟨rb,0,none⟩ = some (.slice ba b.length bc)∧wr.cell? ⟨rb,1,none⟩ = some (.int .i64 (i : Int))∧wr.frozen? ⟨rb,1,none⟩ = false∧EB rb w wr∧Hid (R = (rdGo (b.drop i) S acc).map fun x => (x.1,x.2 + q))) (fun _ s _ => 64 - (intOf s).toNat)
 case atStart => exact ⟨0,0,k,0,⟨0,by omega,rfl⟩,by omega,rfl,hk,rfl,rfl,by decide,c0,c1,f1,EB.refl _ _,HR.out⟩
 case round =>
  obtain ⟨S,q,i,acc,hSj,hS,hqi,hq,rfl,rfl,hacc,d0,d1,df,heb,hinv⟩:=hrel
  have z0 : ∀ x : Ext Grows wr.drew,x.u.cell? ⟨rb,0,none⟩ = some (.slice ba b.length bc):=ext_cell ((Grows.drew wr).cell d0)
  have z1 : ∀ x : Ext Grows wr.drew,x.u.cell? ⟨rb,1,none⟩ = some (.int .i64 (i : Int)):=ext_cell ((Grows.drew wr).cell d1)
  have hrbl : rb ≤ wr.heap.size:=Nat.le_of_lt (World.block_lt_of_cell? wr _ d0)
  by_cases hend : i < b.length
  ·obtain ⟨c,hc⟩ : ∃ c,b[i]? = some c:=⟨_,List.getElem?_eq_getElem hend⟩
   have hdrop : b.drop i = c :: b.drop (i + 1):=by
    rw [List.drop_eq_getElem_cons hend]
    rw [List.getElem?_eq_getElem hend] at hc
    rw [Option.some.inj hc]
   obtain ⟨bb,bo,rfl,hbc⟩:=HAT.out.get (ne_nil_of_lt hend)
   have hbb:=HBA.out _ rfl (ne_nil_of_lt hend)
   simp only at hbb
   have dc : wr.cell? ⟨bb,bo + i,none⟩ = some (.int .u8 c.toNat):=by
    rw [Below.cell heb.1 (by exact hbb)]
    simpa using hbc i c hc 0 _ rfl
   have hkq : (i : Int) < b.length:=by omega
   have hc256:=c.toNat_lt
   have y0 : ∀ x : Ext Grows wr.drew.drew,x.u.cell? ⟨rb,0,none⟩ = some (.slice (some ⟨bb,bo,none⟩) b.length bc):=ext_cell ((Grows.drew wr).dr.cell d0)
   have y1 : ∀ x : Ext Grows wr.drew.drew,x.u.cell? ⟨rb,1,none⟩ = some (.int .i64 (i : Int)):=ext_cell ((Grows.drew wr).dr.cell d1)
   have yc : ∀ x : Ext Grows wr.drew.drew,x.u.cell? ⟨bb,bo + i,none⟩ = some (.int .u8 c.toNat):=ext_cell ((Grows.drew wr).dr.cell dc)
   have hinv2:=hinv.out
   rw [hdrop] at hinv2
   have HI:=Lib.hid hinv2
   clear hinv hinv2 hdrop hc hbc HR
   go_wp2_with fail
   refine t_region (Grows) [(0,false),(1,false),(2,false),(3,false),(4,false),(5,false),(6,false),(7,false),(8,false),(9,false)] Grows.refl Grows.trans (by kernel_rfl) (by kernel_rfl) (fun d _ _ _ _ h => by cases d <;> exact h) ?_
   iterate 10 (refine t_quiet rfl (fun K hK => ?_);go_simp;refine hK _ ?_;clear hK K)
   refine t_end ?_
   clear z0 z1
   go_wp2_with fail
   refine t_region (Grows) [(0,false),(1,false),(2,false),(3,false),(4,false),(5,false),(6,false),(7,false),(8,false),(9,false),(10,false)] Grows.refl Grows.trans (by kernel_rfl) (by kernel_rfl) (fun d _ _ _ _ h => by cases d <;> exact h) ?_
   iterate 11 (refine t_quiet rfl (fun K hK => ?_);go_simp;refine hK _ ?_;clear hK K)
   refine t_end ?_
   clear y0 y1 yc
   have hcell : (wr.setCell ⟨rb,1,none⟩ (.int .i64 ((i : Int) + 1))).drew.drew.cell? ⟨rb,1,none⟩ = some (.int .i64 ((i : Int) + 1)):=World.cell?_setCell_same _ _ _ d1
   have heb2 : EB rb w (wr.setCell ⟨rb,1,none⟩ (.int .i64 ((i : Int) + 1))).drew.drew:=EB.trans _ _ _ _ (EB.trans _ _ _ _ heb ⟨(Below.refl rb wr).setCell (p:=⟨rb,1,none⟩) (Nat.le_refl rb) _,by simp⟩) (EB.of ((Grows.drew _).dr) (by simpa using hrbl))
   have HC2:=Lib.hid hcell
   have HE2:=Lib.hid heb2
   have HD0 : Hid ((wr.setCell ⟨rb,1,none⟩ (.int .i64 ((i : Int) + 1))).drew.drew.cell? ⟨rb,0,none⟩ = some (.slice (some ⟨bb,bo,none⟩) b.length bc)):=(World.cell?_setCell_other _ _ _ _ (fun e => by cases e)).trans d0
   have HDF : Hid ((wr.setCell ⟨rb,1,none⟩ (.int .i64 ((i : Int) + 1))).drew.drew.frozen? ⟨rb,1,none⟩ = false):=(World.frozen?_setCell _ _ _ _).trans df
   clear hcell heb2
   by_cases hbad : (S = 63∧1 < c.toNat) ∨ (0 < S∧c.toNat = 0)
   ·have hnone : R = none:=by
     rw [HI.out]
     unfold rdGo
     rw [if_pos hbad];rfl
    subst hnone
    clear HI
    by_cases h9 : S = 63
    ·have h63 : ((S : Int) == 63) = true:=by rw [beq_iff_eq];omega
     have hpos : (0 : Int) < S:=by omega
     by_cases h1 : 1 < c.toNat
     ·have h1i : (1 : Int) < c.toNat:=by omega
      clear hbad h9
      go_wp2_with fail
      exact ⟨rfl,Or.inr ⟨rfl,rfl⟩,EB.trans _ _ _ _ heb (EB.of ((Grows.drew wr).dr) hrbl)⟩
     ·have h1i : ¬ (1 : Int) < c.toNat:=by omega
      have hz : (c.toNat : Int) = 0:=by omega
      clear hbad h9
      go_wp2_with fail
      exact ⟨rfl,Or.inr ⟨rfl,rfl⟩,EB.trans _ _ _ _ heb (EB.of ((Grows.drew wr).dr) hrbl)⟩
    ·have h63 : ((S : Int) == 63) = false:=by rw [beq_eq_false_iff_ne];omega
     have hpos : (0 : Int) < S:=by omega
     have hz : (c.toNat : Int) = 0:=by omega
     clear hbad h9
     go_wp2_with fail
     exact ⟨rfl,Or.inr ⟨rfl,rfl⟩,EB.trans _ _ _ _ heb (EB.of ((Grows.drew wr).dr) hrbl)⟩
   ·have hfit : c.toNat % 128 * 2 ^ S < 18446744073709551616:=by
     by_cases h9 : S = 63
     ·have : c.toNat ≤ 1:=by
       rcases Nat.lt_or_ge 1 c.toNat with h | h
       ·exact absurd (Or.inl ⟨h9,h⟩) hbad
       ·exact h
      have h2 : (2 : Nat) ^ S = 9223372036854775808:=by rw [h9]
      rw [h2];omega
     ·obtain ⟨j,hj,hSj2⟩:=hSj.out
      have h2 : (2 : Nat) ^ S ≤ 2 ^ 56:=Nat.pow_le_pow_right (by decide) (by omega)
      have h3 : (2 : Nat) ^ 56 = 72057594037927936:=by decide
      have h4 : c.toNat % 128 * 2 ^ S ≤ 127 * 2 ^ 56:=Nat.mul_le_mul (by omega) h2
      omega
    have hup:=upd_bits hacc hS hfit hc256
    have HUP:=Lib.hid hup
    have hgo:=HI.out
    unfold rdGo at hgo
    rw [if_neg hbad] at hgo
    clear HI hfit
    by_cases hl : c.toNat < 128
    ·rw [if_pos hl] at hgo
     have hfin : R = some (acc + c.toNat % 128 * 2 ^ S,q + 1):=by
      rw [hgo,Nat.mod_eq_of_lt hl,Nat.add_comm q 1];rfl
     subst hfin
     clear hgo hup
     have hli : (c.toNat : Int) < 128:=by omega
     by_cases h0 : S = 0
     ·have hpos : ¬ (0 : Int) < S:=by omega
      have h63 : ((S : Int) == 63) = false:=by rw [beq_eq_false_iff_ne];omega
      clear hbad h0
      go_wp2_with fail
      go_ret
      exact ⟨Or.inl ⟨_,_,rfl,congrArg (fun x => Ending.returned (.int .u64 x)) HUP.out,by rw [HC2.out,← hqi];push_cast;rw [Int.add_assoc],HD0.out,HDF.out⟩,HE2.out⟩
     ·have hpos : (0 : Int) < S:=by omega
      have hz : ¬ (c.toNat : Int) = 0:=by omega
      by_cases h9 : S = 63
      ·have h63 : ((S : Int) == 63) = true:=by rw [beq_iff_eq];omega
       have h1i : ¬ (1 : Int) < c.toNat:=by omega
       clear hbad h9 h0
       go_wp2_with fail
       go_ret
       exact ⟨Or.inl ⟨_,_,rfl,congrArg (fun x => Ending.returned (.int .u64 x)) HUP.out,by rw [HC2.out,← hqi];push_cast;rw [Int.add_assoc],HD0.out,HDF.out⟩,HE2.out⟩
      ·have h63 : ((S : Int) == 63) = false:=by rw [beq_eq_false_iff_ne];omega
       clear hbad h9 h0
       go_wp2_with fail
       go_ret
       exact ⟨Or.inl ⟨_,_,rfl,congrArg (fun x => Ending.returned (.int .u64 x)) HUP.out,by rw [HC2.out,← hqi];push_cast;rw [Int.add_assoc],HD0.out,HDF.out⟩,HE2.out⟩
    ·rw [if_neg hl] at hgo
     have hS9 : S ≠ 63:=fun h => hbad (Or.inl ⟨h,by omega⟩)
     have hSj2 : Hid (∃ j,j ≤ 9∧S + 7 = 7 * j):=by
      obtain ⟨j,hj,e⟩:=hSj.out
      exact ⟨j + 1,by omega,by omega⟩
     have hS2 : S + 7 ≤ 63:=by
      obtain ⟨j,hj,e⟩:=hSj.out
      omega
     have hli : ¬ (c.toNat : Int) < 128:=by omega
     have h63 : ((S : Int) == 63) = false:=by rw [beq_eq_false_iff_ne];omega
     have hinv' : Hid (R = (rdGo (b.drop (i + 1)) (S + 7) (acc + c.toNat % 128 * 2 ^ S)).map fun x => (x.1,x.2 + (q + 1))):=by
      show R = _
      rw [hgo,Option.map_map]
      congr 1
      funext x
      simp only [Function.comp]
      congr 1
      omega
     have hacc' : acc + c.toNat % 128 * 2 ^ S < 2 ^ (S + 7):=by
      have h1 : (2 : Nat) ^ (S + 7) = 128 * 2 ^ S:=by rw [Nat.pow_add,Nat.mul_comm]
      have h2 : (c.toNat % 128 + 1) * 2 ^ S ≤ 128 * 2 ^ S:=Nat.mul_le_mul_right _ (by omega)
      rw [Nat.add_mul] at h2
      omega
     have HA:=Lib.hid hacc'
     clear hacc' hgo hup
     by_cases h0 : S = 0
     ·have hpos : ¬ (0 : Int) < S:=by omega
      clear hbad h0 hS9
      go_wp2_with fail
      go_roundw
      case rel => exact ⟨S + 7,q + 1,i + 1,_,hSj2,hS2,by omega,hend,congrArg _ HUP.out,by first | rfl | go_num,HA.out,HD0.out,by rw [HC2.out];rfl,HDF.out,HE2.out,hinv'.out⟩
      case measure => simp [intOf];omega
     ·have hpos : (0 : Int) < S:=by omega
      have hz : ¬ (c.toNat : Int) = 0:=by omega
      clear hbad h0 hS9
      go_wp2_with fail
      go_roundw
      case rel => exact ⟨S + 7,q + 1,i + 1,_,hSj2,hS2,by omega,hend,congrArg _ HUP.out,by first | rfl | go_num,HA.out,HD0.out,by rw [HC2.out];rfl,HDF.out,HE2.out,hinv'.out⟩
      case measure => simp [intOf];omega
  ·have hke : ¬ (i : Int) < b.length:=by omega
   have hnone : R = none:=by rw [hinv.out,List.drop_eq_nil_of_le (by omega)];rfl
   subst hnone
   clear hinv HR
   go_wp2_with fail
   refine t_region (Grows) [(0,false),(1,false),(2,false),(3,false),(4,false),(5,false),(6,false),(7,false),(8,false),(9,false)] Grows.refl Grows.trans (by kernel_rfl) (by kernel_rfl) (fun d _ _ _ _ h => by cases d <;> exact h) ?_
   iterate 10 (refine t_quiet rfl (fun K hK => ?_);go_simp;refine hK _ ?_;clear hK K)
   refine t_end ?_
   clear z0 z1
   go_wp2_with fail
   exact ⟨rfl,Or.inr ⟨rfl,rfl⟩,EB.trans _ _ _ _ heb (EB.of (Grows.drew wr) hrbl)⟩
end Go.Proofs.YtepoiefadjoabaaGreatDoor
namespace Go.Proofs.YtepoiefadjoabaaGreatDoor
open Go Go.RowKit
attribute [local go_sem] quietE quietE2
theorem eb_grows2 {a b c : World} {B : Nat} (h : Grows a b) (k : EB B b c) (hB : a.heap.size ≤ B) : Grows a c := Below.trans h (Below.mono k.1 hB)
theorem box_cells2 {w w' : World} {cs : Array Value} {t : TypeId} (hg : Grows (w.alloc (.cells cs t)) w') : (∀ j v, cs[j]? = some v → w'.cell? ⟨w.heap.size, j, none⟩ = some v) ∧ (∀ j, w'.frozen? ⟨w.heap.size, j, none⟩ = false) := by
 refine ⟨fun j v h => hg.cell (cell_box w cs t _ j v h),fun j => ?_⟩
 rw [hg.froz (by simp)]
 have hh : (w.alloc (.cells cs t)).heap[w.heap.size]? = some (.cells cs t (0,0)):=by
  show (w.heap.push _)[w.heap.size]? = _
  simp
 unfold World.frozen?
 simp only [hh]
 simp
set_option maxRecDepth 100000 in
set_option maxHeartbeats 2000000 in
theorem rdc_panic (p0 p1 p2 : Nat) (w : World) (older : List PanicEntry) (v0 v1 v2 : Value) (c0 : w.cell? ⟨p0, 0, none⟩ = some v0) (c1 : w.cell? ⟨p1, 0, none⟩ = some v1) (c2 : w.cell? ⟨p2, 0, none⟩ = some v2)
  (f0 : w.frozen? ⟨p0,0,none⟩ = false) (f1 : w.frozen? ⟨p1,0,none⟩ = false) (f2 : w.frozen? ⟨p2,0,none⟩ = false) (n01 : p0 ≠ p1) (n02 : p0 ≠ p2) (n12 : p1 ≠ p2) (B : Nat) (hB0 : B ≤ p0) (hB1 : B ≤ p1) (hB2 : B ≤ p2) :
  CallsD Tryz.prog 203 #[.pointer (some ⟨p0,0,none⟩),.pointer (some ⟨p1,0,none⟩),.pointer (some ⟨p2,0,none⟩)] (.panicking ({ v:=failV,recovered:=false } :: older)) w fun e u' w' =>
   e = .returned (.tuple #[])∧u' = .panicking ({ v:=failV,recovered:=true } :: older)∧w'.cell? ⟨p0,0,none⟩ = some (.int .u64 0)∧w'.cell? ⟨p1,0,none⟩ = some (.int .i64 0)∧w'.cell? ⟨p2,0,none⟩ = some (.bool false)∧EB B w w':=by
 have hta : ∀ W : World,(Instr.typeAssert (.iface 250 (.agg #[])) 20 250 true).run Tryz.prog W = .ok (.tuple #[.agg #[],.bool true]) W:=fun W => by kernel_rfl
 have hga:=Grows.alloc w (.cells #[] 250)
 have b0:=World.block_lt_of_cell? w _ c0
 have b1:=World.block_lt_of_cell? w _ c1
 have b2:=World.block_lt_of_cell? w _ c2
 have d0:=hga.cell c0
 have d1:=hga.cell c1
 have d2:=hga.cell c2
 have g0:=(hga.froz (p:=⟨p0,0,none⟩) b0).trans f0
 have g1:=(hga.froz (p:=⟨p1,0,none⟩) b1).trans f1
 have g2:=(hga.froz (p:=⟨p2,0,none⟩) b2).trans f2
 have e1 : (w.alloc (.cells #[] 250) |>.setCell ⟨p0,0,none⟩ (.int .u64 0)).cell? ⟨p1,0,none⟩ = some v1:=(World.cell?_setCell_other _ _ _ _ (fun e => n01 (congrArg Addr.block e))).trans d1
 have e2 : ((w.alloc (.cells #[] 250) |>.setCell ⟨p0,0,none⟩ (.int .u64 0)).setCell ⟨p1,0,none⟩ (.int .i64 0)).cell? ⟨p2,0,none⟩ = some v2:=(World.cell?_setCell_other _ _ _ _ (fun e => n12 (congrArg Addr.block e))).trans ((World.cell?_setCell_other _ _ _ _ (fun e => n02 (congrArg Addr.block e))).trans d2)
 refine callsD_of_wpS Tryz.func203 rfl fun c₀ cs hu => ?_
 apply wpS_seq
 apply wpS_region
 simp [wpOpsS,go_sem,recoverD,hu,Tryz.ntmps203,Exit.thenS,failV]
 refine wpS_of_wp ?_
 rw [show (#[Value.pointer (some ⟨p0,0,none⟩),.pointer (some ⟨p1,0,none⟩),.pointer (some ⟨p2,0,none⟩)] ++ (Array.replicate 11 undef).setIfInBounds 4 (.iface 250 (.agg #[]))) = #[.pointer (some ⟨p0,0,none⟩),.pointer (some ⟨p1,0,none⟩),.pointer (some ⟨p2,0,none⟩),undef,undef,undef,undef,.iface 250 (.agg #[]),undef,undef,undef,undef,undef,undef] from rfl]
 go_wp2
 have hs0 : (((w.setCell ⟨p0,0,none⟩ (.int .u64 0)).setCell ⟨p1,0,none⟩ (.int .i64 0)).setCell ⟨p2,0,none⟩ (.bool false)).cell? ⟨p0,0,none⟩ = some (.int .u64 0):=by
  rw [World.cell?_setCell_other _ _ _ _ (fun e => n02 (congrArg Addr.block e).symm),World.cell?_setCell_other _ _ _ _ (fun e => n01 (congrArg Addr.block e).symm)]
  exact World.cell?_setCell_same _ _ _ c0
 have hs1 : (((w.setCell ⟨p0,0,none⟩ (.int .u64 0)).setCell ⟨p1,0,none⟩ (.int .i64 0)).setCell ⟨p2,0,none⟩ (.bool false)).cell? ⟨p1,0,none⟩ = some (.int .i64 0):=by
  rw [World.cell?_setCell_other _ _ _ _ (fun e => n12 (congrArg Addr.block e).symm)]
  exact World.cell?_setCell_same _ _ _ ((World.cell?_setCell_other _ _ _ _ (fun e => n01 (congrArg Addr.block e))).trans c1)
 have hs2 : (((w.setCell ⟨p0,0,none⟩ (.int .u64 0)).setCell ⟨p1,0,none⟩ (.int .i64 0)).setCell ⟨p2,0,none⟩ (.bool false)).cell? ⟨p2,0,none⟩ = some (.bool false) :=
  World.cell?_setCell_same _ _ _ ((World.cell?_setCell_other _ _ _ _ (fun e => n12 (congrArg Addr.block e))).trans ((World.cell?_setCell_other _ _ _ _ (fun e => n02 (congrArg Addr.block e))).trans c2))
 have hbl : Below B w ((((w.setCell ⟨p0,0,none⟩ (.int .u64 0)).setCell ⟨p1,0,none⟩ (.int .i64 0)).setCell ⟨p2,0,none⟩ (.bool false)).alloc (.cells #[] 250)):=((((Below.refl B w).setCell (p:=⟨p0,0,none⟩) hB0 _).setCell (p:=⟨p1,0,none⟩) hB1 _).setCell (p:=⟨p2,0,none⟩) hB2 _).alloc (by simp;omega) _
 have hal:=Grows.alloc (((w.setCell ⟨p0,0,none⟩ (.int .u64 0)).setCell ⟨p1,0,none⟩ (.int .i64 0)).setCell ⟨p2,0,none⟩ (.bool false)) (.cells #[] 250)
 have k0:=hal.cell hs0
 have k1:=hal.cell hs1
 have k2:=hal.cell hs2
 have heb : EB B w ((((w.setCell ⟨p0,0,none⟩ (.int .u64 0)).setCell ⟨p1,0,none⟩ (.int .i64 0)).setCell ⟨p2,0,none⟩ (.bool false)).alloc (.cells #[] 250)):=⟨hbl,hbl.size⟩
 exact ⟨rfl,_,rfl,_,results_none rfl _ _ _,rfl,rfl,k0,k1,k2,heb⟩
set_option maxRecDepth 100000 in
set_option maxHeartbeats 2000000 in
theorem rdc_ret (p0 p1 p2 : Nat) (w : World) :
  CallsD Tryz.prog 203 #[.pointer (some ⟨p0,0,none⟩),.pointer (some ⟨p1,0,none⟩),.pointer (some ⟨p2,0,none⟩)] .returning w fun e u' w' => e = .returned (.tuple #[])∧u' = .returning∧w' = w:=by
 refine callsD_of_wpS Tryz.func203 rfl fun c₀ cs hu => ?_
 apply wpS_seq
 apply wpS_region
 simp [wpOpsS,go_sem,recoverD,hu,Tryz.ntmps203,Exit.thenS]
 refine wpS_of_wp ?_
 rw [show (#[Value.pointer (some ⟨p0,0,none⟩),.pointer (some ⟨p1,0,none⟩),.pointer (some ⟨p2,0,none⟩)] ++ (Array.replicate 11 undef).setIfInBounds 4 .nilIface) = #[.pointer (some ⟨p0,0,none⟩),.pointer (some ⟨p1,0,none⟩),.pointer (some ⟨p2,0,none⟩),undef,undef,undef,undef,.nilIface,undef,undef,undef,undef,undef,undef] from rfl]
 go_wp2
 cases c₀
 simp only at hu
 subst hu
 exact ⟨rfl,_,rfl,_,results_none rfl _ _ _,rfl,rfl,rfl⟩
end Go.Proofs.YtepoiefadjoabaaGreatDoor
namespace Go.Proofs.YtepoiefadjoabaaGreatDoor
open Go Go.RowKit
attribute [local go_sem] quietE quietE2
def onlyN (K : Act → World → Prop) : Exit → Act → World → Prop
 | .normal,a,w => K a w
 | _,_,_ => False
theorem onlyN_normal (K : Act → World → Prop) (a : Act) (w : World) : onlyN K .normal a w = K a w := rfl
theorem wp_onlyN {P : Program} {c : Code} {K : Act → World → Prop} {Q : Exit → Act → World → Prop} {a : Act} {w : World} (h : c.wp P (onlyN K) a w) : c.wp P (Exit.then K Q) a w := fun b k cs => by
 obtain ⟨e,a',w',q,r⟩:=h b k cs
 refine ⟨e,a',w', ?_,r⟩
 cases e <;> first | exact q | exact q.elim
def uintR (k : Nat) : Option (Nat × Nat) → Value
 | some (v,n) => .tuple #[.int .u64 v,.int .i64 ((k + n : Nat) : Int),.bool true]
 | none => .tuple #[.int .u64 0,.int .i64 0,.bool false]
def ES (b : Nat) (v : Value) (w w' : World) : Prop :=
 (Below b w w'∧w.heap.size ≤ w'.heap.size)∧(∀ (p : Addr) (u : Value),p.block ≠ b → w.cell? p = some u → w'.cell? p = some u)∧(∀ p : Addr,p.block ≠ b → p.block < w.heap.size → w'.frozen? p = w.frozen? p)∧(w.cell? ⟨b,0,none⟩ = some v → w'.cell? ⟨b,0,none⟩ = some v)∧(b < w.heap.size → w'.frozen? ⟨b,0,none⟩ = w.frozen? ⟨b,0,none⟩)
theorem ES.refl (b : Nat) (v : Value) (w : World) : ES b v w w := ⟨⟨Below.refl _ _, Nat.le_refl _⟩, fun _ _ _ h => h, fun _ _ _ => rfl, fun h => h, fun _ => rfl⟩
theorem ES.trans (b : Nat) (v : Value) (x y z : World) (h : ES b v x y) (k : ES b v y z) : ES b v x z :=
 ⟨⟨Below.trans h.1.1 k.1.1,Nat.le_trans h.1.2 k.1.2⟩,fun p u hp hc => k.2.1 p u hp (h.2.1 p u hp hc),fun p hp hl => (k.2.2.1 p hp (Nat.lt_of_lt_of_le hl h.1.2)).trans (h.2.2.1 p hp hl),fun hc => k.2.2.2.1 (h.2.2.2.1 hc),fun hl => (k.2.2.2.2 (Nat.lt_of_lt_of_le hl h.1.2)).trans (h.2.2.2.2 hl)⟩
instance (b : Nat) (v : Value) (w : World) : Nonempty (Ext (ES b v) w) := ⟨⟨w, ES.refl _ _ _⟩⟩
theorem ES.put {b : Nat} {v : Value} {w : World} (hc : w.cell? ⟨b, 0, none⟩ = some v) : ES b v w (w.setCell ⟨b, 0, none⟩ v) :=
 ⟨⟨(Below.refl b w).setCell (p:=⟨b,0,none⟩) (Nat.le_refl b) v,by simp⟩,fun p u hp h => by rw [World.cell?_setCell_other _ _ _ _ (fun e => hp (by rw [← e]))];exact h,fun p _ _ => World.frozen?_setCell _ _ _ _,fun _ => World.cell?_setCell_same _ _ _ hc,fun _ => World.frozen?_setCell _ _ _ _⟩
structure RdB (w : World) (s : Value) (k : Int) (W : World) : Prop where
 g : Grows w W
 sz : w.heap.size + 1 + 1 + 1 < W.heap.size
 c0 : W.cell? ⟨w.heap.size,0,none⟩ = some (.int .u64 0)
 f0 : W.frozen? ⟨w.heap.size,0,none⟩ = false
 c1 : W.cell? ⟨w.heap.size + 1,0,none⟩ = some (.int .i64 0)
 f1 : W.frozen? ⟨w.heap.size + 1,0,none⟩ = false
 c2 : W.cell? ⟨w.heap.size + 1 + 1,0,none⟩ = some (.bool false)
 f2 : W.frozen? ⟨w.heap.size + 1 + 1,0,none⟩ = false
 r0 : W.cell? ⟨w.heap.size + 1 + 1 + 1,0,none⟩ = some s
 r1 : W.cell? ⟨w.heap.size + 1 + 1 + 1,1,none⟩ = some (.int .i64 k)
 rf : W.frozen? ⟨w.heap.size + 1 + 1 + 1,1,none⟩ = false
theorem rdB (w : World) (s : Value) (k : Int) : RdB w s k ((((w.alloc (.cells #[.int .u64 0] 116)).alloc (.cells #[.int .i64 0] 3)).alloc (.cells #[.bool false] 4)).alloc (.cells #[s, .int .i64 k] 252)) := by
 have e1 : (w.alloc (.cells #[.int .u64 0] 116)).heap.size = w.heap.size + 1:=by simp
 have e2 : ((w.alloc (.cells #[.int .u64 0] 116)).alloc (.cells #[.int .i64 0] 3)).heap.size = w.heap.size + 1 + 1:=by simp
 have e3 : (((w.alloc (.cells #[.int .u64 0] 116)).alloc (.cells #[.int .i64 0] 3)).alloc (.cells #[.bool false] 4)).heap.size = w.heap.size + 1 + 1 + 1:=by simp
 have b0:=box_cells2 (w:=w) (cs:=#[.int .u64 0]) (t:=116) (w':=((((w.alloc (.cells #[.int .u64 0] 116)).alloc (.cells #[.int .i64 0] 3)).alloc (.cells #[.bool false] 4)).alloc (.cells #[s,.int .i64 k] 252))) (((Grows.alloc _ _).al _).al _)
 have b1:=box_cells2 (w:=w.alloc (.cells #[.int .u64 0] 116)) (cs:=#[.int .i64 0]) (t:=3) (w':=((((w.alloc (.cells #[.int .u64 0] 116)).alloc (.cells #[.int .i64 0] 3)).alloc (.cells #[.bool false] 4)).alloc (.cells #[s,.int .i64 k] 252))) ((Grows.alloc _ _).al _)
 have b2:=box_cells2 (w:=(w.alloc (.cells #[.int .u64 0] 116)).alloc (.cells #[.int .i64 0] 3)) (cs:=#[.bool false]) (t:=4) (w':=((((w.alloc (.cells #[.int .u64 0] 116)).alloc (.cells #[.int .i64 0] 3)).alloc (.cells #[.bool false] 4)).alloc (.cells #[s,.int .i64 k] 252))) (Grows.alloc _ _)
 have b3:=box_cells2 (w:=((w.alloc (.cells #[.int .u64 0] 116)).alloc (.cells #[.int .i64 0] 3)).alloc (.cells #[.bool false] 4)) (cs:=#[s,.int .i64 k]) (t:=252) (w':=((((w.alloc (.cells #[.int .u64 0] 116)).alloc (.cells #[.int .i64 0] 3)).alloc (.cells #[.bool false] 4)).alloc (.cells #[s,.int .i64 k] 252))) (Grows.refl _)
 rw [e1] at b1
 rw [e2] at b2
 rw [e3] at b3
 exact ⟨(((Grows.alloc _ _).al _).al _).al _,by simp,b0.1 0 _ rfl,b0.2 0,b1.1 0 _ rfl,b1.2 0,b2.1 0 _ rfl,b2.2 0,b3.1 0 _ rfl,b3.1 1 _ rfl,b3.2 1⟩
set_option maxHeartbeats 4000000 in
set_option maxRecDepth 100000 in
theorem read_any (b : List UInt8) (k : Nat) (ba : Option Addr) (bc : Nat) (w : World) (hk : k ≤ b.length) (hb : b.length ≤ 1099511627776) (hat : AtCells w ba 1 (b.map byteC)) :
  Calls Tryz.prog 156 #[.slice ba b.length bc,.int .i64 k,.func (.func 157) #[] #[]] w fun e w' => e = .returned (uintR k (rdU (b.drop k)))∧Grows w w':=by
 have hmf : ∀ (fn : Fn) (first cap : Array Value) (w : World),(Instr.makeFunc fn first cap).run Tryz.prog w = .ok (.func fn first cap) w:=fun _ _ _ _ => rfl
 have hk0 : ¬ (k : Int) < 0:=by omega
 have HAT:=Lib.hid hat
 have HBA : Hid (∀ q : Addr,ba = some q → b ≠ [] → q.block < w.heap.size):=fun q hq hne => by
  obtain ⟨x,hx⟩ : ∃ x,b[0]? = some x:=⟨_,List.getElem?_eq_getElem (List.length_pos_iff.2 hne)⟩
  obtain ⟨bb,bo,e,hbc⟩:=hat.get hne
  rw [e] at hq
  cases hq
  exact World.block_lt_of_cell? _ _ (hbc 0 x hx 0 _ rfl)
 obtain ⟨R,hR⟩ : ∃ R,R = rdU (b.drop k):=⟨_,rfl⟩
 have HR:=Lib.hid hR
 rw [← hR]
 clear hR hat
 go_enter_defers Tryz.func156,Tryz.ntmps156
 go_wp2_with fail
 have hB:=rdB w (.slice ba b.length bc) k
 generalize ((((w.alloc (.cells #[Value.int .u64 0] 116)).alloc (.cells #[.int .i64 0] 3)).alloc (.cells #[.bool false] 4)).alloc (.cells #[Value.slice ba b.length bc,.int .i64 k] 252)) = W4 at *
 refine (rdn_any b _ k ba bc W4 hk hb (HAT.out.grows hB.g) (fun q hq hne => Nat.lt_trans (HBA.out q hq hne) (by omega)) hB.r0 hB.r1 hB.rf).mono ?_
 rintro e w5 ⟨hres,heb⟩
 rw [← HR.out] at hres
 have hs5:=heb.2
 have hsz:=hB.sz
 have c0 : w5.cell? ⟨w.heap.size,0,none⟩ = _:=(Below.cell heb.1 (by simp only;omega)).trans hB.c0
 have c1 : w5.cell? ⟨w.heap.size + 1,0,none⟩ = _:=(Below.cell heb.1 (by simp only;omega)).trans hB.c1
 have c2 : w5.cell? ⟨w.heap.size + 1 + 1,0,none⟩ = _:=(Below.cell heb.1 (by simp only;omega)).trans hB.c2
 have f0 : w5.frozen? ⟨w.heap.size,0,none⟩ = _:=(Below.frozen heb.1 (by simp only;omega)).trans hB.f0
 have f1 : w5.frozen? ⟨w.heap.size + 1,0,none⟩ = _:=(Below.frozen heb.1 (by simp only;omega)).trans hB.f1
 have f2 : w5.frozen? ⟨w.heap.size + 1 + 1,0,none⟩ = _:=(Below.frozen heb.1 (by simp only;omega)).trans hB.f2
 have hg5 : Grows w w5:=eb_grows2 hB.g heb (by omega)
 rcases hres with ⟨v,n,rfl,rfl,hc,_,_⟩ | ⟨rfl,rfl⟩
 ·have g0 : (w5.setCell ⟨w.heap.size,0,none⟩ (.int .u64 v)).cell? ⟨w.heap.size,0,none⟩ = some (.int .u64 v):=World.cell?_setCell_same _ _ _ c0
  have g1 : (w5.setCell ⟨w.heap.size,0,none⟩ (.int .u64 v)).cell? ⟨w.heap.size + 1,0,none⟩ = some (.int .i64 0):=(World.cell?_setCell_other _ _ _ _ (fun e => by have:=congrArg Addr.block e;simp only at this;omega)).trans c1
  have g2 : (w5.setCell ⟨w.heap.size,0,none⟩ (.int .u64 v)).cell? ⟨w.heap.size + 1 + 1,0,none⟩ = some (.bool false):=(World.cell?_setCell_other _ _ _ _ (fun e => by have:=congrArg Addr.block e;simp only at this;omega)).trans c2
  have g3 : (w5.setCell ⟨w.heap.size,0,none⟩ (.int .u64 v)).cell? ⟨w.heap.size + 1 + 1 + 1,1,none⟩ = some (.int .i64 ((k + n : Nat) : Int)):=(World.cell?_setCell_other _ _ _ _ (fun e => by have:=congrArg Addr.block e;simp only at this;omega)).trans hc
  have gg : ∀ j,j = w.heap.size ∨ j = w.heap.size + 1 ∨ j = w.heap.size + 1 + 1 → (w5.setCell ⟨w.heap.size,0,none⟩ (.int .u64 v)).frozen? ⟨j,0,none⟩ = false:=fun j hj => by
   rw [World.frozen?_setCell]
   rcases hj with rfl | rfl | rfl
   ·exact f0
   ·exact f1
   ·exact f2
  obtain ⟨K,hK2⟩ : ∃ K,K = k + n:=⟨_,rfl⟩
  rw [← hK2] at g3 hc
  have HK2:=Lib.hid hK2
  clear hK2
  have hgp : Grows w (w5.setCell ⟨w.heap.size,0,none⟩ (.int .u64 v)):=hg5.set (by simp only;omega) _
  have hsp : w.heap.size + 1 + 1 + 1 < (w5.setCell ⟨w.heap.size,0,none⟩ (.int .u64 v)).heap.size:=by simp;omega
  clear HR hB heb c1 c2 f1 f2 hc hg5
  go_wp2_with fail
  clear c0 f0
  generalize (w5.setCell ⟨w.heap.size,0,none⟩ (.int .u64 v)) = w6 at *
  have z0 : ∀ x : Ext (ES w.heap.size (.int .u64 v)) w6.drew,x.u.cell? ⟨w.heap.size,0,none⟩ = some (.int .u64 v):=fun x => x.h.2.2.2.1 ((Grows.drew _).cell g0)
  have z3 : ∀ x : Ext (ES w.heap.size (.int .u64 v)) w6.drew,x.u.cell? ⟨w.heap.size + 1 + 1 + 1,1,none⟩ = some (.int .i64 (K : Int)):=fun x => x.h.2.1 _ _ (by simp only;omega) ((Grows.drew _).cell g3)
  have x0 : w6.drew.cell? ⟨w.heap.size,0,none⟩ = some (.int .u64 v):=g0
  have xf : w6.drew.frozen? ⟨w.heap.size,0,none⟩ = false:=gg _ (Or.inl rfl)
  refine wp_onlyN ?_
  refine t_tail (ES w.heap.size (.int .u64 v)) 6 [(0,false),(1,false),(2,false),(3,false),(4,false),(5,true)] (ES.refl _ _) (ES.trans _ _) (by kernel_rfl) (by kernel_rfl) (fun _ _ _ _ _ h => h) ?_
  iterate 5 (refine t_quiet rfl (fun K hK => ?_);go_simp;refine hK _ ?_;clear hK K)
  refine t_late rfl rfl (fun K hK => ?_)
  go_simp
  refine ⟨ES.put x0,hK _ _ ?_⟩
  clear hK K
  refine t_end ?_
  simp only [List.drop_succ_cons,List.drop_zero]
  clear z0 z3
  have n0:=g0
  have y0 : (w6.setCell ⟨w.heap.size,0,none⟩ (.int .u64 v)).cell? ⟨w.heap.size,0,none⟩ = some (.int .u64 v):=World.cell?_setCell_same _ _ _ g0
  have y1 : (w6.setCell ⟨w.heap.size,0,none⟩ (.int .u64 v)).cell? ⟨w.heap.size + 1,0,none⟩ = some (.int .i64 0):=(World.cell?_setCell_other _ _ _ _ (fun e => by have:=congrArg Addr.block e;simp only at this;omega)).trans g1
  have y2 : (w6.setCell ⟨w.heap.size,0,none⟩ (.int .u64 v)).cell? ⟨w.heap.size + 1 + 1,0,none⟩ = some (.bool false):=(World.cell?_setCell_other _ _ _ _ (fun e => by have:=congrArg Addr.block e;simp only at this;omega)).trans g2
  have yg : Grows w (w6.setCell ⟨w.heap.size,0,none⟩ (.int .u64 v)):=hgp.set (by simp only;omega) _
  have yf1 : (w6.setCell ⟨w.heap.size,0,none⟩ (.int .u64 v)).frozen? ⟨w.heap.size + 1,0,none⟩ = false:=(World.frozen?_setCell _ _ _ _).trans (gg _ (Or.inr (Or.inl rfl)))
  have yf2 : (w6.setCell ⟨w.heap.size,0,none⟩ (.int .u64 v)).frozen? ⟨w.heap.size + 1 + 1,0,none⟩ = false:=(World.frozen?_setCell _ _ _ _).trans (gg _ (Or.inr (Or.inr rfl)))
  clear x0 xf g0 g1 g2 g3 gg n0
  generalize w6.setCell ⟨w.heap.size,0,none⟩ (.int .u64 v) = w7 at *
  have k1 : ((w7.setCell ⟨w.heap.size + 1,0,none⟩ (.int .i64 K)).setCell ⟨w.heap.size + 1 + 1,0,none⟩ (.bool true)).drew.cell? ⟨w.heap.size + 1,0,none⟩ = some (.int .i64 K):=by
   refine (World.cell?_setCell_other _ _ _ _ (fun e => by have:=congrArg Addr.block e;simp only at this;omega)).trans ?_
   exact World.cell?_setCell_same _ _ _ y1
  have y2' : (w7.setCell ⟨w.heap.size + 1,0,none⟩ (.int .i64 K)).cell? ⟨w.heap.size + 1 + 1,0,none⟩ = some (.bool false):=by
   rw [World.cell?_setCell_other _ _ _ _ (fun e => by have:=congrArg Addr.block e;simp only at this;omega)]
   exact y2
  have k2 : ((w7.setCell ⟨w.heap.size + 1,0,none⟩ (.int .i64 K)).setCell ⟨w.heap.size + 1 + 1,0,none⟩ (.bool true)).drew.cell? ⟨w.heap.size + 1 + 1,0,none⟩ = some (.bool true):=World.cell?_setCell_same _ _ _ y2'
  have k0 : ((w7.setCell ⟨w.heap.size + 1,0,none⟩ (.int .i64 K)).setCell ⟨w.heap.size + 1 + 1,0,none⟩ (.bool true)).drew.cell? ⟨w.heap.size,0,none⟩ = some (.int .u64 v):=by
   refine (World.cell?_setCell_other _ _ _ _ (fun e => by have:=congrArg Addr.block e;simp only at this;omega)).trans ?_
   refine (World.cell?_setCell_other _ _ _ _ (fun e => by have:=congrArg Addr.block e;simp only at this;omega)).trans ?_
   exact y0
  have kg : Grows w ((w7.setCell ⟨w.heap.size + 1,0,none⟩ (.int .i64 K)).setCell ⟨w.heap.size + 1 + 1,0,none⟩ (.bool true)).drew:=((yg.set (by simp only;omega) _).set (by simp only;omega) _).dr
  go_wp2_with fail
  simp only [onlyN_normal]
  go_wp2_with fail
  refine leaves_cons (f:=203) (args:=#[.pointer (some ⟨w.heap.size,0,none⟩),.pointer (some ⟨w.heap.size + 1,0,none⟩),.pointer (some ⟨w.heap.size + 1 + 1,0,none⟩)]) (by simp) (by simp [go_sem]) ?_
  refine (rdc_ret _ _ _ _).mono ?_
  rintro e u' w'' ⟨rfl,rfl,rfl⟩
  show Leaves _ _ _ _ _ _ _
  simp only [settle]
  refine ⟨.tuple #[.int .u64 v,.int .i64 K,.bool true], ?_,by rw [HK2.out];rfl,kg⟩
  simp [results,Tryz.results156,go_sem,k0,k1,k2]
 ·clear HR hB heb
  go_wp2_with fail
  refine leaves_cons (f:=203) (args:=#[.pointer (some ⟨w.heap.size,0,none⟩),.pointer (some ⟨w.heap.size + 1,0,none⟩),.pointer (some ⟨w.heap.size + 1 + 1,0,none⟩)]) (by simp) (by simp [go_sem]) ?_
  refine (rdc_panic w.heap.size (w.heap.size + 1) (w.heap.size + 1 + 1) w5 [] _ _ _ c0 c1 c2 f0 f1 f2 (by omega) (by omega) (by omega) w.heap.size (by omega) (by omega) (by omega)).mono ?_
  rintro e u' w'' ⟨rfl,rfl,k0,k1,k2,heb6⟩
  have kg : Grows w w'':=EB.grows hg5 heb6
  show Leaves _ _ _ _ _ _ _
  simp only [settle]
  refine ⟨.tuple #[.int .u64 0,.int .i64 0,.bool false], ?_,rfl,kg⟩
  simp [results,Tryz.results156,go_sem,k0,k1,k2]
end Go.Proofs.YtepoiefadjoabaaGreatDoor
