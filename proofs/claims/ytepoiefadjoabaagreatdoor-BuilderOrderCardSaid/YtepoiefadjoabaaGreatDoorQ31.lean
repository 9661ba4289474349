/- The texts W11d W11e, one behind the other. -/
import Derived.Test.YtepoiefadjoabaaGreatDoorQ27
import Derived.Test.YtepoiefadjoabaaGreatDoorQ30
namespace Go.Proofs.YtepoiefadjoabaaGreatDoor
open Go Go.RowKit
attribute [local go_sem] quietE quietE2
theorem len_cells (n : Nat) : (#[Value.int .u8 ((n : Int) % 256), .int .u8 ((n : Int) / 256 % 256), .int .u8 ((n : Int) / 65536 % 256), .int .u8 ((n : Int) / 16777216 % 256)] : Array Value).toList = (leB 4 n).flatMap byteC := by
 have h : leB 4 n = [UInt8.ofNat n,UInt8.ofNat (n / 256),UInt8.ofNat (n / 65536),UInt8.ofNat (n / 16777216)]:=by
  unfold leB
  simp [List.range_succ]
 rw [h,flat_bytes]
 simp only [List.map_cons,List.map_nil,UInt8.toNat_ofNat']
 congr 1
theorem len_at {w : World} {n : Nat} {cs : Array Value} {t : TypeId} (h : cs.toList = (leB 4 n).flatMap byteC) : AtCells (w.alloc (.cells cs t)) (some ⟨w.heap.size, 0, none⟩) 1 ((leB 4 n).map byteC) := by
 have hown:=owns_box (enc:=byteC) (e:=t) (w:=w) (base:=0) (fun _ => rfl) (Nat.zero_le _) (leB 4 n) h (n:=4) (leB_len 4 n) (by decide)
 have h4:=leB_len 4 n
 rw [← h4] at hown
 obtain ⟨a,c,he,_,_,hat⟩:=Owns.at_ byteLay.len hown
 simp only [Value.slice.injEq] at he
 rw [he.1]
 exact hat
set_option maxHeartbeats 2000000 in
set_option maxRecDepth 100000 in
theorem rpart_any (v0 : Value) (pre b : List UInt8) (ab : Option Addr) (cb : Nat) (w0 w : World) (hg0 : Grows w0 w) (hp : pre.length ≤ 1099511627776) (hb : b.length ≤ 1099511627776) (hown0 : Owns w w0.heap.size 5 1 byteC v0 pre) (hat : AtCells w ab 1 (b.map byteC)) (hnb : ab = none → cb = 0) (hd : ∀ q : Addr, ab = some q → some q.block ≠ v0.ownBlock) :
  Calls Tryz.prog 130 #[v0,.slice ab b.length cb] w fun e w' => ∃ v,e = .returned v∧Owns w' w0.heap.size 5 1 byteC v (pre ++ part11 b)∧Grows w0 w':=by
 have HD:=Lib.hid hd
 have HC:=Lib.hid (len_cells b.length)
 have hl4:=leB_len 4 b.length
 clear hd
 go_enter Tryz.func130,Tryz.ntmps130
 go_wp2_with (first | (at_builtin;refine app_many5 byteLay rfl _ _ rfl w0.heap.size _ pre (leB 4 b.length) rfl (hown0.grows (Grows.alloc _ _)) (Grows.refl _) _ 4 (by rw [hl4];rfl) (len_at HC.out) (fun h => by cases h) (by omega) (Nat.le_trans hg0.size (Grows.alloc _ _).size) ?_;intro v1 w1 hown1 hk1 _ hg1;have hgw1:=hg1 w0 (hg0.al _) (Nat.le_refl _);have hat1:=at_keep (hat.grows (Grows.alloc _ _)) hk1 HD.out;clear hg1 hk1) | (at_builtin;refine app_many byteLay rfl _ _ rfl w0.heap.size _ (pre ++ leB 4 b.length) b rfl hown1 (Grows.refl _) ab cb rfl hat1 hnb (by rw [List.length_append];omega) hgw1.size ?_;intro v2 w2 hown2 hg2))
 go_ret
 exact ⟨_,rfl,by unfold part11;rw [← List.append_assoc];exact hown2,hg2 w0 hgw1 (Nat.le_refl _)⟩
set_option maxHeartbeats 2000000 in
set_option maxRecDepth 100000 in
theorem part_any (v0 : Value) (pre b : List UInt8) (ab : Option Addr) (cb : Nat) (w0 w : World) (hg0 : Grows w0 w) (hp : pre.length ≤ 1099511627776) (hb : b.length ≤ 1099511627776) (hown0 : Owns w w0.heap.size 5 1 byteC v0 pre) (hat : AtCells w ab 1 (b.map byteC)) (hnb : ab = none → cb = 0) (hd : ∀ q : Addr, ab = some q → some q.block ≠ v0.ownBlock) :
  Calls Tryz.prog 98 #[v0,.slice ab b.length cb] w fun e w' => ∃ v,e = .returned v∧Owns w' w0.heap.size 5 1 byteC v (pre ++ part11 b)∧Grows w0 w':=by
 have HD:=Lib.hid hd
 have HC:=Lib.hid (len_cells b.length)
 have hl4:=leB_len 4 b.length
 clear hd
 go_enter Tryz.func98,Tryz.ntmps98
 go_wp2_with (first | (at_builtin;refine app_many5 byteLay rfl _ _ rfl w0.heap.size _ pre (leB 4 b.length) rfl (hown0.grows (Grows.alloc _ _)) (Grows.refl _) _ 4 (by rw [hl4];rfl) (len_at HC.out) (fun h => by cases h) (by omega) (Nat.le_trans hg0.size (Grows.alloc _ _).size) ?_;intro v1 w1 hown1 hk1 _ hg1;have hgw1:=hg1 w0 (hg0.al _) (Nat.le_refl _);have hat1:=at_keep (hat.grows (Grows.alloc _ _)) hk1 HD.out;clear hg1 hk1) | (at_builtin;refine app_many byteLay rfl _ _ rfl w0.heap.size _ (pre ++ leB 4 b.length) b rfl hown1 (Grows.refl _) ab cb rfl hat1 hnb (by rw [List.length_append];omega) hgw1.size ?_;intro v2 w2 hown2 hg2))
 go_ret
 exact ⟨_,rfl,by unfold part11;rw [← List.append_assoc];exact hown2,hg2 w0 hgw1 (Nat.le_refl _)⟩
end Go.Proofs.YtepoiefadjoabaaGreatDoor
namespace Go.Proofs.YtepoiefadjoabaaGreatDoor
open Go Go.RowKit
attribute [local go_sem] quietE quietE2
structure EncRows (w1 W : World) (vS vL vI vD : Value) (S : List Bool) (Lb : List UInt8) (I : List Bool) (D : List Nat) : Prop where
 s : Owns W w1.heap.size 4 1 boolC vS S
 l : Owns W w1.heap.size 5 1 byteC vL Lb
 i : Owns W w1.heap.size 4 1 boolC vI I
 d : Owns W w1.heap.size 116 1 n64C vD D
 ap : Apart vS vI
 g : Grows w1 W
section
variable {w1 W w' : World} {vS vL vI vD v' : Value} {S S' : List Bool} {Lb Lb' : List UInt8} {I I' : List Bool} {D D' : List Nat}
theorem EncRows.grows (h : EncRows w1 W vS vL vI vD S Lb I D) (hg : Grows W w') : EncRows w1 w' vS vL vI vD S Lb I D := ⟨h.s.grows hg, h.l.grows hg, h.i.grows hg, h.d.grows hg, h.ap, h.g.tr hg⟩
theorem EncRows.setS (h : EncRows w1 W vS vL vI vD S Lb I D) (ho : Owns w' w1.heap.size 4 1 boolC v' S') (hk : W.grownBy w' vS.ownBlock) (hf : Fresh W vS v') (hg : Grows w1 w') : EncRows w1 w' v' vL vI vD S' Lb I D :=
 ⟨ho,h.l.other h.s (by decide) hk,owns_keep h.i hk h.ap,h.d.other h.s (by decide) hk,h.ap.fresh (own_lt h.i) hf,hg⟩
theorem EncRows.setL (h : EncRows w1 W vS vL vI vD S Lb I D) (ho : Owns w' w1.heap.size 5 1 byteC v' Lb') (hk : W.grownBy w' vL.ownBlock) (hg : Grows w1 w') : EncRows w1 w' vS v' vI vD S Lb' I D :=
 ⟨h.s.other h.l (by decide) hk,ho,h.i.other h.l (by decide) hk,h.d.other h.l (by decide) hk,h.ap,hg⟩
theorem EncRows.setI (h : EncRows w1 W vS vL vI vD S Lb I D) (ho : Owns w' w1.heap.size 4 1 boolC v' I') (hk : W.grownBy w' vI.ownBlock) (hf : Fresh W vI v') (hg : Grows w1 w') : EncRows w1 w' vS vL v' vD S Lb I' D :=
 ⟨owns_keep h.s hk h.ap.symm,h.l.other h.i (by decide) hk,ho,h.d.other h.i (by decide) hk,(h.ap.symm.fresh (own_lt h.s) hf).symm,hg⟩
theorem EncRows.setD (h : EncRows w1 W vS vL vI vD S Lb I D) (ho : Owns w' w1.heap.size 116 1 n64C v' D') (hk : W.grownBy w' vD.ownBlock) (hg : Grows w1 w') : EncRows w1 w' vS vL vI v' S Lb I D' :=
 ⟨h.s.other h.d (by decide) hk,h.l.other h.d (by decide) hk,h.i.other h.d (by decide) hk,ho,h.ap,hg⟩
end
theorem blocks_lo {α : Type} {w : World} {base : Nat} {e : TypeId} {k : Nat} {enc : α → List Value} {v : Value} {xs : List α} {ab : Option Addr} (h : Owns w base e k enc v xs) (hq : ∀ q : Addr, ab = some q → q.block < base) : ∀ q : Addr, ab = some q → some q.block ≠ v.ownBlock := fun q ha hv => by
 have h1:=ownBlock_ge h _ hv.symm
 have h2:=hq q ha
 omega
theorem blocks_hi {α : Type} {w : World} {base : Nat} {e : TypeId} {k : Nat} {enc : α → List Value} {v : Value} {xs : List α} {ab : Option Addr} (h : Owns w base e k enc v xs) (hq : ∀ q : Addr, ab = some q → w.heap.size ≤ q.block) : ∀ q : Addr, ab = some q → some q.block ≠ v.ownBlock := fun q ha hv => by
 have h1:=own_lt h _ hv.symm
 have h2:=hq q ha
 omega
def lastsL (L : List (List UInt8)) (A : List Span) : List UInt8 := (A.drop 1).map fun y => (spanS L y).getLastD 0
theorem lastsL_snoc (L : List (List UInt8)) {A : List Span} (x : Span) (h : A ≠ []) : lastsL L (A ++ [x]) = lastsL L A ++ [(spanS L x).getLastD 0] := by
 unfold lastsL
 cases A with
 | nil => exact absurd rfl h
 | cons a A => simp
theorem bl_drop {s : ByteArray} : bl (s.extract 0 (s.size - 1)) = (bl s).dropLast := by
 rw [bl_cut,List.dropLast_eq_take,bl_len]
theorem bl_last {s : ByteArray} (h : s.size - 1 < s.size) : (bl s).getLastD 0 = s[s.size - 1] := by
 rw [List.getLastD_eq_getLast?,List.getLast?_eq_getElem?,bl_len,bl_get h];rfl
theorem bls_of {B : List ByteArray} {k : Nat} {x : List UInt8} (h : (bls B)[k]? = some x) : ∃ s, B[k]? = some s ∧ bl s = x := by
 unfold bls at h
 rw [List.getElem?_map] at h
 cases hs : B[k]? with
 | none => rw [hs] at h;cases h
 | some s => rw [hs] at h;exact ⟨s,rfl,Option.some.inj h⟩
set_option maxHeartbeats 16000000 in
set_option maxRecDepth 100000 in
theorem rloud_any (B : List ByteArray) (a : Option Addr) (c : Nat) (w : World) (hchk : chk11 (bls B) = 0) (hat : AtCells w a 1 (B.map stC)) :
  Calls Tryz.prog 80 #[.slice a B.length c] w fun e w' => ∃ v,e = .returned v∧Owns w' w.heap.size 5 1 byteC v (loudE (bls B))∧Grows w w':=by
 obtain ⟨hok,hlen,hcnt⟩:=chk11_ok hchk
 rw [bls_len] at hlen
 have hsz : ∀ s ∈ B,s.size ≤ 256:=fun s hs => by
  have:=hok.len (bl s) (List.mem_map.2 ⟨s,hs,rfl⟩)
  rwa [bl_len] at this
 have hM:=nodes_count hok.asc hok.len
 rw [← hM] at hcnt
 have CN:=Lib.hid (rnodes_any B a c w hlen hsz hat)
 have HAT:=Lib.hid hat
 obtain ⟨L,hL⟩ : ∃ L,L = bls B:=⟨_,rfl⟩
 rw [← hL] at hok hcnt CN ⊢
 have HL:=Lib.hid hL
 have HOK:=Lib.hid hok
 obtain ⟨A,hA⟩ : ∃ A,A = nodesA L:=⟨_,rfl⟩
 have HA:=Lib.hid hA
 rw [← hA] at hcnt
 clear hat hsz hM hL hok hA hchk
 go_enter Tryz.func80,Tryz.ntmps80
 go_wp2_with fail
 refine CN.out.mono ?_
 rintro e w1 ⟨v1,N,rfl,hown1,hN,hg1⟩
 obtain ⟨a1,c1,rfl,_,_,hat1⟩:=hown1.at_ (enc:=stC) (fun _ => rfl)
 have hNA : bls N = A.map (spanS L):=by rw [hN,HA.out,nodes_strs HOK.out.asc]
 have hNl : N.length = A.length:=by have:=congrArg List.length hNA;rwa [bls_len,List.length_map] at this
 have HNA:=Lib.hid hNA
 have HNL:=Lib.hid hNl
 have HW1:=Lib.hid hg1
 have ha1 : ∀ q : Addr,a1 = some q → q.block < w1.heap.size:=fun q hq => own_lt hown1 q.block (by rw [hq];rfl)
 have hcells : ∀ k x,A[k]? = some x → ∃ (b o : Nat) (s : ByteArray),a1 = some ⟨b,o,none⟩∧bl s = spanS L x∧w1.cell? ⟨b,o + k,none⟩ = some (.string s):=by
  intro k x hx
  have hk:=(List.getElem?_eq_some_iff.1 hx).1
  obtain ⟨b,o,h1,hc⟩:=at1 hat1 (ne_nil_of_lt (k:=k) (by omega))
  obtain ⟨s,hs⟩ : ∃ s,N[k]? = some s:=⟨_,List.getElem?_eq_getElem (by omega)⟩
  refine ⟨b,o,s,h1, ?_,hc k s hs⟩
  have h2:=bls_get hs
  rw [hNA,List.getElem?_map,hx] at h2
  exact (Option.some.inj h2).symm
 have HC:=Lib.hid hcells
 clear hNA hN hat1 hown1 hcells CN
 rw [hNl]
 go_wp2_with fail
 have hown0:=owns_box (enc:=boolC) (e:=4) (w:=w1) (base:=w1.heap.size) (fun _ => rfl) (Nat.le_refl _) [true,false] (cs:=#[.bool true,.bool false]) rfl (n:=2) rfl (by decide)
 have hrows0 : EncRows w1 (w1.alloc (.cells #[.bool true,.bool false] 4)) (.slice (some ⟨w1.heap.size,0,none⟩) 2 2) (.slice none 0 0) (.slice none 0 0) (.slice none 0 0) [true,false] [] [] []:=⟨hown0,Owns.nil _ _ _ _ _,Owns.nil _ _ _ _ _,Owns.nil _ _ _ _ _,(Apart.nil 0 0 _).symm,Grows.alloc _ _⟩
 clear hown0
 go_loopw [4,5,6,7,8,9] (fun vS vL vI vD nx i wr => ∃ (k q : Nat) (S I : List Bool) (Lb : List UInt8) (D : List Nat),k ≤ A.length∧i = .int .i64 k∧nx = .int .i64 q∧Hid (q = offA L k∧S = shapeL L (A.take k)∧Lb = lastsL L (A.take k)∧I = isL L (A.take k)∧D = idsL L (A.take k))∧EncRows w1 wr vS vL vI vD S Lb I D) (fun _ _ _ _ _ i _ => A.length - (intOf i).toNat)
 case atStart => exact ⟨0,1,_,_,_,_,Nat.zero_le _,rfl,rfl,⟨rfl,rfl,rfl,rfl,rfl⟩,hrows0⟩
 case round =>
  obtain ⟨k,q,S,I,Lb,D,hk,rfl,rfl,hinv,hrows⟩:=hrel
  obtain ⟨hq,hS,hLb,hI,hD⟩:=hinv.out
  have hoff:=HOK.out.off_le k
  rw [← HA.out] at hoff
  have hSl : S.length = q + k + 1:=by
   have:=shapeL_len L k (by rw [← HA.out];exact hk)
   rw [← HA.out] at this
   rw [hS,this,hq]
  have hLl : Lb.length ≤ 524287:=by rw [hLb];unfold lastsL;rw [List.length_map,List.length_drop,List.length_take];omega
  have hIl : I.length ≤ 524287:=by rw [hI];unfold isL;rw [List.length_map,List.length_take];omega
  have hDl : D.length ≤ 524287:=by
   rw [hD];unfold idsL;rw [List.length_map]
   have:=List.length_filter_le (here L) (A.take k)
   rw [List.length_take] at this
   omega
  by_cases hlt : k < A.length
  ·obtain ⟨x,hx⟩ : ∃ x,A[k]? = some x:=⟨_,List.getElem?_eq_getElem hlt⟩
   obtain ⟨b,o,s,rfl,hbs,hcs⟩:=HC.out k x hx
   have hb1:=ha1 _ rfl
   simp only at hb1
   have hkgt:=HOK.out.off_gt (i:=k) (by rw [← HA.out];exact hlt)
   rw [← hq] at hkgt
   have hgood:=HOK.out.good (i:=k) (by rw [← HA.out];exact hx)
   have hosucc:=offA_succ (L:=L) (i:=k) (by rw [← HA.out];exact hx)
   rw [← hq] at hosucc
   obtain ⟨O,hO⟩ : ∃ O,O = offA L (k + 1):=⟨_,rfl⟩
   rw [← hO] at hosucc
   have hOle:=HOK.out.off_le (k + 1)
   rw [← HA.out,← hO] at hOle
   have hqO : q ≤ O:=by omega
   have HOS:=Lib.hid hosucc
   have HO:=Lib.hid hO
   have HQ:=Lib.hid hq
   have HX:=Lib.hid hx
   have HBS:=Lib.hid hbs
   have HSH:=Lib.hid hS
   have HLB:=Lib.hid hLb
   have HI:=Lib.hid hI
   have HD:=Lib.hid hD
   have HG:=Lib.hid hgood
   clear hx hO hq hbs hinv hS hLb hI hD hgood hosucc
   have hki : (k : Int) < A.length:=by omega
   go_wp2_with fail
   obtain ⟨u0,rfl⟩ : ∃ u0,u0 = wr:=⟨_,rfl⟩
   go_loopw [4,8] (fun vS nx wr => ∃ (j : Nat) (S2 : List Bool),q ≤ j∧j ≤ O∧nx = .int .i64 j∧Hid (S2 = S ++ List.replicate (j - q) true)∧EncRows w1 wr vS u5 u6 u7 S2 Lb I D) (fun _ nx _ => O + 1 - (intOf nx).toNat)
   case atStart => exact ⟨q,S,Nat.le_refl _,by omega,rfl,(by show _ = _;simp),hrows⟩
   case round =>
    obtain ⟨j,S2,hj1,hj2,rfl,hS2,hrows⟩:=hrel
    have hS2l : S2.length = S.length + (j - q):=by rw [hS2.out,List.length_append,List.length_replicate]
    have hnext : ∀ (P : Prop),(j < O → P) → (j = O → P) → P:=fun P h1 h2 => by
     rcases Nat.lt_or_ge j O with h | h
     ·exact h1 h
     ·exact h2 (by omega)
    by_cases hjO : j < O
    ·obtain ⟨y,hy⟩ : ∃ y,A[j]? = some y:=⟨_,List.getElem?_eq_getElem (by omega)⟩
     obtain ⟨b2,o2,t,hbo,hbt,hct⟩:=HC.out j y hy
     obtain ⟨rfl,rfl⟩ : b = b2∧o = o2:=by simpa using hbo
     have hcond:=(HOK.out.cond (i:=k) (k:=j) (x:=x) (y:=y) (by rw [← HA.out];exact HX.out) (by rw [← HQ.out];exact hj1) (by rw [← HO.out];exact hj2) (by rw [← HA.out];exact hy)).2 (by rw [← HO.out];exact hjO)
     have hne:=HOK.out.ne (k:=j) (y:=y) (by omega) (by rw [← HA.out];exact hy)
     have htp : 1 ≤ t.size:=by
      rw [← bl_len,hbt]
      have:=List.length_pos_iff.2 hne
      omega
     obtain ⟨p,hp⟩ : ∃ p,p = t.extract 0 (t.size - 1):=⟨_,rfl⟩
     have hps : p = s:=bl_inj (by rw [hp,bl_drop,hbt,hcond,HBS.out])
     have htsz : t.size ≤ 256:=by
      rw [← bl_len,hbt,(HOK.out.good (i:=j) (by rw [← HA.out];exact hy)).slen]
      obtain ⟨d,hd1,hd2⟩:=List.mem_flatMap.1 (List.mem_of_getElem? (by rw [HA.out] at hy;exact hy))
      have:=((tile_lv HOK.out.asc d).mem y hd2).2.1
      have:=List.mem_range.1 hd1
      omega
     have hpe : t.extract 0 (t.size - 1) = s:=by rw [← hp,hps]
     have ht1 : (t.size : Int) - 1 = ((t.size - 1 : Nat) : Int):=by omega
     have ht3 : IntKind.i64.wrap ((t.size - 1 : Nat) : Int) = ((t.size - 1 : Nat) : Int):=by simp [IntKind.wrap,IntKind.bits,IntKind.signed];omega
     have ht2 : ((t.size - 1 : Nat) : Int) ≤ t.size:=by omega
     have z1 : ∀ x : Ext Grows wr.drew,x.u.cell? ⟨b,o + j,none⟩ = some (.string t):=ext_cell (hrows.g.dr.cell hct)
     have z2 : ∀ x : Ext Grows wr.drew,x.u.cell? ⟨b,o + k,none⟩ = some (.string s):=ext_cell (hrows.g.dr.cell hcs)
     have hjM : (j : Int) < A.length:=by omega
     have hjM2 : j < A.length:=by omega
     have hss : (s.toList == s.toList) = true:=by simp
     have HS3 : Hid (S2 ++ [true] = S ++ List.replicate (j + 1 - q) true):=by
      show _ = _
      rw [hS2.out,List.append_assoc,show j + 1 - q = (j - q) + 1 by omega,List.replicate_succ']
     clear hcond hne hp hps hy hbt hct hbo hS2 hnext
     have hrowsD:=hrows.grows (Grows.drew wr)
     go_wp2_with fail
     refine t_region (Grows) [(0,false),(1,false),(2,false),(3,false),(4,false),(5,false),(6,false),(7,false),(8,false),(9,false),(10,false),(11,false),(12,false),(13,false),(14,false),(15,false),(16,false),(17,false),(18,false),(19,false),(20,false),(21,false)] Grows.refl Grows.trans (by kernel_rfl) (by kernel_rfl) (fun d _ _ _ _ h => by cases d <;> exact h) ?_
     iterate 22 (refine t_quiet rfl (fun K hK => ?_);go_simp;refine hK _ ?_;clear hK K)
     refine t_end ?_
     clear z1 z2
     go_wp2_with (at_builtin;refine app_one5 boolLay rfl _ _ rfl w1.heap.size _ S2 true rfl hrowsD.s (Grows.refl _) _ 1 rfl #[.bool true] rfl rfl (by omega) hrowsD.g.size ?_;intro v5 w5 hown5 hk5 hf5 hg5;have hrows5:=hrowsD.setS hown5 hk5 hf5 (hg5 w1 hrowsD.g (Nat.le_refl _)))
     go_roundw
     case rel => exact ⟨j + 1,_,by omega,hjO,by go_num,HS3.out,hrows5⟩
     case measure => simp [intOf];omega
    ·have HJ : Hid (j = O):=by show _ = _;omega
     by_cases hjM : j < A.length
     ·obtain ⟨y,hy⟩ : ∃ y,A[j]? = some y:=⟨_,List.getElem?_eq_getElem (by omega)⟩
      obtain ⟨b2,o2,t,hbo,hbt,hct⟩:=HC.out j y hy
      obtain ⟨rfl,rfl⟩ : b = b2∧o = o2:=by simpa using hbo
      have hcond : ¬ (spanS L y).dropLast = spanS L x:=fun h => hjO (by
       rw [HO.out]
       exact (HOK.out.cond (i:=k) (k:=j) (x:=x) (y:=y) (by rw [← HA.out];exact HX.out) (by rw [← HQ.out];exact hj1) (by rw [← HO.out];exact hj2) (by rw [← HA.out];exact hy)).1 h)
      have hne:=HOK.out.ne (k:=j) (y:=y) (by omega) (by rw [← HA.out];exact hy)
      have htp : 1 ≤ t.size:=by
       rw [← bl_len,hbt]
       have:=List.length_pos_iff.2 hne
       omega
      obtain ⟨p,hp⟩ : ∃ p,p = t.extract 0 (t.size - 1):=⟨_,rfl⟩
      have hps : (p.toList == s.toList) = false:=by
       rw [beq_eq_false_iff_ne]
       intro h
       exact hcond (by rw [← hbt,← HBS.out,← toList_inj h,hp,bl_drop])
      have htsz : t.size ≤ 256:=by
       rw [← bl_len,hbt,(HOK.out.good (i:=j) (by rw [← HA.out];exact hy)).slen]
       obtain ⟨d,hd1,hd2⟩:=List.mem_flatMap.1 (List.mem_of_getElem? (by rw [HA.out] at hy;exact hy))
       have:=((tile_lv HOK.out.asc d).mem y hd2).2.1
       have:=List.mem_range.1 hd1
       omega
      have hpe : t.extract 0 (t.size - 1) = p:=hp.symm
      have ht1 : (t.size : Int) - 1 = ((t.size - 1 : Nat) : Int):=by omega
      have ht3 : IntKind.i64.wrap ((t.size - 1 : Nat) : Int) = ((t.size - 1 : Nat) : Int):=by simp [IntKind.wrap,IntKind.bits,IntKind.signed];omega
      have ht2 : ((t.size - 1 : Nat) : Int) ≤ t.size:=by omega
      have z1 : ∀ x : Ext Grows wr.drew,x.u.cell? ⟨b,o + j,none⟩ = some (.string t):=ext_cell (hrows.g.dr.cell hct)
      have z2 : ∀ x : Ext Grows wr.drew,x.u.cell? ⟨b,o + k,none⟩ = some (.string s):=ext_cell (hrows.g.dr.cell hcs)
      have hrowsD:=hrows.grows (Grows.drew wr)
      clear hcond hne hp hy hbt hct hbo
      go_wp2_with fail
      refine t_region (Grows) [(0,false),(1,false),(2,false),(3,false),(4,false),(5,false),(6,false),(7,false),(8,false),(9,false),(10,false),(11,false),(12,false),(13,false),(14,false),(15,false),(16,false),(17,false),(18,false),(19,false),(20,false),(21,false)] Grows.refl Grows.trans (by kernel_rfl) (by kernel_rfl) (fun d _ _ _ _ h => by cases d <;> exact h) ?_
      iterate 22 (refine t_quiet rfl (fun K hK => ?_);go_simp;refine hK _ ?_;clear hK K)
      refine t_end ?_
      clear z1 z2 hps hpe ht1 ht3 ht2
      have hjO2:=HJ.out
      subst hjO2
      have hS2b : S2.length ≤ 2000000:=by omega
      clear HC hrows0 ha1 hoff hkgt hOle hqO hrows
      have HS4 : Hid (S2 ++ [false] = shapeL L (A.take (k + 1))):=by
       show _ = _
       rw [takeSnoc HX.out,shapeL_snoc,hS2.out,HSH.out,show j - q = (kids L x).length by have:=HOS.out;omega]
      by_cases h0 : k = 0
      ·have hk0 : ¬ 0 < k:=by omega
       have HLB2 : Hid (Lb = lastsL L (A.take (k + 1))):=by
        show _ = _
        rw [HLB.out,takeSnoc HX.out,h0];rfl
       clear h0
       go_wp2_with (at_builtin;refine app_one5 boolLay rfl _ _ rfl w1.heap.size _ S2 false rfl hrowsD.s (Grows.refl _) _ 1 rfl #[.bool false] rfl rfl (by omega) hrowsD.g.size ?_;intro v5 w5 hown5 hk5 hf5 hg5;have hrows5:=hrowsD.setS hown5 hk5 hf5 (hg5 w1 hrowsD.g (Nat.le_refl _));have d1:=hrows5.g.cell hcs)
       have CF:=rfind11_any B s a c w5 (by omega) (HAT.out.grows (HW1.out.tr hrows5.g))
       go_wp2_with fail
       refine CF.mono ?_
       clear d1
       rintro e w6 ⟨hfd,rfl⟩
       rcases hfd with ⟨rfl,hno⟩ | ⟨kk,rfl,hkk⟩
       ·have HI2 : Hid (I ++ [false] = isL L (A.take (k + 1))∧D = idsL L (A.take (k + 1))):=by
         have hh : here L x = false:=by
          cases hh : here L x
          ·rfl
          ·have h1:=(here_iff HOK.out.asc HG.out HOK.out.pos x.i).2 ⟨hh,rfl⟩
           have h1b : (bls B)[x.i]? = some (spanS L x):=by rw [← HL.out];exact h1
           obtain ⟨s2,hs2,hs3⟩:=bls_of h1b
           exact absurd (List.mem_of_getElem? (by rw [hs2,bl_inj (hs3.trans HBS.out.symm)])) hno
         rw [takeSnoc HX.out,isL_snoc,idsL_snoc,hh,HI.out,HD.out]
         exact ⟨rfl,by simp⟩
        clear hno CF
        go_wp2_with (at_builtin;refine app_one5 boolLay rfl _ _ rfl w1.heap.size _ I false rfl hrows5.i (Grows.refl _) _ 1 rfl #[.bool false] rfl rfl (by omega) hrows5.g.size ?_;intro v7 w7 hown7 hk7 hf7 hg7;have hrows7:=hrows5.setI hown7 hk7 hf7 (hg7 w1 hrows5.g (Nat.le_refl _)))
        go_roundw
        case rel => exact ⟨k + 1,j,_,_,_,_,hlt,by go_num,rfl,⟨HO.out,HS4.out,HLB2.out,HI2.out.1,HI2.out.2⟩,hrows7⟩
        case measure => simp [intOf];omega
       ·have HI2 : Hid (I ++ [true] = isL L (A.take (k + 1))∧D ++ [kk] = idsL L (A.take (k + 1))):=by
         have h1:=(here_iff HOK.out.asc HG.out HOK.out.pos kk).1 (by rw [← HBS.out,HL.out];exact bls_get hkk)
         rw [takeSnoc HX.out,isL_snoc,idsL_snoc,h1.1,← h1.2,HI.out,HD.out]
         exact ⟨rfl,by simp⟩
        have hkkl : kk < B.length:=(List.getElem?_eq_some_iff.1 hkk).1
        have hkkw : IntKind.u64.wrap (kk : Int) = kk:=by simp [IntKind.wrap,IntKind.bits,IntKind.signed];omega
        clear hkk CF
        go_wp2_with (first | (at_builtin;refine app_one5 boolLay rfl _ _ rfl w1.heap.size _ I true rfl hrows5.i (Grows.refl _) _ 1 rfl #[.bool true] rfl rfl (by omega) hrows5.g.size ?_;intro v7 w7 hown7 hk7 hf7 hg7;have hrows7:=hrows5.setI hown7 hk7 hf7 (hg7 w1 hrows5.g (Nat.le_refl _))) | (at_builtin;refine app_one5 n64Lay rfl _ _ rfl w1.heap.size _ D kk rfl hrows7.d (Grows.refl _) _ 1 rfl #[.int .u64 kk] rfl rfl (by omega) hrows7.g.size ?_;intro v8 w8 hown8 hk8 hf8 hg8;have hrows8:=hrows7.setD hown8 hk8 (hg8 w1 hrows7.g (Nat.le_refl _))))
        go_roundw
        case rel => exact ⟨k + 1,j,_,_,_,_,hlt,by go_num,rfl,⟨HO.out,HS4.out,HLB2.out,HI2.out.1,HI2.out.2⟩,hrows8⟩
        case measure => simp [intOf];omega
      ·have hk0 : 0 < k:=by omega
       have hsz : 1 ≤ s.size:=by
        rw [← bl_len,HBS.out]
        exact List.length_pos_iff.2 (HOK.out.ne (k:=k) (by omega) (by rw [← HA.out];exact HX.out))
       have hs256 : s.size ≤ 256:=by
        rw [← bl_len,HBS.out,HG.out.slen]
        obtain ⟨d,hd1,hd2⟩:=List.mem_flatMap.1 (List.mem_of_getElem? (by have:=HX.out;rw [HA.out] at this;exact this))
        have:=((tile_lv HOK.out.asc d).mem x hd2).2.1
        have:=List.mem_range.1 hd1
        omega
       have hs2 : s.size - 1 < s.size:=by omega
       have HLB2 : Hid (Lb ++ [s[s.size - 1]] = lastsL L (A.take (k + 1))):=by
        show _ = _
        rw [HLB.out,takeSnoc HX.out,lastsL_snoc L x (by intro h;have:=congrArg List.length h;rw [List.length_take,List.length_nil] at this;omega),← HBS.out,bl_last hs2]
       have hs1 : (s.size : Int) - 1 = ((s.size - 1 : Nat) : Int):=by omega
       have hs3 : IntKind.i64.wrap ((s.size - 1 : Nat) : Int) = ((s.size - 1 : Nat) : Int):=by simp [IntKind.wrap,IntKind.bits,IntKind.signed];omega
       clear h0
       go_wp2_with (at_builtin;refine app_one5 boolLay rfl _ _ rfl w1.heap.size _ S2 false rfl hrowsD.s (Grows.refl _) _ 1 rfl #[.bool false] rfl rfl (by omega) hrowsD.g.size ?_;intro v5 w5 hown5 hk5 hf5 hg5;have hrows5:=hrowsD.setS hown5 hk5 hf5 (hg5 w1 hrowsD.g (Nat.le_refl _));have d1:=hrows5.g.cell hcs)
       have y1 : ∀ x : Ext Grows w5.drew,x.u.cell? ⟨b,o + k,none⟩ = some (.string s):=ext_cell (hrows5.g.dr.cell hcs)
       have hrowsE:=hrows5.grows (Grows.drew w5)
       refine t_tail (Grows) 13 [(0,false),(1,false),(2,false),(3,false),(4,false),(5,false),(6,false),(7,false),(8,false),(9,false),(10,false),(11,false),(12,true)] Grows.refl Grows.trans (by kernel_rfl) (by kernel_rfl) (fun d _ _ _ _ h => by cases d <;> exact h) ?_
       iterate 12 (refine t_quiet rfl (fun K hK => ?_);go_simp;refine hK _ ?_;clear hK K)
       clear y1
       refine t_late rfl rfl (fun K hK => ?_)
       go_simp
       refine ⟨Grows.alloc _ _,hK _ _ ?_⟩
       clear hK K
       refine t_end ?_
       simp only [List.drop_succ_cons,List.drop_zero]
       go_wp2_with (at_builtin;refine app_one5 byteLay rfl _ _ rfl w1.heap.size _ Lb (s[s.size - 1]) rfl hrowsE.l (Grows.refl _) _ 1 rfl _ rfl rfl (by omega) hrowsE.g.size ?_;intro v6 w6 hown6 hk6 hf6 hg6;have hrows6:=hrowsE.setL hown6 hk6 (hg6 w1 hrowsE.g (Nat.le_refl _));have d1:=hrows6.g.cell hcs)
       have CF:=rfind11_any B s a c w6 (by omega) (HAT.out.grows (HW1.out.tr hrows6.g))
       go_wp2_with fail
       refine CF.mono ?_
       clear d1
       rintro e w16 ⟨hfd,rfl⟩
       rcases hfd with ⟨rfl,hno⟩ | ⟨kk,rfl,hkk⟩
       ·have HI2 : Hid (I ++ [false] = isL L (A.take (k + 1))∧D = idsL L (A.take (k + 1))):=by
         have hh : here L x = false:=by
          cases hh : here L x
          ·rfl
          ·have h1:=(here_iff HOK.out.asc HG.out HOK.out.pos x.i).2 ⟨hh,rfl⟩
           have h1b : (bls B)[x.i]? = some (spanS L x):=by rw [← HL.out];exact h1
           obtain ⟨s2,hs2,hs3⟩:=bls_of h1b
           exact absurd (List.mem_of_getElem? (by rw [hs2,bl_inj (hs3.trans HBS.out.symm)])) hno
         rw [takeSnoc HX.out,isL_snoc,idsL_snoc,hh,HI.out,HD.out]
         exact ⟨rfl,by simp⟩
        clear hno CF
        go_wp2_with (at_builtin;refine app_one5 boolLay rfl _ _ rfl w1.heap.size _ I false rfl hrows6.i (Grows.refl _) _ 1 rfl #[.bool false] rfl rfl (by omega) hrows6.g.size ?_;intro v7 w7 hown7 hk7 hf7 hg7;have hrows7:=hrows6.setI hown7 hk7 hf7 (hg7 w1 hrows6.g (Nat.le_refl _)))
        go_roundw
        case rel => exact ⟨k + 1,j,_,_,_,_,hlt,by go_num,rfl,⟨HO.out,HS4.out,HLB2.out,HI2.out.1,HI2.out.2⟩,hrows7⟩
        case measure => simp [intOf];omega
       ·have HI2 : Hid (I ++ [true] = isL L (A.take (k + 1))∧D ++ [kk] = idsL L (A.take (k + 1))):=by
         have h1:=(here_iff HOK.out.asc HG.out HOK.out.pos kk).1 (by rw [← HBS.out,HL.out];exact bls_get hkk)
         rw [takeSnoc HX.out,isL_snoc,idsL_snoc,h1.1,← h1.2,HI.out,HD.out]
         exact ⟨rfl,by simp⟩
        have hkkl : kk < B.length:=(List.getElem?_eq_some_iff.1 hkk).1
        have hkkw : IntKind.u64.wrap (kk : Int) = kk:=by simp [IntKind.wrap,IntKind.bits,IntKind.signed];omega
        clear hkk CF
        go_wp2_with (first | (at_builtin;refine app_one5 boolLay rfl _ _ rfl w1.heap.size _ I true rfl hrows6.i (Grows.refl _) _ 1 rfl #[.bool true] rfl rfl (by omega) hrows6.g.size ?_;intro v7 w7 hown7 hk7 hf7 hg7;have hrows7:=hrows6.setI hown7 hk7 hf7 (hg7 w1 hrows6.g (Nat.le_refl _))) | (at_builtin;refine app_one5 n64Lay rfl _ _ rfl w1.heap.size _ D kk rfl hrows7.d (Grows.refl _) _ 1 rfl #[.int .u64 kk] rfl rfl (by omega) hrows7.g.size ?_;intro v8 w8 hown8 hk8 hf8 hg8;have hrows8:=hrows7.setD hown8 hk8 (hg8 w1 hrows7.g (Nat.le_refl _))))
        go_roundw
        case rel => exact ⟨k + 1,j,_,_,_,_,hlt,by go_num,rfl,⟨HO.out,HS4.out,HLB2.out,HI2.out.1,HI2.out.2⟩,hrows8⟩
        case measure => simp [intOf];omega
     ·have hjMi : ¬ j < A.length:=hjM
      have hrowsD:=hrows.grows (Grows.drew wr)
      go_wp2_with fail
      refine t_region (Grows) [(0,false),(1,false),(2,false),(3,false),(4,false),(5,false),(6,false),(7,false),(8,false),(9,false),(10,false),(11,false),(12,false),(13,false),(14,false),(15,false),(16,false),(17,false),(18,false),(19,false),(20,false),(21,false)] Grows.refl Grows.trans (by kernel_rfl) (by kernel_rfl) (fun d _ _ _ _ h => by cases d <;> exact h) ?_
      iterate 22 (refine t_quiet rfl (fun K hK => ?_);go_simp;refine hK _ ?_;clear hK K)
      refine t_end ?_
      have hjO2:=HJ.out
      subst hjO2
      have hS2b : S2.length ≤ 2000000:=by omega
      clear HC hrows0 ha1 hoff hkgt hOle hqO hrows
      have HS4 : Hid (S2 ++ [false] = shapeL L (A.take (k + 1))):=by
       show _ = _
       rw [takeSnoc HX.out,shapeL_snoc,hS2.out,HSH.out,show j - q = (kids L x).length by have:=HOS.out;omega]
      by_cases h0 : k = 0
      ·have hk0 : ¬ 0 < k:=by omega
       have HLB2 : Hid (Lb = lastsL L (A.take (k + 1))):=by
        show _ = _
        rw [HLB.out,takeSnoc HX.out,h0];rfl
       clear h0
       go_wp2_with (at_builtin;refine app_one5 boolLay rfl _ _ rfl w1.heap.size _ S2 false rfl hrowsD.s (Grows.refl _) _ 1 rfl #[.bool false] rfl rfl (by omega) hrowsD.g.size ?_;intro v5 w5 hown5 hk5 hf5 hg5;have hrows5:=hrowsD.setS hown5 hk5 hf5 (hg5 w1 hrowsD.g (Nat.le_refl _));have d1:=hrows5.g.cell hcs)
       have CF:=rfind11_any B s a c w5 (by omega) (HAT.out.grows (HW1.out.tr hrows5.g))
       go_wp2_with fail
       refine CF.mono ?_
       clear d1
       rintro e w6 ⟨hfd,rfl⟩
       rcases hfd with ⟨rfl,hno⟩ | ⟨kk,rfl,hkk⟩
       ·have HI2 : Hid (I ++ [false] = isL L (A.take (k + 1))∧D = idsL L (A.take (k + 1))):=by
         have hh : here L x = false:=by
          cases hh : here L x
          ·rfl
          ·have h1:=(here_iff HOK.out.asc HG.out HOK.out.pos x.i).2 ⟨hh,rfl⟩
           have h1b : (bls B)[x.i]? = some (spanS L x):=by rw [← HL.out];exact h1
           obtain ⟨s2,hs2,hs3⟩:=bls_of h1b
           exact absurd (List.mem_of_getElem? (by rw [hs2,bl_inj (hs3.trans HBS.out.symm)])) hno
         rw [takeSnoc HX.out,isL_snoc,idsL_snoc,hh,HI.out,HD.out]
         exact ⟨rfl,by simp⟩
        clear hno CF
        go_wp2_with (at_builtin;refine app_one5 boolLay rfl _ _ rfl w1.heap.size _ I false rfl hrows5.i (Grows.refl _) _ 1 rfl #[.bool false] rfl rfl (by omega) hrows5.g.size ?_;intro v7 w7 hown7 hk7 hf7 hg7;have hrows7:=hrows5.setI hown7 hk7 hf7 (hg7 w1 hrows5.g (Nat.le_refl _)))
        go_roundw
        case rel => exact ⟨k + 1,j,_,_,_,_,hlt,by go_num,rfl,⟨HO.out,HS4.out,HLB2.out,HI2.out.1,HI2.out.2⟩,hrows7⟩
        case measure => simp [intOf];omega
       ·have HI2 : Hid (I ++ [true] = isL L (A.take (k + 1))∧D ++ [kk] = idsL L (A.take (k + 1))):=by
         have h1:=(here_iff HOK.out.asc HG.out HOK.out.pos kk).1 (by rw [← HBS.out,HL.out];exact bls_get hkk)
         rw [takeSnoc HX.out,isL_snoc,idsL_snoc,h1.1,← h1.2,HI.out,HD.out]
         exact ⟨rfl,by simp⟩
        have hkkl : kk < B.length:=(List.getElem?_eq_some_iff.1 hkk).1
        have hkkw : IntKind.u64.wrap (kk : Int) = kk:=by simp [IntKind.wrap,IntKind.bits,IntKind.signed];omega
        clear hkk CF
        go_wp2_with (first | (at_builtin;refine app_one5 boolLay rfl _ _ rfl w1.heap.size _ I true rfl hrows5.i (Grows.refl _) _ 1 rfl #[.bool true] rfl rfl (by omega) hrows5.g.size ?_;intro v7 w7 hown7 hk7 hf7 hg7;have hrows7:=hrows5.setI hown7 hk7 hf7 (hg7 w1 hrows5.g (Nat.le_refl _))) | (at_builtin;refine app_one5 n64Lay rfl _ _ rfl w1.heap.size _ D kk rfl hrows7.d (Grows.refl _) _ 1 rfl #[.int .u64 kk] rfl rfl (by omega) hrows7.g.size ?_;intro v8 w8 hown8 hk8 hf8 hg8;have hrows8:=hrows7.setD hown8 hk8 (hg8 w1 hrows7.g (Nat.le_refl _))))
        go_roundw
        case rel => exact ⟨k + 1,j,_,_,_,_,hlt,by go_num,rfl,⟨HO.out,HS4.out,HLB2.out,HI2.out.1,HI2.out.2⟩,hrows8⟩
        case measure => simp [intOf];omega
      ·have hk0 : 0 < k:=by omega
       have hsz : 1 ≤ s.size:=by
        rw [← bl_len,HBS.out]
        exact List.length_pos_iff.2 (HOK.out.ne (k:=k) (by omega) (by rw [← HA.out];exact HX.out))
       have hs256 : s.size ≤ 256:=by
        rw [← bl_len,HBS.out,HG.out.slen]
        obtain ⟨d,hd1,hd2⟩:=List.mem_flatMap.1 (List.mem_of_getElem? (by have:=HX.out;rw [HA.out] at this;exact this))
        have:=((tile_lv HOK.out.asc d).mem x hd2).2.1
        have:=List.mem_range.1 hd1
        omega
       have hs2 : s.size - 1 < s.size:=by omega
       have HLB2 : Hid (Lb ++ [s[s.size - 1]] = lastsL L (A.take (k + 1))):=by
        show _ = _
        rw [HLB.out,takeSnoc HX.out,lastsL_snoc L x (by intro h;have:=congrArg List.length h;rw [List.length_take,List.length_nil] at this;omega),← HBS.out,bl_last hs2]
       have hs1 : (s.size : Int) - 1 = ((s.size - 1 : Nat) : Int):=by omega
       have hs3 : IntKind.i64.wrap ((s.size - 1 : Nat) : Int) = ((s.size - 1 : Nat) : Int):=by simp [IntKind.wrap,IntKind.bits,IntKind.signed];omega
       clear h0
       go_wp2_with (at_builtin;refine app_one5 boolLay rfl _ _ rfl w1.heap.size _ S2 false rfl hrowsD.s (Grows.refl _) _ 1 rfl #[.bool false] rfl rfl (by omega) hrowsD.g.size ?_;intro v5 w5 hown5 hk5 hf5 hg5;have hrows5:=hrowsD.setS hown5 hk5 hf5 (hg5 w1 hrowsD.g (Nat.le_refl _));have d1:=hrows5.g.cell hcs)
       have y1 : ∀ x : Ext Grows w5.drew,x.u.cell? ⟨b,o + k,none⟩ = some (.string s):=ext_cell (hrows5.g.dr.cell hcs)
       have hrowsE:=hrows5.grows (Grows.drew w5)
       refine t_tail (Grows) 13 [(0,false),(1,false),(2,false),(3,false),(4,false),(5,false),(6,false),(7,false),(8,false),(9,false),(10,false),(11,false),(12,true)] Grows.refl Grows.trans (by kernel_rfl) (by kernel_rfl) (fun d _ _ _ _ h => by cases d <;> exact h) ?_
       iterate 12 (refine t_quiet rfl (fun K hK => ?_);go_simp;refine hK _ ?_;clear hK K)
       clear y1
       refine t_late rfl rfl (fun K hK => ?_)
       go_simp
       refine ⟨Grows.alloc _ _,hK _ _ ?_⟩
       clear hK K
       refine t_end ?_
       simp only [List.drop_succ_cons,List.drop_zero]
       go_wp2_with (at_builtin;refine app_one5 byteLay rfl _ _ rfl w1.heap.size _ Lb (s[s.size - 1]) rfl hrowsE.l (Grows.refl _) _ 1 rfl _ rfl rfl (by omega) hrowsE.g.size ?_;intro v6 w6 hown6 hk6 hf6 hg6;have hrows6:=hrowsE.setL hown6 hk6 (hg6 w1 hrowsE.g (Nat.le_refl _));have d1:=hrows6.g.cell hcs)
       have CF:=rfind11_any B s a c w6 (by omega) (HAT.out.grows (HW1.out.tr hrows6.g))
       go_wp2_with fail
       refine CF.mono ?_
       clear d1
       rintro e w16 ⟨hfd,rfl⟩
       rcases hfd with ⟨rfl,hno⟩ | ⟨kk,rfl,hkk⟩
       ·have HI2 : Hid (I ++ [false] = isL L (A.take (k + 1))∧D = idsL L (A.take (k + 1))):=by
         have hh : here L x = false:=by
          cases hh : here L x
          ·rfl
          ·have h1:=(here_iff HOK.out.asc HG.out HOK.out.pos x.i).2 ⟨hh,rfl⟩
           have h1b : (bls B)[x.i]? = some (spanS L x):=by rw [← HL.out];exact h1
           obtain ⟨s2,hs2,hs3⟩:=bls_of h1b
           exact absurd (List.mem_of_getElem? (by rw [hs2,bl_inj (hs3.trans HBS.out.symm)])) hno
         rw [takeSnoc HX.out,isL_snoc,idsL_snoc,hh,HI.out,HD.out]
         exact ⟨rfl,by simp⟩
        clear hno CF
        go_wp2_with (at_builtin;refine app_one5 boolLay rfl _ _ rfl w1.heap.size _ I false rfl hrows6.i (Grows.refl _) _ 1 rfl #[.bool false] rfl rfl (by omega) hrows6.g.size ?_;intro v7 w7 hown7 hk7 hf7 hg7;have hrows7:=hrows6.setI hown7 hk7 hf7 (hg7 w1 hrows6.g (Nat.le_refl _)))
        go_roundw
        case rel => exact ⟨k + 1,j,_,_,_,_,hlt,by go_num,rfl,⟨HO.out,HS4.out,HLB2.out,HI2.out.1,HI2.out.2⟩,hrows7⟩
        case measure => simp [intOf];omega
       ·have HI2 : Hid (I ++ [true] = isL L (A.take (k + 1))∧D ++ [kk] = idsL L (A.take (k + 1))):=by
         have h1:=(here_iff HOK.out.asc HG.out HOK.out.pos kk).1 (by rw [← HBS.out,HL.out];exact bls_get hkk)
         rw [takeSnoc HX.out,isL_snoc,idsL_snoc,h1.1,← h1.2,HI.out,HD.out]
         exact ⟨rfl,by simp⟩
        have hkkl : kk < B.length:=(List.getElem?_eq_some_iff.1 hkk).1
        have hkkw : IntKind.u64.wrap (kk : Int) = kk:=by simp [IntKind.wrap,IntKind.bits,IntKind.signed];omega
        clear hkk CF
        go_wp2_with (first | (at_builtin;refine app_one5 boolLay rfl _ _ rfl w1.heap.size _ I true rfl hrows6.i (Grows.refl _) _ 1 rfl #[.bool true] rfl rfl (by omega) hrows6.g.size ?_;intro v7 w7 hown7 hk7 hf7 hg7;have hrows7:=hrows6.setI hown7 hk7 hf7 (hg7 w1 hrows6.g (Nat.le_refl _))) | (at_builtin;refine app_one5 n64Lay rfl _ _ rfl w1.heap.size _ D kk rfl hrows7.d (Grows.refl _) _ 1 rfl #[.int .u64 kk] rfl rfl (by omega) hrows7.g.size ?_;intro v8 w8 hown8 hk8 hf8 hg8;have hrows8:=hrows7.setD hown8 hk8 (hg8 w1 hrows7.g (Nat.le_refl _))))
        go_roundw
        case rel => exact ⟨k + 1,j,_,_,_,_,hlt,by go_num,rfl,⟨HO.out,HS4.out,HLB2.out,HI2.out.1,HI2.out.2⟩,hrows8⟩
        case measure => simp [intOf];omega
  ·have hki : ¬ (k : Int) < A.length:=by omega
   have hke : k = A.length:=by omega
   have HS : Hid (S = shapeL L (nodesA L)):=by show _ = _;rw [hS,hke,List.take_length,HA.out]
   have HLb : Hid (Lb = labelsL L (nodesA L)):=by show _ = _;rw [hLb,hke,List.take_length,HOK.out.labels,HA.out];rfl
   have HI : Hid (I = isL L (nodesA L)):=by show _ = _;rw [hI,hke,List.take_length,HA.out]
   have HD : Hid (D = idsL L (nodesA L)):=by show _ = _;rw [hD,hke,List.take_length,HA.out]
   have hD64 : ∀ n ∈ D,n < 18446744073709551616:=fun n hn => by
    rw [hD] at hn
    unfold idsL at hn
    obtain ⟨x,hx,rfl⟩:=List.mem_map.1 hn
    have hx2:=List.mem_of_mem_take (List.mem_filter.1 hx).1
    have hg:=mem_nodes HOK.out.asc (by rw [HA.out] at hx2;exact hx2)
    have:=hg.le
    rw [HL.out,bls_len] at this
    omega
   have HD64:=Lib.hid hD64
   have hel:=vecE_len S
   have hel2:=vecE_len I
   have hpl:=packE_len D
   have hwd : widL D ≤ 64:=widL_le.2 hD64
   have hpb : D.length * widL D ≤ 524287 * 64:=Nat.mul_le_mul hDl hwd
   obtain ⟨aS,cS,rfl,_,_,hatS⟩:=hrows.s.at_ (enc:=boolC) (fun _ => rfl)
   obtain ⟨aL,cL,rfl,_,_,hatL⟩:=hrows.l.at_ byteLay.len
   obtain ⟨aI,cI,rfl,_,_,hatI⟩:=hrows.i.at_ (enc:=boolC) (fun _ => rfl)
   obtain ⟨aD,cD,rfl,_,_,hatD⟩:=hrows.d.at_ (enc:=n64C) (fun _ => rfl)
   have hnL:=owns_none2 hrows.l
   have hltL : ∀ q : Addr,aL = some q → q.block < wr.heap.size:=fun q hq => own_lt hrows.l q.block (by rw [hq];rfl)
   have hgw:=HW1.out.tr hrows.g
   obtain ⟨b1,hb1⟩ : ∃ b1,b1 = vecE S:=⟨_,rfl⟩
   obtain ⟨b3,hb3⟩ : ∃ b3,b3 = vecE I:=⟨_,rfl⟩
   obtain ⟨b4,hb4⟩ : ∃ b4,b4 = packE D:=⟨_,rfl⟩
   have CS:=Lib.hid (rvec_any S aS cS wr (by omega) hatS)
   have CI:=fun W (hg : Grows wr W) => Lib.hid (rvec_any I aI cI W (by omega) (hatI.grows hg))
   have CD:=fun W (hg : Grows wr W) => Lib.hid (rpack_any D aD cD W (by omega) HD64.out (hatD.grows hg))
   rw [← hb1] at CS hel
   rw [← hb3] at CI hel2
   rw [← hb4] at CD hpl
   have HB1:=Lib.hid hb1
   have HB3:=Lib.hid hb3
   have HB4:=Lib.hid hb4
   have HATL:=Lib.hid hatL
   have hb1l : b1.length ≤ 100000000:=by omega
   have hb3l : b3.length ≤ 100000000:=by omega
   have hb4l : b4.length ≤ 100000000:=by omega
   clear hinv hS hLb hI hD hke hD64 hel hel2 hpl hwd hpb hatS hatL hatI hatD hrows hrows0 HC ha1 hb1 hb3 hb4 hoff hSl
   go_wp2_with fail
   refine CS.out.mono ?_
   rintro e w2 ⟨v2,rfl,hown2,hg2⟩
   obtain ⟨a2,c2,rfl,_,_,hat2⟩:=hown2.at_ byteLay.len
   have hn2:=owns_none2 hown2
   clear hown2
   go_wp2_with fail
   refine (rpart_any (.slice none 0 0) [] b1 a2 c2 w2 w2 (Grows.refl _) (by simp) (by omega) (Owns.nil _ _ _ _ _) hat2 hn2 (fun q _ h => by cases h)).mono ?_
   rintro e w3 ⟨v3,rfl,hown3,hg3⟩
   rw [List.nil_append] at hown3
   have hp1 : (part11 b1).length ≤ 100000004:=by unfold part11;rw [List.length_append,leB_len];omega
   have hgA:=hg2.tr hg3
   go_wp2_with fail
   refine (rpart_any v3 (part11 b1) Lb aL cL w2 w3 hg3 (by omega) (by omega) hown3 (HATL.out.grows hgA) hnL (blocks_lo hown3 (fun q hq => Nat.lt_of_lt_of_le (hltL q hq) hg2.size))).mono ?_
   rintro e w4 ⟨v4,rfl,hown4,hg4⟩
   obtain ⟨P2,hP2⟩ : ∃ P,P = part11 b1 ++ part11 Lb:=⟨_,rfl⟩
   rw [← hP2] at hown4
   have hp2 : P2.length ≤ 200000008:=by rw [hP2,List.length_append];unfold part11 at *;rw [List.length_append,leB_len] at *;rw [List.length_append,leB_len];omega
   have HP2:=Lib.hid hP2
   clear hP2 hown3 hgA hat2 hn2
   have hgB:=hg2.tr hg4
   go_wp2_with fail
   refine (CI w4 hgB).out.mono ?_
   rintro e w5 ⟨v5,rfl,hown5,hg5⟩
   obtain ⟨a5,c5,rfl,_,_,hat5⟩:=hown5.at_ byteLay.len
   have hn5:=owns_none2 hown5
   go_wp2_with fail
   refine (rpart_any v4 P2 b3 a5 c5 w2 w5 (hg4.tr hg5) (by omega) (by omega) (hown4.grows hg5) hat5 hn5 (fun q hq hv => by have h1:=own_lt hown4 _ hv.symm;have h2:=ownBlock_ge hown5 q.block (by rw [hq];rfl);omega)).mono ?_
   rintro e w6 ⟨v6,rfl,hown6,hg6⟩
   obtain ⟨P3,hP3⟩ : ∃ P,P = P2 ++ part11 b3:=⟨_,rfl⟩
   rw [← hP3] at hown6
   have hp3 : P3.length ≤ 400000012:=by rw [hP3,List.length_append];unfold part11;rw [List.length_append,leB_len];omega
   have HP3:=Lib.hid hP3
   clear hP3 hown4 hown5 hgB hat5 hn5 hg5
   have hgC:=hg2.tr hg6
   go_wp2_with fail
   refine (CD w6 hgC).out.mono ?_
   rintro e w7 ⟨v7,rfl,hown7,hg7⟩
   obtain ⟨a7,c7,rfl,_,_,hat7⟩:=hown7.at_ byteLay.len
   have hn7:=owns_none2 hown7
   go_wp2_with fail
   refine (rpart_any v6 P3 b4 a7 c7 w2 w7 (hg6.tr hg7) (by omega) (by omega) (hown6.grows hg7) hat7 hn7 (fun q hq hv => by have h1:=own_lt hown6 _ hv.symm;have h2:=ownBlock_ge hown7 q.block (by rw [hq];rfl);omega)).mono ?_
   rintro e w8 ⟨v8,rfl,hown8,hg8⟩
   go_wp2_with fail
   go_ret
   refine ⟨_,rfl, ?_,hgw.tr (hg2.tr hg8)⟩
   have hfin : P3 ++ part11 b4 = loudE L:=by
    rw [HP3.out,HP2.out,HB1.out,HB3.out,HB4.out,HS.out,HLb.out,HI.out,HD.out];rfl
   rw [← hfin]
   exact hown8.base (hgw.tr hg2).size
end Go.Proofs.YtepoiefadjoabaaGreatDoor
