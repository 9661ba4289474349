import Derived.Test.YtheiocndipepaaaGreatDoorKq47
import Derived.Test.YtheiocndipepaaaGreatDoorKq4
namespace Go.Proofs.YtheiocndipepaaaGreatDoor
open Go Go.RowKit Go.Shelf
attribute [local go_sem] aM aK

theorem xD {l : List En} {v : Value} {w : World} {B n : Nat} (hO : aV w B 52 5 aQ v l) (hn : l.length = n) : ∃ a c, v = .slice a n c := by
  obtain ⟨a, c, e, _⟩ := hO.at_ dT.len
  exact ⟨a, c, by rw [e, hn]⟩
def jY1 : ByteArray := ⟨#[227, 129, 141]⟩
def zA : ByteArray := ⟨#[227, 129, 139]⟩
def gO0 : ByteArray := ⟨#[227, 129, 139, 227, 129, 141]⟩
def wO0 : ByteArray := ⟨#[232, 154, 138]⟩
def fP1 : ByteArray := ⟨#[232, 154, 138, 231, 167, 145]⟩
def lU1 : ByteArray := ⟨#[]⟩
theorem qQ1 : (exactL cX jY1).length = 0 := by decide +kernel
theorem qS1 : (exactL cX lU1).length = 0 := by decide +kernel
theorem qJ1 : (prefL cX jY1).length = 0 := by decide +kernel
theorem nD1 : nL0 (prefL cX zA) = ⟨#[231, 167, 145, 232, 154, 138]⟩ ∧ (prefL cX zA).length ≤ 1000 ∧ ∀ x ∈ prefL cX zA, x.s.size ≤ 1000 := by decide +kernel
theorem lM1 : nL0 (underL cX lU1 9) = ⟨#[231, 167, 145, 232, 154, 138, 230, 159, 191]⟩ ∧ (underL cX lU1 9).length ≤ 1000 ∧ ∀ x ∈ underL cX lU1 9, x.s.size ≤ 1000 := by decide +kernel
theorem mX1 : nL0 (underL cX gO0 1) = ⟨#[230, 159, 191]⟩ ∧ (underL cX gO0 1).length ≤ 1000 ∧ ∀ x ∈ underL cX gO0 1, x.s.size ≤ 1000 := by decide +kernel
theorem qG1 : (underL cX zA 0).length = 0 := by decide +kernel
theorem qZ1 : (underL cX zA (-1)).length = 0 := by decide +kernel
theorem mA1 : nL0 (ofL cX wO0) = ⟨#[232, 154, 138]⟩ ∧ (ofL cX wO0).length ≤ 1000 ∧ ∀ x ∈ ofL cX wO0, x.s.size ≤ 1000 := by decide +kernel
theorem qY1 : (ofL cX zA).length = 0 := by decide +kernel
theorem lF1 : nL0 (writesL cX fP1) = ⟨#[232, 154, 138]⟩ ∧ (writesL cX fP1).length ≤ 1000 ∧ ∀ x ∈ writesL cX fP1, x.s.size ≤ 1000 := by decide +kernel
theorem rU1 : eH.length = 2 := rfl
theorem rB1 : eU.cost (2, 0) = 30000 := by decide +kernel
theorem rI1 : eU.cost (-1, 0) = 30000 := by decide +kernel
theorem rF1 : kZ0 eH 1 = 0 := by decide +kernel
theorem qM1 : kZ0 eH 5 = 0 := by decide +kernel
theorem qI1 : kZ0 eH (-1) = 0 := by decide +kernel
def knI : List UInt8 := file14 (imgP eH eU cX)
def seqN {α : Type} (n : Nat) (f : Nat → α) : α := Nat.casesOn n (f 0) (fun k => f (k + 1))
theorem seqN_eq {α : Type} (n : Nat) (f : Nat → α) : seqN n f = f n := by cases n <;> rfl
def crcF1 (r : Nat) : Nat := seqN r fun r => if r % 2 = 1 then r / 2 ^^^ 3988292384 else r / 2
def crcF : Nat → List UInt8 → Nat
  | r, [] => r
  | r, c :: l => seqN (crcF1 (crcF1 (crcF1 (crcF1 (crcF1 (crcF1 (crcF1 (crcF1 (r ^^^ c.toNat))))))))) fun s => crcF s l
theorem crcF_eq : ∀ (l : List UInt8) (r : Nat), crcF r l = sL r l
  | [], _ => rfl
  | c :: l, r => by
    unfold crcF sL crcF1
    simp only [seqN_eq]
    exact crcF_eq l _
def pY1 (b : List UInt8) : Bool := decide (b.drop (b.length - 4) = leB 4 (crcF 4294967295 (b.take (b.length - 4)) ^^^ 4294967295))
theorem sB0 {b : List UInt8} (h : pY1 b = false) : dP0 b := fun e => by
  unfold pY1 at h
  rw [crcF_eq] at h
  unfold crcSum at e
  rw [decide_eq_true e] at h
  cases h
def knB : List UInt8 := cZ (imgP eH eU cX)
def knJ : List UInt8 := knB ++ leB 4 (crcF 4294967295 knB ^^^ 4294967295)
theorem crcF_sum (b : List UInt8) : crcF 4294967295 b ^^^ 4294967295 = crcSum b := by rw [crcF_eq]; rfl
theorem knJ_eq : knI = knJ := by
  have h : knI = knB ++ leB 4 (crcSum knB) := wX _
  unfold knJ
  rw [crcF_sum]
  exact h
theorem kn_len : knI.length ≤ 100000 := by decide +kernel
theorem pU1 : pY1 (knJ.take (knJ.length - 1)) = false := by decide +kernel
theorem kn_i2 : pY1 (knJ ++ [0]) = false := by decide +kernel
set_option maxHeartbeats 8000000 in
set_option maxRecDepth 100000 in
theorem qE0 (w : World) (he : Env w) : Calls Tryz.prog 7 #[] w fun e w' => e = .returned (.bool true) ∧ Grows w w' := by
  have HE := Lib.hid he
  have CW := fun W (h : Grows w W) => Lib.hid (lJ W (HE.out.grows h))
  have HOP := fun (A : kQ) (u : World) (hu : Grows w u) (hat : mV u A sZ) => Lib.hid (fX0 sZ A eU u (HE.out.grows hu) rD qT iV0 oH0 pK hat)
  have HIM := fun (A : kQ) (u : World) (hu : Grows w u) (hat : mV u A sZ) => Lib.hid (qQ sZ A u (HE.out.grows hu) rD (oL1 qT rD).2.1 hat)
  have h14 : fK (imgP eH eU cX) = 0 := cJ0 oH0 (jL qT).2.2.2.2 pK
  have hbu : nQ eH (some eU) iS0 = (0, knI) := iH pK h14
  unfold cM at HIM
  rw [iV0] at HIM
  have hbu2 : nQ sZ.p (some eU) sZ.e = (0, knI) := hbu
  rw [hbu2] at HIM
  have HF := Lib.hid (show 9 ≤ knI.length ∧ knI.take 4 = [72, 78, 75, 49] ∧ ¬ dP0 knI ∧ knI.length ≤ 1099511627776 from yC h14)
  have HB1 : Hid (dP0 (knI.take (knI.length - 1))) := by
    rw [knJ_eq]
    exact sB0 pU1
  have HB2 : Hid (dP0 (knI ++ [0])) := by
    rw [knJ_eq]
    exact sB0 kn_i2
  have HL := Lib.hid kn_len
  clear he h14 hbu hbu2
  generalize knI = IM at HIM HF HB1 HB2 HL
  go_enter Tryz.func7, Tryz.ntmps7
  go_wp2_with fail
  refine (oU w).mono ?_
  rintro e w1 ⟨A, rfl, hA, hg1⟩
  have HO := HOP A w1 hg1 hA
  clear HOP hA
  go_wp2_with fail
  refine HO.out.mono ?_
  rintro e w2 ⟨db, rfl, hd, hg2⟩
  have k0 := Grows.refl w2
  have g2 := hg1.tr hg2
  have HD := Lib.hid (show cB w2 db eH eU cX from hd)
  clear hd HO hg1 hg2
  have CC := Lib.hid (lV0 eH eU cX db w2 (HD.out.grows k0))
  rw [rU1] at CC
  go_wp2_with fail
  refine CC.out.mono ?_
  rintro e wz ⟨rfl, rfl⟩
  clear CC
  have CC := Lib.hid (bK0 eH eU cX db 2 0 w2 (HD.out.grows k0))
  rw [rB1] at CC
  go_wp2_with fail
  refine CC.out.mono ?_
  rintro e wz ⟨rfl, rfl⟩
  clear CC
  have CC := Lib.hid (bK0 eH eU cX db (-1) 0 w2 (HD.out.grows k0))
  rw [rI1] at CC
  go_wp2_with fail
  refine CC.out.mono ?_
  rintro e wz ⟨rfl, rfl⟩
  clear CC
  have CC := Lib.hid (nS eH eU cX db jY1 w2 eD (by decide) (HD.out.grows k0))
  go_wp2_with fail
  refine CC.out.mono ?_
  rintro e u1 ⟨v1, rfl, hv1, hg1⟩
  have k1 := k0.tr hg1
  obtain ⟨sa1, sc1, rfl⟩ := xD hv1 qQ1
  clear CC hv1 hg1 
  have CC := Lib.hid (nS eH eU cX db lU1 u1 eD (by decide) (HD.out.grows k1))
  go_wp2_with fail
  refine CC.out.mono ?_
  rintro e u2 ⟨v2, rfl, hv2, hg2⟩
  have k2 := k1.tr hg2
  obtain ⟨sa2, sc2, rfl⟩ := xD hv2 qS1
  clear CC hv2 hg2 k1
  have CC := Lib.hid (iR eH eU cX db jY1 u2 eD (by decide) (HD.out.grows k2))
  go_wp2_with fail
  refine CC.out.mono ?_
  rintro e u3 ⟨v3, rfl, hv3, hg3⟩
  have k3 := k2.tr hg3
  obtain ⟨sa3, sc3, rfl⟩ := xD hv3 qJ1
  clear CC hv3 hg3 k2
  have CC := Lib.hid (iR eH eU cX db zA u3 eD (by decide) (HD.out.grows k3))
  go_wp2_with fail
  refine CC.out.mono ?_
  rintro e u4 ⟨v4, rfl, hv4, hg4⟩
  have k4 := k3.tr hg4
  have CW5 := Lib.hid (oF _ hv4 nD1.2.1 nD1.2.2 nD1.1)
  clear CC hv4
  go_wp2_with fail
  refine CW5.out.mono ?_
  rintro e u5 ⟨rfl, hg5⟩
  have k5 := k4.tr hg5
  clear CW5 hg4 hg5 k4 k3
  have CC := Lib.hid (fU eH eU cX db lU1 9 u5 eD (by decide) (HD.out.grows k5))
  go_wp2_with fail
  refine CC.out.mono ?_
  rintro e u6 ⟨v6, rfl, hv6, hg6⟩
  have k6 := k5.tr hg6
  have CW7 := Lib.hid (oF _ hv6 lM1.2.1 lM1.2.2 lM1.1)
  clear CC hv6
  go_wp2_with fail
  refine CW7.out.mono ?_
  rintro e u7 ⟨rfl, hg7⟩
  have k7 := k6.tr hg7
  clear CW7 hg6 hg7 k6 k5
  have CC := Lib.hid (fU eH eU cX db gO0 1 u7 eD (by decide) (HD.out.grows k7))
  go_wp2_with fail
  refine CC.out.mono ?_
  rintro e u8 ⟨v8, rfl, hv8, hg8⟩
  have k8 := k7.tr hg8
  have CW9 := Lib.hid (oF _ hv8 mX1.2.1 mX1.2.2 mX1.1)
  clear CC hv8
  go_wp2_with fail
  refine CW9.out.mono ?_
  rintro e u9 ⟨rfl, hg9⟩
  have k9 := k8.tr hg9
  clear CW9 hg8 hg9 k8 k7
  have CC := Lib.hid (fU eH eU cX db zA 0 u9 eD (by decide) (HD.out.grows k9))
  go_wp2_with fail
  refine CC.out.mono ?_
  rintro e u10 ⟨v10, rfl, hv10, hg10⟩
  have k10 := k9.tr hg10
  obtain ⟨sa10, sc10, rfl⟩ := xD hv10 qG1
  clear CC hv10 hg10 k9
  have CC := Lib.hid (fU eH eU cX db zA (-1) u10 eD (by decide) (HD.out.grows k10))
  go_wp2_with fail
  refine CC.out.mono ?_
  rintro e u11 ⟨v11, rfl, hv11, hg11⟩
  have k11 := k10.tr hg11
  obtain ⟨sa11, sc11, rfl⟩ := xD hv11 qZ1
  clear CC hv11 hg11 k10
  have CC := Lib.hid (aV0 eH eU cX db wO0 u11 eD (by decide) (HD.out.grows k11))
  go_wp2_with fail
  refine CC.out.mono ?_
  rintro e u12 ⟨v12, rfl, hv12, hg12⟩
  have k12 := k11.tr hg12
  have CW13 := Lib.hid (oF _ hv12 mA1.2.1 mA1.2.2 mA1.1)
  clear CC hv12
  go_wp2_with fail
  refine CW13.out.mono ?_
  rintro e u13 ⟨rfl, hg13⟩
  have k13 := k12.tr hg13
  clear CW13 hg12 hg13 k12 k11
  have CC := Lib.hid (aV0 eH eU cX db zA u13 eD (by decide) (HD.out.grows k13))
  go_wp2_with fail
  refine CC.out.mono ?_
  rintro e u14 ⟨v14, rfl, hv14, hg14⟩
  have k14 := k13.tr hg14
  obtain ⟨sa14, sc14, rfl⟩ := xD hv14 qY1
  clear CC hv14 hg14 k13
  have CC := Lib.hid (oC eH eU cX db fP1 u14 eD (by decide) (HD.out.grows k14))
  go_wp2_with fail
  refine CC.out.mono ?_
  rintro e u15 ⟨v15, rfl, hv15, hg15⟩
  have k15 := k14.tr hg15
  have CW16 := Lib.hid (oF _ hv15 lF1.2.1 lF1.2.2 lF1.1)
  clear CC hv15
  go_wp2_with fail
  refine CW16.out.mono ?_
  rintro e u16 ⟨rfl, hg16⟩
  have k16 := k15.tr hg16
  clear CW16 hg15 hg16 k15 k14
  have CC := Lib.hid (aP0 eH eU cX db 1 u16 (HD.out.grows k16))
  rw [rF1] at CC
  go_wp2_with fail
  refine CC.out.mono ?_
  rintro e wz ⟨rfl, rfl⟩
  clear CC
  have CC := Lib.hid (aP0 eH eU cX db 5 u16 (HD.out.grows k16))
  rw [qM1] at CC
  go_wp2_with fail
  refine CC.out.mono ?_
  rintro e wz ⟨rfl, rfl⟩
  clear CC
  have CC := Lib.hid (aP0 eH eU cX db (-1) u16 (HD.out.grows k16))
  rw [qI1] at CC
  go_wp2_with fail
  refine CC.out.mono ?_
  rintro e wz ⟨rfl, rfl⟩
  clear CC
  have g3 := g2.tr k16
  clear HD k16
  go_wp2_with fail
  refine (oU u16).mono ?_
  rintro e w3 ⟨A3, rfl, hA3, hg3⟩
  have g4 := g3.tr hg3
  have CI := HIM A3 w3 g4 hA3
  clear HIM hA3 hg3 g3
  go_wp2_with fail
  refine CI.out.mono ?_
  rintro e w4 ⟨hg4, v4, rfl, hv4⟩
  have hv4' : aV w4 w3.heap.size 5 1 aX v4 IM := hv4
  have g5 := g4.tr hg4
  obtain ⟨b4, d4, rfl, hd4, hm4, hat4⟩ := hv4'.at_ bI.len
  have hn4 := bQ hv4'
  have HO4 := Lib.hid hv4'
  have HG3 := Lib.hid g4
  have HG4 := Lib.hid hg4
  obtain ⟨hf9, _, _, _⟩ := HF.out
  have hfl := HL.out
  clear CI hv4 hv4' g4 hg4
  have CN := Lib.hid (uE [] none 0 w4 (HE.out.grows g5) (by decide) (Nat.le_refl _) (by decide) (fun _ => rfl) (aF.nil _ _ _) (Or.inl (Or.inl (by decide))))
  go_wp2_with fail
  refine CN.out.mono ?_
  rintro e w5 ⟨rfl, hg5⟩
  have g6 := g5.tr hg5
  obtain ⟨M, hM⟩ : ∃ M, IM.length = M + 1 := ⟨IM.length - 1, by omega⟩
  have hlM : (IM.take M).length = M := by rw [List.length_take]; omega
  have CB := Lib.hid (uE (IM.take M) b4 d4 w5 (HE.out.grows g6) (by rw [hlM]; omega) (by rw [hlM]; omega) hm4 hn4 (pN (hat4.grows hg5) M) (Or.inr (by have := HB1.out; rwa [hM] at this)))
  rw [hlM] at CB
  rw [hM] at hd4 ⊢
  have wM : IntKind.i64.wrap ((M : Int) + 1 - 1) = (M : Int) := by simp [IntKind.wrap, IntKind.bits, IntKind.signed]; omega
  have wM2 : IntKind.i64.wrap (((M + 1 : Nat) : Int) - 1) = (M : Int) := by simp [IntKind.wrap, IntKind.bits, IntKind.signed]; omega
  have c1 : (M : Int) ≤ d4 := by omega
  have c2 : (M : Int) ≤ (M : Int) + 1 := by omega
  clear CN hat4 hn4
  go_wp2_with fail
  refine CB.out.mono ?_
  rintro e w6 ⟨rfl, hg6⟩
  have g7 := g6.tr hg6
  have hown := HO4.out.grows (hg5.tr hg6)
  rw [hM] at hown
  have g36 := HG4.out.tr (hg5.tr hg6)
  have hsz : w3.heap.size ≤ w6.heap.size := g36.size
  have hlI : IM.length = M + 1 := hM
  have bnd : (IM.length + 1) * 1 ≤ 140737488355328 := by omega
  clear CB wM wM2 c1 c2 hlM g5 g6 g7 hg5 hg6
  go_wp2_with (at_builtin; refine xG bI rfl _ _ rfl w3.heap.size _ IM 0 rfl hown (Grows.refl _) _ 1 rfl #[.int .u8 0] rfl rfl bnd hsz ?_; intro v7 w7 hown7 hg7)
  have g8 := HG3.out.tr (hg7 w3 g36 (Nat.le_refl _))
  obtain ⟨b7, d7, rfl, hd7, hm7, hat7⟩ := hown7.at_ bI.len
  have hn7 := bQ hown7
  have CZ := Lib.hid (uE (IM ++ [0]) b7 d7 w7 (HE.out.grows g8) (by rw [List.length_append, List.length_singleton]; omega) hd7 hm7 hn7 hat7 (Or.inr HB2.out))
  clear hown hown7 hg7 hd7 hm7 hn7 hat7 bnd hsz g36 hlI hM hf9 hfl
  generalize (IM ++ [0]).length = LZ at CZ ⊢
  go_wp2_with fail
  refine CZ.out.mono ?_
  rintro e w8 ⟨rfl, hg8⟩
  have g9 := g8.tr hg8
  clear CZ
  go_wp2_with fail
  refine (iR1 _).mono ?_
  rintro e wz ⟨rfl, rfl⟩
  go_wp2_with fail
  refine (bD1 _).mono ?_
  rintro e wz ⟨rfl, rfl⟩
  go_wp2_with fail
  refine (bG1 0 0 _).mono ?_
  rintro e wz ⟨rfl, rfl⟩
  go_wp2_with fail
  refine (aQ1 0 _).mono ?_
  rintro e wz ⟨rfl, rfl⟩
  go_wp2_with fail
  refine (wU0 zA _).mono ?_
  rintro e wz ⟨rfl, rfl⟩
  go_wp2_with fail
  refine (zW0 zA _).mono ?_
  rintro e wz ⟨rfl, rfl⟩
  go_wp2_with fail
  refine (uT0 lU1 1 _).mono ?_
  rintro e wz ⟨rfl, rfl⟩
  go_wp2_with fail
  refine (nI1 wO0 _).mono ?_
  rintro e wz ⟨rfl, rfl⟩
  go_wp2_with fail
  refine (nZ0 wO0 _).mono ?_
  rintro e wz ⟨rfl, rfl⟩
  go_wp2_with fail
  refine (CW w8 g9).out.mono ?_
  rintro e w9 ⟨rfl, hg9⟩
  go_wp2_with fail
  go_ret
  exact ⟨rfl, g9.tr hg9⟩
end Go.Proofs.YtheiocndipepaaaGreatDoor
