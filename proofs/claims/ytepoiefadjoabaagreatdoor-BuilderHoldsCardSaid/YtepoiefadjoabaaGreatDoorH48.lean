/- The texts Bbld R18e ImgL RestH, one behind the other. -/
import Derived.Test.YtepoiefadjoabaaGreatDoorH39
import Derived.Test.YtepoiefadjoabaaGreatDoorH45
import Derived.Test.YtepoiefadjoabaaGreatDoorH36
import Derived.Test.YtepoiefadjoabaaGreatDoorH47
import Derived.Test.YtepoiefadjoabaaGreatDoorH42
import Derived.Test.YtepoiefadjoabaaGreatDoorH41
import Derived.Test.YtepoiefadjoabaaGreatDoorH7
import Derived.Test.YtepoiefadjoabaaGreatDoorH35
import Derived.Test.YtepoiefadjoabaaGreatDoorH37
import Derived.Test.YtepoiefadjoabaaGreatDoorH17
import Derived.Test.YtepoiefadjoabaaGreatDoorH24
import Derived.Test.YtepoiefadjoabaaGreatDoorH27
namespace Go.Proofs.YtepoiefadjoabaaGreatDoor
open Go Go.RowKit Go.Shelf
attribute [local go_sem] quietE quietE2
def BuildPost (p : List PosV) (m : Option Mx) (l : List En) (w : World) (e : Ending) (w' : World) : Prop :=
 Grows w w'∧∃ v,e = .returned (.tuple #[v,.int .i64 (buildB p m l).1])∧Owns w' w.heap.size 5 1 byteC v (buildB p m l).2
set_option maxHeartbeats 4000000 in
set_option maxRecDepth 100000 in
theorem bbuild_bad (p : List PosV) (mv : Value) (m : Option Mx) (l : List En) (pa a : Option Addr) (pc c : Nat) (w : World) (he : Env w) (hp : p.length ≤ 4611686018427387904) (hl : l.length ≤ 140737488355328) (hs : ∀ x ∈ l, x.r.size < 9223372036854775807 ∧ x.s.size < 9223372036854775807)
  (hpt : AtCells w pa 2 (p.map posCells)) (hm : MatV w mv m) (hat : AtCells w a 5 (l.map enCells)) (hc : chkB p m l ≠ 0) :
  Calls Tryz.prog 13 #[.slice pa p.length pc,mv,.slice a l.length c] w (BuildPost p m l w):=by
 have hgA : Grows w (w.alloc (.cells #[.slice a l.length c] 24)):=Grows.alloc _ _
 have CC:=Lib.hid (bcheck_any p mv m l pa a pc c _ (he.grows hgA) hp hl hs (hpt.grows hgA) (hm.grows hgA) (hat.grows hgA))
 have hcell : (w.alloc (.cells #[.slice a l.length c] 24)).cell? ⟨w.heap.size,0,none⟩ = some (.slice a l.length c):=cell_box w _ _ (0,0) 0 _ rfl
 unfold BuildPost buildB
 rw [if_neg hc]
 obtain ⟨f,hf⟩ : ∃ f,f = chkB p m l:=⟨_,rfl⟩
 rw [← hf] at CC hc ⊢
 clear he hs hpt hm hat hf hgA
 go_enter Tryz.func13,Tryz.ntmps13
 go_wp2_with fail
 refine CC.out.mono ?_
 rintro e w1 ⟨rfl,hg1⟩
 go_wp2
 go_ret2
 exact ⟨Grows.trans _ _ _ (Grows.alloc _ _) hg1,_,rfl,Owns.nil _ _ _ _ _⟩
theorem wf_nat {k : Nat} (h : k ≤ 1048576) : (Lit.int .i64 (k : Int)).wf = true := by
 simp [Lit.wf,IntKind.min,IntKind.max,IntKind.bits,IntKind.signed];omega
theorem BuildPost.long {p : List PosV} {m : Mx} {l : List En} {w w' : World} (hc : chkB p (some m) l = 0) (h : ¬ (chk11 (bls (readL (sortS l))) = 0 ∧ chk11 (bls (surfL (sortS l))) = 0)) (hg : Grows w w') : BuildPost p (some m) l w (.returned (.tuple #[.slice none 0 0, .int .i64 2])) w' := by
 unfold BuildPost buildB
 rw [if_pos hc]
 simp only
 rw [if_neg h]
 exact ⟨hg,_,rfl,Owns.nil _ _ _ _ _⟩
theorem BuildPost.join {p : List PosV} {m : Mx} {l : List En} {w w' : World} {e : Ending} (hc : chkB p (some m) l = 0) (h : chk11 (bls (readL (sortS l))) = 0 ∧ chk11 (bls (surfL (sortS l))) = 0) (hg : Grows w w')
  (hj : (chk14 (imgP p m (sortS l)) = 0 → ∃ v,e = .returned (.tuple #[v,.int .i64 0])∧Owns w' w.heap.size 5 1 byteC v (file14 (imgP p m (sortS l))))∧(chk14 (imgP p m (sortS l)) ≠ 0 → e = .returned (.tuple #[.slice none 0 0,.int .i64 (chk14 (imgP p m (sortS l)))]))) : BuildPost p (some m) l w e w':=by
 unfold BuildPost buildB
 rw [if_pos hc]
 simp only
 rw [if_pos h]
 refine ⟨hg, ?_⟩
 by_cases h0 : chk14 (imgP p m (sortS l)) = 0
 ·rw [if_pos h0];exact hj.1 h0
 ·rw [if_neg h0];exact ⟨_,hj.2 h0,Owns.nil _ _ _ _ _⟩
set_option maxHeartbeats 4000000 in
set_option maxRecDepth 100000 in
theorem bbuild_ok (p : List PosV) (mb bm : Nat) (m : Mx) (l : List En) (pa a : Option Addr) (pc c : Nat) (w : World) (he : Env w) (hp : p.length ≤ 4611686018427387904) (hs : ∀ x ∈ l, EnOK x) (hz : ∀ x ∈ l, x.r.size ≤ 1099511627776 ∧ x.s.size ≤ 1099511627776) (hl : l.length ≤ 20000) (hv : posValid p = true)
  (hpt : AtCells w pa 2 (p.map posCells)) (hm : MatAt w mb bm m) (hat : AtCells w a 5 (l.map enCells)) (hc : chkB p (some m) l = 0) :
  Calls Tryz.prog 13 #[.slice pa p.length pc,.pointer (some ⟨mb,0,none⟩),.slice a l.length c] w (BuildPost p (some m) l w):=by
 have hgA : Grows w (w.alloc (.cells #[.slice a l.length c] 24)):=Grows.alloc _ _
 have CC:=Lib.hid (bcheck_any p (.pointer (some ⟨mb,0,none⟩)) (some m) l pa a pc c _ (he.grows hgA) hp (by omega) (fun x hx => by have:=hz x hx;omega) (hpt.grows hgA) (MatV.grows (m:=some m) ⟨mb,bm,rfl,hm⟩ hgA) (hat.grows hgA))
 have hcell : (w.alloc (.cells #[.slice a l.length c] 24)).cell? ⟨w.heap.size,0,none⟩ = some (.slice a l.length c):=cell_box w _ _ (0,0) 0 _ rfl
 have hfroz:=Lib.hid (box_froz w #[.slice a l.length c] 24 0)
 rw [hc] at CC
 have HCH:=Lib.hid hc
 obtain ⟨es,hes⟩ : ∃ es,es = sortS l:=⟨_,rfl⟩
 have HSO:=Lib.hid hes
 have HE:=Lib.hid he
 have HPT:=Lib.hid hpt
 have HM:=Lib.hid hm
 have HAT:=Lib.hid hat
 have HZ:=Lib.hid hz
 have HS:=Lib.hid hs
 have HGA:=Lib.hid hgA
 clear he hs hz hpt hm hat hc hes
 go_enter Tryz.func13,Tryz.ntmps13
 go_wp2_with fail
 obtain ⟨wA,hwA⟩ : ∃ W,W = w.alloc (.cells #[.slice a l.length c] 24):=⟨_,rfl⟩
 have hszA : w.heap.size < wA.heap.size:=by rw [hwA];simp
 rw [← hwA] at HGA CC hfroz hcell ⊢
 have HSZ:=Lib.hid hszA
 obtain ⟨eb,heb⟩ : ∃ eb,eb = w.heap.size:=⟨_,rfl⟩
 have HEB:=Lib.hid heb
 have HF : Hid (wA.frozen? ⟨eb,0,none⟩ = false):=by rw [heb];exact hfroz
 rw [← heb] at hcell ⊢
 clear hwA hfroz hgA hszA heb
 refine CC.out.mono ?_
 rintro e w1 ⟨rfl,hg1⟩
 have h1cell:=hg1.cell hcell
 have CS:=Lib.hid (esort_any l a c w1 (by omega) HS.out (HAT.out.grows (Grows.trans _ _ _ HGA.out hg1)))
 clear CC hcell
 go_wp2_with fail
 refine CS.out.mono ?_
 rintro e w2 ⟨v2,rfl,hv2,hg2⟩
 rw [← HSO.out] at hv2
 have hes:=HSO.out
 have HES : Hid (∀ x ∈ es,x ∈ l):=fun x hx => by rw [hes] at hx;exact (((sortS_spec l).2 x).1 hx).1
 have hel : es.length ≤ l.length:=by rw [hes];exact nodup_sub_len ((sortS_spec l).1.imp fun {a b} hab e => by rw [e,lessS_irrefl] at hab;cases hab) fun y hy => (((sortS_spec l).2 y).1 hy).1
 have hf2 : w2.frozen? ⟨eb,0,none⟩ = false:=((Grows.trans _ _ _ hg1 hg2).froz (by rw [HEB.out];exact HSZ.out)).trans HF.out
 have h2cell:=hg2.cell h1cell
 have hg02 : Grows w w2:=Grows.trans _ _ _ HGA.out (Grows.trans _ _ _ hg1 hg2)
 have hlt1 : eb < w1.heap.size:=by rw [HEB.out];exact Nat.lt_of_lt_of_le HSZ.out hg1.size
 have hv3:=owns_setLo hv2 (p:=⟨eb,0,none⟩) hlt1 v2
 obtain ⟨sa,sc,rfl,_,_,hat3⟩:=hv3.at_ enCells_len
 have hg03 : Grows w (w2.setCell ⟨eb,0,none⟩ (.slice sa es.length sc)):=hg02.set (by rw [HEB.out];exact Nat.le_refl _) _
 have h3cell : (w2.setCell ⟨eb,0,none⟩ (.slice sa es.length sc)).cell? ⟨eb,0,none⟩ = some (.slice sa es.length sc):=World.cell?_setCell_same _ _ _ (by rw [h2cell];first | done | rfl)
 obtain ⟨w3,hw3⟩ : ∃ W,W = w2.setCell ⟨eb,0,none⟩ (.slice sa es.length sc):=⟨_,rfl⟩
 clear CS hg1 hg2 h1cell hv2 hv3 hes HF
 go_wp2_with fail
 rw [← hw3] at hat3 hg03 h3cell ⊢
 clear hw3 hf2 h2cell hg02 hlt1 HSZ HGA
 have HAE:=Lib.hid hat3
 have HCE:=Lib.hid h3cell
 clear hat3 h3cell
 have CR:=Lib.hid (bset_any (fun x => x.r) _ bcl1_eg bcl1_any es sa sc w3 (by omega) (HAE.out.grows (Grows.refl _)))
 obtain ⟨BR,hBR⟩ : ∃ B,B = readL es:=⟨_,rfl⟩
 rw [show setB (es.map fun x => x.r) = BR from hBR.symm] at CR
 have HBR:=Lib.hid hBR
 have hlR : BR.length ≤ 20000:=by rw [hBR];have:=setB_le (es.map fun x => x.r);rw [List.length_map] at this;unfold readL;omega
 have HZR : Hid (∀ s ∈ BR,s.size ≤ 1099511627776):=fun s hs => by
  rw [hBR] at hs
  obtain ⟨x,hx,rfl⟩:=List.mem_map.1 (setB_of hs)
  exact (HZ.out x (HES.out x hx)).1
 clear hBR
 refine CR.out.mono ?_
 rintro e w4 ⟨hgw4,bR,capR,rfl,hbR,hOR⟩
 obtain ⟨a',c',e',_,_,hAR⟩:=hOR.at_ (k:=1) (fun x => (rfl : (stC x).length = 1))
 have e'':=(Value.slice.inj e').1
 subst e''
 have CLR:=Lib.hid (lbuild_any BR (some ⟨bR,0,none⟩) capR w4 (by omega) HZR.out (fun q hq => by cases hq;exact hbR) hAR)
 clear CR e' hAR hOR hbR HZR
 go_wp2_with fail
 refine CLR.out.mono ?_
 rintro e w5 ⟨hgw5,hTR⟩
 clear CLR
 have g5:=Grows.trans _ _ _ hgw4 hgw5
 clear hgw4 hgw5
 rcases hTR with ⟨hkR,tr,rfl,hTR⟩ | ⟨hkR,rfl⟩
 ·have HTR:=Lib.hid hTR
  have HKR:=Lib.hid hkR
  have h5cell:=g5.cell HCE.out
  clear hTR hkR
  go_wp2_with fail
  have CS:=Lib.hid (bset_any (fun x => x.s) _ bcl2_eg bcl2_any es sa sc w5 (by omega) (HAE.out.grows g5))
  obtain ⟨BS,hBS⟩ : ∃ B,B = surfL es:=⟨_,rfl⟩
  rw [show setB (es.map fun x => x.s) = BS from hBS.symm] at CS
  have HBS:=Lib.hid hBS
  have hlS : BS.length ≤ 20000:=by rw [hBS];have:=setB_le (es.map fun x => x.s);rw [List.length_map] at this;unfold surfL;omega
  have HZS : Hid (∀ s ∈ BS,s.size ≤ 1099511627776):=fun s hs => by
   rw [hBS] at hs
   obtain ⟨x,hx,rfl⟩:=List.mem_map.1 (setB_of hs)
   exact (HZ.out x (HES.out x hx)).2
  clear hBS
  refine CS.out.mono ?_
  rintro e w6 ⟨hgw6,bS,capS,rfl,hbS,hOS⟩
  obtain ⟨a',c',e',_,_,hAS⟩:=hOS.at_ (k:=1) (fun x => (rfl : (stC x).length = 1))
  have e'':=(Value.slice.inj e').1
  subst e''
  have CLS:=Lib.hid (lbuild_any BS (some ⟨bS,0,none⟩) capS w6 (by omega) HZS.out (fun q hq => by cases hq;exact hbS) hAS)
  clear CS e' hAS hOS hbS
  go_wp2_with fail
  refine CLS.out.mono ?_
  rintro e w7 ⟨hgw7,hTS⟩
  clear CLS
  have g7:=Grows.trans _ _ _ g5 (Grows.trans _ _ _ hgw6 hgw7)
  have G57:=Lib.hid (Grows.trans _ _ _ hgw6 hgw7)
  clear hgw6 hgw7 h5cell
  rcases hTS with ⟨hkS,ts,rfl,hTS⟩ | ⟨hkS,rfl⟩
  ·have HTS:=Lib.hid hTS
   have HKS:=Lib.hid hkS
   have hmm:=@run_makeMap Tryz.prog
   have CLn:=fun W h => Lib.hid (tlen_any (bls BS) ts W (hTS.grows (w':=W) h))
   obtain ⟨w8,hw8⟩ : ∃ W,W = (w7.alloc (.map #[] 0)).alloc (.cells #[.map (some w7.heap.size)] 78):=⟨_,rfl⟩
   have hg8 : Grows w7 w8:=by rw [hw8];exact (Grows.alloc _ _).al _
   have h8own:=(World.ownsMap_made w7 Tryz.prog 9 (plainElem (H:=Unit) Tryz.prog 3)).alloc (.cells #[.map (some w7.heap.size)] 78)
   rw [← hw8] at h8own
   have h8cell : w8.cell? ⟨w7.heap.size + 1,0,none⟩ = some (.map (some w7.heap.size)):=by
    rw [hw8]
    have hs1 : (w7.alloc (.map #[] 0)).heap.size = w7.heap.size + 1:=by simp
    have h:=cell_box (w7.alloc (.map #[] 0)) #[.map (some w7.heap.size)] 78 (0,0) 0 _ rfl
    rw [hs1] at h
    exact h
   obtain ⟨hokS,hlS2,hcS⟩:=chk11_ok hkS
   have hbl : (bls BS).length = BS.length:=by unfold bls;rw [List.length_map]
   have CT:=fun k W h hk => Lib.hid (text_any (bls BS) ts k W hokS hlS2 hcS hk (hTS.grows (w':=W) h))
   have HGT : Hid (∀ k,k < BS.length → BS[k]? = some (mkB (nth (bls BS) k))):=fun k hk => by
    rw [HBS.out] at hk ⊢;exact setB_get hk
   have HND : Hid BS.Nodup:=by rw [HBS.out];exact setB_nodup _
   rw [hbl] at CT CLn
   clear hTS hkS hokS hlS2 hcS hbl
   go_wp2_with fail
   rw [← hw8]
   have CL8:=CLn w8 hg8
   clear CLn
   obtain ⟨mp,hmp⟩ : ∃ q,q = w7.heap.size:=⟨_,rfl⟩
   obtain ⟨ib,hib⟩ : ∃ q,q = mp + 1:=⟨_,rfl⟩
   rw [← hmp,← hib] at h8cell ⊢
   rw [← hmp] at h8own
   have HMP:=Lib.hid hmp
   have HIB:=Lib.hid hib
   clear hw8 hmm hmp hib
   refine CL8.out.mono ?_
   rintro e w9 ⟨rfl,rfl⟩
   clear CL8
   go_wp2_with fail
   go_loopw [54] (fun i wr => ∃ (k : Nat) (D : DataW Unit),k ≤ BS.length∧i = .int .i64 k∧wr.cell? ⟨ib,0,none⟩ = some (.map (some mp))∧wr.ownsMap Tryz.prog 9 (plainElem Tryz.prog 3) mp k D∧Hid (IdM BS k D)∧Grows w7 wr) (fun i _ => BS.length - (intOf i).toNat)
   case atStart => exact ⟨0,_,Nat.zero_le _,rfl,h8cell,h8own,idM_zero _ _,hg8⟩
   case round =>
    clear h8cell h8own hg8
    obtain ⟨k,D,hk,rfl,hcl,hown,hM,hg⟩:=hrel
    by_cases hlt : k < BS.length
    ·have CT1:=CT k wr hg hlt
     obtain ⟨sk,hsk⟩ : ∃ q,q = mkB (nth (bls BS) k):=⟨_,rfl⟩
     have hbk:=HGT.out k hlt
     rw [← hsk] at CT1 hbk
     have hskz : sk.size ≤ maxLen:=Nat.le_trans (HZS.out sk (List.mem_of_getElem? hbk)) (by unfold maxLen;omega)
     have HBK:=Lib.hid hbk
     have hki : (k : Int) < BS.length:=by omega
     have hwk:=wf_nat (k:=k) (by omega)
     have hkm : k < maxLen:=by unfold maxLen;omega
     clear CT hsk hbk
     go_wp2_with fail
     refine CT1.out.mono ?_
     rintro e w10 ⟨rfl,hg10⟩
     have hcl2:=hg10.cell hcl
     have hown2:=ownsMap_grows hown hg10
     have hg2:=Grows.trans _ _ _ hg hg10
     clear CT1 hcl hown
     go_wp2_with (at_mapUpdate;refine wpList_mapUpdate_own _ rfl _ _ _ 78 rfl 9 3 (Maps.string_keyed Tryz.underlying9) Tryz.underlying78 _ mp k D rfl hown2 hkm _ _ (.string sk.data.toList) rfl rfl (WideMaps.keyOf_string_mk Tryz.underlying9 hskz) _ [] (plainElem_int Tryz.underlying3 hwk) ?_;intro w11 hown11 hturn11)
     have hM2:=Lib.hid (idM_put hM.out hown2 HND.out HBK.out)
     have hcl3 : w11.cell? ⟨ib,0,none⟩ = some (.map (some mp)):=grownBy_cell hturn11 hcl2 (by rw [HIB.out];simp)
     have hg3:=hg2.grown hturn11 (fun q hq => by cases hq;rw [HMP.out];exact Nat.le_refl _)
     clear hcl2 hown2 hM hg hg2 hg10 hturn11
     go_roundw
     case rel => exact ⟨k + 1,_,hlt,by go_num,hcl3,hown11,hM2,hg3⟩
     case measure => simp [intOf];omega
    ·obtain rfl : k = BS.length:=by omega
     have HID : Hid (IdAt wr ib BS):=⟨_,_,_,hcl,hown,hM.out⟩
     clear CT hcl hown hM HND HGT
     go_wp2_with fail
     have G20:=Lib.hid (Grows.trans _ _ _ g7 hg)
     have hg20:=Grows.trans _ _ _ hg03 (Grows.trans _ _ _ g7 hg)
     have CPE:=Lib.hid (posEnc_any p pa pc wr hv (HPT.out.grows hg20))
     have G5r:=Lib.hid (Grows.trans _ _ _ G57.out hg)
     have G7r:=Lib.hid hg
     clear hg g7 g5
     refine CPE.out.mono ?_
     rintro e w21 ⟨v1,rfl,hv1,hg21⟩
     clear CPE
     have h21cell:=hg21.cell (G20.out.cell HCE.out)
     have CI:=Lib.hid (indices_any newR _ bcl3_eg bcl3_any es sa sc w21 (by omega) (HAE.out.grows (Grows.trans _ _ _ G20.out hg21)))
     have HV1:=Lib.hid hv1
     clear hv1
     go_wp2_with fail
     refine CI.out.mono ?_
     rintro e w22 ⟨hg22,v2,rfl,hv2⟩
     clear CI
     have HV2:=Lib.hid hv2
     have h22cell:=hg22.cell h21cell
     have hmk:=fun (Y : World) => mkInt es.length Y (by omega)
     have G22:=Lib.hid (Grows.trans _ _ _ hg21 hg22)
     have G2122:=Lib.hid hg22
     have HS21 : Hid (w.heap.size ≤ w21.heap.size):=Nat.le_trans hg20.size hg21.size
     clear hv2 h21cell hg21 hg22
     go_wp2_with fail
     have hmade0:=madeInt (w:=w22) (n:=es.length) (by omega)
     have hrl : (List.range es.length).length = es.length:=List.length_range
     rw [Nat.mul_one] at hmade0
     have hz0 : List.replicate es.length 0 = fillL (List.range es.length) 0 0:=by rw [fillL_zero,hrl]
     rw [hz0] at hmade0
     clear hz0
     obtain ⟨w23,hw23⟩ : ∃ W,W = w22.alloc (.cells (madeCells #[.int .i64 0] es.length) 3):=⟨_,rfl⟩
     have hg23 : Grows w22 w23:=by rw [hw23];exact Grows.alloc _ _
     have hlt23 : w22.heap.size < w23.heap.size:=by rw [hw23];simp
     rw [← hw23] at hmade0 ⊢
     obtain ⟨ob,hob⟩ : ∃ q,q = w22.heap.size:=⟨_,rfl⟩
     rw [← hob] at hlt23 ⊢
     have hmade1 : Owns w23 w22.heap.size 3 1 natC (.slice (some ⟨ob,0,none⟩) es.length es.length) (fillL (List.range es.length) 0 0):=by rw [hob];exact hmade0
     have HOB:=Lib.hid hob
     have hobe : w22.heap.size ≤ ob:=by rw [hob];exact Nat.le_refl _
     have HOBE:=Lib.hid hobe
     have X22 : Aside (IdAt w22 ib BS∧w22.cell? ⟨eb,0,none⟩ = some (.slice sa es.length sc)∧AtCells w22 sa 5 (es.map enCells)∧TrieAt w22 tr (bls BR)∧TrieAt w22 ts (bls BS)∧Owns w22 w.heap.size 5 1 byteC v1 (posE p)∧Owns w22 w.heap.size 3 1 natC v2 (idxL newR es es.length)∧MatAt w22 mb bm m∧Env w22∧Grows w w22):=by
      have g1:=Grows.trans _ _ _ G20.out G22.out
      have g0:=Grows.trans _ _ _ hg03 g1
      exact ⟨HID.out.grows G22.out,h22cell,HAE.out.grows g1,HTR.out.grows (Grows.trans _ _ _ G5r.out G22.out),HTS.out.grows (Grows.trans _ _ _ G7r.out G22.out),(HV1.out.grows G2122.out).base hg20.size,HV2.out.base HS21.out,HM.out.grows g0,HE.out.grows g0,g0⟩
     clear hw23 hmade0 hmk h22cell hob hobe
     go_loopw [79] (fun i wr => ∃ (k : Nat),k ≤ es.length∧i = .int .i64 k∧Hid (Owns wr w22.heap.size 3 1 natC (.slice (some ⟨ob,0,none⟩) es.length es.length) (fillL (List.range es.length) 0 k))∧Grows w22 wr∧ob < wr.heap.size) (fun i _ => es.length - (intOf i).toNat)
     case atStart => exact ⟨0,Nat.zero_le _,rfl,hmade1,hg23,hlt23⟩
     case round =>
      clear hmade1 hg23 hlt23
      obtain ⟨k,hk,rfl,hown,hg,hol⟩:=hrel
      by_cases hlt : k < es.length
      ·have hki : (k : Int) < es.length:=by omega
       obtain ⟨z,hz⟩ : ∃ z,(fillL (List.range es.length) 0 k)[k]? = some z:=⟨_,List.getElem?_eq_getElem (by rw [fillL_len _ _ (by omega)];omega)⟩
       have e1:=own_cell1 (f:=fun n : Nat => Value.int .i64 n) hown.out hz
       obtain ⟨f1,_,hown3⟩:=owns_set1 (f:=fun n : Nat => Value.int .i64 n) hown.out (k:=k) (by rw [fillL_len _ _ (by omega)];omega) k
       rw [fillL_set (List.getElem?_range hlt)] at hown3
       have HO:=Lib.hid hown3
       clear hz hown hown3
       go_wp2_with fail
       go_roundw
       case rel => exact ⟨k + 1,hlt,by go_num,HO.out,hg.set HOBE.out _,by simpa using hol⟩
       case measure => simp [intOf];omega
      ·obtain rfl : k = es.length:=by omega
       have hown2 : Owns wr w22.heap.size 3 1 natC (.slice (some ⟨ob,0,none⟩) es.length es.length) (List.range es.length):=by
        have h:=hown.out
        have e9:=fillL_all (List.range es.length) 0
        rw [List.length_range] at e9
        rwa [e9] at h
       have HMS : Hid (∀ x ∈ es,x.s ∈ BS):=fun x hx => by rw [HBS.out];exact setB_mem (List.mem_map_of_mem hx)
       have OA:=Lib.hid (ord_at (es:=es) (BS:=BS) (ib:=ib) (eb:=eb) (sc:=sc) (ob:=ob) (sa:=sa) (wB:=w22) (w0:=wr) (by omega) (by omega) hg HOBE.out X22.out.1 X22.out.2.1 X22.out.2.2.1 hown2 hol HMS.out (fun x hx => Nat.le_trans (HZ.out x (HES.out x hx)).2 (by unfold maxLen;omega)))
       have CSS:=Lib.hid (sortStable_any OA.out.1 es.length (List.range es.length).toArray wr (by simp) (fun i hi => by unfold Fd;simp [hi]) OA.out.2)
       clear hown hown2
       go_wp2_with fail
       refine CSS.out.mono ?_
       rintro e w30 ⟨rfl,dk,hsd,hwd,SD⟩
       have hg30:=sw_grows hg HOBE.out SD
       have HL:=Lib.hid (ord_left (_wB:=w22) hsd hwd HMS.out OA.out.1.row SD)
       have h30cell:=hg30.cell X22.out.2.1
       clear CSS SD hsd hwd OA hg hol
       obtain ⟨O,hO⟩ : ∃ O,O = grpsL (keySE BS es) es.length BS.length:=⟨_,rfl⟩
       rw [← hO] at HL
       have HO:=Lib.hid hO
       obtain ⟨so,hso⟩ : ∃ so,so = O.map fun i => es.getD i enZero:=⟨_,rfl⟩
       have HSO2:=Lib.hid hso
       have hsol : so.length = es.length:=by rw [hso,List.length_map];exact HL.out.2.1
       have HG30:=Lib.hid hg30
       obtain ⟨iu,hiu,hzu,hsu,hbu⟩:=enInfo
       clear hO hso
       go_wp2_with (at_make;refine wpList_make_full _ rfl _ _ 24 rfl w30.heap.size 38 iu enZero.agg 5 Tryz.underlying24 hiu hzu hsu .i64 .i64 _ _ es.length rfl rfl rfl rfl (by rw [hbu];omega) (by unfold maxLen;omega) (Nat.le_refl _) ?_;intro w31 hown31 hgr31)
       have hg31:=(Grows.refl w30).grown hgr31 (fun q hq => by cases hq)
       obtain ⟨sb,hsb⟩ : ∃ q,q = w30.heap.size:=⟨_,rfl⟩
       rw [← hsb] at hown31 ⊢
       obtain ⟨hS0,_⟩:=SRow.made (so:=so) hown31
       have hsbe : w30.heap.size ≤ sb:=by rw [hsb];exact Nat.le_refl _
       have HSBE:=Lib.hid hsbe
       clear hown31 hgr31 hsb hsbe hiu hzu hsu hbu h30cell
       go_wp2_with fail
       go_loopw [95] (fun i wr => ∃ (k : Nat),k ≤ es.length∧i = .int .i64 k∧SRow wr sb es.length so k∧Grows w30 wr) (fun i _ => es.length - (intOf i).toNat)
       case atStart => exact ⟨0,Nat.zero_le _,rfl,hS0,hg31⟩
       case round =>
        clear hS0 hg31
        obtain ⟨k,hk,rfl,hS,hg⟩:=hrel
        by_cases hlt : k < es.length
        ·obtain ⟨o,ho⟩ : ∃ o,O[k]? = some o:=⟨_,List.getElem?_eq_getElem (by rw [HL.out.2.1];exact hlt)⟩
         have hoe:=HL.out.2.2 o (List.mem_of_getElem? ho)
         obtain ⟨b1,o1,e1,hc1⟩:=at1 (f:=fun n : Nat => Value.int .i64 n) HL.out.1 (ne_nil_of_lt (List.getElem?_eq_some_iff.1 ho).1)
         obtain ⟨rfl,rfl⟩ : ob = b1∧0 = o1:=by simpa using e1
         have hoc:=hg.cell (hc1 k o ho)
         rw [Nat.zero_add] at hoc
         obtain ⟨⟨xr,xs,xl,xt,xc⟩,hx⟩ : ∃ x,es[o]? = some x:=⟨_,List.getElem?_eq_getElem hoe⟩
         have gr:=Grows.trans _ _ _ HG30.out hg
         have hec:=gr.cell X22.out.2.1
         obtain ⟨ba,oa,rfl,hca⟩:=(X22.out.2.2.1.grows gr).get (ne_nil_of_lt hoe)
         have c0 : wr.cell? ⟨ba,oa + o * 5,none⟩ = some (.string xr):=hca o _ hx 0 _ rfl
         have c1 : wr.cell? ⟨ba,oa + o * 5 + 1,none⟩ = some (.string xs):=hca o _ hx 1 _ rfl
         have c2 : wr.cell? ⟨ba,oa + o * 5 + 2,none⟩ = some (.int .i64 xl):=hca o _ hx 2 _ rfl
         have c3 : wr.cell? ⟨ba,oa + o * 5 + 3,none⟩ = some (.int .i64 xt):=hca o _ hx 3 _ rfl
         have c4 : wr.cell? ⟨ba,oa + o * 5 + 4,none⟩ = some (.int .i64 xc):=hca o _ hx 4 _ rfl
         have hsk : so[k]? = some ⟨xr,xs,xl,xt,xc⟩:=by
          rw [HSO2.out,List.getElem?_map,ho]
          simp only [Option.map_some]
          rw [List.getD_eq_getElem?_getD,hx];rfl
         have HST:=Lib.hid (hS.step hlt hsk)
         obtain ⟨q0,d0⟩:=hS.cell (j:=k * 5) (by omega)
         have S1:=hS.set (j:=k * 5) (Nat.le_refl _) (.string xr)
         obtain ⟨q1,d1⟩:=S1.cell (j:=k * 5 + 1) (by omega)
         have S2:=S1.set (j:=k * 5 + 1) (by omega) (.string xs)
         obtain ⟨q2,d2⟩:=S2.cell (j:=k * 5 + 2) (by omega)
         have S3:=S2.set (j:=k * 5 + 2) (by omega) (.int .i64 xl)
         obtain ⟨q3,d3⟩:=S3.cell (j:=k * 5 + 3) (by omega)
         have S4:=S3.set (j:=k * 5 + 3) (by omega) (.int .i64 xt)
         obtain ⟨q4,d4⟩:=S4.cell (j:=k * 5 + 4) (by omega)
         have f0:=hS.froz (k * 5)
         have f1:=hS.froz (k * 5 + 1)
         have f2:=hS.froz (k * 5 + 2)
         have f3:=hS.froz (k * 5 + 3)
         have f4:=hS.froz (k * 5 + 4)
         have hoi : (o : Int) < es.length:=by omega
         have hki : (k : Int) < es.length:=by omega
         clear ho hc1 hx hca hsk hS e1 S1 S2 S3 S4
         go_wp2_with fail
         go_roundw
         case rel => exact ⟨k + 1,hlt,by go_num,HST.out,((((hg.set HSBE.out _).set HSBE.out _).set HSBE.out _).set HSBE.out _).set HSBE.out _⟩
         case measure => simp [intOf];omega
        ·obtain rfl : k = es.length:=by omega
         rw [← hsol] at hS
         have hSA:=hS.at_
         go_wp2_with fail
         have CI2:=Lib.hid (indices_any newS _ bcl5_eg bcl5_any so (some ⟨sb,0,none⟩) es.length wr (by omega) hSA)
         rw [hsol] at CI2
         refine CI2.out.mono ?_
         rintro e w40 ⟨hg40,v4,rfl,hv4⟩
         obtain ⟨a4,c4,rfl,_,_,hat4⟩:=hv4.at_ (k:=1) (fun x => (rfl : (natC x).length = 1))
         have HAT4:=Lib.hid hat4
         have F40:=Lib.hid (Grows.refl w40)
         have G40:=Lib.hid (Grows.trans _ _ _ HG30.out (Grows.trans _ _ _ hg hg40))
         have HO40:=Lib.hid (HL.out.1.grows (Grows.trans _ _ _ hg hg40))
         obtain ⟨v2a,v2c,rfl,_,_,hat2⟩:=X22.out.2.2.2.2.2.2.1.at_ (k:=1) (fun x => (rfl : (natC x).length = 1))
         have HAT2:=Lib.hid hat2
         obtain ⟨a40,c40,rfl,hat40,hn40⟩:=own_part X22.out.2.2.2.2.2.1
         have PP40:=Lib.hid (And.intro (hat40.grows G40.out) hn40)
         clear hat40 hn40
         have h40cell:=G40.out.cell X22.out.2.1
         clear CI2 hg40 hv4 hat4 hat2 hg hS hSA
         go_wp2_with fail
         refine (encode_any w40 mb bm m (X22.out.2.2.2.2.2.2.2.1.grows G40.out)).mono ?_
         rintro e w41 ⟨v41,rfl,hv41,hg41⟩
         obtain ⟨a41,c41,rfl,hat41,hn41⟩:=own_part hv41
         have PP41:=Lib.hid (And.intro hat41 hn41)
         have G41:=Lib.hid (Grows.trans _ _ _ G40.out hg41)
         have E41:=Lib.hid hg41
         have F41:=Lib.hid (Grows.trans _ _ _ F40.out hg41)
         clear hv41 hat41 hn41 hg41
         go_wp2_with fail
         obtain ⟨okR,lR,cR⟩:=chk11_ok HKR.out
         obtain ⟨okS,lS,cS⟩:=chk11_ok HKS.out
         refine (tenc_any (bls BR) tr w41 okR lR cR (X22.out.2.2.2.1.grows G41.out)).mono ?_
         rintro e w42 ⟨v42,rfl,hv42,hg42⟩
         obtain ⟨a42,c42,rfl,hat42,hn42⟩:=own_part hv42
         have PP42:=Lib.hid (And.intro hat42 hn42)
         have G42:=Lib.hid (Grows.trans _ _ _ G41.out hg42)
         have E42:=Lib.hid hg42
         have F42:=Lib.hid (Grows.trans _ _ _ F41.out hg42)
         clear hv42 hat42 hn42 hg42
         go_wp2_with fail
         have hil:=idxL_le newR es es.length
         have hil4:=idxL_le newS so es.length
         obtain ⟨_,_,_,hck⟩:=chkB_nums HCH.out
         have hv64:=(posValid_all hv).1
         have HNN : Hid (∀ x ∈ es,0 ≤ x.l∧x.l < 64∧0 ≤ x.t∧x.t < 64∧0 ≤ x.c∧x.c ≤ 30000):=fun x hx => by
          have:=checkE_nums (hck x (HES.out x hx));omega
         have HMZ : Hid (∀ x ∈ es,x.s.size ≤ maxLen):=fun x hx => Nat.le_trans (HZ.out x (HES.out x hx)).2 (by unfold maxLen;omega)
         clear hck
         refine (numbers_any (idxL newR es es.length) v2a v2c w42 (by omega) (fun n hn => by have:=idxL_lt hn;omega) (HAT2.out.grows G42.out)).mono ?_
         rintro e w43 ⟨v43,rfl,hv43,hg43⟩
         obtain ⟨a43,c43,rfl,hat43,hn43⟩:=own_part hv43
         have PP43:=Lib.hid (And.intro hat43 hn43)
         have G43:=Lib.hid (Grows.trans _ _ _ G42.out hg43)
         have E43:=Lib.hid hg43
         have F43:=Lib.hid (Grows.trans _ _ _ F42.out hg43)
         clear hv43 hat43 hn43 hg43
         go_wp2_with fail
         refine (tenc_any (bls BS) ts w43 okS lS cS (X22.out.2.2.2.2.1.grows G43.out)).mono ?_
         rintro e w44 ⟨v44,rfl,hv44,hg44⟩
         obtain ⟨a44,c44,rfl,hat44,hn44⟩:=own_part hv44
         have PP44:=Lib.hid (And.intro hat44 hn44)
         have G44:=Lib.hid (Grows.trans _ _ _ G43.out hg44)
         have E44:=Lib.hid hg44
         have F44:=Lib.hid (Grows.trans _ _ _ F43.out hg44)
         clear hv44 hat44 hn44 hg44
         have h44cell:=G44.out.cell X22.out.2.1
         go_wp2_with fail
         refine (column_any (sidE BS) _ #[.pointer (some ⟨ib,0,none⟩)] bcl7_eg es eb sa sc w44 (by omega) (fun x hx => by have:=sidE_lt (HMS.out x hx);omega) (X22.out.2.2.1.grows G44.out) h44cell (fun x hx W hW => bcl7_any BS ib (sidE BS x) x W (X22.out.1.grows (Grows.trans _ _ _ G44.out hW)) (sidE_get (HMS.out x hx)) (HMZ.out x hx))).mono ?_
         rintro e w45 ⟨hg45,v45,rfl,hv45⟩
         obtain ⟨a45,c45,rfl,hat45,hn45⟩:=own_part hv45
         have PP45:=Lib.hid (And.intro hat45 hn45)
         have G45:=Lib.hid (Grows.trans _ _ _ G44.out hg45)
         have E45:=Lib.hid hg45
         have F45:=Lib.hid (Grows.trans _ _ _ F44.out hg45)
         clear hv45 hat45 hn45 hg45
         have h45cell:=G45.out.cell X22.out.2.1
         go_wp2_with fail
         refine (column_any (fun x => x.l.toNat) _ #[] bcl8_eg es eb sa sc w45 (by omega) (fun x hx => by have:=HNN.out x hx;show x.l.toNat < _;omega) (X22.out.2.2.1.grows G45.out) h45cell (fun x hx W hW => by rw [show ((x.l.toNat : Nat) : Int) = x.l from Int.toNat_of_nonneg (HNN.out x hx).1];exact bcl8_any x W)).mono ?_
         rintro e w46 ⟨hg46,v46,rfl,hv46⟩
         obtain ⟨a46,c46,rfl,hat46,hn46⟩:=own_part hv46
         have PP46:=Lib.hid (And.intro hat46 hn46)
         have G46:=Lib.hid (Grows.trans _ _ _ G45.out hg46)
         have E46:=Lib.hid hg46
         have F46:=Lib.hid (Grows.trans _ _ _ F45.out hg46)
         clear hv46 hat46 hn46 hg46
         have h46cell:=G46.out.cell X22.out.2.1
         go_wp2_with fail
         refine (column_any (fun x => x.t.toNat) _ #[] bcl9_eg es eb sa sc w46 (by omega) (fun x hx => by have:=HNN.out x hx;show x.t.toNat < _;omega) (X22.out.2.2.1.grows G46.out) h46cell (fun x hx W hW => by rw [show ((x.t.toNat : Nat) : Int) = x.t from Int.toNat_of_nonneg (HNN.out x hx).2.2.1];exact bcl9_any x W)).mono ?_
         rintro e w47 ⟨hg47,v47,rfl,hv47⟩
         obtain ⟨a47,c47,rfl,hat47,hn47⟩:=own_part hv47
         have PP47:=Lib.hid (And.intro hat47 hn47)
         have G47:=Lib.hid (Grows.trans _ _ _ G46.out hg47)
         have E47:=Lib.hid hg47
         have F47:=Lib.hid (Grows.trans _ _ _ F46.out hg47)
         clear hv47 hat47 hn47 hg47
         have h47cell:=G47.out.cell X22.out.2.1
         go_wp2_with fail
         refine (column_any (fun x => x.c.toNat) _ #[] bcl10_eg es eb sa sc w47 (by omega) (fun x hx => by have:=HNN.out x hx;show x.c.toNat < _;omega) (X22.out.2.2.1.grows G47.out) h47cell (fun x hx W hW => by rw [show ((x.c.toNat : Nat) : Int) = x.c from Int.toNat_of_nonneg (HNN.out x hx).2.2.2.2.1];exact bcl10_any x W)).mono ?_
         rintro e w48 ⟨hg48,v48,rfl,hv48⟩
         obtain ⟨a48,c48,rfl,hat48,hn48⟩:=own_part hv48
         have PP48:=Lib.hid (And.intro hat48 hn48)
         have G48:=Lib.hid (Grows.trans _ _ _ G47.out hg48)
         have E48:=Lib.hid hg48
         have F48:=Lib.hid (Grows.trans _ _ _ F47.out hg48)
         clear hv48 hat48 hn48 hg48
         have CO:=Lib.hid (numbers_any O (some ⟨ob,0,none⟩) es.length w48 (by rw [HL.out.2.1];omega) (fun n hn => by have:=HL.out.2.2 n hn;omega) (HO40.out.grows F48.out))
         rw [HL.out.2.1] at CO
         go_wp2_with fail
         refine (CO.out).mono ?_
         rintro e w49 ⟨v49,rfl,hv49,hg49⟩
         obtain ⟨a49,c49,rfl,hat49,hn49⟩:=own_part hv49
         have PP49:=Lib.hid (And.intro hat49 hn49)
         have G49:=Lib.hid (Grows.trans _ _ _ G48.out hg49)
         have E49:=Lib.hid hg49
         have F49:=Lib.hid (Grows.trans _ _ _ F48.out hg49)
         clear hv49 hat49 hn49 hg49
         go_wp2_with fail
         refine (numbers_any (idxL newS so es.length) a4 c4 w49 (by omega) (fun n hn => by have:=idxL_lt hn;omega) (HAT4.out.grows F49.out)).mono ?_
         rintro e w50 ⟨v50,rfl,hv50,hg50⟩
         obtain ⟨a50,c50,rfl,hat50,hn50⟩:=own_part hv50
         have PP50:=Lib.hid (And.intro hat50 hn50)
         have G50:=Lib.hid (Grows.trans _ _ _ G49.out hg50)
         have E50:=Lib.hid hg50
         have F50:=Lib.hid (Grows.trans _ _ _ F49.out hg50)
         clear hv50 hat50 hn50 hg50
         go_wp2_with fail
         obtain ⟨P,hP⟩ : ∃ P : List PartV,P = [⟨⟨#[112,111,115]⟩,posE p,a40,c40⟩,⟨⟨#[109,97,116,114,105,120]⟩,m.enc,a41,c41⟩,⟨⟨#[114,101,97,100,105,110,103,115]⟩,loudE (bls BR),a42,c42⟩,⟨⟨#[102,105,114,115,116]⟩,packE (idxL newR es es.length),a43,c43⟩,⟨⟨#[115,117,114,102,97,99,101,115]⟩,loudE (bls BS),a44,c44⟩,⟨⟨#[115,117,114,102,97,99,101]⟩,packE (es.map (sidE BS)),a45,c45⟩,⟨⟨#[108,101,102,116]⟩,packE (es.map fun x => x.l.toNat),a46,c46⟩,⟨⟨#[114,105,103,104,116]⟩,packE (es.map fun x => x.t.toNat),a47,c47⟩,⟨⟨#[99,111,115,116]⟩,packE (es.map fun x => x.c.toNat),a48,c48⟩,⟨⟨#[111,114,100,101,114]⟩,packE O,a49,c49⟩,⟨⟨#[97,116]⟩,packE (idxL newS so es.length),a50,c50⟩]:=⟨_,rfl⟩
         have hPl : P.length = 11:=by rw [hP];rfl
         obtain ⟨W9,hW9⟩ : ∃ W,W = w50.alloc (.cells (P.flatMap partC).toArray 92):=⟨_,rfl⟩
         have hPA : PartsAt w50 P:=by
          have T50:=Grows.refl w50
          have T49:=Grows.trans _ _ _ E50.out T50
          have T48:=Grows.trans _ _ _ E49.out T49
          have T47:=Grows.trans _ _ _ E48.out T48
          have T46:=Grows.trans _ _ _ E47.out T47
          have T45:=Grows.trans _ _ _ E46.out T46
          have T44:=Grows.trans _ _ _ E45.out T45
          have T43:=Grows.trans _ _ _ E44.out T44
          have T42:=Grows.trans _ _ _ E43.out T43
          have T41:=Grows.trans _ _ _ E42.out T42
          have T40:=Grows.trans _ _ _ E41.out T41
          have ok1:=chkB_nums HCH.out
          rw [hP]
          refine ⟨fun q hq => ?_,fun q hq => ?_,fun q hq => ?_,fun q hq => ?_⟩ <;> simp only [List.mem_cons,List.mem_nil_iff,or_false] at hq
          ·rcases hq with rfl | rfl | rfl | rfl | rfl | rfl | rfl | rfl | rfl | rfl | rfl
           ·exact PP40.out.1.grows T40
           ·exact PP41.out.1.grows T41
           ·exact PP42.out.1.grows T42
           ·exact PP43.out.1.grows T43
           ·exact PP44.out.1.grows T44
           ·exact PP45.out.1.grows T45
           ·exact PP46.out.1.grows T46
           ·exact PP47.out.1.grows T47
           ·exact PP48.out.1.grows T48
           ·exact PP49.out.1.grows T49
           ·exact PP50.out.1.grows T50
          ·rcases hq with rfl | rfl | rfl | rfl | rfl | rfl | rfl | rfl | rfl | rfl | rfl
           ·exact PP40.out.2
           ·exact PP41.out.2
           ·exact PP42.out.2
           ·exact PP43.out.2
           ·exact PP44.out.2
           ·exact PP45.out.2
           ·exact PP46.out.2
           ·exact PP47.out.2
           ·exact PP48.out.2
           ·exact PP49.out.2
           ·exact PP50.out.2
          ·rcases hq with rfl | rfl | rfl | rfl | rfl | rfl | rfl | rfl | rfl | rfl | rfl <;> simp [ByteArray.size]
          ·rcases hq with rfl | rfl | rfl | rfl | rfl | rfl | rfl | rfl | rfl | rfl | rfl
           ·have h:=posE_len hv;show (posE p).length ≤ _;omega
           ·have h:=enc_len HM.out.ok;show m.enc.length ≤ _;omega
           ·have h:=loudE_len okR lR cR;show (loudE _).length ≤ _;omega
           ·have h:=packE_le (l:=idxL newR es es.length) (fun n hn => by have:=idxL_lt hn;omega);show (packE _).length ≤ _;omega
           ·have h:=loudE_len okS lS cS;show (loudE _).length ≤ _;omega
           ·have h:=packE_le (l:=es.map (sidE BS)) (fun n hn => by obtain ⟨x,hx,rfl⟩:=List.mem_map.1 hn;have:=sidE_lt (HMS.out x hx);omega);rw [List.length_map] at h;show (packE _).length ≤ _;omega
           ·have h:=packE_le (l:=es.map fun x => x.l.toNat) (fun n hn => by obtain ⟨x,hx,rfl⟩:=List.mem_map.1 hn;have:=HNN.out x hx;show x.l.toNat < _;omega);rw [List.length_map] at h;show (packE _).length ≤ _;omega
           ·have h:=packE_le (l:=es.map fun x => x.t.toNat) (fun n hn => by obtain ⟨x,hx,rfl⟩:=List.mem_map.1 hn;have:=HNN.out x hx;show x.t.toNat < _;omega);rw [List.length_map] at h;show (packE _).length ≤ _;omega
           ·have h:=packE_le (l:=es.map fun x => x.c.toNat) (fun n hn => by obtain ⟨x,hx,rfl⟩:=List.mem_map.1 hn;have:=HNN.out x hx;show x.c.toNat < _;omega);rw [List.length_map] at h;show (packE _).length ≤ _;omega
           ·have h:=packE_le (l:=O) (fun n hn => by have:=HL.out.2.2 n hn;omega);have:=HL.out.2.1;show (packE _).length ≤ _;omega
           ·have h:=packE_le (l:=idxL newS so es.length) (fun n hn => by have:=idxL_lt hn;omega);show (packE _).length ≤ _;omega
         have hPC : AtCells W9 (some ⟨w50.heap.size,0,none⟩) 2 (P.map partC):=by
          rw [hW9]
          exact parts_cells P w50 _ (by omega)
         have hg9 : Grows w50 W9:=by rw [hW9];exact Grows.alloc _ _
         have CJ:=Lib.hid (join_any P (some ⟨w50.heap.size,0,none⟩) 11 W9 (X22.out.2.2.2.2.2.2.2.2.1.grows (Grows.trans _ _ _ G50.out hg9)) (by omega) hPC (hPA.grows hg9))
         rw [hPl] at CJ
         have HPB : Hid (P.map bare = imgP p m es):=by
          show _ = _
          rw [hP]
          unfold imgP ordE sortedE ordE
          rw [← HBR.out,← HBS.out,← HO.out,← HSO2.out]
          rfl
         have hW9' : W9 = w50.alloc (.cells (P.flatMap partC).toArray 92):=hW9
         rw [hP] at hW9'
         have HW9:=Lib.hid hW9'
         have CJ2 : ∀ W,W = W9 → Hid (Calls Tryz.prog 45 #[.slice (some ⟨w50.heap.size,0,none⟩) 11 11] W (JoinPost P W9)):=by rintro _ rfl;exact CJ
         have G9:=Lib.hid hg9
         clear hP hW9 hW9' hPA hPC CJ hg9
         refine (CJ2 _ ?_).out.mono ?_
         ·rw [HW9.out];rfl
         rintro e w51 ⟨hj0,hj1,hgJ⟩
         have GW:=Grows.trans _ _ _ X22.out.2.2.2.2.2.2.2.2.2 (Grows.trans _ _ _ G50.out (Grows.trans _ _ _ G9.out hgJ))
         by_cases hc14 : chk14 P = 0
         ·obtain ⟨v,rfl,hv'⟩:=hj0 hc14
          clear hj0 hj1
          have hv2':=hv'.base (Grows.trans _ _ _ X22.out.2.2.2.2.2.2.2.2.2 (Grows.trans _ _ _ G50.out G9.out)).size
          have HV':=Lib.hid hv2'
          clear hv' hv2'
          go_wp2_with fail
          go_ret2
          refine BuildPost.join HCH.out ⟨by rw [← HSO.out,← HBR.out];exact HKR.out,by rw [← HSO.out,← HBS.out];exact HKS.out⟩ GW ?_
          rw [← HSO.out,← HPB.out,chk14_bare,file14_bare]
          exact ⟨fun _ => ⟨v,rfl,HV'.out⟩,fun h => absurd hc14 h⟩
         ·obtain rfl:=hj1 hc14
          clear hj0 hj1
          go_wp2_with fail
          go_ret2
          refine BuildPost.join HCH.out ⟨by rw [← HSO.out,← HBR.out];exact HKR.out,by rw [← HSO.out,← HBS.out];exact HKS.out⟩ GW ?_
          rw [← HSO.out,← HPB.out,chk14_bare,file14_bare]
          exact ⟨fun h => absurd h hc14,fun _ => rfl⟩
  ·have HK:=Lib.hid hkS
   have hfi : (chk11 (bls BS) : Int) ≠ 0:=by omega
   obtain ⟨f,hf⟩ : ∃ f : Int,f = chk11 (bls BS):=⟨_,rfl⟩
   rw [← hf] at hfi ⊢
   have hfb : (f != 0) = true:=by simpa using hfi
   clear hf hkS hfi
   go_wp2
   go_ret2
   exact BuildPost.long HCH.out (fun h => HK.out (by rw [HBS.out,HSO.out];exact h.2)) (Grows.trans _ _ _ hg03 g7)
 ·have HK:=Lib.hid hkR
  have hfi : (chk11 (bls BR) : Int) ≠ 0:=by omega
  obtain ⟨f,hf⟩ : ∃ f : Int,f = chk11 (bls BR):=⟨_,rfl⟩
  rw [← hf] at hfi ⊢
  have hfb : (f != 0) = true:=by simpa using hfi
  clear hf hkR hfi
  go_wp2
  go_ret2
  exact BuildPost.long HCH.out (fun h => HK.out (by rw [HBR.out,HSO.out];exact h.1)) (Grows.trans _ _ _ hg03 g5)
end Go.Proofs.YtepoiefadjoabaaGreatDoor
namespace Go.Proofs.YtepoiefadjoabaaGreatDoor
open Go Go.RowKit Go.Shelf
attribute [local go_sem] quietE quietE2
theorem bbuild_any (p : List PosV) (mv : Value) (m : Option Mx) (l : List En) (pa a : Option Addr) (pc c : Nat) (w : World) (he : Env w) (hp : p.length ≤ 4611686018427387904) (hl : l.length ≤ 140737488355328) (hs : ∀ x ∈ l, EnOK x) (hz : ∀ x ∈ l, x.r.size ≤ 1099511627776 ∧ x.s.size ≤ 1099511627776)
  (hpt : AtCells w pa 2 (p.map posCells)) (hm : MatV w mv m) (hat : AtCells w a 5 (l.map enCells)) :
  Calls Tryz.prog 13 #[.slice pa p.length pc,mv,.slice a l.length c] w (BuildPost p m l w):=by
 by_cases hc : chkB p m l = 0
 ·cases m with
  | none =>
   unfold chkB at hc
   split at hc <;> cases hc
  | some m =>
   obtain ⟨mb,bm,rfl,hmm⟩:=hm
   exact bbuild_ok p mb bm m l pa a pc c w he hp hs hz (by have:=chkB_nums hc;omega) (chkB_nums hc).2.2.1 hpt hmm hat hc
 ·exact bbuild_bad p mv m l pa a pc c w he hp hl (fun x hx => by have:=hz x hx;omega) hpt hm hat hc
theorem makeE_zero {p : List PosV} {m : Option Mx} {l : List En} (h : makeE p m l = 0) : chkB p m l = 0 ∧ chk11 (bls (readL (sortS l))) = 0 ∧ chk11 (bls (surfL (sortS l))) = 0 := by
 unfold makeE at h
 split at h
 ·rename_i hc
  split at h
  ·rename_i hk;exact ⟨hc,hk⟩
  ·cases h
 ·rename_i hc;exact absurd h hc
theorem buildB_good {p : List PosV} {m : Mx} {l : List En} (h : makeE p (some m) l = 0) (h14 : chk14 (imgP p m (sortS l)) = 0) : buildB p (some m) l = (0, file14 (imgP p m (sortS l))) := by
 obtain ⟨h1,h2⟩:=makeE_zero h
 unfold buildB
 rw [if_pos h1]
 simp only
 rw [if_pos h2,if_pos h14]
theorem small14 {p : List PosV} {m : Mx} {l : List En} (hm : m.OK) (hl : l.length ≤ 300) (h : makeE p (some m) l = 0) : chk14 (imgP p m (sortS l)) = 0 := by
 obtain ⟨h1,h2,h3⟩:=makeE_zero h
 obtain ⟨n1,n2,n3,n4⟩:=chkB_nums h1
 have hp:=(posValid_all n3).1
 refine chk14_img hm n3 (Nat.le_trans (sortS_le l) hl) h2 h3 fun x hx => ?_
 have:=checkE_nums (n4 x (sortS_of hx))
 omega
end Go.Proofs.YtepoiefadjoabaaGreatDoor
namespace Go.Proofs.YtepoiefadjoabaaGreatDoor
open Go Go.RowKit Go.Shelf
attribute [local go_sem] quietE quietE2
theorem srcB {x : SrcV} (hl : lightS x = true) (hok : SrcOK x) : (∀ y ∈ x.e, EnOK y) ∧ (∀ y ∈ x.e, y.r.size ≤ 1099511627776 ∧ y.s.size ≤ 1099511627776) ∧ (∀ y ∈ x.p, y.name.size ≤ 9223372036854775807) := by
 obtain ⟨h1,h2,_⟩:=lightS_of hl
 exact ⟨hok.e,fun y hy => by have:=h2 y hy;omega,fun y hy => by have:=h1 y hy;omega⟩
set_option maxHeartbeats 4000000 in
set_option maxRecDepth 100000 in
theorem image_any (x : SrcV) (A : SrcA) (w : World) (he : Env w) (hok : SrcOK x) (hz : ∀ y ∈ x.e, y.r.size ≤ 1099511627776 ∧ y.s.size ≤ 1099511627776) (hat : SrcAt w A x) :
  Calls Tryz.prog 8 #[A.agg x] w (BuildPost x.p (srcM x) x.e w):=by
 have hz0:=hz
 have hok0:=hok
 have HAT0:=hat
 obtain ⟨pa,pc,sa,sc,ea,ec⟩:=A
 obtain ⟨xp,xd,xs,xe⟩:=x
 obtain ⟨W0,hW0⟩ : ∃ W0,W0 = w.alloc (.cells #[.slice pa xp.length pc,.int .i64 xd,.slice sa xs.length sc,.slice ea xe.length ec] 26):=⟨_,rfl⟩
 have hg0 : Grows w W0:=by rw [hW0];exact Grows.alloc _ _
 have hbx:=fun j u h => cell_box w #[.slice pa xp.length pc,.int .i64 xd,.slice sa xs.length sc,.slice ea xe.length ec] 26 (0,0) j u h
 rw [← hW0] at hbx
 have q0:=hbx 0 _ rfl
 have q1:=hbx 1 _ rfl
 have q2:=hbx 2 _ rfl
 have q3:=hbx 3 _ rfl
 have HQ:=Lib.hid (And.intro q0 (And.intro q1 (And.intro q2 q3)))
 have HSA:=Lib.hid (hat.grows hg0)
 have HG0:=Lib.hid hg0
 clear hbx
 have CM:=Lib.hid (matrix_any ⟨xp,xd,xs,xe⟩ ⟨pa,pc,sa,sc,ea,ec⟩ W0.drew hok0 (HSA.out.grows (Grows.drew W0)))
 have CB:=fun (W : World) (mv : Value) (h : Grows W0 W) (hm : MatV W mv (srcM ⟨xp,xd,xs,xe⟩)) => Lib.hid (bbuild_any xp mv (srcM ⟨xp,xd,xs,xe⟩) xe pa ea pc ec W (he.grows (Grows.trans _ _ _ HG0.out h)) (by have:=hok0.lp;simp only at this;omega) hok0.le hok0.e hz0 (HSA.out.p.grows h) hm (HSA.out.e.grows h))
 obtain ⟨SM,hSM⟩ : ∃ m,m = srcM ⟨xp,xd,xs,xe⟩:=⟨_,rfl⟩
 show Calls _ _ #[.agg #[.slice pa xp.length pc,.int .i64 xd,.slice sa xs.length sc,.slice ea xe.length ec]] _ (BuildPost xp (srcM ⟨xp,xd,xs,xe⟩) xe w)
 rw [← hSM] at CM CB ⊢
 unfold SrcA.agg SrcA.cells at CM
 simp only at CM
 have z0 : ∀ x : Ext Grows W0.drew,x.u.cell? ⟨w.heap.size,0,none⟩ = some (.slice pa xp.length pc):=ext_cell ((Grows.drew W0).cell q0)
 have z1 : ∀ x : Ext Grows W0.drew,x.u.cell? ⟨w.heap.size,1,none⟩ = some (.int .i64 xd):=ext_cell ((Grows.drew W0).cell q1)
 have z2 : ∀ x : Ext Grows W0.drew,x.u.cell? ⟨w.heap.size,2,none⟩ = some (.slice sa xs.length sc):=ext_cell ((Grows.drew W0).cell q2)
 have z3 : ∀ x : Ext Grows W0.drew,x.u.cell? ⟨w.heap.size,3,none⟩ = some (.slice ea xe.length ec):=ext_cell ((Grows.drew W0).cell q3)
 clear hSM q0 q1 q2 q3 hat hok hz he hz0 hok0 HAT0 hg0
 go_enter Tryz.func8,Tryz.ntmps8
 go_wp2_with fail
 rw [← hW0]
 clear hW0
 refine t_region (Grows) [(0,false),(1,false),(2,false),(4,false),(5,false),(3,true),(6,true),(7,false),(8,false),(9,false),(10,false)] Grows.refl Grows.trans (by kernel_rfl) (by kernel_rfl) (fun d _ _ _ _ h => by cases d <;> exact h) ?_
 iterate 5 (refine t_quiet rfl (fun K hK => ?_);go_simp;refine hK _ ?_;clear hK K)
 clear z0 z1 z2 z3
 refine t_late rfl rfl (fun K hK => ?_)
 go_simp
 refine (CM.out).mono ?_
 rintro e w1 ⟨mv,rfl,hm,hg1⟩
 refine ⟨hg1,hK _ _ ?_⟩
 clear hK K
 have hgW:=Grows.trans _ _ _ HG0.out (Grows.trans _ _ _ (Grows.drew W0) hg1)
 refine t_late rfl rfl (fun K hK => ?_)
 go_simp
 refine ((CB w1 mv (Grows.trans _ _ _ (Grows.drew W0) hg1) hm).out).mono ?_
 rintro e w2 ⟨hg2,v,rfl,hv⟩
 refine ⟨hg2,hK _ _ ?_⟩
 clear hK K
 iterate 4 (refine t_quiet rfl (fun K hK => ?_);go_simp;refine hK _ ?_;clear hK K)
 refine t_end ?_
 go_wp2_with fail
 go_ret2
 exact ⟨Grows.trans _ _ _ hgW hg2,_,rfl,hv.base hgW.size⟩
end Go.Proofs.YtepoiefadjoabaaGreatDoor
namespace Go.Proofs.YtepoiefadjoabaaGreatDoor
open Go Go.RowKit Go.Shelf
attribute [local go_sem] quietE quietE2
set_option maxHeartbeats 2000000 in
set_option maxRecDepth 100000 in
theorem lrest_any (x : SrcV) (A : SrcA) (m : Mx) (Q : List PartV) (q0 q1 : PartV) (qa : Option Addr) (qc : Nat) (w : World) (hok : SrcOK x) (hsrc : SrcAt w A x) (hv : posValid x.p = true) (hm : srcM x = some m) (hmk : m.OK) (hmn : (m.n : Int) = x.p.length)
  (hQl : Q.length ≤ 1000000) (hat : AtCells w qa 2 (Q.map partC)) (hpa : PartsAt w Q) (h0 : Q[0]? = some q0) (h1 : Q[1]? = some q1) (n0 : q0.name = ⟨#[112,111,115]⟩) (n1 : q1.name = ⟨#[109,97,116,114,105,120]⟩) (d0 : q0.data = posE x.p) (d1 : q1.data = m.enc) (hl0 : (posE x.p).length ≤ 1099511627776) (hl1 : m.enc.length ≤ 1099511627776) :
  Calls Tryz.prog 24 #[A.agg x,.slice qa Q.length qc] w fun e w' => e = .returned (.bool true)∧Grows w w':=by
 have hne01 : ∀ j p,j < 1 → Q[j]? = some p → p.name ≠ q1.name:=fun j p hj hp => by
  obtain rfl : j = 0:=by omega
  rw [h0] at hp
  rw [← Option.some.inj hp,n0,n1]
  decide
 have CF0 : ∀ u,Grows w u → Hid (Calls Tryz.prog 62 #[.slice qa Q.length qc,.string ⟨#[112,111,115]⟩] u fun e w' => ∃ v,e = .returned (.tuple #[v,.bool true])∧Owns w' u.heap.size 5 1 byteC v (posE x.p)∧Grows u w'):=fun u hu => by
  have h:=find_any14 Q 0 q0 qa qc u hQl (hat.grows hu) (hpa.grows hu) h0 (fun j p hj => by omega)
  rw [d0,n0] at h
  exact h
 have CF1 : ∀ u,Grows w u → Hid (Calls Tryz.prog 62 #[.slice qa Q.length qc,.string ⟨#[109,97,116,114,105,120]⟩] u fun e w' => ∃ v,e = .returned (.tuple #[v,.bool true])∧Owns w' u.heap.size 5 1 byteC v m.enc∧Grows u w'):=fun u hu => by
  have h:=find_any14 Q 1 q1 qa qc u hQl (hat.grows hu) (hpa.grows hu) h1 hne01
  rw [d1,n1] at h
  exact h
 have CP:=fun (a : Option Addr) (c : Nat) (u : World) e1 e2 e3 => Lib.hid (posdec_any x.p a c u hv hl0 e1 e2 e3)
 have CM : ∀ (a : Option Addr) (c : Nat) (u : World),AtCells u a 1 (m.enc.map byteC) → Hid (Calls Tryz.prog 68 #[.slice a m.enc.length c] u fun e w' => ∃ mb bm,e = .returned (.tuple #[.pointer (some ⟨mb,0,none⟩),.int .i64 0])∧MatAt w' mb bm m∧Grows u w'):=fun a c u h => by
  have hd:=decode_any m.enc a c u hl1 h
  rw [decM_iff.2 ⟨hmk,rfl⟩] at hd
  refine hd.mono ?_
  rintro e w' ⟨_,h2,h3⟩
  obtain ⟨mb,bm,e1,e2,_,_⟩:=h2 m rfl
  exact ⟨mb,bm,e1,e2,h3⟩
 have CS : ∀ u,Grows w u → Hid (Calls Tryz.prog 14 #[A.agg x] u fun e w' => ∃ mb bm,e = .returned (.pointer (some ⟨mb,0,none⟩))∧MatAt w' mb bm m∧Grows u w'):=fun u hu => by
  refine (matrix_any x A u hok (hsrc.grows hu)).mono ?_
  rintro e w' ⟨v,e1,e2,e3⟩
  rw [hm] at e2
  obtain ⟨mb,bm,e4,e5⟩:=e2
  exact ⟨mb,bm,by rw [e1,e4],e5,e3⟩
 obtain ⟨PL,hPL⟩ : ∃ q,q = (posE x.p).length:=⟨_,rfl⟩
 obtain ⟨ML,hML⟩ : ∃ q,q = m.enc.length:=⟨_,rfl⟩
 obtain ⟨QL,hQL⟩ : ∃ q,q = Q.length:=⟨_,rfl⟩
 have hl64:=(posValid_all hv).1
 have HSP:=Lib.hid hsrc.p
 obtain ⟨pa,pc,sa,sc,ea,ec⟩:=A
 obtain ⟨xp,xd,xs,xe⟩:=x
 simp only at HSP hmn hl64 PL hPL CF0 CP
 obtain ⟨n,hn⟩ : ∃ n,n = xp.length:=⟨_,rfl⟩
 have HNL:=Lib.hid hn
 unfold SrcA.agg SrcA.cells at CS
 simp only at CS
 show Calls _ _ #[.agg #[.slice pa xp.length pc,.int .i64 xd,.slice sa xs.length sc,.slice ea xe.length ec],.slice qa Q.length qc] _ _
 rw [← hQL] at CF0 CF1 ⊢
 rw [← hn] at CS hmn hl64 ⊢
 rw [← hPL] at CP
 rw [← hML] at CM
 have HPL:=Lib.hid hPL
 have HML:=Lib.hid hML
 obtain ⟨W0,hW0⟩ : ∃ W0,W0 = w.alloc (.cells #[.slice pa n pc,.int .i64 xd,.slice sa xs.length sc,.slice ea xe.length ec] 26):=⟨_,rfl⟩
 have hg0 : Grows w W0:=by rw [hW0];exact Grows.alloc _ _
 have hbx:=fun j u h => cell_box w #[.slice pa n pc,.int .i64 xd,.slice sa xs.length sc,.slice ea xe.length ec] 26 (0,0) j u h
 rw [← hW0] at hbx
 have q0:=hbx 0 _ rfl
 have q1:=hbx 1 _ rfl
 have q2:=hbx 2 _ rfl
 have q3:=hbx 3 _ rfl
 have HQ:=Lib.hid (And.intro q0 (And.intro q1 (And.intro q2 q3)))
 clear hbx q0 q1 q2 q3 hne01 hPL hML hQL hn hsrc hok hv hm hmk hQl hat hpa h0 h1 n0 n1 d0 d1 hl0 hl1
 go_enter Tryz.func24,Tryz.ntmps24
 go_wp2_with fail
 rw [← hW0]
 clear hW0
 refine (CF0 W0 hg0).out.mono ?_
 rintro e w1 ⟨v1,rfl,hv1,hg1⟩
 obtain ⟨a1,c1,rfl,h1c,_,hat1⟩:=hv1.at_ byteLay.len
 rw [← HPL.out] at h1c ⊢
 have CP1:=CP a1 c1 w1 h1c (owns_none2 hv1) hat1
 have hgw1:=hg0.tr hg1
 clear CF0 CP hv1 hat1
 go_wp2_with fail
 refine CP1.out.mono ?_
 rintro e w2 ⟨v2,rfl,hv2,hg2⟩
 obtain ⟨a2,c2,rfl,_,_,hat2⟩:=hv2.at_ posLayD.len
 have HAT2:=Lib.hid hat2
 rw [← HNL.out]
 have hgw2:=hgw1.tr hg2
 clear CP1 hv2 hat2
 go_wp2_with fail
 refine (CF1 w2 hgw2).out.mono ?_
 rintro e w3 ⟨v3,rfl,hv3,hg3⟩
 obtain ⟨a3,c3,rfl,h3c,_,hat3⟩:=hv3.at_ byteLay.len
 have CM1:=CM a3 c3 w3 hat3
 rw [← HML.out]
 have hgw3:=hgw2.tr hg3
 clear CF1 CM hv3 hat3 h3c h1c
 go_wp2_with fail
 refine CM1.out.mono ?_
 rintro e w4 ⟨mb,bm,rfl,hm4,hg4⟩
 have hgw4:=hgw3.tr hg4
 have hg14:=(hg1.tr hg2).tr (hg3.tr hg4)
 have b0:=hg14.cell HQ.out.1
 have b1:=hg14.cell HQ.out.2.1
 have b2:=hg14.cell HQ.out.2.2.1
 have b3:=hg14.cell HQ.out.2.2.2
 have CS1:=CS w4 hgw4
 have hm4':=Lib.hid hm4
 clear CM1 CS hm4
 go_wp2_with fail
 refine CS1.out.mono ?_
 rintro e w5 ⟨mb2,bm2,rfl,hm5,hg5⟩
 have HM1:=Lib.hid (hm4'.out.grows hg5)
 have HM2:=Lib.hid hm5
 have hg05:=hg14.tr hg5
 have HX0:=Lib.hid (hg05.cell HQ.out.1)
 have d0:=HX0.out
 have HA2:=Lib.hid (HAT2.out.grows (hg3.tr (hg4.tr hg5)))
 have HGW:=Lib.hid (hgw4.tr hg5)
 have HSP5:=Lib.hid (HSP.out.grows HGW.out)
 have CZ:=Lib.hid (size_any w5 mb bm m HM1.out)
 have hmn2 : ((m.n : Int) != n) = false:=by simp;exact hmn
 clear b0 b1 b2 b3 CS1 hm4' hm5 hg1 hg2 hg3 hg4 hg5 hgw1 hgw2 hgw3 hgw4 hg14 HAT2 HQ
 go_wp2_with fail
 refine CZ.out.mono ?_
 rintro e w6 ⟨rfl,rfl⟩
 go_wp2_with fail
 go_loopw [14] (fun i wr => ∃ k : Nat,k ≤ n∧i = .int .i64 k∧Hid (Grows w5 wr)) (fun i _ => n - (intOf i).toNat)
 case atStart => exact ⟨0,Nat.zero_le _,rfl,Grows.refl _⟩
 case round =>
  obtain ⟨k,hk,rfl,hg⟩:=hrel
  clear d0
  by_cases hlt : k < n
  ·obtain ⟨⟨nm,kd⟩,hx⟩ : ∃ y,xp[k]? = some y:=⟨_,List.getElem?_eq_getElem (by have:=HNL.out;omega)⟩
   obtain ⟨ba,fa,rfl,hca⟩:=(HA2.out.grows hg.out).get (ne_nil_of_lt (k:=k) (by have:=HNL.out;omega))
   obtain ⟨bs,fs,rfl,hcs⟩:=(HSP5.out.grows hg.out).get (ne_nil_of_lt (k:=k) (by have:=HNL.out;omega))
   have hki : (k : Int) < n:=by omega
   have z0 : ∀ x : Ext Grows wr.drew,x.u.cell? ⟨w.heap.size,0,none⟩ = some (.slice (some ⟨bs,fs,none⟩) n pc):=ext_cell (hg.out.dr.cell HX0.out)
   have a0 : ∀ x : Ext Grows wr.drew,x.u.cell? ⟨ba,fa + k * 2,none⟩ = some (.string nm):=ext_cell ((Grows.drew wr).cell (hca k _ hx 0 _ rfl))
   have b0 : ∀ x : Ext Grows wr.drew,x.u.cell? ⟨bs,fs + k * 2,none⟩ = some (.string nm):=ext_cell ((Grows.drew wr).cell (hcs k _ hx 0 _ rfl))
   have a1 : ∀ x : Ext Grows wr.drew,x.u.cell? ⟨ba,fa + k * 2 + 1,none⟩ = some (.int .i64 kd):=ext_cell ((Grows.drew wr).cell (hca k _ hx 1 _ rfl))
   have b1 : ∀ x : Ext Grows wr.drew,x.u.cell? ⟨bs,fs + k * 2 + 1,none⟩ = some (.int .i64 kd):=ext_cell ((Grows.drew wr).cell (hcs k _ hx 1 _ rfl))
   have e1 : (nm.toList == nm.toList) = true:=by simp
   clear hca hcs hx
   go_wp2_with fail
   refine t_region (Grows) [(0,false),(1,false),(2,false),(3,false),(4,false),(5,false),(6,false),(7,false),(8,false),(9,false)] Grows.refl Grows.trans (by kernel_rfl) (by kernel_rfl) (fun d _ _ _ _ h => by cases d <;> exact h) ?_
   iterate 10 (refine t_quiet rfl (fun K hK => ?_);go_simp;refine hK _ ?_;clear hK K)
   refine t_end ?_
   clear z0 a0 a1 b0 b1
   have hgd:=Lib.hid hg.out.dr
   clear hg
   go_wp2_with fail
   obtain ⟨u0,hu0⟩ : ∃ u0,u0 = wr.drew:=⟨_,rfl⟩
   go_loopw [15] (fun j wx => ∃ t : Nat,t ≤ n∧j = .int .i64 t∧Hid (Grows w5 wx)) (fun j _ => n - (intOf j).toNat)
   case atStart => exact ⟨0,Nat.zero_le _,rfl,hgd.out⟩
   case round =>
    obtain ⟨t,ht,rfl,hg⟩:=hrel
    by_cases hlt2 : t < n
    ·have hti : (t : Int) < n:=by omega
     have C1:=Lib.hid (cost_any wr mb bm m (HM1.out.grows hg.out) k t)
     have C2:=Lib.hid (cost_any wr mb2 bm2 m (HM2.out.grows hg.out) k t)
     generalize m.cost ((k : Int),(t : Int)) = cst at C1 C2
     have hcc : (cst != cst) = false:=by simp
     go_wp2_with fail
     refine C1.out.mono ?_
     rintro e w7 ⟨rfl,rfl⟩
     go_wp2_with fail
     refine C2.out.mono ?_
     rintro e w8 ⟨rfl,rfl⟩
     go_wp2_with fail
     go_roundw
     case rel => exact ⟨t + 1,hlt2,by go_num,hg.out⟩
     case measure => simp [intOf];omega
    ·obtain rfl : t = n:=by omega
     go_wp2_with fail
     go_roundw
     case rel => exact ⟨k + 1,hlt,by go_num,hg.out⟩
     case measure => simp [intOf];omega
  ·obtain rfl : k = n:=by omega
   go_wp2_with fail
   go_ret
   exact ⟨rfl,HGW.out.tr hg.out⟩
end Go.Proofs.YtepoiefadjoabaaGreatDoor
