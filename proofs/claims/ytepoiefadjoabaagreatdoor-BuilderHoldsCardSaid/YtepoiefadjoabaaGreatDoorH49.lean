/- The texts Chap Wk18P Wk18 HoldsL, one behind the other. -/
import Derived.Test.YtepoiefadjoabaaGreatDoorH48
import Derived.Test.YtepoiefadjoabaaGreatDoorH41
import Derived.Test.YtepoiefadjoabaaGreatDoorH39
import Derived.Test.YtepoiefadjoabaaGreatDoorH47
import Derived.Test.YtepoiefadjoabaaGreatDoorH7
namespace Go.Proofs.YtepoiefadjoabaaGreatDoor
open Go Go.RowKit Go.Shelf
attribute [local go_sem] quietE quietE2
def chapP : List PosV := [⟨⟨#[66, 79, 83]⟩, 0⟩, ⟨⟨#[110, 111, 117, 110]⟩, 0⟩]
def chapE : List En := [⟨⟨#[227, 129, 139]⟩, ⟨#[232, 154, 138]⟩, 1, 1, 30⟩, ⟨⟨#[227, 129, 139]⟩, ⟨#[231, 167, 145]⟩, 1, 1, 20⟩, ⟨⟨#[227, 129, 139, 227, 129, 141]⟩, ⟨#[230, 159, 191]⟩, 1, 1, 40⟩]
def chapS : SrcV := ⟨chapP, 10, [], chapE⟩
set_option maxHeartbeats 4000000 in
set_option maxRecDepth 100000 in
theorem chapter_any (w : World) : Calls Tryz.prog 28 #[] w fun e w' => ∃ A : SrcA, e = .returned (A.agg chapS) ∧ SrcAt w' A chapS ∧ Grows w w' := by
 obtain ⟨W0,hW0⟩ : ∃ W,W = w.alloc (.cells #[.slice (some ⟨w.heap.size + 1,0,none⟩) 2 2,.int .i64 10,.slice none 0 0,.slice (some ⟨w.heap.size + 1 + 1,0,none⟩) 3 3] 26):=⟨_,rfl⟩
 obtain ⟨W1,hW1⟩ : ∃ W,W = W0.alloc (.cells (chapP.flatMap posCells).toArray 60):=⟨_,rfl⟩
 obtain ⟨W2,hW2⟩ : ∃ W,W = W1.alloc (.cells (chapE.flatMap enCells).toArray 38):=⟨_,rfl⟩
 have hg0 : Grows w W0:=by rw [hW0];exact Grows.alloc _ _
 have hg1 : Grows W0 W1:=by rw [hW1];exact Grows.alloc _ _
 have hg2 : Grows W1 W2:=by rw [hW2];exact Grows.alloc _ _
 have hs0 : W0.heap.size = w.heap.size + 1:=by rw [hW0];simp
 have hs1 : W1.heap.size = w.heap.size + 1 + 1:=by rw [hW1];simp [hs0]
 have hp : AtCells W2 (some ⟨w.heap.size + 1,0,none⟩) 2 (chapP.map posCells):=by
  have h:=at_box (enc:=posCells) (k:=2) (w:=W0) (t:=60) (fz:=(0,0)) (cs:=(chapP.flatMap posCells).toArray) (fun _ => rfl) chapP rfl
  rw [hs0,← hW1] at h
  exact h.grows hg2
 have he : AtCells W2 (some ⟨w.heap.size + 1 + 1,0,none⟩) 5 (chapE.map enCells):=by
  have h:=at_box (enc:=enCells) (k:=5) (w:=W1) (t:=38) (fz:=(0,0)) (cs:=(chapE.flatMap enCells).toArray) (fun _ => rfl) chapE rfl
  rw [hs1,← hW2] at h
  exact h
 have HSRC : Hid (SrcAt W2 ⟨some ⟨w.heap.size + 1,0,none⟩,2,none,0,some ⟨w.heap.size + 1 + 1,0,none⟩,3⟩ chapS∧Grows w W2):=⟨⟨hp,AtCells.nil _ _ _,he⟩,Grows.trans _ _ _ hg0 (Grows.trans _ _ _ hg1 hg2)⟩
 obtain ⟨bc,_⟩:=box_cells2 (w:=w) (cs:=#[.slice (some ⟨w.heap.size + 1,0,none⟩) 2 2,.int .i64 10,.slice none 0 0,.slice (some ⟨w.heap.size + 1 + 1,0,none⟩) 3 3]) (t:=26) (w':=W2) (by rw [← hW0];exact Grows.trans _ _ _ hg1 hg2)
 have b0:=bc 0 _ rfl
 have b1:=bc 1 _ rfl
 have b2:=bc 2 _ rfl
 have b3:=bc 3 _ rfl
 have hE : W2 = ((w.alloc (.cells #[.slice (some ⟨w.heap.size + 1,0,none⟩) 2 2,.int .i64 10,.slice none 0 0,.slice (some ⟨w.heap.size + 1 + 1,0,none⟩) 3 3] 26)).alloc (.cells #[.string ⟨#[66,79,83]⟩,.int .i64 0,.string ⟨#[110,111,117,110]⟩,.int .i64 0] 60)).alloc (.cells #[.string ⟨#[227,129,139]⟩,.string ⟨#[232,154,138]⟩,.int .i64 1,.int .i64 1,.int .i64 30,.string ⟨#[227,129,139]⟩,.string ⟨#[231,167,145]⟩,.int .i64 1,.int .i64 1,.int .i64 20,.string ⟨#[227,129,139,227,129,141]⟩,.string ⟨#[230,159,191]⟩,.int .i64 1,.int .i64 1,.int .i64 40] 38):=by
  rw [hW2,hW1,hW0];rfl
 have HE:=Lib.hid hE
 clear hW0 hW1 hW2 hg0 hg1 hg2 hs0 hs1 hp he bc hE
 go_enter Tryz.func28,Tryz.ntmps28
 go_wp2_with fail
 rw [← HE.out]
 refine bodyPost_ret (v:=.agg #[.slice (some ⟨w.heap.size + 1,0,none⟩) 2 2,.int .i64 10,.slice none 0 0,.slice (some ⟨w.heap.size + 1 + 1,0,none⟩) 3 3]) (by simp [results,Tryz.results28,go_sem,b0,b1,b2,b3]) rfl ⟨_,rfl,HSRC.out.1,HSRC.out.2⟩
end Go.Proofs.YtepoiefadjoabaaGreatDoor
namespace Go.Proofs.YtepoiefadjoabaaGreatDoor
open Go Go.RowKit
def chapM : Mx := newM 2 10
def chapX : List En := sortS chapE
theorem chap_src : srcM chapS = some chapM := by
 unfold srcM chapS
 rw [if_pos (by decide +kernel)]
 rfl
theorem chap_make : makeE chapP (some chapM) chapE = 0 := by decide +kernel
theorem chap_first : idxL newR chapX chapX.length = [0, 2] := by decide +kernel
theorem chap_surface : chapX.map (sidE (surfL chapX)) = [1, 2, 0] := by decide +kernel
theorem chap_cost : (chapX.map fun x => x.c.toNat) = [20, 30, 40] := by decide +kernel
theorem chap_order : ordE chapX = [2, 0, 1] := by decide +kernel
theorem chap_at : idxL newS (sortedE chapX) chapX.length = [0, 1, 2] := by decide +kernel
theorem chap_ok : chapM.OK := newM_ok (n := 2) (d := 10) (by decide)
theorem chap_14 : chk14 (imgP chapP chapM chapX) = 0 := small14 chap_ok (by decide) chap_make
theorem chap_build : buildB chapP (some chapM) chapE = (0, file14 (imgP chapP chapM chapX)) := buildB_good chap_make chap_14
end Go.Proofs.YtepoiefadjoabaaGreatDoor
namespace Go.Proofs.YtepoiefadjoabaaGreatDoor
open Go Go.RowKit Go.Shelf
attribute [local go_sem] quietE quietE2
theorem chap_enok : ∀ y ∈ chapE, EnOK y := fun y hy => by
  rcases List.mem_cons.1 hy with rfl | hy
  ·exact ⟨by decide,by decide,by decide,by decide,by decide⟩
  ·rcases List.mem_cons.1 hy with rfl | hy
   ·exact ⟨by decide,by decide,by decide,by decide,by decide⟩
   ·rcases List.mem_cons.1 hy with rfl | hy
    ·exact ⟨by decide,by decide,by decide,by decide,by decide⟩
    ·cases hy
theorem chap_srcok : SrcOK chapS where
 p:=by decide
 s:=fun y hy => by cases hy
 e:=chap_enok
 d:=(show (Lit.int .i64 10).wf = true by kernel_rfl)
 lp:=by decide
 ls:=by decide
 le:=by decide
theorem img_names11 (p : List PosV) (m : Mx) (es : List En) : (imgP p m es).map (·.name) = [⟨#[112, 111, 115]⟩, ⟨#[109, 97, 116, 114, 105, 120]⟩, ⟨#[114, 101, 97, 100, 105, 110, 103, 115]⟩, ⟨#[102, 105, 114, 115, 116]⟩, ⟨#[115, 117, 114, 102, 97, 99, 101, 115]⟩, ⟨#[115, 117, 114, 102, 97, 99, 101]⟩, ⟨#[108, 101, 102, 116]⟩, ⟨#[114, 105, 103, 104, 116]⟩, ⟨#[99, 111, 115, 116]⟩, ⟨#[111, 114, 100, 101, 114]⟩, ⟨#[97, 116]⟩] := rfl
theorem img_ne {p : List PosV} {m : Mx} {es : List En} {j k : Nat} {a b : PartV} (ha : (imgP p m es)[j]? = some a) (hb : (imgP p m es)[k]? = some b) (h : j < k) : a.name ≠ b.name := fun e => by
 have hn : ((imgP p m es).map (·.name)).Nodup:=by rw [img_names11];decide +kernel
 have h1 : ((imgP p m es).map (·.name))[j]? = some a.name:=by rw [List.getElem?_map,ha];rfl
 have h2 : ((imgP p m es).map (·.name))[k]? = some a.name:=by rw [List.getElem?_map,hb,e];rfl
 have:=nodup_at hn h1 h2
 omega
theorem bare_get {P Q : List PartV} (h : Q.map bare = P.map bare) {k : Nat} {p : PartV} (hp : P[k]? = some p) : ∃ q, Q[k]? = some q ∧ q.name = p.name ∧ q.data = p.data := by
 have h1 : (Q.map bare)[k]? = some (bare p):=by rw [h,List.getElem?_map,hp];rfl
 rw [List.getElem?_map] at h1
 cases hq : Q[k]? with
 | none => rw [hq] at h1;cases h1
 | some q =>
  rw [hq] at h1
  have e : bare q = bare p:=Option.some.inj h1
  have e1 : (bare q).name = (bare p).name:=by rw [e]
  have e2 : (bare q).data = (bare p).data:=by rw [e]
  exact ⟨q,rfl,e1,e2⟩
set_option maxHeartbeats 8000000 in
set_option maxRecDepth 100000 in
theorem works18_any (w : World) (he : Env w) : Calls Tryz.prog 12 #[] w fun e w' => e = .returned (.bool true) ∧ Grows w w' := by
 have HE:=Lib.hid he
 have hok:=chap_srcok
 have CI:=fun (A : SrcA) (W : World) (hW : Grows w W) (hat : SrcAt W A chapS) => Lib.hid (image_any chapS A W (HE.out.grows hW) hok (by decide) hat)
 have key : buildB chapS.p (srcM chapS) chapS.e = (0,file14 (imgP chapP chapM chapX)):=by rw [chap_src];exact chap_build
 unfold BuildPost at CI
 rw [key] at CI
 have h14:=chap_14
 have HNE:=Lib.hid (fun (j k : Nat) (a b : PartV) => img_ne (p:=chapP) (m:=chapM) (es:=chapX) (j:=j) (k:=k) (a:=a) (b:=b))
 have HP3 : Hid (∃ p,(imgP chapP chapM chapX)[3]? = some p∧p.name = ⟨#[102,105,114,115,116]⟩∧p.data = packE [0,2]):=⟨_,rfl,rfl,by show packE (idxL newR chapX chapX.length) = _;rw [chap_first]⟩
 have HP5 : Hid (∃ p,(imgP chapP chapM chapX)[5]? = some p∧p.name = ⟨#[115,117,114,102,97,99,101]⟩∧p.data = packE [1,2,0]):=⟨_,rfl,rfl,by show packE (chapX.map (sidE (surfL chapX))) = _;rw [chap_surface]⟩
 have HP8 : Hid (∃ p,(imgP chapP chapM chapX)[8]? = some p∧p.name = ⟨#[99,111,115,116]⟩∧p.data = packE [20,30,40]):=⟨_,rfl,rfl,by show packE (chapX.map fun x => x.c.toNat) = _;rw [chap_cost]⟩
 have HP9 : Hid (∃ p,(imgP chapP chapM chapX)[9]? = some p∧p.name = ⟨#[111,114,100,101,114]⟩∧p.data = packE [2,0,1]):=⟨_,rfl,rfl,by show packE (ordE chapX) = _;rw [chap_order]⟩
 have HP10 : Hid (∃ p,(imgP chapP chapM chapX)[10]? = some p∧p.name = ⟨#[97,116]⟩∧p.data = packE [0,1,2]):=⟨_,rfl,rfl,by show packE (idxL newS (sortedE chapX) chapX.length) = _;rw [chap_at]⟩
 have hPl : (imgP chapP chapM chapX).length = 11:=rfl
 have h9 : file14 (imgP chapP chapM chapX) = file14 (imgP chapP chapM chapX):=rfl
 generalize imgP chapP chapM chapX = P at *
 obtain ⟨FL,hFL⟩ : ∃ n,n = (file14 P).length:=⟨_,rfl⟩
 have CS:=fun (ba : Option Addr) (bc : Nat) (W : World) (hW : Grows w W) h1 h2 h3 h4 => Lib.hid (split_any14 P ba bc W (HE.out.grows hW) h14 h1 h2 h3 h4)
 have HPL:=Lib.hid hPl
 clear hok key hPl h9 he h14
 go_enter Tryz.func12,Tryz.ntmps12
 go_wp2_with fail
 refine (chapter_any w).mono ?_
 rintro e w1 ⟨A,rfl,hsrc,hg1⟩
 go_wp2_with fail
 refine (CI A w1 hg1 hsrc).out.mono ?_
 rintro e w2 ⟨hg2,v2,rfl,hv2⟩
 try simp only at hv2
 have hgw2:=Grows.trans _ _ _ hg1 hg2
 obtain ⟨a2,c2,rfl,h2c,h2m,hat2⟩:=hv2.at_ byteLay.len
 have hn2:=owns_none2 hv2
 have CS2:=CS a2 c2 w2 hgw2 h2c h2m hn2 hat2
 rw [← hFL] at CS2 ⊢
 clear CI CS hsrc hg1 hg2 hv2 hat2 hn2 h2c hFL
 go_wp2_with fail
 refine CS2.out.mono ?_
 rintro e w3 ⟨hg3,Q,qa,qc,rfl,hbr,hqat,hqp⟩
 have hgw3:=Grows.trans _ _ _ hgw2 hg3
 have hQl : Q.length = 11:=by
  have:=congrArg List.length hbr
  rw [List.length_map,List.length_map,HPL.out] at this
  exact this
 have CN : ∀ (k : Nat) (nm : ByteArray) (l : List Nat) (W : World),Grows w3 W → (∃ p,P[k]? = some p∧p.name = nm∧p.data = packE l) → l.length ≤ 100000 → (∀ n ∈ l,n < 9223372036854775808) →
   Hid (Calls Tryz.prog 20 #[.slice qa 11 qc,.string nm] W fun e w' => ∃ v,e = .returned v∧Owns w' W.heap.size 3 1 natC v l∧Grows W w'):=fun k nm l W hW ⟨p,hp,hnm,hd⟩ hl hn => by
  obtain ⟨q,hq,e1,e2⟩:=bare_get hbr hp
  have h:=lnumbers_any Q k q l qa qc W (by omega) (hqat.grows hW) (hqp.grows hW) hq (fun j p' hj hp' => by
   have h1 : ∃ p2,P[j]? = some p2:=⟨_,List.getElem?_eq_getElem (by have:=(List.getElem?_eq_some_iff.1 hp).1;omega)⟩
   obtain ⟨p2,hp2⟩:=h1
   obtain ⟨q2,hq2,e3,_⟩:=bare_get hbr hp2
   rw [hp'] at hq2
   rw [Option.some.inj hq2,e3,e1]
   exact HNE.out j k p2 p hp2 hp hj) (by rw [e2,hd]) hl hn
  rw [hQl,e1,hnm] at h
  exact h
 rw [hQl]
 have HCN:=Lib.hid CN
 clear CS2 hg3 hbr hqat hqp hQl CN HNE HPL
 go_wp2_with fail
 refine (HCN.out 3 ⟨#[102,105,114,115,116]⟩ [0,2] w3 (Grows.refl w3) HP3.out (by decide) (by decide)).out.mono ?_
 rintro e w4 ⟨v4,rfl,hv4,hg4⟩
 obtain ⟨a4,c4,hve,_,_,hat4⟩:=hv4.at_ (k:=1) (fun x => (rfl : (natC x).length = 1))
 rw [show ([0,2] : List Nat).length = 2 from rfl] at hve
 subst hve
 have hb4:=at_box (enc:=natC) (k:=1) (w:=w4) (t:=3) (fz:=(0,0)) (cs:=#[.int .i64 0,.int .i64 2]) (fun _ => rfl) [0,2] rfl
 have CA4:=Lib.hid (are_any [0,2] a4 (some ⟨w4.heap.size,0,none⟩) c4 2 _ (by decide) (hat4.grows (Grows.alloc _ _)) hb4)
 have hgx4:=Grows.trans _ _ _ (Grows.refl w3) (Grows.trans _ _ _ hg4 (Grows.alloc w4 (.cells #[.int .i64 0,.int .i64 2] 3)))
 clear hv4 hat4 hb4 hg4
 go_wp2_with fail
 refine CA4.out.mono ?_
 rintro e w5 ⟨rfl,hg5⟩
 have hgz4:=Grows.trans _ _ _ hgx4 hg5
 clear CA4 hgx4 hg5
 go_wp2_with fail
 refine (HCN.out 5 ⟨#[115,117,114,102,97,99,101]⟩ [1,2,0] w5 (hgz4) HP5.out (by decide) (by decide)).out.mono ?_
 rintro e w6 ⟨v6,rfl,hv6,hg6⟩
 obtain ⟨a6,c6,hve,_,_,hat6⟩:=hv6.at_ (k:=1) (fun x => (rfl : (natC x).length = 1))
 rw [show ([1,2,0] : List Nat).length = 3 from rfl] at hve
 subst hve
 have hb6:=at_box (enc:=natC) (k:=1) (w:=w6) (t:=3) (fz:=(0,0)) (cs:=#[.int .i64 1,.int .i64 2,.int .i64 0]) (fun _ => rfl) [1,2,0] rfl
 have CA6:=Lib.hid (are_any [1,2,0] a6 (some ⟨w6.heap.size,0,none⟩) c6 3 _ (by decide) (hat6.grows (Grows.alloc _ _)) hb6)
 have hgx6:=Grows.trans _ _ _ (hgz4) (Grows.trans _ _ _ hg6 (Grows.alloc w6 (.cells #[.int .i64 1,.int .i64 2,.int .i64 0] 3)))
 clear hv6 hat6 hb6 hg6
 go_wp2_with fail
 refine CA6.out.mono ?_
 rintro e w7 ⟨rfl,hg7⟩
 have hgz6:=Grows.trans _ _ _ hgx6 hg7
 clear CA6 hgx6 hg7
 go_wp2_with fail
 refine (HCN.out 8 ⟨#[99,111,115,116]⟩ [20,30,40] w7 (hgz6) HP8.out (by decide) (by decide)).out.mono ?_
 rintro e w8 ⟨v8,rfl,hv8,hg8⟩
 obtain ⟨a8,c8,hve,_,_,hat8⟩:=hv8.at_ (k:=1) (fun x => (rfl : (natC x).length = 1))
 rw [show ([20,30,40] : List Nat).length = 3 from rfl] at hve
 subst hve
 have hb8:=at_box (enc:=natC) (k:=1) (w:=w8) (t:=3) (fz:=(0,0)) (cs:=#[.int .i64 20,.int .i64 30,.int .i64 40]) (fun _ => rfl) [20,30,40] rfl
 have CA8:=Lib.hid (are_any [20,30,40] a8 (some ⟨w8.heap.size,0,none⟩) c8 3 _ (by decide) (hat8.grows (Grows.alloc _ _)) hb8)
 have hgx8:=Grows.trans _ _ _ (hgz6) (Grows.trans _ _ _ hg8 (Grows.alloc w8 (.cells #[.int .i64 20,.int .i64 30,.int .i64 40] 3)))
 clear hv8 hat8 hb8 hg8
 go_wp2_with fail
 refine CA8.out.mono ?_
 rintro e w9 ⟨rfl,hg9⟩
 have hgz8:=Grows.trans _ _ _ hgx8 hg9
 clear CA8 hgx8 hg9
 go_wp2_with fail
 refine (HCN.out 9 ⟨#[111,114,100,101,114]⟩ [2,0,1] w9 (hgz8) HP9.out (by decide) (by decide)).out.mono ?_
 rintro e w10 ⟨v10,rfl,hv10,hg10⟩
 obtain ⟨a10,c10,hve,_,_,hat10⟩:=hv10.at_ (k:=1) (fun x => (rfl : (natC x).length = 1))
 rw [show ([2,0,1] : List Nat).length = 3 from rfl] at hve
 subst hve
 have hb10:=at_box (enc:=natC) (k:=1) (w:=w10) (t:=3) (fz:=(0,0)) (cs:=#[.int .i64 2,.int .i64 0,.int .i64 1]) (fun _ => rfl) [2,0,1] rfl
 have CA10:=Lib.hid (are_any [2,0,1] a10 (some ⟨w10.heap.size,0,none⟩) c10 3 _ (by decide) (hat10.grows (Grows.alloc _ _)) hb10)
 have hgx10:=Grows.trans _ _ _ (hgz8) (Grows.trans _ _ _ hg10 (Grows.alloc w10 (.cells #[.int .i64 2,.int .i64 0,.int .i64 1] 3)))
 clear hv10 hat10 hb10 hg10
 go_wp2_with fail
 refine CA10.out.mono ?_
 rintro e w11 ⟨rfl,hg11⟩
 have hgz10:=Grows.trans _ _ _ hgx10 hg11
 clear CA10 hgx10 hg11
 go_wp2_with fail
 refine (HCN.out 10 ⟨#[97,116]⟩ [0,1,2] w11 (hgz10) HP10.out (by decide) (by decide)).out.mono ?_
 rintro e w12 ⟨v12,rfl,hv12,hg12⟩
 obtain ⟨a12,c12,hve,_,_,hat12⟩:=hv12.at_ (k:=1) (fun x => (rfl : (natC x).length = 1))
 rw [show ([0,1,2] : List Nat).length = 3 from rfl] at hve
 subst hve
 have hb12:=at_box (enc:=natC) (k:=1) (w:=w12) (t:=3) (fz:=(0,0)) (cs:=#[.int .i64 0,.int .i64 1,.int .i64 2]) (fun _ => rfl) [0,1,2] rfl
 have CA12:=Lib.hid (are_any [0,1,2] a12 (some ⟨w12.heap.size,0,none⟩) c12 3 _ (by decide) (hat12.grows (Grows.alloc _ _)) hb12)
 have hgx12:=Grows.trans _ _ _ (hgz10) (Grows.trans _ _ _ hg12 (Grows.alloc w12 (.cells #[.int .i64 0,.int .i64 1,.int .i64 2] 3)))
 clear hv12 hat12 hb12 hg12
 go_wp2_with fail
 refine CA12.out.mono ?_
 rintro e w13 ⟨rfl,hg13⟩
 have hgz12:=Grows.trans _ _ _ hgx12 hg13
 clear CA12 hgx12 hg13
 go_wp2
 go_ret
 exact ⟨rfl,Grows.trans _ _ _ hgw3 hgz12⟩
end Go.Proofs.YtepoiefadjoabaaGreatDoor
namespace Go.Proofs.YtepoiefadjoabaaGreatDoor
open Go Go.RowKit Go.Shelf
attribute [local go_sem] quietE quietE2
set_option maxHeartbeats 8000000 in
set_option maxRecDepth 100000 in
theorem holds_of (HW : ∀ W, Env W → Calls Tryz.prog 12 #[] W fun e w' => e = .returned (.bool true) ∧ Grows W w')
  (x : SrcV) (A : SrcA) (w : World) (he : Env w) (hok : SrcOK x) (hat : SrcAt w A x) :
  Calls Tryz.prog 6 #[A.agg x] w fun e w' => e = .returned (.bool true)∧Grows w w':=by
 have hok0:=Lib.hid hok
 have hat0:=Lib.hid hat
 have CRst:=fun (m : Mx) (Q : List PartV) (q0 q1 : PartV) (qa : Option Addr) (qc : Nat) (u : World) (hu : Grows w u) => lrest_any x A m Q q0 q1 qa qc u hok (hat.grows hu)
 obtain ⟨pa,pc,sa,sc,ea,ec⟩:=A
 obtain ⟨xp,xd,xs,xe⟩:=x
 obtain ⟨W0,hW0⟩ : ∃ W0,W0 = w.alloc (.cells #[.slice pa xp.length pc,.int .i64 xd,.slice sa xs.length sc,.slice ea xe.length ec] 26):=⟨_,rfl⟩
 have hg0 : Grows w W0:=by rw [hW0];exact Grows.alloc _ _
 have hbx:=fun j u h => cell_box w #[.slice pa xp.length pc,.int .i64 xd,.slice sa xs.length sc,.slice ea xe.length ec] 26 (0,0) j u h
 rw [← hW0] at hbx
 have q0:=hbx 0 _ rfl
 have q1:=hbx 1 _ rfl
 have q2:=hbx 2 _ rfl
 have q3:=hbx 3 _ rfl
 have HQ:=Lib.hid (And.intro q0 (And.intro q1 (And.intro q2 q3)))
 have HSA:=Lib.hid (hat.grows hg0)
 have HG0:=Lib.hid hg0
 clear hbx hat
 have HE:=Lib.hid he
 have CW:=fun W (h : Grows w W) => Lib.hid (HW W (he.grows h))
 have CL:=Lib.hid (light_any ⟨xp,xd,xs,xe⟩ ⟨pa,pc,sa,sc,ea,ec⟩ W0 hok0.out HSA.out)
 unfold SrcA.agg SrcA.cells at CL CRst
 simp only at CL CRst
 show Calls _ _ #[.agg #[.slice pa xp.length pc,.int .i64 xd,.slice sa xs.length sc,.slice ea xe.length ec]] _ _
 cases hl : lightS ⟨xp,xd,xs,xe⟩ with
 | false =>
  rw [hl] at CL
  clear CRst
  go_enter Tryz.func6,Tryz.ntmps6
  go_wp2_with fail
  rw [← hW0]
  clear hW0
  refine CL.out.mono ?_
  rintro e w1 ⟨rfl,hg1⟩
  go_wp2
  go_ret
  exact ⟨rfl,Grows.trans _ _ _ HG0.out hg1⟩
 | true =>
  rw [hl] at CL
  obtain ⟨_,h400,h70,h300,hx300⟩:=lightS_of hl
  obtain ⟨_,hB2,hB3⟩:=srcB hl hok0.out
  have HB2 : Hid (∀ y ∈ xe,y.r.size ≤ 1099511627776∧y.s.size ≤ 1099511627776):=hB2
  replace h70 : xp.length ≤ 70:=h70
  replace hx300 : xe.length ≤ 300:=hx300
  have CI:=fun (W : World) (h : Grows W0 W) => Lib.hid (image_any ⟨xp,xd,xs,xe⟩ ⟨pa,pc,sa,sc,ea,ec⟩ W (HE.out.grows (Grows.trans _ _ _ HG0.out h)) hok0.out HB2.out (HSA.out.grows h))
  unfold SrcA.agg SrcA.cells BuildPost at CI
  simp only at CI
  have HENOK : Hid (∀ y ∈ xe,EnOK y):=hok0.out.e
  have HEA : Hid (AtCells W0 ea 5 (xe.map enCells)):=HSA.out.e
  clear h400 h300 hB2 hB3 hl
  by_cases hE : (buildB xp (srcM ⟨xp,xd,xs,xe⟩) xe).1 = 0
  ·obtain ⟨mm,hm,hcB,h11r,h11s,h14,hbB⟩:=buildB_zero hE
   rw [hbB] at CI
   obtain ⟨hmn,_,hpv,hchk⟩:=chkB_nums hcB
   have hmok : mm.OK:=by
    unfold srcM at hm
    split at hm
    ·rename_i hb
     rw [← Option.some.inj hm]
     exact runSets_ok _ (newM_ok hb)
    ·cases hm
   obtain ⟨es,hes⟩ : ∃ es,es = sortS xe:=⟨_,rfl⟩
   have hsp:=sortS_spec xe
   rw [← hes] at h11r h11s h14 CI hsp
   have hsort:=hsp.1
   have hel : es.length ≤ 300:=by rw [hes];exact Nat.le_trans (sortS_le xe) hx300
   have hmem : ∀ y ∈ es,y ∈ xe:=fun y hy => ((hsp.2 y).1 hy).1
   have hnum : ∀ y ∈ es,0 ≤ y.l∧y.l < xp.length∧0 ≤ y.t∧y.t < xp.length∧0 ≤ y.c∧y.c ≤ 30000:=fun y hy => checkE_nums (hchk y (hmem y hy))
   have hRl : (readL es).length ≤ 300:=by
    have:=setB_le (es.map (·.r))
    rw [List.length_map] at this
    exact Nat.le_trans this hel
   have hSl : (surfL es).length ≤ 300:=by
    have:=setB_le (es.map (·.s))
    rw [List.length_map] at this
    exact Nat.le_trans this hel
   have HS:=Lib.hid hsort
   have CSORT:=fun (W : World) (h : Grows W0 W) => Lib.hid (esort_any xe ea ec W (by omega) HENOK.out (HEA.out.grows h))
   unfold ESortPost at CSORT
   rw [← hes] at CSORT
   obtain ⟨P,hP⟩ : ∃ P,P = imgP xp mm es:=⟨_,rfl⟩
   have HNE : Hid (∀ (j k : Nat) (a b : PartV),P[j]? = some a → P[k]? = some b → j < k → a.name ≠ b.name):=fun j k a b ha hb h => img_ne (p:=xp) (m:=mm) (es:=es) (by rw [← hP];exact ha) (by rw [← hP];exact hb) h
   have P0 : Hid (∃ p,P[0]? = some p∧p.name = ⟨#[112,111,115]⟩∧p.data = posE xp):=by rw [hP];exact ⟨_,rfl,rfl,rfl⟩
   have P1 : Hid (∃ p,P[1]? = some p∧p.name = ⟨#[109,97,116,114,105,120]⟩∧p.data = mm.enc):=by rw [hP];exact ⟨_,rfl,rfl,rfl⟩
   have P2 : Hid (∃ p,P[2]? = some p∧p.name = ⟨#[114,101,97,100,105,110,103,115]⟩∧p.data = loudE (bls (readL es))):=by rw [hP];exact ⟨_,rfl,rfl,rfl⟩
   have P3 : Hid (∃ p,P[3]? = some p∧p.name = ⟨#[102,105,114,115,116]⟩∧p.data = packE (atsL (keyRE (readL es) es) es.length (readL es).length)):=by rw [hP];exact ⟨_,rfl,rfl,by rw [← first_idx hsort];rfl⟩
   have P4 : Hid (∃ p,P[4]? = some p∧p.name = ⟨#[115,117,114,102,97,99,101,115]⟩∧p.data = loudE (bls (surfL es))):=by rw [hP];exact ⟨_,rfl,rfl,rfl⟩
   have P5 : Hid (∃ p,P[5]? = some p∧p.name = ⟨#[115,117,114,102,97,99,101]⟩∧p.data = packE (es.map (sidE (surfL es)))):=by rw [hP];exact ⟨_,rfl,rfl,rfl⟩
   have P6 : Hid (∃ p,P[6]? = some p∧p.name = ⟨#[108,101,102,116]⟩∧p.data = packE (es.map fun x => x.l.toNat)):=by rw [hP];exact ⟨_,rfl,rfl,rfl⟩
   have P7 : Hid (∃ p,P[7]? = some p∧p.name = ⟨#[114,105,103,104,116]⟩∧p.data = packE (es.map fun x => x.t.toNat)):=by rw [hP];exact ⟨_,rfl,rfl,rfl⟩
   have P8 : Hid (∃ p,P[8]? = some p∧p.name = ⟨#[99,111,115,116]⟩∧p.data = packE (es.map fun x => x.c.toNat)):=by rw [hP];exact ⟨_,rfl,rfl,rfl⟩
   have P9 : Hid (∃ p,P[9]? = some p∧p.name = ⟨#[111,114,100,101,114]⟩∧p.data = packE (grpsL (keySE (surfL es) es) es.length (surfL es).length)):=by rw [hP];exact ⟨_,rfl,rfl,rfl⟩
   have P10 : Hid (∃ p,P[10]? = some p∧p.name = ⟨#[97,116]⟩∧p.data = packE (atsL (keySE (surfL es) es) es.length (surfL es).length)):=by rw [hP];exact ⟨_,rfl,rfl,by rw [← at_idx];rfl⟩
   have n3 : Hid (∀ v ∈ atsL (keyRE (readL es) es) es.length (readL es).length,v < 9223372036854775807):=fun v hv => by
    rw [← first_idx hsort] at hv
    have:=idxL_lt hv
    omega
   have n10 : Hid (∀ v ∈ atsL (keySE (surfL es) es) es.length (surfL es).length,v < 9223372036854775807):=fun v hv => by
    rw [← at_idx] at hv
    have:=idxL_lt hv
    omega
   have n9 : Hid (∀ v ∈ grpsL (keySE (surfL es) es) es.length (surfL es).length,v < 9223372036854775807):=fun v hv => by
    have:=(grpsL_mem.1 hv).1
    omega
   have n5 : Hid (∀ v ∈ es.map (sidE (surfL es)),v < 9223372036854775807):=fun v hv => by
    obtain ⟨y,hy,rfl⟩:=List.mem_map.1 hv
    have:=sidE_lt (surf_in hy)
    omega
   have n6 : Hid (∀ v ∈ es.map (fun x => x.l.toNat),v < 9223372036854775807):=fun v hv => by
    obtain ⟨y,hy,rfl⟩:=List.mem_map.1 hv
    have:=hnum y hy
    omega
   have n7 : Hid (∀ v ∈ es.map (fun x => x.t.toNat),v < 9223372036854775807):=fun v hv => by
    obtain ⟨y,hy,rfl⟩:=List.mem_map.1 hv
    have:=hnum y hy
    omega
   have n8 : Hid (∀ v ∈ es.map (fun x => x.c.toNat),v < 9223372036854775807):=fun v hv => by
    obtain ⟨y,hy,rfl⟩:=List.mem_map.1 hv
    have:=hnum y hy
    omega
   have HNUM:=Lib.hid hnum
   have H11R:=Lib.hid h11r
   have H11S:=Lib.hid h11s
   have hOl : (grpsL (keySE (surfL es) es) es.length (surfL es).length).length = es.length:=ordE_len es
   have hPl : P.length = 11:=by rw [hP];rfl
   have hm2:=Lib.hid hm
   have hmok2:=Lib.hid hmok
   have hmn2:=Lib.hid hmn
   have hpv2:=Lib.hid hpv
   have hpl:=posE_len hpv
   have hml : mm.enc.length ≤ 1099511627776:=by have:=enc_len hmok;omega
   clear hE hbB
   have h14b : chk14 P = 0:=by rw [hP];exact h14
   have CI2 : ∀ (W : World),Grows W0 W → Hid (Calls Tryz.prog 8 #[.agg #[.slice pa xp.length pc,.int .i64 xd,.slice sa xs.length sc,.slice ea xe.length ec]] W fun e w' => Grows W w'∧∃ v,e = .returned (.tuple #[v,.int .i64 0])∧Owns w' W.heap.size 5 1 byteC v (file14 P)):=fun W h => by
    refine (CI W h).out.mono ?_
    rintro e w' ⟨a,v,b,c⟩
    refine ⟨a,v,b, ?_⟩
    rw [hP]
    exact c
   clear CI hP h14
   have CSP:=fun (ba : Option Addr) (bc : Nat) (W : World) (hW : Grows w W) h1 h2 h3 h4 => Lib.hid (split_any14 P ba bc W (HE.out.grows hW) h14b h1 h2 h3 h4)
   obtain ⟨FL,hFL⟩ : ∃ n,n = (file14 P).length:=⟨_,rfl⟩
   have HFL:=Lib.hid hFL
   have HPL:=Lib.hid hPl
   clear hcB h11r h11s h14b hchk hmn hpv hm hmok hes hsp hmem hnum hok he hFL hPl hsort
   go_enter Tryz.func6,Tryz.ntmps6
   go_wp2_with fail
   rw [← hW0]
   clear hW0
   refine CL.out.mono ?_
   rintro e w1 ⟨rfl,hg1⟩
   have b0:=hg1.cell HQ.out.1
   have b1:=hg1.cell HQ.out.2.1
   have b2:=hg1.cell HQ.out.2.2.1
   have b3:=hg1.cell HQ.out.2.2.2
   have CI1:=CI2 w1 hg1
   clear CL CI2 q0 q1 q2 q3
   go_wp2_with fail
   refine CI1.out.mono ?_
   rintro e w2 ⟨hg2,v2,rfl,hv2⟩
   try simp only at hv2
   have hgw2:=hg1.tr hg2
   obtain ⟨a2,c2,rfl,h2c,h2m,hat2⟩:=hv2.at_ byteLay.len
   have CSP2:=CSP a2 c2 w2 (HG0.out.tr hgw2) h2c h2m (owns_none2 hv2) hat2
   unfold SplitPost at CSP2
   rw [← HFL.out] at CSP2 ⊢
   clear CI1 hv2 hat2 h2c h2m CSP b0 b1 b2 b3
   go_wp2_with fail
   refine CSP2.out.mono ?_
   rintro e w3 ⟨hg3,Q,qa,qc,rfl,hbr,hqat,hqp⟩
   have hgw3:=hgw2.tr hg3
   have hQl : Q.length = 11:=by
    have:=congrArg List.length hbr
    rw [List.length_map,List.length_map,HPL.out] at this
    exact this
   have HNEQ : ∀ (k : Nat) (p q : PartV),P[k]? = some p → Q[k]? = some q → q.name = p.name → ∀ j p',j < k → Q[j]? = some p' → p'.name ≠ q.name:=fun k p q hp hq e1 j p' hj hp' => by
    obtain ⟨p2,hp2⟩ : ∃ p2,P[j]? = some p2:=⟨_,List.getElem?_eq_getElem (by have:=(List.getElem?_eq_some_iff.1 hp).1;omega)⟩
    obtain ⟨q2,hq2,e3,_⟩:=bare_get hbr hp2
    rw [hp'] at hq2
    rw [Option.some.inj hq2,e3,e1]
    exact HNE.out j k p2 p hp2 hp hj
   have CN : ∀ (k : Nat) (nm : ByteArray) (l : List Nat) (W : World),Grows w3 W → (∃ p,P[k]? = some p∧p.name = nm∧p.data = packE l) → l.length ≤ 100000 → (∀ n ∈ l,n < 9223372036854775807) →
     Hid (Calls Tryz.prog 20 #[.slice qa 11 qc,.string nm] W fun e w' => ∃ v,e = .returned v∧Owns w' W.heap.size 3 1 natC v l∧Grows W w'):=fun k nm l W hW ⟨p,hp,hnm,hd⟩ hl hn => by
    obtain ⟨q,hq,e1,e2⟩:=bare_get hbr hp
    have h:=lnumbers_any Q k q l qa qc W (by omega) (hqat.grows hW) (hqp.grows hW) hq (HNEQ k p q hp hq e1) (by rw [e2,hd]) hl (fun n hn' => by have:=hn n hn';omega)
    rw [hQl,e1,hnm] at h
    exact h
   have CST : ∀ (k : Nat) (nm : ByteArray) (B : List ByteArray) (W : World),Grows w3 W → (∃ p,P[k]? = some p∧p.name = nm∧p.data = loudE (bls B)) → chk11 (bls B) = 0 →
     Hid (Calls Tryz.prog 19 #[.slice qa 11 qc,.string nm] W fun e w' => ∃ v,e = .returned v∧Owns w' W.heap.size 9 1 stC v B∧Grows W w'):=fun k nm B W hW ⟨p,hp,hnm,hd⟩ hc => by
    obtain ⟨q,hq,e1,e2⟩:=bare_get hbr hp
    have h:=lstrings_any Q k q (bls B) qa qc W (by omega) (hqat.grows hW) (hqp.grows hW) hq (HNEQ k p q hp hq e1) (by rw [e2,hd]) hc
    rw [hQl,e1,hnm,map_mkB_bls] at h
    exact h
   have CRE : ∀ W,Grows w3 W → Hid (Calls Tryz.prog 24 #[.agg #[.slice pa xp.length pc,.int .i64 xd,.slice sa xs.length sc,.slice ea xe.length ec],.slice qa 11 qc] W fun e w' => e = .returned (.bool true)∧Grows W w'):=fun W hW => by
    obtain ⟨p0,hp0,e01,e02⟩:=P0.out
    obtain ⟨p1,hp1,e11,e12⟩:=P1.out
    obtain ⟨q0,hq0,f01,f02⟩:=bare_get hbr hp0
    obtain ⟨q1,hq1,f11,f12⟩:=bare_get hbr hp1
    have h:=CRst mm Q q0 q1 qa qc W (HG0.out.tr (hgw3.tr hW)) hpv2.out hm2.out hmok2.out hmn2.out (by omega) (hqat.grows hW) (hqp.grows hW) hq0 hq1 (f01.trans e01) (f11.trans e11) (f02.trans e02) (f12.trans e12) (by omega) hml
    rw [hQl] at h
    exact h
   rw [hQl]
   have HCN:=Lib.hid CN
   have HCST:=Lib.hid CST
   have HCRE:=Lib.hid CRE
   have HCSORT:=Lib.hid CSORT
   have b0:=hgw3.cell HQ.out.1
   have b1:=hgw3.cell HQ.out.2.1
   have b2:=hgw3.cell HQ.out.2.2.1
   have b3:=hgw3.cell HQ.out.2.2.2
   have HGW3:=Lib.hid hgw3
   clear CSP2 hbr hqat hqp hQl CN CST CRE CRst HNEQ HNE CSORT hg2 hg1 hg3 hgw2 hgw3
   go_wp2_with fail
   refine (HCSORT.out w3 HGW3.out).out.mono ?_
   rintro e w4 ⟨v4,rfl,hv4,hg4⟩
   obtain ⟨wa,wc,rfl,_,_,hatW⟩:=hv4.at_ (k:=5) (enc:=enCells) (fun _ => rfl)
   clear hv4 b0 b1 b2 b3
   go_wp2_with fail
   refine (HCST.out 2 ⟨#[114,101,97,100,105,110,103,115]⟩ (readL es) w4 hg4 P2.out H11R.out).out.mono ?_
   rintro e w5 ⟨v5,rfl,hv5,hg5⟩
   obtain ⟨ra,rc,rfl,_,_,hatR⟩:=hv5.at_ (k:=1) (enc:=stC) (fun _ => rfl)
   have hgx5:=hg4.tr hg5
   have hW5:=hatW.grows hg5
   clear hv5 hg4 hatW hg5
   go_wp2_with fail
   refine (HCST.out 4 ⟨#[115,117,114,102,97,99,101,115]⟩ (surfL es) w5 hgx5 P4.out H11S.out).out.mono ?_
   rintro e w6 ⟨v6,rfl,hv6,hg6⟩
   obtain ⟨ua,uc,rfl,_,_,hatS⟩:=hv6.at_ (k:=1) (enc:=stC) (fun _ => rfl)
   have hgx6:=hgx5.tr hg6
   have hW6:=hW5.grows hg6
   have hR6:=hatR.grows hg6
   clear hv6 hgx5 hW5 hatR hg6
   go_wp2_with fail
   refine (HCN.out 3 ⟨#[102,105,114,115,116]⟩ (atsL (keyRE (readL es) es) es.length (readL es).length) w6 hgx6 P3.out (by rw [atsL_len];omega) n3.out).out.mono ?_
   rintro e xw7 ⟨v7,rfl,hv7,hg7⟩
   obtain ⟨aF,cF,rfl,_,_,hatF⟩:=hv7.at_ (k:=1) (enc:=natC) (fun _ => rfl)
   have hgx7:=hgx6.tr hg7
   have hW7:=hW6.grows hg7
   have hR7:=hR6.grows hg7
   have hS7:=hatS.grows hg7
   clear hv7 hW6 hR6 hatS hgx6 hg7
   go_wp2_with fail
   refine (HCN.out 5 ⟨#[115,117,114,102,97,99,101]⟩ (es.map (sidE (surfL es))) xw7 hgx7 P5.out (by rw [List.length_map];omega) n5.out).out.mono ?_
   rintro e xw8 ⟨v8,rfl,hv8,hg8⟩
   obtain ⟨aU,cU,rfl,_,_,hatU⟩:=hv8.at_ (k:=1) (enc:=natC) (fun _ => rfl)
   have hgx8:=hgx7.tr hg8
   have hW8:=hW7.grows hg8
   have hR8:=hR7.grows hg8
   have hS8:=hS7.grows hg8
   have hF8:=hatF.grows hg8
   clear hv8 hW7 hR7 hS7 hatF hgx7 hg8
   go_wp2_with fail
   refine (HCN.out 6 ⟨#[108,101,102,116]⟩ (es.map fun x => x.l.toNat) xw8 hgx8 P6.out (by rw [List.length_map];omega) n6.out).out.mono ?_
   rintro e xw9 ⟨v9,rfl,hv9,hg9⟩
   obtain ⟨aL,cL,rfl,_,_,hatL⟩:=hv9.at_ (k:=1) (enc:=natC) (fun _ => rfl)
   have hgx9:=hgx8.tr hg9
   have hW9:=hW8.grows hg9
   have hR9:=hR8.grows hg9
   have hS9:=hS8.grows hg9
   have hF9:=hF8.grows hg9
   have hU9:=hatU.grows hg9
   clear hv9 hW8 hR8 hS8 hF8 hatU hgx8 hg9
   go_wp2_with fail
   refine (HCN.out 7 ⟨#[114,105,103,104,116]⟩ (es.map fun x => x.t.toNat) xw9 hgx9 P7.out (by rw [List.length_map];omega) n7.out).out.mono ?_
   rintro e xw10 ⟨v10,rfl,hv10,hg10⟩
   obtain ⟨aT,cT,rfl,_,_,hatT⟩:=hv10.at_ (k:=1) (enc:=natC) (fun _ => rfl)
   have hgx10:=hgx9.tr hg10
   have hW10:=hW9.grows hg10
   have hR10:=hR9.grows hg10
   have hS10:=hS9.grows hg10
   have hF10:=hF9.grows hg10
   have hU10:=hU9.grows hg10
   have hL10:=hatL.grows hg10
   clear hv10 hW9 hR9 hS9 hF9 hU9 hatL hgx9 hg10
   go_wp2_with fail
   refine (HCN.out 8 ⟨#[99,111,115,116]⟩ (es.map fun x => x.c.toNat) xw10 hgx10 P8.out (by rw [List.length_map];omega) n8.out).out.mono ?_
   rintro e xw11 ⟨v11,rfl,hv11,hg11⟩
   obtain ⟨aC,cC,rfl,_,_,hatC⟩:=hv11.at_ (k:=1) (enc:=natC) (fun _ => rfl)
   have hgx11:=hgx10.tr hg11
   have hW11:=hW10.grows hg11
   have hR11:=hR10.grows hg11
   have hS11:=hS10.grows hg11
   have hF11:=hF10.grows hg11
   have hU11:=hU10.grows hg11
   have hL11:=hL10.grows hg11
   have hT11:=hatT.grows hg11
   clear hv11 hW10 hR10 hS10 hF10 hU10 hL10 hatT hgx10 hg11
   go_wp2_with fail
   refine (HCN.out 9 ⟨#[111,114,100,101,114]⟩ (grpsL (keySE (surfL es) es) es.length (surfL es).length) xw11 hgx11 P9.out (by omega) n9.out).out.mono ?_
   rintro e xw12 ⟨v12,rfl,hv12,hg12⟩
   obtain ⟨aO,cO,rfl,_,_,hatO⟩:=hv12.at_ (k:=1) (enc:=natC) (fun _ => rfl)
   have hgx12:=hgx11.tr hg12
   have hW12:=hW11.grows hg12
   have hR12:=hR11.grows hg12
   have hS12:=hS11.grows hg12
   have hF12:=hF11.grows hg12
   have hU12:=hU11.grows hg12
   have hL12:=hL11.grows hg12
   have hT12:=hT11.grows hg12
   have hC12:=hatC.grows hg12
   clear hv12 hW11 hR11 hS11 hF11 hU11 hL11 hT11 hatC hgx11 hg12
   go_wp2_with fail
   refine (HCN.out 10 ⟨#[97,116]⟩ (atsL (keySE (surfL es) es) es.length (surfL es).length) xw12 hgx12 P10.out (by rw [atsL_len];omega) n10.out).out.mono ?_
   rintro e xw13 ⟨v13,rfl,hv13,hg13⟩
   obtain ⟨aA,cA,rfl,_,_,hatA⟩:=hv13.at_ (k:=1) (enc:=natC) (fun _ => rfl)
   have hgx13:=hgx12.tr hg13
   have hW13:=hW12.grows hg13
   have hR13:=hR12.grows hg13
   have hS13:=hS12.grows hg13
   have hF13:=hF12.grows hg13
   have hU13:=hU12.grows hg13
   have hL13:=hL12.grows hg13
   have hT13:=hT12.grows hg13
   have hC13:=hC12.grows hg13
   have hO13:=hatO.grows hg13
   clear hv13 hW12 hR12 hS12 hF12 hU12 hL12 hT12 hC12 hatO hgx12 hg13
   have HAW:=Lib.hid hW13
   have HAR:=Lib.hid hR13
   have HAS:=Lib.hid hS13
   have HAF:=Lib.hid hF13
   have HAU:=Lib.hid hU13
   have HAL:=Lib.hid hL13
   have HAT:=Lib.hid hT13
   have HAC:=Lib.hid hC13
   have HAO:=Lib.hid hO13
   have HAA:=Lib.hid hatA
   have HGX:=Lib.hid hgx13
   clear hW13 hR13 hS13 hF13 hU13 hL13 hT13 hC13 hO13 hatA hgx13
   have l1 : (atsL (keyRE (readL es) es) es.length (readL es).length).length = (readL es).length:=atsL_len _ _ _
   have l2 : (atsL (keySE (surfL es) es) es.length (surfL es).length).length = (surfL es).length:=atsL_len _ _ _
   obtain ⟨n,hn⟩ : ∃ n,n = es.length:=⟨_,rfl⟩
   obtain ⟨RL,hRL⟩ : ∃ n,n = (readL es).length:=⟨_,rfl⟩
   obtain ⟨SL,hSL⟩ : ∃ n,n = (surfL es).length:=⟨_,rfl⟩
   have HN:=Lib.hid hn
   have HRL:=Lib.hid hRL
   have HSL:=Lib.hid hSL
   have f0 : ((n : Int) != n) = false:=by simp
   have f1 : ((RL : Int) != RL) = false:=by simp
   have f2 : ((SL : Int) != SL) = false:=by simp
   simp only [l1,l2]
   rw [← hn,← hRL,← hSL]
   rw [← hn] at hel
   rw [← hRL] at hRl
   rw [← hSL] at hSl
   clear l1 l2 hOl hn hRL hSL
   go_wp2_with fail
   go_loopw [17,18] (fun r i wr => ∃ j : Nat,j ≤ n∧i = .int .i64 j∧r = .int .i64 ((nextR es j : Nat) - 1)∧Hid (Grows xw13 wr)) (fun _ i _ => n - (intOf i).toNat)
   case atStart => exact ⟨0,Nat.zero_le _,rfl,rfl,Grows.refl _⟩
   case round =>
    obtain ⟨j,hj,rfl,rfl,hg⟩:=hrel
    by_cases hlt : j < n
    ·have hji : (j : Int) < n:=by omega
     obtain ⟨y,hy⟩ : ∃ y,es[j]? = some y:=⟨_,List.getElem?_eq_getElem (by have:=HN.out;omega)⟩
     obtain ⟨m1,m2,m3,m4,m5,m6⟩:=HNUM.out y (List.mem_of_getElem? hy)
     obtain ⟨yr,ys,l0,t0,c0⟩:=y
     simp only at m1 m2 m3 m4 m5 m6
     obtain ⟨yl,rfl⟩ : ∃ q : Nat,l0 = (q : Int):=⟨l0.toNat,by omega⟩
     obtain ⟨yt,rfl⟩ : ∃ q : Nat,t0 = (q : Int):=⟨t0.toNat,by omega⟩
     obtain ⟨yc,rfl⟩ : ∃ q : Nat,c0 = (q : Int):=⟨c0.toNat,by omega⟩
     obtain ⟨er1,er2,er3⟩:=entry_r hy
     simp only at er1 er2
     obtain ⟨K,hK⟩ : ∃ q,q = keyRE (readL es) es j:=⟨_,rfl⟩
     obtain ⟨sid,hsid⟩ : ∃ q,q = sidE (surfL es) ⟨yr,ys,(yl : Int),(yt : Int),(yc : Int)⟩:=⟨_,rfl⟩
     rw [← hK] at er1
     rw [← hsid] at er2 er3
     have hjn : j < es.length:=by rw [← HN.out];exact hlt
     have hKl : K < RL:=by rw [hK,HRL.out];exact keyRE_lt hjn
     have HNX : Hid (Value.int .i64 (K : Int) = .int .i64 ((nextR es (j + 1) : Nat) - 1)):=by
      show _ = _
      rw [nextR_succ,← hK]
      congr 1
      omega
     obtain ⟨wb,wo,rfl,hca0⟩:=(HAW.out.grows hg.out).get (ne_nil_of_lt (k:=j) hjn)
     have hca:=fun t u h => hca0 j _ hy t u h
     have CRr:=fun (W : World) (h : Grows xw13 W) => Lib.hid (ltext_in (readL es) ra rc K yr W er1 (HAR.out.grows h))
     rw [← HRL.out] at CRr
     have CSs:=fun (W : World) (h : Grows xw13 W) => Lib.hid (ltext_in (surfL es) ua uc sid ys W er2 (HAS.out.grows h))
     rw [← HSL.out] at CSs
     have CSF:=fun (W : World) (h : Grows xw13 W) => Lib.hid (lat_in (es.map (sidE (surfL es))) aU cU j sid W (by rw [List.getElem?_map,hy,hsid];rfl) (HAU.out.grows h))
     have CLf:=fun (W : World) (h : Grows xw13 W) => Lib.hid (lat_in (es.map fun x => x.l.toNat) aL cL j yl W (by rw [List.getElem?_map,hy];rfl) (HAL.out.grows h))
     have CTf:=fun (W : World) (h : Grows xw13 W) => Lib.hid (lat_in (es.map fun x => x.t.toNat) aT cT j yt W (by rw [List.getElem?_map,hy];rfl) (HAT.out.grows h))
     have CCf:=fun (W : World) (h : Grows xw13 W) => Lib.hid (lat_in (es.map fun x => x.c.toNat) aC cC j yc W (by rw [List.getElem?_map,hy];rfl) (HAC.out.grows h))
     simp only [List.length_map] at CSF CLf CTf CCf
     rw [← HN.out] at CSF CLf CTf CCf
     have CIO : ∀ (W : World),Grows xw13 W → Hid (Calls Tryz.prog 23 #[.slice aO n cO,.slice aA SL cA,.int .i64 (sid : Nat),.int .i64 j] W fun e w' => e = .returned (.bool true)∧Grows W w'):=fun W h => by
      have h1:=inOrder_any (keySE (surfL es) es) es.length (surfL es).length j aO aA cO cA W (fun q hq => keySE_lt hq) hjn (by rw [← HN.out];omega) (by rw [← HSL.out];omega) (HAO.out.grows h) (HAA.out.grows h)
      rw [show (grpsL (keySE (surfL es) es) es.length (surfL es).length).length = es.length from ordE_len es,atsL_len,er3,← HN.out,← HSL.out] at h1
      exact h1
     have hst:=step_r HS.out hjn
     obtain ⟨rn,hrn⟩ : ∃ q,q = nextR es j:=⟨_,rfl⟩
     rw [← hrn,← hK] at hst
     rw [← hrn]
     have hfl : (atsL (keyRE (readL es) es) es.length (readL es).length).length = RL:=by rw [atsL_len,← HRL.out]
     have CFi:=fun (q v : Nat) (h : (atsL (keyRE (readL es) es) es.length (readL es).length)[q]? = some v) => Lib.hid (lat_in _ aF cF q v wr h (HAF.out.grows hg.out))
     have CFo:=fun (q : Nat) (h : (atsL (keyRE (readL es) es) es.length (readL es).length).length ≤ q) => Lib.hid (lat_out _ aF cF q wr h)
     rw [hfl] at CFo
     simp only [hfl] at CFi
     clear hy er1 er2 er3 hK hsid hca0 hrn hfl m1 m2 m3 m4 m5 m6
     rcases hst with ⟨hf,he⟩ | ⟨he,hf | ⟨f,hf,hfj⟩⟩
     ·subst he
      have C1:=CFi K j hf
      have wK : IntKind.i64.wrap ((K : Int) - 1 + 1) = K:=by have:=wrapB (x:=K) (by omega);rw [← this];congr 1;omega
      clear CFi CFo hf
      go_wp2_with fail
      refine C1.out.mono ?_
      rintro e w30 ⟨rfl,rfl⟩
      clear C1
      go_wp2_with fail
      refine (CRr wr hg.out).out.mono ?_
      rintro e w31 ⟨rfl,rfl⟩
      go_wp2_with fail
      refine (CSF wr hg.out).out.mono ?_
      rintro e w32 ⟨rfl,rfl⟩
      go_wp2_with fail
      refine (CSs wr hg.out).out.mono ?_
      rintro e w33 ⟨rfl,rfl⟩
      go_wp2_with fail
      refine (CLf wr hg.out).out.mono ?_
      rintro e w34 ⟨rfl,rfl⟩
      go_wp2_with fail
      refine (CTf wr hg.out).out.mono ?_
      rintro e w35 ⟨rfl,rfl⟩
      go_wp2_with fail
      refine (CCf wr hg.out).out.mono ?_
      rintro e w36 ⟨rfl,rfl⟩
      obtain ⟨W1,hW1⟩ : ∃ W1,W1 = wr.alloc (.cells #[.string yr,.string ys,.int .i64 (yl : Nat),.int .i64 (yt : Nat),.int .i64 (yc : Nat)] 38):=⟨_,rfl⟩
      have hg1 : Grows wr W1:=by rw [hW1];exact Grows.alloc _ _
      have hbx:=fun j u h => cell_box wr #[.string yr,.string ys,.int .i64 (yl : Nat),.int .i64 (yt : Nat),.int .i64 (yc : Nat)] 38 (0,0) j u h
      rw [← hW1] at hbx
      have y0:=hbx 0 _ rfl
      have y1:=hbx 1 _ rfl
      have y2:=hbx 2 _ rfl
      have y3:=hbx 3 _ rfl
      have y4:=hbx 4 _ rfl
      have z0 : ∀ x : Ext Grows W1.drew,x.u.cell? ⟨wr.heap.size,0,none⟩ = some (.string yr):=ext_cell ((Grows.drew W1).cell y0)
      have a0 : ∀ x : Ext Grows W1.drew,x.u.cell? ⟨wb,wo + j * 5,none⟩ = some (.string yr):=ext_cell ((Grows.drew W1).cell (hg1.cell (hca 0 _ rfl)))
      have z1 : ∀ x : Ext Grows W1.drew,x.u.cell? ⟨wr.heap.size,1,none⟩ = some (.string ys):=ext_cell ((Grows.drew W1).cell y1)
      have a1 : ∀ x : Ext Grows W1.drew,x.u.cell? ⟨wb,wo + j * 5 + 1,none⟩ = some (.string ys):=ext_cell ((Grows.drew W1).cell (hg1.cell (hca 1 _ rfl)))
      have z2 : ∀ x : Ext Grows W1.drew,x.u.cell? ⟨wr.heap.size,2,none⟩ = some (.int .i64 (yl : Nat)):=ext_cell ((Grows.drew W1).cell y2)
      have a2 : ∀ x : Ext Grows W1.drew,x.u.cell? ⟨wb,wo + j * 5 + 2,none⟩ = some (.int .i64 (yl : Nat)):=ext_cell ((Grows.drew W1).cell (hg1.cell (hca 2 _ rfl)))
      have z3 : ∀ x : Ext Grows W1.drew,x.u.cell? ⟨wr.heap.size,3,none⟩ = some (.int .i64 (yt : Nat)):=ext_cell ((Grows.drew W1).cell y3)
      have a3 : ∀ x : Ext Grows W1.drew,x.u.cell? ⟨wb,wo + j * 5 + 3,none⟩ = some (.int .i64 (yt : Nat)):=ext_cell ((Grows.drew W1).cell (hg1.cell (hca 3 _ rfl)))
      have z4 : ∀ x : Ext Grows W1.drew,x.u.cell? ⟨wr.heap.size,4,none⟩ = some (.int .i64 (yc : Nat)):=ext_cell ((Grows.drew W1).cell y4)
      have a4 : ∀ x : Ext Grows W1.drew,x.u.cell? ⟨wb,wo + j * 5 + 4,none⟩ = some (.int .i64 (yc : Nat)):=ext_cell ((Grows.drew W1).cell (hg1.cell (hca 4 _ rfl)))
      have e1 : (yr.toList == yr.toList) = true:=by simp
      have e2 : (ys.toList == ys.toList) = true:=by simp
      have hgW1 : Grows xw13 W1:=hg.out.tr hg1
      clear hbx y0 y1 y2 y3 y4 CRr CSs CLf CTf CCf hca hg1
      go_wp2_with fail
      rw [← hW1]
      clear hW1
      refine t_region (Grows) [(0,false),(1,false),(2,false),(3,false),(4,false),(5,false),(6,false),(7,false),(8,false),(9,false),(10,false),(11,false),(12,false),(13,true),(14,false),(15,false)] Grows.refl Grows.trans (by kernel_rfl) (by kernel_rfl) (fun d _ _ _ _ h => by cases d <;> exact h) ?_
      iterate 11 (refine t_quiet rfl (fun K hK => ?_);go_simp;refine hK _ ?_;clear hK K)
      refine t_quiet rfl (fun K hK => ?_)
      go_simp
      apply Exists.intro
      refine ⟨fun x => ?_,hK _ ?_⟩
      ·go_at_call 21;exact calls_same (CSF _ (hgW1.dr.tr x.h)).out
      clear hK K
      iterate 1 (refine t_quiet rfl (fun K hK => ?_);go_simp;refine hK _ ?_;clear hK K)
      clear z0 z1 z2 z3 z4 a0 a1 a2 a3 a4
      refine t_late rfl rfl (fun K hK => ?_)
      go_simp
      refine ((CIO W1.drew hgW1.dr).out).mono ?_
      rintro e w40 ⟨rfl,hg40⟩
      refine ⟨hg40,hK _ _ ?_⟩
      clear hK K
      iterate 2 (refine t_quiet rfl (fun K hK => ?_);go_simp;refine hK _ ?_;clear hK K)
      refine t_end ?_
      go_wp2_with fail
      go_roundw
      case rel => exact ⟨j + 1,hlt,by go_num,HNX.out,hgW1.dr.tr hg40⟩
      case measure => simp [intOf];omega
     ·subst he
      rw [show (((K + 1 : Nat) : Int) - 1) = (K : Int) by omega]
      have C1:=CFo (K + 1) (by rw [HRL.out];exact hf)
      have hne : ((-1 : Int) == (j : Int)) = false:=by first | (simp;done) | (simp;omega)
      clear CFi CFo hf
      go_wp2_with fail
      refine C1.out.mono ?_
      rintro e w30 ⟨rfl,rfl⟩
      clear C1
      go_wp2_with fail
      refine (CRr wr hg.out).out.mono ?_
      rintro e w31 ⟨rfl,rfl⟩
      go_wp2_with fail
      refine (CSF wr hg.out).out.mono ?_
      rintro e w32 ⟨rfl,rfl⟩
      go_wp2_with fail
      refine (CSs wr hg.out).out.mono ?_
      rintro e w33 ⟨rfl,rfl⟩
      go_wp2_with fail
      refine (CLf wr hg.out).out.mono ?_
      rintro e w34 ⟨rfl,rfl⟩
      go_wp2_with fail
      refine (CTf wr hg.out).out.mono ?_
      rintro e w35 ⟨rfl,rfl⟩
      go_wp2_with fail
      refine (CCf wr hg.out).out.mono ?_
      rintro e w36 ⟨rfl,rfl⟩
      obtain ⟨W1,hW1⟩ : ∃ W1,W1 = wr.alloc (.cells #[.string yr,.string ys,.int .i64 (yl : Nat),.int .i64 (yt : Nat),.int .i64 (yc : Nat)] 38):=⟨_,rfl⟩
      have hg1 : Grows wr W1:=by rw [hW1];exact Grows.alloc _ _
      have hbx:=fun j u h => cell_box wr #[.string yr,.string ys,.int .i64 (yl : Nat),.int .i64 (yt : Nat),.int .i64 (yc : Nat)] 38 (0,0) j u h
      rw [← hW1] at hbx
      have y0:=hbx 0 _ rfl
      have y1:=hbx 1 _ rfl
      have y2:=hbx 2 _ rfl
      have y3:=hbx 3 _ rfl
      have y4:=hbx 4 _ rfl
      have z0 : ∀ x : Ext Grows W1.drew,x.u.cell? ⟨wr.heap.size,0,none⟩ = some (.string yr):=ext_cell ((Grows.drew W1).cell y0)
      have a0 : ∀ x : Ext Grows W1.drew,x.u.cell? ⟨wb,wo + j * 5,none⟩ = some (.string yr):=ext_cell ((Grows.drew W1).cell (hg1.cell (hca 0 _ rfl)))
      have z1 : ∀ x : Ext Grows W1.drew,x.u.cell? ⟨wr.heap.size,1,none⟩ = some (.string ys):=ext_cell ((Grows.drew W1).cell y1)
      have a1 : ∀ x : Ext Grows W1.drew,x.u.cell? ⟨wb,wo + j * 5 + 1,none⟩ = some (.string ys):=ext_cell ((Grows.drew W1).cell (hg1.cell (hca 1 _ rfl)))
      have z2 : ∀ x : Ext Grows W1.drew,x.u.cell? ⟨wr.heap.size,2,none⟩ = some (.int .i64 (yl : Nat)):=ext_cell ((Grows.drew W1).cell y2)
      have a2 : ∀ x : Ext Grows W1.drew,x.u.cell? ⟨wb,wo + j * 5 + 2,none⟩ = some (.int .i64 (yl : Nat)):=ext_cell ((Grows.drew W1).cell (hg1.cell (hca 2 _ rfl)))
      have z3 : ∀ x : Ext Grows W1.drew,x.u.cell? ⟨wr.heap.size,3,none⟩ = some (.int .i64 (yt : Nat)):=ext_cell ((Grows.drew W1).cell y3)
      have a3 : ∀ x : Ext Grows W1.drew,x.u.cell? ⟨wb,wo + j * 5 + 3,none⟩ = some (.int .i64 (yt : Nat)):=ext_cell ((Grows.drew W1).cell (hg1.cell (hca 3 _ rfl)))
      have z4 : ∀ x : Ext Grows W1.drew,x.u.cell? ⟨wr.heap.size,4,none⟩ = some (.int .i64 (yc : Nat)):=ext_cell ((Grows.drew W1).cell y4)
      have a4 : ∀ x : Ext Grows W1.drew,x.u.cell? ⟨wb,wo + j * 5 + 4,none⟩ = some (.int .i64 (yc : Nat)):=ext_cell ((Grows.drew W1).cell (hg1.cell (hca 4 _ rfl)))
      have e1 : (yr.toList == yr.toList) = true:=by simp
      have e2 : (ys.toList == ys.toList) = true:=by simp
      have hgW1 : Grows xw13 W1:=hg.out.tr hg1
      clear hbx y0 y1 y2 y3 y4 CRr CSs CLf CTf CCf hca hg1
      go_wp2_with fail
      rw [← hW1]
      clear hW1
      refine t_region (Grows) [(0,false),(1,false),(2,false),(3,false),(4,false),(5,false),(6,false),(7,false),(8,false),(9,false),(10,false),(11,false),(12,false),(13,true),(14,false),(15,false)] Grows.refl Grows.trans (by kernel_rfl) (by kernel_rfl) (fun d _ _ _ _ h => by cases d <;> exact h) ?_
      iterate 11 (refine t_quiet rfl (fun K hK => ?_);go_simp;refine hK _ ?_;clear hK K)
      refine t_quiet rfl (fun K hK => ?_)
      go_simp
      apply Exists.intro
      refine ⟨fun x => ?_,hK _ ?_⟩
      ·go_at_call 21;exact calls_same (CSF _ (hgW1.dr.tr x.h)).out
      clear hK K
      iterate 1 (refine t_quiet rfl (fun K hK => ?_);go_simp;refine hK _ ?_;clear hK K)
      clear z0 z1 z2 z3 z4 a0 a1 a2 a3 a4
      refine t_late rfl rfl (fun K hK => ?_)
      go_simp
      refine ((CIO W1.drew hgW1.dr).out).mono ?_
      rintro e w40 ⟨rfl,hg40⟩
      refine ⟨hg40,hK _ _ ?_⟩
      clear hK K
      iterate 2 (refine t_quiet rfl (fun K hK => ?_);go_simp;refine hK _ ?_;clear hK K)
      refine t_end ?_
      go_wp2_with fail
      go_roundw
      case rel => exact ⟨j + 1,hlt,by go_num,HNX.out,hgW1.dr.tr hg40⟩
      case measure => simp [intOf];omega
     ·subst he
      rw [show (((K + 1 : Nat) : Int) - 1) = (K : Int) by omega]
      have C1:=CFi (K + 1) f hf
      have hne : ((f : Int) == (j : Int)) = false:=by simp;omega
      clear CFi CFo hf hfj
      go_wp2_with fail
      refine C1.out.mono ?_
      rintro e w30 ⟨rfl,rfl⟩
      clear C1
      go_wp2_with fail
      refine (CRr wr hg.out).out.mono ?_
      rintro e w31 ⟨rfl,rfl⟩
      go_wp2_with fail
      refine (CSF wr hg.out).out.mono ?_
      rintro e w32 ⟨rfl,rfl⟩
      go_wp2_with fail
      refine (CSs wr hg.out).out.mono ?_
      rintro e w33 ⟨rfl,rfl⟩
      go_wp2_with fail
      refine (CLf wr hg.out).out.mono ?_
      rintro e w34 ⟨rfl,rfl⟩
      go_wp2_with fail
      refine (CTf wr hg.out).out.mono ?_
      rintro e w35 ⟨rfl,rfl⟩
      go_wp2_with fail
      refine (CCf wr hg.out).out.mono ?_
      rintro e w36 ⟨rfl,rfl⟩
      obtain ⟨W1,hW1⟩ : ∃ W1,W1 = wr.alloc (.cells #[.string yr,.string ys,.int .i64 (yl : Nat),.int .i64 (yt : Nat),.int .i64 (yc : Nat)] 38):=⟨_,rfl⟩
      have hg1 : Grows wr W1:=by rw [hW1];exact Grows.alloc _ _
      have hbx:=fun j u h => cell_box wr #[.string yr,.string ys,.int .i64 (yl : Nat),.int .i64 (yt : Nat),.int .i64 (yc : Nat)] 38 (0,0) j u h
      rw [← hW1] at hbx
      have y0:=hbx 0 _ rfl
      have y1:=hbx 1 _ rfl
      have y2:=hbx 2 _ rfl
      have y3:=hbx 3 _ rfl
      have y4:=hbx 4 _ rfl
      have z0 : ∀ x : Ext Grows W1.drew,x.u.cell? ⟨wr.heap.size,0,none⟩ = some (.string yr):=ext_cell ((Grows.drew W1).cell y0)
      have a0 : ∀ x : Ext Grows W1.drew,x.u.cell? ⟨wb,wo + j * 5,none⟩ = some (.string yr):=ext_cell ((Grows.drew W1).cell (hg1.cell (hca 0 _ rfl)))
      have z1 : ∀ x : Ext Grows W1.drew,x.u.cell? ⟨wr.heap.size,1,none⟩ = some (.string ys):=ext_cell ((Grows.drew W1).cell y1)
      have a1 : ∀ x : Ext Grows W1.drew,x.u.cell? ⟨wb,wo + j * 5 + 1,none⟩ = some (.string ys):=ext_cell ((Grows.drew W1).cell (hg1.cell (hca 1 _ rfl)))
      have z2 : ∀ x : Ext Grows W1.drew,x.u.cell? ⟨wr.heap.size,2,none⟩ = some (.int .i64 (yl : Nat)):=ext_cell ((Grows.drew W1).cell y2)
      have a2 : ∀ x : Ext Grows W1.drew,x.u.cell? ⟨wb,wo + j * 5 + 2,none⟩ = some (.int .i64 (yl : Nat)):=ext_cell ((Grows.drew W1).cell (hg1.cell (hca 2 _ rfl)))
      have z3 : ∀ x : Ext Grows W1.drew,x.u.cell? ⟨wr.heap.size,3,none⟩ = some (.int .i64 (yt : Nat)):=ext_cell ((Grows.drew W1).cell y3)
      have a3 : ∀ x : Ext Grows W1.drew,x.u.cell? ⟨wb,wo + j * 5 + 3,none⟩ = some (.int .i64 (yt : Nat)):=ext_cell ((Grows.drew W1).cell (hg1.cell (hca 3 _ rfl)))
      have z4 : ∀ x : Ext Grows W1.drew,x.u.cell? ⟨wr.heap.size,4,none⟩ = some (.int .i64 (yc : Nat)):=ext_cell ((Grows.drew W1).cell y4)
      have a4 : ∀ x : Ext Grows W1.drew,x.u.cell? ⟨wb,wo + j * 5 + 4,none⟩ = some (.int .i64 (yc : Nat)):=ext_cell ((Grows.drew W1).cell (hg1.cell (hca 4 _ rfl)))
      have e1 : (yr.toList == yr.toList) = true:=by simp
      have e2 : (ys.toList == ys.toList) = true:=by simp
      have hgW1 : Grows xw13 W1:=hg.out.tr hg1
      clear hbx y0 y1 y2 y3 y4 CRr CSs CLf CTf CCf hca hg1
      go_wp2_with fail
      rw [← hW1]
      clear hW1
      refine t_region (Grows) [(0,false),(1,false),(2,false),(3,false),(4,false),(5,false),(6,false),(7,false),(8,false),(9,false),(10,false),(11,false),(12,false),(13,true),(14,false),(15,false)] Grows.refl Grows.trans (by kernel_rfl) (by kernel_rfl) (fun d _ _ _ _ h => by cases d <;> exact h) ?_
      iterate 11 (refine t_quiet rfl (fun K hK => ?_);go_simp;refine hK _ ?_;clear hK K)
      refine t_quiet rfl (fun K hK => ?_)
      go_simp
      apply Exists.intro
      refine ⟨fun x => ?_,hK _ ?_⟩
      ·go_at_call 21;exact calls_same (CSF _ (hgW1.dr.tr x.h)).out
      clear hK K
      iterate 1 (refine t_quiet rfl (fun K hK => ?_);go_simp;refine hK _ ?_;clear hK K)
      clear z0 z1 z2 z3 z4 a0 a1 a2 a3 a4
      refine t_late rfl rfl (fun K hK => ?_)
      go_simp
      refine ((CIO W1.drew hgW1.dr).out).mono ?_
      rintro e w40 ⟨rfl,hg40⟩
      refine ⟨hg40,hK _ _ ?_⟩
      clear hK K
      iterate 2 (refine t_quiet rfl (fun K hK => ?_);go_simp;refine hK _ ?_;clear hK K)
      refine t_end ?_
      go_wp2_with fail
      go_roundw
      case rel => exact ⟨j + 1,hlt,by go_num,HNX.out,hgW1.dr.tr hg40⟩
      case measure => simp [intOf];omega
    ·obtain rfl : j = n:=by omega
     have hlast : nextR es j = RL:=by rw [HRL.out,HN.out];exact last_r HS.out
     rw [hlast]
     have hgt:=HGW3.out.tr (HGX.out.tr hg.out)
     have b0:=hgt.cell HQ.out.1
     have b1:=hgt.cell HQ.out.2.1
     have b2:=hgt.cell HQ.out.2.2.1
     have b3:=hgt.cell HQ.out.2.2.2
     have wR : IntKind.i64.wrap ((RL : Int) - 1) = (RL : Int) - 1:=by simp [IntKind.wrap,IntKind.bits,IntKind.signed];omega
     have hr0 : (((RL : Int) - 1) == ((RL : Int) - 1)) = true:=by simp
     clear hlast
     go_wp2_with fail
     refine (HCRE.out wr (HGX.out.tr hg.out)).out.mono ?_
     rintro e w50 ⟨rfl,hg50⟩
     go_wp2_with fail
     refine (CW w50 (HG0.out.tr (hgt.tr hg50))).out.mono ?_
     rintro e w51 ⟨rfl,hg51⟩
     go_wp2
     go_ret
     exact ⟨rfl,HG0.out.tr (hgt.tr (hg50.tr hg51))⟩
  ·have hne : ((buildB xp (srcM ⟨xp,xd,xs,xe⟩) xe).1 != 0) = true:=by simpa using hE
   have hnil:=buildB_non hE
   rw [hnil] at CI
   generalize (buildB xp (srcM ⟨xp,xd,xs,xe⟩) xe).1 = E at CI hne
   clear hE hnil CRst
   go_enter Tryz.func6,Tryz.ntmps6
   go_wp2_with fail
   rw [← hW0]
   clear hW0
   refine CL.out.mono ?_
   rintro e w1 ⟨rfl,hg1⟩
   have b0:=hg1.cell HQ.out.1
   have b1:=hg1.cell HQ.out.2.1
   have b2:=hg1.cell HQ.out.2.2.1
   have b3:=hg1.cell HQ.out.2.2.2
   have CI1:=CI w1 hg1
   clear CL CI q0 q1 q2 q3
   go_wp2_with fail
   refine CI1.out.mono ?_
   rintro e w2 ⟨hg2,v2,rfl,hv2⟩
   obtain ⟨a2,c2,rfl,_,_,_⟩:=hv2.at_ byteLay.len
   have hgw2:=hg1.tr hg2
   clear CI1 hv2 b0 b1 b2 b3
   go_wp2_with fail
   refine (CW w2 (HG0.out.tr hgw2)).out.mono ?_
   rintro e w3 ⟨rfl,hg3⟩
   go_wp2
   go_ret
   exact ⟨rfl,HG0.out.tr (hgw2.tr hg3)⟩
end Go.Proofs.YtepoiefadjoabaaGreatDoor
