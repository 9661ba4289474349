/- The texts Pairs, one behind the other. -/
import Derived.Test.YtheiocndipepaaaGreatDoorKq12
import Derived.Test.YtheiocndipepaaaGreatDoorKq14
open List renaming length_map → Aa
open Go.Lib renaming hid → Ab
set_option maxHeartbeats 2000000
namespace Go.Proofs.YtheiocndipepaaaGreatDoor
open Go Go.RowKit Go.Shelf
attribute [local go_sem] aM
theorem uN0 {m:Mx} (ah:m.OK) {D:DataW Unit} (hM:sA0 m D) {ss:List PW} (hA:aD0 D ss) {l:List (Int×Int)} (hp:l.Perm (ss.map (·.1))) (hs:l.Pairwise λx y=>ltOf eQ1 y x=false):l=m.pairs:=by
 have vf:l.Nodup:=hp.nodup_iff.2 (List.pairwise_map.2 (hA.1.imp λh e=>h (Subtype.ext e)))
 have ae:l.Pairwise ltP:=(hs.and vf).imp λ{x y} ⟨h1,h2⟩=>by
  rcases yY0 h2 with h|h
  ·exact h
  ·rw[(yB y x).2 h]at h1;cases h1
 refine cW0 (lt:=ltP) fD0 (λh k=>kH0 h k) ae m.pairs_sorted λy=>?_;rw[hp.mem_iff,Mx.mem_pairs,List.mem_map];constructor
 ·rintro⟨x,hx,rfl⟩
  have h1:=(hA.2 x).1 hx;have h2:=(hM x.1 x.2.1 x.2.2).1;rw[h1]at h2;have h3:=h2.symm;simpa using h3
 ·rintro⟨h1,h2⟩
  have hw:=oH ah.n2 h1;refine⟨⟨y,hw.1,hw.2⟩,(hA.2 _).2 ?_,rfl⟩;rw[(hM y hw.1 hw.2).1,h1];simp[h2]
theorem nQ1 {w:World} {base:Nat} {v:Value} {ss:List PW} (h:w.ownsRow base 164 2 v ss.length (ss.flatMap qC)):aV w base 164 2 dL0 v (ss.map (·.1)):=by
 unfold aV;rw[Aa,List.flatMap_map];exact h
theorem qL0 (w:World) (Bm bm nn:Nat) (D:DataW Unit) (m:Mx) (ah:m.OK) (hM:sA0 m D) (di:Maps.size D<=4096) (hm:w.cell? ⟨Bm,0,none⟩=some (.map (some bm))) (aa:w.ownsMap Tryz.prog 164 (plainElem Tryz.prog 3) bm nn D) :
  Calls Tryz.prog 153 #[.func (.func 210) #[] #[.pointer (some ⟨Bm,0,none⟩)],.func (.func 155) #[] #[]] w λe w'=>∃v,e=.returned v/\aV w' w.heap.size 164 2 dL0 v m.pairs/\Grows w w':=by
 have CC:=Ab (kG0 w Bm bm nn D di hm aa);have HE:=λ(ss:List PW) (l:List (Int×Int)) h1 h2 h3=>Ab (uN0 ah hM (ss:=ss) (l:=l) h1 h2 h3)
 have HL:Hid (∀ss:List PW,aD0 D ss->ss.length<4611686018427387904):=λss hA=>by
  have h0:=dJ (l':=m.pairs) (List.pairwise_map.2 (hA.1.imp λh (e:_=_)=>h (Subtype.ext e)):(ss.map (·.1)).Nodup) (λy hy=>by
   obtain⟨x,hx,rfl⟩:=List.mem_map.1 hy;have h1:=(hA.2 x).1 hx;have h2:=(hM x.1 x.2.1 x.2.2).1;rw[h1]at h2;exact Mx.mem_pairs.2 (by simpa using h2.symm))
  rw[Aa]at h0
  have:=Mx.pairs_len ah
  omega
 clear hM ah di hm aa;go_enter Tryz.func153,Tryz.ntmps153
 go_wp2_with fail
 refine CC.out.mono ?_;rintro e w1 ⟨v,ss,rfl,hA,ct,hb⟩;have az:=nQ1 ct;have hl:=HL.out ss hA;go_wp2_with (go_at_call 209;refine(xD0 w1 w.heap.size v _ az (by rw[Aa];exact hl)).mono ?_;rintro e w2 ⟨rfl,l',hp,vd,aj,af⟩)
 go_ret;have he:=(HE ss l' hA hp vd).out;rw[he]at aj;exact⟨_,rfl,aj,(show Grows w w1 from hb).grown af (λq hq=>bB az q hq)⟩
theorem dW1 (w:World) (mb bm:Nat) (m:Mx) (h:fM w mb bm m) :
  Calls Tryz.prog 98 #[.pointer (some ⟨mb,0,none⟩)] w λe w'=>∃v,e=.returned v/\aV w' w.heap.size 164 2 dL0 v m.pairs/\Grows w w':=by
 have c2:=h.c2;obtain⟨D,aa,hM⟩:=h.own;have ah:=h.ok;have CS:=Ab (qL0 (w.alloc (.cells #[.map (some bm)] 160)) w.heap.size bm 4096 D m ah hM (kI0 ah aa hM) (aT _ _ _ _ 0 _ rfl) (aa.alloc _));clear hM ah aa h;go_enter Tryz.func98,Tryz.ntmps98
 go_wp2_with (first|(go_at_call 154;refine(aM1 _ _).mono ?_;rintro e w1 ⟨rfl,rfl⟩)|(go_at_call 153;refine CS.out.mono ?_;rintro e w2 ⟨v,rfl,aj,af⟩))
 go_ret;exact⟨_,rfl,aj.base (by simp),(Grows.alloc _ _).tr af⟩
end Go.Proofs.YtheiocndipepaaaGreatDoor
