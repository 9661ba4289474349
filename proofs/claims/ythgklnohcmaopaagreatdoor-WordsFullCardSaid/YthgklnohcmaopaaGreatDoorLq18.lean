/- The texts Pairs, one behind the other. -/
import Derived.Test.YthgklnohcmaopaaGreatDoorLq13
import Derived.Test.YthgklnohcmaopaaGreatDoorLq14
open List renaming length_map → Aa
open Go.Lib renaming hid → Ab
set_option maxHeartbeats 2000000
namespace Go.Proofs.YthgklnohcmaopaaGreatDoor
open Go Go.RowKit Go.Shelf
attribute [local go_sem] aO
theorem uR0 {m:Mx} (ag:m.OK) {D:DataW Unit} (hM:rT0 m D) {ss:List PW} (hA:aA0 D ss) {l:List (Int×Int)} (hp:l.Perm (ss.map (·.1))) (hs:l.Pairwise λx y=>ltOf dZ1 y x=false):l=m.pairs:=by
 have qp:l.Nodup:=hp.nodup_iff.2 (List.pairwise_map.2 (hA.1.imp λh e=>h (Subtype.ext e)))
 have ae:l.Pairwise ltP:=(hs.and qp).imp λ{x y} ⟨h1,h2⟩=>by
  rcases zX0 h2 with h|h
  ·exact h
  ·rw[(xU y x).2 h]at h1;cases h1
 refine sW (lt:=ltP) eK0 (λh k=>jY0 h k) ae m.pairs_sorted λy=>?_;rw[hp.mem_iff,Mx.mem_pairs,List.mem_map];constructor
 ·rintro⟨x,hx,rfl⟩
  have h1:=(hA.2 x).1 hx;have h2:=(hM x.1 x.2.1 x.2.2).1;rw[h1]at h2;have h3:=h2.symm;simpa using h3
 ·rintro⟨h1,h2⟩
  have hw:=qZ ag.n2 h1;refine⟨⟨y,hw.1,hw.2⟩,(hA.2 _).2 ?_,rfl⟩;rw[(hM y hw.1 hw.2).1,h1];simp[h2]
theorem mS1 {w:World} {base:Nat} {v:Value} {ss:List PW} (h:w.ownsRow base 158 2 v ss.length (ss.flatMap pE)):aX w base 158 2 cJ0 v (ss.map (·.1)):=by
 unfold aX;rw[Aa,List.flatMap_map];exact h
theorem oP0 (w:World) (Bm bm nn:Nat) (D:DataW Unit) (m:Mx) (ag:m.OK) (hM:rT0 m D) (de:Maps.size D<=4096) (hm:w.cell? ⟨Bm,0,none⟩=some (.map (some bm))) (aa:w.ownsMap Tryz.prog 158 (plainElem Tryz.prog 3) bm nn D) :
  Calls Tryz.prog 156 #[.func (.func 218) #[] #[.pointer (some ⟨Bm,0,none⟩)],.func (.func 158) #[] #[]] w λe w'=>∃v,e=.returned v/\aX w' w.heap.size 158 2 cJ0 v m.pairs/\aB w w':=by
 have CC:=Ab (mL0 w Bm bm nn D de hm aa);have HE:=λ(ss:List PW) (l:List (Int×Int)) h1 h2 h3=>Ab (uR0 ag hM (ss:=ss) (l:=l) h1 h2 h3)
 have HL:Hid (∀ss:List PW,aA0 D ss->ss.length<4611686018427387904):=λss hA=>by
  have h0:=cG (l':=m.pairs) (List.pairwise_map.2 (hA.1.imp λh (e:_=_)=>h (Subtype.ext e)):(ss.map (·.1)).Nodup) (λy hy=>by
   obtain⟨x,hx,rfl⟩:=List.mem_map.1 hy;have h1:=(hA.2 x).1 hx;have h2:=(hM x.1 x.2.1 x.2.2).1;rw[h1]at h2;exact Mx.mem_pairs.2 (by simpa using h2.symm))
  rw[Aa]at h0
  have:=Mx.pairs_len ag
  omega
 clear hM ag de hm aa;go_enter Tryz.func156,Tryz.ntmps156
 go_wp2_with fail
 refine CC.out.mono ?_;rintro e w1 ⟨v,ss,rfl,hA,cd,hb⟩;have aq:=mS1 cd;have hl:=HL.out ss hA;go_wp2_with (go_at_call 217;refine(vE0 w1 w.heap.size v _ aq (by rw[Aa];exact hl)).mono ?_;rintro e w2 ⟨rfl,l',hp,qo,ai,af⟩)
 go_ret;have he:=(HE ss l' hA hp qo).out;rw[he]at ai;exact⟨_,rfl,ai,(show aB w w1 from hb).grown af (λq hq=>aZ aq q hq)⟩
theorem bV1 (w:World) (mb bm:Nat) (m:Mx) (h:gR w mb bm m) :
  Calls Tryz.prog 87 #[.pointer (some ⟨mb,0,none⟩)] w λe w'=>∃v,e=.returned v/\aX w' w.heap.size 158 2 cJ0 v m.pairs/\aB w w':=by
 have c2:=h.c2;obtain⟨D,aa,hM⟩:=h.own;have ag:=h.ok;have CS:=Ab (oP0 (w.alloc (.cells #[.map (some bm)] 151)) w.heap.size bm 4096 D m ag hM (jO0 ag aa hM) (aT _ _ _ _ 0 _ rfl) (aa.alloc _));clear hM ag aa h;go_enter Tryz.func87,Tryz.ntmps87
 go_wp2_with (first|(go_at_call 157;refine(aH1 _ _).mono ?_;rintro e w1 ⟨rfl,rfl⟩)|(go_at_call 156;refine CS.out.mono ?_;rintro e w2 ⟨v,rfl,ai,af⟩))
 go_ret;exact⟨_,rfl,ai.base (by simp),(aB.alloc _ _).tr af⟩
end Go.Proofs.YthgklnohcmaopaaGreatDoor
