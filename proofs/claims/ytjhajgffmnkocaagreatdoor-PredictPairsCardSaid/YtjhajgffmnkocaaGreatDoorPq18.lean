/- The texts Pairs, one behind the other. -/
import Derived.Test.YtjhajgffmnkocaaGreatDoorPq13
import Derived.Test.YtjhajgffmnkocaaGreatDoorPq14
open List renaming length_map → Aa
open Go.Lib renaming hid → Ab
set_option maxHeartbeats 2000000
namespace Go.Proofs.YtjhajgffmnkocaaGreatDoor
open Go Go.RowKit Go.Shelf
attribute [local go_sem] aO
theorem rV0 {m:Mx} (ag:m.OK) {D:DataW Unit} (hM:oW0 m D) {ss:List PW} (hA:aO0 D ss) {l:List (Int×Int)} (hp:l.Perm (ss.map (·.1))) (hs:l.Pairwise λx y=>ltOf cP1 y x=false):l=m.pairs:=by
 have yq:l.Nodup:=hp.nodup_iff.2 (List.pairwise_map.2 (hA.1.imp λh e=>h (Subtype.ext e)))
 have af:l.Pairwise ltP:=(hs.and yq).imp λ{x y} ⟨h1,h2⟩=>by
  rcases wA0 h2 with h|h
  ·exact h
  ·rw[(vR y x).2 h]at h1;cases h1
 refine rX (lt:=ltP) dS0 (λh k=>hV0 h k) af m.pairs_sorted λy=>?_;rw[hp.mem_iff,Mx.mem_pairs,List.mem_map];constructor
 ·rintro⟨x,hx,rfl⟩
  have h1:=(hA.2 x).1 hx;have h2:=(hM x.1 x.2.1 x.2.2).1;rw[h1]at h2;have h3:=h2.symm;simpa using h3
 ·rintro⟨h1,h2⟩
  have hw:=pW ag.n2 h1;refine⟨⟨y,hw.1,hw.2⟩,(hA.2 _).2 ?_,rfl⟩;rw[(hM y hw.1 hw.2).1,h1];simp[h2]
theorem kB1 {w:World} {base:Nat} {v:Value} {ss:List PW} (h:w.ownsRow base 243 2 v ss.length (ss.flatMap oQ)):aU w base 243 2 bW0 v (ss.map (·.1)):=by
 unfold aU;rw[Aa,List.flatMap_map];exact h
theorem mT0 (w:World) (Bm bm nn:Nat) (D:DataW Unit) (m:Mx) (ag:m.OK) (hM:oW0 m D) (dm:Maps.size D<=4096) (hm:w.cell? ⟨Bm,0,none⟩=some (.map (some bm))) (aa:w.ownsMap Tryz.prog 243 (plainElem Tryz.prog 3) bm nn D) :
  Calls Tryz.prog 224 #[.func (.func 268) #[] #[.pointer (some ⟨Bm,0,none⟩)],.func (.func 226) #[] #[]] w λe w'=>∃v,e=.returned v/\aU w' w.heap.size 243 2 bW0 v m.pairs/\aB w w':=by
 have CC:=Ab (iV0 w Bm bm nn D dm hm aa);have HE:=λ(ss:List PW) (l:List (Int×Int)) h1 h2 h3=>Ab (rV0 ag hM (ss:=ss) (l:=l) h1 h2 h3)
 have HL:Hid (∀ss:List PW,aO0 D ss->ss.length<4611686018427387904):=λss hA=>by
  have h0:=cU (l':=m.pairs) (List.pairwise_map.2 (hA.1.imp λh (e:_=_)=>h (Subtype.ext e)):(ss.map (·.1)).Nodup) (λy hy=>by
   obtain⟨x,hx,rfl⟩:=List.mem_map.1 hy;have h1:=(hA.2 x).1 hx;have h2:=(hM x.1 x.2.1 x.2.2).1;rw[h1]at h2;exact Mx.mem_pairs.2 (by simpa using h2.symm))
  rw[Aa]at h0
  have:=Mx.pairs_len ag
  omega
 clear hM ag dm hm aa;go_enter Tryz.func224,Tryz.ntmps224
 go_wp2_with fail
 refine CC.out.mono ?_;rintro e w1 ⟨v,ss,rfl,hA,cm,hb⟩;have ay:=kB1 cm;have hl:=HL.out ss hA;go_wp2_with (go_at_call 267;refine(sO0 w1 w.heap.size v _ ay (by rw[Aa];exact hl)).mono ?_;rintro e w2 ⟨rfl,l',hp,sj,ah,ae⟩)
 go_ret;have he:=(HE ss l' hA hp sj).out;rw[he]at ah;exact⟨_,rfl,ah,(show aB w w1 from hb).grown ae (λq hq=>aX ay q hq)⟩
theorem yF0 (w:World) (mb bm:Nat) (m:Mx) (h:gF w mb bm m) :
  Calls Tryz.prog 177 #[.pointer (some ⟨mb,0,none⟩)] w λe w'=>∃v,e=.returned v/\aU w' w.heap.size 243 2 bW0 v m.pairs/\aB w w':=by
 have c2:=h.c2;obtain⟨D,aa,hM⟩:=h.own;have ag:=h.ok;have CS:=Ab (mT0 (w.alloc (.cells #[.map (some bm)] 239)) w.heap.size bm 4096 D m ag hM (gP0 ag aa hM) (aT _ _ _ _ 0 _ rfl) (aa.alloc _));clear hM ag aa h;go_enter Tryz.func177,Tryz.ntmps177
 go_wp2_with (first|(go_at_call 225;refine(wH0 _ _).mono ?_;rintro e w1 ⟨rfl,rfl⟩)|(go_at_call 224;refine CS.out.mono ?_;rintro e w2 ⟨v,rfl,ah,ae⟩))
 go_ret;exact⟨_,rfl,ah.base (by simp),(aB.alloc _ _).tr ae⟩
end Go.Proofs.YtjhajgffmnkocaaGreatDoor
