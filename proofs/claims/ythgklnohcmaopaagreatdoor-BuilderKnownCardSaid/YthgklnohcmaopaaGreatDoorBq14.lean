/- The texts Pairs, one behind the other. -/
import Derived.Test.YthgklnohcmaopaaGreatDoorBq10
import Derived.Test.YthgklnohcmaopaaGreatDoorBq12
open List renaming length_map → Aa
open Go.Lib renaming hid → Ab
set_option maxHeartbeats 2000000
namespace Go.Proofs.YthgklnohcmaopaaGreatDoor
open Go Go.RowKit Go.Shelf
attribute [local go_sem] aM
theorem jG0 {m:Mx} (au:m.OK) {D:DataW Unit} (hM:gN0 m D) {ss:List PW} (hA:tW D ss) {l:List (Int×Int)} (hp:l.Perm (ss.map (·.1))) (hs:l.Pairwise λx y=>ltOf qC0 y x=false):l=m.pairs:=by
 have ut:l.Nodup:=hp.nodup_iff.2 (List.pairwise_map.2 (hA.1.imp λh e=>h (Subtype.ext e)))
 have ae:l.Pairwise ltP:=(hs.and ut).imp λ{x y} ⟨h1,h2⟩=>by
  rcases pC0 h2 with h|h
  ·exact h
  ·rw[(rA y x).2 h]at h1;cases h1
 refine bK0 (lt:=ltP) vB (λh k=>bO0 h k) ae m.pairs_sorted λy=>?_;rw[hp.mem_iff,Mx.mem_pairs,List.mem_map];constructor
 ·rintro⟨x,hx,rfl⟩
  have h1:=(hA.2 x).1 hx;have h2:=(hM x.1 x.2.1 x.2.2).1;rw[h1]at h2;have h3:=h2.symm;simpa using h3
 ·rintro⟨h1,h2⟩
  have hw:=mO au.n2 h1;refine⟨⟨y,hw.1,hw.2⟩,(hA.2 _).2 ?_,rfl⟩;rw[(hM y hw.1 hw.2).1,h1];simp[h2]
theorem wK0 {w:World} {base:Nat} {v:Value} {ss:List PW} (h:w.ownsRow base 158 2 v ss.length (ss.flatMap lP)):aT w base 158 2 uS v (ss.map (·.1)):=by
 unfold aT;rw[Aa,List.flatMap_map];exact h
theorem eZ0 (w:World) (Bm bm nn:Nat) (D:DataW Unit) (m:Mx) (au:m.OK) (hM:gN0 m D) (cz:Maps.size D<=4096) (hm:w.cell? ⟨Bm,0,none⟩=some (.map (some bm))) (aa:w.ownsMap Tryz.prog 158 (plainElem Tryz.prog 3) bm nn D) :
  Calls Tryz.prog 156 #[.func (.func 218) #[] #[.pointer (some ⟨Bm,0,none⟩)],.func (.func 158) #[] #[]] w λe w'=>∃v,e=.returned v/\aT w' w.heap.size 158 2 uS v m.pairs/\aB w w':=by
 have CC:=Ab (cC0 w Bm bm nn D cz hm aa);have HE:=λ(ss:List PW) (l:List (Int×Int)) h1 h2 h3=>Ab (jG0 au hM (ss:=ss) (l:=l) h1 h2 h3)
 have HL:Hid (∀ss:List PW,tW D ss->ss.length<4611686018427387904):=λss hA=>by
  have h0:=cE (l':=m.pairs) (List.pairwise_map.2 (hA.1.imp λh (e:_=_)=>h (Subtype.ext e)):(ss.map (·.1)).Nodup) (λy hy=>by
   obtain⟨x,hx,rfl⟩:=List.mem_map.1 hy;have h1:=(hA.2 x).1 hx;have h2:=(hM x.1 x.2.1 x.2.2).1;rw[h1]at h2;exact Mx.mem_pairs.2 (by simpa using h2.symm))
  rw[Aa]at h0
  have:=Mx.pairs_len au
  omega
 clear hM au cz hm aa;go_enter Tryz.func156,Tryz.ntmps156
 go_wp2_with fail
 refine CC.out.mono ?_;rintro e w1 ⟨v,ss,rfl,hA,bj,hb⟩;have ar:=wK0 bj;have hl:=HL.out ss hA;go_wp2_with (go_at_call 217;refine(jN0 w1 w.heap.size v _ ar (by rw[Aa];exact hl)).mono ?_;rintro e w2 ⟨rfl,l',hp,mw,af,ah⟩)
 go_ret;have he:=(HE ss l' hA hp mw).out;rw[he]at af;exact⟨_,rfl,af,(show aB w w1 from hb).grown ah (λq hq=>aV ar q hq)⟩
theorem mU0 (w:World) (mb bm:Nat) (m:Mx) (h:jR w mb bm m) :
  Calls Tryz.prog 87 #[.pointer (some ⟨mb,0,none⟩)] w λe w'=>∃v,e=.returned v/\aT w' w.heap.size 158 2 uS v m.pairs/\aB w w':=by
 have c2:=h.c2;obtain⟨D,aa,hM⟩:=h.own;have au:=h.ok;have CS:=Ab (eZ0 (w.alloc (.cells #[.map (some bm)] 151)) w.heap.size bm 4096 D m au hM (bF0 au aa hM) (aU _ _ _ _ 0 _ rfl) (aa.alloc _));clear hM au aa h;go_enter Tryz.func87,Tryz.ntmps87
 go_wp2_with (first|(go_at_call 157;refine(lP0 _ _).mono ?_;rintro e w1 ⟨rfl,rfl⟩)|(go_at_call 156;refine CS.out.mono ?_;rintro e w2 ⟨v,rfl,af,ah⟩))
 go_ret;exact⟨_,rfl,af.base (by simp),(aB.alloc _ _).tr ah⟩
end Go.Proofs.YthgklnohcmaopaaGreatDoor
