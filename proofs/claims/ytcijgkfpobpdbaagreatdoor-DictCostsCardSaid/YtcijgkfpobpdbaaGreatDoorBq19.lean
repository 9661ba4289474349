/- The texts Pairs, one behind the other. -/
import Derived.Test.YtcijgkfpobpdbaaGreatDoorBq15
import Derived.Test.YtcijgkfpobpdbaaGreatDoorBq18
open List renaming length_map → Aa
open Go.Lib renaming hid → Ab
set_option maxHeartbeats 2000000
namespace Go.Proofs.YtcijgkfpobpdbaaGreatDoor
open Go Go.RowKit Go.Shelf
attribute [local go_sem] aQ
theorem uC0 {m:Mx} (ag:m.OK) {D:DataW Unit} (hM:qY0 m D) {ss:List PW} (hA:aL0 D ss) {l:List (Int×Int)} (hp:l.Perm (ss.map (·.1))) (hs:l.Pairwise λx y=>ltOf cT1 y x=false):l=m.pairs:=by
 have uz:l.Nodup:=hp.nodup_iff.2 (List.pairwise_map.2 (hA.1.imp λh e=>h (Subtype.ext e)))
 have ae:l.Pairwise ltP:=(hs.and uz).imp λ{x y} ⟨h1,h2⟩=>by
  rcases yA0 h2 with h|h
  ·exact h
  ·rw[(xA y x).2 h]at h1;cases h1
 refine aT0 (lt:=ltP) eL0 (λh k=>lD0 h k) ae m.pairs_sorted λy=>?_;rw[hp.mem_iff,Mx.mem_pairs,List.mem_map];constructor
 ·rintro⟨x,hx,rfl⟩
  have h1:=(hA.2 x).1 hx;have h2:=(hM x.1 x.2.1 x.2.2).1;rw[h1]at h2;have h3:=h2.symm;simpa using h3
 ·rintro⟨h1,h2⟩
  have hw:=nP ag.n2 h1;refine⟨⟨y,hw.1,hw.2⟩,(hA.2 _).2 ?_,rfl⟩;rw[(hM y hw.1 hw.2).1,h1];simp[h2]
theorem iV1 {w:World} {base:Nat} {v:Value} {ss:List PW} (h:w.ownsRow base 227 2 v ss.length (ss.flatMap pD)):aU w base 227 2 cR0 v (ss.map (·.1)):=by
 unfold aU;rw[Aa,List.flatMap_map];exact h
theorem oY0 (w:World) (Bm bm nn:Nat) (D:DataW Unit) (m:Mx) (ag:m.OK) (hM:qY0 m D) (dp:Maps.size D<=4096) (hm:w.cell? ⟨Bm,0,none⟩=some (.map (some bm))) (aa:w.ownsMap Tryz.prog 227 (plainElem Tryz.prog 3) bm nn D) :
  Calls Tryz.prog 220 #[.func (.func 274) #[] #[.pointer (some ⟨Bm,0,none⟩)],.func (.func 222) #[] #[]] w λe w'=>∃v,e=.returned v/\aU w' w.heap.size 227 2 cR0 v m.pairs/\Grows w w':=by
 have CC:=Ab (jX0 w Bm bm nn D dp hm aa);have HE:=λ(ss:List PW) (l:List (Int×Int)) h1 h2 h3=>Ab (uC0 ag hM (ss:=ss) (l:=l) h1 h2 h3)
 have HL:Hid (∀ss:List PW,aL0 D ss->ss.length<4611686018427387904):=λss hA=>by
  have h0:=dG (l':=m.pairs) (List.pairwise_map.2 (hA.1.imp λh (e:_=_)=>h (Subtype.ext e)):(ss.map (·.1)).Nodup) (λy hy=>by
   obtain⟨x,hx,rfl⟩:=List.mem_map.1 hy;have h1:=(hA.2 x).1 hx;have h2:=(hM x.1 x.2.1 x.2.2).1;rw[h1]at h2;exact Mx.mem_pairs.2 (by simpa using h2.symm))
  rw[Aa]at h0
  have:=Mx.pairs_len ag
  omega
 clear hM ag dp hm aa;go_enter Tryz.func220,Tryz.ntmps220
 go_wp2_with fail
 refine CC.out.mono ?_;rintro e w1 ⟨v,ss,rfl,hA,cn,hb⟩;have ay:=iV1 cn;have hl:=HL.out ss hA;go_wp2_with (go_at_call 273;refine(tX0 w1 w.heap.size v _ ay (by rw[Aa];exact hl)).mono ?_;rintro e w2 ⟨rfl,l',hp,tj,ai,af⟩)
 go_ret;have he:=(HE ss l' hA hp tj).out;rw[he]at ai;exact⟨_,rfl,ai,(show Grows w w1 from hb).grown af (λq hq=>bB ay q hq)⟩
theorem bK1 (w:World) (mb bm:Nat) (m:Mx) (h:fK w mb bm m) :
  Calls Tryz.prog 159 #[.pointer (some ⟨mb,0,none⟩)] w λe w'=>∃v,e=.returned v/\aU w' w.heap.size 227 2 cR0 v m.pairs/\Grows w w':=by
 have c2:=h.c2;obtain⟨D,aa,hM⟩:=h.own;have ag:=h.ok;have CS:=Ab (oY0 (w.alloc (.cells #[.map (some bm)] 223)) w.heap.size bm 4096 D m ag hM (jE0 ag aa hM) (aT _ _ _ _ 0 _ rfl) (aa.alloc _));clear hM ag aa h;go_enter Tryz.func159,Tryz.ntmps159
 go_wp2_with (first|(go_at_call 221;refine(xH0 _ _).mono ?_;rintro e w1 ⟨rfl,rfl⟩)|(go_at_call 220;refine CS.out.mono ?_;rintro e w2 ⟨v,rfl,ai,af⟩))
 go_ret;exact⟨_,rfl,ai.base (by simp),(Grows.alloc _ _).tr af⟩
end Go.Proofs.YtcijgkfpobpdbaaGreatDoor
