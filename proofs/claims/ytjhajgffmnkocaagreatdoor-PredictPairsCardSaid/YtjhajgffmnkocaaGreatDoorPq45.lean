/- The texts DicF AskO Chap38 W38a W38b R30a, one behind the other. -/
import Derived.Test.YtjhajgffmnkocaaGreatDoorPq43
import Derived.Test.YtjhajgffmnkocaaGreatDoorPq44
import Derived.Test.YtjhajgffmnkocaaGreatDoorPq30
import Derived.Test.YtjhajgffmnkocaaGreatDoorPq36
import Derived.Test.YtjhajgffmnkocaaGreatDoorPq23
import Derived.Test.YtjhajgffmnkocaaGreatDoorPq42
import Derived.Test.YtjhajgffmnkocaaGreatDoorPq8
import Derived.Test.YtjhajgffmnkocaaGreatDoorPq2
open Go.Lib renaming hid → Aa,validD → Ab,toList_data → Aj
open List renaming getElem?_eq_getElem → Ac,isEmpty_eq_false_iff → Ae,take_length → Af,mem_of_getElem? → Ai
open Bool renaming eq_iff_iff → Ad
open Go.Op renaming bytesLess → Ag
open Nat renaming zero_le → Ah,add_zero → Ak,mul_one → Al
set_option maxHeartbeats 4000000
namespace Go.Proofs.YtjhajgffmnkocaaGreatDoor
set_option maxRecDepth 100000
section
open Go Go.RowKit Go.Shelf
theorem kL1 {x:dC0} {m:Mx} (h:dL0 x=some m):m.OK:=by
 unfold dL0 at h;split at h
 ·rename_i hn
  cases h
  exact cP0 _ (lY0 hn)
 ·cases h
structure tD0 (x:dC0) (w:World) (db:Nat) (m:Mx):Prop where
 src:dL0 x=some m
 ok:m.OK
 made:pI x.p (some m) x.e=0
 d:fA w db x.p m (sortS x.e)
theorem tD0.dk {x:dC0} {w:World} {db:Nat} {m:Mx} (h:tD0 x w db m):bT x.p m (sortS x.e):=yK h.made
theorem tD0.grows {x:dC0} {w w':World} {db:Nat} {m:Mx} (h:tD0 x w db m) (hg:aB w w'):tD0 x w' db m:=⟨h.src,h.ok,h.made,h.d.grows hg⟩
def OpP (x:dC0) (w:World) (e:Ending) (w':World):Prop :=
 aB w w'/\((pI x.p (dL0 x) x.e≠0/\e=.returned (.tuple #[.pointer none,.int .i64 (pI x.p (dL0 x) x.e)]))\/∃db m,e=.returned (.tuple #[.pointer (some ⟨db,0,none⟩),.int .i64 0])/\tD0 x w' db m)
end
section
open Go Go.RowKit Go.Shelf
attribute [local go_sem] aO aM
theorem yB0 (x:dC0) (A:gQ0) (ca:Option Addr) (cn cc:Nat) (pf pv:ByteArray) (ar:Int) (w:World) (he:Env w) (ag:lS0 x) (hl:nY x=true) (ac:hH0 w A x) :
  Calls Tryz.prog 12 #[.agg #[.slice A.pa x.p.length A.pc,.int .i64 x.d,.slice A.sa x.s.length A.sc,.slice A.ea x.e.length A.ec,.slice ca cn cc,.string pf,.string pv,.int .i64 ar]] w (OpP x w):=by
 obtain⟨_,_,_,_,ym⟩:=kE0 hl;obtain⟨qg,lg,jh⟩:=pA1 hl ag;obtain⟨pa,pc,sa,sc,ea,ec⟩:=A;obtain⟨xp,xd,xs,xe⟩:=x;obtain⟨W1,bh⟩:=exq (w.alloc (.cells #[.slice pa xp.length pc,.int .i64 xd,.slice sa xs.length sc,.slice ea xe.length ec,.slice ca cn cc,.string pf,.string pv,.int .i64 ar] 29));have ai:aB w W1:=by rw[bh];exact aB.alloc _ _
 obtain⟨bc,_⟩:=cG (show aB (w.alloc (.cells #[.slice pa xp.length pc,.int .i64 xd,.slice sa xs.length sc,.slice ea xe.length ec,.slice ca cn cc,.string pf,.string pv,.int .i64 ar] 29)) W1 by rw[bh];exact aB.refl _)
 have q0:=bc 0 _ rfl;have q1:=bc 1 _ rfl;have q2:=bc 2 _ rfl;have q3:=bc 3 _ rfl;have CI:=Aa (aS1 ⟨xp,xd,xs,xe⟩ ⟨pa,pc,sa,sc,ea,ec⟩ W1 (he.grows ai) ag lg (ac.grows ai));unfold gQ0.agg gQ0.cells cZ at CI;simp only at CI;show Calls _ _ #[.agg #[.slice pa xp.length pc,.int .i64 xd,.slice sa xs.length sc,.slice ea xe.length ec,.slice ca cn cc,.string pf,.string pv,.int .i64 ar]] _ (OpP ⟨xp,xd,xs,xe⟩ w)
 by_cases h0:pI xp (dL0 ⟨xp,xd,xs,xe⟩) xe=0
 ·obtain⟨m,hm⟩:∃m,dL0 ⟨xp,xd,xs,xe⟩=some m:=by
   cases hs:dL0 ⟨xp,xd,xs,xe⟩ with
   | some m=>exact⟨m,rfl⟩
   | none =>
    rw[hs]at h0
    have:=(qJ h0).1
    unfold yF at this;split at this<;>cases this
  rw[hm]at h0;have hmo:=kL1 hm;have xw:=jR1 hmo ym h0;have ri:=aK0 h0 xw;have hdk:=yK h0;rw[hm,ri]at CI;have CO:=λ(b4:Option Addr) (d4:Nat) (u:World) (hu:aB w u) h1 h2 h3 h4=>Aa (xU0 xp m (sortS xe) b4 d4 u (he.grows hu) hdk hmo (λy hy=>qg y (eN0 hy)) xw h1 h2 h3 h4);have HP:∀w' db,aB w w'->fA w' db xp m (sortS xe)->OpP ⟨xp,xd,xs,xe⟩ w (.returned (.tuple #[.pointer (some ⟨db,0,none⟩),.int .i64 0])) w':=λw' db hg hd=>⟨hg,.inr ⟨db,m,rfl,hm,hmo,h0,hd⟩⟩;have HP:=Aa HP;generalize sortS xe=es at CI CO HP ⊢;clear he ag hl hm hmo h0 ac qg lg jh xw ri hdk bc ym;go_enter Tryz.func12,Tryz.ntmps12
  go_wp2_with fail
  rw[<-bh];clear bh;refine CI.out.mono ?_;rintro e w2 ⟨ae,v2,rfl,gq⟩;have td:aU w2 W1.heap.size 5 1 aV v2 (file14 (imgP xp m es)):=gq;obtain⟨b4,d4,rfl,hd4,hm4,xv⟩:=td.at_ bI.len;have hn4:=cF td;have g2:=ai.tr ae;have CO2:=CO b4 d4 w2 g2 hd4 hm4 hn4 xv;generalize (file14 (imgP xp m es)).length=FL at CO2 ⊢;clear gq td hd4 hm4 hn4 xv CI CO q0 q1 q2 q3;go_wp2_with fail
  refine CO2.out.mono ?_;rintro e w3 ⟨aw,db,rfl,lf,_,_⟩;have HF:=HP.out w3 db (g2.tr aw) lf;clear CO2 HP lf;go_wp2_with fail
  go_ret2;exact HF
 ·have ri:=rD0 h0
  rw[ri]at CI;have HP:∀w' E,E=pI xp (dL0 ⟨xp,xd,xs,xe⟩) xe->aB w w'->OpP ⟨xp,xd,xs,xe⟩ w (.returned (.tuple #[.pointer none,.int .i64 E])) w':=λw' E hE hg=>⟨hg,.inl ⟨h0,by rw[hE]⟩⟩;have HP:=Aa HP;obtain⟨E,hE⟩:=exq (pI xp (dL0 ⟨xp,xd,xs,xe⟩) xe);have HEE:=Aa hE;simp only at CI;rw[<-hE]at CI h0;have hEb:(E != 0)=true:=by simpa using h0
  clear he ag hl ac qg lg jh ri bc ym hE h0;go_enter Tryz.func12,Tryz.ntmps12
  go_wp2_with fail
  rw[<-bh];clear bh;refine CI.out.mono ?_;rintro e w2 ⟨ae,v2,rfl,gq⟩;have HF:=HP.out w2 E HEE.out (ai.tr ae);clear CI gq q0 q1 q2 q3 HP HEE;go_wp2_with fail
  go_ret2;exact HF
theorem light38_any (x:zZ0) (A:oI0) (w:World) (ag:mP1 x) (ac:fE0 w A x) :
  Calls Tryz.prog 11 #[A.agg x] w λe w'=>e=.returned (.bool (wX x))/\aB w w':=by
 have hlc:=ag.lc;have yu:=ag.p;have hvv:=ag.v;obtain⟨⟨xp,xd,xs,xe⟩,cs,pf,pv,ar⟩:=x;obtain⟨⟨pa,pc,sa,sc,ea,ec⟩,ca,cc⟩:=A;simp only at hlc yu hvv;obtain⟨W0,dh⟩:=exq (w.alloc (.cells #[.slice pa xp.length pc,.int .i64 xd,.slice sa xs.length sc,.slice ea xe.length ec,.slice ca cs.length cc,.string pf,.string pv,.int .i64 ar] 29));have et:aB w W0:=by rw[dh];exact aB.alloc _ _
 obtain⟨bc,_⟩:=cG (show aB (w.alloc (.cells #[.slice pa xp.length pc,.int .i64 xd,.slice sa xs.length sc,.slice ea xe.length ec,.slice ca cs.length cc,.string pf,.string pv,.int .i64 ar] 29)) W0 by rw[dh];exact aB.refl _)
 have q0:=bc 0 _ rfl;have q1:=bc 1 _ rfl;have q2:=bc 2 _ rfl;have q3:=bc 3 _ rfl;have q4:=bc 4 _ rfl;have q5:=bc 5 _ rfl;have q6:=bc 6 _ rfl;have q7:=bc 7 _ rfl;obtain⟨xb,ny⟩:=exq w.heap.size;rw[<-ny]at q0 q1 q2 q3 q4 q5 q6 q7;have CL:=λ(u:World) (hu:aB w u)=>Aa (wK0 ⟨xp,xd,xs,xe⟩ ⟨pa,pc,sa,sc,ea,ec⟩ u ag.s (ac.s.grows hu));unfold gQ0.agg gQ0.cells at CL;simp only at CL;have HL:=λ(u:World) (hu:aB w u)=>Aa (ac.c.grows hu)
 have HQ:Hid ((∀y∈cs,cY1 y=false)->wX ⟨⟨xp,xd,xs,xe⟩,cs,pf,pv,ar⟩=(nY ⟨xp,xd,xs,xe⟩&&(decide (cs.length<=100)&&(decide (pf.size<=400)&&decide (pv.size<=400))))):=λh=>by
  unfold wX;simp only
  have:cs.any cY1=false:=by
   rw[List.any_eq_false];intro y hy;rw[h y hy];decide
  rw[this];rfl
 have HB:Hid (∀y∈cs,cY1 y=true->wX ⟨⟨xp,xd,xs,xe⟩,cs,pf,pv,ar⟩=false):=λy hy h=>by
  unfold wX;simp only;rw[List.any_eq_true.2 ⟨y,hy,h⟩];rfl
 obtain⟨LB,hLB⟩:=exq (wX ⟨⟨xp,xd,xs,xe⟩,cs,pf,pv,ar⟩);rw[<-hLB]at HQ HB ⊢;obtain⟨LS,hLS⟩:=exq (nY ⟨xp,xd,xs,xe⟩);rw[<-hLS]at HQ CL;show Calls _ _ #[.agg #[.slice pa xp.length pc,.int .i64 xd,.slice sa xs.length sc,.slice ea xe.length ec,.slice ca cs.length cc,.string pf,.string pv,.int .i64 ar]] _ _
 have HW0:=Aa (And.intro dh ny);clear hLB hLS ac bc ag dh ny;go_enter Tryz.func11,Tryz.ntmps11
 go_wp2_with fail
 rw[<-HW0.out.1,<-HW0.out.2];clear HW0;go_loopw [3] (λi wr=>∃k:Nat,k<=cs.length/\i=.int .i64 k/\Hid (∀y∈cs.take k,cY1 y=false)/\wr=W0) (λi _=>cs.length-(intOf i).toNat)
 case atStart=>exact⟨0,Ah _,rfl,(λy hy=>by simp at hy),rfl⟩
 case round =>
  obtain⟨k,hk,rfl,hF,rfl⟩:=hrel;by_cases af:k<cs.length
  ·have cz:(k:Int)<cs.length:=by omega
   obtain⟨⟨ck,cv⟩,hx⟩:∃y,cs[k]?=some y:=⟨_,Ac af⟩;obtain⟨ba,oa,rfl,bz⟩:=(HL wr et).out.get (aJ af);have c0:wr.cell? ⟨ba,oa+k*2,none⟩=some (.string ck):=bz k _ hx 0 _ rfl;by_cases hb:500<ck.size
   ·have q8:(500:Int)<ck.size:=by omega
    have HX:Hid (LB=false):=HB.out _ (Ai hx) (by unfold cY1;simp[hb]);clear hb hx bz hF HQ CL;go_wp2_with fail
    go_ret;exact⟨by rw[HX.out];rfl,et⟩
   ·have q8:¬(500:Int)<ck.size:=by omega
    have HF2:Hid (∀y∈cs.take (k+1),cY1 y=false):=λy hy=>by
     rw[bJ hx]at hy;rcases List.mem_append.1 hy with hy|hy
     ·exact hF.out y hy
     ·rw[List.mem_singleton.1 hy];unfold cY1;simp;omega
    clear hb hx bz hF;go_wp2_with fail
    go_roundw
    case rel=>exact⟨k+1,af,by go_num,HF2,trivial⟩
    case measure=>simp[intOf];omega
  ·obtain rfl:k=cs.length:=by omega
   have cz:¬((cs.length:Nat):Int)<cs.length:=by omega
   have tf:=hF.out;rw[Af]at tf;have HE:=Aa (HQ.out tf);have d1:decide ((cs.length:Int)<=100)=decide (cs.length<=100):=by rw[Ad];simp;omega
   have d2:decide ((pf.size:Int)<=400)=decide (pf.size<=400):=by rw[Ad];simp;omega
   have d3:decide ((pv.size:Int)<=400)=decide (pv.size<=400):=by rw[Ad];simp;omega
   have CL2:=CL wr et;have KEY:Hid (∀w',aB wr w'->(Ending.returned (.bool (LS&&(decide (cs.length<=100)&&(decide (pf.size<=400)&&decide (pv.size<=400)))))=.returned (.bool LB)/\aB w w')):=λw' hg=>⟨by rw[HE.out],et.tr hg⟩;clear hF tf HQ HB CL HE;generalize decide (cs.length<=100)=B1 at KEY d1;generalize decide (pf.size<=400)=B2 at KEY d2;generalize decide (pv.size<=400)=B3 at KEY d3
   cases LS with
   | false =>
    go_wp2_with fail
    refine CL2.out.mono ?_;rintro e w2 ⟨rfl,ae⟩;have q4:=ae.cell q4;have q5:=ae.cell q5;have q6:=ae.cell q6;go_wp2_with fail
    go_ret;exact KEY.out _ ae
   | true =>
    cases B1 with
    | false =>
     go_wp2_with fail
     refine CL2.out.mono ?_;rintro e w2 ⟨rfl,ae⟩;have q4:=ae.cell q4;have q5:=ae.cell q5;have q6:=ae.cell q6;go_wp2_with fail
     go_ret;exact KEY.out _ ae
    | true =>
     cases B2 with
     | false =>
      go_wp2_with fail
      refine CL2.out.mono ?_;rintro e w2 ⟨rfl,ae⟩;have q4:=ae.cell q4;have q5:=ae.cell q5;have q6:=ae.cell q6;go_wp2_with fail
      go_ret;exact KEY.out _ ae
     | true =>
      go_wp2_with fail
      refine CL2.out.mono ?_;rintro e w2 ⟨rfl,ae⟩;have q4:=ae.cell q4;have q5:=ae.cell q5;have q6:=ae.cell q6;go_wp2_with fail
      go_ret;exact KEY.out _ ae
def pY0:zZ0:=⟨uP0,[],⟨#[227,129,139]⟩,⟨#[]⟩,5⟩
theorem eR0 (w:World):Calls Tryz.prog 24 #[] w λe w'=>∃A:oI0,e=.returned (A.agg pY0)/\fE0 w' A pY0/\aB w w':=by
 obtain⟨W0,dh⟩:=exq (w.alloc (.cells #[.slice (some ⟨w.heap.size+1,0,none⟩) 2 2,.int .i64 10,.slice none 0 0,.slice (some ⟨w.heap.size+1+1+1,0,none⟩) 3 3,.slice none 0 0,.string ⟨#[227,129,139]⟩,.string ⟨#[]⟩,.int .i64 5] 29));obtain⟨W1,bh⟩:=exq (W0.alloc (.cells (xH.flatMap cB).toArray 99));obtain⟨W2,iv⟩:=exq (W1.alloc (.cells #[.slice (some ⟨w.heap.size+1,0,none⟩) 2 2,.int .i64 10,.slice none 0 0,.slice (some ⟨w.heap.size+1+1+1,0,none⟩) 3 3] 26));obtain⟨W3,iy⟩:=exq (W2.alloc (.cells (lE0.flatMap bF).toArray 62));have et:aB w W0:=by rw[dh];exact aB.alloc _ _
 have ai:aB W0 W1:=by rw[bh];exact aB.alloc _ _
 have ae:aB W1 W2:=by rw[iv];exact aB.alloc _ _
 have aw:aB W2 W3:=by rw[iy];exact aB.alloc _ _
 have j8:W0.heap.size=w.heap.size+1:=by rw[dh];simp
 have fe:W1.heap.size=w.heap.size+1+1:=by rw[bh];simp[j8]
 have iq:W2.heap.size=w.heap.size+1+1+1:=by rw[iv];simp[fe]
 have hp:aG W3 (some ⟨w.heap.size+1,0,none⟩) 2 (xH.map cB):=by
  have h:=oZ (enc:=cB) (k:=2) (w:=W0) (t:=99) (fz:=(0,0)) (cs:=(xH.flatMap cB).toArray) (λ_=>rfl) xH rfl;rw[j8,<-bh]at h;exact h.grows (ae.tr aw)
 have he:aG W3 (some ⟨w.heap.size+1+1+1,0,none⟩) 5 (lE0.map bF):=by
  have h:=oZ (enc:=bF) (k:=5) (w:=W2) (t:=62) (fz:=(0,0)) (cs:=(lE0.flatMap bF).toArray) (λ_=>rfl) lE0 rfl;rw[iq,<-iy]at h;exact h
 have HSRC:Hid (fE0 W3 ⟨⟨some ⟨w.heap.size+1,0,none⟩,2,none,0,some ⟨w.heap.size+1+1+1,0,none⟩,3⟩,none,0⟩ pY0/\aB w W3):=⟨⟨⟨hp,aG.nil _ _ _,he⟩,aG.nil _ _ _⟩,et.tr (ai.tr (ae.tr aw))⟩;obtain⟨bc,_⟩:=cG (w:=w) (cs:=#[.slice (some ⟨w.heap.size+1,0,none⟩) 2 2,.int .i64 10,.slice none 0 0,.slice (some ⟨w.heap.size+1+1+1,0,none⟩) 3 3,.slice none 0 0,.string ⟨#[227,129,139]⟩,.string ⟨#[]⟩,.int .i64 5]) (t:=29) (w':=W3) (by rw[<-dh];exact ai.tr (ae.tr aw));have b0:=bc 0 _ rfl;have b1:=bc 1 _ rfl;have b2:=bc 2 _ rfl;have b3:=bc 3 _ rfl;have b4:=bc 4 _ rfl;have b5:=bc 5 _ rfl;have b6:=bc 6 _ rfl;have b7:=bc 7 _ rfl
 have hE:W3=(((w.alloc (.cells #[.slice (some ⟨w.heap.size+1,0,none⟩) 2 2,.int .i64 10,.slice none 0 0,.slice (some ⟨w.heap.size+1+1+1,0,none⟩) 3 3,.slice none 0 0,.string ⟨#[227,129,139]⟩,.string ⟨#[]⟩,.int .i64 5] 29)).alloc (.cells #[.string ⟨#[66,79,83]⟩,.int .i64 0,.string ⟨#[110,111,117,110]⟩,.int .i64 0] 99)).alloc (.cells #[.slice (some ⟨w.heap.size+1,0,none⟩) 2 2,.int .i64 10,.slice none 0 0,.slice (some ⟨w.heap.size+1+1+1,0,none⟩) 3 3] 26)).alloc (.cells #[.string ⟨#[227,129,139]⟩,.string ⟨#[232,154,138]⟩,.int .i64 1,.int .i64 1,.int .i64 30,.string ⟨#[227,129,139]⟩,.string ⟨#[231,167,145]⟩,.int .i64 1,.int .i64 1,.int .i64 20,.string ⟨#[227,129,139,227,129,141]⟩,.string ⟨#[230,159,191]⟩,.int .i64 1,.int .i64 1,.int .i64 40] 62):=by
  rw[iy,iv,bh,dh];rfl
 have HE:=Aa hE;clear dh bh iv iy et ai ae aw j8 fe iq hp he bc hE;go_enter Tryz.func24,Tryz.ntmps24
 go_wp2_with fail
 rw[<-HE.out];refine bodyPost_ret (v:=.agg #[.slice (some ⟨w.heap.size+1,0,none⟩) 2 2,.int .i64 10,.slice none 0 0,.slice (some ⟨w.heap.size+1+1+1,0,none⟩) 3 3,.slice none 0 0,.string ⟨#[227,129,139]⟩,.string ⟨#[]⟩,.int .i64 5]) (by simp[results,Tryz.results24,go_sem,b0,b1,b2,b3,b4,b5,b6,b7]) rfl ⟨_,rfl,HSRC.out.1,HSRC.out.2⟩
theorem lH0 {l:List Gs} {r s:ByteArray} (h:∀x∈l, ¬(x.r=r/\x.s=s)):qW l r s = -1:=by
 unfold qW
 have:l.findIdx? (λx=>decide (x.r=r/\x.s=s))=none:=List.findIdx?_eq_none_iff.2 λx hx=>decide_eq_false (h x hx)
 rw[this]
theorem lG0 {l:List Gs} {r s:ByteArray} {k:Nat} {x:Gs} (h:∀y∈l.take k, ¬(y.r=r/\y.s=s)) (hx:l[k]?=some x) (hr:x.r=r) (hs:x.s=s):qW l r s=k:=by
 unfold qW;obtain⟨hk,he⟩:=List.getElem?_eq_some_iff.1 hx
 have:l.findIdx? (λx=>decide (x.r=r/\x.s=s))=some k:=by
  rw[List.findIdx?_eq_some_iff_getElem];refine⟨hk,by rw[he];simp[hr,hs],λj hj=>?_⟩
  have:=h l[j] (List.mem_take_iff_getElem.2 ⟨j,by omega,rfl⟩)
  simpa using this
 rw[this]
theorem place_any (l:List Gs) (a:Option Addr) (c:Nat) (r s:ByteArray) (w:World) (hl:l.length<=1048576) (ac:aG w a 3 (l.map gI)) :
  Calls Tryz.prog 21 #[.slice a l.length c,.string r,.string s] w λe w'=>e=.returned (.int .i64 (qW l r s))/\aB w w':=by
 have HAT:=Aa ac;have HN:=Aa (lH0 (l:=l) (r:=r) (s:=s));have HS:=λ(k:Nat) (x:Gs)=>Aa (lG0 (l:=l) (r:=r) (s:=s) (k:=k) (x:=x));obtain⟨P,hP⟩:=exq (qW l r s);rw[<-hP]at HN HS ⊢;clear hP ac;go_enter Tryz.func21,Tryz.ntmps21
 go_wp2_with fail
 go_loopw [7] (λi wr=>∃k:Nat,k<=l.length/\i=.int .i64 k/\Hid (∀y∈l.take k,¬(y.r=r/\y.s=s))/\Hid (aB w wr)) (λi _=>l.length-(intOf i).toNat)
 case atStart=>exact⟨0,Ah _,rfl,(λy hy=>by simp at hy),aB.refl _⟩
 case round =>
  obtain⟨k,hk,rfl,hF,hg⟩:=hrel;by_cases af:k<l.length
  ·have cz:(k:Int)<l.length:=by omega
   obtain⟨⟨xr,xs,xc⟩,hx⟩:∃y,l[k]?=some y:=⟨_,Ac af⟩;obtain⟨ba,oa,rfl,bz⟩:=(HAT.out.grows hg.out).get (aJ af);have c0:wr.cell? ⟨ba,oa+k*3,none⟩=some (.string xr):=bz k _ hx 0 _ rfl;have c1:wr.cell? ⟨ba,oa+k*3+1,none⟩=some (.string xs):=bz k _ hx 1 _ rfl
   have HN2:Hid (¬(xr=r/\xs=s)->∀y∈l.take (k+1),¬(y.r=r/\y.s=s)):=λh y hy=>by
    rw[bJ hx]at hy;rcases List.mem_append.1 hy with hy|hy
    ·exact hF.out y hy
    ·rw[List.mem_singleton.1 hy];exact h
   have HP2:Hid (xr=r->xs=s->P=k):=λh1 h2=>(HS k _).out hF.out hx h1 h2;clear bz hx hF HS;by_cases e1:xr=r
   ·by_cases e2:xs=s
    ·have HX:=Aa (HP2.out e1 e2)
     subst e1 e2;clear HP2 HN2;go_wp2_with fail
     go_ret;exact⟨by rw[HX.out];rfl,hg.out⟩
    ·obtain⟨n1,n2⟩:=jV0 e2
     have HF2:=Aa (HN2.out λh=>e2 h.2);subst e1;clear HP2 HN2 e2;go_wp2_with fail
     go_roundw
     case rel=>exact⟨k+1,af,by go_num,HF2,hg⟩
     case measure=>simp[intOf];omega
   ·obtain⟨n1,n2⟩:=jV0 e1
    have HF2:=Aa (HN2.out λh=>e1 h.1);clear HP2 HN2 e1;go_wp2_with fail
    go_roundw
    case rel=>exact⟨k+1,af,by go_num,HF2,hg⟩
    case measure=>simp[intOf];omega
  ·obtain rfl:k=l.length:=by omega
   have cz:¬((l.length:Nat):Int)<l.length:=by omega
   have tf:=hF.out;rw[Af]at tf;have HX:=Aa (HN.out tf);clear hF tf HN HS;go_wp2_with fail
   go_ret;exact⟨by rw[HX.out];rfl,hg.out⟩
theorem iV1 (l:List Gs) (a b d:Option Addr) (c1 c2 c3:Nat) (w:World) (hl:l.length<=1048576) (h1:aG w a 3 (l.map gI)) (h2:aG w b 1 (l.map λx=>[.string x.s])) (h3:aG w d 1 (l.map λx=>[.int .i64 x.c])) :
  Calls Tryz.prog 25 #[.slice a l.length c1,.slice b l.length c2,.slice d l.length c3] w λe w'=>e=.returned (.bool true)/\aB w w':=by
 have H1:=Aa h1;have H2:=Aa h2;have H3:=Aa h3;clear h1 h2 h3;go_enter Tryz.func25,Tryz.ntmps25
 go_wp2_with fail
 go_loopw [7] (λi wr=>∃j:Nat,j<=l.length/\i=.int .i64 j/\aB w wr) (λi _=>l.length-(intOf i).toNat)
 case atStart=>exact⟨0,Ah _,rfl,aB.refl _⟩
 case round =>
  obtain⟨j,hj,rfl,hg⟩:=hrel;by_cases af:j<l.length
  ·obtain⟨⟨xr,xs,xc⟩,hx⟩:∃x,l[j]?=some x:=⟨_,Ac af⟩
   obtain⟨ba,oa,rfl,bz⟩:=(H1.out.grows hg).get (aJ af);obtain⟨bb,ob,rfl,hcb⟩:=(H2.out.grows hg).get (aJ af);obtain⟨bd,od,rfl,hcd⟩:=(H3.out.grows hg).get (aJ af);have im:(j:Int)<l.length:=by omega
   have a1:∀x:Ext aB wr.drew,x.u.cell? ⟨ba,oa+j*3+1,none⟩=some (.string xs):=aF ((aB.drew wr).cell (bz j _ hx 1 _ rfl));have a2:∀x:Ext aB wr.drew,x.u.cell? ⟨ba,oa+j*3+2,none⟩=some (.int .i64 xc):=aF ((aB.drew wr).cell (bz j _ hx 2 _ rfl));have b1:∀x:Ext aB wr.drew,x.u.cell? ⟨bb,ob+j,none⟩=some (.string xs):=aF ((aB.drew wr).cell (by have:=hcb j _ hx 0 _ rfl;rwa [Al,Ak]at this));have d1:∀x:Ext aB wr.drew,x.u.cell? ⟨bd,od+j,none⟩=some (.int .i64 xc):=aF ((aB.drew wr).cell (by have:=hcd j _ hx 0 _ rfl;rwa [Al,Ak]at this));have e2:(xs.toList==xs.toList)=true:=by simp
   clear bz hcb hcd hx;go_wp2_with fail
   refine bH (bE 22 []) (by kernel_rfl) (λd _ _ _ _ h=>by cases d<;>exact h) ?_
   iterate 22 (refine aH rfl (λK hK=>?_);go_simp;refine hK _ ?_;clear hK K)
   refine bN ?_;clear a1 a2 b1 d1;go_wp2_with fail
   go_roundw
   case rel=>exact⟨j+1,af,by go_num,hg.dr⟩
   case measure=>simp[intOf];omega
  ·obtain rfl:j=l.length:=by omega
   go_wp2_with fail
   go_ret;exact⟨rfl,hg⟩
theorem plist_nil (ca:Option Addr) (cn cc:Nat) (pf pv:ByteArray) (ar:Int) (w:World) :
  Calls Tryz.prog 16 #[.pointer none,.slice ca cn cc,.string pf,.string pv,.int .i64 ar] w λe w'=>e=.returned (.slice none 0 0)/\aB w w':=by
 have HG:=Aa (aB.alloc w (.cells #[.string pf] 9));go_enter Tryz.func16,Tryz.ntmps16
 go_wp2_with fail
 go_ret;exact⟨rfl,HG.out⟩
theorem kJ0 (db:Nat) (ca:Option Addr) (cn cc:Nat) (pf pv:ByteArray) (ar:Int) (w:World) (he:Env w) (hpf:pf.size<=1048576) (h:Ab pf.data.toList=false\/ar<1) :
  Calls Tryz.prog 16 #[.pointer (some ⟨db,0,none⟩),.slice ca cn cc,.string pf,.string pv,.int .i64 ar] w λe w'=>e=.returned (.slice none 0 0)/\aB w w':=by
 obtain⟨W1,bh⟩:=exq (w.alloc (.cells #[.string pf] 9));obtain⟨pb,ei⟩:=exq w.heap.size;have qp:aB w W1:=by rw[bh];exact aB.alloc _ _
 have CV:=Aa (uL pf W1 (by omega) (he.grows qp));generalize Ab pf.data.toList=v at CV h;clear he;go_enter Tryz.func16,Tryz.ntmps16
 go_wp2_with fail
 rw[<-bh,<-ei];clear bh ei
 cases v with
 | false =>
  clear h;refine CV.out.mono ?_;rintro e w2 ⟨rfl,ae⟩;clear CV;go_wp2_with fail
  go_ret;exact⟨rfl,qp.tr ae⟩
 | true =>
  have h1:decide (ar<1)=true:=decide_eq_true (h.resolve_left (by simp));clear h;refine CV.out.mono ?_;rintro e w2 ⟨rfl,ae⟩;clear CV;go_wp2_with fail
  go_ret;exact⟨rfl,qp.tr ae⟩
theorem lI0 (p:List cY) (m:Mx) (es:List En) (db:Nat) (cs:List Cnt) (ca:Option Addr) (cc:Nat) (pf pv:ByteArray) (ar:Int) (w:World) (he:Env w) (hdk:bT p m es) (ac:fA w db p m es)
  (cr:cs.length<=1048576) (zr:∀c∈cs,uM0 c) (hcz:∀c∈cs,c.k.size<=1048576) (bz:aG w ca 2 (cs.map kC)) (hpf:pf.size<=1048576) (hpv:pv.size<=1048576) :
  Calls Tryz.prog 16 #[.pointer (some ⟨db,0,none⟩),.slice ca cs.length cc,.string pf,.string pv,.int .i64 ar] w (iQ1 (sW es cs pf pv ar) w):=by
 by_cases hv:Ab pf.data.toList=true
 ·have gq:Ab (bl pf)=true:=hv
  by_cases h1:1<=ar
  ·have:sW es cs pf pv ar=fI es cs pf pv ar:=by unfold sW;rw[if_pos gq]
   rw[this];exact hT1 p m es db cs ca cc pf pv ar w he hdk ac cr zr hcz bz hpf hpv hv h1
  ·have:sW es cs pf pv ar=[]:=by
    unfold sW fI;rw[if_pos gq,show (min ar 60).toNat=0 by omega,List.take_zero]
   rw[this];exact(kJ0 db ca cs.length cc pf pv ar w he hpf (Or.inr (by omega))).mono λe w' ⟨h1,h2⟩=>⟨_,h1,aU.nil _ _ _ _ _,h2⟩
 ·have gq:¬Ab (bl pf)=true:=hv
  have:sW es cs pf pv ar=[]:=by unfold sW;rw[if_neg gq]
  rw[this];exact(kJ0 db ca cs.length cc pf pv ar w he hpf (Or.inl (by simpa using hv))).mono λe w' ⟨h1,h2⟩=>⟨_,h1,aU.nil _ _ _ _ _,h2⟩
def kA:ByteArray:=⟨#[227,129,139]⟩
def kB:ByteArray:=⟨#[227,129,139,227,129,141]⟩
def sA:ByteArray:=⟨#[231,167,145]⟩
def sB:ByteArray:=⟨#[232,154,138]⟩
def sC:ByteArray:=⟨#[230,159,191]⟩
def yL:List Gs:=[⟨kA,sA, -2⟩,⟨kA,sB, -3⟩,⟨kB,sC, -4⟩]
def zO:List Gs:=[⟨kB,sC,746⟩,⟨kA,sA, -2⟩,⟨kA,sB, -3⟩]
def fI0:List Cnt:=[⟨⟨#[49,227,129,139,227,129,141,0,230,159,191]⟩,65536⟩]
theorem nK1:sW kP0 [] kA ⟨#[]⟩ 5=yL:=by decide +kernel
theorem mV1:sW kP0 fI0 kA ⟨#[]⟩ 5=zO:=by decide +kernel
theorem dH1:bonI 65536=750:=by decide +kernel
theorem sB0:nY uP0=true:=by decide +kernel
theorem wD0:bT xH iH0 kP0:=yK iO0
theorem cZ1:∀c∈fI0,uM0 c:=λc hc=>by
 rw[List.mem_singleton.1 hc];exact⟨by decide,xR0 (n:=65536) (by decide) (by decide)⟩
theorem jQ1:∀c∈fI0,c.k.size<=1048576:=by decide
theorem uZ0 (A:oI0) (w:World) (he:Env w) (ac:fE0 w A pY0) :
  Calls Tryz.prog 12 #[A.agg pY0] w λe w'=>∃db,e=.returned (.tuple #[.pointer (some ⟨db,0,none⟩),.int .i64 0])/\fA w' db xH iH0 kP0/\aB w w':=by
 refine(yB0 uP0 A.s A.ca 0 A.cc kA ⟨#[]⟩ 5 w he uQ0 sB0 ac.s).mono λe w' ⟨hg,hd⟩=>?_;rcases hd with ⟨h,_⟩|⟨db,m,rfl,hd⟩
 ·rw[qB0]at h
  exact absurd iO0 h
 ·have hm:=hd.src
  rw[qB0]at hm;cases hm
  exact⟨db,rfl,hd.d,hg⟩
theorem works38_any (w:World) (he:Env w):Calls Tryz.prog 14 #[] w λe w'=>e=.returned (.bool true)/\aB w w':=by
 have HE:=Aa he;have CO:=λ(A:oI0) (u:World) (hu:aB w u) (hA:fE0 u A pY0)=>Aa (uZ0 A u (he.grows hu) hA);have CA:=λ(db:Nat) (u:World) (hu:aB w u) (hd:fA u db xH iH0 kP0)=>Aa (lI0 xH iH0 kP0 db [] none 0 kA ⟨#[]⟩ 5 u (he.grows hu) wD0 hd (by decide) (λx hx=>by cases hx) (λx hx=>by cases hx) (aG.nil _ _ _) (by decide) (by decide));have CB:=λ(db:Nat) (a:Option Addr) (c:Nat) (u:World) (hu:aB w u) (hd:fA u db xH iH0 kP0) (bz:aG u a 2 (fI0.map kC))=>Aa (lI0 xH iH0 kP0 db fI0 a c kA ⟨#[]⟩ 5 u (he.grows hu) wD0 hd (by decide) cZ1 jQ1 bz (by decide) (by decide));rw[nK1]at CA;rw[mV1]at CB;have CN:=λ(u:World)=>Aa (iC0 65536 u (xR0 (by decide) (by decide)));rw[dH1]at CN;have CR:=λ(l:List Gs) (a b d:Option Addr) (c1 c2 c3:Nat) (u:World) (hl:l.length<=1048576) h1 h2 h3=>Aa (iV1 l a b d c1 c2 c3 u hl h1 h2 h3);clear he;go_enter Tryz.func14,Tryz.ntmps14
 go_wp2_with fail
 refine(eR0 w).mono ?_;rintro e w1 ⟨⟨⟨pa,pc,sa,sc,ea,ec⟩,ca,cc⟩,rfl,hA,ai⟩;unfold oI0.agg oI0.cells;simp only;obtain⟨W1,bh⟩:=exq (w1.alloc (.cells #[.slice pa pY0.s.p.length pc,.int .i64 pY0.s.d,.slice sa pY0.s.s.length sc,.slice ea pY0.s.e.length ec,.slice ca pY0.c.length cc,.string pY0.p,.string pY0.v,.int .i64 pY0.m] 29));have qp:aB w1 W1:=by rw[bh];exact aB.alloc _ _
 have CO2:=CO _ W1 (ai.tr qp) (hA.grows qp);unfold oI0.agg oI0.cells at CO2;simp only at CO2;clear CO;go_wp2_with fail
 rw[<-bh];clear bh;refine CO2.out.mono ?_;rintro e w2 ⟨db,rfl,hd,ae⟩;have g2:=(ai.tr qp).tr ae;have CA2:=CA db w2 g2 hd;unfold kA at CA2;clear CO2 CA hA;go_wp2_with fail
 refine CA2.out.mono ?_;rintro e w3 ⟨v3,rfl,hv3,aw⟩;obtain⟨a3,c3,rfl,_,_,ir⟩:=hv3.at_ eN1.len;rw[show yL.length=3 from rfl]
 have g3:=g2.tr aw;have lf:=hd.grows aw;obtain⟨W4,o7⟩:=exq (w3.alloc (.cells #[.string ⟨#[49,227,129,139,227,129,141,0,230,159,191]⟩,.int .i64 65536] 58));obtain⟨b4,vw⟩:=exq w3.heap.size;have gW4:aB w3 W4:=by rw[o7];exact aB.alloc _ _
 have hC4:aG W4 (some ⟨b4,0,none⟩) 2 (fI0.map kC):=by rw[o7,vw];exact oZ (enc:=kC) (k:=2) (w:=w3) (t:=58) (fz:=(0,0)) (cs:=(fI0.flatMap kC).toArray) (λ_=>rfl) fI0 rfl
 have CB2:=CB db (some ⟨b4,0,none⟩) 1 W4 (g3.tr gW4) (lf.grows gW4) hC4;unfold kA at CB2;rw[show fI0.length=1 from rfl]at CB2
 have HW4:=Aa (And.intro o7 vw);clear CA2 CB hv3 o7 vw hC4 lf hd;go_wp2_with fail
 rw[<-HW4.out.1,<-HW4.out.2];clear HW4;refine CB2.out.mono ?_;rintro e w5 ⟨v5,rfl,ub,bi⟩;obtain⟨a5,c5,rfl,_,_,ji⟩:=ub.at_ eN1.len;rw[show zO.length=3 from rfl]
 have g5:=(g3.tr gW4).tr bi;have ad8:=ir.grows (gW4.tr bi);obtain⟨W6,hW6⟩:=exq (w5.alloc (.cells #[.string sA,.string sB,.string sC] 9));obtain⟨W7,hW7⟩:=exq (W6.alloc (.cells #[.int .i64 (-2),.int .i64 (-3),.int .i64 (-4)] 3));obtain⟨b6,iw⟩:=exq w5.heap.size;have gW6:aB w5 W6:=by rw[hW6];exact aB.alloc _ _
 have gW7:aB W6 W7:=by rw[hW7];exact aB.alloc _ _
 have zW6:W6.heap.size=b6+1:=by rw[hW6,iw];simp
 have h6:aG W7 (some ⟨b6,0,none⟩) 1 (yL.map λx=>[.string x.s]):=by
  have h:aG W6 (some ⟨b6,0,none⟩) 1 (yL.map λx=>[.string x.s]):=by rw[hW6,iw];exact oZ (enc:=λx:Gs=>[.string x.s]) (k:=1) (w:=w5) (t:=9) (fz:=(0,0)) (cs:=(yL.flatMap λx=>[.string x.s]).toArray) (λ_=>rfl) yL rfl
  exact h.grows gW7
 have h7:aG W7 (some ⟨b6+1,0,none⟩) 1 (yL.map λx=>[.int .i64 x.c]):=by rw[hW7,<-zW6];exact oZ (enc:=λx:Gs=>[.int .i64 x.c]) (k:=1) (w:=W6) (t:=3) (fz:=(0,0)) (cs:=(yL.flatMap λx=>[.int .i64 x.c]).toArray) (λ_=>rfl) yL rfl
 have C1:=CR yL a3 (some ⟨b6,0,none⟩) (some ⟨b6+1,0,none⟩) c3 3 3 W7 (by decide) (ad8.grows (gW6.tr gW7)) h6 h7;rw[show yL.length=3 from rfl]at C1
 have HW6:=Aa (And.intro hW6 (And.intro hW7 iw));clear CB2 ub hW6 hW7 iw h6 h7 zW6;unfold sA sB sC at HW6;go_wp2_with fail
 rw[<-HW6.out.2.2,<-HW6.out.1,<-HW6.out.2.1];clear HW6;refine C1.out.mono ?_;rintro e w8 ⟨rfl,fq⟩;have g8:=g5.tr (gW6.tr (gW7.tr fq));obtain⟨W9,zh⟩:=exq (w8.alloc (.cells #[.string sC,.string sA,.string sB] 9));obtain⟨W0,dh⟩:=exq (W9.alloc (.cells #[.int .i64 746,.int .i64 (-2),.int .i64 (-3)] 3));obtain⟨b9,lw⟩:=exq w8.heap.size;have gW9:aB w8 W9:=by rw[zh];exact aB.alloc _ _
 have gW0:aB W9 W0:=by rw[dh];exact aB.alloc _ _
 have zW9:W9.heap.size=b9+1:=by rw[zh,lw];simp
 have h9:aG W0 (some ⟨b9,0,none⟩) 1 (zO.map λx=>[.string x.s]):=by
  have h:aG W9 (some ⟨b9,0,none⟩) 1 (zO.map λx=>[.string x.s]):=by rw[zh,lw];exact oZ (enc:=λx:Gs=>[.string x.s]) (k:=1) (w:=w8) (t:=9) (fz:=(0,0)) (cs:=(zO.flatMap λx=>[.string x.s]).toArray) (λ_=>rfl) zO rfl
  exact h.grows gW0
 have h0:aG W0 (some ⟨b9+1,0,none⟩) 1 (zO.map λx=>[.int .i64 x.c]):=by rw[dh,<-zW9];exact oZ (enc:=λx:Gs=>[.int .i64 x.c]) (k:=1) (w:=W9) (t:=3) (fz:=(0,0)) (cs:=(zO.flatMap λx=>[.int .i64 x.c]).toArray) (λ_=>rfl) zO rfl
 have C2:=CR zO a5 (some ⟨b9,0,none⟩) (some ⟨b9+1,0,none⟩) c5 3 3 W0 (by decide) (ji.grows (gW6.tr (gW7.tr (fq.tr (gW9.tr gW0))))) h9 h0;rw[show zO.length=3 from rfl]at C2
 have CN2:=CN W9;have HW9:=Aa (And.intro zh (And.intro dh lw));clear C1 CR CN zh dh lw h9 h0;unfold sA sB sC at HW9;have HZ9:=Aa zW9;clear zW9;go_wp2_with fail
 rw[<-HW9.out.1];refine CN2.out.mono ?_;rintro e w9 ⟨rfl,rfl⟩;clear CN2;go_wp2_with fail
 rw[HZ9.out,<-HW9.out.2.2,<-HW9.out.2.1];clear HW9 HZ9;refine C2.out.mono ?_;rintro e w10 ⟨rfl,jy⟩;have HG:=Aa (g8.tr (gW9.tr (gW0.tr jy)));clear C2;go_wp2_with fail
 go_ret;exact⟨rfl,HG.out⟩
theorem begins30_any (s p:ByteArray) (w:World) (_hs:s.size<=140737488355328) (hp:p.size<=140737488355328):Calls Tryz.prog 18 #[.string s,.string p] w λe w'=>e=.returned (.bool (qR s p))/\w'=w:=by
 by_cases af:p.size<=s.size
 ·have h1:(p.size:Int)<=s.size:=by omega
  have hcq:s.extract 0 p.size=cutB s p.size:=by
   unfold cutB;rw[<-nC1];exact(lI _).symm
  have i6:∀W:World,(Instr.slice 9 (.string s) none (some (.int .i64 p.size)) none).run Tryz.prog W=.ok (.string (cutB s p.size)) W:=λW=>by
   rw[<-hcq];exact run_slice_string_h W _ s Tryz.underlying9 .i64 p.size (by omega) h1
  have hb:((cutB s p.size).toList==p.toList)=qR s p:=by
   rw[Ad,beq_iff_eq];constructor
   ·intro h
    have e:=iV h;exact((qT0 af).1 e.symm).1
   ·intro h
    rw[<-(qT0 af).2 ⟨h,rfl⟩]
  clear hcq;generalize cutB s p.size=q at i6 hb;go_enter Tryz.func18,Tryz.ntmps18
  go_wp2_with fail
  go_ret;exact⟨rfl,rfl⟩
 ·have h1:¬(p.size:Int)<=s.size:=by omega
  have hb:qR s p=false:=by
   cases hb:qR s p with
   | false=>rfl
   | true=>exact absurd (kW1 hb) af
  rw[hb];go_enter Tryz.func18,Tryz.ntmps18
  go_wp2_with fail
  go_ret;exact⟨rfl,rfl⟩
theorem mL0 (s:ByteArray) (w:World) (hs:s.size<=35184372088832) :
  Calls Tryz.prog 46 #[.string s] w λe w'=>e=.returned (.bool (Ab s.data.toList))/\aB w w':=by
 have CR:=yH0 s w hs;unfold tH at CR;generalize (if Ab s.data.toList then runesD s.data.toList else [])=l at CR
 generalize Ab s.data.toList=v at CR ⊢;have CR:=Aa CR;go_enter Tryz.func46,Tryz.ntmps46
 go_wp2_with fail
 refine CR.out.mono ?_;rintro e w1 ⟨a,c,rfl,_,hg⟩;go_wp2_with fail
 go_ret;exact⟨rfl,hg⟩
theorem part30_any (s:ByteArray) (w:World) (hs:s.size<=35184372088832) :
  Calls Tryz.prog 50 #[.string s] w λe w'=>e=.returned (.bool (partK s))/\aB w w':=by
 have CV:=λ(u:World)=>Aa (mL0 s u hs)
 have HB:Hid (∀k (h:k<s.size),s[k]=0->partK s=false):=λk h h0=>by
  cases hp:partK s with
  | false=>rfl
  | true=>exact absurd h0 ((gA0 hp).2.2 _ (Ai (mX h)))
 have HG:Hid ((∀c∈(bl s).take s.size,c≠0)->partK s=(!(bl s).isEmpty&&Ab s.data.toList)):=λh=>by
  rw[<-eE,Af]at h;unfold partK
  have:((bl s).all λc=>c != 0)=true:=List.all_eq_true.2 λc hc=>by simpa using h c hc
  rw[this,Bool.and_true];rfl
 obtain⟨P,hP⟩:=exq (partK s);rw[<-hP]at HB HG ⊢;clear hP;go_enter Tryz.func50,Tryz.ntmps50
 go_wp2_with fail
 go_loopw [3] (λi wr=>∃k:Nat,k<=s.size/\i=.int .i64 k/\Hid (∀c∈(bl s).take k,c≠0)/\wr=w) (λi _=>s.size-(intOf i).toNat)
 case atStart=>exact⟨0,Ah _,rfl,(λy hy=>by simp at hy),rfl⟩
 case round =>
  obtain⟨k,hk,rfl,hF,rfl⟩:=hrel;by_cases af:k<s.size
  ·have cz:(k:Int)<s.size:=by omega
   have HF2:Hid (s[k]≠0->∀c∈(bl s).take (k+1),c≠0):=λh c hc=>by
    rw[bJ (mX af)]at hc;rcases List.mem_append.1 hc with hc|hc
    ·exact hF.out c hc
    ·rw[List.mem_singleton.1 hc];exact h
   have HB2:=Aa (HB.out k af);obtain⟨b,hb⟩:∃b,s[k]=b:=⟨_,rfl⟩;rw[hb]at HF2 HB2;by_cases h0:b=0
   ·have HX:=Aa (HB2.out h0)
    subst h0;clear HF2 HB2 HB HG hF;go_wp2_with fail
    go_ret;exact⟨by rw[HX.out];rfl,aB.refl _⟩
   ·have HF3:=Aa (HF2.out h0)
    have hz:¬(b.toNat:Int)=0:=λe=>h0 (UInt8.toNat_inj.1 (by simpa using e));have hzb:((b.toNat:Int)==0)=false:=by simpa using hz
    clear HF2 HB2 HB HG hF h0;go_wp2_with fail
    go_roundw
    case rel=>exact⟨k+1,af,by go_num,HF3,trivial⟩
    case measure=>simp[intOf];omega
  ·obtain rfl:k=s.size:=by omega
   have cz:¬((s.size:Nat):Int)<s.size:=by omega
   have HX:=Aa (HG.out hF.out);clear hF HB HG;by_cases h0:s=⟨#[]⟩
   ·have e0:P=false:=by rw[HX.out,h0];rfl
    subst h0;have e1:(⟨#[]⟩:ByteArray).toList=[]:=by rw[Aj]
    have e2:(⟨#[]⟩:ByteArray).toList.isEmpty=true:=by rw[e1];rfl
    clear HX CV;go_wp2_with fail
    go_ret;exact⟨rfl,aB.refl _⟩
   ·have hb:(bl s).isEmpty=false:=by
     rw[Ae];exact λe=>h0 (qY e)
    have e1:¬s.toList=[]:=by rw[Aj];exact λe=>h0 (qY e)
    have e2:s.toList.isEmpty=false:=by rw[Ae];exact e1
    have HY:Hid (P=Ab s.data.toList):=by
     show _=_
     rw[HX.out,hb];rfl
    generalize Ab s.data.toList=v at CV HY;clear hb h0 HX;go_wp2_with fail
    refine(CV _).out.mono ?_;rintro e w1 ⟨rfl,ai⟩;go_wp2_with fail
    go_ret;exact⟨by rw[HY.out];rfl,ai⟩
theorem zero30_any (w:World):Calls Tryz.prog 51 #[] w λe w'=>e=.returned (.string ⟨#[0]⟩)/\aB w w':=by
 obtain⟨W1,bh⟩:=exq (w.alloc (.cells #[.int .u8 0] 5));obtain⟨b,hb⟩:=exq w.heap.size;have gW:aB w W1:=by rw[bh];exact aB.alloc _ _
 have hcv:(convert 67 9 (.slice (some ⟨b,0,none⟩) 1 1)).run Tryz.prog W1=.ok (.string ⟨#[0]⟩) W1:=by
  have h:aG W1 (some ⟨b,0,none⟩) 1 (([0]:List UInt8).map aV):=by rw[bh,hb];exact oZ (enc:=aV) (k:=1) (w:=w) (t:=5) (fz:=(0,0)) (cs:=#[.int .u8 0]) (λ_=>rfl) [0] rfl
  exact rW (l:=[0]) (c:=1) h
 rw[bh,hb]at hcv;have HG:=Aa (show aB w (w.alloc (.cells #[.int .u8 0] 5)) from aB.alloc _ _)
 clear gW bh hb;go_enter Tryz.func51,Tryz.ntmps51
 go_wp2_with fail
 go_ret;exact⟨rfl,HG.out⟩
theorem jW0 (a b:ByteArray):decide (lA a b<0)=Ag a.toList b.toList:=by
 unfold lA;by_cases h:Ag a.toList b.toList=true
 ·rw[if_pos h,h]
  rfl
 ·rw[if_neg h]
  rw[Bool.not_eq_true]at h;rw[h];split<;>rfl
theorem fY1 (xr xs yr ys:ByteArray) (xc yc:Int):bZ0 ⟨xr,xs,xc⟩ ⟨yr,ys,yc⟩=if xc=yc then if xr=yr then lA xs ys else lA xr yr else if yc<xc then -1 else 1:=by
 unfold bZ0;simp only[orI];by_cases h:xc=yc
 ·have h1:iD yc xc=0:=by unfold iD;rw[if_neg (by omega),if_neg (by omega)]
  rw[if_pos h,if_pos h1];by_cases hr:xr=yr
  ·rw[if_pos hr,if_pos ((bT0.zero _ _).2 hr)]
   split
   ·rename_i h3
    exact h3.symm
   ·rfl
  ·rw[if_neg hr,if_neg (λe=>hr ((bT0.zero _ _).1 e))]
 ·rw[if_neg h]
  by_cases h3:yc<xc
  ·have h1:iD yc xc = -1:=by unfold iD;rw[if_pos h3]
   rw[h1,if_pos h3];simp
  ·have h1:iD yc xc=1:=by unfold iD;rw[if_neg h3,if_pos (by omega)]
   rw[h1,if_neg h3];simp
theorem yC0 (xr xs yr ys:ByteArray) (xc yc:Int):dG ⟨xr,xs,xc⟩ ⟨yr,ys,yc⟩=if xc=yc then if xr=yr then Ag xs.toList ys.toList else Ag xr.toList yr.toList else decide (yc<xc):=by
 have e:∀G:Int,bZ0 ⟨xr,xs,xc⟩ ⟨yr,ys,yc⟩=G->dG ⟨xr,xs,xc⟩ ⟨yr,ys,yc⟩=decide (G<0):=λG h=>by unfold dG;rw[h]
 have k:=fY1 xr xs yr ys xc yc;by_cases h:xc=yc
 ·rw[if_pos h]at k ⊢
  by_cases hr:xr=yr
  ·rw[if_pos hr]at k ⊢
   rw[e _ k,jW0]
  ·rw[if_neg hr]at k ⊢
   rw[e _ k,jW0]
 ·rw[if_neg h]at k ⊢
  rw[e _ k];by_cases h3:yc<xc
  ·rw[if_pos h3];simp[h3]
  ·rw[if_neg h3];simp[h3]
theorem before38_any (xr xs yr ys:ByteArray) (xc yc:Int) (w:World):Calls Tryz.prog 19 #[.agg #[.string xr,.string xs,.int .i64 xc],.agg #[.string yr,.string ys,.int .i64 yc]] w λe w'=>e=.returned (.bool (dG ⟨xr,xs,xc⟩ ⟨yr,ys,yc⟩))/\aB w w':=by
 have HG:=Aa (show aB w ((w.alloc (.cells #[.string xr,.string xs,.int .i64 xc] 51)).alloc (.cells #[.string yr,.string ys,.int .i64 yc] 51)) from (aB.alloc _ _).al _)
 rw[yC0];by_cases h:xc=yc
 ·rw[if_pos h]
  subst h;by_cases hr:xr=yr
  ·rw[if_pos hr]
   subst hr;go_enter Tryz.func19,Tryz.ntmps19
   go_wp2_with fail
   go_ret;exact⟨rfl,HG.out⟩
  ·rw[if_neg hr]
   obtain⟨n1,n2⟩:=jV0 hr;clear hr;go_enter Tryz.func19,Tryz.ntmps19
   go_wp2_with fail
   go_ret;exact⟨rfl,HG.out⟩
 ·rw[if_neg h]
  have hb:(xc==yc)=false:=by simpa using h
  go_enter Tryz.func19,Tryz.ntmps19
  go_wp2_with fail
  go_ret;exact⟨rfl,HG.out⟩
end
end Go.Proofs.YtjhajgffmnkocaaGreatDoor
