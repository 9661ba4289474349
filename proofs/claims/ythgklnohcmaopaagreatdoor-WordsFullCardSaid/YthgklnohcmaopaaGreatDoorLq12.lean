/- The texts Mat Mat2 RefM MatSetP RefM2 Ncmp, one behind the other. -/
import Derived.Test.YthgklnohcmaopaaGreatDoorLq2
import Derived.Test.YthgklnohcmaopaaGreatDoorLq11
import Derived.Sort.KeysCollected
import Derived.Test.YthgklnohcmaopaaGreatDoorLq1
import Derived.OneCell
open Go.Lib renaming hid → Aa
open List renaming drop_succ_cons → Ab,length_map → Ad,drop_zero → Ae
open Bool renaming and_eq_true → Ac
open Go.World renaming cell? → Af
set_option maxHeartbeats 2000000
namespace Go.Proofs.YthgklnohcmaopaaGreatDoor
set_option maxRecDepth 100000
section
open Go Go.RowKit
attribute [local go_sem] aO
theorem pA1 (w:World):(zeroValue 3).run Tryz.prog w=.ok (.int .i64 0) w:=by kernel_rfl
theorem cH1 {H:Type} {P:Program} {k:TypeId} {R:Value->Option (DataW H×List MemPlace)} {w:World} {b n:Nat} {D:DataW H} (h:w.ownsMap P k R b n D):w.ownsMap P k R b (Maps.size D) D:=by
 obtain⟨es,clock,h1,h2,h3,rfl⟩:=h;exact⟨es,clock,h1,h2,by simp[Maps.size,length_sorted],rfl⟩
theorem jO0 {w:World} {b n:Nat} {D:DataW Unit} {m:Mx} (hm:m.OK) (h:w.ownsMap Tryz.prog 158 (plainElem Tryz.prog 3) b n D) (hM:rT0 m D):Maps.size D<=4096:=by
 obtain⟨es,rfl,rh⟩:=h.keysOf;obtain⟨es',he,hpw,_⟩:=h.entries zO;obtain rfl:es=es':=by simpa using he
 haveI:DecidableEq Lit:=λa b=>Classical.propDecidable (a=b)
 have qp:(es.map (·.1)).Nodup:=List.pairwise_map.2 hpw
 have ahh:∀x∈es.map (·.1),x∈(List.range (m.n*m.n)).map λi=>klP (eE m.n i):=λkl hkl=>by
  obtain⟨p,hp,rfl⟩:=List.mem_map.1 hkl;obtain⟨key,er⟩:=rh p hp;obtain⟨x,h1,h2,_,hx⟩:=gV0 er
  have m7:Maps.has (.map es) (klP x)=true:=by
   rw[Maps.has_eq,List.any_eq_true];exact⟨p,hp,by rw[hx];exact rY0 x⟩
  have h3:=(hM x h1 h2).1;rw[m7]at h3
  have h4:inP m.n x=true:=by
   have:=h3.symm
   simp only[Ac]at this;exact this.1
  exact List.mem_map.2 ⟨at2 m.n x,List.mem_range.2 (dD0 h4),by rw[dW0 h4,hx]⟩
 have h5:=cG qp ahh;rw[Ad,Ad,List.length_range]at h5
 have:=hm.n2
 show es.length<=4096
 exact Nat.le_trans h5 (Nat.mul_le_mul this this)
structure gR (w:World) (mb bm:Nat) (m:Mx):Prop where
 ok:m.OK
 c0:w.cell? ⟨mb,0,none⟩=some (.int .i64 m.n)
 c1:w.cell? ⟨mb,1,none⟩=some (.int .i64 m.d)
 c2:w.cell? ⟨mb,2,none⟩=some (.map (some bm))
 own:∃D:DataW Unit,w.ownsMap Tryz.prog 158 (plainElem Tryz.prog 3) bm 4096 D/\rT0 m D
theorem gR.grows {w w':World} {mb bm:Nat} {m:Mx} (h:gR w mb bm m) (hg:aB w w'):gR w' mb bm m :=
 ⟨h.ok,hg.cell h.c0,hg.cell h.c1,hg.cell h.c2,let ⟨D,ho,hm⟩:=h.own;⟨D,aJ ho hg,hm⟩⟩
theorem gR.ne {w:World} {mb bm:Nat} {m:Mx} (h:gR w mb bm m):mb≠bm:=by
 obtain⟨D,⟨es,clock,hb,_⟩,hm⟩:=h.own;intro e;have h0:=h.c0;subst e;simp[Af,hb]at h0
theorem aU {w w':World} {row:Option Nat} (hg:w.grownBy w' row) {p:Addr} {v:Value} (hc:w.cell? p=some v) (aj:some p.block≠row):w'.cell? p=some v:=by
 have ae:=World.block_lt_of_cell? w _ hc;have hb:=hg.block p.block ae aj;unfold Af at hc ⊢;rw[hb];exact hc
theorem gR.kept {w w':World} {mb bm:Nat} {m:Mx} {row:Option Nat} (h:gR w mb bm m) (hg:w.grownBy w' row) (h1:some mb≠row) (h2:some bm≠row):gR w' mb bm m :=
 ⟨h.ok,aU hg h.c0 h1,aU hg h.c1 h1,aU hg h.c2 h1,let ⟨D,ho,hm⟩:=h.own;⟨D,ho.kept hg h2,hm⟩⟩
theorem gP (c:Int) (w:World):Calls Tryz.prog 132 #[.int .i64 c] w λe w'=>e=.returned (.bool (isC c))/\w=w':=by
 unfold isC;by_cases h0:0<=c
 ·go_enter Tryz.func132,Tryz.ntmps132
  go_wp2
  go_ret;exact⟨dZ (by simp[h0]),rfl⟩
 ·go_enter Tryz.func132,Tryz.ntmps132
  go_wp2
  go_ret;exact⟨dZ (by simp;omega),rfl⟩
theorem qT0 (w:World) (mb bm:Nat) (m:Mx) (h:gR w mb bm m):Calls Tryz.prog 114 #[.pointer (some ⟨mb,0,none⟩)] w λe w'=>e=.returned (.int .i64 m.n)/\w=w':=by
 have c0:=h.c0;go_enter Tryz.func114,Tryz.ntmps114
 go_wp2
 go_ret;exact⟨rfl,rfl⟩
theorem xH0 (w:World) (mb bm:Nat) (m:Mx) (h:gR w mb bm m) (r:Int):Calls Tryz.prog 133 #[.pointer (some ⟨mb,0,none⟩),.int .i64 r] w λe w'=>e=.returned (.bool (inR m.n r))/\w=w':=by
 have CS:=λW (hW:w=W)=>qT0 W mb bm m (hW▸h);unfold inR;by_cases h0:0<=r
 ·go_enter Tryz.func133,Tryz.ntmps133
  go_wp2_with (go_at_call 114;refine(CS _ rfl).mono ?_;rintro e w1 ⟨rfl,rfl⟩)
  go_ret;exact⟨dZ (by simp[h0]),rfl⟩
 ·go_enter Tryz.func133,Tryz.ntmps133
  go_wp2_with (go_at_call 114;refine(CS _ rfl).mono ?_;rintro e w1 ⟨rfl,rfl⟩)
  go_ret;exact⟨dZ (by simp;omega),rfl⟩
theorem dE1 (n d:Int) (w:World) (h:cJ1 n d=false):Calls Tryz.prog 71 #[.int .i64 n,.int .i64 d] w λe w'=>e=.returned (.tuple #[.pointer none,.int .i64 6])/\w=w':=by
 by_cases h1:n<1
 ·go_enter Tryz.func71,Tryz.ntmps71
  go_wp2_with (go_at_call 132;refine(gP _ _).mono ?_;rintro e w1 ⟨rfl,rfl⟩)
  go_ret2;exact⟨rfl,rfl⟩
 ·by_cases h2:(64:Int)<n
  ·go_enter Tryz.func71,Tryz.ntmps71
   go_wp2_with (go_at_call 132;refine(gP _ _).mono ?_;rintro e w1 ⟨rfl,rfl⟩)
   go_ret2;exact⟨rfl,rfl⟩
  ·have h3:isC d=false:=by
    cases hd:isC d with
    | false=>rfl
    | true =>
     have h3:=tR (n:=n) (d:=d);rw[h]at h3;have h4:=gD0.1 hd
     have:=h3.2 ⟨by omega,by omega,h4.1,h4.2⟩
     cases this
   clear h;go_enter Tryz.func71,Tryz.ntmps71
   go_wp2_with (go_at_call 132;refine(gP _ _).mono ?_;rintro e w1 ⟨rfl,rfl⟩)
   go_ret2;exact⟨rfl,rfl⟩
def kO1 (m:Mx) (w:World) (e:Ending) (w':World):Prop:=e=.returned (.tuple #[.pointer (some ⟨w.heap.size+1,0,none⟩),.int .i64 0])/\gR w' (w.heap.size+1) w.heap.size m/\aB w w'
theorem yA0 (n d:Int) (w:World) (h:cJ1 n d=true):Calls Tryz.prog 71 #[.int .i64 n,.int .i64 d] w (kO1 (newM n d) w):=by
 have ag:=nB0 h;have hM:=eP1 (H:=Unit) n d;obtain⟨h1,h2,h3,h4⟩:=tR.1 h;have hC:isC d=true:=gD0.2 ⟨h3,h4⟩;have hn:((newM n d).n:Int)=n:=by show ((n.toNat:Nat):Int)=n;omega
 have hd:(newM n d).d=d:=rfl;generalize newM n d=m at *;have HOK:=Aa ag;have HM:=Aa hM;have HN:=Aa hn;have HD:=Aa hd;have jf:¬n<1:=by omega
 have od:¬(64:Int)<n:=by omega
 clear ag hM hn hd h h1 h2 h3 h4;have s8:=@run_makeMap Tryz.prog;go_enter Tryz.func71,Tryz.ntmps71
 go_wp2_with (go_at_call 132;refine(gP _ _).mono ?_;rintro e w1 ⟨rfl,rfl⟩)
 go_ret2;refine⟨rfl,⟨HOK.out,?_,?_,?_,_,((World.ownsMap_made _ _ _ _).alloc _).mono (Nat.zero_le _),HM.out⟩,(aB.alloc _ _).al _⟩
 ·rw[HN.out];exact eZ (w:=w.alloc (.map #[] 0)) (by simp) 0 _ rfl
 ·rw[HD.out]
  have:=eZ (w:=w.alloc (.map #[] 0)) (cs:=#[.int .i64 n,.int .i64 d,.map (some w.heap.size)]) (t:=153) (n:=w.heap.size+1) (by simp) 1 _ rfl
  rw[oH]at this;exact this
 ·have:=eZ (w:=w.alloc (.map #[] 0)) (cs:=#[.int .i64 n,.int .i64 d,.map (some w.heap.size)]) (t:=153) (n:=w.heap.size+1) (by simp) 2 _ rfl
  rw[oH]at this;exact this
theorem aB.grownByR {w w':World} (h:aB w w') (row:Option Nat):w.grownBy w' row:=⟨Below.os h,Below.tape h,Below.output h,Below.size h,λk hk _=>Below.block h k hk⟩
def xV0 (mb bm:Nat) (m:Mx) (x:Int×Int) (c:Int) (w:World) (e:Ending) (w':World):Prop :=
 e=.returned (.int .i64 (if m.setB x c then 0 else 6))/\gR w' mb bm (m.setIf x c)/\w.grownBy w' (some bm)
theorem gY1 {m:Mx} {x:Int×Int} {c:Int} (h:m.setB x c=false):m.setIf x c=m:=by unfold Mx.setIf; rw[h]; rfl
theorem lB0 {m:Mx} {x:Int×Int} {c:Int} (h:m.setB x c=true):m.setIf x c=m.set x c:=by unfold Mx.setIf; rw[h]; rfl
theorem lQ1 (w:World) (mb bm:Nat) (m:Mx) (h:gR w mb bm m) (r l c:Int) (hb:m.setB (r,l) c=false) :
  Calls Tryz.prog 72 #[.pointer (some ⟨mb,0,none⟩),.int .i64 r,.int .i64 l,.int .i64 c] w λe w'=>e=.returned (.int .i64 6)/\w=w':=by
 have CH:=xH0 w mb bm m h;unfold Mx.setB inP at hb;simp only at hb;cases hr:inR m.n r
 ·clear hb
  go_enter Tryz.func72,Tryz.ntmps72
  go_wp2_with (first|(go_at_call 133;refine(CH _).mono ?_;rintro e w1 ⟨rfl,rfl⟩)|(go_at_call 132;refine(gP _ _).mono ?_;rintro e w1 ⟨rfl,rfl⟩))
  go_ret;exact⟨rfl,rfl⟩
 ·cases hl:inR m.n l
  ·clear hb
   go_enter Tryz.func72,Tryz.ntmps72
   go_wp2_with (first|(go_at_call 133;refine(CH _).mono ?_;rintro e w1 ⟨rfl,rfl⟩)|(go_at_call 132;refine(gP _ _).mono ?_;rintro e w1 ⟨rfl,rfl⟩))
   go_ret;exact⟨rfl,rfl⟩
  ·rw[hr,hl]at hb
   have hc:isC c=false:=hb;clear hb;go_enter Tryz.func72,Tryz.ntmps72
   go_wp2_with (first|(go_at_call 133;refine(CH _).mono ?_;rintro e w1 ⟨rfl,rfl⟩)|(go_at_call 132;refine(gP _ _).mono ?_;rintro e w1 ⟨rfl,rfl⟩))
   go_ret;exact⟨rfl,rfl⟩
theorem gF1 (w:World) (mb bm:Nat) (m:Mx) (h:gR w mb bm m) (r l c:Int) (hb:m.setB (r,l) c=true) (hwc:WfI c) :
  Calls Tryz.prog 72 #[.pointer (some ⟨mb,0,none⟩),.int .i64 r,.int .i64 l,.int .i64 c] w λe w'=>e=.returned (.int .i64 0)/\gR w' mb bm (m.set (r,l) c)/\w.grownBy w' (some bm):=by
 have CH:=xH0 w mb bm m h;have cy:=hb;unfold Mx.setB inP at cy;simp only[Ac]at cy;have hr:inR m.n r=true:=cy.1.1;have hl:inR m.n l=true:=cy.1.2;have hc:isC c=true:=cy.2;clear cy;have ja:inP m.n (r,l)=true:=by unfold inP;rw[hr,hl];rfl
 have c0:=h.c0;have c1:=h.c1;have c2:=h.c2;have aj:=h.ne;obtain⟨D,aa,hM⟩:=h.own;have hw:=qZ h.ok.n2 ja;have er:=pT1 (x:=(r,l)) hw.1 hw.2;have hP:=λhd=>hM.put aa.isMap h.ok hb hd;have hE:=hM.del h.ok ja;have HS:=Aa (h.ok.set hb)
 have HF:Hid (∀(w':World) (n:Nat) (D':DataW Unit),w'.ownsMap Tryz.prog 158 (plainElem Tryz.prog 3) bm n D'->w.grownBy w' (some bm)->rT0 (m.set (r,l) c) D'->gR w' mb bm (m.set (r,l) c)):=λw' n D' ho hg hm =>
  ⟨h.ok.set hb,aU hg c0 (by simpa using aj),aU hg c1 (by simpa using aj),aU hg c2 (by simpa using aj),D',(cH1 ho).mono (jO0 (h.ok.set hb) ho hm),hm⟩
 have x1:=λ(x:Ext aB (w.alloc (.cells #[.int .i64 r,.int .i64 l] 158)).drew)=>(((aB.alloc w (.cells #[.int .i64 r,.int .i64 l] 158)).dr).tr x.h).cell c2;have x2:∀x:Ext aB (w.alloc (.cells #[.int .i64 r,.int .i64 l] 158)).drew,x.u.cell? ⟨w.heap.size,0,none⟩=some (.int .i64 r):=aF (aT w _ _ (0,0) 0 _ rfl);have x3:∀x:Ext aB (w.alloc (.cells #[.int .i64 r,.int .i64 l] 158)).drew,x.u.cell? ⟨w.heap.size,1,none⟩=some (.int .i64 l):=aF (aT w _ _ (0,0) 1 _ rfl);have c1':(w.alloc (.cells #[.int .i64 r,.int .i64 l] 158)).cell? ⟨mb,1,none⟩=some (.int .i64 m.d):=(aB.alloc _ _).cell c1;by_cases hd:c=m.d
 ·subst hd
  have HE:=Aa hE;clear hM hb ja hw hP hE h c0 aj HS;go_enter Tryz.func72,Tryz.ntmps72
  go_wp2_with (first|(go_at_call 133;refine(CH _).mono ?_;rintro e w1 ⟨rfl,rfl⟩)|(go_at_call 132;refine(gP _ _).mono ?_;rintro e w1 ⟨rfl,rfl⟩))
  refine rG aB 5 (bB 5 []) aB.refl aB.trans (by kernel_rfl) (by kernel_rfl) (λd _ _ _ _ h=>by cases d<;>exact h) ?_
  repeat (refine mN rfl (λK hK=>?_);go_simp;first|(refine hK _ ?_;clear hK K)|(apply Exists.intro;refine⟨λx=>?_,hK _ ?_⟩;(fail);clear hK K))
  refine vT (λw4 h4=>?_);simp only[Ab,Ae];have ch:=((aB.alloc w (.cells #[.int .i64 r,.int .i64 l] 158)).dr).tr h4;clear x1 x2 x3;go_wp2_with (at_delete;refine wpList_delete_own _ rfl _ _ 151 158 rfl 3 zO Tryz.underlying151 _ bm 4096 D rfl (aJ aa ch) _ (klP (r,l)) rfl er ?_;intro w5 ar ri)
  go_ret;have lf:=(ch.grownByR (some bm)).andThen ri.grown (λj hj=>Or.inr hj);exact⟨rfl,HF.out _ _ _ ar lf HE.out,lf⟩
 ·have HP:=Aa (hP hd)
  have ij:(c==m.d)=false:=by simpa using hd
  clear hM hb ja hw hP hE h c0 aj HS;go_enter Tryz.func72,Tryz.ntmps72
  go_wp2_with (first|(go_at_call 133;refine(CH _).mono ?_;rintro e w1 ⟨rfl,rfl⟩)|(go_at_call 132;refine(gP _ _).mono ?_;rintro e w1 ⟨rfl,rfl⟩))
  refine rG aB 6 (bB 6 []) aB.refl aB.trans (by kernel_rfl) (by kernel_rfl) (λd _ _ _ _ h=>by cases d<;>exact h) ?_
  repeat (refine mN rfl (λK hK=>?_);go_simp;first|(refine hK _ ?_;clear hK K)|(apply Exists.intro;refine⟨λx=>?_,hK _ ?_⟩;(fail);clear hK K))
  refine vT (λw4 h4=>?_);simp only[Ab,Ae];have ch:=((aB.alloc w (.cells #[.int .i64 r,.int .i64 l] 158)).dr).tr h4;clear x1 x2 x3;go_wp2_with (at_mapUpdate;refine wpList_mapUpdate_own _ rfl _ _ _ 151 rfl 158 3 zO Tryz.underlying151 _ bm 4096 D rfl (aJ aa ch) (by unfold maxLen;omega) _ _ (klP (r,l)) rfl rfl er _ [] (plainElem_int Tryz.underlying3 hwc) ?_;intro w5 ar ri)
  go_ret;have lf:=(ch.grownByR (some bm)).andThen ri (λj hj=>Or.inr hj);exact⟨rfl,HF.out _ _ _ ar lf HP.out,lf⟩
theorem cO1 (w:World) (mb bm:Nat) (m:Mx) (h:gR w mb bm m) (r l c:Int) (hwc:WfI c) :
  Calls Tryz.prog 72 #[.pointer (some ⟨mb,0,none⟩),.int .i64 r,.int .i64 l,.int .i64 c] w (xV0 mb bm m (r,l) c w):=by
 cases hb:m.setB (r,l) c
 ·refine(lQ1 w mb bm m h r l c hb).mono λe w' ⟨he,hw⟩=>?_
  subst hw;refine⟨by rw[hb];exact he,by rw[gY1 hb];exact h,⟨rfl,rfl,rfl,Nat.le_refl _,λ_ _ _=>rfl⟩⟩
 ·refine(gF1 w mb bm m h r l c hb hwc).mono λe w' ⟨he,hm,hg⟩=>⟨by rw[hb];exact he,by rw[lB0 hb];exact hm,hg⟩
theorem aB.grownBy_set {w W:World} (h:aB w W) (g i:Nat) (v:Value):w.grownBy (W.setCell ⟨g,i,none⟩ v) (some g) where
 os:=(show W.os=w.os from Below.os h)
 tape:=(show W.tape=w.tape from Below.tape h)
 output:=(show W.output=w.output from Below.output h)
 size:=by have:=h.size;simpa using this
 block:=λk hk aj=>by
  rw[heap_setCell_other _ _ _ _ (λe=>aj (by rw[e]))];exact Below.block h k hk
end
section
open Go Go.RowKit
structure jX1 where
 r:Int
 l:Int
 c:Int
def oJ1 (s:jX1):List Value:=[.int .i64 s.r,.int .i64 s.l,.int .i64 s.c]
def runSets (m:Mx) (l:List jX1):Mx:=l.foldl (λm s=>m.setIf (s.r,s.l) s.c) m
theorem dC0:∀(l:List jX1) {m:Mx},m.OK->(runSets m l).OK
 | [],_,h=>h
 | _::r,_,h=>dC0 r (h.setIf _ _)
theorem iU0 {m:Mx} {l:List jX1} {k:Nat} {s:jX1} (hs:l[k]?=some s):runSets m (l.take (k+1))=(runSets m (l.take k)).setIf (s.r,s.l) s.c:=by
 obtain⟨hk,rfl⟩:=List.getElem?_eq_some_iff.1 hs;unfold runSets;rw[List.take_succ_eq_append_getElem hk,List.foldl_append];rfl
end
section
open Go Go.RowKit
attribute [local go_sem] aO
theorem iZ0 (xs ys:ByteArray) (xf xt xl xr xc xk yf yt yl yr yc yk:Int) (w:World) :
  Calls Tryz.prog 42 #[.agg #[.int .i64 xf,.int .i64 xt,.string xs,.int .i64 xl,.int .i64 xr,.int .i64 xc,.int .i64 xk],.agg #[.int .i64 yf,.int .i64 yt,.string ys,.int .i64 yl,.int .i64 yr,.int .i64 yc,.int .i64 yk]] w λe w' =>
   e=.returned (.int .i64 (orI [eD xf yf,eD yt xt,eD xc yc,rE xs ys,eD xl yl,eD xr yr]))/\aV w w':=by
 go_enter Tryz.func42,Tryz.ntmps42
 go_wp2
 generalize hW:(w.alloc (.cells #[.int .i64 xf,.int .i64 xt,.string xs,.int .i64 xl,.int .i64 xr,.int .i64 xc,.int .i64 xk] 51)).alloc (.cells #[.int .i64 yf,.int .i64 yt,.string ys,.int .i64 yl,.int .i64 yr,.int .i64 yc,.int .i64 yk] 51)=W;have hB:aV w W:=by rw[<-hW];exact(aV.alloc _ _).tr (aV.alloc _ _)
 have hx:∀j v,#[Value.int .i64 xf,.int .i64 xt,.string xs,.int .i64 xl,.int .i64 xr,.int .i64 xc,.int .i64 xk][j]?=some v->W.drew.cell? ⟨w.heap.size,j,none⟩=some v:=λj v h=>by
  rw[<-hW];exact(aB.alloc _ _).cell (aT w _ _ _ j v h)
 have hy:∀j v,#[Value.int .i64 yf,.int .i64 yt,.string ys,.int .i64 yl,.int .i64 yr,.int .i64 yc,.int .i64 yk][j]?=some v->W.drew.cell? ⟨w.heap.size+1,j,none⟩=some v:=λj v h=>by
  rw[<-hW]
  have:=aT (w.alloc (.cells #[.int .i64 xf,.int .i64 xt,.string xs,.int .i64 xl,.int .i64 xr,.int .i64 xc,.int .i64 xk] 51)) _ 51 (0,0) j v h
  simpa using this
 clear hW;have x0:∀x:Ext aV (W.drew),x.u.cell? ⟨w.heap.size,0,none⟩=some (.int .i64 xf):=bI (hx 0 _ rfl);have x1:∀x:Ext aV (W.drew),x.u.cell? ⟨w.heap.size,1,none⟩=some (.int .i64 xt):=bI (hx 1 _ rfl);have x2:∀x:Ext aV (W.drew),x.u.cell? ⟨w.heap.size,2,none⟩=some (.string xs):=bI (hx 2 _ rfl);have x3:∀x:Ext aV (W.drew),x.u.cell? ⟨w.heap.size,3,none⟩=some (.int .i64 xl):=bI (hx 3 _ rfl);have x4:∀x:Ext aV (W.drew),x.u.cell? ⟨w.heap.size,4,none⟩=some (.int .i64 xr):=bI (hx 4 _ rfl);have x5:∀x:Ext aV (W.drew),x.u.cell? ⟨w.heap.size,5,none⟩=some (.int .i64 xc):=bI (hx 5 _ rfl);have x6:∀x:Ext aV (W.drew),x.u.cell? ⟨w.heap.size,6,none⟩=some (.int .i64 xk):=bI (hx 6 _ rfl);have y0:∀x:Ext aV (W.drew),x.u.cell? ⟨w.heap.size+1,0,none⟩=some (.int .i64 yf):=bI (hy 0 _ rfl);have y1:∀x:Ext aV (W.drew),x.u.cell? ⟨w.heap.size+1,1,none⟩=some (.int .i64 yt):=bI (hy 1 _ rfl);have y2:∀x:Ext aV (W.drew),x.u.cell? ⟨w.heap.size+1,2,none⟩=some (.string ys):=bI (hy 2 _ rfl);have y3:∀x:Ext aV (W.drew),x.u.cell? ⟨w.heap.size+1,3,none⟩=some (.int .i64 yl):=bI (hy 3 _ rfl);have y4:∀x:Ext aV (W.drew),x.u.cell? ⟨w.heap.size+1,4,none⟩=some (.int .i64 yr):=bI (hy 4 _ rfl);have y5:∀x:Ext aV (W.drew),x.u.cell? ⟨w.heap.size+1,5,none⟩=some (.int .i64 yc):=bI (hy 5 _ rfl);have y6:∀x:Ext aV (W.drew),x.u.cell? ⟨w.heap.size+1,6,none⟩=some (.int .i64 yk):=bI (hy 6 _ rfl);clear hx hy;refine kF aV (bB 33 [30,31,32]) aV.refl aV.trans (by kernel_rfl) (by kernel_rfl) (λd _ _ _ _ h=>by cases d<;>exact h) ?_
 repeat (refine mN rfl (λK hK=>?_);go_simp;first|(refine hK _ ?_;clear hK K)|(apply Exists.intro;refine⟨λx=>?_,hK _ ?_⟩;((first|(go_at_call 111;exact gF (wX _ _ _))|(go_at_call 110;exact gF (pU _ _ _))));clear hK K))
 clear x0 x1 x2 x3 x4 x5 x6 y0 y1 y2 y3 y4 y5 y6;refine fS rfl rfl (λK hK w2 h2=>?_);go_simp;refine⟨aV.alloc _ _,hK _ _ ?_⟩;clear hK K
 have hz:∀k,k<[eD xf yf,eD yt xt,eD xc yc,rE xs ys,eD xl yl,eD xr yr].length->(w2.alloc (.cells #[.int .i64 (eD xf yf),.int .i64 (eD yt xt),.int .i64 (eD xc yc),.int .i64 (rE xs ys),.int .i64 (eD xl yl),.int .i64 (eD xr yr)] 3)).cell? ⟨w2.heap.size,0+k,none⟩=some (.int .i64 ([eD xf yf,eD yt xt,eD xc yc,rE xs ys,eD xl yl,eD xr yr][k]?.getD 0)):=λk hk=>by
  refine aT w2 _ _ _ _ _ ?_
  match k,hk with
  | 0,_=>rfl
  | 1,_=>rfl
  | 2,_=>rfl
  | 3,_=>rfl
  | 4,_=>rfl
  | 5,_=>rfl
 have h3:aV w2 (w2.alloc (.cells #[.int .i64 (eD xf yf),.int .i64 (eD yt xt),.int .i64 (eD xc yc),.int .i64 (rE xs ys),.int .i64 (eD xl yl),.int .i64 (eD xr yr)] 3)):=aV.alloc _ _;generalize w2.alloc _=w3 at hz h3 ⊢;refine fS rfl rfl (λK hK w4 h4=>?_);go_simp;refine(yK0 [eD xf yf,eD yt xt,eD xc yc,rE xs ys,eD xl yl,eD xr yr] w2.heap.size 0 6 w4 (by simp) (λk hk=>h4.1.cell (hz k hk))).mono ?_;rintro e w' ⟨rfl,rfl⟩;refine⟨aV.refl _,hK _ _ ?_⟩;clear hK K;refine fS rfl rfl (λK hK w5 h5=>?_);go_simp;refine⟨aV.refl _,hK _ _ ?_⟩;clear hK K;refine vT (λw6 h6=>?_);have xj:aV w w6:=(((((hB.tr (aV.drew _)).tr h2).tr h3).tr h4).tr h5).tr h6;go_wp2
 go_ret;exact⟨rfl,xj⟩
end
end Go.Proofs.YthgklnohcmaopaaGreatDoor
