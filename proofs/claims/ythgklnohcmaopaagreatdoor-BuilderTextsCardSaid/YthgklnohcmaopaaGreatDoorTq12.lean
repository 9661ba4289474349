/- The texts Mat Mat2 MatSetP RefM RefM2 MapEnt, one behind the other. -/
import Derived.Test.YthgklnohcmaopaaGreatDoorTq2
import Derived.Test.YthgklnohcmaopaaGreatDoorTq11
import Derived.Sort.KeysCollected
import Derived.Test.YthgklnohcmaopaaGreatDoorTq1
import Derived.OneCell
import Derived.WideKeyEntry
open Array renaming getElem?_setIfInBounds → Aa,ext_getElem? → Ad
open Go.Lib renaming hid → Ab
open List renaming drop_succ_cons → Ac,length_map → Af,drop_zero → Ag
open Bool renaming and_eq_true → Ae
open Go.World renaming cell? → Ah
set_option maxHeartbeats 2000000
namespace Go.Proofs.YthgklnohcmaopaaGreatDoor
set_option maxRecDepth 100000
section
open Go Go.RowKit
attribute [local go_sem] aK
theorem dZ0 (w:World):(zeroValue 3).run Tryz.prog w=.ok (.int .i64 0) w:=by kernel_rfl
theorem sS0 {H:Type} {P:Program} {k:TypeId} {R:Value->Option (DataW H×List MemPlace)} {w:World} {b n:Nat} {D:DataW H} (h:w.ownsMap P k R b n D):w.ownsMap P k R b (Maps.size D) D:=by
 obtain⟨es,clock,h1,h2,h3,rfl⟩:=h;exact⟨es,clock,h1,h2,by simp[Maps.size,length_sorted],rfl⟩
theorem dW0 {w:World} {b n:Nat} {D:DataW Unit} {m:Mx} (hm:m.OK) (h:w.ownsMap Tryz.prog 158 (plainElem Tryz.prog 3) b n D) (hM:jV0 m D):Maps.size D<=4096:=by
 obtain⟨es,rfl,j9⟩:=h.keysOf;obtain⟨es',he,hpw,_⟩:=h.entries lY;obtain rfl:es=es':=by simpa using he
 haveI:DecidableEq Lit:=λa b=>Classical.propDecidable (a=b)
 have xg:(es.map (·.1)).Nodup:=List.pairwise_map.2 hpw
 have ae9:∀x∈es.map (·.1),x∈(List.range (m.n*m.n)).map λi=>klP (dW m.n i):=λkl hkl=>by
  obtain⟨p,hp,rfl⟩:=List.mem_map.1 hkl;obtain⟨key,cg⟩:=j9 p hp;obtain⟨x,h1,h2,_,hx⟩:=bC0 cg
  have gm:Maps.has (.map es) (klP x)=true:=by
   rw[Maps.has_eq,List.any_eq_true];exact⟨p,hp,by rw[hx];exact jU0 x⟩
  have h3:=(hM x h1 h2).1;rw[gm]at h3
  have h4:inP m.n x=true:=by
   have:=h3.symm
   simp only[Ae]at this;exact this.1
  exact List.mem_map.2 ⟨at2 m.n x,List.mem_range.2 (yU h4),by rw[yY h4,hx]⟩
 have h5:=dB xg ae9;rw[Af,Af,List.length_range]at h5
 have:=hm.n2
 show es.length<=4096
 exact Nat.le_trans h5 (Nat.mul_le_mul this this)
structure gG (w:World) (mb bm:Nat) (m:Mx):Prop where
 ok:m.OK
 c0:w.cell? ⟨mb,0,none⟩=some (.int .i64 m.n)
 c1:w.cell? ⟨mb,1,none⟩=some (.int .i64 m.d)
 c2:w.cell? ⟨mb,2,none⟩=some (.map (some bm))
 own:∃D:DataW Unit,w.ownsMap Tryz.prog 158 (plainElem Tryz.prog 3) bm 4096 D/\jV0 m D
theorem gG.grows {w w':World} {mb bm:Nat} {m:Mx} (h:gG w mb bm m) (hg:aB w w'):gG w' mb bm m :=
 ⟨h.ok,hg.cell h.c0,hg.cell h.c1,hg.cell h.c2,let ⟨D,ho,hm⟩:=h.own;⟨D,bC ho hg,hm⟩⟩
theorem gG.ne {w:World} {mb bm:Nat} {m:Mx} (h:gG w mb bm m):mb≠bm:=by
 obtain⟨D,⟨es,clock,hb,_⟩,hm⟩:=h.own;intro e;have h0:=h.c0;subst e;simp[Ah,hb]at h0
theorem aY {w w':World} {row:Option Nat} (hg:w.grownBy w' row) {p:Addr} {v:Value} (hc:w.cell? p=some v) (ai:some p.block≠row):w'.cell? p=some v:=by
 have ae:=World.block_lt_of_cell? w _ hc;have hb:=hg.block p.block ae ai;unfold Ah at hc ⊢;rw[hb];exact hc
theorem gG.kept {w w':World} {mb bm:Nat} {m:Mx} {row:Option Nat} (h:gG w mb bm m) (hg:w.grownBy w' row) (h1:some mb≠row) (h2:some bm≠row):gG w' mb bm m :=
 ⟨h.ok,aY hg h.c0 h1,aY hg h.c1 h1,aY hg h.c2 h1,let ⟨D,ho,hm⟩:=h.own;⟨D,ho.kept hg h2,hm⟩⟩
theorem eB (c:Int) (w:World):Calls Tryz.prog 132 #[.int .i64 c] w λe w'=>e=.returned (.bool (isC c))/\w=w':=by
 unfold isC;by_cases h0:0<=c
 ·go_enter Tryz.func132,Tryz.ntmps132
  go_wp2
  go_ret;exact⟨cT (by simp[h0]),rfl⟩
 ·go_enter Tryz.func132,Tryz.ntmps132
  go_wp2
  go_ret;exact⟨cT (by simp;omega),rfl⟩
theorem kJ0 (w:World) (mb bm:Nat) (m:Mx) (h:gG w mb bm m):Calls Tryz.prog 114 #[.pointer (some ⟨mb,0,none⟩)] w λe w'=>e=.returned (.int .i64 m.n)/\w=w':=by
 have c0:=h.c0;go_enter Tryz.func114,Tryz.ntmps114
 go_wp2
 go_ret;exact⟨rfl,rfl⟩
theorem rV0 (w:World) (mb bm:Nat) (m:Mx) (h:gG w mb bm m) (r:Int):Calls Tryz.prog 133 #[.pointer (some ⟨mb,0,none⟩),.int .i64 r] w λe w'=>e=.returned (.bool (inR m.n r))/\w=w':=by
 have CS:=λW (hW:w=W)=>kJ0 W mb bm m (hW▸h);unfold inR;by_cases h0:0<=r
 ·go_enter Tryz.func133,Tryz.ntmps133
  go_wp2_with (go_at_call 114;refine(CS _ rfl).mono ?_;rintro e w1 ⟨rfl,rfl⟩)
  go_ret;exact⟨cT (by simp[h0]),rfl⟩
 ·go_enter Tryz.func133,Tryz.ntmps133
  go_wp2_with (go_at_call 114;refine(CS _ rfl).mono ?_;rintro e w1 ⟨rfl,rfl⟩)
  go_ret;exact⟨cT (by simp;omega),rfl⟩
theorem yY0 (n d:Int) (w:World) (h:vJ0 n d=false):Calls Tryz.prog 71 #[.int .i64 n,.int .i64 d] w λe w'=>e=.returned (.tuple #[.pointer none,.int .i64 6])/\w=w':=by
 by_cases h1:n<1
 ·go_enter Tryz.func71,Tryz.ntmps71
  go_wp2_with (go_at_call 132;refine(eB _ _).mono ?_;rintro e w1 ⟨rfl,rfl⟩)
  go_ret2;exact⟨rfl,rfl⟩
 ·by_cases h2:(64:Int)<n
  ·go_enter Tryz.func71,Tryz.ntmps71
   go_wp2_with (go_at_call 132;refine(eB _ _).mono ?_;rintro e w1 ⟨rfl,rfl⟩)
   go_ret2;exact⟨rfl,rfl⟩
  ·have h3:isC d=false:=by
    cases hd:isC d with
    | false=>rfl
    | true =>
     have h3:=qG (n:=n) (d:=d);rw[h]at h3;have h4:=uC.1 hd
     have:=h3.2 ⟨by omega,by omega,h4.1,h4.2⟩
     cases this
   clear h;go_enter Tryz.func71,Tryz.ntmps71
   go_wp2_with (go_at_call 132;refine(eB _ _).mono ?_;rintro e w1 ⟨rfl,rfl⟩)
   go_ret2;exact⟨rfl,rfl⟩
def zU0 (m:Mx) (w:World) (e:Ending) (w':World):Prop:=e=.returned (.tuple #[.pointer (some ⟨w.heap.size+1,0,none⟩),.int .i64 0])/\gG w' (w.heap.size+1) w.heap.size m/\aB w w'
theorem oN0 (n d:Int) (w:World) (h:vJ0 n d=true):Calls Tryz.prog 71 #[.int .i64 n,.int .i64 d] w (zU0 (newM n d) w):=by
 have aq:=hU0 h;have hM:=wC0 (H:=Unit) n d;obtain⟨h1,h2,h3,h4⟩:=qG.1 h;have hC:isC d=true:=uC.2 ⟨h3,h4⟩;have hn:((newM n d).n:Int)=n:=by show ((n.toNat:Nat):Int)=n;omega
 have hd:(newM n d).d=d:=rfl;generalize newM n d=m at *;have HOK:=Ab aq;have HM:=Ab hM;have HN:=Ab hn;have HD:=Ab hd;have jm:¬n<1:=by omega
 have ie:¬(64:Int)<n:=by omega
 clear aq hM hn hd h h1 h2 h3 h4;have tu:=@run_makeMap Tryz.prog;go_enter Tryz.func71,Tryz.ntmps71
 go_wp2_with (go_at_call 132;refine(eB _ _).mono ?_;rintro e w1 ⟨rfl,rfl⟩)
 go_ret2;refine⟨rfl,⟨HOK.out,?_,?_,?_,_,((World.ownsMap_made _ _ _ _).alloc _).mono (Nat.zero_le _),HM.out⟩,(aB.alloc _ _).al _⟩
 ·rw[HN.out];exact dQ (w:=w.alloc (.map #[] 0)) (by simp) 0 _ rfl
 ·rw[HD.out]
  have:=dQ (w:=w.alloc (.map #[] 0)) (cs:=#[.int .i64 n,.int .i64 d,.map (some w.heap.size)]) (t:=153) (n:=w.heap.size+1) (by simp) 1 _ rfl
  rw[cR0]at this;exact this
 ·have:=dQ (w:=w.alloc (.map #[] 0)) (cs:=#[.int .i64 n,.int .i64 d,.map (some w.heap.size)]) (t:=153) (n:=w.heap.size+1) (by simp) 2 _ rfl
  rw[cR0]at this;exact this
theorem aB.grownByR {w w':World} (h:aB w w') (row:Option Nat):w.grownBy w' row:=⟨Below.os h,Below.tape h,Below.output h,Below.size h,λk hk _=>Below.block h k hk⟩
def bH1 (mb bm:Nat) (m:Mx) (x:Int×Int) (c:Int) (w:World) (e:Ending) (w':World):Prop :=
 e=.returned (.int .i64 (if m.setB x c then 0 else 6))/\gG w' mb bm (m.setIf x c)/\w.grownBy w' (some bm)
theorem wY0 {m:Mx} {x:Int×Int} {c:Int} (h:m.setB x c=false):m.setIf x c=m:=by unfold Mx.setIf; rw[h]; rfl
theorem dB0 {m:Mx} {x:Int×Int} {c:Int} (h:m.setB x c=true):m.setIf x c=m.set x c:=by unfold Mx.setIf; rw[h]; rfl
theorem bD1 (w:World) (mb bm:Nat) (m:Mx) (h:gG w mb bm m) (r l c:Int) (hb:m.setB (r,l) c=false) :
  Calls Tryz.prog 72 #[.pointer (some ⟨mb,0,none⟩),.int .i64 r,.int .i64 l,.int .i64 c] w λe w'=>e=.returned (.int .i64 6)/\w=w':=by
 have CH:=rV0 w mb bm m h;unfold Mx.setB inP at hb;simp only at hb;cases hr:inR m.n r
 ·clear hb
  go_enter Tryz.func72,Tryz.ntmps72
  go_wp2_with (first|(go_at_call 133;refine(CH _).mono ?_;rintro e w1 ⟨rfl,rfl⟩)|(go_at_call 132;refine(eB _ _).mono ?_;rintro e w1 ⟨rfl,rfl⟩))
  go_ret;exact⟨rfl,rfl⟩
 ·cases hl:inR m.n l
  ·clear hb
   go_enter Tryz.func72,Tryz.ntmps72
   go_wp2_with (first|(go_at_call 133;refine(CH _).mono ?_;rintro e w1 ⟨rfl,rfl⟩)|(go_at_call 132;refine(eB _ _).mono ?_;rintro e w1 ⟨rfl,rfl⟩))
   go_ret;exact⟨rfl,rfl⟩
  ·rw[hr,hl]at hb
   have hc:isC c=false:=hb;clear hb;go_enter Tryz.func72,Tryz.ntmps72
   go_wp2_with (first|(go_at_call 133;refine(CH _).mono ?_;rintro e w1 ⟨rfl,rfl⟩)|(go_at_call 132;refine(eB _ _).mono ?_;rintro e w1 ⟨rfl,rfl⟩))
   go_ret;exact⟨rfl,rfl⟩
theorem xK0 (w:World) (mb bm:Nat) (m:Mx) (h:gG w mb bm m) (r l c:Int) (hb:m.setB (r,l) c=true) (tv:WfI c) :
  Calls Tryz.prog 72 #[.pointer (some ⟨mb,0,none⟩),.int .i64 r,.int .i64 l,.int .i64 c] w λe w'=>e=.returned (.int .i64 0)/\gG w' mb bm (m.set (r,l) c)/\w.grownBy w' (some bm):=by
 have CH:=rV0 w mb bm m h;have dm:=hb;unfold Mx.setB inP at dm;simp only[Ae]at dm;have hr:inR m.n r=true:=dm.1.1;have hl:inR m.n l=true:=dm.1.2;have hc:isC c=true:=dm.2;clear dm;have ff:inP m.n (r,l)=true:=by unfold inP;rw[hr,hl];rfl
 have c0:=h.c0;have c1:=h.c1;have c2:=h.c2;have ai:=h.ne;obtain⟨D,aa,hM⟩:=h.own;have hw:=kO h.ok.n2 ff;have cg:=zQ0 (x:=(r,l)) hw.1 hw.2;have hP:=λhd=>hM.put aa.isMap h.ok hb hd;have hE:=hM.del h.ok ff;have HS:=Ab (h.ok.set hb)
 have HF:Hid (∀(w':World) (n:Nat) (D':DataW Unit),w'.ownsMap Tryz.prog 158 (plainElem Tryz.prog 3) bm n D'->w.grownBy w' (some bm)->jV0 (m.set (r,l) c) D'->gG w' mb bm (m.set (r,l) c)):=λw' n D' ho hg hm =>
  ⟨h.ok.set hb,aY hg c0 (by simpa using ai),aY hg c1 (by simpa using ai),aY hg c2 (by simpa using ai),D',(sS0 ho).mono (dW0 (h.ok.set hb) ho hm),hm⟩
 have x1:=λ(x:Ext aB (w.alloc (.cells #[.int .i64 r,.int .i64 l] 158)).drew)=>(((aB.alloc w (.cells #[.int .i64 r,.int .i64 l] 158)).dr).tr x.h).cell c2;have x2:∀x:Ext aB (w.alloc (.cells #[.int .i64 r,.int .i64 l] 158)).drew,x.u.cell? ⟨w.heap.size,0,none⟩=some (.int .i64 r):=aG (aM w _ _ (0,0) 0 _ rfl);have x3:∀x:Ext aB (w.alloc (.cells #[.int .i64 r,.int .i64 l] 158)).drew,x.u.cell? ⟨w.heap.size,1,none⟩=some (.int .i64 l):=aG (aM w _ _ (0,0) 1 _ rfl);have c1':(w.alloc (.cells #[.int .i64 r,.int .i64 l] 158)).cell? ⟨mb,1,none⟩=some (.int .i64 m.d):=(aB.alloc _ _).cell c1;by_cases hd:c=m.d
 ·subst hd
  have HE:=Ab hE;clear hM hb ff hw hP hE h c0 ai HS;go_enter Tryz.func72,Tryz.ntmps72
  go_wp2_with (first|(go_at_call 133;refine(CH _).mono ?_;rintro e w1 ⟨rfl,rfl⟩)|(go_at_call 132;refine(eB _ _).mono ?_;rintro e w1 ⟨rfl,rfl⟩))
  refine fE aB 5 (bB 5 []) aB.refl aB.trans (by kernel_rfl) (by kernel_rfl) (λd _ _ _ _ h=>by cases d<;>exact h) ?_
  repeat (refine fT rfl (λK hK=>?_);go_simp;first|(refine hK _ ?_;clear hK K)|(apply Exists.intro;refine⟨λx=>?_,hK _ ?_⟩;(fail);clear hK K))
  refine kN (λw4 h4=>?_);simp only[Ac,Ag];have di:=((aB.alloc w (.cells #[.int .i64 r,.int .i64 l] 158)).dr).tr h4;clear x1 x2 x3;go_wp2_with (at_delete;refine wpList_delete_own _ rfl _ _ 151 158 rfl 3 lY Tryz.underlying151 _ bm 4096 D rfl (bC aa di) _ (klP (r,l)) rfl cg ?_;intro w5 ak mc)
  go_ret;have iw:=(di.grownByR (some bm)).andThen mc.grown (λj hj=>Or.inr hj);exact⟨rfl,HF.out _ _ _ ak iw HE.out,iw⟩
 ·have HP:=Ab (hP hd)
  have ma:(c==m.d)=false:=by simpa using hd
  clear hM hb ff hw hP hE h c0 ai HS;go_enter Tryz.func72,Tryz.ntmps72
  go_wp2_with (first|(go_at_call 133;refine(CH _).mono ?_;rintro e w1 ⟨rfl,rfl⟩)|(go_at_call 132;refine(eB _ _).mono ?_;rintro e w1 ⟨rfl,rfl⟩))
  refine fE aB 6 (bB 6 []) aB.refl aB.trans (by kernel_rfl) (by kernel_rfl) (λd _ _ _ _ h=>by cases d<;>exact h) ?_
  repeat (refine fT rfl (λK hK=>?_);go_simp;first|(refine hK _ ?_;clear hK K)|(apply Exists.intro;refine⟨λx=>?_,hK _ ?_⟩;(fail);clear hK K))
  refine kN (λw4 h4=>?_);simp only[Ac,Ag];have di:=((aB.alloc w (.cells #[.int .i64 r,.int .i64 l] 158)).dr).tr h4;clear x1 x2 x3;go_wp2_with (at_mapUpdate;refine wpList_mapUpdate_own _ rfl _ _ _ 151 rfl 158 3 lY Tryz.underlying151 _ bm 4096 D rfl (bC aa di) (by unfold maxLen;omega) _ _ (klP (r,l)) rfl rfl cg _ [] (plainElem_int Tryz.underlying3 tv) ?_;intro w5 ak mc)
  go_ret;have iw:=(di.grownByR (some bm)).andThen mc (λj hj=>Or.inr hj);exact⟨rfl,HF.out _ _ _ ak iw HP.out,iw⟩
theorem tR0 (w:World) (mb bm:Nat) (m:Mx) (h:gG w mb bm m) (r l c:Int) (tv:WfI c) :
  Calls Tryz.prog 72 #[.pointer (some ⟨mb,0,none⟩),.int .i64 r,.int .i64 l,.int .i64 c] w (bH1 mb bm m (r,l) c w):=by
 cases hb:m.setB (r,l) c
 ·refine(bD1 w mb bm m h r l c hb).mono λe w' ⟨he,hw⟩=>?_
  subst hw;refine⟨by rw[hb];exact he,by rw[wY0 hb];exact h,⟨rfl,rfl,rfl,Nat.le_refl _,λ_ _ _=>rfl⟩⟩
 ·refine(xK0 w mb bm m h r l c hb tv).mono λe w' ⟨he,hm,hg⟩=>⟨by rw[hb];exact he,by rw[dB0 hb];exact hm,hg⟩
end
section
open Go Go.RowKit
structure bF1 where
 r:Int
 l:Int
 c:Int
def cB1 (s:bF1):List Value:=[.int .i64 s.r,.int .i64 s.l,.int .i64 s.c]
def runSets (m:Mx) (l:List bF1):Mx:=l.foldl (λm s=>m.setIf (s.r,s.l) s.c) m
theorem dO0 {m:Mx} {l:List bF1} {k:Nat} {s:bF1} (hs:l[k]?=some s):runSets m (l.take (k+1))=(runSets m (l.take k)).setIf (s.r,s.l) s.c:=by
 obtain⟨hk,rfl⟩:=List.getElem?_eq_some_iff.1 hs;unfold runSets;rw[List.take_succ_eq_append_getElem hk,List.foldl_append];rfl
theorem aW1 (m:Mx) (x:Int×Int) (c:Int):(m.setIf x c).n=m.n:=by unfold Mx.setIf Mx.set; split<;>rfl
end
section
open Go Go.RowKit
attribute [local go_sem] aK
theorem sS {w w':World} {row:Option Nat} (hg:w.grownBy w' row) {p:Addr} (ae:p.block<w.heap.size) (ai:some p.block≠row):w'.frozen? p=w.frozen? p:=by
 have hb:=hg.block p.block ae ai;unfold World.frozen?;rw[hb]
theorem aB.grownBy_set {w W:World} (h:aB w W) (g i:Nat) (v:Value):w.grownBy (W.setCell ⟨g,i,none⟩ v) (some g) where
 os:=(show W.os=w.os from Below.os h)
 tape:=(show W.tape=w.tape from Below.tape h)
 output:=(show W.output=w.output from Below.output h)
 size:=by have:=h.size;simpa using this
 block:=λk hk ai=>by
  rw[heap_setCell_other _ _ _ _ (λe=>ai (by rw[e]))];exact Below.block h k hk
end
section
open Go Go.RowKit
open Go.ChangeShapes Go.WideShapes Go.MapKept Go.ChangeMaps
open Go.WideElems (Fit entry_then_store)
open Go.WideMaps (KeyLaw)
theorem cK0 {w:World} {b:Nat} {o:Obj} (h:w.heap[b]?=some o):setBlock w b o=w:=by
 obtain⟨hb,he⟩:=Array.getElem?_eq_some_iff.1 h;unfold setBlock
 have:w.heap.setIfInBounds b o=w.heap:=by
  apply Ad
  intro i;rw[Aa];by_cases e:b=i
  ·subst e;rw[if_pos rfl,if_pos hb,h]
  ·rw[if_neg e]
 rw[this]
theorem yG (w:World) (b:Nat) (o o':Obj):setBlock (setBlock w b o) b o'=setBlock w b o':=by
 unfold setBlock
 have:(w.heap.setIfInBounds b o).setIfInBounds b o'=w.heap.setIfInBounds b o':=by
  apply Ad
  intro i;simp only[Aa,Array.size_setIfInBounds];by_cases e:b=i
  ·subst e;rw[if_pos rfl,if_pos rfl]
  ·rw[if_neg e,if_neg e,if_neg e]
 simp only[this]
theorem nA {α:Type} {a b:α} {w w':World} (h:(Result.ok a w:Result α)=.ok b w'):a=b/\w=w':=by cases h; exact⟨rfl,rfl⟩
theorem tY0 {H:Type} {P:Program} {w:World} {b n:Nat} {D:DataW H} {t k e:TypeId} {q:IntKind} (h:w.ownsMap P k (plainElem P e) b n D) (KL:KeyLaw P k) (K:Go.Maps.Keyed P k) (ht:P.underlying t=some (.map k e)) (he:P.underlying e=some (.int q))
  (hz:∀u:World,(zeroValue e).run P u=.ok (.int q 0) u) (hn:n<maxLen) {key:Value} {kl:Lit} (cg:keyOf P k key=some kl) :
  ∃c st w2,(Instr.mapEntry t (.map (some b)) key).run P w=.ok (.tuple #[.int q c,goInt st]) w2/\D.atKey kl (.lit (.int q 0))=.lit (.int q c)/\w.grownBy w2 (some b) /\
   (Instr.lookup t (.map (some b)) key false).run P w=.ok (.int q c) w/\(Instr.lookup t (.map (some b)) key false).run P w2=.ok (.int q c) w2 /\
   ∀x,(Lit.int q x).wf=true->∃w3,(Instr.entryStore t (.map (some b)) (goInt st) (.int q x)).run P w2=.ok () w3/\w3.ownsMap P k (plainElem P e) b (n+1) (D.put kl (.lit (.int q x)))/\w.grownBy w3 (some b):=by
 have hw0:(Lit.int q 0).wf=true:=by cases q<;>decide
 obtain⟨c,fk,ac,tv⟩:=h.lookup_int K ht he (hz w) cg;have pu:=λ(x:Int) (hx:(Lit.int q x).wf=true)=>h.update K ht hn cg (plainElem_int (H:=H) he hx);have afa:=h.isMap;have h0:=h;obtain⟨es,clock,hb,F,hs,hD⟩:=h0;obtain⟨v0,st,es1,jo,oo,_,cp⟩:=entry_then_store KL ht hz hb F cg;have iw:w.grownBy (setBlock w b (.map es1 jo)) (some b):=⟨rfl,rfl,rfl,by simp[setBlock],λi _ hi=>heap_setBlock_other hb _ (λe=>hi (by rw[e]))⟩
 have afb:v0=.int q c/\(Instr.lookup t (.map (some b)) key false).run P (setBlock w b (.map es1 jo))=.ok (.int q c) (setBlock w b (.map es1 jo)):=by
  rcases K.find w cg es.toList F.keys with ⟨h1,h2⟩|⟨j,e0,h1,h2,h3⟩
  ·have ku:(Instr.mapEntry t (.map (some b)) key).run P w=.ok (.tuple #[.int q 0,goInt clock]) (setBlock w b (.map (es.push ⟨key,.int q 0,clock⟩) (clock+1))):=by
    simp[Instr.mapEntry,run_underlying ht,MapKept.run_getObj_map hb,K.check w false cg,h1,hz,MapKept.run_setObj_map _ hb,Result.andThen,setBlock]
   have hmu:(Instr.mapUpdate t (.map (some b)) key (.int q 0)).run P w=.ok () (setBlock w b (.map (es.push ⟨key,.int q 0,clock⟩) (clock+1))):=by
    simp[Instr.mapUpdate,run_underlying ht,MapKept.run_getObj_map hb,K.check w false cg,h1,MapKept.run_setObj_map _ hb,Result.andThen,setBlock]
   rw[oo]at ku;obtain⟨e1,e2⟩:=nA ku;have s9:v0=.int q 0:=by have h9:=congrArg (λa:Array Value=>a[0]?) (Value.tuple.inj e1);simpa using h9
   have me:c=0:=by
    rcases Maps.fit_look false K ht (hz w) hb F cg with ⟨hl,_,_⟩|⟨e0,y,he0,kp,_⟩
    ·rw[fk]at hl
     have:=(nA hl).1
     simpa using this
    ·exact absurd kp (h2 e0 he0)
   obtain⟨w',hw',d6,_⟩:=pu 0 hw0;rw[hmu]at hw';have e3:=(nA hw').2;rw[e2];rw[<-e3]at d6;obtain⟨c',qk,fm,_⟩:=d6.lookup_int K ht he (hz _) cg;rw[Go.Maps.atKey_put_same afa (K.key cg)]at fm;have hc':c'=0:=by simpa using fm.symm
   rw[me];exact⟨s9,by rw[qk,hc']⟩
  ·have hj:es[j]?=some e0:=by simpa using h2
   have abp:es.modify j (λe=>{ e with key:=key })=es:=by
    apply Array.ext'
    rw[Array.toList_modify,modify_eq_set _ _ _ _ h2]
    have:({ e0 with key:=key }:MapEntry)=e0:=by rw[<-h3]
    rw[this];exact Go.WideElems.set_self _ _ _ h2
   have ku:(Instr.mapEntry t (.map (some b)) key).run P w=.ok (.tuple #[e0.val,goInt e0.born]) (setBlock w b (.map es clock)):=by
    simp[Instr.mapEntry,run_underlying ht,MapKept.run_getObj_map hb,K.check w false cg,h1,hj,h3,K.stays w cg,abp,MapKept.run_setObj_map _ hb,Result.andThen,setBlock]
   rw[oo]at ku;obtain⟨e1,e2⟩:=nA ku;have s9:v0=e0.val:=by have h9:=congrArg (λa:Array Value=>a[0]?) (Value.tuple.inj e1);simpa using h9
   have hl:(Instr.lookup t (.map (some b)) key false).run P w=.ok e0.val w:=by
    simp[Instr.lookup,run_underlying ht,MapKept.run_getObj_map hb,K.check w _ cg,h1,Result.andThen]
   rw[fk]at hl;have hc:=(nA hl).1;refine⟨by rw[s9,<-hc],?_⟩;rw[e2,cK0 hb];exact fk
 obtain⟨rfl,jc⟩:=afb;refine⟨c,st,_,oo,ac,iw,fk,jc,λx hx=>?_⟩;obtain⟨es',aew,ed,ii⟩:=cp (setBlock w b (.map es1 jo)) (.int q x) (heap_setBlock_same hb _);obtain⟨w',hw',d6,afc⟩:=pu x hx;rw[ii]at hw';have e3:=(nA hw').2;rw[yG]at ed;exact⟨_,ed,by rw[e3];exact d6,by rw[e3];exact afc⟩
end
end Go.Proofs.YthgklnohcmaopaaGreatDoor
