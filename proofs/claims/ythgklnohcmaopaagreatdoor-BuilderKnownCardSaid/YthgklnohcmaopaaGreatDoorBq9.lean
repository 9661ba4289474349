/- The texts Mat Mat2 RefM MatSetP RefM2, one behind the other. -/
import Derived.Test.YthgklnohcmaopaaGreatDoorBq2
import Derived.Test.YthgklnohcmaopaaGreatDoorBq8
import Derived.Sort.KeysCollected
import Derived.Test.YthgklnohcmaopaaGreatDoorBq1
import Derived.OneCell
open Go.Lib renaming hid → Aa
open List renaming drop_succ_cons → Ab,length_map → Ad,drop_zero → Ae
open Bool renaming and_eq_true → Ac
open Go.World renaming cell? → Af
set_option maxHeartbeats 2000000
namespace Go.Proofs.YthgklnohcmaopaaGreatDoor
set_option maxRecDepth 100000
section
open Go Go.RowKit
attribute [local go_sem] aM
theorem xT0 (w:World):(zeroValue 3).run Tryz.prog w=.ok (.int .i64 0) w:=by kernel_rfl
theorem oL0 {H:Type} {P:Program} {k:TypeId} {R:Value->Option (DataW H×List MemPlace)} {w:World} {b n:Nat} {D:DataW H} (h:w.ownsMap P k R b n D):w.ownsMap P k R b (Maps.size D) D:=by
 obtain⟨es,clock,h1,h2,h3,rfl⟩:=h;exact⟨es,clock,h1,h2,by simp[Maps.size,length_sorted],rfl⟩
theorem bF0 {w:World} {b n:Nat} {D:DataW Unit} {m:Mx} (hm:m.OK) (h:w.ownsMap Tryz.prog 158 (plainElem Tryz.prog 3) b n D) (hM:gN0 m D):Maps.size D<=4096:=by
 obtain⟨es,rfl,lk⟩:=h.keysOf;obtain⟨es',he,hpw,_⟩:=h.entries sL;obtain rfl:es=es':=by simpa using he
 haveI:DecidableEq Lit:=λa b=>Classical.propDecidable (a=b)
 have ut:(es.map (·.1)).Nodup:=List.pairwise_map.2 hpw
 have ad2:∀x∈es.map (·.1),x∈(List.range (m.n*m.n)).map λi=>klP (gX m.n i):=λkl hkl=>by
  obtain⟨p,hp,rfl⟩:=List.mem_map.1 hkl;obtain⟨key,fj⟩:=lk p hp;obtain⟨x,h1,h2,_,hx⟩:=yJ fj
  have je:Maps.has (.map es) (klP x)=true:=by
   rw[Maps.has_eq,List.any_eq_true];exact⟨p,hp,by rw[hx];exact gQ0 x⟩
  have h3:=(hM x h1 h2).1;rw[je]at h3
  have h4:inP m.n x=true:=by
   have:=h3.symm
   simp only[Ac]at this;exact this.1
  exact List.mem_map.2 ⟨at2 m.n x,List.mem_range.2 (vH h4),by rw[wZ h4,hx]⟩
 have h5:=cE ut ad2;rw[Ad,Ad,List.length_range]at h5
 have:=hm.n2
 show es.length<=4096
 exact Nat.le_trans h5 (Nat.mul_le_mul this this)
structure jR (w:World) (mb bm:Nat) (m:Mx):Prop where
 ok:m.OK
 c0:w.cell? ⟨mb,0,none⟩=some (.int .i64 m.n)
 c1:w.cell? ⟨mb,1,none⟩=some (.int .i64 m.d)
 c2:w.cell? ⟨mb,2,none⟩=some (.map (some bm))
 own:∃D:DataW Unit,w.ownsMap Tryz.prog 158 (plainElem Tryz.prog 3) bm 4096 D/\gN0 m D
theorem jR.grows {w w':World} {mb bm:Nat} {m:Mx} (h:jR w mb bm m) (hg:aB w w'):jR w' mb bm m :=
 ⟨h.ok,hg.cell h.c0,hg.cell h.c1,hg.cell h.c2,let ⟨D,ho,hm⟩:=h.own;⟨D,bF ho hg,hm⟩⟩
theorem jR.ne {w:World} {mb bm:Nat} {m:Mx} (h:jR w mb bm m):mb≠bm:=by
 obtain⟨D,⟨es,clock,hb,_⟩,hm⟩:=h.own;intro e;have h0:=h.c0;subst e;simp[Af,hb]at h0
theorem jG {w w':World} {row:Option Nat} (hg:w.grownBy w' row) {p:Addr} {v:Value} (hc:w.cell? p=some v) (aq:some p.block≠row):w'.cell? p=some v:=by
 have ae:=World.block_lt_of_cell? w _ hc;have hb:=hg.block p.block ae aq;unfold Af at hc ⊢;rw[hb];exact hc
theorem eU (c:Int) (w:World):Calls Tryz.prog 132 #[.int .i64 c] w λe w'=>e=.returned (.bool (isC c))/\w=w':=by
 unfold isC;by_cases h0:0<=c
 ·go_enter Tryz.func132,Tryz.ntmps132
  go_wp2
  go_ret;exact⟨cX (by simp[h0]),rfl⟩
 ·go_enter Tryz.func132,Tryz.ntmps132
  go_wp2
  go_ret;exact⟨cX (by simp;omega),rfl⟩
theorem gS0 (w:World) (mb bm:Nat) (m:Mx) (h:jR w mb bm m):Calls Tryz.prog 114 #[.pointer (some ⟨mb,0,none⟩)] w λe w'=>e=.returned (.int .i64 m.n)/\w=w':=by
 have c0:=h.c0;go_enter Tryz.func114,Tryz.ntmps114
 go_wp2
 go_ret;exact⟨rfl,rfl⟩
theorem oF0 (w:World) (mb bm:Nat) (m:Mx) (h:jR w mb bm m) (r:Int):Calls Tryz.prog 133 #[.pointer (some ⟨mb,0,none⟩),.int .i64 r] w λe w'=>e=.returned (.bool (inR m.n r))/\w=w':=by
 have CS:=λW (hW:w=W)=>gS0 W mb bm m (hW▸h);unfold inR;by_cases h0:0<=r
 ·go_enter Tryz.func133,Tryz.ntmps133
  go_wp2_with (go_at_call 114;refine(CS _ rfl).mono ?_;rintro e w1 ⟨rfl,rfl⟩)
  go_ret;exact⟨cX (by simp[h0]),rfl⟩
 ·go_enter Tryz.func133,Tryz.ntmps133
  go_wp2_with (go_at_call 114;refine(CS _ rfl).mono ?_;rintro e w1 ⟨rfl,rfl⟩)
  go_ret;exact⟨cX (by simp;omega),rfl⟩
theorem wI0 (n d:Int) (w:World) (h:uD0 n d=false):Calls Tryz.prog 71 #[.int .i64 n,.int .i64 d] w λe w'=>e=.returned (.tuple #[.pointer none,.int .i64 6])/\w=w':=by
 by_cases h1:n<1
 ·go_enter Tryz.func71,Tryz.ntmps71
  go_wp2_with (go_at_call 132;refine(eU _ _).mono ?_;rintro e w1 ⟨rfl,rfl⟩)
  go_ret2;exact⟨rfl,rfl⟩
 ·by_cases h2:(64:Int)<n
  ·go_enter Tryz.func71,Tryz.ntmps71
   go_wp2_with (go_at_call 132;refine(eU _ _).mono ?_;rintro e w1 ⟨rfl,rfl⟩)
   go_ret2;exact⟨rfl,rfl⟩
  ·have h3:isC d=false:=by
    cases hd:isC d with
    | false=>rfl
    | true =>
     have h3:=zO (n:=n) (d:=d);rw[h]at h3;have h4:=eR0.1 hd
     have:=h3.2 ⟨by omega,by omega,h4.1,h4.2⟩
     cases this
   clear h;go_enter Tryz.func71,Tryz.ntmps71
   go_wp2_with (go_at_call 132;refine(eU _ _).mono ?_;rintro e w1 ⟨rfl,rfl⟩)
   go_ret2;exact⟨rfl,rfl⟩
def vJ0 (m:Mx) (w:World) (e:Ending) (w':World):Prop:=e=.returned (.tuple #[.pointer (some ⟨w.heap.size+1,0,none⟩),.int .i64 0])/\jR w' (w.heap.size+1) w.heap.size m/\aB w w'
theorem wV0 (n d:Int) (w:World) (h:uD0 n d=true):Calls Tryz.prog 71 #[.int .i64 n,.int .i64 d] w (vJ0 (newM n d) w):=by
 have au:=nR0 h;have hM:=tT0 (H:=Unit) n d;obtain⟨h1,h2,h3,h4⟩:=zO.1 h;have hC:isC d=true:=eR0.2 ⟨h3,h4⟩;have hn:((newM n d).n:Int)=n:=by show ((n.toNat:Nat):Int)=n;omega
 have hd:(newM n d).d=d:=rfl;generalize newM n d=m at *;have HOK:=Aa au;have HM:=Aa hM;have HN:=Aa hn;have HD:=Aa hd;have jc:¬n<1:=by omega
 have jd:¬(64:Int)<n:=by omega
 clear au hM hn hd h h1 h2 h3 h4;have yw:=@run_makeMap Tryz.prog;go_enter Tryz.func71,Tryz.ntmps71
 go_wp2_with (go_at_call 132;refine(eU _ _).mono ?_;rintro e w1 ⟨rfl,rfl⟩)
 go_ret2;refine⟨rfl,⟨HOK.out,?_,?_,?_,_,((World.ownsMap_made _ _ _ _).alloc _).mono (Nat.zero_le _),HM.out⟩,(aB.alloc _ _).al _⟩
 ·rw[HN.out];exact dK (w:=w.alloc (.map #[] 0)) (by simp) 0 _ rfl
 ·rw[HD.out]
  have:=dK (w:=w.alloc (.map #[] 0)) (cs:=#[.int .i64 n,.int .i64 d,.map (some w.heap.size)]) (t:=153) (n:=w.heap.size+1) (by simp) 1 _ rfl
  rw[kG]at this;exact this
 ·have:=dK (w:=w.alloc (.map #[] 0)) (cs:=#[.int .i64 n,.int .i64 d,.map (some w.heap.size)]) (t:=153) (n:=w.heap.size+1) (by simp) 2 _ rfl
  rw[kG]at this;exact this
theorem aB.grownByR {w w':World} (h:aB w w') (row:Option Nat):w.grownBy w' row:=⟨Below.os h,Below.tape h,Below.output h,Below.size h,λk hk _=>Below.block h k hk⟩
def wR0 (mb bm:Nat) (m:Mx) (x:Int×Int) (c:Int) (w:World) (e:Ending) (w':World):Prop :=
 e=.returned (.int .i64 (if m.setB x c then 0 else 6))/\jR w' mb bm (m.setIf x c)/\w.grownBy w' (some bm)
theorem qN0 {m:Mx} {x:Int×Int} {c:Int} (h:m.setB x c=false):m.setIf x c=m:=by unfold Mx.setIf; rw[h]; rfl
theorem nW0 {m:Mx} {x:Int×Int} {c:Int} (h:m.setB x c=true):m.setIf x c=m.set x c:=by unfold Mx.setIf; rw[h]; rfl
theorem xF0 (w:World) (mb bm:Nat) (m:Mx) (h:jR w mb bm m) (r l c:Int) (hb:m.setB (r,l) c=false) :
  Calls Tryz.prog 72 #[.pointer (some ⟨mb,0,none⟩),.int .i64 r,.int .i64 l,.int .i64 c] w λe w'=>e=.returned (.int .i64 6)/\w=w':=by
 have CH:=oF0 w mb bm m h;unfold Mx.setB inP at hb;simp only at hb;cases hr:inR m.n r
 ·clear hb
  go_enter Tryz.func72,Tryz.ntmps72
  go_wp2_with (first|(go_at_call 133;refine(CH _).mono ?_;rintro e w1 ⟨rfl,rfl⟩)|(go_at_call 132;refine(eU _ _).mono ?_;rintro e w1 ⟨rfl,rfl⟩))
  go_ret;exact⟨rfl,rfl⟩
 ·cases hl:inR m.n l
  ·clear hb
   go_enter Tryz.func72,Tryz.ntmps72
   go_wp2_with (first|(go_at_call 133;refine(CH _).mono ?_;rintro e w1 ⟨rfl,rfl⟩)|(go_at_call 132;refine(eU _ _).mono ?_;rintro e w1 ⟨rfl,rfl⟩))
   go_ret;exact⟨rfl,rfl⟩
  ·rw[hr,hl]at hb
   have hc:isC c=false:=hb;clear hb;go_enter Tryz.func72,Tryz.ntmps72
   go_wp2_with (first|(go_at_call 133;refine(CH _).mono ?_;rintro e w1 ⟨rfl,rfl⟩)|(go_at_call 132;refine(eU _ _).mono ?_;rintro e w1 ⟨rfl,rfl⟩))
   go_ret;exact⟨rfl,rfl⟩
theorem sK0 (w:World) (mb bm:Nat) (m:Mx) (h:jR w mb bm m) (r l c:Int) (hb:m.setB (r,l) c=true) (uu:WfI c) :
  Calls Tryz.prog 72 #[.pointer (some ⟨mb,0,none⟩),.int .i64 r,.int .i64 l,.int .i64 c] w λe w'=>e=.returned (.int .i64 0)/\jR w' mb bm (m.set (r,l) c)/\w.grownBy w' (some bm):=by
 have CH:=oF0 w mb bm m h;have ee:=hb;unfold Mx.setB inP at ee;simp only[Ac]at ee;have hr:inR m.n r=true:=ee.1.1;have hl:inR m.n l=true:=ee.1.2;have hc:isC c=true:=ee.2;clear ee;have gb:inP m.n (r,l)=true:=by unfold inP;rw[hr,hl];rfl
 have c0:=h.c0;have c1:=h.c1;have c2:=h.c2;have aq:=h.ne;obtain⟨D,aa,hM⟩:=h.own;have hw:=mO h.ok.n2 gb;have fj:=yT0 (x:=(r,l)) hw.1 hw.2;have hP:=λhd=>hM.put aa.isMap h.ok hb hd;have hE:=hM.del h.ok gb;have HS:=Aa (h.ok.set hb)
 have HF:Hid (∀(w':World) (n:Nat) (D':DataW Unit),w'.ownsMap Tryz.prog 158 (plainElem Tryz.prog 3) bm n D'->w.grownBy w' (some bm)->gN0 (m.set (r,l) c) D'->jR w' mb bm (m.set (r,l) c)):=λw' n D' ho hg hm =>
  ⟨h.ok.set hb,jG hg c0 (by simpa using aq),jG hg c1 (by simpa using aq),jG hg c2 (by simpa using aq),D',(oL0 ho).mono (bF0 (h.ok.set hb) ho hm),hm⟩
 have x1:=λ(x:Ext aB (w.alloc (.cells #[.int .i64 r,.int .i64 l] 158)).drew)=>(((aB.alloc w (.cells #[.int .i64 r,.int .i64 l] 158)).dr).tr x.h).cell c2;have x2:∀x:Ext aB (w.alloc (.cells #[.int .i64 r,.int .i64 l] 158)).drew,x.u.cell? ⟨w.heap.size,0,none⟩=some (.int .i64 r):=aG (aU w _ _ (0,0) 0 _ rfl);have x3:∀x:Ext aB (w.alloc (.cells #[.int .i64 r,.int .i64 l] 158)).drew,x.u.cell? ⟨w.heap.size,1,none⟩=some (.int .i64 l):=aG (aU w _ _ (0,0) 1 _ rfl);have c1':(w.alloc (.cells #[.int .i64 r,.int .i64 l] 158)).cell? ⟨mb,1,none⟩=some (.int .i64 m.d):=(aB.alloc _ _).cell c1;by_cases hd:c=m.d
 ·subst hd
  have HE:=Aa hE;clear hM hb gb hw hP hE h c0 aq HS;go_enter Tryz.func72,Tryz.ntmps72
  go_wp2_with (first|(go_at_call 133;refine(CH _).mono ?_;rintro e w1 ⟨rfl,rfl⟩)|(go_at_call 132;refine(eU _ _).mono ?_;rintro e w1 ⟨rfl,rfl⟩))
  refine mW aB 5 (bB 5 []) aB.refl aB.trans (by kernel_rfl) (by kernel_rfl) (λd _ _ _ _ h=>by cases d<;>exact h) ?_
  repeat (refine mB rfl (λK hK=>?_);go_simp;first|(refine hK _ ?_;clear hK K)|(apply Exists.intro;refine⟨λx=>?_,hK _ ?_⟩;(fail);clear hK K))
  refine sP (λw4 h4=>?_);simp only[Ab,Ae];have d8:=((aB.alloc w (.cells #[.int .i64 r,.int .i64 l] 158)).dr).tr h4;clear x1 x2 x3;go_wp2_with (at_delete;refine wpList_delete_own _ rfl _ _ 151 158 rfl 3 sL Tryz.underlying151 _ bm 4096 D rfl (bF aa d8) _ (klP (r,l)) rfl fj ?_;intro w5 ai ll)
  go_ret;have jg:=(d8.grownByR (some bm)).andThen ll.grown (λj hj=>Or.inr hj);exact⟨rfl,HF.out _ _ _ ai jg HE.out,jg⟩
 ·have HP:=Aa (hP hd)
  have lj:(c==m.d)=false:=by simpa using hd
  clear hM hb gb hw hP hE h c0 aq HS;go_enter Tryz.func72,Tryz.ntmps72
  go_wp2_with (first|(go_at_call 133;refine(CH _).mono ?_;rintro e w1 ⟨rfl,rfl⟩)|(go_at_call 132;refine(eU _ _).mono ?_;rintro e w1 ⟨rfl,rfl⟩))
  refine mW aB 6 (bB 6 []) aB.refl aB.trans (by kernel_rfl) (by kernel_rfl) (λd _ _ _ _ h=>by cases d<;>exact h) ?_
  repeat (refine mB rfl (λK hK=>?_);go_simp;first|(refine hK _ ?_;clear hK K)|(apply Exists.intro;refine⟨λx=>?_,hK _ ?_⟩;(fail);clear hK K))
  refine sP (λw4 h4=>?_);simp only[Ab,Ae];have d8:=((aB.alloc w (.cells #[.int .i64 r,.int .i64 l] 158)).dr).tr h4;clear x1 x2 x3;go_wp2_with (at_mapUpdate;refine wpList_mapUpdate_own _ rfl _ _ _ 151 rfl 158 3 sL Tryz.underlying151 _ bm 4096 D rfl (bF aa d8) (by unfold maxLen;omega) _ _ (klP (r,l)) rfl rfl fj _ [] (plainElem_int Tryz.underlying3 uu) ?_;intro w5 ai ll)
  go_ret;have jg:=(d8.grownByR (some bm)).andThen ll (λj hj=>Or.inr hj);exact⟨rfl,HF.out _ _ _ ai jg HP.out,jg⟩
theorem xC0 (w:World) (mb bm:Nat) (m:Mx) (h:jR w mb bm m) (r l c:Int) (uu:WfI c) :
  Calls Tryz.prog 72 #[.pointer (some ⟨mb,0,none⟩),.int .i64 r,.int .i64 l,.int .i64 c] w (wR0 mb bm m (r,l) c w):=by
 cases hb:m.setB (r,l) c
 ·refine(xF0 w mb bm m h r l c hb).mono λe w' ⟨he,hw⟩=>?_
  subst hw;refine⟨by rw[hb];exact he,by rw[qN0 hb];exact h,⟨rfl,rfl,rfl,Nat.le_refl _,λ_ _ _=>rfl⟩⟩
 ·refine(sK0 w mb bm m h r l c hb uu).mono λe w' ⟨he,hm,hg⟩=>⟨by rw[hb];exact he,by rw[nW0 hb];exact hm,hg⟩
theorem aB.grownBy_set {w W:World} (h:aB w W) (g i:Nat) (v:Value):w.grownBy (W.setCell ⟨g,i,none⟩ v) (some g) where
 os:=(show W.os=w.os from Below.os h)
 tape:=(show W.tape=w.tape from Below.tape h)
 output:=(show W.output=w.output from Below.output h)
 size:=by have:=h.size;simpa using this
 block:=λk hk aq=>by
  rw[heap_setCell_other _ _ _ _ (λe=>aq (by rw[e]))];exact Below.block h k hk
end
section
open Go Go.RowKit
structure yS0 where
 r:Int
 l:Int
 c:Int
def zT0 (s:yS0):List Value:=[.int .i64 s.r,.int .i64 s.l,.int .i64 s.c]
def runSets (m:Mx) (l:List yS0):Mx:=l.foldl (λm s=>m.setIf (s.r,s.l) s.c) m
theorem zV {m:Mx} {l:List yS0} {k:Nat} {s:yS0} (hs:l[k]?=some s):runSets m (l.take (k+1))=(runSets m (l.take k)).setIf (s.r,s.l) s.c:=by
 obtain⟨hk,rfl⟩:=List.getElem?_eq_some_iff.1 hs;unfold runSets;rw[List.take_succ_eq_append_getElem hk,List.foldl_append];rfl
end
section
open Go Go.RowKit
attribute [local go_sem] aM
end
end Go.Proofs.YthgklnohcmaopaaGreatDoor
