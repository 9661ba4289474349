/- The texts Mat Mat2 RefM MatSetP RefM2 Ncmp, one behind the other. -/
import Derived.Test.YtaogeadljgjpcaaGreatDoorRq2
import Derived.Test.YtaogeadljgjpcaaGreatDoorRq11
import Derived.Sort.KeysCollected
import Derived.Test.YtaogeadljgjpcaaGreatDoorRq1
import Derived.OneCell
open Go.World renaming cell?_setCell_other → Aa,cell? → Ao,frozen? → Ar
open Go.Lib renaming hid → Ab
open List renaming replicate → Ac,length_replicate → Ad,drop_succ_cons → Af,getElem?_eq_getElem → Ag,drop_zero → Ai,flatMap_cons → Ak,length_map → Aq
open Bool renaming and_eq_true → Ae
open Nat renaming mul_le_mul → Ah,lt_succ_self → An,le_refl → Ap,zero_le → As
open Go.IntKind renaming signed → Aj,wrap → Al,bits → Am
set_option maxHeartbeats 4000000
namespace Go.Proofs.YtaogeadljgjpcaaGreatDoor
set_option maxRecDepth 100000
section
open Go Go.RowKit
attribute [local go_sem] aQ
theorem pD1 (w:World):(zeroValue 3).run Tryz.prog w=.ok (.int .i64 0) w:=by kernel_rfl
theorem xA0 {H:Type} {P:Program} {k:TypeId} {R:Value->Option (DataW H×List MemPlace)} {w:World} {b n:Nat} {D:DataW H} (h:w.ownsMap P k R b n D):w.ownsMap P k R b (Maps.size D) D:=by
 obtain⟨es,clock,h1,h2,h3,rfl⟩:=h;exact⟨es,clock,h1,h2,by simp[Maps.size,length_sorted],rfl⟩
theorem jF0 {w:World} {b n:Nat} {D:DataW Unit} {m:Mx} (hm:m.OK) (h:w.ownsMap Tryz.prog 258 (plainElem Tryz.prog 3) b n D) (hM:qB0 m D):Maps.size D<=4096:=by
 obtain⟨es,rfl,px⟩:=h.keysOf;obtain⟨es',he,y8,_⟩:=h.entries zC;obtain rfl:es=es':=by simpa using he
 haveI:DecidableEq Lit:=λa b=>Classical.propDecidable (a=b)
 have o7:(es.map (·.1)).Nodup:=List.pairwise_map.2 y8
 have ag4:∀x∈es.map (·.1),x∈(List.range (m.n*m.n)).map λi=>klP (eA m.n i):=λkl hkl=>by
  obtain⟨p,hp,rfl⟩:=List.mem_map.1 hkl;obtain⟨key,eu⟩:=px p hp;obtain⟨x,h1,h2,_,hx⟩:=eR0 eu
  have mc:Maps.has (.map es) (klP x)=true:=by
   rw[Maps.has_eq,List.any_eq_true];exact⟨p,hp,by rw[hx];exact pX0 x⟩
  have h3:=(hM x h1 h2).1;rw[mc]at h3
  have h4:inP m.n x=true:=by
   have:=h3.symm
   simp only[Ae]at this;exact this.1
  exact List.mem_map.2 ⟨at2 m.n x,List.mem_range.2 (vM h4),by rw[dB0 h4,hx]⟩
 have h5:=cM o7 ag4;rw[Aq,Aq,List.length_range]at h5
 have:=hm.n2
 show es.length<=4096
 exact Nat.le_trans h5 (Ah this this)
structure gJ (w:World) (mb bm:Nat) (m:Mx):Prop where
 ok:m.OK
 c0:w.cell? ⟨mb,0,none⟩=some (.int .i64 m.n)
 c1:w.cell? ⟨mb,1,none⟩=some (.int .i64 m.d)
 c2:w.cell? ⟨mb,2,none⟩=some (.map (some bm))
 own:∃D:DataW Unit,w.ownsMap Tryz.prog 258 (plainElem Tryz.prog 3) bm 4096 D/\qB0 m D
theorem gJ.grows {w w':World} {mb bm:Nat} {m:Mx} (h:gJ w mb bm m) (hg:aB w w'):gJ w' mb bm m :=
 ⟨h.ok,hg.cell h.c0,hg.cell h.c1,hg.cell h.c2,let ⟨D,ho,hm⟩:=h.own;⟨D,aJ ho hg,hm⟩⟩
theorem gJ.ne {w:World} {mb bm:Nat} {m:Mx} (h:gJ w mb bm m):mb≠bm:=by
 obtain⟨D,⟨es,clock,hb,_⟩,hm⟩:=h.own;intro e;have h0:=h.c0;subst e;simp[Ao,hb]at h0
theorem aU {w w':World} {row:Option Nat} (hg:w.grownBy w' row) {p:Addr} {v:Value} (hc:w.cell? p=some v) (aj:some p.block≠row):w'.cell? p=some v:=by
 have ae:=World.block_lt_of_cell? w _ hc;have hb:=hg.block p.block ae aj;unfold Ao at hc ⊢;rw[hb];exact hc
theorem gJ.kept {w w':World} {mb bm:Nat} {m:Mx} {row:Option Nat} (h:gJ w mb bm m) (hg:w.grownBy w' row) (h1:some mb≠row) (h2:some bm≠row):gJ w' mb bm m :=
 ⟨h.ok,aU hg h.c0 h1,aU hg h.c1 h1,aU hg h.c2 h1,let ⟨D,ho,hm⟩:=h.own;⟨D,ho.kept hg h2,hm⟩⟩
theorem gG (c:Int) (w:World):Calls Tryz.prog 186 #[.int .i64 c] w λe w'=>e=.returned (.bool (isC c))/\w=w':=by
 unfold isC;by_cases h0:0<=c
 ·go_enter Tryz.func186,Tryz.ntmps186
  go_wp2
  go_ret;exact⟨dD (by simp[h0]),rfl⟩
 ·go_enter Tryz.func186,Tryz.ntmps186
  go_wp2
  go_ret;exact⟨dD (by simp;omega),rfl⟩
theorem pT0 (w:World) (mb bm:Nat) (m:Mx) (h:gJ w mb bm m):Calls Tryz.prog 167 #[.pointer (some ⟨mb,0,none⟩)] w λe w'=>e=.returned (.int .i64 m.n)/\w=w':=by
 have c0:=h.c0;go_enter Tryz.func167,Tryz.ntmps167
 go_wp2
 go_ret;exact⟨rfl,rfl⟩
theorem zO0 (w:World) (mb bm:Nat) (m:Mx) (h:gJ w mb bm m) (r:Int):Calls Tryz.prog 187 #[.pointer (some ⟨mb,0,none⟩),.int .i64 r] w λe w'=>e=.returned (.bool (inR m.n r))/\w=w':=by
 have CS:=λW (hW:w=W)=>pT0 W mb bm m (hW▸h);unfold inR;by_cases h0:0<=r
 ·go_enter Tryz.func187,Tryz.ntmps187
  go_wp2_with (go_at_call 167;refine(CS _ rfl).mono ?_;rintro e w1 ⟨rfl,rfl⟩)
  go_ret;exact⟨dD (by simp[h0]),rfl⟩
 ·go_enter Tryz.func187,Tryz.ntmps187
  go_wp2_with (go_at_call 167;refine(CS _ rfl).mono ?_;rintro e w1 ⟨rfl,rfl⟩)
  go_ret;exact⟨dD (by simp;omega),rfl⟩
theorem aJ1 (n d:Int) (w:World) (h:nO0 n d=false):Calls Tryz.prog 123 #[.int .i64 n,.int .i64 d] w λe w'=>e=.returned (.tuple #[.pointer none,.int .i64 6])/\w=w':=by
 by_cases h1:n<1
 ·go_enter Tryz.func123,Tryz.ntmps123
  go_wp2_with (go_at_call 186;refine(gG _ _).mono ?_;rintro e w1 ⟨rfl,rfl⟩)
  go_ret2;exact⟨rfl,rfl⟩
 ·by_cases h2:(64:Int)<n
  ·go_enter Tryz.func123,Tryz.ntmps123
   go_wp2_with (go_at_call 186;refine(gG _ _).mono ?_;rintro e w1 ⟨rfl,rfl⟩)
   go_ret2;exact⟨rfl,rfl⟩
  ·have h3:isC d=false:=by
    cases hd:isC d with
    | false=>rfl
    | true =>
     have h3:=nP (n:=n) (d:=d);rw[h]at h3;have h4:=uM.1 hd
     have:=h3.2 ⟨by omega,by omega,h4.1,h4.2⟩
     cases this
   clear h;go_enter Tryz.func123,Tryz.ntmps123
   go_wp2_with (go_at_call 186;refine(gG _ _).mono ?_;rintro e w1 ⟨rfl,rfl⟩)
   go_ret2;exact⟨rfl,rfl⟩
def mX1 (m:Mx) (w:World) (e:Ending) (w':World):Prop:=e=.returned (.tuple #[.pointer (some ⟨w.heap.size+1,0,none⟩),.int .i64 0])/\gJ w' (w.heap.size+1) w.heap.size m/\aB w w'
theorem xP0 (n d:Int) (w:World) (h:nO0 n d=true):Calls Tryz.prog 123 #[.int .i64 n,.int .i64 d] w (mX1 (newM n d) w):=by
 have ag:=gE0 h;have hM:=gF1 (H:=Unit) n d;obtain⟨h1,h2,h3,h4⟩:=nP.1 h;have hC:isC d=true:=uM.2 ⟨h3,h4⟩;have hn:((newM n d).n:Int)=n:=by show ((n.toNat:Nat):Int)=n;omega
 have hd:(newM n d).d=d:=rfl;generalize newM n d=m at *;have HOK:=Ab ag;have HM:=Ab hM;have HN:=Ab hn;have HD:=Ab hd;have io:¬n<1:=by omega
 have km:¬(64:Int)<n:=by omega
 clear ag hM hn hd h h1 h2 h3 h4;have q6:=@run_makeMap Tryz.prog;go_enter Tryz.func123,Tryz.ntmps123
 go_wp2_with (go_at_call 186;refine(gG _ _).mono ?_;rintro e w1 ⟨rfl,rfl⟩)
 go_ret2;refine⟨rfl,⟨HOK.out,?_,?_,?_,_,((World.ownsMap_made _ _ _ _).alloc _).mono (As _),HM.out⟩,(aB.alloc _ _).al _⟩
 ·rw[HN.out];exact dZ (w:=w.alloc (.map #[] 0)) (by simp) 0 _ rfl
 ·rw[HD.out]
  have:=dZ (w:=w.alloc (.map #[] 0)) (cs:=#[.int .i64 n,.int .i64 d,.map (some w.heap.size)]) (t:=256) (n:=w.heap.size+1) (by simp) 1 _ rfl
  rw[nM]at this;exact this
 ·have:=dZ (w:=w.alloc (.map #[] 0)) (cs:=#[.int .i64 n,.int .i64 d,.map (some w.heap.size)]) (t:=256) (n:=w.heap.size+1) (by simp) 2 _ rfl
  rw[nM]at this;exact this
theorem aB.grownByR {w w':World} (h:aB w w') (row:Option Nat):w.grownBy w' row:=⟨Below.os h,Below.tape h,Below.output h,Below.size h,λk hk _=>Below.block h k hk⟩
def xN0 (mb bm:Nat) (m:Mx) (x:Int×Int) (c:Int) (w:World) (e:Ending) (w':World):Prop :=
 e=.returned (.int .i64 (if m.setB x c then 0 else 6))/\gJ w' mb bm (m.setIf x c)/\w.grownBy w' (some bm)
theorem qZ0 {m:Mx} {x:Int×Int} {c:Int} (h:m.setB x c=false):m.setIf x c=m:=by unfold Mx.setIf; rw[h]; rfl
theorem zN {m:Mx} {x:Int×Int} {c:Int} (h:m.setB x c=true):m.setIf x c=m.set x c:=by unfold Mx.setIf; rw[h]; rfl
theorem kQ1 (w:World) (mb bm:Nat) (m:Mx) (h:gJ w mb bm m) (r l c:Int) (hb:m.setB (r,l) c=false) :
  Calls Tryz.prog 124 #[.pointer (some ⟨mb,0,none⟩),.int .i64 r,.int .i64 l,.int .i64 c] w λe w'=>e=.returned (.int .i64 6)/\w=w':=by
 have CH:=zO0 w mb bm m h;unfold Mx.setB inP at hb;simp only at hb;cases hr:inR m.n r
 ·clear hb
  go_enter Tryz.func124,Tryz.ntmps124
  go_wp2_with (first|(go_at_call 187;refine(CH _).mono ?_;rintro e w1 ⟨rfl,rfl⟩)|(go_at_call 186;refine(gG _ _).mono ?_;rintro e w1 ⟨rfl,rfl⟩))
  go_ret;exact⟨rfl,rfl⟩
 ·cases hl:inR m.n l
  ·clear hb
   go_enter Tryz.func124,Tryz.ntmps124
   go_wp2_with (first|(go_at_call 187;refine(CH _).mono ?_;rintro e w1 ⟨rfl,rfl⟩)|(go_at_call 186;refine(gG _ _).mono ?_;rintro e w1 ⟨rfl,rfl⟩))
   go_ret;exact⟨rfl,rfl⟩
  ·rw[hr,hl]at hb
   have hc:isC c=false:=hb;clear hb;go_enter Tryz.func124,Tryz.ntmps124
   go_wp2_with (first|(go_at_call 187;refine(CH _).mono ?_;rintro e w1 ⟨rfl,rfl⟩)|(go_at_call 186;refine(gG _ _).mono ?_;rintro e w1 ⟨rfl,rfl⟩))
   go_ret;exact⟨rfl,rfl⟩
theorem dY1 (w:World) (mb bm:Nat) (m:Mx) (h:gJ w mb bm m) (r l c:Int) (hb:m.setB (r,l) c=true) (y9:WfI c) :
  Calls Tryz.prog 124 #[.pointer (some ⟨mb,0,none⟩),.int .i64 r,.int .i64 l,.int .i64 c] w λe w'=>e=.returned (.int .i64 0)/\gJ w' mb bm (m.set (r,l) c)/\w.grownBy w' (some bm):=by
 have CH:=zO0 w mb bm m h;have ct:=hb;unfold Mx.setB inP at ct;simp only[Ae]at ct;have hr:inR m.n r=true:=ct.1.1;have hl:inR m.n l=true:=ct.1.2;have hc:isC c=true:=ct.2;clear ct;have i7:inP m.n (r,l)=true:=by unfold inP;rw[hr,hl];rfl
 have c0:=h.c0;have c1:=h.c1;have c2:=h.c2;have aj:=h.ne;obtain⟨D,aa,hM⟩:=h.own;have hw:=qC h.ok.n2 i7;have eu:=pE1 (x:=(r,l)) hw.1 hw.2;have hP:=λhd=>hM.put aa.isMap h.ok hb hd;have hE:=hM.del h.ok i7;have HS:=Ab (h.ok.set hb)
 have HF:Hid (∀(w':World) (n:Nat) (D':DataW Unit),w'.ownsMap Tryz.prog 258 (plainElem Tryz.prog 3) bm n D'->w.grownBy w' (some bm)->qB0 (m.set (r,l) c) D'->gJ w' mb bm (m.set (r,l) c)):=λw' n D' ho hg hm =>
  ⟨h.ok.set hb,aU hg c0 (by simpa using aj),aU hg c1 (by simpa using aj),aU hg c2 (by simpa using aj),D',(xA0 ho).mono (jF0 (h.ok.set hb) ho hm),hm⟩
 have x1:=λ(x:Ext aB (w.alloc (.cells #[.int .i64 r,.int .i64 l] 258)).drew)=>(((aB.alloc w (.cells #[.int .i64 r,.int .i64 l] 258)).dr).tr x.h).cell c2;have x2:∀x:Ext aB (w.alloc (.cells #[.int .i64 r,.int .i64 l] 258)).drew,x.u.cell? ⟨w.heap.size,0,none⟩=some (.int .i64 r):=aF (aT w _ _ (0,0) 0 _ rfl);have x3:∀x:Ext aB (w.alloc (.cells #[.int .i64 r,.int .i64 l] 258)).drew,x.u.cell? ⟨w.heap.size,1,none⟩=some (.int .i64 l):=aF (aT w _ _ (0,0) 1 _ rfl);have c1':(w.alloc (.cells #[.int .i64 r,.int .i64 l] 258)).cell? ⟨mb,1,none⟩=some (.int .i64 m.d):=(aB.alloc _ _).cell c1;by_cases hd:c=m.d
 ·subst hd
  have HE:=Ab hE;clear hM hb i7 hw hP hE h c0 aj HS;go_enter Tryz.func124,Tryz.ntmps124
  go_wp2_with (first|(go_at_call 187;refine(CH _).mono ?_;rintro e w1 ⟨rfl,rfl⟩)|(go_at_call 186;refine(gG _ _).mono ?_;rintro e w1 ⟨rfl,rfl⟩))
  refine jJ aB 5 (bB 5 []) aB.refl aB.trans (by kernel_rfl) (by kernel_rfl) (λd _ _ _ _ h=>by cases d<;>exact h) ?_
  repeat (refine lB rfl (λK hK=>?_);go_simp;first|(refine hK _ ?_;clear hK K)|(apply Exists.intro;refine⟨λx=>?_,hK _ ?_⟩;(fail);clear hK K))
  refine rL (λw4 h4=>?_);simp only[Af,Ai];have cp:=((aB.alloc w (.cells #[.int .i64 r,.int .i64 l] 258)).dr).tr h4;clear x1 x2 x3;go_wp2_with (at_delete;refine wpList_delete_own _ rfl _ _ 254 258 rfl 3 zC Tryz.underlying254 _ bm 4096 D rfl (aJ aa cp) _ (klP (r,l)) rfl eu ?_;intro w5 an py)
  go_ret;have ko:=(cp.grownByR (some bm)).andThen py.grown (λj hj=>Or.inr hj);exact⟨rfl,HF.out _ _ _ an ko HE.out,ko⟩
 ·have HP:=Ab (hP hd)
  have g9:(c==m.d)=false:=by simpa using hd
  clear hM hb i7 hw hP hE h c0 aj HS;go_enter Tryz.func124,Tryz.ntmps124
  go_wp2_with (first|(go_at_call 187;refine(CH _).mono ?_;rintro e w1 ⟨rfl,rfl⟩)|(go_at_call 186;refine(gG _ _).mono ?_;rintro e w1 ⟨rfl,rfl⟩))
  refine jJ aB 6 (bB 6 []) aB.refl aB.trans (by kernel_rfl) (by kernel_rfl) (λd _ _ _ _ h=>by cases d<;>exact h) ?_
  repeat (refine lB rfl (λK hK=>?_);go_simp;first|(refine hK _ ?_;clear hK K)|(apply Exists.intro;refine⟨λx=>?_,hK _ ?_⟩;(fail);clear hK K))
  refine rL (λw4 h4=>?_);simp only[Af,Ai];have cp:=((aB.alloc w (.cells #[.int .i64 r,.int .i64 l] 258)).dr).tr h4;clear x1 x2 x3;go_wp2_with (at_mapUpdate;refine wpList_mapUpdate_own _ rfl _ _ _ 254 rfl 258 3 zC Tryz.underlying254 _ bm 4096 D rfl (aJ aa cp) (by unfold maxLen;omega) _ _ (klP (r,l)) rfl rfl eu _ [] (plainElem_int Tryz.underlying3 y9) ?_;intro w5 an py)
  go_ret;have ko:=(cp.grownByR (some bm)).andThen py (λj hj=>Or.inr hj);exact⟨rfl,HF.out _ _ _ an ko HP.out,ko⟩
theorem cA1 (w:World) (mb bm:Nat) (m:Mx) (h:gJ w mb bm m) (r l c:Int) (y9:WfI c) :
  Calls Tryz.prog 124 #[.pointer (some ⟨mb,0,none⟩),.int .i64 r,.int .i64 l,.int .i64 c] w (xN0 mb bm m (r,l) c w):=by
 cases hb:m.setB (r,l) c
 ·refine(kQ1 w mb bm m h r l c hb).mono λe w' ⟨he,hw⟩=>?_
  subst hw;refine⟨by rw[hb];exact he,by rw[qZ0 hb];exact h,⟨rfl,rfl,rfl,Ap _,λ_ _ _=>rfl⟩⟩
 ·refine(dY1 w mb bm m h r l c hb y9).mono λe w' ⟨he,hm,hg⟩=>⟨by rw[hb];exact he,by rw[zN hb];exact hm,hg⟩
def jG1 (x:Int):List Value:=[.int .i64 x]
theorem cH1:dO Tryz.prog 131 3 1 8 jG1 where
 sl:=Tryz.underlying131
 info:=fG (z:=.int .i64 0) (by kernel_rfl) rfl
 pos:=by decide
 by1:=by decide
 len _:=rfl
 one x u hu:=by
  simp[jG1]at hu;subst hu;rfl
theorem iI0 {w w':World} {row:Option Nat} (hg:w.grownBy w' row) {p:Addr} (ae:p.block<w.heap.size) (aj:some p.block≠row):w'.frozen? p=w.frozen? p:=by
 have hb:=hg.block p.block ae aj;unfold Ar;rw[hb]
theorem aB.grownBy_set {w W:World} (h:aB w W) (g i:Nat) (v:Value):w.grownBy (W.setCell ⟨g,i,none⟩ v) (some g) where
 os:=(show W.os=w.os from Below.os h)
 tape:=(show W.tape=w.tape from Below.tape h)
 output:=(show W.output=w.output from Below.output h)
 size:=by have:=h.size;simpa using this
 block:=λk hk aj=>by
  rw[heap_setCell_other _ _ _ _ (λe=>aj (by rw[e]))];exact Below.block h k hk
structure qW (w:World) (rb:Nat) (m:Mx):Prop where
 ok:m.OK
 c0:w.cell? ⟨rb,0,none⟩=some (.int .i64 m.n)
 c1:w.cell? ⟨rb,1,none⟩=some (.int .i64 m.d)
 own:∃v,w.cell? ⟨rb,2,none⟩=some v/\aV w (rb+1) 3 1 jG1 v m.cs
theorem qW.grows {w w':World} {rb:Nat} {m:Mx} (h:qW w rb m) (hg:aB w w'):qW w' rb m :=
 ⟨h.ok,hg.cell h.c0,hg.cell h.c1,let ⟨v,hv,ho⟩:=h.own;⟨v,hg.cell hv,ho.grows hg⟩⟩
theorem qW.costs {w:World} {rb:Nat} {m:Mx} (h:qW w rb m):∃g cap,w.cell? ⟨rb,2,none⟩=some (.slice (some ⟨g,0,none⟩) m.cs.length cap)/\rb<g/\g<w.heap.size /\
  (∀(i:Nat) (c:Int),m.cs[i]?=some c->w.cell? ⟨g,i,none⟩=some (.int .i64 c))/\(∀i,w.frozen? ⟨g,i,none⟩=false) /\
  ∀W,aB w W->∀(x:Int×Int) (c:Int),m.setB x c=true->qW (W.setCell ⟨g,at2 m.n x,none⟩ (.int .i64 c)) rb (m.set x c):=by
 obtain⟨v,hv,ho⟩:=h.own;have ah:=h.ok.len;have io:=h.ok.n1;have dl:0<m.cs.length:=by rw[ah];exact Nat.mul_pos (by omega) (by omega)
 rcases ho.2 with ⟨rfl,h0⟩|⟨g,cap,cj,rfl,hb,hh,hn,hc,hs,ht⟩
 ·omega
 ·have hfm:m.cs.flatMap jG1=m.cs.map λc=>Value.int .i64 c:=by
   induction m.cs with
   | nil=>rfl
   | cons a r ih=>rw[Ak,ih];rfl
  have be:∀(i:Nat) (c:Int),m.cs[i]?=some c->w.cell? ⟨g,i,none⟩=some (.int .i64 c):=λi c hi=>by
   have h1:(m.cs.flatMap jG1)[i]?=some (.int .i64 c):=by rw[hfm,List.getElem?_map,hi];rfl
   rw[<-ht,List.getElem?_take]at h1;split at h1
   ·simp[Ao,hh];simpa using h1
   ·cases h1
  have aej:g<w.heap.size:=by
   rcases Nat.lt_or_ge g w.heap.size with h|h
   ·exact h
   ·rw[Array.getElem?_eq_none h]at hh;cases hh
  refine⟨g,cap,hv,hb,aej,be,λi=>by simp[Ar,hh],λW hW x c hx=>?_⟩;have hv:=hW.cell hv;have hh:=(Below.block hW g aej).trans hh;have h:=h.grows hW;have fu:=hx;simp only[Mx.setB,Ae]at fu;have ac:at2 m.n x<m.cs.length:=by rw[ah];exact vM fu.1
  have aj:∀j,(⟨g,at2 m.n x,none⟩:Addr)≠⟨rb,j,none⟩:=λj e=>by
   have:=congrArg Addr.block e
   simp only at this;omega
  refine⟨h.ok.set hx,?_,?_,.slice (some ⟨g,0,none⟩) m.cs.length cap,?_,?_⟩
  ·rw[Aa _ _ _ _ (aj 0)];exact h.c0
  ·rw[Aa _ _ _ _ (aj 1)];exact h.c1
  ·rw[Aa _ _ _ _ (aj 2)]
   exact hv
  ·have hfs:(m.set x c).cs.flatMap jG1=(m.cs.map λc=>Value.int .i64 c).set (at2 m.n x) (.int .i64 c):=by
    show (m.cs.set (at2 m.n x) c).flatMap jG1=_
    rw[<-List.map_set]
    induction m.cs.set (at2 m.n x) c with
    | nil=>rfl
    | cons a r ih=>rw[Ak,ih];rfl
   have q7:(m.set x c).cs.length=m.cs.length:=List.length_set;show World.ownsRow _ _ _ _ _ (m.set x c).cs.length _
   rw[q7];refine⟨by rw[hfs];simp,Or.inr ⟨g,cap,cj.setIfInBounds (at2 m.n x) (.int .i64 c),rfl,hb,heap_setCell_same W g _ cj _ _ hh,hn,hc,by simpa using hs,?_⟩⟩;rw[hfs,<-hfm,<-ht,Array.toList_setIfInBounds,List.take_set]
end
section
open Go Go.RowKit
structure jI1 where
 r:Int
 l:Int
 c:Int
def nI1 (s:jI1):List Value:=[.int .i64 s.r,.int .i64 s.l,.int .i64 s.c]
def runSets (m:Mx) (l:List jI1):Mx:=l.foldl (λm s=>m.setIf (s.r,s.l) s.c) m
theorem cT0:∀(l:List jI1) {m:Mx},m.OK->(runSets m l).OK
 | [],_,h=>h
 | _::r,_,h=>cT0 r (h.setIf _ _)
theorem wH {m:Mx} {l:List jI1} {k:Nat} {s:jI1} (hs:l[k]?=some s):runSets m (l.take (k+1))=(runSets m (l.take k)).setIf (s.r,s.l) s.c:=by
 obtain⟨hk,rfl⟩:=List.getElem?_eq_some_iff.1 hs;unfold runSets;rw[List.take_succ_eq_append_getElem hk,List.foldl_append];rfl
end
section
open Go Go.RowKit
attribute [local go_sem] aQ
theorem tV (c:Int) (w:World):Calls Tryz.prog 146 #[.int .i64 c] w λe w'=>e=.returned (.bool (isC c))/\w=w':=by
 unfold isC;by_cases h0:0<=c
 ·go_enter Tryz.func146,Tryz.ntmps146
  go_wp2
  go_ret;exact⟨dD (by simp[h0]),rfl⟩
 ·go_enter Tryz.func146,Tryz.ntmps146
  go_wp2
  go_ret;exact⟨dD (by simp;omega),rfl⟩
theorem eK1 (n d:Int) (w:World) (h:nO0 n d=false):Calls Tryz.prog 80 #[.int .i64 n,.int .i64 d] w λe w'=>e=.returned (.pointer none)/\w=w':=by
 by_cases h1:n<1
 ·go_enter Tryz.func80,Tryz.ntmps80
  go_wp2_with (go_at_call 146;refine(tV _ _).mono ?_;rintro e w1 ⟨rfl,rfl⟩)
  go_ret;exact⟨rfl,rfl⟩
 ·by_cases h2:(64:Int)<n
  ·go_enter Tryz.func80,Tryz.ntmps80
   go_wp2_with (go_at_call 146;refine(tV _ _).mono ?_;rintro e w1 ⟨rfl,rfl⟩)
   go_ret;exact⟨rfl,rfl⟩
  ·have h3:isC d=false:=by
    cases hd:isC d with
    | false=>rfl
    | true =>
     have h3:=nP (n:=n) (d:=d);rw[h]at h3;have h4:=uM.1 hd
     have:=h3.2 ⟨by omega,by omega,h4.1,h4.2⟩
     cases this
   clear h;go_enter Tryz.func80,Tryz.ntmps80
   go_wp2_with (go_at_call 146;refine(tV _ _).mono ?_;rintro e w1 ⟨rfl,rfl⟩)
   go_ret;exact⟨rfl,rfl⟩
def dU1 (m:Mx) (w:World) (e:Ending) (w':World):Prop:=e=.returned (.pointer (some ⟨w.heap.size,0,none⟩))/\qW w' w.heap.size m/\aB w w'
theorem iH1 (n d:Int) (w:World) (h:nO0 n d=true):Calls Tryz.prog 80 #[.int .i64 n,.int .i64 d] w (dU1 (newM n d) w):=by
 have HOK:=Ab (gE0 h);obtain⟨h1,h2,h3,h4⟩:=nP.1 h;have hC:isC d=true:=uM.2 ⟨h3,h4⟩;obtain⟨N,rfl⟩:∃N:Nat,n=N:=⟨n.toNat,by omega⟩;have tw:N*N<=4096:=Ah (by omega:N<=64) (by omega:N<=64);obtain⟨M,hM⟩:=exq (N*N)
 have wNN:IntKind.i64.wrap ((N:Int)*N)=M:=by
  rw[show ((N:Int)*N)=((N*N:Nat):Int) by push_cast;rfl,<-hM]
  simp[Al,Am,Aj];omega
 have zz:M<=4096:=by omega
 have io:¬(N:Int)<1:=by omega
 have km:¬(64:Int)<N:=by omega
 have HMM:=Ab hM;clear hM tw h h1 h2;go_enter Tryz.func80,Tryz.ntmps80
 go_wp2_with (go_at_call 146;refine(tV _ _).mono ?_;rintro e w1 ⟨rfl,rfl⟩)
 go_loopw [6] (λi wx=>∃(k:Nat) (v:Value),k<=M/\i=.int .i64 k/\wx.cell? ⟨w.heap.size,0,none⟩=some (.int .i64 N)/\wx.cell? ⟨w.heap.size,1,none⟩=some (.int .i64 d)/\wx.cell? ⟨w.heap.size,2,none⟩=some v/\wx.frozen? ⟨w.heap.size,2,none⟩=false/\aV wx (w.heap.size+1) 3 1 jG1 v (Ac k d)/\w.heap.size+1<=wx.heap.size/\aB w wx) (λi _=>M-(intOf i).toNat)
 case atStart=>exact⟨0,.slice none 0 0,As _,rfl,aT _ _ _ _ 0 _ rfl,aT _ _ _ _ 1 _ rfl,aT _ _ _ _ 2 _ rfl,frozen_of_row _ _ _ _ _ (heap_alloc_new w _),aV.nil _ _ _ _ _,by simp,aB.alloc _ _⟩
 case round =>
  obtain⟨k,v,hk,rfl,c0,c1,c2,f2,aa,du,hg⟩:=hrel;by_cases ae:k<M
  ·obtain⟨av,cv,rfl,ie,gw,_⟩:=aa.at_ cH1.len
   have se:∀(j:Nat),some (⟨w.heap.size,j,none⟩:Addr).block≠(Value.slice av (Ac k d).length cv).ownBlock:=λj e=>by
    have:=aY aa _ e.symm
    simp only at this;omega
   rw[Ad]at aa se c2 ie;have HB:=Ab se;clear se;go_wp2_with (at_builtin;refine eM0 cH1 rfl _ _ rfl (w.heap.size+1) _ (Ac k d) d rfl aa (aB.refl _) _ 1 rfl _ rfl rfl (by rw[Ad];omega) du ?_;intro v5 w5 an bk ai5;obtain⟨a5,c5,rfl,_,_,_⟩:=an.at_ cH1.len;have e0:=aU bk ((aB.alloc _ _).cell c0) (HB.out 0);have e1:=aU bk ((aB.alloc _ _).cell c1) (HB.out 1);have e2:=aU bk ((aB.alloc _ _).cell c2) (HB.out 2);have ef:=(iI0 bk (p:=⟨w.heap.size,2,none⟩) (by simp;omega) (HB.out 2)).trans (((aB.alloc wr (.cells #[.int .i64 d] 3)).froz (p:=⟨w.heap.size,2,none⟩) (by simp;omega)).trans f2))
   go_roundw
   case rel =>
    have ag5:Ac k d++[d]=Ac (k+1) d:=by rw[List.replicate_succ']
    rw[ag5]at an;rw[Ad]at an;have dh:aB w w5:=(hg.al (.cells #[.int .i64 d] 3)).grown bk (λq hq=>by have:=aY aa q hq;omega);have hs5:=bk.size;refine⟨k+1,_,ae,by go_num,?_,?_,World.cell?_setCell_same _ _ _ e2,?_,ownsRow_setCell_below an (An _) _,?_,?_⟩
    ·rw[Aa _ _ _ _ (by simp)];exact e0
    ·rw[Aa _ _ _ _ (by simp)];exact e1
    ·rw[World.frozen?_setCell];exact ef
    ·simp at hs5 ⊢;omega
    ·exact dh.set (Ap _) _
   case measure=>simp[intOf];omega
  ·obtain rfl:k=M:=by omega
   go_wp2_with fail
   go_ret;exact⟨rfl,⟨HOK.out,c0,c1,v,c2,by rw[HMM.out]at aa;exact aa⟩,hg⟩
def fH1 (rb:Nat) (m:Mx) (x:Int×Int) (c:Int) (w:World) (e:Ending) (w':World):Prop :=
 e=.returned (.bool (m.setB x c))/\qW w' rb (m.setIf x c)/\∃g,rb<g/\w.grownBy w' (some g)
theorem fZ1 (w:World) (rb:Nat) (m:Mx) (h:qW w rb m) (r l c:Int) (hb:m.setB (r,l) c=false):Calls Tryz.prog 81 #[.pointer (some ⟨rb,0,none⟩),.int .i64 r,.int .i64 l,.int .i64 c] w λe w'=>e=.returned (.bool false)/\w=w':=by
 have c0:=h.c0;cases hp:inP m.n (r,l)
 ·have hq:¬((0<=r/\r<m.n)/\0<=l/\l<m.n):=λhh=>by have:=(lX (n:=m.n) (x:=(r,l))).2 hh;rw[hp]at this;cases this
  have HQ:=Ab hq;clear hb h hq hp;go_enter Tryz.func81,Tryz.ntmps81
  by_cases q1:r<0
  ·go_wp2
   go_ret;exact⟨rfl,rfl⟩
  ·by_cases q2:(m.n:Int)<=r
   ·go_wp2
    go_ret;exact⟨rfl,rfl⟩
   ·by_cases q3:l<0
    ·go_wp2
     go_ret;exact⟨rfl,rfl⟩
    ·have q4:(m.n:Int)<=l:=Int.not_lt.1 λq4=>HQ.out ⟨⟨by omega,by omega⟩,by omega,q4⟩
     go_wp2
     go_ret;exact⟨rfl,rfl⟩
 ·have hc:isC c=false:=by unfold Mx.setB at hb;rw[hp]at hb;exact hb
  obtain⟨⟨q1,q2⟩,q3,q4⟩:=lX.1 hp;have hq1:¬r<0:=by simp only at q1;omega
  have sg:¬(m.n:Int)<=r:=by simp only at q2;omega
  have hq3:¬l<0:=by simp only at q3;omega
  have hq4:¬(m.n:Int)<=l:=by simp only at q4;omega
  clear h hb hp q1 q2 q3 q4;go_enter Tryz.func81,Tryz.ntmps81
  go_wp2_with (first|(go_at_call 146;refine(tV _ _).mono ?_;rintro e w1 ⟨rfl,rfl⟩))
  go_ret;exact⟨rfl,rfl⟩
theorem vF0 (w:World) (rb:Nat) (m:Mx) (h:qW w rb m) (r l c:Int) (hb:m.setB (r,l) c=true):Calls Tryz.prog 81 #[.pointer (some ⟨rb,0,none⟩),.int .i64 r,.int .i64 l,.int .i64 c] w λe w'=>e=.returned (.bool true)/\qW w' rb (m.set (r,l) c)/\∃g,rb<g/\w.grownBy w' (some g)/\∃c0,w.cell? ⟨g,0,none⟩=some (.int .i64 c0):=by
 have ct:=hb;simp only[Mx.setB,Ae]at ct;have hC:isC c=true:=ct.2;have hp:=ct.1;have km:=h.ok.n2;have c0:=h.c0;obtain⟨g,cap,c2,fm,hgl,be,hfr,dz⟩:=h.costs;have n7:=λW hW=>dz W hW (r,l) c hb;obtain⟨⟨q1,q2⟩,q3,q4⟩:=lX.1 hp;have ae:=vM hp;have ah:m.cs.length=m.n*m.n:=h.ok.len;obtain⟨u,hu⟩:∃u,m.cs[at2 m.n (r,l)]?=some u:=⟨_,Ag (by rw[ah];exact ae)⟩;have o8:=be _ _ hu;have hff:=hfr (at2 m.n (r,l));obtain⟨R,rfl⟩:∃R:Nat,r=R:=⟨r.toNat,by simp only at q1;omega⟩;obtain⟨L,rfl⟩:∃L:Nat,l=L:=⟨l.toNat,by simp only at q3;omega⟩;have ac:at2 m.n ((R:Int),(L:Int))=R*m.n+L:=rfl;rw[ac]at o8 ae hff n7;have tw:m.n*m.n<=4096:=Ah km km;obtain⟨RN,hRN⟩:=exq (R*m.n);rw[<-hRN]at o8 ae hff n7
 have wRN:IntKind.i64.wrap ((R:Int)*m.n)=RN:=by
  rw[show ((R:Int)*m.n)=((R*m.n:Nat):Int) by push_cast;rfl,<-hRN]
  simp[Al,Am,Aj];omega
 have wI:IntKind.i64.wrap ((RN:Int)+L)=(RN+L:Nat):=by
  rw[show ((RN:Int)+L)=((RN+L:Nat):Int) by push_cast;rfl]
  simp only[Al,Am,Aj];simp;omega
 obtain⟨I,hI⟩:=exq (RN+L);rw[<-hI]at wI o8 ae hff n7;rw[<-ah]at ae;have hq1:¬(R:Int)<0:=by omega
 have sg:¬(m.n:Int)<=R:=by simp only at q2;omega
 have hq3:¬(L:Int)<0:=by omega
 have hq4:¬(m.n:Int)<=L:=by simp only at q4;omega
 have n8:m.cs.length<=4096:=by omega
 have HP:=Ab n7
 have HC0:Hid (∃c0,w.cell? ⟨g,0,none⟩=some (.int .i64 c0)):=by
  have h9:0<m.cs.length:=by omega
  exact⟨_,be 0 _ (Ag h9)⟩
 generalize m.cs.length=N2 at *;clear n7 dz be hfr hb hp h hu ac ah tw hRN hI q1 q2 q3 q4 ct;go_enter Tryz.func81,Tryz.ntmps81
 go_wp2_with (first|(go_at_call 146;refine(tV _ _).mono ?_;rintro e w1 ⟨rfl,rfl⟩))
 have z0:∀x:Ext aB w.drew,x.u.cell? ⟨rb,0,none⟩=some (.int .i64 m.n):=aF ((aB.drew w).cell c0);have z2:∀x:Ext aB w.drew,x.u.cell? ⟨rb,2,none⟩=some (.slice (some ⟨g,0,none⟩) N2 cap):=aF ((aB.drew w).cell c2);refine nY1 aB 14 (bB 14 []) aB.refl aB.trans (by kernel_rfl) (by kernel_rfl) (λd _ _ _ _ h=>by cases d<;>exact h) ?_
 iterate 14 (refine uH rfl (λK hK=>?_);go_simp;refine hK _ ?_;clear hK K)
 refine iR1 (λw4 h4=>?_);simp only[Af,Ai];have cp:=(aB.drew w).tr h4;have d0:=cp.cell o8;have df:=(cp.froz (p:=⟨g,I,none⟩) hgl).trans hff;clear z0 z2;go_wp2_with fail
 go_ret;exact⟨rfl,HP.out w4 cp,g,fm,cp.grownBy_set g I _,HC0.out⟩
theorem cI1 (w:World) (rb:Nat) (m:Mx) (h:qW w rb m) (r l c:Int) (hb:m.setB (r,l) c=true):Calls Tryz.prog 81 #[.pointer (some ⟨rb,0,none⟩),.int .i64 r,.int .i64 l,.int .i64 c] w λe w'=>e=.returned (.bool true)/\qW w' rb (m.set (r,l) c)/\∃g,rb<g/\w.grownBy w' (some g) :=
 (vF0 w rb m h r l c hb).mono λ_ _ ⟨h1,h2,g,h3,h4,_⟩=>⟨h1,h2,g,h3,h4⟩
theorem iK1 (w:World) (rb:Nat) (m:Mx) (h:qW w rb m) (r l c:Int):Calls Tryz.prog 81 #[.pointer (some ⟨rb,0,none⟩),.int .i64 r,.int .i64 l,.int .i64 c] w (fH1 rb m (r,l) c w):=by
 cases hb:m.setB (r,l) c
 ·refine(fZ1 w rb m h r l c hb).mono λe w' ⟨he,hw⟩=>?_
  subst hw;exact⟨by rw[hb];exact he,by rw[qZ0 hb];exact h,rb+1,An _,⟨rfl,rfl,rfl,Ap _,λ_ _ _=>rfl⟩⟩
 ·exact(cI1 w rb m h r l c hb).mono λe w' ⟨he,hm,hg⟩=>⟨by rw[hb];exact he,by rw[zN hb];exact hm,hg⟩
theorem iL0 (xs ys:ByteArray) (xf xt xl xr xc xk yf yt yl yr yc yk:Int) (w:World) :
  Calls Tryz.prog 52 #[.agg #[.int .i64 xf,.int .i64 xt,.string xs,.int .i64 xl,.int .i64 xr,.int .i64 xc,.int .i64 xk],.agg #[.int .i64 yf,.int .i64 yt,.string ys,.int .i64 yl,.int .i64 yr,.int .i64 yc,.int .i64 yk]] w λe w' =>
   e=.returned (.int .i64 (orI [dV xf yf,dV yt xt,dV xc yc,qX xs ys,dV xl yl,dV xr yr]))/\aX w w':=by
 go_enter Tryz.func52,Tryz.ntmps52
 go_wp2
 generalize hW:(w.alloc (.cells #[.int .i64 xf,.int .i64 xt,.string xs,.int .i64 xl,.int .i64 xr,.int .i64 xc,.int .i64 xk] 49)).alloc (.cells #[.int .i64 yf,.int .i64 yt,.string ys,.int .i64 yl,.int .i64 yr,.int .i64 yc,.int .i64 yk] 49)=W;have hB:aX w W:=by rw[<-hW];exact(aX.alloc _ _).tr (aX.alloc _ _)
 have hx:∀j v,#[Value.int .i64 xf,.int .i64 xt,.string xs,.int .i64 xl,.int .i64 xr,.int .i64 xc,.int .i64 xk][j]?=some v->W.drew.cell? ⟨w.heap.size,j,none⟩=some v:=λj v h=>by
  rw[<-hW];exact(aB.alloc _ _).cell (aT w _ _ _ j v h)
 have hy:∀j v,#[Value.int .i64 yf,.int .i64 yt,.string ys,.int .i64 yl,.int .i64 yr,.int .i64 yc,.int .i64 yk][j]?=some v->W.drew.cell? ⟨w.heap.size+1,j,none⟩=some v:=λj v h=>by
  rw[<-hW]
  have:=aT (w.alloc (.cells #[.int .i64 xf,.int .i64 xt,.string xs,.int .i64 xl,.int .i64 xr,.int .i64 xc,.int .i64 xk] 49)) _ 49 (0,0) j v h
  simpa using this
 clear hW;have x0:∀x:Ext aX (W.drew),x.u.cell? ⟨w.heap.size,0,none⟩=some (.int .i64 xf):=bH (hx 0 _ rfl);have x1:∀x:Ext aX (W.drew),x.u.cell? ⟨w.heap.size,1,none⟩=some (.int .i64 xt):=bH (hx 1 _ rfl);have x2:∀x:Ext aX (W.drew),x.u.cell? ⟨w.heap.size,2,none⟩=some (.string xs):=bH (hx 2 _ rfl);have x3:∀x:Ext aX (W.drew),x.u.cell? ⟨w.heap.size,3,none⟩=some (.int .i64 xl):=bH (hx 3 _ rfl);have x4:∀x:Ext aX (W.drew),x.u.cell? ⟨w.heap.size,4,none⟩=some (.int .i64 xr):=bH (hx 4 _ rfl);have x5:∀x:Ext aX (W.drew),x.u.cell? ⟨w.heap.size,5,none⟩=some (.int .i64 xc):=bH (hx 5 _ rfl);have x6:∀x:Ext aX (W.drew),x.u.cell? ⟨w.heap.size,6,none⟩=some (.int .i64 xk):=bH (hx 6 _ rfl);have y0:∀x:Ext aX (W.drew),x.u.cell? ⟨w.heap.size+1,0,none⟩=some (.int .i64 yf):=bH (hy 0 _ rfl);have y1:∀x:Ext aX (W.drew),x.u.cell? ⟨w.heap.size+1,1,none⟩=some (.int .i64 yt):=bH (hy 1 _ rfl);have y2:∀x:Ext aX (W.drew),x.u.cell? ⟨w.heap.size+1,2,none⟩=some (.string ys):=bH (hy 2 _ rfl);have y3:∀x:Ext aX (W.drew),x.u.cell? ⟨w.heap.size+1,3,none⟩=some (.int .i64 yl):=bH (hy 3 _ rfl);have y4:∀x:Ext aX (W.drew),x.u.cell? ⟨w.heap.size+1,4,none⟩=some (.int .i64 yr):=bH (hy 4 _ rfl);have y5:∀x:Ext aX (W.drew),x.u.cell? ⟨w.heap.size+1,5,none⟩=some (.int .i64 yc):=bH (hy 5 _ rfl);have y6:∀x:Ext aX (W.drew),x.u.cell? ⟨w.heap.size+1,6,none⟩=some (.int .i64 yk):=bH (hy 6 _ rfl);clear hx hy;refine kH aX (bB 33 [30,31,32]) aX.refl aX.trans (by kernel_rfl) (by kernel_rfl) (λd _ _ _ _ h=>by cases d<;>exact h) ?_
 repeat (refine lB rfl (λK hK=>?_);go_simp;first|(refine hK _ ?_;clear hK K)|(apply Exists.intro;refine⟨λx=>?_,hK _ ?_⟩;((first|(go_at_call 93;exact fV (xC _ _ _))|(go_at_call 92;exact fV (pN _ _ _))));clear hK K))
 clear x0 x1 x2 x3 x4 x5 x6 y0 y1 y2 y3 y4 y5 y6;refine eN rfl rfl (λK hK w2 h2=>?_);go_simp;refine⟨aX.alloc _ _,hK _ _ ?_⟩;clear hK K
 have hz:∀k,k<[dV xf yf,dV yt xt,dV xc yc,qX xs ys,dV xl yl,dV xr yr].length->(w2.alloc (.cells #[.int .i64 (dV xf yf),.int .i64 (dV yt xt),.int .i64 (dV xc yc),.int .i64 (qX xs ys),.int .i64 (dV xl yl),.int .i64 (dV xr yr)] 3)).cell? ⟨w2.heap.size,0+k,none⟩=some (.int .i64 ([dV xf yf,dV yt xt,dV xc yc,qX xs ys,dV xl yl,dV xr yr][k]?.getD 0)):=λk hk=>by
  refine aT w2 _ _ _ _ _ ?_
  match k,hk with
  | 0,_=>rfl
  | 1,_=>rfl
  | 2,_=>rfl
  | 3,_=>rfl
  | 4,_=>rfl
  | 5,_=>rfl
 have h3:aX w2 (w2.alloc (.cells #[.int .i64 (dV xf yf),.int .i64 (dV yt xt),.int .i64 (dV xc yc),.int .i64 (qX xs ys),.int .i64 (dV xl yl),.int .i64 (dV xr yr)] 3)):=aX.alloc _ _;generalize w2.alloc _=w3 at hz h3 ⊢;refine eN rfl rfl (λK hK w4 h4=>?_);go_simp;refine(cK1 [dV xf yf,dV yt xt,dV xc yc,qX xs ys,dV xl yl,dV xr yr] w2.heap.size 0 6 w4 (by simp) (λk hk=>h4.1.cell (hz k hk))).mono ?_;rintro e w' ⟨rfl,rfl⟩;refine⟨aX.refl _,hK _ _ ?_⟩;clear hK K;refine eN rfl rfl (λK hK w5 h5=>?_);go_simp;refine⟨aX.refl _,hK _ _ ?_⟩;clear hK K;refine rL (λw6 h6=>?_);have uz:aX w w6:=(((((hB.tr (aX.drew _)).tr h2).tr h3).tr h4).tr h5).tr h6;go_wp2
 go_ret;exact⟨rfl,uz⟩
end
end Go.Proofs.YtaogeadljgjpcaaGreatDoor
