/- The texts Mat Mat2 RefM MatSetP RefM2, one behind the other. -/
import Derived.Test.YtjhajgffmnkocaaGreatDoorPq2
import Derived.Test.YtjhajgffmnkocaaGreatDoorPq11
import Derived.Sort.KeysCollected
import Derived.Test.YtjhajgffmnkocaaGreatDoorPq1
import Derived.OneCell
open Go.Lib renaming hid → Aa
open List renaming drop_succ_cons → Ab,length_map → Ad,drop_zero → Ae
open Bool renaming and_eq_true → Ac
open Go.World renaming cell? → Af
set_option maxHeartbeats 2000000
namespace Go.Proofs.YtjhajgffmnkocaaGreatDoor
set_option maxRecDepth 100000
section
open Go Go.RowKit
attribute [local go_sem] aO
theorem mQ1 (w:World):(zeroValue 3).run Tryz.prog w=.ok (.int .i64 0) w:=by kernel_rfl
theorem xG0 {H:Type} {P:Program} {k:TypeId} {R:Value->Option (DataW H×List MemPlace)} {w:World} {b n:Nat} {D:DataW H} (h:w.ownsMap P k R b n D):w.ownsMap P k R b (Maps.size D) D:=by
 obtain⟨es,clock,h1,h2,h3,rfl⟩:=h;exact⟨es,clock,h1,h2,by simp[Maps.size,length_sorted],rfl⟩
theorem gP0 {w:World} {b n:Nat} {D:DataW Unit} {m:Mx} (hm:m.OK) (h:w.ownsMap Tryz.prog 243 (plainElem Tryz.prog 3) b n D) (hM:oW0 m D):Maps.size D<=4096:=by
 obtain⟨es,rfl,p8⟩:=h.keysOf;obtain⟨es',he,p9,_⟩:=h.entries yV;obtain rfl:es=es':=by simpa using he
 haveI:DecidableEq Lit:=λa b=>Classical.propDecidable (a=b)
 have yq:(es.map (·.1)).Nodup:=List.pairwise_map.2 p9
 have acf:∀x∈es.map (·.1),x∈(List.range (m.n*m.n)).map λi=>klP (dU m.n i):=λkl hkl=>by
  obtain⟨p,hp,rfl⟩:=List.mem_map.1 hkl;obtain⟨key,d8⟩:=p8 p hp;obtain⟨x,h1,h2,_,hx⟩:=fO0 d8
  have ml:Maps.has (.map es) (klP x)=true:=by
   rw[Maps.has_eq,List.any_eq_true];exact⟨p,hp,by rw[hx];exact oV0 x⟩
  have h3:=(hM x h1 h2).1;rw[ml]at h3
  have h4:inP m.n x=true:=by
   have:=h3.symm
   simp only[Ac]at this;exact this.1
  exact List.mem_map.2 ⟨at2 m.n x,List.mem_range.2 (cN0 h4),by rw[cC0 h4,hx]⟩
 have h5:=cU yq acf;rw[Ad,Ad,List.length_range]at h5
 have:=hm.n2
 show es.length<=4096
 exact Nat.le_trans h5 (Nat.mul_le_mul this this)
structure gF (w:World) (mb bm:Nat) (m:Mx):Prop where
 ok:m.OK
 c0:w.cell? ⟨mb,0,none⟩=some (.int .i64 m.n)
 c1:w.cell? ⟨mb,1,none⟩=some (.int .i64 m.d)
 c2:w.cell? ⟨mb,2,none⟩=some (.map (some bm))
 own:∃D:DataW Unit,w.ownsMap Tryz.prog 243 (plainElem Tryz.prog 3) bm 4096 D/\oW0 m D
theorem gF.grows {w w':World} {mb bm:Nat} {m:Mx} (h:gF w mb bm m) (hg:aB w w'):gF w' mb bm m :=
 ⟨h.ok,hg.cell h.c0,hg.cell h.c1,hg.cell h.c2,let ⟨D,ho,hm⟩:=h.own;⟨D,aZ ho hg,hm⟩⟩
theorem gF.ne {w:World} {mb bm:Nat} {m:Mx} (h:gF w mb bm m):mb≠bm:=by
 obtain⟨D,⟨es,clock,hb,_⟩,hm⟩:=h.own;intro e;have h0:=h.c0;subst e;simp[Af,hb]at h0
theorem bB {w w':World} {row:Option Nat} (hg:w.grownBy w' row) {p:Addr} {v:Value} (hc:w.cell? p=some v) (ak:some p.block≠row):w'.cell? p=some v:=by
 have af:=World.block_lt_of_cell? w _ hc;have hb:=hg.block p.block af ak;unfold Af at hc ⊢;rw[hb];exact hc
theorem gF.kept {w w':World} {mb bm:Nat} {m:Mx} {row:Option Nat} (h:gF w mb bm m) (hg:w.grownBy w' row) (h1:some mb≠row) (h2:some bm≠row):gF w' mb bm m :=
 ⟨h.ok,bB hg h.c0 h1,bB hg h.c1 h1,bB hg h.c2 h1,let ⟨D,ho,hm⟩:=h.own;⟨D,ho.kept hg h2,hm⟩⟩
theorem gG (c:Int) (w:World):Calls Tryz.prog 180 #[.int .i64 c] w λe w'=>e=.returned (.bool (isC c))/\w=w':=by
 unfold isC;by_cases h0:0<=c
 ·go_enter Tryz.func180,Tryz.ntmps180
  go_wp2
  go_ret;exact⟨dI (by simp[h0]),rfl⟩
 ·go_enter Tryz.func180,Tryz.ntmps180
  go_wp2
  go_ret;exact⟨dI (by simp;omega),rfl⟩
theorem qV0 (w:World) (mb bm:Nat) (m:Mx) (h:gF w mb bm m):Calls Tryz.prog 160 #[.pointer (some ⟨mb,0,none⟩)] w λe w'=>e=.returned (.int .i64 m.n)/\w=w':=by
 have c0:=h.c0;go_enter Tryz.func160,Tryz.ntmps160
 go_wp2
 go_ret;exact⟨rfl,rfl⟩
theorem xD0 (w:World) (mb bm:Nat) (m:Mx) (h:gF w mb bm m) (r:Int):Calls Tryz.prog 181 #[.pointer (some ⟨mb,0,none⟩),.int .i64 r] w λe w'=>e=.returned (.bool (inR m.n r))/\w=w':=by
 have CS:=λW (hW:w=W)=>qV0 W mb bm m (hW▸h);unfold inR;by_cases h0:0<=r
 ·go_enter Tryz.func181,Tryz.ntmps181
  go_wp2_with (go_at_call 160;refine(CS _ rfl).mono ?_;rintro e w1 ⟨rfl,rfl⟩)
  go_ret;exact⟨dI (by simp[h0]),rfl⟩
 ·go_enter Tryz.func181,Tryz.ntmps181
  go_wp2_with (go_at_call 160;refine(CS _ rfl).mono ?_;rintro e w1 ⟨rfl,rfl⟩)
  go_ret;exact⟨dI (by simp;omega),rfl⟩
theorem xQ0 (n d:Int) (w:World) (h:vW0 n d=false):Calls Tryz.prog 115 #[.int .i64 n,.int .i64 d] w λe w'=>e=.returned (.tuple #[.pointer none,.int .i64 6])/\w=w':=by
 by_cases h1:n<1
 ·go_enter Tryz.func115,Tryz.ntmps115
  go_wp2_with (go_at_call 180;refine(gG _ _).mono ?_;rintro e w1 ⟨rfl,rfl⟩)
  go_ret2;exact⟨rfl,rfl⟩
 ·by_cases h2:(64:Int)<n
  ·go_enter Tryz.func115,Tryz.ntmps115
   go_wp2_with (go_at_call 180;refine(gG _ _).mono ?_;rintro e w1 ⟨rfl,rfl⟩)
   go_ret2;exact⟨rfl,rfl⟩
  ·have h3:isC d=false:=by
    cases hd:isC d with
    | false=>rfl
    | true =>
     have h3:=rU (n:=n) (d:=d);rw[h]at h3;have h4:=gG0.1 hd
     have:=h3.2 ⟨by omega,by omega,h4.1,h4.2⟩
     cases this
   clear h;go_enter Tryz.func115,Tryz.ntmps115
   go_wp2_with (go_at_call 180;refine(gG _ _).mono ?_;rintro e w1 ⟨rfl,rfl⟩)
   go_ret2;exact⟨rfl,rfl⟩
def jH1 (m:Mx) (w:World) (e:Ending) (w':World):Prop:=e=.returned (.tuple #[.pointer (some ⟨w.heap.size+1,0,none⟩),.int .i64 0])/\gF w' (w.heap.size+1) w.heap.size m/\aB w w'
theorem zG0 (n d:Int) (w:World) (h:vW0 n d=true):Calls Tryz.prog 115 #[.int .i64 n,.int .i64 d] w (jH1 (newM n d) w):=by
 have ag:=lY0 h;have hM:=dV1 (H:=Unit) n d;obtain⟨h1,h2,h3,h4⟩:=rU.1 h;have hC:isC d=true:=gG0.2 ⟨h3,h4⟩;have hn:((newM n d).n:Int)=n:=by show ((n.toNat:Nat):Int)=n;omega
 have hd:(newM n d).d=d:=rfl;generalize newM n d=m at *;have HOK:=Aa ag;have HM:=Aa hM;have HN:=Aa hn;have HD:=Aa hd;have jl:¬n<1:=by omega
 have nl:¬(64:Int)<n:=by omega
 clear ag hM hn hd h h1 h2 h3 h4;have qu:=@run_makeMap Tryz.prog;go_enter Tryz.func115,Tryz.ntmps115
 go_wp2_with (go_at_call 180;refine(gG _ _).mono ?_;rintro e w1 ⟨rfl,rfl⟩)
 go_ret2;refine⟨rfl,⟨HOK.out,?_,?_,?_,_,((World.ownsMap_made _ _ _ _).alloc _).mono (Nat.zero_le _),HM.out⟩,(aB.alloc _ _).al _⟩
 ·rw[HN.out];exact dX (w:=w.alloc (.map #[] 0)) (by simp) 0 _ rfl
 ·rw[HD.out]
  have:=dX (w:=w.alloc (.map #[] 0)) (cs:=#[.int .i64 n,.int .i64 d,.map (some w.heap.size)]) (t:=241) (n:=w.heap.size+1) (by simp) 1 _ rfl
  rw[nH]at this;exact this
 ·have:=dX (w:=w.alloc (.map #[] 0)) (cs:=#[.int .i64 n,.int .i64 d,.map (some w.heap.size)]) (t:=241) (n:=w.heap.size+1) (by simp) 2 _ rfl
  rw[nH]at this;exact this
theorem aB.grownByR {w w':World} (h:aB w w') (row:Option Nat):w.grownBy w' row:=⟨Below.os h,Below.tape h,Below.output h,Below.size h,λk hk _=>Below.block h k hk⟩
def aP1 (mb bm:Nat) (m:Mx) (x:Int×Int) (c:Int) (w:World) (e:Ending) (w':World):Prop :=
 e=.returned (.int .i64 (if m.setB x c then 0 else 6))/\gF w' mb bm (m.setIf x c)/\w.grownBy w' (some bm)
theorem eG1 {m:Mx} {x:Int×Int} {c:Int} (h:m.setB x c=false):m.setIf x c=m:=by unfold Mx.setIf; rw[h]; rfl
theorem iP0 {m:Mx} {x:Int×Int} {c:Int} (h:m.setB x c=true):m.setIf x c=m.set x c:=by unfold Mx.setIf; rw[h]; rfl
theorem iZ1 (w:World) (mb bm:Nat) (m:Mx) (h:gF w mb bm m) (r l c:Int) (hb:m.setB (r,l) c=false) :
  Calls Tryz.prog 116 #[.pointer (some ⟨mb,0,none⟩),.int .i64 r,.int .i64 l,.int .i64 c] w λe w'=>e=.returned (.int .i64 6)/\w=w':=by
 have CH:=xD0 w mb bm m h;unfold Mx.setB inP at hb;simp only at hb;cases hr:inR m.n r
 ·clear hb
  go_enter Tryz.func116,Tryz.ntmps116
  go_wp2_with (first|(go_at_call 181;refine(CH _).mono ?_;rintro e w1 ⟨rfl,rfl⟩)|(go_at_call 180;refine(gG _ _).mono ?_;rintro e w1 ⟨rfl,rfl⟩))
  go_ret;exact⟨rfl,rfl⟩
 ·cases hl:inR m.n l
  ·clear hb
   go_enter Tryz.func116,Tryz.ntmps116
   go_wp2_with (first|(go_at_call 181;refine(CH _).mono ?_;rintro e w1 ⟨rfl,rfl⟩)|(go_at_call 180;refine(gG _ _).mono ?_;rintro e w1 ⟨rfl,rfl⟩))
   go_ret;exact⟨rfl,rfl⟩
  ·rw[hr,hl]at hb
   have hc:isC c=false:=hb;clear hb;go_enter Tryz.func116,Tryz.ntmps116
   go_wp2_with (first|(go_at_call 181;refine(CH _).mono ?_;rintro e w1 ⟨rfl,rfl⟩)|(go_at_call 180;refine(gG _ _).mono ?_;rintro e w1 ⟨rfl,rfl⟩))
   go_ret;exact⟨rfl,rfl⟩
theorem gA1 (w:World) (mb bm:Nat) (m:Mx) (h:gF w mb bm m) (r l c:Int) (hb:m.setB (r,l) c=true) (yx:WfI c) :
  Calls Tryz.prog 116 #[.pointer (some ⟨mb,0,none⟩),.int .i64 r,.int .i64 l,.int .i64 c] w λe w'=>e=.returned (.int .i64 0)/\gF w' mb bm (m.set (r,l) c)/\w.grownBy w' (some bm):=by
 have CH:=xD0 w mb bm m h;have dn:=hb;unfold Mx.setB inP at dn;simp only[Ac]at dn;have hr:inR m.n r=true:=dn.1.1;have hl:inR m.n l=true:=dn.1.2;have hc:isC c=true:=dn.2;clear dn;have jd:inP m.n (r,l)=true:=by unfold inP;rw[hr,hl];rfl
 have c0:=h.c0;have c1:=h.c1;have c2:=h.c2;have ak:=h.ne;obtain⟨D,aa,hM⟩:=h.own;have hw:=pW h.ok.n2 jd;have d8:=nR1 (x:=(r,l)) hw.1 hw.2;have hP:=λhd=>hM.put aa.isMap h.ok hb hd;have hE:=hM.del h.ok jd;have HS:=Aa (h.ok.set hb)
 have HF:Hid (∀(w':World) (n:Nat) (D':DataW Unit),w'.ownsMap Tryz.prog 243 (plainElem Tryz.prog 3) bm n D'->w.grownBy w' (some bm)->oW0 (m.set (r,l) c) D'->gF w' mb bm (m.set (r,l) c)):=λw' n D' ho hg hm =>
  ⟨h.ok.set hb,bB hg c0 (by simpa using ak),bB hg c1 (by simpa using ak),bB hg c2 (by simpa using ak),D',(xG0 ho).mono (gP0 (h.ok.set hb) ho hm),hm⟩
 have x1:=λ(x:Ext aB (w.alloc (.cells #[.int .i64 r,.int .i64 l] 243)).drew)=>(((aB.alloc w (.cells #[.int .i64 r,.int .i64 l] 243)).dr).tr x.h).cell c2;have x2:∀x:Ext aB (w.alloc (.cells #[.int .i64 r,.int .i64 l] 243)).drew,x.u.cell? ⟨w.heap.size,0,none⟩=some (.int .i64 r):=aF (aT w _ _ (0,0) 0 _ rfl);have x3:∀x:Ext aB (w.alloc (.cells #[.int .i64 r,.int .i64 l] 243)).drew,x.u.cell? ⟨w.heap.size,1,none⟩=some (.int .i64 l):=aF (aT w _ _ (0,0) 1 _ rfl);have c1':(w.alloc (.cells #[.int .i64 r,.int .i64 l] 243)).cell? ⟨mb,1,none⟩=some (.int .i64 m.d):=(aB.alloc _ _).cell c1;by_cases hd:c=m.d
 ·subst hd
  have HE:=Aa hE;clear hM hb jd hw hP hE h c0 ak HS;go_enter Tryz.func116,Tryz.ntmps116
  go_wp2_with (first|(go_at_call 181;refine(CH _).mono ?_;rintro e w1 ⟨rfl,rfl⟩)|(go_at_call 180;refine(gG _ _).mono ?_;rintro e w1 ⟨rfl,rfl⟩))
  refine lU aB 5 (bE 5 []) aB.refl aB.trans (by kernel_rfl) (by kernel_rfl) (λd _ _ _ _ h=>by cases d<;>exact h) ?_
  repeat (refine mJ rfl (λK hK=>?_);go_simp;first|(refine hK _ ?_;clear hK K)|(apply Exists.intro;refine⟨λx=>?_,hK _ ?_⟩;(fail);clear hK K))
  refine uI (λw4 h4=>?_);simp only[Ab,Ae];have cu:=((aB.alloc w (.cells #[.int .i64 r,.int .i64 l] 243)).dr).tr h4;clear x1 x2 x3;go_wp2_with (at_delete;refine wpList_delete_own _ rfl _ _ 239 243 rfl 3 yV Tryz.underlying239 _ bm 4096 D rfl (aZ aa cu) _ (klP (r,l)) rfl d8 ?_;intro w5 au qd)
  go_ret;have mq:=(cu.grownByR (some bm)).andThen qd.grown (λj hj=>Or.inr hj);exact⟨rfl,HF.out _ _ _ au mq HE.out,mq⟩
 ·have HP:=Aa (hP hd)
  have ja:(c==m.d)=false:=by simpa using hd
  clear hM hb jd hw hP hE h c0 ak HS;go_enter Tryz.func116,Tryz.ntmps116
  go_wp2_with (first|(go_at_call 181;refine(CH _).mono ?_;rintro e w1 ⟨rfl,rfl⟩)|(go_at_call 180;refine(gG _ _).mono ?_;rintro e w1 ⟨rfl,rfl⟩))
  refine lU aB 6 (bE 6 []) aB.refl aB.trans (by kernel_rfl) (by kernel_rfl) (λd _ _ _ _ h=>by cases d<;>exact h) ?_
  repeat (refine mJ rfl (λK hK=>?_);go_simp;first|(refine hK _ ?_;clear hK K)|(apply Exists.intro;refine⟨λx=>?_,hK _ ?_⟩;(fail);clear hK K))
  refine uI (λw4 h4=>?_);simp only[Ab,Ae];have cu:=((aB.alloc w (.cells #[.int .i64 r,.int .i64 l] 243)).dr).tr h4;clear x1 x2 x3;go_wp2_with (at_mapUpdate;refine wpList_mapUpdate_own _ rfl _ _ _ 239 rfl 243 3 yV Tryz.underlying239 _ bm 4096 D rfl (aZ aa cu) (by unfold maxLen;omega) _ _ (klP (r,l)) rfl rfl d8 _ [] (plainElem_int Tryz.underlying3 yx) ?_;intro w5 au qd)
  go_ret;have mq:=(cu.grownByR (some bm)).andThen qd (λj hj=>Or.inr hj);exact⟨rfl,HF.out _ _ _ au mq HP.out,mq⟩
theorem bP1 (w:World) (mb bm:Nat) (m:Mx) (h:gF w mb bm m) (r l c:Int) (yx:WfI c) :
  Calls Tryz.prog 116 #[.pointer (some ⟨mb,0,none⟩),.int .i64 r,.int .i64 l,.int .i64 c] w (aP1 mb bm m (r,l) c w):=by
 cases hb:m.setB (r,l) c
 ·refine(iZ1 w mb bm m h r l c hb).mono λe w' ⟨he,hw⟩=>?_
  subst hw;refine⟨by rw[hb];exact he,by rw[eG1 hb];exact h,⟨rfl,rfl,rfl,Nat.le_refl _,λ_ _ _=>rfl⟩⟩
 ·refine(gA1 w mb bm m h r l c hb yx).mono λe w' ⟨he,hm,hg⟩=>⟨by rw[hb];exact he,by rw[iP0 hb];exact hm,hg⟩
theorem aB.grownBy_set {w W:World} (h:aB w W) (g i:Nat) (v:Value):w.grownBy (W.setCell ⟨g,i,none⟩ v) (some g) where
 os:=(show W.os=w.os from Below.os h)
 tape:=(show W.tape=w.tape from Below.tape h)
 output:=(show W.output=w.output from Below.output h)
 size:=by have:=h.size;simpa using this
 block:=λk hk ak=>by
  rw[heap_setCell_other _ _ _ _ (λe=>ak (by rw[e]))];exact Below.block h k hk
end
section
open Go Go.RowKit
structure iE1 where
 r:Int
 l:Int
 c:Int
def mR1 (s:iE1):List Value:=[.int .i64 s.r,.int .i64 s.l,.int .i64 s.c]
def runSets (m:Mx) (l:List iE1):Mx:=l.foldl (λm s=>m.setIf (s.r,s.l) s.c) m
theorem cP0:∀(l:List iE1) {m:Mx},m.OK->(runSets m l).OK
 | [],_,h=>h
 | _::r,_,h=>cP0 r (h.setIf _ _)
theorem iW0 {m:Mx} {l:List iE1} {k:Nat} {s:iE1} (hs:l[k]?=some s):runSets m (l.take (k+1))=(runSets m (l.take k)).setIf (s.r,s.l) s.c:=by
 obtain⟨hk,rfl⟩:=List.getElem?_eq_some_iff.1 hs;unfold runSets;rw[List.take_succ_eq_append_getElem hk,List.foldl_append];rfl
end
section
open Go Go.RowKit
attribute [local go_sem] aO
end
end Go.Proofs.YtjhajgffmnkocaaGreatDoor
