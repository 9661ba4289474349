/- The texts Mat Mat2 RefM MatSetP RefM2, one behind the other. -/
import Derived.Test.YtheiocndipepaaaGreatDoorKq4
import Derived.Test.YtheiocndipepaaaGreatDoorKq10
import Derived.Sort.KeysCollected
import Derived.Test.YtheiocndipepaaaGreatDoorKq2
import Derived.OneCell
open Go.World renaming cell?_setCell_other → Aa,cell? → Ap,frozen? → As
open Go.Lib renaming hid → Ab
open List renaming getElem?_eq_getElem → Ac,replicate → Ae,length_replicate → Af,drop_succ_cons → Ah,drop_zero → Al,flatMap_cons → Am,length_map → Ar
open Go.IntKind renaming signed → Ad,wrap → Ai,bits → Aj
open Bool renaming and_eq_true → Ag
open Nat renaming mul_le_mul → Ak,lt_succ_self → An,zero_le → Ao,le_refl → Aq
set_option maxHeartbeats 4000000
namespace Go.Proofs.YtheiocndipepaaaGreatDoor
set_option maxRecDepth 100000
section
open Go Go.RowKit
attribute [local go_sem] aM
theorem yZ0 (w:World):(zeroValue 3).run Tryz.prog w=.ok (.int .i64 0) w:=by kernel_rfl
theorem dJ {α:Type} [DecidableEq α]:∀ {l l':List α},l.Nodup->(∀x∈l,x∈l')->l.length<=l'.length
 | [],_,_,_=>Ao _
 | x::r,l',hn,hs=>by
  obtain⟨h1,h2⟩:=List.nodup_cons.1 hn;have hx:=hs x (by simp);have hr:=dJ (l':=l'.erase x) h2 λy hy=>(List.mem_erase_of_ne (λ(e:y=x)=>h1 (by rw[<-e];exact hy))).2 (hs y (by simp[hy]));rw[List.length_erase_of_mem hx]at hr
  have:=List.length_pos_of_mem hx
  simp only[List.length_cons];omega
theorem bU1 {H:Type} {P:Program} {k:TypeId} {R:Value->Option (DataW H×List MemPlace)} {w:World} {b n:Nat} {D:DataW H} (h:w.ownsMap P k R b n D):w.ownsMap P k R b (Maps.size D) D:=by
 obtain⟨es,clock,h1,h2,h3,rfl⟩:=h;exact⟨es,clock,h1,h2,by simp[Maps.size,length_sorted],rfl⟩
theorem kI0 {w:World} {b n:Nat} {D:DataW Unit} {m:Mx} (hm:m.OK) (h:w.ownsMap Tryz.prog 164 (plainElem Tryz.prog 3) b n D) (hM:sA0 m D):Maps.size D<=4096:=by
 obtain⟨es,rfl,rz⟩:=h.keysOf;obtain⟨es',he,hpw,_⟩:=h.entries uA;obtain rfl:es=es':=by simpa using he
 haveI:DecidableEq Lit:=λa b=>Classical.propDecidable (a=b)
 have vf:(es.map (·.1)).Nodup:=List.pairwise_map.2 hpw
 have ah3:∀x∈es.map (·.1),x∈(List.range (m.n*m.n)).map λi=>klP (eO m.n i):=λkl yy=>by
  obtain⟨p,hp,rfl⟩:=List.mem_map.1 yy;obtain⟨key,i6⟩:=rz p hp;obtain⟨x,h1,h2,_,hx⟩:=jA0 i6
  have od:Maps.has (.map es) (klP x)=true:=by
   rw[Maps.has_eq,List.any_eq_true];exact⟨p,hp,by rw[hx];exact rP0 x⟩
  have h3:=(hM x h1 h2).1;rw[od]at h3
  have h4:inP m.n x=true:=by
   have:=h3.symm
   simp only[Ag]at this;exact this.1
  exact List.mem_map.2 ⟨at2 m.n x,List.mem_range.2 (sA h4),by rw[fA0 h4,hx]⟩
 have h5:=dJ vf ah3;rw[Ar,Ar,List.length_range]at h5
 have:=hm.n2
 show es.length<=4096
 exact Nat.le_trans h5 (Ak this this)
structure fM (w:World) (mb bm:Nat) (m:Mx):Prop where
 ok:m.OK
 c0:w.cell? ⟨mb,0,none⟩=some (.int .i64 m.n)
 c1:w.cell? ⟨mb,1,none⟩=some (.int .i64 m.d)
 c2:w.cell? ⟨mb,2,none⟩=some (.map (some bm))
 own:∃D:DataW Unit,w.ownsMap Tryz.prog 164 (plainElem Tryz.prog 3) bm 4096 D/\sA0 m D
theorem fM.grows {w w':World} {mb bm:Nat} {m:Mx} (h:fM w mb bm m) (hg:Grows w w'):fM w' mb bm m :=
 ⟨h.ok,hg.cell h.c0,hg.cell h.c1,hg.cell h.c2,let ⟨D,ho,hm⟩:=h.own;⟨D,cG ho hg,hm⟩⟩
theorem fM.ne {w:World} {mb bm:Nat} {m:Mx} (h:fM w mb bm m):mb≠bm:=by
 obtain⟨D,⟨es,clock,hb,_⟩,hm⟩:=h.own;intro e;have h0:=h.c0;subst e;simp[Ap,hb]at h0
theorem cF {w w':World} {row:Option Nat} (hg:w.grownBy w' row) {p:Addr} {v:Value} (hc:w.cell? p=some v) (ai:some p.block≠row):w'.cell? p=some v:=by
 have ae:=World.block_lt_of_cell? w _ hc;have hb:=hg.block p.block ae ai;unfold Ap at hc ⊢;rw[hb];exact hc
theorem fM.kept {w w':World} {mb bm:Nat} {m:Mx} {row:Option Nat} (h:fM w mb bm m) (hg:w.grownBy w' row) (h1:some mb≠row) (h2:some bm≠row):fM w' mb bm m :=
 ⟨h.ok,cF hg h.c0 h1,cF hg h.c1 h1,cF hg h.c2 h1,let ⟨D,ho,hm⟩:=h.own;⟨D,ho.kept hg h2,hm⟩⟩
theorem gM (c:Int) (w:World):Calls Tryz.prog 101 #[.int .i64 c] w λe w'=>e=.returned (.bool (isC c))/\w=w':=by
 unfold isC;by_cases h0:0<=c
 ·go_enter Tryz.func101,Tryz.ntmps101
  go_wp2
  go_ret;exact⟨bD (by simp[h0]),rfl⟩
 ·go_enter Tryz.func101,Tryz.ntmps101
  go_wp2
  go_ret;exact⟨bD (by simp;omega),rfl⟩
theorem rK0 (w:World) (mb bm:Nat) (m:Mx) (h:fM w mb bm m):Calls Tryz.prog 82 #[.pointer (some ⟨mb,0,none⟩)] w λe w'=>e=.returned (.int .i64 m.n)/\w=w':=by
 have c0:=h.c0;go_enter Tryz.func82,Tryz.ntmps82
 go_wp2
 go_ret;exact⟨rfl,rfl⟩
theorem pZ0 (w:World) (mb bm:Nat) (m:Mx) (h:fM w mb bm m) (r:Int):Calls Tryz.prog 102 #[.pointer (some ⟨mb,0,none⟩),.int .i64 r] w λe w'=>e=.returned (.bool (inR m.n r))/\w=w':=by
 have CS:=λW (hW:w=W)=>rK0 W mb bm m (hW▸h);unfold inR;by_cases h0:0<=r
 ·go_enter Tryz.func102,Tryz.ntmps102
  go_wp2_with (go_at_call 82;refine(CS _ rfl).mono ?_;rintro e w1 ⟨rfl,rfl⟩)
  go_ret;exact⟨bD (by simp[h0]),rfl⟩
 ·go_enter Tryz.func102,Tryz.ntmps102
  go_wp2_with (go_at_call 82;refine(CS _ rfl).mono ?_;rintro e w1 ⟨rfl,rfl⟩)
  go_ret;exact⟨bD (by simp;omega),rfl⟩
theorem jU1 (w:World) (mb bm:Nat) (m:Mx) (h:fM w mb bm m) (r l:Int):Calls Tryz.prog 77 #[.pointer (some ⟨mb,0,none⟩),.int .i64 r,.int .i64 l] w λe w'=>e=.returned (.int .i64 (m.cost (r,l)))/\w=w':=by
 have c1:=h.c1;have c2:=h.c2;have CH:=pZ0 w mb bm m h;cases hr:inR m.n r
 ·have hc:m.cost (r,l)=30000:=by unfold Mx.cost inP;rw[hr];rfl
  rw[hc];clear hc;go_enter Tryz.func77,Tryz.ntmps77
  go_wp2_with (go_at_call 102;refine(CH _).mono ?_;rintro e w1 ⟨rfl,rfl⟩)
  go_ret;exact⟨rfl,rfl⟩
 ·cases hl:inR m.n l
  ·have hc:m.cost (r,l)=30000:=by unfold Mx.cost inP;rw[hr,hl];rfl
   rw[hc];clear hc;go_enter Tryz.func77,Tryz.ntmps77
   go_wp2_with (first|(go_at_call 102;refine(CH _).mono ?_;rintro e w1 ⟨rfl,rfl⟩))
   go_ret;exact⟨rfl,rfl⟩
  ·have jf:inP m.n (r,l)=true:=by unfold inP;rw[hr,hl];rfl
   obtain⟨D,aa,hM⟩:=h.own;have HL:=λc=>Ab (hM.look h.ok jf (c:=c));have hw:=oH h.ok.n2 jf;have i6:=oV1 (x:=(r,l)) hw.1 hw.2;clear hM hw jf;generalize m.cost (r,l)=C at HL ⊢;go_enter Tryz.func77,Tryz.ntmps77
   cases hh:Maps.has D (klP (r,l))
   ·rw[hh]at HL
    go_wp2_with (first|(go_at_call 102;refine(CH _).mono ?_;rintro e w1 ⟨rfl,rfl⟩)|(at_lookup;refine wpList_lookup_own_ok_int _ rfl _ _ 160 rfl 164 3 .i64 uA Tryz.underlying160 Tryz.underlying3 (yZ0 _) bm 4096 D rfl aa _ (klP (r,l)) rfl i6 ?_;intro c ac hwc;rw[hh];have mq:=Ab (((HL c).out ac).2 trivial);clear ac))
    go_ret;exact⟨aF0 mq.out.symm,rfl⟩
   ·rw[hh]at HL
    go_wp2_with (first|(go_at_call 102;refine(CH _).mono ?_;rintro e w1 ⟨rfl,rfl⟩)|(at_lookup;refine wpList_lookup_own_ok_int _ rfl _ _ 160 rfl 164 3 .i64 uA Tryz.underlying160 Tryz.underlying3 (yZ0 _) bm 4096 D rfl aa _ (klP (r,l)) rfl i6 ?_;intro c ac hwc;rw[hh];have mq:=Ab (((HL c).out ac).1 trivial);clear ac))
    go_ret;exact⟨aF0 mq.out,rfl⟩
theorem dD1 (n d:Int) (w:World) (h:oK0 n d=false):Calls Tryz.prog 56 #[.int .i64 n,.int .i64 d] w λe w'=>e=.returned (.tuple #[.pointer none,.int .i64 6])/\w=w':=by
 by_cases h1:n<1
 ·go_enter Tryz.func56,Tryz.ntmps56
  go_wp2_with (go_at_call 101;refine(gM _ _).mono ?_;rintro e w1 ⟨rfl,rfl⟩)
  go_ret2;exact⟨rfl,rfl⟩
 ·by_cases h2:(64:Int)<n
  ·go_enter Tryz.func56,Tryz.ntmps56
   go_wp2_with (go_at_call 101;refine(gM _ _).mono ?_;rintro e w1 ⟨rfl,rfl⟩)
   go_ret2;exact⟨rfl,rfl⟩
  ·have h3:isC d=false:=by
    cases hd:isC d with
    | false=>rfl
    | true =>
     have h3:=nZ (n:=n) (d:=d);rw[h]at h3;have h4:=vR.1 hd
     have:=h3.2 ⟨by omega,by omega,h4.1,h4.2⟩
     cases this
   clear h;go_enter Tryz.func56,Tryz.ntmps56
   go_wp2_with (go_at_call 101;refine(gM _ _).mono ?_;rintro e w1 ⟨rfl,rfl⟩)
   go_ret2;exact⟨rfl,rfl⟩
def nX1 (m:Mx) (w:World) (e:Ending) (w':World):Prop:=e=.returned (.tuple #[.pointer (some ⟨w.heap.size+1,0,none⟩),.int .i64 0])/\fM w' (w.heap.size+1) w.heap.size m/\Grows w w'
theorem zJ0 (n d:Int) (w:World) (h:oK0 n d=true):Calls Tryz.prog 56 #[.int .i64 n,.int .i64 d] w (nX1 (newM n d) w):=by
 have ah:=gM0 h;have hM:=jW1 (H:=Unit) n d;obtain⟨h1,h2,h3,h4⟩:=nZ.1 h;have hC:isC d=true:=vR.2 ⟨h3,h4⟩;have hn:((newM n d).n:Int)=n:=by show ((n.toNat:Nat):Int)=n;omega
 have hd:(newM n d).d=d:=rfl;generalize newM n d=m at *;have HOK:=Ab ah;have HM:=Ab hM;have HN:=Ab hn;have HD:=Ab hd;have fk:¬n<1:=by omega
 have ig:¬(64:Int)<n:=by omega
 clear ah hM hn hd h h1 h2 h3 h4;have xh:=@run_makeMap Tryz.prog;go_enter Tryz.func56,Tryz.ntmps56
 go_wp2_with (go_at_call 101;refine(gM _ _).mono ?_;rintro e w1 ⟨rfl,rfl⟩)
 go_ret2;refine⟨rfl,⟨HOK.out,?_,?_,?_,_,((World.ownsMap_made _ _ _ _).alloc _).mono (Ao _),HM.out⟩,(Grows.alloc _ _).al _⟩
 ·rw[HN.out];exact fH (w:=w.alloc (.map #[] 0)) (by simp) 0 _ rfl
 ·rw[HD.out]
  have:=fH (w:=w.alloc (.map #[] 0)) (cs:=#[.int .i64 n,.int .i64 d,.map (some w.heap.size)]) (t:=162) (n:=w.heap.size+1) (by simp) 1 _ rfl
  rw[oR]at this;exact this
 ·have:=fH (w:=w.alloc (.map #[] 0)) (cs:=#[.int .i64 n,.int .i64 d,.map (some w.heap.size)]) (t:=162) (n:=w.heap.size+1) (by simp) 2 _ rfl
  rw[oR]at this;exact this
theorem Grows.grownByR {w w':World} (h:Grows w w') (row:Option Nat):w.grownBy w' row:=⟨Below.os h,Below.tape h,Below.output h,Below.size h,λk hk _=>Below.block h k hk⟩
def yV0 (mb bm:Nat) (m:Mx) (x:Int×Int) (c:Int) (w:World) (e:Ending) (w':World):Prop :=
 e=.returned (.int .i64 (if m.setB x c then 0 else 6))/\fM w' mb bm (m.setIf x c)/\w.grownBy w' (some bm)
theorem rI0 {m:Mx} {x:Int×Int} {c:Int} (h:m.setB x c=false):m.setIf x c=m:=by unfold Mx.setIf; rw[h]; rfl
theorem cS0 {m:Mx} {x:Int×Int} {c:Int} (h:m.setB x c=true):m.setIf x c=m.set x c:=by unfold Mx.setIf; rw[h]; rfl
theorem mK1 (w:World) (mb bm:Nat) (m:Mx) (h:fM w mb bm m) (r l c:Int) (hb:m.setB (r,l) c=false) :
  Calls Tryz.prog 57 #[.pointer (some ⟨mb,0,none⟩),.int .i64 r,.int .i64 l,.int .i64 c] w λe w'=>e=.returned (.int .i64 6)/\w=w':=by
 have CH:=pZ0 w mb bm m h;unfold Mx.setB inP at hb;simp only at hb;cases hr:inR m.n r
 ·clear hb
  go_enter Tryz.func57,Tryz.ntmps57
  go_wp2_with (first|(go_at_call 102;refine(CH _).mono ?_;rintro e w1 ⟨rfl,rfl⟩)|(go_at_call 101;refine(gM _ _).mono ?_;rintro e w1 ⟨rfl,rfl⟩))
  go_ret;exact⟨rfl,rfl⟩
 ·cases hl:inR m.n l
  ·clear hb
   go_enter Tryz.func57,Tryz.ntmps57
   go_wp2_with (first|(go_at_call 102;refine(CH _).mono ?_;rintro e w1 ⟨rfl,rfl⟩)|(go_at_call 101;refine(gM _ _).mono ?_;rintro e w1 ⟨rfl,rfl⟩))
   go_ret;exact⟨rfl,rfl⟩
  ·rw[hr,hl]at hb
   have hc:isC c=false:=hb;clear hb;go_enter Tryz.func57,Tryz.ntmps57
   go_wp2_with (first|(go_at_call 102;refine(CH _).mono ?_;rintro e w1 ⟨rfl,rfl⟩)|(go_at_call 101;refine(gM _ _).mono ?_;rintro e w1 ⟨rfl,rfl⟩))
   go_ret;exact⟨rfl,rfl⟩
theorem fE1 (w:World) (mb bm:Nat) (m:Mx) (h:fM w mb bm m) (r l c:Int) (hb:m.setB (r,l) c=true) (hwc:WfI c) :
  Calls Tryz.prog 57 #[.pointer (some ⟨mb,0,none⟩),.int .i64 r,.int .i64 l,.int .i64 c] w λe w'=>e=.returned (.int .i64 0)/\fM w' mb bm (m.set (r,l) c)/\w.grownBy w' (some bm):=by
 have CH:=pZ0 w mb bm m h;have eo:=hb;unfold Mx.setB inP at eo;simp only[Ag]at eo;have hr:inR m.n r=true:=eo.1.1;have hl:inR m.n l=true:=eo.1.2;have hc:isC c=true:=eo.2;clear eo;have jf:inP m.n (r,l)=true:=by unfold inP;rw[hr,hl];rfl
 have c0:=h.c0;have c1:=h.c1;have c2:=h.c2;have ai:=h.ne;obtain⟨D,aa,hM⟩:=h.own;have hw:=oH h.ok.n2 jf;have i6:=oV1 (x:=(r,l)) hw.1 hw.2;have hP:=λhd=>hM.put aa.isMap h.ok hb hd;have hE:=hM.del h.ok jf;have HS:=Ab (h.ok.set hb)
 have HF:Hid (∀(w':World) (n:Nat) (D':DataW Unit),w'.ownsMap Tryz.prog 164 (plainElem Tryz.prog 3) bm n D'->w.grownBy w' (some bm)->sA0 (m.set (r,l) c) D'->fM w' mb bm (m.set (r,l) c)):=λw' n D' ho hg hm =>
  ⟨h.ok.set hb,cF hg c0 (by simpa using ai),cF hg c1 (by simpa using ai),cF hg c2 (by simpa using ai),D',(bU1 ho).mono (kI0 (h.ok.set hb) ho hm),hm⟩
 have x1:=λ(x:Ext Grows (w.alloc (.cells #[.int .i64 r,.int .i64 l] 164)).drew)=>(((Grows.alloc w (.cells #[.int .i64 r,.int .i64 l] 164)).dr).tr x.h).cell c2;have x2:∀x:Ext Grows (w.alloc (.cells #[.int .i64 r,.int .i64 l] 164)).drew,x.u.cell? ⟨w.heap.size,0,none⟩=some (.int .i64 r):=aB (aT w _ _ (0,0) 0 _ rfl);have x3:∀x:Ext Grows (w.alloc (.cells #[.int .i64 r,.int .i64 l] 164)).drew,x.u.cell? ⟨w.heap.size,1,none⟩=some (.int .i64 l):=aB (aT w _ _ (0,0) 1 _ rfl);have c1':(w.alloc (.cells #[.int .i64 r,.int .i64 l] 164)).cell? ⟨mb,1,none⟩=some (.int .i64 m.d):=(Grows.alloc _ _).cell c1;by_cases hd:c=m.d
 ·subst hd
  have HE:=Ab hE;clear hM hb jf hw hP hE h c0 ai HS;go_enter Tryz.func57,Tryz.ntmps57
  go_wp2_with (first|(go_at_call 102;refine(CH _).mono ?_;rintro e w1 ⟨rfl,rfl⟩)|(go_at_call 101;refine(gM _ _).mono ?_;rintro e w1 ⟨rfl,rfl⟩))
  refine jI Grows 5 (aU 5 []) Grows.refl Grows.trans (by kernel_rfl) (by kernel_rfl) (λd _ _ _ _ h=>by cases d<;>exact h) ?_
  repeat (refine lH rfl (λK hK=>?_);go_simp;first|(refine hK _ ?_;clear hK K)|(apply Exists.intro;refine⟨λx=>?_,hK _ ?_⟩;(fail);clear hK K))
  refine sS (λw4 h4=>?_);simp only[Ah,Al];have bj:=((Grows.alloc w (.cells #[.int .i64 r,.int .i64 l] 164)).dr).tr h4;clear x1 x2 x3;go_wp2_with (at_delete;refine wpList_delete_own _ rfl _ _ 160 164 rfl 3 uA Tryz.underlying160 _ bm 4096 D rfl (cG aa bj) _ (klP (r,l)) rfl i6 ?_;intro w5 ak r8)
  go_ret;have oe:=(bj.grownByR (some bm)).andThen r8.grown (λj hj=>Or.inr hj);exact⟨rfl,HF.out _ _ _ ak oe HE.out,oe⟩
 ·have HP:=Ab (hP hd)
  have jb:(c==m.d)=false:=by simpa using hd
  clear hM hb jf hw hP hE h c0 ai HS;go_enter Tryz.func57,Tryz.ntmps57
  go_wp2_with (first|(go_at_call 102;refine(CH _).mono ?_;rintro e w1 ⟨rfl,rfl⟩)|(go_at_call 101;refine(gM _ _).mono ?_;rintro e w1 ⟨rfl,rfl⟩))
  refine jI Grows 6 (aU 6 []) Grows.refl Grows.trans (by kernel_rfl) (by kernel_rfl) (λd _ _ _ _ h=>by cases d<;>exact h) ?_
  repeat (refine lH rfl (λK hK=>?_);go_simp;first|(refine hK _ ?_;clear hK K)|(apply Exists.intro;refine⟨λx=>?_,hK _ ?_⟩;(fail);clear hK K))
  refine sS (λw4 h4=>?_);simp only[Ah,Al];have bj:=((Grows.alloc w (.cells #[.int .i64 r,.int .i64 l] 164)).dr).tr h4;clear x1 x2 x3;go_wp2_with (at_mapUpdate;refine wpList_mapUpdate_own _ rfl _ _ _ 160 rfl 164 3 uA Tryz.underlying160 _ bm 4096 D rfl (cG aa bj) (by unfold maxLen;omega) _ _ (klP (r,l)) rfl rfl i6 _ [] (plainElem_int Tryz.underlying3 hwc) ?_;intro w5 ak r8)
  go_ret;have oe:=(bj.grownByR (some bm)).andThen r8 (λj hj=>Or.inr hj);exact⟨rfl,HF.out _ _ _ ak oe HP.out,oe⟩
theorem yS0 (w:World) (mb bm:Nat) (m:Mx) (h:fM w mb bm m) (r l c:Int) (hwc:WfI c) :
  Calls Tryz.prog 57 #[.pointer (some ⟨mb,0,none⟩),.int .i64 r,.int .i64 l,.int .i64 c] w (yV0 mb bm m (r,l) c w):=by
 cases hb:m.setB (r,l) c
 ·refine(mK1 w mb bm m h r l c hb).mono λe w' ⟨he,hw⟩=>?_
  subst hw;refine⟨by rw[hb];exact he,by rw[rI0 hb];exact h,⟨rfl,rfl,rfl,Aq _,λ_ _ _=>rfl⟩⟩
 ·refine(fE1 w mb bm m h r l c hb hwc).mono λe w' ⟨he,hm,hg⟩=>⟨by rw[hb];exact he,by rw[cS0 hb];exact hm,hg⟩
def kX1 (x:Int):List Value:=[.int .i64 x]
theorem cM1:eW Tryz.prog 77 3 1 8 kX1 where
 sl:=Tryz.underlying77
 info:=gF (z:=.int .i64 0) (by kernel_rfl) rfl
 pos:=by decide
 by1:=by decide
 len _:=rfl
 one x u hu:=by
  simp[kX1]at hu;subst hu;rfl
theorem lY0 {w w':World} {row:Option Nat} (hg:w.grownBy w' row) {p:Addr} (ae:p.block<w.heap.size) (ai:some p.block≠row):w'.frozen? p=w.frozen? p:=by
 have hb:=hg.block p.block ae ai;unfold As;rw[hb]
theorem Grows.grownBy_set {w W:World} (h:Grows w W) (g i:Nat) (v:Value):w.grownBy (W.setCell ⟨g,i,none⟩ v) (some g) where
 os:=(show W.os=w.os from Below.os h)
 tape:=(show W.tape=w.tape from Below.tape h)
 output:=(show W.output=w.output from Below.output h)
 size:=by have:=h.size;simpa using this
 block:=λk hk ai=>by
  rw[heap_setCell_other _ _ _ _ (λe=>ai (by rw[e]))];exact Below.block h k hk
structure jZ (w:World) (rb:Nat) (m:Mx):Prop where
 ok:m.OK
 c0:w.cell? ⟨rb,0,none⟩=some (.int .i64 m.n)
 c1:w.cell? ⟨rb,1,none⟩=some (.int .i64 m.d)
 own:∃v,w.cell? ⟨rb,2,none⟩=some v/\aV w (rb+1) 3 1 kX1 v m.cs
theorem jZ.grows {w w':World} {rb:Nat} {m:Mx} (h:jZ w rb m) (hg:Grows w w'):jZ w' rb m :=
 ⟨h.ok,hg.cell h.c0,hg.cell h.c1,let ⟨v,hv,ho⟩:=h.own;⟨v,hg.cell hv,ho.grows hg⟩⟩
theorem jZ.costs {w:World} {rb:Nat} {m:Mx} (h:jZ w rb m):∃g cap,w.cell? ⟨rb,2,none⟩=some (.slice (some ⟨g,0,none⟩) m.cs.length cap)/\rb<g/\g<w.heap.size /\
  (∀(i:Nat) (c:Int),m.cs[i]?=some c->w.cell? ⟨g,i,none⟩=some (.int .i64 c))/\(∀i,w.frozen? ⟨g,i,none⟩=false) /\
  ∀W,Grows w W->∀(x:Int×Int) (c:Int),m.setB x c=true->jZ (W.setCell ⟨g,at2 m.n x,none⟩ (.int .i64 c)) rb (m.set x c):=by
 obtain⟨v,hv,ho⟩:=h.own;have an:=h.ok.len;have fk:=h.ok.n1;have dm:0<m.cs.length:=by rw[an];exact Nat.mul_pos (by omega) (by omega)
 rcases ho.2 with ⟨rfl,h0⟩|⟨g,cap,cm,rfl,hb,hh,hn,hc,hs,ht⟩
 ·omega
 ·have hfm:m.cs.flatMap kX1=m.cs.map λc=>Value.int .i64 c:=by
   induction m.cs with
   | nil=>rfl
   | cons a r ih=>rw[Am,ih];rfl
  have bu:∀(i:Nat) (c:Int),m.cs[i]?=some c->w.cell? ⟨g,i,none⟩=some (.int .i64 c):=λi c hi=>by
   have h1:(m.cs.flatMap kX1)[i]?=some (.int .i64 c):=by rw[hfm,List.getElem?_map,hi];rfl
   rw[<-ht,List.getElem?_take]at h1;split at h1
   ·simp[Ap,hh];simpa using h1
   ·cases h1
  have afc:g<w.heap.size:=by
   rcases Nat.lt_or_ge g w.heap.size with h|h
   ·exact h
   ·rw[Array.getElem?_eq_none h]at hh;cases hh
  refine⟨g,cap,hv,hb,afc,bu,λi=>by simp[As,hh],λW hW x c hx=>?_⟩;have hv:=hW.cell hv;have hh:=(Below.block hW g afc).trans hh;have h:=h.grows hW;have ik:=hx;simp only[Mx.setB,Ag]at ik;have ac:at2 m.n x<m.cs.length:=by rw[an];exact sA ik.1
  have ai:∀j,(⟨g,at2 m.n x,none⟩:Addr)≠⟨rb,j,none⟩:=λj e=>by
   have:=congrArg Addr.block e
   simp only at this;omega
  refine⟨h.ok.set hx,?_,?_,.slice (some ⟨g,0,none⟩) m.cs.length cap,?_,?_⟩
  ·rw[Aa _ _ _ _ (ai 0)];exact h.c0
  ·rw[Aa _ _ _ _ (ai 1)];exact h.c1
  ·rw[Aa _ _ _ _ (ai 2)]
   exact hv
  ·have hfs:(m.set x c).cs.flatMap kX1=(m.cs.map λc=>Value.int .i64 c).set (at2 m.n x) (.int .i64 c):=by
    show (m.cs.set (at2 m.n x) c).flatMap kX1=_
    rw[<-List.map_set]
    induction m.cs.set (at2 m.n x) c with
    | nil=>rfl
    | cons a r ih=>rw[Am,ih];rfl
   have r9:(m.set x c).cs.length=m.cs.length:=List.length_set;show World.ownsRow _ _ _ _ _ (m.set x c).cs.length _
   rw[r9];refine⟨by rw[hfs];simp,Or.inr ⟨g,cap,cm.setIfInBounds (at2 m.n x) (.int .i64 c),rfl,hb,heap_setCell_same W g _ cm _ _ hh,hn,hc,by simpa using hs,?_⟩⟩;rw[hfs,<-hfm,<-ht,Array.toList_setIfInBounds,List.take_set]
end
section
open Go Go.RowKit
structure lZ1 where
 r:Int
 l:Int
 c:Int
def oJ1 (s:lZ1):List Value:=[.int .i64 s.r,.int .i64 s.l,.int .i64 s.c]
def runSets (m:Mx) (l:List lZ1):Mx:=l.foldl (λm s=>m.setIf (s.r,s.l) s.c) m
theorem yR {m:Mx} {l:List lZ1} {k:Nat} {s:lZ1} (hs:l[k]?=some s):runSets m (l.take (k+1))=(runSets m (l.take k)).setIf (s.r,s.l) s.c:=by
 obtain⟨hk,rfl⟩:=List.getElem?_eq_some_iff.1 hs;unfold runSets;rw[List.take_succ_eq_append_getElem hk,List.foldl_append];rfl
end
section
open Go Go.RowKit
attribute [local go_sem] aM
theorem wG (c:Int) (w:World):Calls Tryz.prog 187 #[.int .i64 c] w λe w'=>e=.returned (.bool (isC c))/\w=w':=by
 unfold isC;by_cases h0:0<=c
 ·go_enter Tryz.func187,Tryz.ntmps187
  go_wp2
  go_ret;exact⟨bD (by simp[h0]),rfl⟩
 ·go_enter Tryz.func187,Tryz.ntmps187
  go_wp2
  go_ret;exact⟨bD (by simp;omega),rfl⟩
theorem gJ1 (n d:Int) (w:World) (h:oK0 n d=false):Calls Tryz.prog 132 #[.int .i64 n,.int .i64 d] w λe w'=>e=.returned (.pointer none)/\w=w':=by
 by_cases h1:n<1
 ·go_enter Tryz.func132,Tryz.ntmps132
  go_wp2_with (go_at_call 187;refine(wG _ _).mono ?_;rintro e w1 ⟨rfl,rfl⟩)
  go_ret;exact⟨rfl,rfl⟩
 ·by_cases h2:(64:Int)<n
  ·go_enter Tryz.func132,Tryz.ntmps132
   go_wp2_with (go_at_call 187;refine(wG _ _).mono ?_;rintro e w1 ⟨rfl,rfl⟩)
   go_ret;exact⟨rfl,rfl⟩
  ·have h3:isC d=false:=by
    cases hd:isC d with
    | false=>rfl
    | true =>
     have h3:=nZ (n:=n) (d:=d);rw[h]at h3;have h4:=vR.1 hd
     have:=h3.2 ⟨by omega,by omega,h4.1,h4.2⟩
     cases this
   clear h;go_enter Tryz.func132,Tryz.ntmps132
   go_wp2_with (go_at_call 187;refine(wG _ _).mono ?_;rintro e w1 ⟨rfl,rfl⟩)
   go_ret;exact⟨rfl,rfl⟩
def fS1 (m:Mx) (w:World) (e:Ending) (w':World):Prop:=e=.returned (.pointer (some ⟨w.heap.size,0,none⟩))/\jZ w' w.heap.size m/\Grows w w'
theorem gW1 (n d:Int) (w:World) (h:oK0 n d=true):Calls Tryz.prog 132 #[.int .i64 n,.int .i64 d] w (fS1 (newM n d) w):=by
 have HOK:=Ab (gM0 h);obtain⟨h1,h2,h3,h4⟩:=nZ.1 h;have hC:isC d=true:=vR.2 ⟨h3,h4⟩;obtain⟨N,rfl⟩:∃N:Nat,n=N:=⟨n.toNat,by omega⟩;have t7:N*N<=4096:=Ak (by omega:N<=64) (by omega:N<=64);obtain⟨M,hM⟩:=exq (N*N)
 have wNN:IntKind.i64.wrap ((N:Int)*N)=M:=by
  rw[show ((N:Int)*N)=((N*N:Nat):Int) by push_cast;rfl,<-hM]
  simp[Ai,Aj,Ad];omega
 have hM2:M<=4096:=by omega
 have fk:¬(N:Int)<1:=by omega
 have ig:¬(64:Int)<N:=by omega
 have HMM:=Ab hM;clear hM t7 h h1 h2;go_enter Tryz.func132,Tryz.ntmps132
 go_wp2_with (go_at_call 187;refine(wG _ _).mono ?_;rintro e w1 ⟨rfl,rfl⟩)
 go_loopw [6] (λi wx=>∃(k:Nat) (v:Value),k<=M/\i=.int .i64 k/\wx.cell? ⟨w.heap.size,0,none⟩=some (.int .i64 N)/\wx.cell? ⟨w.heap.size,1,none⟩=some (.int .i64 d)/\wx.cell? ⟨w.heap.size,2,none⟩=some v/\wx.frozen? ⟨w.heap.size,2,none⟩=false/\aV wx (w.heap.size+1) 3 1 kX1 v (Ae k d)/\w.heap.size+1<=wx.heap.size/\Grows w wx) (λi _=>M-(intOf i).toNat)
 case atStart=>exact⟨0,.slice none 0 0,Ao _,rfl,aT _ _ _ _ 0 _ rfl,aT _ _ _ _ 1 _ rfl,aT _ _ _ _ 2 _ rfl,frozen_of_row _ _ _ _ _ (heap_alloc_new w _),aV.nil _ _ _ _ _,by simp,Grows.alloc _ _⟩
 case round =>
  obtain⟨k,v,hk,rfl,c0,c1,c2,f2,aa,di,hg⟩:=hrel;by_cases ae:k<M
  ·obtain⟨av,cv,rfl,fy,ii,_⟩:=aa.at_ cM1.len
   have vg:∀(j:Nat),some (⟨w.heap.size,j,none⟩:Addr).block≠(Value.slice av (Ae k d).length cv).ownBlock:=λj e=>by
    have:=bB aa _ e.symm
    simp only at this;omega
   rw[Af]at aa vg c2 fy;have HB:=Ab vg;clear vg;go_wp2_with (at_builtin;refine rH0 cM1 rfl _ _ rfl (w.heap.size+1) _ (Ae k d) d rfl aa (Grows.refl _) _ 1 rfl _ rfl rfl (by rw[Af];omega) di ?_;intro v5 w5 ak bg aj4;obtain⟨a5,c5,rfl,_,_,_⟩:=ak.at_ cM1.len;have e0:=cF bg ((Grows.alloc _ _).cell c0) (HB.out 0);have e1:=cF bg ((Grows.alloc _ _).cell c1) (HB.out 1);have e2:=cF bg ((Grows.alloc _ _).cell c2) (HB.out 2);have ef:=(lY0 bg (p:=⟨w.heap.size,2,none⟩) (by simp;omega) (HB.out 2)).trans (((Grows.alloc wr (.cells #[.int .i64 d] 3)).froz (p:=⟨w.heap.size,2,none⟩) (by simp;omega)).trans f2))
   go_roundw
   case rel =>
    have ah4:Ae k d++[d]=Ae (k+1) d:=by rw[List.replicate_succ']
    rw[ah4]at ak;rw[Af]at ak;have dp:Grows w w5:=(hg.al (.cells #[.int .i64 d] 3)).grown bg (λq hq=>by have:=bB aa q hq;omega);have hs5:=bg.size;refine⟨k+1,_,ae,by go_num,?_,?_,World.cell?_setCell_same _ _ _ e2,?_,ownsRow_setCell_below ak (An _) _,?_,?_⟩
    ·rw[Aa _ _ _ _ (by simp)];exact e0
    ·rw[Aa _ _ _ _ (by simp)];exact e1
    ·rw[World.frozen?_setCell];exact ef
    ·simp at hs5 ⊢;omega
    ·exact dp.set (Aq _) _
   case measure=>simp[intOf];omega
  ·obtain rfl:k=M:=by omega
   go_wp2_with fail
   go_ret;exact⟨rfl,⟨HOK.out,c0,c1,v,c2,by rw[HMM.out]at aa;exact aa⟩,hg⟩
def kJ1 (rb:Nat) (m:Mx) (x:Int×Int) (c:Int) (w:World) (e:Ending) (w':World):Prop :=
 e=.returned (.bool (m.setB x c))/\jZ w' rb (m.setIf x c)/\∃g,rb<g/\w.grownBy w' (some g)
theorem iE1 (w:World) (rb:Nat) (m:Mx) (h:jZ w rb m) (r l c:Int) (hb:m.setB (r,l) c=false):Calls Tryz.prog 133 #[.pointer (some ⟨rb,0,none⟩),.int .i64 r,.int .i64 l,.int .i64 c] w λe w'=>e=.returned (.bool false)/\w=w':=by
 have c0:=h.c0;cases hp:inP m.n (r,l)
 ·have hq:¬((0<=r/\r<m.n)/\0<=l/\l<m.n):=λhh=>by have:=(jF (n:=m.n) (x:=(r,l))).2 hh;rw[hp]at this;cases this
  have HQ:=Ab hq;clear hb h hq hp;go_enter Tryz.func133,Tryz.ntmps133
  by_cases q1:r<0
  ·go_wp2
   go_ret;exact⟨rfl,rfl⟩
  ·by_cases q2:(m.n:Int)<=r
   ·go_wp2
    go_ret;exact⟨rfl,rfl⟩
   ·by_cases q3:l<0
    ·go_wp2
     go_ret;exact⟨rfl,rfl⟩
    ·have q4:(m.n:Int)<=l:=Int.not_lt.1 λq4=>HQ.out ⟨⟨by omega,by omega⟩,by omega,q4⟩
     go_wp2
     go_ret;exact⟨rfl,rfl⟩
 ·have hc:isC c=false:=by unfold Mx.setB at hb;rw[hp]at hb;exact hb
  obtain⟨⟨q1,q2⟩,q3,q4⟩:=jF.1 hp;have lg:¬r<0:=by simp only at q1;omega
  have jc:¬(m.n:Int)<=r:=by simp only at q2;omega
  have hq3:¬l<0:=by simp only at q3;omega
  have hq4:¬(m.n:Int)<=l:=by simp only at q4;omega
  clear h hb hp q1 q2 q3 q4;go_enter Tryz.func133,Tryz.ntmps133
  go_wp2_with (first|(go_at_call 187;refine(wG _ _).mono ?_;rintro e w1 ⟨rfl,rfl⟩))
  go_ret;exact⟨rfl,rfl⟩
theorem xL0 (w:World) (rb:Nat) (m:Mx) (h:jZ w rb m) (r l c:Int) (hb:m.setB (r,l) c=true):Calls Tryz.prog 133 #[.pointer (some ⟨rb,0,none⟩),.int .i64 r,.int .i64 l,.int .i64 c] w λe w'=>e=.returned (.bool true)/\jZ w' rb (m.set (r,l) c)/\∃g,rb<g/\w.grownBy w' (some g)/\∃c0,w.cell? ⟨g,0,none⟩=some (.int .i64 c0):=by
 have eo:=hb;simp only[Mx.setB,Ag]at eo;have hC:isC c=true:=eo.2;have hp:=eo.1;have ig:=h.ok.n2;have c0:=h.c0;obtain⟨g,cap,c2,fh,hgl,bu,hfr,dw⟩:=h.costs;have qg:=λW hW=>dw W hW (r,l) c hb;obtain⟨⟨q1,q2⟩,q3,q4⟩:=jF.1 hp;have ae:=sA hp;have an:m.cs.length=m.n*m.n:=h.ok.len;obtain⟨u,hu⟩:∃u,m.cs[at2 m.n (r,l)]?=some u:=⟨_,Ac (by rw[an];exact ae)⟩;have mq:=bu _ _ hu;have vh:=hfr (at2 m.n (r,l));obtain⟨R,rfl⟩:∃R:Nat,r=R:=⟨r.toNat,by simp only at q1;omega⟩;obtain⟨L,rfl⟩:∃L:Nat,l=L:=⟨l.toNat,by simp only at q3;omega⟩;have ac:at2 m.n ((R:Int),(L:Int))=R*m.n+L:=rfl;rw[ac]at mq ae vh qg;have t7:m.n*m.n<=4096:=Ak ig ig;obtain⟨RN,hRN⟩:=exq (R*m.n);rw[<-hRN]at mq ae vh qg
 have wRN:IntKind.i64.wrap ((R:Int)*m.n)=RN:=by
  rw[show ((R:Int)*m.n)=((R*m.n:Nat):Int) by push_cast;rfl,<-hRN]
  simp[Ai,Aj,Ad];omega
 have wI:IntKind.i64.wrap ((RN:Int)+L)=(RN+L:Nat):=by
  rw[show ((RN:Int)+L)=((RN+L:Nat):Int) by push_cast;rfl]
  simp only[Ai,Aj,Ad];simp;omega
 obtain⟨I,hI⟩:=exq (RN+L);rw[<-hI]at wI mq ae vh qg;rw[<-an]at ae;have lg:¬(R:Int)<0:=by omega
 have jc:¬(m.n:Int)<=R:=by simp only at q2;omega
 have hq3:¬(L:Int)<0:=by omega
 have hq4:¬(m.n:Int)<=L:=by simp only at q4;omega
 have ni:m.cs.length<=4096:=by omega
 have HP:=Ab qg
 have HC0:Hid (∃c0,w.cell? ⟨g,0,none⟩=some (.int .i64 c0)):=by
  have h9:0<m.cs.length:=by omega
  exact⟨_,bu 0 _ (Ac h9)⟩
 generalize m.cs.length=N2 at *;clear qg dw bu hfr hb hp h hu ac an t7 hRN hI q1 q2 q3 q4 eo;go_enter Tryz.func133,Tryz.ntmps133
 go_wp2_with (first|(go_at_call 187;refine(wG _ _).mono ?_;rintro e w1 ⟨rfl,rfl⟩))
 have z0:∀x:Ext Grows w.drew,x.u.cell? ⟨rb,0,none⟩=some (.int .i64 m.n):=aB ((Grows.drew w).cell c0);have z2:∀x:Ext Grows w.drew,x.u.cell? ⟨rb,2,none⟩=some (.slice (some ⟨g,0,none⟩) N2 cap):=aB ((Grows.drew w).cell c2);refine pK1 Grows 14 (aU 14 []) Grows.refl Grows.trans (by kernel_rfl) (by kernel_rfl) (λd _ _ _ _ h=>by cases d<;>exact h) ?_
 iterate 14 (refine dH rfl (λK hK=>?_);go_simp;refine hK _ ?_;clear hK K)
 refine wH (λw4 h4=>?_);simp only[Ah,Al];have bj:=(Grows.drew w).tr h4;have d0:=bj.cell mq;have df:=(bj.froz (p:=⟨g,I,none⟩) hgl).trans vh;clear z0 z2;go_wp2_with fail
 go_ret;exact⟨rfl,HP.out w4 bj,g,fh,bj.grownBy_set g I _,HC0.out⟩
theorem dS1 (w:World) (rb:Nat) (m:Mx) (h:jZ w rb m) (r l c:Int) (hb:m.setB (r,l) c=true):Calls Tryz.prog 133 #[.pointer (some ⟨rb,0,none⟩),.int .i64 r,.int .i64 l,.int .i64 c] w λe w'=>e=.returned (.bool true)/\jZ w' rb (m.set (r,l) c)/\∃g,rb<g/\w.grownBy w' (some g) :=
 (xL0 w rb m h r l c hb).mono λ_ _ ⟨h1,h2,g,h3,h4,_⟩=>⟨h1,h2,g,h3,h4⟩
theorem gL1 (w:World) (rb:Nat) (m:Mx) (h:jZ w rb m) (r l c:Int):Calls Tryz.prog 133 #[.pointer (some ⟨rb,0,none⟩),.int .i64 r,.int .i64 l,.int .i64 c] w (kJ1 rb m (r,l) c w):=by
 cases hb:m.setB (r,l) c
 ·refine(iE1 w rb m h r l c hb).mono λe w' ⟨he,hw⟩=>?_
  subst hw;exact⟨by rw[hb];exact he,by rw[rI0 hb];exact h,rb+1,An _,⟨rfl,rfl,rfl,Aq _,λ_ _ _=>rfl⟩⟩
 ·exact(dS1 w rb m h r l c hb).mono λe w' ⟨he,hm,hg⟩=>⟨by rw[hb];exact he,by rw[cS0 hb];exact hm,hg⟩
end
end Go.Proofs.YtheiocndipepaaaGreatDoor
