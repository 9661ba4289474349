/- The texts Mat Mat2 MatSetP MapEnt RefM RefM2, one behind the other. -/
import Derived.Test.YtiopheoljccmpaaGreatDoorCq2
import Derived.Test.YtiopheoljccmpaaGreatDoorCq11
import Derived.Sort.KeysCollected
import Derived.WideKeyEntry
import Derived.Test.YtiopheoljccmpaaGreatDoorCq1
import Derived.OneCell
open Go.World renaming cell?_setCell_other → Aa,block_lt_of_cell? → Ab,cell? → Ak,frozen? → As
open List renaming replicate → Ac,length_replicate → Ad,drop_succ_cons → Ah,getElem?_eq_getElem → Ai,drop_zero → Al,flatMap_cons → Ao,length_map → Ar
open Bool renaming and_eq_true → Ae
open Go.Lib renaming hid → Af
open Array renaming getElem?_setIfInBounds → Ag,ext_getElem? → An
open Nat renaming mul_le_mul → Aj,zero_le → At,le_refl → Au
open Go.IntKind renaming signed → Am,wrap → Ap,bits → Aq
set_option maxHeartbeats 4000000
namespace Go.Proofs.YtiopheoljccmpaaGreatDoor
set_option maxRecDepth 100000
section
open Go Go.RowKit
attribute [local go_sem] aM
theorem pF0 (w:World):(zeroValue 3).run Tryz.prog w=.ok (.int .i64 0) w:=by kernel_rfl
theorem zZ0 {H:Type} {P:Program} {k:TypeId} {R:Value->Option (DataW H×List MemPlace)} {w:World} {b n:Nat} {D:DataW H} (h:w.ownsMap P k R b n D):w.ownsMap P k R b (Maps.size D) D:=by
 obtain⟨es,clock,h1,h2,h3,rfl⟩:=h;exact⟨es,clock,h1,h2,by simp[Maps.size,length_sorted],rfl⟩
theorem kA0 {w:World} {b n:Nat} {D:DataW Unit} {m:Mx} (hm:m.OK) (h:w.ownsMap Tryz.prog 84 (plainElem Tryz.prog 3) b n D) (hM:pI0 m D):Maps.size D<=4096:=by
 obtain⟨es,rfl,mz⟩:=h.keysOf;obtain⟨es',he,hpw,_⟩:=h.entries qP;obtain rfl:es=es':=by simpa using he
 haveI:DecidableEq Lit:=λa b=>Classical.propDecidable (a=b)
 have hnd:(es.map (·.1)).Nodup:=List.pairwise_map.2 hpw
 have ahv:∀x∈es.map (·.1),x∈(List.range (m.n*m.n)).map λi=>klP (eP m.n i):=λkl hkl=>by
  obtain⟨p,hp,rfl⟩:=List.mem_map.1 hkl;obtain⟨key,ek⟩:=mz p hp;obtain⟨x,h1,h2,_,hx⟩:=eK0 ek
  have o0:Maps.has (.map es) (klP x)=true:=by
   rw[Maps.has_eq,List.any_eq_true];exact⟨p,hp,by rw[hx];exact nP0 x⟩
  have h3:=(hM x h1 h2).1;rw[o0]at h3
  have h4:inP m.n x=true:=by
   have:=h3.symm
   simp only[Ae]at this;exact this.1
  exact List.mem_map.2 ⟨at2 m.n x,List.mem_range.2 (sC h4),by rw[cS0 h4,hx]⟩
 have h5:=dI hnd ahv;rw[Ar,Ar,List.length_range]at h5
 have:=hm.n2
 show es.length<=4096
 exact Nat.le_trans h5 (Aj this this)
structure gA (w:World) (mb bm:Nat) (m:Mx):Prop where
 ok:m.OK
 c0:w.cell? ⟨mb,0,none⟩=some (.int .i64 m.n)
 c1:w.cell? ⟨mb,1,none⟩=some (.int .i64 m.d)
 c2:w.cell? ⟨mb,2,none⟩=some (.map (some bm))
 own:∃D:DataW Unit,w.ownsMap Tryz.prog 84 (plainElem Tryz.prog 3) bm 4096 D/\pI0 m D
theorem gA.grows {w w':World} {mb bm:Nat} {m:Mx} (h:gA w mb bm m) (hg:aB w w'):gA w' mb bm m :=
 ⟨h.ok,hg.cell h.c0,hg.cell h.c1,hg.cell h.c2,let ⟨D,ho,hm⟩:=h.own;⟨D,bQ ho hg,hm⟩⟩
theorem gA.mlt {w:World} {mb bm:Nat} {m:Mx} (h:gA w mb bm m):mb<w.heap.size:=Ab w _ h.c0
theorem gA.blt {w:World} {mb bm:Nat} {m:Mx} (h:gA w mb bm m):bm<w.heap.size:=let ⟨_,ho,_⟩:=h.own; ho.lt
theorem gA.ne {w:World} {mb bm:Nat} {m:Mx} (h:gA w mb bm m):mb≠bm:=by
 obtain⟨D,⟨es,clock,hb,_⟩,hm⟩:=h.own;intro e;have h0:=h.c0;subst e;simp[Ak,hb]at h0
theorem bB {w w':World} {row:Option Nat} (hg:w.grownBy w' row) {p:Addr} {v:Value} (hc:w.cell? p=some v) (aw:some p.block≠row):w'.cell? p=some v:=by
 have af:=Ab w _ hc;have hb:=hg.block p.block af aw;unfold Ak at hc ⊢;rw[hb];exact hc
theorem gA.kept {w w':World} {mb bm:Nat} {m:Mx} {row:Option Nat} (h:gA w mb bm m) (hg:w.grownBy w' row) (h1:some mb≠row) (h2:some bm≠row):gA w' mb bm m :=
 ⟨h.ok,bB hg h.c0 h1,bB hg h.c1 h1,bB hg h.c2 h1,let ⟨D,ho,hm⟩:=h.own;⟨D,ho.kept hg h2,hm⟩⟩
theorem eZ (c:Int) (w:World):Calls Tryz.prog 82 #[.int .i64 c] w λe w'=>e=.returned (.bool (isC c))/\w=w':=by
 unfold isC;by_cases h0:0<=c
 ·go_enter Tryz.func82,Tryz.ntmps82
  go_wp2
  go_ret;exact⟨aZ (by simp[h0]),rfl⟩
 ·go_enter Tryz.func82,Tryz.ntmps82
  go_wp2
  go_ret;exact⟨aZ (by simp;omega),rfl⟩
theorem oH0 (w:World) (mb bm:Nat) (m:Mx) (h:gA w mb bm m):Calls Tryz.prog 87 #[.pointer (some ⟨mb,0,none⟩)] w λe w'=>e=.returned (.int .i64 m.n)/\w=w':=by
 have c0:=h.c0;go_enter Tryz.func87,Tryz.ntmps87
 go_wp2
 go_ret;exact⟨rfl,rfl⟩
theorem wP0 (w:World) (mb bm:Nat) (m:Mx) (h:gA w mb bm m) (r:Int):Calls Tryz.prog 83 #[.pointer (some ⟨mb,0,none⟩),.int .i64 r] w λe w'=>e=.returned (.bool (inR m.n r))/\w=w':=by
 have CS:=λW (hW:w=W)=>oH0 W mb bm m (hW▸h);unfold inR;by_cases h0:0<=r
 ·go_enter Tryz.func83,Tryz.ntmps83
  go_wp2_with (go_at_call 87;refine(CS _ rfl).mono ?_;rintro e w1 ⟨rfl,rfl⟩)
  go_ret;exact⟨aZ (by simp[h0]),rfl⟩
 ·go_enter Tryz.func83,Tryz.ntmps83
  go_wp2_with (go_at_call 87;refine(CS _ rfl).mono ?_;rintro e w1 ⟨rfl,rfl⟩)
  go_ret;exact⟨aZ (by simp;omega),rfl⟩
theorem gQ1 (n d:Int) (w:World) (h:uD0 n d=false):Calls Tryz.prog 28 #[.int .i64 n,.int .i64 d] w λe w'=>e=.returned (.tuple #[.pointer none,.int .i64 6])/\w=w':=by
 by_cases h1:n<1
 ·go_enter Tryz.func28,Tryz.ntmps28
  go_wp2_with (go_at_call 82;refine(eZ _ _).mono ?_;rintro e w1 ⟨rfl,rfl⟩)
  go_ret2;exact⟨rfl,rfl⟩
 ·by_cases h2:(64:Int)<n
  ·go_enter Tryz.func28,Tryz.ntmps28
   go_wp2_with (go_at_call 82;refine(eZ _ _).mono ?_;rintro e w1 ⟨rfl,rfl⟩)
   go_ret2;exact⟨rfl,rfl⟩
  ·have h3:isC d=false:=by
    cases hd:isC d with
    | false=>rfl
    | true =>
     have h3:=lD (n:=n) (d:=d);rw[h]at h3;have h4:=pI.1 hd
     have:=h3.2 ⟨by omega,by omega,h4.1,h4.2⟩
     cases this
   clear h;go_enter Tryz.func28,Tryz.ntmps28
   go_wp2_with (go_at_call 82;refine(eZ _ _).mono ?_;rintro e w1 ⟨rfl,rfl⟩)
   go_ret2;exact⟨rfl,rfl⟩
def gR1 (m:Mx) (w:World) (e:Ending) (w':World):Prop:=e=.returned (.tuple #[.pointer (some ⟨w.heap.size+1,0,none⟩),.int .i64 0])/\gA w' (w.heap.size+1) w.heap.size m/\aB w w'
theorem yC0 (n d:Int) (w:World) (h:uD0 n d=true):Calls Tryz.prog 28 #[.int .i64 n,.int .i64 d] w (gR1 (newM n d) w):=by
 have be:=yN h;have hM:=cW1 (H:=Unit) n d;obtain⟨h1,h2,h3,h4⟩:=lD.1 h;have hC:isC d=true:=pI.2 ⟨h3,h4⟩;have hn:((newM n d).n:Int)=n:=by show ((n.toNat:Nat):Int)=n;omega
 have hd:(newM n d).d=d:=rfl;generalize newM n d=m at *;have HOK:=Af be;have HM:=Af hM;have HN:=Af hn;have HD:=Af hd;have j6:¬n<1:=by omega
 have ii:¬(64:Int)<n:=by omega
 clear be hM hn hd h h1 h2 h3 h4;have hmm:=@run_makeMap Tryz.prog;go_enter Tryz.func28,Tryz.ntmps28
 go_wp2_with (go_at_call 82;refine(eZ _ _).mono ?_;rintro e w1 ⟨rfl,rfl⟩)
 go_ret2;refine⟨rfl,⟨HOK.out,?_,?_,?_,_,((World.ownsMap_made _ _ _ _).alloc _).mono (At _),HM.out⟩,(aB.alloc _ _).al _⟩
 ·rw[HN.out];exact eN (w:=w.alloc (.map #[] 0)) (by simp) 0 _ rfl
 ·rw[HD.out]
  have:=eN (w:=w.alloc (.map #[] 0)) (cs:=#[.int .i64 n,.int .i64 d,.map (some w.heap.size)]) (t:=157) (n:=w.heap.size+1) (by simp) 1 _ rfl
  rw[eY0]at this;exact this
 ·have:=eN (w:=w.alloc (.map #[] 0)) (cs:=#[.int .i64 n,.int .i64 d,.map (some w.heap.size)]) (t:=157) (n:=w.heap.size+1) (by simp) 2 _ rfl
  rw[eY0]at this;exact this
theorem aB.grownByR {w w':World} (h:aB w w') (row:Option Nat):w.grownBy w' row:=⟨Below.os h,Below.tape h,Below.output h,Below.size h,λk hk _=>Below.block h k hk⟩
def gP1 (mb bm:Nat) (m:Mx) (x:Int×Int) (c:Int) (w:World) (e:Ending) (w':World):Prop :=
 e=.returned (.int .i64 (if m.setB x c then 0 else 6))/\gA w' mb bm (m.setIf x c)/\w.grownBy w' (some bm)
theorem bJ1 {m:Mx} {x:Int×Int} {c:Int} (h:m.setB x c=false):m.setIf x c=m:=by unfold Mx.setIf; rw[h]; rfl
theorem hU0 {m:Mx} {x:Int×Int} {c:Int} (h:m.setB x c=true):m.setIf x c=m.set x c:=by unfold Mx.setIf; rw[h]; rfl
theorem gE1 (w:World) (mb bm:Nat) (m:Mx) (h:gA w mb bm m) (r l c:Int) (hb:m.setB (r,l) c=false) :
  Calls Tryz.prog 29 #[.pointer (some ⟨mb,0,none⟩),.int .i64 r,.int .i64 l,.int .i64 c] w λe w'=>e=.returned (.int .i64 6)/\w=w':=by
 have CH:=wP0 w mb bm m h;unfold Mx.setB inP at hb;simp only at hb;cases hr:inR m.n r
 ·clear hb
  go_enter Tryz.func29,Tryz.ntmps29
  go_wp2_with (first|(go_at_call 83;refine(CH _).mono ?_;rintro e w1 ⟨rfl,rfl⟩)|(go_at_call 82;refine(eZ _ _).mono ?_;rintro e w1 ⟨rfl,rfl⟩))
  go_ret;exact⟨rfl,rfl⟩
 ·cases hl:inR m.n l
  ·clear hb
   go_enter Tryz.func29,Tryz.ntmps29
   go_wp2_with (first|(go_at_call 83;refine(CH _).mono ?_;rintro e w1 ⟨rfl,rfl⟩)|(go_at_call 82;refine(eZ _ _).mono ?_;rintro e w1 ⟨rfl,rfl⟩))
   go_ret;exact⟨rfl,rfl⟩
  ·rw[hr,hl]at hb
   have hc:isC c=false:=hb;clear hb;go_enter Tryz.func29,Tryz.ntmps29
   go_wp2_with (first|(go_at_call 83;refine(CH _).mono ?_;rintro e w1 ⟨rfl,rfl⟩)|(go_at_call 82;refine(eZ _ _).mono ?_;rintro e w1 ⟨rfl,rfl⟩))
   go_ret;exact⟨rfl,rfl⟩
theorem cI1 (w:World) (mb bm:Nat) (m:Mx) (h:gA w mb bm m) (r l c:Int) (hb:m.setB (r,l) c=true) (hwc:WfI c) :
  Calls Tryz.prog 29 #[.pointer (some ⟨mb,0,none⟩),.int .i64 r,.int .i64 l,.int .i64 c] w λe w'=>e=.returned (.int .i64 0)/\gA w' mb bm (m.set (r,l) c)/\w.grownBy w' (some bm):=by
 have CH:=wP0 w mb bm m h;have fp:=hb;unfold Mx.setB inP at fp;simp only[Ae]at fp;have hr:inR m.n r=true:=fp.1.1;have hl:inR m.n l=true:=fp.1.2;have hc:isC c=true:=fp.2;clear fp;have jg:inP m.n (r,l)=true:=by unfold inP;rw[hr,hl];rfl
 have c0:=h.c0;have c1:=h.c1;have c2:=h.c2;have aw:=h.ne;obtain⟨D,ae,hM⟩:=h.own;have hw:=pX h.ok.n2 jg;have ek:=iR1 (x:=(r,l)) hw.1 hw.2;have hP:=λhd=>hM.put ae.isMap h.ok hb hd;have hE:=hM.del h.ok jg;have HS:=Af (h.ok.set hb)
 have HF:Hid (∀(w':World) (n:Nat) (D':DataW Unit),w'.ownsMap Tryz.prog 84 (plainElem Tryz.prog 3) bm n D'->w.grownBy w' (some bm)->pI0 (m.set (r,l) c) D'->gA w' mb bm (m.set (r,l) c)):=λw' n D' ho hg hm =>
  ⟨h.ok.set hb,bB hg c0 (by simpa using aw),bB hg c1 (by simpa using aw),bB hg c2 (by simpa using aw),D',(zZ0 ho).mono (kA0 (h.ok.set hb) ho hm),hm⟩
 have x1:=λ(x:Ext aB (w.alloc (.cells #[.int .i64 r,.int .i64 l] 84)).drew)=>(((aB.alloc w (.cells #[.int .i64 r,.int .i64 l] 84)).dr).tr x.h).cell c2;have x2:∀x:Ext aB (w.alloc (.cells #[.int .i64 r,.int .i64 l] 84)).drew,x.u.cell? ⟨w.heap.size,0,none⟩=some (.int .i64 r):=aG (aX w _ _ (0,0) 0 _ rfl);have x3:∀x:Ext aB (w.alloc (.cells #[.int .i64 r,.int .i64 l] 84)).drew,x.u.cell? ⟨w.heap.size,1,none⟩=some (.int .i64 l):=aG (aX w _ _ (0,0) 1 _ rfl);have c1':(w.alloc (.cells #[.int .i64 r,.int .i64 l] 84)).cell? ⟨mb,1,none⟩=some (.int .i64 m.d):=(aB.alloc _ _).cell c1;by_cases hd:c=m.d
 ·subst hd
  have HE:=Af hE;clear hM hb jg hw hP hE h c0 aw HS;go_enter Tryz.func29,Tryz.ntmps29
  go_wp2_with (first|(go_at_call 83;refine(CH _).mono ?_;rintro e w1 ⟨rfl,rfl⟩)|(go_at_call 82;refine(eZ _ _).mono ?_;rintro e w1 ⟨rfl,rfl⟩))
  refine gE aB 5 (aT 5 []) aB.refl aB.trans (by kernel_rfl) (by kernel_rfl) (λd _ _ _ _ h=>by cases d<;>exact h) ?_
  repeat (refine iB rfl (λK hK=>?_);go_simp;first|(refine hK _ ?_;clear hK K)|(apply Exists.intro;refine⟨λx=>?_,hK _ ?_⟩;(fail);clear hK K))
  refine nL (λw4 h4=>?_);simp only[Ah,Al];have cd:=((aB.alloc w (.cells #[.int .i64 r,.int .i64 l] 84)).dr).tr h4;clear x1 x2 x3;go_wp2_with (at_delete;refine wpList_delete_own _ rfl _ _ 79 84 rfl 3 qP Tryz.underlying79 _ bm 4096 D rfl (bQ ae cd) _ (klP (r,l)) rfl ek ?_;intro w5 ai tz)
  go_ret;have ld:=(cd.grownByR (some bm)).andThen tz.grown (λj hj=>Or.inr hj);exact⟨rfl,HF.out _ _ _ ai ld HE.out,ld⟩
 ·have HP:=Af (hP hd)
  have ig:(c==m.d)=false:=by simpa using hd
  clear hM hb jg hw hP hE h c0 aw HS;go_enter Tryz.func29,Tryz.ntmps29
  go_wp2_with (first|(go_at_call 83;refine(CH _).mono ?_;rintro e w1 ⟨rfl,rfl⟩)|(go_at_call 82;refine(eZ _ _).mono ?_;rintro e w1 ⟨rfl,rfl⟩))
  refine gE aB 6 (aT 6 []) aB.refl aB.trans (by kernel_rfl) (by kernel_rfl) (λd _ _ _ _ h=>by cases d<;>exact h) ?_
  repeat (refine iB rfl (λK hK=>?_);go_simp;first|(refine hK _ ?_;clear hK K)|(apply Exists.intro;refine⟨λx=>?_,hK _ ?_⟩;(fail);clear hK K))
  refine nL (λw4 h4=>?_);simp only[Ah,Al];have cd:=((aB.alloc w (.cells #[.int .i64 r,.int .i64 l] 84)).dr).tr h4;clear x1 x2 x3;go_wp2_with (at_mapUpdate;refine wpList_mapUpdate_own _ rfl _ _ _ 79 rfl 84 3 qP Tryz.underlying79 _ bm 4096 D rfl (bQ ae cd) (by unfold maxLen;omega) _ _ (klP (r,l)) rfl rfl ek _ [] (plainElem_int Tryz.underlying3 hwc) ?_;intro w5 ai tz)
  go_ret;have ld:=(cd.grownByR (some bm)).andThen tz (λj hj=>Or.inr hj);exact⟨rfl,HF.out _ _ _ ai ld HP.out,ld⟩
theorem wB0 (w:World) (mb bm:Nat) (m:Mx) (h:gA w mb bm m) (r l c:Int) (hwc:WfI c) :
  Calls Tryz.prog 29 #[.pointer (some ⟨mb,0,none⟩),.int .i64 r,.int .i64 l,.int .i64 c] w (gP1 mb bm m (r,l) c w):=by
 cases hb:m.setB (r,l) c
 ·refine(gE1 w mb bm m h r l c hb).mono λe w' ⟨he,hw⟩=>?_
  subst hw;refine⟨by rw[hb];exact he,by rw[bJ1 hb];exact h,⟨rfl,rfl,rfl,Au _,λ_ _ _=>rfl⟩⟩
 ·refine(cI1 w mb bm m h r l c hb hwc).mono λe w' ⟨he,hm,hg⟩=>⟨by rw[hb];exact he,by rw[hU0 hb];exact hm,hg⟩
end
section
open Go Go.RowKit
structure iU1 where
 r:Int
 l:Int
 c:Int
def kV1 (s:iU1):List Value:=[.int .i64 s.r,.int .i64 s.l,.int .i64 s.c]
def runSets (m:Mx) (l:List iU1):Mx:=l.foldl (λm s=>m.setIf (s.r,s.l) s.c) m
theorem jI0 {m:Mx} {l:List iU1} {k:Nat} {s:iU1} (hs:l[k]?=some s):runSets m (l.take (k+1))=(runSets m (l.take k)).setIf (s.r,s.l) s.c:=by
 obtain⟨hk,rfl⟩:=List.getElem?_eq_some_iff.1 hs;unfold runSets;rw[List.take_succ_eq_append_getElem hk,List.foldl_append];rfl
theorem wG0 (m:Mx) (x:Int×Int) (c:Int):(m.setIf x c).n=m.n:=by unfold Mx.setIf Mx.set; split<;>rfl
end
section
open Go Go.RowKit
open Go.ChangeShapes Go.WideShapes Go.MapKept Go.ChangeMaps
open Go.WideElems (Fit entry_then_store)
open Go.WideMaps (KeyLaw)
theorem fO0 {w:World} {b:Nat} {o:Obj} (h:w.heap[b]?=some o):setBlock w b o=w:=by
 obtain⟨hb,he⟩:=Array.getElem?_eq_some_iff.1 h;unfold setBlock
 have:w.heap.setIfInBounds b o=w.heap:=by
  apply An
  intro i;rw[Ag];by_cases e:b=i
  ·subst e;rw[if_pos rfl,if_pos hb,h]
  ·rw[if_neg e]
 rw[this]
theorem bK0 (w:World) (b:Nat) (o o':Obj):setBlock (setBlock w b o) b o'=setBlock w b o':=by
 unfold setBlock
 have:(w.heap.setIfInBounds b o).setIfInBounds b o'=w.heap.setIfInBounds b o':=by
  apply An
  intro i;simp only[Ag,Array.size_setIfInBounds];by_cases e:b=i
  ·subst e;rw[if_pos rfl,if_pos rfl]
  ·rw[if_neg e,if_neg e,if_neg e]
 simp only[this]
theorem qE {α:Type} {a b:α} {w w':World} (h:(Result.ok a w:Result α)=.ok b w'):a=b/\w=w':=by cases h; exact⟨rfl,rfl⟩
theorem vV0 {H:Type} {P:Program} {w:World} {b n:Nat} {D:DataW H} {t k e:TypeId} {q:IntKind} (h:w.ownsMap P k (plainElem P e) b n D) (KL:KeyLaw P k) (K:Go.Maps.Keyed P k) (ht:P.underlying t=some (.map k e)) (he:P.underlying e=some (.int q))
  (hz:∀u:World,(zeroValue e).run P u=.ok (.int q 0) u) (hn:n<maxLen) {key:Value} {kl:Lit} (ek:keyOf P k key=some kl) :
  ∃c st w2,(Instr.mapEntry t (.map (some b)) key).run P w=.ok (.tuple #[.int q c,goInt st]) w2/\D.atKey kl (.lit (.int q 0))=.lit (.int q c)/\w.grownBy w2 (some b) /\
   (Instr.lookup t (.map (some b)) key false).run P w=.ok (.int q c) w/\(Instr.lookup t (.map (some b)) key false).run P w2=.ok (.int q c) w2 /\
   ∀x,(Lit.int q x).wf=true->∃w3,(Instr.entryStore t (.map (some b)) (goInt st) (.int q x)).run P w2=.ok () w3/\w3.ownsMap P k (plainElem P e) b (n+1) (D.put kl (.lit (.int q x)))/\w.grownBy w3 (some b):=by
 have hw0:(Lit.int q 0).wf=true:=by cases q<;>decide
 obtain⟨c,jb,ah,hwc⟩:=h.lookup_int K ht he (hz w) ek;have t7:=λ(x:Int) (hx:(Lit.int q x).wf=true)=>h.update K ht hn ek (plainElem_int (H:=H) he hx);have ahw:=h.isMap;have h0:=h;obtain⟨es,clock,hb,F,hs,hD⟩:=h0;obtain⟨v0,st,es1,o5,xm,_,d9⟩:=entry_then_store KL ht hz hb F ek;have ld:w.grownBy (setBlock w b (.map es1 o5)) (some b):=⟨rfl,rfl,rfl,by simp[setBlock],λi _ hi=>heap_setBlock_other hb _ (λe=>hi (by rw[e]))⟩
 have ahx:v0=.int q c/\(Instr.lookup t (.map (some b)) key false).run P (setBlock w b (.map es1 o5))=.ok (.int q c) (setBlock w b (.map es1 o5)):=by
  rcases K.find w ek es.toList F.keys with ⟨h1,h2⟩|⟨j,e0,h1,h2,h3⟩
  ·have qw:(Instr.mapEntry t (.map (some b)) key).run P w=.ok (.tuple #[.int q 0,goInt clock]) (setBlock w b (.map (es.push ⟨key,.int q 0,clock⟩) (clock+1))):=by
    simp[Instr.mapEntry,run_underlying ht,MapKept.run_getObj_map hb,K.check w false ek,h1,hz,MapKept.run_setObj_map _ hb,Result.andThen,setBlock]
   have hmu:(Instr.mapUpdate t (.map (some b)) key (.int q 0)).run P w=.ok () (setBlock w b (.map (es.push ⟨key,.int q 0,clock⟩) (clock+1))):=by
    simp[Instr.mapUpdate,run_underlying ht,MapKept.run_getObj_map hb,K.check w false ek,h1,MapKept.run_setObj_map _ hb,Result.andThen,setBlock]
   rw[xm]at qw;obtain⟨e1,e2⟩:=qE qw;have vm:v0=.int q 0:=by have h9:=congrArg (λa:Array Value=>a[0]?) (Value.tuple.inj e1);simpa using h9
   have t9:c=0:=by
    rcases Maps.fit_look false K ht (hz w) hb F ek with ⟨hl,_,_⟩|⟨e0,y,he0,jt,_⟩
    ·rw[jb]at hl
     have:=(qE hl).1
     simpa using this
    ·exact absurd jt (h2 e0 he0)
   obtain⟨w',hw',cw,_⟩:=t7 0 hw0;rw[hmu]at hw';have e3:=(qE hw').2;rw[e2];rw[<-e3]at cw;obtain⟨c',zz,jw,_⟩:=cw.lookup_int K ht he (hz _) ek;rw[Go.Maps.atKey_put_same ahw (K.key ek)]at jw;have hc':c'=0:=by simpa using jw.symm
   rw[t9];exact⟨vm,by rw[zz,hc']⟩
  ·have hj:es[j]?=some e0:=by simpa using h2
   have ae0:es.modify j (λe=>{ e with key:=key })=es:=by
    apply Array.ext'
    rw[Array.toList_modify,modify_eq_set _ _ _ _ h2]
    have:({ e0 with key:=key }:MapEntry)=e0:=by rw[<-h3]
    rw[this];exact Go.WideElems.set_self _ _ _ h2
   have qw:(Instr.mapEntry t (.map (some b)) key).run P w=.ok (.tuple #[e0.val,goInt e0.born]) (setBlock w b (.map es clock)):=by
    simp[Instr.mapEntry,run_underlying ht,MapKept.run_getObj_map hb,K.check w false ek,h1,hj,h3,K.stays w ek,ae0,MapKept.run_setObj_map _ hb,Result.andThen,setBlock]
   rw[xm]at qw;obtain⟨e1,e2⟩:=qE qw;have vm:v0=e0.val:=by have h9:=congrArg (λa:Array Value=>a[0]?) (Value.tuple.inj e1);simpa using h9
   have hl:(Instr.lookup t (.map (some b)) key false).run P w=.ok e0.val w:=by
    simp[Instr.lookup,run_underlying ht,MapKept.run_getObj_map hb,K.check w _ ek,h1,Result.andThen]
   rw[jb]at hl;have hc:=(qE hl).1;refine⟨by rw[vm,<-hc],?_⟩;rw[e2,fO0 hb];exact jb
 obtain⟨rfl,ja⟩:=ahx;refine⟨c,st,_,xm,ah,ld,jb,ja,λx hx=>?_⟩;obtain⟨es',ahi,gk,ir⟩:=d9 (setBlock w b (.map es1 o5)) (.int q x) (heap_setBlock_same hb _);obtain⟨w',hw',cw,ahy⟩:=t7 x hx;rw[ir]at hw';have e3:=(qE hw').2;rw[bK0]at gk;exact⟨_,gk,by rw[e3];exact cw,by rw[e3];exact ahy⟩
end
section
open Go Go.RowKit
attribute [local go_sem] aM
def eQ1 (x:Int):List Value:=[.int .i64 x]
theorem wA0:eG Tryz.prog 63 3 1 8 eQ1 where
 sl:=Tryz.underlying63
 info:=eY (z:=.int .i64 0) (by kernel_rfl) rfl
 pos:=by decide
 by1:=by decide
 len _:=rfl
 one x u hu:=by
  simp[eQ1]at hu;subst hu;rfl
theorem lB {w w':World} {row:Option Nat} (hg:w.grownBy w' row) {p:Addr} (af:p.block<w.heap.size) (aw:some p.block≠row):w'.frozen? p=w.frozen? p:=by
 have hb:=hg.block p.block af aw;unfold As;rw[hb]
theorem aB.grownBy_set {w W:World} (h:aB w W) (g i:Nat) (v:Value):w.grownBy (W.setCell ⟨g,i,none⟩ v) (some g) where
 os:=(show W.os=w.os from Below.os h)
 tape:=(show W.tape=w.tape from Below.tape h)
 output:=(show W.output=w.output from Below.output h)
 size:=by have:=h.size;simpa using this
 block:=λk hk aw=>by
  rw[heap_setCell_other _ _ _ _ (λe=>aw (by rw[e]))];exact Below.block h k hk
structure iQ (w:World) (rb:Nat) (m:Mx):Prop where
 ok:m.OK
 c0:w.cell? ⟨rb,0,none⟩=some (.int .i64 m.n)
 c1:w.cell? ⟨rb,1,none⟩=some (.int .i64 m.d)
 own:∃v,w.cell? ⟨rb,2,none⟩=some v/\aO w (rb+1) 3 1 eQ1 v m.cs
theorem iQ.grows {w w':World} {rb:Nat} {m:Mx} (h:iQ w rb m) (hg:aB w w'):iQ w' rb m :=
 ⟨h.ok,hg.cell h.c0,hg.cell h.c1,let ⟨v,hv,ho⟩:=h.own;⟨v,hg.cell hv,ho.grows hg⟩⟩
theorem iQ.lt {w:World} {rb:Nat} {m:Mx} (h:iQ w rb m):rb<w.heap.size:=Ab w _ h.c0
theorem iQ.kept {w w':World} {rb bm mb:Nat} {m m':Mx} (h:iQ w rb m) (hm:gA w mb bm m') (hg:w.grownBy w' (some bm)):iQ w' rb m:=by
 obtain⟨v,hv,ho⟩:=h.own;obtain⟨D,hmo,_⟩:=hm.own
 have aw:some rb≠some bm:=by
  intro e;obtain rfl:=Option.some.inj e;have hc:=h.c0;obtain⟨es,clock,hb,_⟩:=hmo;simp[Ak,hb]at hc
 refine⟨h.ok,bB hg h.c0 aw,bB hg h.c1 aw,v,bB hg hv aw,?_⟩;exact World.ownsRow.kept ho hg (Or.inr λe=>aG0 ho hmo e.symm)
theorem iQ.costs {w:World} {rb:Nat} {m:Mx} (h:iQ w rb m):∃g cap,w.cell? ⟨rb,2,none⟩=some (.slice (some ⟨g,0,none⟩) m.cs.length cap)/\rb<g/\g<w.heap.size /\
  (∀(i:Nat) (c:Int),m.cs[i]?=some c->w.cell? ⟨g,i,none⟩=some (.int .i64 c))/\(∀i,w.frozen? ⟨g,i,none⟩=false) /\
  ∀W,aB w W->∀(x:Int×Int) (c:Int),m.setB x c=true->iQ (W.setCell ⟨g,at2 m.n x,none⟩ (.int .i64 c)) rb (m.set x c):=by
 obtain⟨v,hv,ho⟩:=h.own;have ay:=h.ok.len;have j6:=h.ok.n1;have cu:0<m.cs.length:=by rw[ay];exact Nat.mul_pos (by omega) (by omega)
 rcases ho.2 with ⟨rfl,h0⟩|⟨g,cap,ei,rfl,hb,hh,hn,hc,hs,ht⟩
 ·omega
 ·have hfm:m.cs.flatMap eQ1=m.cs.map λc=>Value.int .i64 c:=by
   induction m.cs with
   | nil=>rfl
   | cons a r ih=>rw[Ao,ih];rfl
  have cj:∀(i:Nat) (c:Int),m.cs[i]?=some c->w.cell? ⟨g,i,none⟩=some (.int .i64 c):=λi c hi=>by
   have h1:(m.cs.flatMap eQ1)[i]?=some (.int .i64 c):=by rw[hfm,List.getElem?_map,hi];rfl
   rw[<-ht,List.getElem?_take]at h1;split at h1
   ·simp[Ak,hh];simpa using h1
   ·cases h1
  have acw:g<w.heap.size:=by
   rcases Nat.lt_or_ge g w.heap.size with h|h
   ·exact h
   ·rw[Array.getElem?_eq_none h]at hh;cases hh
  refine⟨g,cap,hv,hb,acw,cj,λi=>by simp[As,hh],λW hW x c hx=>?_⟩;have hv:=hW.cell hv;have hh:=(Below.block hW g acw).trans hh;have h:=h.grows hW;have ik:=hx;simp only[Mx.setB,Ae]at ik;have ah:at2 m.n x<m.cs.length:=by rw[ay];exact sC ik.1
  have aw:∀j,(⟨g,at2 m.n x,none⟩:Addr)≠⟨rb,j,none⟩:=λj e=>by
   have:=congrArg Addr.block e
   simp only at this;omega
  refine⟨h.ok.set hx,?_,?_,.slice (some ⟨g,0,none⟩) m.cs.length cap,?_,?_⟩
  ·rw[Aa _ _ _ _ (aw 0)];exact h.c0
  ·rw[Aa _ _ _ _ (aw 1)];exact h.c1
  ·rw[Aa _ _ _ _ (aw 2)]
   exact hv
  ·have vn:(m.set x c).cs.flatMap eQ1=(m.cs.map λc=>Value.int .i64 c).set (at2 m.n x) (.int .i64 c):=by
    show (m.cs.set (at2 m.n x) c).flatMap eQ1=_
    rw[<-List.map_set]
    induction m.cs.set (at2 m.n x) c with
    | nil=>rfl
    | cons a r ih=>rw[Ao,ih];rfl
   have m0:(m.set x c).cs.length=m.cs.length:=List.length_set;show World.ownsRow _ _ _ _ _ (m.set x c).cs.length _
   rw[m0];refine⟨by rw[vn];simp,Or.inr ⟨g,cap,ei.setIfInBounds (at2 m.n x) (.int .i64 c),rfl,hb,heap_setCell_same W g _ ei _ _ hh,hn,hc,by simpa using hs,?_⟩⟩;rw[vn,<-hfm,<-ht,Array.toList_setIfInBounds,List.take_set]
theorem gL0 (c:Int) (w:World):Calls Tryz.prog 108 #[.int .i64 c] w λe w'=>e=.returned (.bool (isC c))/\w=w':=by
 unfold isC;by_cases h0:0<=c
 ·go_enter Tryz.func108,Tryz.ntmps108
  go_wp2
  go_ret;exact⟨aZ (by simp[h0]),rfl⟩
 ·go_enter Tryz.func108,Tryz.ntmps108
  go_wp2
  go_ret;exact⟨aZ (by simp;omega),rfl⟩
def bI1 (m:Mx) (w:World) (e:Ending) (w':World):Prop:=e=.returned (.pointer (some ⟨w.heap.size,0,none⟩))/\iQ w' w.heap.size m/\aB w w'
theorem bW1 (n d:Int) (w:World) (h:uD0 n d=true):Calls Tryz.prog 61 #[.int .i64 n,.int .i64 d] w (bI1 (newM n d) w):=by
 have HOK:=Af (yN h);obtain⟨h1,h2,h3,h4⟩:=lD.1 h;have hC:isC d=true:=pI.2 ⟨h3,h4⟩;obtain⟨N,rfl⟩:∃N:Nat,n=N:=⟨n.toNat,by omega⟩;have qq:N*N<=4096:=Aj (by omega:N<=64) (by omega:N<=64);obtain⟨M,hM⟩:=exq (N*N)
 have wNN:IntKind.i64.wrap ((N:Int)*N)=M:=by
  rw[show ((N:Int)*N)=((N*N:Nat):Int) by push_cast;rfl,<-hM]
  simp[Ap,Aq,Am];omega
 have hM2:M<=4096:=by omega
 have j6:¬(N:Int)<1:=by omega
 have ii:¬(64:Int)<N:=by omega
 have HMM:=Af hM;clear hM qq h h1 h2;go_enter Tryz.func61,Tryz.ntmps61
 go_wp2_with (go_at_call 108;refine(gL0 _ _).mono ?_;rintro e w1 ⟨rfl,rfl⟩)
 go_loopw [6] (λi wx=>∃(k:Nat) (v:Value),k<=M/\i=.int .i64 k/\wx.cell? ⟨w.heap.size,0,none⟩=some (.int .i64 N)/\wx.cell? ⟨w.heap.size,1,none⟩=some (.int .i64 d)/\wx.cell? ⟨w.heap.size,2,none⟩=some v/\wx.frozen? ⟨w.heap.size,2,none⟩=false/\aO wx (w.heap.size+1) 3 1 eQ1 v (Ac k d)/\w.heap.size+1<=wx.heap.size/\aB w wx) (λi _=>M-(intOf i).toNat)
 case atStart=>exact⟨0,.slice none 0 0,At _,rfl,aX _ _ _ _ 0 _ rfl,aX _ _ _ _ 1 _ rfl,aX _ _ _ _ 2 _ rfl,frozen_of_row _ _ _ _ _ (heap_alloc_new w _),aO.nil _ _ _ _ _,by simp,aB.alloc _ _⟩
 case round =>
  obtain⟨k,v,hk,rfl,c0,c1,c2,f2,ae,dm,hg⟩:=hrel;by_cases af:k<M
  ·obtain⟨av,cv,rfl,lf,ji,_⟩:=ae.at_ wA0.len
   have xn:∀(j:Nat),some (⟨w.heap.size,j,none⟩:Addr).block≠(Value.slice av (Ac k d).length cv).ownBlock:=λj e=>by
    have:=bF ae _ e.symm
    simp only at this;omega
   rw[Ad]at ae xn c2 lf;have HB:=Af xn;clear xn;go_wp2_with (at_builtin;refine nM0 wA0 rfl _ _ rfl (w.heap.size+1) _ (Ac k d) d rfl ae (aB.refl _) _ 1 rfl _ rfl rfl (by rw[Ad];omega) dm ?_;intro v5 w5 ai bg aj1;obtain⟨a5,c5,rfl,_,_,_⟩:=ai.at_ wA0.len;have e0:=bB bg ((aB.alloc _ _).cell c0) (HB.out 0);have e1:=bB bg ((aB.alloc _ _).cell c1) (HB.out 1);have e2:=bB bg ((aB.alloc _ _).cell c2) (HB.out 2);have ef:=(lB bg (p:=⟨w.heap.size,2,none⟩) (by simp;omega) (HB.out 2)).trans (((aB.alloc wr (.cells #[.int .i64 d] 3)).froz (p:=⟨w.heap.size,2,none⟩) (by simp;omega)).trans f2))
   go_roundw
   case rel =>
    have ahz:Ac k d++[d]=Ac (k+1) d:=by rw[List.replicate_succ']
    rw[ahz]at ai;rw[Ad]at ai;have fh:aB w w5:=(hg.al (.cells #[.int .i64 d] 3)).grown bg (λq hq=>by have:=bF ae q hq;omega);have hs5:=bg.size;refine⟨k+1,_,af,by go_num,?_,?_,World.cell?_setCell_same _ _ _ e2,?_,ownsRow_setCell_below ai (Nat.lt_succ_self _) _,?_,?_⟩
    ·rw[Aa _ _ _ _ (by simp)];exact e0
    ·rw[Aa _ _ _ _ (by simp)];exact e1
    ·rw[World.frozen?_setCell];exact ef
    ·simp at hs5 ⊢;omega
    ·exact fh.set (Au _) _
   case measure=>simp[intOf];omega
  ·obtain rfl:k=M:=by omega
   go_wp2_with fail
   go_ret;exact⟨rfl,⟨HOK.out,c0,c1,v,c2,by rw[HMM.out]at ae;exact ae⟩,hg⟩
theorem rN0 (w:World) (rb:Nat) (m:Mx) (h:iQ w rb m) (r l c:Int) (hb:m.setB (r,l) c=true):Calls Tryz.prog 109 #[.pointer (some ⟨rb,0,none⟩),.int .i64 r,.int .i64 l,.int .i64 c] w λe w'=>e=.returned (.bool true)/\iQ w' rb (m.set (r,l) c)/\∃g,rb<g/\w.grownBy w' (some g)/\∃c0,w.cell? ⟨g,0,none⟩=some (.int .i64 c0):=by
 have fp:=hb;simp only[Mx.setB,Ae]at fp;have hC:isC c=true:=fp.2;have hp:=fp.1;have ii:=h.ok.n2;have c0:=h.c0;obtain⟨g,cap,c2,fx,hgl,cj,hfr,xo⟩:=h.costs;have j9:=λW hW=>xo W hW (r,l) c hb;obtain⟨⟨q1,q2⟩,q3,q4⟩:=lJ.1 hp;have af:=sC hp;have ay:m.cs.length=m.n*m.n:=h.ok.len;obtain⟨u,hu⟩:∃u,m.cs[at2 m.n (r,l)]?=some u:=⟨_,Ai (by rw[ay];exact af)⟩;have xq:=cj _ _ hu;have xu:=hfr (at2 m.n (r,l));obtain⟨R,rfl⟩:∃R:Nat,r=R:=⟨r.toNat,by simp only at q1;omega⟩;obtain⟨L,rfl⟩:∃L:Nat,l=L:=⟨l.toNat,by simp only at q3;omega⟩;have ah:at2 m.n ((R:Int),(L:Int))=R*m.n+L:=rfl;rw[ah]at xq af xu j9;have qq:m.n*m.n<=4096:=Aj ii ii;obtain⟨RN,hRN⟩:=exq (R*m.n);rw[<-hRN]at xq af xu j9
 have wRN:IntKind.i64.wrap ((R:Int)*m.n)=RN:=by
  rw[show ((R:Int)*m.n)=((R*m.n:Nat):Int) by push_cast;rfl,<-hRN]
  simp[Ap,Aq,Am];omega
 have wI:IntKind.i64.wrap ((RN:Int)+L)=(RN+L:Nat):=by
  rw[show ((RN:Int)+L)=((RN+L:Nat):Int) by push_cast;rfl]
  simp only[Ap,Aq,Am];simp;omega
 obtain⟨I,hI⟩:=exq (RN+L);rw[<-hI]at wI xq af xu j9;rw[<-ay]at af;have hq1:¬(R:Int)<0:=by omega
 have b9:¬(m.n:Int)<=R:=by simp only at q2;omega
 have dp:¬(L:Int)<0:=by omega
 have hq4:¬(m.n:Int)<=L:=by simp only at q4;omega
 have qy:m.cs.length<=4096:=by omega
 have HP:=Af j9
 have HC0:Hid (∃c0,w.cell? ⟨g,0,none⟩=some (.int .i64 c0)):=by
  have h9:0<m.cs.length:=by omega
  exact⟨_,cj 0 _ (Ai h9)⟩
 generalize m.cs.length=N2 at *;clear j9 xo cj hfr hb hp h hu ah ay qq hRN hI q1 q2 q3 q4 fp;go_enter Tryz.func109,Tryz.ntmps109
 go_wp2_with (first|(go_at_call 108;refine(gL0 _ _).mono ?_;rintro e w1 ⟨rfl,rfl⟩))
 have z0:∀x:Ext aB w.drew,x.u.cell? ⟨rb,0,none⟩=some (.int .i64 m.n):=aG ((aB.drew w).cell c0);have z2:∀x:Ext aB w.drew,x.u.cell? ⟨rb,2,none⟩=some (.slice (some ⟨g,0,none⟩) N2 cap):=aG ((aB.drew w).cell c2);refine jD1 aB 14 (aT 14 []) aB.refl aB.trans (by kernel_rfl) (by kernel_rfl) (λd _ _ _ _ h=>by cases d<;>exact h) ?_
 iterate 14 (refine cQ rfl (λK hK=>?_);go_simp;refine hK _ ?_;clear hK K)
 refine sG (λw4 h4=>?_);simp only[Ah,Al];have cd:=(aB.drew w).tr h4;have d0:=cd.cell xq;have df:=(cd.froz (p:=⟨g,I,none⟩) hgl).trans xu;clear z0 z2;go_wp2_with fail
 go_ret;exact⟨rfl,HP.out w4 cd,g,fx,cd.grownBy_set g I _,HC0.out⟩
end
end Go.Proofs.YtiopheoljccmpaaGreatDoor
