/- The texts NumA Num Read Parse NumM ParM, one behind the other. -/
import Derived.Test.YthgklnohcmaopaaGreatDoorTq17
import Derived.Test.YthgklnohcmaopaaGreatDoorTq6
import Derived.Test.YthgklnohcmaopaaGreatDoorTq3
import Derived.Lib.AtoiErrMem
import Derived.Test.YthgklnohcmaopaaGreatDoorTq7
import Derived.Test.YthgklnohcmaopaaGreatDoorTq2
import Derived.Test.YthgklnohcmaopaaGreatDoorTq1
import Derived.Maps.AppendAt
import Derived.Test.YthgklnohcmaopaaGreatDoorTq12
open Nat renaming le_refl → Aa,lt_of_lt_of_le → Ab,zero_le → An
open Go.Lib renaming hid → Ac,toList_data → Ae,size_eq → Af,bytesWorld_below → Aj
open ByteArray renaming empty → Ad
open Bool renaming and_eq_true → Ag,eq_iff_iff → Ai,false_eq_true → Ak,not_eq_true' → Al,true_and → Am
open Go.World renaming size_alloc → Ah
set_option maxHeartbeats 4000000
namespace Go.Proofs.YthgklnohcmaopaaGreatDoor
set_option maxRecDepth 100000
section
open Go Go.RowKit Go.Shelf
attribute [local go_sem] aK
theorem aR1:(Tryz.prog.info? 329).map (λi=>(i.zero,i.size))=some (some (.agg (Array.replicate 256 (.bool false))),256):=by kernel_rfl
theorem kR0 (s:ByteArray) (w:World) (hs:s.size<=9223372036854775807) :
  Calls Tryz.prog 202 #[.string s,.string uH0] w λe w'=>e=.returned (.string ⟨(Lib.trimS s.data.toList uH0.data.toList).toArray⟩)/\aB w w' :=
 Any.strings_Trim_laid Tryz.laysTrim aR1 s uH0 w hs (by decide) mW0
def numV (s:ByteArray):Int:=if numOK s.data.toList then (decVal s.data.toList:Int) else 0
theorem gK (s:ByteArray):s.toList.isEmpty=s.data.toList.isEmpty:=by rw[Ae]
theorem vM0 (s:ByteArray) (w:World) (aq:numOK s.data.toList=true) :
  Calls Tryz.prog 203 #[.string s] w λe w'=>e=.returned (.tuple #[.int .i64 (decVal s.data.toList),.nilIface])/\aB w w':=by
 simp only[numOK,Ag,Al,decide_eq_true_eq]at aq;obtain⟨⟨⟨h1,h2⟩,_⟩,h4⟩:=aq;have ai:s.data.toList≠[]:=by intro h;rw[h]at h1;simp at h1
 refine(Tryz.strconv_Atoi_ok s (by rw[Af];omega) _ (kD0 _ ai h4 h2) w).mono ?_;rintro e w' ⟨rfl,rfl|⟨t,rfl⟩⟩
 ·exact⟨rfl,aB.refl _⟩
 ·exact⟨rfl,Aj _ _ _⟩
theorem mA0 (s:ByteArray) (w:World) (hs:s.size<9223372036854775807) :
  Calls Tryz.prog 205 #[.string s] w λe w'=>e=.returned (.tuple #[.int .i64 (numV s),.bool (numOK s.data.toList)])/\aB w w':=by
 have T:∀W,∃tr:ByteArray,tr.toList.isEmpty=s.data.toList.all fC/\Calls Tryz.prog 202 #[.string s,.string ⟨#[48,49,50,51,52,53,54,55,56,57]⟩] W λe w'=>e=.returned (.string tr)/\aB W w':=λW=>by
  refine⟨_,?_,kR0 s W (by omega)⟩;rw[Ae,Ai,<-cZ0];simp
 cases he:s.toList.isEmpty
 ·by_cases h9:s.size<=9
  ·have ai:s.data.toList.isEmpty=false:=by rw[<-gK];exact he
   have b9:0<s.size:=by
    rw[Af];cases hh:s.data.toList with
    | nil=>rw[hh]at ai;simp at ai
    | cons _ _=>simp
   have h9':(s.size:Int)<=9:=by omega
   have hhd:s.data.toList.head?=some s[0]:=by
    rw[List.head?_eq_getElem?,Array.getElem?_toList];exact Array.getElem?_eq_getElem (by exact b9)
   have hN:numOK s.data.toList=(!(s[0]==48 && !(s.data.toList==[48]))&&s.data.toList.all fC):=by
    unfold numOK;rw[ai,hhd,<-Af];simp[h9]
   by_cases hz:(s[0].toNat:Int)=48/\¬s.toList=[48]
   ·obtain⟨hz1,f9⟩:=hz
    have hn:numOK s.data.toList=false:=by
     have:s[0]=48:=by rw[<-UInt8.toNat_inj];simp;omega
     rw[hN,this];rw[Ae]at f9;simp[f9]
    unfold numV;rw[hn];clear hn hN hhd ai T h9;go_enter Tryz.func205,Tryz.ntmps205
    go_wp2_with fail
    go_ret2;exact⟨rfl,aB.refl _⟩
   ·have hb:(s[0]==48 && !(s.data.toList==[48]))=false:=by
     rw[Ae]at hz;cases h:(s[0]==48 && !(s.data.toList==[48]))
     ·rfl
     ·exfalso;apply hz
      simp at h;exact⟨by rw[h.1];rfl,h.2⟩
    rw[hb]at hN;simp only[Bool.not_false,Am]at hN;rw[<-hN]at T;obtain⟨tr,pq,hT⟩:=T w;have HT:=Ac hT;have HZ:=Ac hz;clear T hT hb hz hhd ai hN h9;cases aq:numOK s.data.toList
    ·rw[aq]at pq
     have h1:(!tr.toList.isEmpty)=true:=by rw[pq];rfl
     unfold numV;rw[aq];have HO:=Ac aq;clear aq;by_cases hc:(s[0].toNat:Int)=48
     ·have hl:s.toList=[48]:=Decidable.byContradiction λh=>HZ.out ⟨hc,h⟩
      go_enter Tryz.func205,Tryz.ntmps205
      go_wp2_with (first|(go_at_call 202;refine HT.out.mono ?_;rintro e w1 ⟨rfl,hg⟩))
      go_ret2;exact⟨rfl,hg⟩
     ·go_enter Tryz.func205,Tryz.ntmps205
      go_wp2_with (first|(go_at_call 202;refine HT.out.mono ?_;rintro e w1 ⟨rfl,hg⟩))
      go_ret2;exact⟨rfl,hg⟩
    ·rw[aq]at pq
     have A:=λW=>Ac (vM0 s W aq);have hv:numV s=decVal s.data.toList:=by unfold numV;rw[aq];rfl
     rw[hv];generalize (decVal s.data.toList:Int)=v at A ⊢;clear aq hv;by_cases hc:(s[0].toNat:Int)=48
     ·have hl:s.toList=[48]:=Decidable.byContradiction λh=>HZ.out ⟨hc,h⟩
      go_enter Tryz.func205,Tryz.ntmps205
      go_wp2_with (first|(go_at_call 202;refine HT.out.mono ?_;rintro e w1 ⟨rfl,hg⟩)|(go_at_call 203;refine(A _).out.mono ?_;rintro e w2 ⟨rfl,af⟩))
      refine fU aB (bB 5 []) aB.refl aB.trans (by kernel_rfl) (by kernel_rfl) (λd _ _ _ _ h=>by cases d<;>exact h) ?_
      repeat (refine fT rfl (λK hK=>?_);go_simp;first|(refine hK _ ?_;clear hK K)|(apply Exists.intro;refine⟨λx=>?_,hK _ ?_⟩;(fail);clear hK K))
      refine kN (λw3 h3=>?_);go_wp2
      go_ret2;exact⟨rfl,(hg.tr af).tr ((aB.drew _).tr h3)⟩
     ·go_enter Tryz.func205,Tryz.ntmps205
      go_wp2_with (first|(go_at_call 202;refine HT.out.mono ?_;rintro e w1 ⟨rfl,hg⟩)|(go_at_call 203;refine(A _).out.mono ?_;rintro e w2 ⟨rfl,af⟩))
      refine fU aB (bB 5 []) aB.refl aB.trans (by kernel_rfl) (by kernel_rfl) (λd _ _ _ _ h=>by cases d<;>exact h) ?_
      repeat (refine fT rfl (λK hK=>?_);go_simp;first|(refine hK _ ?_;clear hK K)|(apply Exists.intro;refine⟨λx=>?_,hK _ ?_⟩;(fail);clear hK K))
      refine kN (λw3 h3=>?_);go_wp2
      go_ret2;exact⟨rfl,(hg.tr af).tr ((aB.drew _).tr h3)⟩
  ·have hz:(9:Int)<s.size:=by omega
   have hn:numOK s.data.toList=false:=by unfold numOK;rw[<-Af];simp[h9]
   unfold numV;rw[hn];clear hn T h9;go_enter Tryz.func205,Tryz.ntmps205
   go_wp2
   go_ret2;exact⟨rfl,aB.refl _⟩
 ·have hn:numOK s.data.toList=false:=by unfold numOK;rw[gK]at he;simp[he]
  unfold numV;rw[hn];clear hn T;go_enter Tryz.func205,Tryz.ntmps205
  go_wp2
  go_ret2;exact⟨rfl,aB.refl _⟩
def readS (bj:ByteArray) (l:List bD):En×Int :=
 match splitS 9 bj with
 | [r,s,a,b,c] =>
  if numOK c.data.toList then
   (let no:=checkS r s (idxI (posFind l a)) (idxI (posFind l b)) (numV c) l.length
    if no=0 then (⟨r,s,idxI (posFind l a),idxI (posFind l b),numV c⟩,0) else (eK,no))
  else (eK,5)
 | _=>(eK,5)
theorem mC0 (bj:ByteArray) (l:List bD) (a:Option Addr) (cap:Nat) (w:World) (hs:bj.size<4294967281) (he:Env w) (h5:(splitS 9 bj).length≠5) :
  Calls Tryz.prog 142 #[.string bj,.slice a l.length cap] w λe w'=>e=.returned (.tuple #[.agg #[.string Ad,.string Ad,.int .i64 0,.int .i64 0,.int .i64 0],.int .i64 5])/\aB w w':=by
 have CS:=λW hW=>Ac (mV 9 bj W hs (he.grows hW));have h5':((splitS 9 bj).length:Int)≠5:=by omega
 have hb:(((splitS 9 bj).length:Int) != 5)=true:=by simpa using h5'
 generalize splitS 9 bj=ws at *;clear h5 h5';go_enter Tryz.func142,Tryz.ntmps142
 go_wp2_with (first|(go_at_call 141;refine(CS _ (aB.alloc _ _)).out.mono ?_;rintro e w1 ⟨rfl,ac,hg⟩;rw[Ah]at ac;obtain⟨bc,bf⟩:=mM hg;have b0:w1.cell? ⟨w.heap.size,0,none⟩=some (.string ⟨#[]⟩):=bc 0 _ rfl;have b1:w1.cell? ⟨w.heap.size,1,none⟩=some (.string ⟨#[]⟩):=bc 1 _ rfl;have b2:w1.cell? ⟨w.heap.size,2,none⟩=some (.int .i64 0):=bc 2 _ rfl;have b3:w1.cell? ⟨w.heap.size,3,none⟩=some (.int .i64 0):=bc 3 _ rfl;have b4:w1.cell? ⟨w.heap.size,4,none⟩=some (.int .i64 0):=bc 4 _ rfl;clear bc;have aj:=(aB.alloc _ _).tr hg))
 refine bodyPost_ret (v:=.tuple #[.agg #[.string Ad,.string Ad,.int .i64 0,.int .i64 0,.int .i64 0],.int .i64 5]) (by simp[results,Tryz.results142,go_sem,b0,b1,b2,b3,b4];rfl) rfl ⟨rfl,?_⟩
 exact((((aj.set (Aa _) _).set (Aa _) _).set (Aa _) _).set (Aa _) _).set (Aa _) _
theorem iH0 {w:World} {b:Nat} {xs:List ByteArray} (h:aF w (some ⟨b,0,none⟩) 1 (xs.map iG0)) (ai:xs≠[]) (j:Nat) (x:ByteArray) (hj:xs[j]?=some x):w.cell? ⟨b,j,none⟩=some (.string x):=by
 obtain⟨b',off,ha,hc⟩:=h.get ai;simp only[Option.some.injEq,Addr.mk.injEq,and_true]at ha;obtain⟨rfl,rfl⟩:=ha
 have:=hc j x hj 0 _ rfl
 simpa using this
structure vH (w w6 wr:World) (EB:Nat) (v2 v3:Int):Prop where
 g:aB w wr
 sz:w6.heap.size<=wr.heap.size
 lt:EB<w6.heap.size
 ge:w.heap.size<=EB
 same:∀b j,b<w6.heap.size->b≠EB->wr.cell? ⟨b,j,none⟩=w6.cell? ⟨b,j,none⟩
 e0:wr.cell? ⟨EB,0,none⟩=w6.cell? ⟨EB,0,none⟩
 e1:wr.cell? ⟨EB,1,none⟩=w6.cell? ⟨EB,1,none⟩
 e2:wr.cell? ⟨EB,2,none⟩=some (.int .i64 v2)
 e3:wr.cell? ⟨EB,3,none⟩=some (.int .i64 v3)
 e4:wr.cell? ⟨EB,4,none⟩=w6.cell? ⟨EB,4,none⟩
 fr:∀b j,b<w6.heap.size->wr.frozen? ⟨b,j,none⟩=w6.frozen? ⟨b,j,none⟩
theorem vH.grow {w w6 wr wr':World} {EB:Nat} {v2 v3:Int} (h:vH w w6 wr EB v2 v3) (hg:aB wr wr'):vH w w6 wr' EB v2 v3 where
 g:=h.g.tr hg
 sz:=Nat.le_trans h.sz hg.size
 lt:=h.lt
 ge:=h.ge
 same b j hb ai:=(hg.cl j (Ab hb h.sz)).trans (h.same b j hb ai)
 e0:=(hg.cl 0 (Ab h.lt h.sz)).trans h.e0
 e1:=(hg.cl 1 (Ab h.lt h.sz)).trans h.e1
 e2:=(hg.cl 2 (Ab h.lt h.sz)).trans h.e2
 e3:=(hg.cl 3 (Ab h.lt h.sz)).trans h.e3
 e4:=(hg.cl 4 (Ab h.lt h.sz)).trans h.e4
 fr b j hb:=(hg.fz j (Ab hb h.sz)).trans (h.fr b j hb)
theorem vH.set2 {w w6 wr:World} {EB:Nat} {v2 v3:Int} (h:vH w w6 wr EB v2 v3) (v:Int):vH w w6 (wr.setCell ⟨EB,2,none⟩ (.int .i64 v)) EB v v3 where
 g:=h.g.set h.ge _
 sz:=by rw[cJ0];exact h.sz
 lt:=h.lt
 ge:=h.ge
 same b j hb ai:=(aT _ (.inl ai)).trans (h.same b j hb ai)
 e0:=(aT _ (by simp)).trans h.e0
 e1:=(aT _ (by simp)).trans h.e1
 e2:=kV _ h.e2
 e3:=(aT _ (by simp)).trans h.e3
 e4:=(aT _ (by simp)).trans h.e4
 fr b j hb:=(aP0 _ _ _ _).trans (h.fr b j hb)
theorem vH.set3 {w w6 wr:World} {EB:Nat} {v2 v3:Int} (h:vH w w6 wr EB v2 v3) (v:Int):vH w w6 (wr.setCell ⟨EB,3,none⟩ (.int .i64 v)) EB v2 v where
 g:=h.g.set h.ge _
 sz:=by rw[cJ0];exact h.sz
 lt:=h.lt
 ge:=h.ge
 same b j hb ai:=(aT _ (.inl ai)).trans (h.same b j hb ai)
 e0:=(aT _ (by simp)).trans h.e0
 e1:=(aT _ (by simp)).trans h.e1
 e2:=(aT _ (by simp)).trans h.e2
 e3:=kV _ h.e3
 e4:=(aT _ (by simp)).trans h.e4
 fr b j hb:=(aP0 _ _ _ _).trans (h.fr b j hb)
theorem qL0 (bj r s a b c:ByteArray) (l:List bD) (la:Option Addr) (cap:Nat) (w:World) (hs:bj.size<4294967281) (hl:l.length<=4611686018427387904) (he:Env w) (ace:aF w la 2 (l.map bH)) (h5:splitS 9 bj=[r,s,a,b,c]) :
  Calls Tryz.prog 142 #[.string bj,.slice la l.length cap] w λe w'=>e=.returned (.tuple #[.agg #[.string (readS bj l).1.r,.string (readS bj l).1.s,.int .i64 (readS bj l).1.l,.int .i64 (readS bj l).1.t,.int .i64 (readS bj l).1.c],.int .i64 (readS bj l).2])/\aB w w':=by
 have CS:=λW hW=>Ac (mV 9 bj W hs (he.grows hW));rw[h5]at CS;have cw:∀x,x∈[r,s,a,b,c]->x.size<9223372036854775807:=λx hx=>by have:=iY (c:=9) (s:=bj) (x:=x) (by rw[h5];exact hx);omega
 have CN:=λW=>Ac (mA0 c W (cw c (by simp)))
 have hR:readS bj l=if numOK c.data.toList then (let no:=checkS r s (idxI (posFind l a)) (idxI (posFind l b)) (numV c) l.length
    if no=0 then (⟨r,s,idxI (posFind l a),idxI (posFind l b),numV c⟩,0) else (eK,no)) else (eK,5):=by unfold readS;rw[h5]
 generalize readS bj l=RR at hR ⊢;have HR:=Ac hR;clear hR h5 hs;generalize numOK c.data.toList=ok at *;generalize numV c=nv at *;cases ok
 ·have bu:=HR.out
  simp only[Ak,if_false]at bu;subst bu;go_enter Tryz.func142,Tryz.ntmps142
  go_wp2_with (first|(go_at_call 141;refine(CS _ (aB.alloc _ _)).out.mono ?_;rintro e w1 ⟨rfl,ac,hg⟩;rw[Ah]at ac;obtain⟨bc,bf⟩:=mM hg;have b0:w1.cell? ⟨w.heap.size,0,none⟩=some (.string ⟨#[]⟩):=bc 0 _ rfl;have b1:w1.cell? ⟨w.heap.size,1,none⟩=some (.string ⟨#[]⟩):=bc 1 _ rfl;have b2:w1.cell? ⟨w.heap.size,2,none⟩=some (.int .i64 0):=bc 2 _ rfl;have b3:w1.cell? ⟨w.heap.size,3,none⟩=some (.int .i64 0):=bc 3 _ rfl;have b4:w1.cell? ⟨w.heap.size,4,none⟩=some (.int .i64 0):=bc 4 _ rfl;clear bc;have aj:=(aB.alloc _ _).tr hg;have d4:=iH0 ac (by simp) 4 c rfl;clear ac)|(go_at_call 205;refine(CN _).out.mono ?_;rintro e w2 ⟨rfl,af⟩;have dn:=aj.tr af;have e0:=af.cell b0;have e1:=af.cell b1;have e2:=af.cell b2;have e3:=af.cell b3;have e4:=af.cell b4;have bf2:∀j,w2.frozen? ⟨w.heap.size,j,none⟩=false:=λj=>(af.froz (by exact Ab (by simp) hg.size)).trans (bf j)))
  refine bodyPost_ret (v:=.tuple #[.agg #[.string Ad,.string Ad,.int .i64 0,.int .i64 0,.int .i64 0],.int .i64 5]) (by simp[results,Tryz.results142,go_sem,e0,e1,e2,e3,e4];rfl) rfl ⟨rfl,?_⟩
  exact((((dn.set (Aa _) _).set (Aa _) _).set (Aa _) _).set (Aa _) _).set (Aa _) _
 ·go_enter Tryz.func142,Tryz.ntmps142
  go_wp2_with (first|(go_at_call 141;refine(CS _ (aB.alloc _ _)).out.mono ?_;rintro e w1 ⟨rfl,ac,hg⟩;rw[Ah]at ac;obtain⟨bc,bf⟩:=mM hg;have b0:w1.cell? ⟨w.heap.size,0,none⟩=some (.string ⟨#[]⟩):=bc 0 _ rfl;have b1:w1.cell? ⟨w.heap.size,1,none⟩=some (.string ⟨#[]⟩):=bc 1 _ rfl;have b2:w1.cell? ⟨w.heap.size,2,none⟩=some (.int .i64 0):=bc 2 _ rfl;have b3:w1.cell? ⟨w.heap.size,3,none⟩=some (.int .i64 0):=bc 3 _ rfl;have b4:w1.cell? ⟨w.heap.size,4,none⟩=some (.int .i64 0):=bc 4 _ rfl;clear bc;have aj:=(aB.alloc _ _).tr hg;have d0:=iH0 ac (by simp) 0 r rfl;have d1:=iH0 ac (by simp) 1 s rfl;have d2:=iH0 ac (by simp) 2 a rfl;have d3:=iH0 ac (by simp) 3 b rfl;have d4:=iH0 ac (by simp) 4 c rfl;clear ac)|(go_at_call 205;refine(CN _).out.mono ?_;rintro e w2 ⟨rfl,af⟩;have dn:=aj.tr af;have e0:=af.cell b0;have e1:=af.cell b1;have e2:=af.cell b2;have e3:=af.cell b3;have e4:=af.cell b4;have f0:=af.cell d0;have f1:=af.cell d1;have f2:=af.cell d2;have f3:=af.cell d3;have bf2:∀j,w2.frozen? ⟨w.heap.size,j,none⟩=false:=λj=>(af.froz (by exact Ab (by simp) hg.size)).trans (bf j)))
  clear b0 b1 b2 b3 b4 d0 d1 d2 d3 d4 bf CS CN;have acf:w.heap.size+2<=w2.heap.size:=by have:=World.block_lt_of_cell? w2 _ f0;simp at this;omega
  have x0:=aG (w:=w2.drew) f0;have x1:=aG (w:=w2.drew) f1;refine fE aB 9 (bB 9 [8]) aB.refl aB.trans (by kernel_rfl) (by kernel_rfl) (λd _ _ _ _ h=>by cases d<;>exact h) ?_
  repeat (refine fT rfl (λK hK=>?_);go_simp;first|(refine hK _ ?_;clear hK K)|(apply Exists.intro;refine⟨λx=>?_,hK _ ?_⟩;(fail);clear hK K))
  clear x0 x1;refine fP rfl rfl (λK hK w3 h3=>?_);go_simp;refine⟨aB.alloc _ _,hK _ _ ?_⟩;clear hK K;refine kN (λw4 h4=>?_);simp only[List.drop_succ_cons,List.drop_zero];obtain⟨bc,ef⟩:=mM h4;have g0:w4.cell? ⟨w3.heap.size,0,none⟩=some (.string ⟨#[]⟩):=bc 0 _ rfl;have g1:w4.cell? ⟨w3.heap.size,1,none⟩=some (.string ⟨#[]⟩):=bc 1 _ rfl;have g2:w4.cell? ⟨w3.heap.size,2,none⟩=some (.int .i64 0):=bc 2 _ rfl;have g3:w4.cell? ⟨w3.heap.size,3,none⟩=some (.int .i64 0):=bc 3 _ rfl;have g4:w4.cell? ⟨w3.heap.size,4,none⟩=some (.int .i64 0):=bc 4 _ rfl;have ta:aB w2 w4:=((aB.drew w2).tr h3).tr ((aB.alloc _ _).tr h4);have hEB:w3.heap.size<w4.heap.size:=Ab (by simp) h4.size;have afh:w2.heap.size<=w3.heap.size:=h3.size;clear bc h3 h4;generalize w3.heap.size=EB at *;have aao:w.heap.size+1≠EB:=by omega
  have oq:w.heap.size≠EB:=by omega
  have afi:EB≠w4.heap.size:=by omega
  have i0:=ta.cell e0;have i1:=ta.cell e1;have i2:=ta.cell e2;have i3:=ta.cell e3;have i4:=ta.cell e4;have j2:=ta.cell f2;have j3:=ta.cell f3;have bf4:∀j,w4.frozen? ⟨w.heap.size,j,none⟩=false:=λj=>(ta.fz j (by omega)).trans (bf2 j);have di:=dn.tr ta;clear e0 e1 e2 e3 e4 f0 f1 f2 f3 bf2 af dn aj hg ta;go_wp2
  generalize ni:(((((w4.setCell ⟨EB,0,none⟩ (.string r)).setCell ⟨EB,1,none⟩ (.string s)).setCell ⟨EB,2,none⟩ (.int .i64 0)).setCell ⟨EB,3,none⟩ (.int .i64 0)).setCell ⟨EB,4,none⟩ (.int .i64 nv))=w5;obtain⟨⟨q0,q1,q2,q3,q4⟩,qo,qf,qs⟩:=oX0 _ _ _ _ _ g0 g1 g2 g3 g4 ni;have bk:aB w w5:=by rw[<-ni];exact((((di.set (by exact(by omega:w.heap.size<=EB)) _).set (by exact(by omega:w.heap.size<=EB)) _).set (by exact(by omega:w.heap.size<=EB)) _).set (by exact(by omega:w.heap.size<=EB)) _).set (by exact(by omega:w.heap.size<=EB)) _
  clear ni g0 g1 g2 g3 g4;have p0:(w5.alloc (.cells #[.pointer (some ⟨EB,2,none⟩),.pointer (some ⟨EB,3,none⟩)] 294)).cell? ⟨w4.heap.size,0,none⟩=some (.pointer (some ⟨EB,2,none⟩)):=by rw[<-qs];exact aM _ _ _ _ 0 _ rfl
  have p1:(w5.alloc (.cells #[.pointer (some ⟨EB,2,none⟩),.pointer (some ⟨EB,3,none⟩)] 294)).cell? ⟨w4.heap.size,1,none⟩=some (.pointer (some ⟨EB,3,none⟩)):=by rw[<-qs];exact aM _ _ _ _ 1 _ rfl
  generalize hW6:w5.alloc (.cells #[.pointer (some ⟨EB,2,none⟩),.pointer (some ⟨EB,3,none⟩)] 294)=w6 at *;have dd:aB w w6:=by rw[<-hW6];exact bk.al _
  have hs6:w6.heap.size=w4.heap.size+1:=by rw[<-hW6,Ah,qs]
  have mh:aB w5 w6:=by rw[<-hW6];exact aB.alloc _ _
  have f6:∀j,w6.frozen? ⟨EB,j,none⟩=false:=λj=>by rw[mh.fz j (by omega),qf];exact ef j
  have f0:∀j,w6.frozen? ⟨w.heap.size,j,none⟩=false:=λj=>by rw[mh.fz j (by omega),qf];exact bf4 j
  have m2:w6.cell? ⟨w.heap.size+1,2,none⟩=some (.string a):=mh.cell (by rw[qo _ _ aao];exact j2);have m3:w6.cell? ⟨w.heap.size+1,3,none⟩=some (.string b):=mh.cell (by rw[qo _ _ aao];exact j3);have n0:=mh.cell ((qo _ _ oq).trans i0);have n1:=mh.cell ((qo _ _ oq).trans i1);have n2:=mh.cell ((qo _ _ oq).trans i2);have n3:=mh.cell ((qo _ _ oq).trans i3);have n4:=mh.cell ((qo _ _ oq).trans i4);have r0:=mh.cell q0;have r1:=mh.cell q1;have r2:=mh.cell q2;have r3:=mh.cell q3;have r4:=mh.cell q4;have ahg:w.heap.size<EB:=by omega
  have t9:w.heap.size+1<EB:=by omega
  have az:EB<w4.heap.size:=hEB;clear q0 q1 q2 q3 q4 qo qf qs bk mh hW6 di bf4 i0 i1 i2 i3 i4 j2 j3 ef hEB afh acf oq aao afi;have INV:Hid (vH w w6 w6 EB 0 0):=⟨dd,Aa _,by omega,by omega,λ_ _ _ _=>rfl,rfl,rfl,r2,r3,rfl,λ_ _ _=>rfl⟩;clear r2 r3;go_loopw [43] (λi wr=>∃k:Nat,k<=2/\i=.int .i64 k/\vH w w6 wr EB (if k=0 then 0 else idxI (posFind l a)) (if k<=1 then 0 else idxI (posFind l b))) (λi _=>2-(intOf i).toNat)
  case atStart=>exact⟨0,by omega,rfl,INV.out⟩
  case round =>
   obtain⟨k,hk,rfl,ep⟩:=hrel
   match k,hk with
   | 0,_ =>
    simp only[if_true,An]at ep;have c0:wr.cell? ⟨w4.heap.size,0,none⟩=some (.pointer (some ⟨EB,2,none⟩)):=(ep.same _ _ (by omega) (by omega)).trans p0;have c1:wr.cell? ⟨w.heap.size+1,2,none⟩=some (.string a):=(ep.same _ _ (by omega) (by omega)).trans m2;have c2:wr.cell? ⟨EB,2,none⟩=some (.int .i64 0):=ep.e2;have c3:wr.frozen? ⟨EB,2,none⟩=false:=(ep.fr _ _ ep.lt).trans (f6 _);have mi:=ep.set2 (-1);have d5:=iV l a la cap _ hl (ace.grows mi.g);have HI:=Ac mi;have HA:Hid (idxI (posFind l a)=if (posFind l a).isSome then findI (posFind l a) else -1):=by unfold Hid;cases posFind l a<;>rfl
    clear ep mi;generalize findI (posFind l a)=fv at d5 HA;generalize (posFind l a).isSome=fb at d5 HA;have CON:=Ac d5;clear d5;cases fb
    ·go_wp2_with (first|(go_at_call 137;refine CON.out.mono ?_;rintro e w7 ⟨rfl,dx⟩))
     go_roundw
     case rel=>exact⟨1,by omega,rfl,by have h:=HI.out.grow dx;rw[HA.out];exact h⟩
     case measure=>simp[intOf]
    ·go_wp2_with (first|(go_at_call 137;refine CON.out.mono ?_;rintro e w7 ⟨rfl,dx⟩;have gv:=HI.out.grow dx;have d2:=gv.e2;have d3:w7.frozen? ⟨EB,2,none⟩=false:=(gv.fr _ _ gv.lt).trans (f6 _);have HJ:=Ac gv;clear gv))
     go_roundw
     case rel=>exact⟨1,by omega,rfl,by have h:=HJ.out.set2 fv;rw[HA.out];exact h⟩
     case measure=>simp[intOf]
   | 1,_ =>
    simp only[Nat.one_ne_zero,if_false,Aa,if_true]at ep;have c0:wr.cell? ⟨w4.heap.size,1,none⟩=some (.pointer (some ⟨EB,3,none⟩)):=(ep.same _ _ (by omega) (by omega)).trans p1;have c1:wr.cell? ⟨w.heap.size+1,3,none⟩=some (.string b):=(ep.same _ _ (by omega) (by omega)).trans m3;have c2:wr.cell? ⟨EB,3,none⟩=some (.int .i64 0):=ep.e3;have c3:wr.frozen? ⟨EB,3,none⟩=false:=(ep.fr _ _ ep.lt).trans (f6 _);have mi:=ep.set3 (-1);have d5:=iV l b la cap _ hl (ace.grows mi.g);have HI:=Ac mi;have HA:Hid (idxI (posFind l b)=if (posFind l b).isSome then findI (posFind l b) else -1):=by unfold Hid;cases posFind l b<;>rfl
    clear ep mi;generalize findI (posFind l b)=fv at d5 HA;generalize (posFind l b).isSome=fb at d5 HA;have CON:=Ac d5;clear d5;cases fb
    ·go_wp2_with (first|(go_at_call 137;refine CON.out.mono ?_;rintro e w7 ⟨rfl,dx⟩))
     go_roundw
     case rel=>exact⟨2,by omega,rfl,by have h:=HI.out.grow dx;rw[HA.out];exact h⟩
     case measure=>simp[intOf]
    ·go_wp2_with (first|(go_at_call 137;refine CON.out.mono ?_;rintro e w7 ⟨rfl,dx⟩;have gv:=HI.out.grow dx;have d2:=gv.e3;have d3:w7.frozen? ⟨EB,3,none⟩=false:=(gv.fr _ _ gv.lt).trans (f6 _);have HJ:=Ac gv;clear gv))
     go_roundw
     case rel=>exact⟨2,by omega,rfl,by have h:=HJ.out.set3 fv;rw[HA.out];exact h⟩
     case measure=>simp[intOf]
   | 2,_ =>
    simp only[show ¬(2:Nat)=0 by omega,show ¬(2:Nat)<=1 by omega,if_false]at ep
    have hc:=sA r s (idxI (posFind l a)) (idxI (posFind l b)) nv l.length wr (cw r (by simp)) (cw s (by simp)) (he.grows ep.g);have bu:=HR.out;simp only[if_true]at bu;have c2:=ep.e2;have c3:=ep.e3;have n0':=(ep.same _ 0 (by omega) (by omega)).trans n0;have n1':=(ep.same _ 1 (by omega) (by omega)).trans n1;have n2':=(ep.same _ 2 (by omega) (by omega)).trans n2;have n3':=(ep.same _ 3 (by omega) (by omega)).trans n3;have n4':=(ep.same _ 4 (by omega) (by omega)).trans n4;have hf0:∀j,wr.frozen? ⟨w.heap.size,j,none⟩=false:=λj=>(ep.fr _ j (by omega)).trans (f0 j);have hG:=ep.g;have ahh:EB<wr.heap.size:=Ab ep.lt ep.sz;generalize idxI (posFind l a)=A at *;generalize idxI (posFind l b)=B at *;have c0:=ep.e0.trans r0;have c1:=ep.e1.trans r1;have c4:=ep.e4.trans r4;clear ep INV HR n0 n1 n2 n3 n4 r0 r1 r4 f0 f6 m2 m3 p0 p1;generalize checkS r s A B nv l.length=no at *;have HC:=Ac hc;clear hc;have ahi:w.heap.size≠EB:=by omega
    by_cases iq:no=0
    ·subst iq
     simp only[if_true]at bu;subst bu;go_wp2_with (first|(go_at_call 88;refine HC.out.mono ?_;rintro e w8 ⟨rfl,dy⟩;have k0:=dy.cell c0;have k1:=dy.cell c1;have k2:=dy.cell c2;have k3:=dy.cell c3;have k4:=dy.cell c4;have z0:=dy.cell n0';have z1:=dy.cell n1';have z2:=dy.cell n2';have z3:=dy.cell n3';have z4:=dy.cell n4';have hf8:∀j,w8.frozen? ⟨w.heap.size,j,none⟩=false:=λj=>(dy.fz j (by omega)).trans (hf0 j)))
     have hG8:=hG.tr dy;refine bodyPost_ret (v:=.tuple #[.agg #[.string r,.string s,.int .i64 A,.int .i64 B,.int .i64 nv],.int .i64 0]) (by simp[results,Tryz.results142,go_sem,z0,z1,z2,z3,z4]) rfl ⟨rfl,?_⟩
     exact((((hG8.set (Aa _) _).set (Aa _) _).set (Aa _) _).set (Aa _) _).set (Aa _) _
    ·have hb:(no != 0)=true:=by simpa using iq
     simp only[if_neg iq]at bu;subst bu;go_wp2_with (first|(go_at_call 88;refine HC.out.mono ?_;rintro e w8 ⟨rfl,dy⟩;have z0:=dy.cell n0';have z1:=dy.cell n1';have z2:=dy.cell n2';have z3:=dy.cell n3';have z4:=dy.cell n4';have hf8:∀j,w8.frozen? ⟨w.heap.size,j,none⟩=false:=λj=>(dy.fz j (by omega)).trans (hf0 j)))
     have hG8:=hG.tr dy;refine bodyPost_ret (v:=.tuple #[.agg #[.string Ad,.string Ad,.int .i64 0,.int .i64 0,.int .i64 0],.int .i64 no]) (by simp[results,Tryz.results142,go_sem,z0,z1,z2,z3,z4];rfl) rfl ⟨rfl,?_⟩
     exact((((hG8.set (Aa _) _).set (Aa _) _).set (Aa _) _).set (Aa _) _).set (Aa _) _
theorem sC0 (bj:ByteArray) (l:List bD) (la:Option Addr) (cap:Nat) (w:World) (hs:bj.size<4294967281) (hl:l.length<=4611686018427387904) (he:Env w) (ac:aF w la 2 (l.map bH)) :
  Calls Tryz.prog 142 #[.string bj,.slice la l.length cap] w λe w'=>e=.returned (.tuple #[.agg #[.string (readS bj l).1.r,.string (readS bj l).1.s,.int .i64 (readS bj l).1.l,.int .i64 (readS bj l).1.t,.int .i64 (readS bj l).1.c],.int .i64 (readS bj l).2])/\aB w w':=by
 by_cases h5:∃r s a b c,splitS 9 bj=[r,s,a,b,c]
 ·obtain⟨r,s,a,b,c,h5⟩:=h5
  exact qL0 bj r s a b c l la cap w hs hl he ac h5
 ·have hr:readS bj l=(eK,5):=by
   unfold readS;split
   ·rename_i r s a b c h;exact absurd ⟨r,s,a,b,c,h⟩ h5
   ·rfl
  rw[hr];refine mC0 bj l la cap w hs he ?_;intro h
  match hh:splitS 9 bj,h with
  | [r,s,a,b,c],_=>exact h5 ⟨r,s,a,b,c,hh⟩
def oR (L:List bD) (s:ByteArray) (n:Nat):Int:=if (readS s L).2=0/\n=20000 then 2 else (readS s L).2
def cU (L:List bD):List ByteArray->Nat->List En->List En×Int×Int
 | [],_,out=>(out,0,0)
 | s::r,i,out =>
  if cF s then cU L r (i+1) out
  else if oR L s out.length≠0 then ([],(i:Int)+1,oR L s out.length)
  else cU L r (i+1) (out++[(readS s L).1])
theorem lP (L:List bD) (s:ByteArray) (r:List ByteArray) (i:Nat) (out:List En):cU L (s::r) i out=if cF s then cU L r (i+1) out
 else if oR L s out.length≠0 then ([],(i:Int)+1,oR L s out.length)
 else cU L r (i+1) (out++[(readS s L).1]):=rfl
def pK (text:ByteArray) (L:List bD):List En×Int×Int :=
 if aQ L then (if 1048576<text.size then ([],0,2) else cU L (splitS 10 text) 0 []) else ([],0,5)
theorem cG1:(Tryz.prog.info? 30).map (λi=>(i.zero,i.size,i.bytes))=some (some (.agg #[.string ⟨#[]⟩,.string ⟨#[]⟩,.int .i64 0,.int .i64 0,.int .i64 0]),5,56):=by kernel_rfl
theorem xW0 {w:World} {cs:Array Value} {t:TypeId} {n:Nat} (hn:n=w.heap.size):∀(j:Nat) (u:Value),cs.toList[j]?=some u->(w.alloc (.cells cs t)).cell? ((⟨n,0,none⟩:Addr).add j)=some u:=by
 intro j u hj;subst hn;have h:=aM w cs t (0,0) j u (by simpa using hj);unfold Addr.add;by_cases h0:j=0
 ·subst h0;simpa using h
 ·rw[if_neg h0];simpa using h
def bB1 (w:World) (res:List En×Int×Int) (e:Ending) (w':World):Prop :=
 ∃v,e=.returned (.tuple #[v,.int .i64 res.2.1,.int .i64 res.2.2])/\w'.ownsRow w.heap.size 30 5 v res.1.length (res.1.flatMap aZ)/\aB w w'
theorem parse_any (text:ByteArray) (L:List bD) (la:Option Addr) (cap:Nat) (w:World) (hs:text.size<9223372036854775807) (hl:L.length<=4611686018427387904) (he:Env w) (ac:aF w la 2 (L.map bH)) :
  Calls Tryz.prog 75 #[.string text,.slice la L.length cap] w (bB1 w (pK text L)):=by
 have CC:=Ac (iX L la cap w ac hl);have HAT:=Ac ac;clear ac;cases hv:aQ L
 ·have hp:pK text L=([],0,5):=by unfold pK;rw[hv];rfl
  rw[hp];rw[hv]at CC;clear hp hv;go_enter Tryz.func75,Tryz.ntmps75
  go_wp2_with (first|(go_at_call 83;refine CC.out.mono ?_;rintro e w1 ⟨rfl,aj⟩))
  go_ret3;exact⟨_,rfl,iM _ _ _ _,aj⟩
 ·by_cases cr:1048576<text.size
  ·have hp:pK text L=([],0,2):=by unfold pK;rw[hv,if_pos rfl,if_pos cr]
   have hb:(1048576:Int)<text.size:=by omega
   rw[hp];rw[hv]at CC;clear hp hv;go_enter Tryz.func75,Tryz.ntmps75
   go_wp2_with (first|(go_at_call 83;refine CC.out.mono ?_;rintro e w1 ⟨rfl,aj⟩))
   go_ret3;exact⟨_,rfl,iM _ _ _ _,aj⟩
  ·have hp:pK text L=cU L (splitS 10 text) 0 []:=by unfold pK;rw[hv,if_pos rfl,if_neg cr]
   have hb:(text.size:Int)<=1048576:=by omega
   rw[hp];rw[hv]at CC;have CS:=λW hW=>Ac (mV 10 text W (by omega) (he.grows hW));have cw:∀x,x∈splitS 10 text->x.size<4294967281:=λx hx=>by have:=iY hx;omega
   have an:(splitS 10 text).length<=4294967290:=by
    have h1:(splitS 10 text).length=Lib.countB text ⟨#[10]⟩+1:=Lib.splitB_all ⟨#[10]⟩ (Aa 1) 0 _ text rfl;have h2:=Lib.countB_le ⟨#[10]⟩ (Aa 1) text.size text (Aa _);omega
   clear hp hv cr;generalize splitS 10 text=ls at *;go_enter Tryz.func75,Tryz.ntmps75
   go_wp2_with (first|(go_at_call 83;refine CC.out.mono ?_;rintro e w1 ⟨rfl,aj⟩)|(go_at_call 141;refine(CS _ aj).out.mono ?_;rintro e w2 ⟨rfl,pv,af⟩))
   have dn:=aj.tr af;generalize w1.heap.size=SB at *;go_loopw [24,8] (λi v wr=>∃(k:Nat) (out:List En),k<=ls.length/\i=.int .i64 k/\wr.ownsRow w2.heap.size 30 5 v out.length (out.flatMap aZ)/\Hid (cU L ls 0 []=cU L (ls.drop k) k out)/\out.length<=20000/\aB w wr/\aB w2 wr) (λi _ _=>ls.length-(intOf i).toNat)
   case atStart=>exact⟨0,[],An _,rfl,iM _ _ _ _,rfl,by simp,dn,aB.refl _⟩
   case round =>
    obtain⟨k,out,hk,rfl,aa,iy,xm,dw,qy⟩:=hrel;by_cases ae:k<ls.length
    ·obtain⟨s,nj⟩:∃s,ls[k]?=some s:=⟨_,List.getElem?_eq_getElem ae⟩
     have cz:s∈ls:=List.mem_of_getElem? nj;have hss:=cw s cz
     have cm:ls.drop k=s::ls.drop (k+1):=by
      rw[List.drop_eq_getElem_cons ae]
      have:ls[k]=s:=(List.getElem?_eq_some_iff.1 nj).2
      rw[this]
     have c0:wr.cell? ⟨SB,k,none⟩=some (.string s):=qy.cell (iH0 pv (aH ae) k s nj);have qz:=iy.out;rw[cm,lP]at qz;have HP:=Ac qz;clear iy qz cm nj cz;obtain⟨a8,c8,rfl,ix,hc2,_⟩:=qZ gF aa;by_cases ot:s.toList=[]
     ·have ct:cU L ls 0 []=cU L (ls.drop (k+1)) (k+1) out:=by rw[HP.out,rI ot];rfl
      have HP2:=Ac ct;clear HP ct;go_wp2
      go_roundw
      case rel=>exact⟨k+1,out,by omega,by go_num,aa,HP2.out,xm,dw,qy⟩
      case measure=>simp[intOf];omega
     ·have b9:=kR ot
      have acg:s.toList.isEmpty=false:=by simpa using ot
      by_cases jb:(s[0].toNat:Int)=35
      ·have ct:cU L ls 0 []=cU L (ls.drop (k+1)) (k+1) out:=by rw[HP.out,vM b9 jb];rfl
       have HP2:=Ac ct;clear HP ct;go_wp2
       go_roundw
       case rel=>exact⟨k+1,out,by omega,by go_num,aa,HP2.out,xm,dw,qy⟩
       case measure=>simp[intOf];omega
      ·have ach:((s[0].toNat:Int)==35)=false:=by simpa using jb
       have ct:=HP.out;rw[cI0 b9 jb]at ct;simp only[Ak,if_false]at ct;have CR:=sC0 s L la cap wr hss hl (he.grows dw) (HAT.out.grows dw);unfold oR at ct;generalize readS s L=xr at ct CR;obtain⟨x,er⟩:=xr;simp only[]at ct CR;have HCR:=Ac CR;have HP2:=Ac ct;clear HP ct CR jb ot;by_cases hz:er=0
       ·subst hz
        by_cases k9:out.length=20000
        ·have je:cU L ls 0 []=([],(k:Int)+1,2):=by rw[HP2.out];simp[k9]
         have HP3:=Ac je;have hfb:((out.length:Int)==20000)=true:=by simp[k9]
         clear HP2 je k9;go_wp2_with (first|(go_at_call 142;refine HCR.out.mono ?_;rintro e w3 ⟨rfl,bg⟩))
         go_ret3;rw[HP3.out];exact⟨_,rfl,iM _ _ _ _,(dw.tr bg).al _⟩
        ·have je:cU L ls 0 []=cU L (ls.drop (k+1)) (k+1) (out++[x]):=by
          rw[HP2.out];simp[k9]
         have HP3:=Ac je;have hfb:((out.length:Int)==20000)=false:=by simp;omega
         have ahj:out.length+1<=20000:=by omega
         clear HP2 je k9;obtain⟨i0,hi,ka,hz1,f9⟩:=info_parts cG1;go_wp2_with (first|(go_at_call 142;refine HCR.out.mono ?_;rintro e w3 ⟨rfl,bg⟩)|(at_builtin;refine wpList_append_own _ rfl _ _ 24 rfl w2.heap.size 30 i0 (.agg #[.string ⟨#[]⟩,.string ⟨#[]⟩,.int .i64 0,.int .i64 0,.int .i64 0]) 5 56 Tryz.underlying24 hi ka hz1 f9 rfl (by decide) _ _ _ rfl (cZ aa (((bg.al _).al _))) ⟨w3.heap.size+1,0,none⟩ 1 1 (aZ x) rfl rfl ?c1 ?c2 ?c3 ?c4 ?c5 ?_))
         case c1=>exact xW0 (cs:=#[.string x.r,.string x.s,.int .i64 x.l,.int .i64 x.t,.int .i64 x.c]) (by simp)
         case c2=>exact oE x
         case c3=>unfold maxLen;omega
         case c4=>omega
         case c5=>have h1:=qy.size;have h2:=bg.size;simp;omega
         intro v' w4 d6 kz _;have di:aB w2 w4:=(((qy.tr bg).al _).al _).grown kz (λq hq=>bE aa q hq);have jm:(out++[x]).length=out.length+1:=by simp
         have ie:(out++[x]).flatMap aZ=out.flatMap aZ++aZ x:=by simp
         rw[<-jm,<-ie]at d6;clear kz jm ie aa;go_wp2
         go_roundw
         case rel=>exact⟨k+1,out++[x],by omega,by go_num,d6,HP3.out,by simp;omega,dn.tr di,di⟩
         case measure=>simp[intOf];omega
       ·have hzb:(er != 0)=true:=by simpa using hz
        have ahk:(er==0)=false:=by simpa using hz
        have je:cU L ls 0 []=([],(k:Int)+1,er):=by rw[HP2.out];simp[hz]
        have HP3:=Ac je;clear HP2 je hz;go_wp2_with (first|(go_at_call 142;refine HCR.out.mono ?_;rintro e w3 ⟨rfl,bg⟩))
        go_ret3;rw[HP3.out];exact⟨_,rfl,iM _ _ _ _,(dw.tr bg).al _⟩
    ·obtain rfl:k=ls.length:=by omega
     have aw:cU L ls 0 []=(out,0,0):=by rw[iy.out,List.drop_length];rfl
     have HF:=Ac aw;obtain⟨a,c,rfl,ix,hc2,be⟩:=qZ gF aa;clear aw iy;go_wp2
     go_ret3;rw[HF.out];exact⟨_,rfl,mH aa dn.size,dw⟩
def qT (l:List UInt8):Bool := !l.isEmpty&&decide (l.length<=5)&&l.all fC
def numMv (s:ByteArray):Int:=if qT s.data.toList then (decVal s.data.toList:Int) else 0
def numMb (s:ByteArray):Bool:=qT s.data.toList&&decide (decVal s.data.toList<=30000)
theorem nX0 (s:ByteArray) (w:World) (aq:qT s.data.toList=true) :
  Calls Tryz.prog 203 #[.string s] w λe w'=>e=.returned (.tuple #[.int .i64 (decVal s.data.toList),.nilIface])/\aB w w':=by
 simp only[qT,Ag,Al,decide_eq_true_eq]at aq;obtain⟨⟨h1,h2⟩,h4⟩:=aq;have ai:s.data.toList≠[]:=by intro h;rw[h]at h1;simp at h1
 refine(Tryz.strconv_Atoi_ok s (by rw[Af];omega) _ (kD0 _ ai h4 (by omega)) w).mono ?_;rintro e w' ⟨rfl,rfl|⟨t,rfl⟩⟩
 ·exact⟨rfl,aB.refl _⟩
 ·exact⟨rfl,Aj _ _ _⟩
theorem zI0 (n:Nat):isC (n:Int)=decide (n<=30000):=by
 unfold isC;rw[Ai];simp;omega
theorem mY (s:ByteArray) (w:World) (hs:s.size<9223372036854775807) :
  Calls Tryz.prog 140 #[.string s] w λe w'=>e=.returned (.tuple #[.int .i64 (numMv s),.bool (numMb s)])/\aB w w':=by
 have T:∀W,∃tr:ByteArray,tr.toList.isEmpty=s.data.toList.all fC/\Calls Tryz.prog 202 #[.string s,.string ⟨#[48,49,50,51,52,53,54,55,56,57]⟩] W λe w'=>e=.returned (.string tr)/\aB W w':=λW=>by
  refine⟨_,?_,kR0 s W (by omega)⟩;rw[Ae,Ai,<-cZ0];simp
 cases he:s.toList.isEmpty
 ·have ai:s.data.toList.isEmpty=false:=by rw[<-gK];exact he
  by_cases h5:s.size<=5
  ·have hD:qT s.data.toList=s.data.toList.all fC:=by
    unfold qT;rw[ai,<-Af];simp[h5]
   have h5':(s.size:Int)<=5:=by omega
   obtain⟨tr,pq,hT⟩:=T w;have HT:=Ac hT;rw[<-hD]at pq;unfold numMv numMb;clear T hT ai hD;cases aq:qT s.data.toList
   ·rw[aq]at pq
    have h1:(!tr.toList.isEmpty)=true:=by rw[pq];rfl
    clear aq;go_enter Tryz.func140,Tryz.ntmps140
    go_wp2_with (first|(go_at_call 202;refine HT.out.mono ?_;rintro e w1 ⟨rfl,hg⟩))
    go_ret2;exact⟨rfl,hg⟩
   ·rw[aq]at pq
    have A:=λW=>Ac (nX0 s W aq);rw[if_pos (by rfl),Am,<-zI0];generalize (decVal s.data.toList:Int)=v at A ⊢;clear aq;go_enter Tryz.func140,Tryz.ntmps140
    go_wp2_with (first|(go_at_call 202;refine HT.out.mono ?_;rintro e w1 ⟨rfl,hg⟩)|(go_at_call 203;refine(A _).out.mono ?_;rintro e w2 ⟨rfl,af⟩)|(go_at_call 132;refine(eB _ _).mono ?_;rintro e w3 ⟨rfl,rfl⟩))
    go_ret2;exact⟨rfl,hg.tr af⟩
  ·have hn:qT s.data.toList=false:=by unfold qT;rw[<-Af];simp[h5]
   have h5':¬(s.size:Int)<=5:=by omega
   unfold numMv numMb;rw[hn];clear hn ai T;go_enter Tryz.func140,Tryz.ntmps140
   go_wp2_with fail
   go_ret2;exact⟨rfl,aB.refl _⟩
 ·have hn:qT s.data.toList=false:=by unfold qT;rw[<-gK,he];rfl
  unfold numMv numMb;rw[hn];clear hn T;go_enter Tryz.func140,Tryz.ntmps140
  go_wp2_with fail
  go_ret2;exact⟨rfl,aB.refl _⟩
end
section
open Go Go.RowKit
def bQ1:ByteArray:=⟨#[100,101,102,97,117,108,116]⟩
abbrev oJ:=Option (Mx×List (Nat×Nat))
def gR (f:List ByteArray) (i:Nat):ByteArray:=f.getD i ⟨#[]⟩
def fS (p:List bD) (st:oJ) (f:List ByteArray):oJ×Int :=
 match st with
 | none=>if f.length=2/\gR f 0=bQ1/\numMb (gR f 1)=true then (some (newM p.length (numMv (gR f 1)),[]),0) else (none,5)
 | some (m,seen) =>
  if f.length=3/\numMb (gR f 2)=true then
   match posFind p (gR f 0),posFind p (gR f 1) with
   | some a,some b=>if (a,b)∈seen then (some (m,seen),4) else (some (m.setIf ((a:Int),(b:Int)) (numMv (gR f 2)),(a,b)::seen),0)
   | _,_=>(some (m,seen),150)
  else (some (m,seen),5)
def nY (p:List bD):List ByteArray->Nat->oJ->Option Mx×Int×Int
 | [],_,none=>(none,0,5)
 | [],_,some (m,_)=>(some m,0,0)
 | s::r,i,st=>if cF s then nY p r (i+1) st
  else if (fS p st (splitS 9 s)).2=0 then nY p r (i+1) (fS p st (splitS 9 s)).1 else (none,(i:Int)+1,(fS p st (splitS 9 s)).2)
def xB0 (text:ByteArray) (p:List bD):Option Mx×Int×Int :=
 if 1048576<text.size then (none,0,2) else if aQ p=true then nY p (splitS 10 text) 0 none else (none,0,5)
def cY1 (p:List bD) (st:oJ):Prop:=∀m seen,st=some (m,seen)->m.OK/\m.n=p.length/\∀x∈seen,x.1<p.length/\x.2<p.length
theorem xM {s:ByteArray} (h:numMb s=true):0<=numMv s/\numMv s<=30000:=by
 unfold numMb at h;simp only[Ag,decide_eq_true_eq]at h;unfold numMv;rw[h.1];simp;omega
theorem sJ {p:List bD} (h:aQ p=true):1<=p.length/\p.length<=64:=by
 cases p with
 | nil=>cases h
 | cons p0 r =>
  have h:(decide ((p0::r).length<=64)&&rE p0&&cO (p0::r) (p0::r) 0)=true:=h;simp only[Ag,decide_eq_true_eq]at h;exact⟨by simp,h.1.1⟩
theorem bP0 {p:List bD} {name:ByteArray} {k:Nat} (h:posFind p name=some k):k<p.length:=by
 have:=sD h
 omega
theorem xM0 {p:List bD} (hv:aQ p=true) {st:oJ} (h:cY1 p st) (f:List ByteArray):cY1 p (fS p st f).1:=by
 have hl:=sJ hv;unfold fS
 cases st with
 | none =>
  simp only;split
  ·rename_i hc
   intro m seen e;simp only[Option.some.injEq,Prod.mk.injEq]at e;obtain⟨rfl,rfl⟩:=e;have hn:=xM hc.2.2;exact⟨hU0 (qG.2 ⟨by omega,by omega,hn.1,hn.2⟩),by simp[newM],λx hx=>by cases hx⟩
  ·exact h
 | some ms =>
  obtain⟨m,seen⟩:=ms;simp only;split
  ·split
   ·rename_i a b ha hb
    split
    ·exact h
    ·intro m' abr e
     simp only[Option.some.injEq,Prod.mk.injEq]at e;obtain⟨rfl,rfl⟩:=e;obtain⟨h1,h2,h3⟩:=h m seen rfl;refine⟨h1.setIf _ _,by rw[aW1];exact h2,λx hx=>?_⟩;rcases List.mem_cons.1 hx with rfl|hx
     ·exact⟨bP0 ha,bP0 hb⟩
     ·exact h3 x hx
   ·exact h
  ·exact h
theorem lI (p:List bD) (s:ByteArray) (r:List ByteArray) (i:Nat) (st:oJ):nY p (s::r) i st=if cF s then nY p r (i+1) st
  else if (fS p st (splitS 9 s)).2=0 then nY p r (i+1) (fS p st (splitS 9 s)).1 else (none,(i:Int)+1,(fS p st (splitS 9 s)).2):=by
 cases st<;>rfl
end
end Go.Proofs.YthgklnohcmaopaaGreatDoor
