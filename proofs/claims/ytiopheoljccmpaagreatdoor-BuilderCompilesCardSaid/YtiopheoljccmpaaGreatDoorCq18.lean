/- The texts NumA Num Read Parse NumM ParM, one behind the other. -/
import Derived.Test.YtiopheoljccmpaaGreatDoorCq17
import Derived.Test.YtiopheoljccmpaaGreatDoorCq7
import Derived.Test.YtiopheoljccmpaaGreatDoorCq3
import Derived.Lib.AtoiErrMem
import Derived.Test.YtiopheoljccmpaaGreatDoorCq8
import Derived.Test.YtiopheoljccmpaaGreatDoorCq2
import Derived.Test.YtiopheoljccmpaaGreatDoorCq1
import Derived.Maps.AppendAt
import Derived.Test.YtiopheoljccmpaaGreatDoorCq12
open Nat renaming le_refl → Aa,lt_of_lt_of_le → Ab,zero_le → An
open Go.Lib renaming hid → Ac,toList_data → Ae,size_eq → Af,bytesWorld_below → Aj
open ByteArray renaming empty → Ad
open Bool renaming and_eq_true → Ag,eq_iff_iff → Ai,false_eq_true → Ak,not_eq_true' → Al,true_and → Am
open Go.World renaming size_alloc → Ah
set_option maxHeartbeats 4000000
namespace Go.Proofs.YtiopheoljccmpaaGreatDoor
set_option maxRecDepth 100000
section
open Go Go.RowKit Go.Shelf
attribute [local go_sem] aM
theorem hG1:(Tryz.prog.info? 216).map (λi=>(i.zero,i.size))=some (some (.agg (Array.replicate 256 (.bool false))),256):=by kernel_rfl
theorem pM0 (s:ByteArray) (w:World) (hs:s.size<=9223372036854775807) :
  Calls Tryz.prog 80 #[.string s,.string aO1] w λe w'=>e=.returned (.string ⟨(Lib.trimS s.data.toList aO1.data.toList).toArray⟩)/\aB w w' :=
 Any.strings_Trim_laid Tryz.laysTrim hG1 s aO1 w hs (by decide) uA0
def numV (s:ByteArray):Int:=if numOK s.data.toList then (decVal s.data.toList:Int) else 0
theorem iV (s:ByteArray):s.toList.isEmpty=s.data.toList.isEmpty:=by rw[Ae]
theorem eE1 (s:ByteArray) (w:World) (be:numOK s.data.toList=true) :
  Calls Tryz.prog 81 #[.string s] w λe w'=>e=.returned (.tuple #[.int .i64 (decVal s.data.toList),.nilIface])/\aB w w':=by
 simp only[numOK,Ag,Al,decide_eq_true_eq]at be;obtain⟨⟨⟨h1,h2⟩,_⟩,h4⟩:=be;have aw:s.data.toList≠[]:=by intro h;rw[h]at h1;simp at h1
 refine(Tryz.strconv_Atoi_ok s (by rw[Af];omega) _ (nZ0 _ aw h4 h2) w).mono ?_;rintro e w' ⟨rfl,rfl|⟨t,rfl⟩⟩
 ·exact⟨rfl,aB.refl _⟩
 ·exact⟨rfl,Aj _ _ _⟩
theorem qG0 (s:ByteArray) (w:World) (hs:s.size<9223372036854775807) :
  Calls Tryz.prog 85 #[.string s] w λe w'=>e=.returned (.tuple #[.int .i64 (numV s),.bool (numOK s.data.toList)])/\aB w w':=by
 have T:∀W,∃tr:ByteArray,tr.toList.isEmpty=s.data.toList.all dW/\Calls Tryz.prog 80 #[.string s,.string ⟨#[48,49,50,51,52,53,54,55,56,57]⟩] W λe w'=>e=.returned (.string tr)/\aB W w':=λW=>by
  refine⟨_,?_,pM0 s W (by omega)⟩;rw[Ae,Ai,<-jS0];simp
 cases he:s.toList.isEmpty
 ·by_cases h9:s.size<=9
  ·have aw:s.data.toList.isEmpty=false:=by rw[<-iV];exact he
   have cu:0<s.size:=by
    rw[Af];cases hh:s.data.toList with
    | nil=>rw[hh]at aw;simp at aw
    | cons _ _=>simp
   have h9':(s.size:Int)<=9:=by omega
   have hhd:s.data.toList.head?=some s[0]:=by
    rw[List.head?_eq_getElem?,Array.getElem?_toList];exact Array.getElem?_eq_getElem (by exact cu)
   have hN:numOK s.data.toList=(!(s[0]==48 && !(s.data.toList==[48]))&&s.data.toList.all dW):=by
    unfold numOK;rw[aw,hhd,<-Af];simp[h9]
   by_cases hz:(s[0].toNat:Int)=48/\¬s.toList=[48]
   ·obtain⟨hz1,ju⟩:=hz
    have hn:numOK s.data.toList=false:=by
     have:s[0]=48:=by rw[<-UInt8.toNat_inj];simp;omega
     rw[hN,this];rw[Ae]at ju;simp[ju]
    unfold numV;rw[hn];clear hn hN hhd aw T h9;go_enter Tryz.func85,Tryz.ntmps85
    go_wp2_with fail
    go_ret2;exact⟨rfl,aB.refl _⟩
   ·have hb:(s[0]==48 && !(s.data.toList==[48]))=false:=by
     rw[Ae]at hz;cases h:(s[0]==48 && !(s.data.toList==[48]))
     ·rfl
     ·exfalso;apply hz
      simp at h;exact⟨by rw[h.1];rfl,h.2⟩
    rw[hb]at hN;simp only[Bool.not_false,Am]at hN;rw[<-hN]at T;obtain⟨tr,htr,hT⟩:=T w;have HT:=Ac hT;have HZ:=Ac hz;clear T hT hb hz hhd aw hN h9;cases be:numOK s.data.toList
    ·rw[be]at htr
     have h1:(!tr.toList.isEmpty)=true:=by rw[htr];rfl
     unfold numV;rw[be];have HO:=Ac be;clear be;by_cases hc:(s[0].toNat:Int)=48
     ·have hl:s.toList=[48]:=Decidable.byContradiction λh=>HZ.out ⟨hc,h⟩
      go_enter Tryz.func85,Tryz.ntmps85
      go_wp2_with (first|(go_at_call 80;refine HT.out.mono ?_;rintro e w1 ⟨rfl,hg⟩))
      go_ret2;exact⟨rfl,hg⟩
     ·go_enter Tryz.func85,Tryz.ntmps85
      go_wp2_with (first|(go_at_call 80;refine HT.out.mono ?_;rintro e w1 ⟨rfl,hg⟩))
      go_ret2;exact⟨rfl,hg⟩
    ·rw[be]at htr
     have A:=λW=>Ac (eE1 s W be);have hv:numV s=decVal s.data.toList:=by unfold numV;rw[be];rfl
     rw[hv];generalize (decVal s.data.toList:Int)=v at A ⊢;clear be hv;by_cases hc:(s[0].toNat:Int)=48
     ·have hl:s.toList=[48]:=Decidable.byContradiction λh=>HZ.out ⟨hc,h⟩
      go_enter Tryz.func85,Tryz.ntmps85
      go_wp2_with (first|(go_at_call 80;refine HT.out.mono ?_;rintro e w1 ⟨rfl,hg⟩)|(go_at_call 81;refine(A _).out.mono ?_;rintro e w2 ⟨rfl,an⟩))
      refine iD aB (aT 5 []) aB.refl aB.trans (by kernel_rfl) (by kernel_rfl) (λd _ _ _ _ h=>by cases d<;>exact h) ?_
      repeat (refine iB rfl (λK hK=>?_);go_simp;first|(refine hK _ ?_;clear hK K)|(apply Exists.intro;refine⟨λx=>?_,hK _ ?_⟩;(fail);clear hK K))
      refine nL (λw3 h3=>?_);go_wp2
      go_ret2;exact⟨rfl,(hg.tr an).tr ((aB.drew _).tr h3)⟩
     ·go_enter Tryz.func85,Tryz.ntmps85
      go_wp2_with (first|(go_at_call 80;refine HT.out.mono ?_;rintro e w1 ⟨rfl,hg⟩)|(go_at_call 81;refine(A _).out.mono ?_;rintro e w2 ⟨rfl,an⟩))
      refine iD aB (aT 5 []) aB.refl aB.trans (by kernel_rfl) (by kernel_rfl) (λd _ _ _ _ h=>by cases d<;>exact h) ?_
      repeat (refine iB rfl (λK hK=>?_);go_simp;first|(refine hK _ ?_;clear hK K)|(apply Exists.intro;refine⟨λx=>?_,hK _ ?_⟩;(fail);clear hK K))
      refine nL (λw3 h3=>?_);go_wp2
      go_ret2;exact⟨rfl,(hg.tr an).tr ((aB.drew _).tr h3)⟩
  ·have hz:(9:Int)<s.size:=by omega
   have hn:numOK s.data.toList=false:=by unfold numOK;rw[<-Af];simp[h9]
   unfold numV;rw[hn];clear hn T h9;go_enter Tryz.func85,Tryz.ntmps85
   go_wp2
   go_ret2;exact⟨rfl,aB.refl _⟩
 ·have hn:numOK s.data.toList=false:=by unfold numOK;rw[iV]at he;simp[he]
  unfold numV;rw[hn];clear hn T;go_enter Tryz.func85,Tryz.ntmps85
  go_wp2
  go_ret2;exact⟨rfl,aB.refl _⟩
def readS (d6:ByteArray) (l:List bT):En×Int :=
 match splitS 9 d6 with
 | [r,s,a,b,c] =>
  if numOK c.data.toList then
   (let no:=checkS r s (idxI (posFind l a)) (idxI (posFind l b)) (numV c) l.length
    if no=0 then (⟨r,s,idxI (posFind l a),idxI (posFind l b),numV c⟩,0) else (enZero,no))
  else (enZero,5)
 | _=>(enZero,5)
theorem tT0 (d6:ByteArray) (l:List bT) (a:Option Addr) (cap:Nat) (w:World) (hs:d6.size<4294967281) (he:Env w) (h5:(splitS 9 d6).length≠5) :
  Calls Tryz.prog 31 #[.string d6,.slice a l.length cap] w λe w'=>e=.returned (.tuple #[.agg #[.string Ad,.string Ad,.int .i64 0,.int .i64 0,.int .i64 0],.int .i64 5])/\aB w w':=by
 have CS:=λW hW=>Ac (oQ 9 d6 W hs (he.grows hW));have h5':((splitS 9 d6).length:Int)≠5:=by omega
 have hb:(((splitS 9 d6).length:Int) != 5)=true:=by simpa using h5'
 generalize splitS 9 d6=ws at *;clear h5 h5';go_enter Tryz.func31,Tryz.ntmps31
 go_wp2_with (first|(go_at_call 30;refine(CS _ (aB.alloc _ _)).out.mono ?_;rintro e w1 ⟨rfl,ah,hg⟩;rw[Ah]at ah;obtain⟨bc,bf⟩:=eI hg;have b0:w1.cell? ⟨w.heap.size,0,none⟩=some (.string ⟨#[]⟩):=bc 0 _ rfl;have b1:w1.cell? ⟨w.heap.size,1,none⟩=some (.string ⟨#[]⟩):=bc 1 _ rfl;have b2:w1.cell? ⟨w.heap.size,2,none⟩=some (.int .i64 0):=bc 2 _ rfl;have b3:w1.cell? ⟨w.heap.size,3,none⟩=some (.int .i64 0):=bc 3 _ rfl;have b4:w1.cell? ⟨w.heap.size,4,none⟩=some (.int .i64 0):=bc 4 _ rfl;clear bc;have aq:=(aB.alloc _ _).tr hg))
 refine bodyPost_ret (v:=.tuple #[.agg #[.string Ad,.string Ad,.int .i64 0,.int .i64 0,.int .i64 0],.int .i64 5]) (by simp[results,Tryz.results31,go_sem,b0,b1,b2,b3,b4];rfl) rfl ⟨rfl,?_⟩
 exact((((aq.set (Aa _) _).set (Aa _) _).set (Aa _) _).set (Aa _) _).set (Aa _) _
theorem lS0 {w:World} {b:Nat} {xs:List ByteArray} (h:aF w (some ⟨b,0,none⟩) 1 (xs.map mL0)) (aw:xs≠[]) (j:Nat) (x:ByteArray) (hj:xs[j]?=some x):w.cell? ⟨b,j,none⟩=some (.string x):=by
 obtain⟨b',off,ha,hc⟩:=h.get aw;simp only[Option.some.injEq,Addr.mk.injEq,and_true]at ha;obtain⟨rfl,rfl⟩:=ha
 have:=hc j x hj 0 _ rfl
 simpa using this
structure bA0 (w w6 wr:World) (EB:Nat) (v2 v3:Int):Prop where
 g:aB w wr
 sz:w6.heap.size<=wr.heap.size
 lt:EB<w6.heap.size
 ge:w.heap.size<=EB
 same:∀b j,b<w6.heap.size->b≠EB->wr.cell? ⟨b,j,none⟩=w6.cell? ⟨b,j,none⟩
 e0:wr.cell? ⟨EB,0,none⟩=w6.cell? ⟨EB,0,none⟩
 e1:wr.cell? ⟨EB,1,none⟩=w6.cell? ⟨EB,1,none⟩
 e2:wr.cell? ⟨EB,2,none⟩=some (.int .i64 v2)
 e3:wr.cell? ⟨EB,3,none⟩=some (.int .i64 v3)
 e4:wr.cell? ⟨EB,4,none⟩=w6.cell? ⟨EB,4,none⟩
 fr:∀b j,b<w6.heap.size->wr.frozen? ⟨b,j,none⟩=w6.frozen? ⟨b,j,none⟩
theorem bA0.grow {w w6 wr wr':World} {EB:Nat} {v2 v3:Int} (h:bA0 w w6 wr EB v2 v3) (hg:aB wr wr'):bA0 w w6 wr' EB v2 v3 where
 g:=h.g.tr hg
 sz:=Nat.le_trans h.sz hg.size
 lt:=h.lt
 ge:=h.ge
 same b j hb aw:=(hg.cl j (Ab hb h.sz)).trans (h.same b j hb aw)
 e0:=(hg.cl 0 (Ab h.lt h.sz)).trans h.e0
 e1:=(hg.cl 1 (Ab h.lt h.sz)).trans h.e1
 e2:=(hg.cl 2 (Ab h.lt h.sz)).trans h.e2
 e3:=(hg.cl 3 (Ab h.lt h.sz)).trans h.e3
 e4:=(hg.cl 4 (Ab h.lt h.sz)).trans h.e4
 fr b j hb:=(hg.fz j (Ab hb h.sz)).trans (h.fr b j hb)
theorem bA0.set2 {w w6 wr:World} {EB:Nat} {v2 v3:Int} (h:bA0 w w6 wr EB v2 v3) (v:Int):bA0 w w6 (wr.setCell ⟨EB,2,none⟩ (.int .i64 v)) EB v v3 where
 g:=h.g.set h.ge _
 sz:=by rw[eL0];exact h.sz
 lt:=h.lt
 ge:=h.ge
 same b j hb aw:=(bG _ (.inl aw)).trans (h.same b j hb aw)
 e0:=(bG _ (by simp)).trans h.e0
 e1:=(bG _ (by simp)).trans h.e1
 e2:=mT _ h.e2
 e3:=(bG _ (by simp)).trans h.e3
 e4:=(bG _ (by simp)).trans h.e4
 fr b j hb:=(gD0 _ _ _ _).trans (h.fr b j hb)
theorem bA0.set3 {w w6 wr:World} {EB:Nat} {v2 v3:Int} (h:bA0 w w6 wr EB v2 v3) (v:Int):bA0 w w6 (wr.setCell ⟨EB,3,none⟩ (.int .i64 v)) EB v2 v where
 g:=h.g.set h.ge _
 sz:=by rw[eL0];exact h.sz
 lt:=h.lt
 ge:=h.ge
 same b j hb aw:=(bG _ (.inl aw)).trans (h.same b j hb aw)
 e0:=(bG _ (by simp)).trans h.e0
 e1:=(bG _ (by simp)).trans h.e1
 e2:=(bG _ (by simp)).trans h.e2
 e3:=mT _ h.e3
 e4:=(bG _ (by simp)).trans h.e4
 fr b j hb:=(gD0 _ _ _ _).trans (h.fr b j hb)
theorem vC0 (d6 r s a b c:ByteArray) (l:List bT) (la:Option Addr) (cap:Nat) (w:World) (hs:d6.size<4294967281) (hl:l.length<=4611686018427387904) (he:Env w) (uf:aF w la 2 (l.map bI)) (h5:splitS 9 d6=[r,s,a,b,c]) :
  Calls Tryz.prog 31 #[.string d6,.slice la l.length cap] w λe w'=>e=.returned (.tuple #[.agg #[.string (readS d6 l).1.r,.string (readS d6 l).1.s,.int .i64 (readS d6 l).1.l,.int .i64 (readS d6 l).1.t,.int .i64 (readS d6 l).1.c],.int .i64 (readS d6 l).2])/\aB w w':=by
 have CS:=λW hW=>Ac (oQ 9 d6 W hs (he.grows hW));rw[h5]at CS;have dm:∀x,x∈[r,s,a,b,c]->x.size<9223372036854775807:=λx hx=>by have:=dN (c:=9) (s:=d6) (x:=x) (by rw[h5];exact hx);omega
 have CN:=λW=>Ac (qG0 c W (dm c (by simp)))
 have hR:readS d6 l=if numOK c.data.toList then (let no:=checkS r s (idxI (posFind l a)) (idxI (posFind l b)) (numV c) l.length
    if no=0 then (⟨r,s,idxI (posFind l a),idxI (posFind l b),numV c⟩,0) else (enZero,no)) else (enZero,5):=by unfold readS;rw[h5]
 generalize readS d6 l=RR at hR ⊢;have HR:=Ac hR;clear hR h5 hs;generalize numOK c.data.toList=ok at *;generalize numV c=nv at *;cases ok
 ·have dd:=HR.out
  simp only[Ak,if_false]at dd;subst dd;go_enter Tryz.func31,Tryz.ntmps31
  go_wp2_with (first|(go_at_call 30;refine(CS _ (aB.alloc _ _)).out.mono ?_;rintro e w1 ⟨rfl,ah,hg⟩;rw[Ah]at ah;obtain⟨bc,bf⟩:=eI hg;have b0:w1.cell? ⟨w.heap.size,0,none⟩=some (.string ⟨#[]⟩):=bc 0 _ rfl;have b1:w1.cell? ⟨w.heap.size,1,none⟩=some (.string ⟨#[]⟩):=bc 1 _ rfl;have b2:w1.cell? ⟨w.heap.size,2,none⟩=some (.int .i64 0):=bc 2 _ rfl;have b3:w1.cell? ⟨w.heap.size,3,none⟩=some (.int .i64 0):=bc 3 _ rfl;have b4:w1.cell? ⟨w.heap.size,4,none⟩=some (.int .i64 0):=bc 4 _ rfl;clear bc;have aq:=(aB.alloc _ _).tr hg;have d4:=lS0 ah (by simp) 4 c rfl;clear ah)|(go_at_call 85;refine(CN _).out.mono ?_;rintro e w2 ⟨rfl,an⟩;have fe:=aq.tr an;have e0:=an.cell b0;have e1:=an.cell b1;have e2:=an.cell b2;have e3:=an.cell b3;have e4:=an.cell b4;have bf2:∀j,w2.frozen? ⟨w.heap.size,j,none⟩=false:=λj=>(an.froz (by exact Ab (by simp) hg.size)).trans (bf j)))
  refine bodyPost_ret (v:=.tuple #[.agg #[.string Ad,.string Ad,.int .i64 0,.int .i64 0,.int .i64 0],.int .i64 5]) (by simp[results,Tryz.results31,go_sem,e0,e1,e2,e3,e4];rfl) rfl ⟨rfl,?_⟩
  exact((((fe.set (Aa _) _).set (Aa _) _).set (Aa _) _).set (Aa _) _).set (Aa _) _
 ·go_enter Tryz.func31,Tryz.ntmps31
  go_wp2_with (first|(go_at_call 30;refine(CS _ (aB.alloc _ _)).out.mono ?_;rintro e w1 ⟨rfl,ah,hg⟩;rw[Ah]at ah;obtain⟨bc,bf⟩:=eI hg;have b0:w1.cell? ⟨w.heap.size,0,none⟩=some (.string ⟨#[]⟩):=bc 0 _ rfl;have b1:w1.cell? ⟨w.heap.size,1,none⟩=some (.string ⟨#[]⟩):=bc 1 _ rfl;have b2:w1.cell? ⟨w.heap.size,2,none⟩=some (.int .i64 0):=bc 2 _ rfl;have b3:w1.cell? ⟨w.heap.size,3,none⟩=some (.int .i64 0):=bc 3 _ rfl;have b4:w1.cell? ⟨w.heap.size,4,none⟩=some (.int .i64 0):=bc 4 _ rfl;clear bc;have aq:=(aB.alloc _ _).tr hg;have d0:=lS0 ah (by simp) 0 r rfl;have d1:=lS0 ah (by simp) 1 s rfl;have d2:=lS0 ah (by simp) 2 a rfl;have d3:=lS0 ah (by simp) 3 b rfl;have d4:=lS0 ah (by simp) 4 c rfl;clear ah)|(go_at_call 85;refine(CN _).out.mono ?_;rintro e w2 ⟨rfl,an⟩;have fe:=aq.tr an;have e0:=an.cell b0;have e1:=an.cell b1;have e2:=an.cell b2;have e3:=an.cell b3;have e4:=an.cell b4;have f0:=an.cell d0;have f1:=an.cell d1;have f2:=an.cell d2;have f3:=an.cell d3;have bf2:∀j,w2.frozen? ⟨w.heap.size,j,none⟩=false:=λj=>(an.froz (by exact Ab (by simp) hg.size)).trans (bf j)))
  clear b0 b1 b2 b3 b4 d0 d1 d2 d3 d4 bf CS CN;have afk:w.heap.size+2<=w2.heap.size:=by have:=World.block_lt_of_cell? w2 _ f0;simp at this;omega
  have x0:=aG (w:=w2.drew) f0;have x1:=aG (w:=w2.drew) f1;refine gE aB 9 (aT 9 [8]) aB.refl aB.trans (by kernel_rfl) (by kernel_rfl) (λd _ _ _ _ h=>by cases d<;>exact h) ?_
  repeat (refine iB rfl (λK hK=>?_);go_simp;first|(refine hK _ ?_;clear hK K)|(apply Exists.intro;refine⟨λx=>?_,hK _ ?_⟩;(fail);clear hK K))
  clear x0 x1;refine gQ rfl rfl (λK hK w3 h3=>?_);go_simp;refine⟨aB.alloc _ _,hK _ _ ?_⟩;clear hK K;refine nL (λw4 h4=>?_);simp only[List.drop_succ_cons,List.drop_zero];obtain⟨bc,ef⟩:=eI h4;have g0:w4.cell? ⟨w3.heap.size,0,none⟩=some (.string ⟨#[]⟩):=bc 0 _ rfl;have g1:w4.cell? ⟨w3.heap.size,1,none⟩=some (.string ⟨#[]⟩):=bc 1 _ rfl;have g2:w4.cell? ⟨w3.heap.size,2,none⟩=some (.int .i64 0):=bc 2 _ rfl;have g3:w4.cell? ⟨w3.heap.size,3,none⟩=some (.int .i64 0):=bc 3 _ rfl;have g4:w4.cell? ⟨w3.heap.size,4,none⟩=some (.int .i64 0):=bc 4 _ rfl;have h24:aB w2 w4:=((aB.drew w2).tr h3).tr ((aB.alloc _ _).tr h4);have hEB:w3.heap.size<w4.heap.size:=Ab (by simp) h4.size;have ah4:w2.heap.size<=w3.heap.size:=h3.size;clear bc h3 h4;generalize w3.heap.size=EB at *;have adr:w.heap.size+1≠EB:=by omega
  have xw:w.heap.size≠EB:=by omega
  have ah5:EB≠w4.heap.size:=by omega
  have i0:=h24.cell e0;have i1:=h24.cell e1;have i2:=h24.cell e2;have i3:=h24.cell e3;have i4:=h24.cell e4;have j2:=h24.cell f2;have j3:=h24.cell f3;have bf4:∀j,w4.frozen? ⟨w.heap.size,j,none⟩=false:=λj=>(h24.fz j (by omega)).trans (bf2 j);have cd:=fe.tr h24;clear e0 e1 e2 e3 e4 f0 f1 f2 f3 bf2 an fe aq hg h24;go_wp2
  generalize vp:(((((w4.setCell ⟨EB,0,none⟩ (.string r)).setCell ⟨EB,1,none⟩ (.string s)).setCell ⟨EB,2,none⟩ (.int .i64 0)).setCell ⟨EB,3,none⟩ (.int .i64 0)).setCell ⟨EB,4,none⟩ (.int .i64 nv))=w5;obtain⟨⟨q0,q1,q2,q3,q4⟩,qo,qf,qs⟩:=wS0 _ _ _ _ _ g0 g1 g2 g3 g4 vp;have bg:aB w w5:=by rw[<-vp];exact((((cd.set (by exact(by omega:w.heap.size<=EB)) _).set (by exact(by omega:w.heap.size<=EB)) _).set (by exact(by omega:w.heap.size<=EB)) _).set (by exact(by omega:w.heap.size<=EB)) _).set (by exact(by omega:w.heap.size<=EB)) _
  clear vp g0 g1 g2 g3 g4;have p0:(w5.alloc (.cells #[.pointer (some ⟨EB,2,none⟩),.pointer (some ⟨EB,3,none⟩)] 159)).cell? ⟨w4.heap.size,0,none⟩=some (.pointer (some ⟨EB,2,none⟩)):=by rw[<-qs];exact aX _ _ _ _ 0 _ rfl
  have p1:(w5.alloc (.cells #[.pointer (some ⟨EB,2,none⟩),.pointer (some ⟨EB,3,none⟩)] 159)).cell? ⟨w4.heap.size,1,none⟩=some (.pointer (some ⟨EB,3,none⟩)):=by rw[<-qs];exact aX _ _ _ _ 1 _ rfl
  generalize hW6:w5.alloc (.cells #[.pointer (some ⟨EB,2,none⟩),.pointer (some ⟨EB,3,none⟩)] 159)=w6 at *;have de:aB w w6:=by rw[<-hW6];exact bg.al _
  have hs6:w6.heap.size=w4.heap.size+1:=by rw[<-hW6,Ah,qs]
  have ug:aB w5 w6:=by rw[<-hW6];exact aB.alloc _ _
  have f6:∀j,w6.frozen? ⟨EB,j,none⟩=false:=λj=>by rw[ug.fz j (by omega),qf];exact ef j
  have f0:∀j,w6.frozen? ⟨w.heap.size,j,none⟩=false:=λj=>by rw[ug.fz j (by omega),qf];exact bf4 j
  have m2:w6.cell? ⟨w.heap.size+1,2,none⟩=some (.string a):=ug.cell (by rw[qo _ _ adr];exact j2);have m3:w6.cell? ⟨w.heap.size+1,3,none⟩=some (.string b):=ug.cell (by rw[qo _ _ adr];exact j3);have n0:=ug.cell ((qo _ _ xw).trans i0);have n1:=ug.cell ((qo _ _ xw).trans i1);have n2:=ug.cell ((qo _ _ xw).trans i2);have n3:=ug.cell ((qo _ _ xw).trans i3);have n4:=ug.cell ((qo _ _ xw).trans i4);have r0:=ug.cell q0;have r1:=ug.cell q1;have r2:=ug.cell q2;have r3:=ug.cell q3;have r4:=ug.cell q4;have aj2:w.heap.size<EB:=by omega
  have uh:w.heap.size+1<EB:=by omega
  have ci:EB<w4.heap.size:=hEB;clear q0 q1 q2 q3 q4 qo qf qs bg ug hW6 cd bf4 i0 i1 i2 i3 i4 j2 j3 ef hEB ah4 afk xw adr ah5;have INV:Hid (bA0 w w6 w6 EB 0 0):=⟨de,Aa _,by omega,by omega,λ_ _ _ _=>rfl,rfl,rfl,r2,r3,rfl,λ_ _ _=>rfl⟩;clear r2 r3;go_loopw [43] (λi wr=>∃k:Nat,k<=2/\i=.int .i64 k/\bA0 w w6 wr EB (if k=0 then 0 else idxI (posFind l a)) (if k<=1 then 0 else idxI (posFind l b))) (λi _=>2-(intOf i).toNat)
  case atStart=>exact⟨0,by omega,rfl,INV.out⟩
  case round =>
   obtain⟨k,hk,rfl,jc⟩:=hrel
   match k,hk with
   | 0,_ =>
    simp only[if_true,An]at jc;have c0:wr.cell? ⟨w4.heap.size,0,none⟩=some (.pointer (some ⟨EB,2,none⟩)):=(jc.same _ _ (by omega) (by omega)).trans p0;have c1:wr.cell? ⟨w.heap.size+1,2,none⟩=some (.string a):=(jc.same _ _ (by omega) (by omega)).trans m2;have c2:wr.cell? ⟨EB,2,none⟩=some (.int .i64 0):=jc.e2;have c3:wr.frozen? ⟨EB,2,none⟩=false:=(jc.fr _ _ jc.lt).trans (f6 _);have ui:=jc.set2 (-1);have fm:=iR l a la cap _ hl (uf.grows ui.g);have HI:=Ac ui;have HA:Hid (idxI (posFind l a)=if (posFind l a).isSome then findI (posFind l a) else -1):=by unfold Hid;cases posFind l a<;>rfl
    clear jc ui;generalize findI (posFind l a)=fv at fm HA;generalize (posFind l a).isSome=fb at fm HA;have CON:=Ac fm;clear fm;cases fb
    ·go_wp2_with (first|(go_at_call 23;refine CON.out.mono ?_;rintro e w7 ⟨rfl,ck⟩))
     go_roundw
     case rel=>exact⟨1,by omega,rfl,by have h:=HI.out.grow ck;rw[HA.out];exact h⟩
     case measure=>simp[intOf]
    ·go_wp2_with (first|(go_at_call 23;refine CON.out.mono ?_;rintro e w7 ⟨rfl,ck⟩;have lx:=HI.out.grow ck;have d2:=lx.e2;have d3:w7.frozen? ⟨EB,2,none⟩=false:=(lx.fr _ _ lx.lt).trans (f6 _);have HJ:=Ac lx;clear lx))
     go_roundw
     case rel=>exact⟨1,by omega,rfl,by have h:=HJ.out.set2 fv;rw[HA.out];exact h⟩
     case measure=>simp[intOf]
   | 1,_ =>
    simp only[Nat.one_ne_zero,if_false,Aa,if_true]at jc;have c0:wr.cell? ⟨w4.heap.size,1,none⟩=some (.pointer (some ⟨EB,3,none⟩)):=(jc.same _ _ (by omega) (by omega)).trans p1;have c1:wr.cell? ⟨w.heap.size+1,3,none⟩=some (.string b):=(jc.same _ _ (by omega) (by omega)).trans m3;have c2:wr.cell? ⟨EB,3,none⟩=some (.int .i64 0):=jc.e3;have c3:wr.frozen? ⟨EB,3,none⟩=false:=(jc.fr _ _ jc.lt).trans (f6 _);have ui:=jc.set3 (-1);have fm:=iR l b la cap _ hl (uf.grows ui.g);have HI:=Ac ui;have HA:Hid (idxI (posFind l b)=if (posFind l b).isSome then findI (posFind l b) else -1):=by unfold Hid;cases posFind l b<;>rfl
    clear jc ui;generalize findI (posFind l b)=fv at fm HA;generalize (posFind l b).isSome=fb at fm HA;have CON:=Ac fm;clear fm;cases fb
    ·go_wp2_with (first|(go_at_call 23;refine CON.out.mono ?_;rintro e w7 ⟨rfl,ck⟩))
     go_roundw
     case rel=>exact⟨2,by omega,rfl,by have h:=HI.out.grow ck;rw[HA.out];exact h⟩
     case measure=>simp[intOf]
    ·go_wp2_with (first|(go_at_call 23;refine CON.out.mono ?_;rintro e w7 ⟨rfl,ck⟩;have lx:=HI.out.grow ck;have d2:=lx.e3;have d3:w7.frozen? ⟨EB,3,none⟩=false:=(lx.fr _ _ lx.lt).trans (f6 _);have HJ:=Ac lx;clear lx))
     go_roundw
     case rel=>exact⟨2,by omega,rfl,by have h:=HJ.out.set3 fv;rw[HA.out];exact h⟩
     case measure=>simp[intOf]
   | 2,_ =>
    simp only[show ¬(2:Nat)=0 by omega,show ¬(2:Nat)<=1 by omega,if_false]at jc
    have hc:=cF0 r s (idxI (posFind l a)) (idxI (posFind l b)) nv l.length wr (dm r (by simp)) (dm s (by simp)) (he.grows jc.g);have dd:=HR.out;simp only[if_true]at dd;have c2:=jc.e2;have c3:=jc.e3;have n0':=(jc.same _ 0 (by omega) (by omega)).trans n0;have n1':=(jc.same _ 1 (by omega) (by omega)).trans n1;have n2':=(jc.same _ 2 (by omega) (by omega)).trans n2;have n3':=(jc.same _ 3 (by omega) (by omega)).trans n3;have n4':=(jc.same _ 4 (by omega) (by omega)).trans n4;have hf0:∀j,wr.frozen? ⟨w.heap.size,j,none⟩=false:=λj=>(jc.fr _ j (by omega)).trans (f0 j);have hG:=jc.g;have aj3:EB<wr.heap.size:=Ab jc.lt jc.sz;generalize idxI (posFind l a)=A at *;generalize idxI (posFind l b)=B at *;have c0:=jc.e0.trans r0;have c1:=jc.e1.trans r1;have c4:=jc.e4.trans r4;clear jc INV HR n0 n1 n2 n3 n4 r0 r1 r4 f0 f6 m2 m3 p0 p1;generalize checkS r s A B nv l.length=no at *;have HC:=Ac hc;clear hc;have aj4:w.heap.size≠EB:=by omega
    by_cases gj:no=0
    ·subst gj
     simp only[if_true]at dd;subst dd;go_wp2_with (first|(go_at_call 86;refine HC.out.mono ?_;rintro e w8 ⟨rfl,eo⟩;have k0:=eo.cell c0;have k1:=eo.cell c1;have k2:=eo.cell c2;have k3:=eo.cell c3;have k4:=eo.cell c4;have z0:=eo.cell n0';have z1:=eo.cell n1';have z2:=eo.cell n2';have z3:=eo.cell n3';have z4:=eo.cell n4';have hf8:∀j,w8.frozen? ⟨w.heap.size,j,none⟩=false:=λj=>(eo.fz j (by omega)).trans (hf0 j)))
     have hG8:=hG.tr eo;refine bodyPost_ret (v:=.tuple #[.agg #[.string r,.string s,.int .i64 A,.int .i64 B,.int .i64 nv],.int .i64 0]) (by simp[results,Tryz.results31,go_sem,z0,z1,z2,z3,z4]) rfl ⟨rfl,?_⟩
     exact((((hG8.set (Aa _) _).set (Aa _) _).set (Aa _) _).set (Aa _) _).set (Aa _) _
    ·have hb:(no != 0)=true:=by simpa using gj
     simp only[if_neg gj]at dd;subst dd;go_wp2_with (first|(go_at_call 86;refine HC.out.mono ?_;rintro e w8 ⟨rfl,eo⟩;have z0:=eo.cell n0';have z1:=eo.cell n1';have z2:=eo.cell n2';have z3:=eo.cell n3';have z4:=eo.cell n4';have hf8:∀j,w8.frozen? ⟨w.heap.size,j,none⟩=false:=λj=>(eo.fz j (by omega)).trans (hf0 j)))
     have hG8:=hG.tr eo;refine bodyPost_ret (v:=.tuple #[.agg #[.string Ad,.string Ad,.int .i64 0,.int .i64 0,.int .i64 0],.int .i64 no]) (by simp[results,Tryz.results31,go_sem,z0,z1,z2,z3,z4];rfl) rfl ⟨rfl,?_⟩
     exact((((hG8.set (Aa _) _).set (Aa _) _).set (Aa _) _).set (Aa _) _).set (Aa _) _
theorem uO0 (d6:ByteArray) (l:List bT) (la:Option Addr) (cap:Nat) (w:World) (hs:d6.size<4294967281) (hl:l.length<=4611686018427387904) (he:Env w) (ah:aF w la 2 (l.map bI)) :
  Calls Tryz.prog 31 #[.string d6,.slice la l.length cap] w λe w'=>e=.returned (.tuple #[.agg #[.string (readS d6 l).1.r,.string (readS d6 l).1.s,.int .i64 (readS d6 l).1.l,.int .i64 (readS d6 l).1.t,.int .i64 (readS d6 l).1.c],.int .i64 (readS d6 l).2])/\aB w w':=by
 by_cases h5:∃r s a b c,splitS 9 d6=[r,s,a,b,c]
 ·obtain⟨r,s,a,b,c,h5⟩:=h5
  exact vC0 d6 r s a b c l la cap w hs hl he ah h5
 ·have hr:readS d6 l=(enZero,5):=by
   unfold readS;split
   ·rename_i r s a b c h;exact absurd ⟨r,s,a,b,c,h⟩ h5
   ·rfl
  rw[hr];refine tT0 d6 l la cap w hs he ?_;intro h
  match hh:splitS 9 d6,h with
  | [r,s,a,b,c],_=>exact h5 ⟨r,s,a,b,c,hh⟩
def qX (L:List bT) (s:ByteArray) (n:Nat):Int:=if (readS s L).2=0/\n=20000 then 2 else (readS s L).2
def bU (L:List bT):List ByteArray->Nat->List En->List En×Int×Int
 | [],_,out=>(out,0,0)
 | s::r,i,out =>
  if iK s then bU L r (i+1) out
  else if qX L s out.length≠0 then ([],(i:Int)+1,qX L s out.length)
  else bU L r (i+1) (out++[(readS s L).1])
theorem kX (L:List bT) (s:ByteArray) (r:List ByteArray) (i:Nat) (out:List En):bU L (s::r) i out=if iK s then bU L r (i+1) out
 else if qX L s out.length≠0 then ([],(i:Int)+1,qX L s out.length)
 else bU L r (i+1) (out++[(readS s L).1]):=rfl
def eK (text:ByteArray) (L:List bT):List En×Int×Int :=
 if bP L then (if 1048576<text.size then ([],0,2) else bU L (splitS 10 text) 0 []) else ([],0,5)
theorem jA1:(Tryz.prog.info? 89).map (λi=>(i.zero,i.size,i.bytes))=some (some (.agg #[.string ⟨#[]⟩,.string ⟨#[]⟩,.int .i64 0,.int .i64 0,.int .i64 0]),5,56):=by kernel_rfl
theorem aQ1 {w:World} {cs:Array Value} {t:TypeId} {n:Nat} (hn:n=w.heap.size):∀(j:Nat) (u:Value),cs.toList[j]?=some u->(w.alloc (.cells cs t)).cell? ((⟨n,0,none⟩:Addr).add j)=some u:=by
 intro j u hj;subst hn;have h:=aX w cs t (0,0) j u (by simpa using hj);unfold Addr.add;by_cases h0:j=0
 ·subst h0;simpa using h
 ·rw[if_neg h0];simpa using h
def fM0 (w:World) (res:List En×Int×Int) (e:Ending) (w':World):Prop :=
 ∃v,e=.returned (.tuple #[v,.int .i64 res.2.1,.int .i64 res.2.2])/\w'.ownsRow w.heap.size 89 5 v res.1.length (res.1.flatMap bE)/\aB w w'
theorem jW0 (text:ByteArray) (L:List bT) (la:Option Addr) (cap:Nat) (w:World) (hs:text.size<9223372036854775807) (hl:L.length<=4611686018427387904) (he:Env w) (ah:aF w la 2 (L.map bI)) :
  Calls Tryz.prog 9 #[.string text,.slice la L.length cap] w (fM0 w (eK text L)):=by
 have CC:=Ac (sN L la cap w ah hl);have HAT:=Ac ah;clear ah;cases hv:bP L
 ·have hp:eK text L=([],0,5):=by unfold eK;rw[hv];rfl
  rw[hp];rw[hv]at CC;clear hp hv;go_enter Tryz.func9,Tryz.ntmps9
  go_wp2_with (first|(go_at_call 25;refine CC.out.mono ?_;rintro e w1 ⟨rfl,aq⟩))
  go_ret3;exact⟨_,rfl,eV _ _ _ _,aq⟩
 ·by_cases da:1048576<text.size
  ·have hp:eK text L=([],0,2):=by unfold eK;rw[hv,if_pos rfl,if_pos da]
   have hb:(1048576:Int)<text.size:=by omega
   rw[hp];rw[hv]at CC;clear hp hv;go_enter Tryz.func9,Tryz.ntmps9
   go_wp2_with (first|(go_at_call 25;refine CC.out.mono ?_;rintro e w1 ⟨rfl,aq⟩))
   go_ret3;exact⟨_,rfl,eV _ _ _ _,aq⟩
  ·have hp:eK text L=bU L (splitS 10 text) 0 []:=by unfold eK;rw[hv,if_pos rfl,if_neg da]
   have hb:(text.size:Int)<=1048576:=by omega
   rw[hp];rw[hv]at CC;have CS:=λW hW=>Ac (oQ 10 text W (by omega) (he.grows hW));have dm:∀x,x∈splitS 10 text->x.size<4294967281:=λx hx=>by have:=dN hx;omega
   have ay:(splitS 10 text).length<=4294967290:=by
    have h1:(splitS 10 text).length=Lib.countB text ⟨#[10]⟩+1:=Lib.splitB_all ⟨#[10]⟩ (Aa 1) 0 _ text rfl;have h2:=Lib.countB_le ⟨#[10]⟩ (Aa 1) text.size text (Aa _);omega
   clear hp hv da;generalize splitS 10 text=ls at *;go_enter Tryz.func9,Tryz.ntmps9
   go_wp2_with (first|(go_at_call 25;refine CC.out.mono ?_;rintro e w1 ⟨rfl,aq⟩)|(go_at_call 30;refine(CS _ aq).out.mono ?_;rintro e w2 ⟨rfl,m0,an⟩))
   have fe:=aq.tr an;generalize w1.heap.size=SB at *;go_loopw [24,8] (λi v wr=>∃(k:Nat) (out:List En),k<=ls.length/\i=.int .i64 k/\wr.ownsRow w2.heap.size 89 5 v out.length (out.flatMap bE)/\Hid (bU L ls 0 []=bU L (ls.drop k) k out)/\out.length<=20000/\aB w wr/\aB w2 wr) (λi _ _=>ls.length-(intOf i).toNat)
   case atStart=>exact⟨0,[],An _,rfl,eV _ _ _ _,rfl,by simp,fe,aB.refl _⟩
   case round =>
    obtain⟨k,out,hk,rfl,ae,gu,uj,fx,ly⟩:=hrel;by_cases af:k<ls.length
    ·obtain⟨s,uk⟩:∃s,ls[k]?=some s:=⟨_,List.getElem?_eq_getElem af⟩
     have ew:s∈ls:=List.mem_of_getElem? uk;have hss:=dm s ew
     have fj:ls.drop k=s::ls.drop (k+1):=by
      rw[List.drop_eq_getElem_cons af]
      have:ls[k]=s:=(List.getElem?_eq_some_iff.1 uk).2
      rw[this]
     have c0:wr.cell? ⟨SB,k,none⟩=some (.string s):=ly.cell (lS0 m0 (aH af) k s uk);have lz:=gu.out;rw[fj,kX]at lz;have HP:=Ac lz;clear gu lz fj uk ew;obtain⟨a8,c8,rfl,jr,th,_⟩:=uD gM ae;by_cases l5:s.toList=[]
     ·have cz:bU L ls 0 []=bU L (ls.drop (k+1)) (k+1) out:=by rw[HP.out,mQ l5];rfl
      have HP2:=Ac cz;clear HP cz;go_wp2
      go_roundw
      case rel=>exact⟨k+1,out,by omega,by go_num,ae,HP2.out,uj,fx,ly⟩
      case measure=>simp[intOf];omega
     ·have cu:=gZ l5
      have acx:s.toList.isEmpty=false:=by simpa using l5
      by_cases kw:(s[0].toNat:Int)=35
      ·have cz:bU L ls 0 []=bU L (ls.drop (k+1)) (k+1) out:=by rw[HP.out,pR cu kw];rfl
       have HP2:=Ac cz;clear HP cz;go_wp2
       go_roundw
       case rel=>exact⟨k+1,out,by omega,by go_num,ae,HP2.out,uj,fx,ly⟩
       case measure=>simp[intOf];omega
      ·have acy:((s[0].toNat:Int)==35)=false:=by simpa using kw
       have cz:=HP.out;rw[sW cu kw]at cz;simp only[Ak,if_false]at cz;have CR:=uO0 s L la cap wr hss hl (he.grows fx) (HAT.out.grows fx);unfold qX at cz;generalize readS s L=xr at cz CR;obtain⟨x,er⟩:=xr;simp only[]at cz CR;have HCR:=Ac CR;have HP2:=Ac cz;clear HP cz CR kw l5;by_cases hz:er=0
       ·subst hz
        by_cases gi:out.length=20000
        ·have il:bU L ls 0 []=([],(k:Int)+1,2):=by rw[HP2.out];simp[gi]
         have HP3:=Ac il;have hfb:((out.length:Int)==20000)=true:=by simp[gi]
         clear HP2 il gi;go_wp2_with (first|(go_at_call 31;refine HCR.out.mono ?_;rintro e w3 ⟨rfl,bu⟩))
         go_ret3;rw[HP3.out];exact⟨_,rfl,eV _ _ _ _,(fx.tr bu).al _⟩
        ·have il:bU L ls 0 []=bU L (ls.drop (k+1)) (k+1) (out++[x]):=by
          rw[HP2.out];simp[gi]
         have HP3:=Ac il;have hfb:((out.length:Int)==20000)=false:=by simp;omega
         have aj5:out.length+1<=20000:=by omega
         clear HP2 il gi;obtain⟨i0,hi,lw,hz1,ju⟩:=info_parts jA1;go_wp2_with (first|(go_at_call 31;refine HCR.out.mono ?_;rintro e w3 ⟨rfl,bu⟩)|(at_builtin;refine wpList_append_own _ rfl _ _ 41 rfl w2.heap.size 89 i0 (.agg #[.string ⟨#[]⟩,.string ⟨#[]⟩,.int .i64 0,.int .i64 0,.int .i64 0]) 5 56 Tryz.underlying41 hi lw hz1 ju rfl (by decide) _ _ _ rfl (dJ ae (((bu.al _).al _))) ⟨w3.heap.size+1,0,none⟩ 1 1 (bE x) rfl rfl ?c1 ?c2 ?c3 ?c4 ?c5 ?_))
         case c1=>exact aQ1 (cs:=#[.string x.r,.string x.s,.int .i64 x.l,.int .i64 x.t,.int .i64 x.c]) (by simp)
         case c2=>exact nD x
         case c3=>unfold maxLen;omega
         case c4=>omega
         case c5=>have h1:=ly.size;have h2:=bu.size;simp;omega
         intro v' w4 cw q8 _;have cd:aB w2 w4:=(((ly.tr bu).al _).al _).grown q8 (λq hq=>bF ae q hq);have j6:(out++[x]).length=out.length+1:=by simp
         have ii:(out++[x]).flatMap bE=out.flatMap bE++bE x:=by simp
         rw[<-j6,<-ii]at cw;clear q8 j6 ii ae;go_wp2
         go_roundw
         case rel=>exact⟨k+1,out++[x],by omega,by go_num,cw,HP3.out,by simp;omega,fe.tr cd,cd⟩
         case measure=>simp[intOf];omega
       ·have hzb:(er != 0)=true:=by simpa using hz
        have ah6:(er==0)=false:=by simpa using hz
        have il:bU L ls 0 []=([],(k:Int)+1,er):=by rw[HP2.out];simp[hz]
        have HP3:=Ac il;clear HP2 il hz;go_wp2_with (first|(go_at_call 31;refine HCR.out.mono ?_;rintro e w3 ⟨rfl,bu⟩))
        go_ret3;rw[HP3.out];exact⟨_,rfl,eV _ _ _ _,(fx.tr bu).al _⟩
    ·obtain rfl:k=ls.length:=by omega
     have au:bU L ls 0 []=(out,0,0):=by rw[gu.out,List.drop_length];rfl
     have HF:=Ac au;obtain⟨a,c,rfl,jr,th,bj⟩:=uD gM ae;clear au gu;go_wp2
     go_ret3;rw[HF.out];exact⟨_,rfl,lC ae fe.size,fx⟩
def qO (l:List UInt8):Bool := !l.isEmpty&&decide (l.length<=5)&&l.all dW
def numMv (s:ByteArray):Int:=if qO s.data.toList then (decVal s.data.toList:Int) else 0
def numMb (s:ByteArray):Bool:=qO s.data.toList&&decide (decVal s.data.toList<=30000)
theorem tW0 (s:ByteArray) (w:World) (be:qO s.data.toList=true) :
  Calls Tryz.prog 81 #[.string s] w λe w'=>e=.returned (.tuple #[.int .i64 (decVal s.data.toList),.nilIface])/\aB w w':=by
 simp only[qO,Ag,Al,decide_eq_true_eq]at be;obtain⟨⟨h1,h2⟩,h4⟩:=be;have aw:s.data.toList≠[]:=by intro h;rw[h]at h1;simp at h1
 refine(Tryz.strconv_Atoi_ok s (by rw[Af];omega) _ (nZ0 _ aw h4 (by omega)) w).mono ?_;rintro e w' ⟨rfl,rfl|⟨t,rfl⟩⟩
 ·exact⟨rfl,aB.refl _⟩
 ·exact⟨rfl,Aj _ _ _⟩
theorem zW0 (n:Nat):isC (n:Int)=decide (n<=30000):=by
 unfold isC;rw[Ai];simp;omega
theorem pT (s:ByteArray) (w:World) (hs:s.size<9223372036854775807) :
  Calls Tryz.prog 27 #[.string s] w λe w'=>e=.returned (.tuple #[.int .i64 (numMv s),.bool (numMb s)])/\aB w w':=by
 have T:∀W,∃tr:ByteArray,tr.toList.isEmpty=s.data.toList.all dW/\Calls Tryz.prog 80 #[.string s,.string ⟨#[48,49,50,51,52,53,54,55,56,57]⟩] W λe w'=>e=.returned (.string tr)/\aB W w':=λW=>by
  refine⟨_,?_,pM0 s W (by omega)⟩;rw[Ae,Ai,<-jS0];simp
 cases he:s.toList.isEmpty
 ·have aw:s.data.toList.isEmpty=false:=by rw[<-iV];exact he
  by_cases h5:s.size<=5
  ·have hD:qO s.data.toList=s.data.toList.all dW:=by
    unfold qO;rw[aw,<-Af];simp[h5]
   have h5':(s.size:Int)<=5:=by omega
   obtain⟨tr,htr,hT⟩:=T w;have HT:=Ac hT;rw[<-hD]at htr;unfold numMv numMb;clear T hT aw hD;cases be:qO s.data.toList
   ·rw[be]at htr
    have h1:(!tr.toList.isEmpty)=true:=by rw[htr];rfl
    clear be;go_enter Tryz.func27,Tryz.ntmps27
    go_wp2_with (first|(go_at_call 80;refine HT.out.mono ?_;rintro e w1 ⟨rfl,hg⟩))
    go_ret2;exact⟨rfl,hg⟩
   ·rw[be]at htr
    have A:=λW=>Ac (tW0 s W be);rw[if_pos (by rfl),Am,<-zW0];generalize (decVal s.data.toList:Int)=v at A ⊢;clear be;go_enter Tryz.func27,Tryz.ntmps27
    go_wp2_with (first|(go_at_call 80;refine HT.out.mono ?_;rintro e w1 ⟨rfl,hg⟩)|(go_at_call 81;refine(A _).out.mono ?_;rintro e w2 ⟨rfl,an⟩)|(go_at_call 82;refine(eZ _ _).mono ?_;rintro e w3 ⟨rfl,rfl⟩))
    go_ret2;exact⟨rfl,hg.tr an⟩
  ·have hn:qO s.data.toList=false:=by unfold qO;rw[<-Af];simp[h5]
   have h5':¬(s.size:Int)<=5:=by omega
   unfold numMv numMb;rw[hn];clear hn aw T;go_enter Tryz.func27,Tryz.ntmps27
   go_wp2_with fail
   go_ret2;exact⟨rfl,aB.refl _⟩
 ·have hn:qO s.data.toList=false:=by unfold qO;rw[<-iV,he];rfl
  unfold numMv numMb;rw[hn];clear hn T;go_enter Tryz.func27,Tryz.ntmps27
  go_wp2_with fail
  go_ret2;exact⟨rfl,aB.refl _⟩
end
section
open Go Go.RowKit
def gA1:ByteArray:=⟨#[100,101,102,97,117,108,116]⟩
abbrev nY:=Option (Mx×List (Nat×Nat))
def iE (f:List ByteArray) (i:Nat):ByteArray:=f.getD i ⟨#[]⟩
def lineM (p:List bT) (st:nY) (f:List ByteArray):nY×Int :=
 match st with
 | none=>if f.length=2/\iE f 0=gA1/\numMb (iE f 1)=true then (some (newM p.length (numMv (iE f 1)),[]),0) else (none,5)
 | some (m,seen) =>
  if f.length=3/\numMb (iE f 2)=true then
   match posFind p (iE f 0),posFind p (iE f 1) with
   | some a,some b=>if (a,b)∈seen then (some (m,seen),4) else (some (m.setIf ((a:Int),(b:Int)) (numMv (iE f 2)),(a,b)::seen),0)
   | _,_=>(some (m,seen),150)
  else (some (m,seen),5)
def kZ (p:List bT):List ByteArray->Nat->nY->Option Mx×Int×Int
 | [],_,none=>(none,0,5)
 | [],_,some (m,_)=>(some m,0,0)
 | s::r,i,st=>if iK s then kZ p r (i+1) st
  else if (lineM p st (splitS 9 s)).2=0 then kZ p r (i+1) (lineM p st (splitS 9 s)).1 else (none,(i:Int)+1,(lineM p st (splitS 9 s)).2)
def xN (text:ByteArray) (p:List bT):Option Mx×Int×Int :=
 if 1048576<text.size then (none,0,2) else if bP p=true then kZ p (splitS 10 text) 0 none else (none,0,5)
def jS1 (p:List bT) (st:nY):Prop:=∀m seen,st=some (m,seen)->m.OK/\m.n=p.length/\∀x∈seen,x.1<p.length/\x.2<p.length
theorem oZ {s:ByteArray} (h:numMb s=true):0<=numMv s/\numMv s<=30000:=by
 unfold numMb at h;simp only[Ag,decide_eq_true_eq]at h;unfold numMv;rw[h.1];simp;omega
theorem oY {p:List bT} (h:bP p=true):1<=p.length/\p.length<=64:=by
 cases p with
 | nil=>cases h
 | cons p0 r =>
  have h:(decide ((p0::r).length<=64)&&lK p0&&iN (p0::r) (p0::r) 0)=true:=h;simp only[Ag,decide_eq_true_eq]at h;exact⟨by simp,h.1.1⟩
theorem uJ {p:List bT} {name:ByteArray} {k:Nat} (h:posFind p name=some k):k<p.length:=by
 have:=vJ h
 omega
theorem nL0 {p:List bT} (hv:bP p=true) {st:nY} (h:jS1 p st) (f:List ByteArray):jS1 p (lineM p st f).1:=by
 have hl:=oY hv;unfold lineM
 cases st with
 | none =>
  simp only;split
  ·rename_i hc
   intro m seen e;simp only[Option.some.injEq,Prod.mk.injEq]at e;obtain⟨rfl,rfl⟩:=e;have hn:=oZ hc.2.2;exact⟨yN (lD.2 ⟨by omega,by omega,hn.1,hn.2⟩),by simp[newM],λx hx=>by cases hx⟩
  ·exact h
 | some ms =>
  obtain⟨m,seen⟩:=ms;simp only;split
  ·split
   ·rename_i a b ha hb
    split
    ·exact h
    ·intro m' f8 e
     simp only[Option.some.injEq,Prod.mk.injEq]at e;obtain⟨rfl,rfl⟩:=e;obtain⟨h1,h2,h3⟩:=h m seen rfl;refine⟨h1.setIf _ _,by rw[wG0];exact h2,λx hx=>?_⟩;rcases List.mem_cons.1 hx with rfl|hx
     ·exact⟨uJ ha,uJ hb⟩
     ·exact h3 x hx
   ·exact h
  ·exact h
theorem rS (p:List bT) (s:ByteArray) (r:List ByteArray) (i:Nat) (st:nY):kZ p (s::r) i st=if iK s then kZ p r (i+1) st
  else if (lineM p st (splitS 9 s)).2=0 then kZ p r (i+1) (lineM p st (splitS 9 s)).1 else (none,(i:Int)+1,(lineM p st (splitS 9 s)).2):=by
 cases st<;>rfl
end
end Go.Proofs.YtiopheoljccmpaaGreatDoor
