/- The texts OpenSrc, one behind the other. -/
import Derived.Test.YtheiocndipepaaaGreatDoorKq16
import Derived.Test.YtheiocndipepaaaGreatDoorKq22
open List renaming getElem?_eq_getElem → Aa,length → Ab
open Or renaming elim → Ac
namespace Go.Proofs.YtheiocndipepaaaGreatDoor
set_option maxRecDepth 100000
open Go Go.ChangeShapes Go.WideShapes Go.ChangeAt Go.RowKit Go.Shelf Go.Lib
open Go.ChangeMaps (open_string shut_string)
structure oW1 (x:lZ1):Prop where
 r:(Lit.int .i64 x.r).wf=true
 l:(Lit.int .i64 x.l).wf=true
 c:(Lit.int .i64 x.c).wf=true
theorem lO1 {H:Type} {enc:TypeId×Value->H} {W:World} {base:Nat} {sp:Nat->Bool} {hd:Bool} (n:Nat) (cs:List Value) (x:DataW H×List MemPlace) (hl:cs.length=3) (h:DataW.trod enc Tryz.prog W base sp hd n 92 cs=some x) :
  ∃y:lZ1,cs=oJ1 y/\oW1 y:=by
 obtain⟨xs,n,_,hx,_,an,ci⟩:=DataW.trod_struct Tryz.underlying92 h
 match cs,hl with
 | [c0,c1,c2],_ =>
  match xs,an with
  | [y0,y1,y2],_ =>
   have g0:=ci 0 _ rfl;have g1:=ci 1 _ rfl;have g2:=ci 2 _ rfl;obtain⟨n0,k0,_,z0⟩:=DataW.trod_int Tryz.underlying3 g0;obtain⟨n1,k1,_,z1⟩:=DataW.trod_int Tryz.underlying3 g1;obtain⟨n2,k2,_,z2⟩:=DataW.trod_int Tryz.underlying3 g2;refine⟨⟨n0,n1,n2⟩,?_,⟨z0,z1,z2⟩⟩;have e0:c0=.int .i64 n0:=by injection k0
   have e1:c1=.int .i64 n1:=by injection k1
   have e2:c2=.int .i64 n2:=by injection k2
   subst e0 e1 e2;rfl
structure kY1 (x:cH):Prop where
 n:x.name.size<=maxLen
 k:(Lit.int .i64 x.kind).wf=true
theorem gH1 {H:Type} {enc:TypeId×Value->H} {W:World} {base:Nat} {sp:Nat->Bool} {hd:Bool} (n:Nat) (cs:List Value) (x:DataW H×List MemPlace) (hl:cs.length=2) (h:DataW.trod enc Tryz.prog W base sp hd n 126 cs=some x) :
  ∃y:cH,cs=bG y/\kY1 y:=by
 obtain⟨xs,n,_,hx,_,an,ci⟩:=DataW.trod_struct Tryz.underlying126 h
 match cs,hl with
 | [c0,c1],_ =>
  match xs,an with
  | [y0,y1],_ =>
   have g0:=ci 0 _ rfl;have g1:=ci 1 _ rfl;obtain⟨s0,k0,_,z0⟩:=DataW.trod_string Tryz.underlying9 g0;obtain⟨n1,k1,_,z1⟩:=DataW.trod_int Tryz.underlying3 g1;refine⟨⟨s0,n1⟩,?_,⟨z0,z1⟩⟩;have e0:c0=.string s0:=by injection k0
   have e1:c1=.int .i64 n1:=by injection k1
   subst e0 e1;rfl
theorem iH1 {cs:Array Value} {a b c d:Value} (hs:cs.size=4) (h0:(cs.toList.drop 0).take 1=[a]) (h1:(cs.toList.drop 1).take 1=[b]) (h2:(cs.toList.drop 2).take 1=[c]) (h3:(cs.toList.drop 3).take 1=[d]):cs = #[a,b,c,d]:=by
 obtain⟨l⟩:=cs
 match l,hs with
 | [x0,x1,x2,x3],_ =>
  simp at h0 h1 h2 h3;subst h0 h1 h2 h3;rfl
section
variable {H:Type} {enc:TypeId×Value->H} {P:Program} {w:World} {base:Nat} {spare:Nat->Bool} {held:Bool}
theorem wY {α:Type} {cells:α->List Value} {OK:α->Prop} {t e:TypeId} {k cn:Nat} {cs0:List Value} {x0:DataW H×List MemPlace} (ht:P.underlying t=some (.slice e)) (hC:P.cellsOf e=k) (hk:0<k) (an:∀y,(cells y).length=k)
  (afp:∀(n:Nat) (cs:List Value) (x:DataW H×List MemPlace),cs.length=k->DataW.trod enc P w base spare held n e cs=some x->∃y:α,cs=cells y/\OK y)
  (hf:DataW.trod enc P w base spare held cn t cs0=some x0) :
  ∃(a:Option Addr) (l:List α) (cap:Nat),cs0=[.slice a l.length cap]/\aF w a k (l.map cells)/\(∀x∈l,OK x)/\(x0.1=.nil/\l=[]\/∃el sp,x0.1=.slice el sp/\el.length=l.length)/\(a=none->cap=0):=by
 rcases Go.Deep.open_slice ht hf with ⟨h1,h2⟩|⟨a',len,cap,m,n,D,Pl,h1,hb,ia,akc,hm,hx,hi⟩
 ·subst h1 h2
  exact⟨none,[],0,rfl,aF.nil _ _ _,by simp,Or.inl ⟨rfl,rfl⟩,λ_=>rfl⟩
 ·subst h1 hx
  obtain⟨l,hl,hp⟩:=eP0 (P:=λi (y:α)=>OK y/\∀(j:Nat) (u:Value),(cells y)[j]?=some u->w.cell? (a'.add (i*k+j))=some u) len (λi ae=>by
   have him:i<m:=by rw[hm];split<;>omega
   obtain⟨cs,er,htr⟩:=hi i him;rw[hC]at er;obtain⟨_,bh,ac⟩:=World.cells?_some er;obtain⟨y,rfl,ah⟩:=afp _ _ _ bh htr;refine⟨y,ah,λj u hu=>?_⟩;have hj:j<k:=by rw[<-bh];exact(List.getElem?_eq_some_iff.1 hu).1
   rw[<-Go.Deep.add_add];exact(ac j hj).trans hu)
  subst hl;refine⟨some a',l,cap,rfl,λai=>?_,λx hx=>?_,Or.inr ⟨_,_,rfl,by simp⟩,λh=>by cases h⟩
  ·have hs:a'.spot=none:=by
    cases l with
    | nil=>simp at ai
    | cons y0 r =>
     have h0:0<(cells y0).length:=by rw[an];exact hk
     have:=(hp 0 y0 rfl).2 0 _ (Aa h0)
     have h2:=zP0 this;rw[Nat.zero_mul,Nat.zero_add]at h2;simpa [Addr.add] using h2
   obtain⟨b,off,s⟩:=a';obtain rfl:s=none:=hs;refine⟨b,off,rfl,λi row fo j u hj=>?_⟩;rw[List.getElem?_map]at fo
   cases ik:l[i]? with
   | none=>rw[ik]at fo;cases fo
   | some y =>
    rw[ik]at fo;obtain rfl:=Option.some.inj fo
    have:=(hp i y ik).2 j u hj
    rw[iJ]at this;rw[Nat.add_assoc];exact this
  ·obtain⟨i,ae,rfl⟩:=List.getElem_of_mem hx
   exact(hp i _ (Aa ae)).1
theorem kB0 {ts:List TypeId} {ds:List (DataW H)} (h:(DataW.weightsEach P ts ds).all (· <= reachBytes)=true) {j:Nat} {t:TypeId} {fs:Array Field} {parts:List (DataW H)} (ht:ts[j]?=some t) (hd:ds[j]?=some (.agg parts)) (hu:P.underlying t=some (.struct fs)) :
  (DataW.weightsEach P (fs.toList.map (·.type)) parts).all (· <= reachBytes)=true:=by
 rw[List.all_eq_true];intro n hn;exact List.all_eq_true.1 h n (DataW.weights_mem_each ht hd n (by simp only[DataW.weights,hu];exact hn))
end
theorem zW {H:Type} {enc:TypeId×Value->H} {W:World} {base b0:Nat} {sp:Nat->Bool} {hd:Bool} {r:Reach} {v:Value} {d:DataW H} {ps:List MemPlace} {ts:List TypeId} {ds:List (DataW H)} {j:Nat}
  (ee:Value.okWide Tryz.prog W r b0 26 v) (h:DataW.Trod enc Tryz.prog W base sp hd 26 v d ps)
  (hz:(DataW.weightsEach Tryz.prog ts ds).all (· <= reachBytes)=true) (htj:ts[j]?=some 26) (hdj:ds[j]?=some d) :
  ∃(x:zB) (A:kQ),v=A.agg x/\mV W A x/\sO x/\(A.ea=none->A.ec=0):=by
 obtain⟨cs,rfl,hs⟩:=okWide_struct Tryz.underlying26 ee;obtain⟨cn,hf⟩:=h;obtain⟨xs,n,_,hx,hl,an,ci⟩:=DataW.trod_struct Tryz.underlying26 hf;have xw:cs.size=4:=hs
 match xs,an with
 | [y0,y1,y2,y3],_ =>
  have g0:=ci 0 _ rfl;have g1:=ci 1 _ rfl;have g2:=ci 2 _ rfl;have g3:=ci 3 _ rfl;obtain⟨pa,p,pc,k0,hp,okp,pr,_⟩:=wY (cells:=bG) (OK:=kY1) Tryz.underlying22 (by kernel_rfl) (by decide) (λ_=>rfl) gH1 g0;obtain⟨n1,k1,_,z1⟩:=DataW.trod_int Tryz.underlying3 g1;obtain⟨sa,s,sc,k2,hs',oks,im,_⟩:=wY (cells:=oJ1) (OK:=oW1) Tryz.underlying23 (by kernel_rfl) (by decide) (λ_=>rfl) lO1 g2;obtain⟨ea,e,ec,k3,he,oke,he2,aih⟩:=wY (cells:=aQ) (OK:=rZ) Tryz.underlying24 (by kernel_rfl) (by decide) lW dT1 g3
  have jb:ds[j]?=some (.agg [y0.1,y1.1,y2.1,y3.1]):=by
   rw[hdj];have e1:=congrArg Prod.fst hx;simpa using e1
  have hw:=kB0 hz htj jb Tryz.underlying26;have l0:=bW0 hw (j:=0) (d:=y0.1) rfl rfl Tryz.underlying22 (of_decide_eq_true (by kernel_rfl)) (Ac pr (λh=>Or.inl ⟨h.1,congrArg Ab h.2⟩) Or.inr);have l2:=bW0 hw (j:=2) (d:=y2.1) rfl rfl Tryz.underlying23 (of_decide_eq_true (by kernel_rfl)) (Ac im (λh=>Or.inl ⟨h.1,congrArg Ab h.2⟩) Or.inr);have l3:=bW0 hw (j:=3) (d:=y3.1) rfl rfl Tryz.underlying24 (of_decide_eq_true (by kernel_rfl)) (Ac he2 (λh=>Or.inl ⟨h.1,congrArg Ab h.2⟩) Or.inr);exact⟨⟨p,n1,s,e⟩,⟨pa,pc,sa,sc,ea,ec⟩,by rw[iH1 xw k0 k1 k2 k3];rfl,⟨hp,hs',he⟩,⟨λy hy=>(okp y hy).n,λy hy=>(oks y hy).c,oke,z1,l0,l2,l3⟩,aih⟩
end Go.Proofs.YtheiocndipepaaaGreatDoor
