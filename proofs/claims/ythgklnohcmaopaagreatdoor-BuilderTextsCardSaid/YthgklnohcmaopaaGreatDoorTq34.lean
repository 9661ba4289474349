/- The texts EntryP, one behind the other. -/
import Derived.Test.YthgklnohcmaopaaGreatDoorTq21
import Derived.Test.YthgklnohcmaopaaGreatDoorTq32
import Derived.Test.YthgklnohcmaopaaGreatDoorTq14
import Derived.Test.YthgklnohcmaopaaGreatDoorTq19
open Bool renaming and_eq_true → Aa,not_eq_true' → Ad
open Nat renaming le_refl → Ab,lt_or_ge → Ai
open Go.Lib renaming itoa → Ac
open List renaming any_eq_false → Ae,append_assoc → Af,singleton_append → Ag,map_cons → Ah,flatMap_cons → Ak,length_cons → Al,nil_append → Am,mem_cons → An
open Int renaming toNat_natCast → Aj
namespace Go.Proofs.YthgklnohcmaopaaGreatDoor
open Go
theorem jB0 (c:UInt8) (s:ByteArray):splitS c s=(cE c s.data.toList).map mkB:=tS c s
theorem nU:∀(n:Nat) (l:List UInt8),l.length<=n->65533∉eU l->Lib.validD l=true
 | 0,l,hl,_=>by
  have:l=[]:=List.eq_nil_of_length_eq_zero (by omega)
  subst this;rfl
 | n+1,l,hl,h=>by
  by_cases ai:l=[]
  ·subst ai;rfl
  ·have an:0<l.length:=List.length_pos_iff.2 ai
   have hw:=Lib.decodeL_width l;rw[eO l ai]at h;rw[Lib.validD_step l ai,if_neg (λhb=>h (by rw[hb.1];exact List.mem_cons_self))];exact nU n _ (by rw[List.length_drop];omega) (λhm=>h (List.mem_cons_of_mem _ hm))
theorem pQ {s:ByteArray} (h:readingS s=true):s.data.toList≠[]/\∀b∈s.data.toList,128<=b.toNat:=by
 rw[mS0]at h;simp only[Aa,decide_eq_true_eq,Ad,Ae]at h;obtain⟨⟨⟨hv,h1⟩,_⟩,ay⟩:=h;refine⟨λe=>by rw[e,nI0]at h1;simp at h1,λb hb=>?_⟩;rcases Ai b.toNat 128 with ae|jn
 ·exfalso
  apply ay _ (kC _ _ (Ab _) hv b hb ae)
  unfold kanaBad pW;simp;omega
 ·exact jn
theorem bG0 {s:ByteArray} (h:surfaceS s=true):∀b∈s.data.toList,32<=b.toNat:=by
 rw[mJ0]at h;simp only[Aa,decide_eq_true_eq,Ad,Ae]at h;obtain⟨⟨⟨hv,h1⟩,_⟩,ay⟩:=h;intro b hb;rcases Ai b.toNat 32 with ae|jn
 ·exfalso
  apply ay _ (kC _ _ (Ab _) hv b hb (by omega))
  unfold surfBad;simp;omega
 ·exact jn
theorem vU {s:ByteArray} (h:fV s=true):∀b∈s.data.toList,32<=b.toNat:=by
 rw[tW]at h;simp only[Aa,decide_eq_true_eq,Ad,Ae]at h;obtain⟨_,ay⟩:=h;have hv:=nU _ _ (Ab _) (λhm=>ay _ hm (by decide));intro b hb;rcases Ai b.toNat 32 with ae|jn
 ·exfalso
  apply ay _ (kC _ _ (Ab _) hv b hb (by omega))
  unfold nameBad;simp;omega
 ·exact jn
theorem eA {l:List UInt8} {k:Nat} (c:UInt8) (h:∀b∈l,k<=b.toNat) (hc:c.toNat<k):c∉l:=λhm=>by have:=h c hm; omega
theorem uP {name:ByteArray}:∀ {l:List bD} {i j:Nat} {p:bD},l[j]?=some p->p.name=name->(fO name l i).isSome=true
 | [],_,_,_,h,_=>by simp at h
 | q::l,i,0,p,h,hn=>by
  obtain rfl:q=p:=by simpa using h
  rw[fO,if_pos (rL.2 hn)];rfl
 | q::l,i,j+1,p,h,hn=>by
  rw[fO];split
  ·rfl
  ·exact uP (by simpa using h) hn
theorem rT0 {p:List bD} (hv:aQ p=true):cO p p 0=true:=by
 cases p with
 | nil=>rfl
 | cons p0 r =>
  have h:(decide ((p0::r).length<=64)&&rE p0&&cO (p0::r) (p0::r) 0)=true:=hv;simp only[Aa]at h;exact h.2
theorem tR {p:List bD} (hv:aQ p=true) {i:Int} (h0:0<=i) (hi:i<p.length):posFind p (dH p i)=some i.toNat/\fV (dH p i)=true:=by
 obtain⟨k,rfl⟩:=Int.eq_ofNat_of_zero_le h0;have hk:k<p.length:=by omega
 have hq:=List.getElem?_eq_getElem hk;have aq:=oU (rT0 hv) hq;rw[Nat.zero_add]at aq;unfold lN at aq;simp only[Aa,beq_iff_eq]at aq;have hn:dH p (k:Int)=p[k].name:=by unfold dH;rw[Aj,hq];rfl
 rw[hn,Aj];have hs:=uP (i:=0) hq rfl;obtain⟨j,hj⟩:=Option.isSome_iff_exists.1 hs;refine⟨?_,aq.1.1.2⟩;have h1:=aq.1.1.1;have wz:posFind p p[k].name=some j:=hj;rw[wz]at h1 ⊢
 have:(j:Int)=k:=h1
 rw[show j=k by omega]
def jO (p:List bD) (x:En):List UInt8:=xJ 9 [x.r.data.toList,x.s.data.toList,(dH p x.l).data.toList,(dH p x.t).data.toList,Ac x.c]
theorem uR (p:List bD) (x:En):iN p x=jO p x++[10]:=by
 unfold iN jO;rw[Ah,kN0];rfl
theorem sR {x:En} {n:Int} (h:checkE x n=0):readingS x.r=true/\surfaceS x.s=true:=by
 unfold checkE checkS at h;split at h
 ·rename_i hc
  simpa using hc
 ·omega
theorem oH {c:Int} (h0:0<=c):Ac c=Lib.decDigits c.toNat:=by
 unfold Ac;rw[if_neg (by omega)]
structure zN0 (p:List bD) (x:En):Prop where
 r:∀b∈x.r.data.toList,32<=b.toNat
 s:∀b∈x.s.data.toList,32<=b.toNat
 l:∀b∈(dH p x.l).data.toList,32<=b.toNat
 t:∀b∈(dH p x.t).data.toList,32<=b.toNat
 c:∀b∈Ac x.c,32<=b.toNat
theorem jA0 {p:List bD} {x:En} (hv:aQ p=true) (h:checkE x p.length=0):zN0 p x:=by
 obtain⟨h1,h2,h3,h4,h5,h6⟩:=wU h;obtain⟨hr,hs⟩:=sR h;refine⟨λb hb=>?_,bG0 hs,vU (tR hv h1 h2).2,vU (tR hv h3 h4).2,λb hb=>?_⟩
 ·have:=(pQ hr).2 b hb;omega
 ·rw[oH h5]at hb
  have:=qR0 (iA _ _ (Ab _)) hb;omega
theorem zG0 {p:List bD} {x:En} (h:zN0 p x):cE 9 (jO p x)=[x.r.data.toList,x.s.data.toList,(dH p x.l).data.toList,(dH p x.t).data.toList,Ac x.c]:=by
 refine oK 9 (by simp) λy hy=>?_;simp only[An,List.not_mem_nil,or_false]at hy;rcases hy with rfl|rfl|rfl|rfl|rfl
 ·exact eA 9 h.r (by decide)
 ·exact eA 9 h.s (by decide)
 ·exact eA 9 h.l (by decide)
 ·exact eA 9 h.t (by decide)
 ·exact eA 9 h.c (by decide)
theorem rK0 {p:List bD} {x:En} (h:zN0 p x):(10:UInt8)∉jO p x:=by
 unfold jO;simp only[xJ,List.mem_append,An,not_or];exact⟨eA 10 h.r (by decide),by decide,eA 10 h.s (by decide),by decide,eA 10 h.l (by decide),by decide,eA 10 h.t (by decide),by decide,eA 10 h.c (by decide)⟩
theorem qS0 {p:List bD} {x:En} {n:Int} (h:checkE x n=0):cF (mkB (jO p x))=false:=by
 obtain⟨ai,hr⟩:=pQ (sR h).1;unfold cF;rw[bQ];unfold jO
 cases hl:x.r.data.toList with
 | nil=>exact absurd hl ai
 | cons b r =>
  have:=hr b (by rw[hl];simp)
  have jb:¬b=35:=λe=>by subst e;simp at this
  simp[xJ,jb]
theorem pR0 {p:List bD} {x:En} (hv:aQ p=true) (h:checkE x p.length=0):readS (mkB (jO p x)) p=(x,0):=by
 have hc:=jA0 hv h;obtain⟨h1,h2,h3,h4,h5,h6⟩:=wU h
 have hsp:splitS 9 (mkB (jO p x))=[x.r,x.s,dH p x.l,dH p x.t,mkB (Ac x.c)]:=by
  rw[jB0,bQ,zG0 hc];simp only[Ah,List.map_nil,xO]
 have aq:numOK (mkB (Ac x.c)).data.toList=true:=by rw[bQ,oH h5];exact cT0 (by omega)
 have mz:numV (mkB (Ac x.c))=x.c:=by
  unfold numV;rw[if_pos aq,bQ,oH h5,lE _ _ (Ab _)];omega
 unfold readS;rw[hsp];simp only[aq,if_true,mz,(tR hv h1 h2).1,(tR hv h3 h4).1];have e1:idxI (some x.l.toNat)=x.l:=by show ((x.l.toNat:Nat):Int)=x.l;omega
 have e2:idxI (some x.t.toNat)=x.t:=by show ((x.t.toNat:Nat):Int)=x.t;omega
 rw[e1,e2];have hck:checkS x.r x.s x.l x.t x.c p.length=0:=h;rw[hck];rfl
theorem zR {p:List bD}:∀ {l:List En} {acc:List UInt8},(∀x∈l,checkE x p.length=0)->dP p l acc=(acc++l.flatMap (iN p),0)
 | [],acc,_=>by simp[dP]
 | x::r,acc,h=>by
  rw[lQ,if_neg (by simp[h x (by simp)]),zR (λy hy=>h y (by simp[hy]))];simp
theorem xC {p:List bD}:∀ {l:List En} {acc:List UInt8},(dP p l acc).2=0->∀x∈l,checkE x p.length=0
 | [],_,_,x,hx=>by cases hx
 | y::r,acc,h,x,hx=>by
  rw[lQ]at h;split at h
  ·rename_i hc;exact absurd h hc
  ·rename_i hc
   rcases List.mem_cons.1 hx with rfl|hx
   ·omega
   ·exact xC h x hx
theorem vB {p:List bD} (hv:aQ p=true):∀ {l:List En} (rest:List UInt8),(∀x∈l,checkE x p.length=0)->cE 10 (l.flatMap (iN p)++rest)=l.map (jO p)++cE 10 rest
 | [],rest,_=>by simp
 | x::r,rest,h=>by
  rw[Ak,uR,Af,Af,Ag,gE _ (rK0 (jA0 hv (h x (by simp)))),vB hv rest (λy hy=>h y (by simp[hy]))];rfl
theorem nT {p:List bD} (hv:aQ p=true) (ls:List ByteArray):∀ {l:List En} {i:Nat} {out:List En},(∀x∈l,checkE x p.length=0)->out.length+l.length<=20000 ->
  cU p (l.map (λx=>mkB (jO p x))++ls) i out=cU p ls (i+l.length) (out++l)
 | [],i,out,_,_=>by simp
 | x::r,i,out,h,hn=>by
  simp only[Al]at hn;have hx:=h x (by simp);rw[Ah,List.cons_append,lP,qS0 hx];have hr:=pR0 hv hx
  have hl:oR p (mkB (jO p x)) out.length=0:=by
   unfold oR;rw[hr,if_neg (by omega)]
  rw[hl,hr];simp only[Bool.false_eq_true,if_false,ne_eq,not_true_eq_false];rw[nT hv ls (λy hy=>h y (by simp[hy])) (by simp;omega)];rw[Af,Ag,Al,show i+1+r.length=i+(r.length+1) by omega]
theorem tJ (p:List bD) (i:Nat) (out:List En):cU p [mkB []] i out=(out,0,0):=by
 rw[lP];rfl
theorem print_parse {l:List En} {p:List bD} (h:(printS l p).2=0):pK (mkB (printS l p).1) p=(l,0,0):=by
 unfold printS at h ⊢;split at h
 ·rename_i hv
  split at h
  ·exact absurd h (by decide)
  ·rename_i hn
   split at h
   ·rename_i he;exact absurd h he
   ·rename_i he
    split at h
    ·exact absurd h (by decide)
    ·rename_i hz
     rw[if_pos hv,if_neg hn,if_neg he,if_neg hz];have ay:=xC (p:=p) (l:=l) (acc:=[]) (by omega);have hg:=zR (acc:=[]) ay;rw[hg]at hz ⊢;simp only[Am]at hz ⊢;unfold pK;rw[if_pos hv,if_neg (by rw[Lib.size_eq,bQ];omega),jB0,bQ];have hs:=vB hv [] ay;rw[List.append_nil]at hs;rw[hs,List.map_append,List.map_map];show cU p (l.map (λx=>mkB (jO p x))++[mkB []]) 0 []=_
     rw[nT hv _ ay (by simp;omega),tJ,Am]
 ·exact absurd h (by decide)
theorem print_len {l:List En} {p:List bD}:(l.flatMap (iN p)).length=(l.map λx=>(jO p x).length+1).sum:=by
 induction l with
 | nil=>rfl
 | cons x r ih=>rw[Ak,List.length_append,ih,uR];simp
end Go.Proofs.YthgklnohcmaopaaGreatDoor
