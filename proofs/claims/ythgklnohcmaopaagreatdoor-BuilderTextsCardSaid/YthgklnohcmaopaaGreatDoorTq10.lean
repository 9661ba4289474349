/- The texts UtfP Ref1 Ref1N, one behind the other. -/
import Derived.Lib.ValidLaws
import Derived.Lib.RuneCount
import Derived.Shelf.GgClosure.StringsIndexFunc
import Derived.Test.YthgklnohcmaopaaGreatDoorTq1
import Derived.Test.YthgklnohcmaopaaGreatDoorProg
open Go.Lib renaming decodeL → Aa,decodeN → Ab,decodeL_width → Ac,runeCountFrom → Ae,decodeL_drop → Af,idxFuncFrom → Ah,width_pos → Ai,runeCount → Aj,decodeL_N → Ak,idxFunc → Al
open UInt8 renaming toNat_lt → Ad
open List renaming length_drop → Ag
namespace Go.Proofs.YthgklnohcmaopaaGreatDoor
section
open Go
def mL:Nat->List UInt8->List Nat
 | 0,_=>[]
 | n+1,l=>if l=[] then [] else (Aa l).1::mL n (l.drop (Aa l).2)
def eU (l:List UInt8):List Nat:=mL l.length l
theorem iN0:∀n,mL n []=[]
 | 0=>rfl
 | _+1=>by simp[mL]
theorem sL:∀(n m:Nat) (l:List UInt8),l.length<=n->l.length<=m->mL n l=mL m l
 | 0,m,l,hn,_=>by
  grind [iN0]
 | n+1,0,l,_,hm=>by
  grind [mL]
 | n+1,m+1,l,hn,hm=>by
  unfold mL;by_cases ai:l=[]
  ·simp[ai]
  ·have hw:=Ac l
   have hl:0<l.length:=by grind
   rw[if_neg ai,if_neg ai,sL n m (l.drop (Aa l).2) (by grind) (by grind)]
theorem nI0:eU []=[]:=rfl
theorem eO (l:List UInt8) (ai:l≠[]):eU l=(Aa l).1::eU (l.drop (Aa l).2):=by
 have hl:0<l.length:=by grind
 have hw:=Ac l;obtain⟨n,hn⟩:∃n,l.length=n+1:=by simp_all
 unfold eU;rw[hn];show (if l=[] then [] else _)=_
 rw[if_neg ai,sL n (l.drop (Aa l).2).length _ (by simp_all) (Nat.le_refl _)]
theorem jJ {s:ByteArray} {pos:Nat}:s.data.toList.drop pos=[]↔¬pos<s.size:=by
 simp_all
theorem dA0 {s:ByteArray} {pos k:Nat}:(s.data.toList.drop pos).drop k=s.data.toList.drop (pos+k):=by rw[List.drop_drop]
theorem mF (s:ByteArray):∀(f pos:Nat),s.size<=pos+f->Ae s f pos=(eU (s.data.toList.drop pos)).length
 | 0,pos,h=>by
  have h0:s.data.toList.drop pos=[]:=jJ.2 (by omega);rw[h0];rfl
 | f+1,pos,h=>by
  unfold Ae;by_cases hp:pos<s.size
  ·have hw:=Ai s pos
   rw[if_pos hp,mF s f _ (by omega),eO _ (λe=>jJ.1 e hp),Af,dA0,List.length_cons];omega
  ·rw[if_neg hp,jJ.2 hp];rfl
theorem wZ (s:ByteArray):Aj s=(eU s.data.toList).length:=by
 unfold Aj;grind [mF]
theorem eE0 (p:Nat->Bool) (s:ByteArray):∀(f pos:Nat),s.size<=pos+f->decide (0<=Ah p true s f pos)=(eU (s.data.toList.drop pos)).any p
 | 0,pos,h=>by
  have h0:s.data.toList.drop pos=[]:=by simp_all
  rw[h0];rfl
 | f+1,pos,h=>by
  unfold Ah;by_cases hp:pos<s.size
  ·have hw:=Ai s pos
   rw[if_pos hp,eO _ (by simp_all),Af,dA0,List.any_cons,<-eE0 p s f _ (by omega)];grind
  ·rw[if_neg hp,jJ.2 hp];rfl
theorem vO0 (p:Nat->Bool) (s:ByteArray):decide (0<=Al p true s)=(eU s.data.toList).any p:=by
 unfold Al;grind [eE0]
theorem qB (n b0 b1 b2 b3:Nat) (h1:b1<256) (h2:b2<256) (h3:b3<256) (hv:¬((Ab n b0 b1 b2 b3).1=65533/\(Ab n b0 b1 b2 b3).2=1)) :
  (b0<128/\(Ab n b0 b1 b2 b3)=(b0,1))\/(128<=b0/\(Ab n b0 b1 b2 b3).2<=n/\(2<=(Ab n b0 b1 b2 b3).2->128<=b1)/\(3<=(Ab n b0 b1 b2 b3).2->128<=b2)/\(4<=(Ab n b0 b1 b2 b3).2->128<=b3)/\(Ab n b0 b1 b2 b3).2<=4/\128<=(Ab n b0 b1 b2 b3).1):=by
 unfold Ab at *;repeat' split
 all_goals first
  | (left;exact⟨by assumption,rfl⟩)
  | (right;refine⟨by omega,?_,?_,?_,?_,?_,?_⟩<;>simp only<;>omega)
  | simp_all
  | (exfalso;apply hv;(repeat' split)<;>first|exact⟨rfl,rfl⟩|(exfalso;omega))
theorem kC:∀(n:Nat) (l:List UInt8),l.length<=n->Lib.validD l=true->∀b,b∈l->b.toNat<128->b.toNat∈eU l
 | 0,l,hl,_,b,hb,_=>by
  have:l=[]:=List.eq_nil_of_length_eq_zero (by omega)
  subst this;cases hb
 | n+1,l,hl,hv,b,hb,ae=>by
  have ai:l≠[]:=by rintro rfl;cases hb
  rw[Lib.validD_step l ai]at hv;rw[eO l ai];have hw:=Ac l;split at hv
  ·cases hv
  ·rename_i ee
   have an:0<l.length:=List.length_pos_iff.2 ai;have ih:=kC n (l.drop (Aa l).2) (by rw[Ag];omega) hv b;have hd:=qB l.length (l.getD 0 0).toNat (l.getD 1 0).toNat (l.getD 2 0).toNat (l.getD 3 0).toNat (Ad _) (Ad _) (Ad _) (by rw[<-Ak];exact ee);rw[<-Ak]at hd;by_cases ff:b∈l.drop (Aa l).2
   ·exact List.mem_cons_of_mem _ (ih ff ae)
   ·obtain⟨i,hi,rfl⟩:=List.getElem_of_mem hb
    have jf:i<(Aa l).2:=by
     rcases Nat.lt_or_ge i (Aa l).2 with h|h
     ·exact h
     ·exfalso
      apply ff
      have:l[i]=(l.drop (Aa l).2)[i-(Aa l).2]'(by rw[Ag];omega):=by
       rw[List.getElem_drop];congr 1;omega
      rw[this];exact List.getElem_mem _
    have gi:l.getD i 0=l[i]:=by simp[List.getD,hi]
    rcases hd with ⟨h1,h2⟩|⟨h1,_,h3,h4,h5,h6,_⟩
    ·rw[h2]at jf ⊢
     simp only at jf;obtain rfl:i=0:=by omega
     rw[gi];exact List.mem_cons_self
    ·exfalso
     have:i=0\/i=1\/i=2\/i=3:=by omega
     rcases this with rfl|rfl|rfl|rfl
     ·rw[gi]at h1;omega
     ·have:=h3 (by omega);rw[gi]at this;omega
     ·have:=h4 (by omega);rw[gi]at this;omega
     ·have:=h5 (by omega);rw[gi]at this;omega
end
section
open Go Go.RowKit
attribute [local go_sem] aK
end
end Go.Proofs.YthgklnohcmaopaaGreatDoor
