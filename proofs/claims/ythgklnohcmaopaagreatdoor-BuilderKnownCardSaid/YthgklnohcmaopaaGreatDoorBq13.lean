/- The texts UtfP Ref1 Ref1N, one behind the other. -/
import Derived.Lib.ValidLaws
import Derived.Lib.RuneCount
import Derived.Shelf.GgClosure.StringsIndexFunc
import Derived.Test.YthgklnohcmaopaaGreatDoorBq1
import Derived.Test.YthgklnohcmaopaaGreatDoorProg
open Go.Lib renaming decodeN → Aa,decodeL → Ab,decodeL_width → Ac,runeCountFrom → Ad,decodeL_drop → Ae,idxFuncFrom → Af,width_pos → Ag,idxFunc → Ah
namespace Go.Proofs.YthgklnohcmaopaaGreatDoor
section
open Go
def lT:Nat->List UInt8->List Nat
 | 0,_=>[]
 | n+1,l=>if l=[] then [] else (Ab l).1::lT n (l.drop (Ab l).2)
def lW (l:List UInt8):List Nat:=lT l.length l
theorem dA0:∀n,lT n []=[]
 | 0=>rfl
 | _+1=>by simp[lT]
theorem qV:∀(n m:Nat) (l:List UInt8),l.length<=n->l.length<=m->lT n l=lT m l
 | 0,m,l,hn,_=>by
  grind [dA0]
 | n+1,0,l,_,hm=>by
  grind [lT]
 | n+1,m+1,l,hn,hm=>by
  unfold lT;by_cases aq:l=[]
  ·simp[aq]
  ·have hw:=Ac l
   have hl:0<l.length:=by grind
   rw[if_neg aq,if_neg aq,qV n m (l.drop (Ab l).2) (by grind) (by grind)]
theorem kU (l:List UInt8) (aq:l≠[]):lW l=(Ab l).1::lW (l.drop (Ab l).2):=by
 have hl:0<l.length:=by grind
 have hw:=Ac l;obtain⟨n,hn⟩:∃n,l.length=n+1:=by simp_all
 unfold lW;rw[hn];show (if l=[] then [] else _)=_
 rw[if_neg aq,qV n (l.drop (Ab l).2).length _ (by simp_all) (Nat.le_refl _)]
theorem jA {s:ByteArray} {pos:Nat}:s.data.toList.drop pos=[]↔¬pos<s.size:=by
 simp_all
theorem cB0 {s:ByteArray} {pos k:Nat}:(s.data.toList.drop pos).drop k=s.data.toList.drop (pos+k):=by rw[List.drop_drop]
theorem uB (s:ByteArray):∀(f pos:Nat),s.size<=pos+f->Ad s f pos=(lW (s.data.toList.drop pos)).length
 | 0,pos,h=>by
  have h0:s.data.toList.drop pos=[]:=jA.2 (by omega);rw[h0];rfl
 | f+1,pos,h=>by
  unfold Ad;by_cases hp:pos<s.size
  ·have hw:=Ag s pos
   rw[if_pos hp,uB s f _ (by omega),kU _ (λe=>jA.1 e hp),Ae,cB0,List.length_cons];omega
  ·rw[if_neg hp,jA.2 hp];rfl
theorem aS0 (p:Nat->Bool) (s:ByteArray):∀(f pos:Nat),s.size<=pos+f->decide (0<=Af p true s f pos)=(lW (s.data.toList.drop pos)).any p
 | 0,pos,h=>by
  have h0:s.data.toList.drop pos=[]:=by simp_all
  rw[h0];rfl
 | f+1,pos,h=>by
  unfold Af;by_cases hp:pos<s.size
  ·have hw:=Ag s pos
   rw[if_pos hp,kU _ (by simp_all),Ae,cB0,List.any_cons,<-aS0 p s f _ (by omega)];grind
  ·rw[if_neg hp,jA.2 hp];rfl
theorem yK0 (p:Nat->Bool) (s:ByteArray):decide (0<=Ah p true s)=(lW s.data.toList).any p:=by
 unfold Ah;grind [aS0]
theorem yH (n b0 b1 b2 b3:Nat) (h1:b1<256) (h2:b2<256) (h3:b3<256) (hv:¬((Aa n b0 b1 b2 b3).1=65533/\(Aa n b0 b1 b2 b3).2=1)) :
  (b0<128/\(Aa n b0 b1 b2 b3)=(b0,1))\/(128<=b0/\(Aa n b0 b1 b2 b3).2<=n/\(2<=(Aa n b0 b1 b2 b3).2->128<=b1)/\(3<=(Aa n b0 b1 b2 b3).2->128<=b2)/\(4<=(Aa n b0 b1 b2 b3).2->128<=b3)/\(Aa n b0 b1 b2 b3).2<=4/\128<=(Aa n b0 b1 b2 b3).1):=by
 unfold Aa at *;repeat' split
 all_goals first
  | (left;exact⟨by assumption,rfl⟩)
  | (right;refine⟨by omega,?_,?_,?_,?_,?_,?_⟩<;>simp only<;>omega)
  | simp_all
  | (exfalso;apply hv;(repeat' split)<;>first|exact⟨rfl,rfl⟩|(exfalso;omega))
end
section
open Go Go.RowKit
attribute [local go_sem] aM
end
end Go.Proofs.YthgklnohcmaopaaGreatDoor
