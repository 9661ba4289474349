/- The texts Wcon, one behind the other. -/
import Derived.Test.YthgklnohcmaopaaGreatDoorLq30
import Derived.Test.YthgklnohcmaopaaGreatDoorShelf2
import Derived.Test.YthgklnohcmaopaaGreatDoorLq16
open List renaming getElem?_eq_getElem → Aa
namespace Go.Proofs.YthgklnohcmaopaaGreatDoor
open Go Go.RowKit Go.Shelf
attribute [local go_sem] aO
theorem gP1 (a:Option Addr) (c g:Nat) (cb:Array Value) (w:World) :
  Calls Tryz.prog 104 #[.slice a 0 c,.func (.func g) #[] cb] w λe w'=>e=.returned (.int .i64 (-1))/\w'=w:=by
 go_enter Tryz.func104,Tryz.ntmps104
 go_wp2
 go_loopw [5,8] (λ_ i wr=>i=.int .i64 0/\wr=w) (λ_ _ _=>0)
 case atStart=>exact⟨rfl,rfl⟩
 case round =>
  obtain⟨rfl,rfl⟩:=hrel;go_wp2
  go_ret;exact⟨rfl,rfl⟩
theorem eE1 (l:List En) (a:Option Addr) (c wb:Nat) (r s:ByteArray) (w:World) (hl:l.length<=9223372036854775807) (ac:aG w a 5 (l.map bF)) (h0:w.cell? ⟨wb,0,none⟩=some (.string r)) (h1:w.cell? ⟨wb,1,none⟩=some (.string s)) :
  Calls Tryz.prog 36 #[.slice a l.length c,.func (.func 38) #[] #[.pointer (some ⟨wb,0,none⟩)]] w λe w'=>e=.returned (.bool (l.any λx=>decide (x.s=s)))/\aB w w':=by
 by_cases aj:l=[]
 ·subst aj
  have C:=Lib.hid (gP1 a c 38 #[.pointer (some ⟨wb,0,none⟩)] w);clear ac h0 h1;show Calls _ _ #[.slice a 0 c,_] _ _
  go_enter Tryz.func36,Tryz.ntmps36
  go_wp2_with (go_at_call 104;refine C.out.mono ?_;rintro e w' ⟨rfl,rfl⟩)
  go_ret;exact⟨rfl,aB.refl _⟩
 ·obtain⟨b,o,rfl,be⟩:=ac.get aj
  obtain⟨x0,m8⟩:∃x,l[0]?=some x:=⟨_,Aa (List.length_pos_iff.2 aj)⟩;have hb:b<w.heap.size:=World.block_lt_of_cell? w _ (be 0 _ m8 0 _ rfl)
  have h:=AnyQ.slices_ContainsFunc Tryz.containsE 5 (λw=>by kernel_rfl) (λw=>by kernel_rfl) bF (λ_=>rfl) (λx:En=>decide (x.s=s)) 38 #[.pointer (some ⟨wb,0,none⟩)] (enters_of Tryz.func38 (by kernel_rfl) rfl) b o l.length c l w
   (λW x hW=>(cQ1 x wb r s W ((show aB w W from hW).cell h0) ((show aB w W from hW).cell h1)).mono λe w' ⟨he,hg⟩=>⟨he,(show aB w W from hW).tr hg⟩) (Nat.le_refl _) hl hb (λj hj i v hi=>by
    have hx:l[j]?=some l[j]!:=by rw[getElem!_pos l j hj];exact Aa hj
    exact be j _ hx i v hi)
  rw[List.take_length]at h;exact h
end Go.Proofs.YthgklnohcmaopaaGreatDoor
