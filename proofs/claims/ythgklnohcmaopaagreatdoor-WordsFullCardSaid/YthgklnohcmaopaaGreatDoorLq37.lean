/- The texts GK, one behind the other. -/
import Derived.Test.YthgklnohcmaopaaGreatDoorLq25
import Derived.Test.YthgklnohcmaopaaGreatDoorLq12
import Derived.Test.YthgklnohcmaopaaGreatDoorLq20
import Derived.Maps.AppendAt
namespace Go.Proofs.YthgklnohcmaopaaGreatDoor
open Go Go.RowKit
def GK (b:Nat) (w w':World):Prop:=w.grownBy w' (some b)
theorem GK.refl (b:Nat) (w:World):GK b w w:=lW w _
instance (b:Nat) (w:World):Nonempty (Ext (GK b) w):=⟨⟨w,lW w _⟩⟩
theorem GK.trans (b:Nat) (x y z:World) (h:GK b x y) (k:GK b y z):GK b x z:=World.grownBy.trans h k
theorem GK.of {b:Nat} {w w':World} (h:aB w w'):GK b w w':=h.grownByR _
theorem GK.at_ {b:Nat} {w w':World} (h:GK b w w') {a:Option Addr} {k:Nat} {l:List (List Value)} (ac:aG w a k l) (aj:∀x,a=some x->x.block≠b):aG w' a k l:=λhn=>by
 obtain⟨c,o,rfl,hc⟩:=ac hn;exact⟨c,o,rfl,λi row hi j u hj=>aU h (hc i row hi j u hj) (λe=>aj _ rfl (Option.some.inj e))⟩
theorem GK.base {b:Nat} {w0 w w':World} (h:GK b w w') (hg:aB w0 w) (hb:w0.heap.size<=b):aB w0 w':=hg.grown h (λq hq=>by cases hq; exact hb)
end Go.Proofs.YthgklnohcmaopaaGreatDoor
