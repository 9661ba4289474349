/- The texts DecN, one behind the other. -/
import Derived.Test.YthgklnohcmaopaaGreatDoorTq23
import Derived.Test.YthgklnohcmaopaaGreatDoorTq12
set_option maxHeartbeats 2000000
namespace Go.Proofs.YthgklnohcmaopaaGreatDoor
set_option maxRecDepth 100000
open Go Go.RowKit
attribute [local go_sem] aK aP
theorem wO0 (b:List UInt8) (k:Nat) (ba:Option Addr) (bc:Nat) (w:World) (hk:k<=b.length) (hb:b.length<=1099511627776) (ac:aF w ba 1 (b.map aV)) :
  Calls Tryz.prog 145 #[.slice ba b.length bc,.int .i64 k] w λe w'=>e=.returned (sR0 k (rdU (b.drop k)))/\aB w w':=by
 have CR:=Lib.hid (xZ0 b k ba bc w hk hb ac)
 cases hR:rdU (b.drop k) with
 | none =>
  rw[hR]at CR;unfold sR0 at CR ⊢;clear hR ac;go_enter Tryz.func145,Tryz.ntmps145
  go_wp2_with fail
  refine CR.out.mono ?_;rintro e w1 ⟨rfl,hg⟩;go_wp2_with fail
  go_ret3;exact⟨rfl,hg⟩
 | some x =>
  obtain⟨v,n⟩:=x;rw[hR]at CR;unfold sR0 at CR ⊢;obtain⟨K,hK⟩:=exq (k+n);simp only[<-hK]at CR ⊢;clear hR ac hK;go_enter Tryz.func145,Tryz.ntmps145
  go_wp2_with fail
  refine CR.out.mono ?_;rintro e w1 ⟨rfl,hg⟩;go_wp2_with fail
  go_ret3;exact⟨rfl,hg⟩
end Go.Proofs.YthgklnohcmaopaaGreatDoor
