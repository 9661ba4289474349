/- The texts SelW, one behind the other. -/
import Derived.Test.YtiopheoljccmpaaGreatDoorCq32
import Derived.Test.YtiopheoljccmpaaGreatDoorCq4
import Derived.Test.YtiopheoljccmpaaGreatDoorCq20
import Derived.Test.YtiopheoljccmpaaGreatDoorShelf3
open Go.World renaming size_alloc → Aa
set_option maxHeartbeats 8000000
namespace Go.Proofs.YtiopheoljccmpaaGreatDoor
set_option maxRecDepth 100000
open Go Go.RowKit Go.Shelf Go.Sort
attribute [local go_sem] aM aP
theorem dY0 (w:World) (m:Nat) (os:Array Obj):aB w (grow (w.drewN m) os):=by
 refine Below.grown (row:=none) (Below.refl _ _) ⟨rfl,rfl,rfl,by simp[grow],λk hk _=>?_⟩ (Nat.le_refl _) (λk h=>by cases h);exact heap_grow_old _ _ (by simpa using hk)
theorem sE0 (l:List Bool) (vb:Nat) (b:Bool) (j k:Nat) (w:World) (hl:l.length<=1048576) (hj:j<l.length) (hb:fQ l j=b) (hk:kS l b j=k) (ah:mZ w vb l) :
  Calls Tryz.prog 97 #[.pointer (some ⟨vb,0,none⟩),.bool b,.int .i64 k] w λe w'=>e=.returned (.int .i64 j)/\aB w w':=by
 obtain⟨W1,dv⟩:=exq (w.alloc (.cells #[.pointer (some ⟨vb,0,none⟩)] 165));obtain⟨W2,ki⟩:=exq (W1.alloc (.cells #[.bool b] 4));obtain⟨W3,pf⟩:=exq (W2.alloc (.cells #[.int .i64 k] 3));have gk:W1.heap.size=w.heap.size+1:=by rw[dv];simp
 have ir:W2.heap.size=w.heap.size+1+1:=by rw[ki,Aa,gk]
 have jv:W3.heap.size=w.heap.size+1+1+1:=by rw[pf,Aa,ir]
 have g1:aB w W1:=by rw[dv];exact aB.alloc _ _
 have g2:aB W1 W2:=by rw[ki];exact aB.alloc _ _
 have g3:aB W2 W3:=by rw[pf];exact aB.alloc _ _
 have gW:aB w W3:=(g1.tr g2).tr g3;have c1:W3.cell? ⟨w.heap.size,0,none⟩=some (.pointer (some ⟨vb,0,none⟩)):=bI0 (cs:=#[.pointer (some ⟨vb,0,none⟩)]) (t:=165) (by rw[<-dv];exact g2.tr g3) rfl 0 _ rfl
 have c2:W3.cell? ⟨w.heap.size+1,0,none⟩=some (.bool b):=by
  have:=bI0 (w:=W1) (w':=W3) (cs:=#[.bool b]) (t:=4) (by rw[<-ki];exact g3) rfl 0 _ rfl
  rwa [gk]at this
 have c3:W3.cell? ⟨w.heap.size+1+1,0,none⟩=some (.int .i64 k):=by
  have:=bI0 (w:=W2) (w':=W3) (cs:=#[.int .i64 k]) (t:=3) (by rw[<-pf];exact aB.refl _) rfl 0 _ rfl
  rwa [ir]at this
 obtain⟨R,hR⟩:=exq (kS l b l.length)
 have uy:k<R:=by
  have hs:kS l b (j+1)=k+1:=by rw[uG,hk,hb];simp
  have:=pY l b (show j+1<=l.length by omega)
  omega
 have CL:=Lib.hid (pQ0 l vb W3 (ah.grows gW))
 have CR:Hid (∀u,aB w u->Calls Tryz.prog 96 #[.pointer (some ⟨vb,0,none⟩),.bool b,.int .i64 (l.length:Nat)] u λe w'=>e=.returned (.int .i64 R)/\u=w'):=by
  intro u hg;have h:=gC0 l vb b l.length u hl hl (ah.grows hg);rw[Nat.min_self,<-hR]at h;exact h
 have acd:∀a c,a<=c->c<l.length->decide (k<kS l b (a+1))=true->decide (k<kS l b (c+1))=true:=λa c hac _ h=>by
  have:=pY l b (show a+1<=c+1 by omega)
  simp only[decide_eq_true_eq] at *;omega
 have SR:Hid (Calls Tryz.prog 159 #[.int .i64 (l.length:Nat),.func (.func 160) #[] #[.pointer (some ⟨w.heap.size,0,none⟩),.pointer (some ⟨w.heap.size+1,0,none⟩),.pointer (some ⟨w.heap.size+1+1,0,none⟩)]] W3.drew λe w'=>e=.returned (.int .i64 j)/\∃q os,w'=grow (W3.drew.drewN q) os):=by
  have h:=Any.sort_Search Tryz.searchI 160 #[.pointer (some ⟨w.heap.size,0,none⟩),.pointer (some ⟨w.heap.size+1,0,none⟩),.pointer (some ⟨w.heap.size+1+1,0,none⟩)] l.length (λi=>decide (k<kS l b (i+1))) W3.drew
   (enters_of Tryz.func160 (by kernel_rfl) rfl) (by omega)
   (λm os i hi=>by
    have hg:aB W3 (grow (W3.drew.drewN m) os):=(aB.drew _).tr (dY0 _ _ _);exact(dF1 l vb _ _ _ b k i _ hl hi (ah.grows (gW.tr hg)) (hg.cell c1) (hg.cell c2) (hg.cell c3)).mono λe w' ⟨he,hw⟩=>⟨he,1,#[],by rw[grow_empty,hw];rfl⟩) acd
  rw[jW1 l b hj hb hk]at h;exact h
 have z1:∀x:Ext aB W3.drew,x.u.cell? ⟨w.heap.size,0,none⟩=some (.pointer (some ⟨vb,0,none⟩)):=aG ((aB.drew W3).cell c1);have z2:∀x:Ext aB W3.drew,x.u.cell? ⟨w.heap.size+1,0,none⟩=some (.bool b):=aG ((aB.drew W3).cell c2);have z3:∀x:Ext aB W3.drew,x.u.cell? ⟨w.heap.size+1+1,0,none⟩=some (.int .i64 k):=aG ((aB.drew W3).cell c3);have hmf:∀(fn:Fn) (first cap:Array Value) (w:World),(Instr.makeFunc fn first cap).run Tryz.prog w=.ok (.func fn first cap) w:=λ_ _ _ _=>rfl
 have jt:¬(k:Int)<0:=by omega
 have akk:(k:Int)<R:=by omega
 have akl:¬(R:Int)<=k:=by omega
 clear ah hR hb hk acd uy gk ir jv g1 g2 g3;go_enter Tryz.func97,Tryz.ntmps97
 go_wp2_with fail
 rw[<-dv,<-ki,<-pf];clear dv ki pf;refine CL.out.mono ?_;rintro e w2 ⟨rfl,rfl⟩;go_wp2_with fail
 refine bH (aT 10 []) (by kernel_rfl) (λd _ _ _ _ h=>by cases d<;>exact h) ?_
 iterate 7 (refine aJ rfl (λK hK=>?_);go_simp;refine hK _ ?_;clear hK K)
 refine aJ rfl (λK hK=>?_);go_simp;apply Exists.intro
 refine⟨λx=>?_,hK _ ?_⟩
 ·go_at_call 96;exact dN0 (CR.out _ (gW.tr ((aB.drew W3).tr x.h)))
 clear hK K;iterate 2 (refine aJ rfl (λK hK=>?_);go_simp;refine hK _ ?_;clear hK K)
 refine bN ?_;go_wp2_with fail
 refine SR.out.mono ?_;rintro e w5 ⟨rfl,q,os,rfl⟩;go_wp2_with fail
 go_ret;exact⟨rfl,gW.tr (dY0 W3 (1+q) os)⟩
end Go.Proofs.YtiopheoljccmpaaGreatDoor
