/- The texts W11 W11b W11c W11d SelW, one behind the other. -/
import Derived.Test.YthgklnohcmaopaaGreatDoorTq20
import Derived.Test.YthgklnohcmaopaaGreatDoorTq5
import Derived.Shelf.SlSorted.Search
import Derived.Test.YthgklnohcmaopaaGreatDoorTq26
import Derived.Test.YthgklnohcmaopaaGreatDoorTq29
import Derived.Test.YthgklnohcmaopaaGreatDoorTq4
import Derived.Test.YthgklnohcmaopaaGreatDoorShelf3
open UInt8 renaming ofNat → Aa
open Go.World renaming size_alloc → Ab
open Nat renaming le_refl → Ac
open Go.Lib renaming hid → Ad
set_option maxHeartbeats 8000000
namespace Go.Proofs.YthgklnohcmaopaaGreatDoor
set_option maxRecDepth 100000
section
open Go Go.RowKit
attribute [local go_sem] aK aP
def bls (B:List ByteArray):List (List UInt8):=B.map bl
theorem dO {B:List ByteArray} {k:Nat} {s:ByteArray} (h:B[k]?=some s):nth (bls B) k=bl s:=jM0 (by unfold bls; rw[List.getElem?_map,h]; rfl)
theorem gJ (B:List ByteArray):(bls B).length=B.length:=by simp[bls]
theorem iE0 (s:ByteArray):bl s=s.toList:=(Lib.toList_data s).symm
theorem sH0 (n:Nat):(#[Value.int .u8 ((n:Int)%256),.int .u8 ((n:Int)/256%256),.int .u8 ((n:Int)/65536%256),.int .u8 ((n:Int)/16777216%256)]:Array Value).toList=(leB 4 n).flatMap aV:=by
 have h:leB 4 n=[Aa n,Aa (n/256),Aa (n/65536),Aa (n/16777216)]:=by
  unfold leB;simp[List.range_succ]
 rw[h,nL];simp only[List.map_cons,List.map_nil,UInt8.toNat_ofNat'];congr 1
theorem cW1 {w:World} {n:Nat} {cs:Array Value} {t:TypeId} (h:cs.toList=(leB 4 n).flatMap aV):aF (w.alloc (.cells cs t)) (some ⟨w.heap.size,0,none⟩) 1 ((leB 4 n).map aV):=by
 have aa:=jQ (enc:=aV) (e:=t) (w:=w) (base:=0) (λ_=>rfl) (Nat.zero_le _) (leB 4 n) h (n:=4) (dF 4 n) (by decide);have h4:=dF 4 n;rw[<-h4]at aa;obtain⟨a,c,he,_,_,ac⟩:=aU.at_ bF.len aa;simp only[Value.slice.injEq]at he;rw[he.1];exact ac
theorem tQ (v0:Value) (pre b:List UInt8) (ab:Option Addr) (cb:Nat) (w0 w:World) (ft:aB w0 w) (hp:pre.length<=1099511627776) (hb:b.length<=1099511627776) (f8:aU w w0.heap.size 5 1 aV v0 pre) (ac:aF w ab 1 (b.map aV)) (nl:ab=none->cb=0) (hd:∀q:Addr,ab=some q->some q.block≠v0.ownBlock) :
  Calls Tryz.prog 130 #[v0,.slice ab b.length cb] w λe w'=>∃v,e=.returned v/\aU w' w0.heap.size 5 1 aV v (pre++fF b)/\aB w0 w':=by
 have HD:=Ad hd;have HC:=Ad (sH0 b.length);have hl4:=dF 4 b.length;clear hd;go_enter Tryz.func130,Tryz.ntmps130
 go_wp2_with (first|(at_builtin;refine cY0 bF rfl _ _ rfl w0.heap.size _ pre (leB 4 b.length) rfl (f8.grows (aB.alloc _ _)) (aB.refl _) _ 4 (by rw[hl4];rfl) (cW1 HC.out) (λh=>by cases h) (by omega) (Nat.le_trans ft.size (aB.alloc _ _).size) ?_;intro v1 w1 av hk1 _ aj;have cd:=aj w0 (ft.al _) (Ac _);have dp:=cE0 (ac.grows (aB.alloc _ _)) hk1 HD.out;clear aj hk1)|(at_builtin;refine qM bF rfl _ _ rfl w0.heap.size _ (pre++leB 4 b.length) b rfl av (aB.refl _) ab cb rfl dp nl (by rw[List.length_append];omega) cd.size ?_;intro v2 w2 ag af))
 go_ret;exact⟨_,rfl,by unfold fF;rw[<-List.append_assoc];exact ag,af w0 cd (Ac _)⟩
end
section
open Go Go.RowKit Go.Shelf Go.Sort
attribute [local go_sem] aK aP
theorem aH0 (w:World) (m:Nat) (os:Array Obj):aB w (grow (w.drewN m) os):=by
 refine Below.grown (row:=none) (Below.refl _ _) ⟨rfl,rfl,rfl,by simp[grow],λk hk _=>?_⟩ (Ac _) (λk h=>by cases h);exact heap_grow_old _ _ (by simpa using hk)
theorem mM0 (l:List Bool) (vb:Nat) (b:Bool) (j k:Nat) (w:World) (hl:l.length<=1048576) (hj:j<l.length) (hb:jB l j=b) (hk:jG l b j=k) (ac:lB w vb l) :
  Calls Tryz.prog 124 #[.pointer (some ⟨vb,0,none⟩),.bool b,.int .i64 k] w λe w'=>e=.returned (.int .i64 j)/\aB w w':=by
 obtain⟨W1,cq⟩:=exq (w.alloc (.cells #[.pointer (some ⟨vb,0,none⟩)] 202));obtain⟨W2,i7⟩:=exq (W1.alloc (.cells #[.bool b] 4));obtain⟨W3,jw⟩:=exq (W2.alloc (.cells #[.int .i64 k] 3));have ed:W1.heap.size=w.heap.size+1:=by rw[cq];simp
 have ii:W2.heap.size=w.heap.size+1+1:=by rw[i7,Ab,ed]
 have hs3:W3.heap.size=w.heap.size+1+1+1:=by rw[jw,Ab,ii]
 have g1:aB w W1:=by rw[cq];exact aB.alloc _ _
 have g2:aB W1 W2:=by rw[i7];exact aB.alloc _ _
 have g3:aB W2 W3:=by rw[jw];exact aB.alloc _ _
 have gW:aB w W3:=(g1.tr g2).tr g3;have c1:W3.cell? ⟨w.heap.size,0,none⟩=some (.pointer (some ⟨vb,0,none⟩)):=oR0 (cs:=#[.pointer (some ⟨vb,0,none⟩)]) (t:=202) (by rw[<-cq];exact g2.tr g3) rfl 0 _ rfl
 have c2:W3.cell? ⟨w.heap.size+1,0,none⟩=some (.bool b):=by
  have:=oR0 (w:=W1) (w':=W3) (cs:=#[.bool b]) (t:=4) (by rw[<-i7];exact g3) rfl 0 _ rfl
  rwa [ed]at this
 have c3:W3.cell? ⟨w.heap.size+1+1,0,none⟩=some (.int .i64 k):=by
  have:=oR0 (w:=W2) (w':=W3) (cs:=#[.int .i64 k]) (t:=3) (by rw[<-jw];exact aB.refl _) rfl 0 _ rfl
  rwa [ii]at this
 obtain⟨R,hR⟩:=exq (jG l b l.length)
 have hkR:k<R:=by
  have hs:jG l b (j+1)=k+1:=by rw[rO,hk,hb];simp
  have:=nE l b (show j+1<=l.length by omega)
  omega
 have CL:=Ad (kI0 l vb W3 (ac.grows gW))
 have CR:Hid (∀u,aB w u->Calls Tryz.prog 123 #[.pointer (some ⟨vb,0,none⟩),.bool b,.int .i64 (l.length:Nat)] u λe w'=>e=.returned (.int .i64 R)/\u=w'):=by
  intro u hg;have h:=bY0 l vb b l.length u hl hl (ac.grows hg);rw[Nat.min_self,<-hR]at h;exact h
 have ym:∀a c,a<=c->c<l.length->decide (k<jG l b (a+1))=true->decide (k<jG l b (c+1))=true:=λa c hac _ h=>by
  have:=nE l b (show a+1<=c+1 by omega)
  simp only[decide_eq_true_eq] at *;omega
 have SR:Hid (Calls Tryz.prog 188 #[.int .i64 (l.length:Nat),.func (.func 189) #[] #[.pointer (some ⟨w.heap.size,0,none⟩),.pointer (some ⟨w.heap.size+1,0,none⟩),.pointer (some ⟨w.heap.size+1+1,0,none⟩)]] W3.drew λe w'=>e=.returned (.int .i64 j)/\∃q os,w'=grow (W3.drew.drewN q) os):=by
  have h:=Any.sort_Search Tryz.searchI 189 #[.pointer (some ⟨w.heap.size,0,none⟩),.pointer (some ⟨w.heap.size+1,0,none⟩),.pointer (some ⟨w.heap.size+1+1,0,none⟩)] l.length (λi=>decide (k<jG l b (i+1))) W3.drew
   (enters_of Tryz.func189 (by kernel_rfl) rfl) (by omega)
   (λm os i hi=>by
    have hg:aB W3 (grow (W3.drew.drewN m) os):=(aB.drew _).tr (aH0 _ _ _);exact(xI0 l vb _ _ _ b k i _ hl hi (ac.grows (gW.tr hg)) (hg.cell c1) (hg.cell c2) (hg.cell c3)).mono λe w' ⟨he,hw⟩=>⟨he,1,#[],by rw[grow_empty,hw];rfl⟩) ym
  rw[bV1 l b hj hb hk]at h;exact h
 have z1:∀x:Ext aB W3.drew,x.u.cell? ⟨w.heap.size,0,none⟩=some (.pointer (some ⟨vb,0,none⟩)):=aG ((aB.drew W3).cell c1);have z2:∀x:Ext aB W3.drew,x.u.cell? ⟨w.heap.size+1,0,none⟩=some (.bool b):=aG ((aB.drew W3).cell c2);have z3:∀x:Ext aB W3.drew,x.u.cell? ⟨w.heap.size+1+1,0,none⟩=some (.int .i64 k):=aG ((aB.drew W3).cell c3);have hmf:∀(fn:Fn) (first cap:Array Value) (w:World),(Instr.makeFunc fn first cap).run Tryz.prog w=.ok (.func fn first cap) w:=λ_ _ _ _=>rfl
 have kp:¬(k:Int)<0:=by omega
 have ahu:(k:Int)<R:=by omega
 have ahv:¬(R:Int)<=k:=by omega
 clear ac hR hb hk ym hkR ed ii hs3 g1 g2 g3;go_enter Tryz.func124,Tryz.ntmps124
 go_wp2_with fail
 rw[<-cq,<-i7,<-jw];clear cq i7 jw;refine CL.out.mono ?_;rintro e w2 ⟨rfl,rfl⟩;go_wp2_with fail
 refine bP (bB 10 []) (by kernel_rfl) (λd _ _ _ _ h=>by cases d<;>exact h) ?_
 iterate 7 (refine aO rfl (λK hK=>?_);go_simp;refine hK _ ?_;clear hK K)
 refine aO rfl (λK hK=>?_);go_simp;apply Exists.intro
 refine⟨λx=>?_,hK _ ?_⟩
 ·go_at_call 123;exact yK (CR.out _ (gW.tr ((aB.drew W3).tr x.h)))
 clear hK K;iterate 2 (refine aO rfl (λK hK=>?_);go_simp;refine hK _ ?_;clear hK K)
 refine bU ?_;go_wp2_with fail
 refine SR.out.mono ?_;rintro e w5 ⟨rfl,q,os,rfl⟩;go_wp2_with fail
 go_ret;exact⟨rfl,gW.tr (aH0 W3 (1+q) os)⟩
end
end Go.Proofs.YthgklnohcmaopaaGreatDoor
