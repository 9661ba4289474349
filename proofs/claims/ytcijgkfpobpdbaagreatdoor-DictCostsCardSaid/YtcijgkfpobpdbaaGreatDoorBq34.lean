/- The texts W11d SelW PkF, one behind the other. -/
import Derived.Test.YtcijgkfpobpdbaaGreatDoorBq26
import Derived.Test.YtcijgkfpobpdbaaGreatDoorBq27
import Derived.Test.YtcijgkfpobpdbaaGreatDoorBq33
import Derived.Test.YtcijgkfpobpdbaaGreatDoorBq1
import Derived.Test.YtcijgkfpobpdbaaGreatDoorBq21
import Derived.Test.YtcijgkfpobpdbaaGreatDoorShelf3
import Derived.Test.YtcijgkfpobpdbaaGreatDoorBq24
open Nat renaming le_refl → Aa,le_trans → Ah
open UInt8 renaming ofNat → Ab
open Go.Lib renaming hid → Ac
open List renaming length_append → Ad,append_assoc → Ae,range → Ag
open Go.World renaming size_alloc → Af
set_option maxHeartbeats 8000000
namespace Go.Proofs.YtcijgkfpobpdbaaGreatDoor
set_option maxRecDepth 100000
section
open Go Go.RowKit
attribute [local go_sem] aQ aM
theorem lS0 (n:Nat):(#[Value.int .u8 ((n:Int)%256),.int .u8 ((n:Int)/256%256),.int .u8 ((n:Int)/65536%256),.int .u8 ((n:Int)/16777216%256)]:Array Value).toList=(leB 4 n).flatMap aX:=by
 have h:leB 4 n=[Ab n,Ab (n/256),Ab (n/65536),Ab (n/16777216)]:=by
  unfold leB;simp[List.range_succ]
 rw[h,qL];simp only[List.map_cons,List.map_nil,UInt8.toNat_ofNat'];congr 1
theorem iG1 {w:World} {n:Nat} {cs:Array Value} {t:TypeId} (h:cs.toList=(leB 4 n).flatMap aX):aF (w.alloc (.cells cs t)) (some ⟨w.heap.size,0,none⟩) 1 ((leB 4 n).map aX):=by
 have aa:=jB (enc:=aX) (e:=t) (w:=w) (base:=0) (λ_=>rfl) (Nat.zero_le _) (leB 4 n) h (n:=4) (bM 4 n) (by decide);have h4:=bM 4 n;rw[<-h4]at aa;obtain⟨a,c,he,_,_,ac⟩:=aU.at_ bK.len aa;simp only[Value.slice.injEq]at he;rw[he.1];exact ac
theorem rpart_any (v0:Value) (pre b:List UInt8) (ab:Option Addr) (cb:Nat) (w0 w:World) (cd:Grows w0 w) (hp:pre.length<=1099511627776) (hb:b.length<=1099511627776) (jz:aU w w0.heap.size 5 1 aX v0 pre) (ac:aF w ab 1 (b.map aX)) (il:ab=none->cb=0) (hd:∀q:Addr,ab=some q->some q.block≠v0.ownBlock) :
  Calls Tryz.prog 202 #[v0,.slice ab b.length cb] w λe w'=>∃v,e=.returned v/\aU w' w0.heap.size 5 1 aX v (pre++eI b)/\Grows w0 w':=by
 have HD:=Ac hd;have HC:=Ac (lS0 b.length);have hl4:=bM 4 b.length;clear hd;go_enter Tryz.func202,Tryz.ntmps202
 go_wp2_with (first|(at_builtin;refine kX bK rfl _ _ rfl w0.heap.size _ pre (leB 4 b.length) rfl (jz.grows (Grows.alloc _ _)) (Grows.refl _) _ 4 (by rw[hl4];rfl) (iG1 HC.out) (λh=>by cases h) (by omega) (Ah cd.size (Grows.alloc _ _).size) ?_;intro v1 w1 ay vj _ ah;have dh:=ah w0 (cd.al _) (Aa _);have ct:=oF (ac.grows (Grows.alloc _ _)) vj HD.out;clear ah vj)|(at_builtin;refine jA bK rfl _ _ rfl w0.heap.size _ (pre++leB 4 b.length) b rfl ay (Grows.refl _) ab cb rfl ct il (by rw[Ad];omega) dh.size ?_;intro v2 w2 ai af))
 go_ret;exact⟨_,rfl,by unfold eI;rw[<-Ae];exact ai,af w0 dh (Aa _)⟩
theorem yV (v0:Value) (pre b:List UInt8) (ab:Option Addr) (cb:Nat) (w0 w:World) (cd:Grows w0 w) (hp:pre.length<=1099511627776) (hb:b.length<=1099511627776) (jz:aU w w0.heap.size 5 1 aX v0 pre) (ac:aF w ab 1 (b.map aX)) (il:ab=none->cb=0) (hd:∀q:Addr,ab=some q->some q.block≠v0.ownBlock) :
  Calls Tryz.prog 160 #[v0,.slice ab b.length cb] w λe w'=>∃v,e=.returned v/\aU w' w0.heap.size 5 1 aX v (pre++eI b)/\Grows w0 w':=by
 have HD:=Ac hd;have HC:=Ac (lS0 b.length);have hl4:=bM 4 b.length;clear hd;go_enter Tryz.func160,Tryz.ntmps160
 go_wp2_with (first|(at_builtin;refine kX bK rfl _ _ rfl w0.heap.size _ pre (leB 4 b.length) rfl (jz.grows (Grows.alloc _ _)) (Grows.refl _) _ 4 (by rw[hl4];rfl) (iG1 HC.out) (λh=>by cases h) (by omega) (Ah cd.size (Grows.alloc _ _).size) ?_;intro v1 w1 ay vj _ ah;have dh:=ah w0 (cd.al _) (Aa _);have ct:=oF (ac.grows (Grows.alloc _ _)) vj HD.out;clear ah vj)|(at_builtin;refine jA bK rfl _ _ rfl w0.heap.size _ (pre++leB 4 b.length) b rfl ay (Grows.refl _) ab cb rfl ct il (by rw[Ad];omega) dh.size ?_;intro v2 w2 ai af))
 go_ret;exact⟨_,rfl,by unfold eI;rw[<-Ae];exact ai,af w0 dh (Aa _)⟩
end
section
open Go Go.RowKit Go.Shelf Go.Sort
attribute [local go_sem] aQ aM
theorem rA (w:World) (m:Nat) (os:Array Obj):Grows w (grow (w.drewN m) os):=by
 refine Below.grown (row:=none) (Below.refl _ _) ⟨rfl,rfl,rfl,by simp[grow],λk hk _=>?_⟩ (Aa _) (λk h=>by cases h);exact heap_grow_old _ _ (by simpa using hk)
theorem wG (l:List Bool) (vb:Nat) (b:Bool) (j k:Nat) (w:World) (hl:l.length<=1048576) (hj:j<l.length) (hb:bitOf l j=b) (hk:jT l b j=k) (ac:kK w vb l) :
  Calls Tryz.prog 153 #[.pointer (some ⟨vb,0,none⟩),.bool b,.int .i64 k] w λe w'=>e=.returned (.int .i64 j)/\Grows w w':=by
 obtain⟨W1,bi⟩:=exq (w.alloc (.cells #[.pointer (some ⟨vb,0,none⟩)] 153));obtain⟨W2,fx⟩:=exq (W1.alloc (.cells #[.bool b] 4));obtain⟨W3,nt⟩:=exq (W2.alloc (.cells #[.int .i64 k] 3));have ew:W1.heap.size=w.heap.size+1:=by rw[bi];simp
 have i5:W2.heap.size=w.heap.size+1+1:=by rw[fx,Af,ew]
 have hs3:W3.heap.size=w.heap.size+1+1+1:=by rw[nt,Af,i5]
 have g1:Grows w W1:=by rw[bi];exact Grows.alloc _ _
 have g2:Grows W1 W2:=by rw[fx];exact Grows.alloc _ _
 have g3:Grows W2 W3:=by rw[nt];exact Grows.alloc _ _
 have gW:Grows w W3:=(g1.tr g2).tr g3;have c1:W3.cell? ⟨w.heap.size,0,none⟩=some (.pointer (some ⟨vb,0,none⟩)):=jZ (cs:=#[.pointer (some ⟨vb,0,none⟩)]) (t:=153) (by rw[<-bi];exact g2.tr g3) rfl 0 _ rfl
 have c2:W3.cell? ⟨w.heap.size+1,0,none⟩=some (.bool b):=by
  have:=jZ (w:=W1) (w':=W3) (cs:=#[.bool b]) (t:=4) (by rw[<-fx];exact g3) rfl 0 _ rfl
  rwa [ew]at this
 have c3:W3.cell? ⟨w.heap.size+1+1,0,none⟩=some (.int .i64 k):=by
  have:=jZ (w:=W2) (w':=W3) (cs:=#[.int .i64 k]) (t:=3) (by rw[<-nt];exact Grows.refl _) rfl 0 _ rfl
  rwa [i5]at this
 obtain⟨R,hR⟩:=exq (jT l b l.length)
 have vl:k<R:=by
  have hs:jT l b (j+1)=k+1:=by rw[wH,hk,hb];simp
  have:=qP l b (show j+1<=l.length by omega)
  omega
 have CL:=Ac (uM l vb W3 (ac.grows gW))
 have CR:Hid (∀u,Grows w u->Calls Tryz.prog 152 #[.pointer (some ⟨vb,0,none⟩),.bool b,.int .i64 (l.length:Nat)] u λe w'=>e=.returned (.int .i64 R)/\u=w'):=by
  intro u hg;have h:=qS l vb b l.length u hl hl (ac.grows hg);rw[Nat.min_self,<-hR]at h;exact h
 have m6:∀a c,a<=c->c<l.length->decide (k<jT l b (a+1))=true->decide (k<jT l b (c+1))=true:=λa c hac _ h=>by
  have:=qP l b (show a+1<=c+1 by omega)
  simp only[decide_eq_true_eq] at *;omega
 have SR:Hid (Calls Tryz.prog 213 #[.int .i64 (l.length:Nat),.func (.func 214) #[] #[.pointer (some ⟨w.heap.size,0,none⟩),.pointer (some ⟨w.heap.size+1,0,none⟩),.pointer (some ⟨w.heap.size+1+1,0,none⟩)]] W3.drew λe w'=>e=.returned (.int .i64 j)/\∃q os,w'=grow (W3.drew.drewN q) os):=by
  have h:=Any.sort_Search Tryz.searchI 214 #[.pointer (some ⟨w.heap.size,0,none⟩),.pointer (some ⟨w.heap.size+1,0,none⟩),.pointer (some ⟨w.heap.size+1+1,0,none⟩)] l.length (λi=>decide (k<jT l b (i+1))) W3.drew
   (enters_of Tryz.func214 (by kernel_rfl) rfl) (by omega)
   (λm os i hi=>by
    have hg:Grows W3 (grow (W3.drew.drewN m) os):=(Grows.drew _).tr (rA _ _ _);exact(eG1 l vb _ _ _ b k i _ hl hi (ac.grows (gW.tr hg)) (hg.cell c1) (hg.cell c2) (hg.cell c3)).mono λe w' ⟨he,hw⟩=>⟨he,1,#[],by rw[grow_empty,hw];rfl⟩) m6
  rw[mH1 l b hj hb hk]at h;exact h
 have z1:∀x:Ext Grows W3.drew,x.u.cell? ⟨w.heap.size,0,none⟩=some (.pointer (some ⟨vb,0,none⟩)):=aB ((Grows.drew W3).cell c1);have z2:∀x:Ext Grows W3.drew,x.u.cell? ⟨w.heap.size+1,0,none⟩=some (.bool b):=aB ((Grows.drew W3).cell c2);have z3:∀x:Ext Grows W3.drew,x.u.cell? ⟨w.heap.size+1+1,0,none⟩=some (.int .i64 k):=aB ((Grows.drew W3).cell c3);have hmf:∀(fn:Fn) (first cap:Array Value) (w:World),(Instr.makeFunc fn first cap).run Tryz.prog w=.ok (.func fn first cap) w:=λ_ _ _ _=>rfl
 have jv:¬(k:Int)<0:=by omega
 have ajb:(k:Int)<R:=by omega
 have ajc:¬(R:Int)<=k:=by omega
 clear ac hR hb hk m6 vl ew i5 hs3 g1 g2 g3;go_enter Tryz.func153,Tryz.ntmps153
 go_wp2_with fail
 rw[<-bi,<-fx,<-nt];clear bi fx nt;refine CL.out.mono ?_;rintro e w2 ⟨rfl,rfl⟩;go_wp2_with fail
 refine bF (aV 10 []) (by kernel_rfl) (λd _ _ _ _ h=>by cases d<;>exact h) ?_
 iterate 7 (refine aG rfl (λK hK=>?_);go_simp;refine hK _ ?_;clear hK K)
 refine aG rfl (λK hK=>?_);go_simp;apply Exists.intro
 refine⟨λx=>?_,hK _ ?_⟩
 ·go_at_call 152;exact bT (CR.out _ (gW.tr ((Grows.drew W3).tr x.h)))
 clear hK K;iterate 2 (refine aG rfl (λK hK=>?_);go_simp;refine hK _ ?_;clear hK K)
 refine bH ?_;go_wp2_with fail
 refine SR.out.mono ?_;rintro e w5 ⟨rfl,q,os,rfl⟩;go_wp2_with fail
 go_ret;exact⟨rfl,gW.tr (rA W3 (1+q) os)⟩
theorem fS1 (l:List Nat) (pb b1 b2 n i x:Nat) (w:World) (hl:l.length<=1048576) (hn:∀n∈l,n<18446744073709551616) (hx:l[i]?=some x) (ac:lU w pb l)
  (c1:w.cell? ⟨b1,0,none⟩=some (.pointer (some ⟨pb,0,none⟩))) (c2:w.cell? ⟨b2,0,none⟩=some (.int .u64 n)) :
  Calls Tryz.prog 235 #[.int .i64 i,.pointer (some ⟨b1,0,none⟩),.pointer (some ⟨b2,0,none⟩)] w λe w'=>e=.returned (.bool (decide (n<=x)))/\∃q,w'=w.drewN q:=by
 obtain⟨wb,h1,h2,h3⟩:=ac.c2;have CG:=λ(u:World) (hu:Grows w u)=>Ac (wR0 pb wb ((l.length*oX l+63)/64) (oX l) i x wb l u (oK.2 hn) hl hx (qU (List.mem_of_getElem? hx)) (by omega) (hu.cell ac.c1) (hu.cell h2) (h3.grows hu));have z1:∀x:Ext Grows w.drew,x.u.cell? ⟨b1,0,none⟩=some (.pointer (some ⟨pb,0,none⟩)):=aB ((Grows.drew w).cell c1);have z2:∀x:Ext Grows w.drew,x.u.cell? ⟨b2,0,none⟩=some (.int .u64 n):=aB ((Grows.drew w).cell c2);clear ac h2 h3 hx hn;go_enter Tryz.func235,Tryz.ntmps235
 go_wp2_with fail
 refine bF (lK [0,1,3,2,4,5] [2]) (by kernel_rfl) (λd _ _ _ _ h=>by cases d<;>exact h) ?_
 iterate 3 (refine aG rfl (λK hK=>?_);go_simp;refine hK _ ?_;clear hK K)
 clear z1 z2;refine aY rfl rfl (λK hK=>?_);go_simp;refine(CG w.drew (Grows.drew w)).out.mono ?_;rintro e w1 ⟨rfl,hw1⟩;have ah:Grows w.drew w1:=by rcases hw1 with rfl|rfl<;>first|exact Grows.refl _|exact Grows.drew _
 refine⟨ah,hK _ _ ?_⟩;clear hK K;iterate 2 (refine aG rfl (λK hK=>?_);go_simp;refine hK _ ?_;clear hK K)
 refine bH ?_;go_wp2_with fail
 go_ret;refine⟨by simp,?_⟩;rcases hw1 with rfl|rfl
 ·exact⟨1,rfl⟩
 ·exact⟨2,rfl⟩
theorem uK0 (l:List Nat) (pb n:Nat) (w:World) (hl:l.length<=1048576) (hn:∀n∈l,n<18446744073709551616) (m6:∀a c,a<=c->c<l.length->n<=l.getD a 0->n<=l.getD c 0) (ac:lU w pb l) :
  Calls Tryz.prog 171 #[.pointer (some ⟨pb,0,none⟩),.int .u64 n] w λe w'=>e=.returned (.int .i64 ((Ag l.length).countP λs => !decide (n<=l.getD s 0):Nat))/\Grows w w':=by
 obtain⟨W1,bi⟩:=exq (w.alloc (.cells #[.pointer (some ⟨pb,0,none⟩)] 77));obtain⟨W2,fx⟩:=exq (W1.alloc (.cells #[.int .u64 n] 164));have ew:W1.heap.size=w.heap.size+1:=by rw[bi];simp
 have g1:Grows w W1:=by rw[bi];exact Grows.alloc _ _
 have g2:Grows W1 W2:=by rw[fx];exact Grows.alloc _ _
 have gW:Grows w W2:=g1.tr g2;have c1:W2.cell? ⟨w.heap.size,0,none⟩=some (.pointer (some ⟨pb,0,none⟩)):=jZ (cs:=#[.pointer (some ⟨pb,0,none⟩)]) (t:=77) (by rw[<-bi];exact g2) rfl 0 _ rfl
 have c2:W2.cell? ⟨w.heap.size+1,0,none⟩=some (.int .u64 n):=by
  have:=jZ (w:=W1) (w':=W2) (cs:=#[.int .u64 n]) (t:=164) (by rw[<-fx];exact Grows.refl _) rfl 0 _ rfl
  rwa [ew]at this
 have CL:=Ac (gO l pb W2 (ac.grows gW))
 have SR:Hid (Calls Tryz.prog 213 #[.int .i64 (l.length:Nat),.func (.func 235) #[] #[.pointer (some ⟨w.heap.size,0,none⟩),.pointer (some ⟨w.heap.size+1,0,none⟩)]] W2 λe w'=>e=.returned (.int .i64 ((Ag l.length).countP λs => !decide (n<=l.getD s 0):Nat))/\∃q os,w'=grow (W2.drewN q) os) :=
  Any.sort_Search Tryz.searchI 235 #[.pointer (some ⟨w.heap.size,0,none⟩),.pointer (some ⟨w.heap.size+1,0,none⟩)] l.length (λs=>decide (n<=l.getD s 0)) W2
   (enters_of Tryz.func235 (by kernel_rfl) rfl) (by omega)
   (λm os i hi=>by
    have hg:Grows W2 (grow (W2.drewN m) os):=rA _ _ _;have hx:l[i]?=some (l.getD i 0):=by rw[List.getD_eq_getElem?_getD,List.getElem?_eq_getElem hi];rfl
    exact(fS1 l pb _ _ n i _ _ hl hn hx (ac.grows (gW.tr hg)) (hg.cell c1) (hg.cell c2)).mono λe w' ⟨he,q,hw⟩=>⟨he,q,#[],by rw[grow_empty,hw]⟩)
   (λa c hac hc h=>decide_eq_true (m6 a c hac hc (of_decide_eq_true h)))
 have hmf:∀(fn:Fn) (first cap:Array Value) (w:World),(Instr.makeFunc fn first cap).run Tryz.prog w=.ok (.func fn first cap) w:=λ_ _ _ _=>rfl
 generalize ((Ag l.length).countP λs => !decide (n<=l.getD s 0))=R at SR ⊢;clear ac m6 hn ew g1 g2;go_enter Tryz.func171,Tryz.ntmps171
 go_wp2_with fail
 rw[<-bi,<-fx];clear bi fx;refine CL.out.mono ?_;rintro e w2 ⟨rfl,rfl⟩;go_wp2_with fail
 refine SR.out.mono ?_;rintro e w5 ⟨rfl,q,os,rfl⟩;go_wp2_with fail
 go_ret;exact⟨rfl,gW.tr (rA _ q os)⟩
end
end Go.Proofs.YtcijgkfpobpdbaaGreatDoor
