/- The texts W11d SelW PkF, one behind the other. -/
import Derived.Test.YtheiocndipepaaaGreatDoorKq25
import Derived.Test.YtheiocndipepaaaGreatDoorKq26
import Derived.Test.YtheiocndipepaaaGreatDoorKq32
import Derived.Test.YtheiocndipepaaaGreatDoorKq1
import Derived.Test.YtheiocndipepaaaGreatDoorKq20
import Derived.Test.YtheiocndipepaaaGreatDoorShelf3
import Derived.Test.YtheiocndipepaaaGreatDoorKq23
open UInt8 renaming ofNat → Aa
open Go.World renaming size_alloc → Ab
open Nat renaming le_refl → Ac
open Go.Lib renaming hid → Ad
open List renaming range → Ae
set_option maxHeartbeats 8000000
namespace Go.Proofs.YtheiocndipepaaaGreatDoor
set_option maxRecDepth 100000
section
open Go Go.RowKit
attribute [local go_sem] aM aK
theorem zA0 (n:Nat):(#[Value.int .u8 ((n:Int)%256),.int .u8 ((n:Int)/256%256),.int .u8 ((n:Int)/65536%256),.int .u8 ((n:Int)/16777216%256)]:Array Value).toList=(leB 4 n).flatMap aX:=by
 have h:leB 4 n=[Aa n,Aa (n/256),Aa (n/65536),Aa (n/16777216)]:=by
  unfold leB;simp[List.range_succ]
 rw[h,qY];simp only[List.map_cons,List.map_nil,UInt8.toNat_ofNat'];congr 1
theorem oT1 {w:World} {n:Nat} {cs:Array Value} {t:TypeId} (h:cs.toList=(leB 4 n).flatMap aX):aF (w.alloc (.cells cs t)) (some ⟨w.heap.size,0,none⟩) 1 ((leB 4 n).map aX):=by
 have aa:=jJ (enc:=aX) (e:=t) (w:=w) (base:=0) (λ_=>rfl) (Nat.zero_le _) (leB 4 n) h (n:=4) (bM 4 n) (by decide);have h4:=bM 4 n;rw[<-h4]at aa;obtain⟨a,c,he,_,_,ac⟩:=aV.at_ bI.len aa;simp only[Value.slice.injEq]at he;rw[he.1];exact ac
theorem zJ (v0:Value) (pre b:List UInt8) (ab:Option Addr) (cb:Nat) (w0 w:World) (cp:Grows w0 w) (hp:pre.length<=1099511627776) (hb:b.length<=1099511627776) (nr:aV w w0.heap.size 5 1 aX v0 pre) (ac:aF w ab 1 (b.map aX)) (jg:ab=none->cb=0) (hd:∀q:Addr,ab=some q->some q.block≠v0.ownBlock) :
  Calls Tryz.prog 99 #[v0,.slice ab b.length cb] w λe w'=>∃v,e=.returned v/\aV w' w0.heap.size 5 1 aX v (pre++fG b)/\Grows w0 w':=by
 have HD:=Ad hd;have HC:=Ad (zA0 b.length);have hl4:=bM 4 b.length;clear hd;go_enter Tryz.func99,Tryz.ntmps99
 go_wp2_with (first|(at_builtin;refine tL bI rfl _ _ rfl w0.heap.size _ pre (leB 4 b.length) rfl (nr.grows (Grows.alloc _ _)) (Grows.refl _) _ 4 (by rw[hl4];rfl) (oT1 HC.out) (λh=>by cases h) (by omega) (Nat.le_trans cp.size (Grows.alloc _ _).size) ?_;intro v1 w1 az lh _ ag;have dg:=ag w0 (cp.al _) (Ac _);have da:=pP (ac.grows (Grows.alloc _ _)) lh HD.out;clear ag lh)|(at_builtin;refine kV bI rfl _ _ rfl w0.heap.size _ (pre++leB 4 b.length) b rfl az (Grows.refl _) ab cb rfl da jg (by rw[List.length_append];omega) dg.size ?_;intro v2 w2 aj af))
 go_ret;exact⟨_,rfl,by unfold fG;rw[<-List.append_assoc];exact aj,af w0 dg (Ac _)⟩
end
section
open Go Go.RowKit Go.Shelf Go.Sort
attribute [local go_sem] aM aK
theorem rN (w:World) (m:Nat) (os:Array Obj):Grows w (grow (w.drewN m) os):=by
 refine Below.grown (row:=none) (Below.refl _ _) ⟨rfl,rfl,rfl,by simp[grow],λk hk _=>?_⟩ (Ac _) (λk h=>by cases h);exact heap_grow_old _ _ (by simpa using hk)
theorem xE (l:List Bool) (vb:Nat) (b:Bool) (j k:Nat) (w:World) (hl:l.length<=1048576) (hj:j<l.length) (hb:bitOf l j=b) (hk:kD l b j=k) (ac:jN w vb l) :
  Calls Tryz.prog 91 #[.pointer (some ⟨vb,0,none⟩),.bool b,.int .i64 k] w λe w'=>e=.returned (.int .i64 j)/\Grows w w':=by
 obtain⟨W1,bi⟩:=exq (w.alloc (.cells #[.pointer (some ⟨vb,0,none⟩)] 133));obtain⟨W2,gm⟩:=exq (W1.alloc (.cells #[.bool b] 4));obtain⟨W3,oy⟩:=exq (W2.alloc (.cells #[.int .i64 k] 3));have ei:W1.heap.size=w.heap.size+1:=by rw[bi];simp
 have im:W2.heap.size=w.heap.size+1+1:=by rw[gm,Ab,ei]
 have hs3:W3.heap.size=w.heap.size+1+1+1:=by rw[oy,Ab,im]
 have g1:Grows w W1:=by rw[bi];exact Grows.alloc _ _
 have g2:Grows W1 W2:=by rw[gm];exact Grows.alloc _ _
 have g3:Grows W2 W3:=by rw[oy];exact Grows.alloc _ _
 have gW:Grows w W3:=(g1.tr g2).tr g3;have c1:W3.cell? ⟨w.heap.size,0,none⟩=some (.pointer (some ⟨vb,0,none⟩)):=kI (cs:=#[.pointer (some ⟨vb,0,none⟩)]) (t:=133) (by rw[<-bi];exact g2.tr g3) rfl 0 _ rfl
 have c2:W3.cell? ⟨w.heap.size+1,0,none⟩=some (.bool b):=by
  have:=kI (w:=W1) (w':=W3) (cs:=#[.bool b]) (t:=4) (by rw[<-gm];exact g3) rfl 0 _ rfl
  rwa [ei]at this
 have c3:W3.cell? ⟨w.heap.size+1+1,0,none⟩=some (.int .i64 k):=by
  have:=kI (w:=W2) (w':=W3) (cs:=#[.int .i64 k]) (t:=3) (by rw[<-oy];exact Grows.refl _) rfl 0 _ rfl
  rwa [im]at this
 obtain⟨R,hR⟩:=exq (kD l b l.length)
 have xx:k<R:=by
  have hs:kD l b (j+1)=k+1:=by rw[wV,hk,hb];simp
  have:=rM l b (show j+1<=l.length by omega)
  omega
 have CL:=Ad (tG l vb W3 (ac.grows gW))
 have CR:Hid (∀u,Grows w u->Calls Tryz.prog 90 #[.pointer (some ⟨vb,0,none⟩),.bool b,.int .i64 (l.length:Nat)] u λe w'=>e=.returned (.int .i64 R)/\u=w'):=by
  intro u hg;have h:=rC l vb b l.length u hl hl (ac.grows hg);rw[Nat.min_self,<-hR]at h;exact h
 have nz:∀a c,a<=c->c<l.length->decide (k<kD l b (a+1))=true->decide (k<kD l b (c+1))=true:=λa c hac _ h=>by
  have:=rM l b (show a+1<=c+1 by omega)
  simp only[decide_eq_true_eq] at *;omega
 have SR:Hid (Calls Tryz.prog 145 #[.int .i64 (l.length:Nat),.func (.func 146) #[] #[.pointer (some ⟨w.heap.size,0,none⟩),.pointer (some ⟨w.heap.size+1,0,none⟩),.pointer (some ⟨w.heap.size+1+1,0,none⟩)]] W3.drew λe w'=>e=.returned (.int .i64 j)/\∃q os,w'=grow (W3.drew.drewN q) os):=by
  have h:=Any.sort_Search Tryz.searchI 146 #[.pointer (some ⟨w.heap.size,0,none⟩),.pointer (some ⟨w.heap.size+1,0,none⟩),.pointer (some ⟨w.heap.size+1+1,0,none⟩)] l.length (λi=>decide (k<kD l b (i+1))) W3.drew
   (enters_of Tryz.func146 (by kernel_rfl) rfl) (by omega)
   (λm os i hi=>by
    have hg:Grows W3 (grow (W3.drew.drewN m) os):=(Grows.drew _).tr (rN _ _ _);exact(iP1 l vb _ _ _ b k i _ hl hi (ac.grows (gW.tr hg)) (hg.cell c1) (hg.cell c2) (hg.cell c3)).mono λe w' ⟨he,hw⟩=>⟨he,1,#[],by rw[grow_empty,hw];rfl⟩) nz
  rw[pC1 l b hj hb hk]at h;exact h
 have z1:∀x:Ext Grows W3.drew,x.u.cell? ⟨w.heap.size,0,none⟩=some (.pointer (some ⟨vb,0,none⟩)):=aB ((Grows.drew W3).cell c1);have z2:∀x:Ext Grows W3.drew,x.u.cell? ⟨w.heap.size+1,0,none⟩=some (.bool b):=aB ((Grows.drew W3).cell c2);have z3:∀x:Ext Grows W3.drew,x.u.cell? ⟨w.heap.size+1+1,0,none⟩=some (.int .i64 k):=aB ((Grows.drew W3).cell c3);have hmf:∀(fn:Fn) (first cap:Array Value) (w:World),(Instr.makeFunc fn first cap).run Tryz.prog w=.ok (.func fn first cap) w:=λ_ _ _ _=>rfl
 have j8:¬(k:Int)<0:=by omega
 have ake:(k:Int)<R:=by omega
 have akf:¬(R:Int)<=k:=by omega
 clear ac hR hb hk nz xx ei im hs3 g1 g2 g3;go_enter Tryz.func91,Tryz.ntmps91
 go_wp2_with fail
 rw[<-bi,<-gm,<-oy];clear bi gm oy;refine CL.out.mono ?_;rintro e w2 ⟨rfl,rfl⟩;go_wp2_with fail
 refine bE (aU 10 []) (by kernel_rfl) (λd _ _ _ _ h=>by cases d<;>exact h) ?_
 iterate 7 (refine aG rfl (λK hK=>?_);go_simp;refine hK _ ?_;clear hK K)
 refine aG rfl (λK hK=>?_);go_simp;apply Exists.intro
 refine⟨λx=>?_,hK _ ?_⟩
 ·go_at_call 90;exact aY (CR.out _ (gW.tr ((Grows.drew W3).tr x.h)))
 clear hK K;iterate 2 (refine aG rfl (λK hK=>?_);go_simp;refine hK _ ?_;clear hK K)
 refine bH ?_;go_wp2_with fail
 refine SR.out.mono ?_;rintro e w5 ⟨rfl,q,os,rfl⟩;go_wp2_with fail
 go_ret;exact⟨rfl,gW.tr (rN W3 (1+q) os)⟩
theorem fD1 (l:List Nat) (pb b1 b2 n i x:Nat) (w:World) (hl:l.length<=1048576) (hn:∀n∈l,n<18446744073709551616) (hx:l[i]?=some x) (ac:lE w pb l)
  (c1:w.cell? ⟨b1,0,none⟩=some (.pointer (some ⟨pb,0,none⟩))) (c2:w.cell? ⟨b2,0,none⟩=some (.int .u64 n)) :
  Calls Tryz.prog 211 #[.int .i64 i,.pointer (some ⟨b1,0,none⟩),.pointer (some ⟨b2,0,none⟩)] w λe w'=>e=.returned (.bool (decide (n<=x)))/\∃q,w'=w.drewN q:=by
 obtain⟨wb,h1,h2,h3⟩:=ac.c2;have CG:=λ(u:World) (hu:Grows w u)=>Ad (yH0 pb wb ((l.length*pF l+63)/64) (pF l) i x wb l u (oY.2 hn) hl hx (rA (List.mem_of_getElem? hx)) (by omega) (hu.cell ac.c1) (hu.cell h2) (h3.grows hu));have z1:∀x:Ext Grows w.drew,x.u.cell? ⟨b1,0,none⟩=some (.pointer (some ⟨pb,0,none⟩)):=aB ((Grows.drew w).cell c1);have z2:∀x:Ext Grows w.drew,x.u.cell? ⟨b2,0,none⟩=some (.int .u64 n):=aB ((Grows.drew w).cell c2);clear ac h2 h3 hx hn;go_enter Tryz.func211,Tryz.ntmps211
 go_wp2_with fail
 refine bE (lT [0,1,3,2,4,5] [2]) (by kernel_rfl) (λd _ _ _ _ h=>by cases d<;>exact h) ?_
 iterate 3 (refine aG rfl (λK hK=>?_);go_simp;refine hK _ ?_;clear hK K)
 clear z1 z2;refine aZ rfl rfl (λK hK=>?_);go_simp;refine(CG w.drew (Grows.drew w)).out.mono ?_;rintro e w1 ⟨rfl,hw1⟩;have ag:Grows w.drew w1:=by rcases hw1 with rfl|rfl<;>first|exact Grows.refl _|exact Grows.drew _
 refine⟨ag,hK _ _ ?_⟩;clear hK K;iterate 2 (refine aG rfl (λK hK=>?_);go_simp;refine hK _ ?_;clear hK K)
 refine bH ?_;go_wp2_with fail
 go_ret;refine⟨by simp,?_⟩;rcases hw1 with rfl|rfl
 ·exact⟨1,rfl⟩
 ·exact⟨2,rfl⟩
theorem tU0 (l:List Nat) (pb n:Nat) (w:World) (hl:l.length<=1048576) (hn:∀n∈l,n<18446744073709551616) (nz:∀a c,a<=c->c<l.length->n<=l.getD a 0->n<=l.getD c 0) (ac:lE w pb l) :
  Calls Tryz.prog 157 #[.pointer (some ⟨pb,0,none⟩),.int .u64 n] w λe w'=>e=.returned (.int .i64 ((Ae l.length).countP λs => !decide (n<=l.getD s 0):Nat))/\Grows w w':=by
 obtain⟨W1,bi⟩:=exq (w.alloc (.cells #[.pointer (some ⟨pb,0,none⟩)] 93));obtain⟨W2,gm⟩:=exq (W1.alloc (.cells #[.int .u64 n] 144));have ei:W1.heap.size=w.heap.size+1:=by rw[bi];simp
 have g1:Grows w W1:=by rw[bi];exact Grows.alloc _ _
 have g2:Grows W1 W2:=by rw[gm];exact Grows.alloc _ _
 have gW:Grows w W2:=g1.tr g2;have c1:W2.cell? ⟨w.heap.size,0,none⟩=some (.pointer (some ⟨pb,0,none⟩)):=kI (cs:=#[.pointer (some ⟨pb,0,none⟩)]) (t:=93) (by rw[<-bi];exact g2) rfl 0 _ rfl
 have c2:W2.cell? ⟨w.heap.size+1,0,none⟩=some (.int .u64 n):=by
  have:=kI (w:=W1) (w':=W2) (cs:=#[.int .u64 n]) (t:=144) (by rw[<-gm];exact Grows.refl _) rfl 0 _ rfl
  rwa [ei]at this
 have CL:=Ad (gX l pb W2 (ac.grows gW))
 have SR:Hid (Calls Tryz.prog 145 #[.int .i64 (l.length:Nat),.func (.func 211) #[] #[.pointer (some ⟨w.heap.size,0,none⟩),.pointer (some ⟨w.heap.size+1,0,none⟩)]] W2 λe w'=>e=.returned (.int .i64 ((Ae l.length).countP λs => !decide (n<=l.getD s 0):Nat))/\∃q os,w'=grow (W2.drewN q) os) :=
  Any.sort_Search Tryz.searchI 211 #[.pointer (some ⟨w.heap.size,0,none⟩),.pointer (some ⟨w.heap.size+1,0,none⟩)] l.length (λs=>decide (n<=l.getD s 0)) W2
   (enters_of Tryz.func211 (by kernel_rfl) rfl) (by omega)
   (λm os i hi=>by
    have hg:Grows W2 (grow (W2.drewN m) os):=rN _ _ _;have hx:l[i]?=some (l.getD i 0):=by rw[List.getD_eq_getElem?_getD,List.getElem?_eq_getElem hi];rfl
    exact(fD1 l pb _ _ n i _ _ hl hn hx (ac.grows (gW.tr hg)) (hg.cell c1) (hg.cell c2)).mono λe w' ⟨he,q,hw⟩=>⟨he,q,#[],by rw[grow_empty,hw]⟩)
   (λa c hac hc h=>decide_eq_true (nz a c hac hc (of_decide_eq_true h)))
 have hmf:∀(fn:Fn) (first cap:Array Value) (w:World),(Instr.makeFunc fn first cap).run Tryz.prog w=.ok (.func fn first cap) w:=λ_ _ _ _=>rfl
 generalize ((Ae l.length).countP λs => !decide (n<=l.getD s 0))=R at SR ⊢;clear ac nz hn ei g1 g2;go_enter Tryz.func157,Tryz.ntmps157
 go_wp2_with fail
 rw[<-bi,<-gm];clear bi gm;refine CL.out.mono ?_;rintro e w2 ⟨rfl,rfl⟩;go_wp2_with fail
 refine SR.out.mono ?_;rintro e w5 ⟨rfl,q,os,rfl⟩;go_wp2_with fail
 go_ret;exact⟨rfl,gW.tr (rN _ q os)⟩
end
end Go.Proofs.YtheiocndipepaaaGreatDoor
