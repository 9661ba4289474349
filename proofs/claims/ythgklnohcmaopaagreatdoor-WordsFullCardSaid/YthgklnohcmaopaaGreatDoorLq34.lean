/- The texts W11 W11b W11c W11d SelW PkF, one behind the other. -/
import Derived.Test.YthgklnohcmaopaaGreatDoorLq20
import Derived.Test.YthgklnohcmaopaaGreatDoorLq6
import Derived.Shelf.SlSorted.Search
import Derived.Test.YthgklnohcmaopaaGreatDoorLq25
import Derived.Test.YthgklnohcmaopaaGreatDoorLq33
import Derived.Test.YthgklnohcmaopaaGreatDoorLq4
import Derived.Test.YthgklnohcmaopaaGreatDoorShelf3
import Derived.Test.YthgklnohcmaopaaGreatDoorLq23
open UInt8 renaming ofNat → Aa
open List renaming getElem?_map → Ab,range → Af
open Go.World renaming size_alloc → Ac
open Nat renaming le_refl → Ad
open Go.Lib renaming hid → Ae
set_option maxHeartbeats 8000000
namespace Go.Proofs.YthgklnohcmaopaaGreatDoor
set_option maxRecDepth 100000
section
open Go Go.RowKit
attribute [local go_sem] aO aM
def bls (B:List ByteArray):List (List UInt8):=B.map bl
theorem eV {B:List ByteArray} {k:Nat} {s:ByteArray} (h:B[k]?=some s):nth (bls B) k=bl s:=eE0 (by unfold bls; rw[Ab,h]; rfl)
theorem dT (B:List ByteArray):(bls B).length=B.length:=by simp[bls]
theorem nS0 (s:ByteArray):bl s=s.toList:=(Lib.toList_data s).symm
theorem vR {B:List ByteArray} {k:Nat} {s:ByteArray} (h:B[k]?=some s):(bls B)[k]?=some (bl s):=by unfold bls; rw[Ab,h]; rfl
theorem bM1 (n:Nat):(#[Value.int .u8 ((n:Int)%256),.int .u8 ((n:Int)/256%256),.int .u8 ((n:Int)/65536%256),.int .u8 ((n:Int)/16777216%256)]:Array Value).toList=(leB 4 n).flatMap aY:=by
 have h:leB 4 n=[Aa n,Aa (n/256),Aa (n/65536),Aa (n/16777216)]:=by
  unfold leB;simp[List.range_succ]
 rw[h,qD];simp only[List.map_cons,List.map_nil,UInt8.toNat_ofNat'];congr 1
theorem oG1 {w:World} {n:Nat} {cs:Array Value} {t:TypeId} (h:cs.toList=(leB 4 n).flatMap aY):aG (w.alloc (.cells cs t)) (some ⟨w.heap.size,0,none⟩) 1 ((leB 4 n).map aY):=by
 have aa:=jK (enc:=aY) (e:=t) (w:=w) (base:=0) (λ_=>rfl) (Nat.zero_le _) (leB 4 n) h (n:=4) (bN 4 n) (by decide);have h4:=bN 4 n;rw[<-h4]at aa;obtain⟨a,c,he,_,_,ac⟩:=aX.at_ bJ.len aa;simp only[Value.slice.injEq]at he;rw[he.1];exact ac
theorem yP (v0:Value) (pre b:List UInt8) (ab:Option Addr) (cb:Nat) (w0 w:World) (dh:aB w0 w) (hp:pre.length<=1099511627776) (hb:b.length<=1099511627776) (ig:aX w w0.heap.size 5 1 aY v0 pre) (ac:aG w ab 1 (b.map aY)) (l7:ab=none->cb=0) (hd:∀q:Addr,ab=some q->some q.block≠v0.ownBlock) :
  Calls Tryz.prog 130 #[v0,.slice ab b.length cb] w λe w'=>∃v,e=.returned v/\aX w' w0.heap.size 5 1 aY v (pre++fC b)/\aB w0 w':=by
 have HD:=Ae hd;have HC:=Ae (bM1 b.length);have hl4:=bN 4 b.length;clear hd;go_enter Tryz.func130,Tryz.ntmps130
 go_wp2_with (first|(at_builtin;refine aB0 bJ rfl _ _ rfl w0.heap.size _ pre (leB 4 b.length) rfl (ig.grows (aB.alloc _ _)) (aB.refl _) _ 4 (by rw[hl4];rfl) (oG1 HC.out) (λh=>by cases h) (by omega) (Nat.le_trans dh.size (aB.alloc _ _).size) ?_;intro v1 w1 aq hk1 _ an;have ck:=an w0 (dh.al _) (Ad _);have cm:=fP0 (ac.grows (aB.alloc _ _)) hk1 HD.out;clear an hk1)|(at_builtin;refine tG bJ rfl _ _ rfl w0.heap.size _ (pre++leB 4 b.length) b rfl aq (aB.refl _) ab cb rfl cm l7 (by rw[List.length_append];omega) ck.size ?_;intro v2 w2 ai af))
 go_ret;exact⟨_,rfl,by unfold fC;rw[<-List.append_assoc];exact ai,af w0 ck (Ad _)⟩
end
section
open Go Go.RowKit Go.Shelf Go.Sort
attribute [local go_sem] aO aM
theorem rA (w:World) (m:Nat) (os:Array Obj):aB w (grow (w.drewN m) os):=by
 refine Below.grown (row:=none) (Below.refl _ _) ⟨rfl,rfl,rfl,by simp[grow],λk hk _=>?_⟩ (Ad _) (λk h=>by cases h);exact heap_grow_old _ _ (by simpa using hk)
theorem uR (l:List Bool) (vb:Nat) (b:Bool) (j k:Nat) (w:World) (hl:l.length<=1048576) (hj:j<l.length) (hb:bitOf l j=b) (hk:jU l b j=k) (ac:kL w vb l) :
  Calls Tryz.prog 124 #[.pointer (some ⟨vb,0,none⟩),.bool b,.int .i64 k] w λe w'=>e=.returned (.int .i64 j)/\aB w w':=by
 obtain⟨W1,bi⟩:=exq (w.alloc (.cells #[.pointer (some ⟨vb,0,none⟩)] 202));obtain⟨W2,d9⟩:=exq (W1.alloc (.cells #[.bool b] 4));obtain⟨W3,ep⟩:=exq (W2.alloc (.cells #[.int .i64 k] 3));have dw:W1.heap.size=w.heap.size+1:=by rw[bi];simp
 have ew:W2.heap.size=w.heap.size+1+1:=by rw[d9,Ac,dw]
 have hs3:W3.heap.size=w.heap.size+1+1+1:=by rw[ep,Ac,ew]
 have g1:aB w W1:=by rw[bi];exact aB.alloc _ _
 have g2:aB W1 W2:=by rw[d9];exact aB.alloc _ _
 have g3:aB W2 W3:=by rw[ep];exact aB.alloc _ _
 have gW:aB w W3:=(g1.tr g2).tr g3;have c1:W3.cell? ⟨w.heap.size,0,none⟩=some (.pointer (some ⟨vb,0,none⟩)):=tL (cs:=#[.pointer (some ⟨vb,0,none⟩)]) (t:=202) (by rw[<-bi];exact g2.tr g3) rfl 0 _ rfl
 have c2:W3.cell? ⟨w.heap.size+1,0,none⟩=some (.bool b):=by
  have:=tL (w:=W1) (w':=W3) (cs:=#[.bool b]) (t:=4) (by rw[<-d9];exact g3) rfl 0 _ rfl
  rwa [dw]at this
 have c3:W3.cell? ⟨w.heap.size+1+1,0,none⟩=some (.int .i64 k):=by
  have:=tL (w:=W2) (w':=W3) (cs:=#[.int .i64 k]) (t:=3) (by rw[<-ep];exact aB.refl _) rfl 0 _ rfl
  rwa [ew]at this
 obtain⟨R,hR⟩:=exq (jU l b l.length)
 have hkR:k<R:=by
  have hs:jU l b (j+1)=k+1:=by rw[uX,hk,hb];simp
  have:=qS l b (show j+1<=l.length by omega)
  omega
 have CL:=Ae (sE l vb W3 (ac.grows gW))
 have CR:Hid (∀u,aB w u->Calls Tryz.prog 123 #[.pointer (some ⟨vb,0,none⟩),.bool b,.int .i64 (l.length:Nat)] u λe w'=>e=.returned (.int .i64 R)/\u=w'):=by
  intro u hg;have h:=qK l vb b l.length u hl hl (ac.grows hg);rw[Nat.min_self,<-hR]at h;exact h
 have pw:∀a c,a<=c->c<l.length->decide (k<jU l b (a+1))=true->decide (k<jU l b (c+1))=true:=λa c hac _ h=>by
  have:=qS l b (show a+1<=c+1 by omega)
  simp only[decide_eq_true_eq] at *;omega
 have SR:Hid (Calls Tryz.prog 188 #[.int .i64 (l.length:Nat),.func (.func 189) #[] #[.pointer (some ⟨w.heap.size,0,none⟩),.pointer (some ⟨w.heap.size+1,0,none⟩),.pointer (some ⟨w.heap.size+1+1,0,none⟩)]] W3.drew λe w'=>e=.returned (.int .i64 j)/\∃q os,w'=grow (W3.drew.drewN q) os):=by
  have h:=Any.sort_Search Tryz.searchI 189 #[.pointer (some ⟨w.heap.size,0,none⟩),.pointer (some ⟨w.heap.size+1,0,none⟩),.pointer (some ⟨w.heap.size+1+1,0,none⟩)] l.length (λi=>decide (k<jU l b (i+1))) W3.drew
   (enters_of Tryz.func189 (by kernel_rfl) rfl) (by omega)
   (λm os i hi=>by
    have hg:aB W3 (grow (W3.drew.drewN m) os):=(aB.drew _).tr (rA _ _ _);exact(gS1 l vb _ _ _ b k i _ hl hi (ac.grows (gW.tr hg)) (hg.cell c1) (hg.cell c2) (hg.cell c3)).mono λe w' ⟨he,hw⟩=>⟨he,1,#[],by rw[grow_empty,hw];rfl⟩) pw
  rw[oI1 l b hj hb hk]at h;exact h
 have z1:∀x:Ext aB W3.drew,x.u.cell? ⟨w.heap.size,0,none⟩=some (.pointer (some ⟨vb,0,none⟩)):=aF ((aB.drew W3).cell c1);have z2:∀x:Ext aB W3.drew,x.u.cell? ⟨w.heap.size+1,0,none⟩=some (.bool b):=aF ((aB.drew W3).cell c2);have z3:∀x:Ext aB W3.drew,x.u.cell? ⟨w.heap.size+1+1,0,none⟩=some (.int .i64 k):=aF ((aB.drew W3).cell c3);have un:∀(fn:Fn) (first cap:Array Value) (w:World),(Instr.makeFunc fn first cap).run Tryz.prog w=.ok (.func fn first cap) w:=λ_ _ _ _=>rfl
 have ow:¬(k:Int)<0:=by omega
 have ajp:(k:Int)<R:=by omega
 have ajq:¬(R:Int)<=k:=by omega
 clear ac hR hb hk pw hkR dw ew hs3 g1 g2 g3;go_enter Tryz.func124,Tryz.ntmps124
 go_wp2_with fail
 rw[<-bi,<-d9,<-ep];clear bi d9 ep;refine CL.out.mono ?_;rintro e w2 ⟨rfl,rfl⟩;go_wp2_with fail
 refine bK (bB 10 []) (by kernel_rfl) (λd _ _ _ _ h=>by cases d<;>exact h) ?_
 iterate 7 (refine aH rfl (λK hK=>?_);go_simp;refine hK _ ?_;clear hK K)
 refine aH rfl (λK hK=>?_);go_simp;apply Exists.intro
 refine⟨λx=>?_,hK _ ?_⟩
 ·go_at_call 123;exact dU (CR.out _ (gW.tr ((aB.drew W3).tr x.h)))
 clear hK K;iterate 2 (refine aH rfl (λK hK=>?_);go_simp;refine hK _ ?_;clear hK K)
 refine cB ?_;go_wp2_with fail
 refine SR.out.mono ?_;rintro e w5 ⟨rfl,q,os,rfl⟩;go_wp2_with fail
 go_ret;exact⟨rfl,gW.tr (rA W3 (1+q) os)⟩
theorem iP1 (l:List Nat) (pb b1 b2 n i x:Nat) (w:World) (hl:l.length<=1048576) (hn:∀n∈l,n<18446744073709551616) (hx:l[i]?=some x) (ac:nG w pb l)
  (c1:w.cell? ⟨b1,0,none⟩=some (.pointer (some ⟨pb,0,none⟩))) (c2:w.cell? ⟨b2,0,none⟩=some (.int .u64 n)) :
  Calls Tryz.prog 273 #[.int .i64 i,.pointer (some ⟨b1,0,none⟩),.pointer (some ⟨b2,0,none⟩)] w λe w'=>e=.returned (.bool (decide (n<=x)))/\∃q,w'=w.drewN q:=by
 obtain⟨wb,h1,h2,h3⟩:=ac.c2;have CG:=λ(u:World) (hu:aB w u)=>Ae (dJ1 pb wb ((l.length*oV l+63)/64) (oV l) i x wb l u (oE.2 hn) hl hx (qJ (List.mem_of_getElem? hx)) (by omega) (hu.cell ac.c1) (hu.cell h2) (h3.grows hu));have z1:∀x:Ext aB w.drew,x.u.cell? ⟨b1,0,none⟩=some (.pointer (some ⟨pb,0,none⟩)):=aF ((aB.drew w).cell c1);have z2:∀x:Ext aB w.drew,x.u.cell? ⟨b2,0,none⟩=some (.int .u64 n):=aF ((aB.drew w).cell c2);clear ac h2 h3 hx hn;go_enter Tryz.func273,Tryz.ntmps273
 go_wp2_with fail
 refine bK (oK [0,1,3,2,4,5] [2]) (by kernel_rfl) (λd _ _ _ _ h=>by cases d<;>exact h) ?_
 iterate 3 (refine aH rfl (λK hK=>?_);go_simp;refine hK _ ?_;clear hK K)
 clear z1 z2;refine bH rfl rfl (λK hK=>?_);go_simp;refine(CG w.drew (aB.drew w)).out.mono ?_;rintro e w1 ⟨rfl,vn⟩;have an:aB w.drew w1:=by rcases vn with rfl|rfl<;>first|exact aB.refl _|exact aB.drew _
 refine⟨an,hK _ _ ?_⟩;clear hK K;iterate 2 (refine aH rfl (λK hK=>?_);go_simp;refine hK _ ?_;clear hK K)
 refine cB ?_;go_wp2_with fail
 go_ret;refine⟨by simp,?_⟩;rcases vn with rfl|rfl
 ·exact⟨1,rfl⟩
 ·exact⟨2,rfl⟩
theorem vP0 (l:List Nat) (pb n:Nat) (w:World) (hl:l.length<=1048576) (hn:∀n∈l,n<18446744073709551616) (pw:∀a c,a<=c->c<l.length->n<=l.getD a 0->n<=l.getD c 0) (ac:nG w pb l) :
  Calls Tryz.prog 222 #[.pointer (some ⟨pb,0,none⟩),.int .u64 n] w λe w'=>e=.returned (.int .i64 ((Af l.length).countP λs => !decide (n<=l.getD s 0):Nat))/\aB w w':=by
 obtain⟨W1,bi⟩:=exq (w.alloc (.cells #[.pointer (some ⟨pb,0,none⟩)] 164));obtain⟨W2,d9⟩:=exq (W1.alloc (.cells #[.int .u64 n] 213));have dw:W1.heap.size=w.heap.size+1:=by rw[bi];simp
 have g1:aB w W1:=by rw[bi];exact aB.alloc _ _
 have g2:aB W1 W2:=by rw[d9];exact aB.alloc _ _
 have gW:aB w W2:=g1.tr g2;have c1:W2.cell? ⟨w.heap.size,0,none⟩=some (.pointer (some ⟨pb,0,none⟩)):=tL (cs:=#[.pointer (some ⟨pb,0,none⟩)]) (t:=164) (by rw[<-bi];exact g2) rfl 0 _ rfl
 have c2:W2.cell? ⟨w.heap.size+1,0,none⟩=some (.int .u64 n):=by
  have:=tL (w:=W1) (w':=W2) (cs:=#[.int .u64 n]) (t:=213) (by rw[<-d9];exact aB.refl _) rfl 0 _ rfl
  rwa [dw]at this
 have CL:=Ae (jT l pb W2 (ac.grows gW))
 have SR:Hid (Calls Tryz.prog 188 #[.int .i64 (l.length:Nat),.func (.func 273) #[] #[.pointer (some ⟨w.heap.size,0,none⟩),.pointer (some ⟨w.heap.size+1,0,none⟩)]] W2 λe w'=>e=.returned (.int .i64 ((Af l.length).countP λs => !decide (n<=l.getD s 0):Nat))/\∃q os,w'=grow (W2.drewN q) os) :=
  Any.sort_Search Tryz.searchI 273 #[.pointer (some ⟨w.heap.size,0,none⟩),.pointer (some ⟨w.heap.size+1,0,none⟩)] l.length (λs=>decide (n<=l.getD s 0)) W2
   (enters_of Tryz.func273 (by kernel_rfl) rfl) (by omega)
   (λm os i hi=>by
    have hg:aB W2 (grow (W2.drewN m) os):=rA _ _ _;have hx:l[i]?=some (l.getD i 0):=by rw[List.getD_eq_getElem?_getD,List.getElem?_eq_getElem hi];rfl
    exact(iP1 l pb _ _ n i _ _ hl hn hx (ac.grows (gW.tr hg)) (hg.cell c1) (hg.cell c2)).mono λe w' ⟨he,q,hw⟩=>⟨he,q,#[],by rw[grow_empty,hw]⟩)
   (λa c hac hc h=>decide_eq_true (pw a c hac hc (of_decide_eq_true h)))
 have un:∀(fn:Fn) (first cap:Array Value) (w:World),(Instr.makeFunc fn first cap).run Tryz.prog w=.ok (.func fn first cap) w:=λ_ _ _ _=>rfl
 generalize ((Af l.length).countP λs => !decide (n<=l.getD s 0))=R at SR ⊢;clear ac pw hn dw g1 g2;go_enter Tryz.func222,Tryz.ntmps222
 go_wp2_with fail
 rw[<-bi,<-d9];clear bi d9;refine CL.out.mono ?_;rintro e w2 ⟨rfl,rfl⟩;go_wp2_with fail
 refine SR.out.mono ?_;rintro e w5 ⟨rfl,q,os,rfl⟩;go_wp2_with fail
 go_ret;exact⟨rfl,gW.tr (rA _ q os)⟩
end
end Go.Proofs.YthgklnohcmaopaaGreatDoor
