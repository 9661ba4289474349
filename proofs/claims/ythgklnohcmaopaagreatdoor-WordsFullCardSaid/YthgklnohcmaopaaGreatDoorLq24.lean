/- The texts DecN DecW, one behind the other. -/
import Derived.Test.YthgklnohcmaopaaGreatDoorLq21
import Derived.Test.YthgklnohcmaopaaGreatDoorLq12
open Go.Lib renaming hid → Aa
open Go.World renaming block_lt_of_cell? → Ab,cell?_setCell_other → Ac,frozen?_setCell → Ad,cell?_setCell_same → Ai,cell? → Al
open Go.IntKind renaming signed → Ae,wrap → Af,bits → Ag
open Nat renaming zero_le → Ah,lt_of_lt_of_le → Aj,le_trans → Am
open Go.Addr renaming block → Ak
set_option maxHeartbeats 8000000
namespace Go.Proofs.YthgklnohcmaopaaGreatDoor
set_option maxRecDepth 100000
section
open Go Go.RowKit
attribute [local go_sem] aO aM
theorem yT (b:List UInt8) (k:Nat) (ba:Option Addr) (bc:Nat) (w:World) (hk:k<=b.length) (hb:b.length<=1099511627776) (ac:aG w ba 1 (b.map aY)) :
  Calls Tryz.prog 145 #[.slice ba b.length bc,.int .i64 k] w λe w'=>e=.returned (gC0 k (rdU (b.drop k)))/\aB w w':=by
 have CR:=Aa (iF1 b k ba bc w hk hb ac)
 cases hR:rdU (b.drop k) with
 | none =>
  rw[hR]at CR;unfold gC0 at CR ⊢;clear hR ac;go_enter Tryz.func145,Tryz.ntmps145
  go_wp2_with fail
  refine CR.out.mono ?_;rintro e w1 ⟨rfl,hg⟩;go_wp2_with fail
  go_ret3;exact⟨rfl,hg⟩
 | some x =>
  obtain⟨v,n⟩:=x;rw[hR]at CR;unfold gC0 at CR ⊢;obtain⟨K,hK⟩:=exq (k+n);simp only[<-hK]at CR ⊢;clear hR ac hK;go_enter Tryz.func145,Tryz.ntmps145
  go_wp2_with fail
  refine CR.out.mono ?_;rintro e w1 ⟨rfl,hg⟩;go_wp2_with fail
  go_ret3;exact⟨rfl,hg⟩
structure NB (p1 p2:Nat) (w w':World):Prop where
 os:w'.os=w.os
 tape:w'.tape=w.tape
 output:w'.output=w.output
 size:w.heap.size<=w'.heap.size
 block:∀k,k<w.heap.size->k≠p1->k≠p2->w'.heap[k]?=w.heap[k]?
theorem NB.of {p1 p2:Nat} {w w':World} (h:aB w w'):NB p1 p2 w w':=⟨Below.os h,Below.tape h,Below.output h,h.size,λk hk _ _=>Below.block h k hk⟩
theorem NB.trans {p1 p2:Nat} {a b c:World} (h:NB p1 p2 a b) (k:NB p1 p2 b c):NB p1 p2 a c :=
 ⟨k.os.trans h.os,k.tape.trans h.tape,k.output.trans h.output,Am h.size k.size,λi hi h1 h2=>(k.block i (Aj hi h.size) h1 h2).trans (h.block i hi h1 h2)⟩
theorem NB.set {p1 p2 b i:Nat} {w:World} (hb:b=p1\/b=p2) (v:Value):NB p1 p2 w (w.setCell ⟨b,i,none⟩ v) :=
 ⟨rfl,rfl,rfl,by simp,λk _ h1 h2=>heap_setCell_other _ _ _ _ (λe=>by simp only at e;rcases hb with rfl|rfl<;>omega)⟩
theorem NB.grows {p1 p2:Nat} {a w w':World} (h:aB a w) (k:NB p1 p2 w w') (h1:a.heap.size<=p1) (h2:a.heap.size<=p2):aB a w' :=
 ⟨k.os.trans (Below.os h),k.tape.trans (Below.tape h),k.output.trans (Below.output h),Am h.size k.size,λi hi=>(k.block i (Aj hi h.size) (by omega) (by omega)).trans (Below.block h i hi)⟩
theorem NB.cell {p1 p2:Nat} {w w':World} (h:NB p1 p2 w w') {p:Addr} {v:Value} (hc:w.cell? p=some v) (h1:p.block≠p1) (h2:p.block≠p2):w'.cell? p=some v:=by
 have ae:=Ab w _ hc;have hb:=h.block p.block ae h1 h2;unfold Al at hc ⊢;rw[hb];exact hc
theorem gR.nb {w w':World} {mb bm p1 p2:Nat} {m:Mx} (h:gR w mb bm m) (hn:NB p1 p2 w w') (h1:mb≠p1) (h2:mb≠p2) (h3:bm≠p1) (h4:bm≠p2):gR w' mb bm m:=by
 obtain⟨D,ho,hD⟩:=h.own;have ae:=ho.lt;obtain⟨es,clock,hb,F,hs,he⟩:=ho;exact⟨h.ok,hn.cell h.c0 h1 h2,hn.cell h.c1 h1 h2,hn.cell h.c2 h1 h2,D,⟨es,clock,(hn.block bm ae h3 h4).trans hb,F,hs,he⟩,hD⟩
structure DAt (w:World) (pb p1 p2:Nat) (s:Value) (st:Nat×Bool):Prop where
 cb:w.cell? ⟨pb,0,none⟩=some s
 c1:w.cell? ⟨p1,0,none⟩=some (.int .i64 (st.1:Nat))
 c2:w.cell? ⟨p2,0,none⟩=some (.bool st.2)
 f1:w.frozen? ⟨p1,0,none⟩=false
 f2:w.frozen? ⟨p2,0,none⟩=false
 nb1:pb≠p1
 nb2:pb≠p2
 n12:p1≠p2
theorem DAt.grows {w w':World} {pb p1 p2:Nat} {s:Value} {st:Nat×Bool} (h:DAt w pb p1 p2 s st) (hg:aB w w'):DAt w' pb p1 p2 s st :=
 ⟨hg.cell h.cb,hg.cell h.c1,hg.cell h.c2,(hg.froz (p:=⟨p1,0,none⟩) (Ab w _ h.c1)).trans h.f1,(hg.froz (p:=⟨p2,0,none⟩) (Ab w _ h.c2)).trans h.f2,h.nb1,h.nb2,h.n12⟩
theorem DAt.put1 {w:World} {pb p1 p2:Nat} {s:Value} {st:Nat×Bool} (h:DAt w pb p1 p2 s st) (k:Nat):DAt (w.setCell ⟨p1,0,none⟩ (.int .i64 k)) pb p1 p2 s (k,st.2):=by
 refine⟨?_,Ai _ _ _ h.c1,?_,by rw[Ad];exact h.f1,by rw[Ad];exact h.f2,h.nb1,h.nb2,h.n12⟩
 ·rw[Ac _ _ _ _ (λe=>h.nb1 (congrArg Ak e).symm)];exact h.cb
 ·rw[Ac _ _ _ _ (λe=>h.n12 (congrArg Ak e))];exact h.c2
theorem DAt.put2 {w:World} {pb p1 p2:Nat} {s:Value} {st:Nat×Bool} (h:DAt w pb p1 p2 s st):DAt (w.setCell ⟨p2,0,none⟩ (.bool true)) pb p1 p2 s (st.1,true):=by
 refine⟨?_,?_,Ai _ _ _ h.c2,by rw[Ad];exact h.f1,by rw[Ad];exact h.f2,h.nb1,h.nb2,h.n12⟩
 ·rw[Ac _ _ _ _ (λe=>h.nb2 (congrArg Ak e).symm)];exact h.cb
 ·rw[Ac _ _ _ _ (λe=>h.n12 (congrArg Ak e).symm)];exact h.c1
def vO (N:Nat×Nat×Bool) (pb p1 p2:Nat) (s:Value) (w:World) (e:Ending) (w':World):Prop :=
 e=.returned (.int .i64 N.1)/\DAt w' pb p1 p2 s N.2/\NB p1 p2 w w'
theorem aY1 (b:List UInt8) (ba:Option Addr) (bc:Nat) (st:Nat×Bool) (pb p1 p2:Nat) (w:World) (hk:st.1<=b.length) (hb:b.length<=1099511627776) (ac:aG w ba 1 (b.map aY)) (hd:DAt w pb p1 p2 (.slice ba b.length bc) st) :
  Calls Tryz.prog 162 #[.pointer (some ⟨pb,0,none⟩),.pointer (some ⟨p1,0,none⟩),.pointer (some ⟨p2,0,none⟩)] w (vO (nxt b st) pb p1 p2 (.slice ba b.length bc) w):=by
 obtain⟨k,t⟩:=st;have CU:=Aa (yT b k ba bc w hk hb ac);have HD:=Aa hd;have cb:=hd.cb;have c1:=hd.c1;have c2:=hd.c2;have f1:=hd.f1;have f2:=hd.f2;simp only at c1 c2;clear ac hd
 cases hR:rdU (b.drop k) with
 | none =>
  have hn:nxt b (k,t)=(0,k,true):=by
   unfold nxt eY0;rw[hR]
  rw[hR]at CU;rw[hn];unfold gC0 at CU;clear hR hn;go_enter Tryz.func162,Tryz.ntmps162
  go_wp2_with fail
  refine CU.out.mono ?_;rintro e w1 ⟨rfl,hg⟩;have ev:=HD.out.grows hg;have d2:=ev.c2;have e2:=ev.f2;have HD1:=Aa ev;simp only at d2;clear ev;go_wp2_with fail
  go_ret;exact⟨rfl,HD1.out.put2,(NB.of hg).trans (NB.set (Or.inr rfl) _)⟩
 | some x =>
  obtain⟨v,n⟩:=x;rw[hR]at CU;unfold gC0 at CU;obtain⟨K,hK⟩:=exq (k+n);simp only[<-hK]at CU;by_cases hv:v<=1048576
  ·have hn:nxt b (k,t)=(v,K,t):=by
    unfold nxt eY0;rw[hR,hK];simp only;rw[if_pos hv]
   rw[hn];have hvi:¬(1048576:Int)<v:=by omega
   have wv:IntKind.i64.wrap (v:Int)=v:=by simp[Af,Ag,Ae];omega
   clear hR hn hK;go_enter Tryz.func162,Tryz.ntmps162
   go_wp2_with fail
   refine CU.out.mono ?_;rintro e w1 ⟨rfl,hg⟩;have ev:=HD.out.grows hg;have d1:=ev.c1;have e1:=ev.f1;have HD1:=Aa ev;simp only at d1;clear ev;go_wp2_with fail
   go_ret;exact⟨rfl,HD1.out.put1 K,(NB.of hg).trans (NB.set (Or.inl rfl) _)⟩
  ·have hn:nxt b (k,t)=(0,k,true):=by
    unfold nxt eY0;rw[hR];simp only;rw[if_neg hv]
   rw[hn];have hvi:(1048576:Int)<v:=by omega
   clear hR hn hK;go_enter Tryz.func162,Tryz.ntmps162
   go_wp2_with fail
   refine CU.out.mono ?_;rintro e w1 ⟨rfl,hg⟩;have ev:=HD.out.grows hg;have d2:=ev.c2;have e2:=ev.f2;have HD1:=Aa ev;simp only at d2;clear ev;go_wp2_with fail
   go_ret;exact⟨rfl,HD1.out.put2,(NB.of hg).trans (NB.set (Or.inr rfl) _)⟩
def jV (R:Option Mx) (w:World) (e:Ending) (w':World):Prop :=
 (R=none->e=.returned (.tuple #[.pointer none,.int .i64 5]))/\(∀m,R=some m->∃mb bm,e=.returned (.tuple #[.pointer (some ⟨mb,0,none⟩),.int .i64 0])/\gR w' mb bm m/\w.heap.size<=mb/\w.heap.size<=bm)/\aB w w'
theorem jV.bad {w w':World} (h:aB w w'):jV none w (.returned (.tuple #[.pointer none,.int .i64 5])) w':=⟨λ_=>rfl,λ_ h=>(by cases h),h⟩
def EG (bm:Nat) (w w':World):Prop:=w.grownBy w' (some bm)
theorem EG.refl (bm:Nat) (w:World):EG bm w w:=⟨rfl,rfl,rfl,Nat.le_refl _,λ_ _ _=>rfl⟩
theorem EG.trans (bm:Nat) (a b c:World) (h:EG bm a b) (k:EG bm b c):EG bm a c:=World.grownBy.andThen h k (λ_ hj=>Or.inr hj)
instance (bm:Nat) (w:World):Nonempty (Ext (EG bm) w):=⟨⟨w,EG.refl _ _⟩⟩
theorem DAt.by {w w':World} {pb p1 p2 bm N:Nat} {s:Value} {st:Nat×Bool} {D:DataW Unit} (h:DAt w pb p1 p2 s st) (ho:w.ownsMap Tryz.prog 158 (plainElem Tryz.prog 3) bm N D) (hg:w.grownBy w' (some bm)):DAt w' pb p1 p2 s st:=by
 have nm:∀ {p:Addr} {v:Value},w.cell? p=some v->p.block≠bm:=λ{p v} hc e=>by
  obtain⟨es,clock,hb,_⟩:=ho;rw[<-e]at hb;simp[Al,hb]at hc
 have fz:∀ {p:Addr} {v:Value},w.cell? p=some v->w'.frozen? p=w.frozen? p:=λ{p v} hc=>by
  have hb:=hg.block p.block (Ab w _ hc) (λe=>nm hc (Option.some.inj e));unfold World.frozen?;rw[hb]
 exact⟨aU hg h.cb (λe=>nm h.cb (Option.some.inj e)),aU hg h.c1 (λe=>nm h.c1 (Option.some.inj e)),aU hg h.c2 (λe=>nm h.c2 (Option.some.inj e)),(fz h.c1).trans h.f1,(fz h.c2).trans h.f2,h.nb1,h.nb2,h.n12⟩
theorem aR1 (w:World) (s:Value):DAt (((w.alloc (.cells #[s] 28)).alloc (.cells #[.int .i64 0] 3)).alloc (.cells #[.bool false] 4)) w.heap.size (w.heap.size+1) (w.heap.size+1+1) s (0,false):=by
 have e1:(w.alloc (.cells #[s] 28)).heap.size=w.heap.size+1:=by simp
 have e2:((w.alloc (.cells #[s] 28)).alloc (.cells #[.int .i64 0] 3)).heap.size=w.heap.size+1+1:=by simp
 have b0:=bT (w:=w) (cs:=#[s]) (t:=28) (w':=((w.alloc (.cells #[s] 28)).alloc (.cells #[.int .i64 0] 3)).alloc (.cells #[.bool false] 4)) ((aB.alloc _ _).al _);have b1:=bT (w:=w.alloc (.cells #[s] 28)) (cs:=#[.int .i64 0]) (t:=3) (w':=((w.alloc (.cells #[s] 28)).alloc (.cells #[.int .i64 0] 3)).alloc (.cells #[.bool false] 4)) (aB.alloc _ _);have b2:=bT (w:=(w.alloc (.cells #[s] 28)).alloc (.cells #[.int .i64 0] 3)) (cs:=#[.bool false]) (t:=4) (w':=((w.alloc (.cells #[s] 28)).alloc (.cells #[.int .i64 0] 3)).alloc (.cells #[.bool false] 4)) (aB.refl _);rw[e1]at b1;rw[e2]at b2;exact⟨b0.1 0 _ rfl,b1.1 0 _ rfl,b2.1 0 _ rfl,b1.2 0,b2.2 0,by omega,by omega,by omega⟩
theorem lI0 {b:List UInt8} {st:Nat×Bool} (h:st.1<=b.length):(nxt b st).2.1<=b.length/\(nxt b st).1<=1048576:=by
 obtain⟨k,t⟩:=st;unfold nxt eY0;simp only
 cases hr:rdU (b.drop k) with
 | none=>exact⟨h,Ah _⟩
 | some x =>
  obtain⟨v,n⟩:=x;simp only;by_cases hv:v<=1048576
  ·rw[if_pos hv]
   obtain⟨r,_,h2,h3⟩:=hH0.1 hr
   have:=congrArg List.length h2
   simp only[List.length_drop,List.length_append]at this;exact⟨by show k+n<=b.length;simp only at h;omega,hv⟩
  ·rw[if_neg hv]
   exact⟨h,Ah _⟩
theorem sX0 (b:List UInt8) (ba:Option Addr) (bc:Nat) (w:World) (hb:b.length<=1099511627776) (ac:aG w ba 1 (b.map aY)) :
  Calls Tryz.prog 93 #[.slice ba b.length bc] w (jV (nZ1 b) w):=by
 have un:∀(fn:Fn) (first cap:Array Value) (w:World),(Instr.makeFunc fn first cap).run Tryz.prog w=.ok (.func fn first cap) w:=λ_ _ _ _=>rfl
 have HAT:=Aa ac
 have HBA:Hid (∀q:Addr,ba=some q->b.map aY≠[]->q.block<w.heap.size):=λq hq aj=>by
  have pe:b≠[]:=λe=>aj (by rw[e];rfl);obtain⟨x,hx⟩:∃x,b[0]?=some x:=⟨_,List.getElem?_eq_getElem (List.length_pos_iff.2 pe)⟩;obtain⟨bb,bo,e,fg⟩:=ac.get pe;rw[e]at hq;cases hq
  exact Ab _ _ (fg 0 x hx 0 _ rfl)
 clear ac;obtain⟨R,hR⟩:=exq (nZ1 b);have HR:=Aa hR;rw[<-hR];clear hR;go_enter Tryz.func93,Tryz.ntmps93
 go_wp2_with fail
 have hd0:=aR1 w (.slice ba b.length bc);have nj:aB w (((w.alloc (.cells #[Value.slice ba b.length bc] 28)).alloc (.cells #[Value.int .i64 0] 3)).alloc (.cells #[Value.bool false] 4)):=((aB.alloc _ _).al _).al _;generalize (((w.alloc (.cells #[Value.slice ba b.length bc] 28)).alloc (.cells #[Value.int .i64 0] 3)).alloc (.cells #[Value.bool false] 4))=W0 at *;have HD0:=Aa hd0;clear hd0;have CN:=λ(st:Nat×Bool) W (hg:aB w W) (hk:st.1<=b.length) (hd:DAt W w.heap.size (w.heap.size+1) (w.heap.size+1+1) (.slice ba b.length bc) st)=>Aa (aY1 b ba bc st _ _ _ W hk hb (HAT.out.grows hg) hd);have C1:=λW (hg:aB w W) (hd:DAt W w.heap.size (w.heap.size+1) (w.heap.size+1+1) (.slice ba b.length bc) (0,false))=>Aa (show Calls _ _ _ W (vO (hdN b) _ _ _ _ W) from (CN (0,false) W hg (Ah _) hd).out)
 have bX:(hdN b).2.1<=b.length/\(hdN b).1<=1048576:=lI0 (st:=(0,false)) (Ah _);have C2:=λW (hg:aB w W) (hd:DAt W w.heap.size (w.heap.size+1) (w.heap.size+1+1) (.slice ba b.length bc) (hdN b).2)=>Aa (show Calls _ _ _ W (vO (hdD b) _ _ _ _ W) from (CN (hdN b).2 W hg bX.1 hd).out)
 have bY:(hdD b).2.1<=b.length/\(hdD b).1<=1048576:=lI0 (st:=(hdN b).2) bX.1;have C3:=λW (hg:aB w W) (hd:DAt W w.heap.size (w.heap.size+1) (w.heap.size+1+1) (.slice ba b.length bc) (hdD b).2)=>Aa (show Calls _ _ _ W (vO (hdQ b) _ _ _ _ W) from (CN (hdD b).2 W hg bY.1 hd).out)
 have bZ:(hdQ b).2.1<=b.length/\(hdQ b).1<=1048576:=lI0 (st:=(hdD b).2) bY.1;have HR2:Hid (R=if cJ1 (hdN b).1 (hdD b).1=true/\(hdQ b).2.2=false then iH b (hdQ b).1 (newM (hdN b).1 (hdD b).1) 0 (hdQ b).2 else none):=HR.out
 clear HR;generalize hdN b=X at *;generalize hdD b=Y at *;generalize hdQ b=Z at *;obtain⟨x,sx⟩:=X;obtain⟨y,sy⟩:=Y;obtain⟨z,kz,tz⟩:=Z;simp only at HR2 bX bY bZ C1 C2 C3;unfold vO at C1 C2 C3;simp only at C1 C2 C3;have nbg:∀ {W W':World},aB w W->NB (w.heap.size+1) (w.heap.size+1+1) W W'->aB w W':=λh1 h2=>NB.grows h1 h2 (by omega) (by omega);refine(C1 W0 nj HD0.out).out.mono ?_;rintro e w1 ⟨rfl,ev,jf⟩;have an:=nbg nj jf;have HD1:=Aa ev;clear ev jf;go_wp2_with fail
 refine(C2 w1 an HD1.out).out.mono ?_;rintro e w2 ⟨rfl,ij,od⟩;have af:=nbg an od;have HD2:=Aa ij;clear ij od;go_wp2_with fail
 refine(C3 w2 af HD2.out).out.mono ?_;rintro e w3 ⟨rfl,oy,th⟩;have ax:=nbg af th;have HD3:=Aa oy;have hp3:=Ab w3 _ oy.c2;simp only at hp3;clear oy th C1 C2 C3 HD0 HD1 HD2 an af nj;cases l7:cJ1 (x:Int) (y:Int)
 ·have av:R=none:=by rw[HR2.out,l7];rfl
  subst av;have CB:=Aa (dE1 (x:Int) (y:Int) w3 l7);clear HR2 CN l7;go_wp2_with fail
  refine CB.out.mono ?_;rintro e w4 ⟨rfl,rfl⟩;have d2:=HD3.out.c2;simp only at d2;cases tz
  ·go_wp2_with fail
   go_ret2;exact jV.bad ax
  ·go_wp2_with fail
   go_ret2;exact jV.bad ax
 ·have CA:=Aa (yA0 (x:Int) (y:Int) w3 l7)
  obtain⟨jc,ie,lk,hy2⟩:=tR.1 l7;cases tz
  ·have HR3:Hid (R=iH b z (newM (x:Int) (y:Int)) 0 (kz,false)):=by
    have h1:=HR2.out;rw[if_pos ⟨l7,rfl⟩]at h1;exact h1
   obtain⟨NN,hNN⟩:=exq (x*x);have hnn:x*x<=4096:=Nat.mul_le_mul (by omega:x<=64) (by omega:x<=64)
   have wNN:IntKind.i64.wrap ((x:Int)*x)=NN:=by
    rw[show ((x:Int)*x)=((x*x:Nat):Int) by push_cast;rfl,<-hNN]
    simp[Af,Ag,Ae];omega
   have hNb:NN<=4096:=by omega
   have HNN:=Aa hNN;clear HR2 l7 hNN hnn;go_wp2_with fail
   refine CA.out.mono ?_;rintro e w4 ⟨rfl,hm4,ch⟩;have ahn:=ax.tr ch;have hd4:=HD3.out.grows ch;have d2:=hd4.c2;simp only at d2;have HD4:=Aa hd4;have HM4:=Aa hm4;clear hd4 hm4 CA HD3;have hs3:=ax.size;obtain⟨bm,yh⟩:=exq w3.heap.size;rw[<-yh]at HM4 hp3 hs3 ⊢;clear yh;go_wp2_with fail
   go_loopw [12,34] (λi c wr=>∃(q j k:Nat) (m:Mx),q<=z/\c=.int .i64 q/\i=.int .i64 ((j:Int)-1)/\j<=4096/\k<=b.length/\Hid (gR wr (bm+1) bm m/\m.n=x/\m.d=y)/\Hid (DAt wr w.heap.size (w.heap.size+1) (w.heap.size+1+1) (.slice ba b.length bc) (k,false))/\Hid (R=iH b (z-q) m j (k,false))/\aB w wr) (λ_ c _=>z-(intOf c).toNat)
   case atStart=>exact⟨0,0,kz,newM (x:Int) (y:Int),Ah _,rfl,rfl,by omega,bZ.1,⟨HM4.out,rfl,rfl⟩,HD4.out,HR3.out,ahn⟩
   case round =>
    obtain⟨q,j,k,m,hq,rfl,rfl,hj,hk,hM,hD,hRq,hg⟩:=hrel;by_cases ae:q<z
    ·have hqz:(q:Int)<z:=by omega
     have bU:=lI0 (b:=b) (st:=(k,false)) hk;have bV:=lI0 (b:=b) (st:=(nxt b (k,false)).2) bU.1;have CU:=CN (k,false) wr hg hk hD.out;have CV:=λW (hg:aB w W) hd=>CN (nxt b (k,false)).2 W hg bU.1 hd;have ti:=hRq.out;rw[show z-q=(z-(q+1))+1 by omega]at ti
     simp only[iH]at ti;have eu:=λ(i:Nat) (hi:i<m.n*m.n)=>hM.out.1.ok;generalize nxt b (k,false)=U at *;generalize nxt b U.2=V at *;obtain⟨u,su⟩:=U;obtain⟨v,kv,tv⟩:=V;unfold vO at CU CV;simp only at bU bV CU CV ti;have HR2:=Aa ti;have wI:IntKind.i64.wrap ((j:Int)-1+u)=(j:Int)-1+u:=by simp only[Af,Ag,Ae];simp;omega
     clear ti hRq eu;go_wp2_with fail
     refine CU.out.mono ?_;rintro e w6 ⟨rfl,hd6,hn6⟩;have dl:=nbg hg hn6;have HM6:Hid (gR w6 (bm+1) bm m):=hM.out.1.nb hn6 (by omega) (by omega) (by omega) (by omega);have HD6:=Aa hd6;clear hd6 hn6 CU;go_wp2_with fail
     refine(CV w6 dl HD6.out).out.mono ?_;rintro e w7 ⟨rfl,hd7,hn7⟩;have cw:=nbg dl hn7;have HM7:Hid (gR w7 (bm+1) bm m):=HM6.out.nb hn7 (by omega) (by omega) (by omega) (by omega);have d2:=hd7.c2;simp only at d2;have HD7:=Aa hd7;clear hd7 hn7 CV HD6 HM6 dl;cases tv
     ·have us:R=if u=0\/(v:Int)=m.d\/m.n*m.n<=j+u-1\/isC (v:Int)=false then none else iH b (z-(q+1)) (m.set (eE m.n (j+u-1)) v) (j+u) (kv,false):=by
       rw[HR2.out];simp only[Bool.false_eq_true,false_or]
      have uj:=hM.out.2.1;have hmd:=hM.out.2.2;rw[uj,hmd,<-HNN.out]at us;clear HR2 hM hD CN;by_cases hu:u=0
      ·have av:R=none:=by rw[us,if_pos (Or.inl hu)]
       subst av;have hui:(u:Int)=0:=by omega
       have z2:∀q:Ext aB w7.drew,q.u.cell? ⟨w.heap.size+1+1,0,none⟩=some (.bool false):=aF ((aB.drew _).cell d2);clear us;go_wp2_with fail
       refine bK (bB 29 []) (by kernel_rfl) (λd _ _ _ _ h=>by cases d<;>exact h) ?_
       iterate 29 (refine aH rfl (λK hK=>?_);go_simp;refine hK _ ?_;clear hK K)
       refine cB ?_;clear z2;go_wp2_with fail
       go_ret2;exact jV.bad cw.dr
      ·have hui:¬(u:Int)=0:=by omega
       obtain⟨I,hI⟩:∃I:Nat,(j:Int)-1+u=I:=⟨j+u-1,by omega⟩;have hIj:I=j+u-1:=by omega
       have wI2:IntKind.i64.wrap ((j:Int)-1+u)=I:=by rw[wI,hI]
       have HIJ:=Aa hIj;rw[<-hIj]at us;clear wI hI hIj;by_cases hv:(v:Int)=y
       ·have av:R=none:=by rw[us,if_pos (Or.inr (Or.inl hv))]
        subst av;have z2:∀q:Ext aB w7.drew,q.u.cell? ⟨w.heap.size+1+1,0,none⟩=some (.bool false):=aF ((aB.drew _).cell d2);have hvb:((v:Int)==(y:Int))=true:=by rw[beq_iff_eq];exact hv
        clear us hv;go_wp2_with fail
        refine bK (bB 29 []) (by kernel_rfl) (λd _ _ _ _ h=>by cases d<;>exact h) ?_
        iterate 29 (refine aH rfl (λK hK=>?_);go_simp;refine hK _ ?_;clear hK K)
        refine cB ?_;clear z2;go_wp2_with fail
        go_ret2;exact jV.bad cw.dr
       ·have hvb:((v:Int)==(y:Int))=false:=by rw[beq_eq_false_iff_ne];exact hv
        by_cases hNI:NN<=I
        ·have av:R=none:=by rw[us,if_pos (Or.inr (Or.inr (Or.inl hNI)))]
         subst av;have z2:∀q:Ext aB w7.drew,q.u.cell? ⟨w.heap.size+1+1,0,none⟩=some (.bool false):=aF ((aB.drew _).cell d2);have hNi:(NN:Int)<=I:=by omega
         clear us hv;go_wp2_with fail
         refine bK (bB 29 []) (by kernel_rfl) (λd _ _ _ _ h=>by cases d<;>exact h) ?_
         iterate 29 (refine aH rfl (λK hK=>?_);go_simp;refine hK _ ?_;clear hK K)
         refine cB ?_;clear z2;go_wp2_with fail
         go_ret2;exact jV.bad cw.dr
        ·have hNi:¬(NN:Int)<=I:=by omega
         have hIn:I<m.n*m.n:=by rw[uj,<-HNN.out];omega
         obtain⟨r,hr⟩:∃r:Nat,r=I/x:=⟨_,rfl⟩;obtain⟨l,hl⟩:∃l:Nat,l=I%x:=⟨_,rfl⟩;have tj:eE m.n I=((r:Int),(l:Int)):=by rw[uj,hr,hl];rfl
         have ja:inP m.n ((r:Int),(l:Int))=true:=by rw[<-tj];exact(kV hIn).1
         have m8:¬(x:Int)=0:=by omega
         have ajl:¬x=0:=by omega
         have hrI:r<=I:=by rw[hr];exact Nat.div_le_self _ _
         have hlI:l<=I:=by rw[hl];exact Nat.mod_le _ _
         have dm:IntKind.i64.wrap (r:Int)=r:=by simp only[Af,Ag,Ae];simp;omega
         have wl2:IntKind.i64.wrap (l:Int)=l:=by simp only[Af,Ag,Ae];simp;omega
         have hdv:(I:Int)/x=r:=by rw[hr];simp
         have hdt:(I:Int).tdiv x=r:=by rw[hr];rfl
         have hme:(I:Int)%x=l:=by rw[hl];simp
         have hmt:(I:Int).tmod x=l:=by rw[hl,Int.ofNat_tmod]
         have CS:=cO1 w7.drew (bm+1) bm m (HM7.out.grows (aB.drew _)) (r:Int) (l:Int) (v:Int) (by unfold WfI;exact WalkArith.wf_i64 (by omega));unfold xV0 at CS;have mq:m.setB ((r:Int),(l:Int)) v=isC (v:Int):=by unfold Mx.setB;rw[ja];rfl
         rw[mq]at CS
         have z2:∀q:Ext (EG bm) w7.drew,q.u.cell? ⟨w.heap.size+1+1,0,none⟩=some (.bool false):=λq=>by
          obtain⟨D,ho,_⟩:=(HM7.out.grows (aB.drew _)).own;have hh:w7.drew.cell? ⟨w.heap.size+1+1,0,none⟩=some (.bool false):=d2;refine aU q.h hh (λe=>?_);have e:=Option.some.inj e;obtain⟨es,clock,cy,_⟩:=ho;rw[<-e]at cy;simp[Al,cy]at hh
         cases hC:isC (v:Int)
         ·have av:R=none:=by rw[us,if_pos (Or.inr (Or.inr (Or.inr hC)))]
          subst av;rw[hC]at CS;have CS2:=Aa CS;clear us hv hr hl tj ja mq hC CS hIn;go_wp2_with fail
          refine lV (EG bm) (bB 29 [26]) (EG.refl bm) (EG.trans bm) (by kernel_rfl) (by kernel_rfl) (λd _ _ _ _ h=>by cases d<;>exact h) ?_
          iterate 26 (refine aH rfl (λK hK=>?_);go_simp;refine hK _ ?_;clear hK K)
          refine bH rfl (by first|rfl|(go_simp;done)|(simp[go_sem,Region.wanted,yielded];done)) (λK hK=>?_)
          go_simp;refine CS2.out.mono ?_;rintro e w9 ⟨rfl,hm9,rq⟩;refine⟨rq,hK _ _ ?_⟩;clear hK K;iterate 2 (refine aH rfl (λK hK=>?_);go_simp;refine hK _ ?_;clear hK K)
          refine cB ?_;clear z2;go_wp2_with fail
          go_ret2;exact jV.bad (cw.dr.grown rq (λq hq=>by cases hq;omega))
         ·rw[if_neg (λh=>by
           rcases h with h|h|h|h
           ·exact hu h
           ·exact hv h
           ·exact hNI h
           ·rw[hC]at h;cases h)]at us
          rw[hC]at CS
          have eu:m.setIf ((r:Int),(l:Int)) v=m.set (eE x I) v:=by
           rw[lB0 (mq.trans hC),<-uj,tj]
          rw[eu]at CS;have CS2:=Aa CS;have HR3:=Aa us;have ae5:Hid ((m.set (eE x I) v).n=x/\(m.set (eE x I) v).d=y):=⟨uj,hmd⟩;have hIb:I<NN:=by omega
          clear us hv hr hl tj ja mq hC CS hIn eu uj hmd;go_wp2_with fail
          refine lV (EG bm) (bB 29 [26]) (EG.refl bm) (EG.trans bm) (by kernel_rfl) (by kernel_rfl) (λd _ _ _ _ h=>by cases d<;>exact h) ?_
          iterate 26 (refine aH rfl (λK hK=>?_);go_simp;refine hK _ ?_;clear hK K)
          refine bH rfl (by first|rfl|(go_simp;done)|(simp[go_sem,Region.wanted,yielded];done)) (λK hK=>?_)
          go_simp;refine CS2.out.mono ?_;rintro e w9 ⟨rfl,hm9,rq⟩;refine⟨rq,hK _ _ ?_⟩;clear hK K;iterate 2 (refine aH rfl (λK hK=>?_);go_simp;refine hK _ ?_;clear hK K)
          refine cB ?_;clear z2;have fu:=cw.dr.grown rq (λq hq=>by cases hq;omega)
          have HD9:Hid (DAt w9 w.heap.size (w.heap.size+1) (w.heap.size+1+1) (.slice ba b.length bc) (kv,false)):=by
           obtain⟨D,ho,_⟩:=(HM7.out.grows (aB.drew _)).own;exact(HD7.out.grows (aB.drew _)).by ho rq
          have HM9:=Aa hm9;clear hm9 HM7 HD7 rq CS2;go_wp2_with fail
          go_roundw
          case rel=>exact⟨q+1,j+u,kv,_,ae,by go_num,by first|(congr 1;have:=HIJ.out;push_cast;omega)|(have:=HIJ.out;go_num),by have:=HIJ.out;omega,bV.1,⟨HM9.out,ae5.out.1,ae5.out.2⟩,HD9.out,HR3.out,fu⟩
          case measure=>simp[intOf];omega
     ·have av:R=none:=by
       have h1:=HR2.out;rw[if_pos (Or.inl rfl)]at h1;exact h1
      subst av;have z2:∀q:Ext aB w7.drew,q.u.cell? ⟨w.heap.size+1+1,0,none⟩=some (.bool true):=aF ((aB.drew _).cell d2);clear HR2 hM hD CN;go_wp2_with fail
      refine bK (bB 29 []) (by kernel_rfl) (λd _ _ _ _ h=>by cases d<;>exact h) ?_
      iterate 29 (refine aH rfl (λK hK=>?_);go_simp;refine hK _ ?_;clear hK K)
      refine cB ?_;clear z2;go_wp2_with fail
      go_ret2;exact jV.bad cw.dr
    ·obtain rfl:q=z:=by omega
     have ti:=hRq.out;rw[Nat.sub_self]at ti;simp only[iH]at ti;have hd:=hD.out;have d1:=hd.c1;have db:=hd.cb;simp only at d1;have HR2:=Aa ti;clear ti hRq hd CN;by_cases hkl:k=b.length
     ·have av:R=some m:=by
       have h1:=HR2.out;rw[if_pos hkl]at h1;exact h1
      subst av;subst hkl;clear HR2 hD;go_wp2_with fail
      go_ret2;exact⟨λh=>(by cases h),λm' h=>(by cases h;exact⟨bm+1,bm,rfl,hM.out.1,by omega,by omega⟩),hg⟩
     ·have av:R=none:=by
       have h1:=HR2.out;rw[if_neg hkl]at h1;exact h1
      subst av;have cn:((k:Int)==(b.length:Int))=false:=by rw[beq_eq_false_iff_ne];omega
      clear HR2 hD hM;go_wp2_with fail
      go_ret2;exact jV.bad hg
  ·have av:R=none:=by rw[HR2.out,if_neg (λh=>by cases h.2)]
   subst av;clear HR2 CN l7;go_wp2_with fail
   refine CA.out.mono ?_;rintro e w4 ⟨rfl,hm4,ch⟩;have d2:=(HD3.out.grows ch).c2;simp only at d2;clear hm4 CA;go_wp2_with fail
   go_ret2;exact jV.bad (ax.tr ch)
end
end Go.Proofs.YthgklnohcmaopaaGreatDoor
