/- The texts DecN DecW, one behind the other. -/
import Derived.Test.YtjhajgffmnkocaaGreatDoorPq21
import Derived.Test.YtjhajgffmnkocaaGreatDoorPq12
open Go.Lib renaming hid → Aa
open Go.World renaming block_lt_of_cell? → Ab,cell?_setCell_other → Ac,frozen?_setCell → Ad,cell?_setCell_same → Ai,cell? → Al
open Go.IntKind renaming signed → Ae,wrap → Af,bits → Ag
open Nat renaming zero_le → Ah,lt_of_lt_of_le → Aj,le_trans → Am
open Go.Addr renaming block → Ak
set_option maxHeartbeats 8000000
namespace Go.Proofs.YtjhajgffmnkocaaGreatDoor
set_option maxRecDepth 100000
section
open Go Go.RowKit
attribute [local go_sem] aO aM
theorem xU (b:List UInt8) (k:Nat) (ba:Option Addr) (bc:Nat) (w:World) (hk:k<=b.length) (hb:b.length<=1099511627776) (ac:aG w ba 1 (b.map aV)) :
  Calls Tryz.prog 120 #[.slice ba b.length bc,.int .i64 k] w λe w'=>e=.returned (fH0 k (rdU (b.drop k)))/\aB w w':=by
 have CR:=Aa (gR1 b k ba bc w hk hb ac)
 cases hR:rdU (b.drop k) with
 | none =>
  rw[hR]at CR;unfold fH0 at CR ⊢;clear hR ac;go_enter Tryz.func120,Tryz.ntmps120
  go_wp2_with fail
  refine CR.out.mono ?_;rintro e w1 ⟨rfl,hg⟩;go_wp2_with fail
  go_ret3;exact⟨rfl,hg⟩
 | some x =>
  obtain⟨v,n⟩:=x;rw[hR]at CR;unfold fH0 at CR ⊢;obtain⟨K,hK⟩:=exq (k+n);simp only[<-hK]at CR ⊢;clear hR ac hK;go_enter Tryz.func120,Tryz.ntmps120
  go_wp2_with fail
  refine CR.out.mono ?_;rintro e w1 ⟨rfl,hg⟩;go_wp2_with fail
  go_ret3;exact⟨rfl,hg⟩
structure NB (p1 p2:Nat) (w w':World):Prop where
 os:w'.os=w.os
 tape:w'.tape=w.tape
 output:w'.output=w.output
 size:w.heap.size<=w'.heap.size
 block:∀k,k<w.heap.size->k≠p1->k≠p2->w'.heap[k]?=w.heap[k]?
theorem NB.of {p1 p2:Nat} {w w':World} (h:aB w w'):NB p1 p2 w w':=⟨Below.os h,Below.tape h,Below.output h,h.size,λk hk _ _=>Below.block h k hk⟩
theorem NB.trans {p1 p2:Nat} {a b c:World} (h:NB p1 p2 a b) (k:NB p1 p2 b c):NB p1 p2 a c :=
 ⟨k.os.trans h.os,k.tape.trans h.tape,k.output.trans h.output,Am h.size k.size,λi hi h1 h2=>(k.block i (Aj hi h.size) h1 h2).trans (h.block i hi h1 h2)⟩
theorem NB.set {p1 p2 b i:Nat} {w:World} (hb:b=p1\/b=p2) (v:Value):NB p1 p2 w (w.setCell ⟨b,i,none⟩ v) :=
 ⟨rfl,rfl,rfl,by simp,λk _ h1 h2=>heap_setCell_other _ _ _ _ (λe=>by simp only at e;rcases hb with rfl|rfl<;>omega)⟩
theorem NB.grows {p1 p2:Nat} {a w w':World} (h:aB a w) (k:NB p1 p2 w w') (h1:a.heap.size<=p1) (h2:a.heap.size<=p2):aB a w' :=
 ⟨k.os.trans (Below.os h),k.tape.trans (Below.tape h),k.output.trans (Below.output h),Am h.size k.size,λi hi=>(k.block i (Aj hi h.size) (by omega) (by omega)).trans (Below.block h i hi)⟩
theorem NB.cell {p1 p2:Nat} {w w':World} (h:NB p1 p2 w w') {p:Addr} {v:Value} (hc:w.cell? p=some v) (h1:p.block≠p1) (h2:p.block≠p2):w'.cell? p=some v:=by
 have af:=Ab w _ hc;have hb:=h.block p.block af h1 h2;unfold Al at hc ⊢;rw[hb];exact hc
theorem gF.nb {w w':World} {mb bm p1 p2:Nat} {m:Mx} (h:gF w mb bm m) (hn:NB p1 p2 w w') (h1:mb≠p1) (h2:mb≠p2) (h3:bm≠p1) (h4:bm≠p2):gF w' mb bm m:=by
 obtain⟨D,ho,hD⟩:=h.own;have af:=ho.lt;obtain⟨es,clock,hb,F,hs,he⟩:=ho;exact⟨h.ok,hn.cell h.c0 h1 h2,hn.cell h.c1 h1 h2,hn.cell h.c2 h1 h2,D,⟨es,clock,(hn.block bm af h3 h4).trans hb,F,hs,he⟩,hD⟩
structure DAt (w:World) (pb p1 p2:Nat) (s:Value) (st:Nat×Bool):Prop where
 cb:w.cell? ⟨pb,0,none⟩=some s
 c1:w.cell? ⟨p1,0,none⟩=some (.int .i64 (st.1:Nat))
 c2:w.cell? ⟨p2,0,none⟩=some (.bool st.2)
 f1:w.frozen? ⟨p1,0,none⟩=false
 f2:w.frozen? ⟨p2,0,none⟩=false
 nb1:pb≠p1
 nb2:pb≠p2
 n12:p1≠p2
theorem DAt.grows {w w':World} {pb p1 p2:Nat} {s:Value} {st:Nat×Bool} (h:DAt w pb p1 p2 s st) (hg:aB w w'):DAt w' pb p1 p2 s st :=
 ⟨hg.cell h.cb,hg.cell h.c1,hg.cell h.c2,(hg.froz (p:=⟨p1,0,none⟩) (Ab w _ h.c1)).trans h.f1,(hg.froz (p:=⟨p2,0,none⟩) (Ab w _ h.c2)).trans h.f2,h.nb1,h.nb2,h.n12⟩
theorem DAt.put1 {w:World} {pb p1 p2:Nat} {s:Value} {st:Nat×Bool} (h:DAt w pb p1 p2 s st) (k:Nat):DAt (w.setCell ⟨p1,0,none⟩ (.int .i64 k)) pb p1 p2 s (k,st.2):=by
 refine⟨?_,Ai _ _ _ h.c1,?_,by rw[Ad];exact h.f1,by rw[Ad];exact h.f2,h.nb1,h.nb2,h.n12⟩
 ·rw[Ac _ _ _ _ (λe=>h.nb1 (congrArg Ak e).symm)];exact h.cb
 ·rw[Ac _ _ _ _ (λe=>h.n12 (congrArg Ak e))];exact h.c2
theorem DAt.put2 {w:World} {pb p1 p2:Nat} {s:Value} {st:Nat×Bool} (h:DAt w pb p1 p2 s st):DAt (w.setCell ⟨p2,0,none⟩ (.bool true)) pb p1 p2 s (st.1,true):=by
 refine⟨?_,?_,Ai _ _ _ h.c2,by rw[Ad];exact h.f1,by rw[Ad];exact h.f2,h.nb1,h.nb2,h.n12⟩
 ·rw[Ac _ _ _ _ (λe=>h.nb2 (congrArg Ak e).symm)];exact h.cb
 ·rw[Ac _ _ _ _ (λe=>h.n12 (congrArg Ak e).symm)];exact h.c1
def uP (N:Nat×Nat×Bool) (pb p1 p2:Nat) (s:Value) (w:World) (e:Ending) (w':World):Prop :=
 e=.returned (.int .i64 N.1)/\DAt w' pb p1 p2 s N.2/\NB p1 p2 w w'
theorem zP0 (b:List UInt8) (ba:Option Addr) (bc:Nat) (st:Nat×Bool) (pb p1 p2:Nat) (w:World) (hk:st.1<=b.length) (hb:b.length<=1099511627776) (ac:aG w ba 1 (b.map aV)) (hd:DAt w pb p1 p2 (.slice ba b.length bc) st) :
  Calls Tryz.prog 124 #[.pointer (some ⟨pb,0,none⟩),.pointer (some ⟨p1,0,none⟩),.pointer (some ⟨p2,0,none⟩)] w (uP (nxt b st) pb p1 p2 (.slice ba b.length bc) w):=by
 obtain⟨k,t⟩:=st;have CU:=Aa (xU b k ba bc w hk hb ac);have HD:=Aa hd;have cb:=hd.cb;have c1:=hd.c1;have c2:=hd.c2;have f1:=hd.f1;have f2:=hd.f2;simp only at c1 c2;clear ac hd
 cases hR:rdU (b.drop k) with
 | none =>
  have hn:nxt b (k,t)=(0,k,true):=by
   unfold nxt fX0;rw[hR]
  rw[hR]at CU;rw[hn];unfold fH0 at CU;clear hR hn;go_enter Tryz.func124,Tryz.ntmps124
  go_wp2_with fail
  refine CU.out.mono ?_;rintro e w1 ⟨rfl,hg⟩;have fc:=HD.out.grows hg;have d2:=fc.c2;have e2:=fc.f2;have HD1:=Aa fc;simp only at d2;clear fc;go_wp2_with fail
  go_ret;exact⟨rfl,HD1.out.put2,(NB.of hg).trans (NB.set (Or.inr rfl) _)⟩
 | some x =>
  obtain⟨v,n⟩:=x;rw[hR]at CU;unfold fH0 at CU;obtain⟨K,hK⟩:=exq (k+n);simp only[<-hK]at CU;by_cases hv:v<=1048576
  ·have hn:nxt b (k,t)=(v,K,t):=by
    unfold nxt fX0;rw[hR,hK];simp only;rw[if_pos hv]
   rw[hn];have hvi:¬(1048576:Int)<v:=by omega
   have wv:IntKind.i64.wrap (v:Int)=v:=by simp[Af,Ag,Ae];omega
   clear hR hn hK;go_enter Tryz.func124,Tryz.ntmps124
   go_wp2_with fail
   refine CU.out.mono ?_;rintro e w1 ⟨rfl,hg⟩;have fc:=HD.out.grows hg;have d1:=fc.c1;have e1:=fc.f1;have HD1:=Aa fc;simp only at d1;clear fc;go_wp2_with fail
   go_ret;exact⟨rfl,HD1.out.put1 K,(NB.of hg).trans (NB.set (Or.inl rfl) _)⟩
  ·have hn:nxt b (k,t)=(0,k,true):=by
    unfold nxt fX0;rw[hR];simp only;rw[if_neg hv]
   rw[hn];have hvi:(1048576:Int)<v:=by omega
   clear hR hn hK;go_enter Tryz.func124,Tryz.ntmps124
   go_wp2_with fail
   refine CU.out.mono ?_;rintro e w1 ⟨rfl,hg⟩;have fc:=HD.out.grows hg;have d2:=fc.c2;have e2:=fc.f2;have HD1:=Aa fc;simp only at d2;clear fc;go_wp2_with fail
   go_ret;exact⟨rfl,HD1.out.put2,(NB.of hg).trans (NB.set (Or.inr rfl) _)⟩
def jL (R:Option Mx) (w:World) (e:Ending) (w':World):Prop :=
 (R=none->e=.returned (.tuple #[.pointer none,.int .i64 5]))/\(∀m,R=some m->∃mb bm,e=.returned (.tuple #[.pointer (some ⟨mb,0,none⟩),.int .i64 0])/\gF w' mb bm m/\w.heap.size<=mb/\w.heap.size<=bm)/\aB w w'
theorem jL.bad {w w':World} (h:aB w w'):jL none w (.returned (.tuple #[.pointer none,.int .i64 5])) w':=⟨λ_=>rfl,λ_ h=>(by cases h),h⟩
def EG (bm:Nat) (w w':World):Prop:=w.grownBy w' (some bm)
theorem EG.refl (bm:Nat) (w:World):EG bm w w:=⟨rfl,rfl,rfl,Nat.le_refl _,λ_ _ _=>rfl⟩
theorem EG.trans (bm:Nat) (a b c:World) (h:EG bm a b) (k:EG bm b c):EG bm a c:=World.grownBy.andThen h k (λ_ hj=>Or.inr hj)
instance (bm:Nat) (w:World):Nonempty (Ext (EG bm) w):=⟨⟨w,EG.refl _ _⟩⟩
theorem DAt.by {w w':World} {pb p1 p2 bm N:Nat} {s:Value} {st:Nat×Bool} {D:DataW Unit} (h:DAt w pb p1 p2 s st) (ho:w.ownsMap Tryz.prog 243 (plainElem Tryz.prog 3) bm N D) (hg:w.grownBy w' (some bm)):DAt w' pb p1 p2 s st:=by
 have nm:∀ {p:Addr} {v:Value},w.cell? p=some v->p.block≠bm:=λ{p v} hc e=>by
  obtain⟨es,clock,hb,_⟩:=ho;rw[<-e]at hb;simp[Al,hb]at hc
 have fz:∀ {p:Addr} {v:Value},w.cell? p=some v->w'.frozen? p=w.frozen? p:=λ{p v} hc=>by
  have hb:=hg.block p.block (Ab w _ hc) (λe=>nm hc (Option.some.inj e));unfold World.frozen?;rw[hb]
 exact⟨bB hg h.cb (λe=>nm h.cb (Option.some.inj e)),bB hg h.c1 (λe=>nm h.c1 (Option.some.inj e)),bB hg h.c2 (λe=>nm h.c2 (Option.some.inj e)),(fz h.c1).trans h.f1,(fz h.c2).trans h.f2,h.nb1,h.nb2,h.n12⟩
theorem yR0 (w:World) (s:Value):DAt (((w.alloc (.cells #[s] 67)).alloc (.cells #[.int .i64 0] 3)).alloc (.cells #[.bool false] 4)) w.heap.size (w.heap.size+1) (w.heap.size+1+1) s (0,false):=by
 have e1:(w.alloc (.cells #[s] 67)).heap.size=w.heap.size+1:=by simp
 have e2:((w.alloc (.cells #[s] 67)).alloc (.cells #[.int .i64 0] 3)).heap.size=w.heap.size+1+1:=by simp
 have b0:=cG (w:=w) (cs:=#[s]) (t:=67) (w':=((w.alloc (.cells #[s] 67)).alloc (.cells #[.int .i64 0] 3)).alloc (.cells #[.bool false] 4)) ((aB.alloc _ _).al _);have b1:=cG (w:=w.alloc (.cells #[s] 67)) (cs:=#[.int .i64 0]) (t:=3) (w':=((w.alloc (.cells #[s] 67)).alloc (.cells #[.int .i64 0] 3)).alloc (.cells #[.bool false] 4)) (aB.alloc _ _);have b2:=cG (w:=(w.alloc (.cells #[s] 67)).alloc (.cells #[.int .i64 0] 3)) (cs:=#[.bool false]) (t:=4) (w':=((w.alloc (.cells #[s] 67)).alloc (.cells #[.int .i64 0] 3)).alloc (.cells #[.bool false] 4)) (aB.refl _);rw[e1]at b1;rw[e2]at b2;exact⟨b0.1 0 _ rfl,b1.1 0 _ rfl,b2.1 0 _ rfl,b1.2 0,b2.2 0,by omega,by omega,by omega⟩
theorem iT0 {b:List UInt8} {st:Nat×Bool} (h:st.1<=b.length):(nxt b st).2.1<=b.length/\(nxt b st).1<=1048576:=by
 obtain⟨k,t⟩:=st;unfold nxt fX0;simp only
 cases hr:rdU (b.drop k) with
 | none=>exact⟨h,Ah _⟩
 | some x =>
  obtain⟨v,n⟩:=x;simp only;by_cases hv:v<=1048576
  ·rw[if_pos hv]
   obtain⟨r,_,h2,h3⟩:=eZ0.1 hr
   have:=congrArg List.length h2
   simp only[List.length_drop,List.length_append]at this;exact⟨by show k+n<=b.length;simp only at h;omega,hv⟩
  ·rw[if_neg hv]
   exact⟨h,Ah _⟩
theorem sK0 (b:List UInt8) (ba:Option Addr) (bc:Nat) (w:World) (hb:b.length<=1099511627776) (ac:aG w ba 1 (b.map aV)) :
  Calls Tryz.prog 58 #[.slice ba b.length bc] w (jL (mB1 b) w):=by
 have hmf:∀(fn:Fn) (first cap:Array Value) (w:World),(Instr.makeFunc fn first cap).run Tryz.prog w=.ok (.func fn first cap) w:=λ_ _ _ _=>rfl
 have HAT:=Aa ac
 have HBA:Hid (∀q:Addr,ba=some q->b.map aV≠[]->q.block<w.heap.size):=λq hq ak=>by
  have oq:b≠[]:=λe=>ak (by rw[e];rfl);obtain⟨x,hx⟩:∃x,b[0]?=some x:=⟨_,List.getElem?_eq_getElem (List.length_pos_iff.2 oq)⟩;obtain⟨bb,bo,e,fo⟩:=ac.get oq;rw[e]at hq;cases hq
  exact Ab _ _ (fo 0 x hx 0 _ rfl)
 clear ac;obtain⟨R,hR⟩:=exq (mB1 b);have HR:=Aa hR;rw[<-hR];clear hR;go_enter Tryz.func58,Tryz.ntmps58
 go_wp2_with fail
 have hd0:=yR0 w (.slice ba b.length bc);have hgW:aB w (((w.alloc (.cells #[Value.slice ba b.length bc] 67)).alloc (.cells #[Value.int .i64 0] 3)).alloc (.cells #[Value.bool false] 4)):=((aB.alloc _ _).al _).al _;generalize (((w.alloc (.cells #[Value.slice ba b.length bc] 67)).alloc (.cells #[Value.int .i64 0] 3)).alloc (.cells #[Value.bool false] 4))=W0 at *;have HD0:=Aa hd0;clear hd0;have CN:=λ(st:Nat×Bool) W (hg:aB w W) (hk:st.1<=b.length) (hd:DAt W w.heap.size (w.heap.size+1) (w.heap.size+1+1) (.slice ba b.length bc) st)=>Aa (zP0 b ba bc st _ _ _ W hk hb (HAT.out.grows hg) hd);have C1:=λW (hg:aB w W) (hd:DAt W w.heap.size (w.heap.size+1) (w.heap.size+1+1) (.slice ba b.length bc) (0,false))=>Aa (show Calls _ _ _ W (uP (hdN b) _ _ _ _ W) from (CN (0,false) W hg (Ah _) hd).out)
 have bX:(hdN b).2.1<=b.length/\(hdN b).1<=1048576:=iT0 (st:=(0,false)) (Ah _);have C2:=λW (hg:aB w W) (hd:DAt W w.heap.size (w.heap.size+1) (w.heap.size+1+1) (.slice ba b.length bc) (hdN b).2)=>Aa (show Calls _ _ _ W (uP (hdD b) _ _ _ _ W) from (CN (hdN b).2 W hg bX.1 hd).out)
 have bY:(hdD b).2.1<=b.length/\(hdD b).1<=1048576:=iT0 (st:=(hdN b).2) bX.1;have C3:=λW (hg:aB w W) (hd:DAt W w.heap.size (w.heap.size+1) (w.heap.size+1+1) (.slice ba b.length bc) (hdD b).2)=>Aa (show Calls _ _ _ W (uP (hdQ b) _ _ _ _ W) from (CN (hdD b).2 W hg bY.1 hd).out)
 have bZ:(hdQ b).2.1<=b.length/\(hdQ b).1<=1048576:=iT0 (st:=(hdD b).2) bY.1;have HR2:Hid (R=if vW0 (hdN b).1 (hdD b).1=true/\(hdQ b).2.2=false then iA b (hdQ b).1 (newM (hdN b).1 (hdD b).1) 0 (hdQ b).2 else none):=HR.out
 clear HR;generalize hdN b=X at *;generalize hdD b=Y at *;generalize hdQ b=Z at *;obtain⟨x,sx⟩:=X;obtain⟨y,sy⟩:=Y;obtain⟨z,kz,tz⟩:=Z;simp only at HR2 bX bY bZ C1 C2 C3;unfold uP at C1 C2 C3;simp only at C1 C2 C3;have nbg:∀ {W W':World},aB w W->NB (w.heap.size+1) (w.heap.size+1+1) W W'->aB w W':=λh1 h2=>NB.grows h1 h2 (by omega) (by omega);refine(C1 W0 hgW HD0.out).out.mono ?_;rintro e w1 ⟨rfl,fc,jl⟩;have ai:=nbg hgW jl;have HD1:=Aa fc;clear fc jl;go_wp2_with fail
 refine(C2 w1 ai HD1.out).out.mono ?_;rintro e w2 ⟨rfl,ja,nl⟩;have ae:=nbg ai nl;have HD2:=Aa ja;clear ja nl;go_wp2_with fail
 refine(C3 w2 ae HD2.out).out.mono ?_;rintro e w3 ⟨rfl,lf,t9⟩;have aw:=nbg ae t9;have HD3:=Aa lf;have hp3:=Ab w3 _ lf.c2;simp only at hp3;clear lf t9 C1 C2 C3 HD0 HD1 HD2 ai ae hgW;cases lh:vW0 (x:Int) (y:Int)
 ·have ax:R=none:=by rw[HR2.out,lh];rfl
  subst ax;have CB:=Aa (xQ0 (x:Int) (y:Int) w3 lh);clear HR2 CN lh;go_wp2_with fail
  refine CB.out.mono ?_;rintro e w4 ⟨rfl,rfl⟩;have d2:=HD3.out.c2;simp only at d2;cases tz
  ·go_wp2_with fail
   go_ret2;exact jL.bad aw
  ·go_wp2_with fail
   go_ret2;exact jL.bad aw
 ·have CA:=Aa (zG0 (x:Int) (y:Int) w3 lh)
  obtain⟨jn,i5,lj,hy2⟩:=rU.1 lh;cases tz
  ·have HR3:Hid (R=iA b z (newM (x:Int) (y:Int)) 0 (kz,false)):=by
    have h1:=HR2.out;rw[if_pos ⟨lh,rfl⟩]at h1;exact h1
   obtain⟨NN,hNN⟩:=exq (x*x);have hnn:x*x<=4096:=Nat.mul_le_mul (by omega:x<=64) (by omega:x<=64)
   have wNN:IntKind.i64.wrap ((x:Int)*x)=NN:=by
    rw[show ((x:Int)*x)=((x*x:Nat):Int) by push_cast;rfl,<-hNN]
    simp[Af,Ag,Ae];omega
   have hNb:NN<=4096:=by omega
   have HNN:=Aa hNN;clear HR2 lh hNN hnn;go_wp2_with fail
   refine CA.out.mono ?_;rintro e w4 ⟨rfl,hm4,cu⟩;have ag4:=aw.tr cu;have hd4:=HD3.out.grows cu;have d2:=hd4.c2;simp only at d2;have HD4:=Aa hd4;have HM4:=Aa hm4;clear hd4 hm4 CA HD3;have hs3:=aw.size;obtain⟨bm,hbm⟩:=exq w3.heap.size;rw[<-hbm]at HM4 hp3 hs3 ⊢;clear hbm;go_wp2_with fail
   go_loopw [12,34] (λi c wr=>∃(q j k:Nat) (m:Mx),q<=z/\c=.int .i64 q/\i=.int .i64 ((j:Int)-1)/\j<=4096/\k<=b.length/\Hid (gF wr (bm+1) bm m/\m.n=x/\m.d=y)/\Hid (DAt wr w.heap.size (w.heap.size+1) (w.heap.size+1+1) (.slice ba b.length bc) (k,false))/\Hid (R=iA b (z-q) m j (k,false))/\aB w wr) (λ_ c _=>z-(intOf c).toNat)
   case atStart=>exact⟨0,0,kz,newM (x:Int) (y:Int),Ah _,rfl,rfl,by omega,bZ.1,⟨HM4.out,rfl,rfl⟩,HD4.out,HR3.out,ag4⟩
   case round =>
    obtain⟨q,j,k,m,hq,rfl,rfl,hj,hk,hM,hD,hRq,hg⟩:=hrel;by_cases af:q<z
    ·have hqz:(q:Int)<z:=by omega
     have bU:=iT0 (b:=b) (st:=(k,false)) hk;have bV:=iT0 (b:=b) (st:=(nxt b (k,false)).2) bU.1;have CU:=CN (k,false) wr hg hk hD.out;have CV:=λW (hg:aB w W) hd=>CN (nxt b (k,false)).2 W hg bU.1 hd;have q9:=hRq.out;rw[show z-q=(z-(q+1))+1 by omega]at q9
     simp only[iA]at q9;have fg:=λ(i:Nat) (hi:i<m.n*m.n)=>hM.out.1.ok;generalize nxt b (k,false)=U at *;generalize nxt b U.2=V at *;obtain⟨u,su⟩:=U;obtain⟨v,kv,tv⟩:=V;unfold uP at CU CV;simp only at bU bV CU CV q9;have HR2:=Aa q9;have wI:IntKind.i64.wrap ((j:Int)-1+u)=(j:Int)-1+u:=by simp only[Af,Ag,Ae];simp;omega
     clear q9 hRq fg;go_wp2_with fail
     refine CU.out.mono ?_;rintro e w6 ⟨rfl,hd6,hn6⟩;have dw:=nbg hg hn6;have HM6:Hid (gF w6 (bm+1) bm m):=hM.out.1.nb hn6 (by omega) (by omega) (by omega) (by omega);have HD6:=Aa hd6;clear hd6 hn6 CU;go_wp2_with fail
     refine(CV w6 dw HD6.out).out.mono ?_;rintro e w7 ⟨rfl,hd7,hn7⟩;have ep:=nbg dw hn7;have HM7:Hid (gF w7 (bm+1) bm m):=HM6.out.nb hn7 (by omega) (by omega) (by omega) (by omega);have d2:=hd7.c2;simp only at d2;have HD7:=Aa hd7;clear hd7 hn7 CV HD6 HM6 dw;cases tv
     ·have s7:R=if u=0\/(v:Int)=m.d\/m.n*m.n<=j+u-1\/isC (v:Int)=false then none else iA b (z-(q+1)) (m.set (dU m.n (j+u-1)) v) (j+u) (kv,false):=by
       rw[HR2.out];simp only[Bool.false_eq_true,false_or]
      have si:=hM.out.2.1;have hmd:=hM.out.2.2;rw[si,hmd,<-HNN.out]at s7;clear HR2 hM hD CN;by_cases hu:u=0
      ·have ax:R=none:=by rw[s7,if_pos (Or.inl hu)]
       subst ax;have hui:(u:Int)=0:=by omega
       have z2:∀q:Ext aB w7.drew,q.u.cell? ⟨w.heap.size+1+1,0,none⟩=some (.bool false):=aF ((aB.drew _).cell d2);clear s7;go_wp2_with fail
       refine bH (bE 29 []) (by kernel_rfl) (λd _ _ _ _ h=>by cases d<;>exact h) ?_
       iterate 29 (refine aH rfl (λK hK=>?_);go_simp;refine hK _ ?_;clear hK K)
       refine bN ?_;clear z2;go_wp2_with fail
       go_ret2;exact jL.bad ep.dr
      ·have hui:¬(u:Int)=0:=by omega
       obtain⟨I,hI⟩:∃I:Nat,(j:Int)-1+u=I:=⟨j+u-1,by omega⟩;have hIj:I=j+u-1:=by omega
       have wI2:IntKind.i64.wrap ((j:Int)-1+u)=I:=by rw[wI,hI]
       have HIJ:=Aa hIj;rw[<-hIj]at s7;clear wI hI hIj;by_cases hv:(v:Int)=y
       ·have ax:R=none:=by rw[s7,if_pos (Or.inr (Or.inl hv))]
        subst ax;have z2:∀q:Ext aB w7.drew,q.u.cell? ⟨w.heap.size+1+1,0,none⟩=some (.bool false):=aF ((aB.drew _).cell d2);have hvb:((v:Int)==(y:Int))=true:=by rw[beq_iff_eq];exact hv
        clear s7 hv;go_wp2_with fail
        refine bH (bE 29 []) (by kernel_rfl) (λd _ _ _ _ h=>by cases d<;>exact h) ?_
        iterate 29 (refine aH rfl (λK hK=>?_);go_simp;refine hK _ ?_;clear hK K)
        refine bN ?_;clear z2;go_wp2_with fail
        go_ret2;exact jL.bad ep.dr
       ·have hvb:((v:Int)==(y:Int))=false:=by rw[beq_eq_false_iff_ne];exact hv
        by_cases hNI:NN<=I
        ·have ax:R=none:=by rw[s7,if_pos (Or.inr (Or.inr (Or.inl hNI)))]
         subst ax;have z2:∀q:Ext aB w7.drew,q.u.cell? ⟨w.heap.size+1+1,0,none⟩=some (.bool false):=aF ((aB.drew _).cell d2);have hNi:(NN:Int)<=I:=by omega
         clear s7 hv;go_wp2_with fail
         refine bH (bE 29 []) (by kernel_rfl) (λd _ _ _ _ h=>by cases d<;>exact h) ?_
         iterate 29 (refine aH rfl (λK hK=>?_);go_simp;refine hK _ ?_;clear hK K)
         refine bN ?_;clear z2;go_wp2_with fail
         go_ret2;exact jL.bad ep.dr
        ·have hNi:¬(NN:Int)<=I:=by omega
         have hIn:I<m.n*m.n:=by rw[si,<-HNN.out];omega
         obtain⟨r,hr⟩:∃r:Nat,r=I/x:=⟨_,rfl⟩;obtain⟨l,hl⟩:∃l:Nat,l=I%x:=⟨_,rfl⟩;have re:dU m.n I=((r:Int),(l:Int)):=by rw[si,hr,hl];rfl
         have jd:inP m.n ((r:Int),(l:Int))=true:=by rw[<-re];exact(kY hIn).1
         have j4:¬(x:Int)=0:=by omega
         have aiz:¬x=0:=by omega
         have hrI:r<=I:=by rw[hr];exact Nat.div_le_self _ _
         have hlI:l<=I:=by rw[hl];exact Nat.mod_le _ _
         have wr2:IntKind.i64.wrap (r:Int)=r:=by simp only[Af,Ag,Ae];simp;omega
         have wl2:IntKind.i64.wrap (l:Int)=l:=by simp only[Af,Ag,Ae];simp;omega
         have hdv:(I:Int)/x=r:=by rw[hr];simp
         have hdt:(I:Int).tdiv x=r:=by rw[hr];rfl
         have hme:(I:Int)%x=l:=by rw[hl];simp
         have hmt:(I:Int).tmod x=l:=by rw[hl,Int.ofNat_tmod]
         have CS:=bP1 w7.drew (bm+1) bm m (HM7.out.grows (aB.drew _)) (r:Int) (l:Int) (v:Int) (by unfold WfI;exact WalkArith.wf_i64 (by omega));unfold aP1 at CS;have me:m.setB ((r:Int),(l:Int)) v=isC (v:Int):=by unfold Mx.setB;rw[jd];rfl
         rw[me]at CS
         have z2:∀q:Ext (EG bm) w7.drew,q.u.cell? ⟨w.heap.size+1+1,0,none⟩=some (.bool false):=λq=>by
          obtain⟨D,ho,_⟩:=(HM7.out.grows (aB.drew _)).own;have hh:w7.drew.cell? ⟨w.heap.size+1+1,0,none⟩=some (.bool false):=d2;refine bB q.h hh (λe=>?_);have e:=Option.some.inj e;obtain⟨es,clock,dn,_⟩:=ho;rw[<-e]at dn;simp[Al,dn]at hh
         cases hC:isC (v:Int)
         ·have ax:R=none:=by rw[s7,if_pos (Or.inr (Or.inr (Or.inr hC)))]
          subst ax;rw[hC]at CS;have CS2:=Aa CS;clear s7 hv hr hl re jd me hC CS hIn;go_wp2_with fail
          refine lK (EG bm) (bE 29 [26]) (EG.refl bm) (EG.trans bm) (by kernel_rfl) (by kernel_rfl) (λd _ _ _ _ h=>by cases d<;>exact h) ?_
          iterate 26 (refine aH rfl (λK hK=>?_);go_simp;refine hK _ ?_;clear hK K)
          refine bG rfl (by first|rfl|(go_simp;done)|(simp[go_sem,Region.wanted,yielded];done)) (λK hK=>?_)
          go_simp;refine CS2.out.mono ?_;rintro e w9 ⟨rfl,hm9,qh⟩;refine⟨qh,hK _ _ ?_⟩;clear hK K;iterate 2 (refine aH rfl (λK hK=>?_);go_simp;refine hK _ ?_;clear hK K)
          refine bN ?_;clear z2;go_wp2_with fail
          go_ret2;exact jL.bad (ep.dr.grown qh (λq hq=>by cases hq;omega))
         ·rw[if_neg (λh=>by
           rcases h with h|h|h|h
           ·exact hu h
           ·exact hv h
           ·exact hNI h
           ·rw[hC]at h;cases h)]at s7
          rw[hC]at CS
          have fg:m.setIf ((r:Int),(l:Int)) v=m.set (dU x I) v:=by
           rw[iP0 (me.trans hC),<-si,re]
          rw[fg]at CS;have CS2:=Aa CS;have HR3:=Aa s7;have ael:Hid ((m.set (dU x I) v).n=x/\(m.set (dU x I) v).d=y):=⟨si,hmd⟩;have hIb:I<NN:=by omega
          clear s7 hv hr hl re jd me hC CS hIn fg si hmd;go_wp2_with fail
          refine lK (EG bm) (bE 29 [26]) (EG.refl bm) (EG.trans bm) (by kernel_rfl) (by kernel_rfl) (λd _ _ _ _ h=>by cases d<;>exact h) ?_
          iterate 26 (refine aH rfl (λK hK=>?_);go_simp;refine hK _ ?_;clear hK K)
          refine bG rfl (by first|rfl|(go_simp;done)|(simp[go_sem,Region.wanted,yielded];done)) (λK hK=>?_)
          go_simp;refine CS2.out.mono ?_;rintro e w9 ⟨rfl,hm9,qh⟩;refine⟨qh,hK _ _ ?_⟩;clear hK K;iterate 2 (refine aH rfl (λK hK=>?_);go_simp;refine hK _ ?_;clear hK K)
          refine bN ?_;clear z2;have jb:=ep.dr.grown qh (λq hq=>by cases hq;omega)
          have HD9:Hid (DAt w9 w.heap.size (w.heap.size+1) (w.heap.size+1+1) (.slice ba b.length bc) (kv,false)):=by
           obtain⟨D,ho,_⟩:=(HM7.out.grows (aB.drew _)).own;exact(HD7.out.grows (aB.drew _)).by ho qh
          have HM9:=Aa hm9;clear hm9 HM7 HD7 qh CS2;go_wp2_with fail
          go_roundw
          case rel=>exact⟨q+1,j+u,kv,_,af,by go_num,by first|(congr 1;have:=HIJ.out;push_cast;omega)|(have:=HIJ.out;go_num),by have:=HIJ.out;omega,bV.1,⟨HM9.out,ael.out.1,ael.out.2⟩,HD9.out,HR3.out,jb⟩
          case measure=>simp[intOf];omega
     ·have ax:R=none:=by
       have h1:=HR2.out;rw[if_pos (Or.inl rfl)]at h1;exact h1
      subst ax;have z2:∀q:Ext aB w7.drew,q.u.cell? ⟨w.heap.size+1+1,0,none⟩=some (.bool true):=aF ((aB.drew _).cell d2);clear HR2 hM hD CN;go_wp2_with fail
      refine bH (bE 29 []) (by kernel_rfl) (λd _ _ _ _ h=>by cases d<;>exact h) ?_
      iterate 29 (refine aH rfl (λK hK=>?_);go_simp;refine hK _ ?_;clear hK K)
      refine bN ?_;clear z2;go_wp2_with fail
      go_ret2;exact jL.bad ep.dr
    ·obtain rfl:q=z:=by omega
     have q9:=hRq.out;rw[Nat.sub_self]at q9;simp only[iA]at q9;have hd:=hD.out;have d1:=hd.c1;have db:=hd.cb;simp only at d1;have HR2:=Aa q9;clear q9 hRq hd CN;by_cases hkl:k=b.length
     ·have ax:R=some m:=by
       have h1:=HR2.out;rw[if_pos hkl]at h1;exact h1
      subst ax;subst hkl;clear HR2 hD;go_wp2_with fail
      go_ret2;exact⟨λh=>(by cases h),λm' h=>(by cases h;exact⟨bm+1,bm,rfl,hM.out.1,by omega,by omega⟩),hg⟩
     ·have ax:R=none:=by
       have h1:=HR2.out;rw[if_neg hkl]at h1;exact h1
      subst ax;have cz:((k:Int)==(b.length:Int))=false:=by rw[beq_eq_false_iff_ne];omega
      clear HR2 hD hM;go_wp2_with fail
      go_ret2;exact jL.bad hg
  ·have ax:R=none:=by rw[HR2.out,if_neg (λh=>by cases h.2)]
   subst ax;clear HR2 CN lh;go_wp2_with fail
   refine CA.out.mono ?_;rintro e w4 ⟨rfl,hm4,cu⟩;have d2:=(HD3.out.grows cu).c2;simp only at d2;clear hm4 CA;go_wp2_with fail
   go_ret2;exact jL.bad (aw.tr cu)
end
end Go.Proofs.YtjhajgffmnkocaaGreatDoor
