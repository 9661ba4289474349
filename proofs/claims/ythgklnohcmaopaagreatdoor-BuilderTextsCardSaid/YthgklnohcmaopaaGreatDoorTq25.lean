/- The texts RdS, one behind the other. -/
import Derived.Test.YthgklnohcmaopaaGreatDoorTq23
import Derived.Test.YthgklnohcmaopaaGreatDoorTq7
open Go.World renaming cell?_setCell_other → Aa,cell?_setCell_same → Ab,block_lt_of_cell? → Ac,frozen?_setCell → Ae
open Go.Addr renaming block → Ad
open List renaming length_drop → Af
open Go.Lib renaming hid → Ag
open Go.IntKind renaming signed → Ah,wrap → Ai,bits → Aj
open Array renaming replicate → Ak
open Nat renaming le_trans → Al,le_of_lt → Am
set_option maxHeartbeats 4000000
namespace Go.Proofs.YthgklnohcmaopaaGreatDoor
set_option maxRecDepth 100000
open Go Go.RowKit
attribute [local go_sem] aK aP
theorem tT {w:World} {a:Option Addr} {c:Nat} {l:List UInt8} (h:aF w a 1 (l.map aV)):(convert 28 9 (.slice a l.length c)).run Tryz.prog w=.ok (.string (mkB l)) w:=by
 cases l with
 | nil =>
  rw[run_convert_bytes_string w 28 9 5 a ([]:List UInt8).length c Tryz.underlying28 Tryz.underlying5 Tryz.underlying9];cases a<;>(simp[Conv.bytesToString];rfl)
 | cons x r =>
  obtain⟨b,o,rfl,hc⟩:=h.get (by simp);generalize hL:x::r=L at *;have hz:(mkB L).size=L.length:=by rw[Lib.size_eq,bQ]
  have hB:Lib.Bytes w b o (mkB L):=λi hi=>by
   rw[hz]at hi;have h1:=hc i L[i] (by simp_all) 0 _ rfl;have hg:(mkB L)[i]'(by rw[hz];exact hi)=L[i]:=rfl;simp_all
  have:=Lib.run_convert_whole (P:=Tryz.prog) w 28 5 9 Tryz.underlying28 Tryz.underlying5 Tryz.underlying9 b o (mkB L) hB c
  rw[hz]at this;exact this
def rdT (l:List UInt8):Option (ByteArray×Nat):=match rdU l with
 | none=>none
 | some (n,j)=>if n<=(l.drop j).length then some (mkB ((l.drop j).take n),j+n) else none
def pU0 (k:Nat):Option (ByteArray×Nat)->Value
 | some (v,n) => .tuple #[.string v,.int .i64 ((k+n:Nat):Int),.bool true]
 | none => .tuple #[.string ⟨#[]⟩,.int .i64 0,.bool false]
def bM1 (R:Option (ByteArray×Nat)) (rb k:Nat) (w:World) (e:Ending) (w':World):Prop :=
 ((∃v n,R=some (v,n)/\e=.returned (.string v)/\w'.cell? ⟨rb,1,none⟩=some (.int .i64 ((k+n:Nat):Int)))\/(R=none/\e=.panicked [{ v:=dG0,recovered:=false }]))/\EB rb w w'
theorem lF0 (p0 p1 p2:Nat) (w:World) (li:List PanicEntry) (v0 v1 v2:Value) (c0:w.cell? ⟨p0,0,none⟩=some v0) (c1:w.cell? ⟨p1,0,none⟩=some v1) (c2:w.cell? ⟨p2,0,none⟩=some v2)
  (f0:w.frozen? ⟨p0,0,none⟩=false) (f1:w.frozen? ⟨p1,0,none⟩=false) (f2:w.frozen? ⟨p2,0,none⟩=false) (n01:p0≠p1) (n02:p0≠p2) (n12:p1≠p2) (B:Nat) (tz:B<=p0) (hB1:B<=p1) (ww:B<=p2) :
  CallsD Tryz.prog 265 #[.pointer (some ⟨p0,0,none⟩),.pointer (some ⟨p1,0,none⟩),.pointer (some ⟨p2,0,none⟩)] (.panicking ({ v:=dG0,recovered:=false }::li)) w λe u' w' =>
   e=.returned (.tuple #[])/\u' = .panicking ({ v:=dG0,recovered:=true }::li)/\w'.cell? ⟨p0,0,none⟩=some (.string ⟨#[]⟩)/\w'.cell? ⟨p1,0,none⟩=some (.int .i64 0)/\w'.cell? ⟨p2,0,none⟩=some (.bool false)/\EB B w w':=by
 have hta:∀W:World,(Instr.typeAssert (.iface 339 (.agg #[])) 20 339 true).run Tryz.prog W=.ok (.tuple #[.agg #[],.bool true]) W:=λW=>by kernel_rfl
 have jg:=aB.alloc w (.cells #[] 339);have b0:=Ac w _ c0;have b1:=Ac w _ c1;have b2:=Ac w _ c2;have d0:=jg.cell c0;have d1:=jg.cell c1;have d2:=jg.cell c2;have g0:=(jg.froz (p:=⟨p0,0,none⟩) b0).trans f0;have g1:=(jg.froz (p:=⟨p1,0,none⟩) b1).trans f1;have g2:=(jg.froz (p:=⟨p2,0,none⟩) b2).trans f2;have e1:(w.alloc (.cells #[] 339) |>.setCell ⟨p0,0,none⟩ (.string ⟨#[]⟩)).cell? ⟨p1,0,none⟩=some v1:=(Aa _ _ _ _ (by simp_all)).trans d1
 have e2:((w.alloc (.cells #[] 339) |>.setCell ⟨p0,0,none⟩ (.string ⟨#[]⟩)).setCell ⟨p1,0,none⟩ (.int .i64 0)).cell? ⟨p2,0,none⟩=some v2:=(Aa _ _ _ _ (by simp_all)).trans ((Aa _ _ _ _ (by simp_all)).trans d2)
 refine callsD_of_wpS Tryz.func265 rfl λc₀ cs hu=>?_;apply wpS_seq
 apply wpS_region
 simp[wpOpsS,go_sem,recoverD,hu,Tryz.ntmps265,Exit.thenS,dG0]
 refine wpS_of_wp ?_;rw[show (#[Value.pointer (some ⟨p0,0,none⟩),.pointer (some ⟨p1,0,none⟩),.pointer (some ⟨p2,0,none⟩)]++(Ak 11 undef).setIfInBounds 4 (.iface 339 (.agg #[]))) = #[.pointer (some ⟨p0,0,none⟩),.pointer (some ⟨p1,0,none⟩),.pointer (some ⟨p2,0,none⟩),undef,undef,undef,undef,.iface 339 (.agg #[]),undef,undef,undef,undef,undef,undef] from rfl]
 go_wp2
 have kv:(((w.setCell ⟨p0,0,none⟩ (.string ⟨#[]⟩)).setCell ⟨p1,0,none⟩ (.int .i64 0)).setCell ⟨p2,0,none⟩ (.bool false)).cell? ⟨p0,0,none⟩=some (.string ⟨#[]⟩):=by
  rw[Aa _ _ _ _ (by simp_all),Aa _ _ _ _ (by simp_all)];exact Ab _ _ _ c0
 have ed:(((w.setCell ⟨p0,0,none⟩ (.string ⟨#[]⟩)).setCell ⟨p1,0,none⟩ (.int .i64 0)).setCell ⟨p2,0,none⟩ (.bool false)).cell? ⟨p1,0,none⟩=some (.int .i64 0):=by
  rw[Aa _ _ _ _ (by simp_all)];exact Ab _ _ _ ((Aa _ _ _ _ (by simp_all)).trans c1)
 have ii:(((w.setCell ⟨p0,0,none⟩ (.string ⟨#[]⟩)).setCell ⟨p1,0,none⟩ (.int .i64 0)).setCell ⟨p2,0,none⟩ (.bool false)).cell? ⟨p2,0,none⟩=some (.bool false) :=
  Ab _ _ _ ((Aa _ _ _ _ (by simp_all)).trans ((Aa _ _ _ _ (by simp_all)).trans c2))
 have gb:Below B w ((((w.setCell ⟨p0,0,none⟩ (.string ⟨#[]⟩)).setCell ⟨p1,0,none⟩ (.int .i64 0)).setCell ⟨p2,0,none⟩ (.bool false)).alloc (.cells #[] 339)):=((((Below.refl B w).setCell (p:=⟨p0,0,none⟩) tz _).setCell (p:=⟨p1,0,none⟩) hB1 _).setCell (p:=⟨p2,0,none⟩) ww _).alloc (by simp;omega) _;have js:=aB.alloc (((w.setCell ⟨p0,0,none⟩ (.string ⟨#[]⟩)).setCell ⟨p1,0,none⟩ (.int .i64 0)).setCell ⟨p2,0,none⟩ (.bool false)) (.cells #[] 339);have k0:=js.cell kv;have k1:=js.cell ed;have k2:=js.cell ii;have ck:EB B w ((((w.setCell ⟨p0,0,none⟩ (.string ⟨#[]⟩)).setCell ⟨p1,0,none⟩ (.int .i64 0)).setCell ⟨p2,0,none⟩ (.bool false)).alloc (.cells #[] 339)):=⟨gb,gb.size⟩;exact⟨rfl,_,rfl,_,results_none rfl _ _ _,rfl,rfl,k0,k1,k2,ck⟩
theorem vU0 (p0 p1 p2:Nat) (w:World) :
  CallsD Tryz.prog 265 #[.pointer (some ⟨p0,0,none⟩),.pointer (some ⟨p1,0,none⟩),.pointer (some ⟨p2,0,none⟩)] .returning w λe u' w'=>e=.returned (.tuple #[])/\u' = .returning/\w'=w:=by
 refine callsD_of_wpS Tryz.func265 rfl λc₀ cs hu=>?_;apply wpS_seq
 apply wpS_region
 simp[wpOpsS,go_sem,recoverD,hu,Tryz.ntmps265,Exit.thenS]
 refine wpS_of_wp ?_;rw[show (#[Value.pointer (some ⟨p0,0,none⟩),.pointer (some ⟨p1,0,none⟩),.pointer (some ⟨p2,0,none⟩)]++(Ak 11 undef).setIfInBounds 4 .nilIface) = #[.pointer (some ⟨p0,0,none⟩),.pointer (some ⟨p1,0,none⟩),.pointer (some ⟨p2,0,none⟩),undef,undef,undef,undef,.nilIface,undef,undef,undef,undef,undef,undef] from rfl]
 go_wp2
 cases c₀
 simp only at hu;subst hu;exact⟨rfl,_,rfl,_,results_none rfl _ _ _,rfl,rfl,rfl⟩
theorem zO0 (b:List UInt8) (rb k:Nat) (ba:Option Addr) (bc:Nat) (w:World) (hk:k<=b.length) (hb:b.length<=1099511627776) (im:b.length<=bc) (l6:ba=none->bc=0) (ac:aF w ba 1 (b.map aV)) (hba:∀q:Addr,ba=some q->b≠[]->q.block<rb)
  (c0:w.cell? ⟨rb,0,none⟩=some (.slice ba b.length bc)) (c1:w.cell? ⟨rb,1,none⟩=some (.int .i64 k)) (f1:w.frozen? ⟨rb,1,none⟩=false) :
  Calls Tryz.prog 210 #[.pointer (some ⟨rb,0,none⟩)] w (bM1 (rdT (b.drop k)) rb k w):=by
 have hRT:∀n j,rdU (b.drop k)=some (n,j)->rdT (b.drop k)=if n<=(b.drop (k+j)).length then some (mkB ((b.drop (k+j)).take n),j+n) else none:=λn j h=>by
  unfold rdT;rw[h];simp only;rw[List.drop_drop]
 have yb:rdU (b.drop k)=none->rdT (b.drop k)=none:=λh=>by unfold rdT;rw[h]
 have CN:=Ag (rR0 b rb k ba bc w hk hb ac hba c0 c1 f1);have HAT:=Ag ac;have HNC:=Ag l6;have HBA:=Ag hba;have hrb:=Ac w _ c0;simp only at hrb
 cases hU:rdU (b.drop k) with
 | none =>
  rw[hU]at CN;have HR:=Ag (yb hU);clear hRT yb hU ac hba;go_enter Tryz.func210,Tryz.ntmps210
  go_wp2_with fail
  refine CN.out.mono ?_;rintro e w1 ⟨jx,ck⟩;rcases jx with ⟨v,n,hR,_⟩|⟨_,rfl⟩
  ·cases hR
  ·exact⟨rfl,Or.inr ⟨HR.out,rfl⟩,ck⟩
 | some x =>
  obtain⟨n,j⟩:=x;rw[hU]at CN;have HR:=Ag (hRT n j hU);obtain⟨r,ow,hlr,hjj⟩:=tB0.1 hU
  have hj:j<=b.length-k:=by
   have:=congrArg List.length hlr
   rw[Af,List.length_append]at this;omega
  clear hlr hjj r;clear hRT yb ac hba hU;obtain⟨K,hK⟩:=exq (k+j);have hKb:K<=b.length:=by omega
  rw[<-hK]at HR;have HK:=Ag hK;go_enter Tryz.func210,Tryz.ntmps210
  go_wp2_with fail
  refine CN.out.mono ?_;rintro e w1 ⟨jx,ck⟩;rcases jx with ⟨v,n',hR,rfl,ix,me,t0⟩|⟨hR,_⟩
  case inr=>cases hR
  obtain⟨rfl,rfl⟩:n=v/\j=n':=by simpa using hR
  rw[<-hK]at ix;have z0:∀x:Ext aB w1.drew,x.u.cell? ⟨rb,0,none⟩=some (.slice ba b.length bc):=aG ((aB.drew w1).cell me);have z1:∀x:Ext aB w1.drew,x.u.cell? ⟨rb,1,none⟩=some (.int .i64 (K:Int)):=aG ((aB.drew w1).cell ix);have acw:IntKind.i64.wrap ((b.length:Int)-(K:Int))=((b.length-K:Nat):Int):=by simp[Ai,Aj,Ah];omega
  have wcv:IntKind.u64.wrap ((b.length-K:Nat):Int)=((b.length-K:Nat):Int):=by simp[Ai,Aj,Ah];omega
  clear hR hK;by_cases cr:b.length-K<n
  ·have pw:((b.length-K:Nat):Int)<n:=by omega
   have HRN:Hid (rdT (b.drop k)=none):=by show _=_;rw[HR.out,if_neg (by rw[Af];omega)]
   clear HR;go_wp2_with fail
   refine bP (bB 13 []) (by kernel_rfl) (λd _ _ _ _ h=>by cases d<;>exact h) ?_
   iterate 13 (refine aO rfl (λK hK=>?_);go_simp;refine hK _ ?_;clear hK K)
   refine bU ?_;clear z0 z1;go_wp2_with fail
   exact⟨rfl,Or.inr ⟨HRN.out,rfl⟩,EB.trans _ _ _ _ ck (EB.of (aB.drew w1) (Al (Am hrb) ck.2))⟩
  ·have pw:¬((b.length-K:Nat):Int)<n:=by omega
   have HRS:Hid (rdT (b.drop k)=some (mkB ((b.drop K).take n),j+n)):=by show _=_;rw[HR.out,if_pos (by rw[Af];omega)]
   clear HR;go_wp2_with fail
   refine bP (bB 13 []) (by kernel_rfl) (λd _ _ _ _ h=>by cases d<;>exact h) ?_
   iterate 13 (refine aO rfl (λK hK=>?_);go_simp;refine hK _ ?_;clear hK K)
   refine bU ?_;clear z0 z1;have y0:∀x:Ext aB w1.drew.drew,x.u.cell? ⟨rb,0,none⟩=some (.slice ba b.length bc):=aG ((aB.drew _).cell ((aB.drew w1).cell me));have y1:∀x:Ext aB w1.drew.drew,x.u.cell? ⟨rb,1,none⟩=some (.int .i64 (K:Int)):=aG ((aB.drew _).cell ((aB.drew w1).cell ix));have wn:IntKind.i64.wrap (n:Int)=n:=by simp[Ai,Aj,Ah];omega
   have wa:IntKind.i64.wrap ((K:Int)+n)=((K+n:Nat):Int):=by simp[Ai,Aj,Ah];omega
   go_wp2_with fail
   refine bP (bB 18 []) (by kernel_rfl) (λd _ _ _ _ h=>by cases d<;>exact h) ?_
   have h01:(0:Int)<=(K:Int)+n:=by omega
   have h02:(K:Int)+n<=bc:=by omega
   have tn:((K:Int)+n).toNat=K+n:=by omega
   have tk:K<=K+n:=by omega
   have tm:K+n-K=n:=by omega
   have HAT1:aF w1 ba 1 (b.map aV):=λai=>by
    obtain⟨bb,bo,e,hc⟩:=HAT.out ai;have ae:=HBA.out _ e (λh0=>ai (by rw[h0];rfl));exact⟨bb,bo,e,λi row hi j v hj=>(Below.cell ck.1 (by simpa using ae)).trans (hc i row hi j v hj)⟩
   obtain⟨a',gk,fm,_⟩:=uS (c:=bc) (l:=K) (h:=K+n) (k:=1) HAT1 HNC.out (by omega) (by omega) (by omega);rw[show K+n-K=n by omega]at gk
   have afv:(if bc=K then ba else Option.map (λx=>x.add K) ba)=a':=by
    unfold sliced at gk;by_cases ou:bc=K
    ·rw[if_pos ou]at gk ⊢;exact(Value.slice.inj gk).1
    ·rw[if_neg ou]at gk ⊢
     have:=(Value.slice.inj gk).1
     rw[<-this];congr 1
     funext x
     rw[Nat.mul_one]
   have hll:((b.take (K+n)).drop K)=(b.drop K).take n:=by rw[List.take_drop]
   have hln:((b.drop K).take n).length=n:=by rw[List.length_take,Af];omega
   rw[hll]at fm
   have hcv:∀x:Ext aB w1.drew.drew,(convert 28 9 (.slice a' n (bc-K))).run Tryz.prog x.u=.ok (.string (mkB ((b.drop K).take n))) x.u:=λx=>by
    have:=tT (c:=bc-K) (fm.grows (aB.trans _ _ _ (aB.trans _ _ _ (aB.drew w1) (aB.drew _)) x.h))
    rw[hln]at this;exact this
   generalize (b.drop K).take n=S at *;iterate 18 (refine aO rfl (λK hK=>?_);go_simp;refine hK _ ?_;clear hK K)
   refine bU ?_;go_wp2_with fail
   go_ret;refine⟨Or.inl ⟨_,_,HRS.out,rfl,?_⟩,EB.trans _ _ _ _ (EB.trans _ _ _ _ ck (⟨(Below.refl rb w1).setCell (p:=⟨rb,1,none⟩) (Nat.le_refl rb) _,by simp⟩:EB rb w1 (w1.setCell ⟨rb,1,none⟩ (.int .i64 ((K:Int)+n))))) (EB.of ((aB.drew _).dr) (by simp;exact Al (Am hrb) ck.2))⟩;rw[show ((k+(j+n):Nat):Int)=(K:Int)+n by rw[HK.out];push_cast;omega]
   exact Ab _ _ _ ix
structure eA1 (w:World) (s:Value) (k:Int) (W:World):Prop where
 g:aB w W
 sz:w.heap.size+1+1+1<W.heap.size
 c0:W.cell? ⟨w.heap.size,0,none⟩=some (.string ⟨#[]⟩)
 f0:W.frozen? ⟨w.heap.size,0,none⟩=false
 c1:W.cell? ⟨w.heap.size+1,0,none⟩=some (.int .i64 0)
 f1:W.frozen? ⟨w.heap.size+1,0,none⟩=false
 c2:W.cell? ⟨w.heap.size+1+1,0,none⟩=some (.bool false)
 f2:W.frozen? ⟨w.heap.size+1+1,0,none⟩=false
 r0:W.cell? ⟨w.heap.size+1+1+1,0,none⟩=some s
 r1:W.cell? ⟨w.heap.size+1+1+1,1,none⟩=some (.int .i64 k)
 rf:W.frozen? ⟨w.heap.size+1+1+1,1,none⟩=false
theorem eD1 (w:World) (s:Value) (k:Int):eA1 w s k ((((w.alloc (.cells #[.string ⟨#[]⟩] 9)).alloc (.cells #[.int .i64 0] 3)).alloc (.cells #[.bool false] 4)).alloc (.cells #[s,.int .i64 k] 341)):=by
 have e1:(w.alloc (.cells #[.string ⟨#[]⟩] 9)).heap.size=w.heap.size+1:=by simp
 have e2:((w.alloc (.cells #[.string ⟨#[]⟩] 9)).alloc (.cells #[.int .i64 0] 3)).heap.size=w.heap.size+1+1:=by simp
 have e3:(((w.alloc (.cells #[.string ⟨#[]⟩] 9)).alloc (.cells #[.int .i64 0] 3)).alloc (.cells #[.bool false] 4)).heap.size=w.heap.size+1+1+1:=by simp
 have b0:=cX (w:=w) (cs:=#[.string ⟨#[]⟩]) (t:=9) (w':=((((w.alloc (.cells #[.string ⟨#[]⟩] 9)).alloc (.cells #[.int .i64 0] 3)).alloc (.cells #[.bool false] 4)).alloc (.cells #[s,.int .i64 k] 341))) (((aB.alloc _ _).al _).al _);have b1:=cX (w:=w.alloc (.cells #[.string ⟨#[]⟩] 9)) (cs:=#[.int .i64 0]) (t:=3) (w':=((((w.alloc (.cells #[.string ⟨#[]⟩] 9)).alloc (.cells #[.int .i64 0] 3)).alloc (.cells #[.bool false] 4)).alloc (.cells #[s,.int .i64 k] 341))) ((aB.alloc _ _).al _);have b2:=cX (w:=(w.alloc (.cells #[.string ⟨#[]⟩] 9)).alloc (.cells #[.int .i64 0] 3)) (cs:=#[.bool false]) (t:=4) (w':=((((w.alloc (.cells #[.string ⟨#[]⟩] 9)).alloc (.cells #[.int .i64 0] 3)).alloc (.cells #[.bool false] 4)).alloc (.cells #[s,.int .i64 k] 341))) (aB.alloc _ _);have b3:=cX (w:=((w.alloc (.cells #[.string ⟨#[]⟩] 9)).alloc (.cells #[.int .i64 0] 3)).alloc (.cells #[.bool false] 4)) (cs:=#[s,.int .i64 k]) (t:=341) (w':=((((w.alloc (.cells #[.string ⟨#[]⟩] 9)).alloc (.cells #[.int .i64 0] 3)).alloc (.cells #[.bool false] 4)).alloc (.cells #[s,.int .i64 k] 341))) (aB.refl _);rw[e1]at b1;rw[e2]at b2;rw[e3]at b3;exact⟨(((aB.alloc _ _).al _).al _).al _,by simp,b0.1 0 _ rfl,b0.2 0,b1.1 0 _ rfl,b1.2 0,b2.1 0 _ rfl,b2.2 0,b3.1 0 _ rfl,b3.1 1 _ rfl,b3.2 1⟩
theorem sZ0 (b:List UInt8) (k:Nat) (ba:Option Addr) (bc:Nat) (w:World) (hk:k<=b.length) (hb:b.length<=1099511627776) (im:b.length<=bc) (l6:ba=none->bc=0) (ac:aF w ba 1 (b.map aV)) :
  Calls Tryz.prog 209 #[.slice ba b.length bc,.int .i64 k,.func (.func 210) #[] #[]] w λe w'=>e=.returned (pU0 k (rdT (b.drop k)))/\aB w w':=by
 have hmf:∀(fn:Fn) (first cap:Array Value) (w:World),(Instr.makeFunc fn first cap).run Tryz.prog w=.ok (.func fn first cap) w:=λ_ _ _ _=>rfl
 have kp:¬(k:Int)<0:=by omega
 have HAT:=Ag ac
 have HBA:Hid (∀q:Addr,ba=some q->b≠[]->q.block<w.heap.size):=λq hq ai=>by
  obtain⟨x,hx⟩:∃x,b[0]?=some x:=⟨_,List.getElem?_eq_getElem (List.length_pos_iff.2 ai)⟩;obtain⟨bb,bo,e,im⟩:=ac.get ai;rw[e]at hq;cases hq
  exact Ac _ _ (im 0 x hx 0 _ rfl)
 obtain⟨R,hR⟩:=exq (rdT (b.drop k));have HR:=Ag hR;rw[<-hR];clear hR ac;go_enter_defers Tryz.func209,Tryz.ntmps209
 go_wp2_with fail
 have hB:=eD1 w (.slice ba b.length bc) k;generalize ((((w.alloc (.cells #[Value.string ⟨#[]⟩] 9)).alloc (.cells #[.int .i64 0] 3)).alloc (.cells #[.bool false] 4)).alloc (.cells #[Value.slice ba b.length bc,.int .i64 k] 341))=W4 at *;refine(zO0 b _ k ba bc W4 hk hb im l6 (HAT.out.grows hB.g) (λq hq ai=>Nat.lt_trans (HBA.out q hq ai) (by omega)) hB.r0 hB.r1 hB.rf).mono ?_;rintro e w5 ⟨jx,ck⟩;rw[<-HR.out]at jx;have hs5:=ck.2;have cw:=hB.sz;have c0:w5.cell? ⟨w.heap.size,0,none⟩=_:=(Below.cell ck.1 (by simp only;omega)).trans hB.c0;have c1:w5.cell? ⟨w.heap.size+1,0,none⟩=_:=(Below.cell ck.1 (by simp only;omega)).trans hB.c1;have c2:w5.cell? ⟨w.heap.size+1+1,0,none⟩=_:=(Below.cell ck.1 (by simp only;omega)).trans hB.c2;have f0:w5.frozen? ⟨w.heap.size,0,none⟩=_:=(Below.frozen ck.1 (by simp only;omega)).trans hB.f0;have f1:w5.frozen? ⟨w.heap.size+1,0,none⟩=_:=(Below.frozen ck.1 (by simp only;omega)).trans hB.f1;have f2:w5.frozen? ⟨w.heap.size+1+1,0,none⟩=_:=(Below.frozen ck.1 (by simp only;omega)).trans hB.f2;have bk:aB w w5:=eI0 hB.g ck (by omega);rcases jx with ⟨v,n,rfl,rfl,hc⟩|⟨rfl,rfl⟩
 ·have g0:(w5.setCell ⟨w.heap.size,0,none⟩ (.string v)).cell? ⟨w.heap.size,0,none⟩=some (.string v):=Ab _ _ _ c0
  have g1:(w5.setCell ⟨w.heap.size,0,none⟩ (.string v)).cell? ⟨w.heap.size+1,0,none⟩=some (.int .i64 0):=(Aa _ _ _ _ (λe=>by have:=congrArg Ad e;simp only at this;omega)).trans c1;have g2:(w5.setCell ⟨w.heap.size,0,none⟩ (.string v)).cell? ⟨w.heap.size+1+1,0,none⟩=some (.bool false):=(Aa _ _ _ _ (λe=>by have:=congrArg Ad e;simp only at this;omega)).trans c2;have g3:(w5.setCell ⟨w.heap.size,0,none⟩ (.string v)).cell? ⟨w.heap.size+1+1+1,1,none⟩=some (.int .i64 ((k+n:Nat):Int)):=(Aa _ _ _ _ (λe=>by have:=congrArg Ad e;simp only at this;omega)).trans hc
  have gg:∀j,j=w.heap.size\/j=w.heap.size+1\/j=w.heap.size+1+1->(w5.setCell ⟨w.heap.size,0,none⟩ (.string v)).frozen? ⟨j,0,none⟩=false:=λj hj=>by
   rw[Ae];rcases hj with rfl|rfl|rfl
   ·exact f0
   ·exact f1
   ·exact f2
  obtain⟨K,l9⟩:=exq (k+n);rw[<-l9]at g3 hc;have HK2:=Ag l9;clear l9;have hgp:aB w (w5.setCell ⟨w.heap.size,0,none⟩ (.string v)):=bk.set (by simp only;omega) _;have hsp:w.heap.size+1+1+1<(w5.setCell ⟨w.heap.size,0,none⟩ (.string v)).heap.size:=by simp;omega
  clear HR hB ck c1 c2 f1 f2 hc bk;go_wp2_with fail
  clear c0 f0;generalize (w5.setCell ⟨w.heap.size,0,none⟩ (.string v))=w6 at *;have z0:∀x:Ext (ES w.heap.size (.string v)) w6.drew,x.u.cell? ⟨w.heap.size,0,none⟩=some (.string v):=λx=>x.h.2.2.2.1 ((aB.drew _).cell g0);have z3:∀x:Ext (ES w.heap.size (.string v)) w6.drew,x.u.cell? ⟨w.heap.size+1+1+1,1,none⟩=some (.int .i64 (K:Int)):=λx=>x.h.2.1 _ _ (by simp only;omega) ((aB.drew _).cell g3);have x0:w6.drew.cell? ⟨w.heap.size,0,none⟩=some (.string v):=g0;have xf:w6.drew.frozen? ⟨w.heap.size,0,none⟩=false:=gg _ (Or.inl rfl);refine iZ0 ?_;refine eL0 (ES w.heap.size (.string v)) 6 (bB 6 [5]) (ES.refl _ _) (ES.trans _ _) (by kernel_rfl) (by kernel_rfl) (λ_ _ _ _ _ h=>h) ?_;iterate 5 (refine aO rfl (λK hK=>?_);go_simp;refine hK _ ?_;clear hK K)
  refine cH rfl rfl (λK hK=>?_);go_simp;refine⟨ES.put x0,hK _ _ ?_⟩;clear hK K;refine bU ?_;simp only[List.drop_succ_cons,List.drop_zero];clear z0 z3;have n0:=g0;have y0:(w6.setCell ⟨w.heap.size,0,none⟩ (.string v)).cell? ⟨w.heap.size,0,none⟩=some (.string v):=Ab _ _ _ g0;have y1:(w6.setCell ⟨w.heap.size,0,none⟩ (.string v)).cell? ⟨w.heap.size+1,0,none⟩=some (.int .i64 0):=(Aa _ _ _ _ (λe=>by have:=congrArg Ad e;simp only at this;omega)).trans g1;have y2:(w6.setCell ⟨w.heap.size,0,none⟩ (.string v)).cell? ⟨w.heap.size+1+1,0,none⟩=some (.bool false):=(Aa _ _ _ _ (λe=>by have:=congrArg Ad e;simp only at this;omega)).trans g2;have yg:aB w (w6.setCell ⟨w.heap.size,0,none⟩ (.string v)):=hgp.set (by simp only;omega) _;have yf1:(w6.setCell ⟨w.heap.size,0,none⟩ (.string v)).frozen? ⟨w.heap.size+1,0,none⟩=false:=(Ae _ _ _ _).trans (gg _ (Or.inr (Or.inl rfl)));have yf2:(w6.setCell ⟨w.heap.size,0,none⟩ (.string v)).frozen? ⟨w.heap.size+1+1,0,none⟩=false:=(Ae _ _ _ _).trans (gg _ (Or.inr (Or.inr rfl)));clear x0 xf g0 g1 g2 g3 gg n0;generalize w6.setCell ⟨w.heap.size,0,none⟩ (.string v)=w7 at *
  have k1:((w7.setCell ⟨w.heap.size+1,0,none⟩ (.int .i64 K)).setCell ⟨w.heap.size+1+1,0,none⟩ (.bool true)).drew.cell? ⟨w.heap.size+1,0,none⟩=some (.int .i64 K):=by
   refine(Aa _ _ _ _ (λe=>by have:=congrArg Ad e;simp only at this;omega)).trans ?_;exact Ab _ _ _ y1
  have y2':(w7.setCell ⟨w.heap.size+1,0,none⟩ (.int .i64 K)).cell? ⟨w.heap.size+1+1,0,none⟩=some (.bool false):=by
   rw[Aa _ _ _ _ (λe=>by have:=congrArg Ad e;simp only at this;omega)];exact y2
  have k2:((w7.setCell ⟨w.heap.size+1,0,none⟩ (.int .i64 K)).setCell ⟨w.heap.size+1+1,0,none⟩ (.bool true)).drew.cell? ⟨w.heap.size+1+1,0,none⟩=some (.bool true):=Ab _ _ _ y2'
  have k0:((w7.setCell ⟨w.heap.size+1,0,none⟩ (.int .i64 K)).setCell ⟨w.heap.size+1+1,0,none⟩ (.bool true)).drew.cell? ⟨w.heap.size,0,none⟩=some (.string v):=by
   refine(Aa _ _ _ _ (λe=>by have:=congrArg Ad e;simp only at this;omega)).trans ?_;refine(Aa _ _ _ _ (λe=>by have:=congrArg Ad e;simp only at this;omega)).trans ?_;exact y0
  have kg:aB w ((w7.setCell ⟨w.heap.size+1,0,none⟩ (.int .i64 K)).setCell ⟨w.heap.size+1+1,0,none⟩ (.bool true)).drew:=((yg.set (by simp only;omega) _).set (by simp only;omega) _).dr;go_wp2_with fail
  simp only[tD];go_wp2_with fail
  refine leaves_cons (f:=265) (args:=#[.pointer (some ⟨w.heap.size,0,none⟩),.pointer (some ⟨w.heap.size+1,0,none⟩),.pointer (some ⟨w.heap.size+1+1,0,none⟩)]) (by simp) (by simp[go_sem]) ?_
  refine(vU0 _ _ _ _).mono ?_;rintro e u' gl ⟨rfl,rfl,rfl⟩;show Leaves _ _ _ _ _ _ _
  simp only[settle];refine⟨.tuple #[.string v,.int .i64 K,.bool true],?_,by rw[HK2.out];rfl,kg⟩;simp[results,Tryz.results209,go_sem,k0,k1,k2]
 ·clear HR hB ck
  go_wp2_with fail
  refine leaves_cons (f:=265) (args:=#[.pointer (some ⟨w.heap.size,0,none⟩),.pointer (some ⟨w.heap.size+1,0,none⟩),.pointer (some ⟨w.heap.size+1+1,0,none⟩)]) (by simp) (by simp[go_sem]) ?_
  refine(lF0 w.heap.size (w.heap.size+1) (w.heap.size+1+1) w5 [] _ _ _ c0 c1 c2 f0 f1 f2 (by omega) (by omega) (by omega) w.heap.size (by omega) (by omega) (by omega)).mono ?_;rintro e u' gl ⟨rfl,rfl,k0,k1,k2,aau⟩;have kg:aB w gl:=EB.grows bk aau;show Leaves _ _ _ _ _ _ _
  simp only[settle];refine⟨.tuple #[.string ⟨#[]⟩,.int .i64 0,.bool false],?_,rfl,kg⟩;simp[results,Tryz.results209,go_sem,k0,k1,k2]
theorem lI0 (b:List UInt8) (k:Nat) (ba:Option Addr) (bc:Nat) (w:World) (hk:k<=b.length) (hb:b.length<=1099511627776) (im:b.length<=bc) (l6:ba=none->bc=0) (ac:aF w ba 1 (b.map aV)) :
  Calls Tryz.prog 146 #[.slice ba b.length bc,.int .i64 k] w λe w'=>e=.returned (pU0 k (rdT (b.drop k)))/\aB w w':=by
 have CR:=Ag (sZ0 b k ba bc w hk hb im l6 ac)
 cases hR:rdT (b.drop k) with
 | none =>
  rw[hR]at CR;unfold pU0 at CR ⊢;clear hR ac;go_enter Tryz.func146,Tryz.ntmps146
  go_wp2_with fail
  refine CR.out.mono ?_;rintro e w1 ⟨rfl,hg⟩;go_wp2_with fail
  go_ret3;exact⟨rfl,hg⟩
 | some x =>
  obtain⟨v,n⟩:=x;rw[hR]at CR;unfold pU0 at CR ⊢;obtain⟨K,hK⟩:=exq (k+n);simp only[<-hK]at CR ⊢;clear hR ac hK;go_enter Tryz.func146,Tryz.ntmps146
  go_wp2_with fail
  refine CR.out.mono ?_;rintro e w1 ⟨rfl,hg⟩;go_wp2_with fail
  go_ret3;exact⟨rfl,hg⟩
end Go.Proofs.YthgklnohcmaopaaGreatDoor
