/- The texts CutV RdS Src RefS PpsP uA0 EnvL9 Witness9, one behind the other. -/
import Derived.Test.YthgklnohcmaopaaGreatDoorBq16
import Derived.Test.YthgklnohcmaopaaGreatDoorBq18
import Derived.Test.YthgklnohcmaopaaGreatDoorBq20
import Derived.Test.YthgklnohcmaopaaGreatDoorBq9
import Derived.Test.YthgklnohcmaopaaGreatDoorBq2
import Derived.Test.YthgklnohcmaopaaGreatDoorBq1
import Derived.Test.YthgklnohcmaopaaGreatDoorBq3
import Derived.Test.YthgklnohcmaopaaGreatDoorBq15
import Derived.Test.YthgklnohcmaopaaGreatDoorBq17
import Derived.Lib.SlicesS
import Derived.Lib.IndexMore
import Derived.Lib.ItoaNum
open Go.World renaming cell?_setCell_other → Aa,cell?_setCell_same → Ab,block_lt_of_cell? → Ac,frozen?_setCell → Af
open Go.Lib renaming hid → Ad,pow10Tab → Av
open Go.Addr renaming block → Ae
open List renaming length_drop → Ag,getElem?_map → Ai,getElem?_eq_getElem → Aj,getElem?_eq_none → Am,drop_succ_cons → An,length_append → Ao,cons_append → Ap,drop_zero → As,length → Aw
open Go.IntKind renaming signed → Ah,wrap → Ak,bits → Al
open Nat renaming mul_one → Aq,le_trans → At,le_of_lt → Au,le_refl → Ax
open Array renaming replicate → Ar
open Option renaming map → Ay
set_option maxHeartbeats 4000000
namespace Go.Proofs.YthgklnohcmaopaaGreatDoor
set_option maxRecDepth 100000
section
open Go Go.RowKit
theorem tZ {w:World} {ba:Option Addr} {b:List UInt8} {bc l h:Nat} (ac:aF w ba 1 (b.map aQ)) (hn:ba=none->bc=0) (h1:l<=h) (h2:h<=b.length) (h3:b.length<=bc) :
  ∃a',(if bc=l then ba else Ay (λx=>x.add l) ba)=a'/\aF w a' 1 (((b.take h).drop l).map aQ)/\(a'=none->bc-l=0):=by
 obtain⟨a',ff,gq,se⟩:=rW (c:=bc) (l:=l) (h:=h) (k:=1) ac hn h1 h2 h3;refine⟨a',?_,gq,se⟩;unfold sliced at ff;by_cases m4:bc=l
 ·rw[if_pos m4]at ff ⊢;exact(Value.slice.inj ff).1
 ·rw[if_neg m4]at ff ⊢
  have:=(Value.slice.inj ff).1
  rw[<-this];congr 1
  funext x
  rw[Aq]
end
section
open Go Go.RowKit
attribute [local go_sem] aM aO
theorem rS {w:World} {a:Option Addr} {c:Nat} {l:List UInt8} (h:aF w a 1 (l.map aQ)):(convert 28 9 (.slice a l.length c)).run Tryz.prog w=.ok (.string (mkB l)) w:=by
 cases l with
 | nil =>
  rw[run_convert_bytes_string w 28 9 5 a ([]:List UInt8).length c Tryz.underlying28 Tryz.underlying5 Tryz.underlying9];cases a<;>(simp[Conv.bytesToString];rfl)
 | cons x r =>
  obtain⟨b,o,rfl,hc⟩:=h.get (by simp);generalize hL:x::r=L at *;have hz:(mkB L).size=L.length:=by rw[Lib.size_eq,gO]
  have hB:Lib.Bytes w b o (mkB L):=λi hi=>by
   rw[hz]at hi;have h1:=hc i L[i] (by simp_all) 0 _ rfl;have hg:(mkB L)[i]'(by rw[hz];exact hi)=L[i]:=rfl;simp_all
  have:=Lib.run_convert_whole (P:=Tryz.prog) w 28 5 9 Tryz.underlying28 Tryz.underlying5 Tryz.underlying9 b o (mkB L) hB c
  rw[hz]at this;exact this
def rdT (l:List UInt8):Option (ByteArray×Nat):=match rdU l with
 | none=>none
 | some (n,j)=>if n<=(l.drop j).length then some (mkB ((l.drop j).take n),j+n) else none
def oU0 (k:Nat):Option (ByteArray×Nat)->Value
 | some (v,n) => .tuple #[.string v,.int .i64 ((k+n:Nat):Int),.bool true]
 | none => .tuple #[.string ⟨#[]⟩,.int .i64 0,.bool false]
def vN0 (R:Option (ByteArray×Nat)) (rb k:Nat) (w:World) (e:Ending) (w':World):Prop :=
 ((∃v n,R=some (v,n)/\e=.returned (.string v)/\w'.cell? ⟨rb,1,none⟩=some (.int .i64 ((k+n:Nat):Int)))\/(R=none/\e=.panicked [{ v:=aY0,recovered:=false }]))/\EB rb w w'
theorem iC0 (p0 p1 p2:Nat) (w:World) (kj:List PanicEntry) (v0 v1 v2:Value) (c0:w.cell? ⟨p0,0,none⟩=some v0) (c1:w.cell? ⟨p1,0,none⟩=some v1) (c2:w.cell? ⟨p2,0,none⟩=some v2)
  (f0:w.frozen? ⟨p0,0,none⟩=false) (f1:w.frozen? ⟨p1,0,none⟩=false) (f2:w.frozen? ⟨p2,0,none⟩=false) (n01:p0≠p1) (n02:p0≠p2) (n12:p1≠p2) (B:Nat) (rv:B<=p0) (zi:B<=p1) (jx:B<=p2) :
  CallsD Tryz.prog 265 #[.pointer (some ⟨p0,0,none⟩),.pointer (some ⟨p1,0,none⟩),.pointer (some ⟨p2,0,none⟩)] (.panicking ({ v:=aY0,recovered:=false }::kj)) w λe u' w' =>
   e=.returned (.tuple #[])/\u' = .panicking ({ v:=aY0,recovered:=true }::kj)/\w'.cell? ⟨p0,0,none⟩=some (.string ⟨#[]⟩)/\w'.cell? ⟨p1,0,none⟩=some (.int .i64 0)/\w'.cell? ⟨p2,0,none⟩=some (.bool false)/\EB B w w':=by
 have hta:∀W:World,(Instr.typeAssert (.iface 339 (.agg #[])) 20 339 true).run Tryz.prog W=.ok (.tuple #[.agg #[],.bool true]) W:=λW=>by kernel_rfl
 have i9:=aB.alloc w (.cells #[] 339);have b0:=Ac w _ c0;have b1:=Ac w _ c1;have b2:=Ac w _ c2;have d0:=i9.cell c0;have d1:=i9.cell c1;have d2:=i9.cell c2;have g0:=(i9.froz (p:=⟨p0,0,none⟩) b0).trans f0;have g1:=(i9.froz (p:=⟨p1,0,none⟩) b1).trans f1;have g2:=(i9.froz (p:=⟨p2,0,none⟩) b2).trans f2;have e1:(w.alloc (.cells #[] 339) |>.setCell ⟨p0,0,none⟩ (.string ⟨#[]⟩)).cell? ⟨p1,0,none⟩=some v1:=(Aa _ _ _ _ (by simp_all)).trans d1
 have e2:((w.alloc (.cells #[] 339) |>.setCell ⟨p0,0,none⟩ (.string ⟨#[]⟩)).setCell ⟨p1,0,none⟩ (.int .i64 0)).cell? ⟨p2,0,none⟩=some v2:=(Aa _ _ _ _ (by simp_all)).trans ((Aa _ _ _ _ (by simp_all)).trans d2)
 refine callsD_of_wpS Tryz.func265 rfl λc₀ cs hu=>?_;apply wpS_seq
 apply wpS_region
 simp[wpOpsS,go_sem,recoverD,hu,Tryz.ntmps265,Exit.thenS,aY0]
 refine wpS_of_wp ?_;rw[show (#[Value.pointer (some ⟨p0,0,none⟩),.pointer (some ⟨p1,0,none⟩),.pointer (some ⟨p2,0,none⟩)]++(Ar 11 undef).setIfInBounds 4 (.iface 339 (.agg #[]))) = #[.pointer (some ⟨p0,0,none⟩),.pointer (some ⟨p1,0,none⟩),.pointer (some ⟨p2,0,none⟩),undef,undef,undef,undef,.iface 339 (.agg #[]),undef,undef,undef,undef,undef,undef] from rfl]
 go_wp2
 have i6:(((w.setCell ⟨p0,0,none⟩ (.string ⟨#[]⟩)).setCell ⟨p1,0,none⟩ (.int .i64 0)).setCell ⟨p2,0,none⟩ (.bool false)).cell? ⟨p0,0,none⟩=some (.string ⟨#[]⟩):=by
  rw[Aa _ _ _ _ (by simp_all),Aa _ _ _ _ (by simp_all)];exact Ab _ _ _ c0
 have de:(((w.setCell ⟨p0,0,none⟩ (.string ⟨#[]⟩)).setCell ⟨p1,0,none⟩ (.int .i64 0)).setCell ⟨p2,0,none⟩ (.bool false)).cell? ⟨p1,0,none⟩=some (.int .i64 0):=by
  rw[Aa _ _ _ _ (by simp_all)];exact Ab _ _ _ ((Aa _ _ _ _ (by simp_all)).trans c1)
 have jh:(((w.setCell ⟨p0,0,none⟩ (.string ⟨#[]⟩)).setCell ⟨p1,0,none⟩ (.int .i64 0)).setCell ⟨p2,0,none⟩ (.bool false)).cell? ⟨p2,0,none⟩=some (.bool false) :=
  Ab _ _ _ ((Aa _ _ _ _ (by simp_all)).trans ((Aa _ _ _ _ (by simp_all)).trans c2))
 have fk:Below B w ((((w.setCell ⟨p0,0,none⟩ (.string ⟨#[]⟩)).setCell ⟨p1,0,none⟩ (.int .i64 0)).setCell ⟨p2,0,none⟩ (.bool false)).alloc (.cells #[] 339)):=((((Below.refl B w).setCell (p:=⟨p0,0,none⟩) rv _).setCell (p:=⟨p1,0,none⟩) zi _).setCell (p:=⟨p2,0,none⟩) jx _).alloc (by simp;omega) _;have mg:=aB.alloc (((w.setCell ⟨p0,0,none⟩ (.string ⟨#[]⟩)).setCell ⟨p1,0,none⟩ (.int .i64 0)).setCell ⟨p2,0,none⟩ (.bool false)) (.cells #[] 339);have k0:=mg.cell i6;have k1:=mg.cell de;have k2:=mg.cell jh;have ci:EB B w ((((w.setCell ⟨p0,0,none⟩ (.string ⟨#[]⟩)).setCell ⟨p1,0,none⟩ (.int .i64 0)).setCell ⟨p2,0,none⟩ (.bool false)).alloc (.cells #[] 339)):=⟨fk,fk.size⟩;exact⟨rfl,_,rfl,_,results_none rfl _ _ _,rfl,rfl,k0,k1,k2,ci⟩
theorem sS0 (p0 p1 p2:Nat) (w:World) :
  CallsD Tryz.prog 265 #[.pointer (some ⟨p0,0,none⟩),.pointer (some ⟨p1,0,none⟩),.pointer (some ⟨p2,0,none⟩)] .returning w λe u' w'=>e=.returned (.tuple #[])/\u' = .returning/\w'=w:=by
 refine callsD_of_wpS Tryz.func265 rfl λc₀ cs hu=>?_;apply wpS_seq
 apply wpS_region
 simp[wpOpsS,go_sem,recoverD,hu,Tryz.ntmps265,Exit.thenS]
 refine wpS_of_wp ?_;rw[show (#[Value.pointer (some ⟨p0,0,none⟩),.pointer (some ⟨p1,0,none⟩),.pointer (some ⟨p2,0,none⟩)]++(Ar 11 undef).setIfInBounds 4 .nilIface) = #[.pointer (some ⟨p0,0,none⟩),.pointer (some ⟨p1,0,none⟩),.pointer (some ⟨p2,0,none⟩),undef,undef,undef,undef,.nilIface,undef,undef,undef,undef,undef,undef] from rfl]
 go_wp2
 cases c₀
 simp only at hu;subst hu;exact⟨rfl,_,rfl,_,results_none rfl _ _ _,rfl,rfl,rfl⟩
theorem vQ0 (b:List UInt8) (rb k:Nat) (ba:Option Addr) (bc:Nat) (w:World) (hk:k<=b.length) (hb:b.length<=1099511627776) (ep:b.length<=bc) (jo:ba=none->bc=0) (ac:aF w ba 1 (b.map aQ)) (zg:∀q:Addr,ba=some q->b≠[]->q.block<rb)
  (c0:w.cell? ⟨rb,0,none⟩=some (.slice ba b.length bc)) (c1:w.cell? ⟨rb,1,none⟩=some (.int .i64 k)) (f1:w.frozen? ⟨rb,1,none⟩=false) :
  Calls Tryz.prog 210 #[.pointer (some ⟨rb,0,none⟩)] w (vN0 (rdT (b.drop k)) rb k w):=by
 have hRT:∀n j,rdU (b.drop k)=some (n,j)->rdT (b.drop k)=if n<=(b.drop (k+j)).length then some (mkB ((b.drop (k+j)).take n),j+n) else none:=λn j h=>by
  unfold rdT;rw[h];simp only;rw[List.drop_drop]
 have qz:rdU (b.drop k)=none->rdT (b.drop k)=none:=λh=>by unfold rdT;rw[h]
 have CN:=Ad (lO0 b rb k ba bc w hk hb ac zg c0 c1 f1);have HAT:=Ad ac;have HNC:=Ad jo;have HBA:=Ad zg;have hrb:=Ac w _ c0;simp only at hrb
 cases hU:rdU (b.drop k) with
 | none =>
  rw[hU]at CN;have HR:=Ad (qz hU);clear hRT qz hU ac zg;go_enter Tryz.func210,Tryz.ntmps210
  go_wp2_with fail
  refine CN.out.mono ?_;rintro e w1 ⟨jn,ci⟩;rcases jn with ⟨v,n,hR,_⟩|⟨_,rfl⟩
  ·cases hR
  ·exact⟨rfl,Or.inr ⟨HR.out,rfl⟩,ci⟩
 | some x =>
  obtain⟨n,j⟩:=x;rw[hU]at CN;have HR:=Ad (hRT n j hU);obtain⟨r,m0,hlr,hjj⟩:=pQ0.1 hU
  have hj:j<=b.length-k:=by
   have:=congrArg Aw hlr
   rw[Ag,Ao]at this;omega
  clear hlr hjj r;clear hRT qz ac zg hU;obtain⟨K,hK⟩:=exq (k+j);have hKb:K<=b.length:=by omega
  rw[<-hK]at HR;have HK:=Ad hK;go_enter Tryz.func210,Tryz.ntmps210
  go_wp2_with fail
  refine CN.out.mono ?_;rintro e w1 ⟨jn,ci⟩;rcases jn with ⟨v,n',hR,rfl,jz,ox,hf1⟩|⟨hR,_⟩
  case inr=>cases hR
  obtain⟨rfl,rfl⟩:n=v/\j=n':=by simpa using hR
  rw[<-hK]at jz;have z0:∀x:Ext aB w1.drew,x.u.cell? ⟨rb,0,none⟩=some (.slice ba b.length bc):=aG ((aB.drew w1).cell ox);have z1:∀x:Ext aB w1.drew,x.u.cell? ⟨rb,1,none⟩=some (.int .i64 (K:Int)):=aG ((aB.drew w1).cell jz);have abp:IntKind.i64.wrap ((b.length:Int)-(K:Int))=((b.length-K:Nat):Int):=by simp[Ak,Al,Ah];omega
  have wcv:IntKind.u64.wrap ((b.length-K:Nat):Int)=((b.length-K:Nat):Int):=by simp[Ak,Al,Ah];omega
  clear hR hK;by_cases f6:b.length-K<n
  ·have vh:((b.length-K:Nat):Int)<n:=by omega
   have HRN:Hid (rdT (b.drop k)=none):=by show _=_;rw[HR.out,if_neg (by rw[Ag];omega)]
   clear HR;go_wp2_with fail
   refine bI (bB 13 []) (by kernel_rfl) (λd _ _ _ _ h=>by cases d<;>exact h) ?_
   iterate 13 (refine aK rfl (λK hK=>?_);go_simp;refine hK _ ?_;clear hK K)
   refine bT ?_;clear z0 z1;go_wp2_with fail
   exact⟨rfl,Or.inr ⟨HRN.out,rfl⟩,EB.trans _ _ _ _ ci (EB.of (aB.drew w1) (At (Au hrb) ci.2))⟩
  ·have vh:¬((b.length-K:Nat):Int)<n:=by omega
   have HRS:Hid (rdT (b.drop k)=some (mkB ((b.drop K).take n),j+n)):=by show _=_;rw[HR.out,if_pos (by rw[Ag];omega)]
   clear HR;go_wp2_with fail
   refine bI (bB 13 []) (by kernel_rfl) (λd _ _ _ _ h=>by cases d<;>exact h) ?_
   iterate 13 (refine aK rfl (λK hK=>?_);go_simp;refine hK _ ?_;clear hK K)
   refine bT ?_;clear z0 z1;have y0:∀x:Ext aB w1.drew.drew,x.u.cell? ⟨rb,0,none⟩=some (.slice ba b.length bc):=aG ((aB.drew _).cell ((aB.drew w1).cell ox));have y1:∀x:Ext aB w1.drew.drew,x.u.cell? ⟨rb,1,none⟩=some (.int .i64 (K:Int)):=aG ((aB.drew _).cell ((aB.drew w1).cell jz));have wn:IntKind.i64.wrap (n:Int)=n:=by simp[Ak,Al,Ah];omega
   have wa:IntKind.i64.wrap ((K:Int)+n)=((K+n:Nat):Int):=by simp[Ak,Al,Ah];omega
   go_wp2_with fail
   refine bI (bB 18 []) (by kernel_rfl) (λd _ _ _ _ h=>by cases d<;>exact h) ?_
   have h01:(0:Int)<=(K:Int)+n:=by omega
   have h02:(K:Int)+n<=bc:=by omega
   have tn:((K:Int)+n).toNat=K+n:=by omega
   have tk:K<=K+n:=by omega
   have tm:K+n-K=n:=by omega
   have HAT1:aF w1 ba 1 (b.map aQ):=λaq=>by
    obtain⟨bb,bo,e,hc⟩:=HAT.out aq;have ae:=HBA.out _ e (λh0=>aq (by rw[h0];rfl));exact⟨bb,bo,e,λi row hi j v hj=>(Below.cell ci.1 (by simpa using ae)).trans (hc i row hi j v hj)⟩
   obtain⟨a',ff,gq,_⟩:=rW (c:=bc) (l:=K) (h:=K+n) (k:=1) HAT1 HNC.out (by omega) (by omega) (by omega);rw[show K+n-K=n by omega]at ff
   have aea:(if bc=K then ba else Ay (λx=>x.add K) ba)=a':=by
    unfold sliced at ff;by_cases m4:bc=K
    ·rw[if_pos m4]at ff ⊢;exact(Value.slice.inj ff).1
    ·rw[if_neg m4]at ff ⊢
     have:=(Value.slice.inj ff).1
     rw[<-this];congr 1
     funext x
     rw[Aq]
   have us:((b.take (K+n)).drop K)=(b.drop K).take n:=by rw[List.take_drop]
   have hln:((b.drop K).take n).length=n:=by rw[List.length_take,Ag];omega
   rw[us]at gq
   have hcv:∀x:Ext aB w1.drew.drew,(convert 28 9 (.slice a' n (bc-K))).run Tryz.prog x.u=.ok (.string (mkB ((b.drop K).take n))) x.u:=λx=>by
    have:=rS (c:=bc-K) (gq.grows (aB.trans _ _ _ (aB.trans _ _ _ (aB.drew w1) (aB.drew _)) x.h))
    rw[hln]at this;exact this
   generalize (b.drop K).take n=S at *;iterate 18 (refine aK rfl (λK hK=>?_);go_simp;refine hK _ ?_;clear hK K)
   refine bT ?_;go_wp2_with fail
   go_ret;refine⟨Or.inl ⟨_,_,HRS.out,rfl,?_⟩,EB.trans _ _ _ _ (EB.trans _ _ _ _ ci (⟨(Below.refl rb w1).setCell (p:=⟨rb,1,none⟩) (Ax rb) _,by simp⟩:EB rb w1 (w1.setCell ⟨rb,1,none⟩ (.int .i64 ((K:Int)+n))))) (EB.of ((aB.drew _).dr) (by simp;exact At (Au hrb) ci.2))⟩;rw[show ((k+(j+n):Nat):Int)=(K:Int)+n by rw[HK.out];push_cast;omega]
   exact Ab _ _ _ jz
structure zX0 (w:World) (s:Value) (k:Int) (W:World):Prop where
 g:aB w W
 sz:w.heap.size+1+1+1<W.heap.size
 c0:W.cell? ⟨w.heap.size,0,none⟩=some (.string ⟨#[]⟩)
 f0:W.frozen? ⟨w.heap.size,0,none⟩=false
 c1:W.cell? ⟨w.heap.size+1,0,none⟩=some (.int .i64 0)
 f1:W.frozen? ⟨w.heap.size+1,0,none⟩=false
 c2:W.cell? ⟨w.heap.size+1+1,0,none⟩=some (.bool false)
 f2:W.frozen? ⟨w.heap.size+1+1,0,none⟩=false
 r0:W.cell? ⟨w.heap.size+1+1+1,0,none⟩=some s
 r1:W.cell? ⟨w.heap.size+1+1+1,1,none⟩=some (.int .i64 k)
 rf:W.frozen? ⟨w.heap.size+1+1+1,1,none⟩=false
theorem zZ0 (w:World) (s:Value) (k:Int):zX0 w s k ((((w.alloc (.cells #[.string ⟨#[]⟩] 9)).alloc (.cells #[.int .i64 0] 3)).alloc (.cells #[.bool false] 4)).alloc (.cells #[s,.int .i64 k] 341)):=by
 have e1:(w.alloc (.cells #[.string ⟨#[]⟩] 9)).heap.size=w.heap.size+1:=by simp
 have e2:((w.alloc (.cells #[.string ⟨#[]⟩] 9)).alloc (.cells #[.int .i64 0] 3)).heap.size=w.heap.size+1+1:=by simp
 have e3:(((w.alloc (.cells #[.string ⟨#[]⟩] 9)).alloc (.cells #[.int .i64 0] 3)).alloc (.cells #[.bool false] 4)).heap.size=w.heap.size+1+1+1:=by simp
 have b0:=cO (w:=w) (cs:=#[.string ⟨#[]⟩]) (t:=9) (w':=((((w.alloc (.cells #[.string ⟨#[]⟩] 9)).alloc (.cells #[.int .i64 0] 3)).alloc (.cells #[.bool false] 4)).alloc (.cells #[s,.int .i64 k] 341))) (((aB.alloc _ _).al _).al _);have b1:=cO (w:=w.alloc (.cells #[.string ⟨#[]⟩] 9)) (cs:=#[.int .i64 0]) (t:=3) (w':=((((w.alloc (.cells #[.string ⟨#[]⟩] 9)).alloc (.cells #[.int .i64 0] 3)).alloc (.cells #[.bool false] 4)).alloc (.cells #[s,.int .i64 k] 341))) ((aB.alloc _ _).al _);have b2:=cO (w:=(w.alloc (.cells #[.string ⟨#[]⟩] 9)).alloc (.cells #[.int .i64 0] 3)) (cs:=#[.bool false]) (t:=4) (w':=((((w.alloc (.cells #[.string ⟨#[]⟩] 9)).alloc (.cells #[.int .i64 0] 3)).alloc (.cells #[.bool false] 4)).alloc (.cells #[s,.int .i64 k] 341))) (aB.alloc _ _);have b3:=cO (w:=((w.alloc (.cells #[.string ⟨#[]⟩] 9)).alloc (.cells #[.int .i64 0] 3)).alloc (.cells #[.bool false] 4)) (cs:=#[s,.int .i64 k]) (t:=341) (w':=((((w.alloc (.cells #[.string ⟨#[]⟩] 9)).alloc (.cells #[.int .i64 0] 3)).alloc (.cells #[.bool false] 4)).alloc (.cells #[s,.int .i64 k] 341))) (aB.refl _);rw[e1]at b1;rw[e2]at b2;rw[e3]at b3;exact⟨(((aB.alloc _ _).al _).al _).al _,by simp,b0.1 0 _ rfl,b0.2 0,b1.1 0 _ rfl,b1.2 0,b2.1 0 _ rfl,b2.2 0,b3.1 0 _ rfl,b3.1 1 _ rfl,b3.2 1⟩
theorem oC0 (b:List UInt8) (k:Nat) (ba:Option Addr) (bc:Nat) (w:World) (hk:k<=b.length) (hb:b.length<=1099511627776) (ep:b.length<=bc) (jo:ba=none->bc=0) (ac:aF w ba 1 (b.map aQ)) :
  Calls Tryz.prog 209 #[.slice ba b.length bc,.int .i64 k,.func (.func 210) #[] #[]] w λe w'=>e=.returned (oU0 k (rdT (b.drop k)))/\aB w w':=by
 have hmf:∀(fn:Fn) (first cap:Array Value) (w:World),(Instr.makeFunc fn first cap).run Tryz.prog w=.ok (.func fn first cap) w:=λ_ _ _ _=>rfl
 have li:¬(k:Int)<0:=by omega
 have HAT:=Ad ac
 have HBA:Hid (∀q:Addr,ba=some q->b≠[]->q.block<w.heap.size):=λq hq aq=>by
  obtain⟨x,hx⟩:∃x,b[0]?=some x:=⟨_,Aj (List.length_pos_iff.2 aq)⟩;obtain⟨bb,bo,e,ep⟩:=ac.get aq;rw[e]at hq;cases hq
  exact Ac _ _ (ep 0 x hx 0 _ rfl)
 obtain⟨R,hR⟩:=exq (rdT (b.drop k));have HR:=Ad hR;rw[<-hR];clear hR ac;go_enter_defers Tryz.func209,Tryz.ntmps209
 go_wp2_with fail
 have hB:=zZ0 w (.slice ba b.length bc) k;generalize ((((w.alloc (.cells #[Value.string ⟨#[]⟩] 9)).alloc (.cells #[.int .i64 0] 3)).alloc (.cells #[.bool false] 4)).alloc (.cells #[Value.slice ba b.length bc,.int .i64 k] 341))=W4 at *;refine(vQ0 b _ k ba bc W4 hk hb ep jo (HAT.out.grows hB.g) (λq hq aq=>Nat.lt_trans (HBA.out q hq aq) (by omega)) hB.r0 hB.r1 hB.rf).mono ?_;rintro e w5 ⟨jn,ci⟩;rw[<-HR.out]at jn;have hs5:=ci.2;have cz:=hB.sz;have c0:w5.cell? ⟨w.heap.size,0,none⟩=_:=(Below.cell ci.1 (by simp only;omega)).trans hB.c0;have c1:w5.cell? ⟨w.heap.size+1,0,none⟩=_:=(Below.cell ci.1 (by simp only;omega)).trans hB.c1;have c2:w5.cell? ⟨w.heap.size+1+1,0,none⟩=_:=(Below.cell ci.1 (by simp only;omega)).trans hB.c2;have f0:w5.frozen? ⟨w.heap.size,0,none⟩=_:=(Below.frozen ci.1 (by simp only;omega)).trans hB.f0;have f1:w5.frozen? ⟨w.heap.size+1,0,none⟩=_:=(Below.frozen ci.1 (by simp only;omega)).trans hB.f1;have f2:w5.frozen? ⟨w.heap.size+1+1,0,none⟩=_:=(Below.frozen ci.1 (by simp only;omega)).trans hB.f2;have bk:aB w w5:=bS0 hB.g ci (by omega);rcases jn with ⟨v,n,rfl,rfl,hc⟩|⟨rfl,rfl⟩
 ·have g0:(w5.setCell ⟨w.heap.size,0,none⟩ (.string v)).cell? ⟨w.heap.size,0,none⟩=some (.string v):=Ab _ _ _ c0
  have g1:(w5.setCell ⟨w.heap.size,0,none⟩ (.string v)).cell? ⟨w.heap.size+1,0,none⟩=some (.int .i64 0):=(Aa _ _ _ _ (λe=>by have:=congrArg Ae e;simp only at this;omega)).trans c1;have g2:(w5.setCell ⟨w.heap.size,0,none⟩ (.string v)).cell? ⟨w.heap.size+1+1,0,none⟩=some (.bool false):=(Aa _ _ _ _ (λe=>by have:=congrArg Ae e;simp only at this;omega)).trans c2;have g3:(w5.setCell ⟨w.heap.size,0,none⟩ (.string v)).cell? ⟨w.heap.size+1+1+1,1,none⟩=some (.int .i64 ((k+n:Nat):Int)):=(Aa _ _ _ _ (λe=>by have:=congrArg Ae e;simp only at this;omega)).trans hc
  have gg:∀j,j=w.heap.size\/j=w.heap.size+1\/j=w.heap.size+1+1->(w5.setCell ⟨w.heap.size,0,none⟩ (.string v)).frozen? ⟨j,0,none⟩=false:=λj hj=>by
   rw[Af];rcases hj with rfl|rfl|rfl
   ·exact f0
   ·exact f1
   ·exact f2
  obtain⟨K,lh⟩:=exq (k+n);rw[<-lh]at g3 hc;have HK2:=Ad lh;clear lh;have hgp:aB w (w5.setCell ⟨w.heap.size,0,none⟩ (.string v)):=bk.set (by simp only;omega) _;have hsp:w.heap.size+1+1+1<(w5.setCell ⟨w.heap.size,0,none⟩ (.string v)).heap.size:=by simp;omega
  clear HR hB ci c1 c2 f1 f2 hc bk;go_wp2_with fail
  clear c0 f0;generalize (w5.setCell ⟨w.heap.size,0,none⟩ (.string v))=w6 at *;have z0:∀x:Ext (ES w.heap.size (.string v)) w6.drew,x.u.cell? ⟨w.heap.size,0,none⟩=some (.string v):=λx=>x.h.2.2.2.1 ((aB.drew _).cell g0);have z3:∀x:Ext (ES w.heap.size (.string v)) w6.drew,x.u.cell? ⟨w.heap.size+1+1+1,1,none⟩=some (.int .i64 (K:Int)):=λx=>x.h.2.1 _ _ (by simp only;omega) ((aB.drew _).cell g3);have x0:w6.drew.cell? ⟨w.heap.size,0,none⟩=some (.string v):=g0;have xf:w6.drew.frozen? ⟨w.heap.size,0,none⟩=false:=gg _ (Or.inl rfl);refine gH0 ?_;refine hF0 (ES w.heap.size (.string v)) 6 (bB 6 [5]) (ES.refl _ _) (ES.trans _ _) (by kernel_rfl) (by kernel_rfl) (λ_ _ _ _ _ h=>h) ?_;iterate 5 (refine aK rfl (λK hK=>?_);go_simp;refine hK _ ?_;clear hK K)
  refine bU rfl rfl (λK hK=>?_);go_simp;refine⟨ES.put x0,hK _ _ ?_⟩;clear hK K;refine bT ?_;simp only[An,As];clear z0 z3;have n0:=g0;have y0:(w6.setCell ⟨w.heap.size,0,none⟩ (.string v)).cell? ⟨w.heap.size,0,none⟩=some (.string v):=Ab _ _ _ g0;have y1:(w6.setCell ⟨w.heap.size,0,none⟩ (.string v)).cell? ⟨w.heap.size+1,0,none⟩=some (.int .i64 0):=(Aa _ _ _ _ (λe=>by have:=congrArg Ae e;simp only at this;omega)).trans g1;have y2:(w6.setCell ⟨w.heap.size,0,none⟩ (.string v)).cell? ⟨w.heap.size+1+1,0,none⟩=some (.bool false):=(Aa _ _ _ _ (λe=>by have:=congrArg Ae e;simp only at this;omega)).trans g2;have yg:aB w (w6.setCell ⟨w.heap.size,0,none⟩ (.string v)):=hgp.set (by simp only;omega) _;have yf1:(w6.setCell ⟨w.heap.size,0,none⟩ (.string v)).frozen? ⟨w.heap.size+1,0,none⟩=false:=(Af _ _ _ _).trans (gg _ (Or.inr (Or.inl rfl)));have yf2:(w6.setCell ⟨w.heap.size,0,none⟩ (.string v)).frozen? ⟨w.heap.size+1+1,0,none⟩=false:=(Af _ _ _ _).trans (gg _ (Or.inr (Or.inr rfl)));clear x0 xf g0 g1 g2 g3 gg n0;generalize w6.setCell ⟨w.heap.size,0,none⟩ (.string v)=w7 at *
  have k1:((w7.setCell ⟨w.heap.size+1,0,none⟩ (.int .i64 K)).setCell ⟨w.heap.size+1+1,0,none⟩ (.bool true)).drew.cell? ⟨w.heap.size+1,0,none⟩=some (.int .i64 K):=by
   refine(Aa _ _ _ _ (λe=>by have:=congrArg Ae e;simp only at this;omega)).trans ?_;exact Ab _ _ _ y1
  have y2':(w7.setCell ⟨w.heap.size+1,0,none⟩ (.int .i64 K)).cell? ⟨w.heap.size+1+1,0,none⟩=some (.bool false):=by
   rw[Aa _ _ _ _ (λe=>by have:=congrArg Ae e;simp only at this;omega)];exact y2
  have k2:((w7.setCell ⟨w.heap.size+1,0,none⟩ (.int .i64 K)).setCell ⟨w.heap.size+1+1,0,none⟩ (.bool true)).drew.cell? ⟨w.heap.size+1+1,0,none⟩=some (.bool true):=Ab _ _ _ y2'
  have k0:((w7.setCell ⟨w.heap.size+1,0,none⟩ (.int .i64 K)).setCell ⟨w.heap.size+1+1,0,none⟩ (.bool true)).drew.cell? ⟨w.heap.size,0,none⟩=some (.string v):=by
   refine(Aa _ _ _ _ (λe=>by have:=congrArg Ae e;simp only at this;omega)).trans ?_;refine(Aa _ _ _ _ (λe=>by have:=congrArg Ae e;simp only at this;omega)).trans ?_;exact y0
  have kg:aB w ((w7.setCell ⟨w.heap.size+1,0,none⟩ (.int .i64 K)).setCell ⟨w.heap.size+1+1,0,none⟩ (.bool true)).drew:=((yg.set (by simp only;omega) _).set (by simp only;omega) _).dr;go_wp2_with fail
  simp only[rD];go_wp2_with fail
  refine leaves_cons (f:=265) (args:=#[.pointer (some ⟨w.heap.size,0,none⟩),.pointer (some ⟨w.heap.size+1,0,none⟩),.pointer (some ⟨w.heap.size+1+1,0,none⟩)]) (by simp) (by simp[go_sem]) ?_
  refine(sS0 _ _ _ _).mono ?_;rintro e u' ld ⟨rfl,rfl,rfl⟩;show Leaves _ _ _ _ _ _ _
  simp only[settle];refine⟨.tuple #[.string v,.int .i64 K,.bool true],?_,by rw[HK2.out];rfl,kg⟩;simp[results,Tryz.results209,go_sem,k0,k1,k2]
 ·clear HR hB ci
  go_wp2_with fail
  refine leaves_cons (f:=265) (args:=#[.pointer (some ⟨w.heap.size,0,none⟩),.pointer (some ⟨w.heap.size+1,0,none⟩),.pointer (some ⟨w.heap.size+1+1,0,none⟩)]) (by simp) (by simp[go_sem]) ?_
  refine(iC0 w.heap.size (w.heap.size+1) (w.heap.size+1+1) w5 [] _ _ _ c0 c1 c2 f0 f1 f2 (by omega) (by omega) (by omega) w.heap.size (by omega) (by omega) (by omega)).mono ?_;rintro e u' ld ⟨rfl,rfl,k0,k1,k2,zj⟩;have kg:aB w ld:=EB.grows bk zj;show Leaves _ _ _ _ _ _ _
  simp only[settle];refine⟨.tuple #[.string ⟨#[]⟩,.int .i64 0,.bool false],?_,rfl,kg⟩;simp[results,Tryz.results209,go_sem,k0,k1,k2]
theorem jK0 (b:List UInt8) (k:Nat) (ba:Option Addr) (bc:Nat) (w:World) (hk:k<=b.length) (hb:b.length<=1099511627776) (ep:b.length<=bc) (jo:ba=none->bc=0) (ac:aF w ba 1 (b.map aQ)) :
  Calls Tryz.prog 146 #[.slice ba b.length bc,.int .i64 k] w λe w'=>e=.returned (oU0 k (rdT (b.drop k)))/\aB w w':=by
 have CR:=Ad (oC0 b k ba bc w hk hb ep jo ac)
 cases hR:rdT (b.drop k) with
 | none =>
  rw[hR]at CR;unfold oU0 at CR ⊢;clear hR ac;go_enter Tryz.func146,Tryz.ntmps146
  go_wp2_with fail
  refine CR.out.mono ?_;rintro e w1 ⟨rfl,hg⟩;go_wp2_with fail
  go_ret3;exact⟨rfl,hg⟩
 | some x =>
  obtain⟨v,n⟩:=x;rw[hR]at CR;unfold oU0 at CR ⊢;obtain⟨K,hK⟩:=exq (k+n);simp only[<-hK]at CR ⊢;clear hR ac hK;go_enter Tryz.func146,Tryz.ntmps146
  go_wp2_with fail
  refine CR.out.mono ?_;rintro e w1 ⟨rfl,hg⟩;go_wp2_with fail
  go_ret3;exact⟨rfl,hg⟩
structure tG0 where
 p:List eP
 d:Int
 s:List yS0
 e:List En
structure kY0 where
 pa:Option Addr
 pc:Nat
 sa:Option Addr
 sc:Nat
 ea:Option Addr
 ec:Nat
def kY0.cells (a:kY0) (x:tG0):Array Value := #[.slice a.pa x.p.length a.pc,.int .i64 x.d,.slice a.sa x.s.length a.sc,.slice a.ea x.e.length a.ec]
def kY0.agg (a:kY0) (x:tG0):Value := .agg (a.cells x)
structure bV0 (w:World) (a:kY0) (x:tG0):Prop where
 p:aF w a.pa 2 (x.p.map cG)
 s:aF w a.sa 3 (x.s.map zT0)
 e:aF w a.ea 5 (x.e.map aZ)
theorem bV0.grows {w w':World} {a:kY0} {x:tG0} (h:bV0 w a x) (hg:aB w w'):bV0 w' a x:=⟨h.p.grows hg,h.s.grows hg,h.e.grows hg⟩
structure wT0 (x:tG0):Prop where
 p:∀y∈x.p,y.name.size<=maxLen
 s:∀y∈x.s,WfI y.c
 e:∀y∈x.e,uL y
 d:WfI x.d
 lp:x.p.length<=140737488355328
 ls:x.s.length<=140737488355328
 le:x.e.length<=140737488355328
def pN0 (x:tG0):Option Mx:=if uD0 x.p.length x.d then some (runSets (newM x.p.length x.d) x.s) else none
theorem iG0 (x:tG0) (A:kY0) (w:World) (au:wT0 x) (ac:bV0 w A x) :
  Calls Tryz.prog 16 #[A.agg x] w λe w'=>∃v,e=.returned v/\sF0 w' v (pN0 x)/\aB w w':=by
 have HOS:=Ad au.s;have hlp:=au.lp;have hls:=au.ls;clear au;obtain⟨pa,pc,sa,sc,ea,ec⟩:=A;obtain⟨xp,xd,xs,xe⟩:=x;try replace hlp:xp.length<=140737488355328:=hlp
 try replace hls:xs.length<=140737488355328:=hls
 try replace np:xe.length<=140737488355328:=np
 obtain⟨W0,fe⟩:=exq (w.alloc (.cells #[.slice pa xp.length pc,.int .i64 xd,.slice sa xs.length sc,.slice ea xe.length ec] 26));have iv:aB w W0:=by rw[fe];exact aB.alloc _ _
 have dd:=λj u h=>aU w #[.slice pa xp.length pc,.int .i64 xd,.slice sa xs.length sc,.slice ea xe.length ec] 26 (0,0) j u h;rw[<-fe]at dd;have q0:=dd 0 _ rfl;have q1:=dd 1 _ rfl;have q2:=dd 2 _ rfl;have q3:=dd 3 _ rfl;have HQ:=Ad (And.intro q0 (And.intro q1 (And.intro q2 q3)));have HP:Hid (aF W0 pa 2 (xp.map cG)):=ac.p.grows iv;have HS:Hid (aF W0 sa 3 (xs.map zT0)):=ac.s.grows iv;have HE:Hid (aF W0 ea 5 (xe.map aZ)):=ac.e.grows iv;have HG0:=Ad iv;clear dd ac iv;show Calls _ _ #[.agg #[.slice pa xp.length pc,.int .i64 xd,.slice sa xs.length sc,.slice ea xe.length ec]] _ _
 have HSM:Hid (pN0 ⟨xp,xd,xs,xe⟩=if uD0 xp.length xd then some (runSets (newM xp.length xd) xs) else none):=rfl
 obtain⟨SM,hSM⟩:=exq (pN0 ⟨xp,xd,xs,xe⟩);rw[<-hSM]at HSM ⊢;clear hSM q2 q3;replace HOS:Hid (∀y∈xs,WfI y.c):=HOS;go_enter Tryz.func16,Tryz.ntmps16
 cases nu:uD0 xp.length xd with
 | false =>
  rw[nu]at HSM;go_wp2_with fail
  rw[<-fe];clear fe;refine(wI0 xp.length xd _ nu).mono ?_;rintro e w1 ⟨rfl,rfl⟩;go_wp2_with fail
  go_ret;exact⟨_,rfl,by rw[HSM.out];rfl,HG0.out⟩
 | true =>
  rw[nu]at HSM;replace HSM:Hid (SM=some (runSets (newM xp.length xd) xs)):=HSM;go_wp2_with fail
  rw[<-fe];clear fe;refine(wV0 xp.length xd _ nu).mono ?_;rintro e w1 ⟨rfl,lg,av⟩;clear q0 q1;go_wp2_with fail
  go_loopw [5] (λi wr=>∃(k:Nat),k<=xs.length/\i=.int .i64 k/\jR wr (W0.heap.size+1) W0.heap.size (runSets (newM xp.length xd) (xs.take k))/\aB W0 wr) (λi _=>xs.length-(intOf i).toNat)
  case atStart=>exact⟨0,Nat.zero_le _,rfl,lg,av⟩
  case round =>
  obtain⟨k,hk,rfl,hm,hg⟩:=hrel;clear lg av;by_cases ae:k<xs.length
  ·obtain⟨⟨sr,sl,sq⟩,hs⟩:∃s,xs[k]?=some s:=⟨_,Aj ae⟩
   have hsq:WfI sq:=HOS.out _ (List.mem_of_getElem? hs);have HT:=Ad (zV (m:=newM xp.length xd) hs);obtain⟨lb,lo,rfl,cj⟩:=HS.out.get (aH ae);have cp:(k:Int)<xs.length:=by omega
   have b2:=hg.cell HQ.out.2.2.1;have z2:∀x:Ext aB wr.drew,x.u.cell? ⟨w.heap.size,2,none⟩=some (.slice (some ⟨lb,lo,none⟩) xs.length sc):=aG (hg.dr.cell HQ.out.2.2.1);have y0:∀x:Ext aB wr.drew,x.u.cell? ⟨lb,lo+k*3,none⟩=some (.int .i64 sr):=aG (hg.dr.cell (cj k _ hs 0 _ rfl));have y1:∀x:Ext aB wr.drew,x.u.cell? ⟨lb,lo+k*3+1,none⟩=some (.int .i64 sl):=aG (hg.dr.cell (cj k _ hs 1 _ rfl));have y2:∀x:Ext aB wr.drew,x.u.cell? ⟨lb,lo+k*3+2,none⟩=some (.int .i64 sq):=aG (hg.dr.cell (cj k _ hs 2 _ rfl));clear cj hs;generalize runSets (newM xp.length xd) (xs.take k)=M1 at *;go_wp2_with fail
   refine qB 19 (bB 19 []) (by kernel_rfl) (λd _ _ _ _ h=>by cases d<;>exact h) ?_
   iterate 19 (refine aK rfl (λK hK=>?_);go_simp;refine hK _ ?_;clear hK K)
   refine bT ?_;simp only[An,As];clear z2 y0 y1 y2 b2;have hSV:=xC0 wr.drew _ _ _ (hm.grows (aB.drew wr)) sr sl sq hsq;go_wp2_with fail
   refine hSV.mono ?_;rintro e w4 ⟨rfl,hm4,d8⟩;have gu:aB W0 w4:=hg.dr.grown d8 (λq hq=>by cases hq;exact Ax _);go_wp2_with fail
   go_roundw
   case rel=>exact⟨k+1,ae,by go_num,by rw[HT.out];exact hm4,gu⟩
   case measure=>simp[intOf];omega
  ·obtain rfl:k=xs.length:=by omega
   rw[List.take_length]at hm;have b2:=hg.cell HQ.out.2.2.1;go_wp2_with fail
   go_ret;refine⟨_,rfl,?_,aB.trans _ _ _ HG0.out hg⟩;rw[HSM.out];exact⟨_,_,rfl,hm⟩
end
section
open Go Go.RowKit
attribute [local go_sem] aM
end
section
open Go
def lI:List ByteArray:=[mkB [99,111,110,116,101,110,116],mkB [102,117,110,99,116,105,111,110],mkB [112,114,101,102,105,120]]
def qK0 (s:ByteArray):Int:=Lib.idxOfS lI s
def uG0 (s:ByteArray):eP:=⟨mkB (Lib.cut s.data.toList [9]).1,qK0 (mkB (Lib.cut s.data.toList [9]).2.1)⟩
def qJ (out:List eP) (q:eP):Int :=
 if q.kind<0\/oB q.name=false\/(out=[]/\eS0 q=false) then 5 else if (iN out q.name).isSome=true then 4 else if out.length=64 then 2 else 0
def fS:List ByteArray->Nat->List (Nat×ByteArray)
 | [],_=>[]
 | s::r,i=>if kJ s then fS r (i+1) else (i+1,s)::fS r (i+1)
def bX0:List (Nat×ByteArray)->List eP->List eP×Int×Int
 | [],out=>if out=[] then ([],0,5) else (out,0,0)
 | x::r,out=>if qJ out (uG0 x.2)≠0 then ([],x.1,qJ out (uG0 x.2)) else bX0 r (out++[uG0 x.2])
def pposS (text:ByteArray):List eP×Int×Int:=if 1048576<text.size then ([],0,2) else bX0 (fS (splitS 10 text) 0) []
def okP:List (Nat×ByteArray)->List eP->Option (List eP)
 | [],out=>some out
 | x::r,out=>if qJ out (uG0 x.2)≠0 then none else okP r (out++[uG0 x.2])
theorem tB:∀ {pre:List (Nat×ByteArray)} {o out:List eP} (rest:List (Nat×ByteArray)),okP pre o=some out->bX0 (pre++rest) o=bX0 rest out
 | [],o,out,rest,h=>by obtain rfl:=Option.some.inj h;rfl
 | x::r,o,out,rest,h=>by
  rw[okP]at h;split at h
  ·cases h
  ·rename_i hn
   rw[Ap,bX0,if_neg hn];exact tB rest h
theorem sY0:∀ {pre:List (Nat×ByteArray)} {o out:List eP} {x:Nat×ByteArray},okP pre o=some out->qJ out (uG0 x.2)=0->okP (pre++[x]) o=some (out++[uG0 x.2])
 | [],o,out,x,h,he=>by
  obtain rfl:=Option.some.inj h;rw[List.nil_append,okP,if_neg (by rw[he];decide)];rfl
 | y::r,o,out,x,h,he=>by
  rw[okP]at h;split at h
  ·cases h
  ·rename_i hn
   rw[Ap,okP,if_neg hn];exact sY0 h he
theorem pposL_stop {all pre:List (Nat×ByteArray)} {x:Nat×ByteArray} {out:List eP} {e:Int} (hp:pre++[x] <+: all) (h:okP pre []=some out) (he:qJ out (uG0 x.2)=e) (h0:e≠0):bX0 all []=([],(x.1:Int),e):=by
 obtain⟨r,rfl⟩:=hp;rw[List.append_assoc,tB _ h,List.singleton_append,bX0,if_pos (by rw[he];exact h0),he]
theorem pposL_done {all:List (Nat×ByteArray)} {out:List eP} (h:okP all []=some out):bX0 all []=if out=[] then ([],0,5) else (out,0,0):=by
 have:=tB [] h
 rwa [List.append_nil]at this
theorem uP0:∀ {pre:List (Nat×ByteArray)} {o out:List eP},o.length<=64->okP pre o=some out->out.length<=64
 | [],o,out,ho,h=>by obtain rfl:=Option.some.inj h;exact ho
 | y::r,o,out,ho,h=>by
  rw[okP]at h;split at h
  ·cases h
  ·rename_i hn
   refine uP0 ?_ h
   have rr:¬o.length=64:=λe=>hn (by
    unfold qJ;split
    ·decide
    ·split
     ·decide
     ·first|decide|(rw[if_pos e];decide))
   rw[Ao,List.length_singleton];omega
end
section
open Go Go.RowKit Go.Shelf
structure uA0 (w:World):Prop extends Env w where
 pow : Lib.TabIs Tryz.prog w "internal/strconv.uint64pow10" .u64 Av
 kin:∀(i:Nat) (s:ByteArray),lI[i]?=some s->w.cell? ⟨0,i,none⟩=some (.string s)
theorem zC0 : Tryz.prog.globalNamed "internal/strconv.uint64pow10" = some 5 := by kernel_rfl
theorem uA0.env {w:World} (h:uA0 w):Env w:=h.toEnv
theorem uA0.grows {w w':World} (h:uA0 w) (hg:aB w w'):uA0 w' where
 toEnv:=h.toEnv.grows hg
 pow:=var?_below hg.below zC0 (Ac w _ (h.pow.cell zC0 0 (by decide))) h.pow
 kin:=λi s hs=>hg.cell (h.kin i s hs)
end
section
open Go Go.ChangeShapes Go.WideShapes Go.ChangeAt Go.RowKit Go.Shelf Go.Lib
def oX0 : List (String × DataW Unit) := [("henkan/crc.quarter", Rows.laid_henkan_crc_quarter), ("math/bits.deBruijn32tab", Rows.laid_math_bits_deBruijn32tab), ("math/bits.deBruijn64tab", Rows.laid_math_bits_deBruijn64tab), ("internal/strconv.uint64pow10", Rows.laid_internal_strconv_uint64pow10), ("unicode/utf8.acceptRanges", Rows.laid_unicode_utf8_acceptRanges), ("strconv.ErrRange", Rows.laid_strconv_ErrRange), ("strconv.ErrSyntax", Rows.laid_strconv_ErrSyntax), ("henkan/pos.kinds", Rows.laid_henkan_pos_kinds), ("unicode/utf8.first", Rows.laid_unicode_utf8_first)]
theorem lC0 {W:World} (h:laidMetH Tryz.prog oX0 W):laidMet Tryz.prog oX0 W:=h
theorem e3:(Rows.laid_internal_strconv_uint64pow10:DataW Unit)=Lib.tabData .u64 Av:=by kernel_rfl
theorem e5:(Rows.laid_henkan_pos_kinds:DataW Unit)=.agg (lI.map λs => .lit (.string s.data.toList)):=by kernel_rfl
theorem yD {P:Program} {w:World} {base:Nat} {sp:Nat->Bool} {held:Bool} {az:Nat} {t e:TypeId} {n:Nat} {cs:List Value} {zs:List ByteArray} {p:List MemPlace}
  (ht:P.underlying t=some (.array n e)) (he:P.underlying e=some .string) (hce:P.cellsOf e=1) (hct:P.cellsOf t=n)
  (h:DataW.trod (λ_=>()) P w base sp held az t cs=some (.agg (zs.map λs => .lit (.string s.data.toList)),p)):cs=zs.map Value.string:=by
 cases az with
 | zero=>simp[DataW.trod]at h
 | succ az =>
  simp only[DataW.trod,ht,hce,hct,Aq]at h;split at h
  ·rename_i hl
   obtain⟨xs,hm,hx⟩:=Option.map_eq_some_iff.1 h
   have hxs:xs.map (·.1)=zs.map λs=>(DataW.lit (.string s.data.toList):DataW Unit):=by
    have:=congrArg Prod.fst hx
    simpa using this
   have hxl:xs.length=n:=by simpa using mapM_length hm
   have hzl:zs.length=n:=by
    have:=congrArg Aw hxs
    simp at this;omega
   apply List.ext_getElem?
   intro i;by_cases hi:i<n
   ·obtain⟨b,hb,hf⟩:=mapM_at hm i i (by simp[hi])
    obtain⟨s,hc,rfl,_⟩:=DataW.trod_string he hf
    have h1:cs[i]?=some (.string s):=by
     have:=congrArg (·[0]?) hc
     simpa [List.getElem?_take,List.getElem?_drop] using this
    have h2:(xs.map (·.1))[i]?=some (DataW.lit (.string s.data.toList):DataW Unit):=by simp[hb]
    rw[hxs]at h2;simp only[Ai,Option.map_eq_some_iff,DataW.lit.injEq,Lit.string.injEq]at h2;obtain⟨z',hz',hzz⟩:=h2;simp[h1,hz',oJ hzz]
   ·rw[Am (by omega),Am (by simp;omega)]
  ·cases h
theorem env9_of {W:World} (h:laidMetH Tryz.prog oX0 W) (hS:W.ShapedOpen Tryz.prog):uA0 W:=by
 have hL:=lC0 h
 have r1 : VarReads Tryz.prog W "unicode/utf8.first" firstData := by
  rw[<-e1];exact laidMet.reads hL (.tail _ (.tail _ (.tail _ (.tail _ (.tail _ (.tail _ (.tail _ (.tail _ (.head _)))))))))
 have r2 : VarReads Tryz.prog W "unicode/utf8.acceptRanges" acceptData := by
  rw[<-e2];exact laidMet.reads hL (.tail _ (.tail _ (.tail _ (.tail _ (.head _)))))
 have r3 : VarReads Tryz.prog W "internal/strconv.uint64pow10" (tabData .u64 pow10Tab) := by
  rw[<-e3];exact laidMet.reads hL (.tail _ (.tail _ (.tail _ (.head _))))
 have r4 : VarReads Tryz.prog W "henkan/crc.quarter" (tabData .u32 (gR.map fun n : Nat => (n : Int))) := by
  rw[<-e4];exact laidMet.reads hL (.head _)
 have r5 : VarReads Tryz.prog W "henkan/pos.kinds" (.agg (lI.map fun s => .lit (.string s.data.toList))) := by
  rw[<-e5];exact laidMet.reads hL (.tail _ (.tail _ (.tail _ (.tail _ (.tail _ (.tail _ (.tail _ (.head _))))))))
 refine⟨⟨utf8Tabs_of_readsT (U8Types.of196 Tryz.laysValid) ⟨by kernel_rfl,by kernel_rfl,by kernel_rfl,by kernel_rfl,by kernel_rfl,by kernel_rfl,by kernel_rfl⟩ r1 r2,cell_of_shapedOpen_int (P:=Tryz.prog) (g:=4) (t:=3) (zero:=#[.int .i64 0]) hS (of_decide_eq_true (by kernel_rfl)) (by kernel_rfl) rfl (by kernel_rfl) (by kernel_rfl) Tryz.underlying3,?_⟩,?_,?_⟩
 ·obtain⟨g,t,cs,az,p,hg,hty,o7,hd⟩:=r4
  have ht:(Tryz.prog.globals[3]?).map (·.type)=some 337:=by kernel_rfl
  obtain rfl:=Option.some.inj (zS0.symm.trans hg);obtain rfl:=Option.some.inj (ht.symm.trans hty);have ct:=cells_of_tab Tryz.underlying337 Tryz.underlying237 (by kernel_rfl) (by kernel_rfl) hd
  have T : TabIs Tryz.prog W "henkan/crc.quarter" .u32 (gR.map fun n : Nat => (n : Int)) := by
   unfold TabIs;rw[o7,<-ct]
  intro i q hq;have hi:=(List.getElem?_eq_some_iff.1 hq).1;have hc:=T.cell zS0 i (by rw[List.length_map];exact hi);rw[hc,List.getD_eq_getElem?_getD,Ai,hq];rfl
 ·obtain⟨g,t,cs,az,p,hg,hty,o7,hd⟩:=r3
  have ht:(Tryz.prog.globals[5]?).map (·.type)=some 367:=by kernel_rfl
  obtain rfl:=Option.some.inj (zC0.symm.trans hg);obtain rfl:=Option.some.inj (ht.symm.trans hty);have ct:=cells_of_tab Tryz.underlying367 Tryz.underlying213 (by kernel_rfl) (by kernel_rfl) hd;unfold TabIs;rw[o7,<-ct]
 ·obtain⟨g,t,cs,az,p,hg,hty,o7,hd⟩:=r5
  have hgk : Tryz.prog.globalNamed "henkan/pos.kinds" = some 0 := by kernel_rfl
  have ht:(Tryz.prog.globals[0]?).map (·.type)=some 149:=by kernel_rfl
  obtain rfl:=Option.some.inj (hgk.symm.trans hg);obtain rfl:=Option.some.inj (ht.symm.trans hty);have hcs:=yD Tryz.underlying149 Tryz.underlying9 (by kernel_rfl) (by kernel_rfl) hd;intro i s hs;have hv2 : W.var? Tryz.prog "henkan/pos.kinds" = some (lI.map Value.string).toArray := by rw [o7, ← hcs]
  rw[World.var?_cell hgk hv2 i,List.getElem?_toArray,Ai,hs];rfl
noncomputable def low:Nat:=(World.settled Tryz.prog default).heap.size
noncomputable def iQ0 (os:Os):World :=
 let w0:=World.holding Tryz.prog os ⟨#[.cells #[.string ⟨#[118,97,108,117,101,32,111,117,116,32,111,102,32,114,97,110,103,101]⟩] 390,.cells #[.string ⟨#[105,110,118,97,108,105,100,32,115,121,110,116,97,120]⟩] 390],#[],[]⟩
 let put (h:Array Obj) (g:Nat) (cs:Array Value):Array Obj:=h.modify g λ
  | .cells _ t frozen => .cells cs t frozen
  | o=>o
 let ints (d:DataW Unit):Array Value:=match d with
  | .agg l=>(l.map λx=>match x with
   | .lit (.int k z)=>Value.int k z
   | _ => .nilIface).toArray
  | _ => #[]
 let h1:=put w0.heap 1 (Lib.firstTab.map λz=>Value.int .u8 z).toArray
 let h2:=put h1 2 ((List.range 16).flatMap λi=>[Value.int .u8 (Lib.accLo i),Value.int .u8 (Lib.accHi i)]).toArray
 let h3:=put h2 5 (Lib.pow10Tab.map λz=>Value.int .u64 z).toArray
 let h4:=put h3 8 (ints Rows.laid_math_bits_deBruijn32tab)
 let h5:=put h4 9 (ints Rows.laid_math_bits_deBruijn64tab)
 let h6:=put h5 7 #[.iface 388 (.pointer (some ⟨low,0,none⟩))]
 let h7:=put h6 6 #[.iface 388 (.pointer (some ⟨low+1,0,none⟩))]
 let h8:=put h7 3 (gR.map λn:Nat=>Value.int .u32 (n:Int)).toArray
 let h9:=put h8 0 (lI.map Value.string).toArray
 { w0 with heap:=h9 }
theorem laid9_met (os:Os) (args:Array Value):laidMet Tryz.prog oX0 ((iQ0 os).forCall (λ_ _=>0) ⟨#[],args,[]⟩).memory :=
 (LaidIn.of_run (l:=oX0) [1,2,5,8,9,7,6,3,0,low,low+1] 10 (by kernel_rfl) (by kernel_rfl) (by kernel_rfl) (by kernel_rfl)).met
end
end Go.Proofs.YthgklnohcmaopaaGreatDoor
