/- The texts SecC PkDP PosD, one behind the other. -/
import Derived.Test.YtheiocndipepaaaGreatDoorKq35
import Derived.Test.YtheiocndipepaaaGreatDoorKq24
import Derived.Test.YtheiocndipepaaaGreatDoorKq23
import Derived.Test.YtheiocndipepaaaGreatDoorKq22
import Derived.Test.YtheiocndipepaaaGreatDoorKq5
import Derived.Test.YtheiocndipepaaaGreatDoorKq26
open List renaming length_append → Aa,getElem?_eq_none → Ab,mem_of_getElem? → Ac,append_assoc → Aj,take_append_drop → Al,flatMap_append → Am,ext_getElem? → Ao,drop_left → Ar,range → At
open Go.Lib renaming hid → Ad
open Go.IntKind renaming signed → Ae,wrap → Af,bits → Ag
open Bool renaming false_and → Ah,true_and → An
open UInt8 renaming ofNat → Ai
open Int renaming natCast_mul → Ak
open Nat renaming or_lt_two_pow → Ap,le_refl → Aq,zero_le → As
set_option maxHeartbeats 4000000
namespace Go.Proofs.YtheiocndipepaaaGreatDoor
set_option maxRecDepth 100000
section
open Go Go.RowKit Go.Shelf
attribute [local go_sem] aM aK
theorem mH1:∀args w,(callFunc 158 args).run Tryz.prog w=.ok (.enter 158 args) w:=enters_of Tryz.func158 (by kernel_rfl) rfl
theorem sT0 (b:List UInt8) (ba:Option Addr) (bc k v n pb pa po ep:Nat) (w:World) (hk:k<=b.length) (hb:b.length<=1099511627776) (ac:aF w ba 1 (b.map aX)) (hR:rdU (b.drop k)=some (v,n)) (hv:v<=ep) (hm:ep<=1099511627776)
  (cb:w.cell? ⟨pb,0,none⟩=some (.slice ba b.length bc)) (ca:w.cell? ⟨pa,0,none⟩=some (.int .i64 k)) (co:w.cell? ⟨po,0,none⟩=some (.bool true)) (fa:w.frozen? ⟨pa,0,none⟩=false) :
  Calls Tryz.prog 158 #[.int .i64 ep,.pointer (some ⟨pb,0,none⟩),.pointer (some ⟨pa,0,none⟩),.pointer (some ⟨po,0,none⟩)] w λe w'=>e=.returned (.int .i64 v)/\∃w1,Grows w w1/\w'=w1.setCell ⟨pa,0,none⟩ (.int .i64 ((k+n:Nat):Int)):=by
 have CU:=Ad (zH b k ba bc w hk hb ac);rw[hR]at CU;unfold jG0 at CU;have ku:=World.block_lt_of_cell? w _ ca;obtain⟨K,hK⟩:=exq (k+n);simp only[<-hK]at CU ⊢;clear hR ac hK;have wm:IntKind.u64.wrap (ep:Int)=ep:=by simp[Af,Ag,Ae];omega
 have wv:IntKind.i64.wrap (v:Int)=v:=by simp[Af,Ag,Ae];omega
 have hvm:¬(ep:Int)<v:=by omega
 go_enter Tryz.func158,Tryz.ntmps158
 go_wp2_with fail
 refine CU.out.mono ?_;rintro e w1 ⟨rfl,ag⟩;have ca1:=ag.cell ca;have co1:=ag.cell co;have fa1:=(ag.froz (p:=⟨pa,0,none⟩) ku).trans fa;go_wp2_with fail
 go_ret;exact⟨rfl,w1,ag,rfl⟩
theorem fG0 (l:List UInt8) (a:Option Addr) (c:Nat) (w:World) (hl:l.length<=1099511627776) (hn:a=none->c=0) (ac:aF w a 1 (l.map aX)) :
  Calls Tryz.prog 159 #[.slice a l.length c] w λe w'=>∃v,e=.returned v/\aV w' w.heap.size 5 1 aX v l/\Grows w w':=by
 cases a with
 | none =>
  have hl0:l=[]:=Decidable.byContradiction λh=>by
   obtain⟨_,_,e,_⟩:=ac (by simpa using h);cases e
  subst hl0;obtain rfl:=hn rfl;have ac9:∀W:World,(binOp .eql 36 (.slice none 0 0) (.slice none 0 0)).run Tryz.prog W=.ok (.bool true) W:=λW=>by rfl
  go_enter Tryz.func159,Tryz.ntmps159
  go_wp2_with fail
  go_ret;exact⟨_,rfl,aV.nil _ _ _ _ _,Grows.refl _⟩
 | some q =>
  have HSRC:=Ad (ac.grows (Grows.alloc w (.cells #[] 5)));clear ac hn;have ac9:∀W:World,(binOp .eql 36 (.slice (some q) l.length c) (.slice none 0 0)).run Tryz.prog W=.ok (.bool false) W:=λW=>by rfl
  go_enter Tryz.func159,Tryz.ntmps159
  go_wp2_with (at_builtin;refine kV bI rfl _ _ rfl w.heap.size _ [] l rfl (sN0 w.heap.size (Aq _)) (Grows.refl _) (some q) c rfl HSRC.out (λh=>by cases h) (by simp;omega) (by simp) ?_;intro v' w3 ax aw)
  rw[List.nil_append]at ax;have ji:=aw w (Grows.alloc _ _) (Aq _);go_wp2_with fail
  go_ret;exact⟨_,rfl,ax,ji⟩
theorem lA (l m:List UInt8) (a b:Option Addr) (c d:Nat) (w:World) (h1:aF w a 1 (l.map aX)) (h2:aF w b 1 (m.map aX)) :
  Calls Tryz.prog 110 #[.slice a l.length c,.slice b m.length d] w λe w'=>e=.returned (.bool (decide (l=m)))/\w=w':=by
 have v1:(convert 36 9 (.slice a l.length c)).run Tryz.prog w=.ok (.string (mkB l)) w:=mH h1;have v2:(convert 36 9 (.slice b m.length d)).run Tryz.prog w=.ok (.string (mkB m)) w:=mH h2;by_cases h:l=m
 ·have e1:((mkB l).toList==(mkB m).toList)=true:=by rw[h];simp
  have HH:=Ad h;clear h;go_enter Tryz.func110,Tryz.ntmps110
  go_wp2_with fail
  go_ret;exact⟨by simp[HH.out],rfl⟩
 ·have e1:((mkB l).toList==(mkB m).toList)=false:=by
   rw[beq_eq_false_iff_ne];intro he;exact h (by have:=congrArg (·.data.toList) (dV he);simpa [gZ] using this)
  have HH:=Ad h;clear h;go_enter Tryz.func110,Tryz.ntmps110
  go_wp2_with fail
  go_ret;exact⟨by simp[HH.out],rfl⟩
end
section
open Go Go.RowKit
attribute [local go_sem] aM aK
def pO (l:List Nat) (W k q:Nat):List Nat:=(At q).map λQ=>fX (λp=>decide (p<8*k)&&bitAt l W p) (64*Q) 64
theorem nF (l:List Nat) (W k q:Nat):(pO l W k q).length=q:=by simp[pO]
theorem rO {l:List Nat} {W k q Q:Nat} (h:Q<q):(pO l W k q)[Q]?=some (fX (λp=>decide (p<8*k)&&bitAt l W p) (64*Q) 64):=by
 unfold pO;rw[List.getElem?_map,List.getElem?_range h];rfl
theorem wN0 (f:Nat->Bool) (b k:Nat) (h:∀t,t<k->f (b+t)=false):fX f b k=0:=by
 symm
 exact iT (Nat.two_pow_pos _) λt ht=>by rw[h t ht];simp
theorem oD0 (l:List Nat) (W q:Nat):pO l W 0 q=List.replicate q 0:=by
 apply Ao
 intro i;by_cases h:i<q
 ·rw[rO h,List.getElem?_replicate_of_lt h,wN0 _ _ _ (λt _=>by simp)]
 ·rw[Ab (by rw[nF];omega),Ab (by simp;omega)]
theorem tW0 {l:List Nat} {W p:Nat} (hl:∀x∈l,x<2^W) (h:l.length*W<=p):bitAt l W p=false:=by
 by_cases hW:W=0
 ·subst hW
  unfold bitAt
  have:l.getD (p/0) 0=0:=by
   rw[List.getD_eq_getElem?_getD]
   cases hx:l[p/0]? with
   | none=>rfl
   | some x=>have:=hl x (Ac hx);simp at this;simp[this]
  rw[this];simp
 ·exact bM0 (by omega) h
theorem uI0 {l:List Nat} {W k q:Nat} (hl:∀x∈l,x<2^W) (h:l.length*W<=8*k):pO l W k q=eY l W q:=by
 unfold pO eY iG;apply List.map_congr_left
 intro Q _;apply lI
 intro t _;by_cases hp:64*Q+t<8*k
 ·simp[hp]
 ·rw[tW0 hl (by omega)];simp
theorem uZ0 {l:List Nat} {W k t:Nat} (ht:t<64) :
  (fX (λp=>decide (p<8*k)&&bitAt l W p) (64*(k/8)) 64|||(fX (bitAt l W) (8*k) 8<<<(k%8*8))%18446744073709551616).testBit t=(decide (64*(k/8)+t<8*(k+1))&&bitAt l W (64*(k/8)+t)):=by
 rw[Nat.testBit_or,dU,jE0 ht,dU];generalize hB:bitAt l W=B;by_cases h1:t<k%8*8
 ·have e1:64*(k/8)+t<8*k:=by omega
  have e2:¬k%8*8<=t:=by omega
  have e3:64*(k/8)+t<8*(k+1):=by omega
  rw[decide_eq_true ht,decide_eq_true e1,decide_eq_false e2,decide_eq_true e3,Ah,Bool.or_false,An,An]
 ·have e1:¬64*(k/8)+t<8*k:=by omega
  have e2:k%8*8<=t:=by omega
  rw[decide_eq_true ht,decide_eq_false e1,decide_eq_true e2,Ah,Bool.and_false,Bool.false_or,An];by_cases h2:t<k%8*8+8
  ·have e3:t-k%8*8<8:=by omega
   have e4:64*(k/8)+t<8*(k+1):=by omega
   have e5:8*k+(t-k%8*8)=64*(k/8)+t:=by omega
   rw[decide_eq_true e3,decide_eq_true e4,e5]
  ·have e3:¬t-k%8*8<8:=by omega
   have e4:¬64*(k/8)+t<8*(k+1):=by omega
   rw[decide_eq_false e3,decide_eq_false e4,Ah,Ah]
theorem pR0 {l:List Nat} {W k q:Nat} (hq:k/8<q) :
  pO l W (k+1) q=(pO l W k q).set (k/8) (fX (λp=>decide (p<8*k)&&bitAt l W p) (64*(k/8)) 64|||(fX (bitAt l W) (8*k) 8<<<(k%8*8))%18446744073709551616):=by
 apply Ao
 intro i;by_cases hi:i<q
 ·rw[rO hi]
  by_cases he:k/8=i
  ·rw[<-he,List.getElem?_set_self (by rw[nF];exact hq)]
   refine congrArg some ?_;symm
   exact iT (Ap (n:=64) (kO _ _ 64) (Nat.mod_lt _ (by decide))) λt ht=>uZ0 ht
  ·rw[List.getElem?_set_ne he,rO hi]
   refine congrArg some ?_;apply lI
   intro t ht;generalize bitAt l W=B;by_cases h1:64*i+t<8*k
   ·have h2:64*i+t<8*(k+1):=by omega
    rw[decide_eq_true h1,decide_eq_true h2]
   ·have h2:¬64*i+t<8*(k+1):=by omega
    rw[decide_eq_false h1,decide_eq_false h2]
 ·rw[Ab (by rw[nF];omega),Ab (by rw[List.length_set,nF];omega)]
theorem xA (a b:Nat) (ha:a<4611686018427387904) (hb:b<4611686018427387904):bits .or .i64 (a:Int) (b:Int)=((a|||b:Nat):Int):=by
 have hx:a|||b<2^62:=Ap (by omega) (by omega)
 show IntKind.i64.wrap ((BitVec.ofInt 64 (a:Int)|||BitVec.ofInt 64 (b:Int)).toNat:Int)=_
 rw[BitVec.toNat_or,ofInt_u64 a (by omega),ofInt_u64 b (by omega)];generalize a|||b=x at hx
 simp[Af,Ag,Ae];omega
theorem qQ0 {a c k:Nat} (h:a<2^k):a|||(c*2^k)=a+c*2^k:=by
 rw[Nat.or_comm,Nat.mul_comm,<-Nat.two_pow_add_eq_or_of_lt h,Nat.add_comm]
theorem mU1 {b0 b1 b2 b3:Nat} (h0:b0<256) (h1:b1<256) (h2:b2<256) (h3:b3<256) :
  bits .or .i64 (b0:Int) ((b1*256:Nat):Int)=((b0+b1*256:Nat):Int)/\bits .or .i64 ((b0+b1*256:Nat):Int) ((b2*65536:Nat):Int)=((b0+b1*256+b2*65536:Nat):Int) /\
  bits .or .i64 ((b0+b1*256+b2*65536:Nat):Int) ((b3*16777216:Nat):Int)=((b0+b1*256+b2*65536+b3*16777216:Nat):Int):=by
 refine⟨?_,?_,?_⟩
 ·rw[xA _ _ (by omega) (by omega),show b1*256=b1*2^8 from rfl,qQ0 (by omega)]
 ·rw[xA _ _ (by omega) (by omega),show b2*65536=b2*2^16 from rfl,qQ0 (by omega)]
 ·rw[xA _ _ (by omega) (by omega),show b3*16777216=b3*2^24 from rfl,qQ0 (by omega)]
theorem cT {x:Nat} (h:x<4611686018427387904):IntKind.i64.wrap (x:Int)=x:=by simp[Af,Ag,Ae]; omega
theorem cO1 {b0 b1 b2 b3 n:Nat} (h0:b0<256) (h1:b1<256) (h2:b2<256) (h3:b3<256) (hn:n=b0+b1*256+b2*65536+b3*16777216) :
  ∃c1 c2 c3 s1 s2:Nat,IntKind.i64.wrap ((b1:Int)*256)=(c1:Int)/\IntKind.i64.wrap ((b2:Int)*65536)=(c2:Int)/\IntKind.i64.wrap ((b3:Int)*16777216)=(c3:Int) /\
   bits .or .i64 (b0:Int) (c1:Int)=(s1:Int)/\bits .or .i64 (s1:Int) (c2:Int)=(s2:Int)/\bits .or .i64 (s2:Int) (c3:Int)=(n:Int):=by
 obtain⟨o1,o2,o3⟩:=mU1 h0 h1 h2 h3;refine⟨b1*256,b2*65536,b3*16777216,b0+b1*256,b0+b1*256+b2*65536,?_,?_,?_,o1,o2,?_⟩
 ·have:=cT (x:=b1*256) (by omega)
  rwa [Ak]at this
 ·have:=cT (x:=b2*65536) (by omega)
  rwa [Ak]at this
 ·have:=cT (x:=b3*16777216) (by omega)
  rwa [Ak]at this
 ·rw[o3,hn]
theorem vF0 (l:List Nat):∃b0 b1 b2 b3:Nat,packE l=[Ai b0,Ai b1,Ai b2,Ai b3,Ai (pF l)]++dM0 l/\b0<256/\b1<256/\b2<256/\b3<256/\(l.length<4294967296->l.length=b0+b1*256+b2*65536+b3*16777216):=by
 refine⟨l.length%256,l.length/256%256,l.length/65536%256,l.length/16777216%256,?_,by omega,by omega,by omega,by omega,λh=>by omega⟩;unfold packE leB;simp[At,List.range.loop,dC0]
end
section
open Go Go.RowKit Go.Shelf
attribute [local go_sem] aM aK
theorem kM1:∃i,Tryz.prog.info? 126=some i/\∃z,i.zero=some z/\i.size=2/\i.bytes=24/\z.cells.size=2:=by
 have h:(Tryz.prog.info? 126).map (λi=>(i.zero,i.size,i.bytes))=some (some (.agg #[.string ⟨#[]⟩,.int .i64 0]),2,24):=by kernel_rfl
 cases hi:Tryz.prog.info? 126 with
 | none=>rw[hi]at h;cases h
 | some i =>
  rw[hi]at h;simp only[Option.map_some,Option.some.injEq,Prod.mk.injEq]at h;exact⟨i,rfl,_,h.1,h.2.1,h.2.2,rfl⟩
theorem wO:eW Tryz.prog 22 126 2 24 bG where
 sl:=Tryz.underlying22
 info:=by obtain⟨i,h1,z,h2,h3,h4,h5⟩:=kM1;exact⟨i,z,h1,h2,h3,h4,h5⟩
 pos:=by decide
 by1:=by decide
 len:=λ_=>rfl
 one:=λx u hu=>by
  simp only[bG,List.mem_cons,List.not_mem_nil,or_false]at hu;rcases hu with rfl|rfl<;>rfl
def pposP (p:List cH) (i:Nat):Nat:=(putU p.length++(p.take i).flatMap fZ).length
theorem vY0 (p:List cH):pposP p 0=(putU p.length).length:=by simp[pposP]
theorem eK0 {p:List cH} {i:Nat} {x:cH} (h:p[i]?=some x):pposP p (i+1)=pposP p i+(tA x.name).length+(putU x.kind.toNat).length:=by
 unfold pposP;have h2:(fZ x).length=(tA x.name).length+(putU x.kind.toNat).length:=by rw[fZ,Aa]
 rw[bN h,mV0,<-Aj,Aa,h2];omega
theorem aY1 (p:List cH):pposP p p.length=(posE p).length:=by unfold pposP posE; rw[List.take_length]
theorem fR0 {p:List cH} {i:Nat} {x:cH} (h:p[i]?=some x):(posE p).drop (pposP p i)=tA x.name++(putU x.kind.toNat++(p.drop (i+1)).flatMap fZ):=by
 have hi:=(List.getElem?_eq_some_iff.1 h).1
 have e:posE p=(putU p.length++(p.take i).flatMap fZ)++(fZ x++(p.drop (i+1)).flatMap fZ):=by
  unfold posE;have h1:p.flatMap fZ=(p.take i).flatMap fZ++(p.drop i).flatMap fZ:=by rw[<-Am,Al]
  rw[h1,List.drop_eq_getElem_cons hi,(List.getElem?_eq_some_iff.1 h).2,List.flatMap_cons,Aj]
 unfold pposP;rw[e,Ar,fZ,Aj]
theorem sG0 {p:List cH} {i:Nat}:pposP p i<=(posE p).length:=by
 unfold pposP posE;have h1:p.flatMap fZ=(p.take i).flatMap fZ++(p.drop i).flatMap fZ:=by rw[<-Am,Al]
 rw[h1,Aa,Aa,Aa];omega
theorem xP0 (p:List cH) (ba:Option Addr) (bc:Nat) (w:World) (hv:dF p=true) (gp:(posE p).length<=1099511627776) (fg:(posE p).length<=bc) (jl:ba=none->bc=0) (ac:aF w ba 1 ((posE p).map aX)) :
  Calls Tryz.prog 64 #[.slice ba (posE p).length bc] w λe w'=>∃v,e=.returned (.tuple #[v,.int .i64 0])/\aV w' w.heap.size 126 2 bG v p/\Grows w w':=by
 obtain⟨adq,ci⟩:=dN hv
 have C0:Hid (Calls Tryz.prog 112 #[.slice ba (posE p).length bc,.int .i64 0] w λe w'=>e=.returned (.tuple #[.int .u64 (p.length:Nat),.int .i64 (pposP p 0:Nat),.bool true])/\Grows w w'):=by
  have h:=zH (posE p) 0 ba bc w (As _) gp ac;rw[List.drop_zero,show rdU (posE p)=some (p.length,(putU p.length).length) from vZ (by omega) _,jG0,Nat.zero_add,<-vY0]at h
  exact h
 have CT:∀(i:Nat) (x:cH) (u:World),p[i]?=some x->Grows w u->Hid (Calls Tryz.prog 113 #[.slice ba (posE p).length bc,.int .i64 (pposP p i:Nat)] u λe w'=>e=.returned (.tuple #[.string x.name,.int .i64 (pposP p i+(tA x.name).length:Nat),.bool true])/\Grows u w'):=λi x u hx hu=>by
  have h:=eD0 (posE p) (pposP p i) ba bc u sG0 gp fg jl (ac.grows hu);have hs:=(ci x (Ac hx)).1;rw[fR0 hx,aK1 (by omega),wS0]at h;exact h
 have CU:∀(i:Nat) (x:cH) (u:World),p[i]?=some x->Grows w u->Hid (Calls Tryz.prog 112 #[.slice ba (posE p).length bc,.int .i64 (pposP p i+(tA x.name).length:Nat)] u λe w'=>e=.returned (.tuple #[.int .u64 (x.kind.toNat:Nat),.int .i64 (pposP p (i+1):Nat),.bool true])/\Grows u w'):=λi x u hx hu=>by
  have hs:=(ci x (Ac hx)).2
  have ia:pposP p i+(tA x.name).length<=(posE p).length:=by
   have:=sG0 (p:=p) (i:=i+1)
   rw[eK0 hx]at this;omega
  have h:=zH (posE p) (pposP p i+(tA x.name).length) ba bc u ia gp (ac.grows hu);rw[<-List.drop_drop,fR0 hx,Ar,vZ (by omega),jG0,<-eK0 hx]at h;exact h
 have HALL:=Ad ci;have HEND:=Ad (aY1 p);have HV:=Ad hv;obtain⟨N,hN⟩:=exq ((posE p).length);rw[<-hN]at C0 CT CU HEND ⊢;obtain⟨n,hn⟩:=exq p.length;have HNL:=Ad hn;rw[<-hn]at C0 adq;have ww:¬(64:Int)<n:=by omega
 clear ac ci hv gp fg jl hN hn;go_enter Tryz.func64,Tryz.ntmps64
 go_wp2_with fail
 refine C0.out.mono ?_;rintro e w1 ⟨rfl,ag⟩;clear C0;go_wp2_with fail
 go_loopw [5,7,27] (λvA v i wr=>∃k:Nat,k<=n/\i=.int .u64 k/\vA=.int .i64 (pposP p k:Nat)/\Hid (aV wr w.heap.size 126 2 bG v (p.take k))/\Hid (Grows w wr)) (λ_ _ i _=>n-(intOf i).toNat)
 case atStart=>exact⟨0,As _,rfl,rfl,aV.nil _ _ _ _ _,ag⟩
 case round =>
  clear ag;obtain⟨k,hk,rfl,rfl,aa,hg⟩:=hrel;by_cases ae:k<n
  ·have cy:(k:Int)<n:=by omega
   obtain⟨⟨nm,kd⟩,hx⟩:∃x,p[k]?=some x:=⟨_,List.getElem?_eq_getElem (by have:=HNL.out;omega)⟩;have HX:=Ad hx;obtain⟨hs,j8,fj⟩:=HALL.out _ (Ac hx);simp only at hs j8 fj;obtain⟨K,rfl⟩:∃K:Nat,kd=(K:Int):=⟨kd.toNat,by omega⟩;have CT1:=CT k _ wr hx hg.out;simp only at CT1;clear hx;go_wp2_with fail
   refine CT1.out.mono ?_;rintro e w2 ⟨rfl,af⟩;have CU1:=CU k _ w2 HX.out (hg.out.tr af);simp only[Int.toNat_natCast]at CU1;clear CT1;go_wp2_with fail
   refine CU1.out.mono ?_;rintro e w3 ⟨rfl,aw⟩;clear CU1;have ml:¬(2:Int)<K:=by omega
   have wK:IntKind.i64.wrap (K:Int)=K:=by simp[Af,Ag,Ae];omega
   have j7:(p.take k).length=k:=by rw[List.length_take];have:=HNL.out;omega
   have ax:=(aa.out.grows af).grows aw;have mc:=(hg.out.tr af).tr aw;have HT:=Ad (bN HX.out);generalize p.take k=cd at ax HT j7;go_wp2_with (at_builtin;refine dE wO rfl _ _ rfl w.heap.size _ cd ⟨nm,(K:Int)⟩ rfl ax (Grows.refl _) _ 1 rfl #[.string nm,.int .i64 K] rfl rfl (by omega) mc.size ?_;intro v5 w5 ak _ _ bg)
   have HG5:=bg w mc (Aq _);rw[<-HT.out]at ak;go_wp2_with fail
   go_roundw
   case rel=>exact⟨k+1,ae,by go_num,rfl,ak,HG5⟩
   case measure=>simp[intOf];omega
  ·obtain rfl:k=n:=by omega
   have ho:=aa.out;rw[List.take_of_length_le (by have:=HNL.out;omega)]at ho;obtain⟨a,c,rfl,_,_,qp⟩:=ho.at_ wO.len;have CC:=Ad (cD0 p a c wr qp (by have:=HNL.out;omega));rw[HV.out]at CC;have HO:=Ad ho;have e1:pposP p k=N:=by rw[HNL.out];exact HEND.out
   rw[e1];clear ho qp aa e1;go_wp2_with fail
   refine CC.out.mono ?_;rintro e w6 ⟨rfl,cg⟩;go_wp2
   go_ret2;exact⟨_,rfl,HO.out.grows cg,hg.out.tr cg⟩
end
end Go.Proofs.YtheiocndipepaaaGreatDoor
