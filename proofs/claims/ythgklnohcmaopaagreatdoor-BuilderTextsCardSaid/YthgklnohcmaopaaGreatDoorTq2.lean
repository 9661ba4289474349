/- The texts Pos Cmp KeyP Mx EnD OrderP LoudP LoudQ LoudR StabP GrpP SortP Less2 Variants SortR SortWP RuneL Bsrt KeyE MapE, one behind the other. -/
import Derived.Test.YthgklnohcmaopaaGreatDoorProg
import Derived.Test.YthgklnohcmaopaaGreatDoorTq1
import Derived.WalkKit
import Derived.WalkLawsBesides
import Derived.Lib.Hide
import Derived.DeepKeys4
import Derived.Maps.RangeWalk
import Derived.Maps.Views
import Derived.Laws.OwnMore
import Derived.Laws.Rows
import Derived.OwnWalk
open Go.Op renaming bytesLess → Aa
open Nat renaming lt_or_ge → Ab,le_refl → Ac,zero_le → Aj,succ_pos → Av,eq_zero_or_pos → Aw,le_trans → Be,div_add_mod → Bg,mul_comm → Bz
open Bool renaming and_eq_true → Ad,or_eq_true → Af,true_and → Ba,not_eq_true' → Bq
open List renaming flatMap_cons → Ae,getElem?_eq_getElem → Ag,range → Ah,flatMap_append → Ai,range' → Ak,filter_append → Al,take_add_one → An,filter_eq_nil_iff → Aq,range'_append_1 → Ar,mem_append_left → As,range_succ → At,append_nil → Au,getElem?_append_right → Ax,pairwise_iff_getElem → Ay,mem_range'_1 → Az,flatMap_map → Bc,pairwise_lt_range → Bd,range_succ_eq_map → Bf,map_append → Bh,mem_of_getElem? → Bi,map_congr_left → Bj,range'_concat → Bk,length_append → Bn,getElem_range → Bo,pairwise_map → Bp,length_take → Br,flatMap_nil → Bs,cons_append → Bt,mapM_cons → Bv,replicate → Bw,mem_cons → By,mem_map → Ca,getD → Cc
open Array renaming getElem?_setIfInBounds → Am
open Classical renaming byContradiction → Ao
open Go.Lib renaming hid → Ap
open Option renaming bind_eq_some_iff → Bb
open ByteArray renaming empty → Bu
open Go.World renaming cell? → Cb
set_option maxHeartbeats 1000000
namespace Go.Proofs.YthgklnohcmaopaaGreatDoor
set_option maxRecDepth 100000
section
open Go Go.RowKit
attribute [local go_sem] aK
theorem pO0 (p:bD) (name:ByteArray) (b:Nat) (w:World) (hc:w.cell? ⟨b,0,none⟩=some (.string name)) (hb:b<w.heap.size) :
  Calls Tryz.prog 199 #[.agg #[.string p.name,.int .i64 p.kind],.pointer (some ⟨b,0,none⟩)] w λe w'=>e=.returned (.bool (seq p.name name))/\aB w w':=by
 have ai:b≠w.heap.size:=by omega
 go_enter Tryz.func199,Tryz.ntmps199
 go_wp2
 go_ret;exact⟨rfl,aB.alloc _ _⟩
def idxI (o:Option Nat):Int:=match o with|some k=>k|none => -1
theorem bD0 (l:List bD) (name:ByteArray) (a:Option Addr) (cap b:Nat) (w:World) (hl:l.length<=4611686018427387904) (hs:aF w a 2 (l.map bH)) (hc:w.cell? ⟨b,0,none⟩=some (.string name)) :
  Calls Tryz.prog 198 #[.slice a l.length cap,.func (.func 199) #[] #[.pointer (some ⟨b,0,none⟩)]] w λe w'=>e=.returned (.int .i64 (idxI (posFind l name)))/\aB w w':=by
 have HS:=Ap hs;have HC:=Ap hc;clear hs hc;go_enter Tryz.func198,Tryz.ntmps198
 go_wp2
 go_loopw [8] (λi wr=>∃k:Nat,k<=l.length/\i=.int .i64 k/\Hid (∀j q,j<k->l[j]?=some q->seq q.name name=false)/\aB w wr) (λi _=>l.length-(intOf i).toNat)
 case atStart=>exact⟨0,Aj _,rfl,λj q hj=>by omega,aB.refl _⟩
 case round =>
  obtain⟨k,hk,rfl,hz,hg⟩:=hrel;by_cases ae:k<l.length
  ·obtain⟨p,hp⟩:∃p,l[k]?=some p:=⟨_,Ag ae⟩
   obtain⟨bl,off,rfl,be⟩:=(HS.out.grows hg).get (aH ae);have c0:wr.cell? ⟨bl,off+k*2,none⟩=some (.string p.name):=be k p hp 0 _ rfl;have c1:wr.cell? ⟨bl,off+k*2+1,none⟩=some (.int .i64 p.kind):=be k p hp 1 _ rfl;clear be;have HP:=Ap hp;clear hp;have d5:=pO0 p name b wr (hg.cell HC.out) (World.block_lt_of_cell? wr _ (hg.cell HC.out));have HCON:=Ap d5;clear d5;cases hq:seq p.name name
   ·rw[hq]at HCON
    have HQ:=Ap hq;clear hq;go_wp2_with (go_at_call 199;refine HCON.out.mono ?_;rintro e w' ⟨rfl,af⟩)
    go_roundw
    case rel=>exact⟨k+1,by omega,by go_num,λj q hj hq=>by
     rcases Nat.lt_succ_iff_lt_or_eq.1 hj with h|rfl
     ·exact hz.out j q h hq
     ·rw[HP.out]at hq;obtain rfl:=Option.some.inj hq;exact HQ.out,hg.tr af⟩
    case measure=>simp[intOf];omega
   ·rw[hq]at HCON
    have aw:=Ap (hQ0 HP.out hz.out hq);clear hq;go_wp2_with (go_at_call 199;refine HCON.out.mono ?_;rintro e w' ⟨rfl,af⟩)
    go_ret;exact⟨by rw[aw.out];rfl,hg.tr af⟩
  ·obtain rfl:k=l.length:=by omega
   have aw:=Ap (fI0 hz.out);go_wp2
   go_ret;exact⟨by rw[aw.out];rfl,hg⟩
def findI (o:Option Nat):Int:=match o with|some k=>k|none=>0
theorem iV (l:List bD) (name:ByteArray) (a:Option Addr) (cap:Nat) (w:World) (hl:l.length<=4611686018427387904) (hs:aF w a 2 (l.map bH)) :
  Calls Tryz.prog 137 #[.slice a l.length cap,.string name] w λe w'=>e=.returned (.tuple #[.int .i64 (findI (posFind l name)),.bool (posFind l name).isSome])/\aB w w':=by
 have d5:=Ap (bD0 l name a cap w.heap.size (w.alloc (.cells #[.string name] 9)) hl (hs.grows (aB.alloc _ _)) (aM _ _ _ _ _ _ rfl));clear hs
 cases hq:posFind l name with
 | none =>
  rw[hq]at d5;clear hq;go_enter Tryz.func137,Tryz.ntmps137
  go_wp2_with (go_at_call 198;refine d5.out.mono ?_;rintro e w' ⟨rfl,af⟩)
  go_ret2;exact⟨rfl,(aB.alloc _ _).tr af⟩
 | some k =>
  rw[hq]at d5;clear hq;go_enter Tryz.func137,Tryz.ntmps137
  go_wp2_with (go_at_call 198;refine d5.out.mono ?_;rintro e w' ⟨rfl,af⟩)
  go_ret2;exact⟨rfl,(aB.alloc _ _).tr af⟩
end
section
open Go Go.RowKit
def orI:List Int->Int
 | []=>0
 | z::l=>if z=0 then orI l else z
theorem cH0:∀(zs:List Int) (k:Nat),(∀j,j<k->zs[j]?.getD 0=0)->orI zs=orI (zs.drop k)
 | [],k,_=>by simp
 | z::l,0,_=>by simp
 | z::l,k+1,h=>by
  have h0:z=0:=by simpa using h 0 (by omega)
  simp only[orI,h0,if_true,List.drop_succ_cons];exact cH0 l k λj hj=>by simpa using h (j+1) (by omega)
theorem aT1 {zs:List Int} {k:Nat} (hk:k<zs.length) (h:∀j,j<k->zs[j]?.getD 0=0) (hz:zs[k]?.getD 0≠0):orI zs=zs[k]?.getD 0:=by
 rw[cH0 zs k h,List.drop_eq_getElem_cons hk,orI];simp[hk]at hz ⊢;simp[hz]
theorem xL0 {zs:List Int} (h:∀j,j<zs.length->zs[j]?.getD 0=0):orI zs=0:=by
 rw[cH0 zs _ h];simp[orI]
theorem yK0 (zs:List Int) (b off cap:Nat) (w:World) (hl:zs.length<=4611686018427387904) (hc:∀k,k<zs.length->w.cell? ⟨b,off+k,none⟩=some (.int .i64 (zs[k]?.getD 0))) :
  Calls Tryz.prog 109 #[.slice (some ⟨b,off,none⟩) zs.length cap] w λe w'=>e=.returned (.int .i64 (orI zs))/\w=w':=by
 have HC:=Ap hc;clear hc;go_enter Tryz.func109,Tryz.ntmps109
 go_wp2
 go_loop [8] (λi=>∃k:Nat,k<=zs.length/\i=.int .i64 k/\Hid (∀j,j<k->zs[j]?.getD 0=0)) (λi=>zs.length-(intOf i).toNat)
 case atStart=>exact⟨0,Aj _,rfl,λj hj=>by omega⟩
 case round =>
  obtain⟨k,hk,rfl,hz⟩:=hrel;by_cases ae:k<zs.length
  ·have jl:=HC.out k ae
   obtain⟨z,hze⟩:=exq (zs[k]?.getD 0);rw[<-hze]at jl;have HE:=Ap hze;clear hze;by_cases h0:z=0
   ·have h0':(z != 0)=false:=by simp[h0]
    have H0:=Ap h0;clear h0;go_wp2
    go_round
    case rel=>exact⟨k+1,by omega,by go_num,λj hj=>by
     rcases Nat.lt_succ_iff_lt_or_eq.1 hj with h|rfl
     ·exact hz.out j h
     ·rw[<-HE.out];exact H0.out⟩
    case measure=>simp[intOf];omega
   ·have h0':(z != 0)=true:=by simpa using h0
    have aw:=Ap ((aT1 ae hz.out (by rw[<-HE.out];exact h0)).trans HE.out.symm);clear h0;go_wp2
    go_ret;exact⟨by rw[aw.out];rfl,rfl⟩
  ·obtain rfl:k=zs.length:=by omega
   have aw:=Ap (xL0 hz.out);go_wp2
   go_ret;exact⟨by rw[aw.out];rfl,rfl⟩
def jH (x y:Int):Int:=if x<y then -1 else if y<x then 1 else 0
def yJ (a b:ByteArray):Int:=if Aa a.toList b.toList then -1 else if !Aa a.toList b.toList && !(a.toList==b.toList) then 1 else 0
theorem tG (x y:Int) (w:World) :
  Calls Tryz.prog 110 #[.int .i64 x,.int .i64 y] w λe w'=>e=.returned (.int .i64 (jH x y))/\w=w':=by
 go_enter Tryz.func110,Tryz.ntmps110
 go_wp2
 all_goals (go_ret;refine⟨rY0 ?_,rfl⟩;unfold jH;(repeat' split)<;>first|rfl|(exfalso;omega))
theorem dT0 (x y:ByteArray) (w:World) :
  Calls Tryz.prog 111 #[.string x,.string y] w λe w'=>e=.returned (.int .i64 (yJ x y))/\w=w':=by
 go_enter Tryz.func111,Tryz.ntmps111
 go_wp2
 all_goals (go_ret;exact⟨rY0 (by simp[yJ, *]),rfl⟩)
theorem nW {P:Program} {d:Nat} {t:TypeId} {fs:Array Field} {cs:List Value} (h:P.underlying t=some (.struct fs)) :
  P.keyLits (d + 1) t cs = if cs.length = P.cellsOf t ∧ fs.all (·.name != "_") = true then (fs.toList.mapM fun f => P.keyLits d f.type ((cs.drop f.offset).take (P.cellsOf f.type))).map List.flatten else none := by
 conv=>lhs;unfold Program.keyLits
 simp only[h]
def rW0 (x:Int×Int):Value := .agg #[.int .i64 x.1,.int .i64 x.2]
def WfI (n:Int):Prop:=(Lit.int .i64 n).wf=true
def klP (x:Int×Int):Lit := .string (keyBytes [.int .i64 x.1,.int .i64 x.2])
theorem cQ0:laidOutB Tryz.prog=true:=by kernel_rfl
theorem lY:Go.Maps.Keyed Tryz.prog 158:=Go.Maps.Keyed.of_law (deep_law_laid cQ0 (m:=3) (by decide) (of_decide_eq_true (by kernel_rfl)) (by kernel_rfl) (by kernel_rfl))
theorem zQ0 {x:Int×Int} (h1:WfI x.1) (h2:WfI x.2):Go.keyOf Tryz.prog 158 (rW0 x)=some (klP x):=by
 obtain⟨m,hm⟩:∃m,Tryz.prog.types.size=m+1:=⟨Tryz.prog.types.size-1,by have:0<Tryz.prog.types.size:=of_decide_eq_true (by kernel_rfl);omega⟩
 have hI:∀(n:Int),WfI n->Tryz.prog.keyLits (m+1) 3 [.int .i64 n]=some [.int .i64 n]:=λn hn=>by
  unfold Program.keyLits;unfold WfI at hn;simp only[Tryz.underlying3,hn,and_self,if_true]
 have hk:Tryz.prog.keyType 158=true:=by kernel_rfl
 have hc:Tryz.prog.cellsOf 158=2:=by kernel_rfl
 have hci:Tryz.prog.cellsOf 3=1:=by kernel_rfl
 obtain⟨a,b⟩:=x;have g1:=hI a h1;have g2:=hI b h2;unfold Go.keyOf;simp only[Tryz.underlying158,hk,Ba];unfold Value.formed rW0;simp only[Tryz.underlying158,hc];have hz:((#[Value.int .i64 a,.int .i64 b]:Array Value).size==2)=true:=rfl;rw[if_pos hz,hm];unfold Program.keyLits;simp only[Tryz.underlying158,hc,Value.cells];simp[hci,g1,g2,klP]
theorem aQ0 {x y:Int×Int} (h1:WfI x.1) (h2:WfI x.2) (h3:WfI y.1) (h4:WfI y.2) (h:klP x=klP y):x=y:=by
 have k1:=zQ0 h1 h2;have k2:=zQ0 h3 h4;rw[h]at k1
 have:=lY.inj k1 k2
 obtain⟨a,b⟩:=x;obtain⟨a',b'⟩:=y;simpa [rW0] using this
theorem bC0 {key:Value} {kl:Lit} (h:Go.keyOf Tryz.prog 158 key=some kl):∃x:Int×Int,WfI x.1/\WfI x.2/\key=rW0 x/\kl=klP x:=by
 obtain⟨m,hm⟩:∃m,Tryz.prog.types.size=m+1:=⟨Tryz.prog.types.size-1,by have:0<Tryz.prog.types.size:=of_decide_eq_true (by kernel_rfl);omega⟩
 have hI:∀(v:Value) (ls:List Lit),Tryz.prog.keyLits (m+1) 3 [v]=some ls->∃n:Int,v=.int .i64 n/\WfI n/\ls=[.int .i64 n]:=λv ls h=>by
  unfold Program.keyLits at h;simp only[Tryz.underlying3]at h;cases v<;>simp at h
  obtain⟨⟨rfl,h2⟩,h3⟩:=h;exact⟨_,rfl,h2,h3.symm⟩
 have hk:Tryz.prog.keyType 158=true:=by kernel_rfl
 have hc:Tryz.prog.cellsOf 158=2:=by kernel_rfl
 have hci:Tryz.prog.cellsOf 3=1:=by kernel_rfl
 unfold Go.keyOf at h;simp only[Tryz.underlying158,hk,Ba]at h;split at h
 ·rename_i hf
  rw[hm]at h
  obtain⟨cs,rfl,cw⟩:∃cs,key=.agg cs/\cs.size=2:=by
   unfold Value.formed at hf;cases key<;>simp[Tryz.underlying158,hc]at hf
   exact⟨_,rfl,hf⟩
  obtain⟨l⟩:=cs
  match l,cw with
  | [c0,c1],_ =>
   rw[nW Tryz.underlying158]at h;simp only[Value.cells]at h;simp[hci,hc,Bb,Bv]at h;obtain⟨l0,g0,ls,⟨l1,g1,rfl⟩,rfl⟩:=h;obtain⟨n2,rfl,z2,rfl⟩:=hI _ _ g0;obtain⟨n3,rfl,z3,rfl⟩:=hI _ _ g1;exact⟨⟨n2,n3⟩,z2,z3,rfl,by simp[klP]⟩
 ·cases h
end
section
open Go Go.RowKit
structure Mx where
 n:Nat
 d:Int
 cs:List Int
structure Mx.OK (m:Mx):Prop where
 n1:1<=m.n
 n2:m.n<=64
 d1:0<=m.d
 d2:m.d<=30000
 len:m.cs.length=m.n*m.n
 cost:∀c∈m.cs,0<=c/\c<=30000
def isC (c:Int):Bool:=decide (0<=c)&&decide (c<=30000)
theorem uC {c:Int}:isC c=true↔0<=c/\c<=30000:=by simp[isC]
def vJ0 (n d:Int):Bool:=decide (1<=n)&&decide (n<=64)&&isC d
theorem qG {n d:Int}:vJ0 n d=true↔1<=n/\n<=64/\0<=d/\d<=30000:=by simp[vJ0,isC,and_assoc]
def newM (n d:Int):Mx:=⟨n.toNat,d,Bw (n.toNat*n.toNat) d⟩
theorem hU0 {n d:Int} (h:vJ0 n d=true):(newM n d).OK:=by
 obtain⟨h1,h2,h3,h4⟩:=qG.1 h;refine⟨?_,?_,h3,h4,by simp[newM],λc hc=>?_⟩
 ·show 1<=n.toNat;omega
 ·show n.toNat<=64;omega
 ·obtain rfl:c=d:=(List.mem_replicate.1 hc).2
  exact⟨h3,h4⟩
def inR (n:Nat) (r:Int):Bool:=decide (0<=r)&&decide (r<n)
theorem bK1 {n:Nat} {r:Int}:inR n r=true↔0<=r/\r<n:=by simp[inR]
def at2 (n:Nat) (x:Int×Int):Nat:=x.1.toNat*n+x.2.toNat
def inP (n:Nat) (x:Int×Int):Bool:=inR n x.1&&inR n x.2
theorem jX {n:Nat} {x:Int×Int}:inP n x=true↔(0<=x.1/\x.1<n)/\0<=x.2/\x.2<n:=by simp[inP,bK1]
theorem yU {n:Nat} {x:Int×Int} (h:inP n x=true):at2 n x<n*n:=by
 obtain⟨⟨h1,h2⟩,h3,h4⟩:=jX.1 h;unfold at2;have k1:x.1.toNat+1<=n:=by omega
 have k2:x.2.toNat<n:=by omega
 have:=Nat.mul_le_mul_right n k1
 grind
theorem aL1 {n:Nat} {x:Int×Int} (h:inP n x=true):at2 n x/n=x.1.toNat/\at2 n x%n=x.2.toNat:=by
 obtain⟨⟨h1,h2⟩,h3,h4⟩:=jX.1 h;have k2:x.2.toNat<n:=by omega
 unfold at2;constructor
 ·rw[Bz,Nat.mul_add_div (by omega),Nat.div_eq_of_lt k2,Nat.add_zero]
 ·rw[Bz,Nat.mul_add_mod,Nat.mod_eq_of_lt k2]
theorem sJ0 {n:Nat} {x y:Int×Int} (hx:inP n x=true) (hy:inP n y=true) (h:at2 n x=at2 n y):x=y:=by
 grind [aL1,jX]
def Mx.cost (m:Mx) (x:Int×Int):Int:=if inP m.n x then m.cs.getD (at2 m.n x) 0 else 30000
def Mx.setB (m:Mx) (x:Int×Int) (c:Int):Bool:=inP m.n x&&isC c
def Mx.set (m:Mx) (x:Int×Int) (c:Int):Mx:={ m with cs:=m.cs.set (at2 m.n x) c }
def Mx.setIf (m:Mx) (x:Int×Int) (c:Int):Mx:=if m.setB x c then m.set x c else m
theorem Mx.OK.set {m:Mx} (h:m.OK) {x:Int×Int} {c:Int} (hs:m.setB x c=true):(m.set x c).OK:=by
 simp only[Mx.setB,Ad]at hs;refine⟨h.n1,h.n2,h.d1,h.d2,by simp[Mx.set,h.len],λz hz=>?_⟩;rcases List.mem_or_eq_of_mem_set hz with hz|rfl
 ·exact h.cost z hz
 ·exact uC.1 hs.2
theorem Mx.OK.setIf {m:Mx} (h:m.OK) (x:Int×Int) (c:Int):(m.setIf x c).OK:=by
 unfold Mx.setIf;split
 ·rename_i hs;exact h.set hs
 ·exact h
theorem Mx.cost_set {m:Mx} (h:m.OK) {x:Int×Int} {c:Int} (hx:inP m.n x=true) (y:Int×Int):(m.set x c).cost y=if y=x then c else m.cost y:=by
 have hl:at2 m.n x<m.cs.length:=by rw[h.len];exact yU hx
 unfold Mx.cost;show (if inP m.n y then (m.cs.set (at2 m.n x) c).getD (at2 m.n y) 0 else 30000)=_
 by_cases hy:inP m.n y=true
 ·rw[if_pos hy,if_pos hy]
  by_cases e:y=x
  ·simp_all
  ·rw[if_neg e]
   have:at2 m.n x≠at2 m.n y:=λh=>e (sJ0 hx hy h).symm
   simp_all
 grind
theorem Mx.cost_new {n d:Int} (x:Int×Int):(newM n d).cost x=if inP n.toNat x then d else 30000:=by
 unfold Mx.cost newM;simp only;by_cases h:inP n.toNat x=true
 ·rw[if_pos h,if_pos h]
  simp[Cc,yU h]
 simp_all
theorem Mx.cost_ok {m:Mx} (h:m.OK) (x:Int×Int):0<=m.cost x/\m.cost x<=30000:=by
 unfold Mx.cost;split
 ·rename_i hx
  have hl:at2 m.n x<m.cs.length:=by rw[h.len];exact yU hx
  have:m.cs.getD (at2 m.n x) 0=m.cs[at2 m.n x]:=by simp[Cc,hl]
  rw[this];exact h.cost _ (List.getElem_mem _)
 ·omega
theorem kO {n:Nat} (hn:n<=64) {x:Int×Int} (h:inP n x=true):WfI x.1/\WfI x.2:=by
 grind [jX,WalkArith.wf_i64,WfI]
section
variable {H:Type}
def jV0 (m:Mx) (D:DataW H):Prop:=∀x:Int×Int,WfI x.1->WfI x.2->(Maps.has D (klP x)=(inP m.n x&&decide (m.cost x≠m.d)))/\(Maps.has D (klP x)=true->∀zd,D.atKey (klP x) zd=.lit (.int .i64 (m.cost x)))
theorem xR (x:Int×Int):WideAt.IsKeyLit (klP x):=by simp[klP,WideAt.IsKeyLit]
theorem jU0 (x:Int×Int):(klP x).sameKey (klP x)=true:=by simp[klP,Lit.sameKey]
theorem wC0 (n d:Int):jV0 (H:=H) (newM n d) (.map []):=λx _ _=>by
 refine⟨?_,λh=>by cases h⟩;show false=_
 rw[Mx.cost_new];show false=(inP n.toNat x&&decide ((if inP n.toNat x then d else 30000)≠d))
 simp_all
theorem jV0.put {m:Mx} {D:DataW H} (h:jV0 m D) (hm:Maps.IsMap D) (aq:m.OK) {x:Int×Int} {c:Int} (hs:m.setB x c=true) (hc:c≠m.d):jV0 (m.set x c) (D.put (klP x) (.lit (.int .i64 c))):=λy h1 h2=>by
 simp only[Mx.setB,Ad]at hs;have hw:=kO aq.n2 hs.1;rw[Mx.cost_set aq hs.1];show Maps.has _ _=(inP m.n y&&decide (_≠m.d))/\_
 by_cases e:y=x
 ·subst e
  rw[if_pos rfl,Maps.has_put_same hm (xR _),hs.1];exact⟨by simp[hc],λ_ zd=>Maps.atKey_put_same hm (xR _) _ _⟩
 ·have ai:klP y≠klP x:=λh=>e (aQ0 h1 h2 hw.1 hw.2 h)
  rw[if_neg e,Maps.has_put_other ai];refine⟨(h y h1 h2).1,λhh zd=>?_⟩;rw[Maps.atKey_put_other ai];exact(h y h1 h2).2 hh zd
theorem jV0.del {m:Mx} {D:DataW H} (h:jV0 m D) (aq:m.OK) {x:Int×Int} (hx:inP m.n x=true):jV0 (m.set x m.d) (D.del (klP x)):=λy h1 h2=>by
 have hw:=kO aq.n2 hx;rw[Mx.cost_set aq hx];show Maps.has _ _=(inP m.n y&&decide (_≠m.d))/\_
 by_cases e:y=x
 ·subst e
  rw[if_pos rfl,Maps.has_del_same];simp_all
 ·have ai:klP y≠klP x:=λh=>e (aQ0 h1 h2 hw.1 hw.2 h)
  rw[if_neg e,Maps.has_del_other ai];refine⟨(h y h1 h2).1,λhh zd=>?_⟩;rw[Maps.atKey_del_other ai];exact(h y h1 h2).2 hh zd
theorem jV0.look {m:Mx} {D:DataW H} (h:jV0 m D) (aq:m.OK) {x:Int×Int} (hx:inP m.n x=true) {c:Int} (hc:D.atKey (klP x) (.lit (.int .i64 0))=.lit (.int .i64 c)):(Maps.has D (klP x)=true->c=m.cost x)/\(Maps.has D (klP x)=false->m.cost x=m.d):=by
 have hw:=kO aq.n2 hx;obtain⟨h1,h2⟩:=h x hw.1 hw.2;grind
end
def Mx.idx (m:Mx):List Nat:=(Ah (m.n*m.n)).filter λi=>decide (m.cs.getD i 0≠m.d)
def dW (n i:Nat):Int×Int:=(((i/n:Nat):Int),((i%n:Nat):Int))
def Mx.pairs (m:Mx):List (Int×Int):=m.idx.map (dW m.n)
theorem iQ {n i:Nat} (h:i<n*n):inP n (dW n i)=true/\at2 n (dW n i)=i:=by
 have hn:0<n:=by
  rcases Aw n with h0|h0
  ·subst h0;simp at h
  ·exact h0
 have h1:i/n<n:=Nat.div_lt_of_lt_mul h;have h2:i%n<n:=Nat.mod_lt _ hn;grind [jX,Bg,dW,at2]
theorem yY {n:Nat} {x:Int×Int} (h:inP n x=true):dW n (at2 n x)=x:=by grind [sJ0,iQ,yU]
theorem Mx.mem_idx {m:Mx} {i:Nat}:i∈m.idx↔i<m.n*m.n/\m.cs.getD i 0≠m.d:=by simp[Mx.idx]
theorem Mx.mem_pairs {m:Mx} {x:Int×Int}:x∈m.pairs↔inP m.n x=true/\m.cost x≠m.d:=by
 unfold Mx.pairs;rw[Ca];constructor
 ·rintro⟨i,hi,rfl⟩
  obtain⟨h1,h2⟩:=Mx.mem_idx.1 hi;obtain⟨h3,h4⟩:=iQ h1;refine⟨h3,?_⟩;unfold Mx.cost;simp_all
 ·rintro⟨h1,h2⟩
  refine⟨at2 m.n x,Mx.mem_idx.2 ⟨yU h1,?_⟩,yY h1⟩;unfold Mx.cost at h2;rwa [if_pos h1]at h2
def uI0 (a b:Int×Int):Int:=orI [jH a.1 b.1,jH a.2 b.2]
def ltP (a b:Int×Int):Prop:=a.1<b.1\/a.1=b.1/\a.2<b.2
theorem aF1 (a b:Int×Int):uI0 a b<0↔ltP a b:=by
 unfold uI0 ltP;grind [orI,jH]
theorem zU (a:Int×Int):¬ltP a a:=by unfold ltP; omega
theorem eF0 {a b c:Int×Int} (h1:ltP a b) (h2:ltP b c):ltP a c:=by unfold ltP at *; omega
theorem pS0 {a b:Int×Int} (h:a≠b):ltP a b\/ltP b a:=by
 grind [ltP]
theorem pN0 {n i j:Nat} (h:i<j):ltP (dW n i) (dW n j):=by
 have h1:i/n<=j/n:=Nat.div_le_div_right (Nat.le_of_lt h);unfold ltP dW;simp only;by_cases e:i/n=j/n
 ·right
  refine⟨by omega,?_⟩;have h2:=Bg i n;have h3:=Bg j n;rw[e]at h2;omega
 ·left;omega
theorem Mx.pairs_sorted (m:Mx):m.pairs.Pairwise ltP:=by
 unfold Mx.pairs Mx.idx;rw[Bp];exact(List.Pairwise.filter _ Bd).imp λh=>pN0 h
theorem fA0 {α:Type} {lt:α->α->Prop} (hi:∀a, ¬lt a a) (ht:∀ {a b c},lt a b->lt b c->lt a c):∀ {o o':List α},o.Pairwise lt->o'.Pairwise lt->(∀y,y∈o↔y∈o')->o=o'
 | [],[],_,_,_=>rfl
 | [],b::s,_,_,h=>by have:=(h b).2 (by simp);cases this
 | a::r,[],_,_,h=>by have:=(h a).1 (by simp);cases this
 | a::r,b::s,h1,h2,h=>by
  obtain⟨ha,hr⟩:=List.pairwise_cons.1 h1;obtain⟨hb,hs⟩:=List.pairwise_cons.1 h2
  have km:a=b:=by
   rcases List.mem_cons.1 ((h a).1 (by simp)) with e|e
   ·exact e
   ·rcases List.mem_cons.1 ((h b).2 (by simp)) with e'|e'
    ·exact e'.symm
    grind
  subst km;have jm:a∉r:=by grind
  have ie:a∉s:=by grind
  rw[fA0 hi ht hr hs λy=>?_];grind
theorem Mx.pairs_len {m:Mx} (h:m.OK):m.pairs.length<=4096:=by
 unfold Mx.pairs;rw[List.length_map];refine Be (List.length_filter_le _ _) ?_;rw[List.length_range]
 have:=h.n2
 exact Nat.mul_le_mul this this
theorem dB {α:Type} [DecidableEq α]:∀ {l l':List α},l.Nodup->(∀x∈l,x∈l')->l.length<=l'.length
 | [],_,_,_=>Aj _
 | x::r,l',hn,hs=>by
  obtain⟨h1,h2⟩:=List.nodup_cons.1 hn;have hx:=hs x (by simp);have hr:=dB (l':=l'.erase x) h2 λy hy=>(List.mem_erase_of_ne (λ(e:y=x)=>h1 (by rw[<-e];exact hy))).2 (hs y (by simp[hy]));rw[List.length_erase_of_mem hx]at hr
  have:=List.length_pos_of_mem hx
  simp only[List.length_cons];omega
end
section
open Go Go.RowKit
structure En where
 r:ByteArray
 s:ByteArray
 l:Int
 t:Int
 c:Int
def aZ (x:En):List Value:=[.string x.r,.string x.s,.int .i64 x.l,.int .i64 x.t,.int .i64 x.c]
def eK:En:=⟨Bu,Bu,0,0,0⟩
theorem gF (x:En):(aZ x).length=5:=rfl
def En.agg (x:En):Value := .agg #[.string x.r,.string x.s,.int .i64 x.l,.int .i64 x.t,.int .i64 x.c]
def xY (x y:En):Int:=orI [yJ x.r y.r,jH x.c y.c,yJ x.s y.s,jH x.l y.l,jH x.t y.t]
def lF (x y:En):Bool:=decide (xY x y<0)
instance:DecidableEq En:=λx y=>decidable_of_iff (x.r=y.r/\x.s=y.s/\x.l=y.l/\x.t=y.t/\x.c=y.c) (by cases x; cases y; simp)
theorem kJ {x y:ByteArray} (h:x.toList=y.toList):x=y:=rL.1 (by unfold seq; rw[h]; simp)
structure tL (x:En):Prop where
 r:x.r.size<=maxLen
 s:x.s.size<=maxLen
 l:(Lit.int .i64 x.l).wf=true
 t:(Lit.int .i64 x.t).wf=true
 c:(Lit.int .i64 x.c).wf=true
theorem oE (x:En):∀u∈aZ x,u.oneCell'=true:=by
 intro u hu;simp[aZ]at hu;rcases hu with rfl|rfl|rfl|rfl|rfl<;>rfl
theorem bytesLess_irrefl:∀l:List UInt8,Aa l l=false
 | []=>rfl
 | x::l=>by simp[Aa,bytesLess_irrefl l]
theorem eG:∀ {a b c:List UInt8},Aa a b=true->Aa b c=true->Aa a c=true
 | [],_,[],_,h=>by cases ‹List UInt8› <;> simp[Aa]at h
 | [],_,_::_,_,_=>rfl
 | _::_,[],_,h,_=>by simp[Aa]at h
 | _::_,_::_,[],_,h=>by simp[Aa]at h
 | x::a,y::b,z::c,h1,h2=>by
  simp only[Aa,Af,Ad,decide_eq_true_eq,beq_iff_eq]at h1 h2 ⊢;rcases h1 with h1|⟨rfl,h1⟩<;>rcases h2 with h2|⟨rfl,h2⟩
  ·grind
  ·exact Or.inl h1
  ·exact Or.inl h2
  ·exact Or.inr ⟨rfl,eG h1 h2⟩
theorem cQ:∀ {a b:List UInt8},Aa a b=false->a≠b->Aa b a=true
 | [],[],_,h=>absurd rfl h
 | [],_::_,h,_=>by simp[Aa]at h
 | _::_,[],_,_=>rfl
 | x::a,y::b,h1,h2=>by
  simp only[Aa,Bool.or_eq_false_iff,Bool.and_eq_false_iff,decide_eq_false_iff_not,beq_eq_false_iff_ne,Af,Ad,decide_eq_true_eq,beq_iff_eq]at h1 ⊢;obtain⟨h1,h3⟩:=h1;by_cases wl:y<x
  ·exact Or.inl wl
  ·have h4:x.toNat=y.toNat:=by
    have h5:¬x.toNat<y.toNat:=h1;have h6:¬y.toNat<x.toNat:=wl;omega
   obtain rfl:x=y:=UInt8.toNat_inj.1 h4;rcases h3 with h3|h3
   ·exact absurd rfl h3
   ·exact Or.inr ⟨rfl,cQ h3 (by simp_all)⟩
structure yH0 {α:Type} (f:α->α->Int):Prop where
 zero:∀x y,f x y=0↔x=y
 trans:∀x y z,f x y<0->f y z<0->f x z<0
 flip:∀x y,f x y<0↔0<f y x
theorem aH1:yH0 jH where
 zero x y:=by grind [jH]
 trans x y z:=by grind [jH]
 flip x y:=by grind [jH]
theorem rZ (a b:ByteArray):yJ a b=if Aa a.toList b.toList then -1 else if a=b then 0 else 1:=by
 unfold yJ;by_cases h1:Aa a.toList b.toList=true
 ·simp_all
 ·rw[if_neg h1,if_neg h1]
  grind [kJ]
theorem mG {a b:List UInt8} (h:Aa a b=true):¬Aa b a=true:=by grind [eG,bytesLess_irrefl]
theorem lC0:yH0 yJ where
 zero x y:=by
  rw[rZ];split
  ·rename_i h
   refine⟨λh=>by omega,λe=>?_⟩;rw[e,bytesLess_irrefl]at h;cases h
  ·split
   ·rename_i h;simp[h]
   ·rename_i h;simp[h]
 trans x y z:=by
  rw[rZ,rZ,rZ];intro h1 h2
  have g1:Aa x.toList y.toList=true:=by
   by_cases h:Aa x.toList y.toList=true
   ·exact h
   ·rw[if_neg h]at h1;split at h1<;>omega
  have g2:Aa y.toList z.toList=true:=by
   by_cases h:Aa y.toList z.toList=true
   ·exact h
   ·rw[if_neg h]at h2;split at h2<;>omega
  rw[if_pos (eG g1 g2)];omega
 flip x y:=by
  rw[rZ,rZ];by_cases h:Aa x.toList y.toList=true
  ·have h2:=mG h
   have h3:¬y=x:=λe=>by rw[e,bytesLess_irrefl]at h;cases h
   rw[if_pos h,if_neg h2,if_neg h3];omega
  ·rw[if_neg h]
   by_cases e:x=y
   ·subst e;rw[if_pos rfl,if_neg h]
   ·have h2:=cQ (by simpa using h) (λh=>e (kJ h))
    rw[if_neg e,if_pos h2];omega
def vP0 {α β:Type} (f:α->α->Int) (g:β->β->Int) (x y:α×β):Int:=if f x.1 y.1=0 then g x.2 y.2 else f x.1 y.1
theorem yH0.refl {α:Type} {f:α->α->Int} (h:yH0 f) (x:α):f x x=0:=(h.zero x x).2 rfl
theorem rA {α β:Type} {f:α->α->Int} {g:β->β->Int} (hf:yH0 f) (hg:yH0 g):yH0 (vP0 f g) where
 zero x y:=by
  unfold vP0;by_cases h:f x.1 y.1=0
  ·rw[if_pos h,hg.zero]
   have:=(hf.zero _ _).1 h
   grind
  ·rw[if_neg h]
   exact⟨λh2=>absurd h2 h,λh2=>absurd (by rw[h2];exact hf.refl _) h⟩
 trans x y z:=by
  unfold vP0;intro h1 h2;by_cases e1:f x.1 y.1=0
  ·rw[if_pos e1]at h1
   have e:=(hf.zero _ _).1 e1;rw[e];by_cases e2:f y.1 z.1=0
   ·rw[if_pos e2]at h2 ⊢;exact hg.trans _ _ _ h1 h2
   omega
  ·rw[if_neg e1]at h1
   by_cases e2:f y.1 z.1=0
   ·have e:=(hf.zero _ _).1 e2
    simp_all
   ·rw[if_neg e2]at h2
    have h3:=hf.trans _ _ _ h1 h2;omega
 flip x y:=by
  unfold vP0;have hz:f x.1 y.1=0↔f y.1 x.1=0:=by rw[hf.zero,hf.zero];exact eq_comm
  by_cases e1:f x.1 y.1=0
  ·rw[if_pos e1,if_pos (hz.1 e1)];exact hg.flip _ _
  ·rw[if_neg e1,if_neg (λh=>e1 (hz.2 h))];exact hf.flip _ _
def qD0 (x:En):ByteArray×Int×ByteArray×Int×Int:=(x.r,x.c,x.s,x.l,x.t)
theorem kE (x y:En):xY x y=vP0 yJ (vP0 jH (vP0 yJ (vP0 jH jH))) (qD0 x) (qD0 y):=by
 have hl:∀z:Int,orI [z]=z:=by grind [orI]
 unfold xY vP0 qD0;simp only[orI];omega
theorem fW0:yH0 xY where
 zero x y:=by
  rw[kE,(rA lC0 (by grind [rA,aH1,lC0])).zero];constructor
  ·intro h
   obtain⟨xr,xs,xl,xt,xc⟩:=x;obtain⟨yr,ys,yl,yt,yc⟩:=y;simp only[qD0,Prod.mk.injEq]at h;simp_all
  ·intro h;rw[h]
 trans x y z:=by rw[kE,kE,kE];exact(rA lC0 (by grind [rA,aH1,lC0])).trans _ _ _
 flip x y:=by rw[kE,kE];exact(rA lC0 (by grind [rA,aH1,lC0])).flip _ _
theorem jD {x y z:En} (h1:lF x y=true) (h2:lF y z=true):lF x z=true:=by
 unfold lF at *;simp only[decide_eq_true_eq] at *;exact fW0.trans _ _ _ h1 h2
theorem eW (x:En):lF x x=false:=by
 unfold lF;rw[fW0.refl];simp
theorem qC {x y:En} (h:x≠y):lF y x = !lF x y:=by
 unfold lF;have h1:=fW0.flip x y;have h2:xY x y≠0:=λh0=>h ((fW0.zero _ _).1 h0);have h3:=fW0.flip y x;grind
end
section
open Go
def lM:List UInt8->List UInt8->Nat
 | a::x,b::y=>if a=b then lM x y+1 else 0
 | _,_=>0
theorem jR0 (b:List UInt8):lM [] b=0:=by cases b<;>rfl
theorem oY0 (a:List UInt8):lM a []=0:=by cases a<;>rfl
theorem iT0:∀(a b:List UInt8),lM a b<=a.length/\lM a b<=b.length
 | [],b=>by grind [lM]
 | a::x,[]=>by grind [lM]
 | a::x,b::y=>by
  have:=iT0 x y
  grind [lM]
theorem uO:∀(a:List UInt8),lM a a=a.length
 | []=>rfl
 | a::x=>by unfold lM;rw[if_pos rfl,uO x];rfl
theorem jP:∀(e:Nat) (a b:List UInt8),e<=lM a b↔e<=a.length/\e<=b.length/\a.take e=b.take e
 | 0,a,b=>by simp
 | e+1,[],b=>by rw[jR0];simp
 | e+1,a::x,[]=>by rw[oY0];simp
 | e+1,a::x,b::y=>by
  unfold lM;by_cases h:a=b
  ·subst h
   rw[if_pos rfl]
   have:=jP e x y
   simp_all
  simp_all
theorem eA0 {e:Nat} {a b:List UInt8} (h:e<=lM a b) (ha:e<a.length) (hb:e<b.length):e+1<=lM a b↔a[e]?=b[e]?:=by
 grind [jP,An,List.append_cancel_left]
theorem lO:∀(e:Nat) {a b c:List UInt8},Aa a b=true->Aa b c=true->e<=lM a c->e<=lM a b/\e<=lM b c
 | 0,_,_,_,_,_,_=>by omega
 | e+1,[],_,c,_,_,h=>by grind [lM]
 | e+1,_::_,_,[],_,_,h=>by grind [lM]
 | e+1,_::_,[],_::_,h,_,_=>by simp[Aa]at h
 | e+1,x::a,y::b,z::c,h1,h2,h=>by
  unfold lM at h;split at h
  case isFalse=>omega
  rename_i hxz
  subst hxz;simp only[Aa,Af,Ad,decide_eq_true_eq,beq_iff_eq]at h1 h2
  have wl:x=y:=by
   rcases h1 with h1|h1
   ·grind
   ·exact h1.1
  subst wl;have ae:¬x<x:=by simp_all
  have k1:Aa a b=true:=by
   rcases h1 with h1|h1
   ·exact absurd h1 ae
   ·exact h1.2
  have k2:Aa b c=true:=by
   rcases h2 with h2|h2
   ·exact absurd h2 ae
   ·exact h2.2
  have:=lO e k1 k2 (by omega)
  grind [lM]
theorem lQ0 {e:Nat} {a b c:List UInt8} (h1:e<=lM a b) (h2:e<=lM b c):e<=lM a c:=by
 rw[jP] at *;simp_all
theorem eG0:∀(a b:List UInt8),lM a b=lM b a
 | [],b=>by grind [lM]
 | a::x,[]=>by grind [lM]
 | a::x,b::y=>by
  unfold lM;by_cases h:a=b
  ·rw[if_pos h,if_pos h.symm,eG0 x y]
  grind
theorem mE:∀ {a b:List UInt8},Aa a b=true->lM a b<b.length
 | [],[],h=>by simp[Aa]at h
 | [],_::_,_=>by rw[jR0];simp
 | _::_,[],h=>by simp[Aa]at h
 | x::a,y::b,h=>by
  simp only[Aa,Af,Ad,decide_eq_true_eq,beq_iff_eq]at h;unfold lM;split
  ·rename_i wl
   subst wl;have ae:¬x<x:=by simp_all
   rcases h with h|h
   ·exact absurd h ae
   ·have:=mE h.2
    simp_all
  ·simp
def nth (L:List (List UInt8)) (j:Nat):List UInt8:=L.getD j []
theorem jM0 {L:List (List UInt8)} {j:Nat} {x:List UInt8} (h:L[j]?=some x):nth L j=x:=by
 grind [nth]
theorem jR {L:List (List UInt8)} {j:Nat} (h:j<L.length):L[j]?=some (nth L j):=by
 grind [nth]
def cAt (L:List (List UInt8)) (j:Nat):Nat:=lM (nth L (j-1)) (nth L j)
def Asc (L:List (List UInt8)):Prop:=∀j,j+1<L.length->Aa (nth L j) (nth L (j+1))=true
theorem Asc.lt {L:List (List UInt8)} (h:Asc L):∀(j i:Nat),i<j->j<L.length->Aa (nth L i) (nth L j)=true
 | 0,i,hi,_=>by omega
 | j+1,i,hi,hj=>by
  rcases Ab i j with h1|h1
  ·exact eG (h.lt j i h1 (by omega)) (h j hj)
  ·rw[show i=j by omega];exact h j hj
theorem Asc.all {L:List (List UInt8)} (h:Asc L) {e i j m:Nat} (hj:j<L.length) (l8:i<m) (nf:m<=j) (he:e<=lM (nth L i) (nth L j)):e<=cAt L m:=by
 have h1:e<=lM (nth L (m-1)) (nth L j):=by
  rcases Ab i (m-1) with h1|h1
  ·exact(lO e (h.lt _ _ h1 (by omega)) (h.lt _ _ (by omega) hj) he).2
  ·grind
 unfold cAt;rcases Ab m j with h2|h2
 ·exact(lO e (h.lt _ _ (by omega) (by omega)) (h.lt _ _ h2 hj) h1).1
 grind
theorem rS {L:List (List UInt8)} {e i:Nat} (hi:e<=(nth L i).length):∀(j:Nat),i<=j->(∀m,i<m->m<=j->e<=cAt L m)->e<=lM (nth L i) (nth L j)
 | 0,hj,_=>by
  grind [uO]
 | j+1,hj,h=>by
  rcases Ab i (j+1) with h1|h1
  ·exact lQ0 (rS hi j (by omega) (by grind)) (h (j+1) h1 (Ac _))
  grind [uO]
def uR0 (p:Nat->Bool) (t:Nat):Nat->Nat->Nat
 | 0,k=>k
 | f+1,k=>if k<t/\p k=true then uR0 p t f (k+1) else k
def pJ (p:Nat->Bool) (t k:Nat):Nat:=uR0 p t (t-k) k
theorem sC {p:Nat->Bool} {t k:Nat} (h:k<t) (hp:p k=true):pJ p t k=pJ p t (k+1):=by
 unfold pJ;rw[show t-k=(t-(k+1))+1 by omega,uR0,if_pos ⟨h,hp⟩]
theorem iG {p:Nat->Bool} {t k:Nat} (h:¬(k<t/\p k=true)):pJ p t k=k:=by
 unfold pJ
 cases hf:t-k with
 | zero=>rfl
 | succ f=>rw[uR0,if_neg h]
theorem rR (p:Nat->Bool) (t:Nat):∀(f k:Nat),t-k=f->k<=t->k<=pJ p t k/\pJ p t k<=t/\(∀j,k<=j->j<pJ p t k->p j=true)/\(pJ p t k<t->p (pJ p t k)=false)
 | 0,k,hf,hk=>by
  rw[iG (by omega)];grind
 | f+1,k,hf,hk=>by
  by_cases h:k<t/\p k=true
  ·rw[sC h.1 h.2]
   obtain⟨a,b,c,d⟩:=rR p t f (k+1) (by omega) (by omega);grind
  ·rw[iG h]
   grind
structure dV where
 i:Nat
 t:Nat
 d:Nat
def gT (L:List (List UInt8)) (d i k:Nat):Bool:=(nth L k)[d]?==(nth L i)[d]?
def dR (L:List (List UInt8)) (d t i:Nat):Nat:=pJ (gT L d i) t (i+1)
def lK (L:List (List UInt8)) (d t:Nat):Nat->Nat->List dV
 | 0,_=>[]
 | f+1,i=>if i<t then ⟨i,dR L d t i,d+1⟩::lK L d t f (dR L d t i) else []
theorem vE (L:List (List UInt8)) {d t i:Nat} (h:i<t):i<dR L d t i/\dR L d t i<=t:=by
 have:=rR (gT L d i) t _ (i+1) rfl h
 grind [dR]
theorem uL (L:List (List UInt8)) (d t:Nat):∀(f g i:Nat),t-i<=f->t-i<=g->lK L d t f i=lK L d t g i
 | 0,0,_,_,_=>rfl
 | 0,g+1,i,hf,_=>by grind [lK]
 | f+1,0,i,_,hg=>by grind [lK]
 | f+1,g+1,i,hf,hg=>by
  rw[lK,lK];split
  ·rename_i h
   have:=vE L (d:=d) h
   rw[uL L d t f g _ (by omega) (by omega)]
  ·rfl
def eY (L:List (List UInt8)) (d t i:Nat):List dV:=lK L d t (t-i) i
theorem fW {L:List (List UInt8)} {d t i:Nat} (h:i<t):eY L d t i=⟨i,dR L d t i,d+1⟩::eY L d t (dR L d t i):=by
 have:=vE L (d:=d) h
 unfold eY;rw[show t-i=(t-i-1)+1 by omega,lK,if_pos h,uL L d t (t-i-1) (t-dR L d t i) _ (by omega) (by omega)]
theorem gM {L:List (List UInt8)} {d t i:Nat} (h:¬i<t):eY L d t i=[]:=by
 unfold eY;rw[show t-i=0 by omega];rfl
def nR (L:List (List UInt8)) (x:dV):Bool:=decide (x.i<x.t)&&(nth L x.i).length==x.d
def bM (L:List (List UInt8)) (x:dV):Nat:=if nR L x then x.i+1 else x.i
def fA (L:List (List UInt8)) (x:dV):List dV:=eY L x.d x.t (bM L x)
structure qW (L:List (List UInt8)) (x:dV):Prop where
 le:x.i<=x.t/\x.t<=L.length
 ne:x.i<x.t\/x.d=0
 len:∀j,x.i<=j->j<x.t->x.d<=(nth L j).length
 inn:∀j,x.i<j->j<x.t->x.d<=cAt L j
 lo:x.i=0\/cAt L x.i<x.d
 hi:x.t=L.length\/cAt L x.t<x.d
def rootS (L:List (List UInt8)):dV:=⟨0,L.length,0⟩
theorem rF0 (L:List (List UInt8)):qW L (rootS L):=⟨⟨Aj _,Ac _⟩,Or.inr rfl,λ_ _ _=>Aj _,λ_ _ _=>Aj _,Or.inl rfl,Or.inl rfl⟩
theorem qW.long {L:List (List UInt8)} (hL:Asc L) {x:dV} (g:qW L x) {j:Nat} (h1:x.i<j) (h2:j<x.t):x.d<(nth L j).length:=by
 have hc:=g.inn j h1 h2;have hl:=mE (hL.lt j (j-1) (by omega) (by have:=g.le;omega));unfold cAt at hc;omega
theorem qW.start {L:List (List UInt8)} (hL:Asc L) {x:dV} (g:qW L x) {j:Nat} (h1:bM L x<=j) (h2:j<x.t):x.d<(nth L j).length:=by
 unfold bM nR at h1;split at h1
 ·exact g.long hL (by omega) h2
 ·rename_i h
  rcases Ab x.i j with h3|h3
  ·exact g.long hL h3 h2
  ·have hj:j=x.i:=by omega
   have:=g.len j (by omega) h2
   grind
def oM (L:List (List UInt8)) (e:Nat):Nat->List dV->Nat->Prop
 | lo,[],hi=>lo<=hi/\∀j,lo<=j->j<hi->(nth L j).length<e
 | lo,x::xs,hi=>lo<=x.i/\(∀j,lo<=j->j<x.i->(nth L j).length<e)/\qW L x/\x.d=e/\oM L e x.t xs hi
theorem oM.le {L:List (List UInt8)} {e:Nat}:∀ {xs:List dV} {lo hi:Nat},oM L e lo xs hi->lo<=hi
 | [],_,_,h=>h.1
 | _::_,_,_,h=>by have:=oM.le h.2.2.2.2;have:=h.2.2.1.le;have:=h.1;omega
theorem oM.before {L:List (List UInt8)} {e:Nat}:∀ {xs:List dV} {lo lo' hi:Nat},lo'<=lo->(∀j,lo'<=j->j<lo->(nth L j).length<e)->oM L e lo xs hi->oM L e lo' xs hi
 | [],lo,lo',hi,h1,h2,h=>⟨Be h1 h.1,λj a b=>by
  rcases Ab j lo with h3|h3
  ·exact h2 j a h3
  ·exact h.2 j h3 b⟩
 | _::_,lo,lo',hi,h1,h2,h=>⟨Be h1 h.1,λj a b=>by
  rcases Ab j lo with h3|h3
  ·exact h2 j a h3
  ·exact h.2.1 j h3 b,h.2.2⟩
theorem oM.append {L:List (List UInt8)} {e:Nat}:∀ {xs ys:List dV} {lo ah hi:Nat},oM L e lo xs ah->oM L e ah ys hi->oM L e lo (xs++ys) hi
 | [],_,_,_,_,h1,h2=>oM.before h1.1 h1.2 h2
 | _::_,_,_,_,_,h1,h2=>⟨h1.1,h1.2.1,h1.2.2.1,h1.2.2.2.1,oM.append h1.2.2.2.2 h2⟩
theorem sM {L:List (List UInt8)} (hL:Asc L) {x:dV} (g:qW L x):∀(f i:Nat),x.t-i<=f->bM L x<=i->i<=x.t->(i<x.t->i=0\/cAt L i<x.d+1)->oM L (x.d+1) i (eY L x.d x.t i) x.t
 | 0,i,hf,h1,h2,_=>by
  rw[gM (by omega)];exact⟨h2,λj a b=>by omega⟩
 | f+1,i,hf,h1,h2,h3=>by
  by_cases ae:i<x.t
  case neg =>
   rw[gM ae];exact⟨h2,λj a b=>by omega⟩
  rw[fW ae];obtain⟨e1,e2,e3,e4⟩:=rR (gT L x.d i) x.t _ (i+1) rfl ae;have hn:=g.le;have hsx:x.i<=i:=by unfold bM at h1;split at h1<;>omega
  have ff:∀j,i<j->j<dR L x.d x.t i->x.d+1<=cAt L j:=by
   intro j
   induction j with
   | zero=>intro a;omega
   | succ j ih =>
    intro a b;have hj:j+1<x.t:=by unfold dR at b;omega
    have s1:=e3 (j+1) a b
    have s2:gT L x.d i j=true:=by
     rcases Ab i j with h|h
     ·exact e3 j h (by unfold dR at b;omega)
     ·rw[show j=i by omega];simp[gT]
    unfold gT at s1 s2;simp only[beq_iff_eq]at s1 s2;have hc:=g.inn (j+1) (by omega) hj;unfold cAt at hc ⊢;rw[Nat.add_sub_cancel]at hc ⊢;exact(eA0 hc (g.start hL (by omega) (by omega)) (g.start hL (by omega) hj)).2 (s2.trans s1.symm)
  have ir:dR L x.d x.t i<x.t->cAt L (dR L x.d x.t i)<x.d+1:=by
   intro hk;have s1:=e4 hk;generalize hK:dR L x.d x.t i=K at *;have l9:pJ (gT L x.d i) x.t (i+1)=K:=hK;rw[l9]at e1 e2 e3 e4 s1;apply Ao
   intro ko;have hc:x.d+1<=cAt L K:=by omega
   have h0:x.d+1<=lM (nth L i) (nth L K):=rS (g.start hL h1 ae) K (by omega) (by grind);have h4:=(eA0 (Nat.le_of_succ_le h0) (g.start hL h1 ae) (g.start hL (by omega) hk)).1 h0;unfold gT at s1;rw[h4]at s1;simp at s1
  have hgt:=vE L (d:=x.d) ae;refine⟨Ac _,by grind,⟨by grind,Or.inl hgt.1,λj a b=>?_,ff,h3 ae,?_⟩,rfl,?_⟩
  ·have b':j<dR L x.d x.t i:=b
   exact g.start hL (Be h1 a) (by omega)
  ·show dR L x.d x.t i=L.length\/cAt L (dR L x.d x.t i)<x.d+1
   rcases Ab (dR L x.d x.t i) x.t with h|h
   ·exact Or.inr (ir h)
   ·rw[show dR L x.d x.t i=x.t by omega]
    rcases g.hi with h2|h2
    ·exact Or.inl h2
    omega
  ·have aey:=hgt.2
   have aha:=hgt.1;exact sM hL g f (dR L x.d x.t i) (by omega) (by omega) aey (by omega)
theorem uN {L:List (List UInt8)} (hL:Asc L) {x:dV} (g:qW L x):oM L (x.d+1) x.i (fA L x) x.t:=by
 have hs:x.i<=bM L x/\bM L x<=x.t:=by
  unfold bM nR
  have:=g.le
  split
  ·grind
  ·omega
 refine oM.before hs.1 (λj a b=>?_) (sM hL g _ _ (Ac _) (Ac _) hs.2 (λh=>?_))
 ·unfold bM at b
  split at b
  ·rename_i h
   unfold nR at h;grind
  ·omega
 ·unfold bM at h ⊢
  split
  ·rename_i hh
   rw[if_pos hh]at h;unfold nR at hh;simp only[Ad,beq_iff_eq]at hh;refine Or.inr ?_
   have:=(iT0 (nth L (x.i+1-1)) (nth L (x.i+1))).1
   unfold cAt;grind
  ·rcases g.lo with h2|h2
   ·exact Or.inl h2
   omega
theorem fX0 {L:List (List UInt8)} (hL:Asc L) {e:Nat}:∀ {xs:List dV} {lo hi:Nat},oM L e lo xs hi->oM L (e+1) lo (xs.flatMap (fA L)) hi
 | [],_,_,h=>by grind [oM]
 | x::xs,lo,hi,h=>by
  obtain⟨h1,h2,h3,h4,h5⟩:=h
  have:=uN hL h3
  rw[h4]at this;rw[Ae];exact(this.before h1 (by grind)).append (fX0 hL h5)
def lv (L:List (List UInt8)):Nat->List dV
 | 0=>[rootS L]
 | d+1=>(lv L d).flatMap (fA L)
theorem kB {L:List (List UInt8)} (hL:Asc L):∀d,oM L d 0 (lv L d) L.length
 | 0=>⟨Ac _,λ_ a b=>absurd b (Nat.not_lt.2 a),rF0 L,rfl,Ac _,λ_ a b=>absurd b (Nat.not_lt.2 a)⟩
 | d+1=>fX0 hL (kB hL d)
theorem oM.mem {L:List (List UInt8)} {e:Nat}:∀ {xs:List dV} {lo hi:Nat},oM L e lo xs hi->∀x∈xs,qW L x/\x.d=e/\lo<=x.i/\x.t<=hi
 | [],_,_,_,x,hx=>by simp at hx
 | y::xs,lo,hi,h,x,hx=>by
  obtain⟨h1,h2,h3,h4,h5⟩:=h;rcases List.mem_cons.1 hx with rfl|hx
  ·exact⟨h3,h4,h1,oM.le h5⟩
  ·obtain⟨a,b,c,d⟩:=oM.mem h5 x hx
   exact⟨a,b,by have:=h3.le;omega,d⟩
def cP (L:List (List UInt8)) (e j:Nat):Bool:=decide (e<=(nth L j).length)&&(j==0||decide (cAt L j<e))
theorem oM.firsts {L:List (List UInt8)} {e:Nat} (he:0<e):∀ {xs:List dV} {lo hi:Nat},oM L e lo xs hi->xs.map (λx=>x.i)=(Ak lo (hi-lo)).filter (cP L e)
 | [],lo,hi,h=>by
  symm
  rw[List.map_nil,Aq];intro j hj;rw[Az]at hj
  have:=h.2 j hj.1 (by omega)
  grind [cP]
 | x::xs,lo,hi,h=>by
  obtain⟨h1,h2,h3,h4,h5⟩:=h;have h6:=oM.le h5;have h7:=h3.le;have h8:x.i<x.t:=by rcases h3.ne with h|h<;>omega
  rw[List.map_cons,oM.firsts he h5,show hi-lo=(x.i-lo)+((1+(x.t-x.i-1))+(hi-x.t)) by omega,<-Ar,<-Ar,<-Ar,Al,Al,Al]
  have e1:(Ak lo (x.i-lo)).filter (cP L e)=[]:=by
   rw[Aq];intro j hj;rw[Az]at hj
   have:=h2 j hj.1 (by omega)
   simp only[cP,Ad,decide_eq_true_eq];omega
  have e2:(Ak (lo+(x.i-lo)) 1).filter (cP L e)=[x.i]:=by
   rw[show lo+(x.i-lo)=x.i by omega]
   have:cP L e x.i=true:=by
    unfold cP;have a1:=h3.len x.i (Ac _) h8;rw[h4]at a1;simp only[Ad,decide_eq_true_eq,Af,beq_iff_eq];refine⟨a1,?_⟩;rcases h3.lo with a2|a2
    ·exact Or.inl a2
    ·omega
   simp[Ak,this]
  have e3:(Ak (lo+(x.i-lo)+1) (x.t-x.i-1)).filter (cP L e)=[]:=by
   rw[Aq];intro j hj;rw[Az]at hj
   have:=h3.inn j (by omega) (by omega)
   have lx:¬j=0:=by omega
   have hc:¬cAt L j<e:=by omega
   simp[cP,lx,hc]
  grind
end
section
open Go
def gP (L:List (List UInt8)) (x:dV):List UInt8:=(nth L x.i).take x.d
def nodesA (L:List (List UInt8)):List dV:=(Ah 257).flatMap (lv L)
theorem qW.slen {L:List (List UInt8)} {x:dV} (g:qW L x):(gP L x).length=x.d:=by
 unfold gP;rw[Br];rcases g.ne with h|h
 ·have:=g.len x.i (Ac _) h;omega
 ·omega
theorem qW.same {L:List (List UInt8)} {x y:dV} (gx:qW L x) (gy:qW L y) (hi:x.i=y.i) (hd:x.d=y.d):x=y:=by
 have key:∀ {x y:dV},qW L x->qW L y->x.i=y.i->x.d=y.d->¬x.t<y.t:=by
  intro x y gx gy hi hd h;have h1:=gx.hi;have h2:=gy.le;rcases h1 with h1|h1
  ·omega
  ·rcases gx.ne with h3|h3
   ·have:=gy.inn x.t (by omega) h;omega
   ·omega
 have k1:=key gx gy hi hd;have k2:=key gy gx hi.symm hd.symm;obtain⟨xi,xt,xd⟩:=x;obtain⟨yi,yt,yd⟩:=y;simp only at hi hd k1 k2;subst hi;subst hd;rw[show xt=yt by omega]
theorem qW.inj {L:List (List UInt8)} (hL:Asc L) {x y:dV} (gx:qW L x) (gy:qW L y) (h:gP L x=gP L y):x=y:=by
 have hd:x.d=y.d:=by rw[<-gx.slen,<-gy.slen,h]
 refine gx.same gy ?_ hd
 have key:∀ {x y:dV},qW L x->qW L y->x.d=y.d->gP L x=gP L y->¬x.i<y.i:=by
  intro x y gx gy hd h ae;rcases gy.ne with h3|h3
  ·have a1:x.d<=(nth L x.i).length:=by
    have:=gx.slen;unfold gP at this;rw[Br]at this;omega
   have a2:=gy.len y.i (Ac _) h3;unfold gP at h
   have:=hL.all (i:=x.i) (j:=y.i) (m:=y.i) (by have:=gy.le;omega) ae (Ac _) ((jP x.d _ _).2 (by simp_all))
   rcases gy.lo with h4|h4<;>omega
  ·rcases gy.lo with h4|h4<;>omega
 grind
theorem xF {L:List (List UInt8)} (hL:Asc L) {x:dV} (h:x∈nodesA L):qW L x:=by
 unfold nodesA at h;obtain⟨d,_,h⟩:=List.mem_flatMap.1 h;exact((kB hL d).mem x h).1
def qC0 (x y:dV):Prop:=x.d<y.d\/(x.d=y.d/\x.i<y.i)
theorem oM.pairwise {L:List (List UInt8)} {e:Nat} (he:0<e):∀ {xs:List dV} {lo hi:Nat},oM L e lo xs hi->xs.Pairwise qC0
 | [],_,_,_=>List.Pairwise.nil
 | x::xs,lo,hi,h=>by
  obtain⟨_,_,h3,h4,h5⟩:=h;refine List.pairwise_cons.2 ⟨λy hy=>?_,oM.pairwise he h5⟩;obtain⟨_,k2,k3,_⟩:=h5.mem y hy;refine Or.inr ⟨by omega,?_⟩;rcases h3.ne with h|h<;>omega
theorem nV {L:List (List UInt8)} (hL:Asc L):(nodesA L).Pairwise qC0:=by
 unfold nodesA;rw[List.pairwise_flatMap];refine⟨λd _=>?_,?_⟩
 ·cases d with
  | zero=>simp[lv]
  | succ d=>exact(kB hL (d+1)).pairwise (Av _)
 ·refine List.pairwise_lt_range.imp ?_
  intro a b km x hx y hy;have h1:=((kB hL a).mem x hx).2.1;have h2:=((kB hL b).mem y hy).2.1;exact Or.inl (by omega)
theorem bT1 {L:List (List UInt8)} (hL:Asc L) {d:Nat} (hd0:0<d) (h:∀s∈L,s.length<d):lv L d=[]:=by
 apply List.eq_nil_iff_forall_not_mem.2
 intro x hx;obtain⟨g,hd,_,_⟩:=(kB hL d).mem x hx;rcases g.ne with h1|h1
 ·have h2:=g.len x.i (Ac _) h1
  have h3:=h (nth L x.i) (Bi (jR (by have:=g.le;omega)));omega
 ·omega
theorem mY0 {L:List (List UInt8)} (hL:Asc L) {n:Nat} (h:∀s∈L,s.length<n+1):(Ah (n+1)).flatMap (lv L)=rootS L::((Ah (n+1)).flatMap (lv L)).flatMap (fA L):=by
 have e2:((Ah (n+1)).flatMap (lv L)).flatMap (fA L)=(Ah (n+1)).flatMap (λd=>lv L (d+1)):=by
  rw[List.flatMap_assoc];rfl
 rw[e2,At,Ai (f:=λd=>lv L (d+1))];simp only[Ae,Bs,Au];rw[bT1 hL (Av n) h,Au,<-At,Bf,Ae,Bc];rfl
theorem pJ0 {L:List (List UInt8)} (hL:Asc L) (h:∀s∈L,s.length<=256):nodesA L=rootS L::(nodesA L).flatMap (fA L) :=
 (by grind [mY0,nodesA])
section bfs
variable {α:Type} {r:α} {kd:α->List α} {A:List α}
def dX (r:α) (kd:α->List α) (A:List α) (i:Nat):List α:=r::(A.take i).flatMap kd
theorem oF (hA:A=r::A.flatMap kd) (i:Nat):A=dX r kd A i++(A.drop i).flatMap kd:=by
 unfold dX;rw[Bt,<-Ai,List.take_append_drop];exact hA
theorem nC {i:Nat} {x:α} (h:A[i]?=some x):dX r kd A (i+1)=dX r kd A i++kd x:=by
 unfold dX;rw[An,h,Ai];simp
theorem wK0 (hA:A=r::A.flatMap kd) (i:Nat):(dX r kd A i).length<=A.length:=by
 have:=congrArg List.length (oF hA i)
 grind
theorem eZ0 (hA:A=r::A.flatMap kd) {i k:Nat} (h:k<(dX r kd A i).length):(dX r kd A i)[k]?=A[k]?:=by
 have h1:A[k]?=(dX r kd A i++(A.drop i).flatMap kd)[k]?:=congrArg (λl=>l[k]?) (oF hA i);grind
theorem sW0 (hA:A=r::A.flatMap kd) (dep:α->Nat) (hd:∀x, ∀y∈kd x,dep y=dep x+1) (hp:A.Pairwise λx y=>dep x<=dep y) {i:Nat} (hi:i<A.length):i<(dX r kd A i).length:=by
 apply Ao
 intro ko;have h1:=oF hA i
 have h2:A[i]∈(A.drop i).flatMap kd:=by
  have h3:A[i]?=(dX r kd A i++(A.drop i).flatMap kd)[i]?:=by grind
  rw[Ax (by omega),Ag hi]at h3;exact by grind
 obtain⟨x,hx,hk⟩:=List.mem_flatMap.1 h2;have h4:=hd x _ hk;obtain⟨j,hj⟩:=List.mem_iff_getElem?.1 hx;rw[List.getElem?_drop]at hj;obtain⟨hj1,ng⟩:=List.getElem?_eq_some_iff.1 hj;rcases Aw j with h5|h5
 ·subst h5
  grind
 grind [Ay]
theorem eV0 (hA:A=r::A.flatMap kd):dX r kd A A.length=A:=by
 grind [dX]
theorem sP (hA:A=r::A.flatMap kd):∀(i k:Nat),1<=k->k<(dX r kd A i).length->∃p,p<i/\(dX r kd A p).length<=k/\k<(dX r kd A (p+1)).length
 | 0,k,h1,h2=>by grind [dX]
 | i+1,k,h1,h2=>by
  rcases Ab k (dX r kd A i).length with h|h
  ·obtain⟨p,a,b,c⟩:=sP hA i k h1 h
   grind
  grind
theorem tA0 (hA:A=r::A.flatMap kd) {p k:Nat} {x:α} (hx:A[p]?=some x) (h1:(dX r kd A p).length<=k) (h2:k<(dX r kd A (p+1)).length):A[k]?=(kd x)[k-(dX r kd A p).length]?:=by
 rw[<-eZ0 hA h2,nC hx,Ax h1]
end bfs
theorem nM0 {L:List (List UInt8)} (hL:Asc L):(nodesA L).Pairwise λx y=>x.d<=y.d:=(nV hL).imp λh=>by rcases h with h|h<;>omega
theorem jD0 (L:List (List UInt8)) (d t:Nat):∀(f i:Nat), ∀y∈lK L d t f i,y.d=d+1
 | 0,_,y,h=>by simp[lK]at h
 | f+1,i,y,h=>by
  rw[lK]at h;split at h
  ·rcases List.mem_cons.1 h with rfl|h
   ·rfl
   ·exact jD0 L d t f _ y h
  ·simp at h
theorem cH1 (L:List (List UInt8)) (x:dV):∀y∈fA L x,y.d=x.d+1:=jD0 L x.d x.t _ _
theorem pV0 {L:List (List UInt8)} (hL:Asc L) {x y:dV} (g:qW L x) (h:y∈fA L x):gP L y=gP L x++[(nth L y.i).getD x.d 0]:=by
 obtain⟨gy,hd,h1,h2⟩:=(uN hL g).mem y h;have h3:y.i<y.t:=by rcases gy.ne with h|h<;>omega
 have h4:=gy.len y.i (Ac _) h3
 have h5:(nth L y.i).take x.d=(nth L x.i).take x.d:=by
  rcases Ab x.i y.i with h6|h6
  ·have:=rS (L:=L) (e:=x.d) (i:=x.i) (g.len x.i (Ac _) (by omega)) y.i (by omega) (λm a b=>g.inn m a (by omega))
   exact((jP _ _ _).1 this).2.2.symm
  ·grind
 unfold gP;rw[hd,An,h5,Ag (by omega),List.getD_eq_getElem?_getD,Ag (by omega)];rfl
def shapeL (L:List (List UInt8)) (A:List dV):List Bool:=[true,false]++A.flatMap λx=>Bw (fA L x).length true++[false]
def mU (L:List (List UInt8)) (x y:dV):UInt8:=(nth L y.i).getD x.d 0
def labelsL (L:List (List UInt8)) (A:List dV):List UInt8:=A.flatMap λx=>(fA L x).map (mU L x)
def isL (L:List (List UInt8)) (A:List dV):List Bool:=A.map (nR L)
def idsL (L:List (List UInt8)) (A:List dV):List Nat:=(A.filter (nR L)).map λx=>x.i
theorem vX {L:List (List UInt8)} (hL:Asc L):∀(A:List dV),(∀x∈A,qW L x)->labelsL L A=(A.flatMap (fA L)).map λy=>(gP L y).getLastD 0
 | [],_=>rfl
 | x::A,h=>by
  have:=vX hL A (by simp_all)
  unfold labelsL at *;rw[Ae,Ae,Bh,this];congr 1
  apply Bj
  intro y hy;rw[pV0 hL (h x (by simp)) hy];simp[mU]
theorem aR0 {L:List (List UInt8)} (hL:Asc L) {x:dV} (g:qW L x) (ai:∀s∈L,s≠[]) (j:Nat):(L[j]?=some (gP L x))↔nR L x=true/\j=x.i:=by
 unfold nR;simp only[Ad,decide_eq_true_eq,beq_iff_eq];constructor
 ·intro h
  have hj:=(List.getElem?_eq_some_iff.1 h).1;have hs:=jM0 h
  have hd:x.d≠0:=λh0=>by
   have:=g.slen
   rw[h0]at this;exact ai _ (Bi h) (List.length_eq_zero_iff.1 this)
  have hit:x.i<x.t:=by rcases g.ne with h|h<;>omega
  have hlj:(nth L j).length=x.d:=by rw[hs,g.slen]
  have hcj:x.d<=lM (nth L x.i) (nth L j):=(jP _ _ _).2 ⟨g.len _ (Ac _) hit,by omega,by rw[hs];unfold gP;rw[List.take_take,Nat.min_self]⟩
  have e1:¬j<x.i:=λae=>by
   have h1:=mE (hL.lt _ _ ae (by have:=g.le;omega));rw[eG0]at hcj
   have:=hL.all (m:=x.i) (by have:=g.le;omega) ae (Ac _) hcj
   rcases g.lo with h4|h4<;>omega
  have e2:¬x.i<j:=λae=>by
   have:=mE (hL.lt _ _ ae hj);omega
  have e3:j=x.i:=by omega
  subst e3;exact⟨⟨hit,hlj⟩,rfl⟩
 ·rintro⟨⟨h1,h2⟩,rfl⟩
  rw[jR (by have:=g.le;omega)];unfold gP;rw[List.take_of_length_le (by omega)]
end
section
open Go
def jV (n:Nat) (out:List (List UInt8)) (s:List UInt8):List (List UInt8) :=
 if n<=s.length/\(out=[]\/out.getLastD []≠s.take n) then out++[s.take n] else out
def yM0 (L:List (List UInt8)) (n:Nat):List (List UInt8):=L.foldl (jV n) []
def jF (L:List (List UInt8)) (n m:Nat):List (List UInt8):=((Ak 0 m).filter (cP L n)).map λj=>(nth L j).take n
theorem dK0 (L:List (List UInt8)) (n m:Nat):jF L n (m+1)=if cP L n m then jF L n m++[(nth L m).take n] else jF L n m:=by
 unfold jF;rw[Bk,Al,Bh];grind
theorem rP0 (L:List (List UInt8)) (m:Nat):cAt L m<=(nth L (m-1)).length/\cAt L m<=(nth L m).length:=iT0 _ _
theorem eC0 {L:List (List UInt8)} (hL:Asc L) {n:Nat} (hn:0<n):∀m,m<=L.length->(L.take m).foldl (jV n) []=jF L n m /\
  (((∀j,j<m->(nth L j).length<n)/\jF L n m=[])\/∃j,j<m/\n<=(nth L j).length/\(∀k,j<k->k<m->(nth L k).length<n)/\jF L n m≠[]/\(jF L n m).getLastD []=(nth L j).take n)
 | 0,_=>by grind [jF]
 | m+1,hm=>by
  obtain⟨h1,h2⟩:=eC0 hL hn m (by omega);rw[An,jR (by omega),List.foldl_append,h1];simp only[Option.toList_some,List.foldl_cons,List.foldl_nil];rw[dK0];by_cases hs:n<=(nth L m).length
  ·rcases h2 with ⟨h2,h3⟩|⟨j,h2,h3,h4,h5,h6⟩
   ·have hf:cP L n m=true:=by
     unfold cP;simp only[Ad,decide_eq_true_eq,Af,beq_iff_eq];refine⟨hs,?_⟩;rcases Aw m with h|h
     ·exact Or.inl h
     ·grind [rP0]
    grind [jV]
   ·by_cases hq:(nth L j).take n=(nth L m).take n
    ·have hc:=(jP n _ _).2 ⟨h3,hs,hq⟩
     have hc2:=hL.all (m:=m) (by omega) h2 (Ac _) hc;grind [jV,cP]
    ·have hf:cP L n m=true:=by
      unfold cP;simp only[Ad,decide_eq_true_eq,Af,beq_iff_eq];refine⟨hs,Or.inr ?_⟩;apply Ao
      intro ko;have h7:=(rP0 L m).1
      have h8:j=m-1:=by
       rcases Ab j (m-1) with h|h
       ·grind
       ·omega
      have h9:n<=cAt L m:=by omega
      unfold cAt at h9;rw[<-h8]at h9;exact by grind [jP]
     grind [jV]
  grind [jV,cP]
theorem hO0 {L:List (List UInt8)} (hL:Asc L) {n:Nat} (hn:0<n):yM0 L n=jF L n L.length:=by
 have:=(eC0 hL hn L.length (Ac _)).1
 grind [yM0]
def yP0 (L:List (List UInt8)):List (List UInt8):=[]::(Ak 1 256).flatMap (yM0 L)
theorem zR0 {L:List (List UInt8)} (hL:Asc L) (d:Nat):(lv L (d+1)).map (gP L)=yM0 L (d+1):=by
 have ht:=kB hL (d+1);rw[hO0 hL (Av d)];unfold jF;have hf:=ht.firsts (Av d);rw[Nat.sub_zero]at hf;rw[<-hf,List.map_map];apply Bj
 intro x hx;show (nth L x.i).take x.d=(nth L x.i).take (d+1)
 rw[(ht.mem x hx).2.1]
theorem nH0 {L:List (List UInt8)} (hL:Asc L):(nodesA L).map (gP L)=yP0 L:=by
 have key:∀n,((Ah (n+1)).flatMap (lv L)).map (gP L)=[]::(Ak 1 n).flatMap (yM0 L):=by
  intro n;rw[Bf,Ae,Bh,Bc,List.map_flatMap,List.range'_eq_map_range,Bc]
  have:(lv L 0).map (gP L)=[[]]:=by simp[lv,gP,rootS]
  rw[this];simp only[Bt,List.nil_append,List.cons.injEq,true_and];congr 1
  funext d
  rw[zR0 hL d,Nat.add_comm]
 exact key 256
def bE1 (L:List (List UInt8)) (j:Nat):Nat:=(nth L j).length-(if j=0 then 0 else cAt L j)
def sB (L:List (List UInt8)):Nat->Nat
 | 0=>1
 | m+1=>sB L m+bE1 L m
def gB (L:List (List UInt8)):Nat:=sB L L.length
def jY (L:List (List UInt8)) (n m:Nat):Nat:=((Ak 0 m).filter (cP L n)).length
theorem fL0 (L:List (List UInt8)) (n m:Nat):jY L n (m+1)=jY L n m+(if cP L n m then 1 else 0):=by
 unfold jY;rw[Bk,Al,Bn];grind
def lU (f:Nat->Nat):Nat->Nat
 | 0=>0
 | k+1=>lU f k+f (k+1)
theorem dR0 (f g:Nat->Nat):∀k,lU (λn=>f n+g n) k=lU f k+lU g k
 | 0=>rfl
 | k+1=>by simp only[lU];rw[dR0 f g k];omega
theorem uG (L:List (List UInt8)) (j:Nat):∀k,lU (λn=>if cP L n j then 1 else 0) k=min k (nth L j).length-(if j=0 then 0 else min k (cAt L j))
 | 0=>by simp[lU]
 | k+1=>by
  have hc:=(rP0 L j).2;simp only[lU];rw[uG L j k];grind [cP]
theorem aE0:∀k,lU (λ_=>0) k=0
 | 0=>rfl
 | k+1=>by simp only[lU];rw[aE0 k]
theorem pF (L:List (List UInt8)) (h:∀s∈L,s.length<=256):∀m,m<=L.length->1+lU (λn=>jY L n m) 256=sB L m
 | 0,_=>by
  have:lU (λn=>jY L n 0) 256=lU (λ_=>0) 256:=by grind [jY]
  rw[this,aE0];rfl
 | m+1,hm=>by
  have ih:=pF L h m (by omega);have e:lU (λn=>jY L n (m+1)) 256=lU (λn=>jY L n m+(if cP L n m then 1 else 0)) 256:=by grind [fL0]
  rw[e,dR0,uG,sB,<-ih];grind [nth,bE1]
theorem iZ {L:List (List UInt8)} (hL:Asc L) (h:∀s∈L,s.length<=256):(nodesA L).length=gB L:=by
 have key:∀n,((Ah (n+1)).flatMap (lv L)).length=1+lU (λd=>jY L d L.length) n:=by
  intro n
  induction n with
  | zero=>rfl
  | succ n ih =>
   rw[At,Ai,Bn,ih];simp only[Ae,Bs,Au,lU];have hf:=(kB hL (n+1)).firsts (Av n);grind [jY]
 unfold gB;rw[<-pF L h L.length (Ac _)];exact key 256
def ltK (k:Nat->Nat) (x y:Nat):Prop:=k x<k y\/(k x=k y/\x<y)
theorem dH0 {k:Nat->Nat} {x y z:Nat} (h1:ltK k x y) (h2:ltK k y z):ltK k x z:=by unfold ltK at *; omega
theorem zJ {k:Nat->Nat} {x:Nat}:¬ltK k x x:=by unfold ltK; omega
theorem kA {k:Nat->Nat} {x y:Nat} (h:x<y):ltK k y x↔k y<k x:=by unfold ltK; omega
theorem tO {k:Nat->Nat} {x y:Nat} (h:x<y):ltK k x y↔¬k y<k x:=by unfold ltK; omega
def eD (D:Nat->Nat) (a m b i:Nat):Nat:=if i<a then D i else if i<a+(b-m) then D (i+(m-a)) else if i<b then D (i-(b-m)) else D i
def gB0 (D:Nat->Nat) (a b n i:Nat):Nat:=if a<=i/\i<a+n then D (i-a+b) else if b<=i/\i<b+n then D (i-b+a) else D i
structure dK (D D':Nat->Nat) (a b:Nat):Prop where
 out:∀i,(i<a\/b<=i)->D' i=D i
 fro:∀i,a<=i->i<b->∃j,a<=j/\j<b/\D' i=D j
 to:∀j,a<=j->j<b->∃i,a<=i/\i<b/\D' i=D j
theorem dK.refl (D:Nat->Nat) (a b:Nat):dK D D a b:=⟨λ_ _=>rfl,λi h1 h2=>⟨i,h1,h2,rfl⟩,λi h1 h2=>⟨i,h1,h2,rfl⟩⟩
theorem dK.trans {D D' D'':Nat->Nat} {a b:Nat} (h:dK D D' a b) (h':dK D' D'' a b):dK D D'' a b where
 out i hi:=(h'.out i hi).trans (h.out i hi)
 fro i h1 h2:=by
  obtain⟨j,j1,j2,e⟩:=h'.fro i h1 h2;obtain⟨j',j1',j2',e'⟩:=h.fro j j1 j2;grind
 to j h1 h2:=by
  obtain⟨i,i1,i2,e⟩:=h.to j h1 h2;obtain⟨i',i1',i2',e'⟩:=h'.to i i1 i2;grind
theorem dK.wide {D D':Nat->Nat} {a b a' b':Nat} (h:dK D D' a b) (ha:a'<=a) (hb:b<=b'):dK D D' a' b' where
 out i hi:=h.out i (by omega)
 fro i h1 h2:=by
  by_cases hi:a<=i/\i<b
  ·obtain⟨j,j1,j2,e⟩:=h.fro i hi.1 hi.2
   grind
  ·exact⟨i,h1,h2,h.out i (by omega)⟩
 to i h1 h2:=by
  by_cases hi:a<=i/\i<b
  ·obtain⟨j,j1,j2,e⟩:=h.to i hi.1 hi.2
   grind
  ·exact⟨i,h1,h2,h.out i (by omega)⟩
theorem pH0 {D:Nat->Nat} {a m b i:Nat} (h:i<a):eD D a m b i=D i:=by grind [eD]
theorem bY1 {D:Nat->Nat} {a m b i:Nat} (h1:a<=i) (h2:i<a+(b-m)):eD D a m b i=D (i+(m-a)):=by
 grind [eD]
theorem cV1 {D:Nat->Nat} {a m b i:Nat} (h1:a+(b-m)<=i) (h2:i<b):eD D a m b i=D (i-(b-m)):=by
 grind [eD]
theorem aY1 {D:Nat->Nat} {a m b i:Nat} (ha:a<=m) (hm:m<=b) (h:b<=i):eD D a m b i=D i:=by
 grind [eD]
theorem bN {D:Nat->Nat} {a m b:Nat} (ha:a<=m) (hm:m<=b):dK D (eD D a m b) a b where
 out i hi:=by
  grind [eD]
 fro i h1 h2:=by
  grind [Ab,eD]
 to j h1 h2:=by
  rcases Ab j m with h|h
  ·exact⟨j+(b-m),by omega,by omega,by grind [eD]⟩
  ·exact⟨j-(m-a),by omega,by omega,by grind [eD]⟩
theorem xB {D:Nat->Nat} {a b:Nat} (h:a<=b):eD D a a b=D:=by
 grind [eD]
theorem yT {D:Nat->Nat} {a b:Nat}:eD D a b b=D:=by
 grind [eD]
theorem pB0 (D:Nat->Nat) (a b:Nat):gB0 D a b 0=D:=by
 grind [gB0]
def oK0 (D:Nat->Nat) (j v i:Nat):Nat:=if i=j then v else D i
theorem rG0 {D:Nat->Nat} {a b n:Nat} (h:a+n<b):oK0 (oK0 (gB0 D a b n) (a+n) (gB0 D a b n (b+n))) (b+n) (gB0 D a b n (a+n))=gB0 D a b (n+1):=by
 grind [oK0,gB0]
theorem bA1 {D:Nat->Nat} {m i j:Nat} (hi:i<=m) (h:j<i):eD (gB0 D (m-i) m j) (m-(i-j)) m (m+j)=eD D (m-i) m (m+j):=by
 grind [eD,gB0]
theorem oV0 {D:Nat->Nat} {m i j:Nat} (hi:i<=m) (h:i<j):eD (gB0 D (m-i) (m+j-i) i) (m-i) m (m+(j-i))=eD D (m-i) m (m+j):=by
 grind [eD,gB0]
theorem xS0 {D:Nat->Nat} {m i:Nat} (hi:i<=m):gB0 D (m-i) m i=eD D (m-i) m (m+i):=by
 grind [gB0,eD]
theorem jX0 {D:Nat->Nat} {i j:Nat} (h0:0<j) (h:j<=i):oK0 (oK0 (eD D j i (i+1)) j (eD D j i (i+1) (j-1))) (j-1) (eD D j i (i+1) j)=eD D (j-1) i (i+1):=by
 grind [oK0,eD]
theorem cJ1 {D:Nat->Nat} {a j:Nat} (h:a<=j):oK0 (oK0 (eD D a (a+1) (j+1)) j (eD D a (a+1) (j+1) (j+1))) (j+1) (eD D a (a+1) (j+1) j)=eD D a (a+1) (j+2):=by
 grind [oK0,eD]
def Srt (k D:Nat->Nat) (a b:Nat):Prop:=∀i j,a<=i->i<j->j<b->ltK k (D i) (D j)
def Apt (D:Nat->Nat) (a m b:Nat):Prop:=∀i j,a<=i->i<m->m<=j->j<b->D i<D j
theorem Srt.of_eq {k D D':Nat->Nat} {a b:Nat} (h:Srt k D a b) (he:∀i,a<=i->i<b->D' i=D i):Srt k D' a b:=λi j h1 h2 h3=>by
 rw[he i h1 (by omega),he j (by omega) h3];exact h i j h1 h2 h3
theorem Srt.le {k D:Nat->Nat} {a b:Nat} (h:Srt k D a b) {i j x:Nat} (h1:a<=i) (h2:i<=j) (h3:j<b) (hx:ltK k x (D i)):ltK k x (D j):=by
 rcases Ab i j with h4|h4
 ·exact dH0 hx (h i j h1 h4 h3)
 grind
theorem Srt.ge {k D:Nat->Nat} {a b:Nat} (h:Srt k D a b) {i j x:Nat} (h1:a<=i) (h2:i<=j) (h3:j<b) (hx:ltK k (D j) x):ltK k (D i) x:=by
 rcases Ab i j with h4|h4
 ·exact dH0 (h i j h1 h4 h3) hx
 grind
theorem uX0 {k D:Nat->Nat} {a m b:Nat} (h1:Srt k D a m) (h2:Srt k D m b) (h:∀i j,a<=i->i<m->m<=j->j<b->ltK k (D i) (D j)):Srt k D a b:=by grind [Srt]
theorem aU0 {k D:Nat->Nat} {a i j:Nat} (hs:Srt k D a i) (ha:a<=j) (hj:j<=i) (h1:∀c,a<=c->c<j->ltK k (D c) (D i)) (h2:∀c,j<=c->c<i->ltK k (D i) (D c)):Srt k (eD D j i (i+1)) a (i+1):=by
 grind [Srt,eD]
theorem cK1 {k D:Nat->Nat} {a i b:Nat} (hs:Srt k D (a+1) b) (ha:a+1<=i) (hi:i<=b) (h1:∀c,a+1<=c->c<i->ltK k (D c) (D a)) (h2:∀c,i<=c->c<b->ltK k (D a) (D c)):Srt k (eD D a (a+1) i) a b:=by
 grind [Srt,eD]
structure dV0 (a m b ah lo hi:Nat):Prop where
 am:a<m
 mb:m<b
 mid1:2*ah<=a+b
 mid2:a+b<=2*ah+1
 big:ah<m->lo=ah+m-b/\hi=ah
 small:m<=ah->lo=a/\hi=m
theorem dV0.in {a m b ah lo hi c:Nat} (h:dV0 a m b ah lo hi) (h1:lo<=c) (h2:c<hi):a<=c/\c<m/\m<=ah+m-1-c/\ah+m-1-c<b/\c<ah+m:=by
 obtain⟨h3,h4,h5,h6,h7,h8⟩:=h;omega
theorem dV0.rng {a m b ah lo hi:Nat} (h:dV0 a m b ah lo hi):a<=lo/\lo<=hi/\hi<=m/\hi<=ah/\ah+m-lo<=b/\m<=ah+m-hi/\ah+m-lo >= m:=by
 obtain⟨h3,h4,h5,h6,h7,h8⟩:=h;omega
theorem iU0 {k D:Nat->Nat} {a m b ah lo hi c c':Nat} (h:dV0 a m b ah lo hi) (s1:Srt k D a m) (s2:Srt k D m b) (ap:Apt D a m b) (h1:lo<=c) (h2:c<=c') (h3:c'<hi)
  (hc:k (D (ah+m-1-c))<k (D c)):k (D (ah+m-1-c'))<k (D c'):=by
 obtain⟨a1,a2,a3,a4,a5⟩:=h.in h1 (by omega);obtain⟨b1,b2,b3,b4,b5⟩:=h.in (c:=c') (by omega) h3;rw[<-kA (ap _ _ b1 b2 b3 b4)];rw[<-kA (ap _ _ a1 a2 a3 a4)]at hc;exact s1.le a1 h2 b2 (s2.ge b3 (by omega) a4 hc)
theorem pQ0 {k D:Nat->Nat} {a m b ah lo hi s:Nat} (h:dV0 a m b ah lo hi) (s1:Srt k D a m) (s2:Srt k D m b) (ap:Apt D a m b) (hlo:lo<=s) (pm:s<=hi)
  (h1:∀c,lo<=c->c<s->¬k (D (ah+m-1-c))<k (D c)) (h2:∀c,s<=c->c<hi->k (D (ah+m-1-c))<k (D c)) :
  Srt k (eD D s m (ah+m-s)) a s/\Srt k (eD D s m (ah+m-s)) s ah/\Srt k (eD D s m (ah+m-s)) ah (ah+m-s)/\Srt k (eD D s m (ah+m-s)) (ah+m-s) b /\
  Apt (eD D s m (ah+m-s)) a s ah/\Apt (eD D s m (ah+m-s)) ah (ah+m-s) b /\
  ∀i j,a<=i->i<ah->ah<=j->j<b->ltK k (eD D s m (ah+m-s) i) (eD D s m (ah+m-s) j):=by
 obtain⟨r1,r2,r3,r4,r5,r6,r7⟩:=h.rng;have ir:ah+m-s<=b:=by omega
 have A1:∀i,i<s->eD D s m (ah+m-s) i=D i:=λi hi=>pH0 hi;have A2:∀i,s<=i->i<ah->eD D s m (ah+m-s) i=D (i+(m-s)):=by grind [eD]
 have A3:∀i,ah<=i->i<ah+m-s->eD D s m (ah+m-s) i=D (i-(ah-s)):=λi h1 h2=>by
  rw[cV1 (by omega) h2];congr 1;omega
 have A4:∀i,ah+m-s<=i->eD D s m (ah+m-s) i=D i:=λi h=>aY1 (by omega) (by omega) h
 -- what lies left of the cut is less than what lies right of it
 have X1:∀c q,a<=c->c<s->ah+m-s<=q->q<b->ltK k (D c) (D q):=λc q c1 c2 q1 q2=>by
  rcases Ab lo s with hl|hl
  ·obtain⟨y1,y2,y3,y4,y5⟩:=h.in (c:=s-1) (by omega) (by omega)
   have:=h1 (s-1) (by omega) (by omega)
   rw[<-tO (ap _ _ y1 y2 y3 y4)]at this;exact s1.ge (j:=s-1) c1 (by omega) y2 (s2.le y3 (by omega) q2 this)
  ·exfalso
   obtain⟨h3,h4,h5,h6,h7,h8⟩:=h;omega
 have X2:∀q c,m<=q->q<ah+m-s->s<=c->c<m->ltK k (D q) (D c):=λq c q1 q2 c1 c2=>by
  rcases Ab s hi with hl|hl
  ·obtain⟨y1,y2,y3,y4,y5⟩:=h.in (c:=s) (by omega) hl
   have:=h2 s (Ac _) hl
   rw[<-kA (ap _ _ y1 y2 y3 y4)]at this;exact s1.le y1 c1 c2 (s2.ge q1 (by omega) y4 this)
  ·exfalso
   obtain⟨h3,h4,h5,h6,h7,h8⟩:=h;omega
 refine⟨?_,?_,?_,?_,?_,?_,?_⟩
 ·grind [Srt]
 ·intro i j i1 i2 i3
  rw[A2 i i1 (by omega),A2 j (by omega) i3];exact s2 _ _ (by omega) (by omega) (by omega)
 ·intro i j i1 i2 i3
  rw[A3 i i1 (by omega),A3 j (by omega) i3];exact s1 _ _ (by omega) (by omega) (by omega)
 ·intro i j i1 i2 i3
  rw[A4 i i1,A4 j (by omega)];exact s2 _ _ (by omega) (by omega) (by omega)
 ·intro i j i1 i2 i3 i4
  rw[A1 i i2,A2 j i3 i4];exact ap _ _ i1 (by omega) (by omega) (by omega)
 ·intro i j i1 i2 i3 i4
  rw[A3 i i1 i2,A4 j i3];exact ap _ _ (by omega) (by omega) (by omega) i4
 ·intro i j i1 i2 i3 i4
  rcases Ab i s with h3|h3
  ·rw[A1 i h3]
   rcases Ab j (ah+m-s) with h4|h4
   ·rw[A3 j i3 h4];exact s1 _ _ i1 (by omega) (by omega)
   simp_all
  ·rw[A2 i h3 i2]
   rcases Ab j (ah+m-s) with h4|h4
   ·rw[A3 j i3 h4];exact X2 _ _ (by omega) (by omega) (by omega) (by omega)
   ·rw[A4 j h4];exact s2 _ _ (by omega) (by omega) (by omega)
theorem fY {k D1 D2 D3:Nat->Nat} {a ah b:Nat} (ham:a<=ah) (qj:ah<=b) (hx:∀i j,a<=i->i<ah->ah<=j->j<b->ltK k (D1 i) (D1 j)) (e1:dK D1 D2 a ah) (s1:Srt k D2 a ah) (e2:dK D2 D3 ah b) (s2:Srt k D3 ah b) :
  Srt k D3 a b/\dK D1 D3 a b:=by
 refine⟨uX0 (m:=ah) (s1.of_eq λi h1 h2=>e2.out i (Or.inl h2)) s2 ?_,(e1.wide (Ac _) qj).trans (e2.wide ham (Ac _))⟩;intro i j i1 i2 j1 j2;rw[e2.out i (Or.inl i2)];obtain⟨i',p1,p2,p3⟩:=e1.fro i i1 i2;obtain⟨j',q1,q2,q3⟩:=e2.fro j j1 j2;rw[p3,q3,e1.out j' (Or.inr q1)];simp_all
structure Win (k D:Nat->Nat) (a b:Nat):Prop where
 srt:Srt k D a b
 inn:∀i,a<=i->i<b->a<=D i/\D i<b
 all:∀v,a<=v->v<b->∃i,a<=i/\i<b/\D i=v
theorem Win.none (k D:Nat->Nat) (a:Nat):Win k D a a:=⟨λi j h1 h2 h3=>by omega,λi h1 h2=>by omega,λv h1 h2=>by omega⟩
theorem Win.apt {k D:Nat->Nat} {a m b:Nat} (h1:Win k D a m) (h2:Win k D m b):Apt D a m b:=λi j i1 i2 j1 j2=>by
 have:=h1.inn i i1 i2
 have:=h2.inn j j1 j2
 omega
theorem Win.merge {k D D':Nat->Nat} {a m b:Nat} (h1:Win k D a m) (h2:Win k D m b) (ham:a<=m) (qj:m<=b) (hs:dK D D' a b) (h:Srt k D' a b):Win k D' a b:=by
 refine⟨h,λi i1 i2=>?_,λv v1 v2=>?_⟩
 ·obtain⟨j,j1,j2,e⟩:=hs.fro i i1 i2
  rw[e];rcases Ab j m with hj|hj
  ·have:=h1.inn j j1 hj;omega
  ·have:=h2.inn j hj j2;omega
 ·rcases Ab v m with hv|hv
  ·obtain⟨j,j1,j2,e⟩:=h1.all v v1 hv
   obtain⟨i,i1,i2,e2⟩:=hs.to j j1 (by omega);grind
  ·obtain⟨j,j1,j2,e⟩:=h2.all v hv v2
   obtain⟨i,i1,i2,e2⟩:=hs.to j (by omega) j2;grind
theorem Win.of_eq {k D D':Nat->Nat} {a b:Nat} (h:Win k D a b) (he:∀i,a<=i->i<b->D' i=D i):Win k D' a b :=
 ⟨h.srt.of_eq he,λi h1 h2=>by rw[he i h1 h2];exact h.inn i h1 h2,λv h1 h2=>by obtain⟨i,a,b,c⟩:=h.all v h1 h2;grind⟩
def yD0 (k D:Nat->Nat) (B n:Nat):Prop:=∀t,t*B<n->Win k D (t*B) (min (t*B+B) n)
theorem iK {α:Type} {r:α->α->Prop} (aez:∀a, ¬r a a) (pq:∀a b c,r a b->r b c->r a c):∀ {l1 l2:List α},l1.Pairwise r->l2.Pairwise r->(∀x,x∈l1↔x∈l2)->l1=l2
 | [],[],_,_,_=>rfl
 | [],y::_,_,_,h=>by have:=(h y).2 (by simp);simp at this
 | x::_,[],_,_,h=>by have:=(h x).1 (by simp);simp at this
 | x::l1,y::l2,h1,h2,h=>by
  obtain⟨a1,a2⟩:=List.pairwise_cons.1 h1;obtain⟨b1,b2⟩:=List.pairwise_cons.1 h2
  have wl:x=y:=by
   rcases List.mem_cons.1 ((h x).1 (by simp)) with e|e
   ·exact e
   ·rcases List.mem_cons.1 ((h y).2 (by simp)) with e2|e2
    ·exact e2.symm
    grind
  subst wl;rw[iK aez pq a2 b2 λz=>?_];grind
def grp (k:Nat->Nat) (n s:Nat):List Nat:=(Ah n).filter λi=>k i==s
def mS (k:Nat->Nat) (n S:Nat):List Nat:=(Ah S).flatMap (grp k n)
theorem mG0 (k:Nat->Nat) (n S:Nat):mS k n (S+1)=mS k n S++grp k n S:=by
 unfold mS;rw[At,Ai];simp
theorem sY0 {k:Nat->Nat} {n s i:Nat}:i∈grp k n s↔i<n/\k i=s:=by
 grind [grp]
theorem mW {k:Nat->Nat} {n S i:Nat}:i∈mS k n S↔i<n/\k i<S:=by
 unfold mS;rw[List.mem_flatMap];constructor
 ·grind [grp]
 ·rintro⟨h1,h2⟩
  exact⟨k i,List.mem_range.2 h2,sY0.2 ⟨h1,rfl⟩⟩
theorem eT0 (k:Nat->Nat) (n s:Nat):(grp k n s).Pairwise (ltK k):=by
 have h:(grp k n s).Pairwise (· < ·):=List.Pairwise.filter _ Bd;grind [Ay,ltK,grp]
theorem jU (k:Nat->Nat) (n:Nat):∀S,(mS k n S).Pairwise (ltK k)
 | 0=>by simp[mS]
 | S+1=>by
  rw[mG0];refine List.pairwise_append.2 ⟨jU k n S,eT0 k n S,λa ha b hb=>?_⟩;grind [mW,sY0,ltK]
theorem wI0 {k D:Nat->Nat} {n S:Nat} (h:Win k D 0 n) (hS:∀i,i<n->k i<S):(Ah n).map D=mS k n S:=by
 refine iK (λ_=>zJ) (by grind [ltK]) ?_ (jU k n S) λx=>?_
 ·rw[Bp]
  refine List.pairwise_iff_getElem.2 λi j hi hj s5=>?_;rw[Bo,Bo];exact h.srt i j (Aj _) s5 (by simpa using hj)
 ·rw[mW,Ca]
  constructor
  ·rintro⟨i,hi,rfl⟩
   have:=h.inn i (Aj _) (List.mem_range.1 hi)
   simp_all
  ·rintro⟨h1,_⟩
   obtain⟨i,_,h3,h4⟩:=h.all x (Aj _) h1;grind
def gI (x y:En):Prop:=x.r=y.r/\x.s=y.s/\x.l=y.l/\x.t=y.t
instance (x y:En):Decidable (gI x y):=by unfold gI; exact inferInstance
def qY (l:List En) (y:En):Prop:=y∈l/\∀z∈l,gI z y->y.c<=z.c
def jS (o:List En):Prop:=o.Pairwise λx y=>lF x y=true
def yZ (l o:List En):Prop:=jS o/\∀y,y∈o↔qY l y
theorem pY:∀ {o o':List En},jS o->jS o'->(∀y,y∈o↔y∈o')->o=o'
 | [],[],_,_,_=>rfl
 | [],b::s,_,_,h=>by have:=(h b).2 (by simp);cases this
 | a::r,[],_,_,h=>by have:=(h a).1 (by simp);cases this
 | a::r,b::s,h1,h2,h=>by
  obtain⟨ha,hr⟩:=List.pairwise_cons.1 h1;obtain⟨hb,hs⟩:=List.pairwise_cons.1 h2
  have km:a=b:=by
   rcases List.mem_cons.1 ((h a).1 (by simp)) with e|e
   ·exact e
   ·rcases List.mem_cons.1 ((h b).2 (by simp)) with e'|e'
    ·exact e'.symm
    grind [jD,eW]
  subst km;have jm:a∉r:=by grind [eW]
  have ie:a∉s:=by grind [eW]
  rw[pY hr hs λy=>?_];grind
theorem yZ.unique {l o o':List En} (h:yZ l o) (h':yZ l o'):o=o':=pY h.1 h'.1 λy=>(h.2 y).trans (h'.2 y).symm
def yC0 (x:En):List En->List En
 | []=>[x]
 | y::r=>if lF y x then y::yC0 x r else x::y::r
theorem bT0 {x y:En}:∀ {o:List En},y∈yC0 x o↔y=x\/y∈o
 | []=>by simp[yC0]
 | z::r=>by
  unfold yC0;split
  ·rw[By,bT0 (o:=r),By]
   grind
  ·simp
theorem xS {x:En}:∀ {o:List En},jS o->x∉o->jS (yC0 x o)
 | [],_,_=>by simp[yC0,jS]
 | z::r,h,hx=>by
  obtain⟨hz,hr⟩:=List.pairwise_cons.1 h;have hxz:x≠z:=by simp_all
  have hxr:x∉r:=by simp_all
  unfold yC0;split
  ·rename_i hl
   refine List.pairwise_cons.2 ⟨λy hy=>?_,xS hr hxr⟩;grind [bT0]
  ·rename_i hl
   have qk:lF x z=true:=by
    have:=qC (x:=z) (y:=x) (Ne.symm hxz)
    rw[this];simpa using hl
   refine List.pairwise_cons.2 ⟨λy hy=>?_,h⟩;rcases List.mem_cons.1 hy with rfl|hy
   ·exact qk
   grind [jD]
def kG0 (l:List En) (y:En):Bool:=l.all λz => !decide (gI z y)||decide (y.c<=z.c)
theorem nG0 {l:List En} {y:En} (hy:y∈l):kG0 l y=true↔qY l y:=by
 grind [kG0,qY]
def yQ (l:List En):List En->List En->List En
 | [],o=>o
 | x::r,o=>if kG0 l x && !decide (x∈o) then yQ l r (yC0 x o) else yQ l r o
def sortS (l:List En):List En:=yQ l l []
theorem oC (l:List En):∀(r done o:List En),l=done++r->jS o->(∀y,y∈o↔y∈done/\kG0 l y=true)->yZ l (yQ l r o)
 | [],done,o,hl,hs,hm=>by
  refine⟨hs,λy=>?_⟩;rw[Au]at hl;grind [nG0,yQ,qY]
 | x::r,done,o,hl,hs,hm=>by
  have jc:l=(done++[x])++r:=by rw[hl];simp
  unfold yQ;split
  ·rename_i hc
   simp only[Ad,Bq,decide_eq_false_iff_not]at hc;refine oC l r _ _ jc (xS hs hc.2) λy=>?_;rw[bT0,hm y];grind
  ·rename_i hc
   simp only[Ad,Bq,decide_eq_false_iff_not,not_and,Decidable.not_not]at hc;refine oC l r _ _ jc hs λy=>?_;grind
theorem gH (l:List En):yZ l (sortS l):=oC l l [] [] rfl (by simp[jS]) (by simp)
end
section
open Go Go.RowKit
attribute [local go_sem] aK
end
section
open Go
def Bad (x:En) (i:Nat) (y:En) (j:Nat):Prop:=gI x y/\(y.c<x.c\/y.c=x.c/\j<i)
instance (x:En) (i:Nat) (y:En) (j:Nat):Decidable (Bad x i y j):=by unfold Bad; exact inferInstance
theorem pK0 {l:List En} {i:Nat} {x:En} (hx:l[i]?=some x):l.take (i+1)=l.take i++[x]:=by rw[An,hx]; rfl
end
section
open Go Go.RowKit
theorem cL1:fZ Tryz.prog 24 30 5 56 aZ where
 sl:=Tryz.underlying24
 info:=iL (z:=.agg #[.string ⟨#[]⟩,.string ⟨#[]⟩,.int .i64 0,.int .i64 0,.int .i64 0]) (by kernel_rfl) rfl
 pos:=by decide
 by1:=by decide
 len _:=rfl
 one:=oE
def qO0 (l:List En) (w:World) (e:Ending) (w':World):Prop:=∃v,e=.returned v/\aU w' w.heap.size 30 5 aZ v (sortS l)/\aB w w'
theorem cO1:∃i,Tryz.prog.info? 30=some i/\i.zero=some eK.agg/\i.size=5/\i.bytes=56:=by
 have h:(Tryz.prog.info? 30).map (λi=>(i.zero,i.size,i.bytes))=some (some eK.agg,5,56):=by kernel_rfl
 cases hi:Tryz.prog.info? 30 with
 | none=>rw[hi]at h;cases h
 | some i =>
  rw[hi]at h;simp only[Option.map_some,Option.some.injEq,Prod.mk.injEq]at h;exact⟨i,rfl,h.1,h.2.1,h.2.2⟩
def fY0 (W:World) (sb n:Nat) (so:List En) (k:Nat):Prop :=
 ∃bv:Array Value,W.heap[sb]?=some (.cells bv 30 (0,0))/\bv.size=n*5/\∀i x,i<k->so[i]?=some x->∀j u,(aZ x)[j]?=some u->bv[i*5+j]?=some u
theorem fY0.froz {W:World} {sb n k:Nat} {so:List En} (h:fY0 W sb n so k) (j:Nat):W.frozen? ⟨sb,j,none⟩=false:=by
 obtain⟨bv,h1,_⟩:=h;simp[World.frozen?,h1]
theorem fY0.cell {W:World} {sb n k:Nat} {so:List En} (h:fY0 W sb n so k) {j:Nat} (hj:j<n*5):∃u,W.cell? ⟨sb,j,none⟩=some u:=by
 obtain⟨bv,h1,h2,_⟩:=h;exact⟨bv[j]'(by omega),by simp[Cb,h1,h2,hj]⟩
theorem fY0.set {W:World} {sb n k:Nat} {so:List En} (h:fY0 W sb n so k) {j:Nat} (hj:k*5<=j) (v:Value):fY0 (W.setCell ⟨sb,j,none⟩ v) sb n so k:=by
 obtain⟨bv,h1,h2,h3⟩:=h;refine⟨bv.setIfInBounds j v,heap_setCell_same W sb j bv _ v h1,by simpa using h2,λi x hi hx m u hu=>?_⟩;have hm:m<5:=by have:=(List.getElem?_eq_some_iff.1 hu).1;rwa [gF]at this
 rw[Am,if_neg (by omega)];exact h3 i x hi hx m u hu
theorem fY0.step {W:World} {sb n k:Nat} {so:List En} {x:En} (h:fY0 W sb n so k) (hk:k<n) (hx:so[k]?=some x) :
  fY0 (((((W.setCell ⟨sb,k*5,none⟩ (.string x.r)).setCell ⟨sb,k*5+1,none⟩ (.string x.s)).setCell ⟨sb,k*5+2,none⟩ (.int .i64 x.l)).setCell ⟨sb,k*5+3,none⟩ (.int .i64 x.t)).setCell ⟨sb,k*5+4,none⟩ (.int .i64 x.c)) sb n so (k+1):=by
 obtain⟨bv,h1,h2,h3⟩:=h;refine⟨((((bv.setIfInBounds (k*5) (.string x.r)).setIfInBounds (k*5+1) (.string x.s)).setIfInBounds (k*5+2) (.int .i64 x.l)).setIfInBounds (k*5+3) (.int .i64 x.t)).setIfInBounds (k*5+4) (.int .i64 x.c),heap_setCell_same _ _ _ _ _ _ (heap_setCell_same _ _ _ _ _ _ (heap_setCell_same _ _ _ _ _ _ (heap_setCell_same _ _ _ _ _ _ (heap_setCell_same W sb _ bv _ _ h1)))),by simpa using h2,λi y hi hy m u hu=>?_⟩;have hm:m<5:=by have:=(List.getElem?_eq_some_iff.1 hu).1;rwa [gF]at this
 rcases Ab i k with hik|hik
 ·simp only[Am]
  rw[if_neg (by omega),if_neg (by omega),if_neg (by omega),if_neg (by omega),if_neg (by omega)];exact h3 i y hik hy m u hu
 ·obtain rfl:i=k:=by omega
  obtain rfl:x=y:=by rw[hx]at hy;exact Option.some.inj hy
  simp only[Am,Array.size_setIfInBounds]
  match m,hm,hu with
  | 0,_,hu=>simp[aZ]at hu;subst hu;simp[h2];omega
  | 1,_,hu=>simp[aZ]at hu;subst hu;simp[h2];omega
  | 2,_,hu=>simp[aZ]at hu;subst hu;simp[h2];omega
  | 3,_,hu=>simp[aZ]at hu;subst hu;simp[h2];omega
  | 4,_,hu=>simp[aZ]at hu;subst hu;simp[h2];omega
theorem fY0.at_ {W:World} {sb n:Nat} {so:List En} (h:fY0 W sb n so so.length):aF W (some ⟨sb,0,none⟩) 5 (so.map aZ):=λ_=>⟨sb,0,rfl,λi row hi j u hj=>by
 obtain⟨bv,h1,h2,h3⟩:=h;rw[List.getElem?_map]at hi
 cases hx:so[i]? with
 | none=>rw[hx]at hi;cases hi
 | some x =>
  rw[hx]at hi;obtain rfl:aZ x=row:=by simpa using hi
  have:=h3 i x (List.getElem?_eq_some_iff.1 hx).1 hx j u hj
  simp[Cb,h1,this]⟩
theorem fY0.made {W:World} {base sb n:Nat} {so:List En} {l:List Value} (h:W.ownsRow base 30 5 (.slice (some ⟨sb,0,none⟩) n n) n l):fY0 W sb n so 0/\base<=sb:=by
 rcases h.2 with ⟨e,_⟩|⟨g,cap,bv,hv,hb,hh,h1,h2,h3,h4⟩
 ·cases e
 ·cases hv
  exact⟨⟨bv,hh,h3,λi x hi=>absurd hi (Nat.not_lt_zero i)⟩,hb⟩
def klE (x:En):Lit := .string (keyBytes [.string x.r.data.toList,.string x.s.data.toList,.int .i64 x.l,.int .i64 x.t,.int .i64 x.c])
theorem pT:Go.Maps.Keyed Tryz.prog 30:=Go.Maps.Keyed.of_law (deep_law_laid cQ0 (m:=3) (by decide) (of_decide_eq_true (by kernel_rfl)) (by kernel_rfl) (by kernel_rfl))
theorem yL0 {x:En} (h:tL x):Go.keyOf Tryz.prog 30 x.agg=some (klE x):=by
 obtain⟨m,hm⟩:∃m,Tryz.prog.types.size=m+1:=⟨Tryz.prog.types.size-1,by have:0<Tryz.prog.types.size:=of_decide_eq_true (by kernel_rfl);omega⟩
 have hS:∀(s:ByteArray),s.size<=maxLen->Tryz.prog.keyLits (m+1) 9 [.string s]=some [.string s.data.toList]:=λs hs=>by
  unfold Program.keyLits;simp only[Tryz.underlying9,if_pos hs]
 have hI:∀(n:Int),(Lit.int .i64 n).wf=true->Tryz.prog.keyLits (m+1) 3 [.int .i64 n]=some [.int .i64 n]:=λn hn=>by
  unfold Program.keyLits;simp only[Tryz.underlying3,hn,and_self,if_true]
 have hk:Tryz.prog.keyType 30=true:=by kernel_rfl
 have hc:Tryz.prog.cellsOf 30=5:=by kernel_rfl
 have cn:Tryz.prog.cellsOf 9=1:=by kernel_rfl
 have hci:Tryz.prog.cellsOf 3=1:=by kernel_rfl
 obtain⟨r,s,l,t,c⟩:=x;obtain⟨h1,h2,h3,h4,h5⟩:=h;have g1:=hS r h1;have g2:=hS s h2;have g3:=hI l h3;have g4:=hI t h4;have g5:=hI c h5;unfold Go.keyOf;simp only[Tryz.underlying30,hk,Ba];unfold Value.formed En.agg;simp only[Tryz.underlying30,hc];have hz:((#[Value.string r,.string s,.int .i64 l,.int .i64 t,.int .i64 c]:Array Value).size==5)=true:=rfl;rw[if_pos hz,hm];unfold Program.keyLits;simp only[Tryz.underlying30,hc,Value.cells];simp[cn,hci,g1,g2,g3,g4,g5,klE]
theorem gR0 {x y:En} (hx:tL x) (hy:tL y) (h:klE x=klE y):x=y:=by
 have h1:=yL0 hx;have h2:=yL0 hy;rw[h]at h1
 have:=pT.inj h1 h2
 obtain⟨a,b,c,d,e⟩:=x;obtain⟨a',b',c',d',e'⟩:=y;simpa [En.agg] using this
theorem jL0 {key:Value} {kl:Lit} (h:Go.keyOf Tryz.prog 30 key=some kl):∃x:En,tL x/\key=x.agg/\kl=klE x:=by
 obtain⟨m,hm⟩:∃m,Tryz.prog.types.size=m+1:=⟨Tryz.prog.types.size-1,by have:0<Tryz.prog.types.size:=of_decide_eq_true (by kernel_rfl);omega⟩
 have hS:∀(v:Value) (ls:List Lit),Tryz.prog.keyLits (m+1) 9 [v]=some ls->∃s:ByteArray,v=.string s/\s.size<=maxLen/\ls=[.string s.data.toList]:=λv ls h=>by
  unfold Program.keyLits at h;simp only[Tryz.underlying9]at h;cases v<;>simp at h
  rename_i s
  exact⟨s,rfl,h.1,h.2.symm⟩
 have hI:∀(v:Value) (ls:List Lit),Tryz.prog.keyLits (m+1) 3 [v]=some ls->∃n:Int,v=.int .i64 n/\(Lit.int .i64 n).wf=true/\ls=[.int .i64 n]:=λv ls h=>by
  unfold Program.keyLits at h;simp only[Tryz.underlying3]at h;cases v<;>simp at h
  obtain⟨⟨rfl,h2⟩,h3⟩:=h;exact⟨_,rfl,h2,h3.symm⟩
 have hk:Tryz.prog.keyType 30=true:=by kernel_rfl
 have hc:Tryz.prog.cellsOf 30=5:=by kernel_rfl
 have cn:Tryz.prog.cellsOf 9=1:=by kernel_rfl
 have hci:Tryz.prog.cellsOf 3=1:=by kernel_rfl
 unfold Go.keyOf at h;simp only[Tryz.underlying30,hk,Ba]at h;split at h
 ·rename_i hf
  rw[hm]at h
  obtain⟨cs,rfl,cw⟩:∃cs,key=.agg cs/\cs.size=5:=by
   unfold Value.formed at hf;cases key<;>simp[Tryz.underlying30,hc]at hf
   exact⟨_,rfl,hf⟩
  obtain⟨l⟩:=cs
  match l,cw with
  | [c0,c1,c2,c3,c4],_ =>
   rw[nW Tryz.underlying30]at h;simp only[Value.cells]at h;simp[cn,hci,hc,Bb,Bv]at h;obtain⟨l0,g0,a1,⟨l1,g1,a2,⟨l2,g2,a3,⟨l3,g3,a4,⟨l4,g4,rfl⟩,rfl⟩,rfl⟩,rfl⟩,rfl⟩:=h;obtain⟨s0,rfl,z0,rfl⟩:=hS _ _ g0;obtain⟨s1,rfl,z1,rfl⟩:=hS _ _ g1;obtain⟨n2,rfl,z2,rfl⟩:=hI _ _ g2;obtain⟨n3,rfl,z3,rfl⟩:=hI _ _ g3;obtain⟨n4,rfl,z4,rfl⟩:=hI _ _ g4;exact⟨⟨s0,s1,n2,n3,n4⟩,⟨z0,z1,z2,z3,z4⟩,rfl,by simp[klE]⟩
 ·cases h
end
section
open Go Go.RowKit
def gV (x:En):En:={ x with c:=0 }
theorem tL.key {x:En} (h:tL x):tL (gV x):=⟨h.r,h.s,h.l,h.t,by show (Lit.int .i64 0).wf=true; decide⟩
theorem xV {z y:En} (hy:y.c=0) (h:gI z y):y=gV z:=by
 obtain⟨a,b,c,d,e⟩:=z;obtain⟨a',b',c',d',e'⟩:=y;obtain⟨rfl,rfl,rfl,rfl⟩:=h;simp only at hy;subst hy;rfl
theorem tY (z:En):gI z (gV z):=⟨rfl,rfl,rfl,rfl⟩
theorem qB0 (y:En):WideAt.IsKeyLit (klE y):=by simp[klE,WideAt.IsKeyLit]
theorem xC0 (y:En):(klE y).sameKey (klE y)=true:=by simp[klE,Lit.sameKey]
section
variable {H:Type}
def AtE (D:DataW H) (y:En):Option Int->Prop
 | none=>Maps.has D (klE y)=false
 | some c=>Maps.has D (klE y)=true/\∀zd,D.atKey (klE y) zd=.lit (.int .i64 c)
def jW0 (l:List En) (y:En):Option Int->Prop
 | none=>∀z∈l,¬gI z y
 | some c=>(∃z∈l,gI z y/\z.c=c)/\∀z∈l,gI z y->c<=z.c
def nP0 (l:List En) (D:DataW H):Prop:=∀y,tL y->(y.c≠0->Maps.has D (klE y)=false)/\(y.c=0->∃o,jW0 l y o/\AtE D y o)
theorem AtE.unique {D:DataW H} {y:En} {o o':Option Int} (h:AtE D y o) (h':AtE D y o'):o=o':=by
 cases o with
 | none=>cases o' with
  | none=>rfl
  | some c=>have h1:Maps.has D (klE y)=false:=h;rw[h'.1]at h1;cases h1
 | some c=>cases o' with
  | none=>have h1:Maps.has D (klE y)=false:=h';rw[h.1]at h1;cases h1
  | some c' =>
   have h1:=h.2 (.lit (.int .i64 0));rw[h'.2]at h1;simpa using h1.symm
theorem jW0.snoc_other {l:List En} {y z:En} {o:Option Int} (h:jW0 l y o) (hn:¬gI z y):jW0 (l++[z]) y o:=by
 cases o with
 | none =>
  intro x hx;rcases List.mem_append.1 hx with hx|hx
  ·exact h x hx
  ·obtain rfl:x=z:=by simpa using hx
   exact hn
 | some c =>
  obtain⟨⟨x,hx,h1,h2⟩,h3⟩:=h;refine⟨⟨x,As _ hx,h1,h2⟩,λx hx hk=>?_⟩;rcases List.mem_append.1 hx with hx|hx
  ·exact h3 x hx hk
  ·obtain rfl:x=z:=by simpa using hx
   exact absurd hk hn
theorem vY0:nP0 (H:=H) [] (.map []):=λy _=>⟨λ_=>rfl,λ_=>⟨none,λz hz=>by simp at hz,rfl⟩⟩
theorem nP0.skip {l:List En} {D:DataW H} (h:nP0 l D) {z:En} {c:Int} (ha:AtE D (gV z) (some c)) (hc:c<=z.c):nP0 (l++[z]) D:=λy hy=>by
 refine⟨(h y hy).1,λh0=>?_⟩;obtain⟨o,ho,hD⟩:=(h y hy).2 h0;by_cases hk:gI z y
 ·have e:=xV h0 hk
  subst e;obtain rfl:=hD.unique ha;refine⟨some c,⟨?_,λx hx hk=>?_⟩,ha⟩
  ·obtain⟨⟨x,hx,h1,h2⟩,_⟩:=ho
   exact⟨x,As _ hx,h1,h2⟩
  ·rcases List.mem_append.1 hx with hx|hx
   ·exact ho.2 x hx hk
   ·obtain rfl:x=z:=by simpa using hx
    exact hc
 ·exact⟨o,ho.snoc_other hk,hD⟩
theorem nP0.store {l:List En} {D:DataW H} (h:nP0 l D) (hm:Maps.IsMap D) {z:En} (hz:tL z) {o:Option Int} (ha:AtE D (gV z) o) (hc:∀c,o=some c->z.c<c):nP0 (l++[z]) (D.put (klE (gV z)) (.lit (.int .i64 z.c))):=λy hy=>by
 refine⟨λh0=>?_,λh0=>?_⟩
 ·have ai:klE y≠klE (gV z):=λe=>h0 (by rw[gR0 hy hz.key e];rfl)
  rw[Maps.has_put_other ai];exact(h y hy).1 h0
 ·obtain⟨o',ho,hD⟩:=(h y hy).2 h0
  by_cases hk:gI z y
  ·have e:=xV h0 hk
   subst e;obtain rfl:=hD.unique ha;refine⟨some z.c,⟨⟨z,by simp,tY z,rfl⟩,λx hx hk=>?_⟩,Maps.has_put_same hm (qB0 _) _,λzd=>Maps.atKey_put_same hm (qB0 _) _ _⟩;rcases List.mem_append.1 hx with hx|hx
   ·cases o' with
    | none=>exact absurd hk (ho x hx)
    | some c =>
     have h1:=ho.2 x hx hk;have h2:=hc c rfl;omega
   ·obtain rfl:x=z:=by simpa using hx
    exact Int.le_refl _
  ·have ai:klE y≠klE (gV z):=λe=>hk (by rw[gR0 hy hz.key e];exact tY z)
   refine⟨o',ho.snoc_other hk,?_⟩
   cases o' with
   | none =>
    show Maps.has _ _=false
    rw[Maps.has_put_other ai];exact hD
   | some c=>exact⟨by rw[Maps.has_put_other ai];exact hD.1,λzd=>by rw[Maps.atKey_put_other ai];exact hD.2 zd⟩
def hT0 (D:DataW H) (left:Lit->Bool) (ys:List En):Prop:=ys.Nodup/\(∀y∈ys,tL y)/\∀y,tL y->(y∈ys↔AtE D (gV y) (some y.c)/\left (klE (gV y))=false)
theorem hV0 (D:DataW H):hT0 D (Maps.has D) []:=⟨List.nodup_nil,λy hy=>by simp at hy,λy _=>⟨λh=>by simp at h,λ⟨h1,h2⟩=>by rw[h1.1]at h2; cases h2⟩⟩
theorem hT0.step {l:List En} {D:DataW H} {left:Lit->Bool} {ys:List En} (h:hT0 D left ys) (hM:nP0 l D) {x:En} (hx:tL x) {c:Int} (hc:(Lit.int .i64 c).wf=true) (hl:left (klE x)=true) (ac:∀zd,D.atKey (klE x) zd=.lit (.int .i64 c)) :
  hT0 D (λz=>left z && !z.sameKey (klE x)) (ys++[{ x with c:=c }]):=by
 have gm:=Maps.has_true_of_atKey ac
 have h0:x.c=0:=Decidable.byContradiction λhn=>by
  have:=(hM x hx).1 hn
  rw[this]at gm;cases gm
 have hkx:gV { x with c:=c }=x:=by
  obtain⟨a,b,d,e,f⟩:=x;simp only at h0;subst h0;rfl
 have hxA:AtE D x (some c):=⟨gm,ac⟩;have ab5:tL { x with c:=c }:=⟨hx.r,hx.s,hx.l,hx.t,hc⟩
 obtain⟨h1,h2,h3⟩:=h;refine⟨?_,λy hy=>?_,λy hy=>?_⟩
 ·refine List.nodup_append.2 ⟨h1,by simp,λy hy z hz e=>?_⟩
  obtain rfl:z={ x with c:=c }:=by simpa using hz
  subst e
  have:=((h3 _ ab5).1 hy).2
  rw[hkx,hl]at this;cases this
 ·rcases List.mem_append.1 hy with hy|hy
  ·exact h2 y hy
  ·obtain rfl:y={ x with c:=c }:=by simpa using hy
   exact ab5
 ·constructor
  ·intro hm
   rcases List.mem_append.1 hm with hm|hm
   ·obtain⟨k1,k2⟩:=(h3 y hy).1 hm
    exact⟨k1,by simp[k2]⟩
   ·obtain rfl:y={ x with c:=c }:=by simpa using hm
    rw[hkx];exact⟨hxA,by simp[xC0]⟩
  ·rintro⟨k1,k2⟩
   by_cases hk:klE (gV y)=klE x
   ·have e:=gR0 hy.key hx hk
    rw[e]at k1;have e2:y.c=c:=by simpa using k1.unique hxA
    have:y={ x with c:=c }:=by
     rw[<-e,<-e2];obtain⟨a,b,d,e,f⟩:=y;rfl
    rw[this];simp
   ·have k3:(left (klE (gV y)) && !(klE (gV y)).sameKey (klE x))=false:=k2
    rw[Maps.sameKey_ne hk]at k3;exact As _ ((h3 y hy).2 ⟨k1,by simpa using k3⟩)
theorem hT0.least {l:List En} {D:DataW H} {left:Lit->Bool} {ys:List En} (h:hT0 D left ys) (hM:nP0 l D) (hl:∀x∈l,tL x) (h0:∀kl,left kl=false) (y:En):y∈ys↔qY l y:=by
 have key:∀y,tL y->(AtE D (gV y) (some y.c)↔qY l y):=λy hy=>by
  obtain⟨o,ho,hD⟩:=(hM (gV y) hy.key).2 rfl;constructor
  ·intro h1
   obtain rfl:=hD.unique h1;obtain⟨⟨z,hz,k1,k2⟩,k3⟩:=ho;refine⟨?_,λx hx hk=>k3 x hx hk⟩
   have:z=y:=by
    obtain⟨a,b,d,e,f⟩:=z;obtain⟨a',b',d',e',f'⟩:=y;obtain⟨rfl,rfl,rfl,rfl⟩:=k1;simp only at k2;subst k2;rfl
   rw[<-this];exact hz
  ·rintro⟨hy2,h2⟩
   cases o with
   | none=>exact absurd (tY y) (ho y hy2)
   | some c =>
    obtain⟨⟨z,hz,k1,k2⟩,k3⟩:=ho;have e1:=k3 y hy2 (tY y);have e2:=h2 z hz k1
    have:c=y.c:=by omega
    rw[<-this];exact hD
 constructor
 ·intro hy
  have aq:=h.2.1 y hy;exact(key y aq).1 ((h.2.2 y aq).1 hy).1
 ·intro hy
  have aq:=hl y hy.1;exact(h.2.2 y aq).2 ⟨(key y aq).2 hy,h0 _⟩
end
end
end Go.Proofs.YthgklnohcmaopaaGreatDoor
