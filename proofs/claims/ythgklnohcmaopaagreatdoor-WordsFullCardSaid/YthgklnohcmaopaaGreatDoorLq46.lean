/- The texts W21d CutW qM Lrn21L FulP OpenCas2, one behind the other. -/
import Derived.Test.YthgklnohcmaopaaGreatDoorLq45
import Derived.Laws.RangeAny
import Derived.Test.YthgklnohcmaopaaGreatDoorLq28
import Derived.Test.YthgklnohcmaopaaGreatDoorLq43
import Derived.Test.YthgklnohcmaopaaGreatDoorLq22
open Go.Lib renaming hid → Aa,toList_data → Av,size_eq → Ay,validD → Az
open List renaming getElem?_eq_getElem → Ab,mem_of_getElem? → Ac,length_append → Ad,foldl → Ae,take_append_drop → Ag,length_map → Ah,flatten_append → Ai,nil_append → Am,length → Aq
open Go.World renaming block_lt_of_cell? → Af,cell?_setCell_other → Aj,frozen?_setCell → An
open Int renaming eq_ofNat_of_zero_le → Ak
open Nat renaming le_of_eq → Al,zero_le → Ao,le_refl → As
open ByteArray renaming size → Ap
open Bool renaming not_eq_true → Ar,false_or → Aw
open UInt8 renaming ofNat → At,toNat → Au
open Or renaming elim → Ax
open Prod renaming fst → Ba
set_option maxHeartbeats 16000000
namespace Go.Proofs.YthgklnohcmaopaaGreatDoor
set_option maxRecDepth 100000
section
open Go Go.RowKit Go.Shelf
attribute [local go_sem] aO aM
def caseN (c:rQ) (C:List (List UInt8)):List Nd:=fP C (sortS c.s.e) c.l (plainP c.s.p:Nat)
structure qL1 (c:rQ) (w0 w:World) (db:Nat) (m:Mx) (C:List (List UInt8)) (v:Value):Prop where
 li:rI c=true
 d:aO0 c.s w db m
 co:fJ C
 fl:C.flatten=bl c.x
 ne:C≠[]
 le:C.length<=64
 few:(caseN c C).length<=10000
 own:aX w w0.heap.size 51 7 dD v (caseN c C)
def jE1 (c:rQ) (w:World) (e:Ending) (w':World):Prop :=
 aB w w'/\∃dv v b,e=.returned (.tuple #[dv,v,.bool b])/\(b=true->∃db m C,dv=.pointer (some ⟨db,0,none⟩)/\qL1 c w w' db m C v)
theorem jE1.no {c:rQ} {w w':World} (hg:aB w w') (dv v:Value):jE1 c w (.returned (.tuple #[dv,v,.bool false])) w':=⟨hg,dv,v,false,rfl,λh=>by cases h⟩
theorem aO0.ne {x:yH} {w:World} {db:Nat} {m:Mx} (h:aO0 x w db m):x.p≠[]:=λe=>by
 have h1:=(dX h.dk.chk).2.2.1;rw[e]at h1;cases h1
theorem oR0 (c:rQ) (A:cQ0) (w:World) (he:Env w) (ag:pU0 c) (ac:aE0 w A c) :
  Calls Tryz.prog 12 #[A.agg c] w (jE1 c w):=by
 have HE:=Aa he;have HOK:=Aa ag;obtain⟨⟨xp,xd,xs,xe⟩,x,ls⟩:=c;obtain⟨⟨pa,pc,sa,sc,ea,ec⟩,la,lc⟩:=A;obtain⟨W0,cq⟩:=exq (w.alloc (.cells #[.slice pa xp.length pc,.int .i64 xd,.slice sa xs.length sc,.slice ea xe.length ec,.string x,.slice la ls.length lc] 43));have dh:aB w W0:=by rw[cq];exact aB.alloc _ _
 obtain⟨bc,_⟩:=bT (show aB (w.alloc (.cells #[.slice pa xp.length pc,.int .i64 xd,.slice sa xs.length sc,.slice ea xe.length ec,.string x,.slice la ls.length lc] 43)) W0 by rw[cq];exact aB.refl _)
 have HB:=Aa (And.intro (bc 0 _ rfl) (And.intro (bc 1 _ rfl) (And.intro (bc 2 _ rfl) (And.intro (bc 3 _ rfl) (And.intro (bc 4 _ rfl) (bc 5 _ rfl))))));have q0:=bc 0 _ rfl;have q1:=bc 1 _ rfl;have q2:=bc 2 _ rfl;have q3:=bc 3 _ rfl;have q4:=bc 4 _ rfl;have q5:=bc 5 _ rfl;have CL:=Aa (oG0 ⟨⟨xp,xd,xs,xe⟩,x,ls⟩ ⟨⟨pa,pc,sa,sc,ea,ec⟩,la,lc⟩ W0 ag (ac.grows dh));unfold cQ0.agg at CL;simp only at CL;have CO:=λ(hl:mK ⟨xp,xd,xs,xe⟩=true) (u:World) (hu:aB w u)=>Aa (sL0 ⟨xp,xd,xs,xe⟩ ⟨pa,pc,sa,sc,ea,ec⟩ u (HE.out.grows hu) ag.s hl (ac.s.grows hu));unfold cF0.agg cF0.cells at CO;simp only at CO;have HLA:Hid (aG w la 3 (ls.map cU)):=ac.l;show Calls _ _ #[.agg #[.slice pa xp.length pc,.int .i64 xd,.slice sa xs.length sc,.slice ea xe.length ec,.string x,.slice la ls.length lc]] _ (jE1 ⟨⟨xp,xd,xs,xe⟩,x,ls⟩ w)
 clear he ag ac bc;by_cases hl:rI ⟨⟨xp,xd,xs,xe⟩,x,ls⟩=true
 ·rw[hl]at CL
  have HLI:=Aa hl;obtain⟨qm,ky,hl3,hl4⟩:=bI0 hl;have HL4:Hid (∀y∈ls,y.r.size<=400/\y.s.size<=400):=hl4;simp only at qm ky hl3;have CO2:=CO qm;clear CO hl qm hl4;go_enter Tryz.func12,Tryz.ntmps12
  go_wp2_with fail
  rw[<-cq];clear cq;refine CL.out.mono ?_;rintro e w1 ⟨rfl,an⟩;have g1:=dh.tr an;have q0:=an.cell HB.out.1;have q1:=an.cell HB.out.2.1;have q2:=an.cell HB.out.2.2.1;have q3:=an.cell HB.out.2.2.2.1;clear CL;go_wp2_with fail
  refine(CO2 w1 g1).out.mono ?_;rintro e w2 ⟨af,hd⟩;have g2:=g1.tr af;clear CO2;rcases hd with ⟨aj,rfl⟩|⟨db,m,rfl,hd⟩
  ·generalize makeE _ _ _=E at aj
   have hEb:(E != 0)=true:=by simpa using aj
   have HN:=Aa (jE1.no (c:=⟨⟨xp,xd,xs,xe⟩,x,ls⟩) g2 (.pointer none) (.slice none 0 0));clear aj;go_wp2_with fail
   go_ret3;exact HN.out
  ·have q4:=af.cell (an.cell HB.out.2.2.2.2.1)
   have q5:=af.cell (an.cell HB.out.2.2.2.2.2);have HD:=Aa hd;have aj:=hd.ne;by_cases rz:wchk x=0
   ·obtain⟨C,hC,hf,h0,mm⟩:=dP1 rz
    have CN:=Aa (uV xp m (sortS xe) db x C ls la lc w2 (HE.out.grows g2) hd.dk hd.d hC hf h0 mm aj (by omega) HOK.out.l (λy hy=>by have:=HL4.out y hy;omega) (HLA.out.grows g2) (by omega) rz);have HCC:=Aa (And.intro hC (And.intro hf (And.intro h0 mm)));obtain⟨L,hL⟩:=exq (fP C (sortS xe) ls (plainP xp:Nat));rw[<-hL]at CN;have HL:=Aa hL;clear hd aj rz hC hf h0 mm hL;go_wp2_with fail
    refine CN.out.mono ?_;rintro e w3 ⟨ax,v3,rfl,nu⟩;have g3:=g2.tr ax;by_cases qg:L.length<=10000
    ·rw[if_pos qg]at nu
     have ol:(if L.length<=10000 then (0:Int) else 7)=0:=if_pos qg
     rw[ol];have HP:jE1 ⟨⟨xp,xd,xs,xe⟩,x,ls⟩ w (.returned (.tuple #[.pointer (some ⟨db,0,none⟩),v3,.bool true])) w3:=⟨g3,_,_,_,rfl,λ_=>⟨db,m,C,rfl,⟨HLI.out,HD.out.grows ax,HCC.out.1,HCC.out.2.1,HCC.out.2.2.1,HCC.out.2.2.2,(by unfold caseN;show (fP C (sortS xe) ls (plainP xp:Nat)).length<=_;rw[<-HL.out];exact qg),(by unfold caseN;show aX _ _ _ _ _ _ (fP C (sortS xe) ls (plainP xp:Nat));rw[<-HL.out];exact nu.base g2.size)⟩⟩⟩
     have HP:=Aa HP;clear CN ol nu qg HL;go_wp2_with fail
     go_ret3;exact HP.out
    ·have ol:(if L.length<=10000 then (0:Int) else 7)=7:=if_neg qg
     rw[ol];have HN:=Aa (jE1.no (c:=⟨⟨xp,xd,xs,xe⟩,x,ls⟩) g3 (.pointer (some ⟨db,0,none⟩)) v3);clear CN ol nu qg HL;go_wp2_with fail
     go_ret3;exact HN.out
   ·have CN:=Aa (uA0 db x la ls.length lc w2 (HE.out.grows g2) (by omega) rz)
    generalize wchk x=E at CN rz;have hEb:(E==0)=false:=by simpa using rz
    have HN:=λw3 (hg:aB w2 w3)=>Aa (jE1.no (c:=⟨⟨xp,xd,xs,xe⟩,x,ls⟩) (g2.tr hg) (.pointer (some ⟨db,0,none⟩)) (.slice none 0 0));clear hd aj rz;go_wp2_with fail
    refine CN.out.mono ?_;rintro e w3 ⟨rfl,ax⟩;have HN3:=HN w3 ax;clear CN HN;go_wp2_with fail
    go_ret3;exact HN3.out
 ·rw[Ar]at hl
  rw[hl]at CL;have HN:=λw3 (hg:aB w w3)=>Aa (jE1.no (c:=⟨⟨xp,xd,xs,xe⟩,x,ls⟩) hg (.pointer none) (.slice none 0 0));clear CO hl;go_enter Tryz.func12,Tryz.ntmps12
  go_wp2_with fail
  rw[<-cq];clear cq;refine CL.out.mono ?_;rintro e w1 ⟨rfl,an⟩;have HN2:=HN w1 (dh.tr an);clear CL HN;go_wp2_with fail
  go_ret3;exact HN2.out
def offC (C:List (List UInt8)) (n:Nat):Nat:=(C.take n).flatten.length
theorem yU0 {C:List (List UInt8)} {n:Nat} {c:List UInt8} (h:C[n]?=some c):offC C (n+1)=offC C n+c.length:=by
 unfold offC;rw[bM h,Ai,Ad];simp
theorem sC0 {C:List (List UInt8)} {s:ByteArray} (hf:C.flatten=bl s):offC C C.length=s.size:=by
 grind [dO,offC]
theorem kY0 {C:List (List UInt8)} {s:ByteArray} (hf:C.flatten=bl s) (n:Nat):(bl s).drop (offC C n)=(C.drop n).flatten:=by
 grind [Ag,offC]
theorem aH0 {C:List (List UInt8)} {a b:Nat} (h:a<=b):offC C a<=offC C b:=by
 unfold offC;rw[show C.take a=(C.take b).take a by grind]
 exact rV0 (List.take_sublist _ _)
theorem kS1 {C:List (List UInt8)} (hC:fJ C) {s:ByteArray} (hf:C.flatten=bl s) {n:Nat} {c:List UInt8} (h:C[n]?=some c):(Utf8.decode s (offC C n)).2=c.length:=by
 have hm:=hC c (by grind);rw[<-Lib.decodeL_drop,show s.data.toList=bl s from rfl,kY0 hf]
 grind [List.drop_eq_getElem_cons,xV.app,xV.len]
theorem iG1 {C:List (List UInt8)} {s:ByteArray} (hf:C.flatten=bl s) {f t:Nat} (hft:f<=t):s.extract (offC C f) (offC C t)=ptC C f t:=by
 refine rM0 ?_;rw[bH0];show (s.extract (offC C f) (offC C t)).data.toList=_
 rw[ByteArray.data_extract,Array.toList_extract];show ((s.data.toList.drop (offC C f)).take (offC C t-offC C f))=_
 rw[show s.data.toList=bl s from rfl,kY0 hf]
 have h2:(C.drop f).flatten=((C.drop f).take (t-f)).flatten++((C.drop f).drop (t-f)).flatten:=by rw[<-Ai,Ag]
 have h3:offC C t-offC C f=((C.drop f).take (t-f)).flatten.length:=by
  unfold offC
  have:C.take t=C.take f++(C.drop f).take (t-f):=by
   have:=Ag f (C.take t)
   rw[List.take_take,show min f t=f by omega,List.drop_take]at this
   exact this.symm
  rw[this,Ai,Ad];omega
 rw[h3,h2];exact List.take_left
theorem zV {s:ByteArray} {C:List (List UInt8)} (hC:fJ C) (hf:C.flatten=bl s):countS s=(C.length:Nat):=by
 have hv:Az (bl s)=true:=gC.2 ⟨C,hC,hf⟩;rw[jE hv,<-hf,(dY hC).2];grind [rS]
theorem nA1 (s:ByteArray) (C:List (List UInt8)) (f t:Nat) (w:World) (he:Env w) (hs:s.size<=140737488355328) (hC:fJ C) (hf:C.flatten=bl s) (hft:f<=t) (mj:t<=C.length) :
  Calls Tryz.prog 13 #[.string s,.int .i64 f,.int .i64 t] w λe w'=>e=.returned (.tuple #[.string (ptC C f t),.bool true])/\aB w w':=by
 have cj:countS s=(C.length:Nat):=zV hC hf;have CC:=Aa (kP s w (by omega) he);rw[cj]at CC
 have aja:C.length<=s.size:=by
  have h1:=(dY hC).2;rw[hf]at h1;have h2:=jH (bl s);rw[h1,dO]at h2;unfold rS at h2;rwa [Ah]at h2
 have n1:decide ((f:Int)<0)=false:=decide_eq_false (by omega);have n2:decide ((t:Int)<f)=false:=decide_eq_false (by omega);have n3:decide ((C.length:Int)<t)=false:=decide_eq_false (by omega);have HCO:=Aa hC;have HFL:=Aa hf;clear he cj hC hf;go_enter Tryz.func13,Tryz.ntmps13
 go_wp2_with fail
 refine CC.out.mono ?_;rintro e w1 ⟨rfl,an⟩;clear CC;go_wp2_with fail
 go_loopw [8,9,10] (λa b n wr=>∃k:Nat,k<=C.length/\n=.int .i64 k/\a=.int .i64 ((if f<k then offC C f else s.size:Nat):Int)/\b=.int .i64 ((if t<k then offC C t else s.size:Nat):Int)/\wr=w1.iter s (offC C k)) (λ_ _ n _=>C.length-(intOf n).toNat)
 case atStart=>exact⟨0,Ao _,rfl,by simp,by simp,by simp[offC]⟩
 case round =>
  obtain⟨k,hk,rfl,rfl,rfl,rfl⟩:=hrel;by_cases ae:k<C.length
  ·obtain⟨c,hc⟩:∃c,C[k]?=some c:=⟨_,Ab ae⟩
   have vt:=kS1 HCO.out HFL.out hc;have hsc:=yU0 hc;have aj:1<=c.length:=List.length_pos_iff.2 (HCO.out c (Ac hc)).ne;have gv:=aH0 (C:=C) (show k+1<=C.length by omega)
   rw[sC0 HFL.out]at gv;have hnx:∀ty,(Instr.next (.pointer (some ⟨w1.heap.size,0,none⟩)) true ty).run Tryz.prog (w1.iter s (offC C k))=_:=λty=>run_next_any w1 s (offC C k) ty (by omega);rw[vt,<-hsc]at hnx;generalize (Utf8.decode s (offC C k)).1=rn at hnx
   have hA:(if f<k+1 then offC C f else s.size)=if k=f then offC C k else (if f<k then offC C f else s.size):=by
    by_cases e:k=f
    ·rw[if_pos e,if_pos (by omega),e]
    ·rw[if_neg e]
     by_cases e2:f<k
     ·rw[if_pos e2,if_pos (by omega)]
     ·rw[if_neg e2,if_neg (by omega)]
   have hB:(if t<k+1 then offC C t else s.size)=if k=t then offC C k else (if t<k then offC C t else s.size):=by
    by_cases e:k=t
    ·rw[if_pos e,if_pos (by omega),e]
    ·rw[if_neg e]
     by_cases e2:t<k
     ·rw[if_pos e2,if_pos (by omega)]
     ·rw[if_neg e2,if_neg (by omega)]
   have HA:=Aa hA;have HB:=Aa hB;generalize (if f<k then offC C f else s.size)=A at HA
   generalize (if t<k then offC C t else s.size)=B at HB
   clear hA hB hc vt hsc aj gv;by_cases e1:k=f
   ·have b1:((k:Int)==f)=true:=by rw[beq_iff_eq];omega
    by_cases e2:k=t
    ·have b2:((k:Int)==t)=true:=by rw[beq_iff_eq];omega
     have HA2:Hid ((if f<k+1 then offC C f else s.size)=offC C k):=by show _=_;rw[HA.out,if_pos e1]
     have HB2:Hid ((if t<k+1 then offC C t else s.size)=offC C k):=by show _=_;rw[HB.out,if_pos e2]
     clear e1 e2;go_wp2_with fail
     go_roundw
     case rel=>exact⟨k+1,ae,by go_num,by rw[HA2.out],by rw[HB2.out],rfl⟩
     case measure=>simp[intOf];omega
    ·have b2:((k:Int)==t)=false:=by rw[beq_eq_false_iff_ne];omega
     have HA2:Hid ((if f<k+1 then offC C f else s.size)=offC C k):=by show _=_;rw[HA.out,if_pos e1]
     have HB2:Hid ((if t<k+1 then offC C t else s.size)=B):=by show _=_;rw[HB.out,if_neg e2]
     clear e1 e2;go_wp2_with fail
     go_roundw
     case rel=>exact⟨k+1,ae,by go_num,by rw[HA2.out],by rw[HB2.out],rfl⟩
     case measure=>simp[intOf];omega
   ·have b1:((k:Int)==f)=false:=by rw[beq_eq_false_iff_ne];omega
    by_cases e2:k=t
    ·have b2:((k:Int)==t)=true:=by rw[beq_iff_eq];omega
     have HA2:Hid ((if f<k+1 then offC C f else s.size)=A):=by show _=_;rw[HA.out,if_neg e1]
     have HB2:Hid ((if t<k+1 then offC C t else s.size)=offC C k):=by show _=_;rw[HB.out,if_pos e2]
     clear e1 e2;go_wp2_with fail
     go_roundw
     case rel=>exact⟨k+1,ae,by go_num,by rw[HA2.out],by rw[HB2.out],rfl⟩
     case measure=>simp[intOf];omega
    ·have b2:((k:Int)==t)=false:=by rw[beq_eq_false_iff_ne];omega
     have HA2:Hid ((if f<k+1 then offC C f else s.size)=A):=by show _=_;rw[HA.out,if_neg e1]
     have HB2:Hid ((if t<k+1 then offC C t else s.size)=B):=by show _=_;rw[HB.out,if_neg e2]
     clear e1 e2;go_wp2_with fail
     go_roundw
     case rel=>exact⟨k+1,ae,by go_num,by rw[HA2.out],by rw[HB2.out],rfl⟩
     case measure=>simp[intOf];omega
  ·obtain rfl:k=C.length:=by omega
   have aw:=sC0 HFL.out
   have hA:(if f<C.length then offC C f else s.size)=offC C f:=by
    by_cases e:f<C.length
    ·rw[if_pos e]
    ·rw[if_neg e,show f=C.length by omega,aw]
   have hB:(if t<C.length then offC C t else s.size)=offC C t:=by
    by_cases e:t<C.length
    ·rw[if_pos e]
    ·rw[if_neg e,show t=C.length by omega,aw]
   rw[hA,hB,aw];have hnx:∀ty,(Instr.next (.pointer (some ⟨w1.heap.size,0,none⟩)) true ty).run Tryz.prog (w1.iter s s.size)=_:=λty=>run_next_end w1 s s.size ty (by omega);have HP:=Aa (iG1 HFL.out hft);have h1:=aH0 (C:=C) hft;have h2:=aH0 (C:=C) mj;rw[aw]at h2;have HG:Hid (aB w1 (w1.iter s s.size)):=aB.alloc _ _;generalize offC C f=a at HP h1 ⊢;generalize offC C t=b at HP h1 h2 ⊢;have j1:(0:Int)<=a:=by omega
   have j2:(a:Int)<=b:=by omega
   have j3:(b:Int)<=s.size:=by omega
   have j4:a<=b:=by omega
   have j5:b<=s.size:=by omega
   clear hA hB aw h1 h2;go_wp2_with fail
   go_ret2;exact⟨by rw[<-HP.out];rfl,an.tr HG.out⟩
theorem eU1 {x:yH} {w:World} {db:Nat} {m:Mx} (h:aO0 x w db m):∀e∈sortS x.e,e.s.size≠0/\0<=e.l/\e.l<(x.p.length:Int)/\0<=e.t/\e.t<(x.p.length:Int)/\0<=e.c/\e.c<=30000:=λe he=>by
 have h1:=h.dk.num e he;have h2:=(eV0 ((dX h.dk.chk).2.2.2 e he)).2;grind [eN0]
theorem aE1 {x:yH} {w:World} {db:Nat} {m:Mx} (h:aO0 x w db m):0<=((plainP x.p:Nat):Int)/\((plainP x.p:Nat):Int)<(x.p.length:Int):=by
 have h1:=(iD0 h.ne).le;have h2:=List.length_pos_iff.2 h.ne;omega
theorem case_count {c:rQ} {C:List (List UInt8)} (hC:fJ C) (hf:C.flatten=bl c.x):countS c.x=(C.length:Nat):=by
 have hv:Az (bl c.x)=true:=gC.2 ⟨C,hC,hf⟩;rw[jE hv,<-hf,(dY hC).2];grind [rS]
end
section
open Go Go.RowKit Go.Shelf
structure qM (w:World) (b:Nat) (x:Nd):Prop where
 c:∀j u,(dD x)[j]?=some u->w.cell? ⟨b,j,none⟩=some u
 f:∀j,w.frozen? ⟨b,j,none⟩=false
theorem qM.lt {w:World} {b:Nat} {x:Nd} (h:qM w b x):b<w.heap.size:=Af w _ (h.c 0 _ rfl)
theorem qM.grows {w w':World} {b:Nat} {x:Nd} (h:qM w b x) (hg:aB w w'):qM w' b x :=
 ⟨λj u hu=>hg.cell (h.c j u hu),λj=>(hg.froz (p:=⟨b,j,none⟩) h.lt).trans (h.f j)⟩
theorem qM.box (w:World) (x:Nd) (t:TypeId):qM (w.alloc (.cells (dD x).toArray t)) w.heap.size x :=
 ⟨λj u hu=>aT w _ t (0,0) j u (by simpa using hu),λj=>frozen_of_row _ _ _ _ _ (heap_alloc_new w _)⟩
theorem qM.other {w:World} {b b':Nat} {x:Nd} (h:qM w b x) (aj:b'≠b) (j:Nat) (v:Value):qM (w.setCell ⟨b',j,none⟩ v) b x :=
 ⟨λi u hu=>by rw[Aj _ _ _ _ (λe=>aj (congrArg Addr.block e))];exact h.c i u hu,λi=>by rw[An];exact h.f i⟩
theorem qM.put {w:World} {b:Nat} {x y:Nd} (h:qM w b x) (j:Nat) (v:Value) (hj:j<7) (hy:dD y=(dD x).set j v):qM (w.setCell ⟨b,j,none⟩ v) b y:=by
 refine⟨λi u hu=>?_,λi=>by rw[An];exact h.f i⟩;rw[hy,List.getElem?_set]at hu;by_cases e:j=i
 ·subst e
  rw[if_pos rfl,if_pos (by exact hj)]at hu;obtain rfl:=Option.some.inj hu;obtain⟨u0,hu0⟩:∃u0,(dD x)[j]?=some u0:=⟨_,Ab (show j<(dD x).length from hj)⟩
  exact World.cell?_setCell_same _ _ _ (h.c j u0 hu0)
 ·rw[if_neg e]at hu
  rw[Aj _ _ _ _ (λe2=>e (congrArg Addr.off e2))];exact h.c i u hu
def xI0 (w:World) (b:Nat) (y:Nd):World:=((((((w.setCell ⟨b,0,none⟩ (.int .i64 y.f)).setCell ⟨b,1,none⟩ (.int .i64 y.t)).setCell ⟨b,2,none⟩ (.string y.s)).setCell ⟨b,3,none⟩ (.int .i64 y.l)).setCell ⟨b,4,none⟩ (.int .i64 y.r)).setCell ⟨b,5,none⟩ (.int .i64 y.c)).setCell ⟨b,6,none⟩ (.int .i64 y.k)
theorem qM.all {w:World} {b:Nat} {x y:Nd} (h:qM w b x):qM (xI0 w b y) b y:=by
 have h1:=h.put (y:=⟨y.f,x.t,x.s,x.l,x.r,x.c,x.k⟩) 0 (.int .i64 y.f) (by decide) rfl;have h2:=h1.put (y:=⟨y.f,y.t,x.s,x.l,x.r,x.c,x.k⟩) 1 (.int .i64 y.t) (by decide) rfl;have h3:=h2.put (y:=⟨y.f,y.t,y.s,x.l,x.r,x.c,x.k⟩) 2 (.string y.s) (by decide) rfl;have h4:=h3.put (y:=⟨y.f,y.t,y.s,y.l,x.r,x.c,x.k⟩) 3 (.int .i64 y.l) (by decide) rfl;have h5:=h4.put (y:=⟨y.f,y.t,y.s,y.l,y.r,x.c,x.k⟩) 4 (.int .i64 y.r) (by decide) rfl;have h6:=h5.put (y:=⟨y.f,y.t,y.s,y.l,y.r,y.c,x.k⟩) 5 (.int .i64 y.c) (by decide) rfl;exact h6.put (y:=y) 6 (.int .i64 y.k) (by decide) rfl
theorem qM.other7 {w:World} {b b':Nat} {x:Nd} (h:qM w b x) (aj:b'≠b) (y:Nd):qM (xI0 w b' y) b x :=
 ((((((h.other aj 0 _).other aj 1 _).other aj 2 _).other aj 3 _).other aj 4 _).other aj 5 _).other aj 6 _
theorem EB.set7 {B:Nat} {w:World} {b:Nat} (hb:B<=b) (y:Nd):EB B w (xI0 w b y):=by
 unfold Go.Proofs.YthgklnohcmaopaaGreatDoor.xI0;refine⟨?_,by simp⟩;exact(((((((Below.refl B w).setCell hb _).setCell hb _).setCell hb _).setCell hb _).setCell hb _).setCell hb _).setCell hb _
theorem kC0 (C:List (List UInt8)) (es:List En) (ls:List Lrn) (pl:Int) (m:Lrn) {x:Nd} (hx:x∈fP C es ls pl) :
  (∃y∈fP C es (ls++[m]) pl,y.f=x.f/\y.t=x.t/\y.s=x.s/\y.l=x.l/\y.r=x.r) /\
  ∀y∈fP C es (ls++[m]) pl,x.f=y.f->x.t=y.t->x.s=y.s->x.l=y.l->x.r=y.r->y.c<=x.c/\(y=x\/∃i j:Nat,x.f=i/\x.t=j/\ptC C i j=m.r/\x.s=m.s):=by
 obtain⟨⟨y,hy,h1,h2,h3,h4,h5⟩,h⟩:=tE0 C es ls pl m hx;exact⟨⟨y,hy,h1.symm,h2.symm,h3.symm,h4.symm,h5.symm⟩,λy hy a b c d e=>h y hy ⟨a,b,c,d,e⟩⟩
end
section
open Go Go.RowKit Go.Shelf
attribute [local go_sem] aO aM
theorem sD:eG Tryz.prog 41 45 3 40 cU where
 sl:=Tryz.underlying41
 info:=gV (z:=.agg #[.string ⟨#[]⟩,.string ⟨#[]⟩,.int .i64 0]) (by kernel_rfl) rfl
 pos:=by decide
 by1:=by decide
 len _:=rfl
 one x u hu:=by
  simp only[cU,List.mem_cons,List.not_mem_nil,or_false]at hu;rcases hu with rfl|rfl|rfl<;>rfl
theorem yM0 {C:List (List UInt8)} (h:fJ C) {s:ByteArray} (hf:C.flatten=bl s) (h0:C≠[]) (mm:C.length<=64):wchk s=0:=by
 have h1:=zV h hf;have h2:=List.length_pos_iff.2 h0;unfold wchk;rw[h1,if_neg (by omega),if_neg (by omega),if_neg (by omega)]
theorem zA {α:Type} {P:Program} {t e:TypeId} {k bytes:Nat} {enc:α->List Value} (L:eG P t e k bytes enc) {o:Oper} {a:Act} {Q:Exit->Act->World->Prop} {W:World} {Next:Act->World->Prop}
  (s x:Operand) (io:o.op=.call { callee:=.builtin .append,args:=#[s,x],argTypes:=#[t,t] })
  (base:Nat) (v:Value) (xs ys:List α) (hs:a.eval s=v) (ai:aX W base e k enc v xs) (sa:Option Addr) (sc:Nat)
  (hx:a.eval x=.slice sa ys.length sc) (fw:aG W sa k (ys.map enc)) (di:sa=none->sc=0) (ah:(xs.length+ys.length)*bytes<=140737488355328) (bu:base<=W.heap.size)
  (h:∀v' w',aX w' base e k enc v' (xs++ys)->W.grownBy w' v.ownBlock->Next (a.put o.dst v') w') :
  o.wp P a W Next Q:=by
 obtain⟨i,z,hi,hz,cg,i7,ml⟩:=L.info;have qm:xs.length+ys.length<=140737488355328:=Nat.le_trans (Nat.le_mul_of_pos_right _ L.by1) ah
 cases sa with
 | none =>
  obtain rfl:=di rfl
  have hy:ys=[]:=Decidable.byContradiction λaj=>by
   have pe:ys.map enc≠[]:=by simpa using aj
   obtain⟨b,off,ha,_⟩:=fw pe;cases ha
  subst hy;have ix:=run_append_owned_none (P:=P) (w:=W) base t o.type e i k L.sl hi v xs.length (xs.flatMap enc) ai;have ie:a.eval x=.slice none 0 0:=hx;unfold Oper.wp;simp[execOp,io,resolve,invoke,builtin,hs,ie,ix,Result.andThen];refine h v W ?_ (World.grownBy.refl _ _);rw[List.append_nil];exact ai
 | some ad =>
  obtain⟨v',w',ix,h1,h2,_⟩:=run_append_own (P:=P) W base t o.type e i z k bytes L.sl hi hz cg i7 ml L.pos v xs.length (xs.flatMap enc) ai ad ys.length sc (ys.flatMap enc) (gJ L.len ys)
   (λj u hu=>by
    obtain⟨i',jj,y,h1,h2,h3⟩:=mL L.len ys j u hu;have aj:ys.map enc≠[]:=by rintro e;rw[List.map_eq_nil_iff]at e;subst e;simp at h2
    obtain⟨b,off,ha,hc⟩:=fw aj;obtain rfl:=Option.some.inj ha;have bh:=hc i' (enc y) (by rw[List.getElem?_map,h2];rfl) jj u h3;unfold Addr.add;by_cases h0:j=0
    ·subst h0
     have na:i'*k=0/\jj=0:=by omega
     rw[if_pos rfl];rw[na.1,na.2]at bh;simpa using bh
    ·rw[if_neg h0]
     subst h1;rw[<-Nat.add_assoc];exact bh)
   (λu hu=>by obtain⟨y,_,hy⟩:=List.mem_flatMap.1 hu;exact L.one y u hy) (by unfold maxLen;omega) ah bu
  unfold Oper.wp;simp[execOp,io,resolve,invoke,builtin,hs,hx,ix,Result.andThen];refine h v' w' ?_ h2;unfold aX;rw[Ad,List.flatMap_append];exact h1
def qO1 (M:List Nd) (f t:Nat) (xs:ByteArray) (xl xr:Int) (j:Nat) (b:Bool):Prop:=∀q z,q<j->M[q]?=some z->z.f=f/\z.t=t/\z.s=xs/\z.l=xl/\z.r=xr->b=true
theorem learns21_any (c:rQ) (A:cQ0) (mo:Lrn) (w:World) (he:Env w) (ag:pU0 c) (hom:vG mo) (ac:aE0 w A c) (uf:A.la=none->A.lc=0) :
  Calls Tryz.prog 4 #[A.agg c,.agg #[.string mo.r,.string mo.s,.int .i64 mo.b]] w λe w'=>e=.returned (.bool true)/\aB w w':=by
 have HE:=Aa he;have CW:=λu (hu:aB w u)=>Aa (nW0 u (HE.out.grows hu));have HLA:=Aa ac.l;have HOK:=Aa ag;have HOM:=Aa hom;have CN0:=λ(u:World) (hu:aB w u)=>Aa (oR0 c A u (he.grows hu) ag (ac.grows hu));obtain⟨⟨xp,xd,xs,xe⟩,x,ls⟩:=c;obtain⟨⟨pa,pc,sa,sc,ea,ec⟩,la,lc⟩:=A;obtain⟨mr,ms,mb⟩:=mo;simp only at HLA uf;obtain⟨W0,cq⟩:=exq (w.alloc (.cells #[.slice pa xp.length pc,.int .i64 xd,.slice sa xs.length sc,.slice ea xe.length ec,.string x,.slice la ls.length lc] 43));have dh:aB w W0:=by rw[cq];exact aB.alloc _ _
 obtain⟨bc,_⟩:=bT (show aB (w.alloc (.cells #[.slice pa xp.length pc,.int .i64 xd,.slice sa xs.length sc,.slice ea xe.length ec,.string x,.slice la ls.length lc] 43)) W0 by rw[cq];exact aB.refl _)
 have de:W0.heap.size=w.heap.size+1:=by rw[cq];simp
 obtain⟨Wm,hWm⟩:=exq (W0.alloc (.cells #[.string mr,.string ms,.int .i64 mb] 45));have hgm:aB W0 Wm:=by rw[hWm];exact aB.alloc _ _
 obtain⟨bm,_⟩:=bT (show aB (W0.alloc (.cells #[.string mr,.string ms,.int .i64 mb] 45)) Wm by rw[hWm];exact aB.refl _)
 have ag3:Wm.heap.size=w.heap.size+2:=by rw[hWm];simp[de]
 rw[de]at bm;have q4:=hgm.cell (bc 4 _ rfl);have q5:=hgm.cell (bc 5 _ rfl);have q0:=hgm.cell (bc 0 _ rfl);have q1:=hgm.cell (bc 1 _ rfl);have q2:=hgm.cell (bc 2 _ rfl);have q3:=hgm.cell (bc 3 _ rfl);have p0:=bm 0 _ rfl;have p1:=bm 1 _ rfl;have p2:=bm 2 _ rfl;have CN:=CN0 Wm (dh.tr hgm);unfold cQ0.agg at CN;simp only at CN;have hgm:=dh.tr hgm;show Calls _ _ #[.agg #[.slice pa xp.length pc,.int .i64 xd,.slice sa xs.length sc,.slice ea xe.length ec,.string x,.slice la ls.length lc],.agg #[.string mr,.string ms,.int .i64 mb]] _ _
 have HSZ:=Aa (And.intro de ag3);clear he ag ac hom bc bm CN0 de ag3;by_cases ak1:40<=ls.length
 ·have hl:decide ((40:Int)<=ls.length)=true:=decide_eq_true (by omega)
  clear q0 q1 q2 q3 q4 q5 p0 p1 p2 CN;go_enter Tryz.func4,Tryz.ntmps4
  go_wp2_with fail
  go_ret;exact⟨rfl,(aB.alloc _ _).al _⟩
 have hl:decide ((40:Int)<=ls.length)=false:=decide_eq_false (by omega);go_enter Tryz.func4,Tryz.ntmps4
 go_wp2_with fail
 rw[<-cq,<-hWm];clear cq hWm;refine CN.out.mono ?_;rintro e w1 ⟨an,dv,v,b,rfl,hb⟩;have g1:=hgm.tr an;have dw:w.heap.size+2<=w1.heap.size:=by rw[<-HSZ.out.2];exact an.size
 have q4:=an.cell q4;have q5:=an.cell q5;have p0:=an.cell p0;have p1:=an.cell p1;have p2:=an.cell p2;clear CN q0 q1 q2 q3;by_cases rr:b=true
 ·subst rr
  obtain⟨db,m,C,rfl,hN⟩:=hb rfl;obtain⟨a1,c1,rfl,_,_,cm⟩:=hN.own.at_ eL1.len;have HAT:=Aa cm;have qg:=hN.few;have ci:=hN.le;have hxs:x.size<=400:=(bI0 hN.li).2.1;have HL4:Hid (∀y∈ls,y.r.size<=400/\y.s.size<=400):=(bI0 hN.li).2.2.2;have HN:=Aa hN;have HND:Hid (∀y∈caseN ⟨⟨xp,xd,xs,xe⟩,x,ls⟩ C,0<=y.f/\y.f<y.t/\y.t<=C.length/\0<=y.c/\y.c<=30000/\y.s.size≠0/\0<=y.l/\y.l<xp.length/\0<=y.r/\y.r<xp.length/\1<=y.k/\y.k<=3):=λy hy=>hP1 hN.co (eU1 hN.d) ls (aE1 hN.d) hy;have HPL:Hid (∀z∈caseN ⟨⟨xp,xd,xs,xe⟩,x,ls⟩ C,(∃y∈fP C (sortS xe) (ls++[⟨mr,ms,mb⟩]) (plainP xp:Nat),y.f=z.f/\y.t=z.t/\y.s=z.s/\y.l=z.l/\y.r=z.r)/\∀y∈fP C (sortS xe) (ls++[⟨mr,ms,mb⟩]) (plainP xp:Nat),z.f=y.f->z.t=y.t->z.s=y.s->z.l=y.l->z.r=y.r->y.c<=z.c/\(y=z\/∃i j:Nat,z.f=i/\z.t=j/\ptC C i j=mr/\z.s=ms)):=λz hz=>kC0 C (sortS xe) ls (plainP xp:Nat) ⟨mr,ms,mb⟩ hz;have aen:=λ(f t:Nat) (hft:f<t) (ht:t<=C.length) (u:World) (hu:aB w u)=>Aa (nA1 x C f t u (HE.out.grows hu) (by omega) HN.out.co HN.out.fl (by omega) ht);generalize caseN ⟨⟨xp,xd,xs,xe⟩,x,ls⟩ C=L at HAT qg HND HPL ⊢;clear hN hb cm;by_cases hr4:mr.size<=400
  ·have dd:decide ((400:Int)<mr.size)=false:=decide_eq_false (by omega)
   by_cases hs4:ms.size<=400
   ·have qo:decide ((400:Int)<ms.size)=false:=decide_eq_false (by omega)
    go_wp2_with fail
    have c4:∀u:Ext (EB w1.heap.size) w1.drew,u.u.cell? ⟨w.heap.size,4,none⟩=some (.string x):=cO (show w.heap.size<w1.heap.size by omega) ((aB.drew w1).cell q4)
    have c5:∀u:Ext (EB w1.heap.size) w1.drew,u.u.cell? ⟨w.heap.size,5,none⟩=some (.slice la ls.length lc):=cO (show w.heap.size<w1.heap.size by omega) ((aB.drew w1).cell q5)
    have r0:∀u:Ext (EB w1.heap.size) w1.drew,u.u.cell? ⟨w.heap.size+1,0,none⟩=some (.string mr):=cO (show w.heap.size+1<w1.heap.size by omega) ((aB.drew w1).cell p0)
    have r1:∀u:Ext (EB w1.heap.size) w1.drew,u.u.cell? ⟨w.heap.size+1,1,none⟩=some (.string ms):=cO (show w.heap.size+1<w1.heap.size by omega) ((aB.drew w1).cell p1)
    have r2:∀u:Ext (EB w1.heap.size) w1.drew,u.u.cell? ⟨w.heap.size+1,2,none⟩=some (.int .i64 mb):=cO (show w.heap.size+1<w1.heap.size by omega) ((aB.drew w1).cell p2)
    have CNO:=λ(a52:Option Addr) (c52:Nat) (u:World) (hu:aB w1 u) (hla:aG u a52 3 ((ls++[(⟨mr,ms,mb⟩:Lrn)]).map cU))=>Aa (uV xp m (sortS xe) db x C (ls++[(⟨mr,ms,mb⟩:Lrn)]) a52 c52 u (HE.out.grows (g1.tr hu)) HN.out.d.dk (HN.out.d.grows hu).d HN.out.co HN.out.fl HN.out.ne (by omega) HN.out.d.ne (by simp;omega) (λy hy=>by rcases List.mem_append.1 hy with h|h;(exact HOK.out.l y h);(obtain rfl:=List.mem_singleton.1 h;exact HOM.out)) (λy hy=>by rcases List.mem_append.1 hy with h|h;(have:=HL4.out y h;omega);(obtain rfl:=List.mem_singleton.1 h;exact⟨show mr.size<=1048576 by omega,show ms.size<=1048576 by omega⟩)) hla (by omega) (yM0 HN.out.co HN.out.fl HN.out.ne (by omega)))
    obtain⟨M,hM⟩:=exq (fP C (sortS xe) (ls++[⟨mr,ms,mb⟩]) (plainP xp:Nat));rw[<-hM]at HPL CNO;have HM:=Aa hM;clear hM;refine pW0 (EB w1.heap.size) (.quiet 0 (.quiet 1 (.quiet 2 (.quiet 4 (.quiet 5 (.quiet 7 (.alt (.late 3 (.alt (.late 6 (.late 8 (.late 9 (.late 10 (.quiet 11 (.quiet 12 (.quiet 13 (.quiet 14 (.quiet 15 .done))))))))) (.late 8 (.late 6 (.late 9 (.late 10 (.quiet 11 (.quiet 12 (.quiet 13 (.quiet 14 (.quiet 15 .done))))))))))) (.late 8 (.late 3 (.late 6 (.late 9 (.late 10 (.quiet 11 (.quiet 12 (.quiet 13 (.quiet 14 (.quiet 15 .done))))))))))))))))) (λ(x0:Value×Value×Value×Value×Value)=>[(some 43,.pointer (some ⟨db,0,none⟩)),(some 44,.pointer (some ⟨w.heap.size,4,none⟩)),(some 45,.string x),(some 46,x0.1),(some 47,.pointer (some ⟨w.heap.size,5,none⟩)),(some 48,.slice la ls.length lc),(some 49,x0.2.1),(some 50,.agg #[.string mr,.string ms,.int .i64 mb]),(some 51,x0.2.2.1),(some 52,x0.2.2.2.1),(some 53,.tuple #[x0.2.2.2.2,.int .i64 (if M.length<=10000 then 0 else 7)]),(some 42,.tuple #[x0.2.2.2.2,.int .i64 (if M.length<=10000 then 0 else 7)]),(some 54,x0.2.2.2.2),(some 55,.int .i64 (if M.length<=10000 then 0 else 7)),(some 8,x0.2.2.2.2),(some 9,.int .i64 (if M.length<=10000 then 0 else 7))]) (λx0 w'=>aB w1 w'/\aX w' w1.heap.size 51 7 dD x0.2.2.2.2 (if M.length<=10000 then M else [])) (EB.refl w1.heap.size) (EB.trans w1.heap.size) (by kernel_rfl) (by kernel_rfl) (λd _ _ _ _ h=>by cases d<;>exact h) ?_ ?_
    ·have EBD:EB w1.heap.size w1 w1.drew:=EB.of (aB.drew w1) (As _)
     obtain⟨Wd,hWd⟩:=exq w1.drew;rw[<-hWd]at c4 c5 r0 r1 r2 EBD ⊢;clear hWd;iterate 6 (refine jJ rfl (λK hK=>?_);go_simp;refine hK _ ?_;clear hK K)
     clear c4 c5 r0 r1 r2;refine uH0 ?_ ?_
     ·refine dF rfl rfl (λK hK=>?_)
      go_simp;obtain⟨W3,ep⟩:=exq (Wd.alloc (.cells #[] 45));have own:aX W3 w1.heap.size 45 3 cU (.slice (some ⟨Wd.heap.size,0,none⟩) 0 0) []:=by rw[ep];exact yQ _ EBD.2
      have t9:aB Wd W3:=by rw[ep];exact aB.alloc _ _
      have l46:Wd.heap.size<W3.heap.size:=by rw[ep];simp
      rw[<-ep];clear ep;refine⟨EB.of t9 EBD.2,hK _ _ ?_⟩;clear hK K;have jm:EB w1.heap.size w1 W3:=EB.trans _ _ _ _ EBD (EB.of t9 EBD.2);obtain⟨b46,s6⟩:=exq Wd.heap.size;rw[<-s6]at own l46 ⊢;have ai4:=Aa s6;clear s6;refine uH0 ?_ ?_
      ·refine dF rfl rfl (λK hK=>?_)
       refine zA sD (.tmp 46) (.tmp 48) rfl w1.heap.size _ [] ls rfl own la lc rfl (HLA.out.grows (g1.tr (EB.grows (aB.refl _) jm))) uf (by simp;omega) jm.2 (λv49 W6 kp zj=>?_);have kq:EB w1.heap.size W3 W6:=EB.own own zj jm.2;refine⟨kq,hK _ _ ?_⟩;clear hK K;have kr:EB w1.heap.size w1 W6:=EB.trans _ _ _ _ jm kq;rw[Am]at kp;clear kq zj own;have own:=kp;clear kp;refine dF rfl rfl (λK hK=>?_);go_simp;obtain⟨W8,mi⟩:=exq (W6.alloc (.cells #[.string mr,.string ms,.int .i64 mb] 45));have bx:∀j u,(cU ⟨mr,ms,mb⟩)[j]?=some u->W8.cell? ⟨W6.heap.size,j,none⟩=some u:=λj u hu=>by rw[mi];exact aT W6 _ _ (0,0) j u (by simpa [cU] using hu)
       have gW8:aB W6 W8:=by rw[mi];exact aB.alloc _ _
       have l8:W6.heap.size<W8.heap.size:=by rw[mi];simp
       rw[<-mi];clear mi;refine⟨EB.of gW8 kr.2,hK _ _ ?_⟩;clear hK K;have i6:EB w1.heap.size w1 W8:=EB.trans _ _ _ _ kr (EB.of gW8 kr.2);obtain⟨b8,r9⟩:=exq W6.heap.size;rw[<-r9]at bx l8 ⊢;have own:=own.grows gW8;have v8e:=Aa r9;clear r9;refine dF rfl rfl (λK hK=>?_);refine kT sD (.tmp 49) (.tmp 51) rfl w1.heap.size _ ls ⟨mr,ms,mb⟩ rfl own b8 1 rfl bx (by omega) i6.2 (λv52 W9 aak hk9 _=>?_);have kq:EB w1.heap.size W8 W9:=EB.own own hk9 i6.2;refine⟨kq,hK _ _ ?_⟩;clear hK K;have kt:EB w1.heap.size w1 W9:=EB.trans _ _ _ _ i6 kq;clear kq hk9 own bx;obtain⟨a52,c52,rfl,_,_,qh⟩:=aak.at_ sD.len;have gW9:aB w1 W9:=EB.grows (aB.refl _) kt;have CQ:=CNO a52 c52 W9 gW9 qh;rw[show (ls++[(⟨mr,ms,mb⟩:Lrn)]).length=ls.length+1 by simp]at CQ
       refine dF rfl rfl (λK hK=>?_);go_simp;refine CQ.out.mono ?_;rintro e W10 ⟨g10,v6,rfl,mh⟩;refine⟨EB.of g10 kt.2,hK _ _ ?_⟩;clear hK K CQ;iterate 5 (refine jJ rfl (λK hK=>?_);go_simp;refine hK _ ?_;clear hK K)
       refine cK0 ?_;exact⟨(.slice (some ⟨b46,0,none⟩) 0 0,v49,.slice (some ⟨b8,0,none⟩) 1 1,.slice a52 (ls.length+1) c52,v6),⟨gW9.tr g10,mh.base kt.2⟩,by simp only[iM0,Ae];go_simp⟩
      ·refine dF rfl rfl (λK hK=>?_)
       go_simp;obtain⟨W8,mi⟩:=exq (W3.alloc (.cells #[.string mr,.string ms,.int .i64 mb] 45));have bx:∀j u,(cU ⟨mr,ms,mb⟩)[j]?=some u->W8.cell? ⟨W3.heap.size,j,none⟩=some u:=λj u hu=>by rw[mi];exact aT W3 _ _ (0,0) j u (by simpa [cU] using hu)
       have gW8:aB W3 W8:=by rw[mi];exact aB.alloc _ _
       have l8:W3.heap.size<W8.heap.size:=by rw[mi];simp
       rw[<-mi];clear mi;refine⟨EB.of gW8 jm.2,hK _ _ ?_⟩;clear hK K;have i6:EB w1.heap.size w1 W8:=EB.trans _ _ _ _ jm (EB.of gW8 jm.2);obtain⟨b8,r9⟩:=exq W3.heap.size;rw[<-r9]at bx l8 ⊢;have own:=own.grows gW8;have n46:b8≠b46:=by omega
       have v8e:=Aa r9;clear r9;refine dF rfl rfl (λK hK=>?_);refine zA sD (.tmp 46) (.tmp 48) rfl w1.heap.size _ [] ls rfl own la lc rfl (HLA.out.grows (g1.tr (EB.grows (aB.refl _) i6))) uf (by simp;omega) i6.2 (λv49 W6 kp zj=>?_);have kq:EB w1.heap.size W8 W6:=EB.own own zj i6.2;refine⟨kq,hK _ _ ?_⟩;clear hK K;have kr:EB w1.heap.size w1 W6:=EB.trans _ _ _ _ i6 kq;rw[Am]at kp;have bx:=λj u hu=>aU zj (bx j u hu) (λe=>n46 (Option.some.inj e));clear kq zj own;have own:=kp;clear kp;refine dF rfl rfl (λK hK=>?_);refine kT sD (.tmp 49) (.tmp 51) rfl w1.heap.size _ ls ⟨mr,ms,mb⟩ rfl own b8 1 rfl bx (by omega) kr.2 (λv52 W9 aak hk9 _=>?_);have kq:EB w1.heap.size W6 W9:=EB.own own hk9 kr.2;refine⟨kq,hK _ _ ?_⟩;clear hK K;have kt:EB w1.heap.size w1 W9:=EB.trans _ _ _ _ kr kq;clear kq hk9 own bx;obtain⟨a52,c52,rfl,_,_,qh⟩:=aak.at_ sD.len;have gW9:aB w1 W9:=EB.grows (aB.refl _) kt;have CQ:=CNO a52 c52 W9 gW9 qh;rw[show (ls++[(⟨mr,ms,mb⟩:Lrn)]).length=ls.length+1 by simp]at CQ
       refine dF rfl rfl (λK hK=>?_);go_simp;refine CQ.out.mono ?_;rintro e W10 ⟨g10,v6,rfl,mh⟩;refine⟨EB.of g10 kt.2,hK _ _ ?_⟩;clear hK K CQ;iterate 5 (refine jJ rfl (λK hK=>?_);go_simp;refine hK _ ?_;clear hK K)
       refine cK0 ?_;exact⟨(.slice (some ⟨b46,0,none⟩) 0 0,v49,.slice (some ⟨b8,0,none⟩) 1 1,.slice a52 (ls.length+1) c52,v6),⟨gW9.tr g10,mh.base kt.2⟩,by simp only[iM0,Ae];go_simp⟩
     ·refine dF rfl rfl (λK hK=>?_)
      go_simp;obtain⟨W8,mi⟩:=exq (Wd.alloc (.cells #[.string mr,.string ms,.int .i64 mb] 45));have bx:∀j u,(cU ⟨mr,ms,mb⟩)[j]?=some u->W8.cell? ⟨Wd.heap.size,j,none⟩=some u:=λj u hu=>by rw[mi];exact aT Wd _ _ (0,0) j u (by simpa [cU] using hu)
      have gW8:aB Wd W8:=by rw[mi];exact aB.alloc _ _
      have l8:Wd.heap.size<W8.heap.size:=by rw[mi];simp
      rw[<-mi];clear mi;refine⟨EB.of gW8 EBD.2,hK _ _ ?_⟩;clear hK K;have i6:EB w1.heap.size w1 W8:=EB.trans _ _ _ _ EBD (EB.of gW8 EBD.2);obtain⟨b8,r9⟩:=exq Wd.heap.size;rw[<-r9]at bx l8 ⊢;have v8e:=Aa r9;clear r9;refine dF rfl rfl (λK hK=>?_);go_simp;obtain⟨W3,ep⟩:=exq (W8.alloc (.cells #[] 45));have own:aX W3 w1.heap.size 45 3 cU (.slice (some ⟨W8.heap.size,0,none⟩) 0 0) []:=by rw[ep];exact yQ _ i6.2
      have t9:aB W8 W3:=by rw[ep];exact aB.alloc _ _
      have l46:W8.heap.size<W3.heap.size:=by rw[ep];simp
      rw[<-ep];clear ep;refine⟨EB.of t9 i6.2,hK _ _ ?_⟩;clear hK K;have jm:EB w1.heap.size w1 W3:=EB.trans _ _ _ _ i6 (EB.of t9 i6.2);obtain⟨b46,s6⟩:=exq W8.heap.size;rw[<-s6]at own l46 ⊢;have n46:b8≠b46:=by omega
      have bx:=λj u hu=>t9.cell (bx j u hu);have ai4:=Aa s6;clear s6;refine dF rfl rfl (λK hK=>?_);refine zA sD (.tmp 46) (.tmp 48) rfl w1.heap.size _ [] ls rfl own la lc rfl (HLA.out.grows (g1.tr (EB.grows (aB.refl _) jm))) uf (by simp;omega) jm.2 (λv49 W6 kp zj=>?_);have kq:EB w1.heap.size W3 W6:=EB.own own zj jm.2;refine⟨kq,hK _ _ ?_⟩;clear hK K;have kr:EB w1.heap.size w1 W6:=EB.trans _ _ _ _ jm kq;rw[Am]at kp;have bx:=λj u hu=>aU zj (bx j u hu) (λe=>n46 (Option.some.inj e));clear kq zj own;have own:=kp;clear kp;refine dF rfl rfl (λK hK=>?_);refine kT sD (.tmp 49) (.tmp 51) rfl w1.heap.size _ ls ⟨mr,ms,mb⟩ rfl own b8 1 rfl bx (by omega) kr.2 (λv52 W9 aak hk9 _=>?_);have kq:EB w1.heap.size W6 W9:=EB.own own hk9 kr.2;refine⟨kq,hK _ _ ?_⟩;clear hK K;have kt:EB w1.heap.size w1 W9:=EB.trans _ _ _ _ kr kq;clear kq hk9 own bx;obtain⟨a52,c52,rfl,_,_,qh⟩:=aak.at_ sD.len;have gW9:aB w1 W9:=EB.grows (aB.refl _) kt;have CQ:=CNO a52 c52 W9 gW9 qh;rw[show (ls++[(⟨mr,ms,mb⟩:Lrn)]).length=ls.length+1 by simp]at CQ
      refine dF rfl rfl (λK hK=>?_);go_simp;refine CQ.out.mono ?_;rintro e W10 ⟨g10,v6,rfl,mh⟩;refine⟨EB.of g10 kt.2,hK _ _ ?_⟩;clear hK K CQ;iterate 5 (refine jJ rfl (λK hK=>?_);go_simp;refine hK _ ?_;clear hK K)
      refine cK0 ?_;exact⟨(.slice (some ⟨b46,0,none⟩) 0 0,v49,.slice (some ⟨b8,0,none⟩) 1 1,.slice a52 (ls.length+1) c52,v6),⟨gW9.tr g10,mh.base kt.2⟩,by simp only[iM0,Ae];go_simp⟩
    ·rintro⟨v46,v49,v51,v52,v6⟩ w2 ⟨af,mh⟩
     have g2:=g1.tr af;by_cases ux:M.length<=10000
     ·rw[if_pos ux]at mh
      have ol:(if M.length<=10000 then (0:Int) else 7)=0:=if_pos ux
      simp only[iM0,Ae];rw[ol];clear ol q5;go_simp;obtain⟨a6,c6,rfl,_,_,qd⟩:=mh.at_ eL1.len;have HA6:=Aa qd;have HA2:=Aa (HAT.out.grows af);have q4:=af.cell q4;have p0:=af.cell p0;have p1:=af.cell p1;clear mh qd HAT p2;go_wp2_with fail
      go_loopw [10,11,12,13,14,15,16] (λi o1 o2 o3 o4 o5 o6 wr=>∃k:Nat,k<=L.length/\i=.int .i64 k/\Hid (aB w2 wr)) (λi _ _ _ _ _ _ _=>L.length-(intOf i).toNat)
      case atStart=>exact⟨0,Ao _,rfl,aB.refl _⟩
      case round =>
       -- ROUNDS
       obtain⟨k,hk,rfl,hg⟩:=hrel;obtain⟨wo,hwo⟩:∃u0,u0=wr:=⟨_,rfl⟩;rw[<-hwo]at hg ⊢;clear hwo;by_cases ae:k<L.length
       ·have cn:(k:Int)<L.length:=by omega
        obtain⟨⟨xf,xt,xs,xl,xr,xc,xk⟩,hx⟩:∃z,L[k]?=some z:=⟨_,Ab ae⟩;have hmx:=Ac hx;have hnx:=HND.out _ hmx;simp only at hnx;obtain⟨f,rfl⟩:=Ak hnx.1;obtain⟨t,rfl⟩:=Ak (show (0:Int)<=xt by omega)
        have hft:f<t:=by omega
        have htC:t<=C.length:=by omega
        have HPX:=Aa (HPL.out _ hmx);have gw:=g2.tr hg.out;obtain⟨lb,lo,rfl,be⟩:=(HA2.out.grows hg.out).get (aK ae);have gd:=aB.drew wo;have c0:∀u:Ext aB wo.drew,u.u.cell? ⟨lb,lo+k*7,none⟩=some (.int .i64 f):=aF (gd.cell (be k _ hx 0 _ rfl));have c1':∀u:Ext aB wo.drew,u.u.cell? ⟨lb,lo+k*7+1,none⟩=some (.int .i64 t):=aF (gd.cell (be k _ hx 1 _ rfl));have c4:∀u:Ext aB wo.drew,u.u.cell? ⟨w.heap.size,4,none⟩=some (.string x):=aF (gd.cell (hg.out.cell q4));have CT:=aen f t hft htC wo.drew (gw.tr gd);have HX:=Aa hx
        have HPT:Hid (∃pt,pt=ptC C f t/\∀y∈M,(f:Int)=y.f->(t:Int)=y.t->xs=y.s->xl=y.l->xr=y.r->y.c<=xc/\(y=⟨f,t,xs,xl,xr,xc,xk⟩\/(pt=mr/\xs=ms))):=by
         refine⟨_,rfl,λy hy a b c d e=>?_⟩;obtain⟨h1,h2⟩:=HPX.out.2 y (by first|exact hy|exact HM.out▸hy) a b c d e
         refine⟨h1,h2.imp_right ?_⟩;rintro⟨i,j,hi,hj,h3,h4⟩;simp only at hi hj h4;obtain rfl:f=i:=by omega
         obtain rfl:t=j:=by omega
         exact⟨h3,h4⟩
        have HEX:Hid (∃y∈M,y.f=f/\y.t=t/\y.s=xs/\y.l=xl/\y.r=xr):=by
         obtain⟨y,hy,h⟩:=HPX.out.1;exact⟨y,(by first|exact hy|exact HM.out▸hy),h⟩
        obtain⟨pt,rm,HMA⟩:=HPT.out;rw[<-rm]at CT;have HMB:=Aa HMA;clear be hx hnx hmx HPT HPX rm HMA;go_wp2_with fail
        refine bK (bB 18 [12]) (by kernel_rfl) (λd _ _ _ _ h=>by cases d<;>exact h) ?_
        iterate 12 (refine aH rfl (λK hK=>?_);go_simp;refine hK _ ?_;clear hK K)
        refine bH rfl rfl (λK hK=>?_);go_simp;refine(CT.out).mono ?_;rintro e w4 ⟨rfl,ch⟩;refine⟨ch,hK _ _ ?_⟩;clear hK K;iterate 5 (refine aH rfl (λK hK=>?_);go_simp;refine hK _ ?_;clear hK K)
        refine cB ?_;have HG4:Hid (aB w2 w4):=hg.out.tr (gd.tr ch);clear c0 c1' c4 CT hg gd ch gw;go_wp2_with fail
        go_loopw [11,14,15,16] (λo1 i o2 o3 dm=>∃(j:Nat) (b:Bool),j<=M.length/\i=.int .i64 j/\o1=.bool b/\Hid (aB w2 dm)/\qO1 M f t xs xl xr j b) (λ_ i _ _ _=>M.length-(intOf i).toNat)
        case atStart=>exact⟨0,false,Ao _,rfl,rfl,HG4.out,λq z h=>by omega⟩
        case round =>
         obtain⟨dm,ag4⟩:∃u0,u0=wr:=⟨_,rfl⟩;rw[<-ag4]at hrel ⊢;clear ag4 HG4;obtain⟨j,b,hj,rfl,rfl,qi,ad6⟩:=hrel;by_cases ft:j<M.length
         ·have gi:(j:Int)<M.length:=by omega
          obtain⟨⟨yf,yt,ys,yl,yr,yc,yk⟩,hy⟩:∃z,M[j]?=some z:=⟨_,Ab ft⟩;have HY:=Aa hy;obtain⟨b',o',e',be⟩:=(HA2.out.grows qi.out).get (aK ae);obtain⟨rfl,rfl⟩:lb=b'/\lo=o':=by cases e';exact⟨rfl,rfl⟩
          obtain⟨mb7,mo,rfl,vp⟩:=(HA6.out.grows qi.out).get (aK ft);have gd:=aB.drew dm;have iz:lb<dm.heap.size:=Af dm _ (be k _ HX.out 0 _ rfl);have jo:mb7<dm.heap.size:=Af dm _ (vp j _ hy 0 _ rfl);have d0:∀u:Ext (EB dm.heap.size) dm.drew,u.u.cell? ⟨lb,lo+k*7,none⟩=some (.int .i64 f):=cO iz (gd.cell (be k _ HX.out 0 _ rfl));have m0:∀u:Ext (EB dm.heap.size) dm.drew,u.u.cell? ⟨mb7,mo+j*7,none⟩=some (.int .i64 yf):=cO jo (gd.cell (vp j _ hy 0 _ rfl));have d1:∀u:Ext (EB dm.heap.size) dm.drew,u.u.cell? ⟨lb,lo+k*7+1,none⟩=some (.int .i64 t):=cO iz (gd.cell (be k _ HX.out 1 _ rfl));have m1:∀u:Ext (EB dm.heap.size) dm.drew,u.u.cell? ⟨mb7,mo+j*7+1,none⟩=some (.int .i64 yt):=cO jo (gd.cell (vp j _ hy 1 _ rfl));have d2:∀u:Ext (EB dm.heap.size) dm.drew,u.u.cell? ⟨lb,lo+k*7+2,none⟩=some (.string xs):=cO iz (gd.cell (be k _ HX.out 2 _ rfl));have m2:∀u:Ext (EB dm.heap.size) dm.drew,u.u.cell? ⟨mb7,mo+j*7+2,none⟩=some (.string ys):=cO jo (gd.cell (vp j _ hy 2 _ rfl));have d3:∀u:Ext (EB dm.heap.size) dm.drew,u.u.cell? ⟨lb,lo+k*7+3,none⟩=some (.int .i64 xl):=cO iz (gd.cell (be k _ HX.out 3 _ rfl));have m3:∀u:Ext (EB dm.heap.size) dm.drew,u.u.cell? ⟨mb7,mo+j*7+3,none⟩=some (.int .i64 yl):=cO jo (gd.cell (vp j _ hy 3 _ rfl));have d4:∀u:Ext (EB dm.heap.size) dm.drew,u.u.cell? ⟨lb,lo+k*7+4,none⟩=some (.int .i64 xr):=cO iz (gd.cell (be k _ HX.out 4 _ rfl));have m4:∀u:Ext (EB dm.heap.size) dm.drew,u.u.cell? ⟨mb7,mo+j*7+4,none⟩=some (.int .i64 yr):=cO jo (gd.cell (vp j _ hy 4 _ rfl));have d5:∀u:Ext (EB dm.heap.size) dm.drew,u.u.cell? ⟨lb,lo+k*7+5,none⟩=some (.int .i64 xc):=cO iz (gd.cell (be k _ HX.out 5 _ rfl));have m5:∀u:Ext (EB dm.heap.size) dm.drew,u.u.cell? ⟨mb7,mo+j*7+5,none⟩=some (.int .i64 yc):=cO jo (gd.cell (vp j _ hy 5 _ rfl));have d6:∀u:Ext (EB dm.heap.size) dm.drew,u.u.cell? ⟨lb,lo+k*7+6,none⟩=some (.int .i64 xk):=cO iz (gd.cell (be k _ HX.out 6 _ rfl));have m6:∀u:Ext (EB dm.heap.size) dm.drew,u.u.cell? ⟨mb7,mo+j*7+6,none⟩=some (.int .i64 yk):=cO jo (gd.cell (vp j _ hy 6 _ rfl))
          have HNX:Hid (¬(yf=f/\yt=t/\ys=xs/\yl=xl/\yr=xr)->qO1 M f t xs xl xr (j+1) b):=λg9 q z hq hz hs=>by
           rcases Nat.lt_or_ge q j with h1|h1
           ·exact ad6 q z h1 hz hs
           ·obtain rfl:q=j:=by omega
            rw[HY.out]at hz;obtain rfl:=Option.some.inj hz;exact absurd hs g9
          have HG2:=Aa qi.out;have n0:=qi.out.cell p0;have n1:=qi.out.cell p1;clear hy be vp e' qi;go_wp2_with fail
          refine pW0 (EB dm.heap.size) (.quiet 0 (.quiet 1 (.quiet 2 (.quiet 3 (.quiet 4 (.quiet 5 (.quiet 6 (.quiet 7 (.alt (.late 8 (.late 9 (.late 10 (.late 11 .done)))) (.late 9 (.late 8 (.late 10 (.late 11 .done))))))))))))) (λ(x0:Nat×Nat)=>[(some 91,.slice (some ⟨lb,lo,none⟩) L.length c1),(some 92,.int .i64 k),(some 93,.pointer (some ⟨lb,lo+k*7,none⟩)),(some 94,.agg #[.int .i64 f,.int .i64 t,.string xs,.int .i64 xl,.int .i64 xr,.int .i64 xc,.int .i64 xk]),(some 95,.slice (some ⟨mb7,mo,none⟩) M.length c6),(some 96,.int .i64 j),(some 97,.pointer (some ⟨mb7,mo+j*7,none⟩)),(some 98,.agg #[.int .i64 yf,.int .i64 yt,.string ys,.int .i64 yl,.int .i64 yr,.int .i64 yc,.int .i64 yk]),(some 15,.pointer (some ⟨x0.1,0,none⟩)),(some 16,.pointer (some ⟨x0.2,0,none⟩))]) (λ(x0:Nat×Nat) w'=>qM w' x0.1 ⟨f,t,xs,xl,xr,xc,xk⟩/\qM w' x0.2 ⟨yf,yt,ys,yl,yr,yc,yk⟩/\x0.1≠x0.2/\aB dm w') (EB.refl dm.heap.size) (EB.trans dm.heap.size) (by kernel_rfl) (by kernel_rfl) (λd _ _ _ _ h=>by cases d<;>exact h) ?_ ?_
          ·have qo:dm.heap.size<=dm.drew.heap.size:=As _
           generalize dm.drew=Wd at *;iterate 8 (refine jJ rfl (λK hK=>?_);go_simp;refine hK _ ?_;clear hK K)
           clear d0 m0 d1 m1 d2 m2 d3 m3 d4 m4 d5 m5 d6 m6;refine uH0 ?_ ?_
           ·refine dF rfl rfl (λK hK=>?_)
            go_simp;have eP:qM (Wd.alloc (.cells #[.int .i64 0,.int .i64 0,.string ⟨#[]⟩,.int .i64 0,.int .i64 0,.int .i64 0,.int .i64 0] 51)) Wd.heap.size ⟨0,0,⟨#[]⟩,0,0,0,0⟩:=qM.box Wd ⟨0,0,⟨#[]⟩,0,0,0,0⟩ _;have geP:=aB.alloc Wd (.cells #[.int .i64 0,.int .i64 0,.string ⟨#[]⟩,.int .i64 0,.int .i64 0,.int .i64 0,.int .i64 0] 51);generalize Wd.alloc (.cells #[.int .i64 0,.int .i64 0,.string ⟨#[]⟩,.int .i64 0,.int .i64 0,.int .i64 0,.int .i64 0] 51)=u2 at *;obtain⟨bP,hbP⟩:=exq Wd.heap.size;rw[<-hbP]at eP ⊢;have qbP:=Al hbP.symm;clear hbP;refine⟨EB.of geP (by omega),hK _ _ ?_⟩;clear hK K;have sP:=geP.size;have lP:=eP.lt;refine dF rfl rfl (λK hK=>?_);go_simp;have eQ:qM (u2.alloc (.cells #[.int .i64 0,.int .i64 0,.string ⟨#[]⟩,.int .i64 0,.int .i64 0,.int .i64 0,.int .i64 0] 51)) u2.heap.size ⟨0,0,⟨#[]⟩,0,0,0,0⟩:=qM.box u2 ⟨0,0,⟨#[]⟩,0,0,0,0⟩ _;have geQ:=aB.alloc u2 (.cells #[.int .i64 0,.int .i64 0,.string ⟨#[]⟩,.int .i64 0,.int .i64 0,.int .i64 0,.int .i64 0] 51);generalize u2.alloc (.cells #[.int .i64 0,.int .i64 0,.string ⟨#[]⟩,.int .i64 0,.int .i64 0,.int .i64 0,.int .i64 0] 51)=u3 at *;obtain⟨bQ,hbQ⟩:=exq u2.heap.size;rw[<-hbQ]at eQ ⊢;have qbQ:=Al hbQ.symm;clear hbQ;refine⟨EB.of geQ (by omega),hK _ _ ?_⟩;clear hK K;have sQ:=geQ.size;have lQ:=eQ.lt;replace eP:=eP.grows geQ;have ad7:aB dm u3:=(gd.tr geP).tr geQ;have aj:bP≠bQ:=by omega
            clear geP geQ;have p0:=eP.c 0 _ rfl;have p1:=eP.c 1 _ rfl;have p2:=eP.c 2 _ rfl;have p3:=eP.c 3 _ rfl;have p4:=eP.c 4 _ rfl;have p5:=eP.c 5 _ rfl;have p6:=eP.c 6 _ rfl;have pf:=eP.f;refine dF rfl rfl (λK hK=>?_);go_simp;have n9:qM (xI0 u3 bP ⟨f,t,xs,xl,xr,xc,xk⟩) bP ⟨f,t,xs,xl,xr,xc,xk⟩:=eP.all (y:=⟨f,t,xs,xl,xr,xc,xk⟩);have oc:=eQ.other7 aj ⟨f,t,xs,xl,xr,xc,xk⟩;have ku:EB dm.heap.size u3 (xI0 u3 bP ⟨f,t,xs,xl,xr,xc,xk⟩):=EB.set7 (by omega) _;clear p0 p1 p2 p3 p4 p5 p6 pf eP eQ;unfold Go.Proofs.YthgklnohcmaopaaGreatDoor.xI0 at n9 oc ku;simp only at n9 oc ku;generalize (((((((u3.setCell ⟨bP,0,none⟩ (.int .i64 f)).setCell ⟨bP,1,none⟩ (.int .i64 t)).setCell ⟨bP,2,none⟩ (.string xs)).setCell ⟨bP,3,none⟩ (.int .i64 xl)).setCell ⟨bP,4,none⟩ (.int .i64 xr)).setCell ⟨bP,5,none⟩ (.int .i64 xc)).setCell ⟨bP,6,none⟩ (.int .i64 xk))=u4 at *;refine⟨ku,hK _ _ ?_⟩;clear hK K;have ad8:aB dm u4:=EB.grows ad7 ku;clear ku;have eP:=n9;clear n9;have eQ:=oc;clear oc;have p0:=eQ.c 0 _ rfl;have p1:=eQ.c 1 _ rfl;have p2:=eQ.c 2 _ rfl;have p3:=eQ.c 3 _ rfl;have p4:=eQ.c 4 _ rfl;have p5:=eQ.c 5 _ rfl;have p6:=eQ.c 6 _ rfl;have pf:=eQ.f;refine dF rfl rfl (λK hK=>?_);go_simp;have oc:qM (xI0 u4 bQ ⟨yf,yt,ys,yl,yr,yc,yk⟩) bQ ⟨yf,yt,ys,yl,yr,yc,yk⟩:=eQ.all (y:=⟨yf,yt,ys,yl,yr,yc,yk⟩);have n9:=eP.other7 (Ne.symm aj) ⟨yf,yt,ys,yl,yr,yc,yk⟩;have ku:EB dm.heap.size u4 (xI0 u4 bQ ⟨yf,yt,ys,yl,yr,yc,yk⟩):=EB.set7 (by omega) _;clear p0 p1 p2 p3 p4 p5 p6 pf eQ eP;unfold Go.Proofs.YthgklnohcmaopaaGreatDoor.xI0 at oc n9 ku;simp only at oc n9 ku;generalize (((((((u4.setCell ⟨bQ,0,none⟩ (.int .i64 yf)).setCell ⟨bQ,1,none⟩ (.int .i64 yt)).setCell ⟨bQ,2,none⟩ (.string ys)).setCell ⟨bQ,3,none⟩ (.int .i64 yl)).setCell ⟨bQ,4,none⟩ (.int .i64 yr)).setCell ⟨bQ,5,none⟩ (.int .i64 yc)).setCell ⟨bQ,6,none⟩ (.int .i64 yk))=u5 at *;refine⟨ku,hK _ _ ?_⟩;clear hK K;have ad9:aB dm u5:=EB.grows ad8 ku;clear ku;have eQ:=oc;clear oc;have eP:=n9;clear n9;refine cK0 ?_;exact⟨(bP,bQ),⟨eP,eQ,aj,ad9⟩,by simp only[iM0,Ae];go_simp⟩
           ·refine dF rfl rfl (λK hK=>?_)
            go_simp;have eQ:qM (Wd.alloc (.cells #[.int .i64 0,.int .i64 0,.string ⟨#[]⟩,.int .i64 0,.int .i64 0,.int .i64 0,.int .i64 0] 51)) Wd.heap.size ⟨0,0,⟨#[]⟩,0,0,0,0⟩:=qM.box Wd ⟨0,0,⟨#[]⟩,0,0,0,0⟩ _;have geQ:=aB.alloc Wd (.cells #[.int .i64 0,.int .i64 0,.string ⟨#[]⟩,.int .i64 0,.int .i64 0,.int .i64 0,.int .i64 0] 51);generalize Wd.alloc (.cells #[.int .i64 0,.int .i64 0,.string ⟨#[]⟩,.int .i64 0,.int .i64 0,.int .i64 0,.int .i64 0] 51)=u2 at *;obtain⟨bQ,hbQ⟩:=exq Wd.heap.size;rw[<-hbQ]at eQ ⊢;have qbQ:=Al hbQ.symm;clear hbQ;refine⟨EB.of geQ (by omega),hK _ _ ?_⟩;clear hK K;have sQ:=geQ.size;have lQ:=eQ.lt;refine dF rfl rfl (λK hK=>?_);go_simp;have eP:qM (u2.alloc (.cells #[.int .i64 0,.int .i64 0,.string ⟨#[]⟩,.int .i64 0,.int .i64 0,.int .i64 0,.int .i64 0] 51)) u2.heap.size ⟨0,0,⟨#[]⟩,0,0,0,0⟩:=qM.box u2 ⟨0,0,⟨#[]⟩,0,0,0,0⟩ _;have geP:=aB.alloc u2 (.cells #[.int .i64 0,.int .i64 0,.string ⟨#[]⟩,.int .i64 0,.int .i64 0,.int .i64 0,.int .i64 0] 51);generalize u2.alloc (.cells #[.int .i64 0,.int .i64 0,.string ⟨#[]⟩,.int .i64 0,.int .i64 0,.int .i64 0,.int .i64 0] 51)=u3 at *;obtain⟨bP,hbP⟩:=exq u2.heap.size;rw[<-hbP]at eP ⊢;have qbP:=Al hbP.symm;clear hbP;refine⟨EB.of geP (by omega),hK _ _ ?_⟩;clear hK K;have sP:=geP.size;have lP:=eP.lt;replace eQ:=eQ.grows geP;have ad7:aB dm u3:=(gd.tr geQ).tr geP;have aj:bP≠bQ:=by omega
            clear geQ geP;have p0:=eP.c 0 _ rfl;have p1:=eP.c 1 _ rfl;have p2:=eP.c 2 _ rfl;have p3:=eP.c 3 _ rfl;have p4:=eP.c 4 _ rfl;have p5:=eP.c 5 _ rfl;have p6:=eP.c 6 _ rfl;have pf:=eP.f;refine dF rfl rfl (λK hK=>?_);go_simp;have n9:qM (xI0 u3 bP ⟨f,t,xs,xl,xr,xc,xk⟩) bP ⟨f,t,xs,xl,xr,xc,xk⟩:=eP.all (y:=⟨f,t,xs,xl,xr,xc,xk⟩);have oc:=eQ.other7 aj ⟨f,t,xs,xl,xr,xc,xk⟩;have ku:EB dm.heap.size u3 (xI0 u3 bP ⟨f,t,xs,xl,xr,xc,xk⟩):=EB.set7 (by omega) _;clear p0 p1 p2 p3 p4 p5 p6 pf eP eQ;unfold Go.Proofs.YthgklnohcmaopaaGreatDoor.xI0 at n9 oc ku;simp only at n9 oc ku;generalize (((((((u3.setCell ⟨bP,0,none⟩ (.int .i64 f)).setCell ⟨bP,1,none⟩ (.int .i64 t)).setCell ⟨bP,2,none⟩ (.string xs)).setCell ⟨bP,3,none⟩ (.int .i64 xl)).setCell ⟨bP,4,none⟩ (.int .i64 xr)).setCell ⟨bP,5,none⟩ (.int .i64 xc)).setCell ⟨bP,6,none⟩ (.int .i64 xk))=u4 at *;refine⟨ku,hK _ _ ?_⟩;clear hK K;have ad8:aB dm u4:=EB.grows ad7 ku;clear ku;have eP:=n9;clear n9;have eQ:=oc;clear oc;have p0:=eQ.c 0 _ rfl;have p1:=eQ.c 1 _ rfl;have p2:=eQ.c 2 _ rfl;have p3:=eQ.c 3 _ rfl;have p4:=eQ.c 4 _ rfl;have p5:=eQ.c 5 _ rfl;have p6:=eQ.c 6 _ rfl;have pf:=eQ.f;refine dF rfl rfl (λK hK=>?_);go_simp;have oc:qM (xI0 u4 bQ ⟨yf,yt,ys,yl,yr,yc,yk⟩) bQ ⟨yf,yt,ys,yl,yr,yc,yk⟩:=eQ.all (y:=⟨yf,yt,ys,yl,yr,yc,yk⟩);have n9:=eP.other7 (Ne.symm aj) ⟨yf,yt,ys,yl,yr,yc,yk⟩;have ku:EB dm.heap.size u4 (xI0 u4 bQ ⟨yf,yt,ys,yl,yr,yc,yk⟩):=EB.set7 (by omega) _;clear p0 p1 p2 p3 p4 p5 p6 pf eQ eP;unfold Go.Proofs.YthgklnohcmaopaaGreatDoor.xI0 at oc n9 ku;simp only at oc n9 ku;generalize (((((((u4.setCell ⟨bQ,0,none⟩ (.int .i64 yf)).setCell ⟨bQ,1,none⟩ (.int .i64 yt)).setCell ⟨bQ,2,none⟩ (.string ys)).setCell ⟨bQ,3,none⟩ (.int .i64 yl)).setCell ⟨bQ,4,none⟩ (.int .i64 yr)).setCell ⟨bQ,5,none⟩ (.int .i64 yc)).setCell ⟨bQ,6,none⟩ (.int .i64 yk))=u5 at *;refine⟨ku,hK _ _ ?_⟩;clear hK K;have ad9:aB dm u5:=EB.grows ad8 ku;clear ku;have eQ:=oc;clear oc;have eP:=n9;clear n9;refine cK0 ?_;exact⟨(bP,bQ),⟨eP,eQ,aj,ad9⟩,by simp only[iM0,Ae];go_simp⟩
          ·rintro⟨bP,bQ⟩ w5 ⟨eP,eQ,aj,g5⟩
           simp only[iM0,Ae];go_simp;have p0:=g5.cell n0;have p1:=g5.cell n1;have ug:Hid (aB w2 w5):=HG2.out.tr g5;clear d0 m0 d1 m1 d2 m2 d3 m3 d4 m4 d5 m5 d6 m6 gd iz jo aj;have x0:=eP.c 0 _ rfl;have y0:=eQ.c 0 _ rfl;have x1:=eP.c 1 _ rfl;have y1:=eQ.c 1 _ rfl;have x2:=eP.c 2 _ rfl;have y2:=eQ.c 2 _ rfl;have x3:=eP.c 3 _ rfl;have y3:=eQ.c 3 _ rfl;have x4:=eP.c 4 _ rfl;have y4:=eQ.c 4 _ rfl;have x5:=eP.c 5 _ rfl;have y5:=eQ.c 5 _ rfl;have x6:=eP.c 6 _ rfl;have y6:=eQ.c 6 _ rfl;clear eP eQ;by_cases h0:(f:Int)=yf
           ·subst h0
            by_cases h1:(t:Int)=yt
            ·subst h1
             by_cases h2:xs=ys
             ·subst h2
              by_cases h3:xl=yl
              ·subst h3
               by_cases h4:xr=yr
               ·subst h4
                obtain⟨rp,tf⟩:=HMB.out _ (Ac HY.out) rfl rfl rfl rfl rfl;simp only at rp tf;have hcd:decide (yc<=xc)=true:=decide_eq_true rp;have HALL:qO1 M f t xs xl xr (j+1) true:=λ_ _ _ _ _=>rfl;clear HNX rp;by_cases hyx:yc=xc/\yk=xk
                ·obtain⟨rfl,rfl⟩:=hyx
                 have exs:(xs.toList==xs.toList)=true:=by simp
                 clear tf;go_wp2_with fail
                 all_goals (go_roundw;(case rel=>first|exact⟨j+1,true,ft,by go_num,rfl,ug,HALL⟩|exact⟨j+1,ft,by go_num,HALL⟩|exact⟨j+1,ft,by go_num,ug,HALL⟩);(case measure=>simp[intOf];omega))
                ·obtain⟨rfl,rfl⟩:pt=mr/\xs=ms:=tf.resolve_left (λe=>hyx (by cases e;exact⟨rfl,rfl⟩))
                 have e1:(pt.toList==pt.toList)=true:=by simp
                 have e2:(xs.toList==xs.toList)=true:=by simp
                 clear tf;go_wp2_with fail
                 all_goals (go_roundw;(case rel=>first|exact⟨j+1,true,ft,by go_num,rfl,ug,HALL⟩|exact⟨j+1,ft,by go_num,HALL⟩|exact⟨j+1,ft,by go_num,ug,HALL⟩);(case measure=>simp[intOf];omega))
               ·have HNE:=HNX.out (λh=>h4 h.2.2.2.2.symm)
                have bq4:(xr==yr)=false:=by rw[beq_eq_false_iff_ne];exact h4
                clear h4;go_wp2_with fail
                all_goals (go_roundw;(case rel=>first|exact⟨j+1,b,ft,by go_num,rfl,ug,HNE⟩|exact⟨j+1,ft,by go_num,HNE⟩|exact⟨j+1,ft,by go_num,ug,HNE⟩|exact⟨j+1,ft,by go_num,by revert HNE;cases b;(· exact λh => .inl ⟨rfl,h⟩);exact λh => .inr ⟨rfl,h⟩⟩);(case measure=>simp[intOf];omega))
              ·have HNE:=HNX.out (λh=>h3 h.2.2.2.1.symm)
               have bq3:(xl==yl)=false:=by rw[beq_eq_false_iff_ne];exact h3
               clear h3;go_wp2_with fail
               all_goals (go_roundw;(case rel=>first|exact⟨j+1,b,ft,by go_num,rfl,ug,HNE⟩|exact⟨j+1,ft,by go_num,HNE⟩|exact⟨j+1,ft,by go_num,ug,HNE⟩|exact⟨j+1,ft,by go_num,by revert HNE;cases b;(· exact λh => .inl ⟨rfl,h⟩);exact λh => .inr ⟨rfl,h⟩⟩);(case measure=>simp[intOf];omega))
             ·have HNE:=HNX.out (λh=>h2 h.2.2.1.symm)
              have bq2:(xs.toList==ys.toList)=false:=by rw[beq_eq_false_iff_ne];exact λe=>h2 (rM0 (by rw[Av,Av]at e;exact e))
              clear h2;go_wp2_with fail
              all_goals (go_roundw;(case rel=>first|exact⟨j+1,b,ft,by go_num,rfl,ug,HNE⟩|exact⟨j+1,ft,by go_num,HNE⟩|exact⟨j+1,ft,by go_num,ug,HNE⟩|exact⟨j+1,ft,by go_num,by revert HNE;cases b;(· exact λh => .inl ⟨rfl,h⟩);exact λh => .inr ⟨rfl,h⟩⟩);(case measure=>simp[intOf];omega))
            ·have HNE:=HNX.out (λh=>h1 h.2.1.symm)
             have bq1:((t:Int)==yt)=false:=by rw[beq_eq_false_iff_ne];exact h1
             clear h1;go_wp2_with fail
             all_goals (go_roundw;(case rel=>first|exact⟨j+1,b,ft,by go_num,rfl,ug,HNE⟩|exact⟨j+1,ft,by go_num,HNE⟩|exact⟨j+1,ft,by go_num,ug,HNE⟩|exact⟨j+1,ft,by go_num,by revert HNE;cases b;(· exact λh => .inl ⟨rfl,h⟩);exact λh => .inr ⟨rfl,h⟩⟩);(case measure=>simp[intOf];omega))
           ·have HNE:=HNX.out (λh=>h0 h.1.symm)
            have bq0:((f:Int)==yf)=false:=by rw[beq_eq_false_iff_ne];exact h0
            clear h0;go_wp2_with fail
            all_goals (go_roundw;(case rel=>first|exact⟨j+1,b,ft,by go_num,rfl,ug,HNE⟩|exact⟨j+1,ft,by go_num,HNE⟩|exact⟨j+1,ft,by go_num,ug,HNE⟩|exact⟨j+1,ft,by go_num,by revert HNE;cases b;(· exact λh => .inl ⟨rfl,h⟩);exact λh => .inr ⟨rfl,h⟩⟩);(case measure=>simp[intOf];omega))
         ·obtain rfl:j=M.length:=by omega
          have rr:b=true:=by
           obtain⟨y,hy,h⟩:=HEX.out;obtain⟨q,hq,yj⟩:=List.getElem_of_mem hy;exact ad6 q y hq (by rw[Ab hq,yj]) h
          subst rr;have HG2:=Aa qi.out;clear ad6 qi HEX HMB;go_wp2_with fail
          go_roundw
          case rel=>exact⟨k+1,ae,by go_num,HG2.out⟩
          case measure=>simp[intOf];omega
       ·obtain rfl:k=L.length:=by omega
        have CW2:=CW wo (g2.tr hg.out);have HGE:=Aa (g2.tr hg.out);clear hg;go_wp2_with fail
        refine CW2.out.mono ?_;rintro e w4 ⟨rfl,ch⟩;go_wp2_with fail
        go_ret;exact⟨rfl,HGE.out.tr ch⟩
       -- END ROUNDS
     ·have ol:(if M.length<=10000 then (0:Int) else 7)=7:=if_neg ux
      have CW2:=CW w2 g2;simp only[iM0,Ae];rw[ol];clear mh q4 q5;go_simp;go_wp2_with fail
      refine CW2.out.mono ?_;rintro e w4 ⟨rfl,ch⟩;go_wp2_with fail
      go_ret;exact⟨rfl,g2.tr ch⟩
   ·have qo:decide ((400:Int)<ms.size)=true:=decide_eq_true (by omega)
    have CW2:=CW w1 g1;clear q4 q5;go_wp2_with fail
    refine CW2.out.mono ?_;rintro e w4 ⟨rfl,ch⟩;go_wp2_with fail
    go_ret;exact⟨rfl,g1.tr ch⟩
  ·have dd:decide ((400:Int)<mr.size)=true:=decide_eq_true (by omega)
   have CW2:=CW w1 g1;clear q4 q5;go_wp2_with fail
   refine CW2.out.mono ?_;rintro e w4 ⟨rfl,ch⟩;go_wp2_with fail
   go_ret;exact⟨rfl,g1.tr ch⟩
 ·rw[Ar]at rr
  subst rr;have CW2:=CW w1 g1;clear hb q4 q5;go_wp2_with fail
  refine CW2.out.mono ?_;rintro e w4 ⟨rfl,ch⟩;go_wp2_with fail
  go_ret;exact⟨rfl,g1.tr ch⟩
end
section
open Go Go.RowKit
def pW1 (i:Nat):List UInt8:=[232,154,138]++[At (97+i/100),At (97+i/10%10),At (97+i%10)]
def pX1 (i:Nat):En:=⟨⟨#[227,129,139]⟩,mkB (pW1 i),1,1,i⟩
def tF (n:Nat):List En:=mR++(List.range n).map pX1
theorem fD0 (n:Nat):(tF n).length=n+1:=by
 unfold tF;rw[Ad,Ah,List.length_range,show mR.length=1 from rfl]
 omega
theorem uB {n:Nat} {x:En} (h:x∈tF n):x∈mR\/∃i,i<n/\x=pX1 i:=by
 rcases List.mem_append.1 h with h|h
 ·exact .inl h
 ·obtain⟨i,hi,rfl⟩:=List.mem_map.1 h
  exact .inr ⟨i,List.mem_range.1 hi,rfl⟩
theorem sN0 {i j:Nat} (hi:i<998) (hj:j<998) (h:pW1 i=pW1 j):i=j:=by
 unfold pW1 at h;have h2:=List.append_cancel_left h;simp only[List.cons.injEq,and_true]at h2;obtain⟨a,b,c⟩:=h2;have ha:=congrArg Au a;have hb:=congrArg Au b;have hc:=congrArg Au c;simp only[UInt8.toNat_ofNat',Nat.reducePow]at ha hb hc;omega
theorem gQ1:∀i,i<998->jZ (pX1 i) 2=0:=by decide +kernel
theorem sR {x:En} (h:x∈tF 998):x.r=⟨#[227,129,139]⟩/\1<=x.s.size/\x.s.size<=6/\x.s≠mkB ka/\jZ x 2=0:=by
 rcases uB h with h|⟨i,hi,rfl⟩
 ·rw[List.mem_singleton.1 h]
  refine⟨rfl,by decide,by decide,by decide,by decide +kernel⟩
 ·have hs:(pX1 i).s.size=6:=rfl
  refine⟨rfl,by omega,by omega,λe=>?_,gQ1 i hi⟩
  have:=congrArg Ap e
  rw[hs]at this;exact absurd this (by decide)
theorem zF0 {x y:En} (hx:x∈tF 998) (hy:y∈tF 998) (h:x.s=y.s):x=y:=by
 rcases uB hx with h1|⟨i,hi,rfl⟩
 ·rw[List.mem_singleton.1 h1]at h ⊢
  rcases uB hy with h2|⟨j,hj,rfl⟩
  ·exact(List.mem_singleton.1 h2).symm
  ·exact absurd (congrArg Ap h) (show ¬(3:Nat)=6 by decide)
 ·rcases uB hy with h2|⟨j,hj,rfl⟩
  ·rw[List.mem_singleton.1 h2]at h
   exact absurd (congrArg Ap h) (show ¬(6:Nat)=3 by decide)
  ·rw[sN0 hi hj (nN0 h)]
theorem zV0:(tF 998).Nodup:=by
 unfold tF;refine List.nodup_append.2 ⟨by simp[mR],?_,?_⟩
 ·refine(List.pairwise_map.2 ((List.pairwise_lt_range (n:=998)).imp_of_mem λ{a b} ha hb gp e=>?_))
  have:=sN0 (List.mem_range.1 ha) (List.mem_range.1 hb) (nN0 (congrArg En.s e))
  omega
 ·intro x hx y hy e
  obtain⟨i,hi,rfl⟩:=List.mem_map.1 hy;rw[List.mem_singleton.1 hx]at e;exact absurd (congrArg (λz:En=>z.s.size) e) (show ¬(3:Nat)=6 by decide)
theorem oX {x:En}:x∈sortS (tF 998)↔x∈tF 998:=by
 rw[(dJ (tF 998)).2 x];exact⟨λh=>h.1,λh=>⟨h,λz hz hk=>by rw[zF0 hz h hk.2.1];exact Int.le_refl _⟩⟩
theorem oO:(sortS (tF 998)).Nodup:=(dJ (tF 998)).1.imp λ{a b} gp e=>by rw[e,fF]at gp; cases gp
theorem nG0:(sortS (tF 998)).length=999:=by
 have h1:=cG zV0 (l':=sortS (tF 998)) λx hx=>oX.2 hx;have h2:=cG oO (l':=tF 998) λx hx=>oX.1 hx;rw[fD0]at h1 h2;omega
theorem dF0 {n:Int}:∀ {l:List En},(∀x∈l,jZ x n=0)->iW n l=0
 | [],_=>rfl
 | x::l,h=>by rw[iW,if_pos (h x (by simp))];exact dF0 λy hy=>h y (by simp[hy])
theorem nK1 {ks:List ByteArray} (h1:ks.length<=1000) (h2:∀s∈ks,1<=s.size/\s.size<=8):fY (bls (mY ks))=0/\eA (bls (mY ks))<=76801:=by
 have hl:(bls (mY ks)).length<=ks.length:=by unfold bls;rw[Ah];exact rL ks
 have hm:∀s∈bls (mY ks),1<=s.length/\s.length<=8:=λs hs=>by
  obtain⟨b,hb,rfl⟩:=List.mem_map.1 hs
  have:=h2 b (vM hb)
  rwa [Ay]at this
 have abv:(bls (mY ks)).Pairwise λa b=>Op.bytesLess a b=true:=by rw[gR0];exact sS _
 have hc:eA (bls (mY ks))<=76801:=by
  have:=vQ (B:=8) (λs hs=>(hm s hs).2) _ (As (bls (mY ks)).length)
  unfold eA;omega
 refine⟨?_,hc⟩;unfold fY;rw[if_neg (by omega),aI0 λi hi=>?_,if_neg (by decide),if_neg (by omega)];have ld:=iX hi
 have:=hm _ (Ac ld)
 unfold cC0;rw[decide_eq_false (by omega),decide_eq_false (by omega),Aw,Aw];by_cases h0:0<i
 ·have lx:=iX (L:=bls (mY ks)) (j:=i-1) (by omega)
  have hp:=List.pairwise_iff_getElem.1 abv (i-1) i (by omega) hi (by omega);rw[(List.getElem?_eq_some_iff.1 ld).2,(List.getElem?_eq_some_iff.1 lx).2]at hp;rw[hp];simp
 ·rw[decide_eq_false h0];rfl
theorem uF (f:En->ByteArray) (hf:∀x∈tF 998,1<=(f x).size/\(f x).size<=8):fY (bls (mY ((sortS (tF 998)).map f)))=0/\eA (bls (mY ((sortS (tF 998)).map f)))<=76801:=by
 refine nK1 (by rw[Ah,nG0];decide) λs hs=>?_;obtain⟨x,hx,rfl⟩:=List.mem_map.1 hs;exact hf x (oX.1 hx)
theorem lH1:∀x∈tF 998,1<=x.r.size/\x.r.size<=8:=λx hx=>by rw[(sR hx).1]; decide
theorem lR1:∀x∈tF 998,1<=x.s.size/\x.s.size<=8:=λx hx=>by have:=sR hx; omega
theorem rW0:xA oU (some bV0) (tF 998)=0:=by
 unfold xA;rw[if_neg (by decide +kernel)];simp only;rw[if_pos (by decide),if_neg (by rw[fD0];decide)];exact dF0 λx hx=>(sR hx).2.2.2.2
theorem ful_make:makeE oU (some bV0) (tF 998)=0:=by
 unfold makeE;rw[if_pos rW0,if_pos ⟨(uF (·.r) lH1).1,(uF (·.s) lR1).1⟩]
theorem ful_14 (hm:bV0.OK):fO (imgP oU bV0 (sortS (tF 998)))=0:=by
 obtain⟨_,_,n3,n4⟩:=dX rW0;refine jM0 hm n3 (by rw[nG0];decide) (uF (·.r) lH1).1 (uF (·.s) lR1).1 (uF (·.r) lH1).2 (uF (·.s) lR1).2 λx hx=>?_
 have:=nV (n4 x (oX.1 hx))
 have h2:oU.length=2:=by decide
 omega
theorem ful_nodes (n:Nat) (pl:Int):(fP (List.replicate n ka) (sortS (tF 998)) [] pl).length=n*1000:=by
 have h:=cX1 (n:=n) (kc:=ka) (es:=sortS (tF 998)) (pl:=pl) (by decide) (by decide +kernel) (λe he=>(sR (oX.1 he)).1) (λe he=>(sR (oX.1 he)).2.2.2.1) ?_
 ·rw[h,nG0]
 exact oO.imp_of_mem λ{a b} ha hb aj e=>aj (zF0 (oX.1 ha) (oX.1 hb) e.1)
def kD1 (n:Nat):yH:=⟨oU,0,[],tF n⟩
theorem ful_src (n:Nat):cE0 (kD1 n)=some bV0:=gT0
theorem ful_ok {n:Nat} (hn:n<=998):iK0 (kD1 n) where
 p:=show ∀y∈oU,y.name.size<=maxLen by decide
 s:=λy hy=>by cases hy
 e:=λy hy=>by
  rcases uB (show y∈tF n from hy) with h|⟨i,hi,rfl⟩
  ·rw[List.mem_singleton.1 h]
   exact⟨by decide,by decide,by decide,by decide,by decide⟩
  ·refine⟨(show (3:Nat)<=maxLen by decide),(show (6:Nat)<=maxLen by decide),(show (Lit.int .i64 1).wf=true by decide),(show (Lit.int .i64 1).wf=true by decide),?_⟩
   show (Lit.int .i64 (i:Int)).wf=true
   exact xW (n:=(i:Int)) (by omega) (by omega)
 d:=(show (Lit.int .i64 0).wf=true by kernel_rfl)
 lp:=show oU.length<=140737488355328 by decide
 ls:=Ao _
 le:=by show (tF n).length<=_;rw[fD0];omega
end
section
open Go Go.ChangeShapes Go.WideShapes Go.ChangeAt Go.RowKit Go.Shelf Go.Lib
open Go.ChangeMaps (open_string shut_string)
theorem yZ0 {H:Type} {enc:TypeId×Value->H} {W:World} {base:Nat} {sp:Nat->Bool} {hd:Bool} (n:Nat) (cs:List Value) (x:DataW H×List MemPlace) (hl:cs.length=3) (h:DataW.trod enc Tryz.prog W base sp hd n 45 cs=some x) :
  ∃y:Lrn,cs=cU y/\vG y:=by
 obtain⟨xs,n,_,hx,_,ah,aw⟩:=DataW.trod_struct Tryz.underlying45 h
 match cs,hl with
 | [c0,c1,c2],_ =>
  match xs,ah with
  | [y0,y1,y2],_ =>
   have g0:=aw 0 _ rfl;have g1:=aw 1 _ rfl;have g2:=aw 2 _ rfl;obtain⟨s0,k0,_,z0⟩:=DataW.trod_string Tryz.underlying9 g0;obtain⟨s1,k1,_,z1⟩:=DataW.trod_string Tryz.underlying9 g1;obtain⟨n2,k2,_,z2⟩:=DataW.trod_int Tryz.underlying3 g2;refine⟨⟨s0,s1,n2⟩,?_,⟨z0,z1,z2⟩⟩;have e0:c0=.string s0:=by injection k0
   have e1:c1=.string s1:=by injection k1
   have e2:c2=.int .i64 n2:=by injection k2
   subst e0 e1 e2;rfl
theorem open_case {H:Type} {enc:TypeId×Value->H} {W:World} {base b0:Nat} {sp:Nat->Bool} {hd:Bool} {r:Reach} {v:Value} {d:DataW H} {ps:List MemPlace} {ts:List TypeId} {ds:List (DataW H)} {j:Nat}
  (ve:Value.okWide Tryz.prog W r b0 43 v) (h:DataW.Trod enc Tryz.prog W base sp hd 43 v d ps)
  (hz:(DataW.weightsEach Tryz.prog ts ds).all (· <= reachBytes)=true) (htj:ts[j]?=some 43) (hdj:ds[j]?=some d) :
  ∃(c:rQ) (A:cQ0),v=A.agg c/\aE0 W A c/\pU0 c/\(A.la=none->A.lc=0):=by
 obtain⟨cs,rfl,hs⟩:=okWide_struct Tryz.underlying43 ve;obtain⟨bz,hf⟩:=h;obtain⟨xs,n,_,hx,hl,ah,aw⟩:=DataW.trod_struct Tryz.underlying43 hf;have hs6:cs.size=6:=hs;obtain⟨l⟩:=cs
 match l,hs6 with
 | [x0,x1,x2,x3,x4,x5],_ =>
  match xs,ah with
  | [y0,y1,y2],_ =>
   have g0:=aw 0 _ rfl;have g1:=aw 1 _ rfl;have g2:=aw 2 _ rfl;obtain⟨xs',n',_,q8,hl',aeo,uh⟩:=DataW.trod_struct Tryz.underlying26 g0
   match xs',aeo with
   | [u0,u1,u2,u3],_ =>
    have f0:=uh 0 _ rfl;have f1:=uh 1 _ rfl;have f2:=uh 2 _ rfl;have f3:=uh 3 _ rfl;obtain⟨pa,p,pc,k0,hp,okp,hp2,_⟩:=qO (cells:=cX) (OK:=jR1) Tryz.underlying22 (by kernel_rfl) (by decide) (λ_=>rfl) fD1 f0;obtain⟨n1,k1,_,z1⟩:=DataW.trod_int Tryz.underlying3 f1;obtain⟨sa,s,sc,k2,hs',oks,ew,_⟩:=qO (cells:=oJ1) (OK:=oR1) Tryz.underlying23 (by kernel_rfl) (by decide) (λ_=>rfl) kL1 f2;obtain⟨ea,e,ec,k3,he,oke,he2,_⟩:=qO (cells:=bF) (OK:=yB) Tryz.underlying24 (by kernel_rfl) (by decide) nY dI1 f3;obtain⟨tx,k4,ex,z4⟩:=DataW.trod_string Tryz.underlying9 g1;obtain⟨la,ls,lc,k5,hla,okl,ky,pz⟩:=qO (cells:=cU) (OK:=vG) Tryz.underlying41 (by kernel_rfl) (by decide) (λ_=>rfl) yZ0 g2
    have ij:ds[j]?=some (.agg [y0.1,y1.1,y2.1]):=by
     rw[hdj];have e1:=congrArg Ba hx;simpa using e1
    have hw:=wP hz htj ij Tryz.underlying43
    have hy0:[y0.1,y1.1,y2.1][0]?=some (.agg [u0.1,u1.1,u2.1,u3.1]):=by
     have e1:=congrArg Ba q8;simpa using e1
    have hw0:=wP hw (j:=0) (t:=26) rfl hy0 Tryz.underlying26;have l0:=tU hw0 (j:=0) (d:=u0.1) rfl rfl Tryz.underlying22 (of_decide_eq_true (by kernel_rfl)) (Ax hp2 (λh=>Or.inl ⟨h.1,congrArg Aq h.2⟩) Or.inr);have l2:=tU hw0 (j:=2) (d:=u2.1) rfl rfl Tryz.underlying23 (of_decide_eq_true (by kernel_rfl)) (Ax ew (λh=>Or.inl ⟨h.1,congrArg Aq h.2⟩) Or.inr);have l3:=tU hw0 (j:=3) (d:=u3.1) rfl rfl Tryz.underlying24 (of_decide_eq_true (by kernel_rfl)) (Ax he2 (λh=>Or.inl ⟨h.1,congrArg Aq h.2⟩) Or.inr);have l5:=tU hw (j:=2) (d:=y2.1) rfl rfl Tryz.underlying41 (of_decide_eq_true (by kernel_rfl)) (Ax ky (λh=>Or.inl ⟨h.1,congrArg Aq h.2⟩) Or.inr)
    have l4:tx.size<=140737488355328:=by
     have oz:=sized_string (bytes:=tx.data.toList) hw (j:=1) rfl (by rw[show [y0.1,y1.1,y2.1][1]?=some y1.1 from rfl,ex])
     have h3:reachBytes<2^47:=reachBytes_lt;rw[<-Ay]at oz;omega
    refine⟨⟨⟨p,n1,s,e⟩,tx,ls⟩,⟨⟨pa,pc,sa,sc,ea,ec⟩,la,lc⟩,?_,⟨⟨hp,hs',he⟩,hla⟩,⟨⟨λy hy=>(okp y hy).n,λy hy=>(oks y hy).c,oke,z1,l0,l2,l3⟩,l4,okl,l5⟩,pz⟩;have e0:x0=.slice pa p.length pc:=by injection (show [x0]=[_] from k0)
    have e1:x1=.int .i64 n1:=by injection (show [x1]=[_] from k1)
    have e2:x2=.slice sa s.length sc:=by injection (show [x2]=[_] from k2)
    have e3:x3=.slice ea e.length ec:=by injection (show [x3]=[_] from k3)
    have e4:x4=.string tx:=by injection (show [x4]=[_] from k4)
    have e5:x5=.slice la ls.length lc:=by injection (show [x5]=[_] from k5)
    subst e0 e1 e2 e3 e4 e5;rfl
theorem open_learned {H:Type} {enc:TypeId×Value->H} {W:World} {base b0:Nat} {sp:Nat->Bool} {hd:Bool} {r:Reach} {v:Value} {d:DataW H} {ps:List MemPlace}
  (ve:Value.okWide Tryz.prog W r b0 45 v) (h:DataW.Trod enc Tryz.prog W base sp hd 45 v d ps):∃y:Lrn,v=.agg #[.string y.r,.string y.s,.int .i64 y.b]/\vG y:=by
 obtain⟨cs,rfl,hs⟩:=okWide_struct Tryz.underlying45 ve;obtain⟨bz,hf⟩:=h;have hs3:cs.toList.length=3:=by rw[Array.length_toList];exact hs
 obtain⟨y,hy,ok⟩:=yZ0 bz cs.toList _ hs3 hf;refine⟨y,?_,ok⟩;obtain⟨l⟩:=cs;simp only[cU]at hy;subst hy;rfl
end
end Go.Proofs.YthgklnohcmaopaaGreatDoor
