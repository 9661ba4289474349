/- The texts W21d, one behind the other. -/
import Derived.Test.YtaogeadljgjpcaaGreatDoorRq45
open Go.Lib renaming hid → Aa
set_option maxHeartbeats 4000000
namespace Go.Proofs.YtaogeadljgjpcaaGreatDoor
set_option maxRecDepth 100000
open Go Go.RowKit Go.Shelf
attribute [local go_sem] aQ aM
def gT1 (c:xN) (C:List (List UInt8)):List Nd:=fS C (sortS c.s.e) c.l (plainP c.s.p:Nat)
structure pS1 (c:xN) (w0 w:World) (db:Nat) (m:Mx) (C:List (List UInt8)) (v:Value):Prop where
 li:rA c=true
 d:gA0 c.s w db m
 co:iQ C
 fl:C.flatten=bl c.x
 ne:C≠[]
 le:C.length<=64
 few:(gT1 c C).length<=10000
 own:aV w w0.heap.size 49 7 dX v (gT1 c C)
def iN1 (c:xN) (w:World) (e:Ending) (w':World):Prop :=
 aB w w'/\∃dv v b,e=.returned (.tuple #[dv,v,.bool b])/\(b=true->∃db m C,dv=.pointer (some ⟨db,0,none⟩)/\pS1 c w w' db m C v)
theorem iN1.no {c:xN} {w w':World} (hg:aB w w') (dv v:Value):iN1 c w (.returned (.tuple #[dv,v,.bool false])) w':=⟨hg,dv,v,false,rfl,λh=>by cases h⟩
theorem gA0.ne {x:zU} {w:World} {db:Nat} {m:Mx} (h:gA0 x w db m):x.p≠[]:=λe=>by
 have h1:=(eU h.dk.chk).2.2.1;rw[e]at h1;cases h1
theorem nodes21_any (c:xN) (A:nS0) (w:World) (he:Env w) (ag:jJ1 c) (ac:kH0 w A c) :
  Calls Tryz.prog 21 #[A.agg c] w (iN1 c w):=by
 have HE:=Aa he;have HOK:=Aa ag;obtain⟨⟨xp,xd,xs,xe⟩,x,ls⟩:=c;obtain⟨⟨pa,pc,sa,sc,ea,ec⟩,la,lc⟩:=A;obtain⟨W0,cq⟩:=exq (w.alloc (.cells #[.slice pa xp.length pc,.int .i64 xd,.slice sa xs.length sc,.slice ea xe.length ec,.string x,.slice la ls.length lc] 33));have dg:aB w W0:=by rw[cq];exact aB.alloc _ _
 obtain⟨bc,_⟩:=cF (show aB (w.alloc (.cells #[.slice pa xp.length pc,.int .i64 xd,.slice sa xs.length sc,.slice ea xe.length ec,.string x,.slice la ls.length lc] 33)) W0 by rw[cq];exact aB.refl _)
 have HB:=Aa (And.intro (bc 0 _ rfl) (And.intro (bc 1 _ rfl) (And.intro (bc 2 _ rfl) (And.intro (bc 3 _ rfl) (And.intro (bc 4 _ rfl) (bc 5 _ rfl))))));have q0:=bc 0 _ rfl;have q1:=bc 1 _ rfl;have q2:=bc 2 _ rfl;have q3:=bc 3 _ rfl;have q4:=bc 4 _ rfl;have q5:=bc 5 _ rfl;have CL:=Aa (nU0 ⟨⟨xp,xd,xs,xe⟩,x,ls⟩ ⟨⟨pa,pc,sa,sc,ea,ec⟩,la,lc⟩ W0 ag (ac.grows dg));unfold nS0.agg at CL;simp only at CL;have CO:=λ(hl:mO ⟨xp,xd,xs,xe⟩=true) (u:World) (hu:aB w u)=>Aa (qW0 ⟨xp,xd,xs,xe⟩ ⟨pa,pc,sa,sc,ea,ec⟩ u (HE.out.grows hu) ag.s hl (ac.s.grows hu));unfold yT.agg yT.cells at CO;simp only at CO;have HLA:Hid (aG w la 3 (ls.map iW)):=ac.l;show Calls _ _ #[.agg #[.slice pa xp.length pc,.int .i64 xd,.slice sa xs.length sc,.slice ea xe.length ec,.string x,.slice la ls.length lc]] _ (iN1 ⟨⟨xp,xd,xs,xe⟩,x,ls⟩ w)
 clear he ag ac bc;by_cases hl:rA ⟨⟨xp,xd,xs,xe⟩,x,ls⟩=true
 ·rw[hl]at CL
  have HLI:=Aa hl;obtain⟨np,lg,hl3,hl4⟩:=bW1 hl;have HL4:Hid (∀y∈ls,y.r.size<=400/\y.s.size<=400):=hl4;simp only at np lg hl3;have CO2:=CO np;clear CO hl np hl4;go_enter Tryz.func21,Tryz.ntmps21
  go_wp2_with fail
  rw[<-cq];clear cq;refine CL.out.mono ?_;rintro e w1 ⟨rfl,aq⟩;have g1:=dg.tr aq;have q0:=aq.cell HB.out.1;have q1:=aq.cell HB.out.2.1;have q2:=aq.cell HB.out.2.2.1;have q3:=aq.cell HB.out.2.2.2.1;clear CL;go_wp2_with fail
  refine(CO2 w1 g1).out.mono ?_;rintro e w2 ⟨af,hd⟩;have g2:=g1.tr af;clear CO2;rcases hd with ⟨aj,rfl⟩|⟨db,m,rfl,hd⟩
  ·generalize makeE _ _ _=E at aj
   have hEb:(E != 0)=true:=by simpa using aj
   have HN:=Aa (iN1.no (c:=⟨⟨xp,xd,xs,xe⟩,x,ls⟩) g2 (.pointer none) (.slice none 0 0));clear aj;go_wp2_with fail
   go_ret3;exact HN.out
  ·have q4:=af.cell (aq.cell HB.out.2.2.2.2.1)
   have q5:=af.cell (aq.cell HB.out.2.2.2.2.2);have HD:=Aa hd;have aj:=hd.ne;by_cases qh:wchk x=0
   ·obtain⟨C,hC,hf,h0,me⟩:=zJ0 qh
    have CN:=Aa (eB0 xp m (sortS xe) db x C ls la lc w2 (HE.out.grows g2) hd.dk hd.d hC hf h0 me aj (by omega) HOK.out.l (λy hy=>by have:=HL4.out y hy;omega) (HLA.out.grows g2) (by omega) qh);have HCC:=Aa (And.intro hC (And.intro hf (And.intro h0 me)));obtain⟨L,hL⟩:=exq (fS C (sortS xe) ls (plainP xp:Nat));rw[<-hL]at CN;have HL:=Aa hL;clear hd aj qh hC hf h0 me hL;go_wp2_with fail
    refine CN.out.mono ?_;rintro e w3 ⟨ay,v3,rfl,m4⟩;have g3:=g2.tr ay;by_cases tp:L.length<=10000
    ·rw[if_pos tp]at m4
     have ta:(if L.length<=10000 then (0:Int) else 7)=0:=if_pos tp
     rw[ta];have HP:iN1 ⟨⟨xp,xd,xs,xe⟩,x,ls⟩ w (.returned (.tuple #[.pointer (some ⟨db,0,none⟩),v3,.bool true])) w3:=⟨g3,_,_,_,rfl,λ_=>⟨db,m,C,rfl,⟨HLI.out,HD.out.grows ay,HCC.out.1,HCC.out.2.1,HCC.out.2.2.1,HCC.out.2.2.2,(by unfold gT1;show (fS C (sortS xe) ls (plainP xp:Nat)).length<=_;rw[<-HL.out];exact tp),(by unfold gT1;show aV _ _ _ _ _ _ (fS C (sortS xe) ls (plainP xp:Nat));rw[<-HL.out];exact m4.base g2.size)⟩⟩⟩
     have HP:=Aa HP;clear CN ta m4 tp HL;go_wp2_with fail
     go_ret3;exact HP.out
    ·have ta:(if L.length<=10000 then (0:Int) else 7)=7:=if_neg tp
     rw[ta];have HN:=Aa (iN1.no (c:=⟨⟨xp,xd,xs,xe⟩,x,ls⟩) g3 (.pointer (some ⟨db,0,none⟩)) v3);clear CN ta m4 tp HL;go_wp2_with fail
     go_ret3;exact HN.out
   ·have CN:=Aa (uA0 db x la ls.length lc w2 (HE.out.grows g2) (by omega) qh)
    generalize wchk x=E at CN qh;have hEb:(E==0)=false:=by simpa using qh
    have HN:=λw3 (hg:aB w2 w3)=>Aa (iN1.no (c:=⟨⟨xp,xd,xs,xe⟩,x,ls⟩) (g2.tr hg) (.pointer (some ⟨db,0,none⟩)) (.slice none 0 0));clear hd aj qh;go_wp2_with fail
    refine CN.out.mono ?_;rintro e w3 ⟨rfl,ay⟩;have HN3:=HN w3 ay;clear CN HN;go_wp2_with fail
    go_ret3;exact HN3.out
 ·rw[Bool.not_eq_true]at hl
  rw[hl]at CL;have HN:=λw3 (hg:aB w w3)=>Aa (iN1.no (c:=⟨⟨xp,xd,xs,xe⟩,x,ls⟩) hg (.pointer none) (.slice none 0 0));clear CO hl;go_enter Tryz.func21,Tryz.ntmps21
  go_wp2_with fail
  rw[<-cq];clear cq;refine CL.out.mono ?_;rintro e w1 ⟨rfl,aq⟩;have HN2:=HN w1 (dg.tr aq);clear CL HN;go_wp2_with fail
  go_ret3;exact HN2.out
end Go.Proofs.YtaogeadljgjpcaaGreatDoor
