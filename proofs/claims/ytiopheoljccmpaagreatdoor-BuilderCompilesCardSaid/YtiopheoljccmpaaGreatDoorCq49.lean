/- The texts Cpl2 Cpl3, one behind the other. -/
import Derived.Test.YtiopheoljccmpaaGreatDoorCq37
import Derived.Test.YtiopheoljccmpaaGreatDoorCq25
import Derived.Test.YtiopheoljccmpaaGreatDoorCq18
import Derived.Test.YtiopheoljccmpaaGreatDoorCq48
import Derived.Test.YtiopheoljccmpaaGreatDoorCq41
open Go.Lib renaming hid → Aa
open Nat renaming le_refl → Ab
set_option maxHeartbeats 4000000
namespace Go.Proofs.YtiopheoljccmpaaGreatDoor
set_option maxRecDepth 100000
section
open Go Go.RowKit Go.Shelf
attribute [local go_sem] aM aP
theorem qW0 {n1 n2 n3:Int} (t1 t2 t3:ByteArray) (w:World) (he:pA0 w) (gk:t1.size<=1048576) (ir:t2.size<=1048576) (jv:t3.size<=1048576) (L:List bT) (m:Mx) (xs:List En) (h1:iZ t1=(L,n1,0)) (h2:xN t2 L=(some m,n2,0)) (h3:eK t3 L=(xs,n3,0))
  (hL:L.length<=64) (hxl:xs.length<=20000) (hx:∀y∈xs,xM y/\y.r.size<=1099511627776/\y.s.size<=1099511627776) :
  Calls Tryz.prog 4 #[.string t1,.string t2,.string t3] w λen w'=>∃v,en=.returned (.tuple #[v,.agg #[.int .i64 0,.int .i64 0],.int .i64 (jS L (some m) xs).1])/\aO w' w.heap.size 5 1 aQ v (jS L (some m) xs).2/\aB w w':=by
 have HE:=Aa he;have CP:=Aa (qG t1 (w.alloc (.cells #[.int .i64 0,.int .i64 0] 26)) (he.grows (aB.alloc _ _)) (by omega));unfold qI at CP;rw[h1]at CP;have T0:=TB.alloc w #[.int .i64 0,.int .i64 0] 26;have g0:=aB.alloc w (.cells #[.int .i64 0,.int .i64 0] 26);obtain⟨E,hE⟩:∃E,(jS L (some m) xs).1=E:=⟨_,rfl⟩;obtain⟨D,hD⟩:∃D,(jS L (some m) xs).2=D:=⟨_,rfl⟩;rw[hE,hD];replace hE:=Aa hE;replace hD:=Aa hD;clear h1 he;go_enter Tryz.func4,Tryz.ntmps4
 go_wp2_with fail
 refine CP.out.mono ?_;rintro en w1 ⟨v1,rfl,ho1,aq⟩;obtain⟨a1,c1,rfl,_,_,dw⟩:=ho1.at_ rC.len;have gw1:=g0.tr aq;have T1:=T0.gr aq;have C2:=rE t2 L a1 c1 w1 (HE.out.env.grows gw1) (by omega) (by omega) dw;unfold bS0 at C2;rw[h2]at C2;have C2:=Aa C2;clear CP ho1 aq T0 g0 h2;go_wp2_with fail
 refine C2.out.mono ?_;rintro en w2 ⟨v2,rfl,_,hm,an⟩;obtain⟨mb,bm,rfl,_,_,yx⟩:=hm m rfl;have gw2:=gw1.tr an;have gz:=dw.grows an;have T2:=T1.gr an;have C3:=jW0 t3 L a1 c1 w2 (by omega) (by omega) (HE.out.env.grows gw2) gz;unfold fM0 at C3;rw[h3]at C3;have C3:=Aa C3;clear C2 hm dw T1 h3;go_wp2_with fail
 refine C3.out.mono ?_;rintro en w3 ⟨v3,rfl,ho3,bu⟩;have ahh:aO w3 w2.heap.size 89 5 bE v3 xs:=ho3;obtain⟨a3,c3,rfl,_,_,iv⟩:=ahh.at_ sT.len;have gw3:=gw2.tr bu;have T3:=T2.gr bu;have CB:=Aa (cW0 L (.pointer (some ⟨mb,0,none⟩)) (some m) xs a1 a3 c1 c3 w3 (HE.out.env.grows gw3) (by omega) (by omega) (λy hy=>(hx y hy).1) (λy hy=>(hx y hy).2) (gz.grows bu) ⟨mb,bm,rfl,yx.grows bu⟩ iv);unfold cF at CB;replace CB:=CB.out;rw[hE.out,hD.out]at CB;replace CB:=Aa CB;clear hE hD;clear C3 ho3 ahh iv yx T2 bu gz;go_wp2_with fail
 refine CB.out.mono ?_;rintro en w4 ⟨cd,v4,rfl,ho4⟩;have gw4:=gw3.tr cd;have T4:=T3.gr cd;have d0:=T4.cell (o:=0) rfl;have d1:=T4.cell (o:=1) rfl;have f0:=T4.froz 0;have f1:=T4.froz 1;have T5:=(T4.set 0 (.int .i64 0)).set 1 (.int .i64 0);have e0:=T5.cell (o:=0) rfl;have e1:=T5.cell (o:=1) rfl;have ho5:=aK (aK ho4 (aU w4 w.heap.size 0 (.int .i64 0)) T4.rt (by decide)) (aU _ w.heap.size 1 (.int .i64 0)) (T4.set 0 (.int .i64 0)).rt (by decide);have bg:=(gw4.set (p:=⟨w.heap.size,0,none⟩) (Ab _) (.int .i64 0)).set (p:=⟨w.heap.size,1,none⟩) (Ab _) (.int .i64 0);have hb:=gw3.size;clear CB T3 T4 T5 ho4;go_wp2_with fail
 refine bodyPost_ret (v:=.tuple #[v4,.agg #[.int .i64 0,.int .i64 0],.int .i64 E]) (by simp[results,Tryz.results4,go_sem,e0,e1]) rfl ?_
 exact⟨v4,rfl,ho5.base hb,bg⟩
theorem rQ0 (t1 t2 t3:ByteArray) (w:World) (he:pA0 w) (gk:t1.size<=1048576) (L:List bT) (n e:Int) (h1:iZ t1=(L,n,e)) (h0:e≠0) :
  Calls Tryz.prog 4 #[.string t1,.string t2,.string t3] w (yD ((1,n),e,[]) w):=by
 have CP:=Aa (qG t1 (w.alloc (.cells #[.int .i64 0,.int .i64 0] 26)) (he.grows (aB.alloc _ _)) (by omega));unfold qI at CP;rw[h1]at CP;have T0:=TB.alloc w #[.int .i64 0,.int .i64 0] 26;have eb:(e != 0)=true:=by simpa using h0
 clear h1 h0 he;go_enter Tryz.func4,Tryz.ntmps4
 go_wp2_with fail
 refine CP.out.mono ?_;rintro en w1 ⟨v,rfl,ho,hg⟩;have T1:=T0.gr hg;have c0:=T1.cell (o:=0) rfl;have c1:=T1.cell (o:=1) rfl;have f0:=T1.froz 0;have f1:=T1.froz 1;have T2:=(T1.set 0 (.int .i64 1)).set 1 (.int .i64 n);have d0:=T2.cell (o:=0) rfl;have d1:=T2.cell (o:=1) rfl;have ev:=(aB.alloc w (.cells #[.int .i64 0,.int .i64 0] 26)).tr hg;have an:=(ev.set (p:=⟨w.heap.size,0,none⟩) (Ab _) (.int .i64 1)).set (p:=⟨w.heap.size,1,none⟩) (Ab _) (.int .i64 n);clear CP ho T0 T1 T2;go_wp2_with fail
 refine bodyPost_ret (v:=.tuple #[.slice none 0 0,.agg #[.int .i64 1,.int .i64 n],.int .i64 e]) (by simp[results,Tryz.results4,go_sem,d0,d1]) rfl ?_
 exact⟨_,rfl,aO.nil _ _ _ _ _,an⟩
theorem rD0 {n1:Int} (t1 t2 t3:ByteArray) (w:World) (he:pA0 w) (gk:t1.size<=1048576) (ir:t2.size<=1048576) (L:List bT) (m:Option Mx) (n e:Int) (h1:iZ t1=(L,n1,0)) (h2:xN t2 L=(m,n,e)) (h0:e≠0) (hL:L.length<=64) :
  Calls Tryz.prog 4 #[.string t1,.string t2,.string t3] w (yD ((2,n),e,[]) w):=by
 have HE:=Aa he;have CP:=Aa (qG t1 (w.alloc (.cells #[.int .i64 0,.int .i64 0] 26)) (he.grows (aB.alloc _ _)) (by omega));unfold qI at CP;rw[h1]at CP;have T0:=TB.alloc w #[.int .i64 0,.int .i64 0] 26;have g0:=aB.alloc w (.cells #[.int .i64 0,.int .i64 0] 26);have eb:(e != 0)=true:=by simpa using h0
 clear h1 he h0;go_enter Tryz.func4,Tryz.ntmps4
 go_wp2_with fail
 refine CP.out.mono ?_;rintro en w1 ⟨v1,rfl,ho1,aq⟩;obtain⟨a1,c1,rfl,_,_,dw⟩:=ho1.at_ rC.len;have gw1:=g0.tr aq;have T1:=T0.gr aq;have C2:=rE t2 L a1 c1 w1 (HE.out.env.grows gw1) (by omega) (by omega) dw;unfold bS0 at C2;rw[h2]at C2;have C2:=Aa C2;clear CP ho1 aq T0 g0 h2;go_wp2_with fail
 refine C2.out.mono ?_;rintro en w2 ⟨v2,rfl,_,hm,an⟩;have gw2:=gw1.tr an;have T2:=T1.gr an;have c0:=T2.cell (o:=0) rfl;have c1:=T2.cell (o:=1) rfl;have f0:=T2.froz 0;have f1:=T2.froz 1;have T3:=(T2.set 0 (.int .i64 2)).set 1 (.int .i64 n);have d0:=T3.cell (o:=0) rfl;have d1:=T3.cell (o:=1) rfl;have bu:=(gw2.set (p:=⟨w.heap.size,0,none⟩) (Ab _) (.int .i64 2)).set (p:=⟨w.heap.size,1,none⟩) (Ab _) (.int .i64 n);clear C2 hm dw T1 T2 T3;go_wp2_with fail
 refine bodyPost_ret (v:=.tuple #[.slice none 0 0,.agg #[.int .i64 2,.int .i64 n],.int .i64 e]) (by simp[results,Tryz.results4,go_sem,d0,d1]) rfl ?_
 exact⟨_,rfl,aO.nil _ _ _ _ _,bu⟩
theorem tX0 {n1 n2:Int} (t1 t2 t3:ByteArray) (w:World) (he:pA0 w) (gk:t1.size<=1048576) (ir:t2.size<=1048576) (jv:t3.size<=1048576) (L:List bT) (m:Mx) (xs:List En) (n e:Int) (h1:iZ t1=(L,n1,0)) (h2:xN t2 L=(some m,n2,0)) (h3:eK t3 L=(xs,n,e)) (h0:e≠0) (hL:L.length<=64) :
  Calls Tryz.prog 4 #[.string t1,.string t2,.string t3] w (yD ((3,n),e,[]) w):=by
 have HE:=Aa he;have CP:=Aa (qG t1 (w.alloc (.cells #[.int .i64 0,.int .i64 0] 26)) (he.grows (aB.alloc _ _)) (by omega));unfold qI at CP;rw[h1]at CP;have T0:=TB.alloc w #[.int .i64 0,.int .i64 0] 26;have g0:=aB.alloc w (.cells #[.int .i64 0,.int .i64 0] 26);have eb:(e != 0)=true:=by simpa using h0
 clear h1 he h0;go_enter Tryz.func4,Tryz.ntmps4
 go_wp2_with fail
 refine CP.out.mono ?_;rintro en w1 ⟨v1,rfl,ho1,aq⟩;obtain⟨a1,c1,rfl,_,_,dw⟩:=ho1.at_ rC.len;have gw1:=g0.tr aq;have T1:=T0.gr aq;have C2:=rE t2 L a1 c1 w1 (HE.out.env.grows gw1) (by omega) (by omega) dw;unfold bS0 at C2;rw[h2]at C2;have C2:=Aa C2;clear CP ho1 aq T0 g0 h2;go_wp2_with fail
 refine C2.out.mono ?_;rintro en w2 ⟨v2,rfl,_,hm,an⟩;have gw2:=gw1.tr an;have gz:=dw.grows an;have T2:=T1.gr an;have C3:=jW0 t3 L a1 c1 w2 (by omega) (by omega) (HE.out.env.grows gw2) gz;unfold fM0 at C3;rw[h3]at C3;have C3:=Aa C3;clear C2 hm dw gz T1 h3;go_wp2_with fail
 refine C3.out.mono ?_;rintro en w3 ⟨v3,rfl,ho3,bu⟩;have gw3:=gw2.tr bu;have T3:=T2.gr bu;have c0:=T3.cell (o:=0) rfl;have c1:=T3.cell (o:=1) rfl;have f0:=T3.froz 0;have f1:=T3.froz 1;have T4:=(T3.set 0 (.int .i64 3)).set 1 (.int .i64 n);have d0:=T4.cell (o:=0) rfl;have d1:=T4.cell (o:=1) rfl;have cd:=(gw3.set (p:=⟨w.heap.size,0,none⟩) (Ab _) (.int .i64 3)).set (p:=⟨w.heap.size,1,none⟩) (Ab _) (.int .i64 n);clear C3 ho3 T2 T3 T4 bu;go_wp2_with fail
 refine bodyPost_ret (v:=.tuple #[.slice none 0 0,.agg #[.int .i64 3,.int .i64 n],.int .i64 e]) (by simp[results,Tryz.results4,go_sem,d0,d1]) rfl ?_
 exact⟨_,rfl,aO.nil _ _ _ _ _,cd⟩
theorem pcompile_any (t1 t2 t3:ByteArray) (w:World) (he:pA0 w) (gk:t1.size<=1048576) (ir:t2.size<=1048576) (jv:t3.size<=1048576) :
  Calls Tryz.prog 4 #[.string t1,.string t2,.string t3] w (yD (jK1 t1 t2 t3) w):=by
 have hf:=qB0 t1;unfold jK1;rcases hp:iZ t1 with ⟨L,n,e⟩
 rw[hp]at hf;simp only at hf ⊢;by_cases h0:e≠0
 ·rw[if_pos h0]
  exact rQ0 t1 t2 t3 w he gk L n e hp h0
 ·rw[if_neg h0]
  obtain rfl:e=0:=Classical.not_not.1 h0;have yv:=zP0 (text:=t2) (p:=L);rcases hm:xN t2 L with ⟨mo,n2,e2⟩
  rw[hm]at yv;simp only at yv ⊢;by_cases h2:e2≠0
  ·rw[if_pos h2]
   exact rD0 t1 t2 t3 w he gk ir L mo n2 e2 hp hm h2 hf.1
  ·rw[if_neg h2]
   obtain rfl:e2=0:=Classical.not_not.1 h2;obtain⟨m,rfl⟩:=yv rfl;have hps:=kZ0 (text:=t3) (L:=L) jv hf.1;rcases hx:eK t3 L with ⟨xs,n3,e3⟩
   rw[hx]at hps;simp only at hps ⊢;by_cases h3:e3≠0
   ·rw[if_pos h3]
    exact tX0 t1 t2 t3 w he gk ir jv L m xs n3 e3 hp hm hx h3 hf.1
   ·rw[if_neg h3]
    obtain rfl:e3=0:=Classical.not_not.1 h3;exact qW0 t1 t2 t3 w he gk ir jv L m xs hp hm hx hf.1 hps.2 λy hy=>⟨(hps.1 y hy).1,by have:=hps.1 y hy;omega⟩
end
end Go.Proofs.YtiopheoljccmpaaGreatDoor
