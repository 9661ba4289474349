/- The texts RefL RefP, one behind the other. -/
import Derived.Test.YtiopheoljccmpaaGreatDoorCq35
import Derived.Test.YtiopheoljccmpaaGreatDoorCq8
import Derived.Test.YtiopheoljccmpaaGreatDoorCq42
import Derived.Test.YtiopheoljccmpaaGreatDoorCq18
open Nat renaming le_refl → Aa,lt_of_lt_of_le → Ac
open ByteArray renaming empty → Ab
open Go.Lib renaming hid → Ad
open Bool renaming and_self → Ae
set_option maxHeartbeats 8000000
namespace Go.Proofs.YtiopheoljccmpaaGreatDoor
set_option maxRecDepth 100000
section
open Go Go.RowKit
attribute [local go_sem] aM
theorem lA (c:UInt8) (s:ByteArray):splitS c s=(splitL c s.data.toList).map mkB:=fY0 c s
theorem cU {w1 w2:World} {b:Nat} (h:∀j,w1.frozen? ⟨b,j,none⟩=false) (hg:aB w1 w2) (hb:b<w1.heap.size):∀j,w2.frozen? ⟨b,j,none⟩=false:=λj=>(hg.froz (p:=⟨b,j,none⟩) hb).trans (h j)
theorem jB {w:World} {a:Option Addr} {xs:List ByteArray} (h:aF w a 1 (xs.map tG0)) (aw:xs≠[]):∃b off,a=some ⟨b,off,none⟩/\∀(j:Nat) (x:ByteArray),xs[j]?=some x->w.cell? ⟨b,off+j,none⟩=some (.string x):=by
 obtain⟨b,off,ha,hc⟩:=h.get aw;exact⟨b,off,ha,λj x hx=>by simpa using hc j x hx 0 _ rfl⟩
theorem qF0 {s r t a b c:ByteArray} {l:List bT} (h5:(splitL 9 s.data.toList).map mkB=[r,t,a,b,c]) :
  readS s l=if numOK c.data.toList then (let no:=checkS r t (idxI (posFind l a)) (idxI (posFind l b)) (numV c) l.length
   if no=0 then (⟨r,t,idxI (posFind l a),idxI (posFind l b),numV c⟩,0) else (enZero,no)) else (enZero,5):=by
 unfold readS;rw[lA,h5]
theorem vL0 {p q:Prop} {ip:Decidable p} {iq:Decidable q} (x:En) (hp:¬p) (hq:q):(if (if p then (150:Int) else if q then 6 else 0)=0 then (x,(0:Int)) else (enZero,if p then 150 else if q then 6 else 0))=(enZero,6):=by
 rw[if_neg hp,if_pos hq];rfl
theorem wM0 {p q:Prop} {ip:Decidable p} {iq:Decidable q} (x:En) (hp:¬p) (hq:¬q):(if (if p then (150:Int) else if q then 6 else 0)=0 then (x,(0:Int)) else (enZero,if p then 150 else if q then 6 else 0))=(x,0):=by
 rw[if_neg hp,if_neg hq];rfl
theorem zG {l:List bT} {n:ByteArray} {k:Nat} (h:posFind l n=some k):k<l.length:=by
 have:=(vJ h).2;simpa using this
theorem fL1 (c:ByteArray):0<=numV c:=by unfold numV; split<;>omega
theorem sO0 (s:ByteArray) (l:List bT) (la:Option Addr) (cap:Nat) (w:World) (hs:s.size<=4294967280) (h5:((splitL 9 s.data.toList).map mkB).length≠5) :
  Calls Tryz.prog 63 #[.string s,.slice la l.length cap] w λe w'=>e=.returned (.tuple #[.agg #[.string Ab,.string Ab,.int .i64 0,.int .i64 0,.int .i64 0],.int .i64 5])/\aB w w':=by
 have CS:=λW=>Ad (jZ0 s W (by omega));unfold kU at CS;generalize (splitL 9 s.data.toList).map mkB=ws at *;have h5':((ws.length:Int) != 5)=true:=by rw[bne_iff_ne];omega
 clear h5;go_enter Tryz.func63,Tryz.ntmps63
 go_wp2_with (first|(go_at_call 110;refine(CS _).out.mono ?_;rintro e w1 ⟨wa,wc,rfl,ah,hg⟩;obtain⟨bc,bf⟩:=eI hg;have b0:w1.cell? ⟨w.heap.size,0,none⟩=some (.string ⟨#[]⟩):=bc 0 _ rfl;have b1:w1.cell? ⟨w.heap.size,1,none⟩=some (.string ⟨#[]⟩):=bc 1 _ rfl;have b2:w1.cell? ⟨w.heap.size,2,none⟩=some (.int .i64 0):=bc 2 _ rfl;have b3:w1.cell? ⟨w.heap.size,3,none⟩=some (.int .i64 0):=bc 3 _ rfl;have b4:w1.cell? ⟨w.heap.size,4,none⟩=some (.int .i64 0):=bc 4 _ rfl;clear bc;have ev:=(aB.alloc _ _).tr hg;clear ah))
 refine bodyPost_ret (v:=.tuple #[.agg #[.string Ab,.string Ab,.int .i64 0,.int .i64 0,.int .i64 0],.int .i64 5]) (by simp[results,Tryz.results63,go_sem,b0,b1,b2,b3,b4];rfl) rfl ⟨rfl,?_⟩;exact((((ev.set (Aa _) _).set (Aa _) _).set (Aa _) _).set (Aa _) _).set (Aa _) _
theorem yA0 (s r t a b c:ByteArray) (l:List bT) (la:Option Addr) (cap:Nat) (w:World) (hs:s.size<=4294967280) (hl:l.length<=4611686018427387904) (uf:aF w la 2 (l.map bI)) (h5:(splitL 9 s.data.toList).map mkB=[r,t,a,b,c]) :
  Calls Tryz.prog 63 #[.string s,.slice la l.length cap] w λe w'=>e=.returned (.tuple #[.agg #[.string (readS s l).1.r,.string (readS s l).1.s,.int .i64 (readS s l).1.l,.int .i64 (readS s l).1.t,.int .i64 (readS s l).1.c],.int .i64 (readS s l).2])/\aB w w':=by
 have CS:=λW=>Ad (jZ0 s W (by omega));unfold kU at CS;have hR:=qF0 (l:=l) h5
 have dm:∀x,x∈[r,t,a,b,c]->x.size<=4294967280:=λx hx=>by
  have h6:x∈splitS 9 s:=by rw[lA,h5];exact hx
  have:=dN h6;omega
 rw[h5]at CS;have CR:=λW=>Ad (wH r W (by have:=dm r (by simp);omega));have CT:=λW=>Ad (xE t W (by have:=dm t (by simp);omega));have CN:=λW=>Ad (mG0 c W (by have:=dm c (by simp);omega));have CFa:=λW (hW:aB w W)=>oF l a la cap W hl (uf.grows hW);have CFb:=λW (hW:aB w W)=>oF l b la cap W hl (uf.grows hW);have hv:kW1 (numOK c.data.toList) (decVal c.data.toList)=numV c:=rfl;rw[hv]at CN;have hn0:=fL1 c;have hfa:=λk=>zG (l:=l) (n:=a) (k:=k);have hfb:=λk=>zG (l:=l) (n:=b) (k:=k);unfold checkS at hR;generalize readS s l=RR at hR ⊢;generalize readingS r=br at *;generalize surfaceS t=bs at *;generalize numOK c.data.toList=ok at *;generalize numV c=nv at *;generalize posFind l a=fa at *;generalize posFind l b=fb at *;have hCF:∀(f:Option Nat) (nm:ByteArray) (W:World),(Calls Tryz.prog 57 #[.slice la l.length cap,.string nm] W λe w'=>e=.returned (.tuple #[.int .i64 (findI f),.bool f.isSome])/\W=w')->∃(i:Int) (y:Bool),(f=none->y=false)/\(∀k,f=some k->i=k/\y=true)/\Hid (Calls Tryz.prog 57 #[.slice la l.length cap,.string nm] W λe w'=>e=.returned (.tuple #[.int .i64 i,.bool y])/\W=w'):=λf nm W h=>⟨findI f,f.isSome,(λh=>by rw[h];rfl),(λk h=>by rw[h];exact⟨rfl,rfl⟩),h⟩;have HCF:=Ad hCF;have CA:Hid (∀W,aB w W->Calls Tryz.prog 57 #[.slice la l.length cap,.string a] W λe w'=>e=.returned (.tuple #[.int .i64 (findI fa),.bool fa.isSome])/\W=w'):=CFa;have CB:Hid (∀W,aB w W->Calls Tryz.prog 57 #[.slice la l.length cap,.string b] W λe w'=>e=.returned (.tuple #[.int .i64 (findI fb),.bool fb.isSome])/\W=w'):=CFb;have HFA:Hid (∀k,fa=some k->k<l.length):=hfa;have HFB:Hid (∀k,fb=some k->k<l.length):=hfb;have HR:=Ad hR;clear hR h5 hs hCF CFa CFb hfa hfb dm hv;cases br
 ·have dd:RR=(enZero,5):=by rw[HR.out];cases ok<;>simp
  subst dd;clear HR;go_enter Tryz.func63,Tryz.ntmps63
  go_wp2_with (first|(go_at_call 110;refine(CS _).out.mono ?_;rintro e w1 ⟨wa,wc,rfl,ah,hg⟩;obtain⟨bc,bf⟩:=eI hg;have b0:w1.cell? ⟨w.heap.size,0,none⟩=some (.string ⟨#[]⟩):=bc 0 _ rfl;have b1:w1.cell? ⟨w.heap.size,1,none⟩=some (.string ⟨#[]⟩):=bc 1 _ rfl;have b2:w1.cell? ⟨w.heap.size,2,none⟩=some (.int .i64 0):=bc 2 _ rfl;have b3:w1.cell? ⟨w.heap.size,3,none⟩=some (.int .i64 0):=bc 3 _ rfl;have b4:w1.cell? ⟨w.heap.size,4,none⟩=some (.int .i64 0):=bc 4 _ rfl;clear bc;have ev:=(aB.alloc _ _).tr hg;have ed:w.heap.size<w1.heap.size:=Ac (by simp) hg.size;obtain⟨wb,wo,rfl,gp⟩:=jB ah (by simp);have d0:w1.cell? ⟨wb,wo,none⟩=some (.string r):=gp 0 r rfl;clear ah gp hg)|(go_at_call 111;refine(CR _).out.mono ?_;rintro e w2 ⟨rfl,b9⟩;replace b0:=b9.cell b0;replace b1:=b9.cell b1;replace b2:=b9.cell b2;replace b3:=b9.cell b3;replace b4:=b9.cell b4;replace d0:=b9.cell d0;replace bf:=cU bf b9 ed;replace ed:=b9.lt ed;replace ev:=ev.tr b9;clear b9))
  refine bodyPost_ret (v:=.tuple #[.agg #[.string Ab,.string Ab,.int .i64 0,.int .i64 0,.int .i64 0],.int .i64 5]) (by simp[results,Tryz.results63,go_sem,b0,b1,b2,b3,b4];rfl) rfl ⟨rfl,?_⟩;exact((((ev.set (Aa _) _).set (Aa _) _).set (Aa _) _).set (Aa _) _).set (Aa _) _
 ·cases bs
  ·have dd:RR=(enZero,5):=by rw[HR.out];cases ok<;>simp
   subst dd;clear HR;go_enter Tryz.func63,Tryz.ntmps63
   go_wp2_with (first|(go_at_call 110;refine(CS _).out.mono ?_;rintro e w1 ⟨wa,wc,rfl,ah,hg⟩;obtain⟨bc,bf⟩:=eI hg;have b0:w1.cell? ⟨w.heap.size,0,none⟩=some (.string ⟨#[]⟩):=bc 0 _ rfl;have b1:w1.cell? ⟨w.heap.size,1,none⟩=some (.string ⟨#[]⟩):=bc 1 _ rfl;have b2:w1.cell? ⟨w.heap.size,2,none⟩=some (.int .i64 0):=bc 2 _ rfl;have b3:w1.cell? ⟨w.heap.size,3,none⟩=some (.int .i64 0):=bc 3 _ rfl;have b4:w1.cell? ⟨w.heap.size,4,none⟩=some (.int .i64 0):=bc 4 _ rfl;clear bc;have ev:=(aB.alloc _ _).tr hg;have ed:w.heap.size<w1.heap.size:=Ac (by simp) hg.size;obtain⟨wb,wo,rfl,gp⟩:=jB ah (by simp);have d0:w1.cell? ⟨wb,wo,none⟩=some (.string r):=gp 0 r rfl;have d1:w1.cell? ⟨wb,wo+1,none⟩=some (.string t):=gp 1 t rfl;clear ah gp hg)|(go_at_call 111;refine(CR _).out.mono ?_;rintro e w2 ⟨rfl,b9⟩;replace b0:=b9.cell b0;replace b1:=b9.cell b1;replace b2:=b9.cell b2;replace b3:=b9.cell b3;replace b4:=b9.cell b4;replace d0:=b9.cell d0;replace d1:=b9.cell d1;replace bf:=cU bf b9 ed;replace ed:=b9.lt ed;replace ev:=ev.tr b9;clear b9)|(go_at_call 112;refine(CT _).out.mono ?_;rintro e w3 ⟨rfl,dp⟩;replace b0:=dp.cell b0;replace b1:=dp.cell b1;replace b2:=dp.cell b2;replace b3:=dp.cell b3;replace b4:=dp.cell b4;replace d0:=dp.cell d0;replace d1:=dp.cell d1;replace bf:=cU bf dp ed;replace ed:=dp.lt ed;replace ev:=ev.tr dp;clear dp))
   refine bodyPost_ret (v:=.tuple #[.agg #[.string Ab,.string Ab,.int .i64 0,.int .i64 0,.int .i64 0],.int .i64 5]) (by simp[results,Tryz.results63,go_sem,b0,b1,b2,b3,b4];rfl) rfl ⟨rfl,?_⟩;exact((((ev.set (Aa _) _).set (Aa _) _).set (Aa _) _).set (Aa _) _).set (Aa _) _
  ·cases ok
   ·have dd:RR=(enZero,5):=by rw[HR.out];simp
    subst dd;clear HR;go_enter Tryz.func63,Tryz.ntmps63
    go_wp2_with (first|(go_at_call 110;refine(CS _).out.mono ?_;rintro e w1 ⟨wa,wc,rfl,ah,hg⟩;obtain⟨bc,bf⟩:=eI hg;have b0:w1.cell? ⟨w.heap.size,0,none⟩=some (.string ⟨#[]⟩):=bc 0 _ rfl;have b1:w1.cell? ⟨w.heap.size,1,none⟩=some (.string ⟨#[]⟩):=bc 1 _ rfl;have b2:w1.cell? ⟨w.heap.size,2,none⟩=some (.int .i64 0):=bc 2 _ rfl;have b3:w1.cell? ⟨w.heap.size,3,none⟩=some (.int .i64 0):=bc 3 _ rfl;have b4:w1.cell? ⟨w.heap.size,4,none⟩=some (.int .i64 0):=bc 4 _ rfl;clear bc;have ev:=(aB.alloc _ _).tr hg;have ed:w.heap.size<w1.heap.size:=Ac (by simp) hg.size;obtain⟨wb,wo,rfl,gp⟩:=jB ah (by simp);have d0:w1.cell? ⟨wb,wo,none⟩=some (.string r):=gp 0 r rfl;have d1:w1.cell? ⟨wb,wo+1,none⟩=some (.string t):=gp 1 t rfl;have d4:w1.cell? ⟨wb,wo+4,none⟩=some (.string c):=gp 4 c rfl;clear ah gp hg)|(go_at_call 111;refine(CR _).out.mono ?_;rintro e w2 ⟨rfl,b9⟩;replace b0:=b9.cell b0;replace b1:=b9.cell b1;replace b2:=b9.cell b2;replace b3:=b9.cell b3;replace b4:=b9.cell b4;replace d0:=b9.cell d0;replace d1:=b9.cell d1;replace d4:=b9.cell d4;replace bf:=cU bf b9 ed;replace ed:=b9.lt ed;replace ev:=ev.tr b9;clear b9)|(go_at_call 112;refine(CT _).out.mono ?_;rintro e w3 ⟨rfl,dp⟩;replace b0:=dp.cell b0;replace b1:=dp.cell b1;replace b2:=dp.cell b2;replace b3:=dp.cell b3;replace b4:=dp.cell b4;replace d0:=dp.cell d0;replace d1:=dp.cell d1;replace d4:=dp.cell d4;replace bf:=cU bf dp ed;replace ed:=dp.lt ed;replace ev:=ev.tr dp;clear dp)|(go_at_call 113;refine(CN _).out.mono ?_;rintro e w4 ⟨rfl,rfl⟩))
    refine bodyPost_ret (v:=.tuple #[.agg #[.string Ab,.string Ab,.int .i64 0,.int .i64 0,.int .i64 0],.int .i64 5]) (by simp[results,Tryz.results63,go_sem,b0,b1,b2,b3,b4];rfl) rfl ⟨rfl,?_⟩;exact((((ev.set (Aa _) _).set (Aa _) _).set (Aa _) _).set (Aa _) _).set (Aa _) _
   ·cases fa with
    | none =>
     have dd:RR=(enZero,150):=by rw[HR.out];simp[idxI]
     subst dd;clear HR;go_enter Tryz.func63,Tryz.ntmps63
     go_wp2_with (first|(go_at_call 110;refine(CS _).out.mono ?_;rintro e w1 ⟨wa,wc,rfl,ah,hg⟩;obtain⟨bc,bf⟩:=eI hg;have b0:w1.cell? ⟨w.heap.size,0,none⟩=some (.string ⟨#[]⟩):=bc 0 _ rfl;have b1:w1.cell? ⟨w.heap.size,1,none⟩=some (.string ⟨#[]⟩):=bc 1 _ rfl;have b2:w1.cell? ⟨w.heap.size,2,none⟩=some (.int .i64 0):=bc 2 _ rfl;have b3:w1.cell? ⟨w.heap.size,3,none⟩=some (.int .i64 0):=bc 3 _ rfl;have b4:w1.cell? ⟨w.heap.size,4,none⟩=some (.int .i64 0):=bc 4 _ rfl;clear bc;have ev:=(aB.alloc _ _).tr hg;have ed:w.heap.size<w1.heap.size:=Ac (by simp) hg.size;obtain⟨wb,wo,rfl,gp⟩:=jB ah (by simp);have d0:w1.cell? ⟨wb,wo,none⟩=some (.string r):=gp 0 r rfl;have d1:w1.cell? ⟨wb,wo+1,none⟩=some (.string t):=gp 1 t rfl;have d2:w1.cell? ⟨wb,wo+2,none⟩=some (.string a):=gp 2 a rfl;have d3:w1.cell? ⟨wb,wo+3,none⟩=some (.string b):=gp 3 b rfl;have d4:w1.cell? ⟨wb,wo+4,none⟩=some (.string c):=gp 4 c rfl;clear ah gp hg)|(go_at_call 111;refine(CR _).out.mono ?_;rintro e w2 ⟨rfl,b9⟩;replace b0:=b9.cell b0;replace b1:=b9.cell b1;replace b2:=b9.cell b2;replace b3:=b9.cell b3;replace b4:=b9.cell b4;replace d0:=b9.cell d0;replace d1:=b9.cell d1;replace d2:=b9.cell d2;replace d3:=b9.cell d3;replace d4:=b9.cell d4;replace bf:=cU bf b9 ed;replace ed:=b9.lt ed;replace ev:=ev.tr b9;clear b9)|(go_at_call 112;refine(CT _).out.mono ?_;rintro e w3 ⟨rfl,dp⟩;replace b0:=dp.cell b0;replace b1:=dp.cell b1;replace b2:=dp.cell b2;replace b3:=dp.cell b3;replace b4:=dp.cell b4;replace d0:=dp.cell d0;replace d1:=dp.cell d1;replace d2:=dp.cell d2;replace d3:=dp.cell d3;replace d4:=dp.cell d4;replace bf:=cU bf dp ed;replace ed:=dp.lt ed;replace ev:=ev.tr dp;clear dp)|(go_at_call 113;refine(CN _).out.mono ?_;rintro e w4 ⟨rfl,rfl⟩))
     obtain⟨i1,y1,q1,q2,C1⟩:=HCF.out none a _ (CA.out _ ev);obtain rfl:=q1 rfl;clear q2;refine C1.out.mono ?_;rintro e w5 ⟨rfl,rfl⟩;go_wp2_with fail
     obtain⟨i2,y2,q1,q2,C2⟩:=HCF.out fb b _ (CB.out _ ev);clear q1 q2;refine C2.out.mono ?_;rintro e w5 ⟨rfl,rfl⟩;go_wp2_with fail
     refine bodyPost_ret (v:=.tuple #[.agg #[.string Ab,.string Ab,.int .i64 0,.int .i64 0,.int .i64 0],.int .i64 150]) (by simp[results,Tryz.results63,go_sem,b0,b1,b2,b3,b4];rfl) rfl ⟨rfl,?_⟩;exact((((ev.set (Aa _) _).set (Aa _) _).set (Aa _) _).set (Aa _) _).set (Aa _) _
    | some ka =>
     cases fb with
     | none =>
      have dd:RR=(enZero,150):=by rw[HR.out];simp[idxI]
      subst dd;clear HR;go_enter Tryz.func63,Tryz.ntmps63
      go_wp2_with (first|(go_at_call 110;refine(CS _).out.mono ?_;rintro e w1 ⟨wa,wc,rfl,ah,hg⟩;obtain⟨bc,bf⟩:=eI hg;have b0:w1.cell? ⟨w.heap.size,0,none⟩=some (.string ⟨#[]⟩):=bc 0 _ rfl;have b1:w1.cell? ⟨w.heap.size,1,none⟩=some (.string ⟨#[]⟩):=bc 1 _ rfl;have b2:w1.cell? ⟨w.heap.size,2,none⟩=some (.int .i64 0):=bc 2 _ rfl;have b3:w1.cell? ⟨w.heap.size,3,none⟩=some (.int .i64 0):=bc 3 _ rfl;have b4:w1.cell? ⟨w.heap.size,4,none⟩=some (.int .i64 0):=bc 4 _ rfl;clear bc;have ev:=(aB.alloc _ _).tr hg;have ed:w.heap.size<w1.heap.size:=Ac (by simp) hg.size;obtain⟨wb,wo,rfl,gp⟩:=jB ah (by simp);have d0:w1.cell? ⟨wb,wo,none⟩=some (.string r):=gp 0 r rfl;have d1:w1.cell? ⟨wb,wo+1,none⟩=some (.string t):=gp 1 t rfl;have d2:w1.cell? ⟨wb,wo+2,none⟩=some (.string a):=gp 2 a rfl;have d3:w1.cell? ⟨wb,wo+3,none⟩=some (.string b):=gp 3 b rfl;have d4:w1.cell? ⟨wb,wo+4,none⟩=some (.string c):=gp 4 c rfl;clear ah gp hg)|(go_at_call 111;refine(CR _).out.mono ?_;rintro e w2 ⟨rfl,b9⟩;replace b0:=b9.cell b0;replace b1:=b9.cell b1;replace b2:=b9.cell b2;replace b3:=b9.cell b3;replace b4:=b9.cell b4;replace d0:=b9.cell d0;replace d1:=b9.cell d1;replace d2:=b9.cell d2;replace d3:=b9.cell d3;replace d4:=b9.cell d4;replace bf:=cU bf b9 ed;replace ed:=b9.lt ed;replace ev:=ev.tr b9;clear b9)|(go_at_call 112;refine(CT _).out.mono ?_;rintro e w3 ⟨rfl,dp⟩;replace b0:=dp.cell b0;replace b1:=dp.cell b1;replace b2:=dp.cell b2;replace b3:=dp.cell b3;replace b4:=dp.cell b4;replace d0:=dp.cell d0;replace d1:=dp.cell d1;replace d2:=dp.cell d2;replace d3:=dp.cell d3;replace d4:=dp.cell d4;replace bf:=cU bf dp ed;replace ed:=dp.lt ed;replace ev:=ev.tr dp;clear dp)|(go_at_call 113;refine(CN _).out.mono ?_;rintro e w4 ⟨rfl,rfl⟩))
      obtain⟨i1,y1,q1,q2,C1⟩:=HCF.out (some ka) a _ (CA.out _ ev);obtain⟨rfl,rfl⟩:=q2 ka rfl;clear q1;refine C1.out.mono ?_;rintro e w5 ⟨rfl,rfl⟩;go_wp2_with fail
      obtain⟨i2,y2,q1,q2,C2⟩:=HCF.out none b _ (CB.out _ ev);obtain rfl:=q1 rfl;clear q2;refine C2.out.mono ?_;rintro e w5 ⟨rfl,rfl⟩;go_wp2_with fail
      refine bodyPost_ret (v:=.tuple #[.agg #[.string Ab,.string Ab,.int .i64 0,.int .i64 0,.int .i64 0],.int .i64 150]) (by simp[results,Tryz.results63,go_sem,b0,b1,b2,b3,b4];rfl) rfl ⟨rfl,?_⟩;exact((((ev.set (Aa _) _).set (Aa _) _).set (Aa _) _).set (Aa _) _).set (Aa _) _
     | some kb =>
      have hka:=HFA.out ka rfl;have qv:=HFB.out kb rfl;by_cases da:30000<nv
      ·have dd:RR=(enZero,6):=by
        rw[HR.out];simp only[idxI,Ae,if_true];exact vL0 _ (by omega) (Or.inr da)
       subst dd;clear HR;go_enter Tryz.func63,Tryz.ntmps63
       go_wp2_with (first|(go_at_call 110;refine(CS _).out.mono ?_;rintro e w1 ⟨wa,wc,rfl,ah,hg⟩;obtain⟨bc,bf⟩:=eI hg;have b0:w1.cell? ⟨w.heap.size,0,none⟩=some (.string ⟨#[]⟩):=bc 0 _ rfl;have b1:w1.cell? ⟨w.heap.size,1,none⟩=some (.string ⟨#[]⟩):=bc 1 _ rfl;have b2:w1.cell? ⟨w.heap.size,2,none⟩=some (.int .i64 0):=bc 2 _ rfl;have b3:w1.cell? ⟨w.heap.size,3,none⟩=some (.int .i64 0):=bc 3 _ rfl;have b4:w1.cell? ⟨w.heap.size,4,none⟩=some (.int .i64 0):=bc 4 _ rfl;clear bc;have ev:=(aB.alloc _ _).tr hg;have ed:w.heap.size<w1.heap.size:=Ac (by simp) hg.size;obtain⟨wb,wo,rfl,gp⟩:=jB ah (by simp);have d0:w1.cell? ⟨wb,wo,none⟩=some (.string r):=gp 0 r rfl;have d1:w1.cell? ⟨wb,wo+1,none⟩=some (.string t):=gp 1 t rfl;have d2:w1.cell? ⟨wb,wo+2,none⟩=some (.string a):=gp 2 a rfl;have d3:w1.cell? ⟨wb,wo+3,none⟩=some (.string b):=gp 3 b rfl;have d4:w1.cell? ⟨wb,wo+4,none⟩=some (.string c):=gp 4 c rfl;clear ah gp hg)|(go_at_call 111;refine(CR _).out.mono ?_;rintro e w2 ⟨rfl,b9⟩;replace b0:=b9.cell b0;replace b1:=b9.cell b1;replace b2:=b9.cell b2;replace b3:=b9.cell b3;replace b4:=b9.cell b4;replace d0:=b9.cell d0;replace d1:=b9.cell d1;replace d2:=b9.cell d2;replace d3:=b9.cell d3;replace d4:=b9.cell d4;replace bf:=cU bf b9 ed;replace ed:=b9.lt ed;replace ev:=ev.tr b9;clear b9)|(go_at_call 112;refine(CT _).out.mono ?_;rintro e w3 ⟨rfl,dp⟩;replace b0:=dp.cell b0;replace b1:=dp.cell b1;replace b2:=dp.cell b2;replace b3:=dp.cell b3;replace b4:=dp.cell b4;replace d0:=dp.cell d0;replace d1:=dp.cell d1;replace d2:=dp.cell d2;replace d3:=dp.cell d3;replace d4:=dp.cell d4;replace bf:=cU bf dp ed;replace ed:=dp.lt ed;replace ev:=ev.tr dp;clear dp)|(go_at_call 113;refine(CN _).out.mono ?_;rintro e w4 ⟨rfl,rfl⟩))
       obtain⟨i1,y1,q1,q2,C1⟩:=HCF.out (some ka) a _ (CA.out _ ev);obtain⟨rfl,rfl⟩:=q2 ka rfl;clear q1;refine C1.out.mono ?_;rintro e w5 ⟨rfl,rfl⟩;go_wp2_with fail
       obtain⟨i2,y2,q1,q2,C2⟩:=HCF.out (some kb) b _ (CB.out _ ev);obtain⟨rfl,rfl⟩:=q2 kb rfl;clear q1;refine C2.out.mono ?_;rintro e w5 ⟨rfl,rfl⟩;go_wp2_with fail
       refine bodyPost_ret (v:=.tuple #[.agg #[.string Ab,.string Ab,.int .i64 0,.int .i64 0,.int .i64 0],.int .i64 6]) (by simp[results,Tryz.results63,go_sem,b0,b1,b2,b3,b4];rfl) rfl ⟨rfl,?_⟩;exact((((ev.set (Aa _) _).set (Aa _) _).set (Aa _) _).set (Aa _) _).set (Aa _) _
      ·have dd:RR=(⟨r,t,ka,kb,nv⟩,0):=by
        rw[HR.out];simp only[idxI,Ae,if_true];exact wM0 _ (by omega) (by omega)
       subst dd;clear HR;go_enter Tryz.func63,Tryz.ntmps63
       go_wp2_with (first|(go_at_call 110;refine(CS _).out.mono ?_;rintro e w1 ⟨wa,wc,rfl,ah,hg⟩;obtain⟨bc,bf⟩:=eI hg;have b0:w1.cell? ⟨w.heap.size,0,none⟩=some (.string ⟨#[]⟩):=bc 0 _ rfl;have b1:w1.cell? ⟨w.heap.size,1,none⟩=some (.string ⟨#[]⟩):=bc 1 _ rfl;have b2:w1.cell? ⟨w.heap.size,2,none⟩=some (.int .i64 0):=bc 2 _ rfl;have b3:w1.cell? ⟨w.heap.size,3,none⟩=some (.int .i64 0):=bc 3 _ rfl;have b4:w1.cell? ⟨w.heap.size,4,none⟩=some (.int .i64 0):=bc 4 _ rfl;clear bc;have ev:=(aB.alloc _ _).tr hg;have ed:w.heap.size<w1.heap.size:=Ac (by simp) hg.size;obtain⟨wb,wo,rfl,gp⟩:=jB ah (by simp);have d0:w1.cell? ⟨wb,wo,none⟩=some (.string r):=gp 0 r rfl;have d1:w1.cell? ⟨wb,wo+1,none⟩=some (.string t):=gp 1 t rfl;have d2:w1.cell? ⟨wb,wo+2,none⟩=some (.string a):=gp 2 a rfl;have d3:w1.cell? ⟨wb,wo+3,none⟩=some (.string b):=gp 3 b rfl;have d4:w1.cell? ⟨wb,wo+4,none⟩=some (.string c):=gp 4 c rfl;clear ah gp hg)|(go_at_call 111;refine(CR _).out.mono ?_;rintro e w2 ⟨rfl,b9⟩;replace b0:=b9.cell b0;replace b1:=b9.cell b1;replace b2:=b9.cell b2;replace b3:=b9.cell b3;replace b4:=b9.cell b4;replace d0:=b9.cell d0;replace d1:=b9.cell d1;replace d2:=b9.cell d2;replace d3:=b9.cell d3;replace d4:=b9.cell d4;replace bf:=cU bf b9 ed;replace ed:=b9.lt ed;replace ev:=ev.tr b9;clear b9)|(go_at_call 112;refine(CT _).out.mono ?_;rintro e w3 ⟨rfl,dp⟩;replace b0:=dp.cell b0;replace b1:=dp.cell b1;replace b2:=dp.cell b2;replace b3:=dp.cell b3;replace b4:=dp.cell b4;replace d0:=dp.cell d0;replace d1:=dp.cell d1;replace d2:=dp.cell d2;replace d3:=dp.cell d3;replace d4:=dp.cell d4;replace bf:=cU bf dp ed;replace ed:=dp.lt ed;replace ev:=ev.tr dp;clear dp)|(go_at_call 113;refine(CN _).out.mono ?_;rintro e w4 ⟨rfl,rfl⟩))
       obtain⟨i1,y1,q1,q2,C1⟩:=HCF.out (some ka) a _ (CA.out _ ev);obtain⟨rfl,rfl⟩:=q2 ka rfl;clear q1;refine C1.out.mono ?_;rintro e w5 ⟨rfl,rfl⟩;go_wp2_with fail
       obtain⟨i2,y2,q1,q2,C2⟩:=HCF.out (some kb) b _ (CB.out _ ev);obtain⟨rfl,rfl⟩:=q2 kb rfl;clear q1;refine C2.out.mono ?_;rintro e w5 ⟨rfl,rfl⟩;go_wp2_with fail
       have x0:=aG (w:=w3.drew) d0;have x1:=aG (w:=w3.drew) d1;refine gE aB 10 (aT 10 []) aB.refl aB.trans (by kernel_rfl) (by kernel_rfl) (λd _ _ _ _ h=>by cases d<;>exact h) ?_
       repeat (refine iB rfl (λK hK=>?_);go_simp;first|(refine hK _ ?_;clear hK K)|(apply Exists.intro;refine⟨λx=>?_,hK _ ?_⟩;(fail);clear hK K))
       refine nL (λw6 h6=>?_);simp only[List.drop_succ_cons,List.drop_zero];replace b0:=h6.cell (aB.drew w3 |>.cell b0);replace b1:=h6.cell (aB.drew w3 |>.cell b1);replace b2:=h6.cell (aB.drew w3 |>.cell b2);replace b3:=h6.cell (aB.drew w3 |>.cell b3);replace b4:=h6.cell (aB.drew w3 |>.cell b4)
       replace bf:=cU (cU bf (aB.drew w3) ed) h6 ed;replace ev:=ev.dr.tr h6;clear x0 x1 d0 d1 d2 d3 d4;go_wp2_with fail
       refine bodyPost_ret (v:=.tuple #[.agg #[.string r,.string t,.int .i64 ka,.int .i64 kb,.int .i64 nv],.int .i64 0]) (by simp[results,Tryz.results63,go_sem,b0,b1,b2,b3,b4]) rfl ⟨rfl,?_⟩
       exact((((ev.set (Aa _) _).set (Aa _) _).set (Aa _) _).set (Aa _) _).set (Aa _) _
theorem cY1 (s:ByteArray) (l:List bT) (la:Option Addr) (cap:Nat) (w:World) (hs:s.size<=4294967280) (hl:l.length<=4611686018427387904) (uf:aF w la 2 (l.map bI)) :
  Calls Tryz.prog 63 #[.string s,.slice la l.length cap] w λe w'=>e=.returned (.tuple #[.agg #[.string (readS s l).1.r,.string (readS s l).1.s,.int .i64 (readS s l).1.l,.int .i64 (readS s l).1.t,.int .i64 (readS s l).1.c],.int .i64 (readS s l).2])/\aB w w':=by
 by_cases h5:∃r t a b c,(splitL 9 s.data.toList).map mkB=[r,t,a,b,c]
 ·obtain⟨r,t,a,b,c,h5⟩:=h5
  exact yA0 s r t a b c l la cap w hs hl uf h5
 ·have aw:((splitL 9 s.data.toList).map mkB).length≠5:=λe=>by
   match h:(splitL 9 s.data.toList).map mkB,e with
   | [r,t,a,b,c],_=>exact h5 ⟨r,t,a,b,c,h⟩
  have hr:readS s l=(enZero,5):=by
   unfold readS;rw[lA];split
   ·rename_i h;exact absurd ⟨_,_,_,_,_,h⟩ h5
   ·rfl
  rw[hr];exact sO0 s l la cap w hs aw
theorem kT1:eG Tryz.prog 41 89 5 56 bE where
 sl:=Tryz.underlying41
 info:=eY (z:=.agg #[.string ⟨#[]⟩,.string ⟨#[]⟩,.int .i64 0,.int .i64 0,.int .i64 0]) (by kernel_rfl) rfl
 pos:=by decide
 by1:=by decide
 len _:=rfl
 one:=nD
theorem zM0 (s:ByteArray):((splitL 10 s.data.toList).map mkB).length<=s.size+1:=by
 rw[List.length_map]
 have key:∀l:List UInt8,(splitL 10 l).length<=l.length+1:=by
  intro l
  induction l with
  | nil=>simp[splitL]
  | cons b l ih =>
   obtain⟨x,r,hx⟩:=nG 10 l;unfold splitL;rw[hx]at ih ⊢;split<;>simp at ih ⊢ <;> omega
 have:=key s.data.toList
 rw[Lib.size_eq];exact this
theorem parse2_any (text:ByteArray) (L:List bT) (la:Option Addr) (cap:Nat) (w:World) (hs:text.size<9223372036854775807) (hl:L.length<=4611686018427387904) (hn:∀x∈L,x.name.size<=9223372036854775807) (ah:aF w la 2 (L.map bI)) :
  Calls Tryz.prog 13 #[.string text,.slice la L.length cap] w (fM0 w (eK text L)):=by
 have CC:=Ad (pW L la cap w ah hl hn);have HAT:=Ad ah;clear ah;cases hv:bP L
 ·have hp:eK text L=([],0,5):=by unfold eK;rw[hv];rfl
  rw[hp];rw[hv]at CC;clear hp hv;go_enter Tryz.func13,Tryz.ntmps13
  go_wp2_with (first|(go_at_call 58;refine CC.out.mono ?_;rintro e w1 ⟨rfl,aq⟩))
  go_ret3;exact⟨_,rfl,eV _ _ _ _,aq⟩
 ·by_cases da:1048576<text.size
  ·have hp:eK text L=([],0,2):=by unfold eK;rw[hv,if_pos rfl,if_pos da]
   have hb:(1048576:Int)<text.size:=by omega
   rw[hp];rw[hv]at CC;clear hp hv;go_enter Tryz.func13,Tryz.ntmps13
   go_wp2_with (first|(go_at_call 58;refine CC.out.mono ?_;rintro e w1 ⟨rfl,aq⟩))
   go_ret3;exact⟨_,rfl,eV _ _ _ _,aq⟩
  ·have hp:eK text L=bU L (splitS 10 text) 0 []:=by unfold eK;rw[hv,if_pos rfl,if_neg da]
   have hb:(text.size:Int)<=1048576:=by omega
   rw[hp];rw[hv]at CC;have CS:=λW=>Ad (xC0 text W (by omega));unfold kU at CS;have dm:∀x,x∈splitS 10 text->x.size<=4294967280:=λx hx=>by have:=dN hx;omega
   have ay:=zM0 text;rw[lA]at dm ⊢;clear hp hv da;generalize (splitL 10 text.data.toList).map mkB=ls at *;go_enter Tryz.func13,Tryz.ntmps13
   go_wp2_with (first|(go_at_call 58;refine CC.out.mono ?_;rintro e w1 ⟨rfl,aq⟩)|(go_at_call 55;refine(CS _).out.mono ?_;rintro e w2 ⟨sa,sc,rfl,m0,an⟩))
   have fe:=aq.tr an;go_loopw [7,9] (λv i wr=>∃(k:Nat) (out:List En),k<=ls.length/\i=.int .i64 k/\aO wr w2.heap.size 89 5 bE v out/\Hid (bU L ls 0 []=bU L (ls.drop k) k out)/\out.length<=20000/\aB w wr/\aB w2 wr) (λ_ i _=>ls.length-(intOf i).toNat)
   case atStart=>exact⟨0,[],Nat.zero_le _,rfl,aO.nil _ _ _ _ _,rfl,by simp,fe,aB.refl _⟩
   case round =>
    obtain⟨k,out,hk,rfl,ae,gu,uj,fx,ly⟩:=hrel;obtain⟨a8,c8,rfl,jr,th,_⟩:=ae.at_ gM;by_cases af:k<ls.length
    ·obtain⟨s,uk⟩:∃s,ls[k]?=some s:=⟨_,List.getElem?_eq_getElem af⟩
     have hss:=dm s (List.mem_of_getElem? uk)
     have fj:ls.drop k=s::ls.drop (k+1):=by
      rw[List.drop_eq_getElem_cons af]
      have:ls[k]=s:=(List.getElem?_eq_some_iff.1 uk).2
      rw[this]
     obtain⟨sb,so,rfl,gp⟩:=jB (m0.grows ly) (aH af);have c0:wr.cell? ⟨sb,so+k,none⟩=some (.string s):=gp k s uk;have lz:=gu.out;rw[fj,kX]at lz;have HP:=Ad lz;clear gu lz fj uk gp;by_cases l5:s.toList=[]
     ·have cz:bU L ls 0 []=bU L (ls.drop (k+1)) (k+1) out:=by rw[HP.out,mQ l5];rfl
      have HP2:=Ad cz;clear HP cz;go_wp2
      go_roundw
      case rel=>exact⟨k+1,out,by omega,by go_num,ae,HP2.out,uj,fx,ly⟩
      case measure=>simp[intOf];omega
     ·have cu:=gZ l5
      have acx:(s.toList==[])=false:=by simpa using l5
      by_cases kw:(s[0].toNat:Int)=35
      ·have cz:bU L ls 0 []=bU L (ls.drop (k+1)) (k+1) out:=by rw[HP.out,pR cu kw];rfl
       have HP2:=Ad cz;clear HP cz;go_wp2
       go_roundw
       case rel=>exact⟨k+1,out,by omega,by go_num,ae,HP2.out,uj,fx,ly⟩
       case measure=>simp[intOf];omega
      ·have acy:((s[0].toNat:Int)==35)=false:=by simpa using kw
       have cz:=HP.out;rw[sW cu kw]at cz;simp only[Bool.false_eq_true,if_false]at cz;have CR:=cY1 s L la cap wr hss hl (HAT.out.grows fx);unfold qX at cz;generalize readS s L=xr at cz CR;obtain⟨x,er⟩:=xr;simp only[]at cz CR;have HCR:=Ad CR;have HP2:=Ad cz;clear HP cz CR kw l5;by_cases hz:er=0
       ·subst hz
        by_cases gi:out.length=20000
        ·have il:bU L ls 0 []=([],(k:Int)+1,2):=by rw[HP2.out];simp[gi]
         have HP3:=Ad il;have hfb:¬(out.length:Int)<20000:=by omega
         clear HP2 il gi;go_wp2_with (first|(go_at_call 63;refine HCR.out.mono ?_;rintro e w3 ⟨rfl,bu⟩))
         go_ret3;rw[HP3.out];exact⟨_,rfl,eV _ _ _ _,(fx.tr bu).al _⟩
        ·have il:bU L ls 0 []=bU L (ls.drop (k+1)) (k+1) (out++[x]):=by
          rw[HP2.out];simp[gi]
         have HP3:=Ad il;have hfb:(out.length:Int)<20000:=by omega
         clear HP2 il gi;go_wp2_with (first|(go_at_call 63;refine HCR.out.mono ?_;rintro e w3 ⟨rfl,bu⟩)|(at_builtin;refine dQ kT1 rfl _ _ rfl w2.heap.size _ _ x rfl ae (bu.al _) (w3.heap.size+1) 1 (by simp) #[.string x.r,.string x.s,.int .i64 x.l,.int .i64 x.t,.int .i64 x.c] rfl rfl (by omega) ly.size ?_;intro v' w4 cw cd))
         have d8:=cd w fx (Nat.le_trans fe.size (Aa _));have ajg:=cd w2 ly (Aa _);go_wp2
         go_roundw
         case rel=>exact⟨k+1,out++[x],by omega,by go_num,cw,HP3.out,by simp;omega,d8,ajg⟩
         case measure=>simp[intOf];omega
       ·have hzb:(er != 0)=true:=by simpa using hz
        have ah6:(er==0)=false:=by simpa using hz
        have il:bU L ls 0 []=([],(k:Int)+1,er):=by rw[HP2.out];simp[hz]
        have HP3:=Ad il;clear HP2 il hz;go_wp2_with (first|(go_at_call 63;refine HCR.out.mono ?_;rintro e w3 ⟨rfl,bu⟩))
        go_ret3;rw[HP3.out];exact⟨_,rfl,eV _ _ _ _,(fx.tr bu).al _⟩
    ·obtain rfl:k=ls.length:=by omega
     have au:bU L ls 0 []=(out,0,0):=by rw[gu.out,List.drop_length];rfl
     have HF:=Ad au;clear au gu;go_wp2
     go_ret3;rw[HF.out];exact⟨_,rfl,lC ae fe.size,fx⟩
end
end Go.Proofs.YtiopheoljccmpaaGreatDoor
