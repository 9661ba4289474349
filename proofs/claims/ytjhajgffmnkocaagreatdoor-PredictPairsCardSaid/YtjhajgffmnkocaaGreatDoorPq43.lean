/- The texts Dct4 R19a Dct5 Dct6 Pcl DicA Plist ImgL, one behind the other. -/
import Derived.Test.YtjhajgffmnkocaaGreatDoorPq42
import Derived.Test.YtjhajgffmnkocaaGreatDoorPq20
import Derived.Test.YtjhajgffmnkocaaGreatDoorPq39
import Derived.Test.YtjhajgffmnkocaaGreatDoorPq25
import Derived.Test.YtjhajgffmnkocaaGreatDoorPq31
import Derived.Test.YtjhajgffmnkocaaGreatDoorPq2
import Derived.Test.YtjhajgffmnkocaaGreatDoorPq12
import Derived.Test.YtjhajgffmnkocaaGreatDoorPq36
import Derived.Test.YtjhajgffmnkocaaGreatDoorPq38
import Derived.Test.YtjhajgffmnkocaaGreatDoorPq35
import Derived.Maps.Own
import Derived.Carry
import Derived.Test.YtjhajgffmnkocaaGreatDoorPq14
import Derived.Test.YtjhajgffmnkocaaGreatDoorPq33
import Derived.Test.YtjhajgffmnkocaaGreatDoorPq30
import Derived.Deep.Cut
import Derived.Maps.RangeWalk
import Derived.Test.YtjhajgffmnkocaaGreatDoorPq23
open Go.Lib renaming hid → Aa,toList_data → Al,validD → Bo
open Go.World renaming block_lt_of_cell? → Ab,ownsMap_made → Aw,drew → Ax
open List renaming mem_of_getElem? → Ac,getElem?_eq_getElem → Ad,length_take → Af,length_cons → Ah,foldl → Ai,take_length → Aj,length_map → Ak,length_append → Am,isEmpty_eq_false_iff → Ao,length_nil → Aq,length_filter_le → Ar,getElem?_range' → As,mem_of_mem_take → Au,mem_singleton → Ay,length_drop → Be,range' → Bf,map_append → Bg,filter_nil → Bh,mem_append → Bi
open Nat renaming le_trans → Ae,le_refl → Ag,zero_le → Ap,mul_le_mul_right → At,ne_of_lt → Az,ne_of_gt → Ba,mul_le_mul → Bj,succ_mul → Bk,le_succ → Bn
open Classical renaming byContradiction → An
open Go.IntKind renaming signed → Av,wrap → Bc,bits → Bd
open Int renaming toNat_natCast → Bb
set_option maxHeartbeats 16000000
namespace Go.Proofs.YtjhajgffmnkocaaGreatDoor
set_option maxRecDepth 100000
section
open Go Go.RowKit Go.Shelf
attribute [local go_sem] aO aM Oper.semAt_some
theorem aB.tr_EB {w W W':World} {B:Nat} (h:aB w W) (k:EB B W W') (hB:w.heap.size<=B):aB w W':=Below.trans h (Below.mono k.1 hB)
theorem vT0 {w W:World} {pb:Nat} {l:List Nat} (h:lJ w pb l) (hk:bK (λb=>b<w.heap.size) w W):lJ W pb l :=
 yE h (X:=λ_=>False) (λk ig _=>hk k ig) (λh=>h) (λ_q h=>h.elim)
theorem sM0 (n:Nat) (hn:1<=n) (l N a b b1 b2 b3 db po:Nat) (os:List Nat) (w:World) (eo:a<=b) (hbN:b<=os.length) (hN:os.length<=1048576) (hos:∀x∈os,x<N) (hN2:N<=1048576) (J Jx:List (nT0 N)->World->Prop)
  (hJ:∀pre V V',J pre V->aB V V'->J pre V')
  (hY:∀pre x W,J pre W->pre.length<b-a->YieldAt Fence.wide (n-1) Tryz.prog l #[.int .i64 (x.1:Nat)] W λe W' =>
   (e=.returned (.bool true)/\J (pre++[x]) W'/\bK (λb=>b<w.heap.size) W W')\/(e=.returned (.bool false)/\Jx (pre++[x]) W'))
  (W:World) (hK0:bK (λb=>b<w.heap.size) w W) (c1:w.cell? ⟨b1,0,none⟩=some (.int .i64 a)) (c2:w.cell? ⟨b2,0,none⟩=some (.int .i64 b)) (c3:w.cell? ⟨b3,0,none⟩=some (.pointer (some ⟨db,0,none⟩))) (c4:w.cell? ⟨db,9,none⟩=some (.pointer (some ⟨po,0,none⟩))) (hp:lJ w po os) (h0:J [] W) (dm:w.heap.size<=W.heap.size) :
  CallsIn Fence.wide n Tryz.prog 149 #[.func (.yield l) #[] #[],.pointer (some ⟨b1,0,none⟩),.pointer (some ⟨b2,0,none⟩),.pointer (some ⟨b3,0,none⟩)] W λe W'=>(∃v,e=.returned v) /\
   ((∃xs:List (nT0 N),xs.map (·.1)=(os.take b).drop a/\J xs W')\/(∃pre:List (nT0 N),True/\Jx pre W')):=by
 have k1:=Ab w _ c1;have k2:=Ab w _ c2;have k3:=Ab w _ c3;have k4:=Ab w _ c4;have c1W:=hK0.cell (p:=⟨b1,0,none⟩) k1 c1;have CN:=λ(i x:Nat) (hx:os[i]?=some x) (V:World) (hV:bK (λb=>b<w.heap.size) w V)=>Aa (kR os po i x V hN (λn h=>by have:=hos n h;omega) hx (vT0 hp hV));refine callsIn_of_wp Tryz.func149 rfl trivial ?_ rfl;simp only[Tryz.ntmps149,List.size_toArray,Ah,Aq,Nat.reduceAdd,Nat.reduceSub,Array.replicate_succ,Array.replicate_zero,List.push_toArray,List.append_toArray,List.nil_append,List.cons_append];gi_wp2
 gi_loopw [5] (λi wr=>∃(k:Nat) (pre:List (nT0 N)),i=.int .i64 k/\a<=k/\k<=b/\pre.map (·.1)=(os.take k).drop a/\J pre wr/\bK (λb=>b<w.heap.size) w wr/\w.heap.size<=wr.heap.size) (λi _=>b-(intOf i).toNat)
 case atStart=>exact⟨a,[],rfl,Ag _,eo,by simp,h0,hK0,dm⟩
 case round =>
  obtain⟨k,pre,rfl,hak,hkb,yu,hJp,hK,hwz⟩:=hrel;have c2r:=hK.cell (p:=⟨b2,0,none⟩) k2 c2;have c3r:=hK.cell (p:=⟨b3,0,none⟩) k3 c3;have c4r:=hK.cell (p:=⟨db,9,none⟩) k4 c4;by_cases af:k<b
  ·have dz:(k:Int)<b:=by omega
   obtain⟨x,hx⟩:∃x,os[k]?=some x:=⟨_,Ad (by omega)⟩
   have ou:pre.length=k-a:=by
    have:=congrArg List.length yu
    rw[Ak,Be,Af]at this;omega
   have hxN:=hos x (Ac hx)
   have hp2:(pre++[(⟨x,hxN⟩:nT0 N)]).map (·.1)=(os.take (k+1)).drop a:=by
    rw[Bg,yu,bJ hx,List.drop_append_of_le_length (by rw[Af];omega)];rfl
   have CN1:=CN k x hx wr hK;clear yu CN;gi_wp2
   refine⟨trivial,?_⟩;refine(callsIn_wide.2 CN1.out).mono ?_;rintro e w2 ⟨rfl,ae⟩;have ld:bK (λb=>b<w.heap.size) w w2:=hK.tr (bK.of_below ae (λb hb=>Nat.lt_of_lt_of_le hb hwz));have hJ2:=hJ pre wr w2 hJp ae;obtain⟨fn,tmps,assign,body,hy,hR⟩:=hY pre ⟨x,hxN⟩ w2 hJ2 (by omega);dsimp only at hy
   have fw:=Ae hwz ae.size;clear hJp hJ2 CN1;gi_wp2
   refine hR.mono ?_;rintro e W3 (⟨rfl,mr,ii⟩|⟨rfl,gi⟩)
   ·gi_wp2
    have hz3:w.heap.size<=W3.heap.size:=by
     have:=ld.tr ii
     apply An
     intro hc;have h5:=Ab W3 _ ((ld.tr ii).cell (p:=⟨b3,0,none⟩) k3 c3);have h6:=this (w.heap.size-1) (by omega)
     have h7:w.heap[w.heap.size-1]?≠none:=by
      rw[Array.getElem?_eq_getElem (by omega)];simp
     rw[<-h6,Array.getElem?_eq_none (by omega)]at h7;exact h7 rfl
    go_roundw
    case rel=>exact⟨k+1,_,by go_num,by omega,af,hp2,mr,ld.tr ii,hz3⟩
    case measure=>simp[intOf];omega
   ·gi_wp2
    go_end0;exact⟨⟨_,rfl⟩,.inr ⟨_,trivial,gi⟩⟩
  ·have dz:¬(k:Int)<b:=by omega
   obtain rfl:k=b:=by omega
   gi_wp2
   refine⟨trivial,?_⟩;gi_wp2
   refine⟨λf h=>(by cases h),?_⟩;gi_wp2
   go_end0;exact⟨⟨_,rfl⟩,.inl ⟨pre,yu,hJp⟩⟩
theorem gF0 (n N a b b1 b2 b3 db po:Nat) (os:List Nat) (w:World) (hn:1<=n) (eo:a<=b) (hbN:b<=os.length) (hN:os.length<=1048576) (hos:∀x∈os,x<N) (hN2:N<=1048576)
  (c1:w.cell? ⟨b1,0,none⟩=some (.int .i64 a)) (c2:w.cell? ⟨b2,0,none⟩=some (.int .i64 b)) (c3:w.cell? ⟨b3,0,none⟩=some (.pointer (some ⟨db,0,none⟩))) (c4:w.cell? ⟨db,9,none⟩=some (.pointer (some ⟨po,0,none⟩))) (hp:lJ w po os) :
  SeqStopsK Fence.wide n Tryz.prog 149 #[.pointer (some ⟨b1,0,none⟩),.pointer (some ⟨b2,0,none⟩),.pointer (some ⟨b3,0,none⟩)] (λx:nT0 N => #[.int .i64 (x.1:Nat)]) (bK λb=>b<w.heap.size) (λys=>ys.map (·.1)=(os.take b).drop a) (λ_=>True) (b-a) w:=by
 intro l J Jx W hW hJ _ hY h0;exact sM0 n hn l N a b b1 b2 b3 db po os w eo hbN hN hos hN2 J Jx (λpre V V' h hg=>hJ pre V V' none h hg.grownBy (λr e=>by cases e)) hY W (bK.of_below hW (λb hb=>hb)) c1 c2 c3 c4 hp h0 hW.size
theorem kO0 (p:List cY) (m:Mx) (es:List En) (db id:Nat) (s:ByteArray) (w:World) (ag:bT p m es) (ac:fA w db p m es) (hs:(bP es)[id]?=some s) :
  Calls Tryz.prog 81 #[.pointer (some ⟨db,0,none⟩),.int .i64 id] w λe w'=>∃v,e=.returned v/\aU w' w.heap.size 62 5 bF v (ofL es s)/\aB w w':=by
 obtain⟨a,b,hr,eo,hb,he⟩:=ag.row_s hs;have hn:=ag.len;obtain⟨pa,a1,a2⟩:=ac.a;obtain⟨po,o1,o2⟩:=ac.o;have vh:=qM es;have af2:∀x∈aE0 es,x<es.length:=λx hx=>dZ0 hx
 have mw:(gO fF0 (gJ es) es.length).length<=20000:=by
  have h1:=(dQ ag.sf).2.1;rw[cO]at h1;rw[qK0,iL];exact h1
 obtain⟨W1,bh⟩:=exq (w.alloc (.cells #[.pointer (some ⟨db,0,none⟩)] 31));have te:aB w W1:=by rw[bh];exact aB.alloc _ _
 have q0:W1.cell? ⟨w.heap.size,0,none⟩=some (.pointer (some ⟨db,0,none⟩)):=by
  have:=aT w #[.pointer (some ⟨db,0,none⟩)] 31 (0,0) 0 _ rfl
  rwa [<-bh]at this
 have CL:∀u,aB w u->Hid (Calls Tryz.prog 127 #[.pointer (some ⟨po,0,none⟩)] u λe w'=>e=.returned (.int .i64 (es.length:Nat))/\u=w'):=λu hu=>by
  have h:=gS (aE0 es) po u (o2.grows hu);rw[vh]at h;exact h
 have CR:=λ(u:World) (hu:aB w u)=>Aa (yG (gO fF0 (gJ es) es.length) pa es.length id a b u (by omega) (λn h=>by have:=iQ h;omega) hr (a2.grows hu))
 have CI:∀(b5 b6:Nat) (u:World),aB w u->u.cell? ⟨b5,0,none⟩=some (.int .i64 a)->u.cell? ⟨b6,0,none⟩=some (.int .i64 b)->u.cell? ⟨w.heap.size,0,none⟩=some (.pointer (some ⟨db,0,none⟩)) ->
   Hid (Calls Tryz.prog 62 #[.pointer (some ⟨db,0,none⟩),.func (.func 149) #[] #[.pointer (some ⟨b5,0,none⟩),.pointer (some ⟨b6,0,none⟩),.pointer (some ⟨w.heap.size,0,none⟩)]] u λe w'=>∃v,e=.returned v/\aU w' u.heap.size 62 5 bF v (ofL es s)/\aB u w'):=λb5 b6 u hu h5 h6 h7=>by
  have e1:((aE0 es).take b).length=b:=by rw[Af];omega
  have e2:(((aE0 es).take b).drop a).length=b-a:=by rw[Be,e1]
  have h:=jY0 p m es db 149 #[.pointer (some ⟨b5,0,none⟩),.pointer (some ⟨b6,0,none⟩),.pointer (some ⟨w.heap.size,0,none⟩)] (((aE0 es).take b).drop a) u ag (ac.grows hu) (by omega) (enters_of Tryz.func149 (by kernel_rfl) rfl) (by
   rw[e2];exact gF0 7 es.length a b b5 b6 w.heap.size db po (aE0 es) u (by decide) eo (by omega) (by omega) af2 (by omega) h5 h6 h7 (hu.cell o1) (o2.grows hu))
  rw[he]at h;exact h
 have z0:∀y:Ext (EB W1.heap.size) W1.drew,y.u.cell? ⟨w.heap.size,0,none⟩=some (.pointer (some ⟨db,0,none⟩)):=mU (Ab _ _ q0) ((aB.drew W1).cell q0);have z1:∀y:Ext (EB W1.heap.size) W1.drew,y.u.cell? ⟨db,10,none⟩=some (.pointer (some ⟨pa,0,none⟩)):=mU (Ab _ _ (te.cell a1)) ((aB.drew W1).cell (te.cell a1));have z2:∀y:Ext (EB W1.heap.size) W1.drew,y.u.cell? ⟨db,9,none⟩=some (.pointer (some ⟨po,0,none⟩)):=mU (Ab _ _ (te.cell o1)) ((aB.drew W1).cell (te.cell o1));have CL1:∀y:Ext (EB W1.heap.size) W1.drew,Hid (Calls Tryz.prog 127 #[.pointer (some ⟨po,0,none⟩)] y.u λe w'=>e=.returned (.int .i64 (es.length:Nat))/\y.u=w'):=λy=>CL _ ((te.tr (aB.drew W1)).tr_EB y.h te.size);obtain⟨N,hN⟩:=exq es.length;rw[<-hN]at CL1 CR;have HQ:=Aa q0;clear ac ag hs hr eo hb he a2 o2 vh af2 mw hn hN CL q0 a1 o1;go_enter Tryz.func81,Tryz.ntmps81
 go_wp2_with fail
 rw[<-bh];clear bh;refine xN0 (EB W1.heap.size) (.quiet 0 (.quiet 1 (.quiet 2 (.quiet 3 (.quiet 4 (.quiet 5 (.quiet 6 (.quiet 7 (.quiet 8 (.quiet 9 (.alt (.late 10 (.quiet 11 (.quiet 12 (.quiet 13 (.alt (.late 14 (.late 15 (.late 16 (.late 17 .done)))) (.late 15 (.late 14 (.late 16 (.late 17 .done))))))))) (.alt (.late 14 (.alt (.late 10 (.quiet 11 (.quiet 12 (.quiet 13 (.late 15 (.late 16 (.late 17 .done))))))) (.late 15 (.late 10 (.quiet 11 (.quiet 12 (.quiet 13 (.late 16 (.late 17 .done))))))))) (.late 15 (.alt (.late 10 (.quiet 11 (.quiet 12 (.quiet 13 (.late 14 (.late 16 (.late 17 .done))))))) (.late 14 (.late 10 (.quiet 11 (.quiet 12 (.quiet 13 (.late 16 (.late 17 .done))))))))))))))))))))) (λ(x:Nat×Nat)=>[(some 8,.pointer (some ⟨db,0,none⟩)),(some 9,.pointer (some ⟨db,0,none⟩)),(some 10,.pointer (some ⟨db,10,none⟩)),(some 11,.pointer (some ⟨pa,0,none⟩)),(some 12,.int .i64 id),(some 13,.pointer (some ⟨db,0,none⟩)),(some 14,.pointer (some ⟨db,0,none⟩)),(some 15,.pointer (some ⟨db,9,none⟩)),(some 16,.pointer (some ⟨po,0,none⟩)),(some 17,.int .i64 N),(some 18,.tuple #[.int .i64 a,.int .i64 b]),(some 7,.tuple #[.int .i64 a,.int .i64 b]),(some 19,.int .i64 a),(some 20,.int .i64 b),(some 5,.pointer (some ⟨x.1,0,none⟩)),(some 6,.pointer (some ⟨x.2,0,none⟩))]) (λ(x:Nat×Nat) w'=>w'.cell? ⟨x.1,0,none⟩=some (.int .i64 a)/\w'.cell? ⟨x.2,0,none⟩=some (.int .i64 b)/\aB W1 w') (EB.refl W1.heap.size) (EB.trans W1.heap.size) (by kernel_rfl) (by kernel_rfl) (λd _ _ _ _ h=>by cases d<;>exact h) ?_ ?_
 ·iterate 9 (refine gZ rfl (λK hK=>?_);go_simp;refine hK _ ?_;clear hK K)
  refine gZ rfl (λK hK=>?_);go_simp;apply Exists.intro
  refine⟨λx=>?_,hK _ ?_⟩
  ·go_at_call 127
   exact cX (CL1 x).out
  clear hK K z0 z1 z2 CL1;have g0:=aB.drew W1;generalize W1.drew=V0 at g0 ⊢;refine jC0 ?_ ?_
  ·refine cH rfl rfl (λK hK=>?_)
   go_simp;refine(CR V0 (te.tr g0)).out.mono ?_;rintro e u1 ⟨rfl,ai⟩;have g1:=g0.tr ai;refine⟨EB.of ai g0.size,hK _ _ ?_⟩;clear hK K ai;iterate 3 (refine gZ rfl (λK hK=>?_);go_simp;refine hK _ ?_;clear hK K)
   refine jC0 ?_ ?_
   ·refine cH rfl rfl (λK hK=>?_)
    go_simp;have ae:=aB.alloc u1 (.cells #[.int .i64 0] 3);have T5:=TB.alloc u1 #[.int .i64 0] 3;have g2:=g1.tr ae;obtain⟨b5,il⟩:∃b,b=u1.heap.size:=⟨_,rfl⟩;have l5:W1.heap.size<=b5:=by rw[il];exact g1.size
    refine⟨EB.of ae g1.size,hK _ _ ?_⟩;clear hK K;generalize u1.alloc (.cells #[.int .i64 0] 3)=u2 at *;rw[<-il]at T5 ⊢;clear il;have k5:=T5.lt;refine cH rfl rfl (λK hK=>?_);go_simp;have aw:=aB.alloc u2 (.cells #[.int .i64 0] 3);have T6:=TB.alloc u2 #[.int .i64 0] 3;replace T5:=T5.gr aw;have g3:=g2.tr aw;obtain⟨b6,iw⟩:∃b,b=u2.heap.size:=⟨_,rfl⟩;have l6:W1.heap.size<=b6:=by rw[iw];exact g2.size
    refine⟨EB.of aw g2.size,hK _ _ ?_⟩;clear hK K;have ak:b5≠b6:=by rw[iw];exact Az k5
    generalize u2.alloc (.cells #[.int .i64 0] 3)=u3 at *;rw[<-iw]at T6 ⊢;clear iw;have k5:=T5.lt;have k6:=T6.lt;have c5:=T5.cell (o:=0) rfl;have f5:=T5.froz 0;refine cH rfl rfl (λK hK=>?_);go_simp;refine⟨EB.set1 l5 _,hK _ _ ?_⟩;clear hK K c5 f5;replace g3:=g3.set (p:=⟨b5,0,none⟩) l5 (.int .i64 a);have T6':=T6.keepN (aQ u3 b5 0 (.int .i64 a)) (by simpa using ak);have T5':=T5.set 0 (.int .i64 a);have c6:=T6'.cell (o:=0) rfl;have f6:=T6'.froz 0;refine cH rfl rfl (λK hK=>?_);go_simp;refine⟨EB.set1 l6 _,hK _ _ ?_⟩;clear hK K c6 f6;replace g3:=g3.set (p:=⟨b6,0,none⟩) l6 (.int .i64 b);have T5'':=T5'.keepN (aQ _ b6 0 (.int .i64 b)) (by simpa using Ne.symm ak);have T6'':=T6'.set 0 (.int .i64 b);refine aR0 ?_;exact⟨(b5,b6),⟨T5''.cell rfl,T6''.cell rfl,g3⟩,by simp only[kH0,Ai];go_simp⟩
   ·refine cH rfl rfl (λK hK=>?_)
    go_simp;have ae:=aB.alloc u1 (.cells #[.int .i64 0] 3);have T6:=TB.alloc u1 #[.int .i64 0] 3;have g2:=g1.tr ae;obtain⟨b6,iw⟩:∃b,b=u1.heap.size:=⟨_,rfl⟩;have l6:W1.heap.size<=b6:=by rw[iw];exact g1.size
    refine⟨EB.of ae g1.size,hK _ _ ?_⟩;clear hK K;generalize u1.alloc (.cells #[.int .i64 0] 3)=u2 at *;rw[<-iw]at T6 ⊢;clear iw;have k6:=T6.lt;refine cH rfl rfl (λK hK=>?_);go_simp;have aw:=aB.alloc u2 (.cells #[.int .i64 0] 3);have T5:=TB.alloc u2 #[.int .i64 0] 3;replace T6:=T6.gr aw;have g3:=g2.tr aw;obtain⟨b5,il⟩:∃b,b=u2.heap.size:=⟨_,rfl⟩;have l5:W1.heap.size<=b5:=by rw[il];exact g2.size
    refine⟨EB.of aw g2.size,hK _ _ ?_⟩;clear hK K;have ak:b5≠b6:=by rw[il];exact Ba k6
    generalize u2.alloc (.cells #[.int .i64 0] 3)=u3 at *;rw[<-il]at T5 ⊢;clear il;have k6:=T6.lt;have k5:=T5.lt;have c5:=T5.cell (o:=0) rfl;have f5:=T5.froz 0;refine cH rfl rfl (λK hK=>?_);go_simp;refine⟨EB.set1 l5 _,hK _ _ ?_⟩;clear hK K c5 f5;replace g3:=g3.set (p:=⟨b5,0,none⟩) l5 (.int .i64 a);have T6':=T6.keepN (aQ u3 b5 0 (.int .i64 a)) (by simpa using ak);have T5':=T5.set 0 (.int .i64 a);have c6:=T6'.cell (o:=0) rfl;have f6:=T6'.froz 0;refine cH rfl rfl (λK hK=>?_);go_simp;refine⟨EB.set1 l6 _,hK _ _ ?_⟩;clear hK K c6 f6;replace g3:=g3.set (p:=⟨b6,0,none⟩) l6 (.int .i64 b);have T5'':=T5'.keepN (aQ _ b6 0 (.int .i64 b)) (by simpa using Ne.symm ak);have T6'':=T6'.set 0 (.int .i64 b);refine aR0 ?_;exact⟨(b5,b6),⟨T5''.cell rfl,T6''.cell rfl,g3⟩,by simp only[kH0,Ai];go_simp⟩
  ·refine jC0 ?_ ?_
   ·refine cH rfl rfl (λK hK=>?_)
    go_simp;have ai:=aB.alloc V0 (.cells #[.int .i64 0] 3);have T5:=TB.alloc V0 #[.int .i64 0] 3;have g1:=g0.tr ai;obtain⟨b5,il⟩:∃b,b=V0.heap.size:=⟨_,rfl⟩;have l5:W1.heap.size<=b5:=by rw[il];exact g0.size
    refine⟨EB.of ai g0.size,hK _ _ ?_⟩;clear hK K;generalize V0.alloc (.cells #[.int .i64 0] 3)=u1 at *;rw[<-il]at T5 ⊢;clear il;have k5:=T5.lt;refine jC0 ?_ ?_
    ·refine cH rfl rfl (λK hK=>?_)
     go_simp;refine(CR u1 (te.tr g1)).out.mono ?_;rintro e u2 ⟨rfl,ae⟩;have g2:=g1.tr ae;replace T5:=T5.gr ae;refine⟨EB.of ae g1.size,hK _ _ ?_⟩;clear hK K ae;iterate 3 (refine gZ rfl (λK hK=>?_);go_simp;refine hK _ ?_;clear hK K)
     have k5:=T5.lt;refine cH rfl rfl (λK hK=>?_);go_simp;have aw:=aB.alloc u2 (.cells #[.int .i64 0] 3);have T6:=TB.alloc u2 #[.int .i64 0] 3;replace T5:=T5.gr aw;have g3:=g2.tr aw;obtain⟨b6,iw⟩:∃b,b=u2.heap.size:=⟨_,rfl⟩;have l6:W1.heap.size<=b6:=by rw[iw];exact g2.size
     refine⟨EB.of aw g2.size,hK _ _ ?_⟩;clear hK K;have ak:b5≠b6:=by rw[iw];exact Az k5
     generalize u2.alloc (.cells #[.int .i64 0] 3)=u3 at *;rw[<-iw]at T6 ⊢;clear iw;have k5:=T5.lt;have k6:=T6.lt;have c5:=T5.cell (o:=0) rfl;have f5:=T5.froz 0;refine cH rfl rfl (λK hK=>?_);go_simp;refine⟨EB.set1 l5 _,hK _ _ ?_⟩;clear hK K c5 f5;replace g3:=g3.set (p:=⟨b5,0,none⟩) l5 (.int .i64 a);have T6':=T6.keepN (aQ u3 b5 0 (.int .i64 a)) (by simpa using ak);have T5':=T5.set 0 (.int .i64 a);have c6:=T6'.cell (o:=0) rfl;have f6:=T6'.froz 0;refine cH rfl rfl (λK hK=>?_);go_simp;refine⟨EB.set1 l6 _,hK _ _ ?_⟩;clear hK K c6 f6;replace g3:=g3.set (p:=⟨b6,0,none⟩) l6 (.int .i64 b);have T5'':=T5'.keepN (aQ _ b6 0 (.int .i64 b)) (by simpa using Ne.symm ak);have T6'':=T6'.set 0 (.int .i64 b);refine aR0 ?_;exact⟨(b5,b6),⟨T5''.cell rfl,T6''.cell rfl,g3⟩,by simp only[kH0,Ai];go_simp⟩
    ·refine cH rfl rfl (λK hK=>?_)
     go_simp;have ae:=aB.alloc u1 (.cells #[.int .i64 0] 3);have T6:=TB.alloc u1 #[.int .i64 0] 3;replace T5:=T5.gr ae;have g2:=g1.tr ae;obtain⟨b6,iw⟩:∃b,b=u1.heap.size:=⟨_,rfl⟩;have l6:W1.heap.size<=b6:=by rw[iw];exact g1.size
     refine⟨EB.of ae g1.size,hK _ _ ?_⟩;clear hK K;have ak:b5≠b6:=by rw[iw];exact Az k5
     generalize u1.alloc (.cells #[.int .i64 0] 3)=u2 at *;rw[<-iw]at T6 ⊢;clear iw;have k5:=T5.lt;have k6:=T6.lt;refine cH rfl rfl (λK hK=>?_);go_simp;refine(CR u2 (te.tr g2)).out.mono ?_;rintro e u3 ⟨rfl,aw⟩;have g3:=g2.tr aw;replace T5:=T5.gr aw;replace T6:=T6.gr aw;refine⟨EB.of aw g2.size,hK _ _ ?_⟩;clear hK K aw;iterate 3 (refine gZ rfl (λK hK=>?_);go_simp;refine hK _ ?_;clear hK K)
     have k5:=T5.lt;have k6:=T6.lt;have c5:=T5.cell (o:=0) rfl;have f5:=T5.froz 0;refine cH rfl rfl (λK hK=>?_);go_simp;refine⟨EB.set1 l5 _,hK _ _ ?_⟩;clear hK K c5 f5;replace g3:=g3.set (p:=⟨b5,0,none⟩) l5 (.int .i64 a);have T6':=T6.keepN (aQ u3 b5 0 (.int .i64 a)) (by simpa using ak);have T5':=T5.set 0 (.int .i64 a);have c6:=T6'.cell (o:=0) rfl;have f6:=T6'.froz 0;refine cH rfl rfl (λK hK=>?_);go_simp;refine⟨EB.set1 l6 _,hK _ _ ?_⟩;clear hK K c6 f6;replace g3:=g3.set (p:=⟨b6,0,none⟩) l6 (.int .i64 b);have T5'':=T5'.keepN (aQ _ b6 0 (.int .i64 b)) (by simpa using Ne.symm ak);have T6'':=T6'.set 0 (.int .i64 b);refine aR0 ?_;exact⟨(b5,b6),⟨T5''.cell rfl,T6''.cell rfl,g3⟩,by simp only[kH0,Ai];go_simp⟩
   ·refine cH rfl rfl (λK hK=>?_)
    go_simp;have ai:=aB.alloc V0 (.cells #[.int .i64 0] 3);have T6:=TB.alloc V0 #[.int .i64 0] 3;have g1:=g0.tr ai;obtain⟨b6,iw⟩:∃b,b=V0.heap.size:=⟨_,rfl⟩;have l6:W1.heap.size<=b6:=by rw[iw];exact g0.size
    refine⟨EB.of ai g0.size,hK _ _ ?_⟩;clear hK K;generalize V0.alloc (.cells #[.int .i64 0] 3)=u1 at *;rw[<-iw]at T6 ⊢;clear iw;have k6:=T6.lt;refine jC0 ?_ ?_
    ·refine cH rfl rfl (λK hK=>?_)
     go_simp;refine(CR u1 (te.tr g1)).out.mono ?_;rintro e u2 ⟨rfl,ae⟩;have g2:=g1.tr ae;replace T6:=T6.gr ae;refine⟨EB.of ae g1.size,hK _ _ ?_⟩;clear hK K ae;iterate 3 (refine gZ rfl (λK hK=>?_);go_simp;refine hK _ ?_;clear hK K)
     have k6:=T6.lt;refine cH rfl rfl (λK hK=>?_);go_simp;have aw:=aB.alloc u2 (.cells #[.int .i64 0] 3);have T5:=TB.alloc u2 #[.int .i64 0] 3;replace T6:=T6.gr aw;have g3:=g2.tr aw;obtain⟨b5,il⟩:∃b,b=u2.heap.size:=⟨_,rfl⟩;have l5:W1.heap.size<=b5:=by rw[il];exact g2.size
     refine⟨EB.of aw g2.size,hK _ _ ?_⟩;clear hK K;have ak:b5≠b6:=by rw[il];exact Ba k6
     generalize u2.alloc (.cells #[.int .i64 0] 3)=u3 at *;rw[<-il]at T5 ⊢;clear il;have k6:=T6.lt;have k5:=T5.lt;have c5:=T5.cell (o:=0) rfl;have f5:=T5.froz 0;refine cH rfl rfl (λK hK=>?_);go_simp;refine⟨EB.set1 l5 _,hK _ _ ?_⟩;clear hK K c5 f5;replace g3:=g3.set (p:=⟨b5,0,none⟩) l5 (.int .i64 a);have T6':=T6.keepN (aQ u3 b5 0 (.int .i64 a)) (by simpa using ak);have T5':=T5.set 0 (.int .i64 a);have c6:=T6'.cell (o:=0) rfl;have f6:=T6'.froz 0;refine cH rfl rfl (λK hK=>?_);go_simp;refine⟨EB.set1 l6 _,hK _ _ ?_⟩;clear hK K c6 f6;replace g3:=g3.set (p:=⟨b6,0,none⟩) l6 (.int .i64 b);have T5'':=T5'.keepN (aQ _ b6 0 (.int .i64 b)) (by simpa using Ne.symm ak);have T6'':=T6'.set 0 (.int .i64 b);refine aR0 ?_;exact⟨(b5,b6),⟨T5''.cell rfl,T6''.cell rfl,g3⟩,by simp only[kH0,Ai];go_simp⟩
    ·refine cH rfl rfl (λK hK=>?_)
     go_simp;have ae:=aB.alloc u1 (.cells #[.int .i64 0] 3);have T5:=TB.alloc u1 #[.int .i64 0] 3;replace T6:=T6.gr ae;have g2:=g1.tr ae;obtain⟨b5,il⟩:∃b,b=u1.heap.size:=⟨_,rfl⟩;have l5:W1.heap.size<=b5:=by rw[il];exact g1.size
     refine⟨EB.of ae g1.size,hK _ _ ?_⟩;clear hK K;have ak:b5≠b6:=by rw[il];exact Ba k6
     generalize u1.alloc (.cells #[.int .i64 0] 3)=u2 at *;rw[<-il]at T5 ⊢;clear il;have k6:=T6.lt;have k5:=T5.lt;refine cH rfl rfl (λK hK=>?_);go_simp;refine(CR u2 (te.tr g2)).out.mono ?_;rintro e u3 ⟨rfl,aw⟩;have g3:=g2.tr aw;replace T6:=T6.gr aw;replace T5:=T5.gr aw;refine⟨EB.of aw g2.size,hK _ _ ?_⟩;clear hK K aw;iterate 3 (refine gZ rfl (λK hK=>?_);go_simp;refine hK _ ?_;clear hK K)
     have k6:=T6.lt;have k5:=T5.lt;have c5:=T5.cell (o:=0) rfl;have f5:=T5.froz 0;refine cH rfl rfl (λK hK=>?_);go_simp;refine⟨EB.set1 l5 _,hK _ _ ?_⟩;clear hK K c5 f5;replace g3:=g3.set (p:=⟨b5,0,none⟩) l5 (.int .i64 a);have T6':=T6.keepN (aQ u3 b5 0 (.int .i64 a)) (by simpa using ak);have T5':=T5.set 0 (.int .i64 a);have c6:=T6'.cell (o:=0) rfl;have f6:=T6'.froz 0;refine cH rfl rfl (λK hK=>?_);go_simp;refine⟨EB.set1 l6 _,hK _ _ ?_⟩;clear hK K c6 f6;replace g3:=g3.set (p:=⟨b6,0,none⟩) l6 (.int .i64 b);have T5'':=T5'.keepN (aQ _ b6 0 (.int .i64 b)) (by simpa using Ne.symm ak);have T6'':=T6'.set 0 (.int .i64 b);refine aR0 ?_;exact⟨(b5,b6),⟨T5''.cell rfl,T6''.cell rfl,g3⟩,by simp only[kH0,Ai];go_simp⟩
 ·rintro⟨b5,b6⟩ w2 ⟨h5,h6,ae⟩
  have q2:=ae.cell HQ.out;have hmf:∀(fn:Fn) (first cap:Array Value) (w:World),(Instr.makeFunc fn first cap).run Tryz.prog w=.ok (.func fn first cap) w:=λ_ _ _ _=>rfl
  have CI2:=CI b5 b6 w2 (te.tr ae) h5 h6 q2;have gw2:=te.tr ae;clear CI CR;simp only[kH0,Ai];go_wp2_with fail
  refine CI2.out.mono ?_;rintro e w3 ⟨v,rfl,hv,aw⟩;go_wp2_with fail
  go_ret;exact⟨v,rfl,hv.base gw2.size,gw2.tr aw⟩
end
section
open Go Go.RowKit Go.Shelf
attribute [local go_sem] aO aM
theorem sS0 (p:List cY) (m:Mx) (es:List En) (db:Nat) (s:ByteArray) (w:World) (ag:bT p m es) (hs:s.size<=140737488355328) (ac:fA w db p m es) :
  Calls Tryz.prog 82 #[.pointer (some ⟨db,0,none⟩),.string s] w λe w'=>∃v,e=.returned v/\aU w' w.heap.size 62 5 bF v (jG es s)/\aB w w':=by
 obtain⟨okR,lR,cR⟩:=dQ ag.rd;obtain⟨tr,r1,r2⟩:=ac.r;have CF:=Aa (iU0 (bls (readL es)) tr s w okR lR cR (by omega) r2);have hfe:=uA0 (es:=es) okR s;by_cases hm:s∈readL es
 ·obtain⟨j,hj⟩:=List.mem_iff_getElem?.1 hm
  rw[okR.findT_of (lO hj)]at CF;have CR:=λ(u:World) (hu:aB w u)=>Aa (aL1 p m es db j s u ag (ac.grows hu) hj);clear ac ag okR lR cR r2 hfe hm hj;go_enter Tryz.func82,Tryz.ntmps82
  go_wp2_with fail
  refine CF.out.mono ?_;rintro e w1 ⟨rfl,ai⟩;go_wp2_with fail
  refine(CR w1 ai).out.mono ?_;rintro e w2 ⟨v,rfl,hv,ae⟩;go_wp2
  go_ret;exact⟨v,rfl,hv.base ai.size,ai.tr ae⟩
 ·have n9:lC (bls (readL es)) (bl s)=(0,false):=nS λhc=>hm (by have:=uH.1 hc;rwa [show mkB (bl s)=s from lI s]at this)
  rw[n9]at CF hfe;rw[hfe];clear ac ag okR lR cR r2 hfe hm n9;go_enter Tryz.func82,Tryz.ntmps82
  go_wp2_with fail
  refine CF.out.mono ?_;rintro e w1 ⟨rfl,ai⟩;go_wp2
  go_ret;exact⟨_,rfl,aU.nil _ _ _ _ _,ai⟩
theorem iR1 (p:List cY) (m:Mx) (es:List En) (db:Nat) (s:ByteArray) (w:World) (ag:bT p m es) (hs:s.size<=140737488355328) (ac:fA w db p m es) :
  Calls Tryz.prog 39 #[.pointer (some ⟨db,0,none⟩),.string s] w λe w'=>∃v,e=.returned v/\aU w' w.heap.size 62 5 bF v (ofL es s)/\aB w w':=by
 obtain⟨okR,lR,cR⟩:=dQ ag.sf;obtain⟨tr,r1,r2⟩:=ac.s;have CF:=Aa (iU0 (bls (bP es)) tr s w okR lR cR (by omega) r2);have hfe:=lR1 (es:=es) okR s;by_cases hm:s∈bP es
 ·obtain⟨j,hj⟩:=List.mem_iff_getElem?.1 hm
  rw[okR.findT_of (lO hj)]at CF;have CR:=λ(u:World) (hu:aB w u)=>Aa (kO0 p m es db j s u ag (ac.grows hu) hj);clear ac ag okR lR cR r2 hfe hm hj;go_enter Tryz.func39,Tryz.ntmps39
  go_wp2_with fail
  refine CF.out.mono ?_;rintro e w1 ⟨rfl,ai⟩;go_wp2_with fail
  refine(CR w1 ai).out.mono ?_;rintro e w2 ⟨v,rfl,hv,ae⟩;go_wp2
  go_ret;exact⟨v,rfl,hv.base ai.size,ai.tr ae⟩
 ·have n9:lC (bls (bP es)) (bl s)=(0,false):=nS λhc=>hm (by have:=uH.1 hc;rwa [show mkB (bl s)=s from lI s]at this)
  rw[n9]at CF hfe;rw[hfe];clear ac ag okR lR cR r2 hfe hm n9;go_enter Tryz.func39,Tryz.ntmps39
  go_wp2_with fail
  refine CF.out.mono ?_;rintro e w1 ⟨rfl,ai⟩;go_wp2
  go_ret;exact⟨_,rfl,aU.nil _ _ _ _ _,ai⟩
theorem dC1 (p:List cY) (m:Mx) (es:List En) (db:Nat) (w:World) (ac:fA w db p m es) :
  Calls Tryz.prog 77 #[.pointer (some ⟨db,0,none⟩)] w λe w'=>e=.returned (.int .i64 (es.length:Nat))/\w=w':=by
 obtain⟨pi,i1,i2⟩:=ac.i;have h:=gS (es.map (xG (bP es))) pi w i2;rw[Ak]at h;have CL:=Aa h;generalize es.length=N at CL ⊢;clear ac i2 h;go_enter Tryz.func77,Tryz.ntmps77
 go_wp2_with fail
 refine CL.out.mono ?_;rintro e w1 ⟨rfl,rfl⟩;go_wp2
 go_ret;exact⟨rfl,rfl⟩
theorem OkL.below_range {L:List (List UInt8)} (h:OkL L) {p:List UInt8} (hn:fJ L p≠[]):∃a b,a<b/\b<=L.length/\fJ L p=Bf a (b-a):=by
 by_cases hi:∃i,fU L p i
 ·obtain⟨i,x,hx,rfl⟩:=hi
  have he:=h.below_node hx
  have af:x.i<x.t:=by
   apply An
   intro hc;rw[he,show x.t-x.i=0 by omega]at hn
   exact hn rfl
  refine⟨x.i,x.t,af,?_,he⟩
  have hm:x.t-1∈fJ L (spanS L x):=by
   rw[he,List.mem_range'_1];omega
  unfold fJ at hm
  have:=List.mem_range.1 (List.mem_filter.1 hm).1
  omega
 ·exact absurd (h.below_none λi hq=>hi ⟨i,hq⟩) hn
theorem tK0 (p:List cY) (m:Mx) (es:List En) (db:Nat) (s:ByteArray) (ar:Int) (w:World) (ag:bT p m es) (hs:s.size<=140737488355328) (ac:fA w db p m es) :
  Calls Tryz.prog 37 #[.pointer (some ⟨db,0,none⟩),.string s,.int .i64 ar] w λe w'=>∃v,e=.returned v/\aU w' w.heap.size 62 5 bF v (jQ es s ar)/\aB w w':=by
 by_cases h1:ar<1
 ·have he:jQ es s ar=[]:=by
   unfold jQ;rw[show ar.toNat=0 by omega,List.take_zero]
  rw[he];clear ag ac;go_enter Tryz.func37,Tryz.ntmps37
  go_wp2_with fail
  go_ret;exact⟨_,rfl,aU.nil _ _ _ _ _,aB.refl _⟩
 ·obtain⟨M,rfl⟩:∃M:Nat,ar=M:=⟨ar.toNat,by omega⟩
  have hM:0<M:=by omega
  obtain⟨okR,lR,cR⟩:=dQ ag.rd;obtain⟨tr,r1,r2⟩:=ac.r;have CF:=Aa (uE0 (bls (readL es)) tr s (M:Int) w okR lR cR (by omega) r2);rw[Bb]at CF;by_cases hB:fJ (bls (readL es)) (bl s)=[]
  ·rw[zQ0 hB]
   rw[hB,List.take_nil]at CF;clear ac ag okR lR cR r2 hB hM;go_enter Tryz.func37,Tryz.ntmps37
   go_wp2_with fail
   refine CF.out.mono ?_;rintro e w1 ⟨v1,rfl,ij,ai⟩;obtain⟨a1,c1,rfl,_,_,_⟩:=ij.at_ nW.len;go_wp2_with fail
   go_ret;exact⟨_,rfl,aU.nil _ _ _ _ _,ai⟩
  ·obtain⟨a,b,eo,gd,hBe⟩:=okR.below_range hB
   rw[cO]at gd;rw[hBe,rM]at CF;have hU:=vA0 ag.srt (m:=M) hM eo gd hBe;obtain⟨k,hk⟩:=exq (min M (b-a));have l7:0<k:=by omega
   have hn:=ag.len;rw[<-hk]at CF hU;obtain⟨R1,R2,gv,af3⟩:=ag.rows l7 (show a+k<=(readL es).length by omega)
   obtain⟨pf,f1,f2⟩:=ac.f
   have t5:(gO qS es es.length).length<=20000:=by
    rw[cO]at lR;rw[ag.first,iL]
    exact lR
   generalize (grpsL (keyRE (readL es) es) es.length a).length=A0 at R1 hU gv;generalize (grpsL (keyRE (readL es) es) es.length (a+k)).length=E1 at R2 hU gv af3;generalize (grpsL (keyRE (readL es) es) es.length (a+1)).length=A1 at R1;generalize (grpsL (keyRE (readL es) es) es.length (a+k-1)).length=E0 at R2;obtain⟨T,hT⟩:=exq (min (E1-A0) M+A0);rw[<-hT]at hU;rw[zC es (by omega)]at hU;have CLN:=λ(u:World) (hu:aB w u)=>Aa (dC1 p m es db u (ac.grows hu));have C1:=λ(u:World) (hu:aB w u)=>Aa (yG (gO qS es es.length) pf es.length a A0 A1 u (by omega) (λn h=>by have:=iQ h;omega) R1 (f2.grows hu));have C2:=λ(u:World) (hu:aB w u)=>Aa (yG (gO qS es es.length) pf es.length (a+k-1) E0 E1 u (by omega) (λn h=>by have:=iQ h;omega) R2 (f2.grows hu));have CI:=λ(u:World) (b1 b2:Nat) (hu:aB w u) h1 h2=>Aa (aZ0 p m es db A0 T b1 b2 u ag (ac.grows hu) (by omega) (by omega) h1 h2);rw[hU]at CI;obtain⟨N,hN⟩:=exq es.length;rw[<-hN]at CLN C1 C2;have ek:(Bf a k).length=k:=by simp
   obtain⟨IDS,ab8⟩:=exq (Bf a k);rw[<-ab8]at CF ek
   have HG1:Hid (IDS[0]?=some a):=by
    show _=_
    rw[ab8,As l7];simp
   have HG2:Hid (IDS[k-1]?=some (a+k-1)):=by
    show _=_
    rw[ab8,As (by omega)];simp;omega
   have hx:min ((E1:Int)-A0) M+A0=T:=by omega
   obtain⟨L9,hL9⟩:∃q:Nat,q=a+k-1:=⟨_,rfl⟩;rw[<-hL9]at C2 HG2;have lR2:=lR;rw[cO]at lR2
   have wk:IntKind.i64.wrap ((k:Int)-1)=(k-1:Nat):=by
    rw[show (k:Int)-1=((k-1:Nat):Int) by omega]
    exact lF1 (by omega)
   have wd:IntKind.i64.wrap ((E1:Int)-A0)=(E1:Int)-A0:=by
    rw[show (E1:Int)-A0=((E1-A0:Nat):Int) by omega]
    exact lF1 (by omega)
   have wt:IntKind.i64.wrap (min ((E1:Int)-A0) M+A0)=T:=by rw[hx];exact lF1 (by omega)
   have hk1:k-1<k:=by omega
   have ig:0<IDS.length:=by omega
   clear ac ag okR lR lR2 cR r2 hB hBe hU ab8 hN hT hx hL9 R1 R2 gv af3 t5 f2 gd eo hk;go_enter Tryz.func37,Tryz.ntmps37
   go_wp2_with fail
   refine CF.out.mono ?_;rintro e w1 ⟨v1,rfl,ij,ai⟩;obtain⟨a1,c1,rfl,_,_,cw⟩:=ij.at_ nW.len;obtain⟨ba,oa,rfl,bz⟩:=cw.get (aJ ig);rw[ek];have e0:∀y:Ext aB w1.drew,y.u.cell? ⟨ba,oa,none⟩=some (.int .i64 a):=aF ((aB.drew w1).cell (bz 0 _ HG1.out 0 _ rfl));have HE1:=Aa (bz (k-1) _ HG2.out 0 _ rfl);have z0:∀y:Ext aB w1.drew,y.u.cell? ⟨db,4,none⟩=some (.pointer (some ⟨pf,0,none⟩)):=aF (ai.dr.cell f1);have jt:¬(k:Int)=0:=by omega
   clear ij cw bz HG1 HG2 CF;go_wp2_with fail
   refine bH (bE 15 [9]) (by kernel_rfl) (λd _ _ _ _ h=>by cases d<;>exact h) ?_
   iterate 8 (refine aH rfl (λK hK=>?_);go_simp;refine hK _ ?_;clear hK K)
   refine aH rfl (λK hK=>?_);go_simp;apply Exists.intro
   refine⟨λx=>?_,hK _ ?_⟩
   ·go_at_call 77;exact cX (CLN _ (ai.dr.tr x.h)).out
   clear hK K;clear e0 z0;refine bG rfl rfl (λK hK=>?_);go_simp;refine((C1 w1.drew ai.dr).out).mono ?_;rintro e w2 ⟨rfl,ae⟩;refine⟨ae,hK _ _ ?_⟩;clear hK K;iterate 5 (refine aH rfl (λK hK=>?_);go_simp;refine hK _ ?_;clear hK K)
   refine bN ?_;have g2:=ai.dr.tr ae
   have e1:∀y:Ext aB w2.drew,y.u.cell? ⟨ba,oa+(k-1),none⟩=some (.int .i64 L9):=by
    have h:=HE1.out;rw[Nat.mul_one,Nat.add_zero]at h;exact aF (((aB.drew w1).tr (ae.dr)).cell h)
   have z0:∀y:Ext aB w2.drew,y.u.cell? ⟨db,4,none⟩=some (.pointer (some ⟨pf,0,none⟩)):=aF (g2.dr.cell f1);clear HE1 C1;go_wp2_with fail
   refine bH (bE 18 [12]) (by kernel_rfl) (λd _ _ _ _ h=>by cases d<;>exact h) ?_
   iterate 11 (refine aH rfl (λK hK=>?_);go_simp;refine hK _ ?_;clear hK K)
   refine aH rfl (λK hK=>?_);go_simp;apply Exists.intro
   refine⟨λx=>?_,hK _ ?_⟩
   ·go_at_call 77;exact cX (CLN _ (g2.dr.tr x.h)).out
   clear hK K;clear e1 z0 CLN;refine bG rfl rfl (λK hK=>?_);go_simp;refine((C2 w2.drew g2.dr).out).mono ?_;rintro e w3 ⟨rfl,aw⟩;refine⟨aw,hK _ _ ?_⟩;clear hK K;iterate 5 (refine aH rfl (λK hK=>?_);go_simp;refine hK _ ?_;clear hK K)
   refine bN ?_;have g3:=g2.dr.tr aw;clear C2;go_wp2_with fail
   refine(gJ0 (A0:Int) (T:Int) w3).mono ?_;rintro e w4 ⟨rfl,hw4⟩;have cu:aB w3 w4:=by rw[hw4];exact(aB.alloc _ _).al _
   have c1:w4.cell? ⟨w3.heap.size,0,none⟩=some (.int .i64 A0):=oF (cs:=#[.int .i64 A0]) (t:=3) (by rw[hw4];exact aB.alloc _ _) rfl 0 _ rfl
   have c2:w4.cell? ⟨w3.heap.size+1,0,none⟩=some (.int .i64 T):=by
    have:=oF (w:=w3.alloc (.cells #[.int .i64 A0] 3)) (w':=w4) (cs:=#[.int .i64 T]) (t:=3) (by rw[hw4];exact aB.refl _) rfl 0 _ rfl
    rwa [World.size_alloc]at this
   have g4:=g3.tr cu;have CI2:=CI w4 _ _ g4 c1 c2;clear CI hw4 c1 c2;go_wp2_with fail
   refine CI2.out.mono ?_;rintro e w5 ⟨v,rfl,hv,bi⟩;go_wp2_with fail
   go_ret;exact⟨v,rfl,hv.base g4.size,g4.tr bi⟩
def sEq (s:ByteArray) (x:En):Bool:=decide (x.s=s)
theorem tW0 (es:List En) (r s:ByteArray):(jG es r).filter (sEq s)=es.filter (isW r s):=by
 unfold jG;rw[List.filter_filter];refine List.filter_congr λx _=>?_;unfold sEq isW;by_cases h1:x.r=r<;>by_cases h2:x.s=s<;>simp[h1,h2]
theorem yI0 {X:List En} {s:ByteArray} {n:Nat} {x:En} (h:X[n]?=some x):sT ((X.take (n+1)).filter (sEq s)) none=if x.s=s then some (mA1 (sT ((X.take n).filter (sEq s)) none) x.c) else sT ((X.take n).filter (sEq s)) none:=by
 rw[bJ h,List.filter_append];by_cases e:x.s=s
 ·rw[if_pos e,List.filter_cons_of_pos (by simp[sEq,e]),Bh,rK0]
 ·rw[if_neg e,List.filter_cons_of_neg (by simp[sEq,e]),Bh,List.append_nil]
theorem jV0 {s t:ByteArray} (h:¬s=t):(s.toList==t.toList)=false/\¬s.toList=t.toList:=by
 have:¬s.toList=t.toList:=λe=>h (iV e)
 exact⟨by simpa using this,this⟩
theorem xK0 (p:List cY) (m:Mx) (es:List En) (db:Nat) (r s:ByteArray) (w:World) (ag:bT p m es) (hr:r.size<=140737488355328) (ac:fA w db p m es) :
  Calls Tryz.prog 40 #[.pointer (some ⟨db,0,none⟩),.agg #[.string r,.string s]] w λe w'=>e=.returned (.int .i64 (uS es r s))/\aB w w':=by
 have CE:=λ(u:World) (hu:aB w u)=>Aa (sS0 p m es db r u ag hr (ac.grows hu))
 have HC:Hid ((sT ((jG es r).filter (sEq s)) none).getD 8000=uS es r s):=by
  show _=_
  rw[tW0];rfl
 have vr:(jG es r).length<=20000:=Ae (Ar _ _) ag.len;obtain⟨X,hX⟩:=exq (jG es r);rw[<-hX]at CE HC vr;obtain⟨W1,bh⟩:=exq (w.alloc (.cells #[.string r,.string s] 80));have qp:aB w W1:=by rw[bh];exact aB.alloc _ _
 have b0:W1.cell? ⟨w.heap.size,0,none⟩=some (.string r):=by rw[bh];exact aT w _ _ (0,0) 0 _ rfl
 have b1:W1.cell? ⟨w.heap.size,1,none⟩=some (.string s):=by rw[bh];exact aT w _ _ (0,0) 1 _ rfl
 obtain⟨bb,j5⟩:=exq w.heap.size;rw[<-j5]at b0 b1;clear hX ag ac;go_enter Tryz.func40,Tryz.ntmps40
 go_wp2_with fail
 rw[<-bh,<-j5];clear bh j5;refine(CE W1 qp).out.mono ?_;rintro e w1 ⟨v1,rfl,ij,ai⟩;obtain⟨a1,c1,rfl,_,_,cw⟩:=ij.at_ dK0.len;have HAT:=Aa cw;have b1':=ai.cell b1;have G1:=Aa (qp.tr ai);clear CE ij cw ai qp b0 b1;go_wp2_with fail
 go_loopw [5,6,14] (λl k i wr=>∃(n:Nat) (o:Option Int),n<=X.length/\i=.int .i64 n/\Hid (sT ((X.take n).filter (sEq s)) none=o)/\l=.int .i64 (o.getD 8000)/\k=.bool o.isSome/\Hid (aB w1 wr)) (λ_ _ i _=>X.length-(intOf i).toNat)
 case atStart=>exact⟨0,none,Ap _,rfl,rfl,rfl,rfl,aB.refl _⟩
 case round =>
  obtain⟨n,o,hn,rfl,hO,rfl,rfl,hg⟩:=hrel;by_cases af:n<X.length
  ·obtain⟨⟨xr,xs,xl,xt,xc⟩,hx⟩:∃x,X[n]?=some x:=⟨_,Ad af⟩
   obtain⟨ba,oa,rfl,bz⟩:=(HAT.out.grows hg.out).get (aJ af);have c0:wr.cell? ⟨ba,oa+n*5,none⟩=some (.string xr):=bz n _ hx 0 _ rfl;have c1:wr.cell? ⟨ba,oa+n*5+1,none⟩=some (.string xs):=bz n _ hx 1 _ rfl;have c2:wr.cell? ⟨ba,oa+n*5+2,none⟩=some (.int .i64 xl):=bz n _ hx 2 _ rfl;have c3:wr.cell? ⟨ba,oa+n*5+3,none⟩=some (.int .i64 xt):=bz n _ hx 3 _ rfl;have c4:wr.cell? ⟨ba,oa+n*5+4,none⟩=some (.int .i64 xc):=bz n _ hx 4 _ rfl;have om:(n:Int)<X.length:=by omega
   have HS:=Aa (yI0 (s:=s) hx);have z1:∀a,(wr.alloc a).cell? ⟨bb,1,none⟩=some (.string s):=λa=>(hg.out.al a).cell b1';clear bz hx;by_cases e:xs=s
   ·have HS2:Hid (sT ((X.take (n+1)).filter (sEq s)) none=some (mA1 o xc)):=by
     have:=HS.out
     rw[if_pos e,hO.out]at this;exact this
    subst e;clear HS hO
    cases o with
    | none =>
     simp only[mA1]at HS2;simp only[Option.getD_none,Option.isSome_none];go_wp2_with fail
     go_roundw
     case rel=>exact⟨n+1,some xc,af,by go_num,HS2,rfl,rfl,hg.out.al _⟩
     case measure=>simp[intOf];omega
    | some q =>
     simp only[mA1]at HS2;simp only[Option.getD_some,Option.isSome_some];by_cases hq:xc<q
     ·rw[if_pos hq]at HS2
      go_wp2_with fail
      go_roundw
      case rel=>exact⟨n+1,some xc,af,by go_num,HS2,rfl,rfl,hg.out.al _⟩
      case measure=>simp[intOf];omega
     ·rw[if_neg hq]at HS2
      go_wp2_with fail
      go_roundw
      case rel=>exact⟨n+1,some q,af,by go_num,HS2,rfl,rfl,hg.out.al _⟩
      case measure=>simp[intOf];omega
   ·have HS2:Hid (sT ((X.take (n+1)).filter (sEq s)) none=o):=by
     have:=HS.out
     rw[if_neg e,hO.out]at this;exact this
    obtain⟨n1,n2⟩:=jV0 e;clear HS hO e;go_wp2_with fail
    go_roundw
    case rel=>exact⟨n+1,o,af,by go_num,HS2,rfl,rfl,hg.out.al _⟩
    case measure=>simp[intOf];omega
  ·obtain rfl:n=X.length:=by omega
   have om:¬((X.length:Nat):Int)<X.length:=by omega
   have ug:=hO.out;rw[Aj]at ug;have HR:Hid (o.getD 8000=uS es r s):=by rw[<-ug];exact HC.out
   have HG:=Aa (G1.out.tr hg.out);clear hO ug hg HC;go_wp2_with fail
   go_ret;exact⟨by rw[HR.out];rfl,HG.out⟩
def rL (w:World) (mb N:Nat) (cs:List Cnt):Prop:=∃D:DataW Unit,w.ownsMap Tryz.prog 9 (plainElem Tryz.prog 3) mb N D/\yM0 cs D
theorem rL.grows {w w':World} {mb N:Nat} {cs:List Cnt} (h:rL w mb N cs) (hg:aB w w'):rL w' mb N cs:=let ⟨D,h1,h2⟩:=h; ⟨D,aZ h1 hg,h2⟩
theorem rL.lt {w:World} {mb N:Nat} {cs:List Cnt} (h:rL w mb N cs):mb<w.heap.size:=let ⟨_,h1,_⟩:=h; h1.lt
theorem rL.kept {w w':World} {mb N b:Nat} {cs:List Cnt} (h:rL w mb N cs) (hg:w.grownBy w' (some b)) (ak:mb≠b):rL w' mb N cs:=let ⟨D,h1,h2⟩:=h; ⟨D,h1.kept hg (λe=>ak (Option.some.inj e)),h2⟩
theorem xS0 (w:World):(zeroValue 3).run Tryz.prog w=.ok (.int .i64 0) w:=by kernel_rfl
theorem rL.look {w:World} {mb N:Nat} {cs:List Cnt} (h:rL w mb N cs) {k:ByteArray} (hk:k.size<=maxLen) :
  (Instr.lookup 75 (.map (some mb)) (.string k) false).run Tryz.prog w=.ok (.int .i64 (pS cs k)) w:=by
 obtain⟨D,h1,h2⟩:=h;obtain⟨c,i6,ac,_⟩:=h1.lookup_int (Maps.string_keyed Tryz.underlying9) Tryz.underlying75 Tryz.underlying3 (xS0 w) (WideMaps.keyOf_string_mk Tryz.underlying9 hk);rw[h2.at_ k hk]at ac
 have:c=pS cs k:=by simpa using ac.symm
 rw[i6,this]
theorem zT0 {k:Int} {a b:ByteArray} (h:okK k a b=true):(keyK k a b).size<=400:=by
 have:=(mT h).2.2
 rw[<-eE,mR0];simp only[Ah,Am,eE];omega
theorem pG0 (k:Int) (a b:ByteArray) (bb mb N:Nat) (cs:List Cnt) (w:World) (he:Env w) (ha:a.size<=4611686018427387000) (hb:b.size<=4611686018427387000) (h0:w.cell? ⟨bb,0,none⟩=some (.map (some mb))) (hc:rL w mb N cs) :
  Calls Tryz.prog 33 #[.int .i64 k,.string a,.string b,.pointer (some ⟨bb,0,none⟩)] w λe w'=>e=.returned (.int .i64 (bonK cs k a b))/\aB w w':=by
 have CM:=Aa (jJ0 k a b w ha hb he);unfold bN0 at CM;clear he
 cases ag:okK k a b with
 | true =>
  have hz:=zT0 ag;have HB:Hid (bonK cs k a b=pS cs (keyK k a b)):=by unfold bonK;rw[if_pos ag];rfl
  rw[ag]at CM;rw[HB.out];simp only[if_true]at CM;generalize keyK k a b=key at CM hz ⊢;clear ag HB;go_enter Tryz.func33,Tryz.ntmps33
  go_wp2_with fail
  refine CM.out.mono ?_;rintro e w1 ⟨rfl,ai⟩;have h1:=ai.cell h0;have hl:=(hc.grows ai).look (k:=key) (by unfold maxLen;omega);clear CM hc h0;go_wp2_with fail
  go_ret;exact⟨rfl,ai⟩
 | false =>
  have HB:bonK cs k a b=0:=by unfold bonK;rw[ag];rfl
  rw[ag]at CM;rw[HB];clear ag HB hc;go_enter Tryz.func33,Tryz.ntmps33
  go_wp2_with fail
  refine CM.out.mono ?_;rintro e w1 ⟨rfl,ai⟩;clear CM h0;go_wp2_with fail
  go_ret;exact⟨rfl,ai⟩
structure iS (w:World) (fb mb N:Nat) (V:List (ByteArray×ByteArray)):Prop where
 box:w.cell? ⟨fb,0,none⟩=some (.map (some mb))
 own:∃D:DataW Unit,w.ownsMap Tryz.prog 80 (plainElem (H:=Unit) Tryz.prog 4) mb N D/\dM1 V D
theorem iS.grows {w w':World} {fb mb N:Nat} {V:List (ByteArray×ByteArray)} (h:iS w fb mb N V) (hg:aB w w'):iS w' fb mb N V:=⟨hg.cell h.box,let ⟨D,h1,h2⟩:=h.own; ⟨D,aZ h1 hg,h2⟩⟩
theorem iS.mono {w:World} {fb mb N M:Nat} {V:List (ByteArray×ByteArray)} (h:iS w fb mb N V) (hm:N<=M):iS w fb mb M V:=⟨h.box,let ⟨D,h1,h2⟩:=h.own; ⟨D,h1.mono hm,h2⟩⟩
def kN1 (p:ByteArray) (V:List (ByteArray×ByteArray)) (x:ByteArray×ByteArray):List (ByteArray×ByteArray):=if qR x.1 p then stF V x else V
theorem yC {p:ByteArray} {V:List (ByteArray×ByteArray)} {x y:ByteArray×ByteArray}:y∈kN1 p V x↔y∈V\/(qR x.1 p=true/\y=x):=by
 unfold kN1;split
 ·rename_i h
  rw[dY0];simp[h]
 ·rename_i h
  simp[h]
theorem xY (r s p:ByteArray) (pb fb mb N:Nat) (V:List (ByteArray×ByteArray)) (w:World) (hr:r.size<=maxLen) (hs:s.size<=maxLen) (hp:w.cell? ⟨pb,0,none⟩=some (.string p)) (h:iS w fb mb N V) (hN:N<maxLen) :
  Calls Tryz.prog 35 #[.string r,.string s,.pointer (some ⟨pb,0,none⟩),.pointer (some ⟨fb,0,none⟩)] w λe w'=>e=.returned (.tuple #[])/\iS w' fb mb (N+1) (kN1 p V (r,s))/\w.grownBy w' (some mb):=by
 have CP:=λ(u:World)=>Aa (gF1 r p u);have hpf:Lib.hasPrefix r.data.toList p.data.toList=qR r p:=rfl;rw[hpf]at CP;obtain⟨c0,D,aa,hM⟩:=h
 have hfb:mb≠fb:=by
  rintro rfl;obtain⟨es,clock,hb,_⟩:=aa;simp[World.cell?,hb]at c0
 have d8:Go.keyOf Tryz.prog 80 (.agg #[.string r,.string s])=some (klA r s):=oH1 hr hs;have HF:Hid (iS w fb mb (N+1) V):=⟨c0,D,aa.mono (Bn _),hM⟩;have HM:=Aa (hM.store (x:=(r,s)) ⟨hr,hs⟩);clear hM
 cases hb:qR r p with
 | true =>
  have ha:kN1 p V (r,s)=stF V (r,s):=by unfold kN1;rw[if_pos hb]
  rw[ha];rw[hb]at CP;clear hb ha;go_enter Tryz.func35,Tryz.ntmps35
  go_wp2_with fail
  refine(CP _).out.mono ?_;rintro e w1 ⟨rfl,rfl⟩;clear CP;go_wp2_with (first|(at_mapUpdate;refine wpList_mapUpdate_own _ rfl _ _ _ 78 rfl 80 4 pM0 Tryz.underlying78 (plainElem (H:=Unit) Tryz.prog 4) mb N D rfl (aZ aa (by repeat' (first|exact aB.refl _|exact Ag _|(simp;done)|refine aB.al ?_ _|refine aB.set ?_ ?_ _))) hN _ _ (klA r s) rfl rfl d8 _ [] (plainElem_bool Tryz.underlying4 true) ?_;intro w3 av fh))
  exact bodyPost_end (v:=.tuple #[]) (by simp[results,Tryz.results35,go_sem]) rfl ⟨rfl,⟨fh.cell c0 (by simpa using Ne.symm hfb),_,av,HM.out⟩,fh⟩
 | false =>
  have ha:kN1 p V (r,s)=V:=by unfold kN1;rw[if_neg (by simp[hb])]
  rw[ha];rw[hb]at CP;clear hb ha;go_enter Tryz.func35,Tryz.ntmps35
  go_wp2_with fail
  refine(CP _).out.mono ?_;rintro e w1 ⟨rfl,rfl⟩;clear CP;go_wp2_with fail
  exact bodyPost_end (v:=.tuple #[]) (by simp[results,Tryz.results35,go_sem]) rfl ⟨rfl,HF.out,⟨rfl,rfl,rfl,Ag _,λ_ _ _=>rfl⟩⟩
end
section
open Go Go.RowKit
theorem bT.len_r {p:List cY} {m:Mx} {es:List En} (h:bT p m es):∀x∈es,x.r.size<=256:=λx hx=>by
 obtain⟨j,hj⟩:=List.mem_iff_getElem?.1 (lZ hx)
 have:=h.okR.len _ (Ac (lO hj))
 rwa [eE]at this
theorem bT.len_s {p:List cY} {m:Mx} {es:List En} (h:bT p m es):∀x∈es,x.s.size<=256:=λx hx=>by
 obtain⟨j,hj⟩:=List.mem_iff_getElem?.1 (jN hx)
 have:=h.okS.len _ (Ac (lO hj))
 rwa [eE]at this
end
section
open Go Go.RowKit Go.Shelf
attribute [local go_sem] aO aM
theorem pB1 (n:Nat) (W:World) (hn:n<=1099511627776):(Instr.makeSlice 42 (.int .i64 0) (.int .i64 n)).run Tryz.prog W=.ok (.slice (some ⟨W.heap.size,0,none⟩) 0 n) (W.alloc (.cells (madeCells #[.string ⟨#[]⟩,.string ⟨#[]⟩,.int .i64 0] (n*3)) 49)):=by
 have hi:(Tryz.prog.info? 49).map (λi=>(i.zero,i.size,i.bytes))=some (some (.agg #[.string ⟨#[]⟩,.string ⟨#[]⟩,.int .i64 0]),3,40):=by kernel_rfl
 cases hj:Tryz.prog.info? 49 with
 | none=>rw[hj]at hi;cases hi
 | some i =>
  rw[hj]at hi;simp only[Option.map_some,Option.some.injEq,Prod.mk.injEq]at hi;obtain⟨h2,h3,h4⟩:=hi;have h:=run_make (P:=Tryz.prog) W 42 49 i (.agg #[.string ⟨#[]⟩,.string ⟨#[]⟩,.int .i64 0]) Tryz.underlying42 hj h2 .i64 .i64 0 n (by omega) (by omega) (by rw[h4];omega) (by omega);rw[Bb,h3]at h;exact h
theorem nD1 {w:World} {n:Nat} (hn:n<=1099511627776):aU (w.alloc (.cells (madeCells #[.string ⟨#[]⟩,.string ⟨#[]⟩,.int .i64 0] (n*3)) 49)) w.heap.size 49 3 gI (.slice (some ⟨w.heap.size,0,none⟩) 0 n) []:=by
 refine⟨rfl,Or.inr ⟨w.heap.size,n,madeCells #[.string ⟨#[]⟩,.string ⟨#[]⟩,.int .i64 0] (n*3),rfl,Ag _,?_,Ap _,by unfold maxLen;omega,by rw[size_madeCells],?_⟩⟩
 ·show (w.heap.push _)[w.heap.size]?=_
  simp
 ·rfl
theorem wO0 {α:Type} {w:World} {base:Nat} {e:TypeId} {k:Nat} {enc:α->List Value} (hk:∀x,(enc x).length=k) {a:Option Addr} {n m c:Nat} {xs:List α} (h:aU w base e k enc (.slice a n c) xs) (hm:m<=xs.length):aU w base e k enc (.slice a m c) (xs.take m):=by
 have hl:(xs.take m).length=m:=by rw[Af];omega
 have hf:∀ys:List α,(ys.flatMap enc).length=ys.length*k:=λys=>by
  induction ys with
  | nil=>simp
  | cons y ys ih=>rw[List.flatMap_cons,Am,hk,ih,Ah,Bk,Nat.add_comm]
 obtain⟨_,h2⟩:=h;refine⟨hf _,?_⟩;rw[hl];rcases h2 with ⟨h3,h4⟩|⟨g,cap,ct,h3,h4,h5,h6,h7,h8,h9⟩
 ·obtain rfl:m=0:=by omega
  injection h3 with e1 e2 e3
  subst e1 e3;exact Or.inl ⟨rfl,rfl⟩
 ·injection h3 with e1 e2 e3
  subst e1 e3;refine Or.inr ⟨g,c,ct,rfl,h4,h5,by omega,h7,h8,?_⟩
  have e:ct.toList.take (m*k)=(ct.toList.take (xs.length*k)).take (m*k):=by
   rw[List.take_take,Nat.min_eq_left (At k hm)]
  rw[e,h9]
  have hx:xs.flatMap enc=(xs.take m).flatMap enc++(xs.drop m).flatMap enc:=by
   rw[<-List.flatMap_append,List.take_append_drop]
  rw[hx,List.take_left' (by rw[hf,hl])]
theorem iS.kept {w w':World} {fb mb N b:Nat} {V:List Wd} (h:iS w fb mb N V) (hg:w.grownBy w' (some b)) (h1:fb≠b) (h2:mb≠b):iS w' fb mb N V:=⟨bB hg h.box (λe=>h1 (Option.some.inj e)),let ⟨D,k1,k2⟩:=h.own; ⟨D,k1.kept hg (λe=>h2 (Option.some.inj e)),k2⟩⟩
theorem nG0 {p:List cY} {m:Mx} {es:List En} (h:bT p m es) (r s:ByteArray):0<=uS es r s/\uS es r s<=30000:=by
 rcases aB0 es r s with ⟨⟨x,hx,hc⟩,_⟩|⟨_,h2⟩
 ·have:=(h.num x hx.1).2.2.2.2
  omega
 ·omega
theorem tA0 {p:List cY} {m:Mx} {es:List En} (h:bT p m es) {cs:List Cnt} {pf pv r s:ByteArray} (hw:uK es cs pf pv r s):r.size<=1048576/\s.size<=1048576:=by
 have he:∀x∈es,x.r=r/\x.s=s->r.size<=1048576/\s.size<=1048576:=λx hx e=>by
  have h1:=h.len_r x hx;have h2:=h.len_s x hx;rw[e.1]at h1;rw[e.2]at h2;omega
 rcases hw.why with ⟨_,x,hx,e⟩|⟨h1,_⟩|⟨⟨x,hx,e⟩,_⟩
 ·exact he x (List.mem_filter.1 (Au hx)).1 e
 ·obtain⟨c,_,hk⟩:=yA h1
  have:=(mT hk.1).2.2
  omega
 ·exact he x hx e
def sW (es:List En) (cs:List Cnt) (p v:ByteArray) (ar:Int):List Gs:=if Bo (bl p) then fI es cs p v ar else []
def iQ1 (L:List Gs) (w:World) (e:Ending) (w':World):Prop:=∃v,e=.returned v/\aU w' w.heap.size 49 3 gI v L/\aB w w'
structure oM1 where
 b:Bool
theorem dJ1 {s:ByteArray} {kl:Lit} (h:Go.keyOf Tryz.prog 9 (.string s)=some kl):s.size<=maxLen/\kl=.string s.data.toList:=by
 by_cases hs:s.size<=maxLen
 ·have:=WideMaps.keyOf_string_mk Tryz.underlying9 hs
  rw[h]at this;exact⟨hs,Option.some.inj this⟩
 ·rw[Go.keyOf_string Tryz.underlying9]at h
  simp[mapKey,Tryz.underlying9,hs]at h
theorem xR0 {n:Int} (h1:0<=n) (h2:n<=1048576):WfI n:=by
 unfold WfI;exact WalkArith.wf_i64 (by omega)
theorem wfZ:WfI 0:=by unfold WfI; decide
theorem fY {a b:Nat} (h:a≠b):some a≠some b:=λe=>h (Option.some.inj e)
theorem hT1 (p:List cY) (m:Mx) (es:List En) (db:Nat) (cs:List Cnt) (ca:Option Addr) (cc:Nat) (pf pv:ByteArray) (ar:Int) (w:World) (he:Env w) (hdk:bT p m es) (ac:fA w db p m es)
  (cr:cs.length<=1048576) (zr:∀c∈cs,uM0 c) (hcz:∀c∈cs,c.k.size<=1048576) (bz:aG w ca 2 (cs.map kC)) (hpf:pf.size<=1048576) (hpv:pv.size<=1048576) (hv:Bo pf.data.toList=true) (h1:1<=ar) :
  Calls Tryz.prog 16 #[.pointer (some ⟨db,0,none⟩),.slice ca cs.length cc,.string pf,.string pv,.int .i64 ar] w (iQ1 (fI es cs pf pv ar) w):=by
 have HE:=Aa he;have HDK:=Aa hdk;have HD:=Aa ac;have HCO:=Aa zr;have HCZ:=Aa hcz;have HCA:=Aa bz;have h1m:¬ar<1:=by omega
 have hpe:(qR ⟨#[]⟩ ⟨#[]⟩=true):=rfl;obtain⟨W1,bh⟩:=exq (w.alloc (.cells #[.string pf] 9));obtain⟨pb,ei⟩:=exq w.heap.size;have qp:aB w W1:=by rw[bh];exact aB.alloc _ _
 have k7:W1.cell? ⟨pb,0,none⟩=some (.string pf):=by rw[bh,ei];exact aT w _ _ (0,0) 0 _ rfl
 have CV:=Aa (uL pf W1 (by omega) (he.grows qp));rw[hv]at CV;have HPB:Hid (pb=w.heap.size):=ei;have qu:=@run_makeMap Tryz.prog;clear he hdk ac zr hcz bz hv hpe;go_enter Tryz.func16,Tryz.ntmps16
 go_wp2_with fail
 rw[<-bh,<-ei];clear bh ei;refine CV.out.mono ?_;rintro e w2 ⟨rfl,ae⟩;clear CV;have g2:=qp.tr ae;have k7:=ae.cell k7;have p9:pb<w2.heap.size:=Ab w2 _ k7;obtain⟨mb,tp⟩:=exq w2.heap.size;obtain⟨W3,iy⟩:=exq (w2.alloc (.map #[] 0));have gW3:aB w2 W3:=by rw[iy];exact aB.alloc _ _
 have zW3:W3.heap.size=mb+1:=by rw[iy,tp];simp
 have ft:W3.ownsMap Tryz.prog 9 (plainElem (H:=Unit) Tryz.prog 3) mb 0 (.map []):=by rw[iy,tp];exact Aw _ _ _ _
 obtain⟨W4,o7⟩:=exq (W3.alloc (.cells #[.map (some mb)] 75));have gW4:aB W3 W4:=by rw[o7];exact aB.alloc _ _
 have k11:W4.cell? ⟨mb+1,0,none⟩=some (.map (some mb)):=by rw[o7,<-zW3];exact aT W3 _ _ (0,0) 0 _ rfl
 have zW4:W4.heap.size=mb+2:=by rw[o7];simp[zW3]
 have qe:rL W4 mb 0 []:=⟨_,aZ ft gW4,dE1⟩;have k7:=(gW3.tr gW4).cell k7;have zj:pb<mb:=by rw[tp];exact p9
 have hwm:w.heap.size<=mb:=by have:=g2.size;omega
 have HG4:=Aa (g2.tr (gW3.tr gW4));have HWM:=Aa hwm;have HZ4:=Aa zW4;have HW34:=Aa (And.intro iy o7);have HMB:=Aa tp;clear ae g2 gW3 zW3 ft gW4 iy o7 zW4 tp hwm p9 qp;go_wp2_with fail
 rw[<-HMB.out,<-HW34.out.1,<-HW34.out.2];clear HMB HW34 qu;go_loopw [46] (λi wr=>∃n:Nat,n<=cs.length/\i=.int .i64 n/\Hid (rL wr mb n (cs.take n))/\Hid (GK mb W4 wr)) (λi _=>cs.length-(intOf i).toNat)
 case atStart=>exact⟨0,Ap _,rfl,qe,GK.refl _ _⟩
 case round =>
  obtain⟨n,hn,rfl,hB,hg⟩:=hrel;clear qe;by_cases af:n<cs.length
  ·obtain⟨⟨ck,cv⟩,hx⟩:∃x,cs[n]?=some x:=⟨_,Ad af⟩
   have om:(n:Int)<cs.length:=by omega
   have o0:=hg.out.base HG4.out HWM.out;obtain⟨ba,oa,rfl,jo⟩:=(HCA.out.grows o0).get (aJ af);have c0:wr.cell? ⟨ba,oa+n*2,none⟩=some (.string ck):=jo n _ hx 0 _ rfl;have c1:wr.cell? ⟨ba,oa+n*2+1,none⟩=some (.int .i64 cv):=jo n _ hx 1 _ rfl;have vo:ck.size<=maxLen:=(HCO.out _ (Ac hx)).k;have hvv:WfI cv:=(HCO.out _ (Ac hx)).v;have HTK:Hid (cs.take (n+1)=cs.take n++[⟨ck,cv⟩]):=bJ hx;have ah6:=bB hg.out k11 (fY (show mb+1≠mb by omega))
   have af4:∀a,(wr.alloc a).cell? ⟨mb+1,0,none⟩=some (.map (some mb)):=λa=>(aB.alloc _ _).cell ah6;have d8:Go.keyOf Tryz.prog 9 (.string ck)=some (.string ck.data.toList):=WideMaps.keyOf_string_mk Tryz.underlying9 vo;obtain⟨D,aa,hM⟩:=hB.out;have HM:=Aa hM;clear jo hx hB;by_cases hk:∃x∈cs.take n,x.k=ck
   ·have hh:Maps.has D (.string ck.data.toList)=true:=(hM.has ck vo).2 hk
    have HM2:Hid (yM0 (cs.take (n+1)) D):=by
     have:=hM.skip (c:=⟨ck,cv⟩) hk
     rw[<-HTK.out]at this;exact this
    clear hM hk vo hvv;go_wp2_with (first|(at_lookup;refine wpList_lookup_own_ok _ rfl _ _ 75 rfl 9 3 (Maps.string_keyed Tryz.underlying9) Tryz.underlying75 (plainElem (H:=Unit) Tryz.prog 3) (xS0 _) (.lit (.int .i64 0)) [] (plainElem_int Tryz.underlying3 wfZ) mb n D rfl (aZ aa (by repeat' (first|exact aB.refl _|exact Ag _|(simp;done)|refine aB.al ?_ _|refine aB.set ?_ ?_ _))) _ (.string ck.data.toList) rfl d8 ?_;intro v ps hv;obtain⟨c9,rfl,_⟩:=plainElem_int_inv Tryz.underlying3 hv;rw[hh];clear hv))
    go_roundw
    case rel=>exact⟨n+1,af,by go_num,⟨D,(aZ aa (aB.alloc _ _)).mono (Bn _),HM2.out⟩,GK.trans _ _ _ _ hg.out (GK.of (aB.alloc _ _))⟩
    case measure=>simp[intOf];omega
   ·have hh:Maps.has D (.string ck.data.toList)=false:=by
     cases hb:Maps.has D (.string ck.data.toList) with
     | false=>rfl
     | true=>exact absurd ((hM.has ck vo).1 hb) hk
    have HM2:Hid (yM0 (cs.take (n+1)) (D.put (.string ck.data.toList) (.lit (.int .i64 (bonI cv))))):=by
     have:=hM.store (c:=⟨ck,cv⟩) vo hk
     rw[<-HTK.out]at this;exact this
    have hwf:WfI (bonI cv):=by
     have:=uC cv
     exact xR0 (by omega) (by omega)
    have CB:=λ(u:World)=>Aa (iC0 cv u hvv);have se:n<maxLen:=by unfold maxLen;omega
    generalize bonI cv=bv at HM2 hwf CB;have y11:(Ax (wr.alloc (.cells #[.string ck,.int .i64 cv] 58))).cell? ⟨mb+1,0,none⟩=some (.map (some mb)):=(aB.drew _).cell (af4 _);have y0:(Ax (wr.alloc (.cells #[.string ck,.int .i64 cv] 58))).cell? ⟨wr.heap.size,0,none⟩=some (.string ck):=(aB.drew _).cell (aT wr _ _ (0,0) 0 _ rfl);have y1:(Ax (wr.alloc (.cells #[.string ck,.int .i64 cv] 58))).cell? ⟨wr.heap.size,1,none⟩=some (.int .i64 cv):=(aB.drew _).cell (aT wr _ _ (0,0) 1 _ rfl);clear hM hk vo hvv;go_wp2_with (first|(at_lookup;refine wpList_lookup_own_ok _ rfl _ _ 75 rfl 9 3 (Maps.string_keyed Tryz.underlying9) Tryz.underlying75 (plainElem (H:=Unit) Tryz.prog 3) (xS0 _) (.lit (.int .i64 0)) [] (plainElem_int Tryz.underlying3 wfZ) mb n D rfl (aZ aa (by repeat' (first|exact aB.refl _|exact Ag _|(simp;done)|refine aB.al ?_ _|refine aB.set ?_ ?_ _))) _ (.string ck.data.toList) rfl d8 ?_;intro v ps hv;obtain⟨c9,rfl,_⟩:=plainElem_int_inv Tryz.underlying3 hv;rw[hh];clear hv))
    refine oV 6 (bE 6 []) (by kernel_rfl) (λd _ _ _ _ h=>by cases d<;>exact h) ?_
    obtain⟨WA,hWA⟩:=exq (Ax (wr.alloc (.cells #[.string ck,.int .i64 cv] 58)));rw[<-hWA]at y11 y0 y1 ⊢;have gWA:aB wr WA:=by rw[hWA];exact(aB.alloc _ _).dr
    have z11:∀x:Ext aB WA,x.u.cell? ⟨mb+1,0,none⟩=some (.map (some mb)):=aF y11;have z0:∀x:Ext aB WA,x.u.cell? ⟨wr.heap.size,0,none⟩=some (.string ck):=aF y0;have z1:∀x:Ext aB WA,x.u.cell? ⟨wr.heap.size,1,none⟩=some (.int .i64 cv):=aF y1;clear hWA af4;iterate 5 (refine aH rfl (λK hK=>?_);go_simp;refine hK _ ?_;clear hK K)
    refine aH rfl (λK hK=>?_);go_simp;apply Exists.intro
    refine⟨λx=>?_,hK _ ?_⟩
    ·go_at_call 23;exact(CB x.u).out
    clear hK K;refine bN ?_;simp only[List.drop_succ_cons,List.drop_zero];have ah:=aZ aa gWA;clear z11 z0 z1 y11 y0 y1 CB aa;go_wp2_with (at_mapUpdate;refine wpList_mapUpdate_own _ rfl _ _ _ 75 rfl 9 3 (Maps.string_keyed Tryz.underlying9) Tryz.underlying75 _ mb n D rfl ah se _ _ (.string ck.data.toList) rfl rfl d8 _ [] (plainElem_int Tryz.underlying3 hwf) ?_;intro w3 av fh)
    have jh:Hid (rL w3 mb (n+1) (cs.take (n+1))):=⟨_,av,HM2.out⟩;have HG3:=Aa (GK.trans _ _ _ _ hg.out (GK.trans _ _ _ _ (GK.of (b:=mb) gWA) fh));go_roundw
    case rel=>exact⟨n+1,af,by go_num,jh,HG3⟩
    case measure=>simp[intOf];omega
  ·obtain rfl:n=cs.length:=by omega
   have om:¬((cs.length:Nat):Int)<cs.length:=by omega
   have qg:=hB.out;rw[Aj]at qg;obtain⟨wl,rfl⟩:=exq wr;have k7l:=bB hg.out k7 (fY (show pb≠mb by omega))
   have ade:=bB hg.out k11 (fY (show mb+1≠mb by omega))
   have k7r:∀a b,((wl.alloc a).alloc b).cell? ⟨pb,0,none⟩=some (.string pf):=λa b=>((aB.alloc wl a).al b).cell k7l;have qu:=@run_makeMap Tryz.prog;obtain⟨fm,hfm⟩:=exq wl.heap.size;obtain⟨W5,pu⟩:=exq (wl.alloc (.map #[] 0));have gW5:aB wl W5:=by rw[pu];exact aB.alloc _ _
   have zW5:W5.heap.size=fm+1:=by rw[pu,hfm];simp
   have ft:W5.ownsMap Tryz.prog 80 (plainElem (H:=Unit) Tryz.prog 4) fm 0 (.map []):=by rw[pu,hfm];exact Aw _ _ _ _
   obtain⟨W0,dh⟩:=exq (W5.alloc (.cells #[.map (some fm)] 78));have gW0:aB W5 W0:=by rw[dh];exact aB.alloc _ _
   have k17:W0.cell? ⟨fm+1,0,none⟩=some (.map (some fm)):=by rw[dh,<-zW5];exact aT W5 _ _ (0,0) 0 _ rfl
   have zW0:W0.heap.size=fm+2:=by rw[dh];simp[zW5]
   have hF0:iS W0 (fm+1) fm 0 []:=⟨k17,_,aZ ft gW0,gG1⟩;have gl0:=gW5.tr gW0;have HB:=Aa (qg.grows gl0);have k7:=gl0.cell k7l;have k11:=gl0.cell ade;have hmf:mb+1<fm:=by rw[hfm];exact Ab wl _ ade
   have HG0:=Aa ((hg.out.base HG4.out HWM.out).tr gl0);have HWF:Hid (w.heap.size<=fm):=by have:=HWM.out;show _<=_;omega
   have HZ0:=Aa zW0;have HFM:=Aa (And.intro hfm (And.intro pu dh));clear hB qg hg k7l ade zW5 ft gW5 gW0 gl0 zW0 hfm pu dh;go_upto_if 70 with fail
   rw[<-HFM.out.1,<-HFM.out.2.1,<-HFM.out.2.2];clear HFM qu k7r;go_cut [] from 69 (λwx=>Hid (GK fm W0 wx)/\Hid (∃V,iS wx (fm+1) fm 200 V/\∀y,y∈V↔qR y.1 pf=true/\jG1 es pf y))
   case first =>
    by_cases rv:pf=⟨#[]⟩
    ·have e1:pf.toList=[]:=by rw[rv,Al]
     have e2:pf.toList.isEmpty=true:=by rw[e1];rfl
     have HV:Hid (∃V,iS W0 (fm+1) fm 200 V/\∀y,y∈V↔qR y.1 pf=true/\jG1 es pf y):=⟨[],hF0.mono (by omega),λy=>⟨λh=>(by cases h),λh=>absurd rv h.2.1⟩⟩;clear hF0 rv;simp only[e2,Bool.not_true];go_wp2_with fail
     go_meet
     exact⟨GK.refl _ _,HV⟩
    ·have e1:¬pf.toList=[]:=by rw[Al];exact λe=>rv (qY e)
     have e2:pf.toList.isEmpty=false:=by rw[Ao];exact e1
     have CU:=Aa (tK0 p m es db pf 200 W0 HDK.out (by omega) (HD.out.grows HG0.out));have vr:(jQ es pf 200).length<=200:=by unfold jQ;rw[Af];omega
     have HUN:Hid (∀y:Wd,jG1 es pf y↔∃x∈jQ es pf 200,(x.r,x.s)=y):=λy=>⟨λh=>h.2,λh=>⟨rv,h⟩⟩;have HXM:Hid (∀x∈jQ es pf 200,x∈es):=λx hx=>(List.mem_filter.1 (Au hx)).1;obtain⟨X,hX⟩:=exq (jQ es pf 200);rw[<-hX]at CU vr HUN HXM;clear hX rv;simp only[e2,Bool.not_false];go_wp2_with fail
     refine CU.out.mono ?_;rintro e w5 ⟨v5,rfl,ub,bi⟩;obtain⟨a5,c5,rfl,_,_,ji⟩:=ub.at_ dK0.len
     have il:∀x,a5=some x->x.block≠fm:=λx hx=>by
      have h1:=aX ub x.block (by rw[hx];rfl);have h4:=HZ0.out;omega
     have HAT:=Aa ji;have HF5:=Aa (hF0.grows bi);have HG5:=Aa bi;have k75:=bi.cell k7;clear CU ub ji bi hF0 e1 e2;go_wp2_with fail
     go_loopw [75] (λj wr=>∃k:Nat,k<=X.length/\j=.int .i64 k/\Hid (GK fm w5 wr)/\Hid (∃V,iS wr (fm+1) fm k V/\∀y:Wd,y∈V↔qR y.1 pf=true/\∃x∈X.take k,(x.r,x.s)=y)) (λj _=>X.length-(intOf j).toNat)
     case atStart=>exact⟨0,Ap _,rfl,GK.refl _ _,[],HF5.out,λy=>by simp⟩
     case round =>
      obtain⟨k,hk,rfl,hg,hV⟩:=hrel;by_cases af:k<X.length
      ·obtain⟨⟨xr,xs,xl,xt,xc⟩,hx⟩:∃x,X[k]?=some x:=⟨_,Ad af⟩
       obtain⟨ba,oa,rfl,jo⟩:=(hg.out.at_ HAT.out il).get (aJ af);have cz:(k:Int)<X.length:=by omega
       have c0:wr.cell? ⟨ba,oa+k*5,none⟩=some (.string xr):=jo k _ hx 0 _ rfl;have c1:wr.cell? ⟨ba,oa+k*5+1,none⟩=some (.string xs):=jo k _ hx 1 _ rfl;have c2:wr.cell? ⟨ba,oa+k*5+2,none⟩=some (.int .i64 xl):=jo k _ hx 2 _ rfl;have c3:wr.cell? ⟨ba,oa+k*5+3,none⟩=some (.int .i64 xt):=jo k _ hx 3 _ rfl;have c4:wr.cell? ⟨ba,oa+k*5+4,none⟩=some (.int .i64 xc):=jo k _ hx 4 _ rfl;have uh:=HXM.out _ (Ac hx);have hrz:=HDK.out.len_r _ uh;have dm:=HDK.out.len_s _ uh;simp only at hrz dm;have HTK:Hid (X.take (k+1)=X.take k++[⟨xr,xs,xl,xt,xc⟩]):=bJ hx;obtain⟨V,hF,jq⟩:=hV.out;have HV2:=Aa jq;have kk:=bB hg.out k75 (fY (show pb≠fm by omega))
       have CA:=Aa (xY xr xs pf pb (fm+1) fm k V (wr.alloc (.cells #[.string xr,.string xs,.int .i64 xl,.int .i64 xt,.int .i64 xc] 62)) (by unfold maxLen;omega) (by unfold maxLen;omega) ((aB.alloc _ _).cell kk) (hF.grows (aB.alloc _ _)) (by unfold maxLen;omega));have HGA:=Aa (GK.trans _ _ _ _ hg.out (GK.of (b:=fm) (aB.alloc wr (.cells #[.string xr,.string xs,.int .i64 xl,.int .i64 xt,.int .i64 xc] 62))));clear jo hx uh hrz dm hV jq hF;go_wp2_with fail
       refine CA.out.mono ?_;rintro e w8 ⟨rfl,tf,fq⟩;have HG8:=Aa (GK.trans _ _ _ _ HGA.out fq)
       have HV3:Hid (∃V,iS w8 (fm+1) fm (k+1) V/\∀y:Wd,y∈V↔qR y.1 pf=true/\∃x∈X.take (k+1),(x.r,x.s)=y):=⟨_,tf,λy=>by
        rw[yC,HV2.out y,HTK.out];simp only[Bi,Ay];constructor
        ·rintro(⟨h1,x,hx,e⟩|⟨h1,rfl⟩)
         ·exact⟨h1,x,Or.inl hx,e⟩
         ·exact⟨h1,_,Or.inr rfl,rfl⟩
        ·rintro⟨h1,x,hx|rfl,e⟩
         ·exact Or.inl ⟨h1,x,hx,e⟩
         ·exact Or.inr ⟨by rw[<-e]at h1;exact h1,e.symm⟩⟩
       clear CA tf fq HGA HV2 HTK kk;go_wp2_with fail
       go_roundw
       case rel=>exact⟨k+1,af,by go_num,HG8,HV3⟩
       case measure=>simp[intOf];omega
      ·obtain rfl:k=X.length:=by omega
       have cz:¬((X.length:Nat):Int)<X.length:=by omega
       obtain⟨V,hF,jq⟩:=hV.out;rw[Aj]at jq;have HV3:Hid (∃V,iS wr (fm+1) fm 200 V/\∀y,y∈V↔qR y.1 pf=true/\jG1 es pf y):=⟨V,hF.mono vr,λy=>by rw[jq y,HUN.out y]⟩;have HG8:=Aa (GK.trans _ _ _ _ (GK.of (b:=fm) HG5.out) hg.out);clear hV jq hF;go_wp2_with fail
       go_meet
       exact⟨HG8,HV3⟩
   case rest =>
    obtain⟨hgc,hVc⟩:=hcut;obtain⟨wo,rfl⟩:=exq wc;have af5:=bB hgc.out k11 (fY (show mb+1≠fm by omega))
    have k7o:=bB hgc.out k7 (fY (show pb≠fm by omega))
    have vd:=hgc.out.base HG0.out HWF.out;have hzo:fm+2<=wo.heap.size:=by have:=hgc.out.size;have:=HZ0.out;omega
    obtain⟨D,aa,hMC⟩:=HB.out.kept hgc.out (show mb≠fm by omega)
    have HMC:=Aa hMC;have HB2:Hid (rL wo mb cs.length cs):=⟨D,aa,hMC⟩;have ack:=aa.size_le;have HCK:Hid (∀c∈cs,c.k.size<=maxLen):=λc hc=>(HCO.out c hc).k;obtain⟨KK,hKK⟩:∃KK:Nat,20000<=KK/\KK<=100000:=⟨20000,by omega,by omega⟩;have HGO:=Aa vd;clear hMC hF0 vd k11 k7 HB;go_wp2_with (first|(at_range;refine wpList_range_own _ rfl _ 75 rfl 9 3 (Maps.string_keyed Tryz.underlying9) Tryz.underlying75 _ mb cs.length D rfl aa ?_;intro w0 ol et j8))
    have gU0:aB wo w0:=(aB.refl wo).grown et (λq hq=>by cases hq);go_loopw [] (λwr=>∃(left:Lit->Bool) (io:Nat),wr.ranges Tryz.prog 9 (plainElem (H:=Unit) Tryz.prog 3) mb wo.heap.size cs.length D left io/\io<=cs.length/\Hid (GK fm wo wr)/\Hid (∃V,iS wr (fm+1) fm (200+(cs.length-io)*KK) V/\aI0 es cs pf pv (nZ0 cs left) V)) (λwr=>wr.rangeLeft mb wo.heap.size)
    case atStart =>
     obtain⟨V,hF,jq⟩:=hVc.out;exact⟨_,_,ol,ack,GK.of gU0,V,(hF.grows gU0).mono (Nat.le_add_right _ _),aI0.start jq (rY0 HMC.out HCK.out)⟩
    case round =>
     obtain⟨left,io,g9,abo,hgu,hV⟩:=hrel;clear ol et j8 gU0 hVc;go_wp2_with (first|(at_next;refine wpList_next_ranges _ rfl _ rfl 9 (Maps.string_keyed Tryz.underlying9) (plainElem (H:=Unit) Tryz.prog 3) (λx:ByteArray => .string x) (Value.int .i64) (λkey kl hk=>by obtain⟨s,hs⟩:=Maps.keyOf_string_inv Tryz.underlying9 hk;exact⟨s,hs⟩) (λv y hv=>by obtain⟨c,hc,_⟩:=plainElem_int_inv Tryz.underlying3 hv;exact⟨c,hc⟩) mb wo.heap.size cs.length D left io rfl g9 ?_ ?_))
     ·intro lu qv
      obtain⟨V,hF,gp⟩:=hV.out;have HFIN:Hid (∀r t,(r,t)∈V↔uK es cs pf pv r t):=λr t=>gp.done qv r t;obtain⟨wp,rfl⟩:=exq wr;have hgp:=hgu.out.base HGO.out (Ae HWF.out (by omega));have p11:=bB hgu.out af5 (fY (show mb+1≠fm by omega))
      have HBP:=Aa (HB2.out.kept hgu.out (show mb≠fm by omega))
      have ab9:=hF.box;obtain⟨D2,ah,hMF⟩:=hF.own;have HMF:=Aa hMF;have hml:=λty=>ah.len (t:=78) Tryz.underlying78 ty;rw[hMF.size]at hml
      have hVl:V.length<=104857700000:=by
       have h1:=ah.size_le;rw[hMF.size]at h1;have h2:(cs.length-io)*KK<=1048576*100000:=Bj (by omega) (by omega);omega
      obtain⟨N,hN⟩:=exq (200+(cs.length-io)*KK);rw[<-hN]at ah;have kh:=λ(u:World)=>pB1 V.length u (by omega);obtain⟨pw,p9⟩:=exq wp.heap.size;obtain⟨Wm,hWm⟩:=exq (wp.alloc (.cells (madeCells #[.string ⟨#[]⟩,.string ⟨#[]⟩,.int .i64 0] (V.length*3)) 49));have gWm:aB wp Wm:=by rw[hWm];exact aB.alloc _ _
      have hO0:aU Wm pw 49 3 gI (.slice (some ⟨pw,0,none⟩) 0 V.length) []:=by rw[hWm,p9];exact nD1 (by omega)
      have aj5:=gWm.cell ab9;have ah7:∀a,(wp.alloc a).cell? ⟨fm+1,0,none⟩=some (.map (some fm)):=λa=>(aB.alloc wp a).cell ab9;have HGM:=Aa hgp;have ad7:=aZ ah gWm;have hzm:Wm.heap.size=pw+1:=by rw[hWm,p9];simp
      have HZM:=Aa hzm;have hwp:w.heap.size<=pw:=by rw[p9];exact hgp.size
      have HWM2:=Aa (And.intro p9 hWm);have HWP:Hid (wp.heap.size=pw):=p9.symm
      have hlm:fm+1<pw/\mb+1<pw:=by
       rw[p9];have h1:=Ab wp _ ab9;have h2:=Ab wp _ p11;exact⟨h1,h2⟩
      clear hzm hV gp hF hMF hN p9 hWm ah hgp lu qv g9;go_upto_region 34 with fail
      rw[<-HWM2.out.1,<-HWM2.out.2];clear HWM2 kh ah7 ab9 hml;go_wp2_with (first|(at_range;refine wpList_range_own _ rfl _ 78 rfl 80 4 pM0 Tryz.underlying78 _ fm N D2 rfl ad7 ?_;intro w0 ol et j8))
      go_simp;have gU0:aB Wm w0:=(aB.refl Wm).grown et (λq hq=>by cases hq);go_loopw [29] (λv wr=>∃(left:Lit->Bool) (io:Nat) (ys:List Wd),wr.ranges Tryz.prog 80 (plainElem (H:=Unit) Tryz.prog 4) fm Wm.heap.size N D2 left io/\ys.length+io<=104857700000/\Hid (nC0 V left ys)/\aU wr pw 49 3 gI v (ys.map (toG es cs pv))/\Hid (aB wp wr)) (λ_ wr=>wr.rangeLeft fm Wm.heap.size)
      case atStart=>exact⟨_,_,[],ol,by simp only[Aq];have:=HMF.out.size;omega,HMF.out.start,hO0.grows gU0,gWm.tr gU0⟩
      case round =>
       obtain⟨left,io,ys,g9,dg,hCo,dd,jb⟩:=hrel;clear hO0;go_wp2_with (first|(at_next;refine wpList_next_ranges _ rfl _ rfl 80 pM0 (plainElem (H:=Unit) Tryz.prog 4) (λx:ByteArray×ByteArray => .agg #[.string x.1,.string x.2]) (λc:oM1=>Value.bool c.b) (λkey kl hk=>by obtain⟨r,s,_,_,hx,_⟩:=oU0 hk;exact⟨(r,s),hx⟩) (λv y hv=>by obtain⟨c,hc,_⟩:=lG Tryz.underlying4 hv;exact⟨⟨c⟩,hc⟩) fm Wm.heap.size N D2 left io rfl g9 ?_ ?_))
       ·intro lu qv
        have hp:=hCo.out.perm HMF.out qv;have gv:=hp.length_eq;obtain⟨w9,rfl⟩:=exq wr;have hyl:(ys.map (toG es cs pv)).length=ys.length:=Ak _;have CS:=Aa (yL0 w9 pw _ (ys.map (toG es cs pv)) _ _ (λx=>iT1 HFIN.out hp x) (wE0 hCo.out.nd) dd (by omega));obtain⟨a9,c9,rfl,nu,hc2,_⟩:=dd.at_ eN1.len;have HB9:Hid (∀q,(Value.slice a9 (ys.map (toG es cs pv)).length c9).ownBlock=some q->pw<=q):=λq hq=>aX dd q hq;rw[hyl]at nu CS HB9 ⊢;obtain⟨M,hM⟩:∃M:Nat,M=min (min ar 60).toNat ys.length:=⟨_,rfl⟩;have HMQ:=Aa hM;have vz:M<=ys.length:=by omega
        have HMM:Hid (∀G:List Gs,G.length=ys.length->G.take M=G.take (min ar 60).toNat):=λG hG=>by rw[hM,<-hG,List.take_eq_take_iff];omega
        clear hM gv hp lu qv hCo dd g9;go_wp2_with fail
        refine CS.out.mono ?_;rintro e w10 ⟨rfl,G,hG,oh,ed,qw⟩;obtain rfl:cB0 es cs pf pv=G:=(mW es cs pf pv).unique hG
        have HP:Hid (∀K:Nat,K=M->aU w10 w.heap.size 49 3 gI (.slice a9 K c9) (fI es cs pf pv ar)/\aB w w10):=by
         rintro K rfl;refine⟨?_,(HGM.out.tr jb.out).grown qw (λq hq=>Ae hwp (HB9.out q hq))⟩
         have:=wO0 (enc:=gI) (k:=3) (λ_=>rfl) (ed.base hwp) (m:=K) (by rw[oh];exact vz)
         rw[HMM.out _ oh]at this;exact this
        clear oh ed qw CS hG HMM hyl;go_wp2_with fail
        all_goals
         go_ret;have hM3:=HMQ.out;exact⟨_,rfl,HP.out _ (by omega)⟩
       ·intro r t c kl yd yp w2 d9 d8 ma hv ac ff az ae iq hen
        obtain⟨r',t',hrm,htm,ex,rfl⟩:=oU0 d8;obtain⟨rfl,rfl⟩:r=r'/\t=t':=by simpa [nN1] using ex
        have dp:(r,t)∈V:=(HMF.out.has r t hrm htm).1 (Maps.has_true_of_atKey ac);have HC:=Aa (hCo.out.step HMF.out dp ma);have se:=yT dd g9.owns;have om:=vZ dd g9;have ed:=rT dd ae (Or.inr (Ne.symm om));have fj:aB wp w2:=jb.out.grown ae (λq hq=>by cases hq;exact gWm.size);have aj6:ys.length+1+d9<=104857700000:=by omega
        have dm:r.size<=1048576/\t.size<=1048576:=by
         have hw:=(HFIN.out r t).1 dp;exact tA0 HDK.out hw
        obtain⟨wb,hwb⟩:=exq w2.heap.size;obtain⟨Wb,rk⟩:=exq (w2.alloc (.cells #[.string r,.string t] 80));have gb:aB w2 Wb:=by rw[rk];exact aB.alloc _ _
        have b0:Wb.drew.cell? ⟨wb,0,none⟩=some (.string r):=by rw[rk,hwb];exact(aB.drew _).cell (aT w2 _ _ (0,0) 0 _ rfl)
        have b1:Wb.drew.cell? ⟨wb,1,none⟩=some (.string t):=by rw[rk,hwb];exact(aB.drew _).cell (aT w2 _ _ (0,0) 1 _ rfl)
        have gm:aB wp Wb.drew:=(fj.tr gb).dr;have C1:=λ(q:Int) (x y:ByteArray) (hx:x.size<=1048576) (hy:y.size<=1048576) (u:World) (hu:aB wp u)=>Aa (pG0 q x y (mb+1) mb cs.length cs u (HE.out.grows (HGM.out.tr hu)) (by omega) (by omega) (hu.cell p11) (HBP.out.grows hu));have C3:=λ(u:World) (hu:aB wp u)=>Aa (xK0 p m es db r t u HDK.out (by omega) (HD.out.grows (HGM.out.tr hu)));have HTG:Hid (toG es cs pv (r,t)=⟨r,t,bonK cs 1 r t+bonK cs 2 pv t-uS es r t/10⟩):=rfl;have fi:=mB cs 1 r t;have dn:=mB cs 2 pv t;have jr:=nG0 HDK.out r t;have C1a:=C1 1 r t dm.1 dm.2;have C1b:=C1 2 pv t hpv dm.2;obtain⟨q1,hq1⟩:=exq (bonK cs 1 r t);obtain⟨q2,mm⟩:=exq (bonK cs 2 pv t);obtain⟨q3,hq3⟩:=exq (uS es r t);rw[<-hq1]at fi C1a HTG;rw[<-mm]at dn C1b HTG;rw[<-hq3]at jr C3 HTG;have hd:q3.tdiv 10=q3/10:=Int.tdiv_eq_ediv_of_nonneg jr.1;have vj:IntKind.i64.wrap (q1+q2)=q1+q2:=by simp[Bc,Bd,Av];omega
        have pq:IntKind.i64.wrap (q3/10)=q3/10:=by simp[Bc,Bd,Av];omega
        have hw3:IntKind.i64.wrap (q1+q2-q3/10)=q1+q2-q3/10:=by simp[Bc,Bd,Av];omega
        have HWB:=Aa (And.intro rk hwb);clear d8 ex ac hv ma iq dp hCo dd hq1 mm hq3 rk hwb C1 hrm htm;go_wp2_with fail
        rw[<-HWB.out.1,<-HWB.out.2];have z0:∀x:Ext aB Wb.drew,x.u.cell? ⟨wb,0,none⟩=some (.string r):=aF b0;have z1:∀x:Ext aB Wb.drew,x.u.cell? ⟨wb,1,none⟩=some (.string t):=aF b1;refine bH (nU [0,1,2,3,4,6,7,8,9,12,13,5,10,11,14,15,16,17] [5,10,14]) (by kernel_rfl) (λd _ _ _ _ h=>by cases d<;>exact h) ?_
        iterate 11 (refine aH rfl (λK hK=>?_);go_simp;refine hK _ ?_;clear hK K)
        refine bG rfl rfl (λK hK=>?_);go_simp;refine((C1a Wb.drew gm).out).mono ?_;rintro e w3 ⟨rfl,aw⟩;refine⟨aw,hK _ _ ?_⟩;clear hK K;refine bG rfl rfl (λK hK=>?_);go_simp;refine((C1b w3 (gm.tr aw)).out).mono ?_;rintro e w4 ⟨rfl,cu⟩;refine⟨cu,hK _ _ ?_⟩;clear hK K;iterate 1 (refine aH rfl (λK hK=>?_);go_simp;refine hK _ ?_;clear hK K)
        refine bG rfl rfl (λK hK=>?_);go_simp;refine((C3 w4 (gm.tr (aw.tr cu))).out).mono ?_;rintro e w5 ⟨rfl,bi⟩;refine⟨bi,hK _ _ ?_⟩;clear hK K;iterate 3 (refine aH rfl (λK hK=>?_);go_simp;refine hK _ ?_;clear hK K)
        refine bN ?_;have g25:=gb.dr.tr (aw.tr (cu.tr bi));have gp5:=fj.tr g25;have d0:=(aw.tr (cu.tr bi)).cell b0;have d1:=(aw.tr (cu.tr bi)).cell b1;have nf:=ed.grows g25;have oo:=dW ff g25
        have ah8:pw<=w5.heap.size:=by
         have h1:=gWm.size;have h2:=HZM.out;have h3:=g25.size;have h4:Wm.heap.size<=w2.heap.size:=Ae (Nat.le_of_lt g9.lt) ae.size;omega
        clear z0 z1 C1a C1b C3 vj pq hw3 hd b0 b1 ed ff;go_wp2_with (first|(at_builtin;refine pX0 eN1 rfl _ _ rfl pw _ (ys.map (toG es cs pv)) ⟨r,t,q1+q2-q3/10⟩ rfl nf (aB.refl _) _ 1 (by simp) _ rfl rfl (by rw[Ak];omega) ah8 ?_;intro v6 w6 mh ah9 aia))
        have xx:=(oo.alloc _).kept ah9 se om;have nc:=aia wp gp5 (Nat.le_of_eq HWP.out);have ix:w6.rangeLeft fm Wm.heap.size<wr.rangeLeft fm Wm.heap.size:=by rw[xx.left_eq,g9.left_eq];exact az
        have zg:aU w6 pw 49 3 gI v6 ((ys++[(r,t)]).map (toG es cs pv)):=by
         rw[Bg,List.map_singleton,HTG.out];exact mh
        clear g9 oo mh nf;go_roundw
        case rel=>exact⟨_,d9,_,xx,by simp only[Am,Ah,Aq];omega,HC,zg,nc⟩
        case measure=>exact ix
     ·intro k c kl yd yp w2 d9 d8 ma hv ac ff az ae iq hen
      obtain⟨vo,rfl⟩:=dJ1 d8;obtain⟨c',ec,ez,yx⟩:=plainElem_int_inv Tryz.underlying3 hv;obtain rfl:c=c':=by simpa using ec
      obtain rfl:yd=.lit (.int .i64 c):=(Prod.mk.inj ez).1;have dp:∃x∈cs,x.k=k:=(HMC.out.has k vo).1 (Maps.has_true_of_atKey ac)
      have hc:c=pS cs k:=by
       have:=HMC.out.at_ k vo
       rw[ac]at this;simpa using this
      have aib:k.size<=1048576:=by obtain⟨x,hx,rfl⟩:=dp;exact HCZ.out x hx
      have HC:=Aa hc;have HVS:Hid (∀k',nZ0 cs (λz=>left z && !z.sameKey (.string k.data.toList)) k'↔nZ0 cs left k'\/k'=k):=λk'=>cF1 dp k';have nh:d9<=cs.length:=by omega
      have HG2:Hid (GK fm wo w2):=World.grownBy.andThen hgu.out ae (λj hj=>by cases hj;exact Or.inl (Ag _));obtain⟨V,hF',gp⟩:=hV.out;have hF:=hF'.kept ae (show fm+1≠wo.heap.size by omega) (show fm≠wo.heap.size by omega)
      have hNN:200+(cs.length-io)*KK+20000<=200+(cs.length-d9)*KK/\(cs.length-io)*KK<=104857600000:=by
       have e1:((cs.length-io)+1)*KK<=(cs.length-d9)*KK:=At KK (by omega);have e2:(cs.length-io)*KK<=1048576*100000:=Bj (by omega) (by omega);rw[Bk]at e1;omega
      have CP:=Aa (tN0 k w2 aib (HE.out.grows (HG2.out.base HGO.out (Ae HWF.out (by omega)))));unfold yO at CP;obtain⟨⟨kd,a,b⟩,hP⟩:=exq (dR k);rw[<-hP]at CP;simp only at CP;have HP:Hid (dR k=(kd,a,b)):=hP.symm;clear hF' hV d8 ec ez ac hv ma yx hc dp iq hP;by_cases lu:c=0
      ·have hz:pS cs k=0:=by rw[<-HC.out];exact lu
       have HNO:=Aa (wT0 (es:=es) (pf:=pf) (pv:=pv) hz);subst lu;clear hz;go_wp2_with fail
       refine CP.out.mono ?_;rintro e w3 ⟨rfl,aw⟩;clear CP;go_wp2_with fail
       have HV3:Hid (∃V,iS w3 (fm+1) fm (200+(cs.length-d9)*KK) V/\aI0 es cs pf pv (nZ0 cs λz=>left z && !z.sameKey (.string k.data.toList)) V):=⟨_,(hF.grows aw).mono (by omega),aI0.same gp HVS.out HNO.out⟩;have HG3:Hid (GK fm wo w3):=GK.trans _ _ _ _ HG2.out (GK.of (b:=fm) aw);have eu:=dW ff aw;have ix:w3.rangeLeft mb wo.heap.size<wr.rangeLeft mb wo.heap.size:=by rw[eu.left_eq,g9.left_eq];exact az
       clear ff g9 hF gp;go_roundw
       case rel=>exact⟨_,d9,eu,nh,HG3,HV3⟩
       case measure=>exact ix
      ·have hcb:(c==0)=false:=by simpa using lu
       have h0:pS cs k≠0:=by rw[<-HC.out];exact lu
       have H0:=Aa h0;clear lu h0;by_cases h1:kd=1
       ·subst h1
        have HW:Hid (dR k=(1,a,b)):=HP.out
        have aj7:a.size<=400/\b.size<=400:=by
         have hk:kU k 1 a b:=mL.2 ⟨HW.out,by decide⟩
         have:=(mT hk.1).2.2
         omega
        go_wp2_with fail
        refine CP.out.mono ?_;rintro e w3 ⟨rfl,aw⟩;clear CP;have jz:=GK.trans _ _ _ _ HG2.out (GK.of (b:=fm) aw);have p7:=bB jz k7o (fY (show pb≠fm by omega))
        have p11:=bB jz af5 (fY (show mb+1≠fm by omega))
        by_cases rv:pf=⟨#[]⟩
        ·have e1:pf.toList=[]:=by rw[rv,Al]
         have e2:pf.toList.isEmpty=true:=by rw[e1];rfl
         have C1:=Aa (pG0 2 pv b (mb+1) mb cs.length cs w3 (HE.out.grows (jz.base HGO.out (Ae HWF.out (by omega)))) (by omega) (by omega) p11 (HB2.out.kept jz (show mb≠fm by omega)))
         have px:=mB cs 2 pv b;by_cases hq:0<bonK cs 2 pv b
         ·have HS:=Aa (λy=>lD0 (es:=es) (pf:=pf) (pv:=pv) H0.out HW.out (Or.inr hq) y)
          generalize bonK cs 2 pv b=q at C1 hq px;clear rv;go_wp2_with fail
          refine C1.out.mono ?_;rintro e w4 ⟨rfl,cu⟩;clear C1;have p7:=cu.cell p7;have CA:=Aa (xY a b pf pb (fm+1) fm _ V w4 (by unfold maxLen;omega) (by unfold maxLen;omega) p7 (hF.grows (aw.tr cu)) (by unfold maxLen;omega));have sv:=dW ff (aw.tr cu);have HG4':=Aa (GK.trans _ _ _ _ jz (GK.of (b:=fm) cu));clear p7 p11 jz;go_wp2_with fail
          refine CA.out.mono ?_;rintro e w5 ⟨rfl,hF5,bi⟩;clear CA;go_wp2_with fail
          have HV3:Hid (∃V,iS w5 (fm+1) fm (200+(cs.length-d9)*KK) V/\aI0 es cs pf pv (nZ0 cs λz=>left z && !z.sameKey (.string k.data.toList)) V):=⟨_,hF5.mono (by omega),gp.step HVS.out (λy=>by rw[yC,HS.out y];exact or_congr_right ⟨λh=>⟨h.2▸h.1,h.2⟩,λh=>⟨h.2▸h.1,h.2⟩⟩)⟩;have HG3:Hid (GK fm wo w5):=GK.trans _ _ _ _ HG4'.out bi;have eu:=sv.kept bi (fY (show mb≠fm by omega)) (fY (show wo.heap.size≠fm by omega))
          have ix:w5.rangeLeft mb wo.heap.size<wr.rangeLeft mb wo.heap.size:=by rw[eu.left_eq,g9.left_eq];exact az
          clear ff g9 hF gp;go_roundw
          case rel=>exact⟨_,d9,eu,nh,HG3,HV3⟩
          case measure=>exact ix
         ·have HNO:=Aa (mH0 (es:=es) (cs:=cs) (pf:=pf) (pv:=pv) HW.out (λh=>h.elim (λh=>h rv) hq))
          generalize bonK cs 2 pv b=q at C1 hq px;clear rv;go_wp2_with fail
          refine C1.out.mono ?_;rintro e w4 ⟨rfl,cu⟩;clear C1 p7 p11;go_wp2_with fail
          have HV3:Hid (∃V,iS w4 (fm+1) fm (200+(cs.length-d9)*KK) V/\aI0 es cs pf pv (nZ0 cs λz=>left z && !z.sameKey (.string k.data.toList)) V):=⟨_,(hF.grows (aw.tr cu)).mono (by omega),aI0.same gp HVS.out HNO.out⟩;have HG3:Hid (GK fm wo w4):=GK.trans _ _ _ _ HG2.out (GK.of (b:=fm) (aw.tr cu));have eu:=dW ff (aw.tr cu);have ix:w4.rangeLeft mb wo.heap.size<wr.rangeLeft mb wo.heap.size:=by rw[eu.left_eq,g9.left_eq];exact az
          clear ff g9 hF gp;go_roundw
          case rel=>exact⟨_,d9,eu,nh,HG3,HV3⟩
          case measure=>exact ix
        ·have e1:¬pf.toList=[]:=by rw[Al];exact λe=>rv (qY e)
         have e2:pf.toList.isEmpty=false:=by rw[Ao];exact e1
         have HS:=Aa (λy=>lD0 (es:=es) (pf:=pf) (pv:=pv) H0.out HW.out (Or.inl rv) y);have CA:=Aa (xY a b pf pb (fm+1) fm _ V w3 (by unfold maxLen;omega) (by unfold maxLen;omega) p7 (hF.grows aw) (by unfold maxLen;omega));have sv:=dW ff aw;have HG4':=Aa jz;clear rv jz;go_wp2_with fail
         refine CA.out.mono ?_;rintro e w5 ⟨rfl,hF5,bi⟩;clear CA p7 p11;go_wp2_with fail
         have HV3:Hid (∃V,iS w5 (fm+1) fm (200+(cs.length-d9)*KK) V/\aI0 es cs pf pv (nZ0 cs λz=>left z && !z.sameKey (.string k.data.toList)) V):=⟨_,hF5.mono (by omega),gp.step HVS.out (λy=>by rw[yC,HS.out y];exact or_congr_right ⟨λh=>⟨h.2▸h.1,h.2⟩,λh=>⟨h.2▸h.1,h.2⟩⟩)⟩;have HG3:Hid (GK fm wo w5):=GK.trans _ _ _ _ HG4'.out bi;have eu:=sv.kept bi (fY (show mb≠fm by omega)) (fY (show wo.heap.size≠fm by omega))
         have ix:w5.rangeLeft mb wo.heap.size<wr.rangeLeft mb wo.heap.size:=by rw[eu.left_eq,g9.left_eq];exact az
         clear ff g9 hF gp;go_roundw
         case rel=>exact⟨_,d9,eu,nh,HG3,HV3⟩
         case measure=>exact ix
       ·by_cases h2:kd=2/\a=pv
        ·obtain⟨rfl,h2⟩:=h2
         obtain rfl:pv=a:=h2.symm;have HW:Hid (dR k=(2,pv,b)):=HP.out
         have hbz:b.size<=400:=by
          have hk:kU k 2 pv b:=mL.2 ⟨HW.out,by decide⟩
          have:=(mT hk.1).2.2
          omega
         have HS:=Aa (λy=>bV1 (es:=es) (pf:=pf) H0.out HW.out y);go_wp2_with fail
         refine CP.out.mono ?_;rintro e w3 ⟨rfl,aw⟩;clear CP;have jz:=GK.trans _ _ _ _ HG2.out (GK.of (b:=fm) aw);have CO:=Aa (iR1 p m es db b w3 HDK.out (by omega) (HD.out.grows (jz.base HGO.out (Ae HWF.out (by omega)))));have vr:(ofL es b).length<=20000:=Ae (Ar _ _) HDK.out.len;have HXM:Hid (∀x∈ofL es b,x∈es):=λx hx=>(List.mem_filter.1 hx).1;obtain⟨X,hX⟩:=exq (ofL es b);rw[<-hX]at CO vr HXM HS;clear hX;go_wp2_with fail
         refine CO.out.mono ?_;rintro e w5 ⟨v5,rfl,ub,bi⟩;obtain⟨a5,c5,rfl,_,_,ji⟩:=ub.at_ dK0.len
         have il:∀x,a5=some x->x.block≠fm:=λx hx=>by
          have h1:=aX ub x.block (by rw[hx];rfl);have h2:=jz.size;omega
         have HAT:=Aa ji;have g5:=aw.tr bi;have HF5:=Aa (hF.grows g5);have adf:=GK.trans _ _ _ _ HG2.out (GK.of (b:=fm) g5);have k75:=bB adf k7o (fY (show pb≠fm by omega))
         have HG5:=Aa adf;have oo:=dW ff g5;clear CO ub ji bi g5 adf jz aw ff hF;go_wp2_with fail
         obtain⟨NN,hNE⟩:=exq (200+(cs.length-io)*KK);have hNB:NN+20000<=200+(cs.length-d9)*KK/\NN<=200000000000:=by omega
         rw[<-hNE]at HF5;clear hNE hNN;go_loopw [133] (λj wr=>∃n:Nat,n<=X.length/\j=.int .i64 n/\Hid (GK fm w5 wr)/\Hid (∃U,iS wr (fm+1) fm (NN+n) U/\∀y:Wd,y∈U↔y∈V\/(qR y.1 pf=true/\∃x∈X.take n,(x.r,x.s)=y))) (λj _=>X.length-(intOf j).toNat)
         case atStart=>exact⟨0,Ap _,rfl,GK.refl _ _,V,HF5.out,λy=>by simp⟩
         case round =>
          obtain⟨n,hn,rfl,hg,hU⟩:=hrel;by_cases af:n<X.length
          ·obtain⟨⟨xr,xs,xl,xt,xc⟩,hx⟩:∃x,X[n]?=some x:=⟨_,Ad af⟩
           obtain⟨ba,oa,rfl,jo⟩:=(hg.out.at_ HAT.out il).get (aJ af);have om:(n:Int)<X.length:=by omega
           have c0:wr.cell? ⟨ba,oa+n*5,none⟩=some (.string xr):=jo n _ hx 0 _ rfl;have c1:wr.cell? ⟨ba,oa+n*5+1,none⟩=some (.string xs):=jo n _ hx 1 _ rfl;have c2:wr.cell? ⟨ba,oa+n*5+2,none⟩=some (.int .i64 xl):=jo n _ hx 2 _ rfl;have c3:wr.cell? ⟨ba,oa+n*5+3,none⟩=some (.int .i64 xt):=jo n _ hx 3 _ rfl;have c4:wr.cell? ⟨ba,oa+n*5+4,none⟩=some (.int .i64 xc):=jo n _ hx 4 _ rfl;have uh:=HXM.out _ (Ac hx);have hrz:=HDK.out.len_r _ uh;have dm:=HDK.out.len_s _ uh;simp only at hrz dm;have HTK:Hid (X.take (n+1)=X.take n++[⟨xr,xs,xl,xt,xc⟩]):=bJ hx;obtain⟨U,hF,hU2⟩:=hU.out;have HU2:=Aa hU2;have kk:=bB hg.out k75 (fY (show pb≠fm by omega))
           have CA:=Aa (xY xr xs pf pb (fm+1) fm (NN+n) U (wr.alloc (.cells #[.string xr,.string xs,.int .i64 xl,.int .i64 xt,.int .i64 xc] 62)) (by unfold maxLen;omega) (by unfold maxLen;omega) ((aB.alloc _ _).cell kk) (hF.grows (aB.alloc _ _)) (by unfold maxLen;omega));have HGA:=Aa (GK.trans _ _ _ _ hg.out (GK.of (b:=fm) (aB.alloc wr (.cells #[.string xr,.string xs,.int .i64 xl,.int .i64 xt,.int .i64 xc] 62))));clear jo hx uh hrz dm hU hU2 hF;go_wp2_with fail
           refine CA.out.mono ?_;rintro e w8 ⟨rfl,tf,fq⟩;have HG8:=Aa (GK.trans _ _ _ _ HGA.out fq)
           have HV4:Hid (∃U,iS w8 (fm+1) fm (NN+(n+1)) U/\∀y:Wd,y∈U↔y∈V\/(qR y.1 pf=true/\∃x∈X.take (n+1),(x.r,x.s)=y)):=⟨_,tf,λy=>by
            rw[yC,HU2.out y,HTK.out,or_assoc];refine or_congr_right ?_;simp only[Bi,Ay];constructor
            ·rintro(⟨h1,x,hx,e⟩|⟨h1,rfl⟩)
             ·exact⟨h1,x,Or.inl hx,e⟩
             ·exact⟨h1,_,Or.inr rfl,rfl⟩
            ·rintro⟨h1,x,hx|rfl,e⟩
             ·exact Or.inl ⟨h1,x,hx,e⟩
             ·exact Or.inr ⟨by rw[<-e]at h1;exact h1,e.symm⟩⟩
           clear CA tf fq HGA HU2 HTK kk;go_wp2_with fail
           go_roundw
           case rel=>exact⟨n+1,af,by go_num,HG8,HV4⟩
           case measure=>simp[intOf];omega
          ·obtain rfl:n=X.length:=by omega
           have om:¬((X.length:Nat):Int)<X.length:=by omega
           obtain⟨U,hF,hU2⟩:=hU.out;rw[Aj]at hU2;have HU2:=Aa hU2;have HF6:=Aa hF;obtain⟨w6,rfl⟩:=exq wr;have xx:=oo.kept hg.out (fY (show mb≠fm by omega)) (fY (show wo.heap.size≠fm by omega))
           have HG6:=Aa (GK.trans _ _ _ _ HG5.out hg.out);clear hU hU2 hF oo HF5 hg;go_wp2_with fail
           have HV3:Hid (∃V,iS w6 (fm+1) fm (200+(cs.length-d9)*KK) V/\aI0 es cs pf pv (nZ0 cs λz=>left z && !z.sameKey (.string k.data.toList)) V):=⟨_,HF6.out.mono (by omega),gp.step HVS.out (λy=>by rw[HU2.out y,HS.out y])⟩;have HG3:Hid (GK fm wo w6):=HG6.out;have eu:=xx;have ix:w6.rangeLeft mb wo.heap.size<wr.rangeLeft mb wo.heap.size:=by rw[eu.left_eq,g9.left_eq];exact az
           clear xx g9 gp;go_roundw
           case rel=>exact⟨_,d9,eu,nh,HG3,HV3⟩
           case measure=>exact ix
        ·have HNO:=Aa (yY0 (es:=es) (cs:=cs) (pf:=pf) (pv:=pv) (k:=k) (by rw[HP.out];exact h1) (by rw[HP.out];exact h2))
         have fi:(kd==1)=false:=by simpa using h1
         go_wp2_with fail
         refine CP.out.mono ?_;rintro e w3 ⟨rfl,aw⟩;clear CP;by_cases h3:kd=2
         ·subst h3
          have h4:¬a=pv:=λe=>h2 ⟨rfl,e⟩;obtain⟨n1,n2⟩:=jV0 h4;clear h1 h2 h4 fi;go_wp2_with fail
          have HV3:Hid (∃V,iS w3 (fm+1) fm (200+(cs.length-d9)*KK) V/\aI0 es cs pf pv (nZ0 cs λz=>left z && !z.sameKey (.string k.data.toList)) V):=⟨_,(hF.grows aw).mono (by omega),aI0.same gp HVS.out HNO.out⟩;have HG3:Hid (GK fm wo w3):=GK.trans _ _ _ _ HG2.out (GK.of (b:=fm) aw);have eu:=dW ff aw;have ix:w3.rangeLeft mb wo.heap.size<wr.rangeLeft mb wo.heap.size:=by rw[eu.left_eq,g9.left_eq];exact az
          clear ff g9 hF gp;go_roundw
          case rel=>exact⟨_,d9,eu,nh,HG3,HV3⟩
          case measure=>exact ix
         ·have dn:(kd==2)=false:=by simpa using h3
          clear h1 h2 h3;go_wp2_with fail
          have HV3:Hid (∃V,iS w3 (fm+1) fm (200+(cs.length-d9)*KK) V/\aI0 es cs pf pv (nZ0 cs λz=>left z && !z.sameKey (.string k.data.toList)) V):=⟨_,(hF.grows aw).mono (by omega),aI0.same gp HVS.out HNO.out⟩;have HG3:Hid (GK fm wo w3):=GK.trans _ _ _ _ HG2.out (GK.of (b:=fm) aw);have eu:=dW ff aw;have ix:w3.rangeLeft mb wo.heap.size<wr.rangeLeft mb wo.heap.size:=by rw[eu.left_eq,g9.left_eq];exact az
          clear ff g9 hF gp;go_roundw
          case rel=>exact⟨_,d9,eu,nh,HG3,HV3⟩
          case measure=>exact ix
theorem pA1 {x:dC0} (hl:nY x=true) (ag:lS0 x):(∀y∈x.e,tS y)/\(∀y∈x.e,y.r.size<=1099511627776/\y.s.size<=1099511627776)/\(∀y∈x.p,y.name.size<=9223372036854775807):=by
 obtain⟨h1,h2,_⟩:=kE0 hl;exact⟨ag.e,λy hy=>by have:=h2 y hy;omega,λy hy=>by have:=h1 y hy;omega⟩
theorem aS1 (x:dC0) (A:gQ0) (w:World) (he:Env w) (ag:lS0 x) (hz:∀y∈x.e,y.r.size<=1099511627776/\y.s.size<=1099511627776) (ac:hH0 w A x) :
  Calls Tryz.prog 27 #[A.agg x] w (cZ x.p (dL0 x) x.e w):=by
 have ms:=hz;have xy:=ag;have HAT0:=ac;obtain⟨pa,pc,sa,sc,ea,ec⟩:=A;obtain⟨xp,xd,xs,xe⟩:=x;obtain⟨W0,dh⟩:=exq (w.alloc (.cells #[.slice pa xp.length pc,.int .i64 xd,.slice sa xs.length sc,.slice ea xe.length ec] 26));have et:aB w W0:=by rw[dh];exact aB.alloc _ _
 have er:=λj u h=>aT w #[.slice pa xp.length pc,.int .i64 xd,.slice sa xs.length sc,.slice ea xe.length ec] 26 (0,0) j u h;rw[<-dh]at er;have q0:=er 0 _ rfl;have q1:=er 1 _ rfl;have q2:=er 2 _ rfl;have q3:=er 3 _ rfl;have HQ:=Aa (And.intro q0 (And.intro q1 (And.intro q2 q3)));have HSA:=Aa (ac.grows et);have HG0:=Aa et;clear er;have CM:=Aa (rW0 ⟨xp,xd,xs,xe⟩ ⟨pa,pc,sa,sc,ea,ec⟩ W0.drew xy (HSA.out.grows (aB.drew W0)));have CB:=λ(W:World) (mv:Value) (h:aB W0 W) (hm:eR1 W mv (dL0 ⟨xp,xd,xs,xe⟩))=>Aa (sI0 xp mv (dL0 ⟨xp,xd,xs,xe⟩) xe pa ea pc ec W (he.grows (aB.trans _ _ _ HG0.out h)) (by have:=xy.lp;simp only at this;omega) xy.le xy.e ms (HSA.out.p.grows h) hm (HSA.out.e.grows h));obtain⟨SM,hSM⟩:=exq (dL0 ⟨xp,xd,xs,xe⟩);show Calls _ _ #[.agg #[.slice pa xp.length pc,.int .i64 xd,.slice sa xs.length sc,.slice ea xe.length ec]] _ (cZ xp (dL0 ⟨xp,xd,xs,xe⟩) xe w)
 rw[<-hSM]at CM CB ⊢;unfold gQ0.agg gQ0.cells at CM;simp only at CM;have z0:∀x:Ext aB W0.drew,x.u.cell? ⟨w.heap.size,0,none⟩=some (.slice pa xp.length pc):=aF ((aB.drew W0).cell q0);have z1:∀x:Ext aB W0.drew,x.u.cell? ⟨w.heap.size,1,none⟩=some (.int .i64 xd):=aF ((aB.drew W0).cell q1);have z2:∀x:Ext aB W0.drew,x.u.cell? ⟨w.heap.size,2,none⟩=some (.slice sa xs.length sc):=aF ((aB.drew W0).cell q2);have z3:∀x:Ext aB W0.drew,x.u.cell? ⟨w.heap.size,3,none⟩=some (.slice ea xe.length ec):=aF ((aB.drew W0).cell q3);clear hSM q0 q1 q2 q3 ac ag hz he ms xy HAT0 et;go_enter Tryz.func27,Tryz.ntmps27
 go_wp2_with fail
 rw[<-dh];clear dh;refine bH (nU [0,1,2,4,5,3,6,7,8,9,10] [3,6]) (by kernel_rfl) (λd _ _ _ _ h=>by cases d<;>exact h) ?_
 iterate 5 (refine aH rfl (λK hK=>?_);go_simp;refine hK _ ?_;clear hK K)
 clear z0 z1 z2 z3;refine bG rfl rfl (λK hK=>?_);go_simp;refine(CM.out).mono ?_;rintro e w1 ⟨mv,rfl,hm,ai⟩;refine⟨ai,hK _ _ ?_⟩;clear hK K;have hgW:=aB.trans _ _ _ HG0.out (aB.trans _ _ _ (aB.drew W0) ai);refine bG rfl rfl (λK hK=>?_);go_simp;refine((CB w1 mv (aB.trans _ _ _ (aB.drew W0) ai) hm).out).mono ?_;rintro e w2 ⟨ae,v,rfl,hv⟩;refine⟨ae,hK _ _ ?_⟩;clear hK K;iterate 4 (refine aH rfl (λK hK=>?_);go_simp;refine hK _ ?_;clear hK K)
 refine bN ?_;go_wp2_with fail
 go_ret2;exact⟨aB.trans _ _ _ hgW ae,_,rfl,hv.base hgW.size⟩
end
end Go.Proofs.YtjhajgffmnkocaaGreatDoor
