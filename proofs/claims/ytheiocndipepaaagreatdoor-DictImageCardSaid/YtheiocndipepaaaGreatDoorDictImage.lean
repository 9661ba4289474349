import Derived.Test.YtheiocndipepaaaGreatDoorKq29
import Derived.Test.YtheiocndipepaaaGreatDoorKq18
import Derived.Test.YtheiocndipepaaaGreatDoorIm19L
open Go.IntKind renaming signed → Aa,bits → Ab,min → Ac,max → Ad
namespace Go.Proofs.YtheiocndipepaaaGreatDoor
set_option maxRecDepth 100000
open Go Go.ChangeShapes Go.WideShapes Go.ChangeAt Go.RowKit Go.Shelf Go.Lib
open Go.ChangeMaps (open_string shut_string)
theorem nT0 (x:zB) (A:kQ) (i c:Int) (w:World) (he:Env w) (ah:sO x) (hi:(Lit.int .u16 i).wf=true) (hc:(Lit.int .u8 c).wf=true) (ac:mV w A x) :
  Calls Tryz.prog 3 #[A.agg x,.int .u16 i,.int .u8 c] w λe w'=>e=.returned (.bool true)/\Grows w w':=by
 have h1:0<=i/\i<=65535:=by
  simp[Lit.wf,Ac,Ad,Ab,Aa]at hi;omega
 have h2:0<=c/\c<=255:=by
  simp[Lit.wf,Ac,Ad,Ab,Aa]at hc;omega
 obtain⟨n,rfl⟩:∃n:Nat,i=n:=⟨i.toNat,by omega⟩;obtain⟨m,rfl⟩:∃m:Nat,c=m:=⟨c.toNat,by omega⟩;exact oM0 x A n m w he ah (by omega) (by omega) ac
theorem zC (H:Type) (enc:TypeId×Value->H) (W:World) (base:Nat) (args:Array Value) (ds gs:List (DataW H)) (before:List MemPlace)
  (ee:∀(j:Nat) t v,Tryz.f3.params[j]?=some t->args[j]?=some v->Value.okWide Tryz.prog W .any base t v)
  (hW:DataW.Whole enc Tryz.prog Tryz.f3.params.toList Rows.dictImageSpec.vars false W args.toList ds gs before)
  (hz:(DataW.weightsEach Tryz.prog (Tryz.f3.params.toList++(OpenSpec.ofChange Rows.dictImageSpec).bare.plain.varTypes Tryz.prog) (ds++gs)).all (· <= reachBytes)=true) (he:Env W) :
  Calls Tryz.prog 3 args W λe W'=>∃v,e=.returned v/\Rows.dictImageSpec.post enc Tryz.prog Tryz.f3 false true false false W args v W':=by
 have wg:=hW;obtain⟨p,q,hA0,hV,rfl,hfz,vf⟩:=hW;have hA:DataW.TrodAll enc Tryz.prog W 0 (λ_=>true) true Tryz.f3.params.toList args.toList ds p:=hA0;rw[Tryz.params3]at hA ee hz;obtain⟨v0,v1,v2,d0,d1,d2,p0,p1,p2,rfl,rfl,rfl,h0,h1,h2⟩:=trodAll_three hA;obtain⟨rfl,rfl⟩:=trodVars_none hV;obtain⟨x0,A0,rfl,tq,ok0,aes⟩:=zW (ee 0 _ v0 rfl rfl) h0 hz (j:=0) rfl rfl;obtain⟨x1,rfl,fe,hp1,ok1⟩:=open_int Tryz.underlying27 (ee 1 _ v1 rfl rfl) h1;obtain⟨x2,rfl,jb,pr,ok2⟩:=open_int Tryz.underlying5 (ee 2 _ v2 rfl rfl) h2;refine(nT0 x0 A0 x1 x2 W he ok0 ok1 ok2 tq).mono λe W' ⟨hr,hg⟩=>?_;subst hr;have ae:∀x∈p0++p1++p2,x.block<W.heap.size:=λx hx=>by simpa using wg.lt x (by simpa using hx)
 refine⟨_,rfl,_,_,_,[],p0++(p1++(p2)),[],wg,?_,?_,?_,hg.frame _,λh=>by cases h⟩
 ·exact trodAll_mk1 (shut_bool Tryz.underlying4 _)
 ·exact trodAll_mk3 (Below.trod pM (by kernel_rfl) (of_decide_eq_true (by kernel_rfl)) h0 hg (λx hx=>ae x (by simp[hx]))) (Below.trod pM (by kernel_rfl) (of_decide_eq_true (by kernel_rfl)) h1 hg (λx hx=>ae x (by simp[hx]))) (Below.trod pM (by kernel_rfl) (of_decide_eq_true (by kernel_rfl)) h2 hg (λx hx=>ae x (by simp[hx])))
 ·rfl
theorem bI0 (os:Os) {H:Type} (enc:TypeId×Value->H) :
  (OpenSpec.ofChange Rows.dictImageSpec).preRow enc Tryz.prog Tryz.f3 Rows.dictImageRow.domain false Rows.dictImageRow.laid ((dW os).forCall (λ_ _=>0) ⟨#[],#[.agg #[.slice none 0 0,.int .i64 0,.slice none 0 0,.slice none 0 0],.int .u16 0,.int .u8 0],[]⟩).memory #[.agg #[.slice none 0 0,.int .i64 0,.slice none 0 0,.slice none 0 0],.int .u16 0,.int .u8 0]:=by
 have hw:(DataW.whole enc Tryz.prog ((dW os).forCall (λ_ _=>0) ⟨#[],#[.agg #[.slice none 0 0,.int .i64 0,.slice none 0 0,.slice none 0 0],.int .u16 0,.int .u8 0],[]⟩).memory Tryz.f3.params.toList (OpenSpec.ofChange Rows.dictImageSpec).vars false #[.agg #[.slice none 0 0,.int .i64 0,.slice none 0 0,.slice none 0 0],.int .u16 0,.int .u8 0].toList 8).map (λx=>(x.1,x.2.1)) =
   some ([.agg [.nil,.lit (.int .i64 0),.nil,.nil],.lit (.int .u16 0),.lit (.int .u8 0)],[]):=by kernel_rfl
 obtain⟨⟨y1,y2,y3⟩,hx,ga⟩:=Option.map_eq_some_iff.1 hw;simp only[Prod.mk.injEq]at ga;obtain⟨rfl,rfl⟩:=ga;exact OpenSpec.preRow_of_cond 8 hx (by kernel_rfl) (λk hk=>by cases hk) (by kernel_rfl) (vG os _)
theorem dT0 (os:Os) (started:os.Started) (H:Type) (enc:TypeId×Value->H) (F:Stop.Interp) :
  ReturnsInHanded {} Tryz.checked os 3 .any ((OpenSpec.ofChange Rows.dictImageSpec).preRow enc Tryz.prog Tryz.f3 Rows.dictImageRow.domain false Rows.dictImageRow.laid) (((OpenSpec.ofChange Rows.dictImageSpec).at F).post enc Tryz.prog Tryz.f3 false true false false):=by
 refine returnsInHanded_of_row (C:=Tryz.checked) (s:=OpenSpec.ofChange Rows.dictImageSpec) own started (by kernel_rfl) Tryz.func3
  (witness_row_atRef (enc:=enc) (C:=Tryz.checked) false (dW os) #[.agg #[.slice none 0 0,.int .i64 0,.slice none 0 0,.slice none 0 0],.int .u16 0,.int .u8 0] rfl (by kernel_rfl) (by kernel_rfl) (by kernel_rfl) (bI0 os enc)) ?_
 intro W base args ds gs before ee hW _ _ hz hL hS _;exact zC H enc W base args ds gs before ee hW hz (mB0 hL hS)
theorem wC0:laidOutB Tryz.prog=true:=by kernel_rfl
theorem tX0:mapsRowed Tryz.prog=true:=by kernel_rfl
theorem vU0:(Rows.dictImageRow.inPlace==Tryz.prog.inPlace 3)=true:=by kernel_rfl
theorem xT0:(Rows.dictImageRow.unfollowed==Tryz.prog.unfollowed 3)=true:=by kernel_rfl
theorem uF0:(Rows.dictImageRow.recurses==Tryz.prog.recurses 3)=true:=by kernel_rfl
theorem wP0:(Rows.dictImageRow.named==Tryz.prog.varsNamed 3)=true:=by kernel_rfl
theorem iE0:joinedFacts Tryz.prog 3 Tryz.f3 (OpenSpec.ofChange Rows.dictImageSpec).bare Rows.dictImageRow=true:=by
 unfold joinedFacts;rw[wC0,tX0,vU0,xT0,uF0,wP0];kernel_rfl
theorem jO0:Rows.DictImageSaid :=
 OpenClaim.holds_of_cond 3 Tryz.f3 rfl rfl rfl rfl rfl rfl rfl ⟨rfl,rfl,rfl,rfl,rfl⟩ rfl rfl rfl rfl rfl (by kernel_rfl) Tryz.func3 iE0
  (of_decide_eq_true (by kernel_rfl)) (by unfold Func.isWrapper;first|(rw[if_pos (by decide +kernel)];kernel_rfl)|(rw[if_neg (by decide +kernel)];exact⟨rfl,rfl⟩))
  (λos started H enc _ F=>by rw[OpenClaim.pre_eq_preRow];exact dT0 os started H enc F)
theorem gT0 (f : FuncId) (fn : Func) (hf : Tryz.pinned.checked.prog.funcNamed "henkan/henkanlaw19.DictImage" = some f) (hfn : Tryz.pinned.checked.prog.funcs[f]? = some fn) :
  true=Tryz.pinned.checked.prog.looks []/\∀(j:Nat) t,fn.params[j]?=some t->Tryz.pinned.checked.prog.wantsStandIn t=false:=by
 obtain rfl : f = 3 := Option.some.inj ((show Tryz.prog.funcNamed "henkan/henkanlaw19.DictImage" = some 3 by kernel_rfl).symm.trans hf) |>.symm
 obtain rfl:fn=Tryz.f3:=(Option.some.inj (Tryz.func3.symm.trans hfn)).symm;refine⟨by kernel_rfl,λj t ht=>?_⟩;rw[Tryz.params3]at ht;have hm:t=26\/t=27\/t=5:=by simpa using Array.mem_of_getElem? ht
 rcases hm with rfl|rfl|rfl
 ·exact(show Tryz.prog.wantsStandIn 26=false by kernel_rfl)
 ·exact(show Tryz.prog.wantsStandIn 27=false by kernel_rfl)
 ·exact(show Tryz.prog.wantsStandIn 5=false by kernel_rfl)
theorem image19_card:Rows.DictImageCardSaid :=
 Claim7.holds_tied_plain_at .later [] _ _ _ _ jO0 (λ_ h=>by cases h) (by kernel_rfl) (λ_ h=>by cases h) dictImage_row_tie rfl ⟨rfl,rfl⟩ (by kernel_rfl) rfl gT0 (by kernel_rfl)
end Go.Proofs.YtheiocndipepaaaGreatDoor
