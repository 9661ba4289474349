/- For every source of a dictionary and any two numbers DictCosts returns true and leaves its arguments as they were: the card of the law, where the listed variables of the library are laid as the program's text lays them. -/
import Derived.Test.YtcijgkfpobpdbaaGreatDoorBq30
import Derived.Test.YtcijgkfpobpdbaaGreatDoorBq11
import Derived.Test.YtcijgkfpobpdbaaGreatDoorCo19L
namespace Go.Proofs.YtcijgkfpobpdbaaGreatDoor
set_option maxRecDepth 100000
open Go Go.ChangeShapes Go.WideShapes Go.ChangeAt Go.RowKit Go.Shelf Go.Lib
open Go.ChangeMaps (open_string shut_string)
theorem yH (H:Type) (enc:TypeId×Value->H) (W:World) (base:Nat) (args:Array Value) (ds gs:List (DataW H)) (before:List MemPlace)
  (ed:∀(j:Nat) t v,Tryz.f11.params[j]?=some t->args[j]?=some v->Value.okWide Tryz.prog W .any base t v)
  (hW:DataW.Whole enc Tryz.prog Tryz.f11.params.toList Rows.dictCostsSpec.vars false W args.toList ds gs before)
  (hz:(DataW.weightsEach Tryz.prog (Tryz.f11.params.toList++(OpenSpec.ofChange Rows.dictCostsSpec).bare.plain.varTypes Tryz.prog) (ds++gs)).all (· <= reachBytes)=true) (he:Env W) :
  Calls Tryz.prog 11 args W λe W'=>∃v,e=.returned v/\Rows.dictCostsSpec.post enc Tryz.prog Tryz.f11 false true false false W args v W':=by
 have zq:=hW;obtain⟨p,q,hA0,hV,rfl,hfz,uz⟩:=hW;have hA:DataW.TrodAll enc Tryz.prog W 0 (λ_=>true) true Tryz.f11.params.toList args.toList ds p:=hA0;rw[Tryz.params11]at hA ed hz;obtain⟨v0,v1,v2,d0,d1,d2,p0,p1,p2,rfl,rfl,rfl,h0,h1,h2⟩:=trodAll_three hA;obtain⟨rfl,rfl⟩:=trodVars_none hV;obtain⟨x0,A0,rfl,ry,ok0,ad3⟩:=yT (ed 0 _ v0 rfl rfl) h0 hz (j:=0) rfl rfl;obtain⟨x1,rfl,ee,hp1,ok1⟩:=open_int Tryz.underlying3 (ed 1 _ v1 rfl rfl) h1;obtain⟨x2,rfl,ik,nl,ok2⟩:=open_int Tryz.underlying3 (ed 2 _ v2 rfl rfl) h2;refine(mN0 x0 A0 x1 x2 W he ok0 ry).mono λe W' ⟨hr,hg⟩=>?_;subst hr;have ae:∀x∈p0++p1++p2,x.block<W.heap.size:=λx hx=>by simpa using zq.lt x (by simpa using hx)
 refine⟨_,rfl,_,_,_,[],p0++(p1++(p2)),[],zq,?_,?_,?_,hg.frame _,λh=>by cases h⟩
 ·exact trodAll_mk1 (shut_bool Tryz.underlying4 _)
 ·exact trodAll_mk3 (Below.trod mM (by kernel_rfl) (of_decide_eq_true (by kernel_rfl)) h0 hg (λx hx=>ae x (by simp[hx]))) (Below.trod mM (by kernel_rfl) (of_decide_eq_true (by kernel_rfl)) h1 hg (λx hx=>ae x (by simp[hx]))) (Below.trod mM (by kernel_rfl) (of_decide_eq_true (by kernel_rfl)) h2 hg (λx hx=>ae x (by simp[hx])))
 ·rfl
theorem aS0 (os:Os) {H:Type} (enc:TypeId×Value->H) :
  (OpenSpec.ofChange Rows.dictCostsSpec).preRow enc Tryz.prog Tryz.f11 Rows.dictCostsRow.domain false Rows.dictCostsRow.laid ((eV os).forCall (λ_ _=>0) ⟨#[],#[.agg #[.slice none 0 0,.int .i64 0,.slice none 0 0,.slice none 0 0],.int .i64 0,.int .i64 0],[]⟩).memory #[.agg #[.slice none 0 0,.int .i64 0,.slice none 0 0,.slice none 0 0],.int .i64 0,.int .i64 0]:=by
 have hw:(DataW.whole enc Tryz.prog ((eV os).forCall (λ_ _=>0) ⟨#[],#[.agg #[.slice none 0 0,.int .i64 0,.slice none 0 0,.slice none 0 0],.int .i64 0,.int .i64 0],[]⟩).memory Tryz.f11.params.toList (OpenSpec.ofChange Rows.dictCostsSpec).vars false #[.agg #[.slice none 0 0,.int .i64 0,.slice none 0 0,.slice none 0 0],.int .i64 0,.int .i64 0].toList 8).map (λx=>(x.1,x.2.1)) =
   some ([.agg [.nil,.lit (.int .i64 0),.nil,.nil],.lit (.int .i64 0),.lit (.int .i64 0)],[]):=by kernel_rfl
 obtain⟨⟨y1,y2,y3⟩,hx,gd⟩:=Option.map_eq_some_iff.1 hw;simp only[Prod.mk.injEq]at gd;obtain⟨rfl,rfl⟩:=gd;exact OpenSpec.preRow_of_cond 8 hx (by kernel_rfl) (λk hk=>by cases hk) (by kernel_rfl) (yP os _)
theorem cV0 (os:Os) (started:os.Started) (H:Type) (enc:TypeId×Value->H) (F:Stop.Interp) :
  ReturnsInHanded {} Tryz.checked os 11 .any ((OpenSpec.ofChange Rows.dictCostsSpec).preRow enc Tryz.prog Tryz.f11 Rows.dictCostsRow.domain false Rows.dictCostsRow.laid) (((OpenSpec.ofChange Rows.dictCostsSpec).at F).post enc Tryz.prog Tryz.f11 false true false false):=by
 refine returnsInHanded_of_row (C:=Tryz.checked) (s:=OpenSpec.ofChange Rows.dictCostsSpec) own started (by kernel_rfl) Tryz.func11
  (witness_row_atRef (enc:=enc) (C:=Tryz.checked) false (eV os) #[.agg #[.slice none 0 0,.int .i64 0,.slice none 0 0,.slice none 0 0],.int .i64 0,.int .i64 0] rfl (by kernel_rfl) (by kernel_rfl) (by kernel_rfl) (aS0 os enc)) ?_
 intro W base args ds gs before ed hW _ _ hz hL hS _;exact yH H enc W base args ds gs before ed hW hz (qP0 hL hS)
theorem sB0:laidOutB Tryz.prog=true:=by kernel_rfl
theorem vU0:mapsRowed Tryz.prog=true:=by kernel_rfl
theorem sZ0:(Rows.dictCostsRow.inPlace==Tryz.prog.inPlace 11)=true:=by kernel_rfl
theorem uJ0:(Rows.dictCostsRow.unfollowed==Tryz.prog.unfollowed 11)=true:=by kernel_rfl
theorem uT0:(Rows.dictCostsRow.recurses==Tryz.prog.recurses 11)=true:=by kernel_rfl
theorem sF0:(Rows.dictCostsRow.named==Tryz.prog.varsNamed 11)=true:=by kernel_rfl
theorem hF0:joinedFacts Tryz.prog 11 Tryz.f11 (OpenSpec.ofChange Rows.dictCostsSpec).bare Rows.dictCostsRow=true:=by
 unfold joinedFacts;rw[sB0,vU0,sZ0,uJ0,uT0,sF0];kernel_rfl
theorem iP0:Rows.DictCostsSaid :=
 OpenClaim.holds_of_cond 11 Tryz.f11 rfl rfl rfl rfl rfl rfl rfl ⟨rfl,rfl,rfl,rfl,rfl⟩ rfl rfl rfl rfl rfl (by kernel_rfl) Tryz.func11 hF0
  (of_decide_eq_true (by kernel_rfl)) (by unfold Func.isWrapper;first|(rw[if_pos (by decide +kernel)];kernel_rfl)|(rw[if_neg (by decide +kernel)];exact⟨rfl,rfl⟩))
  (λos started H enc _ F=>by rw[OpenClaim.pre_eq_preRow];exact cV0 os started H enc F)
theorem eW0 (f : FuncId) (fn : Func) (hf : Tryz.pinned.checked.prog.funcNamed "henkan/henkanlaw19.DictCosts" = some f) (hfn : Tryz.pinned.checked.prog.funcs[f]? = some fn) :
  true=Tryz.pinned.checked.prog.looks []/\∀(j:Nat) t,fn.params[j]?=some t->Tryz.pinned.checked.prog.wantsStandIn t=false:=by
 obtain rfl : f = 11 := Option.some.inj ((show Tryz.prog.funcNamed "henkan/henkanlaw19.DictCosts" = some 11 by kernel_rfl).symm.trans hf) |>.symm
 obtain rfl:fn=Tryz.f11:=(Option.some.inj (Tryz.func11.symm.trans hfn)).symm;refine⟨by kernel_rfl,λj t ht=>?_⟩;rw[Tryz.params11]at ht;have hm:t=26\/t=3:=by simpa using Array.mem_of_getElem? ht
 rcases hm with rfl|rfl
 ·exact(show Tryz.prog.wantsStandIn 26=false by kernel_rfl)
 ·exact(show Tryz.prog.wantsStandIn 3=false by kernel_rfl)
theorem costs19_card:Rows.DictCostsCardSaid :=
 Claim7.holds_tied_plain_at .later [] _ _ _ _ iP0 (λ_ h=>by cases h) (by kernel_rfl) (λ_ h=>by cases h) dictCosts_row_tie rfl ⟨rfl,rfl⟩ (by kernel_rfl) rfl eW0 (by kernel_rfl)
end Go.Proofs.YtcijgkfpobpdbaaGreatDoor
