import Derived.Test.YtcijgkfpobpdbaaGreatDoorBq30
import Derived.Test.YtcijgkfpobpdbaaGreatDoorBq11
import Derived.Test.YtcijgkfpobpdbaaGreatDoorUn19L
namespace Go.Proofs.YtcijgkfpobpdbaaGreatDoor
set_option maxRecDepth 100000
open Go Go.ChangeShapes Go.WideShapes Go.ChangeAt Go.RowKit Go.Shelf Go.Lib
open Go.ChangeMaps (open_string shut_string)
theorem yC (H:Type) (enc:TypeId×Value->H) (W:World) (base:Nat) (args:Array Value) (ds gs:List (DataW H)) (before:List MemPlace)
  (ed:∀(j:Nat) t v,Tryz.f4.params[j]?=some t->args[j]?=some v->Value.okWide Tryz.prog W .any base t v)
  (hW:DataW.Whole enc Tryz.prog Tryz.f4.params.toList Rows.dictUnderSpec.vars false W args.toList ds gs before)
  (hz:(DataW.weightsEach Tryz.prog (Tryz.f4.params.toList++(OpenSpec.ofChange Rows.dictUnderSpec).bare.plain.varTypes Tryz.prog) (ds++gs)).all (· <= reachBytes)=true) (he:Env W) :
  Calls Tryz.prog 4 args W λe W'=>∃v,e=.returned v/\Rows.dictUnderSpec.post enc Tryz.prog Tryz.f4 false true false false W args v W':=by
 have zq:=hW;obtain⟨p,q,hA0,hV,rfl,hfz,uz⟩:=hW;have hA:DataW.TrodAll enc Tryz.prog W 0 (λ_=>true) true Tryz.f4.params.toList args.toList ds p:=hA0;rw[Tryz.params4]at hA ed hz;obtain⟨v0,v1,v2,d0,d1,d2,p0,p1,p2,rfl,rfl,rfl,h0,h1,h2⟩:=trodAll_three hA;obtain⟨rfl,rfl⟩:=trodVars_none hV;obtain⟨x0,A0,rfl,ry,ok0,ad3⟩:=yT (ed 0 _ v0 rfl rfl) h0 hz (j:=0) rfl rfl;obtain⟨x1,rfl,ee,hp1,ok1⟩:=open_string Tryz.underlying9 (ed 1 _ v1 rfl rfl) h1
 have zr:x1.size<=140737488355328:=by
  have lu:=sized_string (bytes:=x1.data.toList) hz (j:=1) rfl (by rw[ee];rfl);have h3:reachBytes<2^47:=reachBytes_lt;rw[<-Lib.size_eq]at lu;omega
 obtain⟨x2,rfl,ik,nl,ok2⟩:=open_int Tryz.underlying3 (ed 2 _ v2 rfl rfl) h2;refine(nG0 x0 A0 x1 x2 W he ok0 zr ry).mono λe W' ⟨hr,hg⟩=>?_;subst hr;have ae:∀x∈p0++p1++p2,x.block<W.heap.size:=λx hx=>by simpa using zq.lt x (by simpa using hx)
 refine⟨_,rfl,_,_,_,[],p0++(p1++(p2)),[],zq,?_,?_,?_,hg.frame _,λh=>by cases h⟩
 ·exact trodAll_mk1 (shut_bool Tryz.underlying4 _)
 ·exact trodAll_mk3 (Below.trod mM (by kernel_rfl) (of_decide_eq_true (by kernel_rfl)) h0 hg (λx hx=>ae x (by simp[hx]))) (Below.trod mM (by kernel_rfl) (of_decide_eq_true (by kernel_rfl)) h1 hg (λx hx=>ae x (by simp[hx]))) (Below.trod mM (by kernel_rfl) (of_decide_eq_true (by kernel_rfl)) h2 hg (λx hx=>ae x (by simp[hx])))
 ·rfl
theorem bH0 (os:Os) {H:Type} (enc:TypeId×Value->H) :
  (OpenSpec.ofChange Rows.dictUnderSpec).preRow enc Tryz.prog Tryz.f4 Rows.dictUnderRow.domain false Rows.dictUnderRow.laid ((eV os).forCall (λ_ _=>0) ⟨#[],#[.agg #[.slice none 0 0,.int .i64 0,.slice none 0 0,.slice none 0 0],.string ⟨#[]⟩,.int .i64 0],[]⟩).memory #[.agg #[.slice none 0 0,.int .i64 0,.slice none 0 0,.slice none 0 0],.string ⟨#[]⟩,.int .i64 0]:=by
 have hw:(DataW.whole enc Tryz.prog ((eV os).forCall (λ_ _=>0) ⟨#[],#[.agg #[.slice none 0 0,.int .i64 0,.slice none 0 0,.slice none 0 0],.string ⟨#[]⟩,.int .i64 0],[]⟩).memory Tryz.f4.params.toList (OpenSpec.ofChange Rows.dictUnderSpec).vars false #[.agg #[.slice none 0 0,.int .i64 0,.slice none 0 0,.slice none 0 0],.string ⟨#[]⟩,.int .i64 0].toList 8).map (λx=>(x.1,x.2.1)) =
   some ([.agg [.nil,.lit (.int .i64 0),.nil,.nil],.lit (.string []),.lit (.int .i64 0)],[]):=by kernel_rfl
 obtain⟨⟨y1,y2,y3⟩,hx,gd⟩:=Option.map_eq_some_iff.1 hw;simp only[Prod.mk.injEq]at gd;obtain⟨rfl,rfl⟩:=gd;exact OpenSpec.preRow_of_cond 8 hx (by kernel_rfl) (λk hk=>by cases hk) (by kernel_rfl) (yP os _)
theorem cX0 (os:Os) (started:os.Started) (H:Type) (enc:TypeId×Value->H) (F:Stop.Interp) :
  ReturnsInHanded {} Tryz.checked os 4 .any ((OpenSpec.ofChange Rows.dictUnderSpec).preRow enc Tryz.prog Tryz.f4 Rows.dictUnderRow.domain false Rows.dictUnderRow.laid) (((OpenSpec.ofChange Rows.dictUnderSpec).at F).post enc Tryz.prog Tryz.f4 false true false false):=by
 refine returnsInHanded_of_row (C:=Tryz.checked) (s:=OpenSpec.ofChange Rows.dictUnderSpec) own started (by kernel_rfl) Tryz.func4
  (witness_row_atRef (enc:=enc) (C:=Tryz.checked) false (eV os) #[.agg #[.slice none 0 0,.int .i64 0,.slice none 0 0,.slice none 0 0],.string ⟨#[]⟩,.int .i64 0] rfl (by kernel_rfl) (by kernel_rfl) (by kernel_rfl) (bH0 os enc)) ?_
 intro W base args ds gs before ed hW _ _ hz hL hS _;exact yC H enc W base args ds gs before ed hW hz (qP0 hL hS)
theorem sM0:laidOutB Tryz.prog=true:=by kernel_rfl
theorem vE0:mapsRowed Tryz.prog=true:=by kernel_rfl
theorem tB0:(Rows.dictUnderRow.inPlace==Tryz.prog.inPlace 4)=true:=by kernel_rfl
theorem tQ0:(Rows.dictUnderRow.unfollowed==Tryz.prog.unfollowed 4)=true:=by kernel_rfl
theorem sP0:(Rows.dictUnderRow.recurses==Tryz.prog.recurses 4)=true:=by kernel_rfl
theorem sA0:(Rows.dictUnderRow.named==Tryz.prog.varsNamed 4)=true:=by kernel_rfl
theorem gE0:joinedFacts Tryz.prog 4 Tryz.f4 (OpenSpec.ofChange Rows.dictUnderSpec).bare Rows.dictUnderRow=true:=by
 unfold joinedFacts;rw[sM0,vE0,tB0,tQ0,sP0,sA0];kernel_rfl
theorem lG0:Rows.DictUnderSaid :=
 OpenClaim.holds_of_cond 4 Tryz.f4 rfl rfl rfl rfl rfl rfl rfl ⟨rfl,rfl,rfl,rfl,rfl⟩ rfl rfl rfl rfl rfl (by kernel_rfl) Tryz.func4 gE0
  (of_decide_eq_true (by kernel_rfl)) (by unfold Func.isWrapper;first|(rw[if_pos (by decide +kernel)];kernel_rfl)|(rw[if_neg (by decide +kernel)];exact⟨rfl,rfl⟩))
  (λos started H enc _ F=>by rw[OpenClaim.pre_eq_preRow];exact cX0 os started H enc F)
theorem fW0 (f : FuncId) (fn : Func) (hf : Tryz.pinned.checked.prog.funcNamed "henkan/henkanlaw19.DictUnder" = some f) (hfn : Tryz.pinned.checked.prog.funcs[f]? = some fn) :
  true=Tryz.pinned.checked.prog.looks []/\∀(j:Nat) t,fn.params[j]?=some t->Tryz.pinned.checked.prog.wantsStandIn t=false:=by
 obtain rfl : f = 4 := Option.some.inj ((show Tryz.prog.funcNamed "henkan/henkanlaw19.DictUnder" = some 4 by kernel_rfl).symm.trans hf) |>.symm
 obtain rfl:fn=Tryz.f4:=(Option.some.inj (Tryz.func4.symm.trans hfn)).symm;refine⟨by kernel_rfl,λj t ht=>?_⟩;rw[Tryz.params4]at ht;have hm:t=26\/t=9\/t=3:=by simpa using Array.mem_of_getElem? ht
 rcases hm with rfl|rfl|rfl
 ·exact(show Tryz.prog.wantsStandIn 26=false by kernel_rfl)
 ·exact(show Tryz.prog.wantsStandIn 9=false by kernel_rfl)
 ·exact(show Tryz.prog.wantsStandIn 3=false by kernel_rfl)
theorem under19_card:Rows.DictUnderCardSaid :=
 Claim7.holds_tied_plain_at .later [] _ _ _ _ lG0 (λ_ h=>by cases h) (by kernel_rfl) (λ_ h=>by cases h) dictUnder_row_tie rfl ⟨rfl,rfl⟩ (by kernel_rfl) rfl fW0 (by kernel_rfl)
end Go.Proofs.YtcijgkfpobpdbaaGreatDoor
