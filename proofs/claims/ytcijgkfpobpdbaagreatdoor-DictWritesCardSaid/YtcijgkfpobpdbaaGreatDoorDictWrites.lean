import Derived.Test.YtcijgkfpobpdbaaGreatDoorBq30
import Derived.Test.YtcijgkfpobpdbaaGreatDoorBq11
import Derived.Test.YtcijgkfpobpdbaaGreatDoorWr19L
namespace Go.Proofs.YtcijgkfpobpdbaaGreatDoor
set_option maxRecDepth 100000
open Go Go.ChangeShapes Go.WideShapes Go.ChangeAt Go.RowKit Go.Shelf Go.Lib
open Go.ChangeMaps (open_string shut_string)
theorem uP (H:Type) (enc:TypeId×Value->H) (W:World) (base:Nat) (args:Array Value) (ds gs:List (DataW H)) (before:List MemPlace)
  (ed:∀(j:Nat) t v,Tryz.f7.params[j]?=some t->args[j]?=some v->Value.okWide Tryz.prog W .any base t v)
  (hW:DataW.Whole enc Tryz.prog Tryz.f7.params.toList Rows.dictWritesSpec.vars false W args.toList ds gs before)
  (hz:(DataW.weightsEach Tryz.prog (Tryz.f7.params.toList++(OpenSpec.ofChange Rows.dictWritesSpec).bare.plain.varTypes Tryz.prog) (ds++gs)).all (· <= reachBytes)=true) (he:Env W) :
  Calls Tryz.prog 7 args W λe W'=>∃v,e=.returned v/\Rows.dictWritesSpec.post enc Tryz.prog Tryz.f7 false true false false W args v W':=by
 have zq:=hW;obtain⟨p,q,hA0,hV,rfl,hfz,uz⟩:=hW;have hA:DataW.TrodAll enc Tryz.prog W 0 (λ_=>true) true Tryz.f7.params.toList args.toList ds p:=hA0;rw[Tryz.params7]at hA ed hz;obtain⟨v0,v1,d0,d1,p0,p1,rfl,rfl,rfl,h0,h1⟩:=trodAll_two hA;obtain⟨rfl,rfl⟩:=trodVars_none hV;obtain⟨x0,A0,rfl,ry,ok0,ad3⟩:=yT (ed 0 _ v0 rfl rfl) h0 hz (j:=0) rfl rfl;obtain⟨x1,rfl,ee,hp1,ok1⟩:=open_string Tryz.underlying9 (ed 1 _ v1 rfl rfl) h1
 have zr:x1.size<=140737488355328:=by
  have lu:=sized_string (bytes:=x1.data.toList) hz (j:=1) rfl (by rw[ee];rfl);have h3:reachBytes<2^47:=reachBytes_lt;rw[<-Lib.size_eq]at lu;omega
 refine(lE0 x0 A0 x1 W he ok0 zr ry).mono λe W' ⟨hr,hg⟩=>?_;subst hr;have ae:∀x∈p0++p1,x.block<W.heap.size:=λx hx=>by simpa using zq.lt x (by simpa using hx)
 refine⟨_,rfl,_,_,_,[],p0++(p1),[],zq,?_,?_,?_,hg.frame _,λh=>by cases h⟩
 ·exact trodAll_mk1 (shut_bool Tryz.underlying4 _)
 ·exact trodAll_mk2 (Below.trod mM (by kernel_rfl) (of_decide_eq_true (by kernel_rfl)) h0 hg (λx hx=>ae x (by simp[hx]))) (Below.trod mM (by kernel_rfl) (of_decide_eq_true (by kernel_rfl)) h1 hg (λx hx=>ae x (by simp[hx])))
 ·rfl
theorem yI (os:Os) {H:Type} (enc:TypeId×Value->H) :
  (OpenSpec.ofChange Rows.dictWritesSpec).preRow enc Tryz.prog Tryz.f7 Rows.dictWritesRow.domain false Rows.dictWritesRow.laid ((eV os).forCall (λ_ _=>0) ⟨#[],#[.agg #[.slice none 0 0,.int .i64 0,.slice none 0 0,.slice none 0 0],.string ⟨#[]⟩],[]⟩).memory #[.agg #[.slice none 0 0,.int .i64 0,.slice none 0 0,.slice none 0 0],.string ⟨#[]⟩]:=by
 have hw:(DataW.whole enc Tryz.prog ((eV os).forCall (λ_ _=>0) ⟨#[],#[.agg #[.slice none 0 0,.int .i64 0,.slice none 0 0,.slice none 0 0],.string ⟨#[]⟩],[]⟩).memory Tryz.f7.params.toList (OpenSpec.ofChange Rows.dictWritesSpec).vars false #[.agg #[.slice none 0 0,.int .i64 0,.slice none 0 0,.slice none 0 0],.string ⟨#[]⟩].toList 8).map (λx=>(x.1,x.2.1)) =
   some ([.agg [.nil,.lit (.int .i64 0),.nil,.nil],.lit (.string [])],[]):=by kernel_rfl
 obtain⟨⟨y1,y2,y3⟩,hx,gd⟩:=Option.map_eq_some_iff.1 hw;simp only[Prod.mk.injEq]at gd;obtain⟨rfl,rfl⟩:=gd;exact OpenSpec.preRow_of_cond 8 hx (by kernel_rfl) (λk hk=>by cases hk) (by kernel_rfl) (yP os _)
theorem aY0 (os:Os) (started:os.Started) (H:Type) (enc:TypeId×Value->H) (F:Stop.Interp) :
  ReturnsInHanded {} Tryz.checked os 7 .any ((OpenSpec.ofChange Rows.dictWritesSpec).preRow enc Tryz.prog Tryz.f7 Rows.dictWritesRow.domain false Rows.dictWritesRow.laid) (((OpenSpec.ofChange Rows.dictWritesSpec).at F).post enc Tryz.prog Tryz.f7 false true false false):=by
 refine returnsInHanded_of_row (C:=Tryz.checked) (s:=OpenSpec.ofChange Rows.dictWritesSpec) own started (by kernel_rfl) Tryz.func7
  (witness_row_atRef (enc:=enc) (C:=Tryz.checked) false (eV os) #[.agg #[.slice none 0 0,.int .i64 0,.slice none 0 0,.slice none 0 0],.string ⟨#[]⟩] rfl (by kernel_rfl) (by kernel_rfl) (by kernel_rfl) (yI os enc)) ?_
 intro W base args ds gs before ed hW _ _ hz hL hS _;exact uP H enc W base args ds gs before ed hW hz (qP0 hL hS)
theorem oB0:laidOutB Tryz.prog=true:=by kernel_rfl
theorem nY0:mapsRowed Tryz.prog=true:=by kernel_rfl
theorem mU0:(Rows.dictWritesRow.inPlace==Tryz.prog.inPlace 7)=true:=by kernel_rfl
theorem nN0:(Rows.dictWritesRow.unfollowed==Tryz.prog.unfollowed 7)=true:=by kernel_rfl
theorem oI0:(Rows.dictWritesRow.recurses==Tryz.prog.recurses 7)=true:=by kernel_rfl
theorem nP0:(Rows.dictWritesRow.named==Tryz.prog.varsNamed 7)=true:=by kernel_rfl
theorem cW0:joinedFacts Tryz.prog 7 Tryz.f7 (OpenSpec.ofChange Rows.dictWritesSpec).bare Rows.dictWritesRow=true:=by
 unfold joinedFacts;rw[oB0,nY0,mU0,nN0,oI0,nP0];kernel_rfl
theorem gT0:Rows.DictWritesSaid :=
 OpenClaim.holds_of_cond 7 Tryz.f7 rfl rfl rfl rfl rfl rfl rfl ⟨rfl,rfl,rfl,rfl,rfl⟩ rfl rfl rfl rfl rfl (by kernel_rfl) Tryz.func7 cW0
  (of_decide_eq_true (by kernel_rfl)) (by unfold Func.isWrapper;first|(rw[if_pos (by decide +kernel)];kernel_rfl)|(rw[if_neg (by decide +kernel)];exact⟨rfl,rfl⟩))
  (λos started H enc _ F=>by rw[OpenClaim.pre_eq_preRow];exact aY0 os started H enc F)
theorem cY0 (f : FuncId) (fn : Func) (hf : Tryz.pinned.checked.prog.funcNamed "henkan/henkanlaw19.DictWrites" = some f) (hfn : Tryz.pinned.checked.prog.funcs[f]? = some fn) :
  true=Tryz.pinned.checked.prog.looks []/\∀(j:Nat) t,fn.params[j]?=some t->Tryz.pinned.checked.prog.wantsStandIn t=false:=by
 obtain rfl : f = 7 := Option.some.inj ((show Tryz.prog.funcNamed "henkan/henkanlaw19.DictWrites" = some 7 by kernel_rfl).symm.trans hf) |>.symm
 obtain rfl:fn=Tryz.f7:=(Option.some.inj (Tryz.func7.symm.trans hfn)).symm;refine⟨by kernel_rfl,λj t ht=>?_⟩;rw[Tryz.params7]at ht;have hm:t=26\/t=9:=by simpa using Array.mem_of_getElem? ht
 rcases hm with rfl|rfl
 ·exact(show Tryz.prog.wantsStandIn 26=false by kernel_rfl)
 ·exact(show Tryz.prog.wantsStandIn 9=false by kernel_rfl)
theorem writes19_card:Rows.DictWritesCardSaid :=
 Claim7.holds_tied_plain_at .later [] _ _ _ _ gT0 (λ_ h=>by cases h) (by kernel_rfl) (λ_ h=>by cases h) dictWrites_row_tie rfl ⟨rfl,rfl⟩ (by kernel_rfl) rfl cY0 (by kernel_rfl)
end Go.Proofs.YtcijgkfpobpdbaaGreatDoor
