import Derived.Test.YtheiocndipepaaaGreatDoorKq29
import Derived.Test.YtheiocndipepaaaGreatDoorKq18
import Derived.Test.YtheiocndipepaaaGreatDoorAll19L
namespace Go.Proofs.YtheiocndipepaaaGreatDoor
set_option maxRecDepth 100000
open Go Go.ChangeShapes Go.WideShapes Go.ChangeAt Go.RowKit Go.Shelf Go.Lib
open Go.ChangeMaps (open_string shut_string)
theorem dZ0 (H:Type) (enc:TypeId×Value->H) (W:World) (base:Nat) (args:Array Value) (ds gs:List (DataW H)) (before:List MemPlace)
  (ee:∀(j:Nat) t v,Tryz.f4.params[j]?=some t->args[j]?=some v->Value.okWide Tryz.prog W .any base t v)
  (hW:DataW.Whole enc Tryz.prog Tryz.f4.params.toList Rows.dictAllSpec.vars false W args.toList ds gs before)
  (hz:(DataW.weightsEach Tryz.prog (Tryz.f4.params.toList++(OpenSpec.ofChange Rows.dictAllSpec).bare.plain.varTypes Tryz.prog) (ds++gs)).all (· <= reachBytes)=true) (he:Env W) :
  Calls Tryz.prog 4 args W λe W'=>∃v,e=.returned v/\Rows.dictAllSpec.post enc Tryz.prog Tryz.f4 false true false false W args v W':=by
 have wg:=hW;obtain⟨p,q,hA0,hV,rfl,hfz,vf⟩:=hW;have hA:DataW.TrodAll enc Tryz.prog W 0 (λ_=>true) true Tryz.f4.params.toList args.toList ds p:=hA0;rw[Tryz.params4]at hA ee hz;obtain⟨v0,v1,d0,d1,p0,p1,rfl,rfl,rfl,h0,h1⟩:=trodAll_two hA;obtain⟨rfl,rfl⟩:=trodVars_none hV;obtain⟨x0,A0,rfl,tq,ok0,aes⟩:=zW (ee 0 _ v0 rfl rfl) h0 hz (j:=0) rfl rfl;obtain⟨x1,rfl,fe,hp1,ok1⟩:=open_string Tryz.underlying9 (ee 1 _ v1 rfl rfl) h1
 have aet:x1.size<=140737488355328:=by
  have ng:=sized_string (bytes:=x1.data.toList) hz (j:=1) rfl (by rw[fe];rfl);have h3:reachBytes<2^47:=reachBytes_lt;rw[<-Lib.size_eq]at ng;omega
 refine(zY0 x0 A0 x1 W he ok0 aet tq).mono λe W' ⟨hr,hg⟩=>?_;subst hr;have ae:∀x∈p0++p1,x.block<W.heap.size:=λx hx=>by simpa using wg.lt x (by simpa using hx)
 refine⟨_,rfl,_,_,_,[],p0++(p1),[],wg,?_,?_,?_,hg.frame _,λh=>by cases h⟩
 ·exact trodAll_mk1 (shut_bool Tryz.underlying4 _)
 ·exact trodAll_mk2 (Below.trod pM (by kernel_rfl) (of_decide_eq_true (by kernel_rfl)) h0 hg (λx hx=>ae x (by simp[hx]))) (Below.trod pM (by kernel_rfl) (of_decide_eq_true (by kernel_rfl)) h1 hg (λx hx=>ae x (by simp[hx])))
 ·rfl
theorem gV0 (os:Os) {H:Type} (enc:TypeId×Value->H) :
  (OpenSpec.ofChange Rows.dictAllSpec).preRow enc Tryz.prog Tryz.f4 Rows.dictAllRow.domain false Rows.dictAllRow.laid ((dW os).forCall (λ_ _=>0) ⟨#[],#[.agg #[.slice none 0 0,.int .i64 0,.slice none 0 0,.slice none 0 0],.string ⟨#[]⟩],[]⟩).memory #[.agg #[.slice none 0 0,.int .i64 0,.slice none 0 0,.slice none 0 0],.string ⟨#[]⟩]:=by
 have hw:(DataW.whole enc Tryz.prog ((dW os).forCall (λ_ _=>0) ⟨#[],#[.agg #[.slice none 0 0,.int .i64 0,.slice none 0 0,.slice none 0 0],.string ⟨#[]⟩],[]⟩).memory Tryz.f4.params.toList (OpenSpec.ofChange Rows.dictAllSpec).vars false #[.agg #[.slice none 0 0,.int .i64 0,.slice none 0 0,.slice none 0 0],.string ⟨#[]⟩].toList 8).map (λx=>(x.1,x.2.1)) =
   some ([.agg [.nil,.lit (.int .i64 0),.nil,.nil],.lit (.string [])],[]):=by kernel_rfl
 obtain⟨⟨y1,y2,y3⟩,hx,ga⟩:=Option.map_eq_some_iff.1 hw;simp only[Prod.mk.injEq]at ga;obtain⟨rfl,rfl⟩:=ga;exact OpenSpec.preRow_of_cond 8 hx (by kernel_rfl) (λk hk=>by cases hk) (by kernel_rfl) (vG os _)
theorem jP0 (os:Os) (started:os.Started) (H:Type) (enc:TypeId×Value->H) (F:Stop.Interp) :
  ReturnsInHanded {} Tryz.checked os 4 .any ((OpenSpec.ofChange Rows.dictAllSpec).preRow enc Tryz.prog Tryz.f4 Rows.dictAllRow.domain false Rows.dictAllRow.laid) (((OpenSpec.ofChange Rows.dictAllSpec).at F).post enc Tryz.prog Tryz.f4 false true false false):=by
 refine returnsInHanded_of_row (C:=Tryz.checked) (s:=OpenSpec.ofChange Rows.dictAllSpec) own started (by kernel_rfl) Tryz.func4
  (witness_row_atRef (enc:=enc) (C:=Tryz.checked) false (dW os) #[.agg #[.slice none 0 0,.int .i64 0,.slice none 0 0,.slice none 0 0],.string ⟨#[]⟩] rfl (by kernel_rfl) (by kernel_rfl) (by kernel_rfl) (gV0 os enc)) ?_
 intro W base args ds gs before ee hW _ _ hz hL hS _;exact dZ0 H enc W base args ds gs before ee hW hz (mB0 hL hS)
theorem kG1:laidOutB Tryz.prog=true:=by kernel_rfl
theorem iB1:mapsRowed Tryz.prog=true:=by kernel_rfl
theorem hG1:(Rows.dictAllRow.inPlace==Tryz.prog.inPlace 4)=true:=by kernel_rfl
theorem fX1:(Rows.dictAllRow.unfollowed==Tryz.prog.unfollowed 4)=true:=by kernel_rfl
theorem fZ1:(Rows.dictAllRow.recurses==Tryz.prog.recurses 4)=true:=by kernel_rfl
theorem jZ1:(Rows.dictAllRow.named==Tryz.prog.varsNamed 4)=true:=by kernel_rfl
theorem oU0:joinedFacts Tryz.prog 4 Tryz.f4 (OpenSpec.ofChange Rows.dictAllSpec).bare Rows.dictAllRow=true:=by
 unfold joinedFacts;rw[kG1,iB1,hG1,fX1,fZ1,jZ1];kernel_rfl
theorem uA0:Rows.DictAllSaid :=
 OpenClaim.holds_of_cond 4 Tryz.f4 rfl rfl rfl rfl rfl rfl rfl ⟨rfl,rfl,rfl,rfl,rfl⟩ rfl rfl rfl rfl rfl (by kernel_rfl) Tryz.func4 oU0
  (of_decide_eq_true (by kernel_rfl)) (by unfold Func.isWrapper;first|(rw[if_pos (by decide +kernel)];kernel_rfl)|(rw[if_neg (by decide +kernel)];exact⟨rfl,rfl⟩))
  (λos started H enc _ F=>by rw[OpenClaim.pre_eq_preRow];exact jP0 os started H enc F)
theorem pJ0 (f : FuncId) (fn : Func) (hf : Tryz.pinned.checked.prog.funcNamed "henkan/henkanlaw19.DictAll" = some f) (hfn : Tryz.pinned.checked.prog.funcs[f]? = some fn) :
  true=Tryz.pinned.checked.prog.looks []/\∀(j:Nat) t,fn.params[j]?=some t->Tryz.pinned.checked.prog.wantsStandIn t=false:=by
 obtain rfl : f = 4 := Option.some.inj ((show Tryz.prog.funcNamed "henkan/henkanlaw19.DictAll" = some 4 by kernel_rfl).symm.trans hf) |>.symm
 obtain rfl:fn=Tryz.f4:=(Option.some.inj (Tryz.func4.symm.trans hfn)).symm;refine⟨by kernel_rfl,λj t ht=>?_⟩;rw[Tryz.params4]at ht;have hm:t=26\/t=9:=by simpa using Array.mem_of_getElem? ht
 rcases hm with rfl|rfl
 ·exact(show Tryz.prog.wantsStandIn 26=false by kernel_rfl)
 ·exact(show Tryz.prog.wantsStandIn 9=false by kernel_rfl)
theorem all19_card:Rows.DictAllCardSaid :=
 Claim7.holds_tied_plain_at .later [] _ _ _ _ uA0 (λ_ h=>by cases h) (by kernel_rfl) (λ_ h=>by cases h) dictAll_row_tie rfl ⟨rfl,rfl⟩ (by kernel_rfl) rfl pJ0 (by kernel_rfl)
end Go.Proofs.YtheiocndipepaaaGreatDoor
