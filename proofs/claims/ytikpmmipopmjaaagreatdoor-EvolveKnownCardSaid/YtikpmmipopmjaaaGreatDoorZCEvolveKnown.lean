/- EvolveKnown: proved of every input: the call returns true, and every argument reads as it did. No condition but the row's own (the library's tables and variables as laid). -/
import Derived.Test.YtikpmmipopmjaaaGreatDoorZq1
import Derived.Test.YtikpmmipopmjaaaGreatDoorZQar
import Derived.Test.YtikpmmipopmjaaaGreatDoorZQw
import Derived.Test.YtikpmmipopmjaaaGreatDoorCards
import Derived.Test.YtikpmmipopmjaaaGreatDoorTie
set_option linter.unusedVariables false
namespace Go.Proofs.YtikpmmipopmjaaaGreatDoor.evolveKnown
open Go.ChangeShapes Go.WideShapes Go.ChangeAt Go.RowKit Go.Ms
open Go.ChangeMaps (open_string shut_string)
set_option maxRecDepth 100000 in
theorem contract (H:Type) (enc:TypeId×Value→H) (W:World) (base:Nat) (args:Array Value) (ds gs:List (DataW H)) (before:List MemPlace)
    (hval:∀(j:Nat) t v,Tryz.f8.params[j]?=some t→args[j]?=some v→Value.okWide Tryz.prog W .any base t v)
    (hW:DataW.Whole enc Tryz.prog Tryz.f8.params.toList Rows.evolveKnownSpec.vars false W args.toList ds gs before) (hE:Env W) :
    Calls Tryz.prog 8 args W fun e W'=> ∃v,e=.returned v∧Rows.evolveKnownSpec.post enc Tryz.prog Tryz.f8 false true false false W args v W':=by
 have hW':=hW;obtain⟨p,q,hA0,hV,rfl,hfz,hnd⟩:=hW;have hA:DataW.TrodAll enc Tryz.prog W 0 (fun _=>true) true Tryz.f8.params.toList args.toList ds p:=hA0;rw[Tryz.params8] at hA hval;obtain⟨hargs,rfl,rfl⟩:=trodAll_none hA
 obtain rfl:args=#[]:=by cases args;simp_all
 obtain⟨rfl,rfl⟩:=trodVars_none hV;clear hA0
 refine(zDd  W  hE).mono fun e W' ⟨he,bel⟩=>?_
 subst he;exact⟨_,rfl,_,_,_,[],_,[],hW',trodAll_mk1 (shut_bool Tryz.underlying4 _),trodAll_mk0,rfl,bel.frame _,fun h=>by cases h⟩
theorem laid_met (os:Os):laidMet Tryz.prog Rows.evolveKnownRow.laid ((qE9 os).forCall (fun _ _=>0) ⟨#[],#[],[]⟩).memory:=
  laidMet_of_run' 8 (by kernel_rfl) (by kernel_rfl)
theorem reads (os:Os) {H:Type} (enc:TypeId×Value→H):∃places,DataW.whole enc Tryz.prog ((qE9 os).forCall (fun _ _=>0) ⟨#[],#[],[]⟩).memory Tryz.f8.params.toList Rows.evolveKnownSpec.vars false (#[]:Array Value).toList 8=some ([],[],places):=
  ⟨[],by kernel_rfl⟩
set_option maxRecDepth 100000 in
theorem lifted (os:Os) (started:os.Started) (H:Type) (enc:TypeId×Value→H) (F:Stop.Interp) :
    ReturnsInHanded {} Tryz.checked os 8 .any ((OpenSpec.ofChange Rows.evolveKnownSpec).preRow enc Tryz.prog Tryz.f8 Rows.evolveKnownRow.domain false Rows.evolveKnownRow.laid) (((OpenSpec.ofChange Rows.evolveKnownSpec).at F).post enc Tryz.prog Tryz.f8 false true false false):=by
 obtain⟨places,hx⟩:=reads os enc
 refine returnsInHanded_of_row (C:=Tryz.checked) (s:=OpenSpec.ofChange Rows.evolveKnownSpec) own started (by kernel_rfl) Tryz.func8
   (witness_row_at (enc:=enc) (C:=Tryz.checked) false (qE9 os) #[] rfl (by kernel_rfl) (by kernel_rfl) (by kernel_rfl)
     (OpenSpec.preRow_of_cond 8 hx (by kernel_rfl) (fun k hk=>by cases hk) (by kernel_rfl) (laid_met os))) ?_
 intro W base args ds gs before hval hW _ _ _ hL hsh _
 exact contract H enc W base args ds gs before hval hW (qZa hL hsh)
set_option maxHeartbeats 8000000 in
theorem said:Rows.EvolveKnownSaid:=
  OpenClaim.holds_of_cond 8 Tryz.f8 rfl rfl rfl rfl rfl rfl rfl ⟨rfl,rfl,rfl,rfl,rfl⟩ rfl rfl rfl rfl rfl (by as_aux_lemma=>kernel_rfl) Tryz.func8 (by simp only[joinedFacts,Bool.and_eq_true];(repeat' apply And.intro);all_goals (as_aux_lemma=>kernel_rfl))
    (of_decide_eq_true (by as_aux_lemma=>kernel_rfl)) (by unfold Func.isWrapper;first|(rw[if_pos (by decide +kernel)];kernel_rfl)|(rw[if_neg (by decide +kernel)];exact⟨rfl,rfl⟩))
    (fun os started H enc _ F=>by rw[OpenClaim.pre_eq_preRow];exact lifted os started H enc F)
theorem plain (f:FuncId) (fn:Func) (hf:Tryz.pinned.checked.prog.funcNamed Rows.evolveKnownRow.func=some f) (hfn:Tryz.pinned.checked.prog.funcs[f]?=some fn) :
    true=Tryz.pinned.checked.prog.looks []∧∀(j:Nat) t,fn.params[j]?=some t→Tryz.pinned.checked.prog.wantsStandIn t=false:=by
 obtain rfl:f=8:=Option.some.inj ((show Tryz.prog.funcNamed Rows.evolveKnownRow.func=some 8 by kernel_rfl).symm.trans hf) |>.symm;obtain rfl:fn=Tryz.f8:=(Option.some.inj (Tryz.func8.symm.trans hfn)).symm;refine⟨by kernel_rfl,fun j t ht=>?_⟩;rw[Tryz.params8] at ht;have hmem:=Array.mem_of_getElem? ht
 simp at hmem
theorem card:Rows.EvolveKnownCardSaid:=
  Claim7.holds_tied_plain_at .later [] _ _ _ _ said (fun _ h=>by cases h) (by kernel_rfl) (fun _ h=>by cases h) evolveKnown_row_tie rfl ⟨rfl,rfl⟩ (by kernel_rfl) rfl plain (by kernel_rfl)
end Go.Proofs.YtikpmmipopmjaaaGreatDoor.evolveKnown
