/- EvolveSpoilt: proved of every input: the call returns true, and every argument reads as it did. No condition but the row's own (the library's tables and variables as laid). -/
import Derived.Test.YtikpmmipopmjaaaGreatDoorZQay
import Derived.Test.YtikpmmipopmjaaaGreatDoorZQar
import Derived.Test.YtikpmmipopmjaaaGreatDoorZQw
import Derived.Test.YtikpmmipopmjaaaGreatDoorZQau
import Derived.Test.YtikpmmipopmjaaaGreatDoorCards
import Derived.Test.YtikpmmipopmjaaaGreatDoorTie
set_option linter.unusedVariables false
namespace Go.Proofs.YtikpmmipopmjaaaGreatDoor.evolveSpoilt
open Go.ChangeShapes Go.WideShapes Go.ChangeAt Go.RowKit Go.Ms
open Go.ChangeMaps (open_string shut_string)
set_option maxRecDepth 100000 in
theorem contract (H:Type) (enc:TypeId×Value→H) (W:World) (base:Nat) (args:Array Value) (ds gs:List (DataW H)) (before:List MemPlace)
    (hval:∀(j:Nat) t v,Tryz.f9.params[j]?=some t→args[j]?=some v→Value.okWide Tryz.prog W .any base t v)
    (hW:DataW.Whole enc Tryz.prog Tryz.f9.params.toList Rows.evolveSpoiltSpec.vars false W args.toList ds gs before) (hE:Env W) :
    Calls Tryz.prog 9 args W fun e W'=> ∃v,e=.returned v∧Rows.evolveSpoiltSpec.post enc Tryz.prog Tryz.f9 false true false false W args v W':=by
 have hW':=hW;obtain⟨p,q,hA0,hV,rfl,hfz,hnd⟩:=hW;have hA:DataW.TrodAll enc Tryz.prog W 0 (fun _=>true) true Tryz.f9.params.toList args.toList ds p:=hA0;rw[Tryz.params9] at hA hval;obtain⟨v0,vs0,d0,ds0,p0,q0,hargs,rfl,rfl,h0,r0⟩:=trodAll_cons hA;obtain⟨v1,vs1,d1,ds1,p1,q1,rfl,rfl,rfl,h1,r1⟩:=trodAll_cons r0;obtain⟨v2,vs2,d2,ds2,p2,q2,rfl,rfl,rfl,h2,r2⟩:=trodAll_cons r1;obtain⟨rfl,rfl,rfl⟩:=trodAll_nil r2
 obtain rfl:args=#[v0,v1,v2]:=by cases args;simp_all
 obtain⟨rfl,rfl⟩:=trodVars_none hV;have k0:=h0
 have lt0:∀x∈p0,x.block<W.heap.size:=by obtain⟨m,hm⟩:=k0;exact DataW.trod_lt m _ _ _ hm
 obtain⟨x00,x01,y00,y01,m0,rfl,_,_,t00,t01⟩:=Joins.open_agg2 Tryz.underlying45 (by kernel_rfl) (by kernel_rfl) (hval 0 45 v0 rfl rfl) h0;obtain⟨A0,n0,c0,l0,e00,ll0,hc0,kc0,ok0,ex0⟩:=qD0 oneI I64 qRp (by omega) Tryz.underlying23 qFh (fun _ _ _ h=>qZe h) t00;obtain⟨B0,nn0,cc0,lb0,e01,llb0,hcb0,kcb0,okb0,exb0⟩:=qD0 thrV qYl qW2 (by omega) Tryz.underlying43 qOj (fun _ _ _ h=>zB1 h) t01;obtain rfl:x00=.slice A0 n0 c0:=e00;obtain rfl:x01=.slice B0 nn0 cc0:=e01
 obtain⟨a1,rfl,rfl,rfl,w1⟩:=open_int Tryz.underlying3 (hval 1 3 v1 rfl rfl) h1;have k2:=h2
 have lt2:∀x∈p2,x.block<W.heap.size:=by obtain⟨m,hm⟩:=k2;exact DataW.trod_lt m _ _ _ hm
 obtain⟨a2x,a2y,rfl,q2x,q2y⟩:=qRn (hval 2 39 v2 rfl rfl) h2;clear hA0
 refine(qIv A0 n0 c0 l0 B0 nn0 cc0 lb0 a1 a2x a2y W (qQm.of hc0 kc0 ll0 (qRr ex0) ok0 hcb0 kcb0 llb0 exb0 okb0) (I64.of w1) q2x q2y hE).mono fun e W' ⟨he,bel⟩=>?_
 subst he;exact⟨_,rfl,_,_,_,[],_,[],hW',trodAll_mk1 (shut_bool Tryz.underlying4 _),(trodAll_cons_mk (Below.trod laidOut (by kernel_rfl) (of_decide_eq_true (by kernel_rfl)) k0 bel lt0) (trodAll_cons_mk (shut_int Tryz.underlying3 w1) (trodAll_cons_mk (Below.trod laidOut (by kernel_rfl) (of_decide_eq_true (by kernel_rfl)) k2 bel lt2) trodAll_mk0))),rfl,bel.frame _,fun h=>by cases h⟩
theorem laid_met (os:Os):laidMet Tryz.prog Rows.evolveSpoiltRow.laid ((qE9 os).forCall (fun _ _=>0) ⟨#[],#[Value.agg #[Value.slice none 0 0,Value.slice none 0 0],Value.int .i64 0,Value.agg #[Value.int .i64 0,Value.int .i64 0]],[]⟩).memory:=
  laidMet_of_run' 8 (by kernel_rfl) (by kernel_rfl)
theorem reads (os:Os) {H:Type} (enc:TypeId×Value→H):∃places,DataW.whole enc Tryz.prog ((qE9 os).forCall (fun _ _=>0) ⟨#[],#[Value.agg #[Value.slice none 0 0,Value.slice none 0 0],Value.int .i64 0,Value.agg #[Value.int .i64 0,Value.int .i64 0]],[]⟩).memory Tryz.f9.params.toList Rows.evolveSpoiltSpec.vars false (#[Value.agg #[Value.slice none 0 0,Value.slice none 0 0],Value.int .i64 0,Value.agg #[Value.int .i64 0,Value.int .i64 0]]:Array Value).toList 8=some ([.agg [.nil,.nil],.lit (.int .i64 0),.agg [.lit (.int .i64 0),.lit (.int .i64 0)]],[],places):=
  ⟨[],by kernel_rfl⟩
set_option maxRecDepth 100000 in
theorem lifted (os:Os) (started:os.Started) (H:Type) (enc:TypeId×Value→H) (F:Stop.Interp) :
    ReturnsInHanded {} Tryz.checked os 9 .any ((OpenSpec.ofChange Rows.evolveSpoiltSpec).preRow enc Tryz.prog Tryz.f9 Rows.evolveSpoiltRow.domain false Rows.evolveSpoiltRow.laid) (((OpenSpec.ofChange Rows.evolveSpoiltSpec).at F).post enc Tryz.prog Tryz.f9 false true false false):=by
 obtain⟨places,hx⟩:=reads os enc
 refine returnsInHanded_of_row (C:=Tryz.checked) (s:=OpenSpec.ofChange Rows.evolveSpoiltSpec) own started (by kernel_rfl) Tryz.func9
   (witness_row_at (enc:=enc) (C:=Tryz.checked) false (qE9 os) #[Value.agg #[Value.slice none 0 0,Value.slice none 0 0],Value.int .i64 0,Value.agg #[Value.int .i64 0,Value.int .i64 0]] rfl (by kernel_rfl) (by kernel_rfl) (by kernel_rfl)
     (OpenSpec.preRow_of_cond 8 hx (by kernel_rfl) (fun k hk=>by cases hk) (by kernel_rfl) (laid_met os))) ?_
 intro W base args ds gs before hval hW _ _ _ hL hsh _
 exact contract H enc W base args ds gs before hval hW (qZa hL hsh)
set_option maxHeartbeats 8000000 in
theorem said:Rows.EvolveSpoiltSaid:=
  OpenClaim.holds_of_cond 9 Tryz.f9 rfl rfl rfl rfl rfl rfl rfl ⟨rfl,rfl,rfl,rfl,rfl⟩ rfl rfl rfl rfl rfl (by as_aux_lemma=>kernel_rfl) Tryz.func9 (by simp only[joinedFacts,Bool.and_eq_true];(repeat' apply And.intro);all_goals (as_aux_lemma=>kernel_rfl))
    (of_decide_eq_true (by as_aux_lemma=>kernel_rfl)) (by unfold Func.isWrapper;first|(rw[if_pos (by decide +kernel)];kernel_rfl)|(rw[if_neg (by decide +kernel)];exact⟨rfl,rfl⟩))
    (fun os started H enc _ F=>by rw[OpenClaim.pre_eq_preRow];exact lifted os started H enc F)
theorem plain (f:FuncId) (fn:Func) (hf:Tryz.pinned.checked.prog.funcNamed Rows.evolveSpoiltRow.func=some f) (hfn:Tryz.pinned.checked.prog.funcs[f]?=some fn) :
    true=Tryz.pinned.checked.prog.looks []∧∀(j:Nat) t,fn.params[j]?=some t→Tryz.pinned.checked.prog.wantsStandIn t=false:=by
 obtain rfl:f=9:=Option.some.inj ((show Tryz.prog.funcNamed Rows.evolveSpoiltRow.func=some 9 by kernel_rfl).symm.trans hf) |>.symm;obtain rfl:fn=Tryz.f9:=(Option.some.inj (Tryz.func9.symm.trans hfn)).symm;refine⟨by kernel_rfl,fun j t ht=>?_⟩;rw[Tryz.params9] at ht;have hmem:=Array.mem_of_getElem? ht
 have hm2:t=45∨t=3∨t=39:=by simpa using hmem
 rcases hm2 with rfl|rfl|rfl
 · exact(show Tryz.prog.wantsStandIn 45=false by kernel_rfl)
 · exact(show Tryz.prog.wantsStandIn 3=false by kernel_rfl)
 · exact(show Tryz.prog.wantsStandIn 39=false by kernel_rfl)
theorem card:Rows.EvolveSpoiltCardSaid:=
  Claim7.holds_tied_plain_at .later [] _ _ _ _ said (fun _ h=>by cases h) (by kernel_rfl) (fun _ h=>by cases h) evolveSpoilt_row_tie rfl ⟨rfl,rfl⟩ (by kernel_rfl) rfl plain (by kernel_rfl)
end Go.Proofs.YtikpmmipopmjaaaGreatDoor.evolveSpoilt
