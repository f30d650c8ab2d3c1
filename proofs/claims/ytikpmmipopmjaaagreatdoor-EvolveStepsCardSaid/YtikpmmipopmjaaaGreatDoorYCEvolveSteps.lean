/- EvolveSteps: proved of every input: the call returns true, and every argument reads as it did. No condition but the row's own (the library's tables and variables as laid). -/
import Derived.Test.YtikpmmipopmjaaaGreatDoorYy2
import Derived.Test.YtikpmmipopmjaaaGreatDoorYQbn
import Derived.Test.YtikpmmipopmjaaaGreatDoorCards
import Derived.Test.YtikpmmipopmjaaaGreatDoorTie
set_option maxRecDepth 100000
set_option linter.unusedVariables false
namespace Go.Proofs.YtikpmmipopmjaaaGreatDoor.evolveSteps
open Go.ChangeShapes Go.WideShapes Go.ChangeAt Go.RowKit Go.Ms
open Go.ChangeMaps (open_string shut_string)
theorem contract (H : Type) (enc : TypeId × Value → H) (W : World) (base : Nat) (args : Array Value) (ds gs : List (DataW H)) (before : List MemPlace)
    (hval : ∀ (j : Nat) t v, Tryz.f3.params[j]? = some t → args[j]? = some v → Value.okWide Tryz.prog W .any base t v)
    (hW : DataW.Whole enc Tryz.prog Tryz.f3.params.toList Rows.evolveStepsSpec.vars false W args.toList ds gs before) (hE : Env W) :
    Calls Tryz.prog 3 args W fun e W' => ∃ v, e = .returned v ∧ Rows.evolveStepsSpec.post enc Tryz.prog Tryz.f3 false true false false W args v W' := by
 have hW' := hW; obtain ⟨p, q, hA0, hV, rfl, hfz, hnd⟩ := hW; have hA : DataW.TrodAll enc Tryz.prog W 0 (fun _ => true) true Tryz.f3.params.toList args.toList ds p := hA0; rw [Tryz.params3] at hA hval; obtain ⟨v0, vs0, d0, ds0, p0, q0, hargs, rfl, rfl, h0, r0⟩ := trodAll_cons hA; obtain ⟨v1, vs1, d1, ds1, p1, q1, rfl, rfl, rfl, h1, r1⟩ := trodAll_cons r0; obtain ⟨v2, vs2, d2, ds2, p2, q2, rfl, rfl, rfl, h2, r2⟩ := trodAll_cons r1; obtain ⟨rfl, rfl, rfl⟩ := trodAll_nil r2
 obtain rfl : args = #[v0, v1, v2] := by cases args; simp_all
 obtain ⟨rfl, rfl⟩ := trodVars_none hV; have k0 := h0
 have lt0 : ∀ x ∈ p0, x.block < W.heap.size := by obtain ⟨m, hm⟩ := k0; exact DataW.trod_lt m _ _ _ hm
 obtain ⟨x00, x01, y00, y01, m0, rfl, _, _, t00, t01⟩ := Joins.open_agg2 Tryz.underlying25 (by kernel_rfl) (by kernel_rfl) (hval 0 25 v0 rfl rfl) h0; obtain ⟨A0, n0, c0, l0, e00, ll0, hc0, kc0, ok0, ex0⟩ := open_list_at coV ColIn coV_len (by omega) Tryz.underlying22 cells_col (fun _ _ _ h => col_el h) t00; obtain ⟨B0, nn0, cc0, lb0, e01, llb0, hcb0, kcb0, okb0, exb0⟩ := open_list_at oneI I64 oneI_len (by omega) Tryz.underlying23 cells_int (fun _ _ _ h => int_el h) t01; obtain rfl : x00 = .slice A0 n0 c0 := e00; obtain rfl : x01 = .slice B0 nn0 cc0 := e01; have k1 := h1
 have lt1 : ∀ x ∈ p1, x.block < W.heap.size := by obtain ⟨m, hm⟩ := k1; exact DataW.trod_lt m _ _ _ hm
 obtain ⟨x10, x11, y10, y11, m1, rfl, _, _, t10, t11⟩ := Joins.open_agg2 Tryz.underlying25 (by kernel_rfl) (by kernel_rfl) (hval 1 25 v1 rfl rfl) h1; obtain ⟨A1, n1, c1, l1, e10, ll1, hc1, kc1, ok1, ex1⟩ := open_list_at coV ColIn coV_len (by omega) Tryz.underlying22 cells_col (fun _ _ _ h => col_el h) t10; obtain ⟨B1, nn1, cc1, lb1, e11, llb1, hcb1, kcb1, okb1, exb1⟩ := open_list_at oneI I64 oneI_len (by omega) Tryz.underlying23 cells_int (fun _ _ _ h => int_el h) t11; obtain rfl : x10 = .slice A1 n1 c1 := e10; obtain rfl : x11 = .slice B1 nn1 cc1 := e11; have k2 := h2
 have lt2 : ∀ x ∈ p2, x.block < W.heap.size := by obtain ⟨m, hm⟩ := k2; exact DataW.trod_lt m _ _ _ hm
 obtain ⟨A2, n2, c2, l2, rfl, ll2, hc2, kc2, ok2, ex2⟩ := open_list clV ClIn clV_len (by omega) Tryz.underlying26 cells_cell (fun _ _ _ h => cell_el h) (hval 2 26 v2 rfl rfl) h2; clear hA0
 refine (evolveSteps_walk A0 n0 c0 l0 B0 nn0 cc0 lb0 A1 n1 c1 l1 B1 nn1 cc1 lb1 A2 n2 c2 l2 W ⟨hc0, kc0, ll0, ex0, hcb0, kcb0, llb0, ext_ints exb0, ok0⟩ ⟨hc1, kc1, ll1, ex1, hcb1, kcb1, llb1, ext_ints exb1, ok1⟩ ⟨hc2, kc2, ll2, ex2, ok2⟩ hE).mono fun e W' ⟨he, bel⟩ => ?_
 subst he; exact ⟨_, rfl, _, _, _, [], _, [], hW', trodAll_mk1 (shut_bool Tryz.underlying4 _), (trodAll_cons_mk (Below.trod laidOut (by kernel_rfl) (of_decide_eq_true (by kernel_rfl)) k0 bel lt0) (trodAll_cons_mk (Below.trod laidOut (by kernel_rfl) (of_decide_eq_true (by kernel_rfl)) k1 bel lt1) (trodAll_cons_mk (Below.trod laidOut (by kernel_rfl) (of_decide_eq_true (by kernel_rfl)) k2 bel lt2) trodAll_mk0))), rfl, bel.frame _, fun h => by cases h⟩
theorem laid_met (os : Os) : laidMet Tryz.prog Rows.evolveStepsRow.laid ((laidWorld os).forCall (fun _ _ => 0) ⟨#[], #[Value.agg #[Value.slice none 0 0, Value.slice none 0 0], Value.agg #[Value.slice none 0 0, Value.slice none 0 0], Value.slice none 0 0], []⟩).memory :=
  laidMet_of_run' 8 (by kernel_rfl) (by kernel_rfl)
theorem reads (os : Os) {H : Type} (enc : TypeId × Value → H) : ∃ places, DataW.whole enc Tryz.prog ((laidWorld os).forCall (fun _ _ => 0) ⟨#[], #[Value.agg #[Value.slice none 0 0, Value.slice none 0 0], Value.agg #[Value.slice none 0 0, Value.slice none 0 0], Value.slice none 0 0], []⟩).memory Tryz.f3.params.toList Rows.evolveStepsSpec.vars false (#[Value.agg #[Value.slice none 0 0, Value.slice none 0 0], Value.agg #[Value.slice none 0 0, Value.slice none 0 0], Value.slice none 0 0] : Array Value).toList 8 = some ([.agg [.nil, .nil], .agg [.nil, .nil], .nil], [], places) :=
  ⟨[], by kernel_rfl⟩
theorem lifted (os : Os) (started : os.Started) (H : Type) (enc : TypeId × Value → H) (F : Stop.Interp) :
    ReturnsInHanded {} Tryz.checked os 3 .any ((OpenSpec.ofChange Rows.evolveStepsSpec).preRow enc Tryz.prog Tryz.f3 Rows.evolveStepsRow.domain false Rows.evolveStepsRow.laid) (((OpenSpec.ofChange Rows.evolveStepsSpec).at F).post enc Tryz.prog Tryz.f3 false true false false) := by
 obtain ⟨places, hx⟩ := reads os enc
 refine returnsInHanded_of_row (C := Tryz.checked) (s := OpenSpec.ofChange Rows.evolveStepsSpec) own started (by kernel_rfl) Tryz.func3
   (witness_row_at (enc := enc) (C := Tryz.checked) false (laidWorld os) #[Value.agg #[Value.slice none 0 0, Value.slice none 0 0], Value.agg #[Value.slice none 0 0, Value.slice none 0 0], Value.slice none 0 0] rfl (by kernel_rfl) (by kernel_rfl) (by kernel_rfl)
     (OpenSpec.preRow_of_cond 8 hx (by kernel_rfl) (fun k hk => by cases hk) (by kernel_rfl) (laid_met os))) ?_
 intro W base args ds gs before hval hW _ _ _ hL hsh _
 exact contract H enc W base args ds gs before hval hW (env_of hL hsh)
set_option maxHeartbeats 8000000 in
theorem said : Rows.EvolveStepsSaid :=
  OpenClaim.holds_of_cond 3 Tryz.f3 rfl rfl rfl rfl rfl rfl rfl ⟨rfl, rfl, rfl, rfl, rfl⟩ rfl rfl rfl rfl rfl (by as_aux_lemma => kernel_rfl) Tryz.func3 (by simp only [joinedFacts, Bool.and_eq_true]; (repeat' apply And.intro); all_goals (as_aux_lemma => kernel_rfl))
    (of_decide_eq_true (by as_aux_lemma => kernel_rfl)) (by unfold Func.isWrapper; first | (rw [if_pos (by decide +kernel)]; kernel_rfl) | (rw [if_neg (by decide +kernel)]; exact ⟨rfl, rfl⟩))
    (fun os started H enc _ F => by rw [OpenClaim.pre_eq_preRow]; exact lifted os started H enc F)
theorem plain (f : FuncId) (fn : Func) (hf : Tryz.pinned.checked.prog.funcNamed Rows.evolveStepsRow.func = some f) (hfn : Tryz.pinned.checked.prog.funcs[f]? = some fn) :
    true = Tryz.pinned.checked.prog.looks [] ∧ ∀ (j : Nat) t, fn.params[j]? = some t → Tryz.pinned.checked.prog.wantsStandIn t = false := by
 obtain rfl : f = 3 := Option.some.inj ((show Tryz.prog.funcNamed Rows.evolveStepsRow.func = some 3 by kernel_rfl).symm.trans hf) |>.symm; obtain rfl : fn = Tryz.f3 := (Option.some.inj (Tryz.func3.symm.trans hfn)).symm; refine ⟨by kernel_rfl, fun j t ht => ?_⟩; rw [Tryz.params3] at ht; have hmem := Array.mem_of_getElem? ht
 have hm2 : t = 25 ∨ t = 26 := by simpa using hmem
 rcases hm2 with rfl | rfl
 · exact (show Tryz.prog.wantsStandIn 25 = false by kernel_rfl)
 · exact (show Tryz.prog.wantsStandIn 26 = false by kernel_rfl)
theorem card : Rows.EvolveStepsCardSaid :=
  Claim7.holds_tied_plain_at .later [] _ _ _ _ said (fun _ h => by cases h) (by kernel_rfl) (fun _ h => by cases h) evolveSteps_row_tie rfl ⟨rfl, rfl⟩ (by kernel_rfl) rfl plain (by kernel_rfl)
end Go.Proofs.YtikpmmipopmjaaaGreatDoor.evolveSteps
