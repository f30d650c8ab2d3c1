/- Schemas: a copy. -/
import Derived.Test.YtikpmmipopmjaaaGreatDoorYQs
set_option linter.unusedVariables false
set_option linter.unusedSimpArgs false
namespace Go.Proofs.YtikpmmipopmjaaaGreatDoor
open Go.RowKit Go.Ms Go.Lib
theorem two_box {w : World} {b : Nat} {x y : Value} {T : TypeId} (h : w.heap[b]? = some (.cells #[x, y] T (0, 0))) (p q : Value) : ((w.setCell ⟨b, 0, none⟩ p).setCell ⟨b, 1, none⟩ q).heap[b]? = some (.cells #[p, q] T (0, 0)) := by
 simp [World.setCell, Array.getElem?_modify, h]
set_option maxRecDepth 100000 in
set_option maxHeartbeats 4000000 in
theorem rsccopy_any (w : World) (A B : Option Addr) (n cap m capm : Nat) (cs : List Co) (ks : List Int) (h1 : n ≤ 100000) (h2 : m ≤ 100000) (hn : n = cs.length) (hm : m = ks.length)
    (hA : Lay w w.heap.size A (colV cs)) (hB : Lay w w.heap.size B (intV ks)) :
    Calls Tryz.prog 13 #[.agg #[.slice A n cap, .slice B m capm]] w fun e w' => ∃ A' c' B' d', e = .returned (.agg #[.slice A' n c', .slice B' m d']) ∧ OwnCo w' w.heap.size 59 (.slice A' n c') cs ∧ OwnI w' w.heap.size 3 (.slice B' m d') ks ∧ Below w.heap.size w w' := by
 obtain ⟨X, hX⟩ : ∃ X, X = (w.alloc (.cells #[.slice A n cap, .slice B m capm] 25)).alloc (.cells #[.slice none 0 0, .slice none 0 0] 25) := ⟨_, rfl⟩
 have P1 : X.heap[w.heap.size]? = some (.cells #[.slice A n cap, .slice B m capm] 25 (0, 0)) := by rw [hX]; exact bx_ (block_new _ _) _
 have P2 : X.heap[w.heap.size + 1]? = some (.cells #[.slice none 0 0, .slice none 0 0] 25 (0, 0)) := by rw [hX]; have := block_new (w.alloc (.cells #[.slice A n cap, .slice B m capm] 25)) (.cells #[.slice none 0 0, .slice none 0 0] 25); rw [World.size_alloc] at this; exact this
 have hXs : X.heap.size = w.heap.size + 2 := by rw [hX]; rw [World.size_alloc, World.size_alloc]
 have bX : Below w.heap.size w X := by rw [hX]; exact ((Below.refl _ w).alloc le_ _).alloc (by rw [World.size_alloc]; omega) _
 have hc : Calls Tryz.prog 36 #[.slice A n cap] X.drew fun e w' => ∃ A' c', e = .returned (.slice A' n c') ∧ OwnCo w' X.heap.size 59 (.slice A' n c') cs ∧ Below X.heap.size X w' := by
  refine (copycols_any X.drew A n cap (colV cs) h1 (by rw [colV_len]; omega) (Lay.ext (hA.below bX.drew |>.more bX.size)) (colV_one _)).mono ?_; rintro e w' ⟨v, rfl, ho, hb⟩
  have ho : OwnCo w' X.heap.size 59 v cs := by unfold OwnCo; rw [← hn]; exact ho
  obtain ⟨A', c', rfl, _⟩ := yown_slice ho; have e1 := (OwnCo.lay ho).1; exact ⟨A', c', by rw [hn], by rw [hn]; exact ho, ((Below.refl X.heap.size X).drew).trans hb⟩
 have hi := fun (w' : World) (hb : Below w.heap.size w w') => copyints_any w' B m capm ks h2 hm.symm (Lay.ext ((hB.below hb).more hb.size))
 have HI := hh_ hi; have HC := hh_ hc; have BX := hh_ bX; have H1 := hh_ P1; have H2 := hh_ P2; have HS := hh_ hXs; have HM := hh_ hm
 clear hc hi hA hB hn hm h1 h2 bX P1 P2 hXs
 go_enter Tryz.func13, Tryz.ntmps13
 go_wp2_with fail
 rw [← hX]; clear hX; have c0 := cb_ 0 (w := X.drew) H1.out rfl; have c1 := cb_ 1 (w := X.drew) H1.out rfl; have e1 := cb_ 0 (w := X) H1.out rfl; have e2 := cb_ 1 (w := X) H1.out rfl
 go_region_with (first
   | (go_at_call 36; refine HC.out.mono ?_; rintro en w1 ⟨A1, k1, rfl, o1, b1⟩; have d1 := cb_ 1 (bk_ H1.out b1) rfl; have O1 := hh_ o1; have B1 := hh_ b1; clear o1 b1)
   | (go_at_call 37; refine (HI.out _ (BX.out.trans (B1.out.mono BX.out.size))).mono ?_; rintro en w2 ⟨v2, rfl, o2, b2⟩; obtain ⟨A2, k2, rfl, -, -⟩ := yown_slice o2; have q2 := bk_ (bk_ H2.out B1.out) b2; have f0 := cb_ 0 q2 rfl; have f1 := cb_ 1 q2 rfl; have g0 : w2.frozen? ⟨w.heap.size + 1, 0, none⟩ = false := (by simp [World.frozen?, q2]); have g1 : w2.frozen? ⟨w.heap.size + 1, 1, none⟩ = false := (by simp [World.frozen?, q2]); have O2 := hh_ o2; have B2 := hh_ b2; have Q2 := hh_ q2; clear o2 b2 q2))
 all_goals go_wp2_with fail
 all_goals
  have z := two_box Q2.out (.slice A1 n k1) (.slice A2 ks.length k2); have z0 := cb_ 0 z rfl; have z1 := cb_ 1 z rfl; have o1 : OwnCo ((w2.setCell ⟨w.heap.size + 1, 0, none⟩ (.slice A1 n k1)).setCell ⟨w.heap.size + 1, 1, none⟩ (.slice A2 ks.length k2)) X.heap.size 59 (.slice A1 n k1) cs := own_set (own_set (own_below O1.out B2.out) (by have := HS.out; omega) _) (by have := HS.out; omega) _
  have o2 : OwnI ((w2.setCell ⟨w.heap.size + 1, 0, none⟩ (.slice A1 n k1)).setCell ⟨w.heap.size + 1, 1, none⟩ (.slice A2 ks.length k2)) w1.heap.size 3 (.slice A2 ks.length k2) ks := own_set (own_set O2.out (by have := HS.out; have := B1.out.size; omega) _) (by have := HS.out; have := B1.out.size; omega) _
  have bw : Below w.heap.size w ((w2.setCell ⟨w.heap.size + 1, 0, none⟩ (.slice A1 n k1)).setCell ⟨w.heap.size + 1, 1, none⟩ (.slice A2 ks.length k2)) := ((BX.out.trans (B1.out.mono BX.out.size)).trans (B2.out.mono (by have := BX.out.size; have := B1.out.size; omega))).setCell (p := ⟨w.heap.size + 1, 0, none⟩) (by simp) _ |>.setCell (p := ⟨w.heap.size + 1, 1, none⟩) (by simp) _; have O1' := hh_ (own_more o1 BX.out.size); have O2' := hh_ (own_more o2 (by have := BX.out.size; have := B1.out.size; omega : w.heap.size ≤ w1.heap.size)); have BW := hh_ bw; clear o1 o2 bw z
  generalize (w2.setCell ⟨w.heap.size + 1, 0, none⟩ (.slice A1 n k1)).setCell ⟨w.heap.size + 1, 1, none⟩ (.slice A2 ks.length k2) = W3 at z0 z1 O1' O2' BW ⊢
  refine bodyPost_ret (v := .agg #[.slice A1 n k1, .slice A2 ks.length k2]) (by simp [results, Tryz.results13, go_sem, z0, z1]) rfl ?_; rw [HM.out]; exact ⟨_, _, _, _, rfl, O1'.out, O2'.out, BW.out⟩
end Go.Proofs.YtikpmmipopmjaaaGreatDoor
