/- The reference's Valid. -/
import Derived.Test.YtnjljcgapijadaaDoorR2
import Derived.Test.YtnjljcgapijadaaDoorPs
set_option linter.unusedVariables false
namespace Go.Proofs.YtnjljcgapijadaaDoor
open Go.RowKit Go.Ms Go.Lib

def strSize : Value → Nat
  | .string s => s.size
  | _ => 0

set_option maxHeartbeats 400000 in
theorem rvalid_any (s0 : ByteArray) (w : World) (hs : s0.size ≤ 1000000) :
    Calls Tryd.prog 18 #[.string s0] w fun e w' => e = .returned (.bool (validD s0.data.toList)) ∧ Below w.heap.size w w' := by
  obtain ⟨V, hV⟩ : ∃ V, validD s0.data.toList = V := ⟨_, rfl⟩
  rw [hV]
  have HV := Lib.hid hV
  clear hV
  go_enter Tryd.func18, Tryd.ntmps18
  go_wp2
  go_loopw [0] (fun x wr => ∃ s : ByteArray, x = .string s ∧ s.size ≤ 1000000 ∧ Hid (validD s.data.toList = V) ∧ Below w.heap.size w wr) (fun x _ => strSize x)
  case atStart => exact ⟨s0, rfl, hs, HV, Below.refl _ _⟩
  case round =>
    obtain ⟨s, rfl, hsz, hv, hb⟩ := hrel
    have hl : s.data.toList.length = s.size := by simp
    by_cases h0 : s.size = 0
    · have hnil : s.data.toList = [] := List.eq_nil_of_length_eq_zero (by omega)
      have hvt : V = true := by rw [← hv.out, hnil]; rfl
      subst hvt
      have hlt : ¬ (0 : Int) < (s.size : Int) := by omega
      clear hnil h0
      go_wp2_with fail
      go_ret
      exact ⟨rfl, hb⟩
    · have hne : s.data.toList ≠ [] := by intro e; rw [e] at hl; simp at hl; omega
      have hlt : (0 : Int) < (s.size : Int) := by omega
      have hv1 := hv.out
      rw [valid_next _ hne] at hv1
      have cn := fun w => rnext_any s w hsz
      rcases next_cases s.data.toList with e | ⟨r, h1, h2, h3⟩
      · rw [e] at cn hv1
        simp at hv1
        subst hv1
        have CN := Lib.hid cn
        clear cn e hne hl h0 hv
        go_wp2_with fail
        refine (CN.out _).mono ?_
        rintro en w1 ⟨rfl, b1⟩
        go_wp2_with fail
        go_ret
        exact ⟨rfl, hb.trans (b1.mono hb.size)⟩
      · rw [h2] at cn hv1
        simp only [if_true] at hv1
        have hle := encodeRune_length r
        have hll := congrArg List.length h3
        rw [List.length_append, List.length_drop] at hll
        generalize (encodeRune r).length = n at *
        have hn : n ≤ s.size := by omega
        have hext : (s.extract n s.size).data.toList = s.data.toList.drop n := by rw [ext_list, List.take_of_length_le (by omega)]
        rw [← hext] at hv1
        have hz : (s.extract n s.size).size = s.size - n := by simp
        have hv' := Lib.hid hv1
        have hz' := Lib.hid hz
        have CN := Lib.hid cn
        have hn1 := hle.1
        have hni : (n : Int) ≤ (s.size : Int) := by omega
        clear cn h2 h3 hne hl hv hext hv1 hz h1 h0 hll hle
        go_wp2_with fail
        refine (CN.out _).mono ?_
        rintro en w1 ⟨rfl, b1⟩
        go_wp2_with fail
        go_roundw
        case rel => exact ⟨_, rfl, by rw [hz'.out]; omega, hv', hb.trans (b1.mono hb.size)⟩
        case measure => simp only [strSize]; rw [hz'.out]; omega
end Go.Proofs.YtnjljcgapijadaaDoor
