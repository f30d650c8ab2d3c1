import Derived.Test.YtnjljcgapijadaaDoorL1
import Derived.Test.YtnjljcgapijadaaDoorPo
set_option linter.unusedVariables false
namespace Go.Proofs.YtnjljcgapijadaaDoor
open Go.RowKit Go.Ms Go.Lib

theorem utfOrder_walk (x y : Int) (w : World) (hx : (Lit.int .i64 x).wf = true) (hy : (Lit.int .i64 y).wf = true) (hT : Tabs w) :
    Calls Tryd.prog 10 #[.int .i64 x, .int .i64 y] w fun e w' => e = .returned (.bool true) ∧ Below w.heap.size w w' := by
  have hxb : -9223372036854775808 ≤ x ∧ x ≤ 9223372036854775807 := by simpa [Lit.wf, IntKind.min, IntKind.max, IntKind.signed, IntKind.bits] using hx
  have hyb : -9223372036854775808 ≤ y ∧ y ≤ 9223372036854775807 := by simpa [Lit.wf, IntKind.min, IntKind.max, IntKind.signed, IntKind.bits] using hy
  have c1 := fun w => one_any x w hxb.1 hxb.2
  have c2 := fun w => one_any y w hyb.1 hyb.2
  have bx := oneD_bd x
  have hby := oneD_bd y
  have rx := oneD_rune x
  have ry := oneD_rune y
  have hless := less_enc _ _ rx ry
  have heq := eq_enc _ _ rx ry
  rw [← put_rune rx, ← put_rune ry] at hless heq
  generalize oneD x = a at *
  generalize oneD y = b at *
  have p1 := fun w => put_any a (by omega) (by omega) w
  have p2 := fun w => put_any b (by omega) (by omega) w
  rw [rx] at p1
  rw [ry] at p2
  have C1 := Lib.hid c1; have C2 := Lib.hid c2; have P1 := Lib.hid p1; have P2 := Lib.hid p2
  have RX := Lib.hid rx; have RY := Lib.hid ry
  clear c1 c2 p1 p2 hx hy hxb hyb rx ry
  go_enter Tryd.func10, Tryd.ntmps10
  go_wp2_with fail
  refine (C1.out _).mono ?_
  rintro en w1 ⟨rfl, rfl⟩
  go_wp2_with fail
  refine (P1.out _).mono ?_
  rintro en w1 ⟨rfl, b1⟩
  go_wp2_with fail
  refine (C2.out _).mono ?_
  rintro en w2 ⟨rfl, rfl⟩
  go_wp2_with fail
  refine (P2.out _).mono ?_
  rintro en w2 ⟨rfl, b2⟩
  go_wp2_with fail
  refine (C1.out _).mono ?_
  rintro en w3 ⟨rfl, rfl⟩
  go_wp2_with fail
  refine (C2.out _).mono ?_
  rintro en w3 ⟨rfl, rfl⟩
  go_wp2_with fail
  refine (C1.out _).mono ?_
  rintro en w4 ⟨rfl, rfl⟩
  go_wp2_with fail
  refine (C2.out _).mono ?_
  rintro en w4 ⟨rfl, rfl⟩
  go_wp2_with fail
  refine (works_any _ (tabs_below (tabs_below hT b1) b2)).mono ?_
  rintro en w4 ⟨rfl, b3⟩
  go_wp2_with fail
  go_ret
  exact ⟨rfl, (b1.trans (b2.mono b1.size)).trans (b3.mono (b1.trans (b2.mono b1.size)).size)⟩
end Go.Proofs.YtnjljcgapijadaaDoor
