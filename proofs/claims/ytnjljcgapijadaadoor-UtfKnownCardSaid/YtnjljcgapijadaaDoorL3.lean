/- four: an escape of four digits; spelt: runes as a literal, each in one of its ways. -/
import Derived.Test.YtnjljcgapijadaaDoorL2
set_option linter.unusedVariables false
namespace Go.Proofs.YtnjljcgapijadaaDoor
open Go.RowKit Go.Ms Go.Lib

theorem ext_one (d : ByteArray) (x : Int) (h0 : 0 ≤ x) (h1 : x < (d.size : Int)) : d.extract x.toNat (x + 1).toNat = ⟨#[d.data.toList.getD x.toNat 0]⟩ := by
  apply ba_ext
  rw [ext_list, show (x + 1).toNat = x.toNat + 1 by omega]
  have hl : x.toNat < d.data.toList.length := by simp; omega
  rw [List.drop_take, show x.toNat + 1 - x.toNat = 1 by omega, List.drop_eq_getElem_cons hl, List.getD_eq_getElem?_getD, List.getElem?_eq_getElem hl]
  rfl
/-- An escape of a number in some digits. -/
def fourD (d : Bs) (n : Int) : Bs := [92, 117, d.getD (n / 4096).toNat 0, d.getD (n / 256 % 16).toNat 0, d.getD (n / 16 % 16).toNat 0, d.getD (n % 16).toNat 0]

set_option maxHeartbeats 1000000 in
theorem four_any (n : Int) (d : ByteArray) (w : World) (h0 : 0 ≤ n) (h1 : n < 65536) (hd : d.size = 16) :
    Calls Tryd.prog 47 #[.int .i64 n, .string d] w fun e w' => e = .returned (.string ⟨(fourD d.data.toList n).toArray⟩) ∧ Below w.heap.size w w' := by
  have x1 := ext_one d (n / 4096) (by omega) (by omega)
  have x2 := ext_one d (n / 256 % 16) (by omega) (by omega)
  have x3 := ext_one d (n / 16 % 16) (by omega) (by omega)
  have x4 := ext_one d (n % 16) (by omega) (by omega)
  have X1 := Lib.hid x1; have X2 := Lib.hid x2; have X3 := Lib.hid x3; have X4 := Lib.hid x4
  have HD := Lib.hid hd
  clear x1 x2 x3 x4
  have t1 : n.tdiv 4096 = n / 4096 := Int.tdiv_eq_ediv_of_nonneg h0
  have t2 : n.tdiv 256 = n / 256 := Int.tdiv_eq_ediv_of_nonneg h0
  have t3 : n.tdiv 16 = n / 16 := Int.tdiv_eq_ediv_of_nonneg h0
  have t4 : n.tmod 16 = n % 16 := Int.tmod_eq_emod_of_nonneg h0
  have t5 : (n / 256).tmod 16 = n / 256 % 16 := Int.tmod_eq_emod_of_nonneg (by omega)
  have t6 : (n / 16).tmod 16 = n / 16 % 16 := Int.tmod_eq_emod_of_nonneg (by omega)
  have v1 : IntKind.i64.wrap (n / 4096 + 1) = n / 4096 + 1 := IntWalk.i64_in _ (by omega)
  have v2 : IntKind.i64.wrap (n / 256 % 16 + 1) = n / 256 % 16 + 1 := IntWalk.i64_in _ (by omega)
  have v3 : IntKind.i64.wrap (n / 16 % 16 + 1) = n / 16 % 16 + 1 := IntWalk.i64_in _ (by omega)
  have v4 : IntKind.i64.wrap (n % 16 + 1) = n % 16 + 1 := IntWalk.i64_in _ (by omega)
  have a1 : 0 ≤ n / 4096 := by omega
  have a2 : 0 ≤ n / 256 % 16 := by omega
  have a3 : 0 ≤ n / 16 % 16 := by omega
  have a4 : 0 ≤ n % 16 := by omega
  have b1 : n / 4096 ≤ n / 4096 + 1 := by omega
  have b2 : n / 256 % 16 ≤ n / 256 % 16 + 1 := by omega
  have b3 : n / 16 % 16 ≤ n / 16 % 16 + 1 := by omega
  have b4 : n % 16 ≤ n % 16 + 1 := by omega
  have c1 : n / 4096 + 1 ≤ (d.size : Int) := by omega
  have c2 : n / 256 % 16 + 1 ≤ (d.size : Int) := by omega
  have c3 : n / 16 % 16 + 1 ≤ (d.size : Int) := by omega
  have c4 : n % 16 + 1 ≤ (d.size : Int) := by omega
  go_enter Tryd.func47, Tryd.ntmps47
  go_wp2_with fail
  go_quiet (fail)
  go_wp2_with fail
  go_ret
  rw [X1.out, X2.out, X3.out, X4.out]
  exact ⟨rfl, below_drewN (Below.refl _ _) _⟩
end Go.Proofs.YtnjljcgapijadaaDoor
