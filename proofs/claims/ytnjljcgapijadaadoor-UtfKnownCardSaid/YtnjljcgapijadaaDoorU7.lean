/- Runes spelt as a literal, each in one of its ways, as plain functions; each way is a part (or two halves) that says the rune. -/
import Derived.Test.YtnjljcgapijadaaDoorU2
import Derived.Test.YtnjljcgapijadaaDoorL3
set_option linter.unusedVariables false
namespace Go.Ms
open Go.Lib
open Go.Proofs.YtnjljcgapijadaaDoor (oneD oneD_rune textD fourD)

def shortS : Bs := [34, 92, 47, 8, 12, 10, 13, 9]
def shortT : Bs := [34, 92, 47, 98, 102, 110, 114, 116]
/-- The short escape of one of the first n. -/
def scanD (b : Bs) : Nat → Bs
  | 0 => []
  | n + 1 => if b = [shortS.getD n 0] then [92, shortT.getD n 0] else scanD b n
def digsD (k : Int) : Bs := if k % 2 = 0 then [48, 49, 50, 51, 52, 53, 54, 55, 56, 57, 97, 98, 99, 100, 101, 102] else [48, 49, 50, 51, 52, 53, 54, 55, 56, 57, 65, 66, 67, 68, 69, 70]
def pieceD (r k : Int) : Bs :=
  if k = 3 ∧ scanD (encodeRune r) 8 ≠ [] then scanD (encodeRune r) 8
  else if 2 ≤ k ∧ 32 ≤ r ∧ r ≠ 34 ∧ r ≠ 92 then encodeRune r
  else if r < 65536 then fourD (digsD k) r
  else fourD (digsD k) (55296 + (r - 65536) / 1024) ++ fourD (digsD k) (56320 + (r - 65536) % 1024)
/-- How the rune at a place is spelt. -/
def kD (how : List Int) (lenh i : Nat) : Int := if lenh = 0 then 0 else how.getD (i % lenh) 0 % 4
def bodyD (zs how : List Int) (lenh : Nat) : Nat → Bs
  | 0 => []
  | n + 1 => bodyD zs how lenh n ++ pieceD (oneD (zs.getD n 0)) (kD how lenh n)
theorem kD_bd (how : List Int) (lenh i : Nat) : 0 ≤ kD how lenh i ∧ kD how lenh i < 4 := by
  unfold kD; split <;> omega
theorem scan_cases (b : Bs) : ∀ n, scanD b n = [] ∨ ∃ c, c < n ∧ b = [shortS.getD c 0] ∧ scanD b n = [92, shortT.getD c 0]
  | 0 => .inl rfl
  | n + 1 => by
    unfold scanD
    split
    · exact .inr ⟨n, by omega, by assumption, rfl⟩
    · rcases scan_cases b n with h | ⟨c, h1, h2, h3⟩
      · exact .inl h
      · exact .inr ⟨c, by omega, h2, h3⟩
theorem digs_hex (k : Int) : ∀ x : Nat, x < 16 → hexv (((digsD k).getD x 0).toNat : Int) = (x : Int) := by
  have a : ∀ x : Fin 16, hexv ((([48, 49, 50, 51, 52, 53, 54, 55, 56, 57, 97, 98, 99, 100, 101, 102] : Bs).getD x.val 0).toNat : Int) = (x.val : Int) := by decide
  have b : ∀ x : Fin 16, hexv ((([48, 49, 50, 51, 52, 53, 54, 55, 56, 57, 65, 66, 67, 68, 69, 70] : Bs).getD x.val 0).toNat : Int) = (x.val : Int) := by decide
  intro x hx
  unfold digsD
  split
  · exact a ⟨x, hx⟩
  · exact b ⟨x, hx⟩
theorem digs_at (k x : Int) (h0 : 0 ≤ x) (h1 : x < 16) : hexv (((digsD k).getD x.toNat 0).toNat : Int) = x := by
  rw [digs_hex k x.toNat (by omega)]; omega
theorem four_part (k : Int) {r : Int} (h : isRune r = true) (h1 : r < 65536) : Part (fourD (digsD k) r) (encodeRune r) := by
  have hb := (isRune_iff r).1 h
  have e1 := digs_at k (r / 4096) (by omega) (by omega)
  have e2 := digs_at k (r / 256 % 16) (by omega) (by omega)
  have e3 := digs_at k (r / 16 % 16) (by omega) (by omega)
  have e4 := digs_at k (r % 16) (by omega) (by omega)
  have hn : num4 (hexv (((digsD k).getD (r / 4096).toNat 0).toNat : Int)) (hexv (((digsD k).getD (r / 256 % 16).toNat 0).toNat : Int)) (hexv (((digsD k).getD (r / 16 % 16).toNat 0).toNat : Int)) (hexv (((digsD k).getD (r % 16).toNat 0).toNat : Int)) = r := by
    rw [e1, e2, e3, e4]; unfold num4; omega
  have := Part.four ((digsD k).getD (r / 4096).toNat 0) ((digsD k).getD (r / 256 % 16).toNat 0) ((digsD k).getD (r / 16 % 16).toNat 0) ((digsD k).getD (r % 16).toNat 0)
    (by rw [e1]; omega) (by rw [e2]; omega) (by rw [e3]; omega) (by rw [e4]; omega)
    (by rw [e1, e2]; exact ⟨by simp, (decide_eq_false (by omega)).symm⟩) (by rw [hn]; omega)
  rwa [hn] at this
theorem pair_part (k : Int) {r : Int} (h : isRune r = true) (h1 : 65536 ≤ r) :
    Part (fourD (digsD k) (55296 + (r - 65536) / 1024) ++ fourD (digsD k) (56320 + (r - 65536) % 1024)) (encodeRune r) := by
  have hb := (isRune_iff r).1 h
  obtain ⟨a, ha⟩ : ∃ a, 55296 + (r - 65536) / 1024 = a := ⟨_, rfl⟩
  obtain ⟨b, hb2⟩ : ∃ b, 56320 + (r - 65536) % 1024 = b := ⟨_, rfl⟩
  have hr : 65536 + (a - 55296) * 1024 + b - 56320 = r := by omega
  have ba : 55296 ≤ a ∧ a < 56320 := by omega
  have bb : 56320 ≤ b ∧ b ≤ 57343 := by omega
  rw [ha, hb2]
  clear ha hb2
  have e1 := digs_at k (a / 4096) (by omega) (by omega)
  have e2 := digs_at k (a / 256 % 16) (by omega) (by omega)
  have e3 := digs_at k (a / 16 % 16) (by omega) (by omega)
  have e4 := digs_at k (a % 16) (by omega) (by omega)
  have f1 := digs_at k (b / 4096) (by omega) (by omega)
  have f2 := digs_at k (b / 256 % 16) (by omega) (by omega)
  have f3 := digs_at k (b / 16 % 16) (by omega) (by omega)
  have f4 := digs_at k (b % 16) (by omega) (by omega)
  have hn : num4 (hexv (((digsD k).getD (a / 4096).toNat 0).toNat : Int)) (hexv (((digsD k).getD (a / 256 % 16).toNat 0).toNat : Int)) (hexv (((digsD k).getD (a / 16 % 16).toNat 0).toNat : Int)) (hexv (((digsD k).getD (a % 16).toNat 0).toNat : Int)) = a := by
    rw [e1, e2, e3, e4]; unfold num4; omega
  have hm : num4 (hexv (((digsD k).getD (b / 4096).toNat 0).toNat : Int)) (hexv (((digsD k).getD (b / 256 % 16).toNat 0).toNat : Int)) (hexv (((digsD k).getD (b / 16 % 16).toNat 0).toNat : Int)) (hexv (((digsD k).getD (b % 16).toNat 0).toNat : Int)) = b := by
    rw [f1, f2, f3, f4]; unfold num4; omega
  have := Part.pair ((digsD k).getD (a / 4096).toNat 0) ((digsD k).getD (a / 256 % 16).toNat 0) ((digsD k).getD (a / 16 % 16).toNat 0) ((digsD k).getD (a % 16).toNat 0)
    ((digsD k).getD (b / 4096).toNat 0) ((digsD k).getD (b / 256 % 16).toNat 0) ((digsD k).getD (b / 16 % 16).toNat 0) ((digsD k).getD (b % 16).toNat 0)
    (by rw [e1]; omega) (by rw [e2]; omega) (by rw [e3]; omega) (by rw [e4]; omega) (by rw [f1]; omega) (by rw [f2]; omega) (by rw [f3]; omega) (by rw [f4]; omega)
    (by rw [e1, e2]; exact ⟨by simp, (decide_eq_false (by omega)).symm⟩) (by rw [hn]; exact ba)
    (by rw [f1, f2]; exact ⟨by simp; omega, (decide_eq_true (by omega)).symm⟩)
  rw [hn, hm, hr] at this
  exact this
theorem short_part : ∀ c : Fin 8, Part [92, shortT.getD c.val 0] [shortS.getD c.val 0]
  | 0 => .short 34 34 rfl
  | 1 => .short 92 92 rfl
  | 2 => .slash
  | 3 => .short 98 8 rfl
  | 4 => .short 102 12 rfl
  | 5 => .short 110 10 rfl
  | 6 => .short 114 13 rfl
  | 7 => .short 116 9 rfl
theorem piece_part {r : Int} (k : Int) (h : isRune r = true) : Part (pieceD r k) (encodeRune r) := by
  unfold pieceD
  split
  · rename_i hc
    rcases scan_cases (encodeRune r) 8 with e | ⟨c, h1, h2, h3⟩
    · exact absurd e hc.2
    · rw [h3, h2]; exact short_part ⟨c, h1⟩
  split
  · rename_i _ hc; exact .rune r h hc.2.1 hc.2.2.1 hc.2.2.2
  split
  · exact four_part k h (by assumption)
  · exact pair_part k h (by omega)
theorem body_lits (zs how : List Int) (lenh : Nat) : ∀ n, n ≤ zs.length → ∃ m, Lits m (bodyD zs how lenh n) (textD (zs.take n))
  | 0, _ => ⟨0, .nil⟩
  | n + 1, h => by
    obtain ⟨m, hm⟩ := body_lits zs how lenh n (by omega)
    rw [Go.Proofs.YtnjljcgapijadaaDoor.take_snoc (by omega), Go.Proofs.YtnjljcgapijadaaDoor.textD_snoc]
    exact hm.app (Lits.one (piece_part (kD how lenh n) (oneD_rune _)))
theorem piece_len (r k : Int) : (pieceD r k).length ≤ 12 := by
  unfold pieceD
  split
  · rcases scan_cases (encodeRune r) 8 with e | ⟨c, h1, h2, h3⟩
    · rw [e]; simp
    · rw [h3]; simp
  split
  · have := (encodeRune_length r).2; omega
  split
  · simp [fourD]
  · simp [fourD]
theorem body_len (zs how : List Int) (lenh : Nat) : ∀ n, (bodyD zs how lenh n).length ≤ 12 * n
  | 0 => by simp [bodyD]
  | n + 1 => by
    have h := body_len zs how lenh n
    have h2 := piece_len (oneD (zs.getD n 0)) (kD how lenh n)
    unfold bodyD
    rw [List.length_append]; omega
end Go.Ms
