/- text: runes, by a list of numbers. -/
import Derived.Test.YtnjljcgapijadaaDoorL1
set_option linter.unusedVariables false
namespace Go.Proofs.YtnjljcgapijadaaDoor
open Go.RowKit Go.Ms Go.Lib

/-- A slice of integers that came in: nil, or it leads to a row of cells, each fitting its kind. -/
def IsRow (k : IntKind) (w : World) (a : Option Addr) (len cap : Nat) (zs : List Int) : Prop :=
  (a = none ∧ len = 0 ∧ cap = 0 ∧ zs = []) ∨
  ∃ x, a = some x ∧ len ≤ cap ∧ cap ≤ maxLen ∧ zs.length = cap ∧ (∀ i, i < zs.length → w.cell? (x.add i) = some (.int k (zs.getD i 0))) ∧ ∀ n ∈ zs, (Lit.int k n).wf = true

theorem cell_lt {w : World} {p : Addr} {v : Value} (h : w.cell? p = some v) : p.block < w.heap.size := by
  unfold World.cell? at h
  rcases Nat.lt_or_ge p.block w.heap.size with h1 | h1
  · exact h1
  · simp [Array.getElem?_eq_none h1] at h
theorem isrow_below {k : IntKind} {w w' : World} {a : Option Addr} {len cap : Nat} {zs : List Int} (h : IsRow k w a len cap zs) (hb : Below w.heap.size w w') : IsRow k w' a len cap zs := by
  rcases h with h | ⟨x, e, h1, h2, h3, h4, h5⟩
  · exact .inl h
  · exact .inr ⟨x, e, h1, h2, h3, fun i hi => by rw [hb.cell (cell_lt (h4 i hi))]; exact h4 i hi, h5⟩
/-- What a row says to a walk: its length, its numbers, the cell of each. -/
structure RowIn (w : World) (a : Option Addr) (len cap : Nat) (zs : List Int) : Prop where
  le : len ≤ 9223372036854775807
  len_le : len ≤ zs.length
  lo : ∀ n ∈ zs, -9223372036854775808 ≤ n
  hi : ∀ n ∈ zs, n ≤ 9223372036854775807
  at' : ∀ i, i < len → ∃ b o, a = some ⟨b, o, none⟩ ∧ w.cell? ⟨b, o + i, none⟩ = some (.int .i64 (zs.getD i 0))
theorem IsRow.rowIn {w : World} {a : Option Addr} {len cap : Nat} {zs : List Int} (h : IsRow .i64 w a len cap zs) : RowIn w a len cap zs := by
  rcases h with ⟨rfl, rfl, rfl, rfl⟩ | ⟨x, rfl, h1, h2, h3, h4, h5⟩
  · exact ⟨by omega, by omega, fun n h => (by simp at h), fun n h => (by simp at h), fun i h => by omega⟩
  · have h6 : ∀ n ∈ zs, -9223372036854775808 ≤ n ∧ n ≤ 9223372036854775807 := fun n hn => by simpa [Lit.wf, IntKind.min, IntKind.max, IntKind.signed, IntKind.bits] using h5 n hn
    have hm : maxLen ≤ 9223372036854775807 := by decide
    refine ⟨by omega, by omega, fun n hn => (h6 n hn).1, fun n hn => (h6 n hn).2, fun i hi => ?_⟩
    obtain ⟨b, off, spot⟩ := x
    have hc := h4 i (by omega)
    have hc0 := h4 0 (by omega)
    have hspot : spot = none := by simpa [Addr.add] using World.cell?_spot hc0
    subst hspot
    refine ⟨b, off, rfl, ?_⟩
    by_cases hi0 : i = 0
    · subst hi0; simpa [Addr.add] using hc
    · simpa [Addr.add, hi0] using hc
theorem getD_mem {zs : List Int} {i : Nat} (h : i < zs.length) : zs.getD i 0 ∈ zs := by
  rw [List.getD_eq_getElem?_getD, List.getElem?_eq_getElem h]; exact List.getElem_mem h

/-- Runes, by numbers. -/
def textD (l : List Int) : Bs := l.flatMap fun n => encodeRune (oneD n)
theorem textD_len : ∀ l : List Int, (textD l).length ≤ 4 * l.length
  | [] => by simp [textD]
  | a :: t => by
    have h := textD_len t
    have := (encodeRune_length (oneD a)).2
    unfold textD at h ⊢
    simp only [List.flatMap_cons, List.length_append, List.length_cons]; omega
theorem textD_snoc (l : List Int) (x : Int) : textD (l ++ [x]) = textD l ++ encodeRune (oneD x) := by simp [textD]
theorem take_snoc {zs : List Int} {i : Nat} (h : i < zs.length) : zs.take (i + 1) = zs.take i ++ [zs.getD i 0] := by
  rw [List.take_add_one, List.getElem?_eq_getElem h, List.getD_eq_getElem?_getD, List.getElem?_eq_getElem h]; rfl
theorem str_app (a b : Bs) : (⟨a.toArray⟩ : ByteArray) ++ ⟨b.toArray⟩ = ⟨(a ++ b).toArray⟩ := by
  apply ba_ext; simp

set_option maxHeartbeats 400000 in
theorem text_any (a : Option Addr) (len cap : Nat) (zs : List Int) (w : World) (h : RowIn w a len cap zs) :
    Calls Tryd.prog 24 #[.slice a len cap] w fun e w' => e = .returned (.string ⟨(textD (zs.take (min len 60))).toArray⟩) ∧ Below w.heap.size w w' := by
  have hle := h.le
  have hle2 := h.len_le
  have H := Lib.hid h
  clear h
  go_enter Tryd.func24, Tryd.ntmps24
  go_wp2
  go_loopw [3, 4] (fun s i wr => ∃ k : Nat, k ≤ min len 60 ∧ i = .int .i64 k ∧ s = .string ⟨(textD (zs.take k)).toArray⟩ ∧ Below w.heap.size w wr) (fun _ i _ => 60 - (RowKit.intOf i).toNat)
  case atStart => exact ⟨0, by omega, rfl, rfl, Below.refl _ _⟩
  case round =>
    obtain ⟨k, hk, rfl, rfl, hb⟩ := hrel
    by_cases hlt : k < len ∧ k < 60
    · obtain ⟨hl1, hl2⟩ := hlt
      obtain ⟨bb, off, rfl, hc⟩ := H.out.at' k hl1
      rw [← hb.cell (cell_lt hc)] at hc
      have hz := getD_mem (zs := zs) (i := k) (by omega)
      have z0 := H.out.lo _ hz
      have z1 := H.out.hi _ hz
      have ht := take_snoc (zs := zs) (i := k) (by omega)
      have hs := textD_snoc (zs.take k) (zs.getD k 0)
      rw [← ht] at hs
      have hlen := textD_len (zs.take k)
      have hlen2 : (zs.take k).length ≤ 60 := by rw [List.length_take]; omega
      have hbd := oneD_bd (zs.getD k 0)
      have hr := oneD_rune (zs.getD k 0)
      have hp4 : (put (oneD (zs.getD k 0))).length ≤ 4 := by rw [put_rune hr]; exact (encodeRune_length _).2
      have hL : (textD (zs.take k)).length + (put (oneD (zs.getD k 0))).length ≤ 9223372036854775807 := by omega
      have HS := Lib.hid hs
      have HR := Lib.hid hr
      clear hs ht hr hz hlen hlen2 hp4
      generalize hx : zs.getD k 0 = x at *
      have c1 := fun w => one_any x w z0 z1
      have c2 := fun w => put_any (oneD x) (by omega) (by omega) w
      have C1 := Lib.hid c1; have C2 := Lib.hid c2
      clear c1 c2
      go_wp2_with fail
      refine (C1.out _).mono ?_
      rintro en w1 ⟨rfl, rfl⟩
      go_wp2_with fail
      refine (C2.out _).mono ?_
      rintro en w1 ⟨rfl, b1⟩
      go_wp2_with fail
      go_roundw
      case rel => exact ⟨k + 1, by omega, by go_num, by rw [HS.out, put_rune HR.out, str_app], hb.trans (b1.mono hb.size)⟩
      case measure => simp [RowKit.intOf]; omega
    · have hkk : k = min len 60 := by omega
      rcases (by omega : len ≤ k ∨ (k < len ∧ 60 ≤ k)) with hl | ⟨hl, hl2⟩
      · have hl3 : ¬ ((k : Int) < (len : Int)) := by omega
        go_wp2_with fail
        go_ret
        rw [← hkk]
        exact ⟨rfl, hb⟩
      · have hl3 : ((k : Int) < (len : Int)) := by omega
        have hl4 : ¬ ((k : Int) < 60) := by omega
        go_wp2_with fail
        go_ret
        rw [← hkk]
        exact ⟨rfl, hb⟩
end Go.Proofs.YtnjljcgapijadaaDoor
