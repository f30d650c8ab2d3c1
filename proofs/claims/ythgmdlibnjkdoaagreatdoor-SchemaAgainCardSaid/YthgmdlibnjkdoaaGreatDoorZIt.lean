/- Schemas: what the library answers of a line's parts. -/
import Derived.Test.YthgmdlibnjkdoaaGreatDoorZE20
import Derived.Test.YthgmdlibnjkdoaaGreatDoorZSc
import Derived.Shelf.Strconv.ErrVarAll
set_option linter.unusedVariables false
set_option linter.unusedSimpArgs false
namespace Go.Proofs.YthgmdlibnjkdoaaGreatDoor
open Go.RowKit Go.Ms Go.Lib
theorem itoa_any (n : Int) (w : World) (h0 : -9223372036854775808 ≤ n) (h1 : n ≤ 9223372036854775807) (hE : Env w) :
    Calls Tryz.prog 60 #[.int .i64 n] w fun e w' => e = .returned (.string ⟨(itoa n).toArray⟩) ∧ Below w.heap.size w w' := by
  refine (Tryz.strconv_Itoa n h0 h1 w hE.pow).mono ?_
  rintro e w' ⟨rfl, k, os, rfl⟩
  exact ⟨rfl, below_grow w k os⟩
theorem atoi_any (S : ByteArray) (w : World) (hs : S.size ≤ 20000) (hE : Env w) :
    Calls Tryz.prog 100 #[.string S] w fun e w' => ((∃ v, atoiAll S.data.toList = .ok v ∧ e = .returned (.tuple #[.int .i64 v, .nilIface])) ∨ ((∀ v, atoiAll S.data.toList ≠ .ok v) ∧ ∃ v te p, e = .returned (.tuple #[.int .i64 v, .iface te p]))) ∧ Below w.heap.size w w' := by
  cases h : atoiAll S.data.toList with
  | ok v =>
    refine (Tryz.strconv_Atoi_ok S (by omega) v h w).mono ?_
    rintro e w' ⟨rfl, hw⟩
    refine ⟨.inl ⟨v, rfl, rfl⟩, ?_⟩
    rcases hw with rfl | ⟨t, rfl⟩
    · exact Below.refl _ _
    · exact ⟨rfl, rfl, rfl, by rw [Lib.bytesWorld_size]; omega, fun j hj => Lib.bytesWorld_at_old w _ t j hj⟩
  | range =>
    obtain ⟨tp, p, hv⟩ := hE.rng
    refine (Tryz.strconv_Atoi_range_var S (by omega) h tp p w hv).mono ?_
    rintro e w' ⟨N, rfl, _, _, hb⟩
    exact ⟨.inr ⟨fun v => nofun, _, _, _, rfl⟩, hb⟩
  | _ =>
    obtain ⟨tp, p, hv⟩ := hE.syn
    have hc : Calls Tryz.prog 100 #[.string S] w _ := Any.strconv_Atoi_syntax_var Tryz.laysC172 S (by omega) h tp p w hv
    refine hc.mono ?_
    rintro e w' ⟨N, rfl, _, _, hb⟩
    exact ⟨.inr ⟨fun v => nofun, _, _, _, rfl⟩, hb⟩
theorem splitn_any (S : ByteArray) (w : World) (hs : S.size ≤ 2000000) (hE : Env w) :
    Calls Tryz.prog 99 #[.string S, .string ⟨#[32]⟩, .int .i64 4] w fun e w' =>
      ((parts4 S.data.toList = none ∧ ∃ A n c, e = .returned (.slice A n c) ∧ n < 4) ∨ ∃ p, parts4 S.data.toList = some p ∧ e = .returned (.slice (some ⟨w.heap.size, 0, none⟩) 4 4) ∧ w'.heap[w.heap.size]? = some (.cells #[.string ⟨p.1.toArray⟩, .string ⟨p.2.1.toArray⟩, .string ⟨p.2.2.1.toArray⟩, .string ⟨p.2.2.2.toArray⟩] 9 (0, 0))) ∧ Below w.heap.size w w' := by
  obtain ⟨m, hm⟩ := hE.maxl
  refine (Tryz.strings_SplitN S ⟨#[32]⟩ 4 m w (by omega) hm (by decide) (by decide) (by decide)).mono ?_
  have hp := splitB_parts S
  rintro e w' ⟨rfl, rfl⟩
  refine ⟨?_, (Below.refl _ w).alloc (Nat.le_refl _) _⟩
  cases h : parts4 S.data.toList with
  | none =>
    rw [h] at hp
    exact .inl ⟨rfl, _, _, _, rfl, hp⟩
  | some p =>
    rw [h] at hp
    obtain ⟨h1, h2⟩ := hp
    rw [h1, h2]
    exact .inr ⟨p, rfl, rfl, block_new _ _⟩
end Go.Proofs.YthgmdlibnjkdoaaGreatDoor
