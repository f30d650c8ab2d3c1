/- Names counted by a map: how many there are. -/
import Derived.Test.YthlinmkengoliaaGreatDoorZSa0
import Derived.Maps.Own
import Derived.Maps.OwnOps
import Derived.Maps.OwnSet
import Derived.Maps.Views
set_option linter.unusedVariables false
set_option linter.unusedSimpArgs false
namespace Go.Ms
open Go.Lib Go.Maps
structure NamesIn {H : Type} (D : DataW H) (l : List ByteArray) : Prop where
  tidy : Tidy D
  has : ∀ x : ByteArray, Maps.has D (.string x.data.toList) = true ↔ x ∈ l
  le : Maps.size D ≤ l.length
  iff : Maps.size D = l.length ↔ l.Nodup
theorem NamesIn.nil {H : Type} : NamesIn (H := H) (.map []) [] := ⟨tidy_empty, fun x => by simp [Maps.has], Nat.le_refl _, by simp [Maps.size]⟩
theorem NamesIn.put {H : Type} {D : DataW H} {l : List ByteArray} (h : NamesIn D l) (x : ByteArray) (d : DataW H) : NamesIn (D.put (.string x.data.toList) d) (l ++ [x]) := by
 have hk : WideAt.IsKeyLit (.string x.data.toList) := trivial; have hs := Maps.size_put (k := .string x.data.toList) h.tidy d; have hx := h.has x; have hle := h.le; refine ⟨h.tidy.put hk d, fun y => ?_, ?_, ?_⟩
 · by_cases e : y = x
   · subst e; rw [has_put_same h.tidy.isMap hk]
     simp
   · have hne : (Lit.string y.data.toList) ≠ .string x.data.toList := by
       intro e2
       injection e2 with e3
       exact e (by cases x; cases y; simp only [Array.toList_inj] at e3; rw [e3])
     rw [has_put_other hne, h.has y]
     simp [e]
 · rw [hs, List.length_append, List.length_singleton]
   split <;> omega
 · rw [hs, List.length_append, List.length_singleton]
   by_cases hm : x ∈ l
   · have : ¬ (l ++ [x]).Nodup := by
       intro hn
       rw [List.nodup_append] at hn; exact hn.2.2 x hm x (by simp) rfl
     rw [if_pos (hx.2 hm)]; simp only [this, iff_false]; omega
   · have : (l ++ [x]).Nodup ↔ l.Nodup := by
       rw [List.nodup_append]
       constructor
       · exact fun h => h.1
       · intro hn
         refine ⟨hn, by simp, fun a ha b hb => ?_⟩
         simp at hb
         rintro rfl; exact hm (hb ▸ ha)
     rw [this, ← h.iff, if_neg (fun e => hm (hx.1 e))]; omega
end Go.Ms
