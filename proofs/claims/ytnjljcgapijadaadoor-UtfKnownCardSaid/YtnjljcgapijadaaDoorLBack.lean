import Derived.Test.YtnjljcgapijadaaDoorL2
import Derived.Test.YtnjljcgapijadaaDoorU2
set_option linter.unusedVariables false
namespace Go.Ms
open Go.Lib
theorem validD_text : ∀ l : List Int, validD (Go.Proofs.YtnjljcgapijadaaDoor.textD l) = true
  | [] => rfl
  | a :: t => by
    have h := validD_text t
    unfold Go.Proofs.YtnjljcgapijadaaDoor.textD at h ⊢
    rw [List.flatMap_cons, valid_enc _ _ (Go.Proofs.YtnjljcgapijadaaDoor.oneD_rune a)]
    exact h
theorem qb_len (c : UInt8) : (qb c).length ≤ 6 := by
  unfold qb
  repeat' split
  all_goals simp
theorem flat_len (l : Bs) : (l.flatMap qb).length ≤ 6 * l.length := by
  induction l with
  | nil => simp
  | cons a t ih => rw [List.flatMap_cons, List.length_append, List.length_cons]; have := qb_len a; omega
theorem quoteD_len (l : Bs) : (quoteD l).length ≤ 6 * l.length + 2 := by
  have := flat_len l
  unfold quoteD; simp only [List.length_cons, List.length_append, List.length_nil]; omega
end Go.Ms
namespace Go.Proofs.YtnjljcgapijadaaDoor
open Go.RowKit Go.Ms Go.Lib

set_option maxHeartbeats 400000 in
theorem utfBack_walk (a : Option Addr) (len cap : Nat) (zs : List Int) (more : ByteArray) (w : World) (h : IsRow .i64 w a len cap zs) (hm : more.size ≤ maxLen) (hT : Tabs w) :
    Calls Tryd.prog 5 #[.slice a len cap, .string more] w fun e w' => e = .returned (.bool true) ∧ Below w.heap.size w w' := by
  have hm2 : more.size ≤ 9223372036854775807 := by simpa [maxLen] using hm
  have H := Lib.hid h
  have c1 := fun w' (hb : Below w.heap.size w w') => text_any a len cap zs w' (isrow_below h hb).rowIn
  have hv := validD_text (zs.take (min len 60))
  have hl0 := textD_len (zs.take (min len 60))
  have hl1 : (zs.take (min len 60)).length ≤ 60 := by rw [List.length_take]; omega
  generalize textD (zs.take (min len 60)) = t at *
  have c2 := fun w' (hT' : Tabs w') => quote_ok ⟨t.toArray⟩ w' (by show t.toArray.size ≤ 1000000; rw [List.size_toArray]; omega) (by simpa using hv) hT'
  have hu := fun m => unquote_quote (t := t) m hv
  have hq := quoteD_len t
  simp only at c2
  have C1 := Lib.hid c1; have C2 := Lib.hid c2; have HU := Lib.hid hu
  clear c1 c2 hu h hv
  generalize quoteD t = q at *
  have hqn : q.length ≤ 1442 := by omega
  clear hl0 hl1 hq
  have hsz : ((⟨q.toArray⟩ : ByteArray) ++ more.extract 0 (min (↑more.size : Int) 100).toNat).size ≤ 100000 := by
    rw [ByteArray.size_append, ByteArray.size_extract]
    have : (⟨q.toArray⟩ : ByteArray).size = q.length := List.size_toArray
    omega
  have hul := HU.out (more.extract 0 (min (↑more.size : Int) 100).toNat).data.toList
  have hs : ((⟨q.toArray⟩ : ByteArray) ++ more.extract 0 (min (↑more.size : Int) 100).toNat).data.toList = q ++ (more.extract 0 (min (↑more.size : Int) 100).toNat).data.toList := by
    simp only [ByteArray.data_append, Array.toList_append]
  rw [← hs] at hul
  have HL := Lib.hid hul
  have HZ := Lib.hid hsz
  clear hul hs hsz
  go_enter Tryd.func5, Tryd.ntmps5
  go_wp2_with fail
  refine (works_any _ hT).mono ?_
  rintro en w1 ⟨rfl, b1⟩
  go_wp2_with fail
  refine (C1.out _ b1).mono ?_
  rintro en w2 ⟨rfl, b2⟩
  go_wp2_with fail
  refine (C2.out _ (tabs_below (tabs_below hT b1) b2)).mono ?_
  rintro en w3 ⟨rfl, b3⟩
  go_wp2_with fail
  refine (says_true _ _ _ _ HZ.out (tabs_below (tabs_below (tabs_below hT b1) b2) b3) (by exact HL.out)).mono ?_
  rintro en w4 ⟨rfl, b4⟩
  go_wp2_with fail
  go_ret
  have s1 := b1.size
  have s2 := b2.size
  have s3 := b3.size
  exact ⟨rfl, ((b1.trans (b2.mono s1)).trans (b3.mono (by omega))).trans (b4.mono (by omega))⟩
end Go.Proofs.YtnjljcgapijadaaDoor
