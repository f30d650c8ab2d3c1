/- Schemas: two lists of columns compared, two lists of numbers. Schemas: copied, compared. Schemas: a copy. -/
import Derived.Test.YthlinmkengoliaaGreatDoorZSa0
import Derived.Test.YthlinmkengoliaaGreatDoorZYb
import Derived.Deep.RegionWith
set_option linter.unusedVariables false
set_option linter.unusedSimpArgs false
namespace Go.Proofs.YthlinmkengoliaaGreatDoor
open Go.RowKit Go.Ms Go.Lib
theorem run_col_eq (i1 i2 k1 k2 m1 m2 : Int) (u1 u2 n1 n2 : Bool) (s1 s2 t1 t2 : ByteArray) (w : World) :
    (Op.equalIn 10000 37 (.agg #[.int .i64 i1, .string s1, .int .i64 k1, .bool u1, .bool n1, .int .i64 m1, .string t1]) (.agg #[.int .i64 i2, .string s2, .int .i64 k2, .bool u2, .bool n2, .int .i64 m2, .string t2])).run Tryz.prog w =
      .ok (decide (((i1, s1, (k1, u1), n1, m1, t1) : Co) = (i2, s2, (k2, u2), n2, m2, t2))) w := by
 have q : ∀ S T : ByteArray, S.toList = T.toList ↔ S = T := fun S T => by
  rw [Lib.toList_data, Lib.toList_data]; exact ⟨fun h => by rw [ba_ext (s := S) rfl, ba_ext (s := T) rfl, h], fun h => by rw [h]⟩
 by_cases h0 : i1 = i2
 · by_cases h1 : s1 = s2
   · by_cases h2 : k1 = k2
     · by_cases h3 : u1 = u2
       · by_cases h4 : n1 = n2
         · by_cases h5 : m1 = m2
           · by_cases h6 : t1 = t2
             · simp [go_sem, Tryz.underlying37, Tryz.underlying33, Tryz.underlying35, q, h0, h1, h2, h3, h4, h5, h6]
             · simp [go_sem, Tryz.underlying37, Tryz.underlying33, Tryz.underlying35, q, h0, h1, h2, h3, h4, h5, h6]
           · simp [go_sem, Tryz.underlying37, Tryz.underlying33, Tryz.underlying35, q, h0, h1, h2, h3, h4, h5]
         · simp [go_sem, Tryz.underlying37, Tryz.underlying33, Tryz.underlying35, q, h0, h1, h2, h3, h4]
       · simp [go_sem, Tryz.underlying37, Tryz.underlying33, Tryz.underlying35, q, h0, h1, h2, h3]
     · simp [go_sem, Tryz.underlying37, Tryz.underlying33, Tryz.underlying35, q, h0, h1, h2]
   · simp [go_sem, Tryz.underlying37, Tryz.underlying33, Tryz.underlying35, q, h0, h1]
 · simp [go_sem, Tryz.underlying37, Tryz.underlying33, Tryz.underlying35, q, h0]
set_option maxRecDepth 100000 in
set_option maxHeartbeats 2000000 in
theorem reqcols_any (w : World) (A B : Option Addr) (n cap m capm : Nat) (xs ys : List Co) (hn' : n ≤ maxLen) (hm' : m ≤ maxLen) (hn : n = xs.length) (hm : m = ys.length) (hA : Lay w w.heap.size A (colV xs)) (hB : Lay w w.heap.size B (colV ys)) :
    Calls Tryz.prog 51 #[.slice A n cap, .slice B m capm] w fun e w' => e = .returned (.bool (decide (xs = ys))) ∧ Below w.heap.size w w' := by
 unfold maxLen at hn' hm'
 by_cases hnm : n = m
 · subst hnm
   have HA := Lib.hid hA; have HB := Lib.hid hB; have HN := Lib.hid hn; have HM := Lib.hid hm
   clear hA hB hn hm
   go_enter Tryz.func51, Tryz.ntmps51
   go_wp2_with fail
   go_loopw [5] (fun id wr => ∃ k : Nat, k ≤ n ∧ id = .int .i64 k ∧ Below w.heap.size w wr ∧ xs.take k = ys.take k) (fun id _ => n - (RowKit.intOf id).toNat)
   case atStart => exact ⟨0, by omega, rfl, Below.refl _ _, rfl⟩
   case round =>
    obtain ⟨k, hk, rfl, hb, hr⟩ := hrel; have HR := Lib.hid hr; clear hr
    by_cases hlk : k < n
    · have hki : (k : Int) < n := by omega
      obtain ⟨c, hc⟩ : ∃ c, xs[k]? = some c := ⟨_, List.getElem?_eq_getElem (by rw [← HN.out]; omega)⟩; obtain ⟨d, hd⟩ : ∃ c, ys[k]? = some c := ⟨_, List.getElem?_eq_getElem (by rw [← HM.out]; omega)⟩; obtain ⟨g, o, rfl, hg, h1, h2, h3, h4, h5, h6, h7⟩ := HA.out.co hc; obtain ⟨g', o', rfl, hg', k1, k2, k3, k4, k5, k6, k7⟩ := HB.out.co hd; have g1 := (hb.cell hg).trans h1; have g2 := (hb.cell hg).trans h2; have g3 := (hb.cell hg).trans h3; have g4 := (hb.cell hg).trans h4; have g5 := (hb.cell hg).trans h5; have g6 := (hb.cell hg).trans h6; have g7 := (hb.cell hg).trans h7
      have j1 := (hb.cell hg').trans k1; have j2 := (hb.cell hg').trans k2; have j3 := (hb.cell hg').trans k3; have j4 := (hb.cell hg').trans k4; have j5 := (hb.cell hg').trans k5; have j6 := (hb.cell hg').trans k6; have j7 := (hb.cell hg').trans k7; clear h1 h2 h3 h4 h5 h6 h7 k1 k2 k3 k4 k5 k6 k7; have HB := Lib.hid hb; clear hb
      have HC := Lib.hid hc; have HD := Lib.hid hd
      clear hc hd; obtain ⟨i1, s1, ⟨k1, u1⟩, n1, m1, t1⟩ := c; obtain ⟨i2, s2, ⟨k2, u2⟩, n2, m2, t2⟩ := d; simp only at g1 g2 g3 g4 g5 g6 g7 j1 j2 j3 j4 j5 j6 j7
      have he := fun w => run_col_eq i1 i2 k1 k2 m1 m2 u1 u2 n1 n2 s1 s2 t1 t2 w
      have hst : xs.take (k + 1) = ys.take (k + 1) ↔ ((i1, s1, (k1, u1), n1, m1, t1) : Co) = (i2, s2, (k2, u2), n2, m2, t2) := by
       rw [List.take_add_one, List.take_add_one, HC.out, HD.out, HR.out]
       simp
      have HST := Lib.hid hst; clear hst
      by_cases hcd : ((i1, s1, (k1, u1), n1, m1, t1) : Co) = (i2, s2, (k2, u2), n2, m2, t2)
      · rw [decide_eq_true hcd] at he; have HCD := Lib.hid hcd; clear hcd
        go_wp2_with fail
        go_quiet (fail)
        go_wp2_with fail
        go_roundw
        case rel => exact ⟨k + 1, by omega, by go_num, ms_drewN HB.out _, HST.out.2 HCD.out⟩
        case measure => simp [RowKit.intOf]; omega
      · rw [decide_eq_false hcd] at he
        have hne : decide (xs = ys) = false := by
         apply decide_eq_false
         intro e
         exact hcd (HST.out.1 (by rw [e]))
        have HNE := Lib.hid hne; clear hcd hne
        go_wp2_with fail
        go_quiet (fail)
        go_wp2_with fail
        go_ret
        exact ⟨by rw [HNE.out]; rfl, ms_drewN HB.out _⟩
    · have hki : ¬ (k : Int) < n := by omega
      have hkn : k = n := by omega
      have heq : decide (xs = ys) = true := by
       apply decide_eq_true
       have := HR.out; rw [hkn, List.take_of_length_le (by have := HN.out; omega), List.take_of_length_le (by have := HM.out; omega)] at this; exact this
      have HEQ := Lib.hid heq; have HB := Lib.hid hb; clear heq hkn hb
      go_wp2_with fail
      go_ret
      exact ⟨by rw [HEQ.out]; rfl, HB.out⟩
 · have hne : decide (xs = ys) = false := by
     apply decide_eq_false
     intro e
     rw [e] at hn; omega
   have h1 : ((n : Int) != m) = true := by simp; omega
   have h2 : (n != m) = true := by simpa using hnm
   rw [hne]; clear hne hnm hA hB hn hm
   go_enter Tryz.func51, Tryz.ntmps51
   go_wp2_with fail
   go_ret
   exact ⟨rfl, Below.refl _ _⟩
set_option maxRecDepth 100000 in
set_option maxHeartbeats 2000000 in
theorem reqints_any (w : World) (A B : Option Addr) (n cap m capm : Nat) (xs ys : List Int) (hn' : n ≤ maxLen) (hm' : m ≤ maxLen) (hn : n = xs.length) (hm : m = ys.length) (hA : Lay w w.heap.size A (intV xs)) (hB : Lay w w.heap.size B (intV ys)) :
    Calls Tryz.prog 52 #[.slice A n cap, .slice B m capm] w fun e w' => e = .returned (.bool (decide (xs = ys))) ∧ Below w.heap.size w w' := by
 unfold maxLen at hn' hm'
 by_cases hnm : n = m
 · subst hnm
   have HA := Lib.hid hA; have HB := Lib.hid hB; have HN := Lib.hid hn; have HM := Lib.hid hm
   clear hA hB hn hm
   go_enter Tryz.func52, Tryz.ntmps52
   go_wp2_with fail
   go_loopw [5] (fun id wr => ∃ k : Nat, k ≤ n ∧ id = .int .i64 k ∧ Below w.heap.size w wr ∧ xs.take k = ys.take k) (fun id _ => n - (RowKit.intOf id).toNat)
   case atStart => exact ⟨0, by omega, rfl, Below.refl _ _, rfl⟩
   case round =>
    obtain ⟨k, hk, rfl, hb, hr⟩ := hrel; have HR := Lib.hid hr; clear hr
    by_cases hlk : k < n
    · have hki : (k : Int) < n := by omega
      obtain ⟨c, hc⟩ : ∃ c, xs[k]? = some c := ⟨_, List.getElem?_eq_getElem (by rw [← HN.out]; omega)⟩; obtain ⟨d, hd⟩ : ∃ c, ys[k]? = some c := ⟨_, List.getElem?_eq_getElem (by rw [← HM.out]; omega)⟩; obtain ⟨g, o, rfl, hg, h1⟩ := HA.out.num hc; obtain ⟨g', o', rfl, hg', k1⟩ := HB.out.num hd; have g1 := (hb.cell hg).trans h1; have j1 := (hb.cell hg').trans k1; clear h1 k1; have HB := Lib.hid hb; clear hb
      have HC := Lib.hid hc; have HD := Lib.hid hd
      clear hc hd
      have hst : xs.take (k + 1) = ys.take (k + 1) ↔ c = d := by
       rw [List.take_add_one, List.take_add_one, HC.out, HD.out, HR.out]
       simp
      have HST := Lib.hid hst; clear hst
      by_cases hcd : c = d
      · have he : (c == d) = true := by simpa using hcd
        have HCD := Lib.hid hcd; clear hcd
        go_wp2_with fail
        go_quiet (fail)
        go_wp2_with fail
        go_roundw
        case rel => exact ⟨k + 1, by omega, by go_num, ms_drewN HB.out _, HST.out.2 HCD.out⟩
        case measure => simp [RowKit.intOf]; omega
      · have he : (c == d) = false := by simpa using hcd
        have hne : decide (xs = ys) = false := by
         apply decide_eq_false
         intro e
         exact hcd (HST.out.1 (by rw [e]))
        have HNE := Lib.hid hne; clear hcd hne
        go_wp2_with fail
        go_quiet (fail)
        go_wp2_with fail
        go_ret
        exact ⟨by rw [HNE.out]; rfl, ms_drewN HB.out _⟩
    · have hki : ¬ (k : Int) < n := by omega
      have hkn : k = n := by omega
      have heq : decide (xs = ys) = true := by
       apply decide_eq_true
       have := HR.out; rw [hkn, List.take_of_length_le (by have := HN.out; omega), List.take_of_length_le (by have := HM.out; omega)] at this; exact this
      have HEQ := Lib.hid heq; have HB := Lib.hid hb; clear heq hkn hb
      go_wp2_with fail
      go_ret
      exact ⟨by rw [HEQ.out]; rfl, HB.out⟩
 · have hne : decide (xs = ys) = false := by
     apply decide_eq_false
     intro e
     rw [e] at hn; omega
   have h1 : ((n : Int) != m) = true := by simp; omega
   have h2 : (n != m) = true := by simpa using hnm
   rw [hne]; clear hne hnm hA hB hn hm
   go_enter Tryz.func52, Tryz.ntmps52
   go_wp2_with fail
   go_ret
   exact ⟨rfl, Below.refl _ _⟩
set_option maxRecDepth 100000 in
set_option maxHeartbeats 2000000 in
theorem equalc_any (w : World) (A B : Option Addr) (n cap m capm : Nat) (xs ys : List Co) (hn' : n ≤ maxLen) (hm' : m ≤ maxLen) (hn : n = xs.length) (hm : m = ys.length) (hA : Lay w w.heap.size A (colV xs)) (hB : Lay w w.heap.size B (colV ys)) :
    Calls Tryz.prog 49 #[.slice A n cap, .slice B m capm] w fun e w' => e = .returned (.bool (decide (xs = ys))) ∧ Below w.heap.size w w' := by
 unfold maxLen at hn' hm'
 by_cases hnm : n = m
 · subst hnm
   have HA := Lib.hid hA; have HB := Lib.hid hB; have HN := Lib.hid hn; have HM := Lib.hid hm
   clear hA hB hn hm
   go_enter Tryz.func49, Tryz.ntmps49
   go_wp2_with fail
   go_loopw [13] (fun id wr => ∃ k : Nat, k ≤ n ∧ id = .int .i64 k ∧ Below w.heap.size w wr ∧ xs.take k = ys.take k) (fun id _ => n - (RowKit.intOf id).toNat)
   case atStart => exact ⟨0, by omega, rfl, Below.refl _ _, rfl⟩
   case round =>
    obtain ⟨k, hk, rfl, hb, hr⟩ := hrel; have HR := Lib.hid hr; clear hr
    by_cases hlk : k < n
    · have hki : (k : Int) < n := by omega
      obtain ⟨c, hc⟩ : ∃ c, xs[k]? = some c := ⟨_, List.getElem?_eq_getElem (by rw [← HN.out]; omega)⟩; obtain ⟨d, hd⟩ : ∃ c, ys[k]? = some c := ⟨_, List.getElem?_eq_getElem (by rw [← HM.out]; omega)⟩; obtain ⟨g, o, rfl, hg, h1, h2, h3, h4, h5, h6, h7⟩ := HA.out.co hc; obtain ⟨g', o', rfl, hg', k1, k2, k3, k4, k5, k6, k7⟩ := HB.out.co hd; have g1 := (hb.cell hg).trans h1; have g2 := (hb.cell hg).trans h2; have g3 := (hb.cell hg).trans h3; have g4 := (hb.cell hg).trans h4; have g5 := (hb.cell hg).trans h5; have g6 := (hb.cell hg).trans h6; have g7 := (hb.cell hg).trans h7
      have j1 := (hb.cell hg').trans k1; have j2 := (hb.cell hg').trans k2; have j3 := (hb.cell hg').trans k3; have j4 := (hb.cell hg').trans k4; have j5 := (hb.cell hg').trans k5; have j6 := (hb.cell hg').trans k6; have j7 := (hb.cell hg').trans k7; clear h1 h2 h3 h4 h5 h6 h7 k1 k2 k3 k4 k5 k6 k7; have HB := Lib.hid hb; clear hb
      have HC := Lib.hid hc; have HD := Lib.hid hd
      clear hc hd; obtain ⟨i1, s1, ⟨k1, u1⟩, n1, m1, t1⟩ := c; obtain ⟨i2, s2, ⟨k2, u2⟩, n2, m2, t2⟩ := d; simp only at g1 g2 g3 g4 g5 g6 g7 j1 j2 j3 j4 j5 j6 j7
      have he := fun w => run_col_eq i1 i2 k1 k2 m1 m2 u1 u2 n1 n2 s1 s2 t1 t2 w
      have hst : xs.take (k + 1) = ys.take (k + 1) ↔ ((i1, s1, (k1, u1), n1, m1, t1) : Co) = (i2, s2, (k2, u2), n2, m2, t2) := by
       rw [List.take_add_one, List.take_add_one, HC.out, HD.out, HR.out]
       simp
      have HST := Lib.hid hst; clear hst
      by_cases hcd : ((i1, s1, (k1, u1), n1, m1, t1) : Co) = (i2, s2, (k2, u2), n2, m2, t2)
      · rw [decide_eq_true hcd] at he; have HCD := Lib.hid hcd; clear hcd
        go_wp2_with fail
        go_quiet (fail)
        go_wp2_with fail
        go_roundw
        case rel => exact ⟨k + 1, by omega, by go_num, ms_drewN HB.out _, HST.out.2 HCD.out⟩
        case measure => simp [RowKit.intOf]; omega
      · rw [decide_eq_false hcd] at he
        have hne : decide (xs = ys) = false := by
         apply decide_eq_false
         intro e
         exact hcd (HST.out.1 (by rw [e]))
        have HNE := Lib.hid hne; clear hcd hne
        go_wp2_with fail
        go_quiet (fail)
        go_wp2_with fail
        go_ret
        exact ⟨by rw [HNE.out]; rfl, ms_drewN HB.out _⟩
    · have hki : ¬ (k : Int) < n := by omega
      have hkn : k = n := by omega
      have heq : decide (xs = ys) = true := by
       apply decide_eq_true
       have := HR.out; rw [hkn, List.take_of_length_le (by have := HN.out; omega), List.take_of_length_le (by have := HM.out; omega)] at this; exact this
      have HEQ := Lib.hid heq; have HB := Lib.hid hb; clear heq hkn hb
      go_wp2_with fail
      go_ret
      exact ⟨by rw [HEQ.out]; rfl, HB.out⟩
 · have hne : decide (xs = ys) = false := by
     apply decide_eq_false
     intro e
     rw [e] at hn; omega
   have h1 : ((n : Int) != m) = true := by simp; omega
   have h2 : (n != m) = true := by simpa using hnm
   rw [hne]; clear hne hnm hA hB hn hm
   go_enter Tryz.func49, Tryz.ntmps49
   go_wp2_with fail
   go_ret
   exact ⟨rfl, Below.refl _ _⟩
set_option maxRecDepth 100000 in
set_option maxHeartbeats 2000000 in
theorem equali_any (w : World) (A B : Option Addr) (n cap m capm : Nat) (xs ys : List Int) (hn' : n ≤ maxLen) (hm' : m ≤ maxLen) (hn : n = xs.length) (hm : m = ys.length) (hA : Lay w w.heap.size A (intV xs)) (hB : Lay w w.heap.size B (intV ys)) :
    Calls Tryz.prog 50 #[.slice A n cap, .slice B m capm] w fun e w' => e = .returned (.bool (decide (xs = ys))) ∧ Below w.heap.size w w' := by
 unfold maxLen at hn' hm'
 by_cases hnm : n = m
 · subst hnm
   have HA := Lib.hid hA; have HB := Lib.hid hB; have HN := Lib.hid hn; have HM := Lib.hid hm
   clear hA hB hn hm
   go_enter Tryz.func50, Tryz.ntmps50
   go_wp2_with fail
   go_loopw [13] (fun id wr => ∃ k : Nat, k ≤ n ∧ id = .int .i64 k ∧ Below w.heap.size w wr ∧ xs.take k = ys.take k) (fun id _ => n - (RowKit.intOf id).toNat)
   case atStart => exact ⟨0, by omega, rfl, Below.refl _ _, rfl⟩
   case round =>
    obtain ⟨k, hk, rfl, hb, hr⟩ := hrel; have HR := Lib.hid hr; clear hr
    by_cases hlk : k < n
    · have hki : (k : Int) < n := by omega
      obtain ⟨c, hc⟩ : ∃ c, xs[k]? = some c := ⟨_, List.getElem?_eq_getElem (by rw [← HN.out]; omega)⟩; obtain ⟨d, hd⟩ : ∃ c, ys[k]? = some c := ⟨_, List.getElem?_eq_getElem (by rw [← HM.out]; omega)⟩; obtain ⟨g, o, rfl, hg, h1⟩ := HA.out.num hc; obtain ⟨g', o', rfl, hg', k1⟩ := HB.out.num hd; have g1 := (hb.cell hg).trans h1; have j1 := (hb.cell hg').trans k1; clear h1 k1; have HB := Lib.hid hb; clear hb
      have HC := Lib.hid hc; have HD := Lib.hid hd
      clear hc hd
      have hst : xs.take (k + 1) = ys.take (k + 1) ↔ c = d := by
       rw [List.take_add_one, List.take_add_one, HC.out, HD.out, HR.out]
       simp
      have HST := Lib.hid hst; clear hst
      by_cases hcd : c = d
      · have he : (c == d) = true := by simpa using hcd
        have HCD := Lib.hid hcd; clear hcd
        go_wp2_with fail
        go_quiet (fail)
        go_wp2_with fail
        go_roundw
        case rel => exact ⟨k + 1, by omega, by go_num, ms_drewN HB.out _, HST.out.2 HCD.out⟩
        case measure => simp [RowKit.intOf]; omega
      · have he : (c == d) = false := by simpa using hcd
        have hne : decide (xs = ys) = false := by
         apply decide_eq_false
         intro e
         exact hcd (HST.out.1 (by rw [e]))
        have HNE := Lib.hid hne; clear hcd hne
        go_wp2_with fail
        go_quiet (fail)
        go_wp2_with fail
        go_ret
        exact ⟨by rw [HNE.out]; rfl, ms_drewN HB.out _⟩
    · have hki : ¬ (k : Int) < n := by omega
      have hkn : k = n := by omega
      have heq : decide (xs = ys) = true := by
       apply decide_eq_true
       have := HR.out; rw [hkn, List.take_of_length_le (by have := HN.out; omega), List.take_of_length_le (by have := HM.out; omega)] at this; exact this
      have HEQ := Lib.hid heq; have HB := Lib.hid hb; clear heq hkn hb
      go_wp2_with fail
      go_ret
      exact ⟨by rw [HEQ.out]; rfl, HB.out⟩
 · have hne : decide (xs = ys) = false := by
     apply decide_eq_false
     intro e
     rw [e] at hn; omega
   have h1 : ((n : Int) != m) = true := by simp; omega
   have h2 : (n != m) = true := by simpa using hnm
   rw [hne]; clear hne hnm hA hB hn hm
   go_enter Tryz.func50, Tryz.ntmps50
   go_wp2_with fail
   go_ret
   exact ⟨rfl, Below.refl _ _⟩
end Go.Proofs.YthlinmkengoliaaGreatDoor
set_option linter.unusedSimpArgs false
namespace Go.Ms
open Go.RowKit Go.Lib
def OwnCo (w : World) (B : Nat) (e : TypeId) (v : Value) (l : List Co) : Prop := w.ownsRow B e 7 v l.length (colV l)
theorem intV_len (l : List Int) : (intV l).length = l.length * 1 := by unfold intV; rw [List.length_map, Nat.mul_one]
theorem OwnCo.lay {w : World} {B : Nat} {e : TypeId} {A : Option Addr} {n c : Nat} {l : List Co} (h : OwnCo w B e (.slice A n c) l) : n = l.length ∧ Lay w w.heap.size A (colV l) := by
 have hn : n = l.length := by
  rcases h.2 with ⟨hv, h0⟩ | ⟨g, cap, cur, hv, _⟩
  · injection hv with _ h2 _; omega
  · injection hv
 subst hn; exact ⟨rfl, Lay.of_own h (Nat.le_refl _)⟩
structure SeesSc (w : World) (B : Nat) (v : Value) (cs : List Co) (ks : List Int) : Prop where
  ex : ∃ A n c D m d, v = .agg #[.slice A n c, .slice D m d] ∧ n = cs.length ∧ m = ks.length ∧ Lay w B A (colV cs) ∧ Lay w B D (intV ks)
end Go.Ms
namespace Go.Proofs.YthlinmkengoliaaGreatDoor
open Go.RowKit Go.Ms Go.Lib
theorem under_cols : Tryz.prog.underlying 25 = some (.slice 37) := Tryz.underlying25
theorem under_ints : Tryz.prog.underlying 26 = some (.slice 3) := Tryz.underlying26
set_option maxRecDepth 100000 in
theorem clonec_any (w : World) (A : Option Addr) (n cap : Nat) (xs : List Co) (hn' : n ≤ 100000) (hn : n = xs.length) (hA : Lay w w.heap.size A (colV xs)) :
    Calls Tryz.prog 42 #[.slice A n cap] w fun e w' => ∃ v, e = .returned v ∧ OwnCo w' w.heap.size 37 v xs ∧ Below w.heap.size w w' := by
 obtain ⟨i0, hi, hz0, hz1, hz2⟩ := info_parts column_info
 rcases A with _ | a
 · have h0 := hA.none_len
   have hx : xs = [] := by
    have := colV_len xs; rw [h0] at this
    exact List.eq_nil_of_length_eq_zero (by simp at this; omega)
   subst hx
   obtain rfl : n = 0 := by simpa using hn
   have he := fun w => run_eql_slice_nil (P := Tryz.prog) w 25 37 none 0 cap 0 0 under_cols
   clear hA h0 hn hn'
   go_enter Tryz.func42, Tryz.ntmps42
   go_wp2_with fail
   go_ret
   exact ⟨_, rfl, World.ownsRow_nil _ _ _ _, Below.refl _ _⟩
 · have he := fun w => run_eql_slice_nil (P := Tryz.prog) w 25 37 (some a) n cap 0 0 under_cols
   have HA := Lib.hid hA; have HN := Lib.hid hn
   clear hA hn
   go_enter Tryz.func42, Tryz.ntmps42
   have hown0 : (w.alloc (.cells #[] 37)).ownsRow w.heap.size 37 7 (.slice (some ⟨w.heap.size, 0, none⟩) 0 0) 0 [] := World.ownsRow_made w #[] 0 (Nat.le_refl _) (by unfold maxLen; omega) rfl; have hb0 : Below w.heap.size w (w.alloc (.cells #[] 37)) := (Below.refl _ _).alloc (Nat.le_refl _) _
   have HO := Lib.hid hown0; have HB := Lib.hid hb0
   clear hown0 hb0
   go_wp2_with (at_builtin; refine wpList_append_lay rfl (.tmp 5) (.tmp 6) _ rfl w.heap.size 37 i0 _ 7 72 under_cols hi hz0 hz1 hz2 rfl (by omega) (.slice (some ⟨w.heap.size, 0, none⟩) 0 0) 0 [] rfl HO.out w.heap.size (some a) n cap (colV xs) rfl (by rw [colV_len, HN.out]) (HA.out.below HB.out) (colV_one _) (by unfold maxLen; omega) (by omega) HB.out.size ?_; intro v1 w1 hown1 hg1)
   have HO1 := Lib.hid hown1; have HB1 := Lib.hid (own_grown HO.out HB.out HB.out.size (Nat.le_refl _) hg1); clear hown1 hg1
   go_wp2_with fail
   go_ret
   refine ⟨_, rfl, ?_, HB1.out⟩; unfold OwnCo; have := HO1.out; rw [Nat.zero_add, HN.out] at this; exact this
set_option maxRecDepth 100000 in
theorem clonei_any (w : World) (A : Option Addr) (n cap : Nat) (xs : List Int) (hn' : n ≤ 100000) (hn : n = xs.length) (hA : Lay w w.heap.size A (intV xs)) :
    Calls Tryz.prog 43 #[.slice A n cap] w fun e w' => ∃ v, e = .returned v ∧ OwnI w' w.heap.size 3 v xs ∧ Below w.heap.size w w' := by
 obtain ⟨i0, hi, hz0, hz1, hz2⟩ := info_parts int_info
 rcases A with _ | a
 · have h0 := hA.none_len
   have hx : xs = [] := by
    have := intV_len xs; rw [h0] at this
    exact List.eq_nil_of_length_eq_zero (by simp at this; omega)
   subst hx
   obtain rfl : n = 0 := by simpa using hn
   have he := fun w => run_eql_slice_nil (P := Tryz.prog) w 26 3 none 0 cap 0 0 under_ints
   clear hA h0 hn hn'
   go_enter Tryz.func43, Tryz.ntmps43
   go_wp2_with fail
   go_ret
   exact ⟨_, rfl, World.ownsRow_nil _ _ _ _, Below.refl _ _⟩
 · have he := fun w => run_eql_slice_nil (P := Tryz.prog) w 26 3 (some a) n cap 0 0 under_ints
   have HA := Lib.hid hA; have HN := Lib.hid hn
   clear hA hn
   go_enter Tryz.func43, Tryz.ntmps43
   have hown0 : (w.alloc (.cells #[] 3)).ownsRow w.heap.size 3 1 (.slice (some ⟨w.heap.size, 0, none⟩) 0 0) 0 [] := World.ownsRow_made w #[] 0 (Nat.le_refl _) (by unfold maxLen; omega) rfl; have hb0 : Below w.heap.size w (w.alloc (.cells #[] 3)) := (Below.refl _ _).alloc (Nat.le_refl _) _
   have HO := Lib.hid hown0; have HB := Lib.hid hb0
   clear hown0 hb0
   go_wp2_with (at_builtin; refine wpList_append_lay rfl (.tmp 5) (.tmp 6) _ rfl w.heap.size 3 i0 _ 1 8 under_ints hi hz0 hz1 hz2 rfl (by omega) (.slice (some ⟨w.heap.size, 0, none⟩) 0 0) 0 [] rfl HO.out w.heap.size (some a) n cap (intV xs) rfl (by rw [intV_len, HN.out]) (HA.out.below HB.out) (intV_one _) (by unfold maxLen; omega) (by omega) HB.out.size ?_; intro v1 w1 hown1 hg1)
   have HO1 := Lib.hid hown1; have HB1 := Lib.hid (own_grown HO.out HB.out HB.out.size (Nat.le_refl _) hg1); clear hown1 hg1
   go_wp2_with fail
   go_ret
   refine ⟨_, rfl, ?_, HB1.out⟩; unfold OwnI; have := HO1.out; rw [Nat.zero_add, HN.out] at this; exact this
theorem scsame_any (w : World) (A B D E : Option Addr) (n cap m capm n2 cap2 m2 capm2 : Nat) (xs ys : List Co) (ks ls : List Int) (h1 : n ≤ maxLen) (h2 : m ≤ maxLen) (h3 : n2 ≤ maxLen) (h4 : m2 ≤ maxLen) (hn : n = xs.length) (hm : m = ks.length) (hn2 : n2 = ys.length) (hm2 : m2 = ls.length)
    (hA : Lay w w.heap.size A (colV xs)) (hB : Lay w w.heap.size B (intV ks)) (hD : Lay w w.heap.size D (colV ys)) (hE : Lay w w.heap.size E (intV ls)) :
    Calls Tryz.prog 21 #[.agg #[.slice A n cap, .slice B m capm], .agg #[.slice D n2 cap2, .slice E m2 capm2]] w fun e w' => e = .returned (.bool (decide (xs = ys) && decide (ks = ls))) ∧ Below w.heap.size w w' := by
 have hc := fun (w' : World) (hb : Below w.heap.size w w') => equalc_any w' A D n cap n2 cap2 xs ys h1 h3 hn hn2 ((hA.below hb).more hb.size) ((hD.below hb).more hb.size)
 have hi := fun (w' : World) (hb : Below w.heap.size w w') => equali_any w' B E m capm m2 capm2 ks ls h2 h4 hm hm2 ((hB.below hb).more hb.size) ((hE.below hb).more hb.size)
 have HC := Lib.hid hc; have HI := Lib.hid hi
 clear hc hi hA hB hD hE hn hm hn2 hm2 h1 h2 h3 h4
 go_enter Tryz.func21, Tryz.ntmps21
 go_wp2_with fail
 refine (HC.out _ (((Below.refl _ w).alloc (Nat.le_refl _) _).alloc (by simp) _)).mono ?_; rintro en w1 ⟨rfl, b1⟩; have B1 : Below w.heap.size w w1 := (((Below.refl _ w).alloc (Nat.le_refl _) _).alloc (by simp) _).trans (b1.mono (by rw [World.size_alloc, World.size_alloc]; omega)); have q1 := block_kept (block_next (block_new w (.cells #[.slice A n cap, .slice B m capm] 28)) (.cells #[.slice D n2 cap2, .slice E m2 capm2] 28)) b1; have q2 := block_kept (block_new (w.alloc (.cells #[.slice A n cap, .slice B m capm] 28)) (.cells #[.slice D n2 cap2, .slice E m2 capm2] 28)) b1
 rw [World.size_alloc] at q2; have c1 := cell_of_block (i := 1) q1 rfl; have c2 := cell_of_block (i := 1) q2 rfl; clear q1 q2; have HB := Lib.hid B1; clear B1 b1
 cases hd : decide (xs = ys)
 · go_wp2_with fail
   go_ret
   exact ⟨by rw [hd]; rfl, HB.out⟩
 · go_wp2_with fail
   refine (HI.out _ HB.out).mono ?_; rintro en w2 ⟨rfl, b2⟩; have HB2 := Lib.hid (HB.out.trans (b2.mono HB.out.size)); clear b2
   go_wp2_with fail
   go_ret
   exact ⟨by rw [hd]; rfl, HB2.out⟩
theorem rscsame_any (w : World) (A B D E : Option Addr) (n cap m capm n2 cap2 m2 capm2 : Nat) (xs ys : List Co) (ks ls : List Int) (h1 : n ≤ maxLen) (h2 : m ≤ maxLen) (h3 : n2 ≤ maxLen) (h4 : m2 ≤ maxLen) (hn : n = xs.length) (hm : m = ks.length) (hn2 : n2 = ys.length) (hm2 : m2 = ls.length)
    (hA : Lay w w.heap.size A (colV xs)) (hB : Lay w w.heap.size B (intV ks)) (hD : Lay w w.heap.size D (colV ys)) (hE : Lay w w.heap.size E (intV ls)) :
    Calls Tryz.prog 22 #[.agg #[.slice A n cap, .slice B m capm], .agg #[.slice D n2 cap2, .slice E m2 capm2]] w fun e w' => e = .returned (.bool (decide (xs = ys) && decide (ks = ls))) ∧ Below w.heap.size w w' := by
 have hc := fun (w' : World) (hb : Below w.heap.size w w') => reqcols_any w' A D n cap n2 cap2 xs ys h1 h3 hn hn2 ((hA.below hb).more hb.size) ((hD.below hb).more hb.size)
 have hi := fun (w' : World) (hb : Below w.heap.size w w') => reqints_any w' B E m capm m2 capm2 ks ls h2 h4 hm hm2 ((hB.below hb).more hb.size) ((hE.below hb).more hb.size)
 have HC := Lib.hid hc; have HI := Lib.hid hi
 clear hc hi hA hB hD hE hn hm hn2 hm2 h1 h2 h3 h4
 go_enter Tryz.func22, Tryz.ntmps22
 go_wp2_with fail
 refine (HC.out _ (((Below.refl _ w).alloc (Nat.le_refl _) _).alloc (by simp) _)).mono ?_; rintro en w1 ⟨rfl, b1⟩; have B1 : Below w.heap.size w w1 := (((Below.refl _ w).alloc (Nat.le_refl _) _).alloc (by simp) _).trans (b1.mono (by rw [World.size_alloc, World.size_alloc]; omega)); have q1 := block_kept (block_next (block_new w (.cells #[.slice A n cap, .slice B m capm] 28)) (.cells #[.slice D n2 cap2, .slice E m2 capm2] 28)) b1; have q2 := block_kept (block_new (w.alloc (.cells #[.slice A n cap, .slice B m capm] 28)) (.cells #[.slice D n2 cap2, .slice E m2 capm2] 28)) b1
 rw [World.size_alloc] at q2; have c1 := cell_of_block (i := 1) q1 rfl; have c2 := cell_of_block (i := 1) q2 rfl; clear q1 q2; have HB := Lib.hid B1; clear B1 b1
 cases hd : decide (xs = ys)
 · go_wp2_with fail
   go_ret
   exact ⟨by rw [hd]; rfl, HB.out⟩
 · go_wp2_with fail
   refine (HI.out _ HB.out).mono ?_; rintro en w2 ⟨rfl, b2⟩; have HB2 := Lib.hid (HB.out.trans (b2.mono HB.out.size)); clear b2
   go_wp2_with fail
   go_ret
   exact ⟨by rw [hd]; rfl, HB2.out⟩
end Go.Proofs.YthlinmkengoliaaGreatDoor
set_option linter.unusedSimpArgs false
namespace Go.Proofs.YthlinmkengoliaaGreatDoor
open Go.RowKit Go.Ms Go.Lib
theorem two_box {w : World} {b : Nat} {x y : Value} {T : TypeId} (h : w.heap[b]? = some (.cells #[x, y] T (0, 0))) (p q : Value) : ((w.setCell ⟨b, 0, none⟩ p).setCell ⟨b, 1, none⟩ q).heap[b]? = some (.cells #[p, q] T (0, 0)) := by
 simp [World.setCell, Array.getElem?_modify, h]
set_option maxRecDepth 100000 in
set_option maxHeartbeats 4000000 in
theorem sccopy_any (w : World) (A B : Option Addr) (n cap m capm : Nat) (cs : List Co) (ks : List Int) (h1 : n ≤ 100000) (h2 : m ≤ 100000) (hn : n = cs.length) (hm : m = ks.length)
    (hA : Lay w w.heap.size A (colV cs)) (hB : Lay w w.heap.size B (intV ks)) :
    Calls Tryz.prog 17 #[.agg #[.slice A n cap, .slice B m capm]] w fun e w' => ∃ A' c' B' d', e = .returned (.agg #[.slice A' n c', .slice B' m d']) ∧ OwnCo w' w.heap.size 37 (.slice A' n c') cs ∧ OwnI w' w.heap.size 3 (.slice B' m d') ks ∧ Below w.heap.size w w' := by
 obtain ⟨X, hX⟩ : ∃ X, X = (w.alloc (.cells #[.slice A n cap, .slice B m capm] 28)).alloc (.cells #[.slice none 0 0, .slice none 0 0] 28) := ⟨_, rfl⟩
 have P1 : X.heap[w.heap.size]? = some (.cells #[.slice A n cap, .slice B m capm] 28 (0, 0)) := by rw [hX]; exact block_next (block_new _ _) _
 have P2 : X.heap[w.heap.size + 1]? = some (.cells #[.slice none 0 0, .slice none 0 0] 28 (0, 0)) := by rw [hX]; have := block_new (w.alloc (.cells #[.slice A n cap, .slice B m capm] 28)) (.cells #[.slice none 0 0, .slice none 0 0] 28); rw [World.size_alloc] at this; exact this
 have hXs : X.heap.size = w.heap.size + 2 := by rw [hX]; rw [World.size_alloc, World.size_alloc]
 have bX : Below w.heap.size w X := by rw [hX]; exact ((Below.refl _ w).alloc (Nat.le_refl _) _).alloc (by rw [World.size_alloc]; omega) _
 have hc : Calls Tryz.prog 42 #[.slice A n cap] X.drew fun e w' => ∃ A' c', e = .returned (.slice A' n c') ∧ OwnCo w' X.heap.size 37 (.slice A' n c') cs ∧ Below X.heap.size X w' := by
  refine (clonec_any X.drew A n cap cs h1 hn (hA.below bX.drew |>.more bX.size)).mono ?_; rintro e w' ⟨v, rfl, ho, hb⟩; have ho : OwnCo w' X.heap.size 37 v cs := ho; obtain ⟨A', c', rfl, _⟩ := yown_slice ho; have e1 := (OwnCo.lay ho).1; exact ⟨A', c', by rw [hn], by rw [hn]; exact ho, ((Below.refl X.heap.size X).drew).trans hb⟩
 have hi := fun (w' : World) (hb : Below w.heap.size w w') => clonei_any w' B m capm ks h2 hm ((hB.below hb).more hb.size)
 have HI := Lib.hid hi; have HC := Lib.hid hc; have BX := Lib.hid bX; have H1 := Lib.hid P1; have H2 := Lib.hid P2; have HS := Lib.hid hXs; have HM := Lib.hid hm
 clear hc hi hA hB hn hm h1 h2 bX P1 P2 hXs
 go_enter Tryz.func17, Tryz.ntmps17
 go_wp2_with fail
 rw [← hX]; clear hX; have c0 := cell_of_block (i := 0) (w := X.drew) H1.out rfl; have c1 := cell_of_block (i := 1) (w := X.drew) H1.out rfl; have e1 := cell_of_block (i := 0) (w := X) H1.out rfl; have e2 := cell_of_block (i := 1) (w := X) H1.out rfl
 go_region_with (first
   | (go_at_call 42; refine HC.out.mono ?_; rintro en w1 ⟨A1, k1, rfl, o1, b1⟩; have d1 := cell_of_block (i := 1) (block_kept H1.out b1) rfl; have O1 := Lib.hid o1; have B1 := Lib.hid b1; clear o1 b1)
   | (go_at_call 43; refine (HI.out _ (BX.out.trans (B1.out.mono BX.out.size))).mono ?_; rintro en w2 ⟨v2, rfl, o2, b2⟩; obtain ⟨A2, k2, rfl, -, -⟩ := yown_slice o2; have q2 := block_kept (block_kept H2.out B1.out) b2; have f0 := cell_of_block (i := 0) q2 rfl; have f1 := cell_of_block (i := 1) q2 rfl; have g0 : w2.frozen? ⟨w.heap.size + 1, 0, none⟩ = false := (by simp [World.frozen?, q2]); have g1 : w2.frozen? ⟨w.heap.size + 1, 1, none⟩ = false := (by simp [World.frozen?, q2]); have O2 := Lib.hid o2; have B2 := Lib.hid b2; have Q2 := Lib.hid q2; clear o2 b2 q2))
 all_goals go_wp2_with fail
 all_goals
  have z := two_box Q2.out (.slice A1 n k1) (.slice A2 ks.length k2); have z0 := cell_of_block (i := 0) z rfl; have z1 := cell_of_block (i := 1) z rfl; have o1 : OwnCo ((w2.setCell ⟨w.heap.size + 1, 0, none⟩ (.slice A1 n k1)).setCell ⟨w.heap.size + 1, 1, none⟩ (.slice A2 ks.length k2)) X.heap.size 37 (.slice A1 n k1) cs := own_set (own_set (own_below O1.out B2.out) (by have := HS.out; omega) _) (by have := HS.out; omega) _
  have o2 : OwnI ((w2.setCell ⟨w.heap.size + 1, 0, none⟩ (.slice A1 n k1)).setCell ⟨w.heap.size + 1, 1, none⟩ (.slice A2 ks.length k2)) w1.heap.size 3 (.slice A2 ks.length k2) ks := own_set (own_set O2.out (by have := HS.out; have := B1.out.size; omega) _) (by have := HS.out; have := B1.out.size; omega) _
  have bw : Below w.heap.size w ((w2.setCell ⟨w.heap.size + 1, 0, none⟩ (.slice A1 n k1)).setCell ⟨w.heap.size + 1, 1, none⟩ (.slice A2 ks.length k2)) := ((BX.out.trans (B1.out.mono BX.out.size)).trans (B2.out.mono (by have := BX.out.size; have := B1.out.size; omega))).setCell (p := ⟨w.heap.size + 1, 0, none⟩) (by simp) _ |>.setCell (p := ⟨w.heap.size + 1, 1, none⟩) (by simp) _; have O1' := Lib.hid (own_more o1 BX.out.size); have O2' := Lib.hid (own_more o2 (by have := BX.out.size; have := B1.out.size; omega : w.heap.size ≤ w1.heap.size)); have BW := Lib.hid bw; clear o1 o2 bw z
  generalize (w2.setCell ⟨w.heap.size + 1, 0, none⟩ (.slice A1 n k1)).setCell ⟨w.heap.size + 1, 1, none⟩ (.slice A2 ks.length k2) = W3 at z0 z1 O1' O2' BW ⊢
  refine bodyPost_ret (v := .agg #[.slice A1 n k1, .slice A2 ks.length k2]) (by simp [results, Tryz.results17, go_sem, z0, z1]) rfl ?_; rw [HM.out]; exact ⟨_, _, _, _, rfl, O1'.out, O2'.out, BW.out⟩
set_option maxRecDepth 100000 in
set_option maxHeartbeats 4000000 in
theorem rsccopy_any (w : World) (A B : Option Addr) (n cap m capm : Nat) (cs : List Co) (ks : List Int) (h1 : n ≤ 100000) (h2 : m ≤ 100000) (hn : n = cs.length) (hm : m = ks.length)
    (hA : Lay w w.heap.size A (colV cs)) (hB : Lay w w.heap.size B (intV ks)) :
    Calls Tryz.prog 16 #[.agg #[.slice A n cap, .slice B m capm]] w fun e w' => ∃ A' c' B' d', e = .returned (.agg #[.slice A' n c', .slice B' m d']) ∧ OwnCo w' w.heap.size 37 (.slice A' n c') cs ∧ OwnI w' w.heap.size 3 (.slice B' m d') ks ∧ Below w.heap.size w w' := by
 obtain ⟨X, hX⟩ : ∃ X, X = (w.alloc (.cells #[.slice A n cap, .slice B m capm] 28)).alloc (.cells #[.slice none 0 0, .slice none 0 0] 28) := ⟨_, rfl⟩
 have P1 : X.heap[w.heap.size]? = some (.cells #[.slice A n cap, .slice B m capm] 28 (0, 0)) := by rw [hX]; exact block_next (block_new _ _) _
 have P2 : X.heap[w.heap.size + 1]? = some (.cells #[.slice none 0 0, .slice none 0 0] 28 (0, 0)) := by rw [hX]; have := block_new (w.alloc (.cells #[.slice A n cap, .slice B m capm] 28)) (.cells #[.slice none 0 0, .slice none 0 0] 28); rw [World.size_alloc] at this; exact this
 have hXs : X.heap.size = w.heap.size + 2 := by rw [hX]; rw [World.size_alloc, World.size_alloc]
 have bX : Below w.heap.size w X := by rw [hX]; exact ((Below.refl _ w).alloc (Nat.le_refl _) _).alloc (by rw [World.size_alloc]; omega) _
 have hc : Calls Tryz.prog 40 #[.slice A n cap] X.drew fun e w' => ∃ A' c', e = .returned (.slice A' n c') ∧ OwnCo w' X.heap.size 37 (.slice A' n c') cs ∧ Below X.heap.size X w' := by
  refine (copycols_any X.drew A n cap (colV cs) h1 (by rw [colV_len]; omega) (Lay.ext (hA.below bX.drew |>.more bX.size)) (colV_one _)).mono ?_; rintro e w' ⟨v, rfl, ho, hb⟩
  have ho : OwnCo w' X.heap.size 37 v cs := by unfold OwnCo; rw [← hn]; exact ho
  obtain ⟨A', c', rfl, _⟩ := yown_slice ho; have e1 := (OwnCo.lay ho).1; exact ⟨A', c', by rw [hn], by rw [hn]; exact ho, ((Below.refl X.heap.size X).drew).trans hb⟩
 have hi := fun (w' : World) (hb : Below w.heap.size w w') => copyints_any w' B m capm ks h2 hm.symm (Lay.ext ((hB.below hb).more hb.size))
 have HI := Lib.hid hi; have HC := Lib.hid hc; have BX := Lib.hid bX; have H1 := Lib.hid P1; have H2 := Lib.hid P2; have HS := Lib.hid hXs; have HM := Lib.hid hm
 clear hc hi hA hB hn hm h1 h2 bX P1 P2 hXs
 go_enter Tryz.func16, Tryz.ntmps16
 go_wp2_with fail
 rw [← hX]; clear hX; have c0 := cell_of_block (i := 0) (w := X.drew) H1.out rfl; have c1 := cell_of_block (i := 1) (w := X.drew) H1.out rfl; have e1 := cell_of_block (i := 0) (w := X) H1.out rfl; have e2 := cell_of_block (i := 1) (w := X) H1.out rfl
 go_region_with (first
   | (go_at_call 40; refine HC.out.mono ?_; rintro en w1 ⟨A1, k1, rfl, o1, b1⟩; have d1 := cell_of_block (i := 1) (block_kept H1.out b1) rfl; have O1 := Lib.hid o1; have B1 := Lib.hid b1; clear o1 b1)
   | (go_at_call 41; refine (HI.out _ (BX.out.trans (B1.out.mono BX.out.size))).mono ?_; rintro en w2 ⟨v2, rfl, o2, b2⟩; obtain ⟨A2, k2, rfl, -, -⟩ := yown_slice o2; have q2 := block_kept (block_kept H2.out B1.out) b2; have f0 := cell_of_block (i := 0) q2 rfl; have f1 := cell_of_block (i := 1) q2 rfl; have g0 : w2.frozen? ⟨w.heap.size + 1, 0, none⟩ = false := (by simp [World.frozen?, q2]); have g1 : w2.frozen? ⟨w.heap.size + 1, 1, none⟩ = false := (by simp [World.frozen?, q2]); have O2 := Lib.hid o2; have B2 := Lib.hid b2; have Q2 := Lib.hid q2; clear o2 b2 q2))
 all_goals go_wp2_with fail
 all_goals
  have z := two_box Q2.out (.slice A1 n k1) (.slice A2 ks.length k2); have z0 := cell_of_block (i := 0) z rfl; have z1 := cell_of_block (i := 1) z rfl; have o1 : OwnCo ((w2.setCell ⟨w.heap.size + 1, 0, none⟩ (.slice A1 n k1)).setCell ⟨w.heap.size + 1, 1, none⟩ (.slice A2 ks.length k2)) X.heap.size 37 (.slice A1 n k1) cs := own_set (own_set (own_below O1.out B2.out) (by have := HS.out; omega) _) (by have := HS.out; omega) _
  have o2 : OwnI ((w2.setCell ⟨w.heap.size + 1, 0, none⟩ (.slice A1 n k1)).setCell ⟨w.heap.size + 1, 1, none⟩ (.slice A2 ks.length k2)) w1.heap.size 3 (.slice A2 ks.length k2) ks := own_set (own_set O2.out (by have := HS.out; have := B1.out.size; omega) _) (by have := HS.out; have := B1.out.size; omega) _
  have bw : Below w.heap.size w ((w2.setCell ⟨w.heap.size + 1, 0, none⟩ (.slice A1 n k1)).setCell ⟨w.heap.size + 1, 1, none⟩ (.slice A2 ks.length k2)) := ((BX.out.trans (B1.out.mono BX.out.size)).trans (B2.out.mono (by have := BX.out.size; have := B1.out.size; omega))).setCell (p := ⟨w.heap.size + 1, 0, none⟩) (by simp) _ |>.setCell (p := ⟨w.heap.size + 1, 1, none⟩) (by simp) _; have O1' := Lib.hid (own_more o1 BX.out.size); have O2' := Lib.hid (own_more o2 (by have := BX.out.size; have := B1.out.size; omega : w.heap.size ≤ w1.heap.size)); have BW := Lib.hid bw; clear o1 o2 bw z
  generalize (w2.setCell ⟨w.heap.size + 1, 0, none⟩ (.slice A1 n k1)).setCell ⟨w.heap.size + 1, 1, none⟩ (.slice A2 ks.length k2) = W3 at z0 z1 O1' O2' BW ⊢
  refine bodyPost_ret (v := .agg #[.slice A1 n k1, .slice A2 ks.length k2]) (by simp [results, Tryz.results16, go_sem, z0, z1]) rfl ?_; rw [HM.out]; exact ⟨_, _, _, _, rfl, O1'.out, O2'.out, BW.out⟩
end Go.Proofs.YthlinmkengoliaaGreatDoor
