/- The reference of the cells: what Read answers, in plain terms. The reference of the cells: guess, the walk. The reference of the cells: bare, the walk. The reference of the cells: Unbits. -/
import Derived.Test.YtcdmiiaamajfoaaGreatDoorZIa
import Derived.Test.YtcdmiiaamajfoaaGreatDoorZE20
import Derived.Test.YtcdmiiaamajfoaaGreatDoorZHb
import Derived.Test.YtcdmiiaamajfoaaGreatDoorZF6
import Derived.Test.YtcdmiiaamajfoaaGreatDoorZEe
set_option linter.unusedVariables false
set_option linter.unusedSimpArgs false
namespace Go.Ms
open Go.Lib
/-- The cell that the reference's guess makes of a text. -/
def rRd (k : Int) (l : Bs) : Int × Bs := if k = 1 then (if l = kTrue then 1 else 0, []) else if k = 2 ∨ k = 3 then (rWhole l, []) else if k = 4 then (0, (unquoteD l).1) else (0, rUnhex (l.drop 1))
def rGuess (k : Int) (l : Bs) : Bool × Int × Bs := if l = kNull then (true, 0, []) else (false, (rRd k l).1, (rRd k l).2)
def rReadD (k : Int) (tn : Bool) (l : Bs) : (Bool × Int × Bs) × Int :=
  if kMay k = true then (if kOk k tn (rGuess k l).1 (rGuess k l).2.1 (rGuess k l).2.2 = true ∧ (if (rGuess k l).1 = true then kNull else kText k (rGuess k l).2.1 (rGuess k l).2.2) = l then (rGuess k l, 0) else ((false, 0, []), 4)) else ((false, 0, []), 2)
theorem rrd_text {k n : Int} {s : Bs} (hk : kMay k = true) (h : kIs k n s = true) : rRd k (kText k n s) = (n, s) := by
  have h4 := read_text hk h
  rcases may_cases hk with rfl | rfl | rfl | rfl | rfl
  · exact h4
  · obtain ⟨rfl, h0, h1⟩ := is23 (.inl rfl) h
    show (rWhole (itoa n), ([] : Bs)) = _
    rw [rwhole_itoa h0 h1]
  · obtain ⟨rfl, h0, h1⟩ := is23 (.inr rfl) h
    show (rWhole (itoa n), ([] : Bs)) = _
    rw [rwhole_itoa h0 h1]
  · exact h4
  · obtain ⟨rfl, h0⟩ := is5.1 h
    show ((0 : Int), rUnhex (s.flatMap hexb)) = _
    rw [runhex_hex]
theorem rguess_text {k n : Int} {tn nu : Bool} {s : Bs} (h : kCheck k tn nu n s = 0) : rGuess k (kTextD k tn nu n s) = (nu, n, s) := by
  obtain ⟨hk, ho⟩ := check_zero h
  cases nu with
  | true =>
    obtain ⟨rfl, rfl, rfl⟩ := ok_null ho
    have ht : kTextD k true true 0 [] = kNull := by unfold kTextD; rw [if_pos h, if_pos rfl]
    rw [ht]; unfold rGuess; rw [if_pos rfl]
  | false =>
    have hi := ok_some ho
    have ht : kTextD k tn false n s = kText k n s := by unfold kTextD; rw [if_pos h, if_neg (by simp)]
    rw [ht]; unfold rGuess; rw [if_neg (text_null hk hi), rrd_text hk hi]
theorem rread_eq (k : Int) (tn : Bool) (l : Bs) : rReadD k tn l = kReadD k tn l := by
  cases hk : kMay k with
  | false =>
    unfold rReadD kReadD
    rw [hk]; rfl
  | true =>
    obtain ⟨⟨u, n, s⟩, hg⟩ : ∃ g, rGuess k l = g := ⟨_, rfl⟩
    by_cases hc : kOk k tn u n s = true ∧ (if u = true then kNull else kText k n s) = l
    · have h1 : rReadD k tn l = ((u, n, s), 0) := by
        unfold rReadD
        rw [if_pos hk, hg]
        exact if_pos hc
      have h0 := check_of hk hc.1
      have ht : kTextD k tn u n s = l := by unfold kTextD; rw [if_pos h0]; exact hc.2
      rw [h1, ← ht, read_back h0]
    · have h1 : rReadD k tn l = ((false, 0, []), 4) := by
        unfold rReadD
        rw [if_pos hk, hg]
        exact if_neg hc
      rw [h1]
      obtain ⟨⟨⟨u', n', s'⟩, e⟩, hr⟩ : ∃ D, kReadD k tn l = D := ⟨_, rfl⟩
      by_cases he : e = 0
      · subst he
        obtain ⟨h2, h3⟩ := read_only hr
        have h4 := rguess_text h2
        rw [h3, hg] at h4
        injection h4 with h5 h6
        injection h6 with h6 h7
        subst h5 h6 h7
        refine absurd ⟨(check_zero h2).2, ?_⟩ hc
        unfold kTextD at h3
        rw [if_pos h2] at h3
        exact h3
      · have h5 := read_err (k := k) (tn := tn) (l := l) (by rw [hr]; exact he)
        have h6 : (kReadD k tn l).2 = 0 ∨ (kReadD k tn l).2 = 4 := by
          unfold kReadD
          rw [if_pos hk]
          split
          · exact .inl rfl
          · exact .inr rfl
        rw [hr] at h5 h6
        have h7 : e = 4 := by rcases h6 with h6 | h6; exact absurd h6 he; exact h6
        have h8 : ((u', n', s') : Bool × Int × Bs) = (false, 0, []) := h5
        rw [hr, h8, h7]
theorem rwhole_bd (l : Bs) : -9223372036854775808 ≤ rWhole l ∧ rWhole l ≤ 9223372036854775807 := by
  have h1 : ∀ (b : Bool) (R : Option Nat), -9223372036854775808 ≤ rWv b R ∧ rWv b R ≤ 9223372036854775807 := by
    intro b R
    unfold rWv
    split
    · omega
    · split
      · omega
      · unfold RowKit.wrap64; omega
  have h2 : ∀ (b : Bool) (d : Bs), -9223372036854775808 ≤ rWd b d ∧ rWd b d ≤ 9223372036854775807 := by
    intro b d
    unfold rWd
    split
    · omega
    · exact h1 _ _
  unfold rWhole
  split <;> exact h2 _ _
theorem uh_len : ∀ (n : Nat) (l r : Bs), l.length ≤ n → uh l = some r → r.length ≤ n
  | _, [], r, _, h => by injection h with h; rw [← h]; simp
  | _, [a], r, _, h => by simp [uh] at h
  | 0, a :: b :: t, r, hn, h => by simp at hn
  | n + 1, a :: b :: t, r, hn, h => by
    rw [uh] at h
    split at h
    · cases hu : uh t with
      | none => rw [hu] at h; simp at h
      | some q =>
        rw [hu] at h
        have := uh_len n t q (by simp at hn; omega) hu
        simp at h
        rw [← h]; simp; omega
    · simp at h
theorem runhex_len (l : Bs) : (rUnhex l).length ≤ l.length := by
  unfold rUnhex
  split
  · cases hu : uh l with
    | none => simp
    | some r => exact uh_len _ l r (Nat.le_refl _) hu
  · simp
end Go.Ms
namespace Go.Proofs.YtcdmiiaamajfoaaGreatDoor
open Go.RowKit Go.Ms Go.Lib
theorem rguess_bd (k : Int) (l : Bs) (hl : l.length ≤ 2400) : (rGuess k l).2.2.length ≤ 10000 ∧ -9223372036854775808 ≤ (rGuess k l).2.1 ∧ (rGuess k l).2.1 ≤ 9223372036854775807 := by
  have hu := kread_len 4 l
  have hu' : (unquoteD l).1.length ≤ 4 * (l.length + 2) := hu
  have hx := runhex_len (l.drop 1)
  rw [List.length_drop] at hx
  have hw := rwhole_bd l
  unfold rGuess
  split
  · simp
  · unfold rRd
    split
    · split <;> simp
    · split
      · simp; exact hw
      · split
        · exact ⟨by show (unquoteD l).1.length ≤ 10000; omega, by show (-9223372036854775808 : Int) ≤ 0; omega, by show (0 : Int) ≤ _; omega⟩
        · exact ⟨by show (rUnhex (l.drop 1)).length ≤ 10000; omega, by show (-9223372036854775808 : Int) ≤ 0; omega, by show (0 : Int) ≤ _; omega⟩
end Go.Proofs.YtcdmiiaamajfoaaGreatDoor
set_option linter.unusedSimpArgs false
namespace Go.Proofs.YtcdmiiaamajfoaaGreatDoor
open Go.RowKit Go.Ms Go.Lib
def cellV (g : Bool × Int × Bs) : Value := .agg #[.bool g.1, .int .i64 g.2.1, .string ⟨g.2.2.toArray⟩]
theorem below_a3 (w : World) (o1 o2 o3 : Obj) : Below w.heap.size w (((w.alloc o1).alloc o2).alloc o3) :=
  (((Below.refl _ _).alloc (Nat.le_refl _) _).alloc (by simp) _).alloc (by simp; omega) _
theorem rguess_null (k : Int) (tn : Bool) (w : World) :
    Calls Tryz.prog 145 #[.agg #[.int .i64 k, .bool tn], .string (⟨#[110, 117, 108, 108]⟩ : ByteArray)] w fun e w' => e = .returned (cellV (true, 0, [])) ∧ Below w.heap.size w w' := by
  go_enter Tryz.func145, Tryz.ntmps145
  go_wp2_with fail
  exact bodyPost_ret (v := cellV (true, 0, [])) (by simp [results, Tryz.results145, go_sem, cellV]) rfl ⟨rfl, below_a3 _ _ _ _⟩
theorem rguess_1 (tn : Bool) (S : ByteArray) (w : World) (hN : ¬ S.data.toList = kNull) :
    Calls Tryz.prog 145 #[.agg #[.int .i64 1, .bool tn], .string S] w fun e w' => e = .returned (cellV (rGuess 1 S.data.toList)) ∧ Below w.heap.size w w' := by
  have e1 : (S.toList == [110, 117, 108, 108]) = false := by rw [Lib.toList_data]; rw [beq_eq_false_iff_ne]; exact hN
  have e2 : ¬ S.toList = [110, 117, 108, 108] := by rw [Lib.toList_data]; exact hN
  by_cases hT : S.data.toList = kTrue
  · have hg : rGuess 1 S.data.toList = (false, 1, []) := by
      unfold rGuess; rw [if_neg hN, hT]; rfl
    have t1 : (S.toList == [116, 114, 117, 101]) = true := by rw [Lib.toList_data, hT]; rfl
    have t2 : S.toList = [116, 114, 117, 101] := by rw [Lib.toList_data]; exact hT
    rw [hg]
    clear hg hT hN
    go_enter Tryz.func145, Tryz.ntmps145
    go_wp2_with fail
    exact bodyPost_ret (v := cellV (false, 1, [])) (by simp [results, Tryz.results145, go_sem, cellV]) rfl ⟨rfl, below_a3 _ _ _ _⟩
  · have hg : rGuess 1 S.data.toList = (false, 0, []) := by
      unfold rGuess rRd; rw [if_neg hN, if_pos rfl, if_neg hT]
    have t1 : (S.toList == [116, 114, 117, 101]) = false := by rw [Lib.toList_data]; rw [beq_eq_false_iff_ne]; exact hT
    have t2 : ¬ S.toList = [116, 114, 117, 101] := by rw [Lib.toList_data]; exact hT
    rw [hg]
    clear hg hT hN
    go_enter Tryz.func145, Tryz.ntmps145
    go_wp2_with fail
    exact bodyPost_ret (v := cellV (false, 0, [])) (by simp [results, Tryz.results145, go_sem, cellV]) rfl ⟨rfl, below_a3 _ _ _ _⟩
theorem rguess_23 (k : Int) (hk : k = 2 ∨ k = 3) (tn : Bool) (S : ByteArray) (w : World) (hN : ¬ S.data.toList = kNull) (hs : S.size ≤ 2400) :
    Calls Tryz.prog 145 #[.agg #[.int .i64 k, .bool tn], .string S] w fun e w' => e = .returned (cellV (rGuess k S.data.toList)) ∧ Below w.heap.size w w' := by
  have e1 : (S.toList == [110, 117, 108, 108]) = false := by rw [Lib.toList_data]; rw [beq_eq_false_iff_ne]; exact hN
  have e2 : ¬ S.toList = [110, 117, 108, 108] := by rw [Lib.toList_data]; exact hN
  have hg : rGuess k S.data.toList = (false, rWhole S.data.toList, []) := by
    unfold rGuess rRd
    rcases hk with rfl | rfl <;> rw [if_neg hN] <;> rfl
  rw [hg]
  have cw := fun w' => rwhole_any S w' (by omega)
  generalize rWhole S.data.toList = v at *
  have x0 := T2x.start w k tn false 0 ⟨#[]⟩ false 0 ⟨#[]⟩
  have X0 := Lib.hid x0
  have CW := Lib.hid cw
  clear x0 cw hg hN
  rcases hk with rfl | rfl
  all_goals
    go_enter Tryz.func145, Tryz.ntmps145
    go_wp2_with fail
    refine (CW.out _).mono ?_
    rintro en w1 ⟨b, rfl, b1⟩
    have x1 := X0.out.step b1
    obtain ⟨d0, d1, a0, a1, a2, c0, c1, c2, f0, f1, f2, h0, h1, h2⟩ := x1.cells
    have HB := Lib.hid x1.bel
    clear x1 b1
    go_wp2_with fail
    exact bodyPost_ret (v := cellV (false, v, [])) (by simp [results, Tryz.results145, go_sem, cellV, a0, a1, a2, c0, c1, c2]) rfl ⟨rfl, below_set3 ((HB.out.setCell (p := ⟨_, _, _⟩) (by simp; omega) _)) (by simp) _ _ _⟩
theorem rguess_4 (tn : Bool) (S : ByteArray) (w : World) (hN : ¬ S.data.toList = kNull) (hs : S.size ≤ 2400) :
    Calls Tryz.prog 145 #[.agg #[.int .i64 4, .bool tn], .string S] w fun e w' => e = .returned (cellV (rGuess 4 S.data.toList)) ∧ Below w.heap.size w w' := by
  have e1 : (S.toList == [110, 117, 108, 108]) = false := by rw [Lib.toList_data]; rw [beq_eq_false_iff_ne]; exact hN
  have e2 : ¬ S.toList = [110, 117, 108, 108] := by rw [Lib.toList_data]; exact hN
  have hg : rGuess 4 S.data.toList = (false, 0, (unquoteD S.data.toList).1) := by
    unfold rGuess rRd
    rw [if_neg hN]; rfl
  rw [hg]
  have cw := fun w' => runquote_any S w' (by omega)
  generalize unquoteD S.data.toList = v at *
  have x0 := T2x.start w 4 tn false 0 ⟨#[]⟩ false 0 ⟨#[]⟩
  have X0 := Lib.hid x0
  have CW := Lib.hid cw
  clear x0 cw hg hN
  go_enter Tryz.func145, Tryz.ntmps145
  go_wp2_with fail
  refine (CW.out _).mono ?_
  rintro en w1 ⟨rfl, b1⟩
  have x1 := X0.out.step b1
  obtain ⟨d0, d1, a0, a1, a2, c0, c1, c2, f0, f1, f2, h0, h1, h2⟩ := x1.cells
  have HB := Lib.hid x1.bel
  clear x1 b1
  go_wp2_with fail
  exact bodyPost_ret (v := cellV (false, 0, v.1)) (by simp [results, Tryz.results145, go_sem, cellV, a0, a1, a2, c0, c1, c2]) rfl ⟨rfl, below_set3 ((HB.out.setCell (p := ⟨_, _, _⟩) (by simp; omega) _)) (by simp) _ _ _⟩
theorem rguess_5 (tn : Bool) (S : ByteArray) (w : World) (hN : ¬ S.data.toList = kNull) (hs : S.size ≤ 2400) :
    Calls Tryz.prog 145 #[.agg #[.int .i64 5, .bool tn], .string S] w fun e w' => e = .returned (cellV (rGuess 5 S.data.toList)) ∧ Below w.heap.size w w' := by
  have e1 : (S.toList == [110, 117, 108, 108]) = false := by rw [Lib.toList_data]; rw [beq_eq_false_iff_ne]; exact hN
  have e2 : ¬ S.toList = [110, 117, 108, 108] := by rw [Lib.toList_data]; exact hN
  have hg : rGuess 5 S.data.toList = (false, 0, rUnhex (S.data.toList.drop 1)) := by
    unfold rGuess rRd
    rw [if_neg hN]; rfl
  by_cases h0 : S.size = 0
  · obtain rfl : S = ⟨#[]⟩ := ba_ext (List.eq_nil_of_length_eq_zero (by rw [lenS]; exact h0))
    rw [hg]
    go_enter Tryz.func145, Tryz.ntmps145
    go_wp2_with fail
    exact bodyPost_ret (v := cellV (false, 0, [])) (by simp [results, Tryz.results145, go_sem, cellV]) rfl ⟨rfl, below_a3 _ _ _ _⟩
  · have hp : 0 < (S.size : Int) := by omega
    have hp1 : 1 ≤ S.size := by omega
    obtain ⟨T, hT⟩ : ∃ T, S.extract 1 S.size = T := ⟨_, rfl⟩
    have hTd : T.data.toList = S.data.toList.drop 1 := by rw [← hT, ext_list, List.take_of_length_le (by simp)]
    have hTs : T.size ≤ 100000 := by
      have : T.data.toList.length = T.size := by simp
      rw [hTd, List.length_drop, lenS] at this
      omega
    rw [hg, ← hTd]
    have cw := fun w' => runhex_any T w' hTs
    generalize rUnhex T.data.toList = v at *
    have x0 := T2x.start w 5 tn false 0 ⟨#[]⟩ false 0 ⟨#[]⟩
    have X0 := Lib.hid x0
    have CW := Lib.hid cw
    clear x0 cw hg hN hTd hTs
    go_enter Tryz.func145, Tryz.ntmps145
    go_wp2_with fail
    (try rw [hT])
    refine (CW.out _).mono ?_
    rintro en w1 ⟨b, rfl, b1⟩
    have x1 := X0.out.step b1
    obtain ⟨d0, d1, a0, a1, a2, c0, c1, c2, f0, f1, f2, h0, h1, h2⟩ := x1.cells
    have HB := Lib.hid x1.bel
    clear x1 b1
    go_wp2_with fail
    exact bodyPost_ret (v := cellV (false, 0, v)) (by simp [results, Tryz.results145, go_sem, cellV, a0, a1, a2, c0, c1, c2]) rfl ⟨rfl, below_set3 ((HB.out.setCell (p := ⟨_, _, _⟩) (by simp; omega) _)) (by simp) _ _ _⟩
theorem rguess_any (k : Int) (hk : kMay k = true) (tn : Bool) (S : ByteArray) (w : World) (hs : S.size ≤ 2400) :
    Calls Tryz.prog 145 #[.agg #[.int .i64 k, .bool tn], .string S] w fun e w' => e = .returned (cellV (rGuess k S.data.toList)) ∧ Below w.heap.size w w' := by
  by_cases hN : S.data.toList = kNull
  · obtain rfl : S = (⟨#[110, 117, 108, 108]⟩ : ByteArray) := ba_ext hN
    have hg : rGuess k (⟨#[110, 117, 108, 108]⟩ : ByteArray).data.toList = (true, 0, []) := if_pos rfl
    rw [hg]
    exact rguess_null k tn w
  · rcases may_cases hk with rfl | rfl | rfl | rfl | rfl
    · exact rguess_1 tn S w hN
    · exact rguess_23 2 (.inl rfl) tn S w hN hs
    · exact rguess_23 3 (.inr rfl) tn S w hN hs
    · exact rguess_4 tn S w hN hs
    · exact rguess_5 tn S w hN hs
/-- What the reference's Read answers is what the program's does. -/
theorem rread_any (k : Int) (tn : Bool) (S : ByteArray) (w : World) (hs : S.size ≤ 2400) :
    Calls Tryz.prog 79 #[.agg #[.int .i64 k, .bool tn], .string S] w fun e w' => e = .returned (readV (kReadD k tn S.data.toList)) ∧ Below w.heap.size w w' := by
  rw [← rread_eq]
  have cm := fun w' => rmay_any k tn w'
  have x0 := TBx.start w k tn false 0 ⟨#[]⟩
  have X0 := Lib.hid x0
  cases hk : kMay k with
  | false =>
    rw [hk] at cm
    have hd : rReadD k tn S.data.toList = ((false, 0, []), 2) := by unfold rReadD; rw [if_neg (by rw [hk]; decide)]
    rw [hd]
    have CM := Lib.hid cm
    clear cm hd hk x0
    go_enter Tryz.func79, Tryz.ntmps79
    go_wp2_with fail
    refine (CM.out _).mono ?_
    rintro en w1 ⟨rfl, b1⟩
    have x1 := X0.out.step b1
    obtain ⟨d0, d1, a0, a1, a2, f0, f1, f2, l0, l1⟩ := x1.cells
    have HB := Lib.hid x1.bel
    clear x1 b1
    go_wp2_with fail
    exact bodyPost_ret (v := readV ((false, 0, []), 2)) (by simp [results, Tryz.results79, go_sem, readV, a0, a1, a2]) rfl ⟨rfl, below_set3 HB.out (by simp) _ _ _⟩
  | true =>
    rw [hk] at cm
    have hl := lenS S
    have hbd := rguess_bd k S.data.toList (by omega)
    have cg := fun w' => rguess_any k hk tn S w' hs
    obtain ⟨⟨u, n, s⟩, hg⟩ : ∃ g, rGuess k S.data.toList = g := ⟨_, rfl⟩
    rw [hg] at cg hbd
    obtain ⟨T, hT⟩ : ∃ T : ByteArray, (⟨s.toArray⟩ : ByteArray) = T := ⟨_, rfl⟩
    have hTs : T.data.toList = s := by rw [← hT]
    have hTz : T.size ≤ 10000 := by rw [← lenS T, hTs]; exact hbd.1
    have co := fun w' => rof_any k hk tn u n T w' (by omega) hbd.2.1 hbd.2.2
    have ct := fun w' => rtext_any k hk tn u n T w' hTz hbd.2.1 hbd.2.2
    rw [hTs] at co ct
    have hd : rReadD k tn S.data.toList = if kOk k tn u n s = true ∧ (if u = true then kNull else kText k n s) = S.data.toList then ((u, n, s), 0) else ((false, 0, []), 4) := by
      unfold rReadD
      rw [if_pos hk, hg]
    have hcv : cellV (u, n, s) = .agg #[.bool u, .int .i64 n, .string T] := by rw [← hT]; rfl
    have hrv : readV ((u, n, s), 0) = .tuple #[.agg #[.bool u, .int .i64 n, .string T], .int .i64 0] := by rw [← hT]; rfl
    rw [hcv] at cg
    generalize kOk k tn u n s = c at *
    generalize (if u = true then kNull else kText k n s) = L at *
    obtain ⟨LB, hLB⟩ : ∃ LB : ByteArray, (⟨L.toArray⟩ : ByteArray) = LB := ⟨_, rfl⟩
    have hLl : LB.data.toList = L := by rw [← hLB]
    rw [hLB] at ct
    have CM := Lib.hid cm; have CG := Lib.hid cg; have CO := Lib.hid co; have CT := Lib.hid ct
    clear cm cg co ct x0 hbd hg hT hTs hTz hcv hLB hk hl
    cases c with
    | false =>
      have hd2 : rReadD k tn S.data.toList = ((false, 0, []), 4) := by rw [hd]; exact if_neg (fun h => absurd h.1 (by decide))
      rw [hd2]
      clear hd hd2 hrv hLl
      go_enter Tryz.func79, Tryz.ntmps79
      go_wp2_with fail
      refine (CM.out _).mono ?_
      rintro en w1 ⟨rfl, b1⟩
      have x1 := X0.out.step b1
      obtain ⟨d0, d1, a0, a1, a2, f0, f1, f2, l0, l1⟩ := x1.cells
      have X1 := Lib.hid x1
      clear x1 b1
      go_wp2_with fail
      refine (CG.out _).mono ?_
      rintro en w2 ⟨rfl, b2⟩
      clear d0 d1 a0 a1 a2 f0 f1 f2 l0 l1
      have x2 := X1.out.step b2
      obtain ⟨d0, d1, a0, a1, a2, f0, f1, f2, l0, l1⟩ := x2.cells
      have hA : CellAt w2.heap.size u n T (w2.alloc (.cells #[.bool u, .int .i64 n, .string T] 23)) := by simpa [CellAt, Tri] using heap_alloc_new w2 (.cells #[.bool u, .int .i64 n, .string T] 23)
      have X2 := Lib.hid (x2.alloc (.cells #[.bool u, .int .i64 n, .string T] 23))
      have HA := Lib.hid hA
      have n0 := l1
      have n1 : w.heap.size < w2.heap.size := by omega
      have n2 : w.heap.size + 1 < w2.heap.size := by omega
      clear x2 b2 hA
      go_wp2_with fail
      refine (CO.out _).mono ?_
      rintro en w3 ⟨rfl, b3⟩
      clear d0 d1 a0 a1 a2 f0 f1 f2 l0 l1
      have x3 := X2.out.step b3
      have hA3 := tri_step HA.out b3
      obtain ⟨d0, d1, a0, a1, a2, f0, f1, f2, l0, l1⟩ := x3.cells
      have HB := Lib.hid x3.bel
      clear x3 b3 hA3
      go_wp2_with fail
      exact bodyPost_ret (v := readV ((false, 0, []), 4)) (by simp [results, Tryz.results79, go_sem, readV, a0, a1, a2]) rfl ⟨rfl, below_set3 HB.out (by simp) _ _ _⟩
    | true =>
      by_cases hL : L = S.data.toList
      · have hd2 : rReadD k tn S.data.toList = ((u, n, s), 0) := by rw [hd]; exact if_pos ⟨rfl, hL⟩
        obtain rfl : LB = S := by rw [ba_ext (s := LB) rfl, hLl, hL]
        rw [hd2, hrv]
        clear hd hd2 hrv hLl hL
        go_enter Tryz.func79, Tryz.ntmps79
        go_wp2_with fail
        refine (CM.out _).mono ?_
        rintro en w1 ⟨rfl, b1⟩
        have x1 := X0.out.step b1
        obtain ⟨d0, d1, a0, a1, a2, f0, f1, f2, l0, l1⟩ := x1.cells
        have X1 := Lib.hid x1
        clear x1 b1
        go_wp2_with fail
        refine (CG.out _).mono ?_
        rintro en w2 ⟨rfl, b2⟩
        clear d0 d1 a0 a1 a2 f0 f1 f2 l0 l1
        have x2 := X1.out.step b2
        obtain ⟨d0, d1, a0, a1, a2, f0, f1, f2, l0, l1⟩ := x2.cells
        have hA : CellAt w2.heap.size u n T (w2.alloc (.cells #[.bool u, .int .i64 n, .string T] 23)) := by simpa [CellAt, Tri] using heap_alloc_new w2 (.cells #[.bool u, .int .i64 n, .string T] 23)
        have X2 := Lib.hid (x2.alloc (.cells #[.bool u, .int .i64 n, .string T] 23))
        have HA := Lib.hid hA
        have n0 := l1
        have n1 : w.heap.size < w2.heap.size := by omega
        have n2 : w.heap.size + 1 < w2.heap.size := by omega
        clear x2 b2 hA
        go_wp2_with fail
        refine (CO.out _).mono ?_
        rintro en w3 ⟨rfl, b3⟩
        clear d0 d1 a0 a1 a2 f0 f1 f2 l0 l1
        have x3 := X2.out.step b3
        have hA3 := tri_step HA.out b3
        obtain ⟨d0, d1, a0, a1, a2, f0, f1, f2, l0, l1⟩ := x3.cells
        have c0 := hA3.c0
        have c1 := hA3.c1
        have c2 := hA3.c2
        have X3 := Lib.hid x3
        have HA3 := Lib.hid hA3
        clear x3 b3 hA3
        go_wp2_with fail
        refine (CT.out _).mono ?_
        rintro en w4 ⟨rfl, b4⟩
        clear d0 d1 a0 a1 a2 f0 f1 f2 l0 l1 c0 c1 c2
        have x4 := X3.out.step b4
        have hA4 := tri_step HA3.out b4
        obtain ⟨d0, d1, a0, a1, a2, f0, f1, f2, l0, l1⟩ := x4.cells
        have c0 := hA4.c0
        have c1 := hA4.c1
        have c2 := hA4.c2
        have HB := Lib.hid x4.bel
        clear x4 b4 hA4
        go_wp2_with fail
        exact bodyPost_ret (v := .tuple #[.agg #[.bool u, .int .i64 n, .string T], .int .i64 0]) (by simp [results, Tryz.results79, go_sem, a0, a1, a2]) rfl ⟨rfl, below_set3 HB.out (by simp) _ _ _⟩
      · have hd2 : rReadD k tn S.data.toList = ((false, 0, []), 4) := by rw [hd]; exact if_neg (fun h => hL h.2)
        have q1 : (LB.toList == S.toList) = false := by rw [Lib.toList_data, Lib.toList_data, hLl]; rw [beq_eq_false_iff_ne]; exact hL
        have q2 : ¬ LB.toList = S.toList := by rw [Lib.toList_data, Lib.toList_data, hLl]; exact hL
        rw [hd2]
        clear hd hd2 hrv hLl hL
        go_enter Tryz.func79, Tryz.ntmps79
        go_wp2_with fail
        refine (CM.out _).mono ?_
        rintro en w1 ⟨rfl, b1⟩
        have x1 := X0.out.step b1
        obtain ⟨d0, d1, a0, a1, a2, f0, f1, f2, l0, l1⟩ := x1.cells
        have X1 := Lib.hid x1
        clear x1 b1
        go_wp2_with fail
        refine (CG.out _).mono ?_
        rintro en w2 ⟨rfl, b2⟩
        clear d0 d1 a0 a1 a2 f0 f1 f2 l0 l1
        have x2 := X1.out.step b2
        obtain ⟨d0, d1, a0, a1, a2, f0, f1, f2, l0, l1⟩ := x2.cells
        have hA : CellAt w2.heap.size u n T (w2.alloc (.cells #[.bool u, .int .i64 n, .string T] 23)) := by simpa [CellAt, Tri] using heap_alloc_new w2 (.cells #[.bool u, .int .i64 n, .string T] 23)
        have X2 := Lib.hid (x2.alloc (.cells #[.bool u, .int .i64 n, .string T] 23))
        have HA := Lib.hid hA
        have n0 := l1
        have n1 : w.heap.size < w2.heap.size := by omega
        have n2 : w.heap.size + 1 < w2.heap.size := by omega
        clear x2 b2 hA
        go_wp2_with fail
        refine (CO.out _).mono ?_
        rintro en w3 ⟨rfl, b3⟩
        clear d0 d1 a0 a1 a2 f0 f1 f2 l0 l1
        have x3 := X2.out.step b3
        have hA3 := tri_step HA.out b3
        obtain ⟨d0, d1, a0, a1, a2, f0, f1, f2, l0, l1⟩ := x3.cells
        have c0 := hA3.c0
        have c1 := hA3.c1
        have c2 := hA3.c2
        have X3 := Lib.hid x3
        have HA3 := Lib.hid hA3
        clear x3 b3 hA3
        go_wp2_with fail
        refine (CT.out _).mono ?_
        rintro en w4 ⟨rfl, b4⟩
        clear d0 d1 a0 a1 a2 f0 f1 f2 l0 l1 c0 c1 c2
        have x4 := X3.out.step b4
        have hA4 := tri_step HA3.out b4
        obtain ⟨d0, d1, a0, a1, a2, f0, f1, f2, l0, l1⟩ := x4.cells
        have c0 := hA4.c0
        have c1 := hA4.c1
        have c2 := hA4.c2
        have HB := Lib.hid x4.bel
        clear x4 b4 hA4
        go_wp2_with fail
        exact bodyPost_ret (v := readV ((false, 0, []), 4)) (by simp [results, Tryz.results79, go_sem, readV, a0, a1, a2]) rfl ⟨rfl, below_set3 HB.out (by simp) _ _ _⟩
end Go.Proofs.YtcdmiiaamajfoaaGreatDoor
set_option linter.unusedSimpArgs false
namespace Go.Ms
open Go.Lib
def rNum (l : Bs) : Int := (kBe (l.take 8) : Int) - 9223372036854775808
/-- What the reference's bare takes off. -/
def rBare (k : Int) (l : Bs) : (Bool × Int × Bs) × Nat × Int :=
  if k = 1 then ((false, (kUnbool l).1, []), (kUnbool l).2.1, (kUnbool l).2.2)
  else if k = 2 ∨ k = 3 then (if l.length < 8 then ((false, 0, []), 0, 3) else if kIs k (rNum l) [] = true then ((false, rNum l, []), 8, 0) else ((false, 0, []), 0, 4))
  else ((false, 0, (unrowD l).1), (unrowD l).2.1, if (unrowD l).2.2 = 0 then (if kIs k 0 (unrowD l).1 = true then 0 else 4) else (unrowD l).2.2)
theorem kbe_fold : ∀ (l : Bs) (u : Nat), l.foldl (fun u c => 256 * u + c.toNat) u < (u + 1) * 256 ^ l.length
  | [], u => by simp
  | c :: l, u => by
    have h := kbe_fold l (256 * u + c.toNat)
    have hc : c.toNat < 256 := UInt8.toNat_lt c
    rw [List.foldl_cons, List.length_cons, Nat.pow_succ]
    refine Nat.lt_of_lt_of_le h ?_
    rw [Nat.mul_comm (256 ^ l.length) 256, ← Nat.mul_assoc]
    exact Nat.mul_le_mul_right _ (by omega)
theorem kbe_lt (l : Bs) : kBe l < 256 ^ l.length := by
  have := kbe_fold l 0
  simpa [kBe] using this
theorem kbe_take (l : Bs) (i : Nat) (h : i < l.length) : kBe (l.take (i + 1)) = 256 * kBe (l.take i) + bt l i := by
  unfold kBe
  rw [List.take_succ_eq_append_getElem h, List.foldl_append]
  simp [bt, List.getD_eq_getElem?_getD, h]
theorem kbe_7 (l : Bs) (i : Nat) (h : i < 8) : kBe (l.take i) < 72057594037927936 := by
  refine Nat.lt_of_lt_of_le (kbe_lt _) ?_
  have h1 : (l.take i).length ≤ 7 := by rw [List.length_take]; omega
  have := Nat.pow_le_pow_right (n := 256) (by omega) h1
  simpa using this
theorem kbe_8 (l : Bs) : kBe (l.take 8) < 18446744073709551616 := by
  refine Nat.lt_of_lt_of_le (kbe_lt _) ?_
  have h1 : (l.take 8).length ≤ 8 := by rw [List.length_take]; omega
  have := Nat.pow_le_pow_right (n := 256) (by omega) h1
  simpa using this
end Go.Ms
namespace Go.Proofs.YtcdmiiaamajfoaaGreatDoor
open Go.RowKit Go.Ms Go.Lib
theorem below_a2 (w : World) (o1 o2 : Obj) : Below w.heap.size w ((w.alloc o1).alloc o2) := ((Below.refl _ _).alloc (Nat.le_refl _) _).alloc (by simp) _
theorem rbare_1 (tn : Bool) (S : ByteArray) (w : World) (hs : S.size ≤ 100000) :
    Calls Tryz.prog 149 #[.agg #[.int .i64 1, .bool tn], .string S] w fun e w' => e = .returned (unV (rBare 1 S.data.toList)) ∧ Below w.heap.size w w' := by
  have hg : rBare 1 S.data.toList = ((false, (kUnbool S.data.toList).1, []), (kUnbool S.data.toList).2.1, (kUnbool S.data.toList).2.2) := if_pos rfl
  rw [hg]
  have hl := lenS S
  by_cases h0 : S.data.toList = []
  · have hu : kUnbool S.data.toList = (0, 0, 3) := if_pos h0
    have hz : S.size = 0 := by rw [← lenS S, h0]; rfl
    rw [hu]
    go_enter Tryz.func149, Tryz.ntmps149
    go_wp2_with fail
    exact bodyPost_ret (v := unV ((false, 0, []), 0, 3)) (by simp [results, Tryz.results149, go_sem, unV]) rfl ⟨rfl, below_a2 _ _ _⟩
  · have hz : 0 < S.size := by rw [← hl]; exact List.length_pos_iff.2 h0
    have hzi : 0 < (S.size : Int) := by omega
    have hz1 : ¬ (S.size : Int) = 0 := by omega
    have hz2 : ((S.size : Int) == 0) = false := by rw [beq_eq_false_iff_ne]; omega
    have gi : ((S[0]'hz).toNat : Int) = (bt S.data.toList 0 : Int) := by rw [get_of]; rfl
    have hb := bt_lt S.data.toList 0
    have hu : kUnbool S.data.toList = if 1 < bt S.data.toList 0 then (0, 0, 4) else (((bt S.data.toList 0 : Nat) : Int), 1, 0) := if_neg h0
    rw [hu]
    clear hg hu h0 hl
    generalize bt S.data.toList 0 = x at *
    by_cases hx : 1 < x
    · rw [if_pos hx]
      have hxi : (1 : Int) < (x : Int) := by omega
      go_enter Tryz.func149, Tryz.ntmps149
      go_wp2_with fail
      exact bodyPost_ret (v := unV ((false, 0, []), 0, 4)) (by simp [results, Tryz.results149, go_sem, unV]) rfl ⟨rfl, below_a2 _ _ _⟩
    · rw [if_neg hx]
      have hxi : ¬ (1 : Int) < (x : Int) := by omega
      have v1 : IntKind.i64.wrap (x : Int) = (x : Int) := IntWalk.i64_in _ (by omega)
      go_enter Tryz.func149, Tryz.ntmps149
      go_wp2_with fail
      exact bodyPost_ret (v := unV ((false, x, []), 1, 0)) (by simp [results, Tryz.results149, go_sem, unV]) rfl ⟨rfl, by first | exact below_a2 _ _ _ | exact below_a3 _ _ _ _⟩
set_option maxRecDepth 100000 in
set_option maxHeartbeats 4000000 in
theorem rbare_2 (k : Int) (hk : k = 2 ∨ k = 3) (tn : Bool) (S : ByteArray) (w : World) (hs : S.size ≤ 100000) :
    Calls Tryz.prog 149 #[.agg #[.int .i64 k, .bool tn], .string S] w fun e w' => e = .returned (unV (rBare k S.data.toList)) ∧ Below w.heap.size w w' := by
  have hg : rBare k S.data.toList = if S.data.toList.length < 8 then ((false, 0, []), 0, 3) else if kIs k (rNum S.data.toList) [] = true then ((false, rNum S.data.toList, []), 8, 0) else ((false, 0, []), 0, 4) := by
    unfold rBare
    rw [if_neg (by omega), if_pos hk]
  rw [hg]
  have hl := lenS S
  have cn := fun w' => rnumber_any k tn w'
  rw [decide_eq_true (by omega : k ≤ 3)] at cn
  have x0 := TBx.start w k tn false 0 ⟨#[]⟩
  have X0 := Lib.hid x0
  have CN := Lib.hid cn
  have k1 : (k == 1) = false := by rw [beq_eq_false_iff_ne]; omega
  clear cn x0 hg
  by_cases h8 : S.size < 8
  · rw [if_pos (by omega)]
    have h8i : (S.size : Int) < 8 := by omega
    go_enter Tryz.func149, Tryz.ntmps149
    go_wp2_with fail
    refine (CN.out _).mono ?_
    rintro en w1 ⟨rfl, b1⟩
    have x1 := X0.out.step b1
    obtain ⟨d0, d1, a0, a1, a2, f0, f1, f2, l0, l1⟩ := x1.cells
    have HB := Lib.hid x1.bel
    clear x1 b1
    go_wp2_with fail
    exact bodyPost_ret (v := unV ((false, 0, []), 0, 3)) (by simp [results, Tryz.results149, go_sem, unV, a0, a1, a2]) rfl ⟨rfl, below_set3 HB.out (by simp) _ _ _⟩
  · rw [if_neg (by omega)]
    have h8i : ¬ (S.size : Int) < 8 := by omega
    have hn0 : -9223372036854775808 ≤ rNum S.data.toList ∧ rNum S.data.toList ≤ 9223372036854775807 := by
      have := kbe_8 S.data.toList
      unfold rNum; omega
    have co := fun w' => rof_any k (by rcases hk with rfl | rfl <;> rfl) tn false (rNum S.data.toList) ⟨#[]⟩ w' (by decide) hn0.1 hn0.2
    have hok : kOk k tn false (rNum S.data.toList) (⟨#[]⟩ : ByteArray).data.toList = kIs k (rNum S.data.toList) [] := rfl
    rw [hok] at co
    have hNV : rNum S.data.toList = (kBe (S.data.toList.take 8) : Int) - 9223372036854775808 := rfl
    generalize rNum S.data.toList = NV at *
    have HNV := Lib.hid hNV
    clear hNV
    generalize kIs k NV [] = c at *
    have CO := Lib.hid co
    clear co hok
    go_enter Tryz.func149, Tryz.ntmps149
    go_wp2_with fail
    refine (CN.out _).mono ?_
    rintro en w1 ⟨rfl, b1⟩
    have x1 := X0.out.step b1
    obtain ⟨d0, d1, a0, a1, a2, f0, f1, f2, l0, l1⟩ := x1.cells
    have X1 := Lib.hid x1
    clear x1 b1
    go_wp2_with fail
    go_loopw [7, 8] (fun u i wr => ∃ j : Nat, i = .int .i64 j ∧ j ≤ 8 ∧ u = .int .u64 (kBe (S.data.toList.take j) : Nat) ∧ wr = w1) (fun _ i _ => 8 - (RowKit.intOf i).toNat)
    case atStart => exact ⟨0, rfl, by omega, rfl, rfl⟩
    case round =>
      obtain ⟨j, rfl, hj, rfl, hwr⟩ := hrel
      subst hwr
      by_cases hlt : j < 8
      · have hli : (j : Int) < 8 := by omega
        have hjS : j < S.size := by omega
        have hjS2 : (j : Int) < (S.size : Int) := by omega
        have gi : ((S[j]'hjS).toNat : Int) = (bt S.data.toList j : Int) := by rw [get_of]; rfl
        have hx := bt_lt S.data.toList j
        have hu := kbe_7 S.data.toList j hlt
        have ht := kbe_take S.data.toList j (by omega)
        generalize bt S.data.toList j = x at *
        generalize kBe (S.data.toList.take j) = U at *
        have v1 : IntKind.u64.wrap (256 * (U : Int)) = 256 * (U : Int) := IntWalk.u64_in _ (by omega)
        have v2 : IntKind.u64.wrap (256 * (U : Int) + (x : Int)) = 256 * (U : Int) + (x : Int) := IntWalk.u64_in _ (by omega)
        have v3 : 256 * (U : Int) % 18446744073709551616 = 256 * (U : Int) := by omega
        have v4 : (256 * (U : Int) + (x : Int)) % 18446744073709551616 = 256 * (U : Int) + (x : Int) := by omega
        have v5 : (x : Int) % 18446744073709551616 = (x : Int) := by omega
        have HT := Lib.hid ht
        clear ht
        go_wp2_with fail
        go_roundw
        case rel => exact ⟨j + 1, by go_num, by omega, by rw [HT.out]; congr 1, trivial⟩
        case measure => simp [RowKit.intOf]; omega
      · obtain rfl : j = 8 := by omega
        have hli : ¬ ((8 : Nat) : Int) < 8 := by omega
        have hU := kbe_8 S.data.toList
        have hNV := HNV.out
        generalize kBe (S.data.toList.take 8) = U at *
        clear HNV
        subst hNV
        have v1 : IntKind.u64.wrap ((U : Int) - 9223372036854775808) = ((U : Int) - 9223372036854775808) % 18446744073709551616 := by rw [IntKind.wrap_u64]
        have v2 : IntKind.i64.wrap (((U : Int) - 9223372036854775808) % 18446744073709551616) = (U : Int) - 9223372036854775808 := by
          rw [IntKind.wrap_i64]; omega
        have x1 := X1.out
        have hA : CellAt wr.heap.size false ((U : Int) - 9223372036854775808) ⟨#[]⟩ (wr.alloc (.cells #[.bool false, .int .i64 ((U : Int) - 9223372036854775808), .string ⟨#[]⟩] 23)) := by simpa [CellAt, Tri] using heap_alloc_new wr (.cells #[.bool false, .int .i64 ((U : Int) - 9223372036854775808), .string ⟨#[]⟩] 23)
        have X2 := Lib.hid (x1.alloc (.cells #[.bool false, .int .i64 ((U : Int) - 9223372036854775808), .string ⟨#[]⟩] 23))
        have HA := Lib.hid hA
        have n1 : w.heap.size < wr.heap.size := by omega
        have n2 : w.heap.size + 1 < wr.heap.size := by omega
        clear x1 hA
        cases c
        all_goals
          go_wp2_with fail
          refine (CO.out _).mono ?_
          rintro en w3 ⟨rfl, b3⟩
          clear d0 d1 a0 a1 a2 f0 f1 f2 l0 l1
          have x3 := X2.out.step b3
          have hA3 := tri_step HA.out b3
          obtain ⟨d0, d1, a0, a1, a2, f0, f1, f2, l0, l1⟩ := x3.cells
          have c0 := hA3.c0
          have c1 := hA3.c1
          have c2 := hA3.c2
          have HB := Lib.hid x3.bel
          clear x3 b3 hA3
          go_wp2_with fail
        · exact bodyPost_ret (v := unV ((false, 0, []), 0, 4)) (by simp [results, Tryz.results149, go_sem, unV, a0, a1, a2]) rfl ⟨rfl, below_set3 HB.out (by simp) _ _ _⟩
        · exact bodyPost_ret (v := unV ((false, ((U : Int) - 9223372036854775808), []), 8, 0)) (by simp [results, Tryz.results149, go_sem, unV, a0, a1, a2]) rfl ⟨rfl, below_set3 HB.out (by simp) _ _ _⟩
set_option maxRecDepth 100000 in
set_option maxHeartbeats 4000000 in
theorem rbare_4 (k : Int) (hk : k = 4 ∨ k = 5) (tn : Bool) (S : ByteArray) (w : World) (hs : S.size ≤ 100000) :
    Calls Tryz.prog 149 #[.agg #[.int .i64 k, .bool tn], .string S] w fun e w' => e = .returned (unV (rBare k S.data.toList)) ∧ Below w.heap.size w w' := by
  have hg : rBare k S.data.toList = ((false, 0, (unrowD S.data.toList).1), (unrowD S.data.toList).2.1, if (unrowD S.data.toList).2.2 = 0 then (if kIs k 0 (unrowD S.data.toList).1 = true then 0 else 4) else (unrowD S.data.toList).2.2) := by
    unfold rBare
    rw [if_neg (by omega), if_neg (by omega)]
  rw [hg]
  have cn := fun w' => rnumber_any k tn w'
  rw [decide_eq_false (by omega : ¬ k ≤ 3)] at cn
  have cr := fun w' => rrun_any S w' hs
  have hul := (unrow_len S.data.toList (S.data.toList.length + 1) 0 [] (by simp)).1
  obtain ⟨⟨s, n, e⟩, hR⟩ : ∃ R, unrowD S.data.toList = R := ⟨_, rfl⟩
  have hsl : s.length ≤ 1024 := by
    have : (unrowD S.data.toList).1.length ≤ 1024 := hul
    rw [hR] at this; exact this
  rw [hR] at cr ⊢
  obtain ⟨T, hT⟩ : ∃ T : ByteArray, (⟨s.toArray⟩ : ByteArray) = T := ⟨_, rfl⟩
  have hTs : T.data.toList = s := by rw [← hT]
  have hTz : T.size ≤ 1024 := by rw [← lenS T, hTs]; exact hsl
  have co := fun w' => rof_any k (by rcases hk with rfl | rfl <;> rfl) tn false 0 T w' (by omega) (by decide) (by decide)
  have hok : kOk k tn false 0 T.data.toList = kIs k 0 s := by rw [hTs]; rfl
  rw [hok] at co
  have hru : unrV (s, n, e) = .tuple #[.string T, .int .i64 n, .int .i64 e] := by rw [← hT]; rfl
  rw [hru] at cr
  have hun : ∀ c : Int, unV ((false, 0, s), n, c) = .tuple #[.agg #[.bool false, .int .i64 0, .string T], .int .i64 n, .int .i64 c] := fun c => by rw [← hT]; rfl
  show Calls _ _ _ _ fun en w' => en = .returned (unV ((false, 0, s), n, if e = 0 then (if kIs k 0 s = true then 0 else 4) else e)) ∧ _
  rw [hun]
  generalize kIs k 0 s = c at *
  have x0 := TBx.start w k tn false 0 ⟨#[]⟩
  have X0 := Lib.hid x0
  have CN := Lib.hid cn; have CR := Lib.hid cr; have CO := Lib.hid co
  have k1 : (k == 1) = false := by rw [beq_eq_false_iff_ne]; omega
  clear cn cr co x0 hg hR hT hTs hTz hok hru hun hsl hul
  by_cases he : e = 0
  · subst he
    rw [if_pos rfl]
    cases c
    all_goals
      go_enter Tryz.func149, Tryz.ntmps149
      go_wp2_with fail
      refine (CN.out _).mono ?_
      rintro en w1 ⟨rfl, b1⟩
      have x1 := X0.out.step b1
      obtain ⟨d0, d1, a0, a1, a2, f0, f1, f2, l0, l1⟩ := x1.cells
      have X1 := Lib.hid x1
      clear x1 b1
      go_wp2_with fail
      refine (CR.out _).mono ?_
      rintro en w2 ⟨rfl, b2⟩
      clear d0 d1 a0 a1 a2 f0 f1 f2 l0 l1
      have x2 := X1.out.step b2
      obtain ⟨d0, d1, a0, a1, a2, f0, f1, f2, l0, l1⟩ := x2.cells
      have X2 := Lib.hid x2
      clear x2 b2
      go_wp2_with fail
      refine (CO.out _).mono ?_
      rintro en w3 ⟨rfl, b3⟩
      clear d0 d1 a0 a1 a2 f0 f1 f2 l0 l1
      have x3 := X2.out.step b3
      obtain ⟨d0, d1, a0, a1, a2, f0, f1, f2, l0, l1⟩ := x3.cells
      have HB := Lib.hid x3.bel
      clear x3 b3
      go_wp2_with fail
    · exact bodyPost_ret (v := .tuple #[.agg #[.bool false, .int .i64 0, .string T], .int .i64 n, .int .i64 4]) (by simp [results, Tryz.results149, go_sem, a0, a1, a2]) rfl ⟨rfl, below_set3 HB.out (by simp) _ _ _⟩
    · exact bodyPost_ret (v := .tuple #[.agg #[.bool false, .int .i64 0, .string T], .int .i64 n, .int .i64 0]) (by simp [results, Tryz.results149, go_sem, a0, a1, a2]) rfl ⟨rfl, below_set3 HB.out (by simp) _ _ _⟩
  · rw [if_neg he]
    have he2 : (e == 0) = false := by rw [beq_eq_false_iff_ne]; exact he
    go_enter Tryz.func149, Tryz.ntmps149
    go_wp2_with fail
    refine (CN.out _).mono ?_
    rintro en w1 ⟨rfl, b1⟩
    have x1 := X0.out.step b1
    obtain ⟨d0, d1, a0, a1, a2, f0, f1, f2, l0, l1⟩ := x1.cells
    have X1 := Lib.hid x1
    clear x1 b1
    go_wp2_with fail
    refine (CR.out _).mono ?_
    rintro en w2 ⟨rfl, b2⟩
    clear d0 d1 a0 a1 a2 f0 f1 f2 l0 l1
    have x2 := X1.out.step b2
    obtain ⟨d0, d1, a0, a1, a2, f0, f1, f2, l0, l1⟩ := x2.cells
    have X2 := Lib.hid x2
    clear x2 b2
    go_wp2_with fail
    have HB := Lib.hid X2.out.bel
    exact bodyPost_ret (v := .tuple #[.agg #[.bool false, .int .i64 0, .string T], .int .i64 n, .int .i64 e]) (by simp [results, Tryz.results149, go_sem, a0, a1, a2]) rfl ⟨rfl, below_set3 HB.out (by simp) _ _ _⟩
theorem rbare_any (k : Int) (hk : kMay k = true) (tn : Bool) (S : ByteArray) (w : World) (hs : S.size ≤ 100000) :
    Calls Tryz.prog 149 #[.agg #[.int .i64 k, .bool tn], .string S] w fun e w' => e = .returned (unV (rBare k S.data.toList)) ∧ Below w.heap.size w w' := by
  rcases may_cases hk with rfl | rfl | rfl | rfl | rfl
  · exact rbare_1 tn S w hs
  · exact rbare_2 2 (.inl rfl) tn S w hs
  · exact rbare_2 3 (.inr rfl) tn S w hs
  · exact rbare_4 4 (.inl rfl) tn S w hs
  · exact rbare_4 5 (.inr rfl) tn S w hs
end Go.Proofs.YtcdmiiaamajfoaaGreatDoor
set_option linter.unusedSimpArgs false
namespace Go.Ms
open Go.Lib
def rFin (d : Nat) (x : (Bool × Int × Bs) × Nat × Int) : (Bool × Int × Bs) × Nat × Int := if x.2.2 = 0 then (x.1, d + x.2.1, 0) else ((false, 0, []), 0, x.2.2)
def rUnD (k : Int) (tn : Bool) (l : Bs) : (Bool × Int × Bs) × Nat × Int :=
  if kMay k = true then
    (if tn = true then (if l = [] then ((false, 0, []), 0, 3) else if bt l 0 = 0 then ((true, 0, []), 1, 0) else if bt l 0 = 1 then rFin 1 (rBare k (l.drop 1)) else ((false, 0, []), 0, 4))
     else rFin 0 (rBare k l))
  else ((false, 0, []), 0, 2)
theorem check_is {k : Int} {tn : Bool} {n : Int} {s : Bs} (hk : kMay k = true) : kCheck k tn false n s = 0 ↔ kIs k n s = true := by
  constructor
  · intro h; exact ok_some (check_zero h).2
  · intro h; exact check_of hk (by simpa [kOk] using h)
theorem fin_eq (k : Int) (hk : kMay k = true) (tn : Bool) (d : Nat) (l : Bs) : rFin d (rBare k l) = kFin k tn d (kUn k l) := by
  rcases may_cases hk with rfl | rfl | rfl | rfl | rfl
  · show rFin d ((false, (kUnbool l).1, []), (kUnbool l).2.1, (kUnbool l).2.2) = kFin 1 tn d ((kUnbool l).1, [], (kUnbool l).2.1, (kUnbool l).2.2)
    unfold rFin kFin
    by_cases he : (kUnbool l).2.2 = 0
    · obtain ⟨c, r, h1, h2, h3⟩ := unbool_inv he
      have hi : kCheck 1 tn false (kUnbool l).1 [] = 0 := (check_is hk).2 (is1.2 ⟨rfl, by rw [h3]; show (0 : Int) ≤ (c.toNat : Int); omega, by rw [h3]; show (c.toNat : Int) ≤ 1; omega⟩)
      rw [if_pos he, if_pos he, if_pos hi]
    · rw [if_neg he, if_neg he]
  · exact num 2 (.inl rfl) hk
  · exact num 3 (.inr rfl) hk
  · exact str 4 (.inl rfl) hk
  · exact str 5 (.inr rfl) hk
where
  num (k : Int) (h : k = 2 ∨ k = 3) (hk : kMay k = true) : rFin d (rBare k l) = kFin k tn d (kUn k l) := by
    have h1 : rBare k l = if l.length < 8 then ((false, 0, []), 0, 3) else if kIs k (rNum l) [] = true then ((false, rNum l, []), 8, 0) else ((false, 0, []), 0, 4) := by
      unfold rBare; rw [if_neg (by omega), if_pos h]
    have h2 : kUn k l = ((kUnnum l).1, [], (kUnnum l).2.1, (kUnnum l).2.2) := by
      unfold kUn; rw [if_neg (by omega), if_pos h]
    rw [h1, h2]
    by_cases h8 : l.length < 8
    · have h3 : kUnnum l = (0, 0, 3) := if_pos h8
      rw [if_pos h8, h3]; rfl
    · have h3 : kUnnum l = (rNum l, 8, 0) := if_neg h8
      rw [if_neg h8, h3]
      by_cases hi : kIs k (rNum l) [] = true
      · rw [if_pos hi]
        unfold rFin kFin
        rw [if_pos rfl, if_pos rfl, if_pos ((check_is hk).2 hi)]
      · rw [if_neg hi]
        unfold rFin kFin
        rw [if_pos (show ((rNum l, ([] : Bs), 8, (0 : Int)) : Int × Bs × Nat × Int).2.2.2 = 0 from rfl), if_neg (fun h => hi ((check_is hk).1 h))]
        rfl
  str (k : Int) (h : k = 4 ∨ k = 5) (hk : kMay k = true) : rFin d (rBare k l) = kFin k tn d (kUn k l) := by
    have h1 : rBare k l = ((false, 0, (unrowD l).1), (unrowD l).2.1, if (unrowD l).2.2 = 0 then (if kIs k 0 (unrowD l).1 = true then 0 else 4) else (unrowD l).2.2) := by
      unfold rBare; rw [if_neg (by omega), if_neg (by omega)]
    have h2 : kUn k l = (0, (unrowD l).1, (unrowD l).2.1, (unrowD l).2.2) := by
      unfold kUn; rw [if_neg (by omega), if_neg (by omega)]
    rw [h1, h2]
    generalize unrowD l = R
    obtain ⟨s, n, e⟩ := R
    by_cases he : e = 0
    · subst he
      show rFin d ((false, 0, s), n, if kIs k 0 s = true then 0 else 4) = kFin k tn d (0, s, n, 0)
      by_cases hi : kIs k 0 s = true
      · rw [if_pos hi]
        unfold rFin kFin
        rw [if_pos rfl, if_pos rfl, if_pos ((check_is hk).2 hi)]
      · rw [if_neg hi]
        unfold rFin kFin
        rw [if_pos (show (((0 : Int), s, n, (0 : Int)) : Int × Bs × Nat × Int).2.2.2 = 0 from rfl), if_neg (fun h => hi ((check_is hk).1 h))]
        rfl
    · show rFin d ((false, 0, s), n, if e = 0 then _ else e) = kFin k tn d (0, s, n, e)
      rw [if_neg he]
      unfold rFin kFin
      rw [if_neg he, if_neg he]
theorem run_eq (k : Int) (tn : Bool) (l : Bs) : rUnD k tn l = kUnD k tn l := by
  unfold rUnD kUnD
  by_cases hk : kMay k = true
  · rw [if_pos hk, if_pos hk]
    cases tn with
    | false => exact fin_eq k hk false 0 l
    | true =>
      rw [if_pos rfl, if_pos rfl]
      by_cases h0 : l = []
      · have hu : kUnbool l = (0, 0, 3) := if_pos h0
        rw [if_pos h0, hu]; rfl
      · rw [if_neg h0]
        by_cases h1 : 1 < bt l 0
        · have hu : kUnbool l = (0, 0, 4) := by unfold kUnbool; rw [if_neg h0, if_pos h1]
          rw [if_neg (by omega), if_neg (by omega), hu]; rfl
        · have hu : kUnbool l = (((bt l 0 : Nat) : Int), 1, 0) := by unfold kUnbool; rw [if_neg h0, if_neg h1]
          rw [hu]
          by_cases h2 : bt l 0 = 0
          · rw [if_pos h2, if_pos rfl, if_pos (by show ((bt l 0 : Nat) : Int) = 0; omega)]
          · rw [if_neg h2, if_pos (by omega), if_pos rfl, if_neg (by show ¬ ((bt l 0 : Nat) : Int) = 0; omega)]
            exact fin_eq k hk true 1 _
  · rw [if_neg hk, if_neg hk]
end Go.Ms
namespace Go.Proofs.YtcdmiiaamajfoaaGreatDoor
open Go.RowKit Go.Ms Go.Lib
theorem new3 {wx w3 : World} {a b c : Value} {T : TypeId} (bb : Below (wx.alloc (.cells #[a, b, c] T)).drew.heap.size (wx.alloc (.cells #[a, b, c] T)).drew w3) :
    w3.cell? ⟨wx.heap.size, 0, none⟩ = some a ∧ w3.cell? ⟨wx.heap.size, 1, none⟩ = some b ∧ w3.cell? ⟨wx.heap.size, 2, none⟩ = some c ∧ w3.frozen? ⟨wx.heap.size, 0, none⟩ = false ∧ w3.frozen? ⟨wx.heap.size, 1, none⟩ = false ∧ w3.frozen? ⟨wx.heap.size, 2, none⟩ = false := by
  have hblk : w3.heap[wx.heap.size]? = some (.cells #[a, b, c] T (0, 0)) := by
    rw [bb.block _ (by simp [World.drew])]
    exact heap_alloc_new wx (.cells #[a, b, c] T)
  exact ⟨by rw [Lib.cell_of_heap hblk]; rfl, by rw [Lib.cell_of_heap hblk]; rfl, by rw [Lib.cell_of_heap hblk]; rfl, Lib.frozen_of_heap hblk _, Lib.frozen_of_heap hblk _, Lib.frozen_of_heap hblk _⟩
theorem cnew {wx w3 : World} {u : Bool} {n : Int} {T : ByteArray} (bb : Below (wx.alloc (.cells #[.bool u, .int .i64 n, .string T] 23)).drew.heap.size (wx.alloc (.cells #[.bool u, .int .i64 n, .string T] 23)).drew w3) : CellAt wx.heap.size u n T w3 := by
  have hblk : w3.heap[wx.heap.size]? = some (.cells #[.bool u, .int .i64 n, .string T] 23 (0, 0)) := by
    rw [bb.block _ (by simp [World.drew])]
    exact heap_alloc_new wx (.cells #[.bool u, .int .i64 n, .string T] 23)
  simpa [CellAt, Tri] using hblk
theorem tbx_apart {w w1 : World} {k n : Int} {tn u : Bool} {S : ByteArray} {c : Nat} {p q r : Value} (h : TBx w w.heap.size k tn u n S w1) (hc : w.heap.size + 1 < c) : TBx w w.heap.size k tn u n S (((w1.setCell ⟨c, 0, none⟩ p).setCell ⟨c, 1, none⟩ q).setCell ⟨c, 2, none⟩ r) :=
  ⟨heap_apart3 h.td (by omega), tri_apart3 h.ta (by omega), below_set3 h.bel (by omega) _ _ _, h.hb⟩
theorem cell_alloc (w : World) (u : Bool) (n : Int) (T : ByteArray) : CellAt w.heap.size u n T (w.alloc (.cells #[.bool u, .int .i64 n, .string T] 23)) := by
  simpa [CellAt, Tri] using heap_alloc_new w (.cells #[.bool u, .int .i64 n, .string T] 23)
theorem rbare_len (k : Int) (l : Bs) : (rBare k l).2.1 ≤ l.length := by
  unfold rBare
  split
  · show (kUnbool l).2.1 ≤ _
    unfold kUnbool
    split
    · simp
    · split
      · simp
      · rename_i h _; exact List.length_pos_iff.2 h
  · split
    · split
      · simp
      · split
        · show 8 ≤ _; omega
        · simp
    · exact (unrow_len l _ _ _ (by simp)).2
set_option maxRecDepth 100000 in
set_option maxHeartbeats 4000000 in
/-- What the reference's Unbits answers is what the program's does. -/
theorem runbits_any (k : Int) (tn : Bool) (S : ByteArray) (w : World) (hs : S.size ≤ 100000) :
    Calls Tryz.prog 81 #[.agg #[.int .i64 k, .bool tn], .string S] w fun e w' => e = .returned (unV (kUnD k tn S.data.toList)) ∧ Below w.heap.size w w' := by
  rw [← run_eq]
  have cm := fun w' => rmay_any k tn w'
  have x0 := TBx.start w k tn false 0 ⟨#[]⟩
  have X0 := Lib.hid x0
  have hl := lenS S
  cases hk : kMay k with
  | false =>
    rw [hk] at cm
    have hd : rUnD k tn S.data.toList = ((false, 0, []), 0, 2) := by unfold rUnD; rw [if_neg (by rw [hk]; decide)]
    rw [hd]
    have CM := Lib.hid cm
    clear cm hd hk x0
    go_enter Tryz.func81, Tryz.ntmps81
    go_wp2_with fail
    refine (CM.out _).mono ?_
    rintro en w1 ⟨rfl, b1⟩
    have x1 := X0.out.step b1
    obtain ⟨d0, d1, a0, a1, a2, f0, f1, f2, l0, l1⟩ := x1.cells
    have HB := Lib.hid x1.bel
    clear x1 b1
    go_wp2_with fail
    exact bodyPost_ret (v := unV ((false, 0, []), 0, 2)) (by simp [results, Tryz.results81, go_sem, unV, a0, a1, a2]) rfl ⟨rfl, below_set3 HB.out (by simp) _ _ _⟩
  | true =>
    rw [hk] at cm
    have CM := Lib.hid cm
    cases tn with
    | false =>
      have hd : rUnD k false S.data.toList = rFin 0 (rBare k S.data.toList) := by unfold rUnD; rw [if_pos hk]; rfl
      rw [hd]
      have hE : S.extract 0 S.size = S := by
        apply ba_ext
        rw [ext_list]
        simp [List.take_of_length_le]
      obtain ⟨⟨⟨u, n, s⟩, m, e⟩, hB⟩ : ∃ B, rBare k S.data.toList = B := ⟨_, rfl⟩
      have cb := fun w' => rbare_any k hk false S w' hs

      have hml := rbare_len k (S.data.toList)
      rw [hB] at cb hml ⊢
      obtain ⟨T, hT⟩ : ∃ T : ByteArray, (⟨s.toArray⟩ : ByteArray) = T := ⟨_, rfl⟩
      have hu : ∀ (m' : Nat) (e' : Int), unV ((u, n, s), m', e') = .tuple #[.agg #[.bool u, .int .i64 n, .string T], .int .i64 m', .int .i64 e'] := fun m' e' => by rw [← hT]; rfl
      rw [hu] at cb
      have hm : m ≤ 100000 := by have : m ≤ S.data.toList.length := hml; omega
      have va : IntKind.i64.wrap (0 + (m : Int)) = 0 + (m : Int) := IntWalk.i64_in _ (by omega)
      have CB := Lib.hid cb
      clear cm cb hd hk x0 hB hl hml
      by_cases he : e = 0
      · subst he
        have hr : unV (rFin 0 ((u, n, s), m, 0)) = .tuple #[.agg #[.bool u, .int .i64 n, .string T], .int .i64 (m), .int .i64 0] := by
          show unV ((u, n, s), 0 + m, 0) = _
          rw [hu]
          simp
        rw [hr]
        clear hu hr
        go_enter Tryz.func81, Tryz.ntmps81
        go_wp2_with fail
        refine (CM.out _).mono ?_
        rintro en w1 ⟨rfl, b1⟩
        have x1 := X0.out.step b1
        obtain ⟨d0, d1, a0, a1, a2, f0, f1, f2, l0, l1⟩ := x1.cells
        have n1 : w.heap.size < w1.heap.size := l0
        have n2 : w.heap.size + 1 < w1.heap.size := l1
        have HD := Lib.hid x1
        clear x1 b1
        go_wp2_with fail
        go_region_with (((with_reducible refine (CB.out _).mono ?_); rintro en w3 ⟨rfl, bb⟩; (have x3 : TBx w w.heap.size k false false 0 ⟨#[]⟩ w3 := (by first | exact TBx.step HD.out.drew bb | exact TBx.step (TBx.alloc HD.out (.cells #[.bool false, .int .i64 0, .string ⟨#[]⟩] 23)).drew bb)); (try (have hg := new3 bb; have hA3 := Lib.hid (cnew bb); obtain ⟨g0, g1, g2, k0, k1, k2⟩ := hg)); (obtain ⟨d0, d1, a0, a1, a2, f0, f1, f2, l0, l1⟩ := x3.cells); (have X3 := Lib.hid x3); clear x3))
        all_goals
          first
          | (have x6 : TBx w w.heap.size k false false 0 ⟨#[]⟩ (((w3.setCell ⟨w1.heap.size, 0, none⟩ (.bool u)).setCell ⟨w1.heap.size, 1, none⟩ (.int .i64 n)).setCell ⟨w1.heap.size, 2, none⟩ (.string T)) := tbx_apart X3.out n2
             have hA6 : CellAt w1.heap.size u n T (((w3.setCell ⟨w1.heap.size, 0, none⟩ (.bool u)).setCell ⟨w1.heap.size, 1, none⟩ (.int .i64 n)).setCell ⟨w1.heap.size, 2, none⟩ (.string T)) := tri_set3 hA3.out
             have m1 : w.heap.size < w1.heap.size := by omega
             have m2 : w.heap.size + 1 < w1.heap.size := by omega
             clear n1 n2 g0 g1 g2 k0 k1 k2
             generalize (((w3.setCell ⟨w1.heap.size, 0, none⟩ (.bool u)).setCell ⟨w1.heap.size, 1, none⟩ (.int .i64 n)).setCell ⟨w1.heap.size, 2, none⟩ (.string T)) = w6 at *
             generalize w1.heap.size = q at *)
          | (have x6 : TBx w w.heap.size k false false 0 ⟨#[]⟩ (w3.alloc (.cells #[.bool u, .int .i64 n, .string T] 23)) := X3.out.alloc _
             have hA6 : CellAt w3.heap.size u n T (w3.alloc (.cells #[.bool u, .int .i64 n, .string T] 23)) := cell_alloc w3 u n T
             have m1 : w.heap.size < w3.heap.size := by omega
             have m2 : w.heap.size + 1 < w3.heap.size := by omega
             clear n1 n2
             generalize (w3.alloc (.cells #[.bool u, .int .i64 n, .string T] 23)) = w6 at *
             generalize w3.heap.size = q at *)
        all_goals
          clear d0 d1 a0 a1 a2 f0 f1 f2 l0 l1 X3
          obtain ⟨d0, d1, a0, a1, a2, f0, f1, f2, l0, l1⟩ := x6.cells
          have c0 := hA6.c0
          have c1 := hA6.c1
          have c2 := hA6.c2
          have HB := Lib.hid x6.bel
          clear x6 hA6 l0 l1
          go_wp2_with fail
        all_goals
          exact bodyPost_ret (v := .tuple #[.agg #[.bool u, .int .i64 n, .string T], .int .i64 (m), .int .i64 0]) (by simp [results, Tryz.results81, go_sem, a0, a1, a2]) rfl ⟨rfl, below_set3 HB.out (by omega) _ _ _⟩
      · have hr : unV (rFin 0 ((u, n, s), m, e)) = unV ((false, 0, []), 0, e) := by
          unfold rFin; rw [if_neg he]
        have he2 : (e == 0) = false := by rw [beq_eq_false_iff_ne]; exact he
        have he3 : (e != 0) = true := by rw [bne_iff_ne]; exact he
        rw [hr]
        clear hu hr
        go_enter Tryz.func81, Tryz.ntmps81
        go_wp2_with fail
        refine (CM.out _).mono ?_
        rintro en w1 ⟨rfl, b1⟩
        have x1 := X0.out.step b1
        obtain ⟨d0, d1, a0, a1, a2, f0, f1, f2, l0, l1⟩ := x1.cells
        have n1 : w.heap.size < w1.heap.size := l0
        have n2 : w.heap.size + 1 < w1.heap.size := l1
        have HD := Lib.hid x1
        clear x1 b1
        go_wp2_with fail
        go_region_with (((with_reducible refine (CB.out _).mono ?_); rintro en w3 ⟨rfl, bb⟩; (have x3 : TBx w w.heap.size k false false 0 ⟨#[]⟩ w3 := (by first | exact TBx.step HD.out.drew bb | exact TBx.step (TBx.alloc HD.out (.cells #[.bool false, .int .i64 0, .string ⟨#[]⟩] 23)).drew bb)); (try (have hg := new3 bb; have hA3 := Lib.hid (cnew bb); obtain ⟨g0, g1, g2, k0, k1, k2⟩ := hg)); (obtain ⟨d0, d1, a0, a1, a2, f0, f1, f2, l0, l1⟩ := x3.cells); (have X3 := Lib.hid x3); clear x3))
        all_goals
          first
          | (have x6 : TBx w w.heap.size k false false 0 ⟨#[]⟩ (((w3.setCell ⟨w1.heap.size, 0, none⟩ (.bool u)).setCell ⟨w1.heap.size, 1, none⟩ (.int .i64 n)).setCell ⟨w1.heap.size, 2, none⟩ (.string T)) := tbx_apart X3.out n2
             have hA6 : CellAt w1.heap.size u n T (((w3.setCell ⟨w1.heap.size, 0, none⟩ (.bool u)).setCell ⟨w1.heap.size, 1, none⟩ (.int .i64 n)).setCell ⟨w1.heap.size, 2, none⟩ (.string T)) := tri_set3 hA3.out
             have m1 : w.heap.size < w1.heap.size := by omega
             have m2 : w.heap.size + 1 < w1.heap.size := by omega
             clear n1 n2 g0 g1 g2 k0 k1 k2
             generalize (((w3.setCell ⟨w1.heap.size, 0, none⟩ (.bool u)).setCell ⟨w1.heap.size, 1, none⟩ (.int .i64 n)).setCell ⟨w1.heap.size, 2, none⟩ (.string T)) = w6 at *
             generalize w1.heap.size = q at *)
          | (have x6 : TBx w w.heap.size k false false 0 ⟨#[]⟩ (w3.alloc (.cells #[.bool u, .int .i64 n, .string T] 23)) := X3.out.alloc _
             have hA6 : CellAt w3.heap.size u n T (w3.alloc (.cells #[.bool u, .int .i64 n, .string T] 23)) := cell_alloc w3 u n T
             have m1 : w.heap.size < w3.heap.size := by omega
             have m2 : w.heap.size + 1 < w3.heap.size := by omega
             clear n1 n2
             generalize (w3.alloc (.cells #[.bool u, .int .i64 n, .string T] 23)) = w6 at *
             generalize w3.heap.size = q at *)
        all_goals
          clear d0 d1 a0 a1 a2 f0 f1 f2 l0 l1 X3
          obtain ⟨d0, d1, a0, a1, a2, f0, f1, f2, l0, l1⟩ := x6.cells
          have c0 := hA6.c0
          have c1 := hA6.c1
          have c2 := hA6.c2
          have HB := Lib.hid x6.bel
          clear x6 hA6 l0 l1
          go_wp2_with fail
        all_goals
          exact bodyPost_ret (v := unV ((false, 0, []), 0, e)) (by simp [results, Tryz.results81, go_sem, unV, a0, a1, a2]) rfl ⟨rfl, below_set3 HB.out (by omega) _ _ _⟩
    | true =>
      have hd : rUnD k true S.data.toList = if S.data.toList = [] then ((false, 0, []), 0, 3) else if bt S.data.toList 0 = 0 then ((true, 0, []), 1, 0) else if bt S.data.toList 0 = 1 then rFin 1 (rBare k (S.data.toList.drop 1)) else ((false, 0, []), 0, 4) := by unfold rUnD; rw [if_pos hk]; rfl
      rw [hd]
      clear hd
      by_cases h0 : S.data.toList = []
      · rw [if_pos h0]
        have hz : S.size = 0 := by rw [← hl, h0]; rfl
        clear cm x0 hk h0 hl
        go_enter Tryz.func81, Tryz.ntmps81
        go_wp2_with fail
        refine (CM.out _).mono ?_
        rintro en w1 ⟨rfl, b1⟩
        have x1 := X0.out.step b1
        obtain ⟨d0, d1, a0, a1, a2, f0, f1, f2, l0, l1⟩ := x1.cells
        have HB := Lib.hid x1.bel
        clear x1 b1
        go_wp2_with fail
        exact bodyPost_ret (v := unV ((false, 0, []), 0, 3)) (by simp [results, Tryz.results81, go_sem, unV, a0, a1, a2]) rfl ⟨rfl, by first | exact below_set3 HB.out (by omega) _ _ _ | exact below_set3 (HB.out.alloc (Nat.le_of_lt l0) _) (by omega) _ _ _ | exact (below_set3 HB.out (by omega) _ _ _).alloc (by simp; omega) _⟩
      · rw [if_neg h0]
        have hz : 0 < S.size := by rw [← hl]; exact List.length_pos_iff.2 h0
        have hzi : 0 < (S.size : Int) := by omega
        have hz1 : ¬ (S.size : Int) = 0 := by omega
        have hz2 : ((S.size : Int) == 0) = false := by rw [beq_eq_false_iff_ne]; omega
        have hz3 : 1 ≤ S.size := by omega
        have hz4 : (1 : Int) ≤ (S.size : Int) := by omega
        have gi : ((S[0]'hz).toNat : Int) = (bt S.data.toList 0 : Int) := by rw [get_of]; rfl
        have hb := bt_lt S.data.toList 0
        obtain ⟨Z, hE⟩ : ∃ Z : ByteArray, S.extract 1 S.size = Z := ⟨_, rfl⟩
        have hZ : Z.data.toList = S.data.toList.drop 1 := by rw [← hE, ext_list, List.take_of_length_le (by simp)]
        have hZs : Z.size ≤ 100000 := by
          have : Z.data.toList.length = Z.size := by simp
          rw [hZ, List.length_drop, hl] at this
          omega
        generalize bt S.data.toList 0 = x at *
        clear h0
        by_cases h1 : x = 0
        · rw [if_pos h1]
          subst h1
          clear cm x0 hk hl hZ hZs
          go_enter Tryz.func81, Tryz.ntmps81
          go_wp2_with fail
          refine (CM.out _).mono ?_
          rintro en w1 ⟨rfl, b1⟩
          have x1 := X0.out.step b1
          obtain ⟨d0, d1, a0, a1, a2, f0, f1, f2, l0, l1⟩ := x1.cells
          have HB := Lib.hid x1.bel
          clear x1 b1
          go_wp2_with fail
          exact bodyPost_ret (v := unV ((true, 0, []), 1, 0)) (by simp [results, Tryz.results81, go_sem, unV, a0, a1, a2]) rfl ⟨rfl, by first | exact below_set3 HB.out (by omega) _ _ _ | exact below_set3 (HB.out.alloc (Nat.le_of_lt l0) _) (by omega) _ _ _ | exact (below_set3 HB.out (by omega) _ _ _).alloc (by simp; omega) _⟩
        · rw [if_neg h1]
          have hx0 : ((x : Int) == 0) = false := by rw [beq_eq_false_iff_ne]; omega
          by_cases h2 : x = 1
          · rw [if_pos h2]
            subst h2
            obtain ⟨⟨⟨u, n, s⟩, m, e⟩, hB⟩ : ∃ B, rBare k (S.data.toList.drop 1) = B := ⟨_, rfl⟩
            have cb := fun w' => rbare_any k hk true Z w' hZs
            rw [hZ] at cb
            have hml := rbare_len k ((S.data.toList.drop 1))
            rw [hB] at cb hml ⊢
            obtain ⟨T, hT⟩ : ∃ T : ByteArray, (⟨s.toArray⟩ : ByteArray) = T := ⟨_, rfl⟩
            have hu : ∀ (m' : Nat) (e' : Int), unV ((u, n, s), m', e') = .tuple #[.agg #[.bool u, .int .i64 n, .string T], .int .i64 m', .int .i64 e'] := fun m' e' => by rw [← hT]; rfl
            rw [hu] at cb
            have hm : m ≤ 100000 := by have : m ≤ (S.data.toList.drop 1).length := hml; rw [List.length_drop] at this; omega
            have va : IntKind.i64.wrap (1 + (m : Int)) = 1 + (m : Int) := IntWalk.i64_in _ (by omega)
            have CB := Lib.hid cb
            clear cm cb hZ hZs hk x0 hB hl hml
            by_cases he : e = 0
            · subst he
              have hr : unV (rFin 1 ((u, n, s), m, 0)) = .tuple #[.agg #[.bool u, .int .i64 n, .string T], .int .i64 (1 + m), .int .i64 0] := by
                show unV ((u, n, s), 1 + m, 0) = _
                rw [hu]
                rw [show ((1 + m : Nat) : Int) = 1 + (m : Int) by omega]
              rw [hr]
              clear hu hr
              go_enter Tryz.func81, Tryz.ntmps81
              go_wp2_with fail
              refine (CM.out _).mono ?_
              rintro en w1 ⟨rfl, b1⟩
              have x1 := X0.out.step b1
              obtain ⟨d0, d1, a0, a1, a2, f0, f1, f2, l0, l1⟩ := x1.cells
              have n1 : w.heap.size < w1.heap.size := l0
              have n2 : w.heap.size + 1 < w1.heap.size := l1
              have HD := Lib.hid x1
              clear x1 b1
              go_wp2_with fail
              go_region_with (((with_reducible refine (CB.out _).mono ?_); rintro en w3 ⟨rfl, bb⟩; (have x3 : TBx w w.heap.size k true false 0 ⟨#[]⟩ w3 := (by first | exact TBx.step HD.out.drew bb | exact TBx.step (TBx.alloc HD.out (.cells #[.bool false, .int .i64 0, .string ⟨#[]⟩] 23)).drew bb)); (try (have hg := new3 bb; have hA3 := Lib.hid (cnew bb); obtain ⟨g0, g1, g2, k0, k1, k2⟩ := hg)); (obtain ⟨d0, d1, a0, a1, a2, f0, f1, f2, l0, l1⟩ := x3.cells); (have X3 := Lib.hid x3); clear x3))
              all_goals
                first
                | (have x6 : TBx w w.heap.size k true false 0 ⟨#[]⟩ (((w3.setCell ⟨w1.heap.size, 0, none⟩ (.bool u)).setCell ⟨w1.heap.size, 1, none⟩ (.int .i64 n)).setCell ⟨w1.heap.size, 2, none⟩ (.string T)) := tbx_apart X3.out n2
                   have hA6 : CellAt w1.heap.size u n T (((w3.setCell ⟨w1.heap.size, 0, none⟩ (.bool u)).setCell ⟨w1.heap.size, 1, none⟩ (.int .i64 n)).setCell ⟨w1.heap.size, 2, none⟩ (.string T)) := tri_set3 hA3.out
                   have m1 : w.heap.size < w1.heap.size := by omega
                   have m2 : w.heap.size + 1 < w1.heap.size := by omega
                   clear n1 n2 g0 g1 g2 k0 k1 k2
                   generalize (((w3.setCell ⟨w1.heap.size, 0, none⟩ (.bool u)).setCell ⟨w1.heap.size, 1, none⟩ (.int .i64 n)).setCell ⟨w1.heap.size, 2, none⟩ (.string T)) = w6 at *
                   generalize w1.heap.size = q at *)
                | (have x6 : TBx w w.heap.size k true false 0 ⟨#[]⟩ (w3.alloc (.cells #[.bool u, .int .i64 n, .string T] 23)) := X3.out.alloc _
                   have hA6 : CellAt w3.heap.size u n T (w3.alloc (.cells #[.bool u, .int .i64 n, .string T] 23)) := cell_alloc w3 u n T
                   have m1 : w.heap.size < w3.heap.size := by omega
                   have m2 : w.heap.size + 1 < w3.heap.size := by omega
                   clear n1 n2
                   generalize (w3.alloc (.cells #[.bool u, .int .i64 n, .string T] 23)) = w6 at *
                   generalize w3.heap.size = q at *)
              all_goals
                clear d0 d1 a0 a1 a2 f0 f1 f2 l0 l1 X3
                obtain ⟨d0, d1, a0, a1, a2, f0, f1, f2, l0, l1⟩ := x6.cells
                have c0 := hA6.c0
                have c1 := hA6.c1
                have c2 := hA6.c2
                have HB := Lib.hid x6.bel
                clear x6 hA6 l0 l1
                go_wp2_with fail
              all_goals
                exact bodyPost_ret (v := .tuple #[.agg #[.bool u, .int .i64 n, .string T], .int .i64 (1 + m), .int .i64 0]) (by simp [results, Tryz.results81, go_sem, a0, a1, a2]) rfl ⟨rfl, below_set3 HB.out (by omega) _ _ _⟩
            · have hr : unV (rFin 1 ((u, n, s), m, e)) = unV ((false, 0, []), 0, e) := by
                unfold rFin; rw [if_neg he]
              have he2 : (e == 0) = false := by rw [beq_eq_false_iff_ne]; exact he
              have he3 : (e != 0) = true := by rw [bne_iff_ne]; exact he
              rw [hr]
              clear hu hr
              go_enter Tryz.func81, Tryz.ntmps81
              go_wp2_with fail
              refine (CM.out _).mono ?_
              rintro en w1 ⟨rfl, b1⟩
              have x1 := X0.out.step b1
              obtain ⟨d0, d1, a0, a1, a2, f0, f1, f2, l0, l1⟩ := x1.cells
              have n1 : w.heap.size < w1.heap.size := l0
              have n2 : w.heap.size + 1 < w1.heap.size := l1
              have HD := Lib.hid x1
              clear x1 b1
              go_wp2_with fail
              go_region_with (((with_reducible refine (CB.out _).mono ?_); rintro en w3 ⟨rfl, bb⟩; (have x3 : TBx w w.heap.size k true false 0 ⟨#[]⟩ w3 := (by first | exact TBx.step HD.out.drew bb | exact TBx.step (TBx.alloc HD.out (.cells #[.bool false, .int .i64 0, .string ⟨#[]⟩] 23)).drew bb)); (try (have hg := new3 bb; have hA3 := Lib.hid (cnew bb); obtain ⟨g0, g1, g2, k0, k1, k2⟩ := hg)); (obtain ⟨d0, d1, a0, a1, a2, f0, f1, f2, l0, l1⟩ := x3.cells); (have X3 := Lib.hid x3); clear x3))
              all_goals
                first
                | (have x6 : TBx w w.heap.size k true false 0 ⟨#[]⟩ (((w3.setCell ⟨w1.heap.size, 0, none⟩ (.bool u)).setCell ⟨w1.heap.size, 1, none⟩ (.int .i64 n)).setCell ⟨w1.heap.size, 2, none⟩ (.string T)) := tbx_apart X3.out n2
                   have hA6 : CellAt w1.heap.size u n T (((w3.setCell ⟨w1.heap.size, 0, none⟩ (.bool u)).setCell ⟨w1.heap.size, 1, none⟩ (.int .i64 n)).setCell ⟨w1.heap.size, 2, none⟩ (.string T)) := tri_set3 hA3.out
                   have m1 : w.heap.size < w1.heap.size := by omega
                   have m2 : w.heap.size + 1 < w1.heap.size := by omega
                   clear n1 n2 g0 g1 g2 k0 k1 k2
                   generalize (((w3.setCell ⟨w1.heap.size, 0, none⟩ (.bool u)).setCell ⟨w1.heap.size, 1, none⟩ (.int .i64 n)).setCell ⟨w1.heap.size, 2, none⟩ (.string T)) = w6 at *
                   generalize w1.heap.size = q at *)
                | (have x6 : TBx w w.heap.size k true false 0 ⟨#[]⟩ (w3.alloc (.cells #[.bool u, .int .i64 n, .string T] 23)) := X3.out.alloc _
                   have hA6 : CellAt w3.heap.size u n T (w3.alloc (.cells #[.bool u, .int .i64 n, .string T] 23)) := cell_alloc w3 u n T
                   have m1 : w.heap.size < w3.heap.size := by omega
                   have m2 : w.heap.size + 1 < w3.heap.size := by omega
                   clear n1 n2
                   generalize (w3.alloc (.cells #[.bool u, .int .i64 n, .string T] 23)) = w6 at *
                   generalize w3.heap.size = q at *)
              all_goals
                clear d0 d1 a0 a1 a2 f0 f1 f2 l0 l1 X3
                obtain ⟨d0, d1, a0, a1, a2, f0, f1, f2, l0, l1⟩ := x6.cells
                have c0 := hA6.c0
                have c1 := hA6.c1
                have c2 := hA6.c2
                have HB := Lib.hid x6.bel
                clear x6 hA6 l0 l1
                go_wp2_with fail
              all_goals
                exact bodyPost_ret (v := unV ((false, 0, []), 0, e)) (by simp [results, Tryz.results81, go_sem, unV, a0, a1, a2]) rfl ⟨rfl, below_set3 HB.out (by omega) _ _ _⟩
          · rw [if_neg h2]
            have hx1 : ((x : Int) == 1) = false := by rw [beq_eq_false_iff_ne]; omega
            have hx2 : ((x : Int) != 1) = true := by rw [bne_iff_ne]; omega
            clear cm x0 hk hl hZ hZs
            go_enter Tryz.func81, Tryz.ntmps81
            go_wp2_with fail
            refine (CM.out _).mono ?_
            rintro en w1 ⟨rfl, b1⟩
            have x1 := X0.out.step b1
            obtain ⟨d0, d1, a0, a1, a2, f0, f1, f2, l0, l1⟩ := x1.cells
            have HB := Lib.hid x1.bel
            clear x1 b1
            go_wp2_with fail
            exact bodyPost_ret (v := unV ((false, 0, []), 0, 4)) (by simp [results, Tryz.results81, go_sem, unV, a0, a1, a2]) rfl ⟨rfl, by first | exact below_set3 HB.out (by omega) _ _ _ | exact below_set3 (HB.out.alloc (Nat.le_of_lt l0) _) (by omega) _ _ _ | exact (below_set3 HB.out (by omega) _ _ _).alloc (by simp; omega) _⟩
end Go.Proofs.YtcdmiiaamajfoaaGreatDoor
