/- The reference of the cells: what Read answers, in plain terms. The reference of the cells: guess, the walk. The reference of the cells: bare, the walk. The reference of the cells: Unbits. -/
import Derived.Test.YthlinmkengoliaaGreatDoorZIa
import Derived.Test.YthlinmkengoliaaGreatDoorZE20
import Derived.Test.YthlinmkengoliaaGreatDoorZHb
import Derived.Test.YthlinmkengoliaaGreatDoorZFa
import Derived.Test.YthlinmkengoliaaGreatDoorZEe
set_option linter.unusedVariables false
set_option linter.unusedSimpArgs false
namespace Go.Ms
open Go.Lib
def rRd (k : Int) (l : Bs) : Int × Bs := if k = 1 then (if l = kTrue then 1 else 0, []) else if k = 2 ∨ k = 3 then (rWhole l, []) else if k = 4 then (0, (unquoteD l).1) else (0, rUnhex (l.drop 1))
def rGuess (k : Int) (l : Bs) : Bool × Int × Bs := if l = kNull then (true, 0, []) else (false, (rRd k l).1, (rRd k l).2)
def rReadD (k : Int) (tn : Bool) (l : Bs) : (Bool × Int × Bs) × Int :=
  if kMay k = true then (if kOk k tn (rGuess k l).1 (rGuess k l).2.1 (rGuess k l).2.2 = true ∧ (if (rGuess k l).1 = true then kNull else kText k (rGuess k l).2.1 (rGuess k l).2.2) = l then (rGuess k l, 0) else ((false, 0, []), 4)) else ((false, 0, []), 2)
theorem rrd_text {k n : Int} {s : Bs} (hk : kMay k = true) (h : kIs k n s = true) : rRd k (kText k n s) = (n, s) := by
 have h4 := read_text hk h
 rcases may_cases hk with rfl | rfl | rfl | rfl | rfl
 · exact h4
 · obtain ⟨rfl, h0, h1⟩ := is23 (.inl rfl) h
   show (rWhole (itoa n), ([] : Bs)) = _
   rw [rwhole_itoa h0 h1]
 · obtain ⟨rfl, h0, h1⟩ := is23 (.inr rfl) h
   show (rWhole (itoa n), ([] : Bs)) = _
   rw [rwhole_itoa h0 h1]
 · exact h4
 · obtain ⟨rfl, h0⟩ := is5.1 h
   show ((0 : Int), rUnhex (s.flatMap hexb)) = _
   rw [runhex_hex]
theorem rguess_text {k n : Int} {tn nu : Bool} {s : Bs} (h : kCheck k tn nu n s = 0) : rGuess k (kTextD k tn nu n s) = (nu, n, s) := by
 obtain ⟨hk, ho⟩ := check_zero h
 cases nu with
 | true =>
  obtain ⟨rfl, rfl, rfl⟩ := ok_null ho
  have ht : kTextD k true true 0 [] = kNull := by unfold kTextD; rw [if_pos h, if_pos rfl]
  rw [ht]; unfold rGuess; rw [if_pos rfl]
 | false =>
  have hi := ok_some ho
  have ht : kTextD k tn false n s = kText k n s := by unfold kTextD; rw [if_pos h, if_neg (by simp)]
  rw [ht]; unfold rGuess; rw [if_neg (text_null hk hi), rrd_text hk hi]
theorem rread_eq (k : Int) (tn : Bool) (l : Bs) : rReadD k tn l = kReadD k tn l := by
 cases hk : kMay k with
 | false =>
  unfold rReadD kReadD
  rw [hk]; rfl
 | true =>
  obtain ⟨⟨u, n, s⟩, hg⟩ : ∃ g, rGuess k l = g := ⟨_, rfl⟩
  by_cases hc : kOk k tn u n s = true ∧ (if u = true then kNull else kText k n s) = l
  · have h1 : rReadD k tn l = ((u, n, s), 0) := by
      unfold rReadD; rw [if_pos hk, hg]; exact if_pos hc
    have h0 := check_of hk hc.1
    have ht : kTextD k tn u n s = l := by unfold kTextD; rw [if_pos h0]; exact hc.2
    rw [h1, ← ht, read_back h0]
  · have h1 : rReadD k tn l = ((false, 0, []), 4) := by
      unfold rReadD; rw [if_pos hk, hg]; exact if_neg hc
    rw [h1]; obtain ⟨⟨⟨u', n', s'⟩, e⟩, hr⟩ : ∃ D, kReadD k tn l = D := ⟨_, rfl⟩
    by_cases he : e = 0
    · subst he; obtain ⟨h2, h3⟩ := read_only hr; have h4 := rguess_text h2; rw [h3, hg] at h4
      injection h4 with h5 h6
      injection h6 with h6 h7
      subst h5 h6 h7; refine absurd ⟨(check_zero h2).2, ?_⟩ hc; unfold kTextD at h3; rw [if_pos h2] at h3; exact h3
    · have h5 := read_err (k := k) (tn := tn) (l := l) (by rw [hr]; exact he)
      have h6 : (kReadD k tn l).2 = 0 ∨ (kReadD k tn l).2 = 4 := by
       unfold kReadD; rw [if_pos hk]
       split
       · exact .inl rfl
       · exact .inr rfl
      rw [hr] at h5 h6
      have h7 : e = 4 := by rcases h6 with h6 | h6; exact absurd h6 he; exact h6
      have h8 : ((u', n', s') : Bool × Int × Bs) = (false, 0, []) := h5; rw [hr, h8, h7]
theorem rwhole_bd (l : Bs) : -9223372036854775808 ≤ rWhole l ∧ rWhole l ≤ 9223372036854775807 := by
 have h1 : ∀ (b : Bool) (R : Option Nat), -9223372036854775808 ≤ rWv b R ∧ rWv b R ≤ 9223372036854775807 := by
  intro b R
  unfold rWv
  split
  · omega
  · split
    · omega
    · unfold RowKit.wrap64; omega
 have h2 : ∀ (b : Bool) (d : Bs), -9223372036854775808 ≤ rWd b d ∧ rWd b d ≤ 9223372036854775807 := by
  intro b d
  unfold rWd
  split
  · omega
  · exact h1 _ _
 unfold rWhole
 split <;> exact h2 _ _
theorem uh_len : ∀ (n : Nat) (l r : Bs), l.length ≤ n → uh l = some r → r.length ≤ n
  | _, [], r, _, h => by injection h with h; rw [← h]; simp
  | _, [a], r, _, h => by simp [uh] at h
  | 0, a :: b :: t, r, hn, h => by simp at hn
  | n + 1, a :: b :: t, r, hn, h => by
   rw [uh] at h
   split at h
   · cases hu : uh t with
    | none => rw [hu] at h; simp at h
    | some q =>
     rw [hu] at h; have := uh_len n t q (by simp at hn; omega) hu
     simp at h
     rw [← h]; simp; omega
   · simp at h
theorem runhex_len (l : Bs) : (rUnhex l).length ≤ l.length := by
 unfold rUnhex
 split
 · cases hu : uh l with
  | none => simp
  | some r => exact uh_len _ l r (Nat.le_refl _) hu
 · simp
end Go.Ms
namespace Go.Proofs.YthlinmkengoliaaGreatDoor
open Go.RowKit Go.Ms Go.Lib
theorem rguess_bd (k : Int) (l : Bs) (hl : l.length ≤ 3100) : (rGuess k l).2.2.length ≤ 13000 ∧ -9223372036854775808 ≤ (rGuess k l).2.1 ∧ (rGuess k l).2.1 ≤ 9223372036854775807 := by
 have hu := kread_len 4 l; have hu' : (unquoteD l).1.length ≤ 4 * (l.length + 2) := hu; have hx := runhex_len (l.drop 1); rw [List.length_drop] at hx; have hw := rwhole_bd l; unfold rGuess
 split
 · simp
 · unfold rRd
   split
   · split <;> simp
   · split
     · simp; exact hw
     · split
       · exact ⟨by show (unquoteD l).1.length ≤ 13000; omega, by show (-9223372036854775808 : Int) ≤ 0; omega, by show (0 : Int) ≤ _; omega⟩
       · exact ⟨by show (rUnhex (l.drop 1)).length ≤ 13000; omega, by show (-9223372036854775808 : Int) ≤ 0; omega, by show (0 : Int) ≤ _; omega⟩
end Go.Proofs.YthlinmkengoliaaGreatDoor
set_option linter.unusedSimpArgs false
namespace Go.Proofs.YthlinmkengoliaaGreatDoor
open Go.RowKit Go.Ms Go.Lib
def cellV (g : Bool × Int × Bs) : Value := .agg #[.bool g.1, .int .i64 g.2.1, .string ⟨g.2.2.toArray⟩]
theorem below_a3 (w : World) (o1 o2 o3 : Obj) : Below w.heap.size w (((w.alloc o1).alloc o2).alloc o3) :=
  (((Below.refl _ _).alloc (Nat.le_refl _) _).alloc (by simp) _).alloc (by simp; omega) _
theorem rguess_null (k : Int) (tn : Bool) (w : World) :
    Calls Tryz.prog 138 #[.agg #[.int .i64 k, .bool tn], .string (⟨#[110, 117, 108, 108]⟩ : ByteArray)] w fun e w' => e = .returned (cellV (true, 0, [])) ∧ Below w.heap.size w w' := by
 go_enter Tryz.func138, Tryz.ntmps138
 go_wp2_with fail
 exact bodyPost_ret (v := cellV (true, 0, [])) (by simp [results, Tryz.results138, go_sem, cellV]) rfl ⟨rfl, below_a3 _ _ _ _⟩
theorem rguess_1 (tn : Bool) (S : ByteArray) (w : World) (hN : ¬ S.data.toList = kNull) :
    Calls Tryz.prog 138 #[.agg #[.int .i64 1, .bool tn], .string S] w fun e w' => e = .returned (cellV (rGuess 1 S.data.toList)) ∧ Below w.heap.size w w' := by
 have e1 : (S.toList == [110, 117, 108, 108]) = false := by rw [Lib.toList_data]; rw [beq_eq_false_iff_ne]; exact hN
 have e2 : ¬ S.toList = [110, 117, 108, 108] := by rw [Lib.toList_data]; exact hN
 by_cases hT : S.data.toList = kTrue
 · have hg : rGuess 1 S.data.toList = (false, 1, []) := by
     unfold rGuess; rw [if_neg hN, hT]; rfl
   have t1 : (S.toList == [116, 114, 117, 101]) = true := by rw [Lib.toList_data, hT]; rfl
   have t2 : S.toList = [116, 114, 117, 101] := by rw [Lib.toList_data]; exact hT
   rw [hg]; clear hg hT hN
   go_enter Tryz.func138, Tryz.ntmps138
   go_wp2_with fail
   exact bodyPost_ret (v := cellV (false, 1, [])) (by simp [results, Tryz.results138, go_sem, cellV]) rfl ⟨rfl, below_a3 _ _ _ _⟩
 · have hg : rGuess 1 S.data.toList = (false, 0, []) := by
     unfold rGuess rRd; rw [if_neg hN, if_pos rfl, if_neg hT]
   have t1 : (S.toList == [116, 114, 117, 101]) = false := by rw [Lib.toList_data]; rw [beq_eq_false_iff_ne]; exact hT
   have t2 : ¬ S.toList = [116, 114, 117, 101] := by rw [Lib.toList_data]; exact hT
   rw [hg]; clear hg hT hN
   go_enter Tryz.func138, Tryz.ntmps138
   go_wp2_with fail
   exact bodyPost_ret (v := cellV (false, 0, [])) (by simp [results, Tryz.results138, go_sem, cellV]) rfl ⟨rfl, below_a3 _ _ _ _⟩
theorem rguess_23 (k : Int) (hk : k = 2 ∨ k = 3) (tn : Bool) (S : ByteArray) (w : World) (hN : ¬ S.data.toList = kNull) (hs : S.size ≤ 3100) :
    Calls Tryz.prog 138 #[.agg #[.int .i64 k, .bool tn], .string S] w fun e w' => e = .returned (cellV (rGuess k S.data.toList)) ∧ Below w.heap.size w w' := by
 have e1 : (S.toList == [110, 117, 108, 108]) = false := by rw [Lib.toList_data]; rw [beq_eq_false_iff_ne]; exact hN
 have e2 : ¬ S.toList = [110, 117, 108, 108] := by rw [Lib.toList_data]; exact hN
 have hg : rGuess k S.data.toList = (false, rWhole S.data.toList, []) := by
  unfold rGuess rRd
  rcases hk with rfl | rfl <;> rw [if_neg hN] <;> rfl
 rw [hg]
 have cw := fun w' => rwhole_any S w' (by omega)
 generalize rWhole S.data.toList = v at *
 have x0 := T2x.start w k tn false 0 ⟨#[]⟩ false 0 ⟨#[]⟩; have X0 := Lib.hid x0; have CW := Lib.hid cw; clear x0 cw hg hN
 rcases hk with rfl | rfl
 all_goals
  go_enter Tryz.func138, Tryz.ntmps138
  go_wp2_with fail
  refine (CW.out _).mono ?_; rintro en w1 ⟨b, rfl, b1⟩; have x1 := X0.out.step b1; obtain ⟨d0, d1, a0, a1, a2, c0, c1, c2, f0, f1, f2, h0, h1, h2⟩ := x1.cells; have HB := Lib.hid x1.bel; clear x1 b1
  go_wp2_with fail
  exact bodyPost_ret (v := cellV (false, v, [])) (by simp [results, Tryz.results138, go_sem, cellV, a0, a1, a2, c0, c1, c2]) rfl ⟨rfl, below_set3 ((HB.out.setCell (p := ⟨_, _, _⟩) (by simp; omega) _)) (by simp) _ _ _⟩
theorem rguess_4 (tn : Bool) (S : ByteArray) (w : World) (hN : ¬ S.data.toList = kNull) (hs : S.size ≤ 3100) :
    Calls Tryz.prog 138 #[.agg #[.int .i64 4, .bool tn], .string S] w fun e w' => e = .returned (cellV (rGuess 4 S.data.toList)) ∧ Below w.heap.size w w' := by
 have e1 : (S.toList == [110, 117, 108, 108]) = false := by rw [Lib.toList_data]; rw [beq_eq_false_iff_ne]; exact hN
 have e2 : ¬ S.toList = [110, 117, 108, 108] := by rw [Lib.toList_data]; exact hN
 have hg : rGuess 4 S.data.toList = (false, 0, (unquoteD S.data.toList).1) := by
  unfold rGuess rRd
  rw [if_neg hN]; rfl
 rw [hg]
 have cw := fun w' => runquote_any S w' (by omega)
 generalize unquoteD S.data.toList = v at *
 have x0 := T2x.start w 4 tn false 0 ⟨#[]⟩ false 0 ⟨#[]⟩; have X0 := Lib.hid x0; have CW := Lib.hid cw; clear x0 cw hg hN
 go_enter Tryz.func138, Tryz.ntmps138
 go_wp2_with fail
 refine (CW.out _).mono ?_; rintro en w1 ⟨rfl, b1⟩; have x1 := X0.out.step b1; obtain ⟨d0, d1, a0, a1, a2, c0, c1, c2, f0, f1, f2, h0, h1, h2⟩ := x1.cells; have HB := Lib.hid x1.bel; clear x1 b1
 go_wp2_with fail
 exact bodyPost_ret (v := cellV (false, 0, v.1)) (by simp [results, Tryz.results138, go_sem, cellV, a0, a1, a2, c0, c1, c2]) rfl ⟨rfl, below_set3 ((HB.out.setCell (p := ⟨_, _, _⟩) (by simp; omega) _)) (by simp) _ _ _⟩
theorem rguess_5 (tn : Bool) (S : ByteArray) (w : World) (hN : ¬ S.data.toList = kNull) (hs : S.size ≤ 3100) :
    Calls Tryz.prog 138 #[.agg #[.int .i64 5, .bool tn], .string S] w fun e w' => e = .returned (cellV (rGuess 5 S.data.toList)) ∧ Below w.heap.size w w' := by
 have e1 : (S.toList == [110, 117, 108, 108]) = false := by rw [Lib.toList_data]; rw [beq_eq_false_iff_ne]; exact hN
 have e2 : ¬ S.toList = [110, 117, 108, 108] := by rw [Lib.toList_data]; exact hN
 have hg : rGuess 5 S.data.toList = (false, 0, rUnhex (S.data.toList.drop 1)) := by
  unfold rGuess rRd
  rw [if_neg hN]; rfl
 by_cases h0 : S.size = 0
 · obtain rfl : S = ⟨#[]⟩ := ba_ext (List.eq_nil_of_length_eq_zero (by rw [lenS]; exact h0)); rw [hg]
   go_enter Tryz.func138, Tryz.ntmps138
   go_wp2_with fail
   exact bodyPost_ret (v := cellV (false, 0, [])) (by simp [results, Tryz.results138, go_sem, cellV]) rfl ⟨rfl, below_a3 _ _ _ _⟩
 · have hp : 0 < (S.size : Int) := by omega
   have hp1 : 1 ≤ S.size := by omega
   obtain ⟨T, hT⟩ : ∃ T, S.extract 1 S.size = T := ⟨_, rfl⟩
   have hTd : T.data.toList = S.data.toList.drop 1 := by rw [← hT, ext_list, List.take_of_length_le (by simp)]
   have hTs : T.size ≤ 100000 := by
    have : T.data.toList.length = T.size := by simp
    rw [hTd, List.length_drop, lenS] at this; omega
   rw [hg, ← hTd]
   have cw := fun w' => runhex_any T w' hTs
   generalize rUnhex T.data.toList = v at *
   have x0 := T2x.start w 5 tn false 0 ⟨#[]⟩ false 0 ⟨#[]⟩; have X0 := Lib.hid x0; have CW := Lib.hid cw; clear x0 cw hg hN hTd hTs
   go_enter Tryz.func138, Tryz.ntmps138
   go_wp2_with fail
   (try rw [hT])
   refine (CW.out _).mono ?_; rintro en w1 ⟨b, rfl, b1⟩; have x1 := X0.out.step b1; obtain ⟨d0, d1, a0, a1, a2, c0, c1, c2, f0, f1, f2, h0, h1, h2⟩ := x1.cells; have HB := Lib.hid x1.bel; clear x1 b1
   go_wp2_with fail
   exact bodyPost_ret (v := cellV (false, 0, v)) (by simp [results, Tryz.results138, go_sem, cellV, a0, a1, a2, c0, c1, c2]) rfl ⟨rfl, below_set3 ((HB.out.setCell (p := ⟨_, _, _⟩) (by simp; omega) _)) (by simp) _ _ _⟩
theorem rguess_any (k : Int) (hk : kMay k = true) (tn : Bool) (S : ByteArray) (w : World) (hs : S.size ≤ 3100) :
    Calls Tryz.prog 138 #[.agg #[.int .i64 k, .bool tn], .string S] w fun e w' => e = .returned (cellV (rGuess k S.data.toList)) ∧ Below w.heap.size w w' := by
 by_cases hN : S.data.toList = kNull
 · obtain rfl : S = (⟨#[110, 117, 108, 108]⟩ : ByteArray) := ba_ext hN; have hg : rGuess k (⟨#[110, 117, 108, 108]⟩ : ByteArray).data.toList = (true, 0, []) := if_pos rfl; rw [hg]; exact rguess_null k tn w
 · rcases may_cases hk with rfl | rfl | rfl | rfl | rfl
   · exact rguess_1 tn S w hN
   · exact rguess_23 2 (.inl rfl) tn S w hN hs
   · exact rguess_23 3 (.inr rfl) tn S w hN hs
   · exact rguess_4 tn S w hN hs
   · exact rguess_5 tn S w hN hs
theorem rread_any (k : Int) (tn : Bool) (S : ByteArray) (w : World) (hs : S.size ≤ 3100) :
    Calls Tryz.prog 99 #[.agg #[.int .i64 k, .bool tn], .string S] w fun e w' => e = .returned (readV (kReadD k tn S.data.toList)) ∧ Below w.heap.size w w' := by
 rw [← rread_eq]
 have cm := fun w' => rmay_any k tn w'
 have x0 := TBx.start w k tn false 0 ⟨#[]⟩; have X0 := Lib.hid x0
 cases hk : kMay k with
 | false =>
  rw [hk] at cm
  have hd : rReadD k tn S.data.toList = ((false, 0, []), 2) := by unfold rReadD; rw [if_neg (by rw [hk]; decide)]
  rw [hd]; have CM := Lib.hid cm; clear cm hd hk x0
  go_enter Tryz.func99, Tryz.ntmps99
  go_wp2_with fail
  refine (CM.out _).mono ?_; rintro en w1 ⟨rfl, b1⟩; have x1 := X0.out.step b1; obtain ⟨d0, d1, a0, a1, a2, f0, f1, f2, l0, l1⟩ := x1.cells; have HB := Lib.hid x1.bel; clear x1 b1
  go_wp2_with fail
  exact bodyPost_ret (v := readV ((false, 0, []), 2)) (by simp [results, Tryz.results99, go_sem, readV, a0, a1, a2]) rfl ⟨rfl, below_set3 HB.out (by simp) _ _ _⟩
 | true =>
  rw [hk] at cm; have hl := lenS S; have hbd := rguess_bd k S.data.toList (by omega)
  have cg := fun w' => rguess_any k hk tn S w' hs
  obtain ⟨⟨u, n, s⟩, hg⟩ : ∃ g, rGuess k S.data.toList = g := ⟨_, rfl⟩; rw [hg] at cg hbd; obtain ⟨T, hT⟩ : ∃ T : ByteArray, (⟨s.toArray⟩ : ByteArray) = T := ⟨_, rfl⟩
  have hTs : T.data.toList = s := by rw [← hT]
  have hTz : T.size ≤ 13000 := by rw [← lenS T, hTs]; exact hbd.1
  have co := fun w' => rof_any k hk tn u n T w' (by omega) hbd.2.1 hbd.2.2
  have ct := fun w' => rtext_any k hk tn u n T w' hTz hbd.2.1 hbd.2.2
  rw [hTs] at co ct
  have hd : rReadD k tn S.data.toList = if kOk k tn u n s = true ∧ (if u = true then kNull else kText k n s) = S.data.toList then ((u, n, s), 0) else ((false, 0, []), 4) := by
   unfold rReadD; rw [if_pos hk, hg]
  have hcv : cellV (u, n, s) = .agg #[.bool u, .int .i64 n, .string T] := by rw [← hT]; rfl
  have hrv : readV ((u, n, s), 0) = .tuple #[.agg #[.bool u, .int .i64 n, .string T], .int .i64 0] := by rw [← hT]; rfl
  rw [hcv] at cg
  generalize kOk k tn u n s = c at *
  generalize (if u = true then kNull else kText k n s) = L at *
  obtain ⟨LB, hLB⟩ : ∃ LB : ByteArray, (⟨L.toArray⟩ : ByteArray) = LB := ⟨_, rfl⟩
  have hLl : LB.data.toList = L := by rw [← hLB]
  rw [hLB] at ct
  have CM := Lib.hid cm; have CG := Lib.hid cg; have CO := Lib.hid co; have CT := Lib.hid ct
  clear cm cg co ct x0 hbd hg hT hTs hTz hcv hLB hk hl
  cases c with
  | false =>
   have hd2 : rReadD k tn S.data.toList = ((false, 0, []), 4) := by rw [hd]; exact if_neg (fun h => absurd h.1 (by decide))
   rw [hd2]; clear hd hd2 hrv hLl
   go_enter Tryz.func99, Tryz.ntmps99
   go_wp2_with fail
   refine (CM.out _).mono ?_; rintro en w1 ⟨rfl, b1⟩; have x1 := X0.out.step b1; obtain ⟨d0, d1, a0, a1, a2, f0, f1, f2, l0, l1⟩ := x1.cells; have X1 := Lib.hid x1; clear x1 b1
   go_wp2_with fail
   refine (CG.out _).mono ?_; rintro en w2 ⟨rfl, b2⟩; clear d0 d1 a0 a1 a2 f0 f1 f2 l0 l1; have x2 := X1.out.step b2; obtain ⟨d0, d1, a0, a1, a2, f0, f1, f2, l0, l1⟩ := x2.cells
   have hA : CellAt w2.heap.size u n T (w2.alloc (.cells #[.bool u, .int .i64 n, .string T] 35)) := by simpa [CellAt, Tri] using heap_alloc_new w2 (.cells #[.bool u, .int .i64 n, .string T] 35)
   have X2 := Lib.hid (x2.alloc (.cells #[.bool u, .int .i64 n, .string T] 35)); have HA := Lib.hid hA; have n0 := l1
   have n1 : w.heap.size < w2.heap.size := by omega
   have n2 : w.heap.size + 1 < w2.heap.size := by omega
   clear x2 b2 hA
   go_wp2_with fail
   refine (CO.out _).mono ?_; rintro en w3 ⟨rfl, b3⟩; clear d0 d1 a0 a1 a2 f0 f1 f2 l0 l1; have x3 := X2.out.step b3; have hA3 := tri_step HA.out b3; obtain ⟨d0, d1, a0, a1, a2, f0, f1, f2, l0, l1⟩ := x3.cells; have HB := Lib.hid x3.bel; clear x3 b3 hA3
   go_wp2_with fail
   exact bodyPost_ret (v := readV ((false, 0, []), 4)) (by simp [results, Tryz.results99, go_sem, readV, a0, a1, a2]) rfl ⟨rfl, below_set3 HB.out (by simp) _ _ _⟩
  | true =>
   by_cases hL : L = S.data.toList
   · have hd2 : rReadD k tn S.data.toList = ((u, n, s), 0) := by rw [hd]; exact if_pos ⟨rfl, hL⟩
     obtain rfl : LB = S := by rw [ba_ext (s := LB) rfl, hLl, hL]
     rw [hd2, hrv]; clear hd hd2 hrv hLl hL
     go_enter Tryz.func99, Tryz.ntmps99
     go_wp2_with fail
     refine (CM.out _).mono ?_; rintro en w1 ⟨rfl, b1⟩; have x1 := X0.out.step b1; obtain ⟨d0, d1, a0, a1, a2, f0, f1, f2, l0, l1⟩ := x1.cells; have X1 := Lib.hid x1; clear x1 b1
     go_wp2_with fail
     refine (CG.out _).mono ?_; rintro en w2 ⟨rfl, b2⟩; clear d0 d1 a0 a1 a2 f0 f1 f2 l0 l1; have x2 := X1.out.step b2; obtain ⟨d0, d1, a0, a1, a2, f0, f1, f2, l0, l1⟩ := x2.cells
     have hA : CellAt w2.heap.size u n T (w2.alloc (.cells #[.bool u, .int .i64 n, .string T] 35)) := by simpa [CellAt, Tri] using heap_alloc_new w2 (.cells #[.bool u, .int .i64 n, .string T] 35)
     have X2 := Lib.hid (x2.alloc (.cells #[.bool u, .int .i64 n, .string T] 35)); have HA := Lib.hid hA; have n0 := l1
     have n1 : w.heap.size < w2.heap.size := by omega
     have n2 : w.heap.size + 1 < w2.heap.size := by omega
     clear x2 b2 hA
     go_wp2_with fail
     refine (CO.out _).mono ?_; rintro en w3 ⟨rfl, b3⟩; clear d0 d1 a0 a1 a2 f0 f1 f2 l0 l1; have x3 := X2.out.step b3; have hA3 := tri_step HA.out b3; obtain ⟨d0, d1, a0, a1, a2, f0, f1, f2, l0, l1⟩ := x3.cells; have c0 := hA3.c0; have c1 := hA3.c1; have c2 := hA3.c2; have X3 := Lib.hid x3; have HA3 := Lib.hid hA3; clear x3 b3 hA3
     go_wp2_with fail
     refine (CT.out _).mono ?_; rintro en w4 ⟨rfl, b4⟩; clear d0 d1 a0 a1 a2 f0 f1 f2 l0 l1 c0 c1 c2; have x4 := X3.out.step b4; have hA4 := tri_step HA3.out b4; obtain ⟨d0, d1, a0, a1, a2, f0, f1, f2, l0, l1⟩ := x4.cells; have c0 := hA4.c0; have c1 := hA4.c1; have c2 := hA4.c2; have HB := Lib.hid x4.bel; clear x4 b4 hA4
     go_wp2_with fail
     exact bodyPost_ret (v := .tuple #[.agg #[.bool u, .int .i64 n, .string T], .int .i64 0]) (by simp [results, Tryz.results99, go_sem, a0, a1, a2]) rfl ⟨rfl, below_set3 HB.out (by simp) _ _ _⟩
   · have hd2 : rReadD k tn S.data.toList = ((false, 0, []), 4) := by rw [hd]; exact if_neg (fun h => hL h.2)
     have q1 : (LB.toList == S.toList) = false := by rw [Lib.toList_data, Lib.toList_data, hLl]; rw [beq_eq_false_iff_ne]; exact hL
     have q2 : ¬ LB.toList = S.toList := by rw [Lib.toList_data, Lib.toList_data, hLl]; exact hL
     rw [hd2]; clear hd hd2 hrv hLl hL
     go_enter Tryz.func99, Tryz.ntmps99
     go_wp2_with fail
     refine (CM.out _).mono ?_; rintro en w1 ⟨rfl, b1⟩; have x1 := X0.out.step b1; obtain ⟨d0, d1, a0, a1, a2, f0, f1, f2, l0, l1⟩ := x1.cells; have X1 := Lib.hid x1; clear x1 b1
     go_wp2_with fail
     refine (CG.out _).mono ?_; rintro en w2 ⟨rfl, b2⟩; clear d0 d1 a0 a1 a2 f0 f1 f2 l0 l1; have x2 := X1.out.step b2; obtain ⟨d0, d1, a0, a1, a2, f0, f1, f2, l0, l1⟩ := x2.cells
     have hA : CellAt w2.heap.size u n T (w2.alloc (.cells #[.bool u, .int .i64 n, .string T] 35)) := by simpa [CellAt, Tri] using heap_alloc_new w2 (.cells #[.bool u, .int .i64 n, .string T] 35)
     have X2 := Lib.hid (x2.alloc (.cells #[.bool u, .int .i64 n, .string T] 35)); have HA := Lib.hid hA; have n0 := l1
     have n1 : w.heap.size < w2.heap.size := by omega
     have n2 : w.heap.size + 1 < w2.heap.size := by omega
     clear x2 b2 hA
     go_wp2_with fail
     refine (CO.out _).mono ?_; rintro en w3 ⟨rfl, b3⟩; clear d0 d1 a0 a1 a2 f0 f1 f2 l0 l1; have x3 := X2.out.step b3; have hA3 := tri_step HA.out b3; obtain ⟨d0, d1, a0, a1, a2, f0, f1, f2, l0, l1⟩ := x3.cells; have c0 := hA3.c0; have c1 := hA3.c1; have c2 := hA3.c2; have X3 := Lib.hid x3; have HA3 := Lib.hid hA3; clear x3 b3 hA3
     go_wp2_with fail
     refine (CT.out _).mono ?_; rintro en w4 ⟨rfl, b4⟩; clear d0 d1 a0 a1 a2 f0 f1 f2 l0 l1 c0 c1 c2; have x4 := X3.out.step b4; have hA4 := tri_step HA3.out b4; obtain ⟨d0, d1, a0, a1, a2, f0, f1, f2, l0, l1⟩ := x4.cells; have c0 := hA4.c0; have c1 := hA4.c1; have c2 := hA4.c2; have HB := Lib.hid x4.bel; clear x4 b4 hA4
     go_wp2_with fail
     exact bodyPost_ret (v := readV ((false, 0, []), 4)) (by simp [results, Tryz.results99, go_sem, readV, a0, a1, a2]) rfl ⟨rfl, below_set3 HB.out (by simp) _ _ _⟩
end Go.Proofs.YthlinmkengoliaaGreatDoor
set_option linter.unusedSimpArgs false
namespace Go.Ms
open Go.Lib
end Go.Ms
namespace Go.Proofs.YthlinmkengoliaaGreatDoor
open Go.RowKit Go.Ms Go.Lib
end Go.Proofs.YthlinmkengoliaaGreatDoor
set_option linter.unusedSimpArgs false
namespace Go.Ms
open Go.Lib
end Go.Ms
namespace Go.Proofs.YthlinmkengoliaaGreatDoor
open Go.RowKit Go.Ms Go.Lib
end Go.Proofs.YthlinmkengoliaaGreatDoor
