/- Facts for the walks. -/
import Derived.Test.YtklpmghdiflcbaaGreatDoorZB
set_option linter.unusedVariables false
namespace Go.Proofs.YtklpmghdiflcbaaGreatDoor
open Go.RowKit Go.Ms Go.Lib

theorem decGo (s : ByteArray) : nextD s.data.toList = if (decodeGo s).1 = 65533 ∧ (decodeGo s).2 < 2 then (0, 0, false) else ((decodeGo s).1, (decodeGo s).2, true) := by
  unfold nextD decodeGo decodeL
  have hs : (⟨s.data.toList.toArray⟩ : ByteArray) = s := by cases s; simp
  rw [hs]
  by_cases h : s.size = 0
  · have : s.data.toList = [] := List.eq_nil_of_length_eq_zero (by rw [← Lib.size_eq]; exact h)
    rw [if_pos this, if_pos h, if_pos ⟨rfl, by decide⟩]
  · have : s.data.toList ≠ [] := by intro e; apply h; rw [Lib.size_eq, e]; rfl
    rw [if_neg this, if_neg h]

set_option maxHeartbeats 400000 in
theorem next_any (s : ByteArray) (w : World) (hT : Tabs w) :
    Calls Tryz.prog 131 #[.string s] w fun e w' => e = .returned (.tuple #[.int .i32 (nextD s.data.toList).1, .int .i64 (nextD s.data.toList).2.1, .bool (nextD s.data.toList).2.2]) ∧ Below w.heap.size w w' := by
  have cd := Tryz.utf8_DecodeRuneInString s w hT
  rw [decGo]
  generalize (decodeGo s).1 = r at *
  generalize (decodeGo s).2 = n at *
  by_cases h : r = 65533 ∧ n < 2
  · obtain ⟨rfl, hn⟩ := h
    have hn' : (n : Int) < 2 := by omega
    rw [if_pos ⟨rfl, hn⟩]
    go_enter Tryz.func131, Tryz.ntmps131
    go_wp2_with (go_at_call 135; refine cd.mono ?_; rintro e w' ⟨rfl, hb⟩)
    go_ret3
    exact ⟨rfl, hb⟩
  · rw [if_neg h]
    by_cases hr : r = 65533
    · have hn' : ¬ (n : Int) < 2 := by omega
      subst hr
      go_enter Tryz.func131, Tryz.ntmps131
      go_wp2_with (go_at_call 135; refine cd.mono ?_; rintro e w' ⟨rfl, hb⟩)
      go_ret3
      exact ⟨rfl, hb⟩
    · have hr' : ((r : Int) == 65533) = false := by simp; omega
      go_enter Tryz.func131, Tryz.ntmps131
      go_wp2_with (go_at_call 135; refine cd.mono ?_; rintro e w' ⟨rfl, hb⟩)
      go_ret3
      exact ⟨rfl, hb⟩

theorem valid_any (s : ByteArray) (w : World) (hs : s.size ≤ 9223372036854775807) (hT : Tabs w) :
    Calls Tryz.prog 65 #[.string s] w fun e w' => e = .returned (.bool (validD s.data.toList)) ∧ Below w.heap.size w w' := by
  go_enter Tryz.func65, Tryz.ntmps65
  go_wp2_with (go_at_call 89; refine (Tryz.utf8_ValidString _ _ hs hT).mono ?_; rintro e w' ⟨rfl, hb⟩)
  go_ret
  exact ⟨rfl, hb⟩

set_option maxHeartbeats 400000 in
theorem fail_any (b : Nat) (s : ByteArray) (p : Nat) (e x : Int) (w : World) (h : Tri 128 b (.string s) (.int .i64 p) (.int .i64 e) w) :
    Calls Tryz.prog 110 #[.pointer (some ⟨b, 0, none⟩), .int .i64 x] w (RdP 128 b s p (rdFail e x) (.tuple #[]) w) := by
  have c2 := h.c2
  have f2 := h.fr 2
  by_cases he : e = 0
  · subst he
    go_enter Tryz.func110, Tryz.ntmps110
    go_wp2
    go_end0
    exact ⟨rfl, h.set2 _, (Kept.refl b w).setCell (p := ⟨b, 2, none⟩) rfl _⟩
  · have he' : (e == 0) = false := by simpa using he
    have hx : rdFail e x = e := by unfold rdFail; rw [if_neg he]
    rw [hx]
    clear hx
    go_enter Tryz.func110, Tryz.ntmps110
    go_wp2
    go_end0
    exact ⟨rfl, h, Kept.refl _ _⟩

set_option maxHeartbeats 400000 in
theorem take_any (b : Nat) (s : ByteArray) (p : Nat) (e : Int) (w : World) (hp : p ≤ s.size) (hs : s.size ≤ 1000000) (h : Tri 128 b (.string s) (.int .i64 p) (.int .i64 e) w) :
    Calls Tryz.prog 129 #[.pointer (some ⟨b, 0, none⟩)] w (RdP 128 b s (rdTake s.data.toList p e).2.1 (rdTake s.data.toList p e).2.2 (.int .u8 (rdTake s.data.toList p e).1) w) := by
  have c0 := h.c0; have c1 := h.c1; have c2 := h.c2
  have f1 := h.fr 1; have f2 := h.fr 2
  have hl : s.data.toList.length = s.size := by simp
  by_cases he : e = 0
  · subst he
    by_cases hp2 : p = s.size
    · have hz : ((p : Int) == (s.size : Int)) = true := by simp; omega
      have hx : rdTake s.data.toList p 0 = (0, p, 3) := by unfold rdTake; rw [if_pos rfl, if_pos (by omega)]
      rw [hx]
      clear hx hl hp2
      go_enter Tryz.func129, Tryz.ntmps129
      go_wp2_with fail
      go_quiet (fail)
      go_wp2_with fail
      refine (fail_any b s p 0 3 _ (by exact h)).mono ?_
      rintro en w' ⟨rfl, h1, k1⟩
      go_wp2
      go_ret
      exact ⟨rfl, h1, ⟨k1.os, k1.tape, k1.output, k1.size, k1.block⟩⟩
    · have hz : ((p : Int) == (s.size : Int)) = false := by simp; omega
      have hlt : p < s.size := by omega
      have hlt2 : (p : Int) < (s.size : Int) := by omega
      have hx : rdTake s.data.toList p 0 = (((bt s.data.toList p : Nat) : Int), p + 1, (0 : Int)) := by unfold rdTake; rw [if_pos rfl, if_neg (by omega)]
      have g0 : (s[p]'hlt).toNat = bt s.data.toList p := by rw [get_of]; rfl
      have hb0 := bt_lt s.data.toList p
      rw [hx]
      generalize bt s.data.toList p = x at *
      clear hx hl hp2
      go_enter Tryz.func129, Tryz.ntmps129
      go_wp2_with fail
      go_quiet (fail)
      go_wp2_with fail
      go_quiet (fail)
      go_wp2_with fail
      go_ret
      refine ⟨rfl, ?_, ?_⟩
      · exact ((h.drewN _).set1 (.int .i64 ((p + 1 : Nat) : Int))).drewN _
      · exact (((Kept.refl b w).drewN _).setCell (p := ⟨b, 1, none⟩) rfl _).drewN _
  · have he' : (e == 0) = false := by simpa using he
    have he2 : (e != 0) = true := by simpa using he
    have hx : rdTake s.data.toList p e = (0, p, e) := by unfold rdTake; rw [if_neg he]
    rw [hx]
    clear hx
    go_enter Tryz.func129, Tryz.ntmps129
    go_wp2
    go_ret
    exact ⟨rfl, h, Kept.refl _ _⟩

theorem digit_ix : ∀ c : Fin 256, hexv ((c.val : Nat) : Int) = if Lib.indexByte [48, 49, 50, 51, 52, 53, 54, 55, 56, 57, 97, 98, 99, 100, 101, 102] (bits .or .u8 ((c.val : Nat) : Int) 32).toNat.toUInt8 < 0 ∨ ((c.val : Nat) : Int) < 48 ∨ (57 < ((c.val : Nat) : Int) ∧ ((c.val : Nat) : Int) < 65) then 16 else Lib.indexByte [48, 49, 50, 51, 52, 53, 54, 55, 56, 57, 97, 98, 99, 100, 101, 102] (bits .or .u8 ((c.val : Nat) : Int) 32).toNat.toUInt8 := by
  decide +kernel

theorem digit_lt : ∀ c : Fin 256, Lib.indexByte [48, 49, 50, 51, 52, 53, 54, 55, 56, 57, 97, 98, 99, 100, 101, 102] (bits .or .u8 ((c.val : Nat) : Int) 32).toNat.toUInt8 < 16 := by
  decide +kernel

set_option maxHeartbeats 400000 in
theorem want_any (b : Nat) (s : ByteArray) (p : Nat) (e c : Int) (w : World) (hp : p ≤ s.size) (hs : s.size ≤ 1000000) (h : Tri 128 b (.string s) (.int .i64 p) (.int .i64 e) w) :
    Calls Tryz.prog 109 #[.pointer (some ⟨b, 0, none⟩), .int .u8 c] w (RdP 128 b s (rdWant s.data.toList c p e).1 (rdWant s.data.toList c p e).2 (.tuple #[]) w) := by
  have ct := take_any b s p e w hp hs h
  obtain ⟨g, hg⟩ : ∃ g, (rdTake s.data.toList p e).1 = g := ⟨_, rfl⟩
  rw [hg] at ct
  by_cases hc : g = c
  · have hx : rdWant s.data.toList c p e = ((rdTake s.data.toList p e).2.1, (rdTake s.data.toList p e).2.2) := by unfold rdWant; rw [hg, if_pos hc]
    rw [hx]
    subst hc
    clear hx hg
    go_enter Tryz.func109, Tryz.ntmps109
    go_wp2_with (go_at_call 129; refine ct.mono ?_; rintro en w' ⟨rfl, h1, k1⟩)
    go_end0
    exact ⟨rfl, h1, k1⟩
  · have hx : rdWant s.data.toList c p e = ((rdTake s.data.toList p e).2.1, rdFail (rdTake s.data.toList p e).2.2 41) := by unfold rdWant; rw [hg, if_neg hc]
    rw [hx]
    have hc2 : (g != c) = true := by simpa using hc
    have hc3 : (g == c) = false := by simpa using hc
    clear hx hg hc
    go_enter Tryz.func109, Tryz.ntmps109
    go_wp2_with (go_at_call 129; refine ct.mono ?_; rintro en w' ⟨rfl, h1, k1⟩)
    refine (fail_any b s _ _ 41 _ h1).mono ?_
    rintro en w2 ⟨rfl, h2, k2⟩
    go_wp2_with fail
    go_end0
    exact ⟨rfl, h2, k1.trans k2⟩

set_option maxHeartbeats 400000 in
theorem digit_any (b : Nat) (s : ByteArray) (p : Nat) (e : Int) (w : World) (hp : p ≤ s.size) (hs : s.size ≤ 1000000) (h : Tri 128 b (.string s) (.int .i64 p) (.int .i64 e) w) :
    Calls Tryz.prog 149 #[.pointer (some ⟨b, 0, none⟩)] w (RdP 128 b s (rdDigit s.data.toList p e).2.1 (rdDigit s.data.toList p e).2.2 (.int .i64 (rdDigit s.data.toList p e).1) w) := by
  have ct := take_any b s p e w hp hs h
  obtain ⟨g, hg⟩ : ∃ g, (rdTake s.data.toList p e).1 = g := ⟨_, rfl⟩
  have hb := rdTake_bd s.data.toList p e
  rw [hg] at ct hb
  have hix := digit_ix ⟨g.toNat, by omega⟩
  have hgn : ((g.toNat : Nat) : Int) = g := by omega
  have hlt := digit_lt ⟨g.toNat, by omega⟩
  simp only [hgn] at hix hlt
  have ci := fun w => Tryz.strings_IndexByte ⟨#[48, 49, 50, 51, 52, 53, 54, 55, 56, 57, 97, 98, 99, 100, 101, 102]⟩ (bits .or .u8 g 32) w
  obtain ⟨k, hk⟩ : ∃ k, Lib.indexByte [48, 49, 50, 51, 52, 53, 54, 55, 56, 57, 97, 98, 99, 100, 101, 102] (bits .or .u8 g 32).toNat.toUInt8 = k := ⟨_, rfl⟩
  simp only [hk] at ci hix hlt
  have Hix := Lib.hid hix
  have Hg := Lib.hid hg
  have Ci := Lib.hid ci
  clear hix hk hgn hg ci
  have no : hexv g = 16 → rdDigit s.data.toList p e = (0, (rdTake s.data.toList p e).2.1, rdFail (rdTake s.data.toList p e).2.2 41) := fun hh => by unfold rdDigit; rw [Hg.out, if_pos hh]
  have yes : ¬ hexv g = 16 → rdDigit s.data.toList p e = (hexv g, (rdTake s.data.toList p e).2.1, (rdTake s.data.toList p e).2.2) := fun hh => by unfold rdDigit; rw [Hg.out, if_neg hh]
  have hv := hexv_bd g
  by_cases hc : k < 0 ∨ g < 48 ∨ (57 < g ∧ g < 65)
  · have hh := Hix.out
    rw [if_pos hc] at hh
    rw [no hh]
    clear yes no hh hv hlt
    by_cases c1 : k < 0
    · clear hc
      go_enter Tryz.func149, Tryz.ntmps149
      go_wp2_with (first | (go_at_call 129; refine ct.mono ?_; rintro en w' ⟨rfl, h1, k1⟩) | (go_at_call 95; refine (Ci.out _).mono ?_; rintro en w2 ⟨rfl, rfl⟩))
      refine (fail_any b s _ _ 41 _ h1).mono ?_
      rintro en w2 ⟨rfl, h2, k2⟩
      go_wp2_with fail
      go_ret
      exact ⟨rfl, h2, k1.trans k2⟩
    by_cases c2 : g < 48
    · clear hc
      go_enter Tryz.func149, Tryz.ntmps149
      go_wp2_with (first | (go_at_call 129; refine ct.mono ?_; rintro en w' ⟨rfl, h1, k1⟩) | (go_at_call 95; refine (Ci.out _).mono ?_; rintro en w2 ⟨rfl, rfl⟩))
      refine (fail_any b s _ _ 41 _ h1).mono ?_
      rintro en w2 ⟨rfl, h2, k2⟩
      go_wp2_with fail
      go_ret
      exact ⟨rfl, h2, k1.trans k2⟩
    · have c3 : 57 < g := by omega
      have c4 : g < 65 := by omega
      clear hc
      go_enter Tryz.func149, Tryz.ntmps149
      go_wp2_with (first | (go_at_call 129; refine ct.mono ?_; rintro en w' ⟨rfl, h1, k1⟩) | (go_at_call 95; refine (Ci.out _).mono ?_; rintro en w2 ⟨rfl, rfl⟩))
      refine (fail_any b s _ _ 41 _ h1).mono ?_
      rintro en w2 ⟨rfl, h2, k2⟩
      go_wp2_with fail
      go_ret
      exact ⟨rfl, h2, k1.trans k2⟩
  · have hh := Hix.out
    rw [if_neg hc] at hh
    have c1 : ¬ k < 0 := by omega
    have c2 : ¬ g < 48 := by omega
    have hk16 : ¬ hexv g = 16 := by omega
    rw [yes hk16, hh]
    clear yes no hh hv hk16 hlt
    by_cases c3 : 57 < g
    · have c4 : ¬ g < 65 := by omega
      clear hc
      go_enter Tryz.func149, Tryz.ntmps149
      go_wp2_with (first | (go_at_call 129; refine ct.mono ?_; rintro en w' ⟨rfl, h1, k1⟩) | (go_at_call 95; refine (Ci.out _).mono ?_; rintro en w2 ⟨rfl, rfl⟩))
      go_ret
      exact ⟨rfl, h1, k1⟩
    · clear hc
      go_enter Tryz.func149, Tryz.ntmps149
      go_wp2_with (first | (go_at_call 129; refine ct.mono ?_; rintro en w' ⟨rfl, h1, k1⟩) | (go_at_call 95; refine (Ci.out _).mono ?_; rintro en w2 ⟨rfl, rfl⟩))
      go_ret
      exact ⟨rfl, h1, k1⟩
end Go.Proofs.YtklpmghdiflcbaaGreatDoor
