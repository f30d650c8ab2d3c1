/- Facts for the walks. -/
import Derived.Test.YthlinmkengoliaaGreatDoorZB
import Derived.Test.YthlinmkengoliaaGreatDoorZP3
set_option linter.unusedVariables false
namespace Go.Proofs.YthlinmkengoliaaGreatDoor
open Go.RowKit Go.Ms Go.Lib
theorem decGo (s : ByteArray) : nextD s.data.toList = if (decodeGo s).1 = 65533 ∧ (decodeGo s).2 < 2 then (0, 0, false) else ((decodeGo s).1, (decodeGo s).2, true) := by
 unfold nextD decodeGo decodeL
 have hs : (⟨s.data.toList.toArray⟩ : ByteArray) = s := by cases s; simp
 rw [hs]
 by_cases h : s.size = 0
 · have : s.data.toList = [] := List.eq_nil_of_length_eq_zero (by rw [← Lib.size_eq]; exact h); rw [if_pos this, if_pos h, if_pos ⟨rfl, by decide⟩]
 · have : s.data.toList ≠ [] := by intro e; apply h; rw [Lib.size_eq, e]; rfl
   rw [if_neg this, if_neg h]
set_option maxHeartbeats 400000 in
theorem next_any (s : ByteArray) (w : World) (hT : Tabs w) :
    Calls Tryz.prog 198 #[.string s] w fun e w' => e = .returned (.tuple #[.int .i32 (nextD s.data.toList).1, .int .i64 (nextD s.data.toList).2.1, .bool (nextD s.data.toList).2.2]) ∧ Below w.heap.size w w' := by
 have cd := Tryz.utf8_DecodeRuneInString s w hT; rw [decGo]
 generalize (decodeGo s).1 = r at *
 generalize (decodeGo s).2 = n at *
 by_cases h : r = 65533 ∧ n < 2
 · obtain ⟨rfl, hn⟩ := h
   have hn' : (n : Int) < 2 := by omega
   rw [if_pos ⟨rfl, hn⟩]
   go_enter Tryz.func198, Tryz.ntmps198
   go_wp2_with (go_at_call 103; refine cd.mono ?_; rintro e w' ⟨rfl, hb⟩)
   go_ret3
   exact ⟨rfl, hb⟩
 · rw [if_neg h]
   by_cases hr : r = 65533
   · have hn' : ¬ (n : Int) < 2 := by omega
     subst hr
     go_enter Tryz.func198, Tryz.ntmps198
     go_wp2_with (go_at_call 103; refine cd.mono ?_; rintro e w' ⟨rfl, hb⟩)
     go_ret3
     exact ⟨rfl, hb⟩
   · have hr' : ((r : Int) == 65533) = false := by simp; omega
     go_enter Tryz.func198, Tryz.ntmps198
     go_wp2_with (go_at_call 103; refine cd.mono ?_; rintro e w' ⟨rfl, hb⟩)
     go_ret3
     exact ⟨rfl, hb⟩
theorem valid_any (s : ByteArray) (w : World) (hs : s.size ≤ 9223372036854775807) (hT : Tabs w) :
    Calls Tryz.prog 120 #[.string s] w fun e w' => e = .returned (.bool (validD s.data.toList)) ∧ Below w.heap.size w w' := by
 go_enter Tryz.func120, Tryz.ntmps120
 go_wp2_with (go_at_call 148; refine (Tryz.utf8_ValidString _ _ hs hT).mono ?_; rintro e w' ⟨rfl, hb⟩)
 go_ret
 exact ⟨rfl, hb⟩
set_option maxHeartbeats 400000 in
theorem fail_any (b : Nat) (s : ByteArray) (p : Nat) (e x : Int) (w : World) (h : Tri 191 b (.string s) (.int .i64 p) (.int .i64 e) w) :
    Calls Tryz.prog 178 #[.pointer (some ⟨b, 0, none⟩), .int .i64 x] w (RdP 191 b s p (rdFail e x) (.tuple #[]) w) := by
 have c2 := h.c2; have f2 := h.fr 2
 by_cases he : e = 0
 · subst he
   go_enter Tryz.func178, Tryz.ntmps178
   go_wp2
   go_end0
   exact ⟨rfl, h.set2 _, (Kept.refl b w).setCell (p := ⟨b, 2, none⟩) rfl _⟩
 · have he' : (e == 0) = false := by simpa using he
   have hx : rdFail e x = e := by unfold rdFail; rw [if_neg he]
   rw [hx]; clear hx
   go_enter Tryz.func178, Tryz.ntmps178
   go_wp2
   go_end0
   exact ⟨rfl, h, Kept.refl _ _⟩
set_option maxHeartbeats 400000 in
theorem take_any (b : Nat) (s : ByteArray) (p : Nat) (e : Int) (w : World) (hp : p ≤ s.size) (hs : s.size ≤ 1000000) (h : Tri 191 b (.string s) (.int .i64 p) (.int .i64 e) w) :
    Calls Tryz.prog 196 #[.pointer (some ⟨b, 0, none⟩)] w (RdP 191 b s (rdTake s.data.toList p e).2.1 (rdTake s.data.toList p e).2.2 (.int .u8 (rdTake s.data.toList p e).1) w) := by
 have c0 := h.c0; have c1 := h.c1; have c2 := h.c2
 have f1 := h.fr 1; have f2 := h.fr 2
 have hl : s.data.toList.length = s.size := by simp
 by_cases he : e = 0
 · subst he
   by_cases hp2 : p = s.size
   · have hz : ((p : Int) == (s.size : Int)) = true := by simp; omega
     have hx : rdTake s.data.toList p 0 = (0, p, 3) := by unfold rdTake; rw [if_pos rfl, if_pos (by omega)]
     rw [hx]; clear hx hl hp2
     go_enter Tryz.func196, Tryz.ntmps196
     go_wp2_with fail
     go_quiet (fail)
     go_wp2_with fail
     refine (fail_any b s p 0 3 _ (by exact h)).mono ?_; rintro en w' ⟨rfl, h1, k1⟩
     go_wp2
     go_ret
     exact ⟨rfl, h1, ⟨k1.os, k1.tape, k1.output, k1.size, k1.block⟩⟩
   · have hz : ((p : Int) == (s.size : Int)) = false := by simp; omega
     have hlt : p < s.size := by omega
     have hlt2 : (p : Int) < (s.size : Int) := by omega
     have hx : rdTake s.data.toList p 0 = (((bt s.data.toList p : Nat) : Int), p + 1, (0 : Int)) := by unfold rdTake; rw [if_pos rfl, if_neg (by omega)]
     have g0 : (s[p]'hlt).toNat = bt s.data.toList p := by rw [get_of]; rfl
     have hb0 := bt_lt s.data.toList p; rw [hx]
     generalize bt s.data.toList p = x at *
     clear hx hl hp2
     go_enter Tryz.func196, Tryz.ntmps196
     go_wp2_with fail
     go_quiet (fail)
     go_wp2_with fail
     go_quiet (fail)
     go_wp2_with fail
     go_ret
     refine ⟨rfl, ?_, ?_⟩
     · exact ((h.drewN _).set1 (.int .i64 ((p + 1 : Nat) : Int))).drewN _
     · exact (((Kept.refl b w).drewN _).setCell (p := ⟨b, 1, none⟩) rfl _).drewN _
 · have he' : (e == 0) = false := by simpa using he
   have he2 : (e != 0) = true := by simpa using he
   have hx : rdTake s.data.toList p e = (0, p, e) := by unfold rdTake; rw [if_neg he]
   rw [hx]; clear hx
   go_enter Tryz.func196, Tryz.ntmps196
   go_wp2
   go_ret
   exact ⟨rfl, h, Kept.refl _ _⟩
theorem digit_ix : ∀ c : Fin 256, hexv ((c.val : Nat) : Int) = if Lib.indexByte [48, 49, 50, 51, 52, 53, 54, 55, 56, 57, 97, 98, 99, 100, 101, 102] (bits .or .u8 ((c.val : Nat) : Int) 32).toNat.toUInt8 < 0 ∨ ((c.val : Nat) : Int) < 48 ∨ (57 < ((c.val : Nat) : Int) ∧ ((c.val : Nat) : Int) < 65) then 16 else Lib.indexByte [48, 49, 50, 51, 52, 53, 54, 55, 56, 57, 97, 98, 99, 100, 101, 102] (bits .or .u8 ((c.val : Nat) : Int) 32).toNat.toUInt8 := by
 decide +kernel
theorem digit_lt : ∀ c : Fin 256, Lib.indexByte [48, 49, 50, 51, 52, 53, 54, 55, 56, 57, 97, 98, 99, 100, 101, 102] (bits .or .u8 ((c.val : Nat) : Int) 32).toNat.toUInt8 < 16 := by
 decide +kernel
set_option maxHeartbeats 400000 in
theorem want_any (b : Nat) (s : ByteArray) (p : Nat) (e c : Int) (w : World) (hp : p ≤ s.size) (hs : s.size ≤ 1000000) (h : Tri 191 b (.string s) (.int .i64 p) (.int .i64 e) w) :
    Calls Tryz.prog 177 #[.pointer (some ⟨b, 0, none⟩), .int .u8 c] w (RdP 191 b s (rdWant s.data.toList c p e).1 (rdWant s.data.toList c p e).2 (.tuple #[]) w) := by
 have ct := take_any b s p e w hp hs h; obtain ⟨g, hg⟩ : ∃ g, (rdTake s.data.toList p e).1 = g := ⟨_, rfl⟩; rw [hg] at ct
 by_cases hc : g = c
 · have hx : rdWant s.data.toList c p e = ((rdTake s.data.toList p e).2.1, (rdTake s.data.toList p e).2.2) := by unfold rdWant; rw [hg, if_pos hc]
   rw [hx]; subst hc; clear hx hg
   go_enter Tryz.func177, Tryz.ntmps177
   go_wp2_with (go_at_call 196; refine ct.mono ?_; rintro en w' ⟨rfl, h1, k1⟩)
   go_end0
   exact ⟨rfl, h1, k1⟩
 · have hx : rdWant s.data.toList c p e = ((rdTake s.data.toList p e).2.1, rdFail (rdTake s.data.toList p e).2.2 41) := by unfold rdWant; rw [hg, if_neg hc]
   rw [hx]
   have hc2 : (g != c) = true := by simpa using hc
   have hc3 : (g == c) = false := by simpa using hc
   clear hx hg hc
   go_enter Tryz.func177, Tryz.ntmps177
   go_wp2_with (go_at_call 196; refine ct.mono ?_; rintro en w' ⟨rfl, h1, k1⟩)
   refine (fail_any b s _ _ 41 _ h1).mono ?_; rintro en w2 ⟨rfl, h2, k2⟩
   go_wp2_with fail
   go_end0
   exact ⟨rfl, h2, k1.trans k2⟩
set_option maxHeartbeats 400000 in
theorem digit_any (b : Nat) (s : ByteArray) (p : Nat) (e : Int) (w : World) (hp : p ≤ s.size) (hs : s.size ≤ 1000000) (h : Tri 191 b (.string s) (.int .i64 p) (.int .i64 e) w) :
    Calls Tryz.prog 207 #[.pointer (some ⟨b, 0, none⟩)] w (RdP 191 b s (rdDigit s.data.toList p e).2.1 (rdDigit s.data.toList p e).2.2 (.int .i64 (rdDigit s.data.toList p e).1) w) := by
 have ct := take_any b s p e w hp hs h; obtain ⟨g, hg⟩ : ∃ g, (rdTake s.data.toList p e).1 = g := ⟨_, rfl⟩; have hb := rdTake_bd s.data.toList p e; rw [hg] at ct hb; have hix := digit_ix ⟨g.toNat, by omega⟩
 have hgn : ((g.toNat : Nat) : Int) = g := by omega
 have hlt := digit_lt ⟨g.toNat, by omega⟩; simp only [hgn] at hix hlt
 have ci := fun w => Tryz.strings_IndexByte ⟨#[48, 49, 50, 51, 52, 53, 54, 55, 56, 57, 97, 98, 99, 100, 101, 102]⟩ (bits .or .u8 g 32) w
 obtain ⟨k, hk⟩ : ∃ k, Lib.indexByte [48, 49, 50, 51, 52, 53, 54, 55, 56, 57, 97, 98, 99, 100, 101, 102] (bits .or .u8 g 32).toNat.toUInt8 = k := ⟨_, rfl⟩; simp only [hk] at ci hix hlt; have Hix := Lib.hid hix; have Hg := Lib.hid hg; have Ci := Lib.hid ci; clear hix hk hgn hg ci
 have no : hexv g = 16 → rdDigit s.data.toList p e = (0, (rdTake s.data.toList p e).2.1, rdFail (rdTake s.data.toList p e).2.2 41) := fun hh => by unfold rdDigit; rw [Hg.out, if_pos hh]
 have yes : ¬ hexv g = 16 → rdDigit s.data.toList p e = (hexv g, (rdTake s.data.toList p e).2.1, (rdTake s.data.toList p e).2.2) := fun hh => by unfold rdDigit; rw [Hg.out, if_neg hh]
 have hv := hexv_bd g
 by_cases hc : k < 0 ∨ g < 48 ∨ (57 < g ∧ g < 65)
 · have hh := Hix.out; rw [if_pos hc] at hh; rw [no hh]; clear yes no hh hv hlt
   by_cases c1 : k < 0
   · clear hc
     go_enter Tryz.func207, Tryz.ntmps207
     go_wp2_with (first | (go_at_call 196; refine ct.mono ?_; rintro en w' ⟨rfl, h1, k1⟩) | (go_at_call 92; refine (Ci.out _).mono ?_; rintro en w2 ⟨rfl, rfl⟩))
     refine (fail_any b s _ _ 41 _ h1).mono ?_; rintro en w2 ⟨rfl, h2, k2⟩
     go_wp2_with fail
     go_ret
     exact ⟨rfl, h2, k1.trans k2⟩
   by_cases c2 : g < 48
   · clear hc
     go_enter Tryz.func207, Tryz.ntmps207
     go_wp2_with (first | (go_at_call 196; refine ct.mono ?_; rintro en w' ⟨rfl, h1, k1⟩) | (go_at_call 92; refine (Ci.out _).mono ?_; rintro en w2 ⟨rfl, rfl⟩))
     refine (fail_any b s _ _ 41 _ h1).mono ?_; rintro en w2 ⟨rfl, h2, k2⟩
     go_wp2_with fail
     go_ret
     exact ⟨rfl, h2, k1.trans k2⟩
   · have c3 : 57 < g := by omega
     have c4 : g < 65 := by omega
     clear hc
     go_enter Tryz.func207, Tryz.ntmps207
     go_wp2_with (first | (go_at_call 196; refine ct.mono ?_; rintro en w' ⟨rfl, h1, k1⟩) | (go_at_call 92; refine (Ci.out _).mono ?_; rintro en w2 ⟨rfl, rfl⟩))
     refine (fail_any b s _ _ 41 _ h1).mono ?_; rintro en w2 ⟨rfl, h2, k2⟩
     go_wp2_with fail
     go_ret
     exact ⟨rfl, h2, k1.trans k2⟩
 · have hh := Hix.out; rw [if_neg hc] at hh
   have c1 : ¬ k < 0 := by omega
   have c2 : ¬ g < 48 := by omega
   have hk16 : ¬ hexv g = 16 := by omega
   rw [yes hk16, hh]; clear yes no hh hv hk16 hlt
   by_cases c3 : 57 < g
   · have c4 : ¬ g < 65 := by omega
     clear hc
     go_enter Tryz.func207, Tryz.ntmps207
     go_wp2_with (first | (go_at_call 196; refine ct.mono ?_; rintro en w' ⟨rfl, h1, k1⟩) | (go_at_call 92; refine (Ci.out _).mono ?_; rintro en w2 ⟨rfl, rfl⟩))
     go_ret
     exact ⟨rfl, h1, k1⟩
   · clear hc
     go_enter Tryz.func207, Tryz.ntmps207
     go_wp2_with (first | (go_at_call 196; refine ct.mono ?_; rintro en w' ⟨rfl, h1, k1⟩) | (go_at_call 92; refine (Ci.out _).mono ?_; rintro en w2 ⟨rfl, rfl⟩))
     go_ret
     exact ⟨rfl, h1, k1⟩
end Go.Proofs.YthlinmkengoliaaGreatDoor
namespace Go.Proofs.YthlinmkengoliaaGreatDoor
open Go.RowKit Go.Ms Go.Lib
theorem or_i64 (a b : Nat) (ha : a < 9223372036854775808) (hb : b < 9223372036854775808) :
    bits .or .i64 (a : Int) (b : Int) = ((a ||| b : Nat) : Int) := by
 have hx : a ||| b < 2 ^ 63 := Nat.or_lt_two_pow (by omega) (by omega)
 have h1 : (BitVec.ofInt 64 (a : Int)).toNat = a := by
  rw [BitVec.ofInt_natCast, BitVec.toNat_ofNat]; exact Nat.mod_eq_of_lt (by omega)
 have h2 : (BitVec.ofInt 64 (b : Int)).toNat = b := by
  rw [BitVec.ofInt_natCast, BitVec.toNat_ofNat]; exact Nat.mod_eq_of_lt (by omega)
 show IntKind.i64.wrap ((BitVec.ofInt 64 (a : Int) ||| BitVec.ofInt 64 (b : Int)).toNat : Int) = _
 rw [BitVec.toNat_or, h1, h2, IntKind.wrap_i64]; omega
theorem or_16 (n d : Int) (h0 : 0 ≤ n) (h1 : n < 65536) (h2 : 0 ≤ d) (h3 : d < 16) : bits .or .i64 (n * 16) d = 16 * n + d := by
 obtain ⟨a, rfl⟩ := Int.eq_ofNat_of_zero_le h0; obtain ⟨b, rfl⟩ := Int.eq_ofNat_of_zero_le h2
 have e : ((a : Int) * (16 : Int)) = ((a <<< 4 : Nat) : Int) := by rw [Nat.shiftLeft_eq]; omega
 rw [e, or_i64 _ _ (by rw [Nat.shiftLeft_eq]; omega) (by omega), ← Nat.shiftLeft_add_eq_or_of_lt (by omega : b < 2 ^ 4), Nat.shiftLeft_eq]
 simp; omega
set_option maxHeartbeats 2000000 in
theorem half_core (b : Nat) (s : ByteArray) (second : Bool) (n0 n1 n2 n3 e0 E0 e1 E1 e2 e3 : Int) (p0 p1 p2 p3 : Nat) (w : World)
    (b0 : 0 ≤ n0 ∧ n0 < 16) (b1 : 0 ≤ n1 ∧ n1 < 16) (b2 : 0 ≤ n2 ∧ n2 < 16) (b3 : 0 ≤ n3 ∧ n3 < 16)
    (c0 : Calls Tryz.prog 207 #[.pointer (some ⟨b, 0, none⟩)] w (RdP 191 b s p0 e0 (.int .i64 n0) w))
    (c1 : ∀ w, Tri 191 b (.string s) (.int .i64 p0) (.int .i64 E0) w → Calls Tryz.prog 207 #[.pointer (some ⟨b, 0, none⟩)] w (RdP 191 b s p1 e1 (.int .i64 n1) w))
    (c2 : ∀ w, Tri 191 b (.string s) (.int .i64 p1) (.int .i64 E1) w → Calls Tryz.prog 207 #[.pointer (some ⟨b, 0, none⟩)] w (RdP 191 b s p2 e2 (.int .i64 n2) w))
    (c3 : ∀ w, Tri 191 b (.string s) (.int .i64 p2) (.int .i64 e2) w → Calls Tryz.prog 207 #[.pointer (some ⟨b, 0, none⟩)] w (RdP 191 b s p3 e3 (.int .i64 n3) w))
    (hE0 : E0 = if second = true ∧ ¬ n0 = 13 then rdFail e0 41 else e0)
    (hE1 : E1 = if second = decide (220 ≤ 16 * n0 + n1 ∧ 16 * n0 + n1 ≤ 223) then e1 else rdFail e1 41) :
    Calls Tryz.prog 197 #[.pointer (some ⟨b, 0, none⟩), .bool second] w (RdP 191 b s p3 e3 (.int .i32 (16 * (16 * (16 * n0 + n1) + n2) + n3)) w) := by
 have o1 := or_16 n0 n1 b0.1 (by omega) b1.1 b1.2; have o2 := or_16 (16 * n0 + n1) n2 (by omega) (by omega) b2.1 b2.2; have o3 := or_16 (16 * (16 * n0 + n1) + n2) n3 (by omega) (by omega) b3.1 b3.2
 obtain ⟨b00, b01⟩ := b0; obtain ⟨b10, b11⟩ := b1; obtain ⟨b20, b21⟩ := b2; obtain ⟨b30, b31⟩ := b3
 have C1 := Lib.hid c1; have C2 := Lib.hid c2; have C3 := Lib.hid c3
 clear c1 c2 c3
 cases second
 · rw [if_neg (by simp)] at hE0; subst hE0
   by_cases hr1 : 220 ≤ 16 * n0 + n1
   · by_cases hr2 : 16 * n0 + n1 ≤ 223
     · have q2 : decide (16 * n0 + n1 ≤ 223) = true := by simpa using hr2
       rw [if_neg (by simp [hr1, hr2])] at hE1; subst hE1
       go_enter Tryz.func197, Tryz.ntmps197
       go_wp2_with fail
       refine c0.mono ?_; rintro en w1 ⟨rfl, t1, k1⟩
       go_wp2_with fail
       refine (C1.out _ t1).mono ?_; rintro en w3 ⟨rfl, t3, k3⟩
       go_wp2_with fail
       refine (fail_any b s _ _ 41 _ t3).mono ?_; rintro en w4 ⟨rfl, t3, k4⟩
       go_wp2_with fail
       refine (C2.out _ t3).mono ?_; rintro en w5 ⟨rfl, t5, k5⟩
       go_wp2_with fail
       refine (C3.out _ t5).mono ?_; rintro en w6 ⟨rfl, t6, k6⟩
       go_wp2_with fail
       go_ret
       exact ⟨rfl, t6, ((((k1.trans k3).trans k4).trans k5).trans k6)⟩
     · have q2 : decide (16 * n0 + n1 ≤ 223) = false := by simpa using hr2
       rw [if_pos (by simp [hr2])] at hE1; subst hE1
       go_enter Tryz.func197, Tryz.ntmps197
       go_wp2_with fail
       refine c0.mono ?_; rintro en w1 ⟨rfl, t1, k1⟩
       go_wp2_with fail
       refine (C1.out _ t1).mono ?_; rintro en w3 ⟨rfl, t3, k3⟩
       go_wp2_with fail
       refine (C2.out _ t3).mono ?_; rintro en w5 ⟨rfl, t5, k5⟩
       go_wp2_with fail
       refine (C3.out _ t5).mono ?_; rintro en w6 ⟨rfl, t6, k6⟩
       go_wp2_with fail
       go_ret
       exact ⟨rfl, t6, (((k1.trans k3).trans k5).trans k6)⟩
   · rw [if_pos (by simp [hr1])] at hE1; subst hE1
     go_enter Tryz.func197, Tryz.ntmps197
     go_wp2_with fail
     refine c0.mono ?_; rintro en w1 ⟨rfl, t1, k1⟩
     go_wp2_with fail
     refine (C1.out _ t1).mono ?_; rintro en w3 ⟨rfl, t3, k3⟩
     go_wp2_with fail
     refine (C2.out _ t3).mono ?_; rintro en w5 ⟨rfl, t5, k5⟩
     go_wp2_with fail
     refine (C3.out _ t5).mono ?_; rintro en w6 ⟨rfl, t6, k6⟩
     go_wp2_with fail
     go_ret
     exact ⟨rfl, t6, (((k1.trans k3).trans k5).trans k6)⟩
 · by_cases h13 : n0 = 13
   · rw [if_neg (by simp [h13])] at hE0; subst hE0
     have h13b : (n0 != 13) = false := by simpa using h13
     have h13c : (n0 == 13) = true := by simpa using h13
     clear h13
     by_cases hr1 : 220 ≤ 16 * n0 + n1
     · by_cases hr2 : 16 * n0 + n1 ≤ 223
       · have q2 : decide (16 * n0 + n1 ≤ 223) = true := by simpa using hr2
         rw [if_pos (by simp [hr1, hr2])] at hE1; subst hE1
         go_enter Tryz.func197, Tryz.ntmps197
         go_wp2_with fail
         refine c0.mono ?_; rintro en w1 ⟨rfl, t1, k1⟩
         go_wp2_with fail
         refine (C1.out _ t1).mono ?_; rintro en w3 ⟨rfl, t3, k3⟩
         go_wp2_with fail
         refine (C2.out _ t3).mono ?_; rintro en w5 ⟨rfl, t5, k5⟩
         go_wp2_with fail
         refine (C3.out _ t5).mono ?_; rintro en w6 ⟨rfl, t6, k6⟩
         go_wp2_with fail
         go_ret
         exact ⟨rfl, t6, (((k1.trans k3).trans k5).trans k6)⟩
       · have q2 : decide (16 * n0 + n1 ≤ 223) = false := by simpa using hr2
         rw [if_neg (by simp [hr2])] at hE1; subst hE1
         go_enter Tryz.func197, Tryz.ntmps197
         go_wp2_with fail
         refine c0.mono ?_; rintro en w1 ⟨rfl, t1, k1⟩
         go_wp2_with fail
         refine (C1.out _ t1).mono ?_; rintro en w3 ⟨rfl, t3, k3⟩
         go_wp2_with fail
         refine (fail_any b s _ _ 41 _ t3).mono ?_; rintro en w4 ⟨rfl, t3, k4⟩
         go_wp2_with fail
         refine (C2.out _ t3).mono ?_; rintro en w5 ⟨rfl, t5, k5⟩
         go_wp2_with fail
         refine (C3.out _ t5).mono ?_; rintro en w6 ⟨rfl, t6, k6⟩
         go_wp2_with fail
         go_ret
         exact ⟨rfl, t6, ((((k1.trans k3).trans k4).trans k5).trans k6)⟩
     · rw [if_neg (by simp [hr1])] at hE1; subst hE1
       go_enter Tryz.func197, Tryz.ntmps197
       go_wp2_with fail
       refine c0.mono ?_; rintro en w1 ⟨rfl, t1, k1⟩
       go_wp2_with fail
       refine (C1.out _ t1).mono ?_; rintro en w3 ⟨rfl, t3, k3⟩
       go_wp2_with fail
       refine (fail_any b s _ _ 41 _ t3).mono ?_; rintro en w4 ⟨rfl, t3, k4⟩
       go_wp2_with fail
       refine (C2.out _ t3).mono ?_; rintro en w5 ⟨rfl, t5, k5⟩
       go_wp2_with fail
       refine (C3.out _ t5).mono ?_; rintro en w6 ⟨rfl, t6, k6⟩
       go_wp2_with fail
       go_ret
       exact ⟨rfl, t6, ((((k1.trans k3).trans k4).trans k5).trans k6)⟩
   · rw [if_pos ⟨rfl, h13⟩] at hE0; subst hE0
     have h13b : (n0 != 13) = true := by simpa using h13
     have h13c : (n0 == 13) = false := by simpa using h13
     by_cases hr1 : 220 ≤ 16 * n0 + n1
     · by_cases hr2 : 16 * n0 + n1 ≤ 223
       · have q2 : decide (16 * n0 + n1 ≤ 223) = true := by simpa using hr2
         rw [if_pos (by simp [hr1, hr2])] at hE1; subst hE1
         go_enter Tryz.func197, Tryz.ntmps197
         go_wp2_with fail
         refine c0.mono ?_; rintro en w1 ⟨rfl, t1, k1⟩
         go_wp2_with fail
         refine (fail_any b s _ _ 41 _ t1).mono ?_; rintro en w2 ⟨rfl, t1, k2⟩
         go_wp2_with fail
         refine (C1.out _ t1).mono ?_; rintro en w3 ⟨rfl, t3, k3⟩
         go_wp2_with fail
         refine (C2.out _ t3).mono ?_; rintro en w5 ⟨rfl, t5, k5⟩
         go_wp2_with fail
         refine (C3.out _ t5).mono ?_; rintro en w6 ⟨rfl, t6, k6⟩
         go_wp2_with fail
         go_ret
         exact ⟨rfl, t6, ((((k1.trans k2).trans k3).trans k5).trans k6)⟩
       · have q2 : decide (16 * n0 + n1 ≤ 223) = false := by simpa using hr2
         rw [if_neg (by simp [hr2])] at hE1; subst hE1
         go_enter Tryz.func197, Tryz.ntmps197
         go_wp2_with fail
         refine c0.mono ?_; rintro en w1 ⟨rfl, t1, k1⟩
         go_wp2_with fail
         refine (fail_any b s _ _ 41 _ t1).mono ?_; rintro en w2 ⟨rfl, t1, k2⟩
         go_wp2_with fail
         refine (C1.out _ t1).mono ?_; rintro en w3 ⟨rfl, t3, k3⟩
         go_wp2_with fail
         refine (fail_any b s _ _ 41 _ t3).mono ?_; rintro en w4 ⟨rfl, t3, k4⟩
         go_wp2_with fail
         refine (C2.out _ t3).mono ?_; rintro en w5 ⟨rfl, t5, k5⟩
         go_wp2_with fail
         refine (C3.out _ t5).mono ?_; rintro en w6 ⟨rfl, t6, k6⟩
         go_wp2_with fail
         go_ret
         exact ⟨rfl, t6, (((((k1.trans k2).trans k3).trans k4).trans k5).trans k6)⟩
     · rw [if_neg (by simp [hr1])] at hE1; subst hE1
       go_enter Tryz.func197, Tryz.ntmps197
       go_wp2_with fail
       refine c0.mono ?_; rintro en w1 ⟨rfl, t1, k1⟩
       go_wp2_with fail
       refine (fail_any b s _ _ 41 _ t1).mono ?_; rintro en w2 ⟨rfl, t1, k2⟩
       go_wp2_with fail
       refine (C1.out _ t1).mono ?_; rintro en w3 ⟨rfl, t3, k3⟩
       go_wp2_with fail
       refine (fail_any b s _ _ 41 _ t3).mono ?_; rintro en w4 ⟨rfl, t3, k4⟩
       go_wp2_with fail
       refine (C2.out _ t3).mono ?_; rintro en w5 ⟨rfl, t5, k5⟩
       go_wp2_with fail
       refine (C3.out _ t5).mono ?_; rintro en w6 ⟨rfl, t6, k6⟩
       go_wp2_with fail
       go_ret
       exact ⟨rfl, t6, (((((k1.trans k2).trans k3).trans k4).trans k5).trans k6)⟩
theorem half_any (b : Nat) (s : ByteArray) (second : Bool) (p : Nat) (e : Int) (w : World) (hp : p ≤ s.size) (hs : s.size ≤ 1000000) (h : Tri 191 b (.string s) (.int .i64 p) (.int .i64 e) w) :
    Calls Tryz.prog 197 #[.pointer (some ⟨b, 0, none⟩), .bool second] w (RdP 191 b s (rdHalf s.data.toList second p e).2.1 (rdHalf s.data.toList second p e).2.2 (.int .i32 (rdHalf s.data.toList second p e).1) w) := by
 have hl : s.data.toList.length = s.size := by simp
 have l0 := h0_le s.data.toList second p e (by omega); have l1 := h1_le s.data.toList second p e (by omega); have l2 := h2_le s.data.toList second p e (by omega)
 exact half_core b s second _ _ _ _ _ _ _ _ _ _ _ _ _ _ w (rdDigit_bd s.data.toList p e) (rdDigit_bd s.data.toList (h0 s.data.toList second p e).2.1 (h0 s.data.toList second p e).2.2)
   (rdDigit_bd s.data.toList (h1 s.data.toList second p e).2.1 (h1 s.data.toList second p e).2.2) (rdDigit_bd s.data.toList (h2 s.data.toList second p e).2.1 (h2 s.data.toList second p e).2.2)
   (digit_any b s p e w hp hs h) (fun w h => digit_any b s _ _ w (by omega) hs h) (fun w h => digit_any b s _ _ w (by omega) hs h) (fun w h => digit_any b s _ _ w (by omega) hs h) rfl rfl
end Go.Proofs.YthlinmkengoliaaGreatDoor
namespace Go.Proofs.YthlinmkengoliaaGreatDoor
open Go.RowKit Go.Ms Go.Lib
set_option maxHeartbeats 1000000 in
theorem plain_any (b : Nat) (s : ByteArray) (p : Nat) (e : Int) (w : World) (hp : p < s.size) (hs : s.size ≤ 1000000) (hT : Tabs w) (h : Tri 191 b (.string s) (.int .i64 p) (.int .i64 e) w) :
    Calls Tryz.prog 180 #[.pointer (some ⟨b, 0, none⟩)] w (RdP 191 b s (rdPlain s.data.toList p e).2.1 (rdPlain s.data.toList p e).2.2 (.string ⟨(rdPlain s.data.toList p e).1.toArray⟩) w) := by
 have c0 := h.c0; have c1 := h.c1
 have hl : s.data.toList.length = s.size := by simp
 have hext : (s.extract p s.size).data.toList = s.data.toList.drop p := by rw [ext_list, List.take_of_length_le (by omega)]
 have hsz : (s.extract p s.size).size = s.size - p := by simp
 have h0 : 0 < (s.extract p s.size).size := by omega
 have g0 : ((s.extract p s.size)[0]'h0).toNat = bt s.data.toList p := by
  rw [get_of, hext]
  simp [bt, List.getD_eq_getElem?_getD]
 obtain ⟨R, hR⟩ : ∃ R, rdPlain s.data.toList p e = R := ⟨_, rfl⟩; rw [hR]; unfold rdPlain at hR
 have cn := fun W (hT : Tabs W) => next_any (s.extract p s.size) W hT
 have cf := fun W (hT : Tabs W) => full_any (s.extract p s.size) W (by omega) hT
 rw [hext] at cn cf; have Cn := Lib.hid cn; have Cf := Lib.hid cf; clear cn cf; obtain ⟨ok, hok⟩ : ∃ ok, (nextD (s.data.toList.drop p)).2.2 = ok := ⟨_, rfl⟩; obtain ⟨n, hn⟩ : ∃ n, (nextD (s.data.toList.drop p)).2.1 = n := ⟨_, rfl⟩; rw [hok, hn] at hR
 have hnl : ok = true → n ≤ s.size - p := by
  intro h1
  rcases next_cases (s.data.toList.drop p) with e1 | ⟨r, _, e2, e3⟩
  · rw [e1] at hok; simp at hok; rw [h1] at hok; cases hok
  · rw [e2] at hn; have := congrArg List.length e3
    simp at this hn
    omega
 have Hext := Lib.hid hext; have Hok := Lib.hid hok; have Hn := Lib.hid hn; clear hok hn hext
 have hcut : ((s.extract p s.size).extract 0 n).data.toList = (s.data.toList.drop p).take n := by rw [ext_list, Hext.out]; simp
 have Hcut := Lib.hid hcut; clear hcut
 by_cases hc : bt s.data.toList p < 32
 · rw [if_pos hc] at hR; subst hR
   have hc' : (bt s.data.toList p : Int) < 32 := by omega
   go_enter Tryz.func180, Tryz.ntmps180
   go_wp2_with fail
   go_quiet (fail)
   go_wp2_with fail
   refine (Cn.out _ (by exact hT)).mono ?_; rintro en w1 ⟨rfl, hb1⟩; have t1 := (h.drewN _).below hb1 h.lt; have k1 : Kept b w w1 := ((Kept.refl b w).drewN _).trans (Kept.of_below hb1); rw [Hok.out, Hn.out]
   go_wp2_with fail
   refine (fail_any b s p e 41 _ t1).mono ?_; rintro en w2 ⟨rfl, t2, k2⟩
   go_wp2_with fail
   go_ret
   exact ⟨rfl, t2, k1.trans k2⟩
 rw [if_neg hc] at hR
 have hc' : ¬ (bt s.data.toList p : Int) < 32 := by omega
 cases ok
 · rw [if_neg (by simp)] at hR; obtain ⟨fl, hfl⟩ : ∃ fl, fullD (s.data.toList.drop p) = fl := ⟨_, rfl⟩; rw [hfl] at hR; have Hfl := Lib.hid hfl; clear hfl
   cases fl
   · rw [if_neg (by simp)] at hR; subst hR
     go_enter Tryz.func180, Tryz.ntmps180
     go_wp2_with fail
     go_quiet (fail)
     go_wp2_with fail
     refine (Cn.out _ (by exact hT)).mono ?_; rintro en w1 ⟨rfl, hb1⟩; have t1 := (h.drewN _).below hb1 h.lt; have k1 : Kept b w w1 := ((Kept.refl b w).drewN _).trans (Kept.of_below hb1); rw [Hok.out, Hn.out]
     go_wp2_with fail
     refine (Cf.out _ (tabs_below (tabs_drewN hT _) hb1)).mono ?_; rintro en w2 ⟨rfl, hb2⟩; rw [Hfl.out]
     go_wp2_with fail
     refine (fail_any b s p e 3 _ (t1.below hb2 t1.lt)).mono ?_; rintro en w3 ⟨rfl, t3, k3⟩
     go_wp2_with fail
     go_ret
     exact ⟨rfl, t3, (k1.trans (Kept.of_below hb2)).trans k3⟩
   · rw [if_pos rfl] at hR; subst hR
     go_enter Tryz.func180, Tryz.ntmps180
     go_wp2_with fail
     go_quiet (fail)
     go_wp2_with fail
     refine (Cn.out _ (by exact hT)).mono ?_; rintro en w1 ⟨rfl, hb1⟩; have t1 := (h.drewN _).below hb1 h.lt; have k1 : Kept b w w1 := ((Kept.refl b w).drewN _).trans (Kept.of_below hb1); rw [Hok.out, Hn.out]
     go_wp2_with fail
     refine (Cf.out _ (tabs_below (tabs_drewN hT _) hb1)).mono ?_; rintro en w2 ⟨rfl, hb2⟩; rw [Hfl.out]
     go_wp2_with fail
     refine (fail_any b s p e 40 _ (t1.below hb2 t1.lt)).mono ?_; rintro en w3 ⟨rfl, t3, k3⟩
     go_wp2_with fail
     go_ret
     exact ⟨rfl, t3, (k1.trans (Kept.of_below hb2)).trans k3⟩
 · rw [if_pos rfl] at hR; subst hR; have hnl2 : n ≤ s.size - p := hnl rfl
   have hnl3 : (n : Int) ≤ ((s.extract p s.size).size : Int) := by omega
   clear hnl
   go_enter Tryz.func180, Tryz.ntmps180
   go_wp2_with fail
   go_quiet (fail)
   go_wp2_with fail
   refine (Cn.out _ (by exact hT)).mono ?_; rintro en w1 ⟨rfl, hb1⟩; have t1 := (h.drewN _).below hb1 h.lt; have k1 : Kept b w w1 := ((Kept.refl b w).drewN _).trans (Kept.of_below hb1); rw [Hok.out, Hn.out]; have d1 := t1.c1; have f1 := t1.fr 1
   go_wp2_with fail
   go_ret
   refine ⟨?_, ?_, ?_⟩
   · exact congrArg (fun x => Ending.returned (Value.string x)) (ba_ext Hcut.out)
   · exact t1.set1 (.int .i64 ((p + n : Nat) : Int))
   · exact k1.trans ((Kept.refl b w1).setCell (p := ⟨b, 1, none⟩) rfl _)
end Go.Proofs.YthlinmkengoliaaGreatDoor
