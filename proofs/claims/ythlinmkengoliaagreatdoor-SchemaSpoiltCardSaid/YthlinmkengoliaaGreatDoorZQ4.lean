/- Facts for the walks. -/
import Derived.Test.YthlinmkengoliaaGreatDoorZQ3
import Derived.Test.YthlinmkengoliaaGreatDoorZPa
import Derived.Deep.LoopGhost
import Derived.Deep.RegionWith
set_option linter.unusedVariables false
namespace Go.Proofs.YthlinmkengoliaaGreatDoor
open Go.RowKit Go.Ms Go.Lib Go.MapKept
theorem escape_any (b : Nat) (s : ByteArray) (p : Nat) (e : Int) (w : World) (hp : p ≤ s.size) (hs : s.size ≤ 1000000) (h : Tri 191 b (.string s) (.int .i64 p) (.int .i64 e) w) :
    Calls Tryz.prog 179 #[.pointer (some ⟨b, 0, none⟩)] w (RdP 191 b s (rdEscape s.data.toList p e).2.1 (rdEscape s.data.toList p e).2.2 (.string ⟨(rdEscape s.data.toList p e).1.toArray⟩) w) := by
 have hl : s.data.toList.length = s.size := by simp
 have a1 := rdTake_le s.data.toList p e (by omega); have b1 := rdTake_bd s.data.toList p e
 obtain ⟨e2, he2⟩ : ∃ e2, e2 = if (rdTake s.data.toList p e).1 = 117 then (rdTake s.data.toList p e).2.2 else rdFail (rdTake s.data.toList p e).2.2 41 := ⟨_, rfl⟩
 have a3 := rdHalf_le s.data.toList false (rdTake s.data.toList p e).2.1 e2 a1.2; have a4 := rdWant_le s.data.toList 92 (rdHalf s.data.toList false (rdTake s.data.toList p e).2.1 e2).2.1 (rdHalf s.data.toList false (rdTake s.data.toList p e).2.1 e2).2.2 a3.2; have a5 := rdWant_le s.data.toList 117 _ (rdWant s.data.toList 92 (rdHalf s.data.toList false (rdTake s.data.toList p e).2.1 e2).2.1 (rdHalf s.data.toList false (rdTake s.data.toList p e).2.1 e2).2.2).2 a4.2
 refine esc_core b s _ _ e2 _ _ _ _ _ _ _ _ _ _ _ _ w b1.1 b1.2 (rdHalf_bd _ _ _ _) (rdHalf_bd _ _ _ _) (take_any b s p e w hp hs h)
   (fun w h => half_any b s false _ _ w (by omega) hs h) (fun w h => want_any b s _ _ 92 w (by omega) hs h) (fun w h => want_any b s _ _ 117 w (by omega) hs h) (fun w h => half_any b s true _ _ w (by omega) hs h) he2 ?_
 show _ = _
 subst he2; rfl
set_option maxHeartbeats 4000000 in
theorem unquote_any (s : ByteArray) (w : World) (hs : s.size ≤ 100000) (hT : Tabs w) :
    Calls Tryz.prog 150 #[.string s] w fun e w' => e = .returned (.tuple #[.string ⟨(unquoteD s.data.toList).1.toArray⟩, .int .i64 (unquoteD s.data.toList).2.1, .int .i64 (unquoteD s.data.toList).2.2]) ∧ Below w.heap.size w w' := by
 have hl : s.data.toList.length = s.size := by simp
 obtain ⟨ANS, hANS⟩ : ∃ A, unquoteD s.data.toList = A := ⟨_, rfl⟩; rw [hANS]; unfold unquoteD at hANS; have hw := rdWant_le s.data.toList 34 0 0 (by omega); have HA := Lib.hid hANS; clear hANS
 go_enter Tryz.func150, Tryz.ntmps150
 go_wp2_with fail
 have ht0 : Tri 191 w.heap.size (.string s) (.int .i64 ((0 : Nat) : Int)) (.int .i64 0) (w.alloc (.cells #[.string s, .int .i64 0, .int .i64 0] 191)) := heap_alloc_new w _; refine (want_any w.heap.size s 0 0 34 _ (by omega) (by omega) ht0).mono ?_; rintro en w1 ⟨rfl, t1, k1⟩
 go_wp2_with fail
 have hsz1 : w.heap.size + 1 ≤ w1.heap.size := by have := k1.size; simpa using this
 have hI0 : IsBuilderF 79 5 w1.heap.size w1.heap.size (byteCells []) (w1.alloc (.cells #[.pointer none, .slice none 0 0] 79)) := IsBuilderF.of (Lib.fresh_isBuilder 79 5 w1); have t2 := t1.alloc (.cells #[.pointer none, .slice none 0 0] 79)
 have hb2 : Below w.heap.size w (w1.alloc (.cells #[.pointer none, .slice none 0 0] 79)) :=
   (((Below.refl _ w).alloc (Nat.le_refl _) _).trans (k1.below (Nat.le_refl _) (by simp))).alloc (by omega) _
 go_loopg [] (s.size + 2) (fun gk wr => ∃ (p : Nat) (e : Int) (acc : Bs), Tri 191 w.heap.size (.string s) (.int .i64 p) (.int .i64 e) wr ∧ IsBuilderF 79 5 w1.heap.size w1.heap.size (byteCells acc) wr ∧ Below w.heap.size w wr ∧ w1.heap.size ≤ wr.heap.size ∧ p ≤ s.size ∧ acc.length + 4 * gk ≤ 4 * (s.size + 2) ∧ Hid (uqGo s.data.toList gk acc p e = ANS) ∧ Hid ((if e = 0 then s.size - p + 1 else 0) < gk))
 case atStart =>
  refine ⟨_, _, [], t2, hI0, hb2, by simp, by omega, by simp, ?_, ?_⟩
  · show _ = _
    rw [← hl]; exact HA.out
  · show _ < _
    split <;> omega
 case round =>
  obtain ⟨p, e, acc, ht, hI, hb, hsz, hp, hal, huq, hfu⟩ := hrel; obtain ⟨g, rfl⟩ : ∃ g, gk = g + 1 := ⟨gk - 1, by have := hfu.out; omega⟩; clear t2 hI0 hb2 t1 k1 ht0 HA; have hTr := tabs_below hT hb
  have c0 := ht.c0; have c1 := ht.c1; have c2 := ht.c2
  have f1 := ht.fr 1; have f2 := ht.fr 2
  by_cases he : e = 0
  · subst he; have hfu2 : s.size - p + 1 < g + 1 := hfu.out
    by_cases hpe : p = s.size
    · have hz : ((p : Int) == (s.size : Int)) = true := by simp; omega
      have hA : ANS = ([], 0, 3) := by
       rw [← huq.out, uqGo_succ, if_pos rfl, if_pos (by omega)]
      subst hA; clear huq hfu; obtain ⟨g', rfl⟩ : ∃ g', g = g' + 1 := ⟨g - 1, by omega⟩
      go_wp2_with fail
      refine (fail_any w.heap.size s p 0 3 _ ht).mono ?_; rintro en w2 ⟨rfl, t3, k3⟩
      go_wp2_with fail
      go_roundg (g' + 1)
      case measure => omega
      case rel =>
       exact ⟨p, 3, acc, t3, bld_kept hI k3 ht (by decide) (by decide), hb.trans (k3.below (Nat.le_refl _) (by have := hb.size; omega)), by have := k3.size; omega, hp, by omega, rfl, by show _ < _; simp⟩
    · have hz : ((p : Int) == (s.size : Int)) = false := by simp; omega
      have hlt : p < s.size := by omega
      have hlt2 : (p : Int) < (s.size : Int) := by omega
      have g0 : (s[p]'hlt).toNat = bt s.data.toList p := by rw [get_of]; rfl
      have hb0 := bt_lt s.data.toList p
      by_cases hq : bt s.data.toList p = 34
      · have hA : ANS = (acc, p + 1, 0) := by
          rw [← huq.out, uqGo_succ, if_pos rfl, if_neg (by omega), if_pos hq]
        subst hA
        have hq2 : ((bt s.data.toList p : Nat) : Int) = 34 := by omega
        rw [hq] at g0; clear huq hfu
        have cS : ∀ W : World, W.heap = wr.heap → Calls Tryz.prog 59 #[.pointer (some ⟨w1.heap.size, 0, none⟩)] W fun en w' => en = .returned (.string ⟨acc.toArray⟩) ∧ Tri 191 w.heap.size (.string s) (.int .i64 p) (.int .i64 0) w' ∧ Below w1.heap.size W w' := by
         intro W hW
         have hI2 : IsBuilderF 79 5 w1.heap.size w1.heap.size (byteCells acc) W := bld_keep hI (fun _ _ _ _ _ _ => by rw [hW])
         have ht2 : Tri 191 w.heap.size (.string s) (.int .i64 p) (.int .i64 0) W := by unfold Tri at *; rw [hW]; exact ht
         refine (Tryz.Builder_String_any_k w1.heap.size w1.heap.size acc W hI2 (by rw [hW]; exact hsz)).mono ?_; rintro en W2 ⟨rfl, _, hb2, ho2⟩; exact ⟨rfl, ht2.others ho2 (by omega) (by decide), hb2⟩
        have v1 : IntKind.i64.wrap ((p : Int) + 1) = (p : Int) + 1 := IntWalk.i64_in _ (by omega); have CS := Lib.hid cS; clear cS
        go_wp2_with fail
        go_region_with ((go_at_call 59; refine (CS.out _ (by rfl)).mono ?_; rintro en W2 ⟨rfl, t5, hb2⟩; have d1 := t5.c1))
        all_goals go_wp2_with fail
        all_goals go_ret3
        all_goals exact ⟨rfl, (hb.drew).trans (hb2.mono (by omega))⟩
      · by_cases hbs : bt s.data.toList p = 92
        · have hq2 : uqGo s.data.toList g (acc ++ (rdEscape s.data.toList (p + 1) 0).1) (rdEscape s.data.toList (p + 1) 0).2.1 (rdEscape s.data.toList (p + 1) 0).2.2 = ANS := by
            rw [← huq.out, uqGo_succ, if_pos rfl, if_neg (by omega), if_neg hq, if_pos hbs]
          have Hq := Lib.hid hq2; have hle := rdEscape_le s.data.toList (p + 1) 0 (by omega); have hln := rdEscape_len s.data.toList (p + 1) 0; rw [hbs] at g0; clear huq hfu hq2 hq hbs
          go_wp2_with fail
          have ht2 := ht.set1 (.int .i64 ((p + 1 : Nat) : Int)); refine (escape_any w.heap.size s (p + 1) 0 _ (by omega) (by omega) ht2).mono ?_; rintro en w2 ⟨rfl, t3, k3⟩; have hk : Kept w.heap.size wr w2 := ((Kept.refl w.heap.size wr).setCell (p := ⟨w.heap.size, 1, none⟩) rfl _).trans k3; have hI2 := bld_kept hI hk ht (by decide) (by decide)
          go_wp2_with fail
          refine (wstr_any w1.heap.size w1.heap.size _ _ _ hI2 ?_ (by have := hk.size; omega)).mono ?_
          · rw [Lib.byteCells_length]
            have : (⟨(rdEscape s.data.toList (p + 1) 0).1.toArray⟩ : ByteArray).size = (rdEscape s.data.toList (p + 1) 0).1.length := by show (List.toArray _).size = _; simp
            omega
          rintro en w3 ⟨rfl, hI3, hb3, ho3⟩
          go_wp2_with fail
          go_roundg g
          case measure => omega
          case rel =>
           refine ⟨_, _, _, t3.others ho3 (by omega) (by decide), ?_, (hb.trans (hk.below (Nat.le_refl _) (by have := hb.size; omega))).trans (hb3.mono (by omega)), by have := hk.size; have := hb3.size; omega, by omega, ?_, Hq, ?_⟩
           · rw [Lib.byteCells_append]; exact hI3
           · rw [List.length_append]; omega
           · show _ < _
             split <;> omega
        · have hq2 : uqGo s.data.toList g (acc ++ (rdPlain s.data.toList p 0).1) (rdPlain s.data.toList p 0).2.1 (rdPlain s.data.toList p 0).2.2 = ANS := by
            rw [← huq.out, uqGo_succ, if_pos rfl, if_neg (by omega), if_neg hq, if_neg hbs]
          have Hq := Lib.hid hq2; have hle := rdPlain_le s.data.toList p 0 (by omega); have hln := rdPlain_len s.data.toList p 0
          have g1 : (((bt s.data.toList p : Nat) : Int) == 34) = false := by simp; omega
          have g2 : (((bt s.data.toList p : Nat) : Int) == 92) = false := by simp; omega
          clear huq hfu hq2
          go_wp2_with fail
          refine (plain_any w.heap.size s p 0 _ hlt (by omega) hTr ht).mono ?_; rintro en w2 ⟨rfl, t3, hk⟩; have hI2 := bld_kept hI hk ht (by decide) (by decide)
          go_wp2_with fail
          refine (wstr_any w1.heap.size w1.heap.size _ _ _ hI2 ?_ (by have := hk.size; omega)).mono ?_
          · rw [Lib.byteCells_length]
            have : (⟨(rdPlain s.data.toList p 0).1.toArray⟩ : ByteArray).size = (rdPlain s.data.toList p 0).1.length := by show (List.toArray _).size = _; simp
            omega
          rintro en w3 ⟨rfl, hI3, hb3, ho3⟩
          go_wp2_with fail
          go_roundg g
          case measure => omega
          case rel =>
           refine ⟨_, _, _, t3.others ho3 (by omega) (by decide), ?_, (hb.trans (hk.below (Nat.le_refl _) (by have := hb.size; omega))).trans (hb3.mono (by omega)), by have := hk.size; have := hb3.size; omega, by omega, ?_, Hq, ?_⟩
           · rw [Lib.byteCells_append]; exact hI3
           · rw [List.length_append]; omega
           · show _ < _
             split
             · rename_i h0
               have := hle.2.2 (by trivial) h0; omega
             · omega
  · have hA : ANS = ([], 0, e) := by
      rw [← huq.out, uqGo_succ, if_neg he]
    subst hA
    have g1 : (e == 0) = false := by simpa using he
    clear huq hfu
    go_wp2_with fail
    go_quiet (fail)
    go_wp2_with fail
    go_ret3
    exact ⟨rfl, ms_drewN hb _⟩
end Go.Proofs.YthlinmkengoliaaGreatDoor
