/- Facts for the walks. -/
import Derived.Test.YtikpmmipopmjaaaGreatDoorYQa
set_option linter.unusedVariables false
namespace Go.Proofs.YtikpmmipopmjaaaGreatDoor
open Go.RowKit Go.Ms Go.Lib
set_option maxHeartbeats 4000000 in
set_option maxRecDepth 100000 in
theorem full_any (s : ByteArray) (w : World) (h1 : 1 ≤ s.size) (hT : Tabs w) :
    Calls Tryz.prog 205 #[.string s] w fun e w' => e = .returned (.bool (fullD s.data.toList)) ∧ Below w.heap.size w w' := by
 have hl : s.data.toList.length = s.size := by simp
 have hb0 := bt_lt s.data.toList 0; have hb1 := bt_lt s.data.toList 1; have hb2 := bt_lt s.data.toList 2; have h01 : 0 < s.size := h1
 have g0 : (s[0]'h01).toNat = bt s.data.toList 0 := by rw [get_of]; rfl
 have G1 : ∀ h : 1 < s.size, (s[1]'h).toNat = bt s.data.toList 1 := fun h => by rw [get_of]; rfl
 have G2 : ∀ h : 2 < s.size, (s[2]'h).toNat = bt s.data.toList 2 := fun h => by rw [get_of]; rfl
 obtain ⟨ans, hans⟩ : ∃ ans, fullD s.data.toList = ans := ⟨_, rfl⟩; rw [hans]; unfold fullD at hans; rw [hl] at hans; have hc0 := hT.1 (bt s.data.toList 0) hb0; have hX := firstT_cases (bt s.data.toList 0)
 generalize firstT (bt s.data.toList 0) = X at *
 generalize bt s.data.toList 0 = b0 at *
 generalize bt s.data.toList 1 = b1 at *
 generalize bt s.data.toList 2 = b2 at *
 have hz0 : ((s.size : Int) == 0) = false := by rw [beq_eq_false_iff_ne]; omega
 have hz1 : (0 : Int) < (s.size : Int) := by omega
 have HG1 := Lib.hid G1; have HG2 := Lib.hid G2
 clear G1 G2 hl
 rcases hX with rfl | rfl | rfl | rfl | rfl | rfl | rfl | rfl | rfl
 · have ha : ans = true := by rw [← hans]; first | (simp; done) | (simp; omega)
   subst ha; clear hans
   have hz2 : (1 : Int) ≤ (s.size : Int) := by omega
   clear hT
   go_enter Tryz.func205, Tryz.ntmps205
   go_wp2_with fail
   go_ret
   exact ⟨rfl, by first | exact Below.refl _ _ | exact (Below.refl _ _).alloc (Nat.le_refl _) _ | exact ms_drewN ((Below.refl _ _).alloc (Nat.le_refl _) _) _ | exact ms_drewN (ms_drewN ((Below.refl _ _).alloc (Nat.le_refl _) _) _) _⟩
 · have ha : ans = true := by rw [← hans]; first | (simp; done) | (simp; omega)
   subst ha; clear hans
   have hz2 : (1 : Int) ≤ (s.size : Int) := by omega
   clear hT
   go_enter Tryz.func205, Tryz.ntmps205
   go_wp2_with fail
   go_ret
   exact ⟨rfl, by first | exact Below.refl _ _ | exact (Below.refl _ _).alloc (Nat.le_refl _) _ | exact ms_drewN ((Below.refl _ _).alloc (Nat.le_refl _) _) _ | exact ms_drewN (ms_drewN ((Below.refl _ _).alloc (Nat.le_refl _) _) _) _⟩
 · have ha0 := (hT.2 0 (by omega)).1; have ha1 := (hT.2 0 (by omega)).2; simp only [accLo, accHi, Nat.reduceMul, Nat.reduceAdd, Nat.reduceEqDiff, if_true, if_false, Nat.reduceMod, Nat.reduceDiv] at ha0 ha1 hans
   by_cases hn : 2 ≤ s.size
   · have ha : ans = true := by rw [← hans]; first | (simp; done) | (simp; omega)
     subst ha; clear hans
     have hz2 : (2 : Int) ≤ (s.size : Int) := by omega
     clear hT
     go_enter Tryz.func205, Tryz.ntmps205
     go_wp2_with fail
     go_ret
     exact ⟨rfl, by first | exact Below.refl _ _ | exact (Below.refl _ _).alloc (Nat.le_refl _) _ | exact ms_drewN ((Below.refl _ _).alloc (Nat.le_refl _) _) _ | exact ms_drewN (ms_drewN ((Below.refl _ _).alloc (Nat.le_refl _) _) _) _⟩
   have hz2 : ¬ (2 : Int) ≤ (s.size : Int) := by omega
   by_cases hn1 : s.size = 1
   · have ha : ans = false := by rw [← hans]; first | (simp; done) | (simp; omega)
     subst ha; clear hans
     have hd : decide ((1 : Int) < (s.size : Int)) = false := by simp; omega
     have hd2 : decide ((2 : Int) < (s.size : Int)) = false := by simp; omega
     clear hn1; clear hT
     go_enter Tryz.func205, Tryz.ntmps205
     go_wp2_with fail
     go_quiet (fail)
     go_wp2_with fail
     go_ret
     exact ⟨rfl, by first | exact Below.refl _ _ | exact (Below.refl _ _).alloc (Nat.le_refl _) _ | exact ms_drewN ((Below.refl _ _).alloc (Nat.le_refl _) _) _ | exact ms_drewN (ms_drewN ((Below.refl _ _).alloc (Nat.le_refl _) _) _) _⟩
   · omega
 · have ha0 := (hT.2 1 (by omega)).1; have ha1 := (hT.2 1 (by omega)).2; simp only [accLo, accHi, Nat.reduceMul, Nat.reduceAdd, Nat.reduceEqDiff, if_true, if_false, Nat.reduceMod, Nat.reduceDiv] at ha0 ha1 hans
   by_cases hn : 3 ≤ s.size
   · have ha : ans = true := by rw [← hans]; first | (simp; done) | (simp; omega)
     subst ha; clear hans
     have hz2 : (3 : Int) ≤ (s.size : Int) := by omega
     clear hT
     go_enter Tryz.func205, Tryz.ntmps205
     go_wp2_with fail
     go_ret
     exact ⟨rfl, by first | exact Below.refl _ _ | exact (Below.refl _ _).alloc (Nat.le_refl _) _ | exact ms_drewN ((Below.refl _ _).alloc (Nat.le_refl _) _) _ | exact ms_drewN (ms_drewN ((Below.refl _ _).alloc (Nat.le_refl _) _) _) _⟩
   have hz2 : ¬ (3 : Int) ≤ (s.size : Int) := by omega
   by_cases hn1 : s.size = 1
   · have ha : ans = false := by rw [← hans]; first | (simp; done) | (simp; omega)
     subst ha; clear hans
     have hd : decide ((1 : Int) < (s.size : Int)) = false := by simp; omega
     have hd2 : decide ((2 : Int) < (s.size : Int)) = false := by simp; omega
     clear hn1; clear hT
     go_enter Tryz.func205, Tryz.ntmps205
     go_wp2_with fail
     go_quiet (fail)
     go_wp2_with fail
     go_ret
     exact ⟨rfl, by first | exact Below.refl _ _ | exact (Below.refl _ _).alloc (Nat.le_refl _) _ | exact ms_drewN ((Below.refl _ _).alloc (Nat.le_refl _) _) _ | exact ms_drewN (ms_drewN ((Below.refl _ _).alloc (Nat.le_refl _) _) _) _⟩
   have hd : (1 : Int) < (s.size : Int) := by omega
   have g1 := HG1.out (by omega)
   by_cases k1 : b1 < 160
   · have ha : ans = true := by rw [← hans]; first | (simp; done) | (simp; omega)
     subst ha; clear hans
     have k1' : (b1 : Int) < 160 := by omega
     clear hT
     go_enter Tryz.func205, Tryz.ntmps205
     go_wp2_with fail
     go_quiet (fail)
     go_wp2_with fail
     go_ret
     exact ⟨rfl, by first | exact Below.refl _ _ | exact (Below.refl _ _).alloc (Nat.le_refl _) _ | exact ms_drewN ((Below.refl _ _).alloc (Nat.le_refl _) _) _ | exact ms_drewN (ms_drewN ((Below.refl _ _).alloc (Nat.le_refl _) _) _) _⟩
   have k1' : ¬ (b1 : Int) < 160 := by omega
   by_cases k2 : 191 < b1
   · have ha : ans = true := by rw [← hans]; first | (simp; done) | (simp; omega)
     subst ha; clear hans
     have k2' : (191 : Int) < (b1 : Int) := by omega
     clear hT
     go_enter Tryz.func205, Tryz.ntmps205
     go_wp2_with fail
     go_quiet (fail)
     go_wp2_with fail
     go_ret
     exact ⟨rfl, by first | exact Below.refl _ _ | exact (Below.refl _ _).alloc (Nat.le_refl _) _ | exact ms_drewN ((Below.refl _ _).alloc (Nat.le_refl _) _) _ | exact ms_drewN (ms_drewN ((Below.refl _ _).alloc (Nat.le_refl _) _) _) _⟩
   have k2' : ¬ (191 : Int) < (b1 : Int) := by omega
   have ha : ans = false := by rw [← hans]; first | (simp; done) | (simp; omega)
   subst ha; clear hans
   have hd2 : decide ((2 : Int) < (s.size : Int)) = false := by simp; omega
   clear hT
   go_enter Tryz.func205, Tryz.ntmps205
   go_wp2_with fail
   go_quiet (fail)
   go_wp2_with fail
   go_ret
   exact ⟨rfl, by first | exact Below.refl _ _ | exact (Below.refl _ _).alloc (Nat.le_refl _) _ | exact ms_drewN ((Below.refl _ _).alloc (Nat.le_refl _) _) _ | exact ms_drewN (ms_drewN ((Below.refl _ _).alloc (Nat.le_refl _) _) _) _⟩
 · have ha0 := (hT.2 0 (by omega)).1; have ha1 := (hT.2 0 (by omega)).2; simp only [accLo, accHi, Nat.reduceMul, Nat.reduceAdd, Nat.reduceEqDiff, if_true, if_false, Nat.reduceMod, Nat.reduceDiv] at ha0 ha1 hans
   by_cases hn : 3 ≤ s.size
   · have ha : ans = true := by rw [← hans]; first | (simp; done) | (simp; omega)
     subst ha; clear hans
     have hz2 : (3 : Int) ≤ (s.size : Int) := by omega
     clear hT
     go_enter Tryz.func205, Tryz.ntmps205
     go_wp2_with fail
     go_ret
     exact ⟨rfl, by first | exact Below.refl _ _ | exact (Below.refl _ _).alloc (Nat.le_refl _) _ | exact ms_drewN ((Below.refl _ _).alloc (Nat.le_refl _) _) _ | exact ms_drewN (ms_drewN ((Below.refl _ _).alloc (Nat.le_refl _) _) _) _⟩
   have hz2 : ¬ (3 : Int) ≤ (s.size : Int) := by omega
   by_cases hn1 : s.size = 1
   · have ha : ans = false := by rw [← hans]; first | (simp; done) | (simp; omega)
     subst ha; clear hans
     have hd : decide ((1 : Int) < (s.size : Int)) = false := by simp; omega
     have hd2 : decide ((2 : Int) < (s.size : Int)) = false := by simp; omega
     clear hn1; clear hT
     go_enter Tryz.func205, Tryz.ntmps205
     go_wp2_with fail
     go_quiet (fail)
     go_wp2_with fail
     go_ret
     exact ⟨rfl, by first | exact Below.refl _ _ | exact (Below.refl _ _).alloc (Nat.le_refl _) _ | exact ms_drewN ((Below.refl _ _).alloc (Nat.le_refl _) _) _ | exact ms_drewN (ms_drewN ((Below.refl _ _).alloc (Nat.le_refl _) _) _) _⟩
   have hd : (1 : Int) < (s.size : Int) := by omega
   have g1 := HG1.out (by omega)
   by_cases k1 : b1 < 128
   · have ha : ans = true := by rw [← hans]; first | (simp; done) | (simp; omega)
     subst ha; clear hans
     have k1' : (b1 : Int) < 128 := by omega
     clear hT
     go_enter Tryz.func205, Tryz.ntmps205
     go_wp2_with fail
     go_quiet (fail)
     go_wp2_with fail
     go_ret
     exact ⟨rfl, by first | exact Below.refl _ _ | exact (Below.refl _ _).alloc (Nat.le_refl _) _ | exact ms_drewN ((Below.refl _ _).alloc (Nat.le_refl _) _) _ | exact ms_drewN (ms_drewN ((Below.refl _ _).alloc (Nat.le_refl _) _) _) _⟩
   have k1' : ¬ (b1 : Int) < 128 := by omega
   by_cases k2 : 191 < b1
   · have ha : ans = true := by rw [← hans]; first | (simp; done) | (simp; omega)
     subst ha; clear hans
     have k2' : (191 : Int) < (b1 : Int) := by omega
     clear hT
     go_enter Tryz.func205, Tryz.ntmps205
     go_wp2_with fail
     go_quiet (fail)
     go_wp2_with fail
     go_ret
     exact ⟨rfl, by first | exact Below.refl _ _ | exact (Below.refl _ _).alloc (Nat.le_refl _) _ | exact ms_drewN ((Below.refl _ _).alloc (Nat.le_refl _) _) _ | exact ms_drewN (ms_drewN ((Below.refl _ _).alloc (Nat.le_refl _) _) _) _⟩
   have k2' : ¬ (191 : Int) < (b1 : Int) := by omega
   have ha : ans = false := by rw [← hans]; first | (simp; done) | (simp; omega)
   subst ha; clear hans
   have hd2 : decide ((2 : Int) < (s.size : Int)) = false := by simp; omega
   clear hT
   go_enter Tryz.func205, Tryz.ntmps205
   go_wp2_with fail
   go_quiet (fail)
   go_wp2_with fail
   go_ret
   exact ⟨rfl, by first | exact Below.refl _ _ | exact (Below.refl _ _).alloc (Nat.le_refl _) _ | exact ms_drewN ((Below.refl _ _).alloc (Nat.le_refl _) _) _ | exact ms_drewN (ms_drewN ((Below.refl _ _).alloc (Nat.le_refl _) _) _) _⟩
 · have ha0 := (hT.2 2 (by omega)).1; have ha1 := (hT.2 2 (by omega)).2; simp only [accLo, accHi, Nat.reduceMul, Nat.reduceAdd, Nat.reduceEqDiff, if_true, if_false, Nat.reduceMod, Nat.reduceDiv] at ha0 ha1 hans
   by_cases hn : 3 ≤ s.size
   · have ha : ans = true := by rw [← hans]; first | (simp; done) | (simp; omega)
     subst ha; clear hans
     have hz2 : (3 : Int) ≤ (s.size : Int) := by omega
     clear hT
     go_enter Tryz.func205, Tryz.ntmps205
     go_wp2_with fail
     go_ret
     exact ⟨rfl, by first | exact Below.refl _ _ | exact (Below.refl _ _).alloc (Nat.le_refl _) _ | exact ms_drewN ((Below.refl _ _).alloc (Nat.le_refl _) _) _ | exact ms_drewN (ms_drewN ((Below.refl _ _).alloc (Nat.le_refl _) _) _) _⟩
   have hz2 : ¬ (3 : Int) ≤ (s.size : Int) := by omega
   by_cases hn1 : s.size = 1
   · have ha : ans = false := by rw [← hans]; first | (simp; done) | (simp; omega)
     subst ha; clear hans
     have hd : decide ((1 : Int) < (s.size : Int)) = false := by simp; omega
     have hd2 : decide ((2 : Int) < (s.size : Int)) = false := by simp; omega
     clear hn1; clear hT
     go_enter Tryz.func205, Tryz.ntmps205
     go_wp2_with fail
     go_quiet (fail)
     go_wp2_with fail
     go_ret
     exact ⟨rfl, by first | exact Below.refl _ _ | exact (Below.refl _ _).alloc (Nat.le_refl _) _ | exact ms_drewN ((Below.refl _ _).alloc (Nat.le_refl _) _) _ | exact ms_drewN (ms_drewN ((Below.refl _ _).alloc (Nat.le_refl _) _) _) _⟩
   have hd : (1 : Int) < (s.size : Int) := by omega
   have g1 := HG1.out (by omega)
   by_cases k1 : b1 < 128
   · have ha : ans = true := by rw [← hans]; first | (simp; done) | (simp; omega)
     subst ha; clear hans
     have k1' : (b1 : Int) < 128 := by omega
     clear hT
     go_enter Tryz.func205, Tryz.ntmps205
     go_wp2_with fail
     go_quiet (fail)
     go_wp2_with fail
     go_ret
     exact ⟨rfl, by first | exact Below.refl _ _ | exact (Below.refl _ _).alloc (Nat.le_refl _) _ | exact ms_drewN ((Below.refl _ _).alloc (Nat.le_refl _) _) _ | exact ms_drewN (ms_drewN ((Below.refl _ _).alloc (Nat.le_refl _) _) _) _⟩
   have k1' : ¬ (b1 : Int) < 128 := by omega
   by_cases k2 : 159 < b1
   · have ha : ans = true := by rw [← hans]; first | (simp; done) | (simp; omega)
     subst ha; clear hans
     have k2' : (159 : Int) < (b1 : Int) := by omega
     clear hT
     go_enter Tryz.func205, Tryz.ntmps205
     go_wp2_with fail
     go_quiet (fail)
     go_wp2_with fail
     go_ret
     exact ⟨rfl, by first | exact Below.refl _ _ | exact (Below.refl _ _).alloc (Nat.le_refl _) _ | exact ms_drewN ((Below.refl _ _).alloc (Nat.le_refl _) _) _ | exact ms_drewN (ms_drewN ((Below.refl _ _).alloc (Nat.le_refl _) _) _) _⟩
   have k2' : ¬ (159 : Int) < (b1 : Int) := by omega
   have ha : ans = false := by rw [← hans]; first | (simp; done) | (simp; omega)
   subst ha; clear hans
   have hd2 : decide ((2 : Int) < (s.size : Int)) = false := by simp; omega
   clear hT
   go_enter Tryz.func205, Tryz.ntmps205
   go_wp2_with fail
   go_quiet (fail)
   go_wp2_with fail
   go_ret
   exact ⟨rfl, by first | exact Below.refl _ _ | exact (Below.refl _ _).alloc (Nat.le_refl _) _ | exact ms_drewN ((Below.refl _ _).alloc (Nat.le_refl _) _) _ | exact ms_drewN (ms_drewN ((Below.refl _ _).alloc (Nat.le_refl _) _) _) _⟩
 · have ha0 := (hT.2 3 (by omega)).1; have ha1 := (hT.2 3 (by omega)).2; simp only [accLo, accHi, Nat.reduceMul, Nat.reduceAdd, Nat.reduceEqDiff, if_true, if_false, Nat.reduceMod, Nat.reduceDiv] at ha0 ha1 hans
   by_cases hn : 4 ≤ s.size
   · have ha : ans = true := by rw [← hans]; first | (simp; done) | (simp; omega)
     subst ha; clear hans
     have hz2 : (4 : Int) ≤ (s.size : Int) := by omega
     clear hT
     go_enter Tryz.func205, Tryz.ntmps205
     go_wp2_with fail
     go_ret
     exact ⟨rfl, by first | exact Below.refl _ _ | exact (Below.refl _ _).alloc (Nat.le_refl _) _ | exact ms_drewN ((Below.refl _ _).alloc (Nat.le_refl _) _) _ | exact ms_drewN (ms_drewN ((Below.refl _ _).alloc (Nat.le_refl _) _) _) _⟩
   have hz2 : ¬ (4 : Int) ≤ (s.size : Int) := by omega
   by_cases hn1 : s.size = 1
   · have ha : ans = false := by rw [← hans]; first | (simp; done) | (simp; omega)
     subst ha; clear hans
     have hd : decide ((1 : Int) < (s.size : Int)) = false := by simp; omega
     have hd2 : decide ((2 : Int) < (s.size : Int)) = false := by simp; omega
     clear hn1; clear hT
     go_enter Tryz.func205, Tryz.ntmps205
     go_wp2_with fail
     go_quiet (fail)
     go_wp2_with fail
     go_ret
     exact ⟨rfl, by first | exact Below.refl _ _ | exact (Below.refl _ _).alloc (Nat.le_refl _) _ | exact ms_drewN ((Below.refl _ _).alloc (Nat.le_refl _) _) _ | exact ms_drewN (ms_drewN ((Below.refl _ _).alloc (Nat.le_refl _) _) _) _⟩
   have hd : (1 : Int) < (s.size : Int) := by omega
   have g1 := HG1.out (by omega)
   by_cases k1 : b1 < 144
   · have ha : ans = true := by rw [← hans]; first | (simp; done) | (simp; omega)
     subst ha; clear hans
     have k1' : (b1 : Int) < 144 := by omega
     clear hT
     go_enter Tryz.func205, Tryz.ntmps205
     go_wp2_with fail
     go_quiet (fail)
     go_wp2_with fail
     go_ret
     exact ⟨rfl, by first | exact Below.refl _ _ | exact (Below.refl _ _).alloc (Nat.le_refl _) _ | exact ms_drewN ((Below.refl _ _).alloc (Nat.le_refl _) _) _ | exact ms_drewN (ms_drewN ((Below.refl _ _).alloc (Nat.le_refl _) _) _) _⟩
   have k1' : ¬ (b1 : Int) < 144 := by omega
   by_cases k2 : 191 < b1
   · have ha : ans = true := by rw [← hans]; first | (simp; done) | (simp; omega)
     subst ha; clear hans
     have k2' : (191 : Int) < (b1 : Int) := by omega
     clear hT
     go_enter Tryz.func205, Tryz.ntmps205
     go_wp2_with fail
     go_quiet (fail)
     go_wp2_with fail
     go_ret
     exact ⟨rfl, by first | exact Below.refl _ _ | exact (Below.refl _ _).alloc (Nat.le_refl _) _ | exact ms_drewN ((Below.refl _ _).alloc (Nat.le_refl _) _) _ | exact ms_drewN (ms_drewN ((Below.refl _ _).alloc (Nat.le_refl _) _) _) _⟩
   have k2' : ¬ (191 : Int) < (b1 : Int) := by omega
   by_cases hn2 : s.size = 2
   · have ha : ans = false := by rw [← hans]; first | (simp; done) | (simp; omega)
     subst ha; clear hans
     have hd2 : decide ((2 : Int) < (s.size : Int)) = false := by simp; omega
     clear hn2; clear hT
     go_enter Tryz.func205, Tryz.ntmps205
     go_wp2_with fail
     go_quiet (fail)
     go_wp2_with fail
     go_ret
     exact ⟨rfl, by first | exact Below.refl _ _ | exact (Below.refl _ _).alloc (Nat.le_refl _) _ | exact ms_drewN ((Below.refl _ _).alloc (Nat.le_refl _) _) _ | exact ms_drewN (ms_drewN ((Below.refl _ _).alloc (Nat.le_refl _) _) _) _⟩
   have hd2 : (2 : Int) < (s.size : Int) := by omega
   have g2 := HG2.out (by omega)
   by_cases k3 : b2 < 128
   · have ha : ans = true := by rw [← hans]; first | (simp; done) | (simp; omega)
     subst ha; clear hans
     have k3' : (b2 : Int) < 128 := by omega
     clear hT
     go_enter Tryz.func205, Tryz.ntmps205
     go_wp2_with fail
     go_quiet (fail)
     go_wp2_with fail
     go_ret
     exact ⟨rfl, by first | exact Below.refl _ _ | exact (Below.refl _ _).alloc (Nat.le_refl _) _ | exact ms_drewN ((Below.refl _ _).alloc (Nat.le_refl _) _) _ | exact ms_drewN (ms_drewN ((Below.refl _ _).alloc (Nat.le_refl _) _) _) _⟩
   have k3' : ¬ (b2 : Int) < 128 := by omega
   by_cases k4 : 191 < b2
   · have ha : ans = true := by rw [← hans]; first | (simp; done) | (simp; omega)
     subst ha; clear hans
     have k4' : (191 : Int) < (b2 : Int) := by omega
     clear hT
     go_enter Tryz.func205, Tryz.ntmps205
     go_wp2_with fail
     go_quiet (fail)
     go_wp2_with fail
     go_ret
     exact ⟨rfl, by first | exact Below.refl _ _ | exact (Below.refl _ _).alloc (Nat.le_refl _) _ | exact ms_drewN ((Below.refl _ _).alloc (Nat.le_refl _) _) _ | exact ms_drewN (ms_drewN ((Below.refl _ _).alloc (Nat.le_refl _) _) _) _⟩
   have k4' : ¬ (191 : Int) < (b2 : Int) := by omega
   have ha : ans = false := by rw [← hans]; first | (simp; done) | (simp; omega)
   subst ha; clear hans; clear hT
   go_enter Tryz.func205, Tryz.ntmps205
   go_wp2_with fail
   go_quiet (fail)
   go_wp2_with fail
   go_ret
   exact ⟨rfl, by first | exact Below.refl _ _ | exact (Below.refl _ _).alloc (Nat.le_refl _) _ | exact ms_drewN ((Below.refl _ _).alloc (Nat.le_refl _) _) _ | exact ms_drewN (ms_drewN ((Below.refl _ _).alloc (Nat.le_refl _) _) _) _⟩
 · have ha0 := (hT.2 0 (by omega)).1; have ha1 := (hT.2 0 (by omega)).2; simp only [accLo, accHi, Nat.reduceMul, Nat.reduceAdd, Nat.reduceEqDiff, if_true, if_false, Nat.reduceMod, Nat.reduceDiv] at ha0 ha1 hans
   by_cases hn : 4 ≤ s.size
   · have ha : ans = true := by rw [← hans]; first | (simp; done) | (simp; omega)
     subst ha; clear hans
     have hz2 : (4 : Int) ≤ (s.size : Int) := by omega
     clear hT
     go_enter Tryz.func205, Tryz.ntmps205
     go_wp2_with fail
     go_ret
     exact ⟨rfl, by first | exact Below.refl _ _ | exact (Below.refl _ _).alloc (Nat.le_refl _) _ | exact ms_drewN ((Below.refl _ _).alloc (Nat.le_refl _) _) _ | exact ms_drewN (ms_drewN ((Below.refl _ _).alloc (Nat.le_refl _) _) _) _⟩
   have hz2 : ¬ (4 : Int) ≤ (s.size : Int) := by omega
   by_cases hn1 : s.size = 1
   · have ha : ans = false := by rw [← hans]; first | (simp; done) | (simp; omega)
     subst ha; clear hans
     have hd : decide ((1 : Int) < (s.size : Int)) = false := by simp; omega
     have hd2 : decide ((2 : Int) < (s.size : Int)) = false := by simp; omega
     clear hn1; clear hT
     go_enter Tryz.func205, Tryz.ntmps205
     go_wp2_with fail
     go_quiet (fail)
     go_wp2_with fail
     go_ret
     exact ⟨rfl, by first | exact Below.refl _ _ | exact (Below.refl _ _).alloc (Nat.le_refl _) _ | exact ms_drewN ((Below.refl _ _).alloc (Nat.le_refl _) _) _ | exact ms_drewN (ms_drewN ((Below.refl _ _).alloc (Nat.le_refl _) _) _) _⟩
   have hd : (1 : Int) < (s.size : Int) := by omega
   have g1 := HG1.out (by omega)
   by_cases k1 : b1 < 128
   · have ha : ans = true := by rw [← hans]; first | (simp; done) | (simp; omega)
     subst ha; clear hans
     have k1' : (b1 : Int) < 128 := by omega
     clear hT
     go_enter Tryz.func205, Tryz.ntmps205
     go_wp2_with fail
     go_quiet (fail)
     go_wp2_with fail
     go_ret
     exact ⟨rfl, by first | exact Below.refl _ _ | exact (Below.refl _ _).alloc (Nat.le_refl _) _ | exact ms_drewN ((Below.refl _ _).alloc (Nat.le_refl _) _) _ | exact ms_drewN (ms_drewN ((Below.refl _ _).alloc (Nat.le_refl _) _) _) _⟩
   have k1' : ¬ (b1 : Int) < 128 := by omega
   by_cases k2 : 191 < b1
   · have ha : ans = true := by rw [← hans]; first | (simp; done) | (simp; omega)
     subst ha; clear hans
     have k2' : (191 : Int) < (b1 : Int) := by omega
     clear hT
     go_enter Tryz.func205, Tryz.ntmps205
     go_wp2_with fail
     go_quiet (fail)
     go_wp2_with fail
     go_ret
     exact ⟨rfl, by first | exact Below.refl _ _ | exact (Below.refl _ _).alloc (Nat.le_refl _) _ | exact ms_drewN ((Below.refl _ _).alloc (Nat.le_refl _) _) _ | exact ms_drewN (ms_drewN ((Below.refl _ _).alloc (Nat.le_refl _) _) _) _⟩
   have k2' : ¬ (191 : Int) < (b1 : Int) := by omega
   by_cases hn2 : s.size = 2
   · have ha : ans = false := by rw [← hans]; first | (simp; done) | (simp; omega)
     subst ha; clear hans
     have hd2 : decide ((2 : Int) < (s.size : Int)) = false := by simp; omega
     clear hn2; clear hT
     go_enter Tryz.func205, Tryz.ntmps205
     go_wp2_with fail
     go_quiet (fail)
     go_wp2_with fail
     go_ret
     exact ⟨rfl, by first | exact Below.refl _ _ | exact (Below.refl _ _).alloc (Nat.le_refl _) _ | exact ms_drewN ((Below.refl _ _).alloc (Nat.le_refl _) _) _ | exact ms_drewN (ms_drewN ((Below.refl _ _).alloc (Nat.le_refl _) _) _) _⟩
   have hd2 : (2 : Int) < (s.size : Int) := by omega
   have g2 := HG2.out (by omega)
   by_cases k3 : b2 < 128
   · have ha : ans = true := by rw [← hans]; first | (simp; done) | (simp; omega)
     subst ha; clear hans
     have k3' : (b2 : Int) < 128 := by omega
     clear hT
     go_enter Tryz.func205, Tryz.ntmps205
     go_wp2_with fail
     go_quiet (fail)
     go_wp2_with fail
     go_ret
     exact ⟨rfl, by first | exact Below.refl _ _ | exact (Below.refl _ _).alloc (Nat.le_refl _) _ | exact ms_drewN ((Below.refl _ _).alloc (Nat.le_refl _) _) _ | exact ms_drewN (ms_drewN ((Below.refl _ _).alloc (Nat.le_refl _) _) _) _⟩
   have k3' : ¬ (b2 : Int) < 128 := by omega
   by_cases k4 : 191 < b2
   · have ha : ans = true := by rw [← hans]; first | (simp; done) | (simp; omega)
     subst ha; clear hans
     have k4' : (191 : Int) < (b2 : Int) := by omega
     clear hT
     go_enter Tryz.func205, Tryz.ntmps205
     go_wp2_with fail
     go_quiet (fail)
     go_wp2_with fail
     go_ret
     exact ⟨rfl, by first | exact Below.refl _ _ | exact (Below.refl _ _).alloc (Nat.le_refl _) _ | exact ms_drewN ((Below.refl _ _).alloc (Nat.le_refl _) _) _ | exact ms_drewN (ms_drewN ((Below.refl _ _).alloc (Nat.le_refl _) _) _) _⟩
   have k4' : ¬ (191 : Int) < (b2 : Int) := by omega
   have ha : ans = false := by rw [← hans]; first | (simp; done) | (simp; omega)
   subst ha; clear hans; clear hT
   go_enter Tryz.func205, Tryz.ntmps205
   go_wp2_with fail
   go_quiet (fail)
   go_wp2_with fail
   go_ret
   exact ⟨rfl, by first | exact Below.refl _ _ | exact (Below.refl _ _).alloc (Nat.le_refl _) _ | exact ms_drewN ((Below.refl _ _).alloc (Nat.le_refl _) _) _ | exact ms_drewN (ms_drewN ((Below.refl _ _).alloc (Nat.le_refl _) _) _) _⟩
 · have ha0 := (hT.2 4 (by omega)).1; have ha1 := (hT.2 4 (by omega)).2; simp only [accLo, accHi, Nat.reduceMul, Nat.reduceAdd, Nat.reduceEqDiff, if_true, if_false, Nat.reduceMod, Nat.reduceDiv] at ha0 ha1 hans
   by_cases hn : 4 ≤ s.size
   · have ha : ans = true := by rw [← hans]; first | (simp; done) | (simp; omega)
     subst ha; clear hans
     have hz2 : (4 : Int) ≤ (s.size : Int) := by omega
     clear hT
     go_enter Tryz.func205, Tryz.ntmps205
     go_wp2_with fail
     go_ret
     exact ⟨rfl, by first | exact Below.refl _ _ | exact (Below.refl _ _).alloc (Nat.le_refl _) _ | exact ms_drewN ((Below.refl _ _).alloc (Nat.le_refl _) _) _ | exact ms_drewN (ms_drewN ((Below.refl _ _).alloc (Nat.le_refl _) _) _) _⟩
   have hz2 : ¬ (4 : Int) ≤ (s.size : Int) := by omega
   by_cases hn1 : s.size = 1
   · have ha : ans = false := by rw [← hans]; first | (simp; done) | (simp; omega)
     subst ha; clear hans
     have hd : decide ((1 : Int) < (s.size : Int)) = false := by simp; omega
     have hd2 : decide ((2 : Int) < (s.size : Int)) = false := by simp; omega
     clear hn1; clear hT
     go_enter Tryz.func205, Tryz.ntmps205
     go_wp2_with fail
     go_quiet (fail)
     go_wp2_with fail
     go_ret
     exact ⟨rfl, by first | exact Below.refl _ _ | exact (Below.refl _ _).alloc (Nat.le_refl _) _ | exact ms_drewN ((Below.refl _ _).alloc (Nat.le_refl _) _) _ | exact ms_drewN (ms_drewN ((Below.refl _ _).alloc (Nat.le_refl _) _) _) _⟩
   have hd : (1 : Int) < (s.size : Int) := by omega
   have g1 := HG1.out (by omega)
   by_cases k1 : b1 < 128
   · have ha : ans = true := by rw [← hans]; first | (simp; done) | (simp; omega)
     subst ha; clear hans
     have k1' : (b1 : Int) < 128 := by omega
     clear hT
     go_enter Tryz.func205, Tryz.ntmps205
     go_wp2_with fail
     go_quiet (fail)
     go_wp2_with fail
     go_ret
     exact ⟨rfl, by first | exact Below.refl _ _ | exact (Below.refl _ _).alloc (Nat.le_refl _) _ | exact ms_drewN ((Below.refl _ _).alloc (Nat.le_refl _) _) _ | exact ms_drewN (ms_drewN ((Below.refl _ _).alloc (Nat.le_refl _) _) _) _⟩
   have k1' : ¬ (b1 : Int) < 128 := by omega
   by_cases k2 : 143 < b1
   · have ha : ans = true := by rw [← hans]; first | (simp; done) | (simp; omega)
     subst ha; clear hans
     have k2' : (143 : Int) < (b1 : Int) := by omega
     clear hT
     go_enter Tryz.func205, Tryz.ntmps205
     go_wp2_with fail
     go_quiet (fail)
     go_wp2_with fail
     go_ret
     exact ⟨rfl, by first | exact Below.refl _ _ | exact (Below.refl _ _).alloc (Nat.le_refl _) _ | exact ms_drewN ((Below.refl _ _).alloc (Nat.le_refl _) _) _ | exact ms_drewN (ms_drewN ((Below.refl _ _).alloc (Nat.le_refl _) _) _) _⟩
   have k2' : ¬ (143 : Int) < (b1 : Int) := by omega
   by_cases hn2 : s.size = 2
   · have ha : ans = false := by rw [← hans]; first | (simp; done) | (simp; omega)
     subst ha; clear hans
     have hd2 : decide ((2 : Int) < (s.size : Int)) = false := by simp; omega
     clear hn2; clear hT
     go_enter Tryz.func205, Tryz.ntmps205
     go_wp2_with fail
     go_quiet (fail)
     go_wp2_with fail
     go_ret
     exact ⟨rfl, by first | exact Below.refl _ _ | exact (Below.refl _ _).alloc (Nat.le_refl _) _ | exact ms_drewN ((Below.refl _ _).alloc (Nat.le_refl _) _) _ | exact ms_drewN (ms_drewN ((Below.refl _ _).alloc (Nat.le_refl _) _) _) _⟩
   have hd2 : (2 : Int) < (s.size : Int) := by omega
   have g2 := HG2.out (by omega)
   by_cases k3 : b2 < 128
   · have ha : ans = true := by rw [← hans]; first | (simp; done) | (simp; omega)
     subst ha; clear hans
     have k3' : (b2 : Int) < 128 := by omega
     clear hT
     go_enter Tryz.func205, Tryz.ntmps205
     go_wp2_with fail
     go_quiet (fail)
     go_wp2_with fail
     go_ret
     exact ⟨rfl, by first | exact Below.refl _ _ | exact (Below.refl _ _).alloc (Nat.le_refl _) _ | exact ms_drewN ((Below.refl _ _).alloc (Nat.le_refl _) _) _ | exact ms_drewN (ms_drewN ((Below.refl _ _).alloc (Nat.le_refl _) _) _) _⟩
   have k3' : ¬ (b2 : Int) < 128 := by omega
   by_cases k4 : 191 < b2
   · have ha : ans = true := by rw [← hans]; first | (simp; done) | (simp; omega)
     subst ha; clear hans
     have k4' : (191 : Int) < (b2 : Int) := by omega
     clear hT
     go_enter Tryz.func205, Tryz.ntmps205
     go_wp2_with fail
     go_quiet (fail)
     go_wp2_with fail
     go_ret
     exact ⟨rfl, by first | exact Below.refl _ _ | exact (Below.refl _ _).alloc (Nat.le_refl _) _ | exact ms_drewN ((Below.refl _ _).alloc (Nat.le_refl _) _) _ | exact ms_drewN (ms_drewN ((Below.refl _ _).alloc (Nat.le_refl _) _) _) _⟩
   have k4' : ¬ (191 : Int) < (b2 : Int) := by omega
   have ha : ans = false := by rw [← hans]; first | (simp; done) | (simp; omega)
   subst ha; clear hans; clear hT
   go_enter Tryz.func205, Tryz.ntmps205
   go_wp2_with fail
   go_quiet (fail)
   go_wp2_with fail
   go_ret
   exact ⟨rfl, by first | exact Below.refl _ _ | exact (Below.refl _ _).alloc (Nat.le_refl _) _ | exact ms_drewN ((Below.refl _ _).alloc (Nat.le_refl _) _) _ | exact ms_drewN (ms_drewN ((Below.refl _ _).alloc (Nat.le_refl _) _) _) _⟩
end Go.Proofs.YtikpmmipopmjaaaGreatDoor
