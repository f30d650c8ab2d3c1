/- Cells: what is read. -/
import Derived.Test.YtikpmmipopmjaaaGreatDoorYQj
set_option linter.unusedVariables false
namespace Go.Proofs.YtikpmmipopmjaaaGreatDoor
open Go.RowKit Go.Ms Go.Lib
def readV (D : (Bool × Int × Bs) × Int) : Value := .tuple #[.agg #[.bool D.1.1, .int .i64 D.1.2.1, .string ⟨D.1.2.2.toArray⟩], .int .i64 D.2]
theorem readV_ok (k : Int) (tn : Bool) (l : Bs) (hk : kMay k = true) {g : Bool} {n : Int} {s : Bs} (hg : kGuess k l = (g, n, s)) (hc : kCheck k tn g n s = 0) (ht : kTextD k tn g n s = l) : readV (kReadD k tn l) = .tuple #[.agg #[.bool g, .int .i64 n, .string ⟨s.toArray⟩], .int .i64 0] := by
 have : kReadD k tn l = ((g, n, s), 0) := by
  unfold kReadD; rw [if_pos hk, hg]; exact if_pos ⟨hc, ht⟩
 rw [this]; rfl
theorem readV_no (k : Int) (tn : Bool) (l : Bs) (hk : kMay k = true) {g : Bool} {n : Int} {s : Bs} (hg : kGuess k l = (g, n, s)) (hc : ¬ (kCheck k tn g n s = 0 ∧ kTextD k tn g n s = l)) : readV (kReadD k tn l) = .tuple #[.agg #[.bool false, .int .i64 0, .string ⟨#[]⟩], .int .i64 4] := by
 have : kReadD k tn l = ((false, 0, []), 4) := by
  unfold kReadD; rw [if_pos hk, hg]; exact if_neg hc
 rw [this]; rfl
theorem uq_len (l : Bs) : ∀ (n : Nat) (acc : Bs) (p : Nat) (e : Int), (uqGo l n acc p e).1.length ≤ acc.length + 4 * n
  | 0, acc, p, e => by simp [uqGo]
  | n + 1, acc, p, e => by
   rw [uqGo_succ]; have hp := rdPlain_len l p e
   repeat' split
   all_goals first | (simp; done) | (simp; omega) | skip
   all_goals
    refine Nat.le_trans (uq_len l n _ _ _) ?_; have h1 := rdEscape_len l (p + 1) 0; have h2 := rdPlain_len l p 0; have h3 := rdEscape_len l (p + 1) e; simp only [List.length_append]; omega
theorem unhexG_len : ∀ (n : Nat) (l : Bs), l.length ≤ n → (unhexG l).length ≤ n
  | 0, l, h => by rw [unhexG_short (by omega)]; simp
  | n + 1, l, h => by
   match l, h with
   | [], _ => simp [unhexG]
   | [a], _ => simp [unhexG]
   | a :: b :: t, h =>
    rw [unhexG, List.length_cons]; have := unhexG_len n t (by simp at h; omega); omega
theorem kread_len (k : Int) (l : Bs) : (kRead k l).2.length ≤ 4 * (l.length + 2) := by
 unfold kRead
 split
 · simp
 · split
   · simp
   · split
     · have := uq_len l (l.length + 2) [] (rdWant l 34 0 0).1 (rdWant l 34 0 0).2
       simpa [unquoteD] using this
     · have : (trimPrefix l [120]).length ≤ l.length := by
         unfold trimPrefix
         split
         · rw [List.length_drop]; omega
         · omega
       have h2 := unhexG_len _ _ this
       show (unhexD l).length ≤ _
       unfold unhexD; omega
theorem kread_none (k : Int) (tn : Bool) (S : ByteArray) (w : World) (hk : kMay k = false) :
    Calls Tryz.prog 106 #[.agg #[.int .i64 k, .bool tn], .string S] w fun e w' => e = .returned (.tuple #[.agg #[.bool false, .int .i64 0, .string ⟨#[]⟩], .int .i64 2]) ∧ Below w.heap.size w w' := by
 have cm := fun w' => may_any k tn w'
 rw [hk] at cm; have b0 := Box2.start w #[.int .i64 k, .bool tn] #[.bool false, .int .i64 0, .string ⟨#[]⟩] 55 57
 have HB0 := Lib.hid b0; have CM := Lib.hid cm
 clear b0 cm hk
 go_enter Tryz.func106, Tryz.ntmps106
 go_wp2_with fail
 refine (CM.out _).mono ?_; rintro en w1 ⟨rfl, b1⟩; have x1 := HB0.out.step b1; obtain ⟨c1, c2, c3, c4, c5⟩ := x1.tc; have f3 := Lib.frozen_of_heap x1.b2 0; have f4 := Lib.frozen_of_heap x1.b2 1; have f5 := Lib.frozen_of_heap x1.b2 2; have HB := Lib.hid x1.bel; clear x1 b1
 go_wp2_with fail
 exact bodyPost_ret (v := .tuple #[.agg #[.bool false, .int .i64 0, .string ⟨#[]⟩], .int .i64 2]) (by simp [results, Tryz.results106, go_sem, c3, c4, c5]) rfl ⟨rfl, ((HB.out.setCell (p := ⟨_, _, _⟩) (by simp) _).setCell (p := ⟨_, _, _⟩) (by simp) _).setCell (p := ⟨_, _, _⟩) (by simp) _⟩
set_option maxRecDepth 100000 in
set_option maxHeartbeats 4000000 in
theorem kread_n1 (tn : Bool) (w : World) (hE : Env w) :
    Calls Tryz.prog 106 #[.agg #[.int .i64 1, .bool tn], .string (⟨#[110, 117, 108, 108]⟩ : ByteArray)] w fun e w' => e = .returned (readV (kReadD 1 tn (⟨#[110, 117, 108, 108]⟩ : ByteArray).data.toList)) ∧ Below w.heap.size w w' := by
 have hs : (⟨#[110, 117, 108, 108]⟩ : ByteArray).size ≤ 100000 := by decide
 have ci := fun w' => read_1 (⟨#[110, 117, 108, 108]⟩ : ByteArray) w'
 have cm := fun w' => may_any 1 tn w'
 rw [show kMay 1 = true from rfl] at cm; have hrl := trivial; obtain ⟨rn, hrn⟩ : ∃ rn, (kRead 1 (⟨#[110, 117, 108, 108]⟩ : ByteArray).data.toList).1 = rn := ⟨_, rfl⟩; obtain ⟨rs, hrs⟩ : ∃ rs, (kRead 1 (⟨#[110, 117, 108, 108]⟩ : ByteArray).data.toList).2 = rs := ⟨_, rfl⟩; rw [hrn, hrs] at ci
 have hg : kGuess 1 (⟨#[110, 117, 108, 108]⟩ : ByteArray).data.toList = (true, 0, []) := by
  unfold kGuess; exact if_pos rfl
 have ct : ∀ w', Env w' → Calls Tryz.prog 147 #[.agg #[.int .i64 1, .bool tn], .agg #[.bool true, .int .i64 0, .string ⟨#[]⟩]] w' fun e w'' => e = .returned (.tuple #[.string ⟨(kTextD 1 tn true 0 []).toArray⟩, .int .i64 (kCheck 1 tn true 0 [])]) ∧ Below w'.heap.size w' w'' := fun w' (hE' : Env w') => ktext_any 1 tn true 0 ⟨#[]⟩ w' (by decide) hE'
 have ok := readV_ok 1 tn (⟨#[110, 117, 108, 108]⟩ : ByteArray).data.toList rfl hg; have no := readV_no 1 tn (⟨#[110, 117, 108, 108]⟩ : ByteArray).data.toList rfl hg
 generalize kCheck 1 tn true 0 [] = c at *
 generalize kTextD 1 tn true 0 [] = L at *
 obtain ⟨LB, hLB⟩ : ∃ LB : ByteArray, (⟨L.toArray⟩ : ByteArray) = LB := ⟨_, rfl⟩
 have hLl : LB.data.toList = L := by rw [← hLB]
 rw [hLB] at ct; have b0 := Box2.start w #[.int .i64 1, .bool tn] #[.bool false, .int .i64 0, .string ⟨#[]⟩] 55 57; have kf := kfield2
 have HB0 := Lib.hid b0; have CI := Lib.hid ci; have CM := Lib.hid cm; have CT := Lib.hid ct; have HE := Lib.hid hE
 clear b0 ci cm ct hE hg hrn hrs hLB hrl
 by_cases hc : c = 0
 · by_cases hL : L = (⟨#[110, 117, 108, 108]⟩ : ByteArray).data.toList
   · rw [ok hc hL]; subst hc
     obtain rfl : LB = (⟨#[110, 117, 108, 108]⟩ : ByteArray) := by rw [ba_ext (s := LB) rfl, hLl, hL]
     clear ok no hL hLl
     go_enter Tryz.func106, Tryz.ntmps106
     go_wp2_with fail
     refine (CM.out _).mono ?_; rintro en w1 ⟨rfl, b1⟩; have x1 := HB0.out.step b1; obtain ⟨c1, c2, c3, c4, c5⟩ := x1.tc; have X1 := Lib.hid x1; clear x1 b1
     go_wp2_with fail
     refine (of_1 tn _).mono ?_; rintro en w2 ⟨a, b, rfl, hp, b2⟩; have x2 := X1.out.step b2; clear c1 c2 c3 c4 c5
     go_wp2_with fail
     refine (CI.out _).mono ?_; rintro en w3 ⟨rfl, b3⟩; have x3 := x2.step b3; obtain ⟨c1, c2, c3, c4, c5⟩ := x3.tc; have bA : Below w3.heap.size w3 (w3.alloc (.cells #[.bool true, .int .i64 0, .string ⟨#[]⟩] 57)) := (Below.refl _ _).alloc (Nat.le_refl _) _; have x4 := x3.step bA
     have X3 := Lib.hid x3; have X4 := Lib.hid x4; have hl3 := x3.lt
     obtain ⟨a1, a2, a3, a4, a5⟩ := x4.tc
     have n1 : w.heap.size < w3.heap.size := by omega
     have n2 : w.heap.size + 1 < w3.heap.size := by omega
     clear x2 b2 b3 x3 x4 bA
     go_wp2_with fail
     refine (CT.out _ (HE.out.below X4.out.bel)).mono ?_; rintro en w5 ⟨rfl, b5⟩; have x5 := X4.out.step b5; clear c1 c2 c3 c4 c5 a1 a2 a3 a4 a5; obtain ⟨c1, c2, c3, c4, c5⟩ := x5.tc
     have hblk : w5.heap[w3.heap.size]? = some (.cells #[.bool true, .int .i64 0, .string ⟨#[]⟩] 57 (0, 0)) := by rw [b5.block _ (by simp)]; exact heap_alloc_new w3 _
     have g3 : w5.cell? ⟨w3.heap.size, 0, none⟩ = some (.bool true) := by rw [Lib.cell_of_heap hblk]; rfl
     have g4 : w5.cell? ⟨w3.heap.size, 1, none⟩ = some (.int .i64 0) := by rw [Lib.cell_of_heap hblk]; rfl
     have g5 : w5.cell? ⟨w3.heap.size, 2, none⟩ = some (.string ⟨#[]⟩) := by rw [Lib.cell_of_heap hblk]; rfl
     have f3 := Lib.frozen_of_heap x5.b2 0; have f4 := Lib.frozen_of_heap x5.b2 1; have f5 := Lib.frozen_of_heap x5.b2 2; have HB := Lib.hid x5.bel; clear x5 b5 hblk
     go_wp2_with fail
     exact bodyPost_ret (v := .tuple #[.agg #[.bool true, .int .i64 0, .string ⟨#[]⟩], .int .i64 0]) (by simp [results, Tryz.results106, go_sem, c3, c4, c5]) rfl ⟨rfl, ((HB.out.setCell (p := ⟨_, _, _⟩) (by simp) _).setCell (p := ⟨_, _, _⟩) (by simp) _).setCell (p := ⟨_, _, _⟩) (by simp) _⟩
   · rw [no (fun h => hL h.2)]; subst hc
     have q1 : (LB.toList == (⟨#[110, 117, 108, 108]⟩ : ByteArray).toList) = false := by rw [Lib.toList_data, Lib.toList_data, hLl]; rw [beq_eq_false_iff_ne]; exact hL
     have q2 : ¬ LB.toList = (⟨#[110, 117, 108, 108]⟩ : ByteArray).toList := by rw [Lib.toList_data, Lib.toList_data, hLl]; exact hL
     have q3 : (LB.toList == [110, 117, 108, 108]) = false := by rw [Lib.toList_data, hLl]; rw [beq_eq_false_iff_ne]; exact hL
     clear ok no hL hLl
     go_enter Tryz.func106, Tryz.ntmps106
     go_wp2_with fail
     refine (CM.out _).mono ?_; rintro en w1 ⟨rfl, b1⟩; have x1 := HB0.out.step b1; obtain ⟨c1, c2, c3, c4, c5⟩ := x1.tc; have X1 := Lib.hid x1; clear x1 b1
     go_wp2_with fail
     refine (of_1 tn _).mono ?_; rintro en w2 ⟨a, b, rfl, hp, b2⟩; have x2 := X1.out.step b2; clear c1 c2 c3 c4 c5
     go_wp2_with fail
     refine (CI.out _).mono ?_; rintro en w3 ⟨rfl, b3⟩; have x3 := x2.step b3; obtain ⟨c1, c2, c3, c4, c5⟩ := x3.tc; have bA : Below w3.heap.size w3 (w3.alloc (.cells #[.bool true, .int .i64 0, .string ⟨#[]⟩] 57)) := (Below.refl _ _).alloc (Nat.le_refl _) _; have x4 := x3.step bA
     have X3 := Lib.hid x3; have X4 := Lib.hid x4; have hl3 := x3.lt
     obtain ⟨a1, a2, a3, a4, a5⟩ := x4.tc
     have n1 : w.heap.size < w3.heap.size := by omega
     have n2 : w.heap.size + 1 < w3.heap.size := by omega
     clear x2 b2 b3 x3 x4 bA
     go_wp2_with fail
     refine (CT.out _ (HE.out.below X4.out.bel)).mono ?_; rintro en w5 ⟨rfl, b5⟩; have x5 := X4.out.step b5; clear c1 c2 c3 c4 c5 a1 a2 a3 a4 a5; obtain ⟨c1, c2, c3, c4, c5⟩ := x5.tc
     have hblk : w5.heap[w3.heap.size]? = some (.cells #[.bool true, .int .i64 0, .string ⟨#[]⟩] 57 (0, 0)) := by rw [b5.block _ (by simp)]; exact heap_alloc_new w3 _
     have g3 : w5.cell? ⟨w3.heap.size, 0, none⟩ = some (.bool true) := by rw [Lib.cell_of_heap hblk]; rfl
     have g4 : w5.cell? ⟨w3.heap.size, 1, none⟩ = some (.int .i64 0) := by rw [Lib.cell_of_heap hblk]; rfl
     have g5 : w5.cell? ⟨w3.heap.size, 2, none⟩ = some (.string ⟨#[]⟩) := by rw [Lib.cell_of_heap hblk]; rfl
     have f3 := Lib.frozen_of_heap x5.b2 0; have f4 := Lib.frozen_of_heap x5.b2 1; have f5 := Lib.frozen_of_heap x5.b2 2; have HB := Lib.hid x5.bel; clear x5 b5 hblk
     go_wp2_with fail
     exact bodyPost_ret (v := .tuple #[.agg #[.bool false, .int .i64 0, .string ⟨#[]⟩], .int .i64 4]) (by simp [results, Tryz.results106, go_sem, c3, c4, c5]) rfl ⟨rfl, ((HB.out.setCell (p := ⟨_, _, _⟩) (by simp) _).setCell (p := ⟨_, _, _⟩) (by simp) _).setCell (p := ⟨_, _, _⟩) (by simp) _⟩
 · rw [no (fun h => hc h.1)]
   have q1 : (c != 0) = true := by simpa using hc
   clear ok no hLl
   go_enter Tryz.func106, Tryz.ntmps106
   go_wp2_with fail
   refine (CM.out _).mono ?_; rintro en w1 ⟨rfl, b1⟩; have x1 := HB0.out.step b1; obtain ⟨c1, c2, c3, c4, c5⟩ := x1.tc; have X1 := Lib.hid x1; clear x1 b1
   go_wp2_with fail
   refine (of_1 tn _).mono ?_; rintro en w2 ⟨a, b, rfl, hp, b2⟩; have x2 := X1.out.step b2; clear c1 c2 c3 c4 c5
   go_wp2_with fail
   refine (CI.out _).mono ?_; rintro en w3 ⟨rfl, b3⟩; have x3 := x2.step b3; obtain ⟨c1, c2, c3, c4, c5⟩ := x3.tc; have bA : Below w3.heap.size w3 (w3.alloc (.cells #[.bool true, .int .i64 0, .string ⟨#[]⟩] 57)) := (Below.refl _ _).alloc (Nat.le_refl _) _; have x4 := x3.step bA
   have X3 := Lib.hid x3; have X4 := Lib.hid x4; have hl3 := x3.lt
   obtain ⟨a1, a2, a3, a4, a5⟩ := x4.tc
   have n1 : w.heap.size < w3.heap.size := by omega
   have n2 : w.heap.size + 1 < w3.heap.size := by omega
   clear x2 b2 b3 x3 x4 bA
   go_wp2_with fail
   refine (CT.out _ (HE.out.below X4.out.bel)).mono ?_; rintro en w5 ⟨rfl, b5⟩; have x5 := X4.out.step b5; clear c1 c2 c3 c4 c5 a1 a2 a3 a4 a5; obtain ⟨c1, c2, c3, c4, c5⟩ := x5.tc
   have hblk : w5.heap[w3.heap.size]? = some (.cells #[.bool true, .int .i64 0, .string ⟨#[]⟩] 57 (0, 0)) := by rw [b5.block _ (by simp)]; exact heap_alloc_new w3 _
   have g3 : w5.cell? ⟨w3.heap.size, 0, none⟩ = some (.bool true) := by rw [Lib.cell_of_heap hblk]; rfl
   have g4 : w5.cell? ⟨w3.heap.size, 1, none⟩ = some (.int .i64 0) := by rw [Lib.cell_of_heap hblk]; rfl
   have g5 : w5.cell? ⟨w3.heap.size, 2, none⟩ = some (.string ⟨#[]⟩) := by rw [Lib.cell_of_heap hblk]; rfl
   have f3 := Lib.frozen_of_heap x5.b2 0; have f4 := Lib.frozen_of_heap x5.b2 1; have f5 := Lib.frozen_of_heap x5.b2 2; have HB := Lib.hid x5.bel; clear x5 b5 hblk
   go_wp2_with fail
   exact bodyPost_ret (v := .tuple #[.agg #[.bool false, .int .i64 0, .string ⟨#[]⟩], .int .i64 4]) (by simp [results, Tryz.results106, go_sem, c3, c4, c5]) rfl ⟨rfl, ((HB.out.setCell (p := ⟨_, _, _⟩) (by simp) _).setCell (p := ⟨_, _, _⟩) (by simp) _).setCell (p := ⟨_, _, _⟩) (by simp) _⟩
set_option maxRecDepth 100000 in
set_option maxHeartbeats 4000000 in
theorem kread_s1 (tn : Bool) (S : ByteArray) (w : World) (hs0 : S.size ≤ 20000) (hE : Env w) (hN : ¬ S.data.toList = kNull) :
    Calls Tryz.prog 106 #[.agg #[.int .i64 1, .bool tn], .string S] w fun e w' => e = .returned (readV (kReadD 1 tn S.data.toList)) ∧ Below w.heap.size w w' := by
 have hs : S.size ≤ 100000 := by omega
 have ci := fun w' => read_1 S w'
 have cm := fun w' => may_any 1 tn w'
 rw [show kMay 1 = true from rfl] at cm; have hrl := kread_len 1 S.data.toList; obtain ⟨rn, hrn⟩ : ∃ rn, (kRead 1 S.data.toList).1 = rn := ⟨_, rfl⟩; obtain ⟨rs, hrs⟩ : ∃ rs, (kRead 1 S.data.toList).2 = rs := ⟨_, rfl⟩; rw [hrn, hrs] at ci
 have hg : kGuess 1 S.data.toList = (false, rn, rs) := by
  unfold kGuess; rw [if_neg hN, hrn, hrs]
 rw [hrs, lenS] at hrl; have hls : (⟨rs.toArray⟩ : ByteArray).size = rs.length := List.size_toArray
 have ct : ∀ w', Env w' → Calls Tryz.prog 147 #[.agg #[.int .i64 1, .bool tn], .agg #[.bool false, .int .i64 rn, .string ⟨rs.toArray⟩]] w' fun e w'' => e = .returned (.tuple #[.string ⟨(kTextD 1 tn false rn rs).toArray⟩, .int .i64 (kCheck 1 tn false rn rs)]) ∧ Below w'.heap.size w' w'' := fun w' (hE' : Env w') => ktext_any 1 tn false rn ⟨rs.toArray⟩ w' (by rw [hls]; omega) hE'
 have ok := readV_ok 1 tn S.data.toList rfl hg; have no := readV_no 1 tn S.data.toList rfl hg
 have e1 : (S.toList == [110, 117, 108, 108]) = false := by rw [Lib.toList_data]; rw [beq_eq_false_iff_ne]; exact hN
 have e2 : ¬ S.toList = [110, 117, 108, 108] := by rw [Lib.toList_data]; exact hN
 generalize kCheck 1 tn false rn rs = c at *
 generalize kTextD 1 tn false rn rs = L at *
 obtain ⟨LB, hLB⟩ : ∃ LB : ByteArray, (⟨L.toArray⟩ : ByteArray) = LB := ⟨_, rfl⟩
 have hLl : LB.data.toList = L := by rw [← hLB]
 rw [hLB] at ct; have b0 := Box2.start w #[.int .i64 1, .bool tn] #[.bool false, .int .i64 0, .string ⟨#[]⟩] 55 57; have kf := kfield2
 have HB0 := Lib.hid b0; have CI := Lib.hid ci; have CM := Lib.hid cm; have CT := Lib.hid ct; have HE := Lib.hid hE
 clear b0 ci cm ct hE hg hrn hrs hLB hrl hls
 by_cases hc : c = 0
 · by_cases hL : L = S.data.toList
   · rw [ok hc hL]; subst hc
     obtain rfl : LB = S := by rw [ba_ext (s := LB) rfl, hLl, hL]
     clear ok no hL hLl hN
     go_enter Tryz.func106, Tryz.ntmps106
     go_wp2_with fail
     refine (CM.out _).mono ?_; rintro en w1 ⟨rfl, b1⟩; have x1 := HB0.out.step b1; obtain ⟨c1, c2, c3, c4, c5⟩ := x1.tc; have X1 := Lib.hid x1; clear x1 b1
     go_wp2_with fail
     refine (of_1 tn _).mono ?_; rintro en w2 ⟨a, b, rfl, hp, b2⟩; have x2 := X1.out.step b2; clear c1 c2 c3 c4 c5
     go_wp2_with fail
     refine (CI.out _).mono ?_; rintro en w3 ⟨rfl, b3⟩; have x3 := x2.step b3; obtain ⟨c1, c2, c3, c4, c5⟩ := x3.tc; have bA : Below w3.heap.size w3 (w3.alloc (.cells #[.bool false, .int .i64 rn, .string ⟨rs.toArray⟩] 57)) := (Below.refl _ _).alloc (Nat.le_refl _) _; have x4 := x3.step bA
     have X3 := Lib.hid x3; have X4 := Lib.hid x4; have hl3 := x3.lt
     obtain ⟨a1, a2, a3, a4, a5⟩ := x4.tc
     have n1 : w.heap.size < w3.heap.size := by omega
     have n2 : w.heap.size + 1 < w3.heap.size := by omega
     clear x2 b2 b3 x3 x4 bA
     go_wp2_with fail
     refine (CT.out _ (HE.out.below X4.out.bel)).mono ?_; rintro en w5 ⟨rfl, b5⟩; have x5 := X4.out.step b5; clear c1 c2 c3 c4 c5 a1 a2 a3 a4 a5; obtain ⟨c1, c2, c3, c4, c5⟩ := x5.tc
     have hblk : w5.heap[w3.heap.size]? = some (.cells #[.bool false, .int .i64 rn, .string ⟨rs.toArray⟩] 57 (0, 0)) := by rw [b5.block _ (by simp)]; exact heap_alloc_new w3 _
     have g3 : w5.cell? ⟨w3.heap.size, 0, none⟩ = some (.bool false) := by rw [Lib.cell_of_heap hblk]; rfl
     have g4 : w5.cell? ⟨w3.heap.size, 1, none⟩ = some (.int .i64 rn) := by rw [Lib.cell_of_heap hblk]; rfl
     have g5 : w5.cell? ⟨w3.heap.size, 2, none⟩ = some (.string ⟨rs.toArray⟩) := by rw [Lib.cell_of_heap hblk]; rfl
     have f3 := Lib.frozen_of_heap x5.b2 0; have f4 := Lib.frozen_of_heap x5.b2 1; have f5 := Lib.frozen_of_heap x5.b2 2; have HB := Lib.hid x5.bel; clear x5 b5 hblk
     go_wp2_with fail
     exact bodyPost_ret (v := .tuple #[.agg #[.bool false, .int .i64 rn, .string ⟨rs.toArray⟩], .int .i64 0]) (by simp [results, Tryz.results106, go_sem, c3, c4, c5]) rfl ⟨rfl, ((HB.out.setCell (p := ⟨_, _, _⟩) (by simp) _).setCell (p := ⟨_, _, _⟩) (by simp) _).setCell (p := ⟨_, _, _⟩) (by simp) _⟩
   · rw [no (fun h => hL h.2)]; subst hc
     have q1 : (LB.toList == S.toList) = false := by rw [Lib.toList_data, Lib.toList_data, hLl]; rw [beq_eq_false_iff_ne]; exact hL
     have q2 : ¬ LB.toList = S.toList := by rw [Lib.toList_data, Lib.toList_data, hLl]; exact hL
     clear ok no hL hLl hN
     go_enter Tryz.func106, Tryz.ntmps106
     go_wp2_with fail
     refine (CM.out _).mono ?_; rintro en w1 ⟨rfl, b1⟩; have x1 := HB0.out.step b1; obtain ⟨c1, c2, c3, c4, c5⟩ := x1.tc; have X1 := Lib.hid x1; clear x1 b1
     go_wp2_with fail
     refine (of_1 tn _).mono ?_; rintro en w2 ⟨a, b, rfl, hp, b2⟩; have x2 := X1.out.step b2; clear c1 c2 c3 c4 c5
     go_wp2_with fail
     refine (CI.out _).mono ?_; rintro en w3 ⟨rfl, b3⟩; have x3 := x2.step b3; obtain ⟨c1, c2, c3, c4, c5⟩ := x3.tc; have bA : Below w3.heap.size w3 (w3.alloc (.cells #[.bool false, .int .i64 rn, .string ⟨rs.toArray⟩] 57)) := (Below.refl _ _).alloc (Nat.le_refl _) _; have x4 := x3.step bA
     have X3 := Lib.hid x3; have X4 := Lib.hid x4; have hl3 := x3.lt
     obtain ⟨a1, a2, a3, a4, a5⟩ := x4.tc
     have n1 : w.heap.size < w3.heap.size := by omega
     have n2 : w.heap.size + 1 < w3.heap.size := by omega
     clear x2 b2 b3 x3 x4 bA
     go_wp2_with fail
     refine (CT.out _ (HE.out.below X4.out.bel)).mono ?_; rintro en w5 ⟨rfl, b5⟩; have x5 := X4.out.step b5; clear c1 c2 c3 c4 c5 a1 a2 a3 a4 a5; obtain ⟨c1, c2, c3, c4, c5⟩ := x5.tc
     have hblk : w5.heap[w3.heap.size]? = some (.cells #[.bool false, .int .i64 rn, .string ⟨rs.toArray⟩] 57 (0, 0)) := by rw [b5.block _ (by simp)]; exact heap_alloc_new w3 _
     have g3 : w5.cell? ⟨w3.heap.size, 0, none⟩ = some (.bool false) := by rw [Lib.cell_of_heap hblk]; rfl
     have g4 : w5.cell? ⟨w3.heap.size, 1, none⟩ = some (.int .i64 rn) := by rw [Lib.cell_of_heap hblk]; rfl
     have g5 : w5.cell? ⟨w3.heap.size, 2, none⟩ = some (.string ⟨rs.toArray⟩) := by rw [Lib.cell_of_heap hblk]; rfl
     have f3 := Lib.frozen_of_heap x5.b2 0; have f4 := Lib.frozen_of_heap x5.b2 1; have f5 := Lib.frozen_of_heap x5.b2 2; have HB := Lib.hid x5.bel; clear x5 b5 hblk
     go_wp2_with fail
     exact bodyPost_ret (v := .tuple #[.agg #[.bool false, .int .i64 0, .string ⟨#[]⟩], .int .i64 4]) (by simp [results, Tryz.results106, go_sem, c3, c4, c5]) rfl ⟨rfl, ((HB.out.setCell (p := ⟨_, _, _⟩) (by simp) _).setCell (p := ⟨_, _, _⟩) (by simp) _).setCell (p := ⟨_, _, _⟩) (by simp) _⟩
 · rw [no (fun h => hc h.1)]
   have q1 : (c != 0) = true := by simpa using hc
   clear ok no hLl hN
   go_enter Tryz.func106, Tryz.ntmps106
   go_wp2_with fail
   refine (CM.out _).mono ?_; rintro en w1 ⟨rfl, b1⟩; have x1 := HB0.out.step b1; obtain ⟨c1, c2, c3, c4, c5⟩ := x1.tc; have X1 := Lib.hid x1; clear x1 b1
   go_wp2_with fail
   refine (of_1 tn _).mono ?_; rintro en w2 ⟨a, b, rfl, hp, b2⟩; have x2 := X1.out.step b2; clear c1 c2 c3 c4 c5
   go_wp2_with fail
   refine (CI.out _).mono ?_; rintro en w3 ⟨rfl, b3⟩; have x3 := x2.step b3; obtain ⟨c1, c2, c3, c4, c5⟩ := x3.tc; have bA : Below w3.heap.size w3 (w3.alloc (.cells #[.bool false, .int .i64 rn, .string ⟨rs.toArray⟩] 57)) := (Below.refl _ _).alloc (Nat.le_refl _) _; have x4 := x3.step bA
   have X3 := Lib.hid x3; have X4 := Lib.hid x4; have hl3 := x3.lt
   obtain ⟨a1, a2, a3, a4, a5⟩ := x4.tc
   have n1 : w.heap.size < w3.heap.size := by omega
   have n2 : w.heap.size + 1 < w3.heap.size := by omega
   clear x2 b2 b3 x3 x4 bA
   go_wp2_with fail
   refine (CT.out _ (HE.out.below X4.out.bel)).mono ?_; rintro en w5 ⟨rfl, b5⟩; have x5 := X4.out.step b5; clear c1 c2 c3 c4 c5 a1 a2 a3 a4 a5; obtain ⟨c1, c2, c3, c4, c5⟩ := x5.tc
   have hblk : w5.heap[w3.heap.size]? = some (.cells #[.bool false, .int .i64 rn, .string ⟨rs.toArray⟩] 57 (0, 0)) := by rw [b5.block _ (by simp)]; exact heap_alloc_new w3 _
   have g3 : w5.cell? ⟨w3.heap.size, 0, none⟩ = some (.bool false) := by rw [Lib.cell_of_heap hblk]; rfl
   have g4 : w5.cell? ⟨w3.heap.size, 1, none⟩ = some (.int .i64 rn) := by rw [Lib.cell_of_heap hblk]; rfl
   have g5 : w5.cell? ⟨w3.heap.size, 2, none⟩ = some (.string ⟨rs.toArray⟩) := by rw [Lib.cell_of_heap hblk]; rfl
   have f3 := Lib.frozen_of_heap x5.b2 0; have f4 := Lib.frozen_of_heap x5.b2 1; have f5 := Lib.frozen_of_heap x5.b2 2; have HB := Lib.hid x5.bel; clear x5 b5 hblk
   go_wp2_with fail
   exact bodyPost_ret (v := .tuple #[.agg #[.bool false, .int .i64 0, .string ⟨#[]⟩], .int .i64 4]) (by simp [results, Tryz.results106, go_sem, c3, c4, c5]) rfl ⟨rfl, ((HB.out.setCell (p := ⟨_, _, _⟩) (by simp) _).setCell (p := ⟨_, _, _⟩) (by simp) _).setCell (p := ⟨_, _, _⟩) (by simp) _⟩
set_option maxRecDepth 100000 in
set_option maxHeartbeats 4000000 in
theorem kread_n2 (tn : Bool) (w : World) (hE : Env w) :
    Calls Tryz.prog 106 #[.agg #[.int .i64 2, .bool tn], .string (⟨#[110, 117, 108, 108]⟩ : ByteArray)] w fun e w' => e = .returned (readV (kReadD 2 tn (⟨#[110, 117, 108, 108]⟩ : ByteArray).data.toList)) ∧ Below w.heap.size w w' := by
 have hs : (⟨#[110, 117, 108, 108]⟩ : ByteArray).size ≤ 100000 := by decide
 have ci := fun w' (hE : Env w') => read_2 (⟨#[110, 117, 108, 108]⟩ : ByteArray) w' hs hE
 have cm := fun w' => may_any 2 tn w'
 rw [show kMay 2 = true from rfl] at cm; have hrl := trivial; obtain ⟨rn, hrn⟩ : ∃ rn, (kRead 2 (⟨#[110, 117, 108, 108]⟩ : ByteArray).data.toList).1 = rn := ⟨_, rfl⟩; obtain ⟨rs, hrs⟩ : ∃ rs, (kRead 2 (⟨#[110, 117, 108, 108]⟩ : ByteArray).data.toList).2 = rs := ⟨_, rfl⟩; rw [hrn, hrs] at ci
 have hg : kGuess 2 (⟨#[110, 117, 108, 108]⟩ : ByteArray).data.toList = (true, 0, []) := by
  unfold kGuess; exact if_pos rfl
 have ct : ∀ w', Env w' → Calls Tryz.prog 147 #[.agg #[.int .i64 2, .bool tn], .agg #[.bool true, .int .i64 0, .string ⟨#[]⟩]] w' fun e w'' => e = .returned (.tuple #[.string ⟨(kTextD 2 tn true 0 []).toArray⟩, .int .i64 (kCheck 2 tn true 0 [])]) ∧ Below w'.heap.size w' w'' := fun w' (hE' : Env w') => ktext_any 2 tn true 0 ⟨#[]⟩ w' (by decide) hE'
 have ok := readV_ok 2 tn (⟨#[110, 117, 108, 108]⟩ : ByteArray).data.toList rfl hg; have no := readV_no 2 tn (⟨#[110, 117, 108, 108]⟩ : ByteArray).data.toList rfl hg
 generalize kCheck 2 tn true 0 [] = c at *
 generalize kTextD 2 tn true 0 [] = L at *
 obtain ⟨LB, hLB⟩ : ∃ LB : ByteArray, (⟨L.toArray⟩ : ByteArray) = LB := ⟨_, rfl⟩
 have hLl : LB.data.toList = L := by rw [← hLB]
 rw [hLB] at ct; have b0 := Box2.start w #[.int .i64 2, .bool tn] #[.bool false, .int .i64 0, .string ⟨#[]⟩] 55 57; have kf := kfield2
 have HB0 := Lib.hid b0; have CI := Lib.hid ci; have CM := Lib.hid cm; have CT := Lib.hid ct; have HE := Lib.hid hE
 clear b0 ci cm ct hE hg hrn hrs hLB hrl
 by_cases hc : c = 0
 · by_cases hL : L = (⟨#[110, 117, 108, 108]⟩ : ByteArray).data.toList
   · rw [ok hc hL]; subst hc
     obtain rfl : LB = (⟨#[110, 117, 108, 108]⟩ : ByteArray) := by rw [ba_ext (s := LB) rfl, hLl, hL]
     clear ok no hL hLl
     go_enter Tryz.func106, Tryz.ntmps106
     go_wp2_with fail
     refine (CM.out _).mono ?_; rintro en w1 ⟨rfl, b1⟩; have x1 := HB0.out.step b1; obtain ⟨c1, c2, c3, c4, c5⟩ := x1.tc; have X1 := Lib.hid x1; clear x1 b1
     go_wp2_with fail
     refine (of_2 tn _).mono ?_; rintro en w2 ⟨a, b, rfl, hp, b2⟩; have x2 := X1.out.step b2; clear c1 c2 c3 c4 c5
     go_wp2_with fail
     refine (CI.out _ (HE.out.below x2.bel)).mono ?_; rintro en w3 ⟨rfl, b3⟩; have x3 := x2.step b3; obtain ⟨c1, c2, c3, c4, c5⟩ := x3.tc; have bA : Below w3.heap.size w3 (w3.alloc (.cells #[.bool true, .int .i64 0, .string ⟨#[]⟩] 57)) := (Below.refl _ _).alloc (Nat.le_refl _) _; have x4 := x3.step bA
     have X3 := Lib.hid x3; have X4 := Lib.hid x4; have hl3 := x3.lt
     obtain ⟨a1, a2, a3, a4, a5⟩ := x4.tc
     have n1 : w.heap.size < w3.heap.size := by omega
     have n2 : w.heap.size + 1 < w3.heap.size := by omega
     clear x2 b2 b3 x3 x4 bA
     go_wp2_with fail
     refine (CT.out _ (HE.out.below X4.out.bel)).mono ?_; rintro en w5 ⟨rfl, b5⟩; have x5 := X4.out.step b5; clear c1 c2 c3 c4 c5 a1 a2 a3 a4 a5; obtain ⟨c1, c2, c3, c4, c5⟩ := x5.tc
     have hblk : w5.heap[w3.heap.size]? = some (.cells #[.bool true, .int .i64 0, .string ⟨#[]⟩] 57 (0, 0)) := by rw [b5.block _ (by simp)]; exact heap_alloc_new w3 _
     have g3 : w5.cell? ⟨w3.heap.size, 0, none⟩ = some (.bool true) := by rw [Lib.cell_of_heap hblk]; rfl
     have g4 : w5.cell? ⟨w3.heap.size, 1, none⟩ = some (.int .i64 0) := by rw [Lib.cell_of_heap hblk]; rfl
     have g5 : w5.cell? ⟨w3.heap.size, 2, none⟩ = some (.string ⟨#[]⟩) := by rw [Lib.cell_of_heap hblk]; rfl
     have f3 := Lib.frozen_of_heap x5.b2 0; have f4 := Lib.frozen_of_heap x5.b2 1; have f5 := Lib.frozen_of_heap x5.b2 2; have HB := Lib.hid x5.bel; clear x5 b5 hblk
     go_wp2_with fail
     exact bodyPost_ret (v := .tuple #[.agg #[.bool true, .int .i64 0, .string ⟨#[]⟩], .int .i64 0]) (by simp [results, Tryz.results106, go_sem, c3, c4, c5]) rfl ⟨rfl, ((HB.out.setCell (p := ⟨_, _, _⟩) (by simp) _).setCell (p := ⟨_, _, _⟩) (by simp) _).setCell (p := ⟨_, _, _⟩) (by simp) _⟩
   · rw [no (fun h => hL h.2)]; subst hc
     have q1 : (LB.toList == (⟨#[110, 117, 108, 108]⟩ : ByteArray).toList) = false := by rw [Lib.toList_data, Lib.toList_data, hLl]; rw [beq_eq_false_iff_ne]; exact hL
     have q2 : ¬ LB.toList = (⟨#[110, 117, 108, 108]⟩ : ByteArray).toList := by rw [Lib.toList_data, Lib.toList_data, hLl]; exact hL
     have q3 : (LB.toList == [110, 117, 108, 108]) = false := by rw [Lib.toList_data, hLl]; rw [beq_eq_false_iff_ne]; exact hL
     clear ok no hL hLl
     go_enter Tryz.func106, Tryz.ntmps106
     go_wp2_with fail
     refine (CM.out _).mono ?_; rintro en w1 ⟨rfl, b1⟩; have x1 := HB0.out.step b1; obtain ⟨c1, c2, c3, c4, c5⟩ := x1.tc; have X1 := Lib.hid x1; clear x1 b1
     go_wp2_with fail
     refine (of_2 tn _).mono ?_; rintro en w2 ⟨a, b, rfl, hp, b2⟩; have x2 := X1.out.step b2; clear c1 c2 c3 c4 c5
     go_wp2_with fail
     refine (CI.out _ (HE.out.below x2.bel)).mono ?_; rintro en w3 ⟨rfl, b3⟩; have x3 := x2.step b3; obtain ⟨c1, c2, c3, c4, c5⟩ := x3.tc; have bA : Below w3.heap.size w3 (w3.alloc (.cells #[.bool true, .int .i64 0, .string ⟨#[]⟩] 57)) := (Below.refl _ _).alloc (Nat.le_refl _) _; have x4 := x3.step bA
     have X3 := Lib.hid x3; have X4 := Lib.hid x4; have hl3 := x3.lt
     obtain ⟨a1, a2, a3, a4, a5⟩ := x4.tc
     have n1 : w.heap.size < w3.heap.size := by omega
     have n2 : w.heap.size + 1 < w3.heap.size := by omega
     clear x2 b2 b3 x3 x4 bA
     go_wp2_with fail
     refine (CT.out _ (HE.out.below X4.out.bel)).mono ?_; rintro en w5 ⟨rfl, b5⟩; have x5 := X4.out.step b5; clear c1 c2 c3 c4 c5 a1 a2 a3 a4 a5; obtain ⟨c1, c2, c3, c4, c5⟩ := x5.tc
     have hblk : w5.heap[w3.heap.size]? = some (.cells #[.bool true, .int .i64 0, .string ⟨#[]⟩] 57 (0, 0)) := by rw [b5.block _ (by simp)]; exact heap_alloc_new w3 _
     have g3 : w5.cell? ⟨w3.heap.size, 0, none⟩ = some (.bool true) := by rw [Lib.cell_of_heap hblk]; rfl
     have g4 : w5.cell? ⟨w3.heap.size, 1, none⟩ = some (.int .i64 0) := by rw [Lib.cell_of_heap hblk]; rfl
     have g5 : w5.cell? ⟨w3.heap.size, 2, none⟩ = some (.string ⟨#[]⟩) := by rw [Lib.cell_of_heap hblk]; rfl
     have f3 := Lib.frozen_of_heap x5.b2 0; have f4 := Lib.frozen_of_heap x5.b2 1; have f5 := Lib.frozen_of_heap x5.b2 2; have HB := Lib.hid x5.bel; clear x5 b5 hblk
     go_wp2_with fail
     exact bodyPost_ret (v := .tuple #[.agg #[.bool false, .int .i64 0, .string ⟨#[]⟩], .int .i64 4]) (by simp [results, Tryz.results106, go_sem, c3, c4, c5]) rfl ⟨rfl, ((HB.out.setCell (p := ⟨_, _, _⟩) (by simp) _).setCell (p := ⟨_, _, _⟩) (by simp) _).setCell (p := ⟨_, _, _⟩) (by simp) _⟩
 · rw [no (fun h => hc h.1)]
   have q1 : (c != 0) = true := by simpa using hc
   clear ok no hLl
   go_enter Tryz.func106, Tryz.ntmps106
   go_wp2_with fail
   refine (CM.out _).mono ?_; rintro en w1 ⟨rfl, b1⟩; have x1 := HB0.out.step b1; obtain ⟨c1, c2, c3, c4, c5⟩ := x1.tc; have X1 := Lib.hid x1; clear x1 b1
   go_wp2_with fail
   refine (of_2 tn _).mono ?_; rintro en w2 ⟨a, b, rfl, hp, b2⟩; have x2 := X1.out.step b2; clear c1 c2 c3 c4 c5
   go_wp2_with fail
   refine (CI.out _ (HE.out.below x2.bel)).mono ?_; rintro en w3 ⟨rfl, b3⟩; have x3 := x2.step b3; obtain ⟨c1, c2, c3, c4, c5⟩ := x3.tc; have bA : Below w3.heap.size w3 (w3.alloc (.cells #[.bool true, .int .i64 0, .string ⟨#[]⟩] 57)) := (Below.refl _ _).alloc (Nat.le_refl _) _; have x4 := x3.step bA
   have X3 := Lib.hid x3; have X4 := Lib.hid x4; have hl3 := x3.lt
   obtain ⟨a1, a2, a3, a4, a5⟩ := x4.tc
   have n1 : w.heap.size < w3.heap.size := by omega
   have n2 : w.heap.size + 1 < w3.heap.size := by omega
   clear x2 b2 b3 x3 x4 bA
   go_wp2_with fail
   refine (CT.out _ (HE.out.below X4.out.bel)).mono ?_; rintro en w5 ⟨rfl, b5⟩; have x5 := X4.out.step b5; clear c1 c2 c3 c4 c5 a1 a2 a3 a4 a5; obtain ⟨c1, c2, c3, c4, c5⟩ := x5.tc
   have hblk : w5.heap[w3.heap.size]? = some (.cells #[.bool true, .int .i64 0, .string ⟨#[]⟩] 57 (0, 0)) := by rw [b5.block _ (by simp)]; exact heap_alloc_new w3 _
   have g3 : w5.cell? ⟨w3.heap.size, 0, none⟩ = some (.bool true) := by rw [Lib.cell_of_heap hblk]; rfl
   have g4 : w5.cell? ⟨w3.heap.size, 1, none⟩ = some (.int .i64 0) := by rw [Lib.cell_of_heap hblk]; rfl
   have g5 : w5.cell? ⟨w3.heap.size, 2, none⟩ = some (.string ⟨#[]⟩) := by rw [Lib.cell_of_heap hblk]; rfl
   have f3 := Lib.frozen_of_heap x5.b2 0; have f4 := Lib.frozen_of_heap x5.b2 1; have f5 := Lib.frozen_of_heap x5.b2 2; have HB := Lib.hid x5.bel; clear x5 b5 hblk
   go_wp2_with fail
   exact bodyPost_ret (v := .tuple #[.agg #[.bool false, .int .i64 0, .string ⟨#[]⟩], .int .i64 4]) (by simp [results, Tryz.results106, go_sem, c3, c4, c5]) rfl ⟨rfl, ((HB.out.setCell (p := ⟨_, _, _⟩) (by simp) _).setCell (p := ⟨_, _, _⟩) (by simp) _).setCell (p := ⟨_, _, _⟩) (by simp) _⟩
set_option maxRecDepth 100000 in
set_option maxHeartbeats 4000000 in
theorem kread_s2 (tn : Bool) (S : ByteArray) (w : World) (hs0 : S.size ≤ 20000) (hE : Env w) (hN : ¬ S.data.toList = kNull) :
    Calls Tryz.prog 106 #[.agg #[.int .i64 2, .bool tn], .string S] w fun e w' => e = .returned (readV (kReadD 2 tn S.data.toList)) ∧ Below w.heap.size w w' := by
 have hs : S.size ≤ 100000 := by omega
 have ci := fun w' (hE : Env w') => read_2 S w' hs hE
 have cm := fun w' => may_any 2 tn w'
 rw [show kMay 2 = true from rfl] at cm; have hrl := kread_len 2 S.data.toList; obtain ⟨rn, hrn⟩ : ∃ rn, (kRead 2 S.data.toList).1 = rn := ⟨_, rfl⟩; obtain ⟨rs, hrs⟩ : ∃ rs, (kRead 2 S.data.toList).2 = rs := ⟨_, rfl⟩; rw [hrn, hrs] at ci
 have hg : kGuess 2 S.data.toList = (false, rn, rs) := by
  unfold kGuess; rw [if_neg hN, hrn, hrs]
 rw [hrs, lenS] at hrl; have hls : (⟨rs.toArray⟩ : ByteArray).size = rs.length := List.size_toArray
 have ct : ∀ w', Env w' → Calls Tryz.prog 147 #[.agg #[.int .i64 2, .bool tn], .agg #[.bool false, .int .i64 rn, .string ⟨rs.toArray⟩]] w' fun e w'' => e = .returned (.tuple #[.string ⟨(kTextD 2 tn false rn rs).toArray⟩, .int .i64 (kCheck 2 tn false rn rs)]) ∧ Below w'.heap.size w' w'' := fun w' (hE' : Env w') => ktext_any 2 tn false rn ⟨rs.toArray⟩ w' (by rw [hls]; omega) hE'
 have ok := readV_ok 2 tn S.data.toList rfl hg; have no := readV_no 2 tn S.data.toList rfl hg
 have e1 : (S.toList == [110, 117, 108, 108]) = false := by rw [Lib.toList_data]; rw [beq_eq_false_iff_ne]; exact hN
 have e2 : ¬ S.toList = [110, 117, 108, 108] := by rw [Lib.toList_data]; exact hN
 generalize kCheck 2 tn false rn rs = c at *
 generalize kTextD 2 tn false rn rs = L at *
 obtain ⟨LB, hLB⟩ : ∃ LB : ByteArray, (⟨L.toArray⟩ : ByteArray) = LB := ⟨_, rfl⟩
 have hLl : LB.data.toList = L := by rw [← hLB]
 rw [hLB] at ct; have b0 := Box2.start w #[.int .i64 2, .bool tn] #[.bool false, .int .i64 0, .string ⟨#[]⟩] 55 57; have kf := kfield2
 have HB0 := Lib.hid b0; have CI := Lib.hid ci; have CM := Lib.hid cm; have CT := Lib.hid ct; have HE := Lib.hid hE
 clear b0 ci cm ct hE hg hrn hrs hLB hrl hls
 by_cases hc : c = 0
 · by_cases hL : L = S.data.toList
   · rw [ok hc hL]; subst hc
     obtain rfl : LB = S := by rw [ba_ext (s := LB) rfl, hLl, hL]
     clear ok no hL hLl hN
     go_enter Tryz.func106, Tryz.ntmps106
     go_wp2_with fail
     refine (CM.out _).mono ?_; rintro en w1 ⟨rfl, b1⟩; have x1 := HB0.out.step b1; obtain ⟨c1, c2, c3, c4, c5⟩ := x1.tc; have X1 := Lib.hid x1; clear x1 b1
     go_wp2_with fail
     refine (of_2 tn _).mono ?_; rintro en w2 ⟨a, b, rfl, hp, b2⟩; have x2 := X1.out.step b2; clear c1 c2 c3 c4 c5
     go_wp2_with fail
     refine (CI.out _ (HE.out.below x2.bel)).mono ?_; rintro en w3 ⟨rfl, b3⟩; have x3 := x2.step b3; obtain ⟨c1, c2, c3, c4, c5⟩ := x3.tc; have bA : Below w3.heap.size w3 (w3.alloc (.cells #[.bool false, .int .i64 rn, .string ⟨rs.toArray⟩] 57)) := (Below.refl _ _).alloc (Nat.le_refl _) _; have x4 := x3.step bA
     have X3 := Lib.hid x3; have X4 := Lib.hid x4; have hl3 := x3.lt
     obtain ⟨a1, a2, a3, a4, a5⟩ := x4.tc
     have n1 : w.heap.size < w3.heap.size := by omega
     have n2 : w.heap.size + 1 < w3.heap.size := by omega
     clear x2 b2 b3 x3 x4 bA
     go_wp2_with fail
     refine (CT.out _ (HE.out.below X4.out.bel)).mono ?_; rintro en w5 ⟨rfl, b5⟩; have x5 := X4.out.step b5; clear c1 c2 c3 c4 c5 a1 a2 a3 a4 a5; obtain ⟨c1, c2, c3, c4, c5⟩ := x5.tc
     have hblk : w5.heap[w3.heap.size]? = some (.cells #[.bool false, .int .i64 rn, .string ⟨rs.toArray⟩] 57 (0, 0)) := by rw [b5.block _ (by simp)]; exact heap_alloc_new w3 _
     have g3 : w5.cell? ⟨w3.heap.size, 0, none⟩ = some (.bool false) := by rw [Lib.cell_of_heap hblk]; rfl
     have g4 : w5.cell? ⟨w3.heap.size, 1, none⟩ = some (.int .i64 rn) := by rw [Lib.cell_of_heap hblk]; rfl
     have g5 : w5.cell? ⟨w3.heap.size, 2, none⟩ = some (.string ⟨rs.toArray⟩) := by rw [Lib.cell_of_heap hblk]; rfl
     have f3 := Lib.frozen_of_heap x5.b2 0; have f4 := Lib.frozen_of_heap x5.b2 1; have f5 := Lib.frozen_of_heap x5.b2 2; have HB := Lib.hid x5.bel; clear x5 b5 hblk
     go_wp2_with fail
     exact bodyPost_ret (v := .tuple #[.agg #[.bool false, .int .i64 rn, .string ⟨rs.toArray⟩], .int .i64 0]) (by simp [results, Tryz.results106, go_sem, c3, c4, c5]) rfl ⟨rfl, ((HB.out.setCell (p := ⟨_, _, _⟩) (by simp) _).setCell (p := ⟨_, _, _⟩) (by simp) _).setCell (p := ⟨_, _, _⟩) (by simp) _⟩
   · rw [no (fun h => hL h.2)]; subst hc
     have q1 : (LB.toList == S.toList) = false := by rw [Lib.toList_data, Lib.toList_data, hLl]; rw [beq_eq_false_iff_ne]; exact hL
     have q2 : ¬ LB.toList = S.toList := by rw [Lib.toList_data, Lib.toList_data, hLl]; exact hL
     clear ok no hL hLl hN
     go_enter Tryz.func106, Tryz.ntmps106
     go_wp2_with fail
     refine (CM.out _).mono ?_; rintro en w1 ⟨rfl, b1⟩; have x1 := HB0.out.step b1; obtain ⟨c1, c2, c3, c4, c5⟩ := x1.tc; have X1 := Lib.hid x1; clear x1 b1
     go_wp2_with fail
     refine (of_2 tn _).mono ?_; rintro en w2 ⟨a, b, rfl, hp, b2⟩; have x2 := X1.out.step b2; clear c1 c2 c3 c4 c5
     go_wp2_with fail
     refine (CI.out _ (HE.out.below x2.bel)).mono ?_; rintro en w3 ⟨rfl, b3⟩; have x3 := x2.step b3; obtain ⟨c1, c2, c3, c4, c5⟩ := x3.tc; have bA : Below w3.heap.size w3 (w3.alloc (.cells #[.bool false, .int .i64 rn, .string ⟨rs.toArray⟩] 57)) := (Below.refl _ _).alloc (Nat.le_refl _) _; have x4 := x3.step bA
     have X3 := Lib.hid x3; have X4 := Lib.hid x4; have hl3 := x3.lt
     obtain ⟨a1, a2, a3, a4, a5⟩ := x4.tc
     have n1 : w.heap.size < w3.heap.size := by omega
     have n2 : w.heap.size + 1 < w3.heap.size := by omega
     clear x2 b2 b3 x3 x4 bA
     go_wp2_with fail
     refine (CT.out _ (HE.out.below X4.out.bel)).mono ?_; rintro en w5 ⟨rfl, b5⟩; have x5 := X4.out.step b5; clear c1 c2 c3 c4 c5 a1 a2 a3 a4 a5; obtain ⟨c1, c2, c3, c4, c5⟩ := x5.tc
     have hblk : w5.heap[w3.heap.size]? = some (.cells #[.bool false, .int .i64 rn, .string ⟨rs.toArray⟩] 57 (0, 0)) := by rw [b5.block _ (by simp)]; exact heap_alloc_new w3 _
     have g3 : w5.cell? ⟨w3.heap.size, 0, none⟩ = some (.bool false) := by rw [Lib.cell_of_heap hblk]; rfl
     have g4 : w5.cell? ⟨w3.heap.size, 1, none⟩ = some (.int .i64 rn) := by rw [Lib.cell_of_heap hblk]; rfl
     have g5 : w5.cell? ⟨w3.heap.size, 2, none⟩ = some (.string ⟨rs.toArray⟩) := by rw [Lib.cell_of_heap hblk]; rfl
     have f3 := Lib.frozen_of_heap x5.b2 0; have f4 := Lib.frozen_of_heap x5.b2 1; have f5 := Lib.frozen_of_heap x5.b2 2; have HB := Lib.hid x5.bel; clear x5 b5 hblk
     go_wp2_with fail
     exact bodyPost_ret (v := .tuple #[.agg #[.bool false, .int .i64 0, .string ⟨#[]⟩], .int .i64 4]) (by simp [results, Tryz.results106, go_sem, c3, c4, c5]) rfl ⟨rfl, ((HB.out.setCell (p := ⟨_, _, _⟩) (by simp) _).setCell (p := ⟨_, _, _⟩) (by simp) _).setCell (p := ⟨_, _, _⟩) (by simp) _⟩
 · rw [no (fun h => hc h.1)]
   have q1 : (c != 0) = true := by simpa using hc
   clear ok no hLl hN
   go_enter Tryz.func106, Tryz.ntmps106
   go_wp2_with fail
   refine (CM.out _).mono ?_; rintro en w1 ⟨rfl, b1⟩; have x1 := HB0.out.step b1; obtain ⟨c1, c2, c3, c4, c5⟩ := x1.tc; have X1 := Lib.hid x1; clear x1 b1
   go_wp2_with fail
   refine (of_2 tn _).mono ?_; rintro en w2 ⟨a, b, rfl, hp, b2⟩; have x2 := X1.out.step b2; clear c1 c2 c3 c4 c5
   go_wp2_with fail
   refine (CI.out _ (HE.out.below x2.bel)).mono ?_; rintro en w3 ⟨rfl, b3⟩; have x3 := x2.step b3; obtain ⟨c1, c2, c3, c4, c5⟩ := x3.tc; have bA : Below w3.heap.size w3 (w3.alloc (.cells #[.bool false, .int .i64 rn, .string ⟨rs.toArray⟩] 57)) := (Below.refl _ _).alloc (Nat.le_refl _) _; have x4 := x3.step bA
   have X3 := Lib.hid x3; have X4 := Lib.hid x4; have hl3 := x3.lt
   obtain ⟨a1, a2, a3, a4, a5⟩ := x4.tc
   have n1 : w.heap.size < w3.heap.size := by omega
   have n2 : w.heap.size + 1 < w3.heap.size := by omega
   clear x2 b2 b3 x3 x4 bA
   go_wp2_with fail
   refine (CT.out _ (HE.out.below X4.out.bel)).mono ?_; rintro en w5 ⟨rfl, b5⟩; have x5 := X4.out.step b5; clear c1 c2 c3 c4 c5 a1 a2 a3 a4 a5; obtain ⟨c1, c2, c3, c4, c5⟩ := x5.tc
   have hblk : w5.heap[w3.heap.size]? = some (.cells #[.bool false, .int .i64 rn, .string ⟨rs.toArray⟩] 57 (0, 0)) := by rw [b5.block _ (by simp)]; exact heap_alloc_new w3 _
   have g3 : w5.cell? ⟨w3.heap.size, 0, none⟩ = some (.bool false) := by rw [Lib.cell_of_heap hblk]; rfl
   have g4 : w5.cell? ⟨w3.heap.size, 1, none⟩ = some (.int .i64 rn) := by rw [Lib.cell_of_heap hblk]; rfl
   have g5 : w5.cell? ⟨w3.heap.size, 2, none⟩ = some (.string ⟨rs.toArray⟩) := by rw [Lib.cell_of_heap hblk]; rfl
   have f3 := Lib.frozen_of_heap x5.b2 0; have f4 := Lib.frozen_of_heap x5.b2 1; have f5 := Lib.frozen_of_heap x5.b2 2; have HB := Lib.hid x5.bel; clear x5 b5 hblk
   go_wp2_with fail
   exact bodyPost_ret (v := .tuple #[.agg #[.bool false, .int .i64 0, .string ⟨#[]⟩], .int .i64 4]) (by simp [results, Tryz.results106, go_sem, c3, c4, c5]) rfl ⟨rfl, ((HB.out.setCell (p := ⟨_, _, _⟩) (by simp) _).setCell (p := ⟨_, _, _⟩) (by simp) _).setCell (p := ⟨_, _, _⟩) (by simp) _⟩
set_option maxRecDepth 100000 in
set_option maxHeartbeats 4000000 in
theorem kread_n3 (tn : Bool) (w : World) (hE : Env w) :
    Calls Tryz.prog 106 #[.agg #[.int .i64 3, .bool tn], .string (⟨#[110, 117, 108, 108]⟩ : ByteArray)] w fun e w' => e = .returned (readV (kReadD 3 tn (⟨#[110, 117, 108, 108]⟩ : ByteArray).data.toList)) ∧ Below w.heap.size w w' := by
 have hs : (⟨#[110, 117, 108, 108]⟩ : ByteArray).size ≤ 100000 := by decide
 have ci := fun w' (hE : Env w') => read_3 (⟨#[110, 117, 108, 108]⟩ : ByteArray) w' hs hE
 have cm := fun w' => may_any 3 tn w'
 rw [show kMay 3 = true from rfl] at cm; have hrl := trivial; obtain ⟨rn, hrn⟩ : ∃ rn, (kRead 3 (⟨#[110, 117, 108, 108]⟩ : ByteArray).data.toList).1 = rn := ⟨_, rfl⟩; obtain ⟨rs, hrs⟩ : ∃ rs, (kRead 3 (⟨#[110, 117, 108, 108]⟩ : ByteArray).data.toList).2 = rs := ⟨_, rfl⟩; rw [hrn, hrs] at ci
 have hg : kGuess 3 (⟨#[110, 117, 108, 108]⟩ : ByteArray).data.toList = (true, 0, []) := by
  unfold kGuess; exact if_pos rfl
 have ct : ∀ w', Env w' → Calls Tryz.prog 147 #[.agg #[.int .i64 3, .bool tn], .agg #[.bool true, .int .i64 0, .string ⟨#[]⟩]] w' fun e w'' => e = .returned (.tuple #[.string ⟨(kTextD 3 tn true 0 []).toArray⟩, .int .i64 (kCheck 3 tn true 0 [])]) ∧ Below w'.heap.size w' w'' := fun w' (hE' : Env w') => ktext_any 3 tn true 0 ⟨#[]⟩ w' (by decide) hE'
 have ok := readV_ok 3 tn (⟨#[110, 117, 108, 108]⟩ : ByteArray).data.toList rfl hg; have no := readV_no 3 tn (⟨#[110, 117, 108, 108]⟩ : ByteArray).data.toList rfl hg
 generalize kCheck 3 tn true 0 [] = c at *
 generalize kTextD 3 tn true 0 [] = L at *
 obtain ⟨LB, hLB⟩ : ∃ LB : ByteArray, (⟨L.toArray⟩ : ByteArray) = LB := ⟨_, rfl⟩
 have hLl : LB.data.toList = L := by rw [← hLB]
 rw [hLB] at ct; have b0 := Box2.start w #[.int .i64 3, .bool tn] #[.bool false, .int .i64 0, .string ⟨#[]⟩] 55 57; have kf := kfield2
 have HB0 := Lib.hid b0; have CI := Lib.hid ci; have CM := Lib.hid cm; have CT := Lib.hid ct; have HE := Lib.hid hE
 clear b0 ci cm ct hE hg hrn hrs hLB hrl
 by_cases hc : c = 0
 · by_cases hL : L = (⟨#[110, 117, 108, 108]⟩ : ByteArray).data.toList
   · rw [ok hc hL]; subst hc
     obtain rfl : LB = (⟨#[110, 117, 108, 108]⟩ : ByteArray) := by rw [ba_ext (s := LB) rfl, hLl, hL]
     clear ok no hL hLl
     go_enter Tryz.func106, Tryz.ntmps106
     go_wp2_with fail
     refine (CM.out _).mono ?_; rintro en w1 ⟨rfl, b1⟩; have x1 := HB0.out.step b1; obtain ⟨c1, c2, c3, c4, c5⟩ := x1.tc; have X1 := Lib.hid x1; clear x1 b1
     go_wp2_with fail
     refine (of_3 tn _).mono ?_; rintro en w2 ⟨a, b, rfl, hp, b2⟩; have x2 := X1.out.step b2; clear c1 c2 c3 c4 c5
     go_wp2_with fail
     refine (CI.out _ (HE.out.below x2.bel)).mono ?_; rintro en w3 ⟨rfl, b3⟩; have x3 := x2.step b3; obtain ⟨c1, c2, c3, c4, c5⟩ := x3.tc; have bA : Below w3.heap.size w3 (w3.alloc (.cells #[.bool true, .int .i64 0, .string ⟨#[]⟩] 57)) := (Below.refl _ _).alloc (Nat.le_refl _) _; have x4 := x3.step bA
     have X3 := Lib.hid x3; have X4 := Lib.hid x4; have hl3 := x3.lt
     obtain ⟨a1, a2, a3, a4, a5⟩ := x4.tc
     have n1 : w.heap.size < w3.heap.size := by omega
     have n2 : w.heap.size + 1 < w3.heap.size := by omega
     clear x2 b2 b3 x3 x4 bA
     go_wp2_with fail
     refine (CT.out _ (HE.out.below X4.out.bel)).mono ?_; rintro en w5 ⟨rfl, b5⟩; have x5 := X4.out.step b5; clear c1 c2 c3 c4 c5 a1 a2 a3 a4 a5; obtain ⟨c1, c2, c3, c4, c5⟩ := x5.tc
     have hblk : w5.heap[w3.heap.size]? = some (.cells #[.bool true, .int .i64 0, .string ⟨#[]⟩] 57 (0, 0)) := by rw [b5.block _ (by simp)]; exact heap_alloc_new w3 _
     have g3 : w5.cell? ⟨w3.heap.size, 0, none⟩ = some (.bool true) := by rw [Lib.cell_of_heap hblk]; rfl
     have g4 : w5.cell? ⟨w3.heap.size, 1, none⟩ = some (.int .i64 0) := by rw [Lib.cell_of_heap hblk]; rfl
     have g5 : w5.cell? ⟨w3.heap.size, 2, none⟩ = some (.string ⟨#[]⟩) := by rw [Lib.cell_of_heap hblk]; rfl
     have f3 := Lib.frozen_of_heap x5.b2 0; have f4 := Lib.frozen_of_heap x5.b2 1; have f5 := Lib.frozen_of_heap x5.b2 2; have HB := Lib.hid x5.bel; clear x5 b5 hblk
     go_wp2_with fail
     exact bodyPost_ret (v := .tuple #[.agg #[.bool true, .int .i64 0, .string ⟨#[]⟩], .int .i64 0]) (by simp [results, Tryz.results106, go_sem, c3, c4, c5]) rfl ⟨rfl, ((HB.out.setCell (p := ⟨_, _, _⟩) (by simp) _).setCell (p := ⟨_, _, _⟩) (by simp) _).setCell (p := ⟨_, _, _⟩) (by simp) _⟩
   · rw [no (fun h => hL h.2)]; subst hc
     have q1 : (LB.toList == (⟨#[110, 117, 108, 108]⟩ : ByteArray).toList) = false := by rw [Lib.toList_data, Lib.toList_data, hLl]; rw [beq_eq_false_iff_ne]; exact hL
     have q2 : ¬ LB.toList = (⟨#[110, 117, 108, 108]⟩ : ByteArray).toList := by rw [Lib.toList_data, Lib.toList_data, hLl]; exact hL
     have q3 : (LB.toList == [110, 117, 108, 108]) = false := by rw [Lib.toList_data, hLl]; rw [beq_eq_false_iff_ne]; exact hL
     clear ok no hL hLl
     go_enter Tryz.func106, Tryz.ntmps106
     go_wp2_with fail
     refine (CM.out _).mono ?_; rintro en w1 ⟨rfl, b1⟩; have x1 := HB0.out.step b1; obtain ⟨c1, c2, c3, c4, c5⟩ := x1.tc; have X1 := Lib.hid x1; clear x1 b1
     go_wp2_with fail
     refine (of_3 tn _).mono ?_; rintro en w2 ⟨a, b, rfl, hp, b2⟩; have x2 := X1.out.step b2; clear c1 c2 c3 c4 c5
     go_wp2_with fail
     refine (CI.out _ (HE.out.below x2.bel)).mono ?_; rintro en w3 ⟨rfl, b3⟩; have x3 := x2.step b3; obtain ⟨c1, c2, c3, c4, c5⟩ := x3.tc; have bA : Below w3.heap.size w3 (w3.alloc (.cells #[.bool true, .int .i64 0, .string ⟨#[]⟩] 57)) := (Below.refl _ _).alloc (Nat.le_refl _) _; have x4 := x3.step bA
     have X3 := Lib.hid x3; have X4 := Lib.hid x4; have hl3 := x3.lt
     obtain ⟨a1, a2, a3, a4, a5⟩ := x4.tc
     have n1 : w.heap.size < w3.heap.size := by omega
     have n2 : w.heap.size + 1 < w3.heap.size := by omega
     clear x2 b2 b3 x3 x4 bA
     go_wp2_with fail
     refine (CT.out _ (HE.out.below X4.out.bel)).mono ?_; rintro en w5 ⟨rfl, b5⟩; have x5 := X4.out.step b5; clear c1 c2 c3 c4 c5 a1 a2 a3 a4 a5; obtain ⟨c1, c2, c3, c4, c5⟩ := x5.tc
     have hblk : w5.heap[w3.heap.size]? = some (.cells #[.bool true, .int .i64 0, .string ⟨#[]⟩] 57 (0, 0)) := by rw [b5.block _ (by simp)]; exact heap_alloc_new w3 _
     have g3 : w5.cell? ⟨w3.heap.size, 0, none⟩ = some (.bool true) := by rw [Lib.cell_of_heap hblk]; rfl
     have g4 : w5.cell? ⟨w3.heap.size, 1, none⟩ = some (.int .i64 0) := by rw [Lib.cell_of_heap hblk]; rfl
     have g5 : w5.cell? ⟨w3.heap.size, 2, none⟩ = some (.string ⟨#[]⟩) := by rw [Lib.cell_of_heap hblk]; rfl
     have f3 := Lib.frozen_of_heap x5.b2 0; have f4 := Lib.frozen_of_heap x5.b2 1; have f5 := Lib.frozen_of_heap x5.b2 2; have HB := Lib.hid x5.bel; clear x5 b5 hblk
     go_wp2_with fail
     exact bodyPost_ret (v := .tuple #[.agg #[.bool false, .int .i64 0, .string ⟨#[]⟩], .int .i64 4]) (by simp [results, Tryz.results106, go_sem, c3, c4, c5]) rfl ⟨rfl, ((HB.out.setCell (p := ⟨_, _, _⟩) (by simp) _).setCell (p := ⟨_, _, _⟩) (by simp) _).setCell (p := ⟨_, _, _⟩) (by simp) _⟩
 · rw [no (fun h => hc h.1)]
   have q1 : (c != 0) = true := by simpa using hc
   clear ok no hLl
   go_enter Tryz.func106, Tryz.ntmps106
   go_wp2_with fail
   refine (CM.out _).mono ?_; rintro en w1 ⟨rfl, b1⟩; have x1 := HB0.out.step b1; obtain ⟨c1, c2, c3, c4, c5⟩ := x1.tc; have X1 := Lib.hid x1; clear x1 b1
   go_wp2_with fail
   refine (of_3 tn _).mono ?_; rintro en w2 ⟨a, b, rfl, hp, b2⟩; have x2 := X1.out.step b2; clear c1 c2 c3 c4 c5
   go_wp2_with fail
   refine (CI.out _ (HE.out.below x2.bel)).mono ?_; rintro en w3 ⟨rfl, b3⟩; have x3 := x2.step b3; obtain ⟨c1, c2, c3, c4, c5⟩ := x3.tc; have bA : Below w3.heap.size w3 (w3.alloc (.cells #[.bool true, .int .i64 0, .string ⟨#[]⟩] 57)) := (Below.refl _ _).alloc (Nat.le_refl _) _; have x4 := x3.step bA
   have X3 := Lib.hid x3; have X4 := Lib.hid x4; have hl3 := x3.lt
   obtain ⟨a1, a2, a3, a4, a5⟩ := x4.tc
   have n1 : w.heap.size < w3.heap.size := by omega
   have n2 : w.heap.size + 1 < w3.heap.size := by omega
   clear x2 b2 b3 x3 x4 bA
   go_wp2_with fail
   refine (CT.out _ (HE.out.below X4.out.bel)).mono ?_; rintro en w5 ⟨rfl, b5⟩; have x5 := X4.out.step b5; clear c1 c2 c3 c4 c5 a1 a2 a3 a4 a5; obtain ⟨c1, c2, c3, c4, c5⟩ := x5.tc
   have hblk : w5.heap[w3.heap.size]? = some (.cells #[.bool true, .int .i64 0, .string ⟨#[]⟩] 57 (0, 0)) := by rw [b5.block _ (by simp)]; exact heap_alloc_new w3 _
   have g3 : w5.cell? ⟨w3.heap.size, 0, none⟩ = some (.bool true) := by rw [Lib.cell_of_heap hblk]; rfl
   have g4 : w5.cell? ⟨w3.heap.size, 1, none⟩ = some (.int .i64 0) := by rw [Lib.cell_of_heap hblk]; rfl
   have g5 : w5.cell? ⟨w3.heap.size, 2, none⟩ = some (.string ⟨#[]⟩) := by rw [Lib.cell_of_heap hblk]; rfl
   have f3 := Lib.frozen_of_heap x5.b2 0; have f4 := Lib.frozen_of_heap x5.b2 1; have f5 := Lib.frozen_of_heap x5.b2 2; have HB := Lib.hid x5.bel; clear x5 b5 hblk
   go_wp2_with fail
   exact bodyPost_ret (v := .tuple #[.agg #[.bool false, .int .i64 0, .string ⟨#[]⟩], .int .i64 4]) (by simp [results, Tryz.results106, go_sem, c3, c4, c5]) rfl ⟨rfl, ((HB.out.setCell (p := ⟨_, _, _⟩) (by simp) _).setCell (p := ⟨_, _, _⟩) (by simp) _).setCell (p := ⟨_, _, _⟩) (by simp) _⟩
set_option maxRecDepth 100000 in
set_option maxHeartbeats 4000000 in
theorem kread_s3 (tn : Bool) (S : ByteArray) (w : World) (hs0 : S.size ≤ 20000) (hE : Env w) (hN : ¬ S.data.toList = kNull) :
    Calls Tryz.prog 106 #[.agg #[.int .i64 3, .bool tn], .string S] w fun e w' => e = .returned (readV (kReadD 3 tn S.data.toList)) ∧ Below w.heap.size w w' := by
 have hs : S.size ≤ 100000 := by omega
 have ci := fun w' (hE : Env w') => read_3 S w' hs hE
 have cm := fun w' => may_any 3 tn w'
 rw [show kMay 3 = true from rfl] at cm; have hrl := kread_len 3 S.data.toList; obtain ⟨rn, hrn⟩ : ∃ rn, (kRead 3 S.data.toList).1 = rn := ⟨_, rfl⟩; obtain ⟨rs, hrs⟩ : ∃ rs, (kRead 3 S.data.toList).2 = rs := ⟨_, rfl⟩; rw [hrn, hrs] at ci
 have hg : kGuess 3 S.data.toList = (false, rn, rs) := by
  unfold kGuess; rw [if_neg hN, hrn, hrs]
 rw [hrs, lenS] at hrl; have hls : (⟨rs.toArray⟩ : ByteArray).size = rs.length := List.size_toArray
 have ct : ∀ w', Env w' → Calls Tryz.prog 147 #[.agg #[.int .i64 3, .bool tn], .agg #[.bool false, .int .i64 rn, .string ⟨rs.toArray⟩]] w' fun e w'' => e = .returned (.tuple #[.string ⟨(kTextD 3 tn false rn rs).toArray⟩, .int .i64 (kCheck 3 tn false rn rs)]) ∧ Below w'.heap.size w' w'' := fun w' (hE' : Env w') => ktext_any 3 tn false rn ⟨rs.toArray⟩ w' (by rw [hls]; omega) hE'
 have ok := readV_ok 3 tn S.data.toList rfl hg; have no := readV_no 3 tn S.data.toList rfl hg
 have e1 : (S.toList == [110, 117, 108, 108]) = false := by rw [Lib.toList_data]; rw [beq_eq_false_iff_ne]; exact hN
 have e2 : ¬ S.toList = [110, 117, 108, 108] := by rw [Lib.toList_data]; exact hN
 generalize kCheck 3 tn false rn rs = c at *
 generalize kTextD 3 tn false rn rs = L at *
 obtain ⟨LB, hLB⟩ : ∃ LB : ByteArray, (⟨L.toArray⟩ : ByteArray) = LB := ⟨_, rfl⟩
 have hLl : LB.data.toList = L := by rw [← hLB]
 rw [hLB] at ct; have b0 := Box2.start w #[.int .i64 3, .bool tn] #[.bool false, .int .i64 0, .string ⟨#[]⟩] 55 57; have kf := kfield2
 have HB0 := Lib.hid b0; have CI := Lib.hid ci; have CM := Lib.hid cm; have CT := Lib.hid ct; have HE := Lib.hid hE
 clear b0 ci cm ct hE hg hrn hrs hLB hrl hls
 by_cases hc : c = 0
 · by_cases hL : L = S.data.toList
   · rw [ok hc hL]; subst hc
     obtain rfl : LB = S := by rw [ba_ext (s := LB) rfl, hLl, hL]
     clear ok no hL hLl hN
     go_enter Tryz.func106, Tryz.ntmps106
     go_wp2_with fail
     refine (CM.out _).mono ?_; rintro en w1 ⟨rfl, b1⟩; have x1 := HB0.out.step b1; obtain ⟨c1, c2, c3, c4, c5⟩ := x1.tc; have X1 := Lib.hid x1; clear x1 b1
     go_wp2_with fail
     refine (of_3 tn _).mono ?_; rintro en w2 ⟨a, b, rfl, hp, b2⟩; have x2 := X1.out.step b2; clear c1 c2 c3 c4 c5
     go_wp2_with fail
     refine (CI.out _ (HE.out.below x2.bel)).mono ?_; rintro en w3 ⟨rfl, b3⟩; have x3 := x2.step b3; obtain ⟨c1, c2, c3, c4, c5⟩ := x3.tc; have bA : Below w3.heap.size w3 (w3.alloc (.cells #[.bool false, .int .i64 rn, .string ⟨rs.toArray⟩] 57)) := (Below.refl _ _).alloc (Nat.le_refl _) _; have x4 := x3.step bA
     have X3 := Lib.hid x3; have X4 := Lib.hid x4; have hl3 := x3.lt
     obtain ⟨a1, a2, a3, a4, a5⟩ := x4.tc
     have n1 : w.heap.size < w3.heap.size := by omega
     have n2 : w.heap.size + 1 < w3.heap.size := by omega
     clear x2 b2 b3 x3 x4 bA
     go_wp2_with fail
     refine (CT.out _ (HE.out.below X4.out.bel)).mono ?_; rintro en w5 ⟨rfl, b5⟩; have x5 := X4.out.step b5; clear c1 c2 c3 c4 c5 a1 a2 a3 a4 a5; obtain ⟨c1, c2, c3, c4, c5⟩ := x5.tc
     have hblk : w5.heap[w3.heap.size]? = some (.cells #[.bool false, .int .i64 rn, .string ⟨rs.toArray⟩] 57 (0, 0)) := by rw [b5.block _ (by simp)]; exact heap_alloc_new w3 _
     have g3 : w5.cell? ⟨w3.heap.size, 0, none⟩ = some (.bool false) := by rw [Lib.cell_of_heap hblk]; rfl
     have g4 : w5.cell? ⟨w3.heap.size, 1, none⟩ = some (.int .i64 rn) := by rw [Lib.cell_of_heap hblk]; rfl
     have g5 : w5.cell? ⟨w3.heap.size, 2, none⟩ = some (.string ⟨rs.toArray⟩) := by rw [Lib.cell_of_heap hblk]; rfl
     have f3 := Lib.frozen_of_heap x5.b2 0; have f4 := Lib.frozen_of_heap x5.b2 1; have f5 := Lib.frozen_of_heap x5.b2 2; have HB := Lib.hid x5.bel; clear x5 b5 hblk
     go_wp2_with fail
     exact bodyPost_ret (v := .tuple #[.agg #[.bool false, .int .i64 rn, .string ⟨rs.toArray⟩], .int .i64 0]) (by simp [results, Tryz.results106, go_sem, c3, c4, c5]) rfl ⟨rfl, ((HB.out.setCell (p := ⟨_, _, _⟩) (by simp) _).setCell (p := ⟨_, _, _⟩) (by simp) _).setCell (p := ⟨_, _, _⟩) (by simp) _⟩
   · rw [no (fun h => hL h.2)]; subst hc
     have q1 : (LB.toList == S.toList) = false := by rw [Lib.toList_data, Lib.toList_data, hLl]; rw [beq_eq_false_iff_ne]; exact hL
     have q2 : ¬ LB.toList = S.toList := by rw [Lib.toList_data, Lib.toList_data, hLl]; exact hL
     clear ok no hL hLl hN
     go_enter Tryz.func106, Tryz.ntmps106
     go_wp2_with fail
     refine (CM.out _).mono ?_; rintro en w1 ⟨rfl, b1⟩; have x1 := HB0.out.step b1; obtain ⟨c1, c2, c3, c4, c5⟩ := x1.tc; have X1 := Lib.hid x1; clear x1 b1
     go_wp2_with fail
     refine (of_3 tn _).mono ?_; rintro en w2 ⟨a, b, rfl, hp, b2⟩; have x2 := X1.out.step b2; clear c1 c2 c3 c4 c5
     go_wp2_with fail
     refine (CI.out _ (HE.out.below x2.bel)).mono ?_; rintro en w3 ⟨rfl, b3⟩; have x3 := x2.step b3; obtain ⟨c1, c2, c3, c4, c5⟩ := x3.tc; have bA : Below w3.heap.size w3 (w3.alloc (.cells #[.bool false, .int .i64 rn, .string ⟨rs.toArray⟩] 57)) := (Below.refl _ _).alloc (Nat.le_refl _) _; have x4 := x3.step bA
     have X3 := Lib.hid x3; have X4 := Lib.hid x4; have hl3 := x3.lt
     obtain ⟨a1, a2, a3, a4, a5⟩ := x4.tc
     have n1 : w.heap.size < w3.heap.size := by omega
     have n2 : w.heap.size + 1 < w3.heap.size := by omega
     clear x2 b2 b3 x3 x4 bA
     go_wp2_with fail
     refine (CT.out _ (HE.out.below X4.out.bel)).mono ?_; rintro en w5 ⟨rfl, b5⟩; have x5 := X4.out.step b5; clear c1 c2 c3 c4 c5 a1 a2 a3 a4 a5; obtain ⟨c1, c2, c3, c4, c5⟩ := x5.tc
     have hblk : w5.heap[w3.heap.size]? = some (.cells #[.bool false, .int .i64 rn, .string ⟨rs.toArray⟩] 57 (0, 0)) := by rw [b5.block _ (by simp)]; exact heap_alloc_new w3 _
     have g3 : w5.cell? ⟨w3.heap.size, 0, none⟩ = some (.bool false) := by rw [Lib.cell_of_heap hblk]; rfl
     have g4 : w5.cell? ⟨w3.heap.size, 1, none⟩ = some (.int .i64 rn) := by rw [Lib.cell_of_heap hblk]; rfl
     have g5 : w5.cell? ⟨w3.heap.size, 2, none⟩ = some (.string ⟨rs.toArray⟩) := by rw [Lib.cell_of_heap hblk]; rfl
     have f3 := Lib.frozen_of_heap x5.b2 0; have f4 := Lib.frozen_of_heap x5.b2 1; have f5 := Lib.frozen_of_heap x5.b2 2; have HB := Lib.hid x5.bel; clear x5 b5 hblk
     go_wp2_with fail
     exact bodyPost_ret (v := .tuple #[.agg #[.bool false, .int .i64 0, .string ⟨#[]⟩], .int .i64 4]) (by simp [results, Tryz.results106, go_sem, c3, c4, c5]) rfl ⟨rfl, ((HB.out.setCell (p := ⟨_, _, _⟩) (by simp) _).setCell (p := ⟨_, _, _⟩) (by simp) _).setCell (p := ⟨_, _, _⟩) (by simp) _⟩
 · rw [no (fun h => hc h.1)]
   have q1 : (c != 0) = true := by simpa using hc
   clear ok no hLl hN
   go_enter Tryz.func106, Tryz.ntmps106
   go_wp2_with fail
   refine (CM.out _).mono ?_; rintro en w1 ⟨rfl, b1⟩; have x1 := HB0.out.step b1; obtain ⟨c1, c2, c3, c4, c5⟩ := x1.tc; have X1 := Lib.hid x1; clear x1 b1
   go_wp2_with fail
   refine (of_3 tn _).mono ?_; rintro en w2 ⟨a, b, rfl, hp, b2⟩; have x2 := X1.out.step b2; clear c1 c2 c3 c4 c5
   go_wp2_with fail
   refine (CI.out _ (HE.out.below x2.bel)).mono ?_; rintro en w3 ⟨rfl, b3⟩; have x3 := x2.step b3; obtain ⟨c1, c2, c3, c4, c5⟩ := x3.tc; have bA : Below w3.heap.size w3 (w3.alloc (.cells #[.bool false, .int .i64 rn, .string ⟨rs.toArray⟩] 57)) := (Below.refl _ _).alloc (Nat.le_refl _) _; have x4 := x3.step bA
   have X3 := Lib.hid x3; have X4 := Lib.hid x4; have hl3 := x3.lt
   obtain ⟨a1, a2, a3, a4, a5⟩ := x4.tc
   have n1 : w.heap.size < w3.heap.size := by omega
   have n2 : w.heap.size + 1 < w3.heap.size := by omega
   clear x2 b2 b3 x3 x4 bA
   go_wp2_with fail
   refine (CT.out _ (HE.out.below X4.out.bel)).mono ?_; rintro en w5 ⟨rfl, b5⟩; have x5 := X4.out.step b5; clear c1 c2 c3 c4 c5 a1 a2 a3 a4 a5; obtain ⟨c1, c2, c3, c4, c5⟩ := x5.tc
   have hblk : w5.heap[w3.heap.size]? = some (.cells #[.bool false, .int .i64 rn, .string ⟨rs.toArray⟩] 57 (0, 0)) := by rw [b5.block _ (by simp)]; exact heap_alloc_new w3 _
   have g3 : w5.cell? ⟨w3.heap.size, 0, none⟩ = some (.bool false) := by rw [Lib.cell_of_heap hblk]; rfl
   have g4 : w5.cell? ⟨w3.heap.size, 1, none⟩ = some (.int .i64 rn) := by rw [Lib.cell_of_heap hblk]; rfl
   have g5 : w5.cell? ⟨w3.heap.size, 2, none⟩ = some (.string ⟨rs.toArray⟩) := by rw [Lib.cell_of_heap hblk]; rfl
   have f3 := Lib.frozen_of_heap x5.b2 0; have f4 := Lib.frozen_of_heap x5.b2 1; have f5 := Lib.frozen_of_heap x5.b2 2; have HB := Lib.hid x5.bel; clear x5 b5 hblk
   go_wp2_with fail
   exact bodyPost_ret (v := .tuple #[.agg #[.bool false, .int .i64 0, .string ⟨#[]⟩], .int .i64 4]) (by simp [results, Tryz.results106, go_sem, c3, c4, c5]) rfl ⟨rfl, ((HB.out.setCell (p := ⟨_, _, _⟩) (by simp) _).setCell (p := ⟨_, _, _⟩) (by simp) _).setCell (p := ⟨_, _, _⟩) (by simp) _⟩
set_option maxRecDepth 100000 in
set_option maxHeartbeats 4000000 in
theorem kread_n4 (tn : Bool) (w : World) (hE : Env w) :
    Calls Tryz.prog 106 #[.agg #[.int .i64 4, .bool tn], .string (⟨#[110, 117, 108, 108]⟩ : ByteArray)] w fun e w' => e = .returned (readV (kReadD 4 tn (⟨#[110, 117, 108, 108]⟩ : ByteArray).data.toList)) ∧ Below w.heap.size w w' := by
 have hs : (⟨#[110, 117, 108, 108]⟩ : ByteArray).size ≤ 100000 := by decide
 have ci := fun w' (hE : Env w') => read_4 (⟨#[110, 117, 108, 108]⟩ : ByteArray) w' hs hE
 have cm := fun w' => may_any 4 tn w'
 rw [show kMay 4 = true from rfl] at cm; have hrl := trivial; obtain ⟨rn, hrn⟩ : ∃ rn, (kRead 4 (⟨#[110, 117, 108, 108]⟩ : ByteArray).data.toList).1 = rn := ⟨_, rfl⟩; obtain ⟨rs, hrs⟩ : ∃ rs, (kRead 4 (⟨#[110, 117, 108, 108]⟩ : ByteArray).data.toList).2 = rs := ⟨_, rfl⟩; rw [hrn, hrs] at ci
 have hg : kGuess 4 (⟨#[110, 117, 108, 108]⟩ : ByteArray).data.toList = (true, 0, []) := by
  unfold kGuess; exact if_pos rfl
 have ct : ∀ w', Env w' → Calls Tryz.prog 147 #[.agg #[.int .i64 4, .bool tn], .agg #[.bool true, .int .i64 0, .string ⟨#[]⟩]] w' fun e w'' => e = .returned (.tuple #[.string ⟨(kTextD 4 tn true 0 []).toArray⟩, .int .i64 (kCheck 4 tn true 0 [])]) ∧ Below w'.heap.size w' w'' := fun w' (hE' : Env w') => ktext_any 4 tn true 0 ⟨#[]⟩ w' (by decide) hE'
 have ok := readV_ok 4 tn (⟨#[110, 117, 108, 108]⟩ : ByteArray).data.toList rfl hg; have no := readV_no 4 tn (⟨#[110, 117, 108, 108]⟩ : ByteArray).data.toList rfl hg
 generalize kCheck 4 tn true 0 [] = c at *
 generalize kTextD 4 tn true 0 [] = L at *
 obtain ⟨LB, hLB⟩ : ∃ LB : ByteArray, (⟨L.toArray⟩ : ByteArray) = LB := ⟨_, rfl⟩
 have hLl : LB.data.toList = L := by rw [← hLB]
 rw [hLB] at ct; have b0 := Box2.start w #[.int .i64 4, .bool tn] #[.bool false, .int .i64 0, .string ⟨#[]⟩] 55 57; have kf := kfield2
 have HB0 := Lib.hid b0; have CI := Lib.hid ci; have CM := Lib.hid cm; have CT := Lib.hid ct; have HE := Lib.hid hE
 clear b0 ci cm ct hE hg hrn hrs hLB hrl
 by_cases hc : c = 0
 · by_cases hL : L = (⟨#[110, 117, 108, 108]⟩ : ByteArray).data.toList
   · rw [ok hc hL]; subst hc
     obtain rfl : LB = (⟨#[110, 117, 108, 108]⟩ : ByteArray) := by rw [ba_ext (s := LB) rfl, hLl, hL]
     clear ok no hL hLl
     go_enter Tryz.func106, Tryz.ntmps106
     go_wp2_with fail
     refine (CM.out _).mono ?_; rintro en w1 ⟨rfl, b1⟩; have x1 := HB0.out.step b1; obtain ⟨c1, c2, c3, c4, c5⟩ := x1.tc; have X1 := Lib.hid x1; clear x1 b1
     go_wp2_with fail
     refine (of_4 tn _).mono ?_; rintro en w2 ⟨a, rfl, hp, b2⟩; have x2 := X1.out.step b2; clear c1 c2 c3 c4 c5
     go_wp2_with fail
     refine (CI.out _ (HE.out.below x2.bel)).mono ?_; rintro en w3 ⟨rfl, b3⟩; have x3 := x2.step b3; obtain ⟨c1, c2, c3, c4, c5⟩ := x3.tc; have bA : Below w3.heap.size w3 (w3.alloc (.cells #[.bool true, .int .i64 0, .string ⟨#[]⟩] 57)) := (Below.refl _ _).alloc (Nat.le_refl _) _; have x4 := x3.step bA
     have X3 := Lib.hid x3; have X4 := Lib.hid x4; have hl3 := x3.lt
     obtain ⟨a1, a2, a3, a4, a5⟩ := x4.tc
     have n1 : w.heap.size < w3.heap.size := by omega
     have n2 : w.heap.size + 1 < w3.heap.size := by omega
     clear x2 b2 b3 x3 x4 bA
     go_wp2_with fail
     refine (CT.out _ (HE.out.below X4.out.bel)).mono ?_; rintro en w5 ⟨rfl, b5⟩; have x5 := X4.out.step b5; clear c1 c2 c3 c4 c5 a1 a2 a3 a4 a5; obtain ⟨c1, c2, c3, c4, c5⟩ := x5.tc
     have hblk : w5.heap[w3.heap.size]? = some (.cells #[.bool true, .int .i64 0, .string ⟨#[]⟩] 57 (0, 0)) := by rw [b5.block _ (by simp)]; exact heap_alloc_new w3 _
     have g3 : w5.cell? ⟨w3.heap.size, 0, none⟩ = some (.bool true) := by rw [Lib.cell_of_heap hblk]; rfl
     have g4 : w5.cell? ⟨w3.heap.size, 1, none⟩ = some (.int .i64 0) := by rw [Lib.cell_of_heap hblk]; rfl
     have g5 : w5.cell? ⟨w3.heap.size, 2, none⟩ = some (.string ⟨#[]⟩) := by rw [Lib.cell_of_heap hblk]; rfl
     have f3 := Lib.frozen_of_heap x5.b2 0; have f4 := Lib.frozen_of_heap x5.b2 1; have f5 := Lib.frozen_of_heap x5.b2 2; have HB := Lib.hid x5.bel; clear x5 b5 hblk
     go_wp2_with fail
     exact bodyPost_ret (v := .tuple #[.agg #[.bool true, .int .i64 0, .string ⟨#[]⟩], .int .i64 0]) (by simp [results, Tryz.results106, go_sem, c3, c4, c5]) rfl ⟨rfl, ((HB.out.setCell (p := ⟨_, _, _⟩) (by simp) _).setCell (p := ⟨_, _, _⟩) (by simp) _).setCell (p := ⟨_, _, _⟩) (by simp) _⟩
   · rw [no (fun h => hL h.2)]; subst hc
     have q1 : (LB.toList == (⟨#[110, 117, 108, 108]⟩ : ByteArray).toList) = false := by rw [Lib.toList_data, Lib.toList_data, hLl]; rw [beq_eq_false_iff_ne]; exact hL
     have q2 : ¬ LB.toList = (⟨#[110, 117, 108, 108]⟩ : ByteArray).toList := by rw [Lib.toList_data, Lib.toList_data, hLl]; exact hL
     have q3 : (LB.toList == [110, 117, 108, 108]) = false := by rw [Lib.toList_data, hLl]; rw [beq_eq_false_iff_ne]; exact hL
     clear ok no hL hLl
     go_enter Tryz.func106, Tryz.ntmps106
     go_wp2_with fail
     refine (CM.out _).mono ?_; rintro en w1 ⟨rfl, b1⟩; have x1 := HB0.out.step b1; obtain ⟨c1, c2, c3, c4, c5⟩ := x1.tc; have X1 := Lib.hid x1; clear x1 b1
     go_wp2_with fail
     refine (of_4 tn _).mono ?_; rintro en w2 ⟨a, rfl, hp, b2⟩; have x2 := X1.out.step b2; clear c1 c2 c3 c4 c5
     go_wp2_with fail
     refine (CI.out _ (HE.out.below x2.bel)).mono ?_; rintro en w3 ⟨rfl, b3⟩; have x3 := x2.step b3; obtain ⟨c1, c2, c3, c4, c5⟩ := x3.tc; have bA : Below w3.heap.size w3 (w3.alloc (.cells #[.bool true, .int .i64 0, .string ⟨#[]⟩] 57)) := (Below.refl _ _).alloc (Nat.le_refl _) _; have x4 := x3.step bA
     have X3 := Lib.hid x3; have X4 := Lib.hid x4; have hl3 := x3.lt
     obtain ⟨a1, a2, a3, a4, a5⟩ := x4.tc
     have n1 : w.heap.size < w3.heap.size := by omega
     have n2 : w.heap.size + 1 < w3.heap.size := by omega
     clear x2 b2 b3 x3 x4 bA
     go_wp2_with fail
     refine (CT.out _ (HE.out.below X4.out.bel)).mono ?_; rintro en w5 ⟨rfl, b5⟩; have x5 := X4.out.step b5; clear c1 c2 c3 c4 c5 a1 a2 a3 a4 a5; obtain ⟨c1, c2, c3, c4, c5⟩ := x5.tc
     have hblk : w5.heap[w3.heap.size]? = some (.cells #[.bool true, .int .i64 0, .string ⟨#[]⟩] 57 (0, 0)) := by rw [b5.block _ (by simp)]; exact heap_alloc_new w3 _
     have g3 : w5.cell? ⟨w3.heap.size, 0, none⟩ = some (.bool true) := by rw [Lib.cell_of_heap hblk]; rfl
     have g4 : w5.cell? ⟨w3.heap.size, 1, none⟩ = some (.int .i64 0) := by rw [Lib.cell_of_heap hblk]; rfl
     have g5 : w5.cell? ⟨w3.heap.size, 2, none⟩ = some (.string ⟨#[]⟩) := by rw [Lib.cell_of_heap hblk]; rfl
     have f3 := Lib.frozen_of_heap x5.b2 0; have f4 := Lib.frozen_of_heap x5.b2 1; have f5 := Lib.frozen_of_heap x5.b2 2; have HB := Lib.hid x5.bel; clear x5 b5 hblk
     go_wp2_with fail
     exact bodyPost_ret (v := .tuple #[.agg #[.bool false, .int .i64 0, .string ⟨#[]⟩], .int .i64 4]) (by simp [results, Tryz.results106, go_sem, c3, c4, c5]) rfl ⟨rfl, ((HB.out.setCell (p := ⟨_, _, _⟩) (by simp) _).setCell (p := ⟨_, _, _⟩) (by simp) _).setCell (p := ⟨_, _, _⟩) (by simp) _⟩
 · rw [no (fun h => hc h.1)]
   have q1 : (c != 0) = true := by simpa using hc
   clear ok no hLl
   go_enter Tryz.func106, Tryz.ntmps106
   go_wp2_with fail
   refine (CM.out _).mono ?_; rintro en w1 ⟨rfl, b1⟩; have x1 := HB0.out.step b1; obtain ⟨c1, c2, c3, c4, c5⟩ := x1.tc; have X1 := Lib.hid x1; clear x1 b1
   go_wp2_with fail
   refine (of_4 tn _).mono ?_; rintro en w2 ⟨a, rfl, hp, b2⟩; have x2 := X1.out.step b2; clear c1 c2 c3 c4 c5
   go_wp2_with fail
   refine (CI.out _ (HE.out.below x2.bel)).mono ?_; rintro en w3 ⟨rfl, b3⟩; have x3 := x2.step b3; obtain ⟨c1, c2, c3, c4, c5⟩ := x3.tc; have bA : Below w3.heap.size w3 (w3.alloc (.cells #[.bool true, .int .i64 0, .string ⟨#[]⟩] 57)) := (Below.refl _ _).alloc (Nat.le_refl _) _; have x4 := x3.step bA
   have X3 := Lib.hid x3; have X4 := Lib.hid x4; have hl3 := x3.lt
   obtain ⟨a1, a2, a3, a4, a5⟩ := x4.tc
   have n1 : w.heap.size < w3.heap.size := by omega
   have n2 : w.heap.size + 1 < w3.heap.size := by omega
   clear x2 b2 b3 x3 x4 bA
   go_wp2_with fail
   refine (CT.out _ (HE.out.below X4.out.bel)).mono ?_; rintro en w5 ⟨rfl, b5⟩; have x5 := X4.out.step b5; clear c1 c2 c3 c4 c5 a1 a2 a3 a4 a5; obtain ⟨c1, c2, c3, c4, c5⟩ := x5.tc
   have hblk : w5.heap[w3.heap.size]? = some (.cells #[.bool true, .int .i64 0, .string ⟨#[]⟩] 57 (0, 0)) := by rw [b5.block _ (by simp)]; exact heap_alloc_new w3 _
   have g3 : w5.cell? ⟨w3.heap.size, 0, none⟩ = some (.bool true) := by rw [Lib.cell_of_heap hblk]; rfl
   have g4 : w5.cell? ⟨w3.heap.size, 1, none⟩ = some (.int .i64 0) := by rw [Lib.cell_of_heap hblk]; rfl
   have g5 : w5.cell? ⟨w3.heap.size, 2, none⟩ = some (.string ⟨#[]⟩) := by rw [Lib.cell_of_heap hblk]; rfl
   have f3 := Lib.frozen_of_heap x5.b2 0; have f4 := Lib.frozen_of_heap x5.b2 1; have f5 := Lib.frozen_of_heap x5.b2 2; have HB := Lib.hid x5.bel; clear x5 b5 hblk
   go_wp2_with fail
   exact bodyPost_ret (v := .tuple #[.agg #[.bool false, .int .i64 0, .string ⟨#[]⟩], .int .i64 4]) (by simp [results, Tryz.results106, go_sem, c3, c4, c5]) rfl ⟨rfl, ((HB.out.setCell (p := ⟨_, _, _⟩) (by simp) _).setCell (p := ⟨_, _, _⟩) (by simp) _).setCell (p := ⟨_, _, _⟩) (by simp) _⟩
set_option maxRecDepth 100000 in
set_option maxHeartbeats 4000000 in
theorem kread_s4 (tn : Bool) (S : ByteArray) (w : World) (hs0 : S.size ≤ 20000) (hE : Env w) (hN : ¬ S.data.toList = kNull) :
    Calls Tryz.prog 106 #[.agg #[.int .i64 4, .bool tn], .string S] w fun e w' => e = .returned (readV (kReadD 4 tn S.data.toList)) ∧ Below w.heap.size w w' := by
 have hs : S.size ≤ 100000 := by omega
 have ci := fun w' (hE : Env w') => read_4 S w' hs hE
 have cm := fun w' => may_any 4 tn w'
 rw [show kMay 4 = true from rfl] at cm; have hrl := kread_len 4 S.data.toList; obtain ⟨rn, hrn⟩ : ∃ rn, (kRead 4 S.data.toList).1 = rn := ⟨_, rfl⟩; obtain ⟨rs, hrs⟩ : ∃ rs, (kRead 4 S.data.toList).2 = rs := ⟨_, rfl⟩; rw [hrn, hrs] at ci
 have hg : kGuess 4 S.data.toList = (false, rn, rs) := by
  unfold kGuess; rw [if_neg hN, hrn, hrs]
 rw [hrs, lenS] at hrl; have hls : (⟨rs.toArray⟩ : ByteArray).size = rs.length := List.size_toArray
 have ct : ∀ w', Env w' → Calls Tryz.prog 147 #[.agg #[.int .i64 4, .bool tn], .agg #[.bool false, .int .i64 rn, .string ⟨rs.toArray⟩]] w' fun e w'' => e = .returned (.tuple #[.string ⟨(kTextD 4 tn false rn rs).toArray⟩, .int .i64 (kCheck 4 tn false rn rs)]) ∧ Below w'.heap.size w' w'' := fun w' (hE' : Env w') => ktext_any 4 tn false rn ⟨rs.toArray⟩ w' (by rw [hls]; omega) hE'
 have ok := readV_ok 4 tn S.data.toList rfl hg; have no := readV_no 4 tn S.data.toList rfl hg
 have e1 : (S.toList == [110, 117, 108, 108]) = false := by rw [Lib.toList_data]; rw [beq_eq_false_iff_ne]; exact hN
 have e2 : ¬ S.toList = [110, 117, 108, 108] := by rw [Lib.toList_data]; exact hN
 generalize kCheck 4 tn false rn rs = c at *
 generalize kTextD 4 tn false rn rs = L at *
 obtain ⟨LB, hLB⟩ : ∃ LB : ByteArray, (⟨L.toArray⟩ : ByteArray) = LB := ⟨_, rfl⟩
 have hLl : LB.data.toList = L := by rw [← hLB]
 rw [hLB] at ct; have b0 := Box2.start w #[.int .i64 4, .bool tn] #[.bool false, .int .i64 0, .string ⟨#[]⟩] 55 57; have kf := kfield2
 have HB0 := Lib.hid b0; have CI := Lib.hid ci; have CM := Lib.hid cm; have CT := Lib.hid ct; have HE := Lib.hid hE
 clear b0 ci cm ct hE hg hrn hrs hLB hrl hls
 by_cases hc : c = 0
 · by_cases hL : L = S.data.toList
   · rw [ok hc hL]; subst hc
     obtain rfl : LB = S := by rw [ba_ext (s := LB) rfl, hLl, hL]
     clear ok no hL hLl hN
     go_enter Tryz.func106, Tryz.ntmps106
     go_wp2_with fail
     refine (CM.out _).mono ?_; rintro en w1 ⟨rfl, b1⟩; have x1 := HB0.out.step b1; obtain ⟨c1, c2, c3, c4, c5⟩ := x1.tc; have X1 := Lib.hid x1; clear x1 b1
     go_wp2_with fail
     refine (of_4 tn _).mono ?_; rintro en w2 ⟨a, rfl, hp, b2⟩; have x2 := X1.out.step b2; clear c1 c2 c3 c4 c5
     go_wp2_with fail
     refine (CI.out _ (HE.out.below x2.bel)).mono ?_; rintro en w3 ⟨rfl, b3⟩; have x3 := x2.step b3; obtain ⟨c1, c2, c3, c4, c5⟩ := x3.tc; have bA : Below w3.heap.size w3 (w3.alloc (.cells #[.bool false, .int .i64 rn, .string ⟨rs.toArray⟩] 57)) := (Below.refl _ _).alloc (Nat.le_refl _) _; have x4 := x3.step bA
     have X3 := Lib.hid x3; have X4 := Lib.hid x4; have hl3 := x3.lt
     obtain ⟨a1, a2, a3, a4, a5⟩ := x4.tc
     have n1 : w.heap.size < w3.heap.size := by omega
     have n2 : w.heap.size + 1 < w3.heap.size := by omega
     clear x2 b2 b3 x3 x4 bA
     go_wp2_with fail
     refine (CT.out _ (HE.out.below X4.out.bel)).mono ?_; rintro en w5 ⟨rfl, b5⟩; have x5 := X4.out.step b5; clear c1 c2 c3 c4 c5 a1 a2 a3 a4 a5; obtain ⟨c1, c2, c3, c4, c5⟩ := x5.tc
     have hblk : w5.heap[w3.heap.size]? = some (.cells #[.bool false, .int .i64 rn, .string ⟨rs.toArray⟩] 57 (0, 0)) := by rw [b5.block _ (by simp)]; exact heap_alloc_new w3 _
     have g3 : w5.cell? ⟨w3.heap.size, 0, none⟩ = some (.bool false) := by rw [Lib.cell_of_heap hblk]; rfl
     have g4 : w5.cell? ⟨w3.heap.size, 1, none⟩ = some (.int .i64 rn) := by rw [Lib.cell_of_heap hblk]; rfl
     have g5 : w5.cell? ⟨w3.heap.size, 2, none⟩ = some (.string ⟨rs.toArray⟩) := by rw [Lib.cell_of_heap hblk]; rfl
     have f3 := Lib.frozen_of_heap x5.b2 0; have f4 := Lib.frozen_of_heap x5.b2 1; have f5 := Lib.frozen_of_heap x5.b2 2; have HB := Lib.hid x5.bel; clear x5 b5 hblk
     go_wp2_with fail
     exact bodyPost_ret (v := .tuple #[.agg #[.bool false, .int .i64 rn, .string ⟨rs.toArray⟩], .int .i64 0]) (by simp [results, Tryz.results106, go_sem, c3, c4, c5]) rfl ⟨rfl, ((HB.out.setCell (p := ⟨_, _, _⟩) (by simp) _).setCell (p := ⟨_, _, _⟩) (by simp) _).setCell (p := ⟨_, _, _⟩) (by simp) _⟩
   · rw [no (fun h => hL h.2)]; subst hc
     have q1 : (LB.toList == S.toList) = false := by rw [Lib.toList_data, Lib.toList_data, hLl]; rw [beq_eq_false_iff_ne]; exact hL
     have q2 : ¬ LB.toList = S.toList := by rw [Lib.toList_data, Lib.toList_data, hLl]; exact hL
     clear ok no hL hLl hN
     go_enter Tryz.func106, Tryz.ntmps106
     go_wp2_with fail
     refine (CM.out _).mono ?_; rintro en w1 ⟨rfl, b1⟩; have x1 := HB0.out.step b1; obtain ⟨c1, c2, c3, c4, c5⟩ := x1.tc; have X1 := Lib.hid x1; clear x1 b1
     go_wp2_with fail
     refine (of_4 tn _).mono ?_; rintro en w2 ⟨a, rfl, hp, b2⟩; have x2 := X1.out.step b2; clear c1 c2 c3 c4 c5
     go_wp2_with fail
     refine (CI.out _ (HE.out.below x2.bel)).mono ?_; rintro en w3 ⟨rfl, b3⟩; have x3 := x2.step b3; obtain ⟨c1, c2, c3, c4, c5⟩ := x3.tc; have bA : Below w3.heap.size w3 (w3.alloc (.cells #[.bool false, .int .i64 rn, .string ⟨rs.toArray⟩] 57)) := (Below.refl _ _).alloc (Nat.le_refl _) _; have x4 := x3.step bA
     have X3 := Lib.hid x3; have X4 := Lib.hid x4; have hl3 := x3.lt
     obtain ⟨a1, a2, a3, a4, a5⟩ := x4.tc
     have n1 : w.heap.size < w3.heap.size := by omega
     have n2 : w.heap.size + 1 < w3.heap.size := by omega
     clear x2 b2 b3 x3 x4 bA
     go_wp2_with fail
     refine (CT.out _ (HE.out.below X4.out.bel)).mono ?_; rintro en w5 ⟨rfl, b5⟩; have x5 := X4.out.step b5; clear c1 c2 c3 c4 c5 a1 a2 a3 a4 a5; obtain ⟨c1, c2, c3, c4, c5⟩ := x5.tc
     have hblk : w5.heap[w3.heap.size]? = some (.cells #[.bool false, .int .i64 rn, .string ⟨rs.toArray⟩] 57 (0, 0)) := by rw [b5.block _ (by simp)]; exact heap_alloc_new w3 _
     have g3 : w5.cell? ⟨w3.heap.size, 0, none⟩ = some (.bool false) := by rw [Lib.cell_of_heap hblk]; rfl
     have g4 : w5.cell? ⟨w3.heap.size, 1, none⟩ = some (.int .i64 rn) := by rw [Lib.cell_of_heap hblk]; rfl
     have g5 : w5.cell? ⟨w3.heap.size, 2, none⟩ = some (.string ⟨rs.toArray⟩) := by rw [Lib.cell_of_heap hblk]; rfl
     have f3 := Lib.frozen_of_heap x5.b2 0; have f4 := Lib.frozen_of_heap x5.b2 1; have f5 := Lib.frozen_of_heap x5.b2 2; have HB := Lib.hid x5.bel; clear x5 b5 hblk
     go_wp2_with fail
     exact bodyPost_ret (v := .tuple #[.agg #[.bool false, .int .i64 0, .string ⟨#[]⟩], .int .i64 4]) (by simp [results, Tryz.results106, go_sem, c3, c4, c5]) rfl ⟨rfl, ((HB.out.setCell (p := ⟨_, _, _⟩) (by simp) _).setCell (p := ⟨_, _, _⟩) (by simp) _).setCell (p := ⟨_, _, _⟩) (by simp) _⟩
 · rw [no (fun h => hc h.1)]
   have q1 : (c != 0) = true := by simpa using hc
   clear ok no hLl hN
   go_enter Tryz.func106, Tryz.ntmps106
   go_wp2_with fail
   refine (CM.out _).mono ?_; rintro en w1 ⟨rfl, b1⟩; have x1 := HB0.out.step b1; obtain ⟨c1, c2, c3, c4, c5⟩ := x1.tc; have X1 := Lib.hid x1; clear x1 b1
   go_wp2_with fail
   refine (of_4 tn _).mono ?_; rintro en w2 ⟨a, rfl, hp, b2⟩; have x2 := X1.out.step b2; clear c1 c2 c3 c4 c5
   go_wp2_with fail
   refine (CI.out _ (HE.out.below x2.bel)).mono ?_; rintro en w3 ⟨rfl, b3⟩; have x3 := x2.step b3; obtain ⟨c1, c2, c3, c4, c5⟩ := x3.tc; have bA : Below w3.heap.size w3 (w3.alloc (.cells #[.bool false, .int .i64 rn, .string ⟨rs.toArray⟩] 57)) := (Below.refl _ _).alloc (Nat.le_refl _) _; have x4 := x3.step bA
   have X3 := Lib.hid x3; have X4 := Lib.hid x4; have hl3 := x3.lt
   obtain ⟨a1, a2, a3, a4, a5⟩ := x4.tc
   have n1 : w.heap.size < w3.heap.size := by omega
   have n2 : w.heap.size + 1 < w3.heap.size := by omega
   clear x2 b2 b3 x3 x4 bA
   go_wp2_with fail
   refine (CT.out _ (HE.out.below X4.out.bel)).mono ?_; rintro en w5 ⟨rfl, b5⟩; have x5 := X4.out.step b5; clear c1 c2 c3 c4 c5 a1 a2 a3 a4 a5; obtain ⟨c1, c2, c3, c4, c5⟩ := x5.tc
   have hblk : w5.heap[w3.heap.size]? = some (.cells #[.bool false, .int .i64 rn, .string ⟨rs.toArray⟩] 57 (0, 0)) := by rw [b5.block _ (by simp)]; exact heap_alloc_new w3 _
   have g3 : w5.cell? ⟨w3.heap.size, 0, none⟩ = some (.bool false) := by rw [Lib.cell_of_heap hblk]; rfl
   have g4 : w5.cell? ⟨w3.heap.size, 1, none⟩ = some (.int .i64 rn) := by rw [Lib.cell_of_heap hblk]; rfl
   have g5 : w5.cell? ⟨w3.heap.size, 2, none⟩ = some (.string ⟨rs.toArray⟩) := by rw [Lib.cell_of_heap hblk]; rfl
   have f3 := Lib.frozen_of_heap x5.b2 0; have f4 := Lib.frozen_of_heap x5.b2 1; have f5 := Lib.frozen_of_heap x5.b2 2; have HB := Lib.hid x5.bel; clear x5 b5 hblk
   go_wp2_with fail
   exact bodyPost_ret (v := .tuple #[.agg #[.bool false, .int .i64 0, .string ⟨#[]⟩], .int .i64 4]) (by simp [results, Tryz.results106, go_sem, c3, c4, c5]) rfl ⟨rfl, ((HB.out.setCell (p := ⟨_, _, _⟩) (by simp) _).setCell (p := ⟨_, _, _⟩) (by simp) _).setCell (p := ⟨_, _, _⟩) (by simp) _⟩
set_option maxRecDepth 100000 in
set_option maxHeartbeats 4000000 in
theorem kread_n5 (tn : Bool) (w : World) (hE : Env w) :
    Calls Tryz.prog 106 #[.agg #[.int .i64 5, .bool tn], .string (⟨#[110, 117, 108, 108]⟩ : ByteArray)] w fun e w' => e = .returned (readV (kReadD 5 tn (⟨#[110, 117, 108, 108]⟩ : ByteArray).data.toList)) ∧ Below w.heap.size w w' := by
 have hs : (⟨#[110, 117, 108, 108]⟩ : ByteArray).size ≤ 100000 := by decide
 have ci := fun w' => read_5 (⟨#[110, 117, 108, 108]⟩ : ByteArray) w' hs
 have cm := fun w' => may_any 5 tn w'
 rw [show kMay 5 = true from rfl] at cm; have hrl := trivial; obtain ⟨rn, hrn⟩ : ∃ rn, (kRead 5 (⟨#[110, 117, 108, 108]⟩ : ByteArray).data.toList).1 = rn := ⟨_, rfl⟩; obtain ⟨rs, hrs⟩ : ∃ rs, (kRead 5 (⟨#[110, 117, 108, 108]⟩ : ByteArray).data.toList).2 = rs := ⟨_, rfl⟩; rw [hrn, hrs] at ci
 have hg : kGuess 5 (⟨#[110, 117, 108, 108]⟩ : ByteArray).data.toList = (true, 0, []) := by
  unfold kGuess; exact if_pos rfl
 have ct : ∀ w', Env w' → Calls Tryz.prog 147 #[.agg #[.int .i64 5, .bool tn], .agg #[.bool true, .int .i64 0, .string ⟨#[]⟩]] w' fun e w'' => e = .returned (.tuple #[.string ⟨(kTextD 5 tn true 0 []).toArray⟩, .int .i64 (kCheck 5 tn true 0 [])]) ∧ Below w'.heap.size w' w'' := fun w' (hE' : Env w') => ktext_any 5 tn true 0 ⟨#[]⟩ w' (by decide) hE'
 have ok := readV_ok 5 tn (⟨#[110, 117, 108, 108]⟩ : ByteArray).data.toList rfl hg; have no := readV_no 5 tn (⟨#[110, 117, 108, 108]⟩ : ByteArray).data.toList rfl hg
 generalize kCheck 5 tn true 0 [] = c at *
 generalize kTextD 5 tn true 0 [] = L at *
 obtain ⟨LB, hLB⟩ : ∃ LB : ByteArray, (⟨L.toArray⟩ : ByteArray) = LB := ⟨_, rfl⟩
 have hLl : LB.data.toList = L := by rw [← hLB]
 rw [hLB] at ct; have b0 := Box2.start w #[.int .i64 5, .bool tn] #[.bool false, .int .i64 0, .string ⟨#[]⟩] 55 57; have kf := kfield2
 have HB0 := Lib.hid b0; have CI := Lib.hid ci; have CM := Lib.hid cm; have CT := Lib.hid ct; have HE := Lib.hid hE
 clear b0 ci cm ct hE hg hrn hrs hLB hrl
 by_cases hc : c = 0
 · by_cases hL : L = (⟨#[110, 117, 108, 108]⟩ : ByteArray).data.toList
   · rw [ok hc hL]; subst hc
     obtain rfl : LB = (⟨#[110, 117, 108, 108]⟩ : ByteArray) := by rw [ba_ext (s := LB) rfl, hLl, hL]
     clear ok no hL hLl
     go_enter Tryz.func106, Tryz.ntmps106
     go_wp2_with fail
     refine (CM.out _).mono ?_; rintro en w1 ⟨rfl, b1⟩; have x1 := HB0.out.step b1; obtain ⟨c1, c2, c3, c4, c5⟩ := x1.tc; have X1 := Lib.hid x1; clear x1 b1
     go_wp2_with fail
     refine (of_5 tn _).mono ?_; rintro en w2 ⟨rfl, b2⟩; have x2 := X1.out.step b2; clear c1 c2 c3 c4 c5
     go_wp2_with fail
     refine (CI.out _).mono ?_; rintro en w3 ⟨rfl, b3⟩; have x3 := x2.step b3; obtain ⟨c1, c2, c3, c4, c5⟩ := x3.tc; have bA : Below w3.heap.size w3 (w3.alloc (.cells #[.bool true, .int .i64 0, .string ⟨#[]⟩] 57)) := (Below.refl _ _).alloc (Nat.le_refl _) _; have x4 := x3.step bA
     have X3 := Lib.hid x3; have X4 := Lib.hid x4; have hl3 := x3.lt
     obtain ⟨a1, a2, a3, a4, a5⟩ := x4.tc
     have n1 : w.heap.size < w3.heap.size := by omega
     have n2 : w.heap.size + 1 < w3.heap.size := by omega
     clear x2 b2 b3 x3 x4 bA
     go_wp2_with fail
     refine (CT.out _ (HE.out.below X4.out.bel)).mono ?_; rintro en w5 ⟨rfl, b5⟩; have x5 := X4.out.step b5; clear c1 c2 c3 c4 c5 a1 a2 a3 a4 a5; obtain ⟨c1, c2, c3, c4, c5⟩ := x5.tc
     have hblk : w5.heap[w3.heap.size]? = some (.cells #[.bool true, .int .i64 0, .string ⟨#[]⟩] 57 (0, 0)) := by rw [b5.block _ (by simp)]; exact heap_alloc_new w3 _
     have g3 : w5.cell? ⟨w3.heap.size, 0, none⟩ = some (.bool true) := by rw [Lib.cell_of_heap hblk]; rfl
     have g4 : w5.cell? ⟨w3.heap.size, 1, none⟩ = some (.int .i64 0) := by rw [Lib.cell_of_heap hblk]; rfl
     have g5 : w5.cell? ⟨w3.heap.size, 2, none⟩ = some (.string ⟨#[]⟩) := by rw [Lib.cell_of_heap hblk]; rfl
     have f3 := Lib.frozen_of_heap x5.b2 0; have f4 := Lib.frozen_of_heap x5.b2 1; have f5 := Lib.frozen_of_heap x5.b2 2; have HB := Lib.hid x5.bel; clear x5 b5 hblk
     go_wp2_with fail
     exact bodyPost_ret (v := .tuple #[.agg #[.bool true, .int .i64 0, .string ⟨#[]⟩], .int .i64 0]) (by simp [results, Tryz.results106, go_sem, c3, c4, c5]) rfl ⟨rfl, ((HB.out.setCell (p := ⟨_, _, _⟩) (by simp) _).setCell (p := ⟨_, _, _⟩) (by simp) _).setCell (p := ⟨_, _, _⟩) (by simp) _⟩
   · rw [no (fun h => hL h.2)]; subst hc
     have q1 : (LB.toList == (⟨#[110, 117, 108, 108]⟩ : ByteArray).toList) = false := by rw [Lib.toList_data, Lib.toList_data, hLl]; rw [beq_eq_false_iff_ne]; exact hL
     have q2 : ¬ LB.toList = (⟨#[110, 117, 108, 108]⟩ : ByteArray).toList := by rw [Lib.toList_data, Lib.toList_data, hLl]; exact hL
     have q3 : (LB.toList == [110, 117, 108, 108]) = false := by rw [Lib.toList_data, hLl]; rw [beq_eq_false_iff_ne]; exact hL
     clear ok no hL hLl
     go_enter Tryz.func106, Tryz.ntmps106
     go_wp2_with fail
     refine (CM.out _).mono ?_; rintro en w1 ⟨rfl, b1⟩; have x1 := HB0.out.step b1; obtain ⟨c1, c2, c3, c4, c5⟩ := x1.tc; have X1 := Lib.hid x1; clear x1 b1
     go_wp2_with fail
     refine (of_5 tn _).mono ?_; rintro en w2 ⟨rfl, b2⟩; have x2 := X1.out.step b2; clear c1 c2 c3 c4 c5
     go_wp2_with fail
     refine (CI.out _).mono ?_; rintro en w3 ⟨rfl, b3⟩; have x3 := x2.step b3; obtain ⟨c1, c2, c3, c4, c5⟩ := x3.tc; have bA : Below w3.heap.size w3 (w3.alloc (.cells #[.bool true, .int .i64 0, .string ⟨#[]⟩] 57)) := (Below.refl _ _).alloc (Nat.le_refl _) _; have x4 := x3.step bA
     have X3 := Lib.hid x3; have X4 := Lib.hid x4; have hl3 := x3.lt
     obtain ⟨a1, a2, a3, a4, a5⟩ := x4.tc
     have n1 : w.heap.size < w3.heap.size := by omega
     have n2 : w.heap.size + 1 < w3.heap.size := by omega
     clear x2 b2 b3 x3 x4 bA
     go_wp2_with fail
     refine (CT.out _ (HE.out.below X4.out.bel)).mono ?_; rintro en w5 ⟨rfl, b5⟩; have x5 := X4.out.step b5; clear c1 c2 c3 c4 c5 a1 a2 a3 a4 a5; obtain ⟨c1, c2, c3, c4, c5⟩ := x5.tc
     have hblk : w5.heap[w3.heap.size]? = some (.cells #[.bool true, .int .i64 0, .string ⟨#[]⟩] 57 (0, 0)) := by rw [b5.block _ (by simp)]; exact heap_alloc_new w3 _
     have g3 : w5.cell? ⟨w3.heap.size, 0, none⟩ = some (.bool true) := by rw [Lib.cell_of_heap hblk]; rfl
     have g4 : w5.cell? ⟨w3.heap.size, 1, none⟩ = some (.int .i64 0) := by rw [Lib.cell_of_heap hblk]; rfl
     have g5 : w5.cell? ⟨w3.heap.size, 2, none⟩ = some (.string ⟨#[]⟩) := by rw [Lib.cell_of_heap hblk]; rfl
     have f3 := Lib.frozen_of_heap x5.b2 0; have f4 := Lib.frozen_of_heap x5.b2 1; have f5 := Lib.frozen_of_heap x5.b2 2; have HB := Lib.hid x5.bel; clear x5 b5 hblk
     go_wp2_with fail
     exact bodyPost_ret (v := .tuple #[.agg #[.bool false, .int .i64 0, .string ⟨#[]⟩], .int .i64 4]) (by simp [results, Tryz.results106, go_sem, c3, c4, c5]) rfl ⟨rfl, ((HB.out.setCell (p := ⟨_, _, _⟩) (by simp) _).setCell (p := ⟨_, _, _⟩) (by simp) _).setCell (p := ⟨_, _, _⟩) (by simp) _⟩
 · rw [no (fun h => hc h.1)]
   have q1 : (c != 0) = true := by simpa using hc
   clear ok no hLl
   go_enter Tryz.func106, Tryz.ntmps106
   go_wp2_with fail
   refine (CM.out _).mono ?_; rintro en w1 ⟨rfl, b1⟩; have x1 := HB0.out.step b1; obtain ⟨c1, c2, c3, c4, c5⟩ := x1.tc; have X1 := Lib.hid x1; clear x1 b1
   go_wp2_with fail
   refine (of_5 tn _).mono ?_; rintro en w2 ⟨rfl, b2⟩; have x2 := X1.out.step b2; clear c1 c2 c3 c4 c5
   go_wp2_with fail
   refine (CI.out _).mono ?_; rintro en w3 ⟨rfl, b3⟩; have x3 := x2.step b3; obtain ⟨c1, c2, c3, c4, c5⟩ := x3.tc; have bA : Below w3.heap.size w3 (w3.alloc (.cells #[.bool true, .int .i64 0, .string ⟨#[]⟩] 57)) := (Below.refl _ _).alloc (Nat.le_refl _) _; have x4 := x3.step bA
   have X3 := Lib.hid x3; have X4 := Lib.hid x4; have hl3 := x3.lt
   obtain ⟨a1, a2, a3, a4, a5⟩ := x4.tc
   have n1 : w.heap.size < w3.heap.size := by omega
   have n2 : w.heap.size + 1 < w3.heap.size := by omega
   clear x2 b2 b3 x3 x4 bA
   go_wp2_with fail
   refine (CT.out _ (HE.out.below X4.out.bel)).mono ?_; rintro en w5 ⟨rfl, b5⟩; have x5 := X4.out.step b5; clear c1 c2 c3 c4 c5 a1 a2 a3 a4 a5; obtain ⟨c1, c2, c3, c4, c5⟩ := x5.tc
   have hblk : w5.heap[w3.heap.size]? = some (.cells #[.bool true, .int .i64 0, .string ⟨#[]⟩] 57 (0, 0)) := by rw [b5.block _ (by simp)]; exact heap_alloc_new w3 _
   have g3 : w5.cell? ⟨w3.heap.size, 0, none⟩ = some (.bool true) := by rw [Lib.cell_of_heap hblk]; rfl
   have g4 : w5.cell? ⟨w3.heap.size, 1, none⟩ = some (.int .i64 0) := by rw [Lib.cell_of_heap hblk]; rfl
   have g5 : w5.cell? ⟨w3.heap.size, 2, none⟩ = some (.string ⟨#[]⟩) := by rw [Lib.cell_of_heap hblk]; rfl
   have f3 := Lib.frozen_of_heap x5.b2 0; have f4 := Lib.frozen_of_heap x5.b2 1; have f5 := Lib.frozen_of_heap x5.b2 2; have HB := Lib.hid x5.bel; clear x5 b5 hblk
   go_wp2_with fail
   exact bodyPost_ret (v := .tuple #[.agg #[.bool false, .int .i64 0, .string ⟨#[]⟩], .int .i64 4]) (by simp [results, Tryz.results106, go_sem, c3, c4, c5]) rfl ⟨rfl, ((HB.out.setCell (p := ⟨_, _, _⟩) (by simp) _).setCell (p := ⟨_, _, _⟩) (by simp) _).setCell (p := ⟨_, _, _⟩) (by simp) _⟩
set_option maxRecDepth 100000 in
set_option maxHeartbeats 4000000 in
theorem kread_s5 (tn : Bool) (S : ByteArray) (w : World) (hs0 : S.size ≤ 20000) (hE : Env w) (hN : ¬ S.data.toList = kNull) :
    Calls Tryz.prog 106 #[.agg #[.int .i64 5, .bool tn], .string S] w fun e w' => e = .returned (readV (kReadD 5 tn S.data.toList)) ∧ Below w.heap.size w w' := by
 have hs : S.size ≤ 100000 := by omega
 have ci := fun w' => read_5 S w' hs
 have cm := fun w' => may_any 5 tn w'
 rw [show kMay 5 = true from rfl] at cm; have hrl := kread_len 5 S.data.toList; obtain ⟨rn, hrn⟩ : ∃ rn, (kRead 5 S.data.toList).1 = rn := ⟨_, rfl⟩; obtain ⟨rs, hrs⟩ : ∃ rs, (kRead 5 S.data.toList).2 = rs := ⟨_, rfl⟩; rw [hrn, hrs] at ci
 have hg : kGuess 5 S.data.toList = (false, rn, rs) := by
  unfold kGuess; rw [if_neg hN, hrn, hrs]
 rw [hrs, lenS] at hrl; have hls : (⟨rs.toArray⟩ : ByteArray).size = rs.length := List.size_toArray
 have ct : ∀ w', Env w' → Calls Tryz.prog 147 #[.agg #[.int .i64 5, .bool tn], .agg #[.bool false, .int .i64 rn, .string ⟨rs.toArray⟩]] w' fun e w'' => e = .returned (.tuple #[.string ⟨(kTextD 5 tn false rn rs).toArray⟩, .int .i64 (kCheck 5 tn false rn rs)]) ∧ Below w'.heap.size w' w'' := fun w' (hE' : Env w') => ktext_any 5 tn false rn ⟨rs.toArray⟩ w' (by rw [hls]; omega) hE'
 have ok := readV_ok 5 tn S.data.toList rfl hg; have no := readV_no 5 tn S.data.toList rfl hg
 have e1 : (S.toList == [110, 117, 108, 108]) = false := by rw [Lib.toList_data]; rw [beq_eq_false_iff_ne]; exact hN
 have e2 : ¬ S.toList = [110, 117, 108, 108] := by rw [Lib.toList_data]; exact hN
 generalize kCheck 5 tn false rn rs = c at *
 generalize kTextD 5 tn false rn rs = L at *
 obtain ⟨LB, hLB⟩ : ∃ LB : ByteArray, (⟨L.toArray⟩ : ByteArray) = LB := ⟨_, rfl⟩
 have hLl : LB.data.toList = L := by rw [← hLB]
 rw [hLB] at ct; have b0 := Box2.start w #[.int .i64 5, .bool tn] #[.bool false, .int .i64 0, .string ⟨#[]⟩] 55 57; have kf := kfield2
 have HB0 := Lib.hid b0; have CI := Lib.hid ci; have CM := Lib.hid cm; have CT := Lib.hid ct; have HE := Lib.hid hE
 clear b0 ci cm ct hE hg hrn hrs hLB hrl hls
 by_cases hc : c = 0
 · by_cases hL : L = S.data.toList
   · rw [ok hc hL]; subst hc
     obtain rfl : LB = S := by rw [ba_ext (s := LB) rfl, hLl, hL]
     clear ok no hL hLl hN
     go_enter Tryz.func106, Tryz.ntmps106
     go_wp2_with fail
     refine (CM.out _).mono ?_; rintro en w1 ⟨rfl, b1⟩; have x1 := HB0.out.step b1; obtain ⟨c1, c2, c3, c4, c5⟩ := x1.tc; have X1 := Lib.hid x1; clear x1 b1
     go_wp2_with fail
     refine (of_5 tn _).mono ?_; rintro en w2 ⟨rfl, b2⟩; have x2 := X1.out.step b2; clear c1 c2 c3 c4 c5
     go_wp2_with fail
     refine (CI.out _).mono ?_; rintro en w3 ⟨rfl, b3⟩; have x3 := x2.step b3; obtain ⟨c1, c2, c3, c4, c5⟩ := x3.tc; have bA : Below w3.heap.size w3 (w3.alloc (.cells #[.bool false, .int .i64 rn, .string ⟨rs.toArray⟩] 57)) := (Below.refl _ _).alloc (Nat.le_refl _) _; have x4 := x3.step bA
     have X3 := Lib.hid x3; have X4 := Lib.hid x4; have hl3 := x3.lt
     obtain ⟨a1, a2, a3, a4, a5⟩ := x4.tc
     have n1 : w.heap.size < w3.heap.size := by omega
     have n2 : w.heap.size + 1 < w3.heap.size := by omega
     clear x2 b2 b3 x3 x4 bA
     go_wp2_with fail
     refine (CT.out _ (HE.out.below X4.out.bel)).mono ?_; rintro en w5 ⟨rfl, b5⟩; have x5 := X4.out.step b5; clear c1 c2 c3 c4 c5 a1 a2 a3 a4 a5; obtain ⟨c1, c2, c3, c4, c5⟩ := x5.tc
     have hblk : w5.heap[w3.heap.size]? = some (.cells #[.bool false, .int .i64 rn, .string ⟨rs.toArray⟩] 57 (0, 0)) := by rw [b5.block _ (by simp)]; exact heap_alloc_new w3 _
     have g3 : w5.cell? ⟨w3.heap.size, 0, none⟩ = some (.bool false) := by rw [Lib.cell_of_heap hblk]; rfl
     have g4 : w5.cell? ⟨w3.heap.size, 1, none⟩ = some (.int .i64 rn) := by rw [Lib.cell_of_heap hblk]; rfl
     have g5 : w5.cell? ⟨w3.heap.size, 2, none⟩ = some (.string ⟨rs.toArray⟩) := by rw [Lib.cell_of_heap hblk]; rfl
     have f3 := Lib.frozen_of_heap x5.b2 0; have f4 := Lib.frozen_of_heap x5.b2 1; have f5 := Lib.frozen_of_heap x5.b2 2; have HB := Lib.hid x5.bel; clear x5 b5 hblk
     go_wp2_with fail
     exact bodyPost_ret (v := .tuple #[.agg #[.bool false, .int .i64 rn, .string ⟨rs.toArray⟩], .int .i64 0]) (by simp [results, Tryz.results106, go_sem, c3, c4, c5]) rfl ⟨rfl, ((HB.out.setCell (p := ⟨_, _, _⟩) (by simp) _).setCell (p := ⟨_, _, _⟩) (by simp) _).setCell (p := ⟨_, _, _⟩) (by simp) _⟩
   · rw [no (fun h => hL h.2)]; subst hc
     have q1 : (LB.toList == S.toList) = false := by rw [Lib.toList_data, Lib.toList_data, hLl]; rw [beq_eq_false_iff_ne]; exact hL
     have q2 : ¬ LB.toList = S.toList := by rw [Lib.toList_data, Lib.toList_data, hLl]; exact hL
     clear ok no hL hLl hN
     go_enter Tryz.func106, Tryz.ntmps106
     go_wp2_with fail
     refine (CM.out _).mono ?_; rintro en w1 ⟨rfl, b1⟩; have x1 := HB0.out.step b1; obtain ⟨c1, c2, c3, c4, c5⟩ := x1.tc; have X1 := Lib.hid x1; clear x1 b1
     go_wp2_with fail
     refine (of_5 tn _).mono ?_; rintro en w2 ⟨rfl, b2⟩; have x2 := X1.out.step b2; clear c1 c2 c3 c4 c5
     go_wp2_with fail
     refine (CI.out _).mono ?_; rintro en w3 ⟨rfl, b3⟩; have x3 := x2.step b3; obtain ⟨c1, c2, c3, c4, c5⟩ := x3.tc; have bA : Below w3.heap.size w3 (w3.alloc (.cells #[.bool false, .int .i64 rn, .string ⟨rs.toArray⟩] 57)) := (Below.refl _ _).alloc (Nat.le_refl _) _; have x4 := x3.step bA
     have X3 := Lib.hid x3; have X4 := Lib.hid x4; have hl3 := x3.lt
     obtain ⟨a1, a2, a3, a4, a5⟩ := x4.tc
     have n1 : w.heap.size < w3.heap.size := by omega
     have n2 : w.heap.size + 1 < w3.heap.size := by omega
     clear x2 b2 b3 x3 x4 bA
     go_wp2_with fail
     refine (CT.out _ (HE.out.below X4.out.bel)).mono ?_; rintro en w5 ⟨rfl, b5⟩; have x5 := X4.out.step b5; clear c1 c2 c3 c4 c5 a1 a2 a3 a4 a5; obtain ⟨c1, c2, c3, c4, c5⟩ := x5.tc
     have hblk : w5.heap[w3.heap.size]? = some (.cells #[.bool false, .int .i64 rn, .string ⟨rs.toArray⟩] 57 (0, 0)) := by rw [b5.block _ (by simp)]; exact heap_alloc_new w3 _
     have g3 : w5.cell? ⟨w3.heap.size, 0, none⟩ = some (.bool false) := by rw [Lib.cell_of_heap hblk]; rfl
     have g4 : w5.cell? ⟨w3.heap.size, 1, none⟩ = some (.int .i64 rn) := by rw [Lib.cell_of_heap hblk]; rfl
     have g5 : w5.cell? ⟨w3.heap.size, 2, none⟩ = some (.string ⟨rs.toArray⟩) := by rw [Lib.cell_of_heap hblk]; rfl
     have f3 := Lib.frozen_of_heap x5.b2 0; have f4 := Lib.frozen_of_heap x5.b2 1; have f5 := Lib.frozen_of_heap x5.b2 2; have HB := Lib.hid x5.bel; clear x5 b5 hblk
     go_wp2_with fail
     exact bodyPost_ret (v := .tuple #[.agg #[.bool false, .int .i64 0, .string ⟨#[]⟩], .int .i64 4]) (by simp [results, Tryz.results106, go_sem, c3, c4, c5]) rfl ⟨rfl, ((HB.out.setCell (p := ⟨_, _, _⟩) (by simp) _).setCell (p := ⟨_, _, _⟩) (by simp) _).setCell (p := ⟨_, _, _⟩) (by simp) _⟩
 · rw [no (fun h => hc h.1)]
   have q1 : (c != 0) = true := by simpa using hc
   clear ok no hLl hN
   go_enter Tryz.func106, Tryz.ntmps106
   go_wp2_with fail
   refine (CM.out _).mono ?_; rintro en w1 ⟨rfl, b1⟩; have x1 := HB0.out.step b1; obtain ⟨c1, c2, c3, c4, c5⟩ := x1.tc; have X1 := Lib.hid x1; clear x1 b1
   go_wp2_with fail
   refine (of_5 tn _).mono ?_; rintro en w2 ⟨rfl, b2⟩; have x2 := X1.out.step b2; clear c1 c2 c3 c4 c5
   go_wp2_with fail
   refine (CI.out _).mono ?_; rintro en w3 ⟨rfl, b3⟩; have x3 := x2.step b3; obtain ⟨c1, c2, c3, c4, c5⟩ := x3.tc; have bA : Below w3.heap.size w3 (w3.alloc (.cells #[.bool false, .int .i64 rn, .string ⟨rs.toArray⟩] 57)) := (Below.refl _ _).alloc (Nat.le_refl _) _; have x4 := x3.step bA
   have X3 := Lib.hid x3; have X4 := Lib.hid x4; have hl3 := x3.lt
   obtain ⟨a1, a2, a3, a4, a5⟩ := x4.tc
   have n1 : w.heap.size < w3.heap.size := by omega
   have n2 : w.heap.size + 1 < w3.heap.size := by omega
   clear x2 b2 b3 x3 x4 bA
   go_wp2_with fail
   refine (CT.out _ (HE.out.below X4.out.bel)).mono ?_; rintro en w5 ⟨rfl, b5⟩; have x5 := X4.out.step b5; clear c1 c2 c3 c4 c5 a1 a2 a3 a4 a5; obtain ⟨c1, c2, c3, c4, c5⟩ := x5.tc
   have hblk : w5.heap[w3.heap.size]? = some (.cells #[.bool false, .int .i64 rn, .string ⟨rs.toArray⟩] 57 (0, 0)) := by rw [b5.block _ (by simp)]; exact heap_alloc_new w3 _
   have g3 : w5.cell? ⟨w3.heap.size, 0, none⟩ = some (.bool false) := by rw [Lib.cell_of_heap hblk]; rfl
   have g4 : w5.cell? ⟨w3.heap.size, 1, none⟩ = some (.int .i64 rn) := by rw [Lib.cell_of_heap hblk]; rfl
   have g5 : w5.cell? ⟨w3.heap.size, 2, none⟩ = some (.string ⟨rs.toArray⟩) := by rw [Lib.cell_of_heap hblk]; rfl
   have f3 := Lib.frozen_of_heap x5.b2 0; have f4 := Lib.frozen_of_heap x5.b2 1; have f5 := Lib.frozen_of_heap x5.b2 2; have HB := Lib.hid x5.bel; clear x5 b5 hblk
   go_wp2_with fail
   exact bodyPost_ret (v := .tuple #[.agg #[.bool false, .int .i64 0, .string ⟨#[]⟩], .int .i64 4]) (by simp [results, Tryz.results106, go_sem, c3, c4, c5]) rfl ⟨rfl, ((HB.out.setCell (p := ⟨_, _, _⟩) (by simp) _).setCell (p := ⟨_, _, _⟩) (by simp) _).setCell (p := ⟨_, _, _⟩) (by simp) _⟩
theorem kread_any (k : Int) (tn : Bool) (S : ByteArray) (w : World) (hs : S.size ≤ 20000) (hE : Env w) :
    Calls Tryz.prog 106 #[.agg #[.int .i64 k, .bool tn], .string S] w fun e w' => e = .returned (readV (kReadD k tn S.data.toList)) ∧ Below w.heap.size w w' := by
 cases hk : kMay k with
 | false =>
  have : readV (kReadD k tn S.data.toList) = .tuple #[.agg #[.bool false, .int .i64 0, .string ⟨#[]⟩], .int .i64 2] := by unfold kReadD; rw [if_neg (by simp [hk])]; rfl
  rw [this]; exact kread_none k tn S w hk
 | true =>
  by_cases hN : S.data.toList = kNull
  · obtain rfl : S = ⟨#[110, 117, 108, 108]⟩ := ba_ext hN
    rcases may_cases hk with rfl | rfl | rfl | rfl | rfl
    · exact kread_n1 tn w hE
    · exact kread_n2 tn w hE
    · exact kread_n3 tn w hE
    · exact kread_n4 tn w hE
    · exact kread_n5 tn w hE
  · rcases may_cases hk with rfl | rfl | rfl | rfl | rfl
    · exact kread_s1 tn S w hs hE hN
    · exact kread_s2 tn S w hs hE hN
    · exact kread_s3 tn S w hs hE hN
    · exact kread_s4 tn S w hs hE hN
    · exact kread_s5 tn S w hs hE hN
end Go.Proofs.YtikpmmipopmjaaaGreatDoor
