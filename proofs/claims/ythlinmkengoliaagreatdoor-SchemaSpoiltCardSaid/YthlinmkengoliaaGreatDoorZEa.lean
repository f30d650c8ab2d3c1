/- Cells: values, and what the functions of a kind do (those without strconv). Cells: reading bools; quoting. Cells: quoting; texts that may be; hex. Cells: what of the library's variables is wanted; whole numbers as texts and back; rows of bytes. Cells: the bits of texts, and back; hex. -/
import Derived.Test.YthlinmkengoliaaGreatDoorZB
import Derived.Test.YthlinmkengoliaaGreatDoorZBr
import Derived.Deep.RegionLaw
import Derived.Test.YthlinmkengoliaaGreatDoorZQa
import Derived.Test.YthlinmkengoliaaGreatDoorZQ4
import Derived.Lib.SmallJoins
import Derived.Test.YthlinmkengoliaaGreatDoorZA
import Derived.Deep.RegionWith
set_option linter.unusedVariables false
namespace Go.Ms
open Go.Lib
structure Cel where
  null : Bool
  n : Int
  s : Bs
structure Typ where
  kind : Int
  null : Bool
def Cel.val (c : Cel) : Value := .agg #[.bool c.null, .int .i64 c.n, .string ⟨c.s.toArray⟩]
def Typ.val (t : Typ) : Value := .agg #[.int .i64 t.kind, .bool t.null]
end Go.Ms
namespace Go.Proofs.YthlinmkengoliaaGreatDoor
open Go.RowKit Go.Ms Go.Lib
theorem cell_lt {w : World} {p : Addr} {v : Value} (h : w.cell? p = some v) : p.block < w.heap.size := by
 unfold World.cell? at h
 rcases Nat.lt_or_ge p.block w.heap.size with h1 | h1
 · exact h1
 · simp [Array.getElem?_eq_none h1] at h
theorem str_size (l : Bs) : (⟨l.toArray⟩ : ByteArray).size = l.length := List.size_toArray
theorem str_list (l : Bs) : (⟨l.toArray⟩ : ByteArray).toList = l := by rw [Lib.toList_data]
theorem kplain_any (a b : Nat) (lo hi n : Int) (nu : Bool) (s : Bs) (w : World) (ha : w.cell? ⟨a, 0, none⟩ = some (.int .i64 lo)) (hb : w.cell? ⟨b, 0, none⟩ = some (.int .i64 hi)) :
    Calls Tryz.prog 108 #[.agg #[.bool nu, .int .i64 n, .string ⟨s.toArray⟩], .pointer (some ⟨a, 0, none⟩), .pointer (some ⟨b, 0, none⟩)] w fun e w' => e = .returned (.bool (decide (s = []) && decide (lo ≤ n) && decide (n ≤ hi))) ∧ Below w.heap.size w w' := by
 have hla := cell_lt ha; have hlb := cell_lt hb
 cases s with
 | cons x r =>
  have e1 : (⟨(x :: r).toArray⟩ : ByteArray).toList.isEmpty = false := by rw [str_list]; rfl
  have e2 : ¬ (⟨(x :: r).toArray⟩ : ByteArray).toList = [] := by rw [str_list]; simp
  have hd : (decide (x :: r = []) && decide (lo ≤ n) && decide (n ≤ hi)) = false := by simp
  rw [hd]; clear hd
  generalize (⟨(x :: r).toArray⟩ : ByteArray) = S at *
  go_enter Tryz.func108, Tryz.ntmps108
  go_wp2
  go_ret
  exact ⟨rfl, (Below.refl _ _).alloc (Nat.le_refl _) _⟩
 | nil =>
  by_cases h1 : lo ≤ n
  · by_cases h2 : n ≤ hi
    · have hd : (decide (([] : Bs) = []) && decide (lo ≤ n) && decide (n ≤ hi)) = true := by simp [h1, h2]
      rw [hd]; clear hd
      go_enter Tryz.func108, Tryz.ntmps108
      go_wp2
      go_ret
      exact ⟨rfl, (Below.refl _ _).alloc (Nat.le_refl _) _⟩
    · have hd : (decide (([] : Bs) = []) && decide (lo ≤ n) && decide (n ≤ hi)) = false := by simp [h2]
      rw [hd]; clear hd
      go_enter Tryz.func108, Tryz.ntmps108
      go_wp2
      go_ret
      exact ⟨rfl, (Below.refl _ _).alloc (Nat.le_refl _) _⟩
  · have hd : (decide (([] : Bs) = []) && decide (lo ≤ n) && decide (n ≤ hi)) = false := by simp [h1]
    rw [hd]; clear hd
    go_enter Tryz.func108, Tryz.ntmps108
    go_wp2
    go_ret
    exact ⟨rfl, (Below.refl _ _).alloc (Nat.le_refl _) _⟩
theorem ksize_any (n : Int) (nu : Bool) (s : Bs) (w : World) (hs : s.length ≤ 100000) :
    Calls Tryz.prog 109 #[.agg #[.bool nu, .int .i64 n, .string ⟨s.toArray⟩]] w fun e w' => e = .returned (.bool (decide (n = 0) && decide (s.length ≤ 1024))) ∧ Below w.heap.size w w' := by
 have hz := str_size s
 generalize (⟨s.toArray⟩ : ByteArray) = S at *
 generalize s.length = L at *
 subst hz
 by_cases h1 : n = 0
 · subst h1
   by_cases h2 : S.size ≤ 1024
   · have h2' : (S.size : Int) ≤ 1024 := by omega
     rw [decide_eq_true h2]
     go_enter Tryz.func109, Tryz.ntmps109
     go_wp2
     go_ret
     exact ⟨rfl, (Below.refl _ _).alloc (Nat.le_refl _) _⟩
   · have h2' : ¬ (S.size : Int) ≤ 1024 := by omega
     rw [decide_eq_false h2]
     go_enter Tryz.func109, Tryz.ntmps109
     go_wp2
     go_ret
     exact ⟨rfl, (Below.refl _ _).alloc (Nat.le_refl _) _⟩
 · have h1' : (n == 0) = false := by simpa using h1
   rw [decide_eq_false h1]
   go_enter Tryz.func109, Tryz.ntmps109
   go_wp2
   go_ret
   exact ⟨rfl, (Below.refl _ _).alloc (Nat.le_refl _) _⟩
theorem tbool_any (n : Int) (nu : Bool) (s : Bs) (w : World) :
    Calls Tryz.prog 110 #[.agg #[.bool nu, .int .i64 n, .string ⟨s.toArray⟩]] w fun e w' => e = .returned (.string ⟨(formatBool (n == 1)).toArray⟩) ∧ Below w.heap.size w w' := by
 generalize (⟨s.toArray⟩ : ByteArray) = S at *
 go_enter Tryz.func110, Tryz.ntmps110
 go_wp2_with (go_at_call 111; refine (Tryz.strconv_FormatBool _ _).mono ?_; rintro e w' ⟨rfl, rfl⟩)
 go_ret
 exact ⟨rfl, (Below.refl _ _).alloc (Nat.le_refl _) _⟩
end Go.Proofs.YthlinmkengoliaaGreatDoor
namespace Go.Proofs.YthlinmkengoliaaGreatDoor
open Go.RowKit Go.Ms Go.Lib
def trueL : Bs := [116, 114, 117, 101]
theorem truth_any (S : ByteArray) (w : World) :
    Calls Tryz.prog 112 #[.string S] w fun e w' => e = .returned (.agg #[.bool false, .int .i64 (if S.data.toList = trueL then 1 else 0), .string ⟨#[]⟩]) ∧ Below w.heap.size w w' := by
 by_cases h : S.data.toList = trueL
 · rw [if_pos h]; obtain rfl : S = ⟨#[116, 114, 117, 101]⟩ := ba_ext h
   go_enter Tryz.func112, Tryz.ntmps112
   go_wp2
   exact bodyPost_ret (v := .agg #[.bool false, .int .i64 1, .string ⟨#[]⟩]) (by simp [results, Tryz.results112, go_sem]) rfl ⟨rfl, (Below.refl _ _).alloc (Nat.le_refl _) _⟩
 · rw [if_neg h]
   have h1 : (S.toList == [116, 114, 117, 101]) = false := by rw [Lib.toList_data]; simpa [trueL] using h
   clear h
   go_enter Tryz.func112, Tryz.ntmps112
   go_wp2
   exact bodyPost_ret (v := .agg #[.bool false, .int .i64 0, .string ⟨#[]⟩]) (by simp [results, Tryz.results112, go_sem]) rfl ⟨rfl, (Below.refl _ _).alloc (Nat.le_refl _) _⟩
end Go.Proofs.YthlinmkengoliaaGreatDoor
namespace Go.Proofs.YthlinmkengoliaaGreatDoor
open Go.RowKit Go.Ms Go.Lib
theorem cquote_bad (s : ByteArray) (w : World) (hs : s.size ≤ 1000000) (hv : validD s.data.toList = false) (hT : Tabs w) :
    Calls Tryz.prog 149 #[.string s] w fun e w' => e = .returned (.tuple #[.string ⟨#[]⟩, .int .i64 40]) ∧ Below w.heap.size w w' := by
 have cv := valid_any s w (by omega) hT; rw [hv] at cv; have CV := Lib.hid cv; clear cv hv
 go_enter Tryz.func149, Tryz.ntmps149
 go_wp2_with fail
 refine CV.out.mono ?_; rintro en w1 ⟨rfl, b1⟩
 go_wp2_with fail
 go_ret2
 exact ⟨rfl, b1⟩
def qtext (l : Bs) : Bs := if validD l = true then quoteD l else []
theorem cquote_any (s : ByteArray) (w : World) (hs : s.size ≤ 1000000) (hT : Tabs w) :
    Calls Tryz.prog 149 #[.string s] w fun e w' => e = .returned (.tuple #[.string ⟨(qtext s.data.toList).toArray⟩, .int .i64 (if validD s.data.toList = true then 0 else 40)]) ∧ Below w.heap.size w w' := by
 unfold qtext
 cases hv : validD s.data.toList with
 | true => exact quote_ok s w hs hv hT
 | false => exact cquote_bad s w hs hv hT
theorem kquote_str (n : Int) (nu : Bool) (S : ByteArray) (w : World) (hs : S.size ≤ 100000) (hT : Tabs w) :
    Calls Tryz.prog 121 #[.agg #[.bool nu, .int .i64 n, .string S]] w fun e w' => e = .returned (.string ⟨(qtext S.data.toList).toArray⟩) ∧ Below w.heap.size w w' := by
 have cq := fun w' (hT' : Tabs w') => cquote_any S w' (by omega) hT'
 generalize qtext S.data.toList = q at *
 generalize (if validD S.data.toList = true then (0 : Int) else 40) = e0 at *
 have CQ := Lib.hid cq; clear cq; have T1 := tabs_below hT ((Below.refl _ w).alloc (Nat.le_refl _) (.cells #[.bool nu, .int .i64 n, .string S] 35))
 go_enter Tryz.func121, Tryz.ntmps121
 go_wp2_with fail
 refine (CQ.out _ T1).mono ?_; rintro en w1 ⟨rfl, b1⟩
 go_wp2_with fail
 go_ret
 exact ⟨rfl, ((Below.refl _ _).alloc (Nat.le_refl _) _).trans (b1.mono (by simp))⟩
theorem kunquote_any (S : ByteArray) (w : World) (hs : S.size ≤ 100000) (hT : Tabs w) :
    Calls Tryz.prog 122 #[.string S] w fun e w' => e = .returned (.agg #[.bool false, .int .i64 0, .string ⟨(unquoteD S.data.toList).1.toArray⟩]) ∧ Below w.heap.size w w' := by
 have cq := fun w' (hT' : Tabs w') => unquote_any S w' (by omega) hT'
 generalize unquoteD S.data.toList = q at *
 obtain ⟨q1, q2, q3⟩ := q; simp only at cq ⊢; have CQ := Lib.hid cq; clear cq; have T1 := tabs_below hT ((Below.refl _ w).alloc (Nat.le_refl _) (.cells #[.bool false, .int .i64 0, .string ⟨#[]⟩] 35))
 go_enter Tryz.func122, Tryz.ntmps122
 go_wp2_with fail
 refine (CQ.out _ T1).mono ?_; rintro en w1 ⟨rfl, b1⟩
 have hblk : w1.heap[w.heap.size]? = some (.cells #[.bool false, .int .i64 0, .string ⟨#[]⟩] 35 (0, 0)) := by
  rw [b1.block _ (by simp)]; exact heap_alloc_new w _
 have c0 : w1.cell? ⟨w.heap.size, 0, none⟩ = some (.bool false) := by rw [Lib.cell_of_heap hblk]; rfl
 have c1 : w1.cell? ⟨w.heap.size, 1, none⟩ = some (.int .i64 0) := by rw [Lib.cell_of_heap hblk]; rfl
 have c2 : w1.cell? ⟨w.heap.size, 2, none⟩ = some (.string ⟨#[]⟩) := by rw [Lib.cell_of_heap hblk]; rfl
 have f0 := Lib.frozen_of_heap hblk 0; have f1 := Lib.frozen_of_heap hblk 1; have f2 := Lib.frozen_of_heap hblk 2
 have hsz : w.heap.size < w1.heap.size := by have := b1.size; simp at this; omega
 have B1 : Below w.heap.size w w1 := ((Below.refl _ _).alloc (Nat.le_refl _) _).trans (b1.mono (by simp))
 go_wp2_with fail
 exact bodyPost_ret (v := .agg #[.bool false, .int .i64 0, .string ⟨q1.toArray⟩]) (by simp [results, Tryz.results122, go_sem, c0, c1, c2]) rfl ⟨rfl, ((B1.setCell (Nat.le_refl _) _).setCell (Nat.le_refl _) _).setCell (Nat.le_refl _) _⟩
end Go.Proofs.YthlinmkengoliaaGreatDoor
namespace Go.Proofs.YthlinmkengoliaaGreatDoor
open Go.RowKit Go.Ms Go.Lib
structure Env (w : World) : Prop where
  tabs : Tabs w
  pow : Lib.TabIs Tryz.prog w "internal/strconv.uint64pow10" .u64 Lib.pow10Tab
  syn : ∃ tp p, w.var? Tryz.prog "strconv.ErrSyntax" = some #[.iface tp p]
  rng : ∃ tp p, w.var? Tryz.prog "strconv.ErrRange" = some #[.iface tp p]
  maxl : ∃ m, w.cell? ⟨0, 0, none⟩ = some (.int .i64 m)
theorem Env.below {w w' : World} (h : Env w) (hb : Below w.heap.size w w') : Env w' := by
 refine ⟨tabs_below h.tabs hb, Joins.tab_stays (g := 3) (by kernel_rfl) h.pow hb (Nat.le_refl _), ?_, ?_, ?_⟩
 · obtain ⟨tp, p, hv⟩ := h.syn; exact ⟨tp, p, Joins.var_stays (g := 4) (by kernel_rfl) hv hb (Nat.le_refl _)⟩
 · obtain ⟨tp, p, hv⟩ := h.rng; exact ⟨tp, p, Joins.var_stays (g := 5) (by kernel_rfl) hv hb (Nat.le_refl _)⟩
 · obtain ⟨m, hm⟩ := h.maxl; exact ⟨m, by rw [hb.cell (cell_lt hm)]; exact hm⟩
theorem below_grow (w : World) (k : Nat) (os : Array Obj) : Below w.heap.size w (Go.Sort.grow (w.drewN k) os) :=
  ⟨rfl, rfl, rfl, by simp [Go.Sort.grow, World.drewN], fun j hj => by simp [Go.Sort.grow, World.drewN, Array.getElem?_append, hj]⟩
theorem digits_str (n : Int) (nu : Bool) (S : ByteArray) (w : World) (h0 : -9223372036854775808 ≤ n) (h1 : n ≤ 9223372036854775807) (hE : Env w) :
    Calls Tryz.prog 115 #[.agg #[.bool nu, .int .i64 n, .string S]] w fun e w' => e = .returned (.string ⟨(itoa n).toArray⟩) ∧ Below w.heap.size w w' := by
 have B0 : Below w.heap.size w (w.alloc (.cells #[.bool nu, .int .i64 n, .string S] 35)) := (Below.refl _ w).alloc (Nat.le_refl _) _; have E1 := hE.below B0; have cf := Tryz.strconv_FormatInt_10 n h0 h1 _ E1.pow
 generalize itoa n = L at *
 have CF := Lib.hid cf; clear cf h0 h1
 go_enter Tryz.func115, Tryz.ntmps115
 go_wp2_with fail
 refine CF.out.mono ?_; rintro en w1 ⟨rfl, k, os, rfl⟩; have b1 := below_grow (w.alloc (.cells #[.bool nu, .int .i64 n, .string S] 35)) k os
 generalize Go.Sort.grow ((w.alloc (.cells #[.bool nu, .int .i64 n, .string S] 35)).drewN k) os = w1 at *
 go_wp2_with fail
 go_ret
 exact ⟨rfl, B0.trans (b1.mono (by simp))⟩
def wholeN (l : Bs) : Int := match parseIntB 64 l with
 | .ok v => v
 | .range => intSat 64 l
 | _ => 0
theorem parse_any (S : ByteArray) (w : World) (hs : S.size ≤ 100000) (hE : Env w) :
    Calls Tryz.prog 147 #[.string S, .int .i64 10, .int .i64 64] w fun e w' => ∃ er, e = .returned (.tuple #[.int .i64 (wholeN S.data.toList), er]) ∧ Below w.heap.size w w' := by
 unfold wholeN
 cases h : parseIntB 64 S.data.toList with
 | ok v =>
  refine (Tryz.strconv_ParseInt_10_at64_ok S (by omega) v h w).mono ?_; rintro en w1 ⟨rfl, hw⟩; refine ⟨_, rfl, ?_⟩
  rcases hw with rfl | ⟨t, rfl⟩
  · exact Below.refl _ _
  · exact Joins.below_bytesWorld _ _ _ _ (Nat.le_refl _)
 | range =>
  obtain ⟨tp, p, hv⟩ := hE.rng; refine (Tryz.strconv_ParseInt_10_at64_range_var S (by omega) h tp p w hv).mono ?_; rintro en w1 ⟨N, rfl, _, _, b⟩; exact ⟨_, rfl, b⟩
 | _ =>
  obtain ⟨tp, p, hv⟩ := hE.syn; refine (Any.strconv_ParseInt_10_at64_syntax_var Tryz.laysC174 S (by omega) h tp p w hv).mono ?_; rintro en w1 ⟨N, rfl, _, _, b⟩; exact ⟨_, rfl, b⟩
structure Res3 (w : World) (b : Nat) (x y z : Value) : Prop where
  c0 : w.cell? ⟨b, 0, none⟩ = some x
  c1 : w.cell? ⟨b, 1, none⟩ = some y
  c2 : w.cell? ⟨b, 2, none⟩ = some z
  f0 : w.frozen? ⟨b, 0, none⟩ = false
  f1 : w.frozen? ⟨b, 1, none⟩ = false
  f2 : w.frozen? ⟨b, 2, none⟩ = false
  lt : b < w.heap.size
theorem res3_made {w w1 : World} (e : TypeId) (x y z : Value) (hb : Below (w.heap.size + 1) (w.alloc (.cells #[x, y, z] e)) w1) : Res3 w1 w.heap.size x y z := by
 have hblk : w1.heap[w.heap.size]? = some (.cells #[x, y, z] e (0, 0)) := by
  rw [hb.block _ (by omega)]; exact heap_alloc_new w _
 have hl := hb.size
 simp at hl
 exact ⟨by rw [Lib.cell_of_heap hblk]; rfl, by rw [Lib.cell_of_heap hblk]; rfl, by rw [Lib.cell_of_heap hblk]; rfl, Lib.frozen_of_heap hblk 0, Lib.frozen_of_heap hblk 1, Lib.frozen_of_heap hblk 2, by omega⟩
theorem whole_any (S : ByteArray) (w : World) (hs : S.size ≤ 100000) (hE : Env w) :
    Calls Tryz.prog 116 #[.string S] w fun e w' => e = .returned (.agg #[.bool false, .int .i64 (wholeN S.data.toList), .string ⟨#[]⟩]) ∧ Below w.heap.size w w' := by
 have B0 : Below w.heap.size w (w.alloc (.cells #[.bool false, .int .i64 0, .string ⟨#[]⟩] 35)) := (Below.refl _ w).alloc (Nat.le_refl _) _; have cp := parse_any S _ hs (hE.below B0)
 generalize wholeN S.data.toList = N at *
 have CP := Lib.hid cp; clear cp
 go_enter Tryz.func116, Tryz.ntmps116
 go_wp2_with fail
 refine CP.out.mono ?_; rintro en w1 ⟨er, rfl, b1⟩; obtain ⟨c0, c1, c2, f0, f1, f2, hlt⟩ := res3_made 35 (.bool false) (.int .i64 0) (.string ⟨#[]⟩) (b1.mono (by simp)); have B1 := B0.trans (b1.mono (by simp))
 go_wp2_with fail
 exact bodyPost_ret (v := .agg #[.bool false, .int .i64 N, .string ⟨#[]⟩]) (by simp [results, Tryz.results116, go_sem, c0, c1, c2]) rfl ⟨rfl, ((B1.setCell (Nat.le_refl _) _).setCell (Nat.le_refl _) _).setCell (Nat.le_refl _) _⟩
theorem kvalid_str (a : Nat) (n : Int) (nu : Bool) (S : ByteArray) (w : World) (ha : w.cell? ⟨a, 0, none⟩ = some (.func (.func 109) #[] #[])) (hs : S.size ≤ 100000) (hT : Tabs w) :
    Calls Tryz.prog 119 #[.agg #[.bool nu, .int .i64 n, .string S], .pointer (some ⟨a, 0, none⟩)] w fun e w' => e = .returned (.bool (decide (n = 0) && decide (S.size ≤ 1024) && validD S.data.toList)) ∧ Below w.heap.size w w' := by
 have B0 : Below w.heap.size w (w.alloc (.cells #[.bool nu, .int .i64 n, .string S] 35)) := (Below.refl _ w).alloc (Nat.le_refl _) _
 have cs : ∀ w', Calls Tryz.prog 109 #[.agg #[.bool nu, .int .i64 n, .string S]] w' fun e w'' => e = .returned (.bool (decide (n = 0) && decide (S.size ≤ 1024))) ∧ Below w'.heap.size w' w'' := by
  intro w'
  have := ksize_any n nu S.data.toList w' (by simpa using hs); rw [← ba_ext (s := S) rfl] at this
  simpa using this
 have cv := fun w' (hT' : Tabs w') => valid_any S w' (by omega) hT'
 obtain ⟨Z, hZ⟩ : ∃ Z, (decide (n = 0) && decide (S.size ≤ 1024)) = Z := ⟨_, rfl⟩; obtain ⟨V, hV⟩ : ∃ V, validD S.data.toList = V := ⟨_, rfl⟩; rw [hZ] at cs ⊢; rw [hV] at cv ⊢
 have CS := Lib.hid cs; have CV := Lib.hid cv
 clear cs cv hZ hV; have hla := cell_lt ha
 cases Z with
 | false =>
  rw [Bool.false_and]
  go_enter Tryz.func119, Tryz.ntmps119
  go_wp2_with fail
  refine (CS.out _).mono ?_; rintro en w1 ⟨rfl, b1⟩
  go_wp2_with fail
  go_ret
  exact ⟨rfl, B0.trans (b1.mono (by simp))⟩
 | true =>
  rw [Bool.true_and]
  go_enter Tryz.func119, Tryz.ntmps119
  go_wp2_with fail
  refine (CS.out _).mono ?_; rintro en w1 ⟨rfl, b1⟩; obtain ⟨c0, c1, c2, f0, f1, f2, hlt⟩ := res3_made 35 (.bool nu) (.int .i64 n) (.string S) (b1.mono (by simp)); have B1 := B0.trans (b1.mono (by simp))
  go_wp2_with fail
  refine (CV.out _ (tabs_below hT B1)).mono ?_; rintro en w2 ⟨rfl, b2⟩
  go_wp2_with fail
  go_ret
  exact ⟨rfl, B1.trans (b2.mono B1.size)⟩
end Go.Proofs.YthlinmkengoliaaGreatDoor
namespace Go.Proofs.YthlinmkengoliaaGreatDoor
open Go.RowKit Go.Ms Go.Lib
end Go.Proofs.YthlinmkengoliaaGreatDoor
