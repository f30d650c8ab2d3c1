/- Cells: values, and what the functions of a kind do (those without strconv). Cells: reading bools; quoting. Cells: quoting; texts that may be; hex. Cells: what of the library's variables is wanted; whole numbers as texts and back; rows of bytes. Cells: the bits of texts, and back; hex. -/
import Derived.Test.YtcdmiiaamajfoaaGreatDoorZB
import Derived.Test.YtcdmiiaamajfoaaGreatDoorZBr
import Derived.Deep.RegionLaw
import Derived.Test.YtcdmiiaamajfoaaGreatDoorZQa
import Derived.Test.YtcdmiiaamajfoaaGreatDoorZQ4
import Derived.Lib.SmallJoins
import Derived.Test.YtcdmiiaamajfoaaGreatDoorZA
import Derived.Deep.RegionWith
set_option linter.unusedVariables false
namespace Go.Ms
open Go.Lib
/-- A cell. -/
structure Cel where
  null : Bool
  n : Int
  s : Bs
/-- A type. -/
structure Typ where
  kind : Int
  null : Bool
def Cel.val (c : Cel) : Value := .agg #[.bool c.null, .int .i64 c.n, .string ⟨c.s.toArray⟩]
def Typ.val (t : Typ) : Value := .agg #[.int .i64 t.kind, .bool t.null]
def zeroC : Cel := ⟨false, 0, []⟩
end Go.Ms
namespace Go.Proofs.YtcdmiiaamajfoaaGreatDoor
open Go.RowKit Go.Ms Go.Lib

theorem cell_lt {w : World} {p : Addr} {v : Value} (h : w.cell? p = some v) : p.block < w.heap.size := by
  unfold World.cell? at h
  rcases Nat.lt_or_ge p.block w.heap.size with h1 | h1
  · exact h1
  · simp [Array.getElem?_eq_none h1] at h
theorem str_size (l : Bs) : (⟨l.toArray⟩ : ByteArray).size = l.length := List.size_toArray
theorem str_list (l : Bs) : (⟨l.toArray⟩ : ByteArray).toList = l := by rw [Lib.toList_data]

/-- cell.of: plain. -/
theorem kplain_any (a b : Nat) (lo hi n : Int) (nu : Bool) (s : Bs) (w : World) (ha : w.cell? ⟨a, 0, none⟩ = some (.int .i64 lo)) (hb : w.cell? ⟨b, 0, none⟩ = some (.int .i64 hi)) :
    Calls Tryz.prog 176 #[.agg #[.bool nu, .int .i64 n, .string ⟨s.toArray⟩], .pointer (some ⟨a, 0, none⟩), .pointer (some ⟨b, 0, none⟩)] w fun e w' => e = .returned (.bool (decide (s = []) && decide (lo ≤ n) && decide (n ≤ hi))) ∧ Below w.heap.size w w' := by
  have hla := cell_lt ha
  have hlb := cell_lt hb
  cases s with
  | cons x r =>
    have e1 : (⟨(x :: r).toArray⟩ : ByteArray).toList.isEmpty = false := by rw [str_list]; rfl
    have e2 : ¬ (⟨(x :: r).toArray⟩ : ByteArray).toList = [] := by rw [str_list]; simp
    have hd : (decide (x :: r = []) && decide (lo ≤ n) && decide (n ≤ hi)) = false := by simp
    rw [hd]
    clear hd
    generalize (⟨(x :: r).toArray⟩ : ByteArray) = S at *
    go_enter Tryz.func176, Tryz.ntmps176
    go_wp2
    go_ret
    exact ⟨rfl, (Below.refl _ _).alloc (Nat.le_refl _) _⟩
  | nil =>
    by_cases h1 : lo ≤ n
    · by_cases h2 : n ≤ hi
      · have hd : (decide (([] : Bs) = []) && decide (lo ≤ n) && decide (n ≤ hi)) = true := by simp [h1, h2]
        rw [hd]
        clear hd
        go_enter Tryz.func176, Tryz.ntmps176
        go_wp2
        go_ret
        exact ⟨rfl, (Below.refl _ _).alloc (Nat.le_refl _) _⟩
      · have hd : (decide (([] : Bs) = []) && decide (lo ≤ n) && decide (n ≤ hi)) = false := by simp [h2]
        rw [hd]
        clear hd
        go_enter Tryz.func176, Tryz.ntmps176
        go_wp2
        go_ret
        exact ⟨rfl, (Below.refl _ _).alloc (Nat.le_refl _) _⟩
    · have hd : (decide (([] : Bs) = []) && decide (lo ≤ n) && decide (n ≤ hi)) = false := by simp [h1]
      rw [hd]
      clear hd
      go_enter Tryz.func176, Tryz.ntmps176
      go_wp2
      go_ret
      exact ⟨rfl, (Below.refl _ _).alloc (Nat.le_refl _) _⟩
/-- cell.of: size. -/
theorem ksize_any (n : Int) (nu : Bool) (s : Bs) (w : World) (hs : s.length ≤ 100000) :
    Calls Tryz.prog 177 #[.agg #[.bool nu, .int .i64 n, .string ⟨s.toArray⟩]] w fun e w' => e = .returned (.bool (decide (n = 0) && decide (s.length ≤ 1024))) ∧ Below w.heap.size w w' := by
  have hz := str_size s
  generalize (⟨s.toArray⟩ : ByteArray) = S at *
  generalize s.length = L at *
  subst hz
  by_cases h1 : n = 0
  · subst h1
    by_cases h2 : S.size ≤ 1024
    · have h2' : (S.size : Int) ≤ 1024 := by omega
      rw [decide_eq_true h2]
      go_enter Tryz.func177, Tryz.ntmps177
      go_wp2
      go_ret
      exact ⟨rfl, (Below.refl _ _).alloc (Nat.le_refl _) _⟩
    · have h2' : ¬ (S.size : Int) ≤ 1024 := by omega
      rw [decide_eq_false h2]
      go_enter Tryz.func177, Tryz.ntmps177
      go_wp2
      go_ret
      exact ⟨rfl, (Below.refl _ _).alloc (Nat.le_refl _) _⟩
  · have h1' : (n == 0) = false := by simpa using h1
    rw [decide_eq_false h1]
    go_enter Tryz.func177, Tryz.ntmps177
    go_wp2
    go_ret
    exact ⟨rfl, (Below.refl _ _).alloc (Nat.le_refl _) _⟩
/-- A bool's text. -/
theorem tbool_any (n : Int) (nu : Bool) (s : Bs) (w : World) :
    Calls Tryz.prog 178 #[.agg #[.bool nu, .int .i64 n, .string ⟨s.toArray⟩]] w fun e w' => e = .returned (.string ⟨(formatBool (n == 1)).toArray⟩) ∧ Below w.heap.size w w' := by
  generalize (⟨s.toArray⟩ : ByteArray) = S at *
  go_enter Tryz.func178, Tryz.ntmps178
  go_wp2_with (go_at_call 179; refine (Tryz.strconv_FormatBool _ _).mono ?_; rintro e w' ⟨rfl, rfl⟩)
  go_ret
  exact ⟨rfl, (Below.refl _ _).alloc (Nat.le_refl _) _⟩
/-- A bool's bits. -/
theorem bbool_any (n : Int) (nu : Bool) (s : Bs) (w : World) (h0 : 0 ≤ n) (h1 : n ≤ 1) :
    Calls Tryz.prog 181 #[.agg #[.bool nu, .int .i64 n, .string ⟨s.toArray⟩]] w fun e w' => e = .returned (.string (strOfNums [n])) ∧ Below w.heap.size w w' := by
  have kc := fun (w : World) (n : Nat) (hn : n = w.heap.size) (a : Int) => conv_new (P := Tryz.prog) w n hn 77 5 Tryz.underlying77 Tryz.underlying5 [a] 9 Tryz.underlying9
  simp only [List.map_cons, List.map_nil, List.length_cons, List.length_nil, Nat.zero_add] at kc
  have u1 : IntKind.u8.wrap n = n := IntWalk.u8_in _ (by omega)
  generalize (⟨s.toArray⟩ : ByteArray) = S at *
  go_enter Tryz.func181, Tryz.ntmps181
  go_wp2
  go_ret
  exact ⟨rfl, ((Below.refl _ _).alloc (Nat.le_refl _) _).alloc (by simp) _⟩
end Go.Proofs.YtcdmiiaamajfoaaGreatDoor
namespace Go.Proofs.YtcdmiiaamajfoaaGreatDoor
open Go.RowKit Go.Ms Go.Lib

def trueL : Bs := [116, 114, 117, 101]
theorem truth_any (S : ByteArray) (w : World) :
    Calls Tryz.prog 180 #[.string S] w fun e w' => e = .returned (.agg #[.bool false, .int .i64 (if S.data.toList = trueL then 1 else 0), .string ⟨#[]⟩]) ∧ Below w.heap.size w w' := by
  by_cases h : S.data.toList = trueL
  · rw [if_pos h]
    obtain rfl : S = ⟨#[116, 114, 117, 101]⟩ := ba_ext h
    go_enter Tryz.func180, Tryz.ntmps180
    go_wp2
    exact bodyPost_ret (v := .agg #[.bool false, .int .i64 1, .string ⟨#[]⟩]) (by simp [results, Tryz.results180, go_sem]) rfl ⟨rfl, (Below.refl _ _).alloc (Nat.le_refl _) _⟩
  · rw [if_neg h]
    have h1 : (S.toList == [116, 114, 117, 101]) = false := by rw [Lib.toList_data]; simpa [trueL] using h
    clear h
    go_enter Tryz.func180, Tryz.ntmps180
    go_wp2
    exact bodyPost_ret (v := .agg #[.bool false, .int .i64 0, .string ⟨#[]⟩]) (by simp [results, Tryz.results180, go_sem]) rfl ⟨rfl, (Below.refl _ _).alloc (Nat.le_refl _) _⟩

/-- What unbool answers. -/
def unboolD (l : Bs) : Int × Nat × Int := if l = [] then (0, 0, 3) else if 1 < bt l 0 then (0, 0, 4) else ((bt l 0 : Nat), 1, 0)
theorem unbool_any (S : ByteArray) (w : World) :
    Calls Tryz.prog 148 #[.string S] w fun e w' => e = .returned (.tuple #[.agg #[.bool false, .int .i64 (unboolD S.data.toList).1, .string ⟨#[]⟩], .int .i64 (unboolD S.data.toList).2.1, .int .i64 (unboolD S.data.toList).2.2]) ∧ Below w.heap.size w w' := by
  obtain ⟨R, hR⟩ : ∃ R, unboolD S.data.toList = R := ⟨_, rfl⟩
  rw [hR]
  unfold unboolD at hR
  by_cases h0 : S.data.toList = []
  · rw [if_pos h0] at hR
    subst hR
    obtain rfl : S = ⟨#[]⟩ := ba_ext h0
    go_enter Tryz.func148, Tryz.ntmps148
    go_wp2
    exact bodyPost_ret (v := .tuple #[.agg #[.bool false, .int .i64 0, .string ⟨#[]⟩], .int .i64 0, .int .i64 3]) (by simp [results, Tryz.results148, go_sem]) rfl ⟨rfl, (Below.refl _ _).alloc (Nat.le_refl _) _⟩
  rw [if_neg h0] at hR
  have hpos : 0 < S.size := by
    have : S.data.toList.length = S.size := by simp
    rw [← this]; exact List.length_pos_iff.2 h0
  have e1 : S.toList.isEmpty = false := by rw [Lib.toList_data]; simpa using h0
  have e2 : ¬ S.toList = [] := by rw [Lib.toList_data]; exact h0
  have hg : ((S[0]'hpos).toNat : Int) = (bt S.data.toList 0 : Int) := by rw [get_of]; rfl
  have hb := bt_lt S.data.toList 0
  have hposi : (0 : Int) < (S.size : Int) := by omega
  generalize bt S.data.toList 0 = b at *
  clear h0
  by_cases h1 : 1 < b
  · rw [if_pos h1] at hR
    subst hR
    have h1' : (1 : Int) < (b : Int) := by omega
    go_enter Tryz.func148, Tryz.ntmps148
    go_wp2
    exact bodyPost_ret (v := .tuple #[.agg #[.bool false, .int .i64 0, .string ⟨#[]⟩], .int .i64 0, .int .i64 4]) (by simp [results, Tryz.results148, go_sem]) rfl ⟨rfl, (Below.refl _ _).alloc (Nat.le_refl _) _⟩
  · rw [if_neg h1] at hR
    subst hR
    have h1' : ¬ (1 : Int) < (b : Int) := by omega
    go_enter Tryz.func148, Tryz.ntmps148
    go_wp2
    exact bodyPost_ret (v := .tuple #[.agg #[.bool false, .int .i64 b, .string ⟨#[]⟩], .int .i64 1, .int .i64 0]) (by simp [results, Tryz.results148, go_sem]) rfl ⟨rfl, (Below.refl _ _).alloc (Nat.le_refl _) _⟩
end Go.Proofs.YtcdmiiaamajfoaaGreatDoor
namespace Go.Proofs.YtcdmiiaamajfoaaGreatDoor
open Go.RowKit Go.Ms Go.Lib

theorem cquote_bad (s : ByteArray) (w : World) (hs : s.size ≤ 1000000) (hv : validD s.data.toList = false) (hT : Tabs w) :
    Calls Tryz.prog 224 #[.string s] w fun e w' => e = .returned (.tuple #[.string ⟨#[]⟩, .int .i64 40]) ∧ Below w.heap.size w w' := by
  have cv := valid_any s w (by omega) hT
  rw [hv] at cv
  have CV := Lib.hid cv
  clear cv hv
  go_enter Tryz.func224, Tryz.ntmps224
  go_wp2_with fail
  refine CV.out.mono ?_
  rintro en w1 ⟨rfl, b1⟩
  go_wp2_with fail
  go_ret2
  exact ⟨rfl, b1⟩
/-- A text's tidy literal, or nothing. -/
def qtext (l : Bs) : Bs := if validD l = true then quoteD l else []
theorem cquote_any (s : ByteArray) (w : World) (hs : s.size ≤ 1000000) (hT : Tabs w) :
    Calls Tryz.prog 224 #[.string s] w fun e w' => e = .returned (.tuple #[.string ⟨(qtext s.data.toList).toArray⟩, .int .i64 (if validD s.data.toList = true then 0 else 40)]) ∧ Below w.heap.size w w' := by
  unfold qtext
  cases hv : validD s.data.toList with
  | true => exact quote_ok s w hs hv hT
  | false => exact cquote_bad s w hs hv hT
theorem kquote_str (n : Int) (nu : Bool) (S : ByteArray) (w : World) (hs : S.size ≤ 100000) (hT : Tabs w) :
    Calls Tryz.prog 188 #[.agg #[.bool nu, .int .i64 n, .string S]] w fun e w' => e = .returned (.string ⟨(qtext S.data.toList).toArray⟩) ∧ Below w.heap.size w w' := by
  have cq := fun w' (hT' : Tabs w') => cquote_any S w' (by omega) hT'
  generalize qtext S.data.toList = q at *
  generalize (if validD S.data.toList = true then (0 : Int) else 40) = e0 at *
  have CQ := Lib.hid cq
  clear cq
  have T1 := tabs_below hT ((Below.refl _ w).alloc (Nat.le_refl _) (.cells #[.bool nu, .int .i64 n, .string S] 23))
  go_enter Tryz.func188, Tryz.ntmps188
  go_wp2_with fail
  refine (CQ.out _ T1).mono ?_
  rintro en w1 ⟨rfl, b1⟩
  go_wp2_with fail
  go_ret
  exact ⟨rfl, ((Below.refl _ _).alloc (Nat.le_refl _) _).trans (b1.mono (by simp))⟩
theorem kquote_any (n : Int) (nu : Bool) (s : Bs) (w : World) (hs : s.length ≤ 100000) (hT : Tabs w) :
    Calls Tryz.prog 188 #[.agg #[.bool nu, .int .i64 n, .string ⟨s.toArray⟩]] w fun e w' => e = .returned (.string ⟨(qtext s).toArray⟩) ∧ Below w.heap.size w w' :=
  kquote_str n nu ⟨s.toArray⟩ w (by rw [str_size]; exact hs) hT
theorem kunquote_any (S : ByteArray) (w : World) (hs : S.size ≤ 100000) (hT : Tabs w) :
    Calls Tryz.prog 189 #[.string S] w fun e w' => e = .returned (.agg #[.bool false, .int .i64 0, .string ⟨(unquoteD S.data.toList).1.toArray⟩]) ∧ Below w.heap.size w w' := by
  have cq := fun w' (hT' : Tabs w') => unquote_any S w' (by omega) hT'
  generalize unquoteD S.data.toList = q at *
  obtain ⟨q1, q2, q3⟩ := q
  simp only at cq ⊢
  have CQ := Lib.hid cq
  clear cq
  have T1 := tabs_below hT ((Below.refl _ w).alloc (Nat.le_refl _) (.cells #[.bool false, .int .i64 0, .string ⟨#[]⟩] 23))
  go_enter Tryz.func189, Tryz.ntmps189
  go_wp2_with fail
  refine (CQ.out _ T1).mono ?_
  rintro en w1 ⟨rfl, b1⟩
  have hblk : w1.heap[w.heap.size]? = some (.cells #[.bool false, .int .i64 0, .string ⟨#[]⟩] 23 (0, 0)) := by
    rw [b1.block _ (by simp)]; exact heap_alloc_new w _
  have c0 : w1.cell? ⟨w.heap.size, 0, none⟩ = some (.bool false) := by rw [Lib.cell_of_heap hblk]; rfl
  have c1 : w1.cell? ⟨w.heap.size, 1, none⟩ = some (.int .i64 0) := by rw [Lib.cell_of_heap hblk]; rfl
  have c2 : w1.cell? ⟨w.heap.size, 2, none⟩ = some (.string ⟨#[]⟩) := by rw [Lib.cell_of_heap hblk]; rfl
  have f0 := Lib.frozen_of_heap hblk 0
  have f1 := Lib.frozen_of_heap hblk 1
  have f2 := Lib.frozen_of_heap hblk 2
  have hsz : w.heap.size < w1.heap.size := by have := b1.size; simp at this; omega
  have B1 : Below w.heap.size w w1 := ((Below.refl _ _).alloc (Nat.le_refl _) _).trans (b1.mono (by simp))
  go_wp2_with fail
  exact bodyPost_ret (v := .agg #[.bool false, .int .i64 0, .string ⟨q1.toArray⟩]) (by simp [results, Tryz.results189, go_sem, c0, c1, c2]) rfl ⟨rfl, ((B1.setCell (Nat.le_refl _) _).setCell (Nat.le_refl _) _).setCell (Nat.le_refl _) _⟩
end Go.Proofs.YtcdmiiaamajfoaaGreatDoor
namespace Go.Proofs.YtcdmiiaamajfoaaGreatDoor
open Go.RowKit Go.Ms Go.Lib

/-- What the calls ask of the library's variables. -/
structure Env (w : World) : Prop where
  tabs : Tabs w
  pow : Lib.TabIs Tryz.prog w "internal/strconv.uint64pow10" .u64 Lib.pow10Tab
  syn : ∃ tp p, w.var? Tryz.prog "strconv.ErrSyntax" = some #[.iface tp p]
  rng : ∃ tp p, w.var? Tryz.prog "strconv.ErrRange" = some #[.iface tp p]
  maxl : ∃ m, w.cell? ⟨0, 0, none⟩ = some (.int .i64 m)
theorem Env.below {w w' : World} (h : Env w) (hb : Below w.heap.size w w') : Env w' := by
  refine ⟨tabs_below h.tabs hb, Joins.tab_stays (g := 3) (by kernel_rfl) h.pow hb (Nat.le_refl _), ?_, ?_, ?_⟩
  · obtain ⟨tp, p, hv⟩ := h.syn
    exact ⟨tp, p, Joins.var_stays (g := 4) (by kernel_rfl) hv hb (Nat.le_refl _)⟩
  · obtain ⟨tp, p, hv⟩ := h.rng
    exact ⟨tp, p, Joins.var_stays (g := 5) (by kernel_rfl) hv hb (Nat.le_refl _)⟩
  · obtain ⟨m, hm⟩ := h.maxl
    exact ⟨m, by rw [hb.cell (cell_lt hm)]; exact hm⟩
theorem below_grow (w : World) (k : Nat) (os : Array Obj) : Below w.heap.size w (Go.Sort.grow (w.drewN k) os) :=
  ⟨rfl, rfl, rfl, by simp [Go.Sort.grow, World.drewN], fun j hj => by simp [Go.Sort.grow, World.drewN, Array.getElem?_append, hj]⟩

theorem digits_str (n : Int) (nu : Bool) (S : ByteArray) (w : World) (h0 : -9223372036854775808 ≤ n) (h1 : n ≤ 9223372036854775807) (hE : Env w) :
    Calls Tryz.prog 182 #[.agg #[.bool nu, .int .i64 n, .string S]] w fun e w' => e = .returned (.string ⟨(itoa n).toArray⟩) ∧ Below w.heap.size w w' := by
  have B0 : Below w.heap.size w (w.alloc (.cells #[.bool nu, .int .i64 n, .string S] 23)) := (Below.refl _ w).alloc (Nat.le_refl _) _
  have E1 := hE.below B0
  have cf := Tryz.strconv_FormatInt_10 n h0 h1 _ E1.pow
  generalize itoa n = L at *
  have CF := Lib.hid cf
  clear cf h0 h1
  go_enter Tryz.func182, Tryz.ntmps182
  go_wp2_with fail
  refine CF.out.mono ?_
  rintro en w1 ⟨rfl, k, os, rfl⟩
  have b1 := below_grow (w.alloc (.cells #[.bool nu, .int .i64 n, .string S] 23)) k os
  generalize Go.Sort.grow ((w.alloc (.cells #[.bool nu, .int .i64 n, .string S] 23)).drewN k) os = w1 at *
  go_wp2_with fail
  go_ret
  exact ⟨rfl, B0.trans (b1.mono (by simp))⟩

/-- What ParseInt's first answer is. -/
def wholeN (l : Bs) : Int := match parseIntB 64 l with
  | .ok v => v
  | .range => intSat 64 l
  | _ => 0
theorem parse_any (S : ByteArray) (w : World) (hs : S.size ≤ 100000) (hE : Env w) :
    Calls Tryz.prog 222 #[.string S, .int .i64 10, .int .i64 64] w fun e w' => ∃ er, e = .returned (.tuple #[.int .i64 (wholeN S.data.toList), er]) ∧ Below w.heap.size w w' := by
  unfold wholeN
  cases h : parseIntB 64 S.data.toList with
  | ok v =>
    refine (Tryz.strconv_ParseInt_10_at64_ok S (by omega) v h w).mono ?_
    rintro en w1 ⟨rfl, hw⟩
    refine ⟨_, rfl, ?_⟩
    rcases hw with rfl | ⟨t, rfl⟩
    · exact Below.refl _ _
    · exact Joins.below_bytesWorld _ _ _ _ (Nat.le_refl _)
  | range =>
    obtain ⟨tp, p, hv⟩ := hE.rng
    refine (Tryz.strconv_ParseInt_10_at64_range_var S (by omega) h tp p w hv).mono ?_
    rintro en w1 ⟨N, rfl, _, _, b⟩
    exact ⟨_, rfl, b⟩
  | _ =>
    obtain ⟨tp, p, hv⟩ := hE.syn
    refine (Any.strconv_ParseInt_10_at64_syntax_var Tryz.laysC174 S (by omega) h tp p w hv).mono ?_
    rintro en w1 ⟨N, rfl, _, _, b⟩
    exact ⟨_, rfl, b⟩

/-- What a result's block of three cells says. -/
structure Res3 (w : World) (b : Nat) (x y z : Value) : Prop where
  c0 : w.cell? ⟨b, 0, none⟩ = some x
  c1 : w.cell? ⟨b, 1, none⟩ = some y
  c2 : w.cell? ⟨b, 2, none⟩ = some z
  f0 : w.frozen? ⟨b, 0, none⟩ = false
  f1 : w.frozen? ⟨b, 1, none⟩ = false
  f2 : w.frozen? ⟨b, 2, none⟩ = false
  lt : b < w.heap.size
theorem res3_made {w w1 : World} (e : TypeId) (x y z : Value) (hb : Below (w.heap.size + 1) (w.alloc (.cells #[x, y, z] e)) w1) : Res3 w1 w.heap.size x y z := by
  have hblk : w1.heap[w.heap.size]? = some (.cells #[x, y, z] e (0, 0)) := by
    rw [hb.block _ (by omega)]; exact heap_alloc_new w _
  have hl := hb.size
  simp at hl
  exact ⟨by rw [Lib.cell_of_heap hblk]; rfl, by rw [Lib.cell_of_heap hblk]; rfl, by rw [Lib.cell_of_heap hblk]; rfl, Lib.frozen_of_heap hblk 0, Lib.frozen_of_heap hblk 1, Lib.frozen_of_heap hblk 2, by omega⟩

theorem whole_any (S : ByteArray) (w : World) (hs : S.size ≤ 100000) (hE : Env w) :
    Calls Tryz.prog 183 #[.string S] w fun e w' => e = .returned (.agg #[.bool false, .int .i64 (wholeN S.data.toList), .string ⟨#[]⟩]) ∧ Below w.heap.size w w' := by
  have B0 : Below w.heap.size w (w.alloc (.cells #[.bool false, .int .i64 0, .string ⟨#[]⟩] 23)) := (Below.refl _ w).alloc (Nat.le_refl _) _
  have cp := parse_any S _ hs (hE.below B0)
  generalize wholeN S.data.toList = N at *
  have CP := Lib.hid cp
  clear cp
  go_enter Tryz.func183, Tryz.ntmps183
  go_wp2_with fail
  refine CP.out.mono ?_
  rintro en w1 ⟨er, rfl, b1⟩
  obtain ⟨c0, c1, c2, f0, f1, f2, hlt⟩ := res3_made 23 (.bool false) (.int .i64 0) (.string ⟨#[]⟩) (b1.mono (by simp))
  have B1 := B0.trans (b1.mono (by simp))
  go_wp2_with fail
  exact bodyPost_ret (v := .agg #[.bool false, .int .i64 N, .string ⟨#[]⟩]) (by simp [results, Tryz.results183, go_sem, c0, c1, c2]) rfl ⟨rfl, ((B1.setCell (Nat.le_refl _) _).setCell (Nat.le_refl _) _).setCell (Nat.le_refl _) _⟩
theorem kvalid_str (a : Nat) (n : Int) (nu : Bool) (S : ByteArray) (w : World) (ha : w.cell? ⟨a, 0, none⟩ = some (.func (.func 177) #[] #[])) (hs : S.size ≤ 100000) (hT : Tabs w) :
    Calls Tryz.prog 186 #[.agg #[.bool nu, .int .i64 n, .string S], .pointer (some ⟨a, 0, none⟩)] w fun e w' => e = .returned (.bool (decide (n = 0) && decide (S.size ≤ 1024) && validD S.data.toList)) ∧ Below w.heap.size w w' := by
  have B0 : Below w.heap.size w (w.alloc (.cells #[.bool nu, .int .i64 n, .string S] 23)) := (Below.refl _ w).alloc (Nat.le_refl _) _
  have cs : ∀ w', Calls Tryz.prog 177 #[.agg #[.bool nu, .int .i64 n, .string S]] w' fun e w'' => e = .returned (.bool (decide (n = 0) && decide (S.size ≤ 1024))) ∧ Below w'.heap.size w' w'' := by
    intro w'
    have := ksize_any n nu S.data.toList w' (by simpa using hs)
    rw [← ba_ext (s := S) rfl] at this
    simpa using this
  have cv := fun w' (hT' : Tabs w') => valid_any S w' (by omega) hT'
  obtain ⟨Z, hZ⟩ : ∃ Z, (decide (n = 0) && decide (S.size ≤ 1024)) = Z := ⟨_, rfl⟩
  obtain ⟨V, hV⟩ : ∃ V, validD S.data.toList = V := ⟨_, rfl⟩
  rw [hZ] at cs ⊢
  rw [hV] at cv ⊢
  have CS := Lib.hid cs; have CV := Lib.hid cv
  clear cs cv hZ hV
  have hla := cell_lt ha
  cases Z with
  | false =>
    rw [Bool.false_and]
    go_enter Tryz.func186, Tryz.ntmps186
    go_wp2_with fail
    refine (CS.out _).mono ?_
    rintro en w1 ⟨rfl, b1⟩
    go_wp2_with fail
    go_ret
    exact ⟨rfl, B0.trans (b1.mono (by simp))⟩
  | true =>
    rw [Bool.true_and]
    go_enter Tryz.func186, Tryz.ntmps186
    go_wp2_with fail
    refine (CS.out _).mono ?_
    rintro en w1 ⟨rfl, b1⟩
    obtain ⟨c0, c1, c2, f0, f1, f2, hlt⟩ := res3_made 23 (.bool nu) (.int .i64 n) (.string S) (b1.mono (by simp))
    have B1 := B0.trans (b1.mono (by simp))
    go_wp2_with fail
    refine (CV.out _ (tabs_below hT B1)).mono ?_
    rintro en w2 ⟨rfl, b2⟩
    go_wp2_with fail
    go_ret
    exact ⟨rfl, B1.trans (b2.mono B1.size)⟩
end Go.Proofs.YtcdmiiaamajfoaaGreatDoor
namespace Go.Proofs.YtcdmiiaamajfoaaGreatDoor
open Go.RowKit Go.Ms Go.Lib

theorem row_str (n : Int) (nu : Bool) (S : ByteArray) (w : World) (hs : S.size ≤ 100000) (hE : Env w) :
    Calls Tryz.prog 190 #[.agg #[.bool nu, .int .i64 n, .string S]] w fun e w' => e = .returned (.string ⟨(rowD S.data.toList).toArray⟩) ∧ Below w.heap.size w w' := by
  have B0 : Below w.heap.size w (w.alloc (.cells #[.bool nu, .int .i64 n, .string S] 23)) := (Below.refl _ w).alloc (Nat.le_refl _) _
  obtain ⟨m, hm⟩ := (hE.below B0).maxl
  have hcb := Lib.countB_le ⟨#[0]⟩ (by decide) S.size S (Nat.le_refl _)
  have cr := Tryz.strings_ReplaceAll S ⟨#[0]⟩ ⟨#[0, 255]⟩ m _ (by omega) hm (by decide) (by
    have h2 : (⟨#[0, 255]⟩ : ByteArray).size = 2 := rfl
    rw [h2]; omega)
  have hl := escD_len S.data.toList
  have hz : S.data.toList.length = S.size := by simp
  rw [show (⟨#[0]⟩ : ByteArray).data.toList = [0] from rfl, show (⟨#[0, 255]⟩ : ByteArray).data.toList = [0, 255] from rfl, replaceAll_esc] at cr
  unfold rowD
  generalize escD S.data.toList = L at *
  have hLz : (⟨L.toArray⟩ : ByteArray).size = L.length := List.size_toArray
  have hq : ¬ 9223372036854775807 < (⟨L.toArray⟩ : ByteArray).size + 2 := by rw [hLz]; omega
  have hap : (⟨L.toArray⟩ : ByteArray) ++ ⟨#[0, 0]⟩ = ⟨(L ++ [0, 0]).toArray⟩ := by apply ba_ext; simp
  have HAP := Lib.hid hap
  have CR := Lib.hid cr
  clear cr hap hLz hl hz hcb
  go_enter Tryz.func190, Tryz.ntmps190
  go_wp2_with fail
  refine CR.out.mono ?_
  rintro en w1 ⟨rfl, b1⟩
  go_wp2_with fail
  go_ret
  exact ⟨rfl, B0.trans (b1.mono (by simp))⟩
end Go.Proofs.YtcdmiiaamajfoaaGreatDoor
