/- Cells: what is taken off, whole. Cells: the laws' helpers; the chapter's examples. Cells: the chapter's examples. Cells: cut; three boxed cells. Cells: two and three boxed cells. Cells: a boxed type and a boxed cell; how long texts and bits are. Cells: a boxed type and two boxed cells. The reference's Valid. The reference of the cells: which types and cells may be; how two stand. The reference of the cells: Check. The reference's begins. What the reader takes for a literal is one: a row of parts between quotes. A literal that is cut off anywhere is ErrTrunc. The short escapes. What the reference answers of an escape, way by way. The reference's escape. The steps of Unquote's loop, as the reference takes them. The reference's Unquote. The reference's Quote. The reference of the cells: whole numbers' texts; hex. The reference of the cells: Text. The reference of the cells: Bits. Bounds of whole numbers. The reference of the cells: Bits, whole. CellWrites: the walk. The reference of the cells: Whole. The reference of the cells: Unhex. The reference of the cells: Unhex, the walk. The reference of the cells: run, the walk. The reference of the cells: what Read answers, in plain terms. The reference of the cells: guess, the walk. The reference of the cells: bare, the walk. The reference of the cells: Unbits. Rows: what is known of cells. Rows: cells stand while only new blocks are written. Rows: lists of one's own, appended to from a list that lies in memory. Lists in memory, copied; cells of one's own, written. -/
import Derived.Test.YtikpmmipopmjaaaGreatDoorZQk
import Derived.Test.YtikpmmipopmjaaaGreatDoorZQm
import Derived.Deep.DeepCutAuto
import Derived.Deep.RegionWith
import Derived.Lib.ItoaLen
import Derived.Test.YtikpmmipopmjaaaGreatDoorZQb
import Derived.Test.YtikpmmipopmjaaaGreatDoorZQh
import Derived.Test.YtikpmmipopmjaaaGreatDoorZQg
import Derived.Test.YtikpmmipopmjaaaGreatDoorZQc
import Derived.Test.YtikpmmipopmjaaaGreatDoorZQd
import Derived.Deep.RegionHeld3
import Derived.Deep.RegionLaw
import Derived.Test.YtikpmmipopmjaaaGreatDoorZQa
import Derived.Lib.OthersKept
set_option linter.unusedVariables false
namespace Go.Proofs.YtikpmmipopmjaaaGreatDoor
open Go.RowKit Go.Ms Go.Lib
end Go.Proofs.YtikpmmipopmjaaaGreatDoor
namespace Go.Proofs.YtikpmmipopmjaaaGreatDoor
open Go.RowKit Go.Ms Go.Lib
end Go.Proofs.YtikpmmipopmjaaaGreatDoor
namespace Go.Proofs.YtikpmmipopmjaaaGreatDoor
open Go.RowKit Go.Ms Go.Lib
end Go.Proofs.YtikpmmipopmjaaaGreatDoor
namespace Go.Proofs.YtikpmmipopmjaaaGreatDoor
open Go.RowKit Go.Ms Go.Lib
end Go.Proofs.YtikpmmipopmjaaaGreatDoor
namespace Go.Proofs.YtikpmmipopmjaaaGreatDoor
open Go.RowKit Go.Ms Go.Lib
section
end
end Go.Proofs.YtikpmmipopmjaaaGreatDoor
namespace Go.Ms
open Go.Lib
end Go.Ms
namespace Go.Proofs.YtikpmmipopmjaaaGreatDoor
open Go.RowKit Go.Ms Go.Lib
theorem kbitsD_len {k : Int} {tn nu : Bool} {n : Int} {s : Bs} (hc : kCheck k tn nu n s = 0) : (kBitsD k tn nu n s).length ≤ 2051 := by
 obtain ⟨hk, ho⟩ := check_zero hc; unfold kBitsD; rw [if_pos hc]
 cases nu with
 | true => simp
 | false =>
  have := kbits_len hk (ok_some ho)
  cases tn
  · simp only [Bool.false_eq_true, if_false]; omega
  · simp only [Bool.false_eq_true, if_false, if_true, List.length_cons]; omega
section
variable {w w1 w2 : World} {b : Nat} {k n : Int} {tn u : Bool} {S : ByteArray}
end
end Go.Proofs.YtikpmmipopmjaaaGreatDoor
namespace Go.Proofs.YtikpmmipopmjaaaGreatDoor
open Go.RowKit Go.Ms Go.Lib
section
end
end Go.Proofs.YtikpmmipopmjaaaGreatDoor
namespace Go.Proofs.YtikpmmipopmjaaaGreatDoor
open Go.RowKit Go.Ms Go.Lib
end Go.Proofs.YtikpmmipopmjaaaGreatDoor
namespace Go.Proofs.YtikpmmipopmjaaaGreatDoor
open Go.RowKit Go.Ms Go.Lib
end Go.Proofs.YtikpmmipopmjaaaGreatDoor
namespace Go.Proofs.YtikpmmipopmjaaaGreatDoor
open Go.RowKit Go.Ms Go.Lib
end Go.Proofs.YtikpmmipopmjaaaGreatDoor
namespace Go.Proofs.YtikpmmipopmjaaaGreatDoor
open Go.RowKit Go.Ms Go.Lib
end Go.Proofs.YtikpmmipopmjaaaGreatDoor
namespace Go.Proofs.YtikpmmipopmjaaaGreatDoor
open Go.RowKit Go.Ms Go.Lib
end Go.Proofs.YtikpmmipopmjaaaGreatDoor
namespace Go.Proofs.YtikpmmipopmjaaaGreatDoor
open Go.RowKit Go.Ms Go.Lib
end Go.Proofs.YtikpmmipopmjaaaGreatDoor
namespace Go.Ms
open Go.Lib
end Go.Ms
namespace Go.Ms
open Go.Lib
theorem esc_three {l : Bs} {p n : Nat} {acc r : Bs} (h : l.drop p = 92 :: r) (he : (rdEscape l (p + 1) 0).2.2 = 3) : uqGo l (n + 2) acc p 0 = ([], 0, 3) := by
 obtain ⟨g1, g2, _⟩ := drop_cons h; rw [uqGo_succ, if_pos rfl, if_neg (by omega), if_neg (by rw [g2]; decide), if_pos (by rw [g2]; rfl), he, go_err _ _ _ _ (by decide)]
theorem end_three {l : Bs} {p n : Nat} {acc : Bs} (hp : p ≤ l.length) (h : l.drop p = []) : uqGo l (n + 1) acc p 0 = ([], 0, 3) := by
 have : p = l.length := by
  have := congrArg List.length h; simp at this; omega
 rw [uqGo_succ, if_pos rfl, if_pos this]
theorem w1_three {l : Bs} {p : Nat} {n : Int} (h : (rdWant l 92 p 0).2 = 3) : (rdPair l p 0 n).2.2 = 3 := by
 unfold rdPair; simp only [h, want_err _ _ _ (show (3 : Int) ≠ 0 by decide)]; rw [(half_err l true _ (by decide)).1, if_neg (by decide)]
theorem w2_three {l : Bs} {p p' : Nat} {n : Int} (h : rdWant l 92 p 0 = (p', 0)) (h2 : (rdWant l 117 p' 0).2 = 3) : (rdPair l p 0 n).2.2 = 3 := by
 unfold rdPair; simp only [h, h2]; rw [(half_err l true _ (by decide)).1, if_neg (by decide)]
theorem w3_three {l : Bs} {p p' p'' : Nat} {n : Int} (h : rdWant l 92 p 0 = (p', 0)) (h2 : rdWant l 117 p' 0 = (p'', 0)) (h3 : (rdHalf l true p'' 0).2.2 = 3) : (rdPair l p 0 n).2.2 = 3 := by
 unfold rdPair; simp only [h, h2, h3]; rw [if_neg (by decide)]
theorem long_pair {l : Bs} {p p3 : Nat} {n : Int} (h : rdHalf l false p 0 = (n, p3, 0)) (hn : 55296 ≤ n ∧ n < 56320) : rdLong l (p, 0) (0, 0) = rdPair l p3 0 n := by
 unfold rdLong; simp only [h]; rw [if_pos hn]
theorem part_cut {q t : Bs} (hq : Part q t) {l : Bs} {p j n : Nat} {acc : Bs} (hj : j < q.length) (hp : p ≤ l.length) (h : l.drop p = q.take j) : uqGo l (n + 2) acc p 0 = ([], 0, 3) := by
 have hlen := congrArg List.length h; rw [List.length_drop, List.length_take] at hlen
 cases j with
 | zero => exact end_three hp h
 | succ j =>
 cases hq with
 | rune r hr h1 h2 h3 =>
  obtain ⟨c, tl, e, ea, eh⟩ := enc_head hr; have hb := (isRune_iff r).1 hr
  have hr2 : 128 ≤ r := by
   rcases Int.lt_or_le r 128 with g | g
   · rw [enc_ascii (by omega) (by omega)] at hj; simp at hj
   · exact g
  have hc : l.drop p = c :: tl.take j := by rw [h, e]; rfl
  obtain ⟨g1, g2, _⟩ := drop_cons hc; have hx := eh hr2; have n1 := cut_none hr (j := j + 1) (by omega) hj; have n2 := cut_more hr (j := j + 1) (by omega) hj
  have hpl : rdPlain l p 0 = ([], p, (3 : Int)) := by
   unfold rdPlain; rw [if_neg (by omega), h, n1, n2]; rfl
  rw [uqGo_succ, if_pos rfl, if_neg (by omega), if_neg (by omega), if_neg (by omega), hpl, go_err _ _ _ _ (show (3 : Int) ≠ 0 by decide)]
 | slash =>
  obtain rfl : j = 0 := by simp at hj; omega
  have h' : l.drop p = 92 :: [] := h; exact esc_three h' (esc_end (by simp at hlen; omega) (drop_cons h').2.2)
 | short c k hk =>
  obtain rfl : j = 0 := by simp at hj; omega
  have h' : l.drop p = 92 :: [] := h; exact esc_three h' (esc_end (by simp at hlen; omega) (drop_cons h').2.2)
 | four c1 c2 c3 c4 k1 k2 k3 k4 ho hn =>
  have h' : l.drop p = 92 :: ([117, c1, c2, c3, c4] : Bs).take j := h; obtain ⟨g1, g2, g3⟩ := drop_cons h'
  cases j with
  | zero => exact esc_three h' (esc_end (by omega) g3)
  | succ j =>
   have g4 : l.drop (p + 1) = 117 :: ([c1, c2, c3, c4] : Bs).take j := g3; obtain ⟨g5, g6, g7⟩ := drop_cons g4; refine esc_three h' ?_; rw [esc_u g4]; exact long_err (by decide) (half_end false (by omega) (by simp at hj; omega) g7 k1 k2 k3 ho)
 | pair c1 c2 c3 c4 d1 d2 d3 d4 k1 k2 k3 k4 j1 j2 j3 j4 ho hn hp2 =>
  have h' : l.drop p = 92 :: ([117, c1, c2, c3, c4, 92, 117, d1, d2, d3, d4] : Bs).take j := h; obtain ⟨g1, g2, g3⟩ := drop_cons h'
  cases j with
  | zero => exact esc_three h' (esc_end (by omega) g3)
  | succ j =>
   have g4 : l.drop (p + 1) = 117 :: ([c1, c2, c3, c4, 92, 117, d1, d2, d3, d4] : Bs).take j := g3; obtain ⟨g5, g6, g7⟩ := drop_cons g4; refine esc_three h' ?_; rw [esc_u g4]
   by_cases hj4 : j < 4
   · have e : ([c1, c2, c3, c4, 92, 117, d1, d2, d3, d4] : Bs).take j = ([c1, c2, c3, c4] : Bs).take j := by
       rcases (by omega : j = 0 ∨ j = 1 ∨ j = 2 ∨ j = 3) with rfl | rfl | rfl | rfl <;> rfl
     rw [e] at g7; exact long_err (by decide) (half_end false (by omega) hj4 g7 k1 k2 k3 ho)
   · obtain ⟨i, rfl⟩ : ∃ i, j = i + 4 := ⟨j - 4, by omega⟩; have g8 : l.drop (p + 1 + 1) = c1 :: c2 :: c3 :: c4 :: ([92, 117, d1, d2, d3, d4] : Bs).take i := g7; have hh := half_ok false g8 k1 k2 k3 k4 ho; have g9 := (drop_cons (drop_cons (drop_cons (drop_cons g8).2.2).2.2).2.2); obtain ⟨g10, _, g11⟩ := g9; rw [long_pair hh hn]
     cases i with
     | zero => exact w1_three (by rw [want_end (by omega) g11 (by decide)])
     | succ i =>
      have g12 : l.drop (p + 1 + 1 + 4) = 92 :: ([117, d1, d2, d3, d4] : Bs).take i := g11; have w1 : rdWant l 92 (p + 1 + 1 + 4) 0 = (p + 1 + 1 + 4 + 1, (0 : Int)) := want_ok g12; obtain ⟨g13, _, g14⟩ := drop_cons g12
      cases i with
      | zero => exact w2_three w1 (by rw [want_end (by omega) g14 (by decide)])
      | succ i =>
       have g15 : l.drop (p + 1 + 1 + 4 + 1) = 117 :: ([d1, d2, d3, d4] : Bs).take i := g14; have w2 : rdWant l 117 (p + 1 + 1 + 4 + 1) 0 = (p + 1 + 1 + 4 + 1 + 1, (0 : Int)) := want_ok g15; obtain ⟨g16, _, g17⟩ := drop_cons g15; exact w3_three w1 w2 (half_end true (by omega) (by simp at hj; omega) g17 j1 j2 j3 hp2)
theorem go_cut {k : Nat} {q t : Bs} (h : Lits k q t) : ∀ {l : Bs} {p j N : Nat} {acc : Bs}, j ≤ q.length → p ≤ l.length → l.drop p = q.take j → j + 2 ≤ N → uqGo l N acc p 0 = ([], 0, 3) := by
 induction h with
 | nil =>
  intro l p j N acc _ hp hd hN
  obtain ⟨N, rfl⟩ : ∃ M, N = M + 1 := ⟨N - 1, by omega⟩; exact end_three hp (by rw [hd]; simp)
 | @cons k' q t q' t' h _ ih =>
  intro l p j N acc hj hp hd hN
  obtain ⟨N, rfl⟩ : ∃ M, N = M + 2 := ⟨N - 2, by omega⟩
  by_cases hc : j < q.length
  · rw [List.take_append_of_le_length (by omega)] at hd; exact part_cut h hc hp hd
  · have e : (q ++ q').take j = q ++ q'.take (j - q.length) := by
      rw [List.take_append, List.take_of_length_le (by omega)]
    rw [e] at hd; have hlen := congrArg List.length hd; rw [List.length_drop, List.length_append] at hlen; have := h.pos; rw [go_part h hd]; exact ih (by rw [List.length_append] at hj; omega) (by omega) (drop_app hd) (by omega)
end Go.Ms
namespace Go.Ms
open Go.Lib
end Go.Ms
namespace Go.Ms
open Go.Lib
end Go.Ms
namespace Go.Proofs.YtikpmmipopmjaaaGreatDoor
open Go.RowKit Go.Ms Go.Lib
end Go.Proofs.YtikpmmipopmjaaaGreatDoor
namespace Go.Ms
open Go.Lib
end Go.Ms
namespace Go.Proofs.YtikpmmipopmjaaaGreatDoor
open Go.RowKit Go.Ms Go.Lib
end Go.Proofs.YtikpmmipopmjaaaGreatDoor
namespace Go.Proofs.YtikpmmipopmjaaaGreatDoor
open Go.RowKit Go.Ms Go.Lib
end Go.Proofs.YtikpmmipopmjaaaGreatDoor
namespace Go.Ms
open Go.Lib
end Go.Ms
namespace Go.Proofs.YtikpmmipopmjaaaGreatDoor
open Go.RowKit Go.Ms Go.Lib
end Go.Proofs.YtikpmmipopmjaaaGreatDoor
namespace Go.Proofs.YtikpmmipopmjaaaGreatDoor
open Go.RowKit Go.Ms Go.Lib
end Go.Proofs.YtikpmmipopmjaaaGreatDoor
set_option linter.unusedSimpArgs false
namespace Go.Ms
open Go.Lib
end Go.Ms
namespace Go.Proofs.YtikpmmipopmjaaaGreatDoor
open Go.RowKit Go.Ms Go.Lib
end Go.Proofs.YtikpmmipopmjaaaGreatDoor
namespace Go.Proofs.YtikpmmipopmjaaaGreatDoor
open Go.RowKit Go.Ms Go.Lib
end Go.Proofs.YtikpmmipopmjaaaGreatDoor
namespace Go.Proofs.YtikpmmipopmjaaaGreatDoor
open Go.RowKit Go.Ms Go.Lib
end Go.Proofs.YtikpmmipopmjaaaGreatDoor
set_option linter.unusedSimpArgs false
namespace Go.Ms
open Go.Lib
end Go.Ms
namespace Go.Proofs.YtikpmmipopmjaaaGreatDoor
open Go.RowKit Go.Ms Go.Lib
end Go.Proofs.YtikpmmipopmjaaaGreatDoor
set_option linter.unusedSimpArgs false
namespace Go.Ms
open Go.Lib
end Go.Ms
namespace Go.Proofs.YtikpmmipopmjaaaGreatDoor
open Go.RowKit Go.Ms Go.Lib
end Go.Proofs.YtikpmmipopmjaaaGreatDoor
set_option linter.unusedSimpArgs false
namespace Go.Proofs.YtikpmmipopmjaaaGreatDoor
open Go.RowKit Go.Ms Go.Lib
end Go.Proofs.YtikpmmipopmjaaaGreatDoor
set_option linter.unusedSimpArgs false
namespace Go.Proofs.YtikpmmipopmjaaaGreatDoor
open Go.RowKit Go.Ms Go.Lib
end Go.Proofs.YtikpmmipopmjaaaGreatDoor
set_option linter.unusedSimpArgs false
namespace Go.Ms
open Go.Lib
end Go.Ms
namespace Go.Proofs.YtikpmmipopmjaaaGreatDoor
open Go.RowKit Go.Ms Go.Lib
end Go.Proofs.YtikpmmipopmjaaaGreatDoor
set_option linter.unusedSimpArgs false
namespace Go.Proofs.YtikpmmipopmjaaaGreatDoor
open Go.RowKit Go.Ms Go.Lib
end Go.Proofs.YtikpmmipopmjaaaGreatDoor
set_option linter.unusedSimpArgs false
namespace Go.Ms
open Go.Lib
end Go.Ms
namespace Go.Proofs.YtikpmmipopmjaaaGreatDoor
open Go.RowKit Go.Ms Go.Lib
end Go.Proofs.YtikpmmipopmjaaaGreatDoor
set_option linter.unusedSimpArgs false
namespace Go.Ms
open Go.Lib
end Go.Ms
namespace Go.Proofs.YtikpmmipopmjaaaGreatDoor
open Go.RowKit Go.Ms Go.Lib
end Go.Proofs.YtikpmmipopmjaaaGreatDoor
namespace Go.Ms
end Go.Ms
namespace Go.Proofs.YtikpmmipopmjaaaGreatDoor
open Go.RowKit Go.Ms Go.Lib
theorem ykeep6 {W w1 w2 : World} {p1 p2 p3 p4 p5 p6 : Addr} {v1 v2 v3 v4 v5 v6 : Value} (h : (w1.cell? p1 = some v1 ∧ w1.cell? p2 = some v2 ∧ w1.cell? p3 = some v3 ∧ w1.cell? p4 = some v4 ∧ w1.cell? p5 = some v5 ∧ w1.cell? p6 = some v6) ∧ Below W.heap.size W w1) (hb : Below w1.heap.size w1 w2) :
    (w2.cell? p1 = some v1 ∧ w2.cell? p2 = some v2 ∧ w2.cell? p3 = some v3 ∧ w2.cell? p4 = some v4 ∧ w2.cell? p5 = some v5 ∧ w2.cell? p6 = some v6) ∧ Below W.heap.size W w2 := by
 obtain ⟨⟨c1, c2, c3, c4, c5, c6⟩, f⟩ := h; exact ⟨⟨(hb.cell (cell_lt c1)).trans c1, (hb.cell (cell_lt c2)).trans c2, (hb.cell (cell_lt c3)).trans c3, (hb.cell (cell_lt c4)).trans c4, (hb.cell (cell_lt c5)).trans c5, (hb.cell (cell_lt c6)).trans c6⟩, f.trans (hb.mono f.size)⟩
theorem ykeep7 {W w1 w2 : World} {p1 p2 p3 p4 p5 p6 p7 : Addr} {v1 v2 v3 v4 v5 v6 v7 : Value} (h : (w1.cell? p1 = some v1 ∧ w1.cell? p2 = some v2 ∧ w1.cell? p3 = some v3 ∧ w1.cell? p4 = some v4 ∧ w1.cell? p5 = some v5 ∧ w1.cell? p6 = some v6 ∧ w1.cell? p7 = some v7) ∧ Below W.heap.size W w1) (hb : Below w1.heap.size w1 w2) :
    (w2.cell? p1 = some v1 ∧ w2.cell? p2 = some v2 ∧ w2.cell? p3 = some v3 ∧ w2.cell? p4 = some v4 ∧ w2.cell? p5 = some v5 ∧ w2.cell? p6 = some v6 ∧ w2.cell? p7 = some v7) ∧ Below W.heap.size W w2 := by
 obtain ⟨⟨c1, c2, c3, c4, c5, c6, c7⟩, f⟩ := h; exact ⟨⟨(hb.cell (cell_lt c1)).trans c1, (hb.cell (cell_lt c2)).trans c2, (hb.cell (cell_lt c3)).trans c3, (hb.cell (cell_lt c4)).trans c4, (hb.cell (cell_lt c5)).trans c5, (hb.cell (cell_lt c6)).trans c6, (hb.cell (cell_lt c7)).trans c7⟩, f.trans (hb.mono f.size)⟩
theorem endK {A : Prop} {W w1 : World} (h : A ∧ Below W.heap.size W w1) : Below W.heap.size W w1 := h.2
end Go.Proofs.YtikpmmipopmjaaaGreatDoor
namespace Go.Ms
open Go.RowKit Go.Lib
theorem Lay.src {P : Program} {w : World} {B size m c : Nat} {A : Option Addr} {xs : List Value} {tx e : TypeId} (h : Lay w B A xs) (hk : P.underlying tx = some (.slice e)) (hl : xs.length = m * size) (hs : 0 < size) (hA : A = none → m = 0) (h1 : ∀ u ∈ xs, u.oneCell' = true) : Src P size tx (.slice A m c) m xs w := by
 rcases A with _ | a
 · have h0 := hA rfl; subst h0; have hx : xs = [] := List.eq_nil_of_length_eq_zero (by simpa using hl); subst hx; exact Src.ofNil w hk c
 · refine Src.ofSlice w hk a m c xs hl (fun j u hu => ?_) h1; obtain ⟨g, o, e, _, hc⟩ := h j u hu
   cases e
   rw [Addr.add_lit]; exact hc
theorem Lay.none_len {w : World} {B : Nat} {xs : List Value} (h : Lay w B none xs) : xs = [] := by
 rcases xs with _ | ⟨x, t⟩
 · rfl
 · obtain ⟨_, _, e, _⟩ := h 0 x rfl
   cases e
theorem run_append_lay {P : Program} (w : World) (base : Nat) (t ty e : TypeId) (i : TypeInfo) (z : Value) (size bytes : Nat) (ht : P.underlying t = some (.slice e)) (hi : P.info? e = some i) (hz : i.zero = some z)
    (hsize : i.size = size) (hby : i.bytes = bytes) (hzs : z.cells.size = size) (hsz : 0 < size)
    (v : Value) (n : Nat) (xs : List Value) (hown : w.ownsRow base e size v n xs) (B : Nat) (A : Option Addr) (m c : Nat) (news : List Value) (hl : news.length = m * size) (hnews : Lay w B A news) (h1 : ∀ u ∈ news, u.oneCell' = true)
    (h63 : n + m ≤ maxLen) (hbytes : (n + m) * bytes ≤ 140737488355328) (hbase : base ≤ w.heap.size) :
    ∃ v' w', (Builtin.append_ #[t, t] ty #[v, .slice A m c]).run P w = .ok v' w' ∧ w'.ownsRow base e size v' (n + m) (xs ++ news) ∧ w.grownBy w' v.ownBlock := by
 have hA : A = none → m = 0 := fun h => by
  subst h; have := hnews.none_len; subst this
  rcases Nat.eq_zero_or_pos m with h0 | h0
  · exact h0
  · have := Nat.mul_pos h0 hsz; simp at hl; omega
 exact run_append_own_src (P := P) w base t t ty e i z size bytes ht hi hz hsize hby hzs hsz v n xs hown (.slice A m c) m news (hnews.src ht hl hsz hA h1) h63 hbytes hbase
theorem wpList_append_lay {P : Program} {w : World} {ops : Array Oper} {rest : List Oper} {o : Oper} {a : Act} {Q : Exit → Act → World → Prop} (hgd : o.guard = none) (s x : Operand) (t : TypeId)
    (ho : o.op = .call { callee := .builtin .append, args := #[s, x], argTypes := #[t, t] })
    (base : Nat) (e : TypeId) (i : TypeInfo) (z : Value) (size bytes : Nat) (ht : P.underlying t = some (.slice e)) (hi : P.info? e = some i) (hz : i.zero = some z)
    (hsize : i.size = size) (hby : i.bytes = bytes) (hzs : z.cells.size = size) (hsz : 0 < size)
    (v : Value) (n : Nat) (xs : List Value) (hs : a.eval s = v) (hown : w.ownsRow base e size v n xs) (B : Nat) (A : Option Addr) (m c : Nat) (news : List Value) (hx : a.eval x = .slice A m c) (hl : news.length = m * size) (hnews : Lay w B A news) (h1 : ∀ u ∈ news, u.oneCell' = true)
    (h63 : n + m ≤ maxLen) (hbytes : (n + m) * bytes ≤ 140737488355328) (hbase : base ≤ w.heap.size)
    (h : ∀ v' w', w'.ownsRow base e size v' (n + m) (xs ++ news) → w.grownBy w' v.ownBlock → wpList P ops Q rest (a.put o.dst v') w') : wpList P ops Q (o :: rest) a w := by
 refine wpList_plain hgd fun K' hK' => ?_
 obtain ⟨v', w', hr, h2, h3⟩ := run_append_lay (P := P) w base t o.type e i z size bytes ht hi hz hsize hby hzs hsz v n xs hown B A m c news hl hnews h1 h63 hbytes hbase; unfold Oper.wp execOp; simp only [ho, resolve, invoke, builtin, Sem.run_bind, Sem.run_pure, Result.andThen_ok, List.map_toArray, List.map_cons, List.map_nil, hs, hx, hr]; exact hK' _ _ (h v' w' h2 h3)
theorem lay_new (w : World) (vs : List Value) (e : TypeId) : Lay (w.alloc (.cells vs.toArray e)) (w.alloc (.cells vs.toArray e)).heap.size (some ⟨w.heap.size, 0, none⟩) vs := fun j u hu => by
 refine ⟨_, _, rfl, by simp, ?_⟩; rw [Lib.cell_of_heap (heap_alloc_new w _)]
 simpa using hu
theorem rowV_one (l : List Cl) : ∀ u ∈ rowV l, u.oneCell' = true := by
 intro u hu
 obtain ⟨c, _, h⟩ := List.mem_flatMap.1 hu; simp only [clV, List.mem_cons, List.not_mem_nil, or_false] at h
 rcases h with rfl | rfl | rfl <;> rfl
theorem intV_one (l : List Int) : ∀ u ∈ intV l, u.oneCell' = true := by
 intro u hu
 obtain ⟨_, _, rfl⟩ := List.mem_map.1 hu; rfl
def OwnC (w : World) (B : Nat) (e : TypeId) (v : Value) (l : List Cl) : Prop := w.ownsRow B e 3 v l.length (rowV l)
def OwnI (w : World) (B : Nat) (e : TypeId) (v : Value) (l : List Int) : Prop := w.ownsRow B e 1 v l.length (intV l)
theorem yown_slice {w : World} {base size n : Nat} {e : TypeId} {v : Value} {xs : List Value} (h : w.ownsRow base e size v n xs) : ∃ A c, v = .slice A n c ∧ n ≤ c ∧ c ≤ maxLen := by
 rcases h.2 with ⟨rfl, rfl⟩ | ⟨g, cap, cur, rfl, _, _, h1, h2, _⟩
 · exact ⟨_, _, rfl, Nat.le_refl _, by unfold maxLen; omega⟩
 · exact ⟨_, _, rfl, h1, h2⟩
theorem own_below {w w' : World} {base size n : Nat} {e : TypeId} {v : Value} {xs : List Value} (h : w.ownsRow base e size v n xs) (hb : Below w.heap.size w w') : w'.ownsRow base e size v n xs :=
  World.ownsRow.kept h (row := none) ⟨hb.os, hb.tape, hb.output, hb.size, fun k hk _ => hb.block k hk⟩ (by cases hv : v.ownBlock <;> simp)
theorem own_grown {w0 w w' : World} {B base size n : Nat} {e : TypeId} {v : Value} {xs : List Value} (h : w.ownsRow base e size v n xs) (hb : Below B w0 w) (hB : B ≤ w.heap.size) (hBb : B ≤ base) (hg : w.grownBy w' v.ownBlock) : Below B w0 w' :=
  hb.grown hg hB (fun k hk => Nat.le_trans hBb (World.ownsRow.lt h k hk).1)
theorem own_more {w : World} {base base' size n : Nat} {e : TypeId} {v : Value} {xs : List Value} (h : w.ownsRow base e size v n xs) (hb : base' ≤ base) : w.ownsRow base' e size v n xs := by
 refine ⟨h.1, h.2.imp id ?_⟩; rintro ⟨g, cap, cur, h1, h2, h3⟩; exact ⟨g, cap, cur, h1, Nat.le_trans hb h2, h3⟩
theorem OwnC.lay {w : World} {B : Nat} {e : TypeId} {A : Option Addr} {n c : Nat} {l : List Cl} (h : OwnC w B e (.slice A n c) l) : n = l.length ∧ Lay w w.heap.size A (rowV l) := by
 unfold OwnC at h
 have hn : n = l.length := by
  obtain ⟨A', c', he, _⟩ := yown_slice h
  injection he
 subst hn; exact ⟨rfl, Lay.of_own h (Nat.le_refl _)⟩
theorem OwnI.lay {w : World} {B : Nat} {e : TypeId} {A : Option Addr} {n c : Nat} {l : List Int} (h : OwnI w B e (.slice A n c) l) : n = l.length ∧ Lay w w.heap.size A (intV l) := by
 unfold OwnI at h
 have hn : n = l.length := by
  obtain ⟨A', c', he, _⟩ := yown_slice h
  injection he
 subst hn; exact ⟨rfl, Lay.of_own h (Nat.le_refl _)⟩
end Go.Ms
namespace Go.Ms
open Go.RowKit Go.Lib
def Ext (w : World) (B : Nat) (A : Option Addr) (xs : List Value) : Prop := ∀ j u, xs[j]? = some u → ∃ a, A = some a ∧ a.block < B ∧ w.cell? (a.add j) = some u
theorem adr_block (a : Addr) (n : Nat) : (a.add n).block = a.block := by unfold Addr.add; split <;> rfl
theorem Ext.keep {w w' : World} {B : Nat} {A : Option Addr} {xs : List Value} (h : Ext w B A xs) (hb : Below B w w') : Ext w' B A xs := fun j u hu => by
 obtain ⟨a, e, hl, hc⟩ := h j u hu; exact ⟨a, e, hl, (hb.cell (by rw [adr_block]; exact hl)).trans hc⟩
theorem Ext.more {w : World} {B B' : Nat} {A : Option Addr} {xs : List Value} (h : Ext w B A xs) (hB : B ≤ B') : Ext w B' A xs := fun j u hu => by
 obtain ⟨a, e, hl, hc⟩ := h j u hu; exact ⟨a, e, by omega, hc⟩
theorem Ext.take {w : World} {B : Nat} {A : Option Addr} {xs : List Value} (h : Ext w B A xs) (n : Nat) : Ext w B A (xs.take n) := fun j u hu => by
 refine h j u ?_; rw [List.getElem?_take] at hu
 split at hu
 · exact hu
 · cases hu
theorem Lay.ext {w : World} {B : Nat} {A : Option Addr} {xs : List Value} (h : Lay w B A xs) : Ext w B A xs := fun j u hu => by
 obtain ⟨g, o, e, hl, hc⟩ := h j u hu; exact ⟨_, e, hl, by rw [Addr.add_lit]; exact hc⟩
theorem Ext.none_len {w : World} {B : Nat} {xs : List Value} (h : Ext w B none xs) : xs = [] := by
 rcases xs with _ | ⟨x, t⟩
 · rfl
 · obtain ⟨_, e, _⟩ := h 0 x rfl
   cases e
theorem Ext.src {P : Program} {w : World} {B size m c : Nat} {A : Option Addr} {xs : List Value} {tx e : TypeId} (h : Ext w B A xs) (hk : P.underlying tx = some (.slice e)) (hl : xs.length = m * size) (hs : 0 < size) (h1 : ∀ u ∈ xs, u.oneCell' = true) : Src P size tx (.slice A m c) m xs w := by
 rcases A with _ | a
 · have hx := h.none_len; subst hx
   have h0 : m = 0 := by
    rcases Nat.eq_zero_or_pos m with h0 | h0
    · exact h0
    · have := Nat.mul_pos h0 hs; simp at hl; omega
   subst h0; exact Src.ofNil w hk c
 · refine Src.ofSlice w hk a m c xs hl (fun j u hu => ?_) h1; obtain ⟨a', e, _, hc⟩ := h j u hu
   cases e
   exact hc
theorem wpList_copy_ext {P : Program} {w : World} {ops : Array Oper} {rest : List Oper} {o : Oper} {a : Act} {Q : Exit → Act → World → Prop} (hgd : o.guard = none) (s x : Operand) (t : TypeId)
    (ho : o.op = .call { callee := .builtin .append, args := #[s, x], argTypes := #[t, t] })
    (base : Nat) (e : TypeId) (i : TypeInfo) (z : Value) (size bytes : Nat) (ht : P.underlying t = some (.slice e)) (hi : P.info? e = some i) (hz : i.zero = some z)
    (hsize : i.size = size) (hby : i.bytes = bytes) (hzs : z.cells.size = size) (hsz : 0 < size)
    (hs : a.eval s = .slice none 0 0) (B : Nat) (A : Option Addr) (m c : Nat) (news : List Value) (hx : a.eval x = .slice A m c) (hl : news.length = m * size) (hnews : Ext w B A news) (h1 : ∀ u ∈ news, u.oneCell' = true)
    (h63 : m ≤ maxLen) (hbytes : m * bytes ≤ 140737488355328) (hbase : base ≤ w.heap.size)
    (h : ∀ v' w', w'.ownsRow base e size v' m news → Below w.heap.size w w' → wpList P ops Q rest (a.put o.dst v') w') : wpList P ops Q (o :: rest) a w := by
 refine wpList_plain hgd fun K' hK' => ?_
 obtain ⟨v', w', hr, h2, h3⟩ := run_append_own_src (P := P) w base t t o.type e i z size bytes ht hi hz hsize hby hzs hsz (.slice none 0 0) 0 [] (World.ownsRow_nil w base e size) (.slice A m c) m news (hnews.src ht hl hsz h1) (by omega) (by rw [Nat.zero_add]; exact hbytes) hbase; unfold Oper.wp execOp; simp only [ho, resolve, invoke, builtin, Sem.run_bind, Sem.run_pure, Result.andThen_ok, List.map_toArray, List.map_cons, List.map_nil, hs, hx, hr]; refine hK' _ _ (h v' w' (by simpa using h2) ((Below.refl _ _).grown h3 (Nat.le_refl _) (fun k hk => by cases hk)))
end Go.Ms
namespace Go.Proofs.YtikpmmipopmjaaaGreatDoor
open Go.RowKit Go.Ms Go.Lib
theorem cell_info : (Tryz.prog.info? 57).map (fun i => (i.zero, i.size, i.bytes)) = some (some (.agg #[.bool false, .int .i64 0, .string ⟨#[]⟩]), 3, 32) := by kernel_rfl
theorem int_info : (Tryz.prog.info? 3).map (fun i => (i.zero, i.size, i.bytes)) = some (some (.int .i64 0), 1, 8) := by kernel_rfl
theorem tri_box {w : World} {b : Nat} {x y z : Value} {T : TypeId} (h : w.heap[b]? = some (.cells #[x, y, z] T (0, 0))) (p q r : Value) : (((w.setCell ⟨b, 0, none⟩ p).setCell ⟨b, 1, none⟩ q).setCell ⟨b, 2, none⟩ r).heap[b]? = some (.cells #[p, q, r] T (0, 0)) := by
 simp [World.setCell, Array.getElem?_modify, h]
theorem column_info : (Tryz.prog.info? 59).map (fun i => (i.zero, i.size, i.bytes)) = some (some (.agg #[.int .i64 0, .string ⟨#[]⟩, .int .i64 0, .bool false, .bool false, .int .i64 0, .string ⟨#[]⟩]), 7, 72) := by kernel_rfl
set_option maxRecDepth 100000 in
theorem copycols_any (w : World) (A : Option Addr) (n cap : Nat) (xs : List Value) (hn' : n ≤ 100000) (hn : xs.length = n * 7) (hA : Ext w w.heap.size A xs) (h1 : ∀ u ∈ xs, u.oneCell' = true) :
    Calls Tryz.prog 36 #[.slice A n cap] w fun e w' => ∃ v, e = .returned v ∧ w'.ownsRow w.heap.size 59 7 v n xs ∧ Below w.heap.size w w' := by
 obtain ⟨i0, hi, hz0, hz1, hz2⟩ := info_parts column_info
 have HA := Lib.hid hA; have HN := Lib.hid hn; have H1 := Lib.hid h1
 clear hA hn h1
 go_enter Tryz.func36, Tryz.ntmps36
 go_wp2_with (at_builtin; refine wpList_copy_ext rfl (.tmp 4) (.tmp 5) _ rfl w.heap.size 59 i0 _ 7 72 Tryz.underlying22 hi hz0 hz1 hz2 rfl (by omega) rfl w.heap.size A n cap xs rfl HN.out HA.out H1.out (by unfold maxLen; omega) (by omega) (Nat.le_refl _) ?_; intro v1 w1 hown1 hb1)
 have HO := Lib.hid hown1; have HB := Lib.hid hb1
 clear hown1 hb1
 go_wp2_with fail
 go_ret
 exact ⟨_, rfl, HO.out, HB.out⟩
end Go.Proofs.YtikpmmipopmjaaaGreatDoor
