/- Schemas: a number among numbers; four texts joined; the lines of a schema. Schemas, plainly: what is read has that text; what may be is read of its text as it was. Schemas: the text of one, walked. Schemas: SchemaAgain, walked. -/
import Derived.Test.YthlinmkengoliaaGreatDoorZSw
import Derived.Test.YthlinmkengoliaaGreatDoorZSd
import Derived.Test.YthlinmkengoliaaGreatDoorZRe
import Derived.Lib.ItoaLen
import Derived.Test.YthlinmkengoliaaGreatDoorZSb
import Derived.Test.YthlinmkengoliaaGreatDoorZB
import Derived.Deep.RegionWith
set_option linter.unusedVariables false
set_option linter.unusedSimpArgs false
namespace Go.Ms
open Go.RowKit Go.Lib
theorem scLines_snoc (ks : List Int) (c : Co) : ∀ (l : List Co) (i : Nat), scLines ks i (l ++ [c]) = scLines ks i l ++ (coLine (ks.contains ((i + l.length : Nat) : Int)) c ++ [10])
  | [], i => by simp [scLines]
  | a :: t, i => by
   rw [List.cons_append, scLines, scLines, scLines_snoc ks c t (i + 1)]; rw [show i + 1 + t.length = i + (a :: t).length by simp; omega]
   simp
theorem words_at {k : Nat} (h1 : 1 ≤ k) (h2 : k ≤ 5) : (strV wordsL)[k]? = some (.string ⟨(wordOf (k : Int)).toArray⟩) := by
 match k, h1, h2 with
 | 1, _, _ => rfl
 | 2, _, _ => rfl
 | 3, _, _ => rfl
 | 4, _, _ => rfl
 | 5, _, _ => rfl
theorem wordOf_len (k : Int) : (wordOf k).length ≤ 6 := by
 unfold wordOf
 repeat' split
 all_goals simp
theorem scq_len (l : Bs) : (kQuote l).length ≤ 6 * l.length + 2 := by
 unfold kQuote
 split
 · have := kflat_len l
   unfold quoteD; simp only [List.length_cons, List.length_append, List.length_nil]; omega
 · simp
theorem schex_len (l : Bs) : (hexD l).length = 2 * l.length + 1 := by
 have h : ∀ l : Bs, (l.flatMap hexb).length = 2 * l.length := by
  intro l
  induction l with
  | nil => rfl
  | cons c t ih => rw [List.flatMap_cons, List.length_append, ih, List.length_cons]; simp [hexb]; omega
 unfold hexD; rw [List.length_cons, h]
theorem sctext_len {k : Int} {tn nu : Bool} {n : Int} {s : Bs} (hc : kCheck k tn nu n s = 0) : (kTextD k tn nu n s).length ≤ 6200 := by
 obtain ⟨hk, ho⟩ := check_zero hc; unfold kTextD; rw [if_pos hc]
 cases nu with
 | true => simp [kNull]
 | false =>
  simp only [Bool.false_eq_true, if_false]; have hi := ok_some ho
  rcases may_cases hk with rfl | rfl | rfl | rfl | rfl
  · show (formatBool (n == 1)).length ≤ 6200
    cases (n == 1) <;> decide
  · obtain ⟨_, h0, h1⟩ := is23 (.inl rfl) hi; have := itoa_length_le n h0 h1
    show (itoa n).length ≤ 6200; omega
  · obtain ⟨_, h0, h1⟩ := is23 (.inr rfl) hi; have := itoa_length_le n h0 h1
    show (itoa n).length ≤ 6200; omega
  · have h1 := (is45 (.inl rfl) hi).2; have := scq_len s
    show (kQuote s).length ≤ 6200; omega
  · have h1 := (is45 (.inr rfl) hi).2; have := schex_len s
    show (hexD s).length ≤ 6200; omega
theorem coLine_len {key : Bool} {c : Co} (h : coOk c = true) (h0 : 1 ≤ c.1) (h1 : c.1 ≤ 1048576) : (coLine key c).length ≤ 6400 := by
 have hs := coOk_small h; unfold coOk at h; simp only [Bool.and_eq_true, decide_eq_true_eq] at h; have ht := sctext_len h.2; have hi := itoa_length_le c.1 (by omega) (by omega); have hw := wordOf_len c.2.2.1.1
 have hn : c.2.1.data.toList.length = c.2.1.size := by simp
 unfold coLine; simp only [List.length_append, List.length_cons]
 have e1 : (if c.2.2.1.2 = true then [(63 : UInt8)] else []).length ≤ 1 := by split <;> simp
 have e2 : (if key = true then [(42 : UInt8)] else []).length ≤ 1 := by split <;> simp
 have : (coText c).length ≤ 6200 := ht; omega
theorem join4 (a b c d : Bs) : Lib.join [a, b, c, d] [32] = a ++ 32 :: (b ++ 32 :: (c ++ 32 :: d)) := by
 simp [Lib.join]
theorem sba_ext {s : ByteArray} {l : Bs} (h : s.data.toList = l) : s = ⟨l.toArray⟩ := by
 subst h; cases s; simp
theorem line_eq {key u n0 : Bool} {i0 k m0 : Int} {s0 t0 IT WD TT J KW : ByteArray} (h1 : IT = ⟨(itoa i0).toArray⟩) (h2 : WD = ⟨(wordOf k).toArray⟩) (h3 : TT = ⟨(kTextD k u n0 m0 t0.data.toList).toArray⟩)
    (hK : KW.data.toList = WD.data.toList ++ (if u = true then [63] else []) ++ (if key = true then [42] else [])) (hJ : J.data.toList = IT.data.toList ++ 32 :: (s0.data.toList ++ 32 :: (KW.data.toList ++ 32 :: TT.data.toList))) :
    J ++ ⟨#[10]⟩ = ⟨(coLine key ((i0, s0, (k, u), n0, m0, t0) : Co) ++ [10]).toArray⟩ := by
 apply sba_ext
 have e : (J ++ ⟨#[10]⟩).data.toList = J.data.toList ++ [10] := by simp [ByteArray.data_append]
 rw [e, hJ, hK, h1, h2, h3]; unfold coLine coText
 simp
def newP (i : Nat) (cs : Array Value) (T : TypeId) : Value → World → Prop := fun v w => ∃ g, v = .pointer (some ⟨g, i, none⟩) ∧ w.heap[g]? = some (.cells cs T (0, 0))
theorem newP_stable (i : Nat) (cs : Array Value) (T : TypeId) : Go.Rel.Stable (newP i cs T) := fun v w w' ⟨g, h1, h2⟩ hb => ⟨g, h1, (hb.block g (Array.getElem?_eq_some_iff.1 h2).1).trans h2⟩
end Go.Ms
namespace Go.Proofs.YthlinmkengoliaaGreatDoor
open Go.RowKit Go.Ms Go.Lib
set_option maxHeartbeats 1000000 in
theorem idxint_any (w : World) (A : Option Addr) (n cap : Nat) (l : List Int) (S : Int) (hn' : n ≤ maxLen) (hn : n = l.length) (hA : Lay w w.heap.size A (intV l)) :
    Calls Tryz.prog 86 #[.slice A n cap, .int .i64 S] w fun e w' => e = .returned (.int .i64 (idxL (fun t => decide (S = t)) l)) ∧ Below w.heap.size w w' := by
 unfold maxLen at hn'
 have HA := Lib.hid hA; have HN := Lib.hid hn
 clear hA hn
 go_enter Tryz.func86, Tryz.ntmps86
 go_wp2_with fail
 go_loopw [8] (fun id wr => ∃ k : Nat, k ≤ n ∧ id = .int .i64 k ∧ Below w.heap.size w wr ∧ ∀ (j : Nat) x, j < k → l[j]? = some x → (fun t => decide (S = t)) x = false) (fun id _ => n - (RowKit.intOf id).toNat)
 case atStart => exact ⟨0, by omega, rfl, Below.refl _ _, fun j c h => absurd h (by omega)⟩
 case round =>
  obtain ⟨k, hk, rfl, hb, hp⟩ := hrel; have HP := Lib.hid hp; clear hp
  by_cases hlk : k < n
  · have hki : (k : Int) < n := by omega
    obtain ⟨x, hx⟩ : ∃ x, l[k]? = some x := ⟨_, List.getElem?_eq_getElem (by rw [← HN.out]; omega)⟩; obtain ⟨g, o, rfl, hg, h1⟩ := HA.out.num hx; have g1 := (hb.cell hg).trans h1
    have hq : (S == x) = decide (S = x) := by rw [Bool.eq_iff_iff]; simp
    have hq2 : (x == S) = decide (S = x) := by rw [Bool.eq_iff_iff, beq_iff_eq, decide_eq_true_eq]; exact eq_comm
    have HX := Lib.hid hx; have HB := Lib.hid hb
    clear hx hb h1
    cases hpx : decide (S = x) with
    | true =>
     have HR := Lib.hid (idxL_at (p := fun t => decide (S = t)) HX.out HP.out hpx); rw [hpx] at hq hq2; clear hpx
     go_wp2_with fail
     go_ret
     exact ⟨congrArg (fun i => Ending.returned (.int .i64 i)) HR.out.symm, HB.out⟩
    | false =>
     have HPX := Lib.hid hpx; rw [hpx] at hq hq2; clear hpx
     go_wp2_with fail
     go_roundw
     case rel =>
      refine ⟨k + 1, by omega, by go_num, HB.out, fun j y hj hy => ?_⟩
      by_cases e : j = k
      · subst e; rw [HX.out] at hy
        cases hy
        exact HPX.out
      · exact HP.out j y (by omega) hy
     case measure => simp [RowKit.intOf]; omega
  · have hki : ¬ (k : Int) < n := by omega
    have HR := Lib.hid (idxL_none (p := fun t => decide (S = t)) (l := l) (fun j x hx => HP.out j x (by have := (List.getElem?_eq_some_iff.1 hx).1; have := HN.out; omega) hx)); have HB := Lib.hid hb; clear hb
    go_wp2_with fail
    go_ret
    exact ⟨congrArg (fun i => Ending.returned (.int .i64 i)) HR.out.symm, HB.out⟩
theorem contains_any (w : World) (A : Option Addr) (n cap : Nat) (l : List Int) (S : Int) (hn' : n ≤ maxLen) (hn : n = l.length) (hA : Lay w w.heap.size A (intV l)) :
    Calls Tryz.prog 54 #[.slice A n cap, .int .i64 S] w fun e w' => e = .returned (.bool (l.contains S)) ∧ Below w.heap.size w w' := by
 have hc := idxint_any w A n cap l S hn' hn hA; have e := idxL_any (fun t => decide (S = t)) l
 have e2 : l.contains S = l.any (fun t => decide (S = t)) := by
  clear e hc hn hA hn'
  induction l with
  | nil => rfl
  | cons a t ih => rw [List.contains_cons, List.any_cons, ih]; congr 1
 rw [e2, ← e]
 generalize idxL (fun t => decide (S = t)) l = I at hc ⊢
 have HC := Lib.hid hc; clear hc e e2 hn hA hn'
 go_enter Tryz.func54, Tryz.ntmps54
 go_wp2_with fail
 refine HC.out.mono ?_; rintro en w1 ⟨rfl, b1⟩
 go_wp2_with fail
 go_ret
 exact ⟨rfl, b1⟩
theorem join4_any (g : Nat) (a b c d : ByteArray) (w : World) (h : w.heap[g]? = some (.cells #[.string a, .string b, .string c, .string d] 9 (0, 0))) (hl : a.size + b.size + c.size + d.size ≤ 1000000) :
    Calls Tryz.prog 57 #[.slice (some ⟨g, 0, none⟩) 4 4, .string ⟨#[32]⟩] w fun e w' => (∃ J : ByteArray, J.data.toList = a.data.toList ++ 32 :: (b.data.toList ++ 32 :: (c.data.toList ++ 32 :: d.data.toList)) ∧ J.size ≤ 1000003 ∧ e = .returned (.string J)) ∧ Below w.heap.size w w' := by
 have hj := join4 a.data.toList b.data.toList c.data.toList d.data.toList
 have hl2 : (Lib.join [a.data.toList, b.data.toList, c.data.toList, d.data.toList] [32]).length ≤ 140737488355328 := by rw [hj]; simp; omega
 have hc := Tryz.strings_Join g 0 4 [a, b, c, d] ⟨#[32]⟩ w (fun j x hx => by
  rw [Nat.zero_add]
  match j, hx with
  | 0, hx => simp at hx; subst hx; exact cell_of_block (i := 0) h rfl
  | 1, hx => simp at hx; subst hx; exact cell_of_block (i := 1) h rfl
  | 2, hx => simp at hx; subst hx; exact cell_of_block (i := 2) h rfl
  | 3, hx => simp at hx; subst hx; exact cell_of_block (i := 3) h rfl
  | j + 4, hx => simp at hx) (Array.getElem?_eq_some_iff.1 h).1 (by simp) (by simp) hl2
 refine hc.mono ?_; rintro e w' ⟨rfl, hb⟩; refine ⟨⟨_, ?_, ?_, rfl⟩, hb⟩
 · show Lib.join [a.data.toList, b.data.toList, c.data.toList, d.data.toList] [32] = _
   exact hj
 · show (Lib.join [a.data.toList, b.data.toList, c.data.toList, d.data.toList] [32]).toArray.size ≤ _
   rw [hj]
   simp
   omega
end Go.Proofs.YthlinmkengoliaaGreatDoor
set_option linter.unusedSimpArgs false
namespace Go.Ms
open Go.RowKit Go.Lib
theorem idOf_back {a : Bs} (h : 0 ≤ idOf a) : itoa (idOf a) = a ∧ idOf a ≤ 1048576 := by
 unfold idOf at h ⊢
 split at h
 · rename_i hc
   rw [if_pos hc]; exact ⟨hc.1, hc.2.2⟩
 · omega
theorem kindOf_word {w : Bs} (h : 1 ≤ kindOf w) : wordOf (kindOf w) = w := by
 unfold kindOf at h ⊢
 by_cases h1 : w = wordOf 1
 · rw [if_pos h1]; exact h1.symm
 by_cases h2 : w = wordOf 2
 · rw [if_neg h1, if_pos h2]; exact h2.symm
 by_cases h3 : w = wordOf 3
 · rw [if_neg h1, if_neg h2, if_pos h3]; exact h3.symm
 by_cases h4 : w = wordOf 4
 · rw [if_neg h1, if_neg h2, if_neg h3, if_pos h4]; exact h4.symm
 by_cases h5 : w = wordOf 5
 · rw [if_neg h1, if_neg h2, if_neg h3, if_neg h4, if_pos h5]; exact h5.symm
 · rw [if_neg h1, if_neg h2, if_neg h3, if_neg h4, if_neg h5] at h; omega
theorem strip_back (c : UInt8) (s : Bs) : (stripB c s).1 ++ (if (stripB c s).2 = true then [c] else []) = s := by
 unfold stripB
 split
 · rename_i h
   obtain ⟨t, rfl⟩ := List.getLast?_eq_some_iff.1 h
   simp
 · simp
theorem strip_app (c : UInt8) (s : Bs) : stripB c (s ++ [c]) = (s, true) := by
 unfold stripB; rw [if_pos (by simp), List.dropLast_concat]
theorem strip_not {c : UInt8} {s : Bs} (h : c ∉ s) : stripB c s = (s, false) := by
 unfold stripB; rw [if_neg]
 intro e
 exact h (List.mem_of_getLast? e)
theorem line_back {l : Bs} {c : Co} {key : Bool} (h : readCo l = some (c, key)) : coLine key c = l := by
 rw [readCo_parts] at h
 cases hp : parts4 l with
 | none => rw [hp] at h; cases h
 | some p =>
  rw [hp] at h; obtain ⟨_, hl⟩ := parts4_len hp; obtain ⟨_, h0, _, h1, h2, h3, h4, h5, h6⟩ := coRead_ok h; have hid := (idOf_back (a := p.1) (by omega)).1; rw [h1] at hid; have hw := kindOf_word h4; have s1 := strip_back 42 p.2.2.1; have s2 := strip_back 63 (stripB 42 p.2.2.1).1; unfold coLine; rw [hid, h6, hl]
  have e1 : c.2.2.1.1 = kindOf (stripB 63 (stripB 42 p.2.2.1).1).1 := by rw [h3]
  have e2 : c.2.2.1.2 = (stripB 63 (stripB 42 p.2.2.1).1).2 := by rw [h3]
  rw [e1, hw, e2, h2, s2, h5, s1]
theorem readAll_back : ∀ (ls : List Bs) (cs cs' : List Co) (ks ks' : List Int), (∀ k ∈ ks, k < cs.length) → readAll cs ks ls = (cs', ks', true) →
    ∃ new nk, cs' = cs ++ new ∧ ks' = ks ++ nk ∧ (∀ k ∈ nk, (cs.length : Int) ≤ k) ∧ scLines ks' cs.length new = ls.flatMap (fun l => l ++ [10]) ∧ new.length = ls.length
  | [], cs, cs', ks, ks', hk, h => by
   simp only [readAll, Prod.mk.injEq] at h; obtain ⟨rfl, rfl, _⟩ := h; exact ⟨[], [], by simp, by simp, by simp, by simp [scLines], rfl⟩
  | l :: ls, cs, cs', ks, ks', hk, h => by
   rw [readAll] at h
   cases hl : readCo l with
   | none => rw [hl] at h; simp at h
   | some x =>
    rw [hl] at h; obtain ⟨c, key⟩ := x; have hb := line_back hl
    have hks : ∀ k ∈ (if key = true then ks ++ [(cs.length : Int)] else ks), k < ((cs ++ [c]).length : Int) := by
     intro k hm
     rw [List.length_append, List.length_singleton]
     split at hm
     · rcases List.mem_append.1 hm with h1 | h1
       · have := hk k h1; omega
       · have : k = cs.length := by simpa using h1
         omega
     · have := hk k hm; omega
    obtain ⟨new, nk, e1, e2, e3, e4, e5⟩ := readAll_back ls _ _ _ _ hks h; refine ⟨c :: new, (if key = true then [(cs.length : Int)] else []) ++ nk, by rw [e1]; simp, ?_, ?_, ?_, by simp [e5]⟩
    · rw [e2]; split <;> simp
    · intro k hm
      rcases List.mem_append.1 hm with h1 | h1
      · split at h1
        · have : k = cs.length := by simpa using h1
          omega
        · simp at h1
      · have := e3 k h1; rw [List.length_append, List.length_singleton] at this; omega
    · rw [List.length_append, List.length_singleton] at e4
      have hc : ks'.contains (cs.length : Int) = key := by
       rw [e2, Bool.eq_iff_iff, List.contains_iff_mem, List.mem_append]
       constructor
       · rintro (h1 | h1)
         · split at h1
           · assumption
           · have := hk _ h1; omega
         · have := e3 _ h1; rw [List.length_append, List.length_singleton] at this; omega
       · intro hkey
         left
         rw [if_pos hkey]
         simp
      rw [scLines, hc, hb, e4]
      simp
theorem parse_text {s : Bs} {cs : List Co} {ks : List Int} {n : Nat} (h : parseD s = (cs, ks, n, 0)) : scText cs ks = s ∧ n = 0 ∧ scOk cs ks = true := by
 unfold parseD at h
 split at h
 · simp at h
 split at h
 · rename_i hp
   split at h
   · rename_i hok
     simp only [Prod.mk.injEq] at h; obtain ⟨rfl, rfl, rfl, _⟩ := h; refine ⟨?_, rfl, hok⟩; unfold scText; rw [if_pos hok]; unfold parseR at hp ⊢; simp only [Bool.and_eq_true, decide_eq_true_eq] at hp ⊢; obtain ⟨h1, h2⟩ := hp; obtain ⟨new, nk, e1, e2, e3, e4, _⟩ := readAll_back (splitNl s).1 [] _ [] _ (by simp) (Prod.ext rfl (Prod.ext rfl h1)); rw [List.nil_append] at e1; rw [← e1] at e4; have hb := splitNl_back s; rw [h2, List.append_nil] at hb; rw [show scLines (readAll [] [] (splitNl s).1).2.1 0 (readAll [] [] (splitNl s).1).1 = _ from e4]; exact hb.symm
   · simp at h
 · simp at h
theorem readAll_len : ∀ (ls : List Bs) (cs : List Co) (ks : List Int), (readAll cs ks ls).1.length ≤ cs.length + ls.length
  | [], cs, ks => by simp [readAll]
  | l :: ls, cs, ks => by
   rw [readAll]
   cases hl : readCo l with
   | none => simp
   | some x =>
    refine Nat.le_trans (readAll_len ls _ _) ?_; simp only [List.length_append, List.length_singleton, List.length_cons, List.length_nil]; omega
theorem splitNl_count : ∀ (s : Bs), (splitNl s).1.length = s.count 10
  | [] => rfl
  | c :: r => by
   have ih := splitNl_count r; rw [splitNl]
   by_cases hc : c = 10
   · subst hc; rw [if_pos rfl, List.count_cons_self]
     simp [ih]
   · rw [if_neg hc, List.count_cons_of_ne hc]
     split
     · rename_i e; rw [e] at ih; exact ih
     · rename_i e; rw [e] at ih; simpa using ih
theorem parse_none {s : Bs} (h : (parseD s).2.2.2 ≠ 0) : (parseD s).1 = [] ∧ (parseD s).2.1 = [] ∧ (parseD s).2.2.1 ≤ s.count 10 := by
 unfold parseD at h ⊢
 split
 · exact ⟨rfl, rfl, by simp⟩
 split
 · rename_i h1 h2
   rw [if_neg h1, if_pos h2] at h
   split at h
   · exact absurd rfl h
   · rename_i h3
     rw [if_neg h3]; exact ⟨rfl, rfl, by simp⟩
 · refine ⟨rfl, rfl, ?_⟩; have := readAll_len (splitNl s).1 [] []; rw [splitNl_count] at this
   simpa [parseR] using this
end Go.Ms
set_option linter.unusedSimpArgs false
namespace Go.Ms
open Go.RowKit Go.Lib
theorem strCells_mk (l : Bs) : Lib.strCells ⟨l.toArray⟩ = Lib.byteCells l := rfl
theorem byteCells_app (a b : Bs) : Lib.byteCells (a ++ b) = Lib.byteCells a ++ Lib.byteCells b := List.map_append
structure TxSt (tB tU : TypeId) (w1 : World) (acc : Bs) (k : Nat) (wr : World) : Prop where
  bld : IsBuilderF tB tU w1.heap.size w1.heap.size (Lib.byteCells acc) wr
  bel : Below w1.heap.size w1 wr
  len : acc.length ≤ 6401 * k
  sz : w1.heap.size + 1 ≤ wr.heap.size
theorem TxSt.step {tB tU : TypeId} {w1 wr w' : World} {acc : Bs} {k : Nat} (h : TxSt tB tU w1 acc k wr) (hb : Below wr.heap.size wr w') : TxSt tB tU w1 acc k w' := ⟨bld_below h.bld hb, h.bel.trans (hb.mono h.bel.size), h.len, Nat.le_trans h.sz hb.size⟩
theorem TxSt.drew {tB tU : TypeId} {w1 wr : World} {acc : Bs} {k : Nat} (h : TxSt tB tU w1 acc k wr) : TxSt tB tU w1 acc k wr.drew := ⟨h.bld, ms_drewN h.bel 1, h.len, h.sz⟩
end Go.Ms
namespace Go.Proofs.YthlinmkengoliaaGreatDoor
open Go.RowKit Go.Ms Go.Lib Go.Rel
set_option maxRecDepth 100000 in
set_option maxHeartbeats 8000000 in
theorem sctext_any (w : World) (A B : Option Addr) (n cap m capm : Nat) (cs : List Co) (ks : List Int) (hsz : ∀ c ∈ cs, c.2.1.size ≤ 100000 ∧ c.2.2.2.2.2.size ≤ 100000) (h1 : n ≤ 100000) (h2 : m ≤ 100000) (hn : n = cs.length) (hm : m = ks.length)
    (hA : Lay w w.heap.size A (colV cs)) (hB : Lay w w.heap.size B (intV ks)) (hE : Env w) :
    Calls Tryz.prog 25 #[.agg #[.slice A n cap, .slice B m capm]] w fun e w' => e = .returned (.tuple #[.string ⟨(scText cs ks).toArray⟩, .int .i64 (scCheck cs ks)]) ∧ Below w.heap.size w w' := by
 have bX : Below w.heap.size w (w.alloc (.cells #[.slice A n cap, .slice B m capm] 28)) := (Below.refl _ w).alloc (Nat.le_refl _) _; have hck := sccheck_any (w.alloc (.cells #[.slice A n cap, .slice B m capm] 28)) A B n cap m capm cs ks hsz h1 h2 hn hm ((hA.below bX).more bX.size) ((hB.below bX).more bX.size) (hE.below bX); have q0 := block_new w (.cells #[.slice A n cap, .slice B m capm] 28); unfold scText; unfold scCheck at hck ⊢
 by_cases hok : scOk cs ks = true
 · have hso := (scOk_iff cs ks).1 hok; rw [if_pos hok] at hck ⊢; rw [if_pos hok]
   have HCK := Lib.hid hck; have Q0 := Lib.hid q0; have BX := Lib.hid bX; have HA := Lib.hid hA; have HB := Lib.hid hB; have HE := Lib.hid hE; have HN := Lib.hid hn; have HM := Lib.hid hm; have HSO := Lib.hid hso; have HSZ := Lib.hid hsz
   clear hck q0 bX hA hB hE hn hm hso hok hsz
   go_enter Tryz.func25, Tryz.ntmps25
   go_wp2_with fail
   refine HCK.out.mono ?_; rintro en w1 ⟨rfl, b1⟩; have q1 := block_kept Q0.out b1; have y0 := cell_of_block (i := 0) q1 rfl; have hlt1 : w.heap.size < w1.heap.size := (Array.getElem?_eq_some_iff.1 q1).1
   have hne1 : w.heap.size ≠ w1.heap.size := by omega
   have hb1 := BX.out.trans (b1.mono BX.out.size); have hst : TxSt 79 5 w1 [] 0 (w1.alloc (.cells #[.pointer none, .slice none 0 0] 79)) := ⟨IsBuilderF.of (Lib.fresh_isBuilder 79 5 w1), (Below.refl _ _).alloc (Nat.le_refl _) _, by simp, by rw [World.size_alloc]; omega⟩
   have HST := Lib.hid hst; have Q1 := Lib.hid q1; have B1 := Lib.hid hb1
   clear hst q1 b1 hb1
   go_wp2_with fail
   go_loopw [19] (fun id wr => ∃ k : Nat, k ≤ n ∧ id = .int .i64 k ∧ TxSt 79 5 w1 (scLines ks 0 (cs.take k)) k wr) (fun id _ => n - (RowKit.intOf id).toNat)
   case atStart => exact ⟨0, by omega, rfl, HST.out⟩
   case round =>
    obtain ⟨k, hk, rfl, hst⟩ := hrel
    have n32 : n ≤ 32 := by rw [HN.out]; exact HSO.out.most
    by_cases hlk : k < n
    · have hki : (k : Int) < n := by omega
      have hk0 : (0 : Int) ≤ (k : Int) := by omega
      obtain ⟨c, hc⟩ : ∃ c, cs[k]? = some c := ⟨_, List.getElem?_eq_getElem (by rw [← HN.out]; exact hlk)⟩; obtain ⟨hnm, hcz⟩ := HSO.out.co k c hc; obtain ⟨hi1, hi2⟩ := HSO.out.id k c hc; obtain ⟨hs1, hs2⟩ := HSZ.out c (List.mem_of_getElem? hc)
      have hcok : coOk c = true := by unfold coOk; simp only [Bool.and_eq_true, decide_eq_true_eq]; exact ⟨hnm, hcz⟩
      have hsml := coOk_small hcok
      have hll : ∀ key, (coLine key c).length ≤ 6400 := fun key => coLine_len hcok hi1 hi2
      have hsn := scLines_snoc ks c (cs.take k) 0
      have htk : cs.take (k + 1) = cs.take k ++ [c] := by rw [List.take_add_one, hc]; rfl
      have hlk2 : (cs.take k).length = k := by rw [List.length_take]; have := HN.out; omega
      rw [← htk, hlk2, Nat.zero_add] at hsn; obtain ⟨g, o, rfl, hg, g1, g2, g3, g4, g5, g6, g7⟩ := HA.out.co hc; have hwr : Below w.heap.size w wr := B1.out.trans (hst.bel.mono B1.out.size); replace g1 := (hwr.cell hg).trans g1; replace g2 := (hwr.cell hg).trans g2; replace g3 := (hwr.cell hg).trans g3; replace g4 := (hwr.cell hg).trans g4; replace g5 := (hwr.cell hg).trans g5; replace g6 := (hwr.cell hg).trans g6; replace g7 := (hwr.cell hg).trans g7; obtain ⟨i0, s0, ⟨k0, u0⟩, n0, m0, t0⟩ := c; simp only at g1 g2 g3 g4 g5 g6 g7 hi1 hi2 hs1 hs2 hcz hsml
      obtain ⟨κ, hκ⟩ : ∃ κ : Nat, k0 = κ := ⟨k0.toNat, by have := (check_zero hcz).1; unfold kMay at this; simp at this; omega⟩
      have hκ1 : 1 ≤ κ := by have := (check_zero hcz).1; unfold kMay at this; simp at this; omega
      have hκ2 : κ ≤ 5 := by have := (check_zero hcz).1; unfold kMay at this; simp at this; omega
      subst hκ; have hwd := words_at hκ1 hκ2
      have hκ3 : (κ : Int) < 6 := by omega
      have hκ4 : (0 : Int) ≤ (κ : Int) := by omega
      have hwl := wordOf_len (κ : Int); obtain ⟨WD, hWD⟩ : ∃ WD : ByteArray, WD = ⟨(wordOf (κ : Int)).toArray⟩ := ⟨_, rfl⟩; rw [← hWD] at hwd
      have hwz : WD.size ≤ 6 := by rw [hWD]; exact hwl
      have hw1 : ¬ (9223372036854775807 < WD.size + 1) := by omega
      have hw2 : ¬ (9223372036854775807 < WD.size + 1 + 1) := by omega
      have hq := block_new wr (.cells #[.int .i64 i0, .string s0, .int .i64 (κ : Nat), .bool u0, .bool n0, .int .i64 m0, .string t0] 37); have hst2 : TxSt 79 5 w1 (scLines ks 0 (cs.take k)) k (wr.alloc (.cells #[.int .i64 i0, .string s0, .int .i64 (κ : Nat), .bool u0, .bool n0, .int .i64 m0, .string t0] 37)) := ⟨bld_below hst.bld ((Below.refl _ wr).alloc (Nat.le_refl _) _), hst.bel.alloc hst.bel.size _, hst.len, by rw [World.size_alloc]; have := hst.sz; omega⟩; obtain ⟨key, hkey⟩ : ∃ b, ks.contains (k : Int) = b := ⟨_, rfl⟩; rw [hkey] at hsn
      have HQ := Lib.hid hq; have HSTR := Lib.hid hst2; have HSN := Lib.hid hsn; have HWD := Lib.hid hwd; have HKEY := Lib.hid hkey; have HCZ := Lib.hid hcz; have HLL := Lib.hid (hll key); have HWL := Lib.hid hwz; have HWW := Lib.hid hWD; have HSML := Lib.hid hsml
      clear hq hst2 hsn hwd hkey hcz hll hwl hsml hWD hst hwr htk hlk2 hcok hnm hc
      go_wp2_with fail
      refine wp_region_sel [newS 6 (strV wordsL).toArray 9, isV (.pointer (some ⟨wr.heap.size, 2, none⟩)), isV (.pointer (some ⟨wr.heap.size, 2, none⟩)), isV (.int .i64 (κ : Nat)), newP κ (strV wordsL).toArray 9, isV (.string WD), isV (.string WD)] (by kernel_rfl) (by kernel_rfl) ?_ ?_
      ·
        refine ⟨prem_of (WantOk.free rfl) (newS_stable _ _ _) (fun ev wo E => ?_), ?_⟩
        · have ef := E.func; have hc := words_any wo; have HC2 := Lib.hid hc; clear hc; go_simp; refine relUpon_enter (HC2.out.mono ?_); rintro e w' ⟨rfl, hw⟩; subst hw; exact ⟨_, rfl, newS_alloc _ _ _ _⟩
        refine rf (fun ev wo E => ?_) ?_
        · have e7 : ev (.tmp 7) = .pointer (some ⟨wr.heap.size, 0, none⟩) := (E.base 7 rfl).trans rfl; go_simp; exact rv
        refine rf (fun ev wo E => ?_) ?_
        · have e25 : ev (.tmp 25) = .pointer (some ⟨wr.heap.size, 2, none⟩) := E.e 0; go_simp; exact rv
        refine rf (fun ev wo E => ?_) ?_
        · have e26 : ev (.tmp 26) = .pointer (some ⟨wr.heap.size, 2, none⟩) := E.e 0; have q := block_kept HQ.out E.bel; have z0 := cell_of_block (i := 2) q rfl; clear q; go_simp; exact rv
        refine ⟨prem_of (WantOk.free rfl) (newP_stable _ _ _) (fun ev wo E => ?_), ?_⟩
        · have e24 : (newS 6 (strV wordsL).toArray 9) (ev (.tmp 24)) wo := E.d 0 rfl rfl rfl; have e27 : ev (.tmp 27) = .int .i64 (κ : Nat) := E.e 1; obtain ⟨gw, hg, hblk⟩ := e24; have HBK := Lib.hid hblk; clear hblk; go_simp; exact relUpon_value ⟨Below.refl _ _, gw, rfl, HBK.out⟩
        refine rf (fun ev wo E => ?_) ?_
        · have e28 : (newP κ (strV wordsL).toArray 9) (ev (.tmp 28)) wo := E.d 0 rfl rfl rfl; obtain ⟨gw, hg, hblk⟩ := e28; have z0 := cell_of_block (i := κ) hblk (by rw [List.getElem?_toArray]; exact HWD.out); clear hblk; go_simp; exact rv
        refine ⟨prem_copy 0 (WantOk.free rfl) (.inr rfl) rfl rfl rfl rfl (isV_stable _), ?_⟩; trivial
      · intro wz bz
        intro v24 h24
        rintro _ rfl _ rfl _ rfl
        intro v28 h28
        rintro _ rfl _ rfl; have hst3 := HSTR.out.step bz; have hq3 := block_kept HQ.out bz; have hqb := (hst3.bel.block _ hlt1).trans Q1.out; have v1 := cell_of_block (i := 1) hqb rfl; have hcn := contains_any wz B m capm ks (k : Int) (by unfold maxLen; omega) HM.out ((HB.out.below (B1.out.trans (hst3.bel.mono B1.out.size))).more (B1.out.trans (hst3.bel.mono B1.out.size)).size); rw [HKEY.out] at hcn
        have Q2 := Lib.hid hq3; have ST2 := Lib.hid hst3; have HCN := Lib.hid hcn
        clear hst3 hqb bz hcn g1 g2 g3 g4 g5 g6 g7; have x0 := cell_of_block (i := 0) hq3 rfl; have x1 := cell_of_block (i := 1) hq3 rfl; have x2 := cell_of_block (i := 2) hq3 rfl; have x3 := cell_of_block (i := 3) hq3 rfl; have x4 := cell_of_block (i := 4) hq3 rfl; have x5 := cell_of_block (i := 5) hq3 rfl; have x6 := cell_of_block (i := 6) hq3 rfl; clear hq3; simp only [relEnd]; go_simp
        cases u0 with
        | false =>
         go_wp2_with fail
         refine HCN.out.mono ?_; rintro en w3 ⟨rfl, b3⟩
         have Q3 := Lib.hid (block_kept Q2.out b3); have ST3 := Lib.hid (ST2.out.step b3)
         have B3 := Lib.hid (B1.out.trans (ST3.out.bel.mono B1.out.size)); clear b3 x0 x1 x2 x3 x4 x5 x6; have x0 := cell_of_block (i := 0) Q3.out rfl; have x1 := cell_of_block (i := 1) Q3.out rfl; have x2 := cell_of_block (i := 2) Q3.out rfl; have x3 := cell_of_block (i := 3) Q3.out rfl; have x4 := cell_of_block (i := 4) Q3.out rfl; have x5 := cell_of_block (i := 5) Q3.out rfl; have x6 := cell_of_block (i := 6) Q3.out rfl
         cases key with
         | false =>
          go_wp2_with fail
          refine (ktext_any (κ : Int) false n0 m0 t0 _ hs2 (HE.out.below B3.out)).mono ?_; rw [show kCheck (κ : Int) false n0 m0 t0.data.toList = 0 from HCZ.out]; rintro en w4 ⟨rfl, b4⟩; obtain ⟨TT, hTT⟩ : ∃ TT : ByteArray, TT = ⟨(kTextD (κ : Int) false n0 m0 t0.data.toList).toArray⟩ := ⟨_, rfl⟩; rw [← hTT]
          have hTl : TT.size ≤ 6200 := by rw [hTT]; exact sctext_len HCZ.out
          have Q4 := Lib.hid (block_kept Q3.out b4); have ST4 := Lib.hid (ST3.out.step b4); have B4 := Lib.hid (B3.out.trans (b4.mono B3.out.size)); have HTT := Lib.hid hTT; have HTL := Lib.hid hTl
          clear b4 hTT hTl x0 x1 x2 x3 x4 x5 x6; have x0 := cell_of_block (i := 0) Q4.out rfl; have x1 := cell_of_block (i := 1) Q4.out rfl; have x2 := cell_of_block (i := 2) Q4.out rfl; have x3 := cell_of_block (i := 3) Q4.out rfl; have x4 := cell_of_block (i := 4) Q4.out rfl; have x5 := cell_of_block (i := 5) Q4.out rfl; have x6 := cell_of_block (i := 6) Q4.out rfl
          have hit := fun w' (h : Below w.heap.size w w') => itoa_any i0 w' (by omega) (by omega) (HE.out.below h)
          have hil := itoa_length_le i0 (by omega) (by omega); obtain ⟨IT, hIT⟩ : ∃ IT : ByteArray, IT = ⟨(itoa i0).toArray⟩ := ⟨_, rfl⟩; rw [← hIT] at hit
          have hiz : IT.size ≤ 21 := by rw [hIT]; exact hil
          have hjn := fun (w' : World) (gj : Nat) (h : w'.heap[gj]? = some (.cells #[.string IT, .string s0, .string WD, .string TT] 9 (0, 0))) => join4_any gj IT s0 WD TT w' h (by have h1 := hiz; have h2 := HWL.out; have h3 := HTL.out; have h4 := HSML.out.1; have e1 : (⟨#[63]⟩ : ByteArray).size = 1 := rfl; have e2 : (⟨#[42]⟩ : ByteArray).size = 1 := rfl; (try simp only [ByteArray.size_append]); omega)
          have JN := Lib.hid hjn; clear hjn
          have HIT := Lib.hid hit; have HIL := Lib.hid hiz; have HITE := Lib.hid hIT
          clear hit hil hiz hIT
          go_wp2_with fail
          go_region_with (first
            | ((with_reducible refine (HIT.out _ ?_).mono ?_); (first | exact ms_drewN B4.out 1 | exact B4.out); rintro en w5 ⟨rfl, b5⟩; (have ST5 := Lib.hid (ST4.out.drew.step b5)); (have q5 := block_kept (w := World.drew _) Q4.out b5); (have z0 := cell_of_block (i := 0) q5 rfl); (have z1 := cell_of_block (i := 1) q5 rfl); clear b5 q5)
            | ((with_reducible refine (JN.out _ _ ?_).mono ?_); (exact heap_alloc_new w5 _); rintro en w6 ⟨⟨J, hJ, hJz, rfl⟩, b6⟩; (have hov : ¬ (9223372036854775807 < J.size + 1) := by omega); (have HJ := Lib.hid hJ); (have HJZ := Lib.hid hJz); clear hJ hJz; (have ST6 := Lib.hid ((ST5.out.step ((Below.refl _ w5).alloc (Nat.le_refl _) _)).step b6)); clear b6)
            | ((with_reducible refine (wstr_any _ _ _ _ _ ST6.out.bld ?_ ST6.out.bel.size).mono ?_); (rw [Lib.byteCells_length, ByteArray.size_append]; have e1 : (⟨#[10]⟩ : ByteArray).size = 1 := rfl; have h1 := ST6.out.len; have h2 := HJZ.out; omega); rintro en w7 ⟨rfl, hbo, hbb, -⟩; (have HBO := Lib.hid hbo); (have BB7 := Lib.hid hbb); clear hbo hbb))
          all_goals
           go_wp2_with fail
           go_roundw
           case rel =>
            have hle := line_eq (key := false) HITE.out HWW.out HTT.out (KW := WD) (by simp [ByteArray.data_append]) HJ.out; have hbo := HBO.out; rw [hle, strCells_mk, ← byteCells_app, ← HSN.out] at hbo; have h1 := ST6.out.len; have h2 := HLL.out; have h3 := BB7.out.size; have h4 := ST6.out.sz; exact ⟨k + 1, by omega, by go_num, hbo, ST6.out.bel.trans BB7.out, by rw [HSN.out, List.length_append, List.length_append, List.length_singleton]; omega, by omega⟩
           case measure => first | (simp [RowKit.intOf]; done) | (simp [RowKit.intOf]; omega)
         | true =>
          go_wp2_with fail
          refine (ktext_any (κ : Int) false n0 m0 t0 _ hs2 (HE.out.below B3.out)).mono ?_; rw [show kCheck (κ : Int) false n0 m0 t0.data.toList = 0 from HCZ.out]; rintro en w4 ⟨rfl, b4⟩; obtain ⟨TT, hTT⟩ : ∃ TT : ByteArray, TT = ⟨(kTextD (κ : Int) false n0 m0 t0.data.toList).toArray⟩ := ⟨_, rfl⟩; rw [← hTT]
          have hTl : TT.size ≤ 6200 := by rw [hTT]; exact sctext_len HCZ.out
          have Q4 := Lib.hid (block_kept Q3.out b4); have ST4 := Lib.hid (ST3.out.step b4); have B4 := Lib.hid (B3.out.trans (b4.mono B3.out.size)); have HTT := Lib.hid hTT; have HTL := Lib.hid hTl
          clear b4 hTT hTl x0 x1 x2 x3 x4 x5 x6; have x0 := cell_of_block (i := 0) Q4.out rfl; have x1 := cell_of_block (i := 1) Q4.out rfl; have x2 := cell_of_block (i := 2) Q4.out rfl; have x3 := cell_of_block (i := 3) Q4.out rfl; have x4 := cell_of_block (i := 4) Q4.out rfl; have x5 := cell_of_block (i := 5) Q4.out rfl; have x6 := cell_of_block (i := 6) Q4.out rfl
          have hit := fun w' (h : Below w.heap.size w w') => itoa_any i0 w' (by omega) (by omega) (HE.out.below h)
          have hil := itoa_length_le i0 (by omega) (by omega); obtain ⟨IT, hIT⟩ : ∃ IT : ByteArray, IT = ⟨(itoa i0).toArray⟩ := ⟨_, rfl⟩; rw [← hIT] at hit
          have hiz : IT.size ≤ 21 := by rw [hIT]; exact hil
          have hjn := fun (w' : World) (gj : Nat) (h : w'.heap[gj]? = some (.cells #[.string IT, .string s0, .string (WD ++ ⟨#[42]⟩), .string TT] 9 (0, 0))) => join4_any gj IT s0 (WD ++ ⟨#[42]⟩) TT w' h (by have h1 := hiz; have h2 := HWL.out; have h3 := HTL.out; have h4 := HSML.out.1; have e1 : (⟨#[63]⟩ : ByteArray).size = 1 := rfl; have e2 : (⟨#[42]⟩ : ByteArray).size = 1 := rfl; (try simp only [ByteArray.size_append]); omega)
          have JN := Lib.hid hjn; clear hjn
          have HIT := Lib.hid hit; have HIL := Lib.hid hiz; have HITE := Lib.hid hIT
          clear hit hil hiz hIT
          go_wp2_with fail
          go_region_with (first
            | ((with_reducible refine (HIT.out _ ?_).mono ?_); (first | exact ms_drewN B4.out 1 | exact B4.out); rintro en w5 ⟨rfl, b5⟩; (have ST5 := Lib.hid (ST4.out.drew.step b5)); (have q5 := block_kept (w := World.drew _) Q4.out b5); (have z0 := cell_of_block (i := 0) q5 rfl); (have z1 := cell_of_block (i := 1) q5 rfl); clear b5 q5)
            | ((with_reducible refine (JN.out _ _ ?_).mono ?_); (exact heap_alloc_new w5 _); rintro en w6 ⟨⟨J, hJ, hJz, rfl⟩, b6⟩; (have hov : ¬ (9223372036854775807 < J.size + 1) := by omega); (have HJ := Lib.hid hJ); (have HJZ := Lib.hid hJz); clear hJ hJz; (have ST6 := Lib.hid ((ST5.out.step ((Below.refl _ w5).alloc (Nat.le_refl _) _)).step b6)); clear b6)
            | ((with_reducible refine (wstr_any _ _ _ _ _ ST6.out.bld ?_ ST6.out.bel.size).mono ?_); (rw [Lib.byteCells_length, ByteArray.size_append]; have e1 : (⟨#[10]⟩ : ByteArray).size = 1 := rfl; have h1 := ST6.out.len; have h2 := HJZ.out; omega); rintro en w7 ⟨rfl, hbo, hbb, -⟩; (have HBO := Lib.hid hbo); (have BB7 := Lib.hid hbb); clear hbo hbb))
          all_goals
           go_wp2_with fail
           go_roundw
           case rel =>
            have hle := line_eq (key := true) HITE.out HWW.out HTT.out (KW := (WD ++ ⟨#[42]⟩)) (by simp [ByteArray.data_append]) HJ.out; have hbo := HBO.out; rw [hle, strCells_mk, ← byteCells_app, ← HSN.out] at hbo; have h1 := ST6.out.len; have h2 := HLL.out; have h3 := BB7.out.size; have h4 := ST6.out.sz; exact ⟨k + 1, by omega, by go_num, hbo, ST6.out.bel.trans BB7.out, by rw [HSN.out, List.length_append, List.length_append, List.length_singleton]; omega, by omega⟩
           case measure => first | (simp [RowKit.intOf]; done) | (simp [RowKit.intOf]; omega)
        | true =>
         go_wp2_with fail
         refine HCN.out.mono ?_; rintro en w3 ⟨rfl, b3⟩
         have Q3 := Lib.hid (block_kept Q2.out b3); have ST3 := Lib.hid (ST2.out.step b3)
         have B3 := Lib.hid (B1.out.trans (ST3.out.bel.mono B1.out.size)); clear b3 x0 x1 x2 x3 x4 x5 x6; have x0 := cell_of_block (i := 0) Q3.out rfl; have x1 := cell_of_block (i := 1) Q3.out rfl; have x2 := cell_of_block (i := 2) Q3.out rfl; have x3 := cell_of_block (i := 3) Q3.out rfl; have x4 := cell_of_block (i := 4) Q3.out rfl; have x5 := cell_of_block (i := 5) Q3.out rfl; have x6 := cell_of_block (i := 6) Q3.out rfl
         cases key with
         | false =>
          go_wp2_with fail
          refine (ktext_any (κ : Int) true n0 m0 t0 _ hs2 (HE.out.below B3.out)).mono ?_; rw [show kCheck (κ : Int) true n0 m0 t0.data.toList = 0 from HCZ.out]; rintro en w4 ⟨rfl, b4⟩; obtain ⟨TT, hTT⟩ : ∃ TT : ByteArray, TT = ⟨(kTextD (κ : Int) true n0 m0 t0.data.toList).toArray⟩ := ⟨_, rfl⟩; rw [← hTT]
          have hTl : TT.size ≤ 6200 := by rw [hTT]; exact sctext_len HCZ.out
          have Q4 := Lib.hid (block_kept Q3.out b4); have ST4 := Lib.hid (ST3.out.step b4); have B4 := Lib.hid (B3.out.trans (b4.mono B3.out.size)); have HTT := Lib.hid hTT; have HTL := Lib.hid hTl
          clear b4 hTT hTl x0 x1 x2 x3 x4 x5 x6; have x0 := cell_of_block (i := 0) Q4.out rfl; have x1 := cell_of_block (i := 1) Q4.out rfl; have x2 := cell_of_block (i := 2) Q4.out rfl; have x3 := cell_of_block (i := 3) Q4.out rfl; have x4 := cell_of_block (i := 4) Q4.out rfl; have x5 := cell_of_block (i := 5) Q4.out rfl; have x6 := cell_of_block (i := 6) Q4.out rfl
          have hit := fun w' (h : Below w.heap.size w w') => itoa_any i0 w' (by omega) (by omega) (HE.out.below h)
          have hil := itoa_length_le i0 (by omega) (by omega); obtain ⟨IT, hIT⟩ : ∃ IT : ByteArray, IT = ⟨(itoa i0).toArray⟩ := ⟨_, rfl⟩; rw [← hIT] at hit
          have hiz : IT.size ≤ 21 := by rw [hIT]; exact hil
          have hjn := fun (w' : World) (gj : Nat) (h : w'.heap[gj]? = some (.cells #[.string IT, .string s0, .string (WD ++ ⟨#[63]⟩), .string TT] 9 (0, 0))) => join4_any gj IT s0 (WD ++ ⟨#[63]⟩) TT w' h (by have h1 := hiz; have h2 := HWL.out; have h3 := HTL.out; have h4 := HSML.out.1; have e1 : (⟨#[63]⟩ : ByteArray).size = 1 := rfl; have e2 : (⟨#[42]⟩ : ByteArray).size = 1 := rfl; (try simp only [ByteArray.size_append]); omega)
          have JN := Lib.hid hjn; clear hjn
          have HIT := Lib.hid hit; have HIL := Lib.hid hiz; have HITE := Lib.hid hIT
          clear hit hil hiz hIT
          go_wp2_with fail
          go_region_with (first
            | ((with_reducible refine (HIT.out _ ?_).mono ?_); (first | exact ms_drewN B4.out 1 | exact B4.out); rintro en w5 ⟨rfl, b5⟩; (have ST5 := Lib.hid (ST4.out.drew.step b5)); (have q5 := block_kept (w := World.drew _) Q4.out b5); (have z0 := cell_of_block (i := 0) q5 rfl); (have z1 := cell_of_block (i := 1) q5 rfl); clear b5 q5)
            | ((with_reducible refine (JN.out _ _ ?_).mono ?_); (exact heap_alloc_new w5 _); rintro en w6 ⟨⟨J, hJ, hJz, rfl⟩, b6⟩; (have hov : ¬ (9223372036854775807 < J.size + 1) := by omega); (have HJ := Lib.hid hJ); (have HJZ := Lib.hid hJz); clear hJ hJz; (have ST6 := Lib.hid ((ST5.out.step ((Below.refl _ w5).alloc (Nat.le_refl _) _)).step b6)); clear b6)
            | ((with_reducible refine (wstr_any _ _ _ _ _ ST6.out.bld ?_ ST6.out.bel.size).mono ?_); (rw [Lib.byteCells_length, ByteArray.size_append]; have e1 : (⟨#[10]⟩ : ByteArray).size = 1 := rfl; have h1 := ST6.out.len; have h2 := HJZ.out; omega); rintro en w7 ⟨rfl, hbo, hbb, -⟩; (have HBO := Lib.hid hbo); (have BB7 := Lib.hid hbb); clear hbo hbb))
          all_goals
           go_wp2_with fail
           go_roundw
           case rel =>
            have hle := line_eq (key := false) HITE.out HWW.out HTT.out (KW := (WD ++ ⟨#[63]⟩)) (by simp [ByteArray.data_append]) HJ.out; have hbo := HBO.out; rw [hle, strCells_mk, ← byteCells_app, ← HSN.out] at hbo; have h1 := ST6.out.len; have h2 := HLL.out; have h3 := BB7.out.size; have h4 := ST6.out.sz; exact ⟨k + 1, by omega, by go_num, hbo, ST6.out.bel.trans BB7.out, by rw [HSN.out, List.length_append, List.length_append, List.length_singleton]; omega, by omega⟩
           case measure => first | (simp [RowKit.intOf]; done) | (simp [RowKit.intOf]; omega)
         | true =>
          go_wp2_with fail
          refine (ktext_any (κ : Int) true n0 m0 t0 _ hs2 (HE.out.below B3.out)).mono ?_; rw [show kCheck (κ : Int) true n0 m0 t0.data.toList = 0 from HCZ.out]; rintro en w4 ⟨rfl, b4⟩; obtain ⟨TT, hTT⟩ : ∃ TT : ByteArray, TT = ⟨(kTextD (κ : Int) true n0 m0 t0.data.toList).toArray⟩ := ⟨_, rfl⟩; rw [← hTT]
          have hTl : TT.size ≤ 6200 := by rw [hTT]; exact sctext_len HCZ.out
          have Q4 := Lib.hid (block_kept Q3.out b4); have ST4 := Lib.hid (ST3.out.step b4); have B4 := Lib.hid (B3.out.trans (b4.mono B3.out.size)); have HTT := Lib.hid hTT; have HTL := Lib.hid hTl
          clear b4 hTT hTl x0 x1 x2 x3 x4 x5 x6; have x0 := cell_of_block (i := 0) Q4.out rfl; have x1 := cell_of_block (i := 1) Q4.out rfl; have x2 := cell_of_block (i := 2) Q4.out rfl; have x3 := cell_of_block (i := 3) Q4.out rfl; have x4 := cell_of_block (i := 4) Q4.out rfl; have x5 := cell_of_block (i := 5) Q4.out rfl; have x6 := cell_of_block (i := 6) Q4.out rfl
          have hit := fun w' (h : Below w.heap.size w w') => itoa_any i0 w' (by omega) (by omega) (HE.out.below h)
          have hil := itoa_length_le i0 (by omega) (by omega); obtain ⟨IT, hIT⟩ : ∃ IT : ByteArray, IT = ⟨(itoa i0).toArray⟩ := ⟨_, rfl⟩; rw [← hIT] at hit
          have hiz : IT.size ≤ 21 := by rw [hIT]; exact hil
          have hjn := fun (w' : World) (gj : Nat) (h : w'.heap[gj]? = some (.cells #[.string IT, .string s0, .string ((WD ++ ⟨#[63]⟩) ++ ⟨#[42]⟩), .string TT] 9 (0, 0))) => join4_any gj IT s0 ((WD ++ ⟨#[63]⟩) ++ ⟨#[42]⟩) TT w' h (by have h1 := hiz; have h2 := HWL.out; have h3 := HTL.out; have h4 := HSML.out.1; have e1 : (⟨#[63]⟩ : ByteArray).size = 1 := rfl; have e2 : (⟨#[42]⟩ : ByteArray).size = 1 := rfl; (try simp only [ByteArray.size_append]); omega)
          have JN := Lib.hid hjn; clear hjn
          have HIT := Lib.hid hit; have HIL := Lib.hid hiz; have HITE := Lib.hid hIT
          clear hit hil hiz hIT
          go_wp2_with fail
          go_region_with (first
            | ((with_reducible refine (HIT.out _ ?_).mono ?_); (first | exact ms_drewN B4.out 1 | exact B4.out); rintro en w5 ⟨rfl, b5⟩; (have ST5 := Lib.hid (ST4.out.drew.step b5)); (have q5 := block_kept (w := World.drew _) Q4.out b5); (have z0 := cell_of_block (i := 0) q5 rfl); (have z1 := cell_of_block (i := 1) q5 rfl); clear b5 q5)
            | ((with_reducible refine (JN.out _ _ ?_).mono ?_); (exact heap_alloc_new w5 _); rintro en w6 ⟨⟨J, hJ, hJz, rfl⟩, b6⟩; (have hov : ¬ (9223372036854775807 < J.size + 1) := by omega); (have HJ := Lib.hid hJ); (have HJZ := Lib.hid hJz); clear hJ hJz; (have ST6 := Lib.hid ((ST5.out.step ((Below.refl _ w5).alloc (Nat.le_refl _) _)).step b6)); clear b6)
            | ((with_reducible refine (wstr_any _ _ _ _ _ ST6.out.bld ?_ ST6.out.bel.size).mono ?_); (rw [Lib.byteCells_length, ByteArray.size_append]; have e1 : (⟨#[10]⟩ : ByteArray).size = 1 := rfl; have h1 := ST6.out.len; have h2 := HJZ.out; omega); rintro en w7 ⟨rfl, hbo, hbb, -⟩; (have HBO := Lib.hid hbo); (have BB7 := Lib.hid hbb); clear hbo hbb))
          all_goals
           go_wp2_with fail
           go_roundw
           case rel =>
            have hle := line_eq (key := true) HITE.out HWW.out HTT.out (KW := ((WD ++ ⟨#[63]⟩) ++ ⟨#[42]⟩)) (by simp [ByteArray.data_append]) HJ.out; have hbo := HBO.out; rw [hle, strCells_mk, ← byteCells_app, ← HSN.out] at hbo; have h1 := ST6.out.len; have h2 := HLL.out; have h3 := BB7.out.size; have h4 := ST6.out.sz; exact ⟨k + 1, by omega, by go_num, hbo, ST6.out.bel.trans BB7.out, by rw [HSN.out, List.length_append, List.length_append, List.length_singleton]; omega, by omega⟩
           case measure => first | (simp [RowKit.intOf]; done) | (simp [RowKit.intOf]; omega)
    · have hki : ¬ (k : Int) < n := by omega
      obtain rfl : k = n := by omega
      have htk : cs.take k = cs := List.take_of_length_le (by have := HN.out; omega); rw [htk] at hst; have HST2 := Lib.hid hst; clear hst
      go_wp2_with fail
      refine (Tryz.Builder_String_any_k _ _ _ _ HST2.out.bld HST2.out.bel.size).mono ?_; rintro en we ⟨rfl, -, be, -⟩; have BE := Lib.hid (B1.out.trans ((HST2.out.bel.trans be).mono B1.out.size)); clear be
      go_wp2_with fail
      go_ret2
      exact ⟨rfl, BE.out⟩
 · rw [if_neg hok] at hck ⊢; rw [if_neg hok]
   have HCK := Lib.hid hck; have BX := Lib.hid bX
   clear hck bX q0 hA hB hE hn hm hok hsz
   go_enter Tryz.func25, Tryz.ntmps25
   go_wp2_with fail
   refine HCK.out.mono ?_; rintro en w1 ⟨rfl, b1⟩; have B1 := Lib.hid (BX.out.trans (b1.mono BX.out.size)); clear b1
   go_wp2_with fail
   go_ret2
   exact ⟨rfl, B1.out⟩
end Go.Proofs.YthlinmkengoliaaGreatDoor
set_option linter.unusedSimpArgs false
namespace Go.Ms
open Go.RowKit Go.Lib
theorem scOk_sizes {cs : List Co} {ks : List Int} (h : scOk cs ks = true) : (∀ c ∈ cs, c.2.1.size ≤ 100000 ∧ c.2.2.2.2.2.size ≤ 100000) ∧ cs.length ≤ 32 ∧ ks.length ≤ 8 := by
 have hs := (scOk_iff cs ks).1 h; refine ⟨fun c hc => ?_, hs.most, hs.keys⟩; obtain ⟨i, hi, e⟩ := List.getElem_of_mem hc; obtain ⟨h1, h2⟩ := hs.co i c (by rw [← e]; exact List.getElem?_eq_getElem hi)
 have hk : coOk c = true := by unfold coOk; simp only [Bool.and_eq_true, decide_eq_true_eq]; exact ⟨h1, h2⟩
 have := coOk_small hk; omega
end Go.Ms
namespace Go.Proofs.YthlinmkengoliaaGreatDoor
open Go.RowKit Go.Ms Go.Lib
set_option maxRecDepth 100000 in
set_option maxHeartbeats 4000000 in
theorem schemaAgain_walk (S : ByteArray) (w : World) (hS : S.size ≤ maxLen) (hE : Env w) :
    Calls Tryz.prog 7 #[.string S] w fun e w' => e = .returned (.bool true) ∧ Below w.heap.size w w' := by
 unfold maxLen at hS; obtain ⟨a, ha⟩ : ∃ a : Nat, a = min S.size 2000 := ⟨_, rfl⟩
 have ma : min (S.size : Int) 2000 = (a : Int) := by omega
 have la : (a : Int) ≤ S.size := by omega
 have la0 : (0 : Int) ≤ (a : Int) := by omega
 have la1 : a ≤ S.size := by omega
 obtain ⟨T, hT⟩ : ∃ T, T = S.extract 0 a := ⟨_, rfl⟩
 have hTz : T.size ≤ 2000 := by rw [hT, ByteArray.size_extract]; omega
 obtain ⟨⟨cs, ks, n, er⟩, hD⟩ : ∃ D, parseD T.data.toList = D := ⟨_, rfl⟩; have hp := parse_is (S := T) (w := w) (by omega) hE hD rfl rfl rfl; simp only at hp
 have HP := Lib.hid hp; have HT := Lib.hid hT; have HE := Lib.hid hE; have HD := Lib.hid hD; have HTZ := Lib.hid hTz
 clear hp hT hE hTz
 by_cases h0 : er = 0
 · subst h0; obtain ⟨h1, rfl, h3⟩ := parse_text hD; obtain ⟨h4, h5, h6⟩ := scOk_sizes h3
   have hTT : (⟨(scText cs ks).toArray⟩ : ByteArray) = T := by rw [h1]
   have hck : scCheck cs ks = 0 := by unfold scCheck; rw [if_pos h3]
   have heq := str_beq T T; rw [decide_eq_true rfl] at heq
   have H4 := Lib.hid h4; have HTT := Lib.hid hTT; have HCK := Lib.hid hck; have H5 := Lib.hid h5; have H6 := Lib.hid h6
   clear h1 h3 h4 h5 h6 hTT hck hD ha
   go_enter Tryz.func7, Tryz.ntmps7
   go_wp2_with fail
   rw [← HT.out]; refine HP.out.mono ?_; rintro en w1 ⟨A, B, c, d, rfl, l1, l2, b1⟩; have s1 : Below w1.heap.size w1 (w1.alloc (.cells #[.slice A cs.length c, .slice B ks.length d] 28)) := (Below.refl _ w1).alloc (Nat.le_refl _) _
   have HL := Lib.hid (ScL.mk l1 l2 |>.below s1); have HB := Lib.hid (b1.trans (s1.mono b1.size)); have HQ := Lib.hid (block_new w1 (.cells #[.slice A cs.length c, .slice B ks.length d] 28))
   have htx := fun wq (hl : ScL wq A B cs ks) (hb : Below w.heap.size w wq) => sctext_any wq A B cs.length c ks.length d cs ks H4.out (by have := H5.out; omega) (by have := H6.out; omega) rfl rfl hl.a hl.b (HE.out.below hb)
   have hch := fun wq (hl : ScL wq A B cs ks) (hb : Below w.heap.size w wq) => sccheck_any wq A B cs.length c ks.length d cs ks H4.out (by have := H5.out; omega) (by have := H6.out; omega) rfl rfl hl.a hl.b (HE.out.below hb)
   rw [HTT.out, HCK.out] at htx; rw [HCK.out] at hch
   have HTX := Lib.hid htx; have HCH := Lib.hid hch
   clear l1 l2 b1 s1 htx hch
   go_wp2_with fail
   refine (HTX.out _ HL.out HB.out).mono ?_; rintro en w2 ⟨rfl, b2⟩
   have HL2 := Lib.hid (HL.out.below b2); have HB2 := Lib.hid (HB.out.trans (b2.mono HB.out.size)); have HQ2 := Lib.hid (block_kept HQ.out b2)
   have y0 := cell_of_block (i := 0) HQ2.out rfl; have y1 := cell_of_block (i := 1) HQ2.out rfl; clear b2
   go_wp2_with fail
   refine (HCH.out _ HL2.out HB2.out).mono ?_; rintro en w3 ⟨rfl, b3⟩; have HB3 := Lib.hid (HB2.out.trans (b3.mono HB2.out.size)); clear b3 y0 y1
   go_wp2_with fail
   refine (works_any _ (HE.out.below HB3.out)).mono ?_; rintro en w4 ⟨rfl, b4⟩; have HB4 := Lib.hid (HB3.out.trans (b4.mono HB3.out.size)); clear b4
   go_wp2_with fail
   go_ret
   exact ⟨rfl, HB4.out⟩
 · obtain ⟨h1, h2, h3⟩ := parse_none (s := T.data.toList) (by rw [hD]; exact h0); rw [hD] at h1 h2 h3; simp only at h1 h2 h3; subst h1; subst h2
   have h0' : (er != 0) = true := by simpa using h0
   have hcn := fun wq => Tryz.strings_Count_one T 10 wq
   have hct : Lib.countByte T.data.toList 10 = T.data.toList.count 10 := rfl; rw [hct] at hcn
   generalize T.data.toList.count 10 = K at hcn h3
   have h3' : (n : Int) ≤ (K : Int) := by omega
   have hn0 : (0 : Int) ≤ (n : Int) := by omega
   have HCN := Lib.hid hcn; clear hcn hct hD ha h0 h3
   go_enter Tryz.func7, Tryz.ntmps7
   go_wp2_with fail
   rw [← HT.out]; refine HP.out.mono ?_; rintro en w1 ⟨A, B, c, d, rfl, -, -, b1⟩; have s1 : Below w1.heap.size w1 (w1.alloc (.cells #[.slice A 0 c, .slice B 0 d] 28)) := (Below.refl _ w1).alloc (Nat.le_refl _) _; have HB := Lib.hid (b1.trans (s1.mono b1.size)); clear b1 s1
   go_wp2_with fail
   refine (HCN.out _).mono ?_; rintro en w2 ⟨rfl, hw⟩; rw [hw]; clear hw
   go_wp2_with fail
   refine (works_any _ (HE.out.below HB.out)).mono ?_; rintro en w4 ⟨rfl, b4⟩; have HB4 := Lib.hid (HB.out.trans (b4.mono HB.out.size)); clear b4
   go_wp2_with fail
   go_ret
   exact ⟨rfl, HB4.out⟩
end Go.Proofs.YthlinmkengoliaaGreatDoor
