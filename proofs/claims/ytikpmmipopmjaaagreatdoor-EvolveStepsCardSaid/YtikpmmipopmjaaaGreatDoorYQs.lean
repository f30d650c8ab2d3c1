/- Schemas: copied, compared. Schemas, plainly: the columns that are read may be; how large what they hold is. Schemas: a text read. -/
import Derived.Test.YtikpmmipopmjaaaGreatDoorYQr
import Derived.Test.YtikpmmipopmjaaaGreatDoorYSe
set_option linter.unusedVariables false
set_option linter.unusedSimpArgs false
namespace Go.Ms
open Go.RowKit Go.Lib
def OwnCo (w : World) (B : Nat) (e : TypeId) (v : Value) (l : List Co) : Prop := w.ownsRow B e 7 v l.length (colV l)
theorem OwnCo.lay {w : World} {B : Nat} {e : TypeId} {A : Option Addr} {n c : Nat} {l : List Co} (h : OwnCo w B e (.slice A n c) l) : n = l.length ∧ Lay w w.heap.size A (colV l) := by
 have hn : n = l.length := by
  rcases h.2 with ⟨hv, h0⟩ | ⟨g, cap, cur, hv, _⟩
  · injection hv with _ h2 _; omega
  · injection hv
 subst hn; exact ⟨rfl, Lay.of_own h le_⟩
end Go.Ms
namespace Go.Proofs.YtikpmmipopmjaaaGreatDoor
open Go.RowKit Go.Ms Go.Lib
theorem under_cols : Tryz.prog.underlying 22 = some (.slice 59) := Tryz.underlying22
theorem under_ints : Tryz.prog.underlying 23 = some (.slice 3) := Tryz.underlying23
theorem rscsame_any (w : World) (A B D E : Option Addr) (n cap m capm n2 cap2 m2 capm2 : Nat) (xs ys : List Co) (ks ls : List Int) (h1 : n ≤ maxLen) (h2 : m ≤ maxLen) (h3 : n2 ≤ maxLen) (h4 : m2 ≤ maxLen) (hn : n = xs.length) (hm : m = ks.length) (hn2 : n2 = ys.length) (hm2 : m2 = ls.length)
    (hA : Lay w w.heap.size A (colV xs)) (hB : Lay w w.heap.size B (intV ks)) (hD : Lay w w.heap.size D (colV ys)) (hE : Lay w w.heap.size E (intV ls)) :
    Calls Tryz.prog 21 #[.agg #[.slice A n cap, .slice B m capm], .agg #[.slice D n2 cap2, .slice E m2 capm2]] w fun e w' => e = .returned (.bool (decide (xs = ys) && decide (ks = ls))) ∧ Below w.heap.size w w' := by
 have hc := fun (w' : World) (hb : Below w.heap.size w w') => reqcols_any w' A D n cap n2 cap2 xs ys h1 h3 hn hn2 ((hA.below hb).more hb.size) ((hD.below hb).more hb.size)
 have hi := fun (w' : World) (hb : Below w.heap.size w w') => reqints_any w' B E m capm m2 capm2 ks ls h2 h4 hm hm2 ((hB.below hb).more hb.size) ((hE.below hb).more hb.size)
 have HC := hh_ hc; have HI := hh_ hi
 clear hc hi hA hB hD hE hn hm hn2 hm2 h1 h2 h3 h4
 go_enter Tryz.func21, Tryz.ntmps21
 go_wp2_with fail
 refine (HC.out _ (((Below.refl _ w).alloc le_ _).alloc (by simp) _)).mono ?_; rintro en w1 ⟨rfl, b1⟩; have B1 : Below w.heap.size w w1 := (((Below.refl _ w).alloc le_ _).alloc (by simp) _).trans (b1.mono (by rw [World.size_alloc, World.size_alloc]; omega)); have q1 := bk_ (bx_ (block_new w (.cells #[.slice A n cap, .slice B m capm] 25)) (.cells #[.slice D n2 cap2, .slice E m2 capm2] 25)) b1; have q2 := bk_ (block_new (w.alloc (.cells #[.slice A n cap, .slice B m capm] 25)) (.cells #[.slice D n2 cap2, .slice E m2 capm2] 25)) b1; rw [World.size_alloc] at q2; have c1 := cb_ 1 q1 rfl
 have c2 := cb_ 1 q2 rfl; clear q1 q2; have HB := hh_ B1; clear B1 b1
 cases hd : decide (xs = ys)
 · go_wp2_with fail
   go_ret
   exact ⟨by rw [hd]; rfl, HB.out⟩
 · go_wp2_with fail
   refine (HI.out _ HB.out).mono ?_; rintro en w2 ⟨rfl, b2⟩; have HB2 := hh_ (HB.out.trans (b2.mono HB.out.size)); clear b2
   go_wp2_with fail
   go_ret
   exact ⟨by rw [hd]; rfl, HB2.out⟩
end Go.Proofs.YtikpmmipopmjaaaGreatDoor
namespace Go.Ms
open Go.RowKit Go.Lib
theorem kIs_small {k n : Int} {s : Bs} (h : kIs k n s = true) : s.length ≤ 1024 ∧ -9223372036854775808 ≤ n ∧ n ≤ 9223372036854775807 := by
 unfold kIs at h
 by_cases h1 : k = 1
 · simp [h1] at h; obtain ⟨⟨rfl, h2⟩, h3⟩ := h; simp; omega
 by_cases h2 : k = 2
 · simp [h2] at h; obtain ⟨⟨rfl, h2⟩, h3⟩ := h; simp; omega
 by_cases h3 : k = 3
 · simp [h3] at h; obtain ⟨⟨rfl, h2⟩, h3⟩ := h; simp; omega
 by_cases h4 : k = 4
 · simp [h4] at h; obtain ⟨⟨rfl, h2⟩, h3⟩ := h; omega
 · simp [h1, h2, h3, h4] at h; obtain ⟨rfl, h2⟩ := h; omega
theorem kCheck_small {k : Int} {tn nu : Bool} {n : Int} {s : Bs} (h : kCheck k tn nu n s = 0) : s.length ≤ 1024 ∧ -9223372036854775808 ≤ n ∧ n ≤ 9223372036854775807 := by
 obtain ⟨_, h2⟩ := check_zero h; unfold kOk at h2
 cases nu with
 | true => simp at h2; obtain ⟨⟨_, rfl⟩, rfl⟩ := h2; simp
 | false => exact kIs_small (by simpa using h2)
theorem coOk_small {c : Co} (h : coOk c = true) : c.2.1.size ≤ 32 ∧ c.2.2.2.2.2.size ≤ 1024 ∧ -9223372036854775808 ≤ c.2.2.2.2.1 ∧ c.2.2.2.2.1 ≤ 9223372036854775807 := by
 unfold coOk at h; simp only [Bool.and_eq_true, decide_eq_true_eq] at h; obtain ⟨hn, hc⟩ := h; unfold isNm at hn; simp only [Bool.and_eq_true, decide_eq_true_eq] at hn
 have h1 : c.2.1.data.toList.length = c.2.1.size := by simp
 have h2 : c.2.2.2.2.2.data.toList.length = c.2.2.2.2.2.size := by simp
 have := kCheck_small hc; omega
theorem coRead_ok {a b k t : Bs} {c : Co} {key : Bool} (h : coRead a b k t = some (c, key)) : coOk c = true ∧ 0 ≤ c.1 ∧ c.1 ≤ 1048576 ∧ idOf a = c.1 ∧ c.2.1 = ⟨b.toArray⟩ ∧
    c.2.2.1 = (kindOf (stripB 63 (stripB 42 k).1).1, (stripB 63 (stripB 42 k).1).2) ∧ 1 ≤ kindOf (stripB 63 (stripB 42 k).1).1 ∧ key = (stripB 42 k).2 ∧ coText c = t := by
 unfold coRead at h
 by_cases hc : isNm b = true ∧ 0 ≤ idOf a ∧ 1 ≤ kindOf (stripB 63 (stripB 42 k).1).1 ∧ (kReadD (kindOf (stripB 63 (stripB 42 k).1).1) (stripB 63 (stripB 42 k).1).2 t).2 = 0
 · rw [if_pos hc] at h; obtain ⟨h1, h2, h3, h4⟩ := hc
   generalize hK : kindOf (stripB 63 (stripB 42 k).1).1 = K at h h3 h4 ⊢
   generalize hU : (stripB 63 (stripB 42 k).1).2 = U at h h4 ⊢
   obtain ⟨R, hR⟩ : ∃ R, kReadD K U t = R := ⟨_, rfl⟩; rw [hR] at h h4; obtain ⟨⟨nu, n, s⟩, er⟩ := R; simp only at h4; subst h4; obtain ⟨hz, ht⟩ := read_only hR; simp only [Option.some.injEq, Prod.mk.injEq] at h; obtain ⟨rfl, rfl⟩ := h
   have hi : idOf a ≤ 1048576 := by
    unfold idOf
    split
    · rename_i e; exact e.2.2
    · omega
   refine ⟨?_, h2, hi, rfl, rfl, rfl, h3, rfl, ht⟩; unfold coOk; simp only [Bool.and_eq_true, decide_eq_true_eq]; exact ⟨h1, hz⟩
 · exact absurd (h.symm.trans (if_neg hc)) (by simp)
theorem readCo_ok {s : Bs} {c : Co} {key : Bool} (h : readCo s = some (c, key)) : coOk c = true ∧ 0 ≤ c.1 ∧ c.1 ≤ 1048576 := by
 unfold readCo at h
 split at h
 · cases h
 split at h
 · cases h
 split at h
 · cases h
 obtain ⟨h1, h2, h3, _⟩ := coRead_ok h; exact ⟨h1, h2, h3⟩
end Go.Ms
namespace Go.Ms
open Go.RowKit Go.Lib
def readLs : List Co → List Int → List ByteArray → Option (List Co × List Int)
  | cs, ks, [] => some (cs, ks)
  | cs, ks, l :: r => match lineRead l.data.toList with
   | none => none
   | some x => readLs (cs ++ [x.1]) (if x.2 = true then ks ++ [(cs.length : Int)] else ks) r
theorem readLs_snoc {l : ByteArray} {x : Co × Bool} (hx : lineRead l.data.toList = some x) : ∀ (pre : List ByteArray) (cs cs' : List Co) (ks ks' : List Int), readLs cs ks pre = some (cs', ks') →
    readLs cs ks (pre ++ [l]) = some (cs' ++ [x.1], if x.2 = true then ks' ++ [(cs'.length : Int)] else ks')
  | [], cs, cs', ks, ks', h => by
   simp only [readLs, Option.some.injEq, Prod.mk.injEq] at h; obtain ⟨rfl, rfl⟩ := h; simp only [List.nil_append, readLs, hx]
  | a :: r, cs, cs', ks, ks', h => by
   rw [List.cons_append, readLs]; rw [readLs] at h
   cases ha : lineRead a.data.toList with
   | none => rw [ha] at h; cases h
   | some y =>
    rw [ha] at h; exact readLs_snoc hx r _ _ _ _ h
theorem strip_nl {l : Bs} : stripB 10 (l ++ [10]) = (l, true) := by
 unfold stripB; rw [if_pos (by simp), List.dropLast_concat]
theorem lineRead_end (l : Bs) : lineRead (l ++ [10]) = readCo l := by unfold lineRead; rw [strip_nl]; rfl
theorem lineRead_none {l : Bs} (h : (10 : UInt8) ∉ l) : lineRead l = none := by
 have h2 : ¬ l.getLast? = some 10 := fun e => h (List.mem_of_getLast? e)
 simp [lineRead, stripB, h2]
theorem readLs_all (t : Bs) (ht : (10 : UInt8) ∉ t) : ∀ (ls : List Bs) (cs : List Co) (ks : List Int),
    readLs cs ks ((ls.map (fun l => l ++ [10]) ++ (if t = [] then [] else [t])).map fun l => (⟨l.toArray⟩ : ByteArray)) =
      if ((readAll cs ks ls).2.2 && decide (t = [])) = true then some ((readAll cs ks ls).1, (readAll cs ks ls).2.1) else none
  | [], cs, ks => by
   by_cases h : t = []
   · subst h; simp [readLs, readAll]
   · simp only [h, List.map_nil, List.nil_append, if_false, List.map_cons, readLs, readAll, decide_false, Bool.and_false, Bool.false_eq_true]; rw [lineRead_none ht]
  | l :: ls, cs, ks => by
   rw [List.map_cons, List.cons_append, List.map_cons, readLs, readAll]
   have e : ∀ b : Bs, (ByteArray.mk b.toArray).data.toList = b := fun _ => rfl
   simp only [e, lineRead_end]
   cases h : readCo l with
   | none => simp
   | some x => exact readLs_all t ht ls _ _
theorem readLs_stop (t : Bs) (ht : (10 : UInt8) ∉ t) {x : ByteArray} (hx : lineRead x.data.toList = none) : ∀ (ls : List Bs) (pre : List ByteArray) (cs cs' : List Co) (ks ks' : List Int),
    (pre ++ [x]) <+: ((ls.map (fun l => l ++ [10]) ++ (if t = [] then [] else [t])).map fun l => (⟨l.toArray⟩ : ByteArray)) → readLs cs ks pre = some (cs', ks') →
    ((readAll cs ks ls).2.2 && decide (t = [])) = false ∧ (readAll cs ks ls).1 = cs'
  | [], pre, cs, cs', ks, ks', hp, hr => by
   by_cases h : t = []
   · simp [h] at hp
   · simp only [h, List.map_nil, List.nil_append, if_false, List.map_cons] at hp; have hl := hp.length_le
     simp at hl
     obtain rfl : pre = [] := hl; simp only [readLs, Option.some.injEq, Prod.mk.injEq] at hr
     simp [readAll, h, hr.1]
  | l :: ls, [], cs, cs', ks, ks', hp, hr => by
   simp only [List.nil_append, List.map_cons, List.cons_append] at hp; obtain rfl := (List.cons_prefix_cons.1 hp).1; simp only [readLs, Option.some.injEq, Prod.mk.injEq] at hr; have e : (ByteArray.mk (l ++ [10]).toArray).data.toList = l ++ [10] := rfl; rw [e, lineRead_end] at hx; rw [readAll, hx]; exact ⟨rfl, hr.1⟩
  | l :: ls, a :: r, cs, cs', ks, ks', hp, hr => by
   simp only [List.map_cons, List.cons_append] at hp; obtain ⟨rfl, hp2⟩ := List.cons_prefix_cons.1 hp; have e : (ByteArray.mk (l ++ [10]).toArray).data.toList = l ++ [10] := rfl; rw [readLs, e, lineRead_end] at hr; rw [readAll]
   cases h : readCo l with
   | none => rw [h] at hr; cases hr
   | some y =>
    rw [h] at hr; exact readLs_stop t ht hx ls r _ _ _ _ hp2 hr
theorem linesL_flat (s : Bs) : (linesL s).flatten = s := by
 have h := splitNl_back s; unfold linesL; rw [List.flatten_append, ← List.flatMap_def]
 conv => rhs; rw [h]
 congr 1
 split
 · rename_i e; rw [e]; rfl
 · simp
theorem linesB_size {S x : ByteArray} (h : x ∈ linesB S) : x.size ≤ S.size := by
 unfold linesB at h; obtain ⟨l, hl, rfl⟩ := List.mem_map.1 h; have h1 := (List.sublist_flatten_of_mem hl).length_le; rw [linesL_flat] at h1
 have h2 : S.data.toList.length = S.size := by simp
 have h3 : (ByteArray.mk l.toArray).size = l.length := List.size_toArray; omega
theorem parse_stop {S x : ByteArray} {pre : List ByteArray} {cs : List Co} {ks : List Int} (hp : (pre ++ [x]) <+: linesB S) (hr : readLs [] [] pre = some (cs, ks)) (hx : lineRead x.data.toList = none) :
    (parseR S.data.toList).2.2 = false ∧ (parseR S.data.toList).1 = cs := by
 unfold linesB linesL at hp; unfold parseR; exact readLs_stop _ (splitNl_no _).2 hx _ _ _ _ _ _ hp hr
theorem readLs_ok : ∀ (ls : List ByteArray) (cs cs' : List Co) (ks ks' : List Int), (∀ c ∈ cs, coOk c = true) → readLs cs ks ls = some (cs', ks') → (∀ c ∈ cs', coOk c = true) ∧ cs'.length = cs.length + ls.length ∧ ks'.length ≤ ks.length + ls.length
  | [], cs, cs', ks, ks', h, hr => by
   simp only [readLs, Option.some.injEq, Prod.mk.injEq] at hr; obtain ⟨rfl, rfl⟩ := hr; exact ⟨h, by simp, by simp⟩
  | l :: ls, cs, cs', ks, ks', h, hr => by
   rw [readLs] at hr
   cases hl : lineRead l.data.toList with
   | none => rw [hl] at hr; cases hr
   | some x =>
    rw [hl] at hr
    obtain ⟨h1, h2, h3⟩ := readLs_ok ls _ _ _ _ (fun c hc => by
     rcases List.mem_append.1 hc with h1 | h1
     · exact h c h1
     · have : c = x.1 := by simpa using h1
       subst this; unfold lineRead at hl
       split at hl
       · exact (readCo_ok (c := x.1) (key := x.2) hl).1
       · cases hl) hr
    refine ⟨h1, by rw [h2]; simp; omega, ?_⟩
    split at h3 <;> simp at h3 ⊢ <;> omega
theorem linesB_len (S : ByteArray) : (linesB S).length ≤ S.size := by
 have h0 : ∀ l : List Bs, (∀ x ∈ l, x ≠ []) → l.length ≤ l.flatten.length := by
  intro l
  induction l with
  | nil => simp
  | cons a t ih =>
   intro h
   have h1 : a.length ≠ 0 := fun e => h a (by simp) (List.eq_nil_of_length_eq_zero e)
   have h2 := ih fun x hx => h x (by simp [hx])
   simp only [List.length_cons, List.flatten_cons, List.length_append]; omega
 unfold linesB; rw [List.length_map]; refine Nat.le_trans (h0 _ fun x hx => ?_) (by rw [linesL_flat]; simp); unfold linesL at hx
 rcases List.mem_append.1 hx with h | h
 · obtain ⟨l, _, rfl⟩ := List.mem_map.1 h
   simp
 · split at h
   · cases h
   · rename_i e; simp at h; rw [h]; exact e
theorem readLs_parse (S : ByteArray) : readLs [] [] (linesB S) = if (parseR S.data.toList).2.2 = true then some ((parseR S.data.toList).1, (parseR S.data.toList).2.1) else none := by
 unfold linesB linesL parseR; exact readLs_all _ (splitNl_no _).2 _ [] []
end Go.Ms
