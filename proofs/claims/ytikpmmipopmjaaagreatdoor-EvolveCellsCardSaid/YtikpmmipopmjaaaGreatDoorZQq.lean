/- Schemas that follow each other, plainly: a seed's versions are a chain. Schemas that follow each other, plainly: a seed's rows, and what the laws say of them. Schemas that follow each other, plainly: a row carried in parts; what EvolveRows and EvolveCells say. Schemas that follow each other, plainly: a version that is turned in one thing. Schemas that follow each other, plainly: what EvolveSpoilt says. Schemas that follow each other, plainly: as the package asks it. A range over a function that only reads what its captured block holds: the law for the loop, and what such an iterator promises. A range over a function that only reads: what is assigned may lie in a box. -/
import Derived.Test.YtikpmmipopmjaaaGreatDoorZQp
import Derived.RangeFuncBox
import Derived.RangeFuncCalls
import Derived.RangeFuncBound
import Derived.RangeFuncNested
set_option linter.unusedVariables false
set_option linter.unusedSimpArgs false
namespace Go.Ms
theorem evFirst_len : ∀ (l : List Int) (i : Nat), (evFirst i l).length = l.length
  | [], i => rfl
  | n :: r, i => by rw [evFirst, List.length_cons, evFirst_len r, List.length_cons]
theorem evCNm_inj {i j : Nat} (hi : i < 6) (hj : j < 6) (h : (evCNm i).data.toList = (evCNm j).data.toList) : i = j := by
 have a : i = 0 ∨ i = 1 ∨ i = 2 ∨ i = 3 ∨ i = 4 ∨ i = 5 := by omega
 have b : j = 0 ∨ j = 1 ∨ j = 2 ∨ j = 3 ∨ j = 4 ∨ j = 5 := by omega
 rcases a with rfl | rfl | rfl | rfl | rfl | rfl <;> rcases b with rfl | rfl | rfl | rfl | rfl | rfl <;> first | rfl | exact absurd h (by decide +kernel)
theorem evCNm_key {i : Nat} (hi : i < 6) : (evCNm i).data.toList ≠ [107] := by
 have a : i = 0 ∨ i = 1 ∨ i = 2 ∨ i = 3 ∨ i = 4 ∨ i = 5 := by omega
 rcases a with rfl | rfl | rfl | rfl | rfl | rfl <;> decide +kernel
theorem evFirst_ok {l : List Int} (hl : l.length ≤ 6) : EvOk 0 (evKey :: evFirst 0 l) (1 + (l.length : Int)) := by
 have at0 : ∀ (j : Nat) c, (evKey :: evFirst 0 l)[j]? = some c → (j = 0 ∧ c = evKey) ∨ ∃ k n, j = k + 1 ∧ k < l.length ∧ c = evNew ((k : Int) + 2) (evCNm k) (n % 8) := fun j c h => by
  cases j with
  | zero => exact .inl ⟨rfl, by simpa using h.symm⟩
  | succ k =>
   obtain ⟨n, h1, h2⟩ := evFirst_at l 0 k c (by simpa using h); rw [Nat.zero_add] at h1; exact .inr ⟨k, n, rfl, h2, h1⟩
 have mem0 : ∀ c ∈ (evKey :: evFirst 0 l), c = evKey ∨ ∃ (k : Nat) (n : Int), k < l.length ∧ c = evNew ((k : Int) + 2) (evCNm k) (n % 8) := fun c hc => by
  obtain ⟨j, hj⟩ := List.getElem?_of_mem hc
  rcases at0 j c hj with ⟨_, e⟩ | ⟨k, n, _, h1, h2⟩
  · exact .inl e
  · exact .inr ⟨k, n, h1, h2⟩
 refine ⟨fun c hc => ?_, fun c hc => ?_, fun a b x y hab hx hy => ?_, fun b a x y hab hx hy => ?_, fun c hc => ?_, ⟨evKey, evFirst 0 l, rfl, rfl, rfl⟩, ?_, by omega⟩
 · rcases mem0 c hc with rfl | ⟨k, n, h1, rfl⟩
   · decide +kernel
   · exact evNew_ok (by omega) (evC_nm (by omega)).1
 · rcases mem0 c hc with rfl | ⟨k, n, h1, rfl⟩
   · decide +kernel
   · exact (evC_nm (by omega)).2
 · rcases at0 a x hx with ⟨a1, rfl⟩ | ⟨k, n, a1, a2, rfl⟩
   · rcases at0 b y hy with ⟨b1, rfl⟩ | ⟨m, o, b1, b2, rfl⟩
     · omega
     · intro e
       exact evCNm_key (i := m) (by omega) (congrArg (fun x : ByteArray => x.data.toList) (e.symm : evCNm m = ⟨#[107]⟩))
   · rcases at0 b y hy with ⟨b1, rfl⟩ | ⟨m, o, b1, b2, rfl⟩
     · omega
     · intro e
       have := evCNm_inj (i := k) (j := m) (by omega) (by omega) (congrArg (fun x : ByteArray => x.data.toList) (e : evCNm k = evCNm m)); omega
 · rcases at0 a x hx with ⟨a1, rfl⟩ | ⟨k, n, a1, a2, rfl⟩
   · rcases at0 b y hy with ⟨b1, rfl⟩ | ⟨m, o, b1, b2, rfl⟩
     · omega
     · show (1 : Int) < (m : Int) + 2
       omega
   · rcases at0 b y hy with ⟨b1, rfl⟩ | ⟨m, o, b1, b2, rfl⟩
     · omega
     · show (k : Int) + 2 < (m : Int) + 2
       omega
 · rcases mem0 c hc with rfl | ⟨k, n, h1, rfl⟩
   · exact ⟨Int.le_refl _, by show (1 : Int) ≤ _; omega⟩
   · exact ⟨by show 1 ≤ (k : Int) + 2; omega, by show (k : Int) + 2 ≤ _; omega⟩
 · rw [List.length_cons, evFirst_len]; omega
theorem evVers_len : ∀ (V : List (Int × Int × Int)) (i : Nat) (s : List Co) (id : Int), (evVers i V s id).length = V.length
  | [], i, s, id => rfl
  | v :: r, i, s, id => by rw [evVers, List.length_cons, evVers_len r, List.length_cons]
theorem evVers_ok : ∀ (V : List (Int × Int × Int)) (i : Nat) (s : List Co) (id : Int), EvOk i s id → i + V.length ≤ 7 →
    (∀ t ∈ evVers i V s id, scOk t.1 t.2 = true) ∧ ∀ ab, 0 ≤ ab → ab ≤ id → (∀ c ∈ s, c.1 ≤ ab) → evLinks (s, [0]) ab (evVers i V s id) = true
  | [], i, s, id, h, hi => ⟨fun t ht => by simp [evVers] at ht, fun ab _ _ _ => by rw [evVers, evLinks]⟩
  | v :: r, i, s, id, h, hi => by
   rw [List.length_cons] at hi; obtain ⟨h1, h2, h3⟩ := evStepV_ok h (by omega) v; obtain ⟨h4, h5⟩ := evVers_ok r (i + 1) _ _ h1 (by omega); refine ⟨fun t ht => ?_, fun ab h0 hab hle => ?_⟩
   · rw [evVers] at ht
     rcases List.mem_cons.1 ht with rfl | ht
     · exact (scOk_iff _ _).2 (h1.sc (by omega))
     · exact h4 t ht
   · rw [evVers, evLinks, Bool.and_eq_true]; refine ⟨h3 ab hab hle, h5 _ (Int.le_trans h0 (Int.le_max_left ..)) ?_ fun c hc => ?_⟩
     · exact Int.max_le.2 ⟨by omega, last_le (fun c hc => (h1.le c hc).2) (by omega)⟩
     · exact Int.le_trans (last_ge h1.up c hc) (Int.le_max_right ..)
theorem evSeed_len (C : List Int) (V : List (Int × Int × Int)) : (evSeed C V).length = 1 + (V.take 7).length := by unfold evSeed; rw [List.length_cons, evVers_len]; omega
theorem evSeed_chain (C : List Int) (V : List (Int × Int × Int)) : evChain (evSeed C V) = 0 := by
 have hC : (C.take 6).length ≤ 6 := by rw [List.length_take]; omega
 have hV : (V.take 7).length ≤ 7 := by rw [List.length_take]; omega
 have h0 := evFirst_ok hC; obtain ⟨h1, h2⟩ := evVers_ok (V.take 7) 0 _ _ h0 (by omega); have hlen := evSeed_len C V; unfold evChain; rw [if_neg (by omega), if_pos]
 · unfold evSeed
   simp only
   have hl := last_le (q := 1 + ((C.take 6).length : Int)) (fun c hc => (h0.le c hc).2) (by omega); rw [if_pos]
   exact h2 _ (by omega) (by omega) fun c hc => by have := last_ge h0.up c hc; omega
 · rw [List.all_eq_true]
   intro t ht
   unfold evSeed at ht
   rcases List.mem_cons.1 ht with rfl | ht
   · exact (scOk_iff _ _).2 (h0.sc (by omega))
   · exact h1 t ht
end Go.Ms
set_option linter.unusedSimpArgs false
namespace Go.Ms
def evCell (t : Ty) (n : Int) : Cl :=
  if t.2 = true ∧ n.tmod 3 = 0 then (true, 0, ⟨#[]⟩)
  else if t.1 = 1 then (false, n % 2, ⟨#[]⟩)
  else if t.1 = 2 then (false, n % 4294967296 - 2147483648, ⟨#[]⟩)
  else if t.1 = 3 then (false, n, ⟨#[]⟩)
  else (false, 0, ⟨#[97, 98, 99, 100, 101, 102, 103, 104].extract 0 (n % 9).toNat⟩)
def evNth (n : List Int) (i : Nat) : Int := if n = [] then (i : Int) else n.getD (i % n.length) 0
def evRowAt (n : List Int) : Nat → List Co → List Cl
  | _, [] => []
  | i, c :: r => evCell c.2.2.1 (evNth n i) :: evRowAt n (i + 1) r
def evRow (cs : List Co) (n : List Int) : List Cl := evRowAt n 0 cs
theorem ev_nine {n : Int} (h : 0 ≤ n ∧ n < 9) : n = 0 ∨ n = 1 ∨ n = 2 ∨ n = 3 ∨ n = 4 ∨ n = 5 ∨ n = 6 ∨ n = 7 ∨ n = 8 := by omega
theorem evCell_ok {t : Ty} (ht : kMay t.1 = true) {n : Int} (hn : -9223372036854775808 ≤ n ∧ n ≤ 9223372036854775807) : cCheck t (evCell t n) = 0 := by
 obtain ⟨k, u⟩ := t
 have hk : 1 ≤ k ∧ k ≤ 5 := by unfold kMay at ht; simpa using ht
 unfold cCheck kCheck; rw [if_pos ht]; rw [if_pos]; unfold evCell
 by_cases h0 : u = true ∧ n.tmod 3 = 0
 · rw [if_pos h0]; unfold kOk
   simp [h0.1]
 · rw [if_neg h0]
   simp only
   by_cases h1 : k = 1
   · subst h1
     have : 0 ≤ n % 2 ∧ n % 2 ≤ 1 := by omega
     simp [kOk, kIs, this]
   · rw [if_neg h1]
     by_cases h2 : k = 2
     · subst h2
       have : 0 ≤ n % 4294967296 ∧ n % 4294967296 < 4294967296 := by omega
       simp [kOk, kIs]
       omega
     · rw [if_neg h2]
       by_cases h3 : k = 3
       · subst h3
         simp [kOk, kIs]
         omega
       · rw [if_neg h3]
         have hk' : k = 4 ∨ k = 5 := by omega
         rcases ev_nine (n := n % 9) (by omega) with e | e | e | e | e | e | e | e | e <;> rw [e] <;> rcases hk' with rfl | rfl <;> cases u <;> decide +kernel
theorem evRowAt_len (n : List Int) : ∀ (cs : List Co) (i : Nat), (evRowAt n i cs).length = cs.length
  | [], i => rfl
  | c :: r, i => by rw [evRowAt, List.length_cons, List.length_cons, evRowAt_len n r]
theorem evRowAt_ok {n : List Int} (hn : ∀ x ∈ n, -9223372036854775808 ≤ x ∧ x ≤ 9223372036854775807) : ∀ (cs : List Co) (i : Nat), (∀ c ∈ cs, kMay c.2.2.1.1 = true) → i + cs.length ≤ 9223372036854775807 → rCheckL (coTys cs) (evRowAt n i cs) = 0
  | [], i, _, _ => by unfold coTys evRowAt rCheckL; rfl
  | c :: r, i, h, hi => by
   rw [List.length_cons] at hi
   have hth : -9223372036854775808 ≤ evNth n i ∧ evNth n i ≤ 9223372036854775807 := by
    unfold evNth
    split
    · omega
    · rename_i hne
      have hl : 0 < n.length := by cases n with
       | nil => exact absurd rfl hne
       | cons a b => simp
      have hm := Nat.mod_lt i hl; rw [List.getD_eq_getElem?_getD, List.getElem?_eq_getElem hm]; exact hn _ (List.getElem_mem hm)
   show rCheckL (c.2.2.1 :: coTys r) (evCell c.2.2.1 (evNth n i) :: evRowAt n (i + 1) r) = 0
   unfold rCheckL; rw [if_pos (evCell_ok (h c (by simp)) hth)]; exact evRowAt_ok hn r (i + 1) (fun d hd => h d (by simp [hd])) (by omega)
theorem co_may {c : Co} (h : coOk c = true) : kMay c.2.2.1.1 = true := by
 unfold coOk at h; simp only [Bool.and_eq_true, decide_eq_true_eq] at h; exact (check_zero h.2).1
theorem evRow_ok {cs : List Co} (hc : ∀ c ∈ cs, coOk c = true) (hl : cs.length ≤ 64) {n : List Int} (hn : ∀ x ∈ n, -9223372036854775808 ≤ x ∧ x ≤ 9223372036854775807) : rCheck (coTys cs) (evRow cs n) = 0 := by
 unfold rCheck; rw [if_pos (by rw [coTys_len]; exact (evRowAt_len n cs 0).symm)]; exact evRowAt_ok hn cs 0 (fun c h => co_may (hc c h)) (by omega)
theorem evSeed_at (C : List Int) (V : List (Int × Int × Int)) {i : Nat} (hi : i < (evSeed C V).length) : scOk ((evSeed C V).getD i zSc).1 ((evSeed C V).getD i zSc).2 = true ∧ (evSeed C V).getD i zSc ∈ evSeed C V := by
 have hm : (evSeed C V).getD i zSc ∈ evSeed C V := by
  rw [List.getD_eq_getElem?_getD, List.getElem?_eq_getElem hi]; exact List.getElem_mem hi
 have h := evSeed_chain C V; refine ⟨?_, hm⟩
 cases e : evSeed C V with
 | nil => rw [e] at hm; simp at hm
 | cons s l =>
  rw [e] at h hm; exact (chain_parts h).2.1 _ hm
theorem sc_cols {cs : List Co} {ks : List Int} (h : scOk cs ks = true) : (∀ c ∈ cs, coOk c = true) ∧ cs.length ≤ 32 ∧ (∀ c ∈ cs, cCheck c.2.2.1 c.2.2.2 = 0) := by
 have h1 := (scOk_iff _ _).1 h
 have hc : ∀ c ∈ cs, coOk c = true := fun c hc => by
  obtain ⟨j, hj⟩ := List.getElem?_of_mem hc; have := h1.co j c hj; unfold coOk
  simpa using this
 refine ⟨hc, h1.most, fun c hm => ?_⟩; have := hc c hm; unfold coOk at this; simp only [Bool.and_eq_true, decide_eq_true_eq] at this; exact this.2
theorem once_plain (C : List Int) (V : List (Int × Int × Int)) {n : List Int} (hn : ∀ x ∈ n, -9223372036854775808 ≤ x ∧ x ≤ 9223372036854775807) {f t : Nat} (h1 : 1 ≤ f) (h2 : f ≤ t) (h3 : t ≤ (evSeed C V).length) :
    evChain (evSeed C V) = 0 ∧ evStep ((evSeed C V).getD (f - 1) zSc) ((evSeed C V).getD (t - 1) zSc) = 0 ∧
    evCarry (evSeed C V) f t (evRow ((evSeed C V).getD (f - 1) zSc).1 n) = (evMoved ((evSeed C V).getD (f - 1) zSc).1 ((evSeed C V).getD (t - 1) zSc).1 (evRow ((evSeed C V).getD (f - 1) zSc).1 n), 0) ∧
    evMove ((evSeed C V).getD (f - 1) zSc) ((evSeed C V).getD (t - 1) zSc) (evRow ((evSeed C V).getD (f - 1) zSc).1 n) = (evMoved ((evSeed C V).getD (f - 1) zSc).1 ((evSeed C V).getD (t - 1) zSc).1 (evRow ((evSeed C V).getD (f - 1) zSc).1 n), 0) := by
 have hc := evSeed_chain C V; obtain ⟨a1, a2⟩ := evSeed_at C V (i := f - 1) (by omega); obtain ⟨b1, b2, b3⟩ := sc_cols a1; have hr := evRow_ok b1 (by omega) hn; obtain ⟨c1, c2⟩ := carry_once hc h1 h2 h3 hr; refine ⟨hc, c2, c1, ?_⟩; unfold evMove; rw [if_pos c2, if_pos hr]
end Go.Ms
set_option linter.unusedSimpArgs false
namespace Go.Ms
theorem find_at (cs : List Co) (id : Int) : coFind (fun c => decide (c.1 = id)) cs = (match evAt cs id with
    | some k => (k, true)
    | none => (0, false)) := rfl
theorem carry_is {L : List Sc} (h : evChain L = 0) {f t : Nat} (h1 : 1 ≤ f) (h2 : f ≤ t) (h3 : t ≤ L.length) {r : List Cl} (hr : rCheck (coTys (L.getD (f - 1) zSc).1) r = 0) :
    evCarry L f t r = (evAlong (L.getD (f - 1) zSc) ((L.drop f).take (t - f)) r, 0) := by
 unfold evCarry; rw [if_pos h, if_neg (by omega)]
 have e1 : ((f : Int)).toNat - 1 = f - 1 := by omega
 have e2 : ((t : Int) - (f : Int)).toNat = t - f := by omega
 rw [e1, if_pos hr, e2, Int.toNat_natCast]
theorem chain_ok {L : List Sc} (h : evChain L = 0) : ∀ t ∈ L, scOk t.1 t.2 = true := by
 cases L with
 | nil => intro t ht; simp at ht
 | cons s l => exact (chain_parts h).2.1
theorem step_parts {a b : Sc} (h : evStep a b = 0) : scOk a.1 a.2 = true ∧ scOk b.1 b.2 = true ∧ evFollows a b (evLast a.1) = true := by
 unfold evStep at h
 split at h
 · rename_i h1
   split at h
   · rename_i h2; exact ⟨h1.1, h1.2, h2⟩
   · omega
 · omega
theorem last_drop {L : List Sc} {p q : Nat} (h1 : 1 ≤ p) (h2 : p ≤ q) (h3 : q ≤ L.length) : (L.getD (p - 1) zSc :: (L.drop p).take (q - p)).getLast (by simp) = L.getD (q - 1) zSc := by
 rw [List.getLast_eq_getElem]
 have hlen : (L.getD (p - 1) zSc :: (L.drop p).take (q - p)).length = q - p + 1 := by simp; omega
 have key : (L.getD (p - 1) zSc :: (L.drop p).take (q - p))[q - p]? = some (L.getD (q - 1) zSc) := by
  by_cases e : q = p
  · subst e
    simp
  · rw [show q - p = (q - p - 1) + 1 by omega, List.getElem?_cons_succ, List.getElem?_take, if_pos (by omega), List.getElem?_drop, show p + (q - p - 1) = q - 1 by omega, List.getD_eq_getElem?_getD, List.getElem?_eq_getElem (by omega)]; rfl
 obtain ⟨h5, h6⟩ := List.getElem?_eq_some_iff.1 key; rw [← h6]
 congr 1
 omega
theorem carry_parts {L : List Sc} (h : evChain L = 0) {p q s : Nat} (h1 : 1 ≤ p) (h2 : p ≤ q) (h3 : q ≤ s) (h4 : s ≤ L.length) {r : List Cl} (hr : rCheck (coTys (L.getD (p - 1) zSc).1) r = 0) :
    ∃ u v, evCarry L p q r = (u, 0) ∧ rCheck (coTys (L.getD (q - 1) zSc).1) u = 0 ∧ evCarry L q s u = (v, 0) ∧ evCarry L p s r = (v, 0) := by
 have c1 := carry_is h h1 h2 (by omega) hr; obtain ⟨d1, d2⟩ := carry_once h h1 h2 (by omega) hr; obtain ⟨s1, s2, s3⟩ := step_parts d2
 have hu : rCheck (coTys (L.getD (q - 1) zSc).1) (evCarry L p q r).1 = 0 := by
  rw [d1]; exact moved_check s3 (sc_cols s2).2.2 hr
 rw [c1] at hu; refine ⟨_, _, c1, hu, carry_is h (by omega) h3 h4 hu, ?_⟩; rw [carry_is h h1 (by omega) h4 hr]
 have e : (L.drop p).take (s - p) = (L.drop p).take (q - p) ++ (L.drop q).take (s - q) := by
  rw [show s - p = (q - p) + (s - q) by omega, List.take_add, List.drop_drop, show p + (q - p) = q by omega]
 rw [e, along_app, last_drop h1 h2 (by omega)]
theorem seed_next (C : List Int) (V : List (Int × Int × Int)) {i : Nat} (hi : i < (evSeed C V).length) {n : List Int} (hn : ∀ x ∈ n, -9223372036854775808 ≤ x ∧ x ≤ 9223372036854775807) :
    rCheck (coTys ((evSeed C V).getD i zSc).1) (evRow ((evSeed C V).getD i zSc).1 n) = 0 ∧ evStep ((evSeed C V).getD i zSc) ((evSeed C V).getD (min (i + 1) ((evSeed C V).length - 1)) zSc) = 0 := by
 obtain ⟨b1, b2, b3⟩ := sc_cols (evSeed_at C V hi).1; have hr := evRow_ok b1 (by omega) hn; have := (carry_once (evSeed_chain C V) (f := i + 1) (t := min (i + 1) ((evSeed C V).length - 1) + 1) (by omega) (by omega) (by omega) (r := evRow ((evSeed C V).getD i zSc).1 n) hr).2; exact ⟨hr, this⟩
theorem rows_plain {a b : Sc} (h : evStep a b = 0) {r : List Cl} (hr : rCheck (coTys a.1) r = 0) :
    evMove a b r = (evMoved a.1 b.1 r, 0) ∧ evMove a a r = (r, 0) ∧ rCheck (coTys b.1) (evMoved a.1 b.1 r) = 0 ∧ rKeyE (coTys a.1) r a.2 = 0 ∧ rKeyE (coTys b.1) (evMoved a.1 b.1 r) b.2 = 0 ∧ rKey (coTys b.1) (evMoved a.1 b.1 r) b.2 = rKey (coTys a.1) r a.2 := by
 obtain ⟨s1, s2, s3⟩ := step_parts h; have oa := (scOk_iff _ _).1 s1; have ob := (scOk_iff _ _).1 s2; have ua := ids_up oa; have hm := moved_check s3 (sc_cols s2).2.2 hr
 have ka : ∀ k ∈ a.2, 0 ≤ k ∧ k < a.1.length := fun k hk => by
  obtain ⟨j, hj⟩ := List.getElem?_of_mem hk; exact oa.kin j k hj
 have kb : ∀ k ∈ b.2, 0 ≤ k ∧ k < b.1.length := fun k hk => by
  obtain ⟨j, hj⟩ := List.getElem?_of_mem hk; exact ob.kin j k hj
 have hl := (rCheck_parts hr).1; rw [coTys_len] at hl
 have hself : evStep a a = 0 := by
  unfold evStep; rw [if_pos ⟨s1, s1⟩, if_pos (follows_self ua _)]
 have ea : rKeyE (coTys a.1) r a.2 = 0 := by
  unfold rKeyE rInE rIn; rw [if_pos hr, if_pos]; simp only [List.all_eq_true, Bool.and_eq_true, decide_eq_true_eq]
  intro k hk
  have := ka k hk; omega
 have eb : rKeyE (coTys b.1) (evMoved a.1 b.1 r) b.2 = 0 := by
  unfold rKeyE rInE rIn; rw [if_pos hm, if_pos]; simp only [List.all_eq_true, Bool.and_eq_true, decide_eq_true_eq, moved_len]
  intro k hk
  have := kb k hk; omega
 refine ⟨?_, ?_, hm, ea, eb, ?_⟩
 · unfold evMove; rw [if_pos h, if_pos hr]
 · unfold evMove; rw [if_pos hself, if_pos hr, moved_self ua hl]
 · unfold rKey; rw [if_pos ea, if_pos eb]; exact moved_key ua s3 hr ka kb
theorem cells_plain {a b : List Co} {r : List Cl} (hl : a.length = r.length) {k : Nat} {d : Co} (hd : b[k]? = some d) :
    (evMoved a b r)[k]? = some (if (coFind (fun c => decide (c.1 = d.1)) a).2 = true ∧ (coFind (fun c => decide (c.1 = d.1)) a).1 < r.length then r.getD (coFind (fun c => decide (c.1 = d.1)) a).1 zCl else d.2.2.2) := by
 rw [moved_at hd, find_at]
 cases h : evAt a d.1 with
 | none => simp
 | some j =>
  obtain ⟨c, h1, _⟩ := evAt_some h; have := (List.getElem?_eq_some_iff.1 h1).1
  simp only
  rw [if_pos ⟨trivial, by omega⟩]
end Go.Ms
set_option linter.unusedSimpArgs false
namespace Go.Ms
end Go.Ms
set_option linter.unusedSimpArgs false
namespace Go.Ms
def spWide (c : Co) : Co := (c.1, c.2.1, (3, c.2.2.1.2), c.2.2.2)
end Go.Ms
set_option linter.unusedSimpArgs false
namespace Go.Ms
def evAs (c : Co) : Co := if c.2.2.1.1 = 2 then spWide c else c
theorem as_same {c d : Co} (h : c.1 = d.1) : (decide (evAs c = evAs d) && !(decide (c.2.2.1.1 = 3) && decide (d.2.2.1.1 = 2))) = evSame c d := by
 obtain ⟨i, nm, ⟨k, u⟩, df⟩ := c; obtain ⟨j, nm', ⟨k', u'⟩, df'⟩ := d; simp only at h; subst h; rw [Bool.eq_iff_iff]; unfold evAs evSame spWide; simp only [Bool.and_eq_true, Bool.or_eq_true, Bool.not_eq_true', Bool.and_eq_false_iff, decide_eq_true_eq, decide_eq_false_iff_not, beq_iff_eq]
 by_cases h1 : k = 2
 · by_cases h2 : k' = 2
   · rw [if_pos h1, if_pos h2]; simp only [Prod.mk.injEq, true_and]
     constructor
     · rintro ⟨⟨a, b, c⟩, _⟩; exact ⟨⟨⟨a, c⟩, b⟩, .inl (h1.trans h2.symm)⟩
     · rintro ⟨⟨⟨a, c⟩, b⟩, _⟩; exact ⟨⟨a, b, c⟩, .inl (by omega)⟩
   · rw [if_pos h1, if_neg h2]; simp only [Prod.mk.injEq, true_and]
     constructor
     · rintro ⟨⟨a, ⟨e, b⟩, c⟩, _⟩; exact ⟨⟨⟨a, c⟩, b⟩, .inr ⟨h1, e.symm⟩⟩
     · rintro ⟨⟨⟨a, c⟩, b⟩, e⟩; exact ⟨⟨a, ⟨by omega, b⟩, c⟩, .inl (by omega)⟩
 · by_cases h2 : k' = 2
   · rw [if_neg h1, if_pos h2]; simp only [Prod.mk.injEq, true_and]
     constructor
     · rintro ⟨⟨a, ⟨e, b⟩, c⟩, n⟩; omega
     · rintro ⟨⟨⟨a, c⟩, b⟩, e⟩; omega
   · rw [if_neg h1, if_neg h2]; simp only [Prod.mk.injEq, true_and]
     constructor
     · rintro ⟨⟨a, ⟨e, b⟩, c⟩, n⟩; exact ⟨⟨⟨a, c⟩, b⟩, .inl e⟩
     · rintro ⟨⟨⟨a, c⟩, b⟩, e⟩; exact ⟨⟨a, ⟨by omega, b⟩, c⟩, .inr h2⟩
theorem last_snoc (cs : List Co) (c : Co) : evLast (cs ++ [c]) = c.1 := by unfold evLast; simp
def evHad (a : List Co) (r : List Cl) (i : Nat) (id : Int) : Option Cl := match evAt (a.take i) id with
 | some k => some (r.getD k zCl)
 | none => none
theorem had_zero (a : List Co) (r : List Cl) (id : Int) : evHad a r 0 id = none := by unfold evHad; simp [evAt]
theorem had_step {a : List Co} (hu : IdsUp a) {r : List Cl} {i : Nat} {c : Co} (h : a[i]? = some c) (id : Int) : evHad a r (i + 1) id = if id = c.1 then some (r.getD i zCl) else evHad a r i id := by
 have hut : IdsUp (a.take (i + 1)) := fun j q x y hq hx hy => by
  rw [List.getElem?_take] at hx hy
  split at hx
  · split at hy
    · exact hu j q x y hq hx hy
    · cases hy
  · cases hx
 have hl := (List.getElem?_eq_some_iff.1 h).1
 have hat : (a.take (i + 1))[i]? = some c := by rw [List.getElem?_take, if_pos (by omega)]; exact h
 unfold evHad
 by_cases e : id = c.1
 · rw [if_pos e, e, evAt_of hut hat]
 · rw [if_neg e]
   have : evAt (a.take (i + 1)) id = evAt (a.take i) id := by
    rw [List.take_add_one, h]; unfold evAt; rw [List.findIdx?_append]
    have hn : ([c] : List Co).findIdx? (fun c => decide (c.1 = id)) = none := by
     rw [List.findIdx?_eq_none_iff]
     intro x hx
     obtain rfl := List.mem_singleton.1 hx
     simpa using fun e' => e e'.symm
    simp only [Option.toList_some, hn, Option.map_none, Option.or_none]
   rw [this]
theorem had_all {a : List Co} {r : List Cl} (id : Int) : evHad a r a.length id = match evAt a id with
    | some k => some (r.getD k zCl)
    | none => none := by unfold evHad; rw [List.take_length]
end Go.Ms
set_option linter.unusedSimpArgs false
namespace Go.Ms
open Go.RowKit
variable {F : Fence} {n : Nat} {P : Program}
def Calm0 {β : Type} (base : Nat) (J : β → World → Prop) : Prop :=
  ∀ s A B row, J s A → A.grownBy B row → (∀ r, row = some r → base ≤ r ∧ ∃ o : Obj, A.heap[r]? = some o ∧ o.isCells = false) → J s B
def ReadSeq {α : Type} (F : Fence) (n : Nat) (P : Program) (g : Nat) (Bs : Nat) (encs : α → Array Value) (xs : List α) (R : World → Prop) : Prop :=
  ∀ (l : Nat) (J Jx : List α → World → Prop) (W : World), (∀ s A, J s A → R A) →
    (∀ s A B, J s A → A.grownBy B none → J s B) → (∀ s A B, Jx s A → A.grownBy B none → Jx s B) →
    (∀ pre x W1, J pre W1 → (pre ++ [x]) <+: xs → YieldAt F (n - 1) P l (encs x) W1 fun e W' =>
     (e = .returned (.bool true) ∧ J (pre ++ [x]) W') ∨ (e = .returned (.bool false) ∧ Jx (pre ++ [x]) W')) →
    J [] W →
    CallsIn F n P g #[.func (.yield l) #[] #[], .pointer (some ⟨Bs, 0, none⟩)] W fun e W' => (∃ v, e = .returned v) ∧ (J xs W' ∨ ∃ pre, Jx pre W')
def readPost {α : Type} (base : Nat) (I : List α → World → Prop) (Ix : Code → List α → World → Prop) (xs : List α) (W : World) : Exit → Act → World → Prop
  | .normal, _, W' => KeepsFrom base W W' ∧ I xs W'
  | .ret, _, W' => KeepsFrom base W W' ∧ Ix .ret xs W'
  | .exit id, _, W' => KeepsFrom base W W' ∧ Ix (.exit id) xs W'
  | .goto t, _, W' => KeepsFrom base W W' ∧ Ix (.goto t) xs W'
  | .panic _, _, _ => False
  | .outgrown, _, _ => False
theorem Calm0.turn {β : Type} {base : Nat} {J : β → World → Prop} (h : Calm0 base J) {s : β} {W : World} {l : Nat} {o : Obj} (o' : Obj) (hj : J s W) (hl : base ≤ l) (ho : W.heap[l]? = some o) (hc : o.isCells = false) : J s (W.putObj l o') :=
  h s _ _ (some l) hj (grownBy_putObj' W l o') (fun r e => by cases e; exact ⟨hl, o, ho, hc⟩)
theorem Calm0.new {β : Type} {base : Nat} {J : β → World → Prop} (h : Calm0 base J) {s : β} {W : World} (o : Obj) (hj : J s W) : J s (W.alloc o) :=
  h s _ _ none hj (World.grownBy_alloc W o none) (fun r e => by cases e)
end Go.Ms
set_option linter.unusedSimpArgs false
namespace Go.Ms
open Go.RowKit
variable {F : Fence} {n : Nat} {P : Program}
theorem wpIn_rangeFunc_read2 {α : Type} {g : Operand} {ps : Array Tmp} {assign body : Code} {Q : Exit → Act → World → Prop} {a : Act} {w : World}
    (hro : F.round = none) (h1 : 1 ≤ n) {gf : Nat} {Bs : Nat} {R : World → Prop} (hg : a.eval g = .func (.func gf) #[] #[.pointer (some ⟨Bs, 0, none⟩)]) (hFg : F.fn gf) (eg : ∀ args w, (callFunc gf args).run P w = .ok (.enter gf args) w)
    {encs : α → Array Value} {xs : List α} (hseq : ReadSeq F (n - 1) P gf Bs encs xs R) (hps : ∀ x, (encs x).size = ps.size)
    (I : List α → World → Prop) (I1 : α → List α → World → Prop) (Ix : Code → List α → World → Prop) (hR : ∀ s A, I s A → R A) (hI : Calm0 w.heap.size I) (hIa : ∀ x, Calm0 w.heap.size (I1 x)) (hIx : ∀ c, Calm0 w.heap.size (Ix c)) (h0 : I [] w) (a₁ : α → Act)
    (hassign : ∀ (l : Nat) (pre : List α) (x : α) (W : World) (K : Act → World → Prop), (pre ++ [x]) <+: xs → I pre W → (∀ W', KeepsFrom w.heap.size W W' → I1 x pre W' → K (a₁ x) W') →
      assign.wpIn (F.inRound l) (n - 1 - 1) P (Exit.then K (fun _ _ _ => False)) { tmps := (ps.zip (encs x)).foldl (fun t (p, v) => t.setIfInBounds p v) a.tmps, defers := [] } W)
    (hbody : ∀ (l : Nat) (pre : List α) (x : α) (W : World), (pre ++ [x]) <+: xs → I1 x pre W → body.wpIn (F.inRound l) (n - 1 - 1) P (readPost w.heap.size I Ix (pre ++ [x]) W) (a₁ x) W)
    (hdone : ∀ (D : Nat) (W : World), w.heap.size ≤ D → I xs W → W.heap[D]? = some (.deferred (some [])) → Q .normal { a with defers := { target := .collected D, args := #[] } :: a.defers } W)
    (hstop : ∀ (D : Nat) (c : Code) (pre : List α) (W : World), w.heap.size ≤ D → Ix c pre W → W.heap[D]? = some (.deferred (some [])) → c.wpIn F n P Q { a with defers := { target := .collected D, args := #[] } :: a.defers } W) :
    (Code.rangeFunc g ps assign body).wpIn F n P Q a w := by
 refine wpIn_rangeFunc fun fn hfn => ?_
 rw [hro]
 obtain ⟨rec, hrec⟩ : ∃ rec : LoopState → Option Code → Loop, rec = fun st pe => { state := st, pending := pe, fn, tmps := a.tmps, params := ps, assign, body, defers := w.heap.size } := ⟨_, rfl⟩
 obtain ⟨W1, hW1⟩ : ∃ W1, (w.alloc (.deferred (some []))).alloc (.loop (rec .ready none)) = W1 := ⟨_, rfl⟩
 have hL1 : W1.heap[w.heap.size + 1]? = some (.loop (rec .ready none)) := by
  rw [← hW1]; have := World.alloc_heap_new (w.alloc (.deferred (some []))) (.loop (rec .ready none)); rwa [World.size_alloc] at this
 have hK1 : W1.heap[w.heap.size]? = some (.deferred (some [])) := by
  rw [← hW1]; exact (Below.heap_alloc _ _ _ (by simp)).trans (World.alloc_heap_new w _)
 have hI1 : I [] W1 := by rw [← hW1]; exact hI.new _ (hI.new _ h0)
 refine ⟨w.heap.size + 1, [{ target := .collected w.heap.size, args := #[] }], W1, { target := .fn (.func gf) #[.pointer (some ⟨Bs, 0, none⟩)], args := #[.func (.yield (w.heap.size + 1)) #[] #[]] }, W1, gf,
   #[.func (.yield (w.heap.size + 1)) #[] #[], .pointer (some ⟨Bs, 0, none⟩)], W1, ?_, ?_, ?_, ?_, fun _ => h1, ?_⟩
 · rw [← hW1, hrec]; exact run_enterLoop_outer _ _ _ _ _
 · simp only [resolve, hg]
   simp [go_sem]
 · intro f' hf'; simp [Target.leads] at hf'; subst hf'; exact hFg
 · simp [invoke, go_sem, eg]
 · have hkeep : ∀ {A B : World} {k : Nat} {o : Obj}, A.grownBy B none → A.heap[k]? = some o → B.heap[k]? = some o :=
     fun hg' ho => (hg'.block _ (Array.getElem?_eq_some_iff.1 ho).1 (by simp)).trans ho
   refine (hseq (w.heap.size + 1)
     (fun pre W => I pre W ∧ W.heap[w.heap.size + 1]? = some (.loop (rec .ready none)) ∧ W.heap[w.heap.size]? = some (.deferred (some [])))
     (fun pre W => ∃ c, Ix c pre W ∧ W.heap[w.heap.size + 1]? = some (.loop (rec .done (some c))) ∧ W.heap[w.heap.size]? = some (.deferred (some [])))
     W1 (fun s A hs => hR s A hs.1)
     (fun s A B hs hg' => ⟨hI s A B none hs.1 hg' (fun r e => by cases e), hkeep hg' hs.2.1, hkeep hg' hs.2.2⟩)
     (fun s A B hs hg' => by
      obtain ⟨c, hc, hl, hk⟩ := hs
      exact ⟨c, hIx c s A B none hc hg' (fun r e => by cases e), hkeep hg' hl, hkeep hg' hk⟩)
     ?_ ⟨hI1, hL1, hK1⟩).mono ?_
   · rintro pre x W ⟨hi, hl, hk⟩ hx; have hlt : w.heap.size + 1 < W.heap.size := (Array.getElem?_eq_some_iff.1 hl).1; have hy := run_yield (P := P) (args := encs x) hl (by rw [hrec]; exact hps x); rw [hrec] at hy; refine ⟨fn, _, assign, body, hy, roundIn_of_wpIn hfn (hassign _ pre x W _ hx hi fun V hkV hi1 => ?_)⟩; have hlV := hkV.same _ _ (by omega) hl rfl; have hkV2 := hkV.same _ _ (Nat.le_refl _) hk rfl; have hltV : w.heap.size + 1 < V.heap.size := (Array.getElem?_eq_some_iff.1 hlV).1; refine ⟨_, run_beginRound hlV (by rw [hrec]), ?_⟩
     have hl2 : (V.putObj (w.heap.size + 1) (.loop { rec .ready none with state := .busy })).heap[w.heap.size + 1]? = some (.loop { rec .ready none with state := .busy }) := World.putObj_heap_same hltV; have hk2 : (V.putObj (w.heap.size + 1) (.loop { rec .ready none with state := .busy })).heap[w.heap.size]? = some (.deferred (some [])) := (World.putObj_heap_other (by omega)).trans hkV2; refine wpIn_mono (hbody _ pre x _ hx ((hIa x).turn _ hi1 (by omega) hlV rfl)) ?_
     have fin : ∀ (jump : Option Code) (W3 : World), KeepsFrom w.heap.size (V.putObj (w.heap.size + 1) (.loop { rec .ready none with state := .busy })) W3 →
         (Instr.endRound (w.heap.size + 1) jump).run P W3 = .ok (.bool jump.isNone) (W3.putObj (w.heap.size + 1) (.loop (rec (if jump.isNone then .ready else .done) jump))) ∧
         W3.heap[w.heap.size + 1]? = some (.loop { rec .ready none with state := .busy }) ∧
         (W3.putObj (w.heap.size + 1) (.loop (rec (if jump.isNone then .ready else .done) jump))).heap[w.heap.size + 1]? = some (.loop (rec (if jump.isNone then .ready else .done) jump)) ∧
         (W3.putObj (w.heap.size + 1) (.loop (rec (if jump.isNone then .ready else .done) jump))).heap[w.heap.size]? = some (.deferred (some [])) := fun jump W3 hk3 => by
       have hl3 := hk3.same _ _ (by omega) hl2 rfl; have := run_endRound (P := P) jump hl3; rw [hrec] at this ⊢; exact ⟨this, by rw [hrec] at hl3; exact hl3, World.putObj_heap_same (Array.getElem?_eq_some_iff.1 hl3).1, (World.putObj_heap_other (by omega)).trans (hk3.same _ _ (Nat.le_refl _) hk2 rfl)⟩
     rintro e a3 W3 hp
     cases e with
     | normal =>
      obtain ⟨hk3, hi3⟩ := hp; obtain ⟨hr, hl3, hl4, hk4⟩ := fin none W3 hk3; exact ⟨_, _, hr, .inl ⟨rfl, hI.turn _ hi3 (by omega) hl3 rfl, hl4, hk4⟩⟩
     | ret =>
      obtain ⟨hk3, hi3⟩ := hp; obtain ⟨hr, hl3, hl4, hk4⟩ := fin (some .ret) W3 hk3; exact ⟨_, _, hr, .inr ⟨rfl, .ret, (hIx _).turn _ hi3 (by omega) hl3 rfl, hl4, hk4⟩⟩
     | exit id =>
      obtain ⟨hk3, hi3⟩ := hp; obtain ⟨hr, hl3, hl4, hk4⟩ := fin (some (.exit id)) W3 hk3; exact ⟨_, _, hr, .inr ⟨rfl, .exit id, (hIx _).turn _ hi3 (by omega) hl3 rfl, hl4, hk4⟩⟩
     | goto t =>
      obtain ⟨hk3, hi3⟩ := hp; obtain ⟨hr, hl3, hl4, hk4⟩ := fin (some (.goto t)) W3 hk3; exact ⟨_, _, hr, .inr ⟨rfl, .goto t, (hIx _).turn _ hi3 (by omega) hl3 rfl, hl4, hk4⟩⟩
     | panic ch => exact hp.elim
     | outgrown => exact hp.elim
   · rintro e W2 ⟨⟨v, rfl⟩, (⟨hi, hl, hk⟩ | ⟨pre, c, hi, hl, hk⟩)⟩
     · exact ⟨none, _, by have := run_endLoop (P := P) hl (by rw [hrec]; simp); rw [hrec] at this; exact this, hdone _ _ (Nat.le_refl _) (hI.turn _ hi (by omega) hl rfl) ((World.putObj_heap_other (by omega)).trans hk)⟩
     · exact ⟨some c, _, by have := run_endLoop (P := P) hl (by rw [hrec]; simp); rw [hrec] at this; exact this, hstop _ c pre _ (Nat.le_refl _) ((hIx c).turn _ hi (by omega) hl rfl) ((World.putObj_heap_other (by omega)).trans hk)⟩
end Go.Ms
