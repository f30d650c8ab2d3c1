/- Schemas, plainly: a kind's word as the reference looks for it. Schemas of a seed, plainly. Schemas, plainly: what may be is read of its text as it was. Schemas of a seed, plainly: their texts are short, and have a line feed for each column. Seeds of schemas: an argument's list of fives, read as such. Schemas, plainly: one thing wrong; a column left out. -/
import Derived.Test.YthlinmkengoliaaGreatDoorZSx
import Derived.Test.YthlinmkengoliaaGreatDoorZSa0
import Derived.Test.YthlinmkengoliaaGreatDoorZA
import Derived.Lib.ItoaMem
import Derived.Lib.ItoaLen
import Derived.Test.YthlinmkengoliaaGreatDoorZSw
set_option linter.unusedVariables false
set_option linter.unusedSimpArgs false
namespace Go.Ms
open Go.RowKit Go.Lib
def moreOk (m : Bs) : Bool := decide (m = []) || decide (m = [63]) || decide (m = [42]) || decide (m = [63, 42])
def moreNull (m : Bs) : Bool := decide (m = [63]) || decide (m = [63, 42])
def moreKey (m : Bs) : Bool := decide (m = [42]) || decide (m = [63, 42])
def rkHit (K : Bs) (k : Nat) : Bool := decide ((wordOf k).length ≤ K.length) && decide (K.take (wordOf k).length = wordOf k) && moreOk (K.drop (wordOf k).length)
def rkGo (K : Bs) : Nat → (Int × Bool) × Bool
  | 0 => ((0, false), false)
  | n + 1 => if rkHit K (n + 1) = true then ((((n + 1 : Nat) : Int), moreNull (K.drop (wordOf (n + 1 : Nat)).length)), moreKey (K.drop (wordOf (n + 1 : Nat)).length)) else rkGo K n
theorem word_no {k : Nat} (h1 : 1 ≤ k) (h2 : k ≤ 5) : (42 : UInt8) ∉ wordOf k ∧ (63 : UInt8) ∉ wordOf k ∧ kindOf (wordOf k) = k := by
 match k, h1, h2 with
 | 1, _, _ => decide
 | 2, _, _ => decide
 | 3, _, _ => decide
 | 4, _, _ => decide
 | 5, _, _ => decide
theorem strip_word {k : Nat} (h1 : 1 ≤ k) (h2 : k ≤ 5) {m : Bs} (hm : moreOk m = true) :
    kindOf (stripB 63 (stripB 42 (wordOf k ++ m)).1).1 = k ∧ (stripB 63 (stripB 42 (wordOf k ++ m)).1).2 = moreNull m ∧ (stripB 42 (wordOf k ++ m)).2 = moreKey m := by
 obtain ⟨a, b, c⟩ := word_no h1 h2; unfold moreOk at hm; simp only [Bool.or_eq_true, decide_eq_true_eq] at hm
 rcases hm with ((rfl | rfl) | rfl) | rfl
 · rw [List.append_nil, strip_not a, strip_not b]; exact ⟨c, rfl, rfl⟩
 · have h4 : (42 : UInt8) ∉ wordOf k ++ [63] := by simp [a]
   rw [strip_not h4, strip_app]; exact ⟨c, rfl, rfl⟩
 · rw [strip_app, strip_not b]; exact ⟨c, rfl, rfl⟩
 · rw [show wordOf k ++ [63, 42] = (wordOf k ++ [63]) ++ [42] by simp, strip_app, strip_app]; exact ⟨c, rfl, rfl⟩
theorem rkHit_iff {K : Bs} {k : Nat} : rkHit K k = true ↔ ∃ m, moreOk m = true ∧ K = wordOf k ++ m := by
 unfold rkHit; simp only [Bool.and_eq_true, decide_eq_true_eq]
 constructor
 · rintro ⟨⟨_, h⟩, hm⟩; exact ⟨_, hm, (List.take_append_drop (wordOf k).length K).symm.trans (by rw [h])⟩
 · rintro ⟨m, hm, rfl⟩
   simp [hm]
def rkD (K : Bs) : (Int × Bool) × Bool := if 1 ≤ kindOf (stripB 63 (stripB 42 K).1).1 then ((kindOf (stripB 63 (stripB 42 K).1).1, (stripB 63 (stripB 42 K).1).2), (stripB 42 K).2) else ((0, false), false)
theorem rk_none {K : Bs} : ∀ n, n ≤ 5 → (∀ k : Nat, 1 ≤ k → k ≤ n → rkHit K k = false) → rkGo K n = ((0, false), false)
  | 0, _, _ => rfl
  | n + 1, hn, h => by
   show (if rkHit K (n + 1) = true then _ else rkGo K n) = _
   rw [h (n + 1) (by omega) (by omega), if_neg (by simp)]
   exact rk_none n (by omega) fun k a b => h k a (by omega)
theorem rk_some {K : Bs} {k : Nat} (h1 : 1 ≤ k) (hk : rkHit K k = true) : ∀ n, k ≤ n → n ≤ 5 → (∀ j : Nat, k < j → j ≤ n → rkHit K j = false) → rkGo K n = (((k : Int), moreNull (K.drop (wordOf k).length)), moreKey (K.drop (wordOf k).length))
  | 0, h, _, _ => absurd h (by omega)
  | n + 1, h, hn, hj => by
   show (if rkHit K (n + 1) = true then ((((n + 1 : Nat) : Int), moreNull (K.drop (wordOf (n + 1 : Nat)).length)), moreKey (K.drop (wordOf (n + 1 : Nat)).length)) else rkGo K n) = _
   by_cases e : k = n + 1
   · subst e; rw [hk, if_pos rfl]
   · rw [hj (n + 1) (by omega) (by omega), if_neg (by simp)]
     exact rk_some h1 hk n (by omega) (by omega) fun j a b => hj j a (by omega)
theorem rk_eq (K : Bs) : rkGo K 5 = rkD K := by
 unfold rkD
 have hone : ∀ j : Nat, 1 ≤ j → j ≤ 5 → rkHit K j = true → kindOf (stripB 63 (stripB 42 K).1).1 = j := by
  intro j h1 h2 h
  obtain ⟨m, hm, rfl⟩ := rkHit_iff.1 h; exact (strip_word h1 h2 hm).1
 by_cases hk : 1 ≤ kindOf (stripB 63 (stripB 42 K).1).1
 · rw [if_pos hk]; obtain ⟨k, hkk⟩ : ∃ k : Nat, kindOf (stripB 63 (stripB 42 K).1).1 = k := ⟨(kindOf (stripB 63 (stripB 42 K).1).1).toNat, by omega⟩
   have h5 : k ≤ 5 := by rcases kindOf_bd (stripB 63 (stripB 42 K).1).1 with e | e <;> omega
   have hw := kindOf_word hk; rw [hkk] at hw; have s1 := strip_back 42 K; have s2 := strip_back 63 (stripB 42 K).1
   obtain ⟨m, hm, hK⟩ : ∃ m, moreOk m = true ∧ K = wordOf k ++ m := by
    refine ⟨(if (stripB 63 (stripB 42 K).1).2 = true then [63] else []) ++ (if (stripB 42 K).2 = true then [42] else []), ?_, ?_⟩
    · cases (stripB 63 (stripB 42 K).1).2 <;> cases (stripB 42 K).2 <;> decide
    · rw [hw, ← List.append_assoc, s2, s1]
   have hhit : rkHit K k = true := rkHit_iff.2 ⟨m, hm, hK⟩
   rw [rk_some (by omega) hhit 5 h5 (Nat.le_refl _) (fun j a b => by
    cases h : rkHit K j with
    | false => rfl
    | true => have := hone j (by omega) b h; omega)]
   obtain ⟨e1, e2, e3⟩ := strip_word (k := k) (by omega) h5 hm; rw [← hK] at e1 e2 e3
   have hd : K.drop (wordOf k).length = m := by rw [hK]; simp
   rw [hd, e1, e2, e3]
 · rw [if_neg hk]
   refine rk_none 5 (Nat.le_refl _) fun k h1 h2 => ?_
   cases h : rkHit K k with
   | false => rfl
   | true => have := hone k h1 h2 h; omega
theorem coRead_rk (a b k t : Bs) : coRead a b k t = if isNm b = true ∧ 0 ≤ idOf a ∧ (kReadD (rkD k).1.1 (rkD k).1.2 t).2 = 0 then some ((idOf a, ⟨b.toArray⟩, (rkD k).1, unCl (kReadD (rkD k).1.1 (rkD k).1.2 t).1), (rkD k).2) else none := by
 unfold coRead rkD
 by_cases h : 1 ≤ kindOf (stripB 63 (stripB 42 k).1).1
 · simp only [h, if_true, true_and]
 · have hz : (kReadD 0 false t).2 = 2 := by
     unfold kReadD; rw [if_neg (by decide)]
   simp only [h, if_false, false_and, and_false, hz]; rw [if_neg (by omega)]
end Go.Ms
set_option linter.unusedSimpArgs false
namespace Go.Ms
open Go.RowKit Go.Lib
abbrev Sd5 := Int × Int × Int × Int × Int
def sdInt (n : Int) : Int := if n = 0 then 0 else if n = 1 then 1 else if n = 2 then 2147483647 else if n = 3 then -2147483648 else 7
def sdStr (n : Int) : ByteArray := if n = 0 then ⟨#[]⟩ else if n = 1 then ⟨#[97, 32, 98]⟩ else if n = 2 then ⟨#[34, 10]⟩ else if n = 3 then ⟨#[195, 164]⟩ else ⟨#[110, 117, 108, 108]⟩
def sdByt (n : Int) : ByteArray := if n = 0 then ⟨#[]⟩ else if n = 1 then ⟨#[0, 255]⟩ else if n = 2 then ⟨#[120]⟩ else if n = 3 then ⟨#[32]⟩ else ⟨#[10]⟩
def sdNm (n : Int) : ByteArray := if n = 0 then ⟨#[97]⟩ else if n = 1 then ⟨#[105, 100]⟩ else if n = 2 then ⟨#[110, 95, 49]⟩ else if n = 3 then ⟨#[120, 57]⟩ else ⟨#[118, 97, 108, 117, 101]⟩
def sdDef0 (k n : Int) : Cl := if k = 1 then (false, n % 2, ⟨#[]⟩) else if k = 3 ∧ 2 < n then (false, -9223372036854775808, ⟨#[]⟩) else if k = 4 then (false, 0, sdStr n) else if k = 5 then (false, 0, sdByt n) else (false, sdInt n, ⟨#[]⟩)
def sdDef (k : Int) (u : Bool) (n : Int) : Cl := if u = true ∧ n = 0 then (true, 0, ⟨#[]⟩) else sdDef0 k n
def sdLet : ByteArray := ⟨#[97, 98, 99, 100, 101, 102, 103, 104, 105, 106, 107, 108, 109, 110, 111, 112]⟩
def sdCo (c : Sd5) (id : Int) (i : Nat) : Co :=
  (id + 1 + c.2.2.2.2 % 9, (sdNm (c.2.2.1 % 5) ++ ⟨#[95]⟩) ++ sdLet.extract i (i + 1), (1 + c.1 % 5, decide (c.2.1 % 3 = 0)), sdDef (1 + c.1 % 5) (decide (c.2.1 % 3 = 0)) (c.2.2.2.1 % 5))
def sdStep (q : Int) (s : List Co × List Int × Int) (c : Sd5) : List Co × List Int × Int :=
  (s.1 ++ [sdCo c s.2.2 s.1.length], (if (q / 2 ^ s.1.length) % 2 = 1 ∧ (sdCo c s.2.2 s.1.length).2.2.1.2 = false ∧ s.2.1.length < 8 then s.2.1 ++ [(s.1.length : Int)] else s.2.1), (sdCo c s.2.2 s.1.length).1)
def sdRun (q : Int) (l : List Sd5) : List Co × List Int × Int := l.foldl (sdStep q) ([], [], 0)
theorem sdRun_snoc (q : Int) (l : List Sd5) (c : Sd5) : sdRun q (l ++ [c]) = sdStep q (sdRun q l) c := by unfold sdRun; rw [List.foldl_append]; rfl
theorem snoc_ind {α : Type} {P : List α → Prop} (h0 : P []) (h1 : ∀ l c, P l → P (l ++ [c])) (l : List α) : P l := by
 have : ∀ m : List α, P m.reverse := fun m => by
  induction m with
  | nil => exact h0
  | cons a t ih => rw [List.reverse_cons]; exact h1 _ _ ih
 rw [← List.reverse_reverse l]; exact this _
theorem sdRun_len (q : Int) (l : List Sd5) : (sdRun q l).1.length = l.length := by
 induction l using snoc_ind with
 | h0 => rfl
 | h1 l c ih => rw [sdRun_snoc]; simp [sdStep, ih]
def sdOne : Co := (1, ⟨#[97]⟩, (1, false), (false, 0, ⟨#[]⟩))
def sdMade (l : List Sd5) (q : Int) : List Co × List Int :=
  if l = [] then ([sdOne], []) else ((sdRun (q % 65536) (l.take 16)).1, (sdRun (q % 65536) (l.take 16)).2.1)
theorem five_cases {n : Int} (h0 : 0 ≤ n) (h1 : n < 5) : n = 0 ∨ n = 1 ∨ n = 2 ∨ n = 3 ∨ n = 4 := by omega
theorem sdDef_ok (k n : Int) (u : Bool) (hk : 1 ≤ k ∧ k ≤ 5) (hn : 0 ≤ n ∧ n < 5) : cCheck (k, u) (sdDef k u n) = 0 := by
 have h1 : k = 1 ∨ k = 2 ∨ k = 3 ∨ k = 4 ∨ k = 5 := by omega
 have h2 := five_cases hn.1 hn.2
 rcases h1 with rfl | rfl | rfl | rfl | rfl <;> rcases h2 with rfl | rfl | rfl | rfl | rfl <;> cases u <;> decide +kernel
theorem sdNm_ok (n : Int) (i : Nat) (hn : 0 ≤ n ∧ n < 5) (hi : i < 16) : isNm ((sdNm n ++ ⟨#[95]⟩) ++ sdLet.extract i (i + 1)).data.toList = true := by
 have h2 := five_cases hn.1 hn.2
 have h3 : i = 0 ∨ i = 1 ∨ i = 2 ∨ i = 3 ∨ i = 4 ∨ i = 5 ∨ i = 6 ∨ i = 7 ∨ i = 8 ∨ i = 9 ∨ i = 10 ∨ i = 11 ∨ i = 12 ∨ i = 13 ∨ i = 14 ∨ i = 15 := by omega
 rcases h2 with rfl | rfl | rfl | rfl | rfl <;> rcases h3 with rfl | rfl | rfl | rfl | rfl | rfl | rfl | rfl | rfl | rfl | rfl | rfl | rfl | rfl | rfl | rfl <;> decide +kernel
theorem sdCo_ok (c : Sd5) (id : Int) (i : Nat) (hi : i < 16) : coOk (sdCo c id i) = true := by
 unfold coOk sdCo; simp only [Bool.and_eq_true, decide_eq_true_eq]; exact ⟨sdNm_ok _ i (by omega) hi, sdDef_ok _ _ _ (by omega) (by omega)⟩
theorem sdNm_last (n : Int) (i : Nat) (hn : 0 ≤ n ∧ n < 5) (hi : i < 16) : (((sdNm n ++ ⟨#[95]⟩) ++ sdLet.extract i (i + 1)).data.toList.getLast?.map UInt8.toNat) = some (97 + i) := by
 have h2 := five_cases hn.1 hn.2
 have h3 : i = 0 ∨ i = 1 ∨ i = 2 ∨ i = 3 ∨ i = 4 ∨ i = 5 ∨ i = 6 ∨ i = 7 ∨ i = 8 ∨ i = 9 ∨ i = 10 ∨ i = 11 ∨ i = 12 ∨ i = 13 ∨ i = 14 ∨ i = 15 := by omega
 rcases h2 with rfl | rfl | rfl | rfl | rfl <;> rcases h3 with rfl | rfl | rfl | rfl | rfl | rfl | rfl | rfl | rfl | rfl | rfl | rfl | rfl | rfl | rfl | rfl <;> decide +kernel
structure SdOk (cs : List Co) (ks : List Int) (id : Int) : Prop where
  co : ∀ (i : Nat) c, cs[i]? = some c → coOk c = true ∧ c.2.1.data.toList.getLast?.map UInt8.toNat = some (97 + i) ∧ 1 ≤ c.1 ∧ c.1 ≤ id
  idb : 0 ≤ id ∧ id ≤ 9 * cs.length
  up : ∀ (i : Nat) a b, cs[i]? = some a → cs[i + 1]? = some b → a.1 < b.1
  keys : ks.length ≤ 8
  kin : ∀ (i : Nat) k, ks[i]? = some k → 0 ≤ k ∧ k < cs.length
  kup : ∀ (i : Nat) a b, ks[i]? = some a → ks[i + 1]? = some b → a < b
  full : ∀ (i : Nat) k c, ks[i]? = some k → cs[k.toNat]? = some c → c.2.2.1.2 = false
theorem snoc_at {α : Type} {l : List α} {x y : α} {i : Nat} (h : (l ++ [x])[i]? = some y) : l[i]? = some y ∧ i < l.length ∨ i = l.length ∧ y = x := by
 by_cases hi : i < l.length
 · rw [List.getElem?_append_left hi] at h; exact .inl ⟨h, hi⟩
 · have hl := (List.getElem?_eq_some_iff.1 h).1; rw [List.length_append, List.length_singleton] at hl
   have e : i = l.length := by omega
   subst e
   simp at h
   exact .inr ⟨rfl, h.symm⟩
theorem SdOk.step {cs : List Co} {ks : List Int} {id : Int} (h : SdOk cs ks id) (q : Int) (c : Sd5) (hl : cs.length < 16) : SdOk (sdStep q (cs, ks, id) c).1 (sdStep q (cs, ks, id) c).2.1 (sdStep q (cs, ks, id) c).2.2 := by
 have hd := sdCo_ok c id cs.length hl; have hn : (sdCo c id cs.length).2.1.data.toList.getLast?.map UInt8.toNat = some (97 + cs.length) := sdNm_last _ _ (by omega) hl; have hi : (sdCo c id cs.length).1 = id + 1 + c.2.2.2.2 % 9 := rfl; have hb := h.idb; unfold sdStep
 simp only
 generalize sdCo c id cs.length = d at hd hn hi
 refine ⟨fun i x hx => ?_, ?_, fun i a b ha hb' => ?_, ?_, fun i k hk => ?_, fun i a b ha hb' => ?_, fun i k x hk hx => ?_⟩
 · rcases snoc_at hx with ⟨h1, _⟩ | ⟨rfl, rfl⟩
   · have := h.co i x h1; exact ⟨this.1, this.2.1, this.2.2.1, by omega⟩
   · exact ⟨hd, hn, by omega, Int.le_refl _⟩
 · rw [List.length_append, List.length_singleton]; omega
 · rcases snoc_at hb' with ⟨h1, h2⟩ | ⟨h1, rfl⟩
   · rw [List.getElem?_append_left (by omega)] at ha; exact h.up i a b ha h1
   · rw [List.getElem?_append_left (by omega)] at ha; have := (h.co i a ha).2.2.2; omega
 · split
   · rename_i e; rw [List.length_append, List.length_singleton]; omega
   · exact h.keys
 · rw [List.length_append, List.length_singleton]
   split at hk
   · rcases snoc_at hk with ⟨h1, _⟩ | ⟨_, rfl⟩
     · have := h.kin i k h1; omega
     · omega
   · have := h.kin i k hk; omega
 · split at ha
   · rename_i e
     rw [if_pos e] at hb'
     rcases snoc_at hb' with ⟨h1, h2⟩ | ⟨h1, rfl⟩
     · rw [List.getElem?_append_left (by omega)] at ha; exact h.kup i a b ha h1
     · rw [List.getElem?_append_left (by omega)] at ha; exact (h.kin i a ha).2
   · rename_i e
     rw [if_neg e] at hb'; exact h.kup i a b ha hb'
 · have hold : ∀ j, ks[j]? = some k → x.2.2.1.2 = false := fun j hj => by
     have hk' := h.kin j k hj
     rcases snoc_at hx with ⟨h1, _⟩ | ⟨h1, _⟩
     · exact h.full j k x hj h1
     · omega
   split at hk
   · rename_i e
     rcases snoc_at hk with ⟨h1, _⟩ | ⟨_, rfl⟩
     · exact hold i h1
     · rcases snoc_at hx with ⟨h1, h2⟩ | ⟨_, rfl⟩
       · simp at h2
       · exact e.2.1
   · exact hold i hk
theorem sdRun_ok (q : Int) (l : List Sd5) (hl : l.length ≤ 16) : SdOk (sdRun q l).1 (sdRun q l).2.1 (sdRun q l).2.2 := by
 induction l using snoc_ind with
 | h0 => exact ⟨by simp [sdRun], by simp [sdRun], by simp [sdRun], by simp [sdRun], by simp [sdRun], by simp [sdRun], by simp [sdRun]⟩
 | h1 l c ih =>
  rw [List.length_append, List.length_singleton] at hl; rw [sdRun_snoc]; exact (ih (by omega)).step q c (by rw [sdRun_len]; omega)
theorem SdOk.sc {cs : List Co} {ks : List Int} {id : Int} (h : SdOk cs ks id) (h1 : 1 ≤ cs.length) (h2 : cs.length ≤ 16) : ScOk cs ks := by
 refine ⟨fun i c hc => ?_, h1, by omega, fun i j a b hij ha hb e => ?_, fun i c hc => ?_, h.up, h.keys, h.kin, h.kup, h.full⟩
 · have := (h.co i c hc).1; unfold coOk at this
   simpa using this
 · have e1 := (h.co i a ha).2.1; have e2 := (h.co j b hb).2.1; rw [e, e2] at e1; simp only [Option.some.injEq] at e1; omega
 · have := h.co i c hc; have := h.idb; omega
theorem sdMade_ok (l : List Sd5) (q : Int) : ScOk (sdMade l q).1 (sdMade l q).2 := by
 unfold sdMade
 split
 · exact (scOk_iff _ _).1 (by decide +kernel)
 · rename_i hl
   have hz : 1 ≤ (l.take 16).length ∧ (l.take 16).length ≤ 16 := by
    have : l.length ≠ 0 := fun e => hl (List.eq_nil_of_length_eq_zero e)
    rw [List.length_take]; omega
   exact (sdRun_ok _ _ hz.2).sc (by rw [sdRun_len]; exact hz.1) (by rw [sdRun_len]; exact hz.2)
end Go.Ms
set_option linter.unusedSimpArgs false
namespace Go.Ms
open Go.RowKit Go.Lib
theorem qb_no : ∀ c : UInt8, (10 : UInt8) ∉ qb c := by
 have h : ∀ n : Fin 256, (10 : UInt8) ∉ qb (UInt8.ofNat n.val) := by decide +kernel
 intro c
 have := h ⟨c.toNat, c.toNat_lt⟩
 simpa using this
theorem hexb_no : ∀ c : UInt8, (10 : UInt8) ∉ hexb c := by
 have h : ∀ n : Fin 256, (10 : UInt8) ∉ hexb (UInt8.ofNat n.val) := by decide +kernel
 intro c
 have := h ⟨c.toNat, c.toNat_lt⟩
 simpa using this
theorem dec_bytes (u : Nat) : ∀ c ∈ decDigits u, 48 ≤ c.toNat ∧ c.toNat ≤ 57 := by
 induction u using Nat.strongRecOn with
 | ind u ih =>
  intro c hc
  rw [decDigits] at hc
  by_cases h : u < 10
  · rw [dif_pos h] at hc
    obtain rfl : c = UInt8.ofNat (48 + u) := by simpa using hc
    rw [UInt8.toNat_ofNat']; omega
  · rw [dif_neg h] at hc
    rcases List.mem_append.1 hc with h1 | h1
    · exact ih (u / 10) (by omega) c h1
    · obtain rfl : c = UInt8.ofNat (48 + u % 10) := by simpa using h1
      rw [UInt8.toNat_ofNat']; omega
theorem itoa_bytes (n : Int) : ∀ c ∈ itoa n, c.toNat = 45 ∨ 48 ≤ c.toNat ∧ c.toNat ≤ 57 := by
 intro c hc
 unfold itoa at hc
 split at hc
 · rcases List.mem_cons.1 hc with rfl | h
   · exact .inl rfl
   · exact .inr (dec_bytes _ c h)
 · exact .inr (dec_bytes _ c hc)
theorem itoa_no (n : Int) : (10 : UInt8) ∉ itoa n ∧ (32 : UInt8) ∉ itoa n :=
  ⟨fun h => by have := itoa_bytes n _ h; simp at this, fun h => by have := itoa_bytes n _ h; simp at this⟩
theorem name_no {s : Bs} (h : isNm s = true) : (10 : UInt8) ∉ s ∧ (32 : UInt8) ∉ s := by
 unfold isNm at h; simp only [Bool.and_eq_true] at h; have ha := List.all_eq_true.1 h.2; exact ⟨fun hc => absurd (ha _ hc) (by decide), fun hc => absurd (ha _ hc) (by decide)⟩
theorem kText_no (k : Int) (u n0 : Bool) (m : Int) (s : Bs) : (10 : UInt8) ∉ kTextD k u n0 m s := by
 unfold kTextD
 split
 · split
   · decide
   · unfold kText
     split
     · cases (m == 1) <;> decide
     · split
       · exact (itoa_no m).1
       · split
         · unfold kQuote
           split
           · unfold quoteD; simp only [List.mem_cons, List.mem_append, List.mem_flatMap, List.not_mem_nil, or_false, not_or, not_exists, not_and]; exact ⟨by decide, fun c _ => qb_no c, by decide⟩
           · simp
         · unfold hexD; simp only [List.mem_cons, List.mem_flatMap, not_or, not_exists, not_and]; exact ⟨by decide, fun c _ => hexb_no c⟩
 · simp
theorem word_bytes {k : Int} (h1 : 1 ≤ k) (h2 : k ≤ 5) : (42 : UInt8) ∉ wordOf k ∧ (63 : UInt8) ∉ wordOf k ∧ (10 : UInt8) ∉ wordOf k ∧ (32 : UInt8) ∉ wordOf k ∧ kindOf (wordOf k) = k := by
 have h : k = 1 ∨ k = 2 ∨ k = 3 ∨ k = 4 ∨ k = 5 := by omega
 rcases h with rfl | rfl | rfl | rfl | rfl <;> decide +kernel
theorem coRead_line {c : Co} (key : Bool) (h : coOk c = true) (h0 : 0 ≤ c.1) (h1 : c.1 ≤ 1048576) :
    coRead (itoa c.1) c.2.1.data.toList (wordOf c.2.2.1.1 ++ (if c.2.2.1.2 = true then [63] else []) ++ (if key = true then [42] else [])) (coText c) = some (c, key) := by
 unfold coOk at h; simp only [Bool.and_eq_true, decide_eq_true_eq] at h; obtain ⟨hn, hc⟩ := h; have hm := (check_zero hc).1; unfold kMay at hm; simp only [Bool.and_eq_true, decide_eq_true_eq] at hm; obtain ⟨i0, s0, ⟨k0, u0⟩, n0, m0, t0⟩ := c; simp only at hn hc hm h0 h1 ⊢; obtain ⟨w1, w2, -, -, w3⟩ := word_bytes hm.1 hm.2
 have hi : idOf (itoa i0) = i0 := by
  unfold idOf; rw [whole_itoa (by omega) (by omega), if_pos ⟨rfl, h0, h1⟩]
 have s1 : stripB 42 (wordOf k0 ++ (if u0 = true then [63] else []) ++ (if key = true then [42] else [])) = (wordOf k0 ++ (if u0 = true then [63] else []), key) := by
  cases key with
  | true => simp only [if_true]; exact strip_app 42 _
  | false =>
   simp only [Bool.false_eq_true, if_false, List.append_nil]; refine strip_not ?_; rw [List.mem_append]; rintro (h | h)
   · exact w1 h
   · cases u0 <;> simp at h
 have s2 : stripB 63 (wordOf k0 ++ (if u0 = true then [63] else [])) = (wordOf k0, u0) := by
  cases u0 with
  | true => simp only [if_true]; exact strip_app 63 _
  | false => simp only [Bool.false_eq_true, if_false, List.append_nil]; exact strip_not w2
 have hr := read_back hc; unfold coRead coText; simp only [s1, s2, w3, hi]; rw [hr]
 simp [hn, h0, hm.1, unCl]
theorem readCo_line {c : Co} (key : Bool) (h : coOk c = true) (h0 : 0 ≤ c.1) (h1 : c.1 ≤ 1048576) : readCo (coLine key c) = some (c, key) := by
 have hr := coRead_line key h h0 h1
 have hn : isNm c.2.1.data.toList = true ∧ 1 ≤ c.2.2.1.1 ∧ c.2.2.1.1 ≤ 5 := by
  unfold coOk at h; simp only [Bool.and_eq_true, decide_eq_true_eq] at h; have hm := (check_zero h.2).1; unfold kMay at hm; simp only [Bool.and_eq_true, decide_eq_true_eq] at hm; exact ⟨h.1, hm⟩
 obtain ⟨w1, w2, w3, w4, w5⟩ := word_bytes hn.2.1 hn.2.2
 have hk : (32 : UInt8) ∉ (wordOf c.2.2.1.1 ++ (if c.2.2.1.2 = true then [63] else []) ++ (if key = true then [42] else [])) := by
  rw [List.mem_append, List.mem_append]; rintro ((h | h) | h)
  · exact w4 h
  · split at h <;> simp at h
  · split at h <;> simp at h
 unfold readCo coLine; rw [cutAt_app (itoa_no _).2]
 simp only
 rw [cutAt_app (name_no hn.1).2]
 simp only
 rw [cutAt_app hk]; exact hr
theorem coLine_no {c : Co} (key : Bool) (h : coOk c = true) : (10 : UInt8) ∉ coLine key c := by
 unfold coOk at h; simp only [Bool.and_eq_true, decide_eq_true_eq] at h; have hm := (check_zero h.2).1; unfold kMay at hm; simp only [Bool.and_eq_true, decide_eq_true_eq] at hm; obtain ⟨w1, w2, w3, w4, w5⟩ := word_bytes hm.1 hm.2; unfold coLine coText; simp only [List.mem_append, List.mem_cons, not_or]
 refine ⟨(itoa_no _).1, by decide, (name_no h.1).1, by decide, ⟨⟨w3, ?_⟩, ?_⟩, by decide, kText_no _ _ _ _ _⟩ <;> split <;> decide
def scLs (ks : List Int) : Nat → List Co → List Bs
  | _, [] => []
  | i, c :: r => coLine (ks.contains (i : Int)) c :: scLs ks (i + 1) r
def keysFrom (ks : List Int) : Nat → Nat → List Int
  | _, 0 => []
  | i, m + 1 => (if ks.contains (i : Int) = true then [(i : Int)] else []) ++ keysFrom ks (i + 1) m
theorem splitNl_lines (ks : List Int) : ∀ (cs : List Co) (i : Nat), (∀ c ∈ cs, coOk c = true) → splitNl (scLines ks i cs) = (scLs ks i cs, [])
  | [], i, h => rfl
  | c :: r, i, h => by
   rw [scLines, splitNl_hit (coLine_no _ (h c (by simp))), splitNl_lines ks r (i + 1) fun d hd => h d (by simp [hd])]; rfl
theorem readAll_lines (ks : List Int) : ∀ (cs pre : List Co) (pk : List Int), (∀ c ∈ cs, coOk c = true ∧ 0 ≤ c.1 ∧ c.1 ≤ 1048576) →
    readAll pre pk (scLs ks pre.length cs) = (pre ++ cs, pk ++ keysFrom ks pre.length cs.length, true)
  | [], pre, pk, h => by simp [scLs, readAll, keysFrom]
  | c :: r, pre, pk, h => by
   have hc := h c (by simp); rw [scLs, readAll, readCo_line _ hc.1 hc.2.1 hc.2.2]
   have ih := readAll_lines ks r (pre ++ [c]) (if ks.contains (pre.length : Int) = true then pk ++ [(pre.length : Int)] else pk) fun d hd => h d (by simp [hd])
   rw [List.length_append, List.length_singleton] at ih
   simp only
   rw [ih, List.length_cons, keysFrom]
   split <;> simp
theorem keys_back (ks0 : List Int) : ∀ (m i : Nat) (pre ks : List Int), ks0 = pre ++ ks → (∀ k ∈ pre, k < (i : Int)) → risesL ks (i : Int) ((i : Int) + m - 1) = true → keysFrom ks0 i m = ks
  | 0, i, pre, ks, h, hp, hr => by
   cases ks with
   | nil => rfl
   | cons n r => rw [risesL] at hr; simp only [Bool.and_eq_true, decide_eq_true_eq] at hr; omega
  | m + 1, i, pre, ks, h, hp, hr => by
   have hnp : ∀ l : List Int, (∀ k ∈ l, (i : Int) + 1 ≤ k) → ks0 = pre ++ l → ks0.contains (i : Int) = false := fun l hl e => by
    rw [Bool.eq_false_iff, ne_eq, List.contains_iff_mem, e, List.mem_append]; rintro (h1 | h1)
    · have := hp _ h1; omega
    · have := hl _ h1; omega
   have he : ((i + 1 : Nat) : Int) + m - 1 = (i : Int) + (m + 1 : Nat) - 1 := by omega
   rw [keysFrom]
   cases ks with
   | nil =>
    rw [hnp [] (by simp) h]; simp only [Bool.false_eq_true, if_false, List.nil_append]; exact keys_back ks0 m (i + 1) pre [] h (fun k hk => by have := hp k hk; omega) rfl
   | cons n r =>
    have hr' := hr; rw [risesL] at hr; simp only [Bool.and_eq_true, decide_eq_true_eq] at hr
    by_cases hn : n = (i : Int)
    · subst hn
      have hc : ks0.contains (i : Int) = true := by rw [List.contains_iff_mem, h]; simp
      rw [hc, if_pos rfl, keys_back ks0 m (i + 1) (pre ++ [(i : Int)]) r (by rw [h]; simp) (fun k hk => by
       rcases List.mem_append.1 hk with h1 | h1
       · have := hp k h1; omega
       · have : k = (i : Int) := by simpa using h1
         omega) (by rw [he]; exact hr.2)]
      rfl
    · have hge : ∀ k ∈ n :: r, (i : Int) + 1 ≤ k := fun k hk => by
        rcases List.mem_cons.1 hk with rfl | h1
        · omega
        · obtain ⟨j, hj⟩ := List.getElem?_of_mem h1; have := ((rises_iff r (n + 1) _).1 hr.2).1 j k hj; omega
      rw [hnp _ hge h]; simp only [Bool.false_eq_true, if_false, List.nil_append]; refine keys_back ks0 m (i + 1) pre (n :: r) h (fun k hk => by have := hp k hk; omega) ?_; rw [he, risesL]; simp only [Bool.and_eq_true, decide_eq_true_eq]; exact ⟨⟨by omega, hr.1.2⟩, hr.2⟩
theorem text_parse {cs : List Co} {ks : List Int} (h : scOk cs ks = true) (hz : (scText cs ks).length ≤ 1048576) : parseD (scText cs ks) = (cs, ks, 0, 0) := by
 have hs := (scOk_iff cs ks).1 h
 have hco : ∀ c ∈ cs, coOk c = true ∧ 0 ≤ c.1 ∧ c.1 ≤ 1048576 := fun c hc => by
  obtain ⟨i, hi⟩ := List.getElem?_of_mem hc; have h1 := hs.co i c hi; have h2 := hs.id i c hi; refine ⟨?_, by omega, h2.2⟩; unfold coOk; simp only [Bool.and_eq_true, decide_eq_true_eq]; exact h1
 have he : scText cs ks = scLines ks 0 cs := by unfold scText; rw [if_pos h]
 have hk : risesL ks ((0 : Nat) : Int) (((0 : Nat) : Int) + cs.length - 1) = true := by
  rw [rises_iff]; exact ⟨fun i k hk => by have := hs.kin i k hk; omega, hs.kup⟩
 have hp : parseR (scText cs ks) = (cs, ks, true) := by
  unfold parseR; rw [he, splitNl_lines ks cs 0 fun c hc => (hco c hc).1]; have := readAll_lines ks cs [] [] hco; simp only [List.length_nil, List.nil_append] at this; simp only [this, keys_back ks cs.length 0 [] ks rfl (by simp) hk]
  simp
 unfold parseD; rw [if_neg (by omega), hp]
 simp [h]
end Go.Ms
set_option linter.unusedSimpArgs false
namespace Go.Ms
open Go.RowKit Go.Lib
theorem sd_text (k n : Int) (u : Bool) (hk : 1 ≤ k ∧ k ≤ 5) (hn : 0 ≤ n ∧ n < 5) : (kTextD k u (sdDef k u n).1 (sdDef k u n).2.1 (sdDef k u n).2.2.data.toList).length ≤ 30 := by
 have h1 : k = 1 ∨ k = 2 ∨ k = 3 ∨ k = 4 ∨ k = 5 := by omega
 have h2 := five_cases hn.1 hn.2
 rcases h1 with rfl | rfl | rfl | rfl | rfl <;> rcases h2 with rfl | rfl | rfl | rfl | rfl <;> cases u <;> decide +kernel
theorem sdCo_text (c : Sd5) (id : Int) (i : Nat) : (coText (sdCo c id i)).length ≤ 30 := sd_text (1 + c.1 % 5) (c.2.2.2.1 % 5) (decide (c.2.1 % 3 = 0)) (by omega) (by omega)
theorem sdRun_text (q : Int) (l : List Sd5) : ∀ c ∈ (sdRun q l).1, (coText c).length ≤ 30 := by
 induction l using snoc_ind with
 | h0 => intro c hc; simp [sdRun] at hc
 | h1 l c ih =>
  intro d hd
  rw [sdRun_snoc] at hd
  rcases List.mem_append.1 hd with h | h
  · exact ih d h
  · obtain rfl : d = _ := by simpa using h
    exact sdCo_text _ _ _
theorem sdMade_text (l : List Sd5) (q : Int) : ∀ c ∈ (sdMade l q).1, (coText c).length ≤ 30 := by
 unfold sdMade
 split
 · intro c hc
   obtain rfl : c = sdOne := by simpa using hc
   decide +kernel
 · exact sdRun_text _ _
theorem sdMade_len (l : List Sd5) (q : Int) : (sdMade l q).1.length ≤ 16 := by
 unfold sdMade
 split
 · simp
 · rw [sdRun_len, List.length_take]; omega
theorem word_len (k : Int) : (wordOf k).length ≤ 6 := by
 unfold wordOf
 split
 · decide
 · split
   · decide
   · split
     · decide
     · split
       · decide
       · split <;> decide
theorem coLine_len100 {c : Co} (key : Bool) (h : coOk c = true) (h0 : 0 ≤ c.1 ∧ c.1 ≤ 1048576) (h1 : (coText c).length ≤ 30) : (coLine key c).length ≤ 100 := by
 have hn : c.2.1.data.toList.length ≤ 32 := (coOk_small h).1; have hi := itoa_length_le c.1 (by omega) (by omega); have hw := word_len c.2.2.1.1
 have ha : (if c.2.2.1.2 = true then ([63] : Bs) else []).length ≤ 1 := by split <;> simp
 have hb : (if key = true then ([42] : Bs) else []).length ≤ 1 := by split <;> simp
 unfold coLine; simp only [List.length_append, List.length_cons] at hn ⊢; omega
theorem scLines_len (ks : List Int) : ∀ (cs : List Co) (i : Nat), (∀ c ∈ cs, coOk c = true ∧ (0 ≤ c.1 ∧ c.1 ≤ 1048576) ∧ (coText c).length ≤ 30) → (scLines ks i cs).length ≤ cs.length * 101
  | [], i, h => by simp [scLines]
  | c :: r, i, h => by
   have ih := scLines_len ks r (i + 1) fun d hd => h d (by simp [hd])
   have hc := h c (by simp); have hl := coLine_len100 (ks.contains (i : Int)) hc.1 hc.2.1 hc.2.2; rw [scLines, List.length_append, List.length_cons, List.length_cons]; omega
theorem sc_each {cs : List Co} {ks : List Int} (h : ScOk cs ks) : ∀ c ∈ cs, coOk c = true ∧ 0 ≤ c.1 ∧ c.1 ≤ 1048576 := fun c hc => by
 obtain ⟨i, hi⟩ := List.getElem?_of_mem hc; have h1 := h.co i c hi; have h2 := h.id i c hi; refine ⟨?_, by omega, h2.2⟩; unfold coOk; simp only [Bool.and_eq_true, decide_eq_true_eq]; exact h1
theorem scText_small (l : List Sd5) (q : Int) : (scText (sdMade l q).1 (sdMade l q).2).length ≤ 2000 := by
 have hs := sdMade_ok l q
 have := scLines_len (sdMade l q).2 (sdMade l q).1 0 fun c hc => ⟨(sc_each hs c hc).1, (sc_each hs c hc).2, sdMade_text l q c hc⟩
 have := sdMade_len l q; unfold scText; rw [if_pos ((scOk_iff _ _).2 hs)]; omega
theorem scLs_len (ks : List Int) : ∀ (cs : List Co) (i : Nat), (scLs ks i cs).length = cs.length
  | [], i => rfl
  | c :: r, i => by rw [scLs, List.length_cons, scLs_len ks r, List.length_cons]
theorem scText_count {cs : List Co} {ks : List Int} (h : ScOk cs ks) : (scText cs ks).count 10 = cs.length := by
 unfold scText; rw [if_pos ((scOk_iff _ _).2 h), ← splitNl_count, splitNl_lines ks cs 0 fun c hc => (sc_each h c hc).1]; exact scLs_len ks cs 0
theorem seed_back (l : List Sd5) (q : Int) : parseD (scText (sdMade l q).1 (sdMade l q).2) = ((sdMade l q).1, (sdMade l q).2, 0, 0) :=
  text_parse ((scOk_iff _ _).2 (sdMade_ok l q)) (by have := scText_small l q; omega)
theorem coFind_first {p : Co → Bool} {cs : List Co} {i : Nat} {c : Co} (hi : cs[i]? = some c) (hc : p c = true) (hj : ∀ (j : Nat) d, j < i → cs[j]? = some d → p d = false) : coFind p cs = (i, true) := by
 have h1 := (List.getElem?_eq_some_iff.1 hi); have h0 := h1.1
 have : cs.findIdx? p = some i := by
  rw [List.findIdx?_eq_some_iff_getElem]; refine ⟨h1.1, by rw [h1.2]; exact hc, fun j hji => ?_⟩; have := hj j _ hji (List.getElem?_eq_getElem (by omega))
  rw [this]; decide
 unfold coFind; rw [this]
theorem coFind_any (p : Co → Bool) (cs : List Co) : (coFind p cs).2 = cs.any p := by
 unfold coFind
 cases h : cs.findIdx? p with
 | none =>
  rw [List.findIdx?_eq_none_iff] at h
  simp only
  symm
  rw [List.any_eq_false]
  intro x hx
  rw [h x hx]; decide
 | some i =>
  rw [List.findIdx?_eq_some_iff_getElem] at h; obtain ⟨h1, h2, _⟩ := h
  simp only
  symm
  rw [List.any_eq_true]; exact ⟨_, List.getElem_mem h1, h2⟩
theorem ScOk.ids_rise {cs : List Co} {ks : List Int} (h : ScOk cs ks) : ∀ (j i : Nat) a b, i < j → cs[i]? = some a → cs[j]? = some b → a.1 < b.1
  | 0, i, a, b, hij, ha, hb => by omega
  | j + 1, i, a, b, hij, ha, hb => by
   by_cases e : i = j
   · subst e; exact h.up i a b ha hb
   · have hl := (List.getElem?_eq_some_iff.1 hb).1; have h1 := ids_rise h j i a _ (by omega) ha (List.getElem?_eq_getElem (by omega)); have h2 := h.up j _ b (List.getElem?_eq_getElem (by omega)) hb; omega
theorem find_id {cs : List Co} {ks : List Int} (h : ScOk cs ks) {i : Nat} {c : Co} (hi : cs[i]? = some c) : coFind (fun d => decide (d.1 = c.1)) cs = (i, true) :=
  coFind_first hi (by simp) fun j d hj hd => by have := h.ids_rise i j d c hj hd hi; simp; omega
theorem find_nm {cs : List Co} {ks : List Int} (h : ScOk cs ks) {i : Nat} {c : Co} (hi : cs[i]? = some c) : coFind (fun d => decide (d.2.1 = c.2.1)) cs = (i, true) :=
  coFind_first hi (by simp) fun j d hj hd => by have := h.apart j i d c hj hd hi; simpa using this
theorem any_snoc {p : Co → Bool} {cs : List Co} {k : Nat} {c : Co} (hc : cs[k]? = some c) : ((cs.take (k + 1)).any p) = ((cs.take k).any p || p c) := by
 rw [List.take_add_one, hc]
 simp
end Go.Ms
set_option linter.unusedSimpArgs false
namespace Go.Ms
open Go.RowKit Go.Lib
def sdV (c : Sd5) : List Value := [.int .i64 c.1, .int .i64 c.2.1, .int .i64 c.2.2.1, .int .i64 c.2.2.2.1, .int .i64 c.2.2.2.2]
theorem sdV_len (c : Sd5) : (sdV c).length = 5 := rfl
def SdIn (c : Sd5) : Prop := I64 c.1 ∧ I64 c.2.1 ∧ I64 c.2.2.1 ∧ I64 c.2.2.2.1 ∧ I64 c.2.2.2.2
def sdL (l : List Sd5) : List Value := l.flatMap sdV
theorem sdL_len (l : List Sd5) : (sdL l).length = l.length * 5 := by
 induction l with
 | nil => rfl
 | cons a t ih => show (sdV a ++ sdL t).length = _; rw [List.length_append, ih, List.length_cons, sdV_len]; omega
theorem sdL_at : ∀ (l : List Sd5) (i : Nat) (c : Sd5), l[i]? = some c → ∀ (j : Nat) u, (sdV c)[j]? = some u → (sdL l)[i * 5 + j]? = some u
  | [], i, c, h, _, _, _ => by simp at h
  | a :: t, 0, c, h, j, u, hu => by
   have h : a = c := by simpa using h
   subst h
   show (sdV a ++ sdL t)[0 * 5 + j]? = _
   rw [List.getElem?_append_left (by have := (List.getElem?_eq_some_iff.1 hu).1; omega), Nat.zero_mul, Nat.zero_add]; exact hu
  | a :: t, i + 1, c, h, j, u, hu => by
   have ih := sdL_at t i c (by simpa using h) j u hu
   show (sdV a ++ sdL t)[(i + 1) * 5 + j]? = _
   rw [List.getElem?_append_right (by rw [sdV_len]; omega), sdV_len, show (i + 1) * 5 + j - 5 = i * 5 + j by omega]; exact ih
end Go.Ms
namespace Go.Proofs.YthlinmkengoliaaGreatDoor
open Go.RowKit Go.Ms Go.Lib Go.ChangeShapes Go.WideShapes Go.Deep
section
variable {H : Type} {enc : TypeId × Value → H} {w : World} {base : Nat} {spare : Nat → Bool} {held : Bool}
theorem cells_five : Tryz.prog.cellsOf 61 = 5 := by kernel_rfl
set_option maxRecDepth 100000 in
theorem five_el {n : Nat} {cs' : List Value} {y : DataW H × List MemPlace} (h : DataW.trod enc Tryz.prog w base spare held n 61 cs' = some y) : ∃ x : Sd5, cs' = sdV x ∧ SdIn x := by
 obtain ⟨xs, n', _, _, hl, hxl, hf⟩ := DataW.trod_array Tryz.underlying61 h; rw [cells_five] at hl
 obtain ⟨c0, c1, c2, c3, c4, rfl⟩ : ∃ c0 c1 c2 c3 c4, cs' = [c0, c1, c2, c3, c4] := by
  match cs', hl with
  | [a, b, c, d, e], _ => exact ⟨a, b, c, d, e, rfl⟩
 obtain ⟨y0, y1, y2, y3, y4, rfl⟩ : ∃ c0 c1 c2 c3 c4, xs = [c0, c1, c2, c3, c4] := by
  match xs, hxl with
  | [a, b, c, d, e], _ => exact ⟨a, b, c, d, e, rfl⟩
 have k0 := hf 0 (by omega); have k1 := hf 1 (by omega); have k2 := hf 2 (by omega); have k3 := hf 3 (by omega); have k4 := hf 4 (by omega); rw [cells_int] at k0 k1 k2 k3 k4; obtain ⟨m0, e0, _, w0⟩ := DataW.trod_int Tryz.underlying3 (show DataW.trod enc Tryz.prog w base spare held n' 3 [c0] = some y0 from k0); obtain ⟨m1, e1, _, w1⟩ := DataW.trod_int Tryz.underlying3 (show DataW.trod enc Tryz.prog w base spare held n' 3 [c1] = some y1 from k1); obtain ⟨m2, e2, _, w2⟩ := DataW.trod_int Tryz.underlying3 (show DataW.trod enc Tryz.prog w base spare held n' 3 [c2] = some y2 from k2)
 obtain ⟨m3, e3, _, w3⟩ := DataW.trod_int Tryz.underlying3 (show DataW.trod enc Tryz.prog w base spare held n' 3 [c3] = some y3 from k3); obtain ⟨m4, e4, _, w4⟩ := DataW.trod_int Tryz.underlying3 (show DataW.trod enc Tryz.prog w base spare held n' 3 [c4] = some y4 from k4)
 obtain rfl : c0 = .int .i64 m0 := by simpa using e0
 obtain rfl : c1 = .int .i64 m1 := by simpa using e1
 obtain rfl : c2 = .int .i64 m2 := by simpa using e2
 obtain rfl : c3 = .int .i64 m3 := by simpa using e3
 obtain rfl : c4 = .int .i64 m4 := by simpa using e4
 exact ⟨(m0, m1, m2, m3, m4), rfl, I64.of w0, I64.of w1, I64.of w2, I64.of w3, I64.of w4⟩
end
end Go.Proofs.YthlinmkengoliaaGreatDoor
set_option linter.unusedSimpArgs false
namespace Go.Ms
open Go.RowKit Go.Lib
theorem not_ok {cs : List Co} {ks : List Int} (h : ¬ ScOk cs ks) : scOk cs ks = false := by
 rw [Bool.eq_false_iff]
 exact fun e => h ((scOk_iff cs ks).1 e)
theorem bad_check {cs : List Co} {ks : List Int} (h : ¬ ScOk cs ks) : scCheck cs ks = 2 ∧ scText cs ks = [] := by
 unfold scCheck scText; rw [not_ok h]
 simp
theorem set_get {cs : List Co} {k : Nat} {c c' : Co} (hk : cs[k]? = some c) : (cs.set k c')[k]? = some c' := by
 have := (List.getElem?_eq_some_iff.1 hk).1
 simp [this]
theorem bad_co {cs : List Co} {ks : List Int} {k : Nat} {c c' : Co} (hk : cs[k]? = some c) (h : ¬ (isNm c'.2.1.data.toList = true ∧ cCheck c'.2.2.1 c'.2.2.2 = 0)) : ¬ ScOk (cs.set k c') ks := fun s => h (s.co k c' (set_get hk))
theorem bad_id {cs : List Co} {ks : List Int} {k : Nat} {c c' : Co} (hk : cs[k]? = some c) (h : ¬ (1 ≤ c'.1 ∧ c'.1 ≤ 1048576)) : ¬ ScOk (cs.set k c') ks := fun s => h (s.id k c' (set_get hk))
theorem bad_ids {cs : List Co} {ks : List Int} {k j : Nat} {c c' d : Co} (hk : cs[k]? = some c) (hj : cs[j]? = some d) (hn : j ≠ k) (h : c'.1 = d.1) : ¬ ScOk (cs.set k c') ks := fun s => by
 have h1 : (cs.set k c')[j]? = some d := by rw [List.getElem?_set_ne (fun e => hn e.symm)]; exact hj
 have h2 := set_get (c' := c') hk
 rcases Nat.lt_or_ge j k with hlt | hge
 · have := s.ids_rise k j d c' hlt h1 h2; omega
 · have := s.ids_rise j k c' d (by omega) h2 h1; omega
theorem bad_nms {cs : List Co} {ks : List Int} {k j : Nat} {c c' d : Co} (hk : cs[k]? = some c) (hj : cs[j]? = some d) (hn : j ≠ k) (h : c'.2.1 = d.2.1) : ¬ ScOk (cs.set k c') ks := fun s => by
 have h1 : (cs.set k c')[j]? = some d := by rw [List.getElem?_set_ne (fun e => hn e.symm)]; exact hj
 have h2 := set_get (c' := c') hk
 rcases Nat.lt_or_ge j k with hlt | hge
 · exact s.apart j k d c' hlt h1 h2 h.symm
 · exact s.apart k j c' d (by omega) h2 h1 h
theorem bad_last {cs : List Co} {ks : List Int} : ¬ ScOk cs (ks ++ [(cs.length : Int)]) := fun s => by
 have := s.kin ks.length (cs.length : Int) (by simp); omega
theorem bad_first {cs : List Co} {ks : List Int} : ¬ ScOk cs (-1 :: ks) := fun s => by
 have := s.kin 0 (-1) rfl; omega
theorem bad_twice {cs : List Co} {k : Int} : ¬ ScOk cs [k, k] := fun s => by
 have := s.kup 0 k k rfl rfl; omega
theorem bad_null {cs : List Co} {k : Nat} {c c' : Co} (hk : cs[k]? = some c) (h : c'.2.2.1.2 = true) : ¬ ScOk (cs.set k c') [(k : Int)] := fun s => by
 have := s.full 0 (k : Int) c' rfl (by rw [Int.toNat_natCast]; exact set_get hk); rw [h] at this
 cases this
theorem bad_none {ks : List Int} : ¬ ScOk [] ks := fun s => by have := s.one; simp at this
theorem bad_nm {cs : List Co} {ks : List Int} {k : Nat} {c c' : Co} (hk : cs[k]? = some c) (h : isNm c'.2.1.data.toList = false) : ¬ ScOk (cs.set k c') ks := bad_co hk fun e => by rw [h] at e; cases e.1
theorem bad_kind {cs : List Co} {ks : List Int} {k : Nat} {c c' : Co} (hk : cs[k]? = some c) (h : ¬ (1 ≤ c'.2.2.1.1 ∧ c'.2.2.1.1 ≤ 5)) : ¬ ScOk (cs.set k c') ks := bad_co hk fun e => by
 have hm := (check_zero e.2).1; unfold kMay at hm; simp only [Bool.and_eq_true, decide_eq_true_eq] at hm; exact h hm
theorem five_x (t : Ty) : cCheck t (false, 5, ⟨#[120]⟩) ≠ 0 := fun h => by
 have h2 := check_zero h; have hm := h2.1; unfold kMay at hm; simp only [Bool.and_eq_true, decide_eq_true_eq] at hm; obtain ⟨k, u⟩ := t; simp only at hm
 have : k = 1 ∨ k = 2 ∨ k = 3 ∨ k = 4 ∨ k = 5 := by omega
 revert h
 rcases this with rfl | rfl | rfl | rfl | rfl <;> cases u <;> decide +kernel
theorem null_no (k : Int) : cCheck (k, false) (true, 0, ⟨#[]⟩) ≠ 0 := fun h => by
 have h2 := check_zero h; have hm := h2.1; unfold kMay at hm; simp only [Bool.and_eq_true, decide_eq_true_eq] at hm
 have : k = 1 ∨ k = 2 ∨ k = 3 ∨ k = 4 ∨ k = 5 := by omega
 revert h
 rcases this with rfl | rfl | rfl | rfl | rfl <;> decide +kernel
def keysBut (ks : List Int) (k : Nat) : List Int := ks.flatMap fun x => if x < (k : Int) then [x] else if (k : Int) < x then [x - 1] else []
theorem but_snoc (ks : List Int) (x : Int) (k : Nat) : keysBut (ks ++ [x]) k = keysBut ks k ++ (if x < (k : Int) then [x] else if (k : Int) < x then [x - 1] else []) := by
 unfold keysBut; rw [List.flatMap_append]
 simp
theorem but_mem {ks : List Int} {k : Nat} {y : Int} : y ∈ keysBut ks k ↔ (y < k ∧ y ∈ ks) ∨ ((k : Int) ≤ y ∧ y + 1 ∈ ks) := by
 unfold keysBut; rw [List.mem_flatMap]
 constructor
 · rintro ⟨x, hx, hy⟩
   split at hy
   · have : y = x := by simpa using hy
     subst this; exact .inl ⟨by assumption, hx⟩
   · split at hy
     · have : y = x - 1 := by simpa using hy
       subst this; refine .inr ⟨by omega, ?_⟩
       rw [show x - 1 + 1 = x by omega]; exact hx
     · simp at hy
 · rintro (⟨h1, h2⟩ | ⟨h1, h2⟩)
   · exact ⟨y, h2, by rw [if_pos h1]; simp⟩
   · refine ⟨y + 1, h2, ?_⟩; rw [if_neg (by omega), if_pos (by omega)]
     simp
theorem kup_pair {ks : List Int} (h : ∀ (i : Nat) a b, ks[i]? = some a → ks[i + 1]? = some b → a < b) : ks.Pairwise (· < ·) := by
 induction ks with
 | nil => exact List.Pairwise.nil
 | cons a t ih =>
  have iht := ih fun i x y hx hy => h (i + 1) x y (by simpa using hx) (by simpa using hy)
  refine List.pairwise_cons.2 ⟨?_, iht⟩
  cases t with
  | nil => simp
  | cons b r =>
   have hab := h 0 a b rfl rfl
   intro y hy
   rcases List.mem_cons.1 hy with rfl | hy
   · exact hab
   · have := (List.pairwise_cons.1 iht).1 y hy; omega
theorem pair_kup {ks : List Int} (h : ks.Pairwise (· < ·)) : ∀ (i : Nat) a b, ks[i]? = some a → ks[i + 1]? = some b → a < b := by
 intro i a b ha hb
 rw [List.pairwise_iff_getElem] at h; obtain ⟨h1, e1⟩ := List.getElem?_eq_some_iff.1 ha; obtain ⟨h2, e2⟩ := List.getElem?_eq_some_iff.1 hb; have := h i (i + 1) h1 h2 (by omega); rw [e1, e2] at this; exact this
theorem but_pair {ks : List Int} (k : Nat) (h : ks.Pairwise (· < ·)) : (keysBut ks k).Pairwise (· < ·) := by
 induction ks with
 | nil => exact List.Pairwise.nil
 | cons a t ih =>
  obtain ⟨h1, h2⟩ := List.pairwise_cons.1 h; have e : keysBut (a :: t) k = (if a < (k : Int) then [a] else if (k : Int) < a then [a - 1] else []) ++ keysBut t k := rfl; rw [e, List.pairwise_append]; refine ⟨?_, ih h2, ?_⟩
  · split
    · simp
    · split <;> simp
  · intro x hx y hy
    have hy' := but_mem.1 hy
    split at hx
    · have : x = a := by simpa using hx
      subst this
      rcases hy' with ⟨_, h3⟩ | ⟨_, h3⟩
      · exact h1 _ h3
      · have := h1 _ h3; omega
    · split at hx
      · have : x = a - 1 := by simpa using hx
        subst this
        rcases hy' with ⟨_, h3⟩ | ⟨_, h3⟩
        · have := h1 _ h3; omega
        · have := h1 _ h3; omega
      · simp at hx
theorem but_len (ks : List Int) (k : Nat) : (keysBut ks k).length ≤ ks.length := by
 induction ks with
 | nil => simp [keysBut]
 | cons a t ih =>
  have e : keysBut (a :: t) k = (if a < (k : Int) then [a] else if (k : Int) < a then [a - 1] else []) ++ keysBut t k := rfl; rw [e, List.length_append, List.length_cons]
  split
  · simp; omega
  · split <;> simp <;> omega
theorem erase_at {cs : List Co} {k i : Nat} {c : Co} (h : (cs.eraseIdx k)[i]? = some c) : i < k ∧ cs[i]? = some c ∨ k ≤ i ∧ cs[i + 1]? = some c := by
 rw [List.getElem?_eraseIdx] at h
 split at h
 · exact .inl ⟨by assumption, h⟩
 · exact .inr ⟨by omega, h⟩
theorem but_ok {cs : List Co} {ks : List Int} {k : Nat} (h : ScOk cs ks) (hk : k < cs.length) (h2 : 2 ≤ cs.length) : ScOk (cs.eraseIdx k) (keysBut ks k) := by
 have hl : (cs.eraseIdx k).length = cs.length - 1 := by rw [List.length_eraseIdx]; simp [hk]
 refine ⟨fun i c hc => ?_, by omega, by have := h.most; omega, fun i j a b hij ha hb => ?_, fun i c hc => ?_, fun i a b ha hb => ?_, by have := but_len ks k; have := h.keys; omega, fun i x hx => ?_, ?_, fun i x c hx hc => ?_⟩
 · rcases erase_at hc with ⟨_, h1⟩ | ⟨_, h1⟩ <;> exact h.co _ c h1
 · rcases erase_at ha with ⟨_, h1⟩ | ⟨_, h1⟩ <;> rcases erase_at hb with ⟨_, h3⟩ | ⟨_, h3⟩ <;> exact h.apart _ _ a b (by omega) h1 h3
 · rcases erase_at hc with ⟨_, h1⟩ | ⟨_, h1⟩ <;> exact h.id _ c h1
 · rcases erase_at ha with ⟨_, h1⟩ | ⟨_, h1⟩ <;> rcases erase_at hb with ⟨_, h3⟩ | ⟨_, h3⟩ <;> exact h.ids_rise _ _ a b (by omega) h1 h3
 · have hm := but_mem.1 (List.mem_of_getElem? hx)
   rcases hm with ⟨h1, h3⟩ | ⟨h1, h3⟩ <;> obtain ⟨j, hj⟩ := List.getElem?_of_mem h3 <;> have := h.kin j _ hj <;> omega
 · exact pair_kup (but_pair k (kup_pair h.kup))
 · have hm := but_mem.1 (List.mem_of_getElem? hx)
   rcases hm with ⟨h1, h3⟩ | ⟨h1, h3⟩ <;> obtain ⟨j, hj⟩ := List.getElem?_of_mem h3 <;> have h4 := h.kin j _ hj
   · rcases erase_at hc with ⟨h5, h6⟩ | ⟨h5, h6⟩
     · exact h.full j x c hj h6
     · omega
   · rcases erase_at hc with ⟨h5, h6⟩ | ⟨h5, h6⟩
     · omega
     · refine h.full j (x + 1) c hj ?_
       rw [show (x + 1).toNat = x.toNat + 1 by omega]; exact h6
theorem lines_shift {ks ls : List Int} (d : Nat) : ∀ (cs : List Co) (i : Nat), (∀ j : Nat, i ≤ j → ls.contains (j : Int) = ks.contains ((j + d : Nat) : Int)) → scLines ls i cs = scLines ks (i + d) cs
  | [], i, h => rfl
  | c :: r, i, h => by
   rw [scLines, scLines, h i (Nat.le_refl _), lines_shift d r (i + 1) fun j hj => h j (by omega), show i + 1 + d = i + d + 1 by omega]
theorem but_contains {ks : List Int} {k : Nat} (j : Nat) : (keysBut ks k).contains (j : Int) = ks.contains ((if j < k then j else j + 1 : Nat) : Int) := by
 rw [Bool.eq_iff_iff, List.contains_iff_mem, List.contains_iff_mem, but_mem]
 split
 · constructor
   · rintro (⟨_, h⟩ | ⟨_, h⟩)
     · exact h
     · omega
   · intro h; exact .inl ⟨by omega, h⟩
 · constructor
   · rintro (⟨_, h⟩ | ⟨_, h⟩)
     · omega
     · have e : ((j + 1 : Nat) : Int) = (j : Int) + 1 := by omega
       rw [e]; exact h
   · intro h
     refine .inr ⟨by omega, ?_⟩
     have e : ((j + 1 : Nat) : Int) = (j : Int) + 1 := by omega
     rwa [e] at h
def linesBut (ks : List Int) (k : Nat) : Nat → List Co → Bs
  | _, [] => []
  | i, c :: r => (if i = k then [] else coLine (ks.contains (i : Int)) c ++ [10]) ++ linesBut ks k (i + 1) r
theorem lines_but (ks : List Int) : ∀ (cs : List Co) (i k : Nat), linesBut ks (i + k) i cs = scLines (keysBut ks (i + k)) i (cs.eraseIdx k)
  | [], i, k => rfl
  | c :: r, i, 0 => by
   rw [linesBut, if_pos (Nat.add_zero i).symm, List.nil_append, List.eraseIdx_cons_zero]
   have h1 : ∀ (r : List Co) (j : Nat), i < j → linesBut ks (i + 0) j r = scLines ks j r := fun r => by
    induction r with
    | nil => intro j hj; rfl
    | cons a t ih =>
     intro j hj
     rw [linesBut, if_neg (by omega), ih (j + 1) (by omega), scLines]
     simp
   rw [h1 r (i + 1) (by omega)]; exact (lines_shift 1 r i fun j hj => by rw [but_contains, if_neg (by omega)]).symm
  | c :: r, i, k + 1 => by
   have ih := lines_but ks r (i + 1) k; rw [show i + 1 + k = i + (k + 1) by omega] at ih; rw [linesBut, if_neg (by omega), ih, List.eraseIdx_cons_succ, scLines, but_contains, if_pos (by omega)]
   simp
theorem but_text {cs : List Co} {ks : List Int} {k : Nat} (h : ScOk cs ks) (hk : k < cs.length) (h2 : 2 ≤ cs.length) : scText (cs.eraseIdx k) (keysBut ks k) = linesBut ks k 0 cs := by
 have := lines_but ks cs 0 k; rw [Nat.zero_add] at this; unfold scText; rw [if_pos ((scOk_iff _ _).2 (but_ok h hk h2)), this]
end Go.Ms
