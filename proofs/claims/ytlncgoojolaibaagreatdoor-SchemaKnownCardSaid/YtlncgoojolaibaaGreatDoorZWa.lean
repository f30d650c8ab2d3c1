/- Schemas, plainly: a kind's word as the reference looks for it. Schemas of a seed, plainly. Schemas, plainly: what may be is read of its text as it was. Schemas of a seed, plainly: their texts are short, and have a line feed for each column. Schemas, plainly: one thing wrong; a column left out. -/
import Derived.Test.YtlncgoojolaibaaGreatDoorZSx
import Derived.Lib.ItoaMem
set_option linter.unusedVariables false
set_option linter.unusedSimpArgs false
namespace Go.Ms
open Go.RowKit Go.Lib
def moreOk (m : Bs) : Bool := decide (m = []) || decide (m = [63]) || decide (m = [42]) || decide (m = [63, 42])
def moreNull (m : Bs) : Bool := decide (m = [63]) || decide (m = [63, 42])
def moreKey (m : Bs) : Bool := decide (m = [42]) || decide (m = [63, 42])
def rkHit (K : Bs) (k : Nat) : Bool := decide ((wordOf k).length ≤ K.length) && decide (K.take (wordOf k).length = wordOf k) && moreOk (K.drop (wordOf k).length)
def rkGo (K : Bs) : Nat → (Int × Bool) × Bool
  | 0 => ((0, false), false)
  | n + 1 => if rkHit K (n + 1) = true then ((((n + 1 : Nat) : Int), moreNull (K.drop (wordOf (n + 1 : Nat)).length)), moreKey (K.drop (wordOf (n + 1 : Nat)).length)) else rkGo K n
theorem word_no {k : Nat} (h1 : 1 ≤ k) (h2 : k ≤ 5) : (42 : UInt8) ∉ wordOf k ∧ (63 : UInt8) ∉ wordOf k ∧ kindOf (wordOf k) = k := by
 match k, h1, h2 with
 | 1, _, _ => decide
 | 2, _, _ => decide
 | 3, _, _ => decide
 | 4, _, _ => decide
 | 5, _, _ => decide
theorem strip_word {k : Nat} (h1 : 1 ≤ k) (h2 : k ≤ 5) {m : Bs} (hm : moreOk m = true) :
    kindOf (stripB 63 (stripB 42 (wordOf k ++ m)).1).1 = k ∧ (stripB 63 (stripB 42 (wordOf k ++ m)).1).2 = moreNull m ∧ (stripB 42 (wordOf k ++ m)).2 = moreKey m := by
 obtain ⟨a, b, c⟩ := word_no h1 h2; unfold moreOk at hm; simp only [Bool.or_eq_true, decide_eq_true_eq] at hm
 rcases hm with ((rfl | rfl) | rfl) | rfl
 · rw [List.append_nil, strip_not a, strip_not b]; exact ⟨c, rfl, rfl⟩
 · have h4 : (42 : UInt8) ∉ wordOf k ++ [63] := by simp [a]
   rw [strip_not h4, strip_app]; exact ⟨c, rfl, rfl⟩
 · rw [strip_app, strip_not b]; exact ⟨c, rfl, rfl⟩
 · rw [show wordOf k ++ [63, 42] = (wordOf k ++ [63]) ++ [42] by simp, strip_app, strip_app]; exact ⟨c, rfl, rfl⟩
theorem rkHit_iff {K : Bs} {k : Nat} : rkHit K k = true ↔ ∃ m, moreOk m = true ∧ K = wordOf k ++ m := by
 unfold rkHit; simp only [Bool.and_eq_true, decide_eq_true_eq]
 constructor
 · rintro ⟨⟨_, h⟩, hm⟩; exact ⟨_, hm, (List.take_append_drop (wordOf k).length K).symm.trans (by rw [h])⟩
 · rintro ⟨m, hm, rfl⟩
   simp [hm]
def rkD (K : Bs) : (Int × Bool) × Bool := if 1 ≤ kindOf (stripB 63 (stripB 42 K).1).1 then ((kindOf (stripB 63 (stripB 42 K).1).1, (stripB 63 (stripB 42 K).1).2), (stripB 42 K).2) else ((0, false), false)
theorem rk_none {K : Bs} : ∀ n, n ≤ 5 → (∀ k : Nat, 1 ≤ k → k ≤ n → rkHit K k = false) → rkGo K n = ((0, false), false)
  | 0, _, _ => rfl
  | n + 1, hn, h => by
   show (if rkHit K (n + 1) = true then _ else rkGo K n) = _
   rw [h (n + 1) (by omega) (by omega), if_neg (by simp)]
   exact rk_none n (by omega) fun k a b => h k a (by omega)
theorem rk_some {K : Bs} {k : Nat} (h1 : 1 ≤ k) (hk : rkHit K k = true) : ∀ n, k ≤ n → n ≤ 5 → (∀ j : Nat, k < j → j ≤ n → rkHit K j = false) → rkGo K n = (((k : Int), moreNull (K.drop (wordOf k).length)), moreKey (K.drop (wordOf k).length))
  | 0, h, _, _ => absurd h (by omega)
  | n + 1, h, hn, hj => by
   show (if rkHit K (n + 1) = true then ((((n + 1 : Nat) : Int), moreNull (K.drop (wordOf (n + 1 : Nat)).length)), moreKey (K.drop (wordOf (n + 1 : Nat)).length)) else rkGo K n) = _
   by_cases e : k = n + 1
   · subst e; rw [hk, if_pos rfl]
   · rw [hj (n + 1) (by omega) (by omega), if_neg (by simp)]
     exact rk_some h1 hk n (by omega) (by omega) fun j a b => hj j a (by omega)
theorem rk_eq (K : Bs) : rkGo K 5 = rkD K := by
 unfold rkD
 have hone : ∀ j : Nat, 1 ≤ j → j ≤ 5 → rkHit K j = true → kindOf (stripB 63 (stripB 42 K).1).1 = j := by
  intro j h1 h2 h
  obtain ⟨m, hm, rfl⟩ := rkHit_iff.1 h; exact (strip_word h1 h2 hm).1
 by_cases hk : 1 ≤ kindOf (stripB 63 (stripB 42 K).1).1
 · rw [if_pos hk]; obtain ⟨k, hkk⟩ : ∃ k : Nat, kindOf (stripB 63 (stripB 42 K).1).1 = k := ⟨(kindOf (stripB 63 (stripB 42 K).1).1).toNat, by omega⟩
   have h5 : k ≤ 5 := by rcases kindOf_bd (stripB 63 (stripB 42 K).1).1 with e | e <;> omega
   have hw := kindOf_word hk; rw [hkk] at hw; have s1 := strip_back 42 K; have s2 := strip_back 63 (stripB 42 K).1
   obtain ⟨m, hm, hK⟩ : ∃ m, moreOk m = true ∧ K = wordOf k ++ m := by
    refine ⟨(if (stripB 63 (stripB 42 K).1).2 = true then [63] else []) ++ (if (stripB 42 K).2 = true then [42] else []), ?_, ?_⟩
    · cases (stripB 63 (stripB 42 K).1).2 <;> cases (stripB 42 K).2 <;> decide
    · rw [hw, ← List.append_assoc, s2, s1]
   have hhit : rkHit K k = true := rkHit_iff.2 ⟨m, hm, hK⟩
   rw [rk_some (by omega) hhit 5 h5 le_ (fun j a b => by
    cases h : rkHit K j with
    | false => rfl
    | true => have := hone j (by omega) b h; omega)]
   obtain ⟨e1, e2, e3⟩ := strip_word (k := k) (by omega) h5 hm; rw [← hK] at e1 e2 e3
   have hd : K.drop (wordOf k).length = m := by rw [hK]; simp
   rw [hd, e1, e2, e3]
 · rw [if_neg hk]
   refine rk_none 5 le_ fun k h1 h2 => ?_
   cases h : rkHit K k with
   | false => rfl
   | true => have := hone k h1 h2 h; omega
theorem coRead_rk (a b k t : Bs) : coRead a b k t = if isNm b = true ∧ 0 ≤ idOf a ∧ (kReadD (rkD k).1.1 (rkD k).1.2 t).2 = 0 then some ((idOf a, ⟨b.toArray⟩, (rkD k).1, unCl (kReadD (rkD k).1.1 (rkD k).1.2 t).1), (rkD k).2) else none := by
 unfold coRead rkD
 by_cases h : 1 ≤ kindOf (stripB 63 (stripB 42 k).1).1
 · simp only [h, if_true, true_and]
 · have hz : (kReadD 0 false t).2 = 2 := by
     unfold kReadD; rw [if_neg (by decide)]
   simp only [h, if_false, false_and, and_false, hz]; rw [if_neg (by omega)]
end Go.Ms
namespace Go.Ms
open Go.RowKit Go.Lib
abbrev Sd5 := Int × Int × Int × Int × Int
def sdInt (n : Int) : Int := if n = 0 then 0 else if n = 1 then 1 else if n = 2 then 2147483647 else if n = 3 then -2147483648 else 7
def sdStr (n : Int) : ByteArray := if n = 0 then ⟨#[]⟩ else if n = 1 then ⟨#[97, 32, 98]⟩ else if n = 2 then ⟨#[34, 10]⟩ else if n = 3 then ⟨#[195, 164]⟩ else ⟨#[110, 117, 108, 108]⟩
def sdByt (n : Int) : ByteArray := if n = 0 then ⟨#[]⟩ else if n = 1 then ⟨#[0, 255]⟩ else if n = 2 then ⟨#[120]⟩ else if n = 3 then ⟨#[32]⟩ else ⟨#[10]⟩
def sdNm (n : Int) : ByteArray := if n = 0 then ⟨#[97]⟩ else if n = 1 then ⟨#[105, 100]⟩ else if n = 2 then ⟨#[110, 95, 49]⟩ else if n = 3 then ⟨#[120, 57]⟩ else ⟨#[118, 97, 108, 117, 101]⟩
def sdDef0 (k n : Int) : Cl := if k = 1 then (false, n % 2, ⟨#[]⟩) else if k = 3 ∧ 2 < n then (false, -9223372036854775808, ⟨#[]⟩) else if k = 4 then (false, 0, sdStr n) else if k = 5 then (false, 0, sdByt n) else (false, sdInt n, ⟨#[]⟩)
def sdDef (k : Int) (u : Bool) (n : Int) : Cl := if u = true ∧ n = 0 then (true, 0, ⟨#[]⟩) else sdDef0 k n
def sdLet : ByteArray := ⟨#[97, 98, 99, 100, 101, 102, 103, 104, 105, 106, 107, 108, 109, 110, 111, 112]⟩
def sdCo (c : Sd5) (id : Int) (i : Nat) : Co :=
  (id + 1 + c.2.2.2.2 % 9, (sdNm (c.2.2.1 % 5) ++ ⟨#[95]⟩) ++ sdLet.extract i (i + 1), (1 + c.1 % 5, decide (c.2.1 % 3 = 0)), sdDef (1 + c.1 % 5) (decide (c.2.1 % 3 = 0)) (c.2.2.2.1 % 5))
def sdStep (q : Int) (s : List Co × List Int × Int) (c : Sd5) : List Co × List Int × Int :=
  (s.1 ++ [sdCo c s.2.2 s.1.length], (if (q / 2 ^ s.1.length) % 2 = 1 ∧ (sdCo c s.2.2 s.1.length).2.2.1.2 = false ∧ s.2.1.length < 8 then s.2.1 ++ [(s.1.length : Int)] else s.2.1), (sdCo c s.2.2 s.1.length).1)
theorem five_cases {n : Int} (h0 : 0 ≤ n) (h1 : n < 5) : n = 0 ∨ n = 1 ∨ n = 2 ∨ n = 3 ∨ n = 4 := by omega
theorem sdDef_ok (k n : Int) (u : Bool) (hk : 1 ≤ k ∧ k ≤ 5) (hn : 0 ≤ n ∧ n < 5) : cCheck (k, u) (sdDef k u n) = 0 := by
 have h1 : k = 1 ∨ k = 2 ∨ k = 3 ∨ k = 4 ∨ k = 5 := by omega
 have h2 := five_cases hn.1 hn.2
 rcases h1 with rfl | rfl | rfl | rfl | rfl <;> rcases h2 with rfl | rfl | rfl | rfl | rfl <;> cases u <;> decide +kernel
theorem sdNm_ok (n : Int) (i : Nat) (hn : 0 ≤ n ∧ n < 5) (hi : i < 16) : isNm ((sdNm n ++ ⟨#[95]⟩) ++ sdLet.extract i (i + 1)).data.toList = true := by
 have h2 := five_cases hn.1 hn.2
 have h3 : i = 0 ∨ i = 1 ∨ i = 2 ∨ i = 3 ∨ i = 4 ∨ i = 5 ∨ i = 6 ∨ i = 7 ∨ i = 8 ∨ i = 9 ∨ i = 10 ∨ i = 11 ∨ i = 12 ∨ i = 13 ∨ i = 14 ∨ i = 15 := by omega
 rcases h2 with rfl | rfl | rfl | rfl | rfl <;> rcases h3 with rfl | rfl | rfl | rfl | rfl | rfl | rfl | rfl | rfl | rfl | rfl | rfl | rfl | rfl | rfl | rfl <;> decide +kernel
theorem sdCo_ok (c : Sd5) (id : Int) (i : Nat) (hi : i < 16) : coOk (sdCo c id i) = true := by
 unfold coOk sdCo; simp only [Bool.and_eq_true, decide_eq_true_eq]; exact ⟨sdNm_ok _ i (by omega) hi, sdDef_ok _ _ _ (by omega) (by omega)⟩
theorem sdNm_last (n : Int) (i : Nat) (hn : 0 ≤ n ∧ n < 5) (hi : i < 16) : (((sdNm n ++ ⟨#[95]⟩) ++ sdLet.extract i (i + 1)).data.toList.getLast?.map UInt8.toNat) = some (97 + i) := by
 have h2 := five_cases hn.1 hn.2
 have h3 : i = 0 ∨ i = 1 ∨ i = 2 ∨ i = 3 ∨ i = 4 ∨ i = 5 ∨ i = 6 ∨ i = 7 ∨ i = 8 ∨ i = 9 ∨ i = 10 ∨ i = 11 ∨ i = 12 ∨ i = 13 ∨ i = 14 ∨ i = 15 := by omega
 rcases h2 with rfl | rfl | rfl | rfl | rfl <;> rcases h3 with rfl | rfl | rfl | rfl | rfl | rfl | rfl | rfl | rfl | rfl | rfl | rfl | rfl | rfl | rfl | rfl <;> decide +kernel
structure SdOk (cs : List Co) (ks : List Int) (id : Int) : Prop where
  co : ∀ (i : Nat) c, cs[i]? = some c → coOk c = true ∧ c.2.1.data.toList.getLast?.map UInt8.toNat = some (97 + i) ∧ 1 ≤ c.1 ∧ c.1 ≤ id
  idb : 0 ≤ id ∧ id ≤ 9 * cs.length
  up : ∀ (i : Nat) a b, cs[i]? = some a → cs[i + 1]? = some b → a.1 < b.1
  keys : ks.length ≤ 8
  kin : ∀ (i : Nat) k, ks[i]? = some k → 0 ≤ k ∧ k < cs.length
  kup : ∀ (i : Nat) a b, ks[i]? = some a → ks[i + 1]? = some b → a < b
  full : ∀ (i : Nat) k c, ks[i]? = some k → cs[k.toNat]? = some c → c.2.2.1.2 = false
theorem snoc_at {α : Type} {l : List α} {x y : α} {i : Nat} (h : (l ++ [x])[i]? = some y) : l[i]? = some y ∧ i < l.length ∨ i = l.length ∧ y = x := by
 by_cases hi : i < l.length
 · rw [List.getElem?_append_left hi] at h; exact .inl ⟨h, hi⟩
 · have hl := (List.getElem?_eq_some_iff.1 h).1; rw [List.length_append, List.length_singleton] at hl
   have e : i = l.length := by omega
   subst e
   simp at h
   exact .inr ⟨rfl, h.symm⟩
theorem SdOk.step {cs : List Co} {ks : List Int} {id : Int} (h : SdOk cs ks id) (q : Int) (c : Sd5) (hl : cs.length < 16) : SdOk (sdStep q (cs, ks, id) c).1 (sdStep q (cs, ks, id) c).2.1 (sdStep q (cs, ks, id) c).2.2 := by
 have hd := sdCo_ok c id cs.length hl; have hn : (sdCo c id cs.length).2.1.data.toList.getLast?.map UInt8.toNat = some (97 + cs.length) := sdNm_last _ _ (by omega) hl; have hi : (sdCo c id cs.length).1 = id + 1 + c.2.2.2.2 % 9 := rfl; have hb := h.idb; unfold sdStep
 simp only
 generalize sdCo c id cs.length = d at hd hn hi
 refine ⟨fun i x hx => ?_, ?_, fun i a b ha hb' => ?_, ?_, fun i k hk => ?_, fun i a b ha hb' => ?_, fun i k x hk hx => ?_⟩
 · rcases snoc_at hx with ⟨h1, _⟩ | ⟨rfl, rfl⟩
   · have := h.co i x h1; exact ⟨this.1, this.2.1, this.2.2.1, by omega⟩
   · exact ⟨hd, hn, by omega, Int.le_refl _⟩
 · rw [List.length_append, List.length_singleton]; omega
 · rcases snoc_at hb' with ⟨h1, h2⟩ | ⟨h1, rfl⟩
   · rw [List.getElem?_append_left (by omega)] at ha; exact h.up i a b ha h1
   · rw [List.getElem?_append_left (by omega)] at ha; have := (h.co i a ha).2.2.2; omega
 · split
   · rename_i e; rw [List.length_append, List.length_singleton]; omega
   · exact h.keys
 · rw [List.length_append, List.length_singleton]
   split at hk
   · rcases snoc_at hk with ⟨h1, _⟩ | ⟨_, rfl⟩
     · have := h.kin i k h1; omega
     · omega
   · have := h.kin i k hk; omega
 · split at ha
   · rename_i e
     rw [if_pos e] at hb'
     rcases snoc_at hb' with ⟨h1, h2⟩ | ⟨h1, rfl⟩
     · rw [List.getElem?_append_left (by omega)] at ha; exact h.kup i a b ha h1
     · rw [List.getElem?_append_left (by omega)] at ha; exact (h.kin i a ha).2
   · rename_i e
     rw [if_neg e] at hb'; exact h.kup i a b ha hb'
 · have hold : ∀ j, ks[j]? = some k → x.2.2.1.2 = false := fun j hj => by
     have hk' := h.kin j k hj
     rcases snoc_at hx with ⟨h1, _⟩ | ⟨h1, _⟩
     · exact h.full j k x hj h1
     · omega
   split at hk
   · rename_i e
     rcases snoc_at hk with ⟨h1, _⟩ | ⟨_, rfl⟩
     · exact hold i h1
     · rcases snoc_at hx with ⟨h1, h2⟩ | ⟨_, rfl⟩
       · simp at h2
       · exact e.2.1
   · exact hold i hk
end Go.Ms
namespace Go.Ms
open Go.RowKit Go.Lib
end Go.Ms
namespace Go.Ms
open Go.RowKit Go.Lib
end Go.Ms
namespace Go.Ms
open Go.RowKit Go.Lib
theorem not_ok {cs : List Co} {ks : List Int} (h : ¬ ScOk cs ks) : scOk cs ks = false := by
 rw [Bool.eq_false_iff]
 exact fun e => h ((scOk_iff cs ks).1 e)
theorem bad_check {cs : List Co} {ks : List Int} (h : ¬ ScOk cs ks) : scCheck cs ks = 2 ∧ scText cs ks = [] := by
 unfold scCheck scText; rw [not_ok h]
 simp
end Go.Ms
