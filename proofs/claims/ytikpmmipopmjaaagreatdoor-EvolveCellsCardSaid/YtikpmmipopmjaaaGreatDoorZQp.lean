/- Schemas that follow each other, plainly: a row carried along a chain is what it is if it is moved at once. Schemas that follow each other, plainly: a row that is moved is a row of the later columns, and has the same key. Schemas that follow each other, plainly: the chain of a seed. -/
import Derived.Test.YtikpmmipopmjaaaGreatDoorZQo
import Derived.Test.YtikpmmipopmjaaaGreatDoorZQj
set_option linter.unusedVariables false
set_option linter.unusedSimpArgs false
namespace Go.Ms
theorem follows_self {a : Sc} (hu : IdsUp a.1) (p : Int) : evFollows a a p = true := by
 unfold evFollows; simp only [Bool.and_eq_true, decide_eq_true_eq, List.all_eq_true, and_true]
 intro d hd
 obtain ⟨k, hk⟩ := List.getElem?_of_mem hd; unfold evCol; rw [evAt_of hu hk]; simp only [List.getD_eq_getElem?_getD, hk, Option.getD_some]; exact same_refl d
theorem last_le {cs : List Co} {q : Int} (h : ∀ x ∈ cs, x.1 ≤ q) (h0 : 0 ≤ q) : evLast cs ≤ q := by
 unfold evLast
 cases hl : cs.getLast? with
 | none => exact h0
 | some c => exact h c (List.mem_of_getLast? hl)
theorem follows_new {a s : Sc} {p : Int} (h : evFollows a s p = true) : ∀ x ∈ s.1, evAt a.1 x.1 = none → p < x.1 := by
 unfold evFollows at h; simp only [Bool.and_eq_true, decide_eq_true_eq, List.all_eq_true] at h
 intro x hx hn
 exact col_none (h.1 x hx) hn
theorem along_eq {a : Sc} (ha : IdsUp a.1) (r : List Cl) : ∀ (l : List Sc) (s : Sc) (ab : Int), 0 ≤ ab → (∀ t ∈ s :: l, IdsUp t.1) → evLinks s ab l = true → (∀ x ∈ s.1, x.1 ≤ ab) → (∀ x ∈ a.1, x.1 ≤ ab) → evFollows a s (evLast a.1) = true →
    evAlong s l (evMoved a.1 s.1 r) = evMoved a.1 ((s :: l).getLast (by simp)).1 r ∧ evFollows a ((s :: l).getLast (by simp)) (evLast a.1) = true
  | [], s, ab, h0, hu, hl, hs, hab, hf => ⟨rfl, hf⟩
  | b :: l, s, ab, h0, hu, hl, hs, hab, hf => by
   rw [evLinks, Bool.and_eq_true] at hl; have us := hu s (by simp); have ub := hu b (by simp); have hf2 : evFollows a b (evLast a.1) = true := follows_trans ha us hf hl.1 hab (last_le hab h0) (follows_new hf); have ih := along_eq ha r l b (max ab (evLast b.1)) (by omega) (fun t ht => hu t (by simp only [List.mem_cons] at ht ⊢; exact .inr ht)) hl.2 (fun x hx => by have := last_ge ub x hx; omega) (fun x hx => by have := hab x hx; omega) hf2; rw [evAlong, moved_moved us hf hl.1 hab r]; rw [List.getLast_cons (by simp)]; exact ih
theorem along_app : ∀ (l m : List Sc) (a : Sc) (r : List Cl), evAlong a (l ++ m) r = evAlong ((a :: l).getLast (by simp)) m (evAlong a l r)
  | [], m, a, r => rfl
  | b :: l, m, a, r => by
   have e : (a :: b :: l).getLast (by simp) = (b :: l).getLast (by simp) := List.getLast_cons (by simp); rw [List.cons_append, evAlong, evAlong, along_app l m b, e]
theorem links_drop : ∀ (n : Nat) (l : List Sc) (s : Sc) (ab : Int), 0 ≤ ab → (∀ t ∈ s :: l, IdsUp t.1) → evLinks s ab l = true → (∀ x ∈ s.1, x.1 ≤ ab) → n ≤ l.length →
    ∃ q, 0 ≤ q ∧ evLinks ((s :: l).getD n zSc) q (l.drop n) = true ∧ ∀ x ∈ ((s :: l).getD n zSc).1, x.1 ≤ q
  | 0, l, s, ab, h0, hu, hl, hs, hn => ⟨ab, h0, hl, hs⟩
  | n + 1, [], s, ab, h0, hu, hl, hs, hn => by simp at hn
  | n + 1, b :: l, s, ab, h0, hu, hl, hs, hn => by
   rw [evLinks, Bool.and_eq_true] at hl; have ub := hu b (by simp); have := links_drop n l b (max ab (evLast b.1)) (by omega) (fun t ht => hu t (by simp only [List.mem_cons] at ht ⊢; exact .inr ht)) hl.2 (fun x hx => by have := last_ge ub x hx; omega) (by simpa using hn)
   simpa using this
theorem links_take : ∀ (n : Nat) (l : List Sc) (s : Sc) (ab : Int), evLinks s ab l = true → evLinks s ab (l.take n) = true
  | 0, l, s, ab, h => rfl
  | n + 1, [], s, ab, h => rfl
  | n + 1, b :: l, s, ab, h => by
   rw [evLinks, Bool.and_eq_true] at h; rw [List.take_succ_cons, evLinks, Bool.and_eq_true]; exact ⟨h.1, links_take n l b _ h.2⟩
theorem chain_parts {s : Sc} {l : List Sc} (h : evChain (s :: l) = 0) : (s :: l).length ≤ 64 ∧ (∀ t ∈ s :: l, scOk t.1 t.2 = true) ∧ evLinks s (max 0 (evLast s.1)) l = true := by
 unfold evChain at h
 split at h
 · omega
 · rename_i h1
   split at h
   · rename_i h2
     simp only at h
     split at h
     · rename_i h3
       exact ⟨by omega, by simpa [List.all_eq_true] using h2, h3⟩
     · omega
   · omega
theorem carry_once {L : List Sc} (h : evChain L = 0) {f t : Nat} (h1 : 1 ≤ f) (h2 : f ≤ t) (h3 : t ≤ L.length) {r : List Cl} (hr : rCheck (coTys (L.getD (f - 1) zSc).1) r = 0) :
    evCarry L f t r = (evMoved (L.getD (f - 1) zSc).1 (L.getD (t - 1) zSc).1 r, 0) ∧ evStep (L.getD (f - 1) zSc) (L.getD (t - 1) zSc) = 0 := by
 cases L with
 | nil => simp at h3; omega
 | cons s l =>
  obtain ⟨c1, c2, c3⟩ := chain_parts h
  have hu : ∀ x ∈ s :: l, IdsUp x.1 := fun x hx => ids_up ((scOk_iff _ _).1 (c2 x hx))
  have us := hu s (by simp); simp only [List.length_cons] at h3 c1; obtain ⟨q, q0, q1, q2⟩ := links_drop (f - 1) l s (max 0 (evLast s.1)) (by omega) hu c3 (fun x hx => by have := last_ge us x hx; omega) (by omega)
  have hmem : ∀ n, n < (s :: l).length → (s :: l).getD n zSc ∈ s :: l := fun n hn => by
   rw [List.getD_eq_getElem?_getD, List.getElem?_eq_getElem hn]; exact List.getElem_mem hn
  generalize ha : (s :: l).getD (f - 1) zSc = a at *
  have ham : a ∈ s :: l := by rw [← ha]; exact hmem _ (by simp; omega)
  have ua := hu a ham; have hl := links_take (t - f) (l.drop (f - 1)) a q q1
  have hsub : ∀ x ∈ a :: (l.drop (f - 1)).take (t - f), IdsUp x.1 := fun x hx => by
   rcases List.mem_cons.1 hx with rfl | hx
   · exact ua
   · exact hu x (List.mem_cons_of_mem _ (List.mem_of_mem_drop (List.mem_of_mem_take hx)))
  have hA := along_eq ua r ((l.drop (f - 1)).take (t - f)) a q q0 hsub hl q2 q2 (follows_self ua _)
  have hlast : (a :: (l.drop (f - 1)).take (t - f)).getLast (by simp) = (s :: l).getD (t - 1) zSc := by
   rw [List.getLast_eq_getElem]
   have hlen : (a :: (l.drop (f - 1)).take (t - f)).length = t - f + 1 := by simp; omega
   by_cases e : t = f
   · subst e
     have : (a :: (l.drop (t - 1)).take (t - t))[(a :: (l.drop (t - 1)).take (t - t)).length - 1]? = some a := by simp
     obtain ⟨_, h5⟩ := List.getElem?_eq_some_iff.1 this; rw [h5, ha]
   · have h6 : (a :: (l.drop (f - 1)).take (t - f))[(a :: (l.drop (f - 1)).take (t - f)).length - 1]? = (s :: l)[t - 1]? := by
       rw [hlen, show t - f + 1 - 1 = (t - f - 1) + 1 by omega, List.getElem?_cons_succ, List.getElem?_take, if_pos (by omega), List.getElem?_drop, show t - 1 = (f - 1 + (t - f - 1)) + 1 by omega, List.getElem?_cons_succ]
     rw [List.getD_eq_getElem?_getD, ← h6, List.getElem?_eq_getElem (by rw [hlen]; omega)]; rfl
  rw [hlast] at hA
  have hla : (coTys a.1).length = r.length := by
   unfold rCheck at hr
   split at hr
   · assumption
   · omega
  have hself : evMoved a.1 a.1 r = r := moved_self ua (by simpa [coTys] using hla); rw [hself] at hA
  constructor
  · unfold evCarry; rw [if_pos h, if_neg (by simp only [List.length_cons]; omega)]
    have e1 : ((f : Int)).toNat - 1 = f - 1 := by omega
    have e2 : ((t : Int) - (f : Int)).toNat = t - f := by omega
    rw [e1, ha, if_pos hr, e2, Int.toNat_natCast]
    have e3 : (s :: l).drop f = l.drop (f - 1) := by
     obtain ⟨g, rfl⟩ : ∃ g, f = g + 1 := ⟨f - 1, by omega⟩
     rw [List.drop_succ_cons]; rfl
    rw [e3, hA.1]
  · unfold evStep; rw [if_pos ⟨c2 a ham, c2 _ (hmem _ (by simp; omega))⟩, if_pos hA.2]
end Go.Ms
set_option linter.unusedSimpArgs false
namespace Go.Ms
theorem check_widen {u nu : Bool} {n : Int} {s : Bs} (h : kCheck 2 u nu n s = 0) : kCheck 3 u nu n s = 0 := by
 have h1 := (check_zero h).2; unfold kCheck; rw [if_pos (by decide)]
 have : kOk 3 u nu n s = true := by
  unfold kOk at *
  split
  · rename_i e; rw [if_pos e] at h1; exact h1
  · rename_i e
    rw [if_neg e] at h1; unfold kIs at *
    simp at *
    exact ⟨⟨h1.1.1, by omega⟩, by omega⟩
 rw [if_pos this]
theorem same_type {a b : Co} (h : evSame a b = true) : a.2.2.1 = b.2.2.1 ∨ (a.2.2.1.1 = 2 ∧ b.2.2.1.1 = 3 ∧ a.2.2.1.2 = b.2.2.1.2) := by
 unfold evSame at h; simp only [Bool.and_eq_true, Bool.or_eq_true, decide_eq_true_eq, beq_iff_eq] at h
 rcases h.2 with h2 | h2
 · exact .inl (Prod.ext h2 h.1.2)
 · exact .inr ⟨h2.1, h2.2, h.1.2⟩
theorem same_check {a b : Co} {c : Cl} (h : evSame a b = true) (hc : cCheck a.2.2.1 c = 0) : cCheck b.2.2.1 c = 0 := by
 rcases same_type h with e | ⟨e1, e2, e3⟩
 · rw [← e]; exact hc
 · unfold cCheck at *; rw [e1] at hc; rw [e2, ← e3]; exact check_widen hc
theorem same_bits {a b : Co} {c : Cl} (h : evSame a b = true) (hc : cCheck a.2.2.1 c = 0) : cBits a.2.2.1 c = cBits b.2.2.1 c := by
 have hd := same_check h hc
 rcases same_type h with e | ⟨e1, e2, e3⟩
 · rw [e]
 · unfold cBits cCheck at *; unfold kBitsD; rw [if_pos hc, if_pos hd, e3, e1, e2]; rfl
theorem rowCheck_at : ∀ {ts : List Ty} {cs : List Cl} {q : Nat} {t : Ty} {c : Cl}, rCheckL ts cs = 0 → ts[q]? = some t → cs[q]? = some c → cCheck t c = 0
  | [], _, q, t, c, _, ht, _ => by simp at ht
  | _ :: _, [], q, t, c, _, _, hc => by simp at hc
  | t0 :: ts, c0 :: cs, 0, t, c, h, ht, hc => by
   obtain rfl : t0 = t := by simpa using ht
   obtain rfl : c0 = c := by simpa using hc
   unfold rCheckL at h
   split at h
   · assumption
   · exact h
  | t0 :: ts, c0 :: cs, q + 1, t, c, h, ht, hc => by
   unfold rCheckL at h
   split at h
   · exact rowCheck_at h (by simpa using ht) (by simpa using hc)
   · rename_i e; exact absurd h e
theorem rCheckL_of : ∀ {ts : List Ty} {cs : List Cl}, (∀ (q : Nat) t c, ts[q]? = some t → cs[q]? = some c → cCheck t c = 0) → rCheckL ts cs = 0
  | [], _, _ => by unfold rCheckL; rfl
  | _ :: _, [], _ => by unfold rCheckL; rfl
  | t :: ts, c :: cs, h => by
   unfold rCheckL; rw [if_pos (h 0 t c rfl rfl)]
   exact rCheckL_of fun q t' c' ht hc => h (q + 1) t' c' (by simpa using ht) (by simpa using hc)
theorem rCheck_parts {ts : List Ty} {cs : List Cl} (h : rCheck ts cs = 0) : ts.length = cs.length ∧ rCheckL ts cs = 0 := by
 unfold rCheck at h
 split at h
 · exact ⟨by assumption, h⟩
 · omega
theorem coTys_at {cs : List Co} {k : Nat} {c : Co} (h : cs[k]? = some c) : (coTys cs)[k]? = some c.2.2.1 := by unfold coTys; rw [List.getElem?_map, h]; rfl
theorem coTys_len (cs : List Co) : (coTys cs).length = cs.length := by unfold coTys; rw [List.length_map]
theorem moved_at {a b : List Co} {r : List Cl} {j : Nat} {d : Co} (hd : b[j]? = some d) : (evMoved a b r)[j]? = some (match evAt a d.1 with
    | some k => r.getD k zCl
    | none => d.2.2.2) := by
 unfold evMoved
 rw [List.getElem?_map, hd]; rfl
theorem moved_cell {a b : Sc} {p : Int} {r : List Cl} (hf : evFollows a b p = true) (hb : ∀ c ∈ b.1, cCheck c.2.2.1 c.2.2.2 = 0) (hr : rCheck (coTys a.1) r = 0) {j : Nat} {d : Co} (hd : b.1[j]? = some d) {x : Cl} (hx : (evMoved a.1 b.1 r)[j]? = some x) : cCheck d.2.2.1 x = 0 := by
 rw [moved_at hd] at hx; obtain rfl := Option.some.inj hx; obtain ⟨h1, h2⟩ := rCheck_parts hr; unfold evFollows at hf; simp only [Bool.and_eq_true, decide_eq_true_eq, List.all_eq_true] at hf; have hcol := hf.1 d (List.mem_of_getElem? hd)
 cases hk : evAt a.1 d.1 with
 | none => exact hb d (List.mem_of_getElem? hd)
 | some k =>
  obtain ⟨y, hy, ey⟩ := evAt_some hk; have hs := col_some hcol hk hy; have hl := (List.getElem?_eq_some_iff.1 hy).1; rw [coTys_len] at h1; have hrk : r[k]? = some (r[k]'(by omega)) := List.getElem?_eq_getElem (by omega); simp only [List.getD_eq_getElem?_getD, hrk, Option.getD_some]; exact same_check hs (rowCheck_at h2 (coTys_at hy) hrk)
theorem moved_check {a b : Sc} {p : Int} {r : List Cl} (hf : evFollows a b p = true) (hb : ∀ c ∈ b.1, cCheck c.2.2.1 c.2.2.2 = 0) (hr : rCheck (coTys a.1) r = 0) : rCheck (coTys b.1) (evMoved a.1 b.1 r) = 0 := by
 unfold rCheck; rw [if_pos (by rw [coTys_len, moved_len])]
 refine rCheckL_of fun q t c ht hc => ?_
 unfold coTys at ht; rw [List.getElem?_map, Option.map_eq_some_iff] at ht; obtain ⟨d, hd, rfl⟩ := ht; exact moved_cell hf hb hr hd hc
theorem moved_key {a b : Sc} {p : Int} {r : List Cl} (hu : IdsUp a.1) (hf : evFollows a b p = true) (hr : rCheck (coTys a.1) r = 0) (ka : ∀ k ∈ a.2, 0 ≤ k ∧ k < a.1.length) (kb : ∀ k ∈ b.2, 0 ≤ k ∧ k < b.1.length) : rKeyL (coTys b.1) (evMoved a.1 b.1 r) b.2 = rKeyL (coTys a.1) r a.2 := by
 obtain ⟨h1, h2⟩ := rCheck_parts hr; rw [coTys_len] at h1; unfold evFollows at hf; simp only [Bool.and_eq_true, decide_eq_true_eq, List.all_eq_true] at hf; have hk := hf.2; unfold evKeys at hk; obtain ⟨ac, ak⟩ := a; obtain ⟨bc, bk⟩ := b; simp only at *; unfold rKeyL; clear hr
 induction ak generalizing bk with
 | nil =>
  cases bk with
  | nil => rfl
  | cons x t => simp at hk
 | cons x t ih =>
  cases bk with
  | nil => simp at hk
  | cons y s =>
   rw [List.map_cons, List.map_cons, List.cons.injEq] at hk; rw [List.flatMap_cons, List.flatMap_cons, ih (fun k h => ka k (List.mem_cons_of_mem _ h)) s (fun k h => kb k (List.mem_cons_of_mem _ h)) ⟨hf.1, hk.2⟩ hk.2]
   congr 1
   obtain ⟨x0, x1⟩ := ka x (by simp); obtain ⟨y0, y1⟩ := kb y (by simp); obtain ⟨c, hc⟩ : ∃ c, ac[x.toNat]? = some c := ⟨_, List.getElem?_eq_getElem (by omega)⟩; obtain ⟨d, hd⟩ : ∃ c, bc[y.toNat]? = some c := ⟨_, List.getElem?_eq_getElem (by omega)⟩
   have hid : c.1 = d.1 := by
    have := hk.1
    simpa [List.getD_eq_getElem?_getD, hc, hd] using this
   have hat : evAt ac d.1 = some x.toNat := by rw [← hid]; exact evAt_of hu hc
   have hs := col_some (hf.1 d (List.mem_of_getElem? hd)) hat hc; obtain ⟨z, hz⟩ : ∃ z, r[x.toNat]? = some z := ⟨_, List.getElem?_eq_getElem (by have := (List.getElem?_eq_some_iff.1 hc).1; omega)⟩
   have hm : (evMoved ac bc r)[y.toNat]? = some z := by
    rw [moved_at hd, hat]
    simp [List.getD_eq_getElem?_getD, hz]
   simp only [List.getD_eq_getElem?_getD, coTys_at hc, coTys_at hd, hm, hz, Option.getD_some]; exact (same_bits hs (rowCheck_at h2 (coTys_at hc) hz)).symm
end Go.Ms
set_option linter.unusedSimpArgs false
namespace Go.Ms
def evKd (n : Int) : Int := if n = 0 then 2 else if n = 1 then 3 else if n = 2 then 4 else if n = 3 then 1 else if n = 4 then 5 else if n = 5 then 2 else if n = 6 then 4 else 2
def evNu (n : Int) : Bool := decide (5 < n)
def evDf (n : Int) : Cl := if 5 < n then (true, 0, ⟨#[]⟩) else if n = 2 ∨ n = 4 then (false, 0, ⟨#[100]⟩) else (false, 1, ⟨#[]⟩)
def evCNm (i : Nat) : ByteArray := ⟨#[99, UInt8.ofNat (97 + i)]⟩
def evNNm (i : Nat) : ByteArray := ⟨#[110, UInt8.ofNat (97 + i)]⟩
def evNew (id : Int) (nm : ByteArray) (n : Int) : Co := (id, nm, (evKd n, evNu n), evDf n)
def evKey : Co := (1, ⟨#[107]⟩, (2, false), (false, 0, ⟨#[]⟩))
def evFirst : Nat → List Int → List Co
  | _, [] => []
  | i, n :: r => evNew ((i : Int) + 2) (evCNm i) (n % 8) :: evFirst (i + 1) r
def evWide (wide : Int) (k : Nat) (c : Co) : Co := if (wide / 2 ^ k) % 2 = 1 ∧ c.2.2.1.1 = 2 then (c.1, c.2.1, (3, c.2.2.1.2), c.2.2.2) else c
def evKeep (gone wide : Int) : Nat → List Co → List Co
  | _, [] => []
  | k, c :: r => if 0 < k ∧ (gone / 2 ^ k) % 2 = 1 then evKeep gone wide (k + 1) r else evWide wide k c :: evKeep gone wide (k + 1) r
def evStepV (i : Nat) (v : Int × Int × Int) (s : List Co) (id : Int) : List Co × Int :=
  if v.2.2 % 2 = 0 then (evKeep (v.1 % 65536) (v.2.1 % 65536) 0 s, id)
  else (evKeep (v.1 % 65536) (v.2.1 % 65536) 0 s ++ [evNew (id + 1 + (v.1 % 65536) % 2) (evNNm i) ((v.2.2.tdiv 2) % 8)], id + 1 + (v.1 % 65536) % 2)
def evVers : Nat → List (Int × Int × Int) → List Co → Int → List Sc
  | _, [], _, _ => []
  | i, v :: r, s, id => ((evStepV i v s id).1, [0]) :: evVers (i + 1) r (evStepV i v s id).1 (evStepV i v s id).2
def evSeed (C : List Int) (V : List (Int × Int × Int)) : List Sc :=
  (evKey :: evFirst 0 (C.take 6), [0]) :: evVers 0 (V.take 7) (evKey :: evFirst 0 (C.take 6)) (1 + ((C.take 6).length : Int))
def evNms (i : Nat) : List Bs := [[107], [99, 97], [99, 98], [99, 99], [99, 100], [99, 101], [99, 102]] ++ ([[110, 97], [110, 98], [110, 99], [110, 100], [110, 101], [110, 102], [110, 103]].take i)
structure EvOk (i : Nat) (s : List Co) (id : Int) : Prop where
  co : ∀ c ∈ s, coOk c = true
  nm : ∀ c ∈ s, c.2.1.data.toList ∈ evNms i
  ap : NamesApart s
  up : IdsUp s
  le : ∀ c ∈ s, 1 ≤ c.1 ∧ c.1 ≤ id
  hd : ∃ c r, s = c :: r ∧ c.1 = 1 ∧ c.2.2.1.2 = false
  ln : s.length ≤ 7 + i
  ib : id ≤ 7 + 2 * i
theorem ev_eight {n : Int} (h : 0 ≤ n ∧ n < 8) : n = 0 ∨ n = 1 ∨ n = 2 ∨ n = 3 ∨ n = 4 ∨ n = 5 ∨ n = 6 ∨ n = 7 := by omega
theorem evNew_ok {id n : Int} {nm : ByteArray} (h : 0 ≤ n ∧ n < 8) (hn : isNm nm.data.toList = true) : coOk (evNew id nm n) = true := by
 unfold coOk evNew; simp only [Bool.and_eq_true, decide_eq_true_eq]; refine ⟨hn, ?_⟩
 rcases ev_eight h with rfl | rfl | rfl | rfl | rfl | rfl | rfl | rfl <;> decide +kernel
theorem evC_nm {i : Nat} (h : i < 6) : isNm (evCNm i).data.toList = true ∧ (evCNm i).data.toList ∈ evNms 0 := by
 have : i = 0 ∨ i = 1 ∨ i = 2 ∨ i = 3 ∨ i = 4 ∨ i = 5 := by omega
 rcases this with rfl | rfl | rfl | rfl | rfl | rfl <;> exact ⟨by decide +kernel, by decide +kernel⟩
theorem evN_nm {i : Nat} (h : i < 7) : isNm (evNNm i).data.toList = true ∧ (evNNm i).data.toList ∉ evNms i ∧ (evNNm i).data.toList ∈ evNms (i + 1) := by
 have : i = 0 ∨ i = 1 ∨ i = 2 ∨ i = 3 ∨ i = 4 ∨ i = 5 ∨ i = 6 := by omega
 rcases this with rfl | rfl | rfl | rfl | rfl | rfl | rfl <;> exact ⟨by decide +kernel, by decide +kernel, by decide +kernel⟩
theorem evNms_more {i : Nat} {x : Bs} (h : x ∈ evNms i) : x ∈ evNms (i + 1) := by
 unfold evNms at *
 rcases List.mem_append.1 h with h | h
 · exact List.mem_append.2 (.inl h)
 · refine List.mem_append.2 (.inr ?_); obtain ⟨k, hk⟩ := List.getElem?_of_mem h; rw [List.getElem?_take] at hk
   split at hk
   · refine List.mem_of_getElem? (i := k) ?_
     rw [List.getElem?_take, if_pos (by omega)]; exact hk
   · cases hk
theorem wide_same (wide : Int) (k : Nat) (c : Co) : evSame c (evWide wide k c) = true ∧ (evWide wide k c).1 = c.1 ∧ (evWide wide k c).2.1 = c.2.1 ∧ (evWide wide k c).2.2.1.2 = c.2.2.1.2 := by
 unfold evWide
 split
 · rename_i h
   refine ⟨?_, rfl, rfl, rfl⟩; unfold evSame
   simp [h.2]
 · exact ⟨same_refl c, rfl, rfl, rfl⟩
theorem keep_at (gone wide : Int) : ∀ (s : List Co) (k j : Nat) (d : Co), (evKeep gone wide k s)[j]? = some d → ∃ i c, j ≤ i ∧ s[i]? = some c ∧ d = evWide wide (k + i) c
  | [], k, j, d, h => by simp [evKeep] at h
  | c :: r, k, j, d, h => by
   rw [evKeep] at h
   split at h
   · obtain ⟨i, x, h1, h2, h3⟩ := keep_at gone wide r (k + 1) j d h; exact ⟨i + 1, x, by omega, by simpa using h2, by rw [h3]; congr 1; omega⟩
   · cases j with
    | zero =>
     obtain rfl : evWide wide k c = d := by simpa using h
     exact ⟨0, c, by omega, rfl, rfl⟩
    | succ j =>
     obtain ⟨i, x, h1, h2, h3⟩ := keep_at gone wide r (k + 1) j d (by simpa using h); exact ⟨i + 1, x, by omega, by simpa using h2, by rw [h3]; congr 1; omega⟩
theorem keep_len (gone wide : Int) : ∀ (s : List Co) (k : Nat), (evKeep gone wide k s).length ≤ s.length
  | [], k => by simp [evKeep]
  | c :: r, k => by
   have := keep_len gone wide r (k + 1); rw [evKeep]
   split
   · simp; omega
   · simp; omega
theorem keep_two (gone wide : Int) : ∀ (s : List Co) (k j j' : Nat) (d d' : Co), j < j' → (evKeep gone wide k s)[j]? = some d → (evKeep gone wide k s)[j']? = some d' → ∃ i i' c c', i < i' ∧ s[i]? = some c ∧ s[i']? = some c' ∧ d = evWide wide (k + i) c ∧ d' = evWide wide (k + i') c'
  | [], k, j, j', d, d', hj, h, h' => by simp [evKeep] at h
  | c :: r, k, j, j', d, d', hj, h, h' => by
   rw [evKeep] at h h'
   split at h
   · rename_i hg
     rw [if_pos hg] at h'; obtain ⟨i, i', x, x', h1, h2, h3, h4, h5⟩ := keep_two gone wide r (k + 1) j j' d d' hj h h'; exact ⟨i + 1, i' + 1, x, x', by omega, by simpa using h2, by simpa using h3, by rw [h4]; congr 1; omega, by rw [h5]; congr 1; omega⟩
   · rename_i hg
     rw [if_neg hg] at h'
     cases j' with
     | zero => omega
     | succ j' =>
      have h'' : (evKeep gone wide (k + 1) r)[j']? = some d' := by simpa using h'
      cases j with
      | zero =>
       obtain rfl : evWide wide k c = d := by simpa using h
       obtain ⟨i', x', h1, h2, h3⟩ := keep_at gone wide r (k + 1) j' d' h''; exact ⟨0, i' + 1, c, x', by omega, rfl, by simpa using h2, rfl, by rw [h3]; congr 1; omega⟩
      | succ j =>
       obtain ⟨i, i', x, x', h1, h2, h3, h4, h5⟩ := keep_two gone wide r (k + 1) j j' d d' (by omega) (by simpa using h) h''; exact ⟨i + 1, i' + 1, x, x', by omega, by simpa using h2, by simpa using h3, by rw [h4]; congr 1; omega, by rw [h5]; congr 1; omega⟩
theorem ev_widen {u nu : Bool} {n : Int} {s : Bs} (h : kCheck 2 u nu n s = 0) : kCheck 3 u nu n s = 0 := check_widen h
theorem wide_ok {wide : Int} {k : Nat} {c : Co} (h : coOk c = true) : coOk (evWide wide k c) = true := by
 unfold evWide
 split
 · rename_i e
   unfold coOk at *; simp only [Bool.and_eq_true, decide_eq_true_eq] at *; refine ⟨h.1, ?_⟩; have h2 := h.2; unfold cCheck at *; rw [e.2] at h2; exact ev_widen h2
 · exact h
theorem evStepV_ok {i : Nat} {s : List Co} {id : Int} (h : EvOk i s id) (hi : i < 7) (v : Int × Int × Int) : EvOk (i + 1) (evStepV i v s id).1 (evStepV i v s id).2 ∧ id ≤ (evStepV i v s id).2 ∧
    ∀ ab, ab ≤ id → (∀ c ∈ s, c.1 ≤ ab) → evFollows (s, [0]) ((evStepV i v s id).1, [0]) ab = true := by
 have hg : 0 ≤ v.1 % 65536 % 2 ∧ v.1 % 65536 % 2 ≤ 1 := by omega
 generalize hK : evKeep (v.1 % 65536) (v.2.1 % 65536) 0 s = K
 have kat : ∀ (j : Nat) d, K[j]? = some d → ∃ (n : Nat) (c : Co), s[n]? = some c ∧ d = evWide (v.2.1 % 65536) n c := fun j d hd => by
  rw [← hK] at hd; obtain ⟨n, c, _, h2, h3⟩ := keep_at _ _ s 0 j d hd; exact ⟨n, c, h2, by rw [h3, Nat.zero_add]⟩
 have kmem : ∀ d ∈ K, ∃ (n : Nat) (c : Co), s[n]? = some c ∧ d = evWide (v.2.1 % 65536) n c := fun d hd => by
  obtain ⟨j, hj⟩ := List.getElem?_of_mem hd; exact kat j d hj
 have ktwo : ∀ (j j' : Nat) d d', j < j' → K[j]? = some d → K[j']? = some d' → ∃ (n n' : Nat) (c c' : Co), n < n' ∧ s[n]? = some c ∧ s[n']? = some c' ∧ d = evWide (v.2.1 % 65536) n c ∧ d' = evWide (v.2.1 % 65536) n' c' := fun j j' d d' hj h1 h2 => by
  rw [← hK] at h1 h2; obtain ⟨n, n', c, c', a1, a2, a3, a4, a5⟩ := keep_two _ _ s 0 j j' d d' hj h1 h2; exact ⟨n, n', c, c', a1, a2, a3, by rw [a4, Nat.zero_add], by rw [a5, Nat.zero_add]⟩
 have klen : K.length ≤ s.length := by rw [← hK]; exact keep_len _ _ s 0
 obtain ⟨c0, r0, hs0, hc1, hc2⟩ := h.hd
 have khd : ∃ c r, K = c :: r ∧ c.1 = 1 ∧ c.2.2.1.2 = false := by
  refine ⟨evWide (v.2.1 % 65536) 0 c0, evKeep (v.1 % 65536) (v.2.1 % 65536) 1 r0, ?_, ?_, ?_⟩
  · rw [← hK, hs0, evKeep, if_neg (by omega)]
  · rw [(wide_same _ _ _).2.1]; exact hc1
  · rw [(wide_same _ _ _).2.2.2]; exact hc2
 have kok : EvOk (i + 1) K id := by
  refine ⟨fun d hd => ?_, fun d hd => ?_, fun a b x y hab hx hy => ?_, fun b a x y hab hx hy => ?_, fun d hd => ?_, khd, by have := h.ln; omega, by have := h.ib; omega⟩
  · obtain ⟨n, c, h1, rfl⟩ := kmem d hd; exact wide_ok (h.co c (List.mem_of_getElem? h1))
  · obtain ⟨n, c, h1, rfl⟩ := kmem d hd; rw [(wide_same _ _ _).2.2.1]; exact evNms_more (h.nm c (List.mem_of_getElem? h1))
  · obtain ⟨n, n', c, c', a1, a2, a3, rfl, rfl⟩ := ktwo a b x y hab hx hy; rw [(wide_same _ _ _).2.2.1, (wide_same _ _ _).2.2.1]; exact h.ap n n' c c' a1 a2 a3
  · obtain ⟨n, n', c, c', a1, a2, a3, rfl, rfl⟩ := ktwo a b x y hab hx hy; rw [(wide_same _ _ _).2.1, (wide_same _ _ _).2.1]; exact h.up n' n c c' a1 a2 a3
  · obtain ⟨n, c, h1, rfl⟩ := kmem d hd; rw [(wide_same _ _ _).2.1]; exact h.le c (List.mem_of_getElem? h1)
 have kfol : ∀ ab, evFollows (s, [0]) (K, [0]) ab = true := fun ab => by
  unfold evFollows; simp only [Bool.and_eq_true, decide_eq_true_eq, List.all_eq_true]; refine ⟨fun d hd => ?_, ?_⟩
  · obtain ⟨n, c, h1, rfl⟩ := kmem d hd; unfold evCol; rw [(wide_same _ _ _).2.1, evAt_of h.up h1]; simp only [List.getD_eq_getElem?_getD, h1, Option.getD_some]; exact (wide_same _ _ _).1
  · obtain ⟨c, r, e, e1, _⟩ := khd; unfold evKeys
    simp [hs0, e, hc1, e1]
 unfold evStepV; rw [hK]
 split
 · exact ⟨kok, Int.le_refl _, fun ab _ _ => kfol ab⟩
 · generalize hD : evNew (id + 1 + v.1 % 65536 % 2) (evNNm i) (v.2.2.tdiv 2 % 8) = D
   have d1 : D.1 = id + 1 + v.1 % 65536 % 2 := by rw [← hD]; rfl
   have d2 : D.2.1 = evNNm i := by rw [← hD]; rfl
   have d3 : coOk D = true := by rw [← hD]; exact evNew_ok (by omega) (evN_nm hi).1
   have snoc : ∀ (j : Nat) d, (K ++ [D])[j]? = some d → (K[j]? = some d ∧ j < K.length) ∨ (j = K.length ∧ d = D) := fun j d hd => by
    by_cases hj : j < K.length
    · rw [List.getElem?_append_left hj] at hd; exact .inl ⟨hd, hj⟩
    · have hl := (List.getElem?_eq_some_iff.1 hd).1; rw [List.length_append, List.length_singleton] at hl
      have e : j = K.length := by omega
      subst e
      simp at hd
      exact .inr ⟨rfl, hd.symm⟩
   refine ⟨⟨fun d hd => ?_, fun d hd => ?_, fun a b x y hab hx hy => ?_, fun b a x y hab hx hy => ?_, fun d hd => ?_, ?_, ?_, by have := h.ib; show id + 1 + _ ≤ _; omega⟩, by show id ≤ id + 1 + _; omega, fun ab hab hle => ?_⟩
   · rcases List.mem_append.1 hd with h1 | h1
     · exact kok.co d h1
     · obtain rfl : d = D := by simpa using h1
       exact d3
   · rcases List.mem_append.1 hd with h1 | h1
     · exact kok.nm d h1
     · obtain rfl : d = D := by simpa using h1
       rw [d2]; exact (evN_nm hi).2.2
   · rcases snoc a x hx with ⟨h1, h1'⟩ | ⟨h1, rfl⟩
     · rcases snoc b y hy with ⟨h2, _⟩ | ⟨h2, rfl⟩
       · exact kok.ap a b x y hab h1 h2
       · intro e
         obtain ⟨n, c, h3, rfl⟩ := kat a x h1; have h4 := h.nm c (List.mem_of_getElem? h3); rw [(wide_same _ _ _).2.2.1, d2] at e; rw [e] at h4; exact (evN_nm hi).2.1 h4
     · rcases snoc b y hy with ⟨h2, h2'⟩ | ⟨h2, rfl⟩ <;> omega
   · rcases snoc a x hx with ⟨h1, h1'⟩ | ⟨h1, rfl⟩
     · rcases snoc b y hy with ⟨h2, _⟩ | ⟨h2, rfl⟩
       · exact kok.up b a x y hab h1 h2
       · have := (kok.le x (List.mem_of_getElem? h1)).2; omega
     · rcases snoc b y hy with ⟨h2, h2'⟩ | ⟨h2, rfl⟩ <;> omega
   · rcases List.mem_append.1 hd with h1 | h1
     · have := kok.le d h1; exact ⟨this.1, by show d.1 ≤ id + 1 + _; omega⟩
     · obtain rfl : d = D := by simpa using h1
       obtain ⟨c, r, e, e1, _⟩ := khd; have := kok.le c (by rw [e]; simp); exact ⟨by omega, by show d.1 ≤ _; rw [d1]; exact Int.le_refl _⟩
   · obtain ⟨c, r, e, e1, e2⟩ := khd; exact ⟨c, r ++ [D], by rw [e]; rfl, e1, e2⟩
   · have := h.ln
     rw [List.length_append, List.length_singleton]; omega
   · have hk := kfol ab; unfold evFollows at hk ⊢; simp only [Bool.and_eq_true, decide_eq_true_eq, List.all_eq_true] at hk ⊢; refine ⟨fun d hd => ?_, ?_⟩
     · rcases List.mem_append.1 hd with h1 | h1
       · exact hk.1 d h1
       · obtain rfl : d = D := by simpa using h1
         unfold evCol
         cases he : evAt s d.1 with
         | none => simp only [decide_eq_true_eq]; omega
         | some k =>
          obtain ⟨c, h2, h3⟩ := evAt_some he; have := (h.le c (List.mem_of_getElem? h2)).2; omega
     · obtain ⟨c, r, e, e1, _⟩ := khd; unfold evKeys
       simp [hs0, e, hc1, e1]
theorem EvOk.sc {i : Nat} {s : List Co} {id : Int} (h : EvOk i s id) (hi : i ≤ 7) : ScOk s [0] := by
 obtain ⟨c0, r0, hs0, hc1, hc2⟩ := h.hd; have hl := h.ln; have hib := h.ib; refine ⟨fun j c hc => ?_, by rw [hs0]; simp, by omega, h.ap, fun j c hc => ?_, fun j a b ha hb => h.up (j + 1) j a b (by omega) ha hb, by simp, fun j x hx => ?_, fun j a b ha hb => ?_, fun j x c hx hc => ?_⟩
 · have := h.co c (List.mem_of_getElem? hc); unfold coOk at this
   simpa using this
 · have := h.le c (List.mem_of_getElem? hc); omega
 · obtain ⟨hj, rfl⟩ : j = 0 ∧ (0 : Int) = x := by
     cases j with
     | zero => simpa using hx
     | succ j => simp at hx
   rw [hs0]; simp
 · simp at hb
 · obtain ⟨hj, rfl⟩ : j = 0 ∧ (0 : Int) = x := by
     cases j with
     | zero => simpa using hx
     | succ j => simp at hx
   rw [hs0] at hc
   obtain rfl : c0 = c := by simpa using hc
   exact hc2
theorem evFirst_at : ∀ (l : List Int) (i j : Nat) (c : Co), (evFirst i l)[j]? = some c → ∃ n, c = evNew (((i + j : Nat) : Int) + 2) (evCNm (i + j)) (n % 8) ∧ j < l.length
  | [], i, j, c, h => by simp [evFirst] at h
  | n :: r, i, 0, c, h => by
   rw [evFirst] at h
   obtain rfl : evNew ((i : Int) + 2) (evCNm i) (n % 8) = c := by simpa using h
   exact ⟨n, rfl, by simp⟩
  | n :: r, i, j + 1, c, h => by
   rw [evFirst] at h; obtain ⟨m, h1, h2⟩ := evFirst_at r (i + 1) j c (by simpa using h); exact ⟨m, by rw [h1, show i + 1 + j = i + (j + 1) by omega], by simp; omega⟩
end Go.Ms
