/- Evolve's laws: the versions of a seed: what lies while they are put together. Schemas of a seed, plainly. Seeds of schemas: one column, walked. Seeds of schemas: an argument's list of fives, read as such. Schemas: columns of one's own, stored; a schema cut. Schemas: names of whatever length; schemas that lie in memory. Schemas: a number among numbers; four texts joined; the lines of a schema. Schemas, plainly: what is read has that text; what may be is read of its text as it was. Schemas, plainly: a kind's word as the reference looks for it. Schemas, plainly: what may be is read of its text as it was. Schemas of a seed, plainly: their texts are short, and have a line feed for each column. Seeds of schemas: the schema of a seed, walked. Evolve's laws: a seed and rows of numbers among the arguments, read as such. Evolve's laws, plainly: how long a seed's texts and rows are. -/
import Derived.Test.YtikpmmipopmjaaaGreatDoorZQbj
import Derived.Test.YtikpmmipopmjaaaGreatDoorZQq
import Derived.Test.YtikpmmipopmjaaaGreatDoorZQo
import Derived.Test.YtikpmmipopmjaaaGreatDoorZQj
import Derived.Test.YtikpmmipopmjaaaGreatDoorZQbi
import Derived.Test.YtikpmmipopmjaaaGreatDoorZQy
import Derived.Test.YtikpmmipopmjaaaGreatDoorZQs
import Derived.Deep.DeepCutAuto
import Derived.Test.YtikpmmipopmjaaaGreatDoorZQw
import Derived.Test.YtikpmmipopmjaaaGreatDoorZQt
import Derived.Test.YtikpmmipopmjaaaGreatDoorZS6
import Derived.Test.YtikpmmipopmjaaaGreatDoorZQbf
import Derived.Lib.ItoaLen
import Derived.Test.YtikpmmipopmjaaaGreatDoorZQv
import Derived.Lib.ItoaMem
import Derived.Test.YtikpmmipopmjaaaGreatDoorZQu
import Derived.Test.YtikpmmipopmjaaaGreatDoorZQbe
import Derived.Test.YtikpmmipopmjaaaGreatDoorZQbc
set_option linter.unusedVariables false
set_option linter.unusedSimpArgs false
namespace Go.Ms
open Go.RowKit Go.Lib
def evRun : Nat → List (Int × Int × Int) → List Co → Int → List Co × Int
  | _, [], s, id => (s, id)
  | i, v :: r, s, id => evRun (i + 1) r (evStepV i v s id).1 (evStepV i v s id).2
theorem evRun_snoc (v : Int × Int × Int) : ∀ (l : List (Int × Int × Int)) (i : Nat) (s : List Co) (id : Int), evRun i (l ++ [v]) s id = evStepV (i + l.length) v (evRun i l s id).1 (evRun i l s id).2
  | [], i, s, id => rfl
  | a :: r, i, s, id => by
   show evRun (i + 1) (r ++ [v]) _ _ = _
   rw [evRun_snoc v r (i + 1), List.length_cons, show i + 1 + r.length = i + (r.length + 1) by omega]; rfl
theorem evVers_snoc (v : Int × Int × Int) : ∀ (l : List (Int × Int × Int)) (i : Nat) (s : List Co) (id : Int), evVers i (l ++ [v]) s id = evVers i l s id ++ [((evStepV (i + l.length) v (evRun i l s id).1 (evRun i l s id).2).1, [0])]
  | [], i, s, id => rfl
  | a :: r, i, s, id => by
   show _ :: evVers (i + 1) (r ++ [v]) _ _ = _
   rw [evVers_snoc v r (i + 1), List.length_cons, show i + 1 + r.length = i + (r.length + 1) by omega]; rfl
theorem evRun_ok : ∀ (l : List (Int × Int × Int)) (i : Nat) (s : List Co) (id : Int), EvOk i s id → i + l.length ≤ 7 → EvOk (i + l.length) (evRun i l s id).1 (evRun i l s id).2
  | [], i, s, id, h, _ => h
  | v :: r, i, s, id, h, hl => by
   rw [List.length_cons] at hl; have := evRun_ok r (i + 1) _ _ (evStepV_ok h (by omega) v).1 (by omega); rw [List.length_cons, show i + (r.length + 1) = i + 1 + r.length by omega]; exact this
theorem evKeep_snoc (gone wide : Int) (c : Co) : ∀ (l : List Co) (k : Nat), evKeep gone wide k (l ++ [c]) = evKeep gone wide k l ++ (if 0 < k + l.length ∧ (gone / 2 ^ (k + l.length)) % 2 = 1 then [] else [evWide wide (k + l.length) c])
  | [], k => by
   show evKeep gone wide k [c] = _
   rw [List.length_nil, Nat.add_zero]; unfold evKeep
   split <;> rfl
  | a :: r, k => by
   have ih := evKeep_snoc gone wide c r (k + 1); rw [List.length_cons, show k + (r.length + 1) = k + 1 + r.length by omega]
   show evKeep gone wide k (a :: (r ++ [c])) = _
   unfold evKeep
   split
   · exact ih
   · rw [ih]; rfl
def TyAt (W : World) (A : Option Addr) (T : TypeId) : Prop := ∀ g o, A = some ⟨g, o, none⟩ → ∃ cs, W.heap[g]? = some (.cells cs T (0, 0))
theorem TyAt.to {W W' : World} {A : Option Addr} {T : TypeId} (h : TyAt W A T) (hb : Below W.heap.size W W') : TyAt W' A T := fun g o e => by
 obtain ⟨cs, hc⟩ := h g o e; exact ⟨cs, block_kept hc hb⟩
theorem TyAt.eff {W W' : World} {A : Option Addr} {T T' : TypeId} (h : TyAt W A T) (he : EffT T' W W') (hn : T ≠ T') : TyAt W' A T := fun g o e => by
 obtain ⟨cs, hc⟩ := h g o e; exact ⟨cs, he.keep hc hn⟩
theorem TyAt.own {W : World} {B s n n' c : Nat} {e : TypeId} {A : Option Addr} {xs : List Value} (h : W.ownsRow B e s (.slice A n c) n' xs) : TyAt W A e := fun g o ea => by
 rcases h.2 with ⟨hv, _⟩ | ⟨g', cap, cur, hv, _, hgb, _⟩
 · cases hv; cases ea
 · cases hv
   cases ea
   exact ⟨cur, hgb⟩
theorem EffT.size {T : TypeId} {W W' : World} (h : EffT T W W') : W.heap.size ≤ W'.heap.size := by obtain ⟨b, hg, _⟩ := h; exact hg.size
theorem EffT.set {T : TypeId} {W : World} {b : Nat} {cs : Array Value} (h : W.heap[b]? = some (.cells cs T (0, 0))) (i : Nat) (u : Value) : EffT T W (W.setCell ⟨b, i, none⟩ u) := ⟨some b, grown_set' W b i u, fun g e => by cases e; exact ⟨cs, _, h⟩⟩
theorem Lay.eff {W W' : World} {B : Nat} {A : Option Addr} {xs : List Value} {T T' : TypeId} (h : Lay W B A xs) (ht : TyAt W A T) (he : EffT T' W W') (hn : T ≠ T') : Lay W' B A xs := fun j u hu => by
 obtain ⟨g, o, e, hlt, hc⟩ := h j u hu; obtain ⟨cs, hb⟩ := ht g o e; refine ⟨g, o, e, hlt, ?_⟩; have hb2 := he.keep hb hn; unfold World.cell? at hc ⊢; simp only at hc ⊢; rw [hb2]; rw [hb] at hc; exact hc
structure ScT (tC tI : TypeId) (W : World) (r : SRef) (s : Sc) : Prop where
  lay : ScLay W W.heap.size r s
  ta : TyAt W r.a tC
  tb : TyAt W r.b tI
theorem ScT.to {tC tI : TypeId} {W W' : World} {r : SRef} {s : Sc} (h : ScT tC tI W r s) (hb : Below W.heap.size W W') : ScT tC tI W' r s := ⟨h.lay.to hb, h.ta.to hb, h.tb.to hb⟩
theorem ScT.eff {tC tI tS : TypeId} {W W' : World} {r : SRef} {s : Sc} (h : ScT tC tI W r s) (he : EffT tS W W') (n1 : tC ≠ tS) (n2 : tI ≠ tS) : ScT tC tI W' r s :=
  ⟨⟨h.lay.n, h.lay.m, h.lay.nn, h.lay.mm, (h.lay.la.eff h.ta he n1).more he.size, (h.lay.lb.eff h.tb he n2).more he.size⟩, h.ta.eff he n1, h.tb.eff he n2⟩
structure ChB (tD tS tC tI : TypeId) (va : Array Value) (v : Value) (r : SRef) (rs : List SRef) (ss : List Sc) (s : List Co) (w W : World) : Prop where
  b1 : W.heap[w.heap.size]? = some (.cells va tD (0, 0))
  b4 : W.heap[w.heap.size + 4]? = some (.cells #[.slice r.a r.n r.c, .slice r.b r.m r.d] tS (0, 0))
  own : W.ownsRow (w.heap.size + 5) tS 2 v rs.length (scsV rs)
  each : ∀ (i : Nat) r s, rs[i]? = some r → ss[i]? = some s → ScT tC tI W r s
  cur : ScT tC tI W r (s, [0])
  len : rs.length = ss.length
  bel : Below w.heap.size w W
  sz : w.heap.size + 5 ≤ W.heap.size
section
variable {tD tS tC tI : TypeId} {va : Array Value} {v : Value} {r : SRef} {rs : List SRef} {ss : List Sc} {s : List Co} {w W W' : World}
theorem ChB.to (h : ChB tD tS tC tI va v r rs ss s w W) (hb : Below W.heap.size W W') : ChB tD tS tC tI va v r rs ss s w W' :=
  ⟨block_kept h.b1 hb, block_kept h.b4 hb, own_below h.own hb, fun i r s h1 h2 => (h.each i r s h1 h2).to hb, h.cur.to hb, h.len, h.bel.trans (hb.mono h.bel.size), Nat.le_trans h.sz hb.size⟩
theorem ChB.scs (h : ChB tD tS tC tI va v r rs ss s w W) : ∃ A c, v = .slice A rs.length c ∧ ScsLay W W.heap.size A rs ss := by
 obtain ⟨A, c, rfl, -, -⟩ := yown_slice h.own; exact ⟨A, c, rfl, h.len, Lay.of_own h.own (Nat.le_refl _), fun i r s h1 h2 => (h.each i r s h1 h2).lay⟩
theorem ChB.next (h : ChB tD tS tC tI va v r rs ss s w W) (n0 : tD ≠ tS) (n1 : tC ≠ tS) (n2 : tI ≠ tS) {r' : SRef} {s' : List Co} (hc : ScT tC tI W r' (s', [0])) :
    ChB tD tS tC tI va v r' rs ss s' w ((W.setCell ⟨w.heap.size + 4, 0, none⟩ (.slice r'.a r'.n r'.c)).setCell ⟨w.heap.size + 4, 1, none⟩ (.slice r'.b r'.m r'.d)) := by
 have q5 := two_set0 h.b4 (.slice r'.a r'.n r'.c); have e1 := EffT.set h.b4 0 (.slice r'.a r'.n r'.c); have e2 := EffT.set q5 1 (.slice r'.b r'.m r'.d); refine ⟨e2.keep (e1.keep h.b1 n0) n0, two_set1 q5 _, own_set' (own_set' h.own (by omega) _) (by omega) _, fun i r s h1 h2 => ((h.each i r s h1 h2).eff e1 n1 n2).eff e2 n1 n2, (hc.eff e1 n1 n2).eff e2 n1 n2, h.len, ?_, by simp only [World.size_setCell]; exact h.sz⟩; exact (h.bel.setCell (p := ⟨w.heap.size + 4, 0, none⟩) (by simp only; omega) _).setCell (p := ⟨w.heap.size + 4, 1, none⟩) (by simp only; omega) _
theorem ChB.push (h : ChB tD tS tC tI va v r rs ss s w W) (n0 : tD ≠ tS) (n1 : tC ≠ tS) (n2 : tI ≠ tS) {v' : Value} (ho : W'.ownsRow (w.heap.size + 5) tS 2 v' (rs.length + 1) (scsV rs ++ r.vs)) (hg : W.grownBy W' v.ownBlock) :
    ChB tD tS tC tI va v' r (rs ++ [r]) (ss ++ [(s, [0])]) s w W' := by
 have he := EffT.own h.own hg
 have hne : ∀ k : Nat, k < w.heap.size + 5 → some k ≠ v.ownBlock := fun k hk e => by have := (World.ownsRow.lt h.own k e.symm).1; omega
 refine ⟨he.keep h.b1 n0, (hg.block _ (Array.getElem?_eq_some_iff.1 h.b4).1 (hne _ (by omega))).trans h.b4, ?_, fun i r' s' h1 h2 => ?_, h.cur.eff he n1 n2, by rw [List.length_append, List.length_append, h.len]; rfl, own_grown h.own h.bel h.bel.size (by omega) hg, Nat.le_trans h.sz hg.size⟩
 · rw [List.length_append, scsV_app, show scsV [r] = r.vs by simp [scsV]]; exact ho
 · by_cases hi : i < rs.length
   · rw [List.getElem?_append_left hi] at h1; rw [List.getElem?_append_left (by rw [← h.len]; exact hi)] at h2; exact (h.each i r' s' h1 h2).eff he n1 n2
   · have h3 := (List.getElem?_eq_some_iff.1 h1).1; rw [List.length_append, List.length_singleton] at h3
     obtain rfl : i = rs.length := by omega
     rw [List.getElem?_append_right (Nat.le_refl _), Nat.sub_self] at h1; rw [List.getElem?_append_right (by rw [h.len]; exact Nat.le_refl _), h.len, Nat.sub_self] at h2
     cases h1
     cases h2
     exact h.cur.eff he n1 n2
end
def v3V (l : List (Int × Int × Int)) : List Value := l.flatMap fun v => [.int .i64 v.1, .int .i64 v.2.1, .int .i64 v.2.2]
theorem v3V_len (l : List (Int × Int × Int)) : (v3V l).length = l.length * 3 := by
 induction l with
 | nil => rfl
 | cons a t ih => show ([_, _, _] ++ v3V t).length = _; rw [List.length_append, ih, List.length_cons]; simp; omega
theorem v3V_at : ∀ (l : List (Int × Int × Int)) (i : Nat) (c : Int × Int × Int), l[i]? = some c → (v3V l)[i * 3]? = some (.int .i64 c.1) ∧ (v3V l)[i * 3 + 1]? = some (.int .i64 c.2.1) ∧ (v3V l)[i * 3 + 2]? = some (.int .i64 c.2.2)
  | [], i, r, h => by simp at h
  | a :: t, 0, r, h => by
   have h : a = r := by simpa using h
   subst h; exact ⟨rfl, rfl, rfl⟩
  | a :: t, i + 1, r, h => by
   have ih := v3V_at t i r (by simpa using h)
   have e1 : (i + 1) * 3 = i * 3 + 3 := by omega
   rw [e1]; exact ih
structure NumAt (g o B : Nat) (a b c : Int) (W : World) : Prop where
  lt : g < B
  c0 : W.cell? ⟨g, o, none⟩ = some (.int .i64 a)
  c1 : W.cell? ⟨g, o + 1, none⟩ = some (.int .i64 b)
  c2 : W.cell? ⟨g, o + 2, none⟩ = some (.int .i64 c)
theorem NumAt.below {g o B : Nat} {a b c : Int} {W W' : World} (h : NumAt g o B a b c W) (hb : Below B W W') : NumAt g o B a b c W' := ⟨h.lt, (hb.cell h.lt).trans h.c0, (hb.cell h.lt).trans h.c1, (hb.cell h.lt).trans h.c2⟩
theorem NumAt.more {g o B B' : Nat} {a b c : Int} {W : World} (h : NumAt g o B a b c W) (hb : B ≤ B') : NumAt g o B' a b c W := ⟨Nat.lt_of_lt_of_le h.lt hb, h.c0, h.c1, h.c2⟩
theorem Lay.v3 {W : World} {B : Nat} {A : Option Addr} {l : List (Int × Int × Int)} {i : Nat} {c : Int × Int × Int} (h : Lay W B A (v3V l)) (hi : l[i]? = some c) : ∃ g o, A = some ⟨g, o, none⟩ ∧ NumAt g (o + i * 3) B c.1 c.2.1 c.2.2 W := by
 have hl := (List.getElem?_eq_some_iff.1 hi).1; obtain ⟨g, o, e, hb, hc⟩ := h.some_ (by rw [v3V_len]; omega); obtain ⟨h1, h2, h3⟩ := v3V_at l i c hi; exact ⟨g, o, e, hb, hc _ _ h1, hc _ _ h2, hc _ _ h3⟩
structure ChC (tS tC tI : TypeId) (W0 : World) (v10 : Value) (l : List Co) (W : World) : Prop where
  bel : Below W0.heap.size W0 W
  kb : W.heap[W0.heap.size]? = some (.cells #[.int .i64 0] tI (0, 0))
  q10 : W.heap[W0.heap.size + 1]? = some (.cells #[v10, .slice (some ⟨W0.heap.size, 0, none⟩) 1 1] tS (0, 0))
  own : OwnCo W (W0.heap.size + 2) tC v10 l
  sz : W0.heap.size + 2 ≤ W.heap.size
section
variable {tS tC tI : TypeId} {W0 W W' : World} {v10 : Value} {l : List Co}
theorem ChC.start (tS tC tI : TypeId) (W0 : World) : ChC tS tC tI W0 (.slice none 0 0) [] ((W0.alloc (.cells #[.int .i64 0] tI)).alloc (.cells #[.slice none 0 0, .slice (some ⟨W0.heap.size, 0, none⟩) 1 1] tS)) := by
 refine ⟨((Below.refl _ W0).alloc (Nat.le_refl _) _).alloc (by rw [World.size_alloc]; omega) _, block_next (block_new _ _) _, ?_, World.ownsRow_nil _ _ _ _, by rw [World.size_alloc, World.size_alloc]; omega⟩; have := block_new (W0.alloc (.cells #[.int .i64 0] tI)) (.cells #[.slice none 0 0, .slice (some ⟨W0.heap.size, 0, none⟩) 1 1] tS); rw [World.size_alloc] at this; exact this
theorem ChC.to (h : ChC tS tC tI W0 v10 l W) (hb : Below W.heap.size W W') : ChC tS tC tI W0 v10 l W' :=
  ⟨h.bel.trans (hb.mono h.bel.size), block_kept h.kb hb, block_kept h.q10 hb, own_below h.own hb, Nat.le_trans h.sz hb.size⟩
theorem ChC.push {v' : Value} {c : Co} (h : ChC tS tC tI W0 v10 l W) (n2 : tS ≠ tC) (n3 : tI ≠ tC) (ho : W'.ownsRow (W0.heap.size + 2) tC 7 v' (l.length + 1) (colV l ++ coV c)) (hg : W.grownBy W' v10.ownBlock) :
    ChC tS tC tI W0 v' (l ++ [c]) (W'.setCell ⟨W0.heap.size + 1, 0, none⟩ v') := by
 have he := EffT.own h.own hg
 have ho2 : OwnCo W' (W0.heap.size + 2) tC v' (l ++ [c]) := by
  unfold OwnCo; rw [List.length_append, colV_app, show colV [c] = coV c by simp [colV]]; exact ho
 exact ⟨(own_grown h.own h.bel h.bel.size (by omega) hg).setCell (p := ⟨W0.heap.size + 1, 0, none⟩) (by simp only; omega) _, far_set (he.keep h.kb n3) (by omega) _, two_set0 (he.keep h.q10 n2) _, own_set' ho2 (by omega) _, by simp only [World.size_setCell]; exact Nat.le_trans h.sz hg.size⟩
theorem ChC.far (h : ChC tS tC tI W0 v10 l W) {b : Nat} (hb : W0.heap.size + 2 ≤ b) (hne : v10.ownBlock ≠ some b) (i : Nat) (u : Value) : ChC tS tC tI W0 v10 l (W.setCell ⟨b, i, none⟩ u) :=
  ⟨h.bel.setCell (p := ⟨b, i, none⟩) (by simp only; omega) _, far_set h.kb (by omega) _, far_set h.q10 (by omega) _, World.ownsRow.kept h.own (grown_set' W b i u) (.inr hne), by simp only [World.size_setCell]; exact h.sz⟩
theorem ChC.sc2 {A : Option Addr} {n c : Nat} (h : ChC tS tC tI W0 (.slice A n c) l W) (hn : n = l.length) (hl : n ≤ 100000) : ScT tC tI W ⟨A, n, c, some ⟨W0.heap.size, 0, none⟩, 1, 1⟩ (l, [0]) := by
 subst hn; exact ⟨⟨rfl, rfl, hl, (show 1 ≤ 100000 by omega), Lay.of_own h.own (Nat.le_refl _), lay_blk (xs := intV [0]) h.kb⟩, TyAt.own h.own, fun g o e => by cases e; exact ⟨_, h.kb⟩⟩
theorem ChC.sc (h : ChC tS tC tI W0 v10 l W) (hl : l.length ≤ 100000) : ∃ A c, v10 = .slice A l.length c ∧ ScT tC tI W ⟨A, l.length, c, some ⟨W0.heap.size, 0, none⟩, 1, 1⟩ (l, [0]) := by
 obtain ⟨A, c, rfl, -, -⟩ := yown_slice h.own; exact ⟨A, c, rfl, ⟨rfl, rfl, hl, (show 1 ≤ 100000 by omega), Lay.of_own h.own (Nat.le_refl _), lay_blk (xs := intV [0]) h.kb⟩, TyAt.own h.own, fun g o e => by cases e; exact ⟨_, h.kb⟩⟩
end
end Go.Ms
set_option linter.unusedSimpArgs false
namespace Go.Ms
open Go.RowKit Go.Lib
end Go.Ms
set_option linter.unusedSimpArgs false
namespace Go.Ms
open Go.RowKit Go.Lib Go.Rel
end Go.Ms
namespace Go.Proofs.YtikpmmipopmjaaaGreatDoor
open Go.RowKit Go.Ms Go.Lib Go.Rel
end Go.Proofs.YtikpmmipopmjaaaGreatDoor
set_option linter.unusedSimpArgs false
namespace Go.Ms
open Go.RowKit Go.Lib
end Go.Ms
namespace Go.Proofs.YtikpmmipopmjaaaGreatDoor
open Go.RowKit Go.Ms Go.Lib Go.ChangeShapes Go.WideShapes Go.Deep
section
end
end Go.Proofs.YtikpmmipopmjaaaGreatDoor
set_option linter.unusedSimpArgs false
namespace Go.Ms
open Go.RowKit Go.Lib
end Go.Ms
namespace Go.Proofs.YtikpmmipopmjaaaGreatDoor
open Go.RowKit Go.Ms Go.Lib
end Go.Proofs.YtikpmmipopmjaaaGreatDoor
set_option linter.unusedSimpArgs false
namespace Go.Ms
open Go.RowKit Go.Lib
end Go.Ms
namespace Go.Proofs.YtikpmmipopmjaaaGreatDoor
open Go.RowKit Go.Ms Go.Lib
end Go.Proofs.YtikpmmipopmjaaaGreatDoor
set_option linter.unusedSimpArgs false
namespace Go.Ms
open Go.RowKit Go.Lib
end Go.Ms
namespace Go.Proofs.YtikpmmipopmjaaaGreatDoor
open Go.RowKit Go.Ms Go.Lib
end Go.Proofs.YtikpmmipopmjaaaGreatDoor
set_option linter.unusedSimpArgs false
namespace Go.Ms
open Go.RowKit Go.Lib
end Go.Ms
set_option linter.unusedSimpArgs false
namespace Go.Ms
open Go.RowKit Go.Lib
end Go.Ms
set_option linter.unusedSimpArgs false
namespace Go.Ms
open Go.RowKit Go.Lib
end Go.Ms
set_option linter.unusedSimpArgs false
namespace Go.Ms
open Go.RowKit Go.Lib
end Go.Ms
set_option linter.unusedSimpArgs false
namespace Go.Ms
open Go.RowKit Go.Lib
theorem ext_lay {w : World} {B : Nat} {A : Option Addr} {xs : List Value} (h : Ext w B A xs) : Lay w B A xs := fun j u hu => by
 have hl : j < xs.length := (List.getElem?_eq_some_iff.1 hu).1; obtain ⟨a, rfl, hb, h0⟩ := h 0 _ (List.getElem?_eq_getElem (by omega)); obtain ⟨_, e, _, hj⟩ := h j u hu
 cases e
 obtain ⟨g, o, s⟩ := a
 have hs : s = none := by
  cases s with
  | none => rfl
  | some x =>
   exfalso
   have : (Addr.add ⟨g, o, some x⟩ 0) = ⟨g, o, some x⟩ := rfl; rw [this] at h0; unfold World.cell? at h0
   split at h0
   · simp at h0
   · cases h0
 subst hs; refine ⟨g, o, rfl, hb, ?_⟩; rw [Addr.add_lit] at hj; exact hj
section
variable {tS tC tI : TypeId} {w : World} {B : Nat} {bx : Obj} {v1 v2 : Value} {cs : List Co} {ks : List Int} {wr : World}
end
end Go.Ms
namespace Go.Proofs.YtikpmmipopmjaaaGreatDoor
open Go.RowKit Go.Ms Go.Lib
end Go.Proofs.YtikpmmipopmjaaaGreatDoor
set_option linter.unusedSimpArgs false
namespace Go.Ms
open Go.RowKit Go.Lib
def thrV (x : Int × Int × Int) : List Value := [.int .i64 x.1, .int .i64 x.2.1, .int .i64 x.2.2]
theorem thrV_len (x : Int × Int × Int) : (thrV x).length = 3 := rfl
def ThrIn (x : Int × Int × Int) : Prop := I64 x.1 ∧ I64 x.2.1 ∧ I64 x.2.2
theorem thr_in {l : List (Int × Int × Int)} (h : ∀ x ∈ l, ThrIn x) : ∀ x ∈ l, -9223372036854775808 ≤ x.1 ∧ x.1 ≤ 9223372036854775807 ∧ -9223372036854775808 ≤ x.2.1 ∧ x.2.1 ≤ 9223372036854775807 ∧ -9223372036854775808 ≤ x.2.2 ∧ x.2.2 ≤ 9223372036854775807 := fun x hx => by
 have h1 := (h x hx).1; have h2 := (h x hx).2.1; have h3 := (h x hx).2.2; unfold I64 at h1 h2 h3; omega
structure SdArg (w : World) (A : Option Addr) (n : Nat) (C : List Int) (B : Option Addr) (m : Nat) (V : List (Int × Int × Int)) : Prop where
  en : n = C.length
  em : m = V.length
  nn : n ≤ maxLen
  mm : m ≤ maxLen
  la : Lay w w.heap.size A (intV C)
  lb : Lay w w.heap.size B (v3V V)
  c : ∀ x ∈ C, -9223372036854775808 ≤ x ∧ x ≤ 9223372036854775807
  v : ∀ x ∈ V, -9223372036854775808 ≤ x.1 ∧ x.1 ≤ 9223372036854775807 ∧ -9223372036854775808 ≤ x.2.1 ∧ x.2.1 ≤ 9223372036854775807 ∧ -9223372036854775808 ≤ x.2.2 ∧ x.2.2 ≤ 9223372036854775807
theorem SdArg.to {w w' : World} {A : Option Addr} {n : Nat} {C : List Int} {B : Option Addr} {m : Nat} {V : List (Int × Int × Int)} (h : SdArg w A n C B m V) (hb : Below w.heap.size w w') : SdArg w' A n C B m V :=
  ⟨h.en, h.em, h.nn, h.mm, (h.la.below hb).more hb.size, (h.lb.below hb).more hb.size, h.c, h.v⟩
structure NmArg (w : World) (A : Option Addr) (n : Nat) (C : List Int) : Prop where
  en : n = C.length
  nn : n ≤ maxLen
  la : Lay w w.heap.size A (intV C)
  c : ∀ x ∈ C, -9223372036854775808 ≤ x ∧ x ≤ 9223372036854775807
theorem NmArg.to {w w' : World} {A : Option Addr} {n : Nat} {C : List Int} (h : NmArg w A n C) (hb : Below w.heap.size w w') : NmArg w' A n C := ⟨h.en, h.nn, (h.la.below hb).more hb.size, h.c⟩
theorem NmArg.of {w : World} {A : Option Addr} {n c : Nat} {C : List Int} (hc : n ≤ c) (kc : c ≤ maxLen) (ll : C.length = n) (ex : Ext w w.heap.size A (intV C)) (ok : ∀ x ∈ C, I64 x) : NmArg w A n C :=
  ⟨ll.symm, Nat.le_trans hc kc, ext_lay ex, ok⟩
theorem SdArg.of {w : World} {A : Option Addr} {n c : Nat} {C : List Int} {B : Option Addr} {m d : Nat} {V : List (Int × Int × Int)} (hc : n ≤ c) (kc : c ≤ maxLen) (ll : C.length = n) (ex : Ext w w.heap.size A (intV C)) (ok : ∀ x ∈ C, I64 x)
    (hd : m ≤ d) (kd : d ≤ maxLen) (lm : V.length = m) (exb : Ext w w.heap.size B (v3V V)) (okb : ∀ x ∈ V, ThrIn x) : SdArg w A n C B m V :=
  ⟨ll.symm, lm.symm, Nat.le_trans hc kc, Nat.le_trans hd kd, ext_lay ex, ext_lay exb, ok, thr_in okb⟩
end Go.Ms
namespace Go.Proofs.YtikpmmipopmjaaaGreatDoor
open Go.RowKit Go.Ms Go.Lib Go.ChangeShapes Go.WideShapes Go.Deep
section
variable {H : Type} {enc : TypeId × Value → H} {w : World} {base : Nat} {spare : Nat → Bool} {held : Bool}
theorem cells_thr : Tryz.prog.cellsOf 50 = 3 := by kernel_rfl
set_option maxRecDepth 100000 in
theorem thr_el {n : Nat} {cs' : List Value} {y : DataW H × List MemPlace} (h : DataW.trod enc Tryz.prog w base spare held n 50 cs' = some y) : ∃ x : Int × Int × Int, cs' = thrV x ∧ ThrIn x := by
 obtain ⟨xs, n', _, _, hl, hxl, hf⟩ := DataW.trod_array Tryz.underlying50 h; rw [cells_thr] at hl
 obtain ⟨c0, c1, c2, rfl⟩ : ∃ c0 c1 c2, cs' = [c0, c1, c2] := by
  match cs', hl with
  | [a, b, c], _ => exact ⟨a, b, c, rfl⟩
 obtain ⟨y0, y1, y2, rfl⟩ : ∃ c0 c1 c2, xs = [c0, c1, c2] := by
  match xs, hxl with
  | [a, b, c], _ => exact ⟨a, b, c, rfl⟩
 have k0 := hf 0 (by omega); have k1 := hf 1 (by omega); have k2 := hf 2 (by omega); rw [cells_int] at k0 k1 k2; obtain ⟨m0, e0, _, w0⟩ := DataW.trod_int Tryz.underlying3 (show DataW.trod enc Tryz.prog w base spare held n' 3 [c0] = some y0 from k0); obtain ⟨m1, e1, _, w1⟩ := DataW.trod_int Tryz.underlying3 (show DataW.trod enc Tryz.prog w base spare held n' 3 [c1] = some y1 from k1); obtain ⟨m2, e2, _, w2⟩ := DataW.trod_int Tryz.underlying3 (show DataW.trod enc Tryz.prog w base spare held n' 3 [c2] = some y2 from k2)
 obtain rfl : c0 = .int .i64 m0 := by simpa using e0
 obtain rfl : c1 = .int .i64 m1 := by simpa using e1
 obtain rfl : c2 = .int .i64 m2 := by simpa using e2
 exact ⟨(m0, m1, m2), rfl, I64.of w0, I64.of w1, I64.of w2⟩
set_option maxRecDepth 100000 in
theorem open_at2 {r : Reach} {b0 : Nat} {v : Value} {d : DataW H} {p : List MemPlace} (hv : Value.okWide Tryz.prog w r b0 39 v) (h : DataW.Trod enc Tryz.prog w base spare held 39 v d p) :
    ∃ a b : Int, v = .agg #[.int .i64 a, .int .i64 b] ∧ I64 a ∧ I64 b := by
 simp only [Value.okWide, Tryz.underlying39] at hv; obtain ⟨cs, rfl, hsz, _⟩ := hv
 obtain ⟨c0, c1, rfl⟩ : ∃ c0 c1, cs = #[c0, c1] := by
  have h2 := hsz.trans (show Tryz.prog.cellsOf 39 = 2 by kernel_rfl); obtain ⟨l⟩ := cs
  match l, h2 with
  | [a, b], _ => exact ⟨a, b, rfl⟩
 obtain ⟨fuel, hf⟩ := h; obtain ⟨xs, n', _, _, hl, hxl, hf⟩ := DataW.trod_array Tryz.underlying39 (show DataW.trod enc Tryz.prog w base spare held fuel 39 [c0, c1] = some (d, p) from hf)
 obtain ⟨y0, y1, rfl⟩ : ∃ c0 c1, xs = [c0, c1] := by
  match xs, hxl with
  | [a, b], _ => exact ⟨a, b, rfl⟩
 have k0 := hf 0 (by omega); have k1 := hf 1 (by omega); rw [cells_int] at k0 k1; obtain ⟨m0, e0, _, w0⟩ := DataW.trod_int Tryz.underlying3 (show DataW.trod enc Tryz.prog w base spare held n' 3 [c0] = some y0 from k0); obtain ⟨m1, e1, _, w1⟩ := DataW.trod_int Tryz.underlying3 (show DataW.trod enc Tryz.prog w base spare held n' 3 [c1] = some y1 from k1)
 obtain rfl : c0 = .int .i64 m0 := by simpa using e0
 obtain rfl : c1 = .int .i64 m1 := by simpa using e1
 exact ⟨m0, m1, rfl, I64.of w0, I64.of w1⟩
set_option maxRecDepth 100000 in
theorem open_at3 {r : Reach} {b0 : Nat} {v : Value} {d : DataW H} {p : List MemPlace} (hv : Value.okWide Tryz.prog w r b0 50 v) (h : DataW.Trod enc Tryz.prog w base spare held 50 v d p) :
    ∃ a b c : Int, v = .agg #[.int .i64 a, .int .i64 b, .int .i64 c] ∧ I64 a ∧ I64 b ∧ I64 c := by
 simp only [Value.okWide, Tryz.underlying50] at hv; obtain ⟨cs, rfl, hsz, _⟩ := hv
 obtain ⟨c0, c1, c2, rfl⟩ : ∃ c0 c1 c2, cs = #[c0, c1, c2] := by
  have h2 := hsz.trans (show Tryz.prog.cellsOf 50 = 3 by kernel_rfl); obtain ⟨l⟩ := cs
  match l, h2 with
  | [a, b, c], _ => exact ⟨a, b, c, rfl⟩
 obtain ⟨fuel, hf⟩ := h; obtain ⟨⟨a, b, c⟩, e, h0, h1, h2⟩ := thr_el (show DataW.trod enc Tryz.prog w base spare held fuel 50 [c0, c1, c2] = some (d, p) from hf)
 obtain ⟨rfl, rfl, rfl⟩ : c0 = .int .i64 a ∧ c1 = .int .i64 b ∧ c2 = .int .i64 c := by simpa [thrV] using e
 exact ⟨a, b, c, rfl, h0, h1, h2⟩
end
end Go.Proofs.YtikpmmipopmjaaaGreatDoor
set_option linter.unusedSimpArgs false
namespace Go.Ms
open Go.RowKit Go.Lib
theorem evCell_sz (t : Ty) (n : Int) : (evCell t n).2.2.size ≤ 8 := by
 have h0 : (ByteArray.mk #[]).size ≤ 8 := by decide
 unfold evCell
 split
 · exact h0
 · split
   · exact h0
   · split
     · exact h0
     · split
       · exact h0
       · show (ByteArray.mk ((#[97, 98, 99, 100, 101, 102, 103, 104] : Array UInt8).extract 0 (n % 9).toNat)).size ≤ 8
         rcases ev_nine (n := n % 9) ⟨by omega, by omega⟩ with e | e | e | e | e | e | e | e | e <;> rw [e] <;> decide +kernel
theorem evRowAt_sz8 (n : List Int) : ∀ (cs : List Co) (i : Nat), ∀ c ∈ evRowAt n i cs, c.2.2.size ≤ 8
  | [], i, c, h => by simp [evRowAt] at h
  | a :: r, i, c, h => by
   rw [evRowAt] at h
   rcases List.mem_cons.1 h with rfl | h
   · exact evCell_sz _ _
   · exact evRowAt_sz8 n r (i + 1) c h
theorem evRowAt_sz (n : List Int) (cs : List Co) (i : Nat) : ∀ c ∈ evRowAt n i cs, c.2.2.size ≤ 100000 := fun c h => by have := evRowAt_sz8 n cs i c h; omega
theorem moved_szM {M : Nat} {a b : List Co} {r : List Cl} (hb : ∀ d ∈ b, d.2.2.2.2.2.size ≤ M) (hr : ∀ c ∈ r, c.2.2.size ≤ M) : ∀ c ∈ evMoved a b r, c.2.2.size ≤ M := by
 intro c hc
 unfold evMoved at hc; obtain ⟨d, hd, rfl⟩ := List.mem_map.1 hc
 cases evAt a d.1 with
 | none => exact hb d hd
 | some k =>
  simp only [List.getD_eq_getElem?_getD]
  cases e : r[k]? with
  | none => exact Nat.zero_le _
  | some x => exact hr x (List.mem_of_getElem? e)
theorem moved_sz {a b : List Co} {r : List Cl} (hb : ScSz b) (hr : ∀ c ∈ r, c.2.2.size ≤ 100000) : ∀ c ∈ evMoved a b r, c.2.2.size ≤ 100000 := moved_szM (fun d hd => (hb d hd).2) hr
theorem along_sz : ∀ (l : List Sc) (a : Sc) (r : List Cl), (∀ s ∈ l, ScSz s.1) → (∀ c ∈ r, c.2.2.size ≤ 100000) → ∀ c ∈ evAlong a l r, c.2.2.size ≤ 100000
  | [], a, r, _, h => h
  | b :: l, a, r, h1, h => by
   rw [evAlong]; exact along_sz l b _ (fun s hs => h1 s (by simp [hs])) (moved_sz (h1 b (by simp)) h)
theorem carry_sz {l : List Sc} {f t : Int} {r : List Cl} (h1 : ∀ s ∈ l, ScSz s.1) (h : ∀ c ∈ r, c.2.2.size ≤ 100000) : ∀ c ∈ (evCarry l f t r).1, c.2.2.size ≤ 100000 := by
 unfold evCarry
 split
 · split
   · intro c hc; simp at hc
   · split
     · exact along_sz _ _ _ (fun s hs => h1 s (List.mem_of_mem_drop (List.mem_of_mem_take hs))) h
     · intro c hc; simp at hc
 · intro c hc; simp at hc
theorem sc_sz {cs : List Co} {ks : List Int} (h : scOk cs ks = true) : ScSz cs := fun c hc => by
 have := coOk_small ((sc_cols h).1 c hc); omega
theorem seed_sz (C : List Int) (V : List (Int × Int × Int)) : ∀ s ∈ evSeed C V, ScSz s.1 := fun s hs => sc_sz (chain_ok (evSeed_chain C V) s hs)
theorem seed_many (C : List Int) (V : List (Int × Int × Int)) : 1 ≤ (evSeed C V).length ∧ (evSeed C V).length ≤ 8 := by
 have h := evSeed_len C V
 have : (V.take 7).length ≤ 7 := by rw [List.length_take]; omega
 omega
theorem RwLay.own {W : World} {B : Nat} {e : TypeId} {v : Value} {r : List Cl} (h : OwnC W B e v r) (hl : r.length ≤ 100000) (hs : ∀ c ∈ r, c.2.2.size ≤ 100000) : ∃ C c, v = .slice C r.length c ∧ RwLay W C r.length r := by
 obtain ⟨C, c, rfl, -, -⟩ := yown_slice h; exact ⟨C, c, rfl, rfl, hl, Lay.of_own h (Nat.le_refl _), hs⟩
end Go.Ms
