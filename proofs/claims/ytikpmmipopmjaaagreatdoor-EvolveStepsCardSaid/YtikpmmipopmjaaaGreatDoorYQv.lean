/- Schemas that follow each other, plainly. Schemas that follow each other, plainly: a row carried along a chain is what it is if it is moved at once. Evolve: two boxes of a call's own; columns as they stand (plain). A region that draws its order, whose last operation waits for all others: as XRel's rule, the last one carried out behind it. A region that draws its order, reads, and fills two new boxes: q, then two new boxes, then a store into each. -/
import Derived.Test.YtikpmmipopmjaaaGreatDoorYQl
import Derived.Test.YtikpmmipopmjaaaGreatDoorYQo
set_option linter.unusedVariables false
set_option linter.unusedSimpArgs false
namespace Go.Ms
abbrev Sc := List Co × List Int
def evSame (a b : Co) : Bool := decide (a.2.1 = b.2.1) && decide (a.2.2.2 = b.2.2.2) && (a.2.2.1.2 == b.2.2.1.2) && (decide (a.2.2.1.1 = b.2.2.1.1) || (decide (a.2.2.1.1 = 2) && decide (b.2.2.1.1 = 3)))
def evLast (cs : List Co) : Int := (cs.getLast?.map fun c => c.1).getD 0
def evKeys (s : Sc) : List Int := s.2.map fun k => (s.1.getD k.toNat zCo).1
def evAt (cs : List Co) (id : Int) : Option Nat := cs.findIdx? fun c => decide (c.1 = id)
def evCol (cs : List Co) (above : Int) (d : Co) : Bool := match evAt cs d.1 with
 | some k => evSame (cs.getD k zCo) d
 | none => decide (above < d.1)
def evFollows (a b : Sc) (above : Int) : Bool := b.1.all (evCol a.1 above) && decide (evKeys a = evKeys b)
def evStep (a b : Sc) : Int := if scOk a.1 a.2 = true ∧ scOk b.1 b.2 = true then (if evFollows a b (evLast a.1) = true then 0 else 120) else 2
def evLinks : Sc → Int → List Sc → Bool
  | _, _, [] => true
  | p, ab, s :: r => evFollows p s ab && evLinks s (max ab (evLast s.1)) r
def evChain (l : List Sc) : Int := if 64 < l.length then 5 else if (l.all fun s => scOk s.1 s.2) = true then (match l with
 | [] => 0
 | s :: r => if evLinks s (max 0 (evLast s.1)) r = true then 0 else 120) else 2
def evMoved (a b : List Co) (r : List Cl) : List Cl := b.map fun d => match evAt a d.1 with
 | some k => r.getD k zCl
 | none => d.2.2.2
def evMove (a b : Sc) (r : List Cl) : List Cl × Int := if evStep a b = 0 then (if rCheck (coTys a.1) r = 0 then (evMoved a.1 b.1 r, 0) else ([], rCheck (coTys a.1) r)) else ([], evStep a b)
def evAlong : Sc → List Sc → List Cl → List Cl
  | _, [], r => r
  | a, b :: l, r => evAlong b l (evMoved a.1 b.1 r)
def zSc : Sc := ([], [])
def evCarry (l : List Sc) (f t : Int) (r : List Cl) : List Cl × Int :=
  if evChain l = 0 then (if f < 1 ∨ t < f ∨ (l.length : Int) < t then ([], 131) else if rCheck (coTys (l.getD (f.toNat - 1) zSc).1) r = 0 then (evAlong (l.getD (f.toNat - 1) zSc) ((l.drop f.toNat).take (t - f).toNat) r, 0) else ([], rCheck (coTys (l.getD (f.toNat - 1) zSc).1) r)) else ([], evChain l)
theorem evAt_some {cs : List Co} {id : Int} {k : Nat} (h : evAt cs id = some k) : ∃ c, cs[k]? = some c ∧ c.1 = id := by
 unfold evAt at h; rw [List.findIdx?_eq_some_iff_getElem] at h; obtain ⟨h1, h2, _⟩ := h; exact ⟨_, List.getElem?_eq_getElem h1, by simpa using h2⟩
theorem evAt_none {cs : List Co} {id : Int} (h : evAt cs id = none) : ∀ c ∈ cs, c.1 ≠ id := by
 unfold evAt at h; rw [List.findIdx?_eq_none_iff] at h
 intro c hc
 simpa using h c hc
def IdsUp (cs : List Co) : Prop := ∀ (j i : Nat) a b, i < j → cs[i]? = some a → cs[j]? = some b → a.1 < b.1
theorem ids_up {cs : List Co} {ks : List Int} (h : ScOk cs ks) : IdsUp cs := by
 intro j
 induction j with
 | zero => intro i a b hij; omega
 | succ j ih =>
  intro i a b hij ha hb
  by_cases e : i = j
  · subst e; exact h.up i a b ha hb
  · have hl := (List.getElem?_eq_some_iff.1 hb).1; have h1 := ih i a _ (by omega) ha (List.getElem?_eq_getElem (by omega)); have h2 := h.up j _ b (List.getElem?_eq_getElem (by omega)) hb; omega
theorem evAt_of {cs : List Co} (hu : IdsUp cs) {k : Nat} {c : Co} (h : cs[k]? = some c) : evAt cs c.1 = some k := by
 cases he : evAt cs c.1 with
 | none => exact absurd rfl (evAt_none he c (List.mem_of_getElem? h))
 | some j =>
  obtain ⟨d, hd, e⟩ := evAt_some he
  rcases Nat.lt_trichotomy j k with h1 | h1 | h1
  · have := hu k j d c h1 hd h; omega
  · rw [h1]
  · have := hu j k c d h1 h hd; omega
theorem moved_len (a b : List Co) (r : List Cl) : (evMoved a b r).length = b.length := by unfold evMoved; rw [List.length_map]
end Go.Ms
set_option linter.unusedSimpArgs false
namespace Go.Ms
theorem along_app : ∀ (l m : List Sc) (a : Sc) (r : List Cl), evAlong a (l ++ m) r = evAlong ((a :: l).getLast (by simp)) m (evAlong a l r)
  | [], m, a, r => rfl
  | b :: l, m, a, r => by
   have e : (a :: b :: l).getLast (by simp) = (b :: l).getLast (by simp) := List.getLast_cons (by simp); rw [List.cons_append, evAlong, evAlong, along_app l m b, e]
theorem chain_parts {s : Sc} {l : List Sc} (h : evChain (s :: l) = 0) : (s :: l).length ≤ 64 ∧ (∀ t ∈ s :: l, scOk t.1 t.2 = true) ∧ evLinks s (max 0 (evLast s.1)) l = true := by
 unfold evChain at h
 split at h
 · omega
 · rename_i h1
   split at h
   · rename_i h2
     simp only at h
     split at h
     · rename_i h3
       exact ⟨by omega, by simpa [List.all_eq_true] using h2, h3⟩
     · omega
   · omega
end Go.Ms
set_option linter.unusedSimpArgs false
namespace Go.Ms
open Go.RowKit Go.Lib
structure Bx2 (o0 o1 : Obj) (w W : World) : Prop where
  b0 : W.heap[w.heap.size]? = some o0
  b1 : W.heap[w.heap.size + 1]? = some o1
  bel : Below w.heap.size w W
theorem Bx2.start (va vb : Array Value) (ta tb : TypeId) (w : World) : Bx2 (.cells va ta (0, 0)) (.cells vb tb (0, 0)) w ((w.alloc (.cells va ta)).alloc (.cells vb tb)) := by
 refine ⟨block_next (block_new _ _) _, ?_, ((Below.refl _ w).alloc (Nat.le_refl _) _).alloc (by rw [World.size_alloc]; omega) _⟩; have := block_new (w.alloc (.cells va ta)) (.cells vb tb); rw [World.size_alloc] at this; exact this
theorem Bx2.step {o0 o1 : Obj} {w W W' : World} (h : Bx2 o0 o1 w W) (hb : Below W.heap.size W W') : Bx2 o0 o1 w W' :=
  ⟨block_kept h.b0 hb, block_kept h.b1 hb, h.bel.trans (hb.mono h.bel.size)⟩
theorem Bx2.alloc {o0 o1 : Obj} {w W : World} (h : Bx2 o0 o1 w W) (o : Obj) : Bx2 o0 o1 w (W.alloc o) := h.step ((Below.refl _ W).alloc (Nat.le_refl _) o)
theorem rfind_at (cs : List Co) (v : Int) : coFind (fun c => decide (c.1 = v)) cs = match evAt cs v with
    | some k => (k, true)
    | none => (0, false) := by
 unfold coFind evAt; rfl
theorem rcol_none {cs : List Co} {ab : Int} {d : Co} (h : evAt cs d.1 = none) : evCol cs ab d = decide (ab < d.1) := by unfold evCol; rw [h]
theorem rcol_some {cs : List Co} {ab : Int} {d : Co} {k : Nat} (h : evAt cs d.1 = some k) : evCol cs ab d = evSame (cs.getD k zCo) d := by unfold evCol; rw [h]
theorem rall_snoc {cs : List Co} {ab : Int} {pre : List Co} {x : Co} (h : pre.all (evCol cs ab) = true) (hx : evCol cs ab x = true) : (pre ++ [x]).all (evCol cs ab) = true := by rw [List.all_append, h]; simp [hx]
structure ColAt (g o B : Nat) (i1 : Int) (s1 : ByteArray) (k1 : Int) (u1 n1 : Bool) (m1 : Int) (t1 : ByteArray) (W : World) : Prop where
  lt : g < B
  c0 : W.cell? ⟨g, o, none⟩ = some (.int .i64 i1)
  c1 : W.cell? ⟨g, o + 1, none⟩ = some (.string s1)
  c2 : W.cell? ⟨g, o + 2, none⟩ = some (.int .i64 k1)
  c3 : W.cell? ⟨g, o + 3, none⟩ = some (.bool u1)
  c4 : W.cell? ⟨g, o + 4, none⟩ = some (.bool n1)
  c5 : W.cell? ⟨g, o + 5, none⟩ = some (.int .i64 m1)
  c6 : W.cell? ⟨g, o + 6, none⟩ = some (.string t1)
theorem ColAt.below {g o B : Nat} {i1 : Int} {s1 : ByteArray} {k1 : Int} {u1 n1 : Bool} {m1 : Int} {t1 : ByteArray} {W W' : World} (h : ColAt g o B i1 s1 k1 u1 n1 m1 t1 W) (hb : Below B W W') : ColAt g o B i1 s1 k1 u1 n1 m1 t1 W' :=
  ⟨h.lt, (hb.cell h.lt).trans h.c0, (hb.cell h.lt).trans h.c1, (hb.cell h.lt).trans h.c2, (hb.cell h.lt).trans h.c3, (hb.cell h.lt).trans h.c4, (hb.cell h.lt).trans h.c5, (hb.cell h.lt).trans h.c6⟩
theorem ColAt.more {g o B B' : Nat} {i1 : Int} {s1 : ByteArray} {k1 : Int} {u1 n1 : Bool} {m1 : Int} {t1 : ByteArray} {W : World} (h : ColAt g o B i1 s1 k1 u1 n1 m1 t1 W) (hb : B ≤ B') : ColAt g o B' i1 s1 k1 u1 n1 m1 t1 W :=
  ⟨Nat.lt_of_lt_of_le h.lt hb, h.c0, h.c1, h.c2, h.c3, h.c4, h.c5, h.c6⟩
theorem Lay.colAt {W : World} {B : Nat} {A : Option Addr} {cs : List Co} {k : Nat} {i1 : Int} {s1 : ByteArray} {k1 : Int} {u1 n1 : Bool} {m1 : Int} {t1 : ByteArray} (h : Lay W B A (colV cs)) (hk : cs[k]? = some (i1, s1, (k1, u1), n1, m1, t1)) : ∃ g o, A = some ⟨g, o, none⟩ ∧ ColAt g (o + k * 7) B i1 s1 k1 u1 n1 m1 t1 W := by
 obtain ⟨g, o, e, hg, h1, h2, h3, h4, h5, h6, h7⟩ := h.co hk; exact ⟨g, o, e, hg, h1, h2, h3, h4, h5, h6, h7⟩
end Go.Ms
set_option linter.unusedSimpArgs false
namespace Go.Rel
open Go Go.RowKit
def guardsIn (l : Array Oper) : Bool := l.toList.all fun o => match o.guard with
 | none => true
 | some (g, _) => decide (g < l.size)
def waitsAll (md : Region.Mode) (n : Nat) (o : Oper) : Bool := ((List.range n).all fun k => o.after.toList.any fun e => Region.binds md e && e.on == k) && o.after.toList.all fun e => !Region.binds md e || decide (e.on < n)
section
variable {P : Program} {md : Region.Mode} {l : Array Oper} {a0 : Act} {w0 : World} {prs : Nat → Value → World → Prop} {o : Oper}
theorem yielded_push (tmps : Array Value) {g : Nat} (hg : g < l.size) : yielded (l.push o) tmps g = yielded l tmps g := by
 unfold yielded; rw [Array.getElem?_push_lt hg, Array.getElem?_eq_getElem hg]
theorem wanted_push {x : Oper} {i : Nat} (hgi : guardsIn l = true) (hx : l[i]? = some x) (a : Act) : Region.wanted x (yielded (l.push o) a.tmps) = wantedEv l a.eval x := by
 rw [← wantedEv_eq]; unfold guardsIn at hgi; have := List.all_eq_true.1 hgi x (Array.mem_toList_iff.2 (Array.mem_of_getElem? hx)); unfold Region.wanted
 cases hq : x.guard with
 | none => rfl
 | some p =>
  obtain ⟨g, b⟩ := p; rw [hq] at this; simp only [decide_eq_true_eq] at this
  simp only
  rw [yielded_push _ this]
theorem push_getD {listed : Array Bool} {i : Nat} {b d : Bool} (hi : i < listed.size) : (listed.push b).getD i d = listed.getD i d := by
 simp [Array.getElem?_push_lt hi, hi]
theorem push_set {listed : Array Bool} {i : Nat} {b : Bool} (hi : i < listed.size) : (listed.push b).setIfInBounds i true = (listed.setIfInBounds i true).push b := by
 apply Array.ext_getElem?
 intro j
 by_cases hj : j = i
 · subst hj; rw [Array.getElem?_setIfInBounds_self_of_lt (by simp; omega), Array.getElem?_push_lt (by simpa using hi)]
   simp [hi]
 · rw [Array.getElem?_setIfInBounds_ne (fun e => hj e.symm)]
   by_cases hjl : j < listed.size
   · rw [Array.getElem?_push_lt hjl, Array.getElem?_push_lt (by simpa using hjl)]; rw [← Array.getElem?_eq_getElem, ← Array.getElem?_eq_getElem, Array.getElem?_setIfInBounds_ne (fun e => hj e.symm)]
   · have hne : i ≠ j := fun e => hj e.symm
     simp [Array.getElem?_push, Array.getElem?_setIfInBounds_ne hne]
theorem any_rel_last (hg : good md l a0.tmps.size = true) (hgi : guardsIn l = true) (hw : waitsAll md l.size o = true) (hno : o.guard = none) (hp : ∀ k x, l[k]? = some x → Prem P md l a0 w0 prs k x) {Q : Exit → Act → World → Prop}
    (hQ : ∀ (listed : Array Bool) a w, (∀ i, i < l.size → listed.getD i false = true) → Inv (ops := l) (a0 := a0) (w0 := w0) (prs := prs) listed a w → o.wp P a w (fun a w => Q .normal a w) Q) :
    ∀ (fuel : Nat) (listed : Array Bool) (a : Act) (w : World), listed.size = l.size → left listed = fuel → Inv (ops := l) (a0 := a0) (w0 := w0) (prs := prs) listed a w → wpAny P md (l.push o) Q (fuel + 1) (listed.push false) a w := by
 unfold waitsAll at hw; simp only [Bool.and_eq_true] at hw
 have hon : ∀ e ∈ o.after, Region.binds md e = true → e.on < l.size := fun e he hb => by
  have := List.all_eq_true.1 hw.2 e (Array.mem_toList_iff.2 he)
  simpa [hb] using this
 have hwa : ∀ k, k < l.size → ∃ e ∈ o.after, Region.binds md e = true ∧ e.on = k := fun k hk => by
  have := List.all_eq_true.1 hw.1 k (List.mem_range.2 hk); obtain ⟨e, he, h2⟩ := List.any_eq_true.1 this; simp only [Bool.and_eq_true, beq_iff_eq] at h2; exact ⟨e, Array.mem_toList_iff.1 he, h2⟩
 intro fuel
 induction fuel with
 | zero =>
  intro listed a w hl h0 hI
  have hall : ∀ i, i < l.size → listed.getD i false = true := by
   intro i hi
   have hil : i < listed.size := by omega
   unfold left at h0; have := List.countP_eq_zero.1 h0 (listed[i]) (Array.mem_toList_iff.2 (Array.getElem_mem hil))
   simp [hil]
   simpa using this
  have hn : (l.push o)[l.size]? = some o := by simp
  have hend : ∀ j, j ≤ l.size → ((listed.push false).setIfInBounds l.size true).getD j false = true := by
   intro j hj
   rw [listed_set (by simp; omega)]
   by_cases hjn : j = l.size
   · exact .inl hjn
   · exact .inr (by rw [push_getD (by omega)]; exact hall j (by omega))
  refine ⟨fun hr => ?_, fun i hi => ?_⟩
  · exfalso
    have : l.size ∈ Region.ready md (l.push o) (listed.push false) := by
     rw [mem_ready]; refine ⟨by rw [← hl]; simp, o, hn, fun e he hb => ?_⟩; have h2 := hon e he hb; rw [push_getD (by omega)]; exact hall _ h2
    rw [hr] at this
    cases this
  · obtain ⟨hu, x, hx, hdep⟩ := mem_ready.1 hi
    have hin : i = l.size := by
     have h1 := (Array.getElem?_eq_some_iff.1 hx).1; rw [Array.size_push] at h1
     by_cases h2 : i < l.size
     · exfalso
       have h3 := hall i h2; rw [push_getD (by omega)] at hu
       have hil : i < listed.size := by omega
       simp [hil] at hu h3
       rw [h3] at hu
       cases hu
     · omega
    subst hin; unfold wpOp; rw [hn]
    simp only
    rw [if_pos (by unfold Region.wanted; rw [hno])]; refine .inl (Oper.wp_mono (fun a w h => ⟨?_, h⟩) (hQ listed a w hall hI))
    apply List.eq_nil_iff_forall_not_mem.2
    intro j hj
    obtain ⟨h1, y, hy, _⟩ := mem_ready.1 hj; have hjl := (Array.getElem?_eq_some_iff.1 hy).1; rw [Array.size_push] at hjl; have h2 := hend j (by omega)
    have hjs : j < ((listed.push false).setIfInBounds l.size true).size := by simp; omega
    simp only [Array.getD_eq_getD_getElem?, Array.getElem?_eq_getElem hjs, Option.getD_some] at h1 h2; rw [h1] at h2
    cases h2
 | succ fuel ih =>
  intro listed a w hl h0 hI
  obtain ⟨u, hul, huf⟩ : ∃ i, i < l.size ∧ listed.getD i false = false := by
   unfold left at h0
   have hpos : 0 < listed.toList.countP (· == false) := by omega
   obtain ⟨b, hb, hbf⟩ := List.countP_pos_iff.1 hpos; obtain ⟨i, hi, hib⟩ := List.getElem_of_mem hb
   have hil : i < listed.size := by simpa using hi
   refine ⟨i, by omega, ?_⟩
   have : listed[i] = b := by simpa using hib
   simp [hil, this]
   simpa using hbf
  refine ⟨fun hr => ?_, fun i hi => ?_⟩
  · exfalso
    have h1 := ready_some hg hl hul huf; obtain ⟨j, hj⟩ := List.exists_mem_of_ne_nil _ h1; obtain ⟨h2, x, hx, hd⟩ := mem_ready.1 hj; have hjl := (Array.getElem?_eq_some_iff.1 hx).1
    have : j ∈ Region.ready md (l.push o) (listed.push false) := by
     rw [mem_ready]; refine ⟨by rw [push_getD (by omega)]; exact h2, x, by rw [Array.getElem?_push_lt hjl]; rw [Array.getElem?_eq_getElem hjl] at hx; exact hx, fun e he hb => ?_⟩; obtain ⟨_, _, _, _, hlt⟩ := good_at hg hx; have := hlt e he hb; rw [push_getD (by omega)]; exact hd e he hb
    rw [hr] at this
    cases this
  · obtain ⟨hu, x, hx, hdep⟩ := mem_ready.1 hi; have hxs := (Array.getElem?_eq_some_iff.1 hx).1; rw [Array.size_push] at hxs
    have hil : i < l.size := by
     by_cases h2 : i < l.size
     · exact h2
     · exfalso
       have hin : i = l.size := by omega
       subst hin
       have hxo : x = o := by
        have : (l.push o)[l.size]? = some o := by simp
        rw [this] at hx; exact (Option.some.inj hx).symm
       subst hxo; obtain ⟨e, he, hb, hek⟩ := hwa u hul; have h3 := hdep e he hb; rw [hek, push_getD (by omega), huf] at h3
       cases h3
    have hx' : l[i]? = some x := by rw [Array.getElem?_push_lt hil] at hx; rw [Array.getElem?_eq_getElem hil]; exact hx
    have hils : i < listed.size := by omega
    have hu' : listed.getD i true = false := by rw [push_getD hils] at hu; exact hu
    have hstep : ∀ v w', Below w.heap.size w w' → prs i v w' → wpAny P md (l.push o) Q (fuel + 1) ((listed.push false).setIfInBounds i true) (a.put x.dst v) w' := fun v w' hb hv => by
     rw [push_set hils]; exact ih _ _ _ (by simpa using hl) (by have := left_set hils hu'; omega) (Inv.put hg (fun k o h => (hp k o h).1) hl hx' hI hb hv)
    have hprem := (hp i x hx').2 a.eval w hI.bel (fun t ht => ?_) (fun _ => rfl) (fun _ => rfl) (fun _ => rfl) (fun k e hk hb d hd => hI.claim e.on d (by
      have he := Array.mem_of_getElem? hk; obtain ⟨_, _, _, _, hlt⟩ := good_at hg hx'; have h4 := hdep e he hb; rw [push_getD (by have := hlt e he hb; omega)] at h4
      exact h4) hd)
    · unfold wpOp; rw [hx]
      simp only
      rw [wanted_push hgi hx']
      split
      · rename_i hw'
        rw [if_pos hw'] at hprem; exact .inl (wp_of_rel (relUpon_mono (fun v w' h => hstep v w' h.1 h.2) hprem))
      · rename_i hw'
        rw [if_neg hw'] at hprem; exact hstep _ _ (Below.refl _ _) hprem
    · have := hI.base t fun j _ hd => by rw [isDst_of hd] at ht; cases ht
      simp [Act.eval, this]
end
theorem wp_region_last {P : Program} {id : Nat} {Q : Exit → Act → World → Prop} {l : List Oper} {o : Oper} (ps : List (Value → World → Prop)) {a0 : Act} {w0 : World} (hm : P.follows .mixedOrders = true) (hg : good .any l.toArray a0.tmps.size = true)
    (hgi : guardsIn l.toArray = true) (hw : waitsAll .any l.toArray.size o = true) (hno : o.guard = none)
    (hp : Prems P .any l.toArray a0 w0 (sel ps) 0 l) (hend : ∀ w, Below w0.heap.size w0 w → relEnd (sel ps) w (fun a => o.wp P a w (fun a w => Q .normal a w) Q) 0 l a0) : (Code.region id (l.toArray.push o) true).wp P Q a0 w0 := by
 refine wp_region_any hm ?_
 have hpa : ∀ k o, l.toArray[k]? = some o → Prem P .any l.toArray a0 w0 (sel ps) k o := fun k o h => by
  have := prems_at l 0 hp k o (by simpa using h)
  rwa [Nat.zero_add] at this
 have hrep : Array.replicate (l.toArray.push o).size false = (Array.replicate l.toArray.size false).push false := by
  rw [Array.size_push]; exact Array.replicate_succ
 have hfuel : (l.toArray.push o).size = l.toArray.size + 1 := Array.size_push _; rw [hrep, hfuel]; refine any_rel_last hg hgi hw hno hpa (fun listed a w hall hI => ?_) _ _ _ _ (by simp) ?_ ⟨rfl, rfl, fun _ _ => rfl, fun i d hi => ?_, ⟨rfl, rfl, rfl, Nat.le_refl _, fun _ _ => rfl⟩⟩
 · have h := relEnd_inst (fun i => match dstAt l.toArray i with | some d => a.eval (.tmp d) | none => undef) l 0 a0 (hend w hI.bel) (fun k hk => ?_)
   · have he : putsL (fun i => match dstAt l.toArray i with | some d => a.eval (.tmp d) | none => undef) 0 l a0 = a := by
       obtain ⟨h1, h2⟩ := putsL_size (fun i => match dstAt l.toArray i with | some d => a.eval (.tmp d) | none => undef) l 0 a0; refine act_ext ?_ (h2.trans hI.defers.symm)
       apply Array.ext_getElem?
       intro t
       by_cases ht : t < a0.tmps.size
       · refine putsL_get _ t _ l 0 a0 ht (fun k o hk hd => ?_) ?_
         · have hdk : dstAt l.toArray (0 + k) = some t := by unfold dstAt; rw [Nat.zero_add]; simp [hk, hd]
           rw [hdk]
           have hta : t < a.tmps.size := by rw [hI.size]; exact ht
           simp [Act.eval, hta]
         · by_cases hex : ∃ (k : Nat) (o : Oper), l[k]? = some o ∧ o.dst = some t
           · exact .inr hex
           · left
             refine (hI.base t fun j _ hd => hex ?_).symm; unfold dstAt at hd
             cases hoj : l.toArray[j]? with
             | none => simp [hoj] at hd
             | some oj => exact ⟨j, oj, by simpa using hoj, by simpa [hoj] using hd⟩
       · rw [Array.getElem?_eq_none (by rw [h1]; omega), Array.getElem?_eq_none (by rw [hI.size]; omega)]
     rw [he] at h; exact h
   · rw [Nat.zero_add]; obtain ⟨o, ho⟩ : ∃ o, l.toArray[k]? = some o := ⟨_, Array.getElem?_eq_getElem (by simpa using hk)⟩; obtain ⟨d, hd, _⟩ := good_at hg ho
     have hdk : dstAt l.toArray k = some d := by unfold dstAt; rw [ho]; exact hd
     have := hI.claim k d (hall k (by simpa using hk)) hdk; simp only [hdk]; exact this
 · unfold left; rw [Array.toList_replicate, List.countP_replicate]
   simp
 · exfalso
   have h2 : (Array.replicate l.toArray.size false).getD i false = false := by
    by_cases h : i < l.length
    · simp [h]
    · simp [h]
   rw [h2] at hi
   cases hi
end Go.Rel
set_option linter.unusedSimpArgs false
namespace Go.Rel
open Go Go.RowKit
def depsBack (md : Region.Mode) (ops : Array Oper) : Bool := (List.range ops.size).all fun i => match ops[i]? with
 | none => true
 | some o => o.after.toList.all fun e => !Region.binds md e || decide (e.on < i)
def dstsOk (ops : Array Oper) (n : Nat) : Bool := (List.range ops.size).all fun i => match dstAt ops i with
 | none => true
 | some d => decide (d < n) && (List.range ops.size).all fun j => j == i || dstAt ops j != some d
def waitsFor (md : Region.Mode) (o : Oper) (k : Nat) : Bool := o.after.toList.any fun e => Region.binds md e && e.on == k
section
variable {P : Program} {md : Region.Mode} {ops : Array Oper} {a0 : Act} {w0 : World}
theorem back_at (h : depsBack md ops = true) {i : Nat} {o : Oper} (hi : ops[i]? = some o) : ∀ e ∈ o.after, Region.binds md e = true → e.on < i := fun e he hb => by
 unfold depsBack at h; have := List.all_eq_true.1 h i (List.mem_range.2 (Array.getElem?_eq_some_iff.1 hi).1); rw [hi] at this; have := List.all_eq_true.1 this e (Array.mem_toList_iff.2 he)
 simpa [hb] using this
theorem dst_lt {i : Nat} {d : Tmp} (h : dstAt ops i = some d) : i < ops.size := by
 unfold dstAt at h
 cases ho : ops[i]? with
 | none => simp [ho] at h
 | some o => exact (Array.getElem?_eq_some_iff.1 ho).1
theorem dsts_at (h : dstsOk ops a0.tmps.size = true) {i : Nat} {d : Tmp} (hi : dstAt ops i = some d) : d < a0.tmps.size ∧ ∀ j, j ≠ i → dstAt ops j ≠ some d := by
 unfold dstsOk at h; have := List.all_eq_true.1 h i (List.mem_range.2 (dst_lt hi)); rw [hi] at this; simp only [Bool.and_eq_true, decide_eq_true_eq] at this; refine ⟨this.1, fun j hj hdj => ?_⟩; have := List.all_eq_true.1 this.2 j (List.mem_range.2 (dst_lt hdj))
 simp [hj, hdj] at this
theorem ready_back (hg : depsBack md ops = true) {listed : Array Bool} (hl : listed.size = ops.size) {i : Nat} (hi : i < ops.size) (hu : listed.getD i false = false) : Region.ready md ops listed ≠ [] := by
 obtain ⟨m, hm, hmin⟩ : ∃ m, (m < ops.size ∧ listed.getD m false = false) ∧ ∀ j, j < m → listed.getD j false = true := by
  have : ∀ n, (∃ k, k ≤ n ∧ k < ops.size ∧ listed.getD k false = false) → ∃ m, (m < ops.size ∧ listed.getD m false = false) ∧ ∀ j, j < m → listed.getD j false = true := by
   intro n
   induction n with
   | zero =>
    rintro ⟨k, hk, h1, h2⟩
    obtain rfl : k = 0 := by omega
    exact ⟨0, ⟨h1, h2⟩, fun j hj => by omega⟩
   | succ n ih =>
    rintro ⟨k, hk, h1, h2⟩
    by_cases hex : ∃ k, k ≤ n ∧ k < ops.size ∧ listed.getD k false = false
    · exact ih hex
    · have hkn : k = n + 1 := by
        by_cases hkn : k ≤ n
        · exact absurd ⟨k, hkn, h1, h2⟩ hex
        · omega
      refine ⟨k, ⟨h1, h2⟩, fun j hj => ?_⟩
      cases hjv : listed.getD j false with
      | true => rfl
      | false => exact absurd ⟨j, by omega, by omega, hjv⟩ hex
  exact this i ⟨i, Nat.le_refl _, hi, hu⟩
 intro h
 obtain ⟨o, ho⟩ : ∃ o, ops[m]? = some o := ⟨_, Array.getElem?_eq_getElem hm.1⟩
 have : m ∈ Region.ready md ops listed := by
  rw [mem_ready]; refine ⟨?_, o, ho, fun e he hb => hmin _ (back_at hg ho e he hb)⟩; have := hm.2
  have hml : m < listed.size := by rw [hl]; exact hm.1
  simp [hml] at this ⊢
  exact this
 rw [h] at this
 cases this
theorem set_ne {listed : Array Bool} {i j : Nat} (h : j ≠ i) (b : Bool) : (listed.setIfInBounds i true).getD j b = listed.getD j b := by
 have : i ≠ j := fun e => h e.symm
 simp [Array.getElem?_setIfInBounds_ne this]
theorem set_eq {listed : Array Bool} {i : Nat} (h : i < listed.size) (b : Bool) : (listed.setIfInBounds i true).getD i b = true := by simp [h]
theorem getD_not {listed : Array Bool} {i : Nat} (h : listed.getD i true = false) : listed.getD i false = false := by
 by_cases hi : i < listed.size
 · simp [hi] at h ⊢; exact h
 · simp [hi] at h
theorem base_put {listed : Array Bool} {a : Act} {i : Nat} {o : Oper} {v : Value} (hil : i < listed.size) (ho : ops[i]? = some o) (h : ∀ t, (∀ i, listed.getD i false = true → dstAt ops i ≠ some t) → a.tmps[t]? = a0.tmps[t]?) :
    ∀ t, (∀ j, (listed.setIfInBounds i true).getD j false = true → dstAt ops j ≠ some t) → (a.put o.dst v).tmps[t]? = a0.tmps[t]? := fun t ht => by
 have h0 := h t fun j hj => ht j ((listed_set hil).2 (.inr hj))
 cases hd : o.dst with
 | none => exact h0
 | some d =>
  have h1 : d ≠ t := fun e => ht i ((listed_set hil).2 (.inl rfl)) (by unfold dstAt; rw [ho]; simp [hd, e])
  rw [← h0]
  simp [Act.put, Array.getElem?_setIfInBounds_ne h1]
theorem size_put (a : Act) (d : Option Tmp) (v : Value) : (a.put d v).tmps.size = a.tmps.size ∧ (a.put d v).defers = a.defers := by
 cases d <;> simp [Act.put]
end
end Go.Rel
namespace Go.Rel
open Go Go.RowKit
section
variable {P : Program} {md : Region.Mode} {ops : Array Oper} {a0 : Act} {w0 : World}
end
end Go.Rel
namespace Go.Rel
open Go Go.RowKit
theorem rep_no (n i : Nat) : ¬ (Array.replicate n false).getD i false = true := by
 by_cases h : i < n
 · simp [h]
 · simp [h]
end Go.Rel
