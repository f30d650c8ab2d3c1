/- Evolve: two boxes of a call's own; columns as they stand (plain). A region that draws its order, reads, and fills two new boxes: q, then two new boxes, then a store into each. -/
import Derived.Test.YtikpmmipopmjaaaGreatDoorZQp
import Derived.Test.YtikpmmipopmjaaaGreatDoorZQo
import Derived.Test.YtikpmmipopmjaaaGreatDoorZQy
set_option linter.unusedVariables false
set_option linter.unusedSimpArgs false
namespace Go.Ms
open Go.RowKit Go.Lib
structure Bx2 (o0 o1 : Obj) (w W : World) : Prop where
  b0 : W.heap[w.heap.size]? = some o0
  b1 : W.heap[w.heap.size + 1]? = some o1
  bel : Below w.heap.size w W
theorem Bx2.start (va vb : Array Value) (ta tb : TypeId) (w : World) : Bx2 (.cells va ta (0, 0)) (.cells vb tb (0, 0)) w ((w.alloc (.cells va ta)).alloc (.cells vb tb)) := by
 refine ⟨block_next (block_new _ _) _, ?_, ((Below.refl _ w).alloc (Nat.le_refl _) _).alloc (by rw [World.size_alloc]; omega) _⟩; have := block_new (w.alloc (.cells va ta)) (.cells vb tb); rw [World.size_alloc] at this; exact this
theorem Bx2.step {o0 o1 : Obj} {w W W' : World} (h : Bx2 o0 o1 w W) (hb : Below W.heap.size W W') : Bx2 o0 o1 w W' :=
  ⟨block_kept h.b0 hb, block_kept h.b1 hb, h.bel.trans (hb.mono h.bel.size)⟩
theorem Bx2.alloc {o0 o1 : Obj} {w W : World} (h : Bx2 o0 o1 w W) (o : Obj) : Bx2 o0 o1 w (W.alloc o) := h.step ((Below.refl _ W).alloc (Nat.le_refl _) o)
theorem rfind_at (cs : List Co) (v : Int) : coFind (fun c => decide (c.1 = v)) cs = match evAt cs v with
    | some k => (k, true)
    | none => (0, false) := by
 unfold coFind evAt; rfl
structure ColAt (g o B : Nat) (i1 : Int) (s1 : ByteArray) (k1 : Int) (u1 n1 : Bool) (m1 : Int) (t1 : ByteArray) (W : World) : Prop where
  lt : g < B
  c0 : W.cell? ⟨g, o, none⟩ = some (.int .i64 i1)
  c1 : W.cell? ⟨g, o + 1, none⟩ = some (.string s1)
  c2 : W.cell? ⟨g, o + 2, none⟩ = some (.int .i64 k1)
  c3 : W.cell? ⟨g, o + 3, none⟩ = some (.bool u1)
  c4 : W.cell? ⟨g, o + 4, none⟩ = some (.bool n1)
  c5 : W.cell? ⟨g, o + 5, none⟩ = some (.int .i64 m1)
  c6 : W.cell? ⟨g, o + 6, none⟩ = some (.string t1)
theorem ColAt.below {g o B : Nat} {i1 : Int} {s1 : ByteArray} {k1 : Int} {u1 n1 : Bool} {m1 : Int} {t1 : ByteArray} {W W' : World} (h : ColAt g o B i1 s1 k1 u1 n1 m1 t1 W) (hb : Below B W W') : ColAt g o B i1 s1 k1 u1 n1 m1 t1 W' :=
  ⟨h.lt, (hb.cell h.lt).trans h.c0, (hb.cell h.lt).trans h.c1, (hb.cell h.lt).trans h.c2, (hb.cell h.lt).trans h.c3, (hb.cell h.lt).trans h.c4, (hb.cell h.lt).trans h.c5, (hb.cell h.lt).trans h.c6⟩
theorem ColAt.more {g o B B' : Nat} {i1 : Int} {s1 : ByteArray} {k1 : Int} {u1 n1 : Bool} {m1 : Int} {t1 : ByteArray} {W : World} (h : ColAt g o B i1 s1 k1 u1 n1 m1 t1 W) (hb : B ≤ B') : ColAt g o B' i1 s1 k1 u1 n1 m1 t1 W :=
  ⟨Nat.lt_of_lt_of_le h.lt hb, h.c0, h.c1, h.c2, h.c3, h.c4, h.c5, h.c6⟩
theorem Lay.colAt {W : World} {B : Nat} {A : Option Addr} {cs : List Co} {k : Nat} {i1 : Int} {s1 : ByteArray} {k1 : Int} {u1 n1 : Bool} {m1 : Int} {t1 : ByteArray} (h : Lay W B A (colV cs)) (hk : cs[k]? = some (i1, s1, (k1, u1), n1, m1, t1)) : ∃ g o, A = some ⟨g, o, none⟩ ∧ ColAt g (o + k * 7) B i1 s1 k1 u1 n1 m1 t1 W := by
 obtain ⟨g, o, e, hg, h1, h2, h3, h4, h5, h6, h7⟩ := h.co hk; exact ⟨g, o, e, hg, h1, h2, h3, h4, h5, h6, h7⟩
end Go.Ms
set_option linter.unusedSimpArgs false
namespace Go.Rel
open Go Go.RowKit
def depsBack (md : Region.Mode) (ops : Array Oper) : Bool := (List.range ops.size).all fun i => match ops[i]? with
 | none => true
 | some o => o.after.toList.all fun e => !Region.binds md e || decide (e.on < i)
def dstsOk (ops : Array Oper) (n : Nat) : Bool := (List.range ops.size).all fun i => match dstAt ops i with
 | none => true
 | some d => decide (d < n) && (List.range ops.size).all fun j => j == i || dstAt ops j != some d
def waitsFor (md : Region.Mode) (o : Oper) (k : Nat) : Bool := o.after.toList.any fun e => Region.binds md e && e.on == k
section
variable {P : Program} {md : Region.Mode} {ops : Array Oper} {a0 : Act} {w0 : World}
theorem back_at (h : depsBack md ops = true) {i : Nat} {o : Oper} (hi : ops[i]? = some o) : ∀ e ∈ o.after, Region.binds md e = true → e.on < i := fun e he hb => by
 unfold depsBack at h; have := List.all_eq_true.1 h i (List.mem_range.2 (Array.getElem?_eq_some_iff.1 hi).1); rw [hi] at this; have := List.all_eq_true.1 this e (Array.mem_toList_iff.2 he)
 simpa [hb] using this
theorem dst_lt {i : Nat} {d : Tmp} (h : dstAt ops i = some d) : i < ops.size := by
 unfold dstAt at h
 cases ho : ops[i]? with
 | none => simp [ho] at h
 | some o => exact (Array.getElem?_eq_some_iff.1 ho).1
theorem dsts_at (h : dstsOk ops a0.tmps.size = true) {i : Nat} {d : Tmp} (hi : dstAt ops i = some d) : d < a0.tmps.size ∧ ∀ j, j ≠ i → dstAt ops j ≠ some d := by
 unfold dstsOk at h; have := List.all_eq_true.1 h i (List.mem_range.2 (dst_lt hi)); rw [hi] at this; simp only [Bool.and_eq_true, decide_eq_true_eq] at this; refine ⟨this.1, fun j hj hdj => ?_⟩; have := List.all_eq_true.1 this.2 j (List.mem_range.2 (dst_lt hdj))
 simp [hj, hdj] at this
theorem ready_back (hg : depsBack md ops = true) {listed : Array Bool} (hl : listed.size = ops.size) {i : Nat} (hi : i < ops.size) (hu : listed.getD i false = false) : Region.ready md ops listed ≠ [] := by
 obtain ⟨m, hm, hmin⟩ : ∃ m, (m < ops.size ∧ listed.getD m false = false) ∧ ∀ j, j < m → listed.getD j false = true := by
  have : ∀ n, (∃ k, k ≤ n ∧ k < ops.size ∧ listed.getD k false = false) → ∃ m, (m < ops.size ∧ listed.getD m false = false) ∧ ∀ j, j < m → listed.getD j false = true := by
   intro n
   induction n with
   | zero =>
    rintro ⟨k, hk, h1, h2⟩
    obtain rfl : k = 0 := by omega
    exact ⟨0, ⟨h1, h2⟩, fun j hj => by omega⟩
   | succ n ih =>
    rintro ⟨k, hk, h1, h2⟩
    by_cases hex : ∃ k, k ≤ n ∧ k < ops.size ∧ listed.getD k false = false
    · exact ih hex
    · have hkn : k = n + 1 := by
        by_cases hkn : k ≤ n
        · exact absurd ⟨k, hkn, h1, h2⟩ hex
        · omega
      refine ⟨k, ⟨h1, h2⟩, fun j hj => ?_⟩
      cases hjv : listed.getD j false with
      | true => rfl
      | false => exact absurd ⟨j, by omega, by omega, hjv⟩ hex
  exact this i ⟨i, Nat.le_refl _, hi, hu⟩
 intro h
 obtain ⟨o, ho⟩ : ∃ o, ops[m]? = some o := ⟨_, Array.getElem?_eq_getElem hm.1⟩
 have : m ∈ Region.ready md ops listed := by
  rw [mem_ready]; refine ⟨?_, o, ho, fun e he hb => hmin _ (back_at hg ho e he hb)⟩; have := hm.2
  have hml : m < listed.size := by rw [hl]; exact hm.1
  simp [hml] at this ⊢
  exact this
 rw [h] at this
 cases this
theorem any_inv (hg : depsBack md ops = true) (I : Array Bool → Act → World → Prop)
    (hstep : ∀ listed a w i o, listed.size = ops.size → ops[i]? = some o → listed.getD i true = false → (∀ e ∈ o.after, Region.binds md e = true → listed.getD e.on false = true) → I listed a w →
      if wantedEv ops a.eval o = true then relUpon P (fun v w' => I (listed.setIfInBounds i true) (a.put o.dst v) w') ((execOp a.eval o).run P w) else I (listed.setIfInBounds i true) (a.put o.dst undef) w)
    {Q : Exit → Act → World → Prop} (hQ : ∀ listed a w, (∀ i, i < ops.size → listed.getD i false = true) → I listed a w → Q .normal a w) :
    ∀ (fuel : Nat) (listed : Array Bool) (a : Act) (w : World), listed.size = ops.size → left listed = fuel → I listed a w → wpAny P md ops Q fuel listed a w := by
 intro fuel
 induction fuel with
 | zero =>
  intro listed a w hl h0 hI
  have hall : ∀ i, i < ops.size → listed.getD i false = true := by
   intro i hi
   have hil : i < listed.size := by omega
   unfold left at h0; have := List.countP_eq_zero.1 h0 (listed[i]) (Array.mem_toList_iff.2 (Array.getElem_mem hil))
   simp [hil]
   simpa using this
  refine ⟨?_, hQ _ _ _ hall hI⟩
  apply List.eq_nil_iff_forall_not_mem.2
  intro j hj
  obtain ⟨h1, o, ho, _⟩ := mem_ready.1 hj; have hjl := (Array.getElem?_eq_some_iff.1 ho).1; have := hall j hjl
  have hjl' : j < listed.size := by omega
  simp [hjl'] at h1 this
  rw [h1] at this
  cases this
 | succ fuel ih =>
  intro listed a w hl h0 hI
  refine ⟨fun hr => ?_, fun i hi => ?_⟩
  · exfalso
    have : ∃ i, i < ops.size ∧ listed.getD i false = false := by
     unfold left at h0
     have hpos : 0 < listed.toList.countP (· == false) := by omega
     obtain ⟨b, hb, hbf⟩ := List.countP_pos_iff.1 hpos; obtain ⟨i, hi, hib⟩ := List.getElem_of_mem hb
     have hil : i < listed.size := by simpa using hi
     refine ⟨i, by omega, ?_⟩
     have : listed[i] = b := by simpa using hib
     simp [hil, this]
     simpa using hbf
    obtain ⟨i, hi, hu⟩ := this; exact ready_back hg hl hi hu hr
  · obtain ⟨hu, o, ho, hdep⟩ := mem_ready.1 hi
    have hil : i < listed.size := by rw [hl]; exact (Array.getElem?_eq_some_iff.1 ho).1
    have hs := hstep listed a w i o hl ho hu hdep hI
    have hgo : ∀ a' w', I (listed.setIfInBounds i true) a' w' → wpAny P md ops Q fuel (listed.setIfInBounds i true) a' w' := fun a' w' h =>
     ih _ _ _ (by simpa using hl) (by have := left_set hil hu; omega) h
    unfold wpOp; rw [ho]
    simp only
    rw [wantedEv_eq]
    split
    · rename_i hw
      rw [if_pos hw] at hs; exact .inl (wp_of_rel (relUpon_mono (fun v w' h => hgo _ _ h) hs))
    · rename_i hw
      rw [if_neg hw] at hs; exact hgo _ _ hs
structure InvT (ops : Array Oper) (k : Nat) (a0 : Act) (w0 : World) (prs : Nat → Value → World → Prop) (tA tB : Tmp) (Z XA XB : Array Value) (T : TypeId) (listed : Array Bool) (a : Act) (w : World) : Prop where
  size : a.tmps.size = a0.tmps.size
  defers : a.defers = a0.defers
  base : ∀ t, (∀ i, listed.getD i false = true → dstAt ops i ≠ some t) → a.tmps[t]? = a0.tmps[t]?
  claim : ∀ i d, i < k → listed.getD i false = true → dstAt ops i = some d → prs i (a.eval (.tmp d)) w
  bel : Below w0.heap.size w0 w
  oA : listed.getD (k + 2) false = true → listed.getD k false = true
  oB : listed.getD (k + 3) false = true → listed.getD (k + 1) false = true
  bA : listed.getD k false = true → ∃ g, w0.heap.size ≤ g ∧ a.eval (.tmp tA) = .pointer (some ⟨g, 0, none⟩) ∧ w.heap[g]? = some (.cells (if listed.getD (k + 2) false = true then XA else Z) T (0, 0))
  bB : listed.getD (k + 1) false = true → ∃ g, w0.heap.size ≤ g ∧ a.eval (.tmp tB) = .pointer (some ⟨g, 0, none⟩) ∧ w.heap[g]? = some (.cells (if listed.getD (k + 3) false = true then XB else Z) T (0, 0))
  ne : listed.getD k false = true → listed.getD (k + 1) false = true → ∀ g, a.eval (.tmp tA) = .pointer (some ⟨g, 0, none⟩) → a.eval (.tmp tB) = .pointer (some ⟨g, 0, none⟩) → False
theorem set_ne {listed : Array Bool} {i j : Nat} (h : j ≠ i) (b : Bool) : (listed.setIfInBounds i true).getD j b = listed.getD j b := by
 have : i ≠ j := fun e => h e.symm
 simp [Array.getElem?_setIfInBounds_ne this]
theorem set_eq {listed : Array Bool} {i : Nat} (h : i < listed.size) (b : Bool) : (listed.setIfInBounds i true).getD i b = true := by simp [h]
theorem getD_not {listed : Array Bool} {i : Nat} (h : listed.getD i true = false) : listed.getD i false = false := by
 by_cases hi : i < listed.size
 · simp [hi] at h ⊢; exact h
 · simp [hi] at h
theorem base_put {listed : Array Bool} {a : Act} {i : Nat} {o : Oper} {v : Value} (hil : i < listed.size) (ho : ops[i]? = some o) (h : ∀ t, (∀ i, listed.getD i false = true → dstAt ops i ≠ some t) → a.tmps[t]? = a0.tmps[t]?) :
    ∀ t, (∀ j, (listed.setIfInBounds i true).getD j false = true → dstAt ops j ≠ some t) → (a.put o.dst v).tmps[t]? = a0.tmps[t]? := fun t ht => by
 have h0 := h t fun j hj => ht j ((listed_set hil).2 (.inr hj))
 cases hd : o.dst with
 | none => exact h0
 | some d =>
  have h1 : d ≠ t := fun e => ht i ((listed_set hil).2 (.inl rfl)) (by unfold dstAt; rw [ho]; simp [hd, e])
  rw [← h0]
  simp [Act.put, Array.getElem?_setIfInBounds_ne h1]
theorem size_put (a : Act) (d : Option Tmp) (v : Value) : (a.put d v).tmps.size = a.tmps.size ∧ (a.put d v).defers = a.defers := by
 cases d <;> simp [Act.put]
end
end Go.Rel
namespace Go.Rel
open Go Go.RowKit
section
variable {P : Program} {md : Region.Mode} {ops : Array Oper} {a0 : Act} {w0 : World}
theorem two_step {q : List Oper} {oA oB sA sB : Oper} {prs : Nat → Value → World → Prop} {tA tB : Tmp} {iA iB : Nat} {xA xB : Tmp} {vA vB : Value} {Z XA XB : Array Value} {T : TypeId}
    (hops : ops = (q ++ [oA, oB, sA, sB]).toArray) (hd : dstsOk ops a0.tmps.size = true) (hg : depsBack md ops = true)
    (hconst : ∀ i, i < q.length → ∀ v w w', prs i v w → prs i v w')
    (hp : Prems P md ops a0 w0 prs 0 q)
    (dA : oA.dst = some tA) (dB : oB.dst = some tB) (dsA : sA.dst = none) (dsB : sB.dst = none)
    (gA : oA.guard = none) (gB : oB.guard = none) (gsA : sA.guard = none) (gsB : sB.guard = none)
    (wA : waitsFor md sA q.length = true) (wB : waitsFor md sB (q.length + 1) = true) (wA' : waitsFor md sA iA = true) (wB' : waitsFor md sB iB = true)
    (hiA : iA < q.length) (hiB : iB < q.length) (hxA : dstAt ops iA = some xA) (hxB : dstAt ops iB = some xB) (hvA : prs iA = isV vA) (hvB : prs iB = isV vB)
    (rA : ∀ (ev : Operand → Value) w, (execOp ev oA).run P w = .ok (.value (.pointer (some ⟨w.heap.size, 0, none⟩))) (w.alloc (.cells Z T)))
    (rB : ∀ (ev : Operand → Value) w, (execOp ev oB).run P w = .ok (.value (.pointer (some ⟨w.heap.size, 0, none⟩))) (w.alloc (.cells Z T)))
    (rsA : ∀ (ev : Operand → Value) w g, ev (.tmp tA) = .pointer (some ⟨g, 0, none⟩) → ev (.tmp xA) = vA → w.heap[g]? = some (.cells Z T (0, 0)) → relUpon P (fun _ w' => w.grownBy w' (some g) ∧ w'.heap[g]? = some (.cells XA T (0, 0))) ((execOp ev sA).run P w))
    (rsB : ∀ (ev : Operand → Value) w g, ev (.tmp tB) = .pointer (some ⟨g, 0, none⟩) → ev (.tmp xB) = vB → w.heap[g]? = some (.cells Z T (0, 0)) → relUpon P (fun _ w' => w.grownBy w' (some g) ∧ w'.heap[g]? = some (.cells XB T (0, 0))) ((execOp ev sB).run P w)) :
    ∀ listed a w i o, listed.size = ops.size → ops[i]? = some o → listed.getD i true = false → (∀ e ∈ o.after, Region.binds md e = true → listed.getD e.on false = true) → InvT ops q.length a0 w0 prs tA tB Z XA XB T listed a w →
      if wantedEv ops a.eval o = true then relUpon P (fun v w' => InvT ops q.length a0 w0 prs tA tB Z XA XB T (listed.setIfInBounds i true) (a.put o.dst v) w') ((execOp a.eval o).run P w) else InvT ops q.length a0 w0 prs tA tB Z XA XB T (listed.setIfInBounds i true) (a.put o.dst undef) w := by
 intro listed a w i o hl ho hu hdep h
 have hsz : ops.size = q.length + 4 := by rw [hops]; simp
 have hil : i < listed.size := by rw [hl]; exact (Array.getElem?_eq_some_iff.1 ho).1
 have hul := getD_not hu
 have atA : ops[q.length]? = some oA := by rw [hops]; simp
 have atB : ops[q.length + 1]? = some oB := by rw [hops]; simp
 have atsA : ops[q.length + 2]? = some sA := by rw [hops]; simp
 have atsB : ops[q.length + 3]? = some sB := by rw [hops]; simp
 have dstA : dstAt ops q.length = some tA := by unfold dstAt; rw [atA]; exact dA
 have dstB : dstAt ops (q.length + 1) = some tB := by unfold dstAt; rw [atB]; exact dB
 have lA := dsts_at hd dstA; have lB := dsts_at hd dstB
 have wfor : ∀ {s : Oper} {k : Nat}, waitsFor md s k = true → (∀ e ∈ s.after, Region.binds md e = true → listed.getD e.on false = true) → listed.getD k false = true := fun hw hd => by
  unfold waitsFor at hw; obtain ⟨e, he, h2⟩ := List.any_eq_true.1 hw; simp only [Bool.and_eq_true, beq_iff_eq] at h2; rw [← h2.2]; exact hd e (Array.mem_toList_iff.1 he) h2.1
 have gfree : ∀ {s : Oper}, s.guard = none → wantedEv ops a.eval s = true := fun hs => by unfold wantedEv Region.wanted; rw [hs]
 have hi4 : i < q.length ∨ i = q.length ∨ i = q.length + 1 ∨ i = q.length + 2 ∨ i = q.length + 3 := by
  have := (Array.getElem?_eq_some_iff.1 ho).1; omega
 rcases hi4 with hiq | rfl | rfl | rfl | rfl
 · -- one that only reads
   have hq : q[i]? = some o := by
    rw [hops] at ho; simp only [List.getElem?_toArray] at ho
    rwa [List.getElem?_append_left hiq] at ho
   have hpr := prems_at q 0 hp i o hq; rw [Nat.zero_add] at hpr
   have fin : ∀ v w', Below w.heap.size w w' → prs i v w' → InvT ops q.length a0 w0 prs tA tB Z XA XB T (listed.setIfInBounds i true) (a.put o.dst v) w' := fun v w' hb hv => by
    have n0 : q.length ≠ i := by omega
    have n1 : q.length + 1 ≠ i := by omega
    have n2 : q.length + 2 ≠ i := by omega
    have n3 : q.length + 3 ≠ i := by omega
    have keep : ∀ t j, j ≠ i → dstAt ops j = some t → (a.put o.dst v).eval (.tmp t) = a.eval (.tmp t) := fun t j hj hjt => by
     cases hd' : o.dst with
     | none => rfl
     | some d =>
      have hdi : dstAt ops i = some d := by unfold dstAt; rw [ho]; exact hd'
      exact eval_put_other (fun e => (dsts_at hd hdi).2 j hj (by rw [hjt, e]))
    have kA := keep tA _ n0 dstA; have kB := keep tB _ n1 dstB; refine ⟨(size_put _ _ _).1.trans h.size, (size_put _ _ _).2.trans h.defers, base_put hil ho h.base, fun j d hj hlj hjd => ?_, h.bel.trans (hb.mono h.bel.size), ?_, ?_, ?_, ?_, ?_⟩
    · by_cases hji : j = i
      · subst hji
        have hod : o.dst = some d := by unfold dstAt at hjd; rw [ho] at hjd; exact hjd
        rw [hod, eval_put_same (by rw [h.size]; exact (dsts_at hd hjd).1)]; exact hv
      · rw [keep d j hji hjd]; rw [set_ne hji] at hlj; exact hconst j hj _ _ _ (h.claim j d hj hlj hjd)
    · rw [set_ne n2, set_ne n0]; exact h.oA
    · rw [set_ne n3, set_ne n1]; exact h.oB
    · rw [set_ne n0, set_ne n2, kA]
      intro hk
      obtain ⟨g, h1, h2, h3⟩ := h.bA hk; exact ⟨g, h1, h2, (hb.block g (Array.getElem?_eq_some_iff.1 h3).1).trans h3⟩
    · rw [set_ne n1, set_ne n3, kB]
      intro hk
      obtain ⟨g, h1, h2, h3⟩ := h.bB hk; exact ⟨g, h1, h2, (hb.block g (Array.getElem?_eq_some_iff.1 h3).1).trans h3⟩
    · rw [set_ne n0, set_ne n1, kA, kB]; exact h.ne
   have hprem := hpr.2 a.eval w h.bel (fun t ht => ?_) (fun _ => rfl) (fun _ => rfl) (fun _ => rfl) (fun k e hk hb d hd' => ?_)
   · split
     · rename_i hw
       rw [if_pos hw] at hprem; exact relUpon_mono (fun v w' h => fin v w' h.1 h.2) hprem
     · rename_i hw
       rw [if_neg hw] at hprem; exact fin _ _ (Below.refl _ _) hprem
   · have := h.base t fun j _ hd => by rw [isDst_of hd] at ht; cases ht
     simp [Act.eval, this]
   · have he := Array.mem_of_getElem? hk; have hlt := back_at hg ho e he hb; exact h.claim e.on d (by omega) (hdep e he hb) hd'
 · -- the first box
   obtain rfl : oA = o := by rw [atA] at ho; exact Option.some.inj ho
   rw [if_pos (gfree gA), rA]
   have hs2 : listed.getD (q.length + 2) false = false := by
    cases e : listed.getD (q.length + 2) false with
    | false => rfl
    | true => rw [h.oA e] at hul; cases hul
   have hb : Below w.heap.size w (w.alloc (.cells Z T)) := (Below.refl _ w).alloc (Nat.le_refl _) _
   have hnew : (w.alloc (.cells Z T)).heap[w.heap.size]? = some (.cells Z T (0, 0)) := by unfold World.alloc; simp
   show InvT _ _ _ _ _ _ _ _ _ _ _ _ (a.put oA.dst _) _
   rw [dA]
   have keep : ∀ t j, j ≠ q.length → dstAt ops j = some t → (a.put (some tA) (.pointer (some ⟨w.heap.size, 0, none⟩))).eval (.tmp t) = a.eval (.tmp t) := fun t j hj hjt => eval_put_other (fun e => lA.2 j hj (by rw [hjt, e]))
   have same : (a.put (some tA) (.pointer (some ⟨w.heap.size, 0, none⟩))).eval (.tmp tA) = .pointer (some ⟨w.heap.size, 0, none⟩) := eval_put_same (by rw [h.size]; exact lA.1); have kB := keep tB (q.length + 1) (by omega) dstB; have bp := base_put (v := .pointer (some ⟨w.heap.size, 0, none⟩)) hil ho h.base; rw [dA] at bp; refine ⟨(size_put _ _ _).1.trans h.size, (size_put _ _ _).2.trans h.defers, bp, fun j d hj hlj hjd => ?_, h.bel.trans (hb.mono h.bel.size), ?_, ?_, ?_, ?_, ?_⟩
   · rw [keep d j (by omega) hjd]; rw [set_ne (by omega)] at hlj; exact hconst j hj _ _ _ (h.claim j d hj hlj hjd)
   · intro _; exact set_eq hil false
   · rw [set_ne (by omega), set_ne (by omega)]; exact h.oB
   · intro _
     rw [set_ne (by omega), hs2]; exact ⟨_, h.bel.size, same, by simpa using hnew⟩
   · rw [set_ne (by omega), set_ne (by omega), kB]
     intro hk
     obtain ⟨g, h1, h2, h3⟩ := h.bB hk; exact ⟨g, h1, h2, (hb.block g (Array.getElem?_eq_some_iff.1 h3).1).trans h3⟩
   · rw [set_ne (show q.length + 1 ≠ q.length by omega), kB, same]
     intro _ hk g e1 e2
     obtain ⟨g', h1, h2, h3⟩ := h.bB hk; rw [h2] at e2; have hgl := (Array.getElem?_eq_some_iff.1 h3).1
     injection e1 with e1
     injection e1 with e1
     injection e1 with e1
     injection e2 with e2
     injection e2 with e2
     injection e2 with e2
     omega
 · -- the second box
   obtain rfl : oB = o := by rw [atB] at ho; exact Option.some.inj ho
   rw [if_pos (gfree gB), rB]
   have hs2 : listed.getD (q.length + 3) false = false := by
    cases e : listed.getD (q.length + 3) false with
    | false => rfl
    | true => rw [h.oB e] at hul; cases hul
   have hb : Below w.heap.size w (w.alloc (.cells Z T)) := (Below.refl _ w).alloc (Nat.le_refl _) _
   have hnew : (w.alloc (.cells Z T)).heap[w.heap.size]? = some (.cells Z T (0, 0)) := by unfold World.alloc; simp
   show InvT _ _ _ _ _ _ _ _ _ _ _ _ (a.put oB.dst _) _
   rw [dB]
   have keep : ∀ t j, j ≠ q.length + 1 → dstAt ops j = some t → (a.put (some tB) (.pointer (some ⟨w.heap.size, 0, none⟩))).eval (.tmp t) = a.eval (.tmp t) := fun t j hj hjt => eval_put_other (fun e => lB.2 j hj (by rw [hjt, e]))
   have same : (a.put (some tB) (.pointer (some ⟨w.heap.size, 0, none⟩))).eval (.tmp tB) = .pointer (some ⟨w.heap.size, 0, none⟩) := eval_put_same (by rw [h.size]; exact lB.1); have kA := keep tA q.length (by omega) dstA; have bp := base_put (v := .pointer (some ⟨w.heap.size, 0, none⟩)) hil ho h.base; rw [dB] at bp; refine ⟨(size_put _ _ _).1.trans h.size, (size_put _ _ _).2.trans h.defers, bp, fun j d hj hlj hjd => ?_, h.bel.trans (hb.mono h.bel.size), ?_, ?_, ?_, ?_, ?_⟩
   · rw [keep d j (by omega) hjd]; rw [set_ne (by omega)] at hlj; exact hconst j hj _ _ _ (h.claim j d hj hlj hjd)
   · rw [set_ne (by omega), set_ne (by omega)]; exact h.oA
   · intro _; exact set_eq hil false
   · rw [set_ne (by omega), set_ne (by omega), kA]
     intro hk
     obtain ⟨g, h1, h2, h3⟩ := h.bA hk; exact ⟨g, h1, h2, (hb.block g (Array.getElem?_eq_some_iff.1 h3).1).trans h3⟩
   · intro _
     rw [set_ne (by omega), hs2]; exact ⟨_, h.bel.size, same, by simpa using hnew⟩
   · rw [set_ne (show q.length ≠ q.length + 1 by omega), kA, same]
     intro hk _ g e1 e2
     obtain ⟨g', h1, h2, h3⟩ := h.bA hk; rw [h2] at e1; have hgl := (Array.getElem?_eq_some_iff.1 h3).1
     injection e1 with e1
     injection e1 with e1
     injection e1 with e1
     injection e2 with e2
     injection e2 with e2
     injection e2 with e2
     omega
 · -- the first store
   obtain rfl : sA = o := by rw [atsA] at ho; exact Option.some.inj ho
   have hkA := wfor wA hdep; have hkx := wfor wA' hdep; obtain ⟨g, hg0, he, hh⟩ := h.bA hkA; rw [hul] at hh; have hx := h.claim iA xA hiA hkx hxA; rw [hvA] at hx; rw [if_pos (gfree gsA), dsA]; refine relUpon_mono ?_ (rsA a.eval w g he hx (by simpa using hh)); rintro v w' ⟨hgr, hnew⟩
   show InvT _ _ _ _ _ _ _ _ _ _ _ _ a w'
   have bp := base_put (v := v) hil ho h.base; rw [dsA] at bp; refine ⟨h.size, h.defers, bp, fun j d hj hlj hjd => ?_, h.bel.grown hgr h.bel.size (fun k e => by cases e; exact hg0), ?_, ?_, ?_, ?_, ?_⟩
   · rw [set_ne (by omega)] at hlj; exact hconst j hj _ _ _ (h.claim j d hj hlj hjd)
   · rw [set_ne (show q.length ≠ q.length + 2 by omega)]; intro _; exact hkA
   · rw [set_ne (by omega), set_ne (by omega)]; exact h.oB
   · intro _
     rw [set_eq hil]; exact ⟨g, hg0, he, by simpa using hnew⟩
   · rw [set_ne (by omega), set_ne (by omega)]
     intro hk
     obtain ⟨g', h1, h2, h3⟩ := h.bB hk
     have hne : some g' ≠ some g := fun e => by cases e; exact h.ne hkA hk _ he h2
     exact ⟨g', h1, h2, (hgr.block g' (Array.getElem?_eq_some_iff.1 h3).1 hne).trans h3⟩
   · rw [set_ne (by omega), set_ne (by omega)]; exact h.ne
 · -- the second store
   obtain rfl : sB = o := by rw [atsB] at ho; exact Option.some.inj ho
   have hkB := wfor wB hdep; have hkx := wfor wB' hdep; obtain ⟨g, hg0, he, hh⟩ := h.bB hkB; rw [hul] at hh; have hx := h.claim iB xB hiB hkx hxB; rw [hvB] at hx; rw [if_pos (gfree gsB), dsB]; refine relUpon_mono ?_ (rsB a.eval w g he hx (by simpa using hh)); rintro v w' ⟨hgr, hnew⟩
   show InvT _ _ _ _ _ _ _ _ _ _ _ _ a w'
   have bp := base_put (v := v) hil ho h.base; rw [dsB] at bp; refine ⟨h.size, h.defers, bp, fun j d hj hlj hjd => ?_, h.bel.grown hgr h.bel.size (fun k e => by cases e; exact hg0), ?_, ?_, ?_, ?_, ?_⟩
   · rw [set_ne (by omega)] at hlj; exact hconst j hj _ _ _ (h.claim j d hj hlj hjd)
   · rw [set_ne (by omega), set_ne (by omega)]; exact h.oA
   · rw [set_ne (show q.length + 1 ≠ q.length + 3 by omega)]; intro _; exact hkB
   · rw [set_ne (by omega), set_ne (by omega)]
     intro hk
     obtain ⟨g', h1, h2, h3⟩ := h.bA hk
     have hne : some g' ≠ some g := fun e => by cases e; exact h.ne hk hkB _ h2 he
     exact ⟨g', h1, h2, (hgr.block g' (Array.getElem?_eq_some_iff.1 h3).1 hne).trans h3⟩
   · intro _
     rw [set_eq hil]; exact ⟨g, hg0, he, by simpa using hnew⟩
   · rw [set_ne (by omega), set_ne (by omega)]; exact h.ne
end
end Go.Rel
namespace Go.Rel
open Go Go.RowKit
theorem sel_isV : ∀ (ps : List (Value → World → Prop)), (∀ p ∈ ps, ∃ X, p = isV X) → ∀ i v w w', sel ps i v w → sel ps i v w'
  | [], _, i, v, w, w', h => trivial
  | p :: r, hc, 0, v, w, w', h => by
   obtain ⟨X, rfl⟩ := hc p (by simp); exact h
  | p :: r, hc, i + 1, v, w, w', h => sel_isV r (fun p hp => hc p (by simp [hp])) i v w w' h
theorem rep_no (n i : Nat) : ¬ (Array.replicate n false).getD i false = true := by
 by_cases h : i < n
 · simp [h]
 · simp [h]
theorem isV_nil : ∀ p ∈ ([] : List (Value → World → Prop)), ∃ X, p = isV X := fun p hp => by cases hp
theorem isV_cons {X : Value} {ps : List (Value → World → Prop)} (h : ∀ p ∈ ps, ∃ X, p = isV X) : ∀ p ∈ isV X :: ps, ∃ X, p = isV X := fun p hp => by
 rcases List.mem_cons.1 hp with rfl | hp
 · exact ⟨X, rfl⟩
 · exact h p hp
theorem wp_region_two {P : Program} {id : Nat} {Q : Exit → Act → World → Prop} {q : List Oper} {oA oB sA sB : Oper} (ps : List (Value → World → Prop)) {a0 : Act} {w0 : World} (hm : P.follows .mixedOrders = true)
    {tA tB : Tmp} (iA iB : Nat) {xA xB : Tmp} {vA vB : Value} (Z XA XB : Array Value) (T : TypeId)
    (hd : dstsOk (q ++ [oA, oB, sA, sB]).toArray a0.tmps.size = true) (hg : depsBack .any (q ++ [oA, oB, sA, sB]).toArray = true)
    (hqd : q.all (fun o => o.dst.isSome) = true) (hconst : ∀ p ∈ ps, ∃ X, p = isV X)
    (dA : oA.dst = some tA) (dB : oB.dst = some tB) (dsA : sA.dst = none) (dsB : sB.dst = none)
    (gA : oA.guard = none) (gB : oB.guard = none) (gsA : sA.guard = none) (gsB : sB.guard = none)
    (wA : waitsFor .any sA q.length = true) (wB : waitsFor .any sB (q.length + 1) = true) (wA' : waitsFor .any sA iA = true) (wB' : waitsFor .any sB iB = true)
    (hiA : iA < q.length) (hiB : iB < q.length) (hxA : dstAt (q ++ [oA, oB, sA, sB]).toArray iA = some xA) (hxB : dstAt (q ++ [oA, oB, sA, sB]).toArray iB = some xB) (hvA : sel ps iA = isV vA) (hvB : sel ps iB = isV vB)
    (rA : ∀ (ev : Operand → Value) w, (execOp ev oA).run P w = .ok (.value (.pointer (some ⟨w.heap.size, 0, none⟩))) (w.alloc (.cells Z T)))
    (rB : ∀ (ev : Operand → Value) w, (execOp ev oB).run P w = .ok (.value (.pointer (some ⟨w.heap.size, 0, none⟩))) (w.alloc (.cells Z T)))
    (rsA : ∀ (ev : Operand → Value) w g, ev (.tmp tA) = .pointer (some ⟨g, 0, none⟩) → ev (.tmp xA) = vA → w.heap[g]? = some (.cells Z T (0, 0)) → relUpon P (fun _ w' => w.grownBy w' (some g) ∧ w'.heap[g]? = some (.cells XA T (0, 0))) ((execOp ev sA).run P w))
    (rsB : ∀ (ev : Operand → Value) w g, ev (.tmp tB) = .pointer (some ⟨g, 0, none⟩) → ev (.tmp xB) = vB → w.heap[g]? = some (.cells Z T (0, 0)) → relUpon P (fun _ w' => w.grownBy w' (some g) ∧ w'.heap[g]? = some (.cells XB T (0, 0))) ((execOp ev sB).run P w))
    (hp : Prems P .any (q ++ [oA, oB, sA, sB]).toArray a0 w0 (sel ps) 0 q)
    (hend : ∀ w gA gB, Below w0.heap.size w0 w → w.heap[gA]? = some (.cells XA T (0, 0)) → w.heap[gB]? = some (.cells XB T (0, 0)) → relEnd (sel ps) w (fun a => Q .normal ((a.put (some tA) (.pointer (some ⟨gA, 0, none⟩))).put (some tB) (.pointer (some ⟨gB, 0, none⟩))) w) 0 q a0) :
    (Code.region id (q ++ [oA, oB, sA, sB]).toArray true).wp P Q a0 w0 := by
 refine wp_region_any hm ?_
 generalize hops : (q ++ [oA, oB, sA, sB]).toArray = ops at *
 have hsz : ops.size = q.length + 4 := by rw [← hops]; simp
 have atA : ops[q.length]? = some oA := by rw [← hops]; simp
 have atB : ops[q.length + 1]? = some oB := by rw [← hops]; simp
 have atsA : ops[q.length + 2]? = some sA := by rw [← hops]; simp
 have atsB : ops[q.length + 3]? = some sB := by rw [← hops]; simp
 have dstA : dstAt ops q.length = some tA := by unfold dstAt; rw [atA]; exact dA
 have dstB : dstAt ops (q.length + 1) = some tB := by unfold dstAt; rw [atB]; exact dB
 have dstsA : dstAt ops (q.length + 2) = none := by unfold dstAt; rw [atsA]; exact dsA
 have dstsB : dstAt ops (q.length + 3) = none := by unfold dstAt; rw [atsB]; exact dsB
 have lA := dsts_at hd dstA; have lB := dsts_at hd dstB
 have atq : ∀ k, k < q.length → ops[k]? = q[k]? := fun k hk => by rw [← hops]; simp only [List.getElem?_toArray]; rw [List.getElem?_append_left hk]
 have hstep := two_step (md := .any) (w0 := w0) hops.symm hd hg (fun i _ v w w' h => sel_isV ps hconst i v w w' h) hp dA dB dsA dsB gA gB gsA gsB wA wB wA' wB' hiA hiB hxA hxB hvA hvB rA rB rsA rsB; refine any_inv hg _ hstep (fun listed a w hall hI => ?_) _ _ _ _ (by simp) ?_ ⟨rfl, rfl, fun _ _ => rfl, fun i d _ hi => absurd hi (rep_no _ _), ⟨rfl, rfl, rfl, Nat.le_refl _, fun _ _ => rfl⟩, fun h => absurd h (rep_no _ _), fun h => absurd h (rep_no _ _), fun h => absurd h (rep_no _ _), fun h => absurd h (rep_no _ _), fun h => absurd h (rep_no _ _)⟩
 · obtain ⟨g1, hg1, he1, hh1⟩ := hI.bA (hall _ (by omega)); obtain ⟨g2, hg2, he2, hh2⟩ := hI.bB (hall _ (by omega)); rw [hall (q.length + 2) (by omega)] at hh1; rw [hall (q.length + 3) (by omega)] at hh2; have h := relEnd_inst (fun i => match dstAt ops i with | some d => a.eval (.tmp d) | none => undef) q 0 a0 (hend w g1 g2 hI.bel (by simpa using hh1) (by simpa using hh2)) (fun k hk => ?_)
   · have he : ((putsL (fun i => match dstAt ops i with | some d => a.eval (.tmp d) | none => undef) 0 q a0).put (some tA) (.pointer (some ⟨g1, 0, none⟩))).put (some tB) (.pointer (some ⟨g2, 0, none⟩)) = a := by
       obtain ⟨h1, h2⟩ := putsL_size (fun i => match dstAt ops i with | some d => a.eval (.tmp d) | none => undef) q 0 a0; refine act_ext ?_ (by rw [(size_put _ _ _).2, (size_put _ _ _).2, h2, hI.defers])
       apply Array.ext_getElem?
       intro t
       by_cases hts : t < a0.tmps.size
       · by_cases htB : t = tB
         · subst htB
           have : a.tmps[t]? = some (.pointer (some ⟨g2, 0, none⟩)) := by
            have hta : t < a.tmps.size := by rw [hI.size]; exact hts
            simp [Act.eval, hta] at he2
            rw [Array.getElem?_eq_getElem hta, he2]
           rw [this]
           simp [Act.put, h1, hts]
         · by_cases htA : t = tA
           · subst htA
             have : a.tmps[t]? = some (.pointer (some ⟨g1, 0, none⟩)) := by
              have hta : t < a.tmps.size := by rw [hI.size]; exact hts
              simp [Act.eval, hta] at he1
              rw [Array.getElem?_eq_getElem hta, he1]
             rw [this]
             have hne : tB ≠ t := fun e => htB e.symm
             simp only [Act.put]; rw [Array.getElem?_setIfInBounds_ne hne]
             simp [h1, hts]
           · have hnB : tB ≠ t := fun e => htB e.symm
             have hnA : tA ≠ t := fun e => htA e.symm
             have hred : (((putsL (fun i => match dstAt ops i with | some d => a.eval (.tmp d) | none => undef) 0 q a0).put (some tA) (.pointer (some ⟨g1, 0, none⟩))).put (some tB) (.pointer (some ⟨g2, 0, none⟩))).tmps[t]? = (putsL (fun i => match dstAt ops i with | some d => a.eval (.tmp d) | none => undef) 0 q a0).tmps[t]? := by
              simp [Act.put, Array.getElem?_setIfInBounds_ne hnB, Array.getElem?_setIfInBounds_ne hnA]
             rw [hred]; refine putsL_get _ t _ q 0 a0 hts (fun k o hk hd' => ?_) ?_
             · have hkl := (List.getElem?_eq_some_iff.1 hk).1
               have hdk : dstAt ops (0 + k) = some t := by unfold dstAt; rw [Nat.zero_add, atq k hkl, hk]; exact hd'
               rw [hdk]
               have hta : t < a.tmps.size := by rw [hI.size]; exact hts
               simp [Act.eval, hta]
             · by_cases hex : ∃ (k : Nat) (o : Oper), q[k]? = some o ∧ o.dst = some t
               · exact .inr hex
               · left
                 refine (hI.base t fun j _ hd' => ?_).symm; have hjl := dst_lt hd'
                 have hj : j < q.length ∨ j = q.length ∨ j = q.length + 1 ∨ j = q.length + 2 ∨ j = q.length + 3 := by omega
                 rcases hj with hj | rfl | rfl | rfl | rfl
                 · unfold dstAt at hd'; rw [atq j hj] at hd'
                   cases hoj : q[j]? with
                   | none => simp [hoj] at hd'
                   | some oj => exact hex ⟨j, oj, hoj, by simpa [hoj] using hd'⟩
                 · rw [dstA] at hd'; exact htA (Option.some.inj hd').symm
                 · rw [dstB] at hd'; exact htB (Option.some.inj hd').symm
                 · rw [dstsA] at hd'; cases hd'
                 · rw [dstsB] at hd'; cases hd'
       · rw [Array.getElem?_eq_none (by rw [(size_put _ _ _).1, (size_put _ _ _).1, h1]; omega), Array.getElem?_eq_none (by rw [hI.size]; omega)]
     rw [he] at h; exact h
   · rw [Nat.zero_add]; obtain ⟨o, ho⟩ : ∃ o, ops[k]? = some o := ⟨_, Array.getElem?_eq_getElem (by omega)⟩
     cases hdk : dstAt ops k with
     | none =>
      exfalso
      rw [atq k hk] at ho; have := List.all_eq_true.1 hqd o (List.mem_of_getElem? ho); unfold dstAt at hdk; rw [atq k hk, ho] at hdk; have hdk : o.dst = none := hdk; rw [hdk] at this
      cases this
     | some d => exact hI.claim k d hk (hall k (by omega)) hdk
 · unfold left; rw [Array.toList_replicate, List.countP_replicate]
   simp
end Go.Rel
