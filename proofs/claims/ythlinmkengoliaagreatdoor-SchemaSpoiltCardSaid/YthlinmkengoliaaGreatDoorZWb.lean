/- A region that draws its order, whose last operation waits for all others: as XRel's rule, the last one carried out behind it. Seeds of schemas: one column, walked. -/
import Derived.Test.YthlinmkengoliaaGreatDoorZRe
import Derived.Test.YthlinmkengoliaaGreatDoorZWa
import Derived.Test.YthlinmkengoliaaGreatDoorZBrg
import Derived.Deep.DeepCutAuto
set_option linter.unusedVariables false
set_option linter.unusedSimpArgs false
namespace Go.Rel
open Go Go.RowKit
def guardsIn (l : Array Oper) : Bool := l.toList.all fun o => match o.guard with
 | none => true
 | some (g, _) => decide (g < l.size)
def waitsAll (md : Region.Mode) (n : Nat) (o : Oper) : Bool := ((List.range n).all fun k => o.after.toList.any fun e => Region.binds md e && e.on == k) && o.after.toList.all fun e => !Region.binds md e || decide (e.on < n)
section
variable {P : Program} {md : Region.Mode} {l : Array Oper} {a0 : Act} {w0 : World} {prs : Nat → Value → World → Prop} {o : Oper}
theorem yielded_push (tmps : Array Value) {g : Nat} (hg : g < l.size) : yielded (l.push o) tmps g = yielded l tmps g := by
 unfold yielded; rw [Array.getElem?_push_lt hg, Array.getElem?_eq_getElem hg]
theorem wanted_push {x : Oper} {i : Nat} (hgi : guardsIn l = true) (hx : l[i]? = some x) (a : Act) : Region.wanted x (yielded (l.push o) a.tmps) = wantedEv l a.eval x := by
 rw [← wantedEv_eq]; unfold guardsIn at hgi; have := List.all_eq_true.1 hgi x (Array.mem_toList_iff.2 (Array.mem_of_getElem? hx)); unfold Region.wanted
 cases hq : x.guard with
 | none => rfl
 | some p =>
  obtain ⟨g, b⟩ := p; rw [hq] at this; simp only [decide_eq_true_eq] at this
  simp only
  rw [yielded_push _ this]
theorem push_getD {listed : Array Bool} {i : Nat} {b d : Bool} (hi : i < listed.size) : (listed.push b).getD i d = listed.getD i d := by
 simp [Array.getElem?_push_lt hi, hi]
theorem push_set {listed : Array Bool} {i : Nat} {b : Bool} (hi : i < listed.size) : (listed.push b).setIfInBounds i true = (listed.setIfInBounds i true).push b := by
 apply Array.ext_getElem?
 intro j
 by_cases hj : j = i
 · subst hj; rw [Array.getElem?_setIfInBounds_self_of_lt (by simp; omega), Array.getElem?_push_lt (by simpa using hi)]
   simp [hi]
 · rw [Array.getElem?_setIfInBounds_ne (fun e => hj e.symm)]
   by_cases hjl : j < listed.size
   · rw [Array.getElem?_push_lt hjl, Array.getElem?_push_lt (by simpa using hjl)]; rw [← Array.getElem?_eq_getElem, ← Array.getElem?_eq_getElem, Array.getElem?_setIfInBounds_ne (fun e => hj e.symm)]
   · have hne : i ≠ j := fun e => hj e.symm
     simp [Array.getElem?_push, Array.getElem?_setIfInBounds_ne hne]
theorem any_rel_last (hg : good md l a0.tmps.size = true) (hgi : guardsIn l = true) (hw : waitsAll md l.size o = true) (hno : o.guard = none) (hp : ∀ k x, l[k]? = some x → Prem P md l a0 w0 prs k x) {Q : Exit → Act → World → Prop}
    (hQ : ∀ (listed : Array Bool) a w, (∀ i, i < l.size → listed.getD i false = true) → Inv (ops := l) (a0 := a0) (w0 := w0) (prs := prs) listed a w → o.wp P a w (fun a w => Q .normal a w) Q) :
    ∀ (fuel : Nat) (listed : Array Bool) (a : Act) (w : World), listed.size = l.size → left listed = fuel → Inv (ops := l) (a0 := a0) (w0 := w0) (prs := prs) listed a w → wpAny P md (l.push o) Q (fuel + 1) (listed.push false) a w := by
 unfold waitsAll at hw; simp only [Bool.and_eq_true] at hw
 have hon : ∀ e ∈ o.after, Region.binds md e = true → e.on < l.size := fun e he hb => by
  have := List.all_eq_true.1 hw.2 e (Array.mem_toList_iff.2 he)
  simpa [hb] using this
 have hwa : ∀ k, k < l.size → ∃ e ∈ o.after, Region.binds md e = true ∧ e.on = k := fun k hk => by
  have := List.all_eq_true.1 hw.1 k (List.mem_range.2 hk); obtain ⟨e, he, h2⟩ := List.any_eq_true.1 this; simp only [Bool.and_eq_true, beq_iff_eq] at h2; exact ⟨e, Array.mem_toList_iff.1 he, h2⟩
 intro fuel
 induction fuel with
 | zero =>
  intro listed a w hl h0 hI
  have hall : ∀ i, i < l.size → listed.getD i false = true := by
   intro i hi
   have hil : i < listed.size := by omega
   unfold left at h0; have := List.countP_eq_zero.1 h0 (listed[i]) (Array.mem_toList_iff.2 (Array.getElem_mem hil))
   simp [hil]
   simpa using this
  have hn : (l.push o)[l.size]? = some o := by simp
  have hend : ∀ j, j ≤ l.size → ((listed.push false).setIfInBounds l.size true).getD j false = true := by
   intro j hj
   rw [listed_set (by simp; omega)]
   by_cases hjn : j = l.size
   · exact .inl hjn
   · exact .inr (by rw [push_getD (by omega)]; exact hall j (by omega))
  refine ⟨fun hr => ?_, fun i hi => ?_⟩
  · exfalso
    have : l.size ∈ Region.ready md (l.push o) (listed.push false) := by
     rw [mem_ready]; refine ⟨by rw [← hl]; simp, o, hn, fun e he hb => ?_⟩; have h2 := hon e he hb; rw [push_getD (by omega)]; exact hall _ h2
    rw [hr] at this
    cases this
  · obtain ⟨hu, x, hx, hdep⟩ := mem_ready.1 hi
    have hin : i = l.size := by
     have h1 := (Array.getElem?_eq_some_iff.1 hx).1; rw [Array.size_push] at h1
     by_cases h2 : i < l.size
     · exfalso
       have h3 := hall i h2; rw [push_getD (by omega)] at hu
       have hil : i < listed.size := by omega
       simp [hil] at hu h3
       rw [h3] at hu
       cases hu
     · omega
    subst hin; unfold wpOp; rw [hn]
    simp only
    rw [if_pos (by unfold Region.wanted; rw [hno])]; refine .inl (Oper.wp_mono (fun a w h => ⟨?_, h⟩) (hQ listed a w hall hI))
    apply List.eq_nil_iff_forall_not_mem.2
    intro j hj
    obtain ⟨h1, y, hy, _⟩ := mem_ready.1 hj; have hjl := (Array.getElem?_eq_some_iff.1 hy).1; rw [Array.size_push] at hjl; have h2 := hend j (by omega)
    have hjs : j < ((listed.push false).setIfInBounds l.size true).size := by simp; omega
    simp only [Array.getD_eq_getD_getElem?, Array.getElem?_eq_getElem hjs, Option.getD_some] at h1 h2; rw [h1] at h2
    cases h2
 | succ fuel ih =>
  intro listed a w hl h0 hI
  obtain ⟨u, hul, huf⟩ : ∃ i, i < l.size ∧ listed.getD i false = false := by
   unfold left at h0
   have hpos : 0 < listed.toList.countP (· == false) := by omega
   obtain ⟨b, hb, hbf⟩ := List.countP_pos_iff.1 hpos; obtain ⟨i, hi, hib⟩ := List.getElem_of_mem hb
   have hil : i < listed.size := by simpa using hi
   refine ⟨i, by omega, ?_⟩
   have : listed[i] = b := by simpa using hib
   simp [hil, this]
   simpa using hbf
  refine ⟨fun hr => ?_, fun i hi => ?_⟩
  · exfalso
    have h1 := ready_some hg hl hul huf; obtain ⟨j, hj⟩ := List.exists_mem_of_ne_nil _ h1; obtain ⟨h2, x, hx, hd⟩ := mem_ready.1 hj; have hjl := (Array.getElem?_eq_some_iff.1 hx).1
    have : j ∈ Region.ready md (l.push o) (listed.push false) := by
     rw [mem_ready]; refine ⟨by rw [push_getD (by omega)]; exact h2, x, by rw [Array.getElem?_push_lt hjl]; rw [Array.getElem?_eq_getElem hjl] at hx; exact hx, fun e he hb => ?_⟩; obtain ⟨_, _, _, _, hlt⟩ := good_at hg hx; have := hlt e he hb; rw [push_getD (by omega)]; exact hd e he hb
    rw [hr] at this
    cases this
  · obtain ⟨hu, x, hx, hdep⟩ := mem_ready.1 hi; have hxs := (Array.getElem?_eq_some_iff.1 hx).1; rw [Array.size_push] at hxs
    have hil : i < l.size := by
     by_cases h2 : i < l.size
     · exact h2
     · exfalso
       have hin : i = l.size := by omega
       subst hin
       have hxo : x = o := by
        have : (l.push o)[l.size]? = some o := by simp
        rw [this] at hx; exact (Option.some.inj hx).symm
       subst hxo; obtain ⟨e, he, hb, hek⟩ := hwa u hul; have h3 := hdep e he hb; rw [hek, push_getD (by omega), huf] at h3
       cases h3
    have hx' : l[i]? = some x := by rw [Array.getElem?_push_lt hil] at hx; rw [Array.getElem?_eq_getElem hil]; exact hx
    have hils : i < listed.size := by omega
    have hu' : listed.getD i true = false := by rw [push_getD hils] at hu; exact hu
    have hstep : ∀ v w', Below w.heap.size w w' → prs i v w' → wpAny P md (l.push o) Q (fuel + 1) ((listed.push false).setIfInBounds i true) (a.put x.dst v) w' := fun v w' hb hv => by
     rw [push_set hils]; exact ih _ _ _ (by simpa using hl) (by have := left_set hils hu'; omega) (Inv.put hg (fun k o h => (hp k o h).1) hl hx' hI hb hv)
    have hprem := (hp i x hx').2 a.eval w hI.bel (fun t ht => ?_) (fun _ => rfl) (fun _ => rfl) (fun _ => rfl) (fun k e hk hb d hd => hI.claim e.on d (by
      have he := Array.mem_of_getElem? hk; obtain ⟨_, _, _, _, hlt⟩ := good_at hg hx'; have h4 := hdep e he hb; rw [push_getD (by have := hlt e he hb; omega)] at h4
      exact h4) hd)
    · unfold wpOp; rw [hx]
      simp only
      rw [wanted_push hgi hx']
      split
      · rename_i hw'
        rw [if_pos hw'] at hprem; exact .inl (wp_of_rel (relUpon_mono (fun v w' h => hstep v w' h.1 h.2) hprem))
      · rename_i hw'
        rw [if_neg hw'] at hprem; exact hstep _ _ (Below.refl _ _) hprem
    · have := hI.base t fun j _ hd => by rw [isDst_of hd] at ht; cases ht
      simp [Act.eval, this]
end
theorem wp_region_last {P : Program} {id : Nat} {Q : Exit → Act → World → Prop} {l : List Oper} {o : Oper} (ps : List (Value → World → Prop)) {a0 : Act} {w0 : World} (hm : P.follows .mixedOrders = true) (hg : good .any l.toArray a0.tmps.size = true)
    (hgi : guardsIn l.toArray = true) (hw : waitsAll .any l.toArray.size o = true) (hno : o.guard = none)
    (hp : Prems P .any l.toArray a0 w0 (sel ps) 0 l) (hend : ∀ w, Below w0.heap.size w0 w → relEnd (sel ps) w (fun a => o.wp P a w (fun a w => Q .normal a w) Q) 0 l a0) : (Code.region id (l.toArray.push o) true).wp P Q a0 w0 := by
 refine wp_region_any hm ?_
 have hpa : ∀ k o, l.toArray[k]? = some o → Prem P .any l.toArray a0 w0 (sel ps) k o := fun k o h => by
  have := prems_at l 0 hp k o (by simpa using h)
  rwa [Nat.zero_add] at this
 have hrep : Array.replicate (l.toArray.push o).size false = (Array.replicate l.toArray.size false).push false := by
  rw [Array.size_push]; exact Array.replicate_succ
 have hfuel : (l.toArray.push o).size = l.toArray.size + 1 := Array.size_push _; rw [hrep, hfuel]; refine any_rel_last hg hgi hw hno hpa (fun listed a w hall hI => ?_) _ _ _ _ (by simp) ?_ ⟨rfl, rfl, fun _ _ => rfl, fun i d hi => ?_, ⟨rfl, rfl, rfl, Nat.le_refl _, fun _ _ => rfl⟩⟩
 · have h := relEnd_inst (fun i => match dstAt l.toArray i with | some d => a.eval (.tmp d) | none => undef) l 0 a0 (hend w hI.bel) (fun k hk => ?_)
   · have he : putsL (fun i => match dstAt l.toArray i with | some d => a.eval (.tmp d) | none => undef) 0 l a0 = a := by
       obtain ⟨h1, h2⟩ := putsL_size (fun i => match dstAt l.toArray i with | some d => a.eval (.tmp d) | none => undef) l 0 a0; refine act_ext ?_ (h2.trans hI.defers.symm)
       apply Array.ext_getElem?
       intro t
       by_cases ht : t < a0.tmps.size
       · refine putsL_get _ t _ l 0 a0 ht (fun k o hk hd => ?_) ?_
         · have hdk : dstAt l.toArray (0 + k) = some t := by unfold dstAt; rw [Nat.zero_add]; simp [hk, hd]
           rw [hdk]
           have hta : t < a.tmps.size := by rw [hI.size]; exact ht
           simp [Act.eval, hta]
         · by_cases hex : ∃ (k : Nat) (o : Oper), l[k]? = some o ∧ o.dst = some t
           · exact .inr hex
           · left
             refine (hI.base t fun j _ hd => hex ?_).symm; unfold dstAt at hd
             cases hoj : l.toArray[j]? with
             | none => simp [hoj] at hd
             | some oj => exact ⟨j, oj, by simpa using hoj, by simpa [hoj] using hd⟩
       · rw [Array.getElem?_eq_none (by rw [h1]; omega), Array.getElem?_eq_none (by rw [hI.size]; omega)]
     rw [he] at h; exact h
   · rw [Nat.zero_add]; obtain ⟨o, ho⟩ : ∃ o, l.toArray[k]? = some o := ⟨_, Array.getElem?_eq_getElem (by simpa using hk)⟩; obtain ⟨d, hd, _⟩ := good_at hg ho
     have hdk : dstAt l.toArray k = some d := by unfold dstAt; rw [ho]; exact hd
     have := hI.claim k d (hall k (by simpa using hk)) hdk; simp only [hdk]; exact this
 · unfold left; rw [Array.toList_replicate, List.countP_replicate]
   simp
 · exfalso
   have h2 : (Array.replicate l.toArray.size false).getD i false = false := by
    by_cases h : i < l.length
    · simp [h]
    · simp [h]
   rw [h2] at hi
   cases hi
end Go.Rel
set_option linter.unusedSimpArgs false
namespace Go.Ms
open Go.RowKit Go.Lib Go.Rel
theorem at_stable (m : Nat) (cs : Array Value) (T : TypeId) : Stable (fun v w => ∃ g, v = .pointer (some ⟨g, m, none⟩) ∧ w.heap[g]? = some (.cells cs T (0, 0))) := fun v w w' ⟨g, h1, h2⟩ hb => ⟨g, h1, (hb.block g (Array.getElem?_eq_some_iff.1 h2).1).trans h2⟩
theorem md_two {w : World} {b : Nat} {x y : Value} {T : TypeId} (h : w.heap[b]? = some (.cells #[x, y] T (0, 0))) (u v : Value) : ((w.setCell ⟨b, 0, none⟩ u).setCell ⟨b, 1, none⟩ v).heap[b]? = some (.cells #[u, v] T (0, 0)) := by
 simp [World.setCell, Array.getElem?_modify, h]
theorem md_three {w : World} {b : Nat} {x y z : Value} {T : TypeId} (h : w.heap[b]? = some (.cells #[x, y, z] T (0, 0))) (u v t : Value) : (((w.setCell ⟨b, 0, none⟩ u).setCell ⟨b, 1, none⟩ v).setCell ⟨b, 2, none⟩ t).heap[b]? = some (.cells #[u, v, t] T (0, 0)) := by
 simp [World.setCell, Array.getElem?_modify, h]
theorem md_seven {w : World} {b : Nat} {v0 v1 v2 v3 v4 v5 v6 : Value} {T : TypeId} (h : w.heap[b]? = some (.cells #[v0, v1, v2, v3, v4, v5, v6] T (0, 0))) (x0 x1 x2 x3 x4 x5 x6 : Value) :
    (((((((w.setCell ⟨b, 0, none⟩ x0).setCell ⟨b, 1, none⟩ x1).setCell ⟨b, 2, none⟩ x2).setCell ⟨b, 3, none⟩ x3).setCell ⟨b, 4, none⟩ x4).setCell ⟨b, 5, none⟩ x5).setCell ⟨b, 6, none⟩ x6).heap[b]? = some (.cells #[x0, x1, x2, x3, x4, x5, x6] T (0, 0)) := by
 simp [World.setCell, Array.getElem?_modify, h]
theorem md_far {w : World} {b c i : Nat} {o : Obj} (h : w.heap[b]? = some o) (hc : b ≠ c) (u : Value) : (w.setCell ⟨c, i, none⟩ u).heap[b]? = some o := (Below.heap_setCell w ⟨c, i, none⟩ u b hc).trans h
def sdA (c : Sd5) : Value := .agg #[.int .i64 c.1, .int .i64 c.2.1, .int .i64 c.2.2.1, .int .i64 c.2.2.2.1, .int .i64 c.2.2.2.2]
theorem sdNm_at (M : Nat) (h : M < 5) : (#[Value.string ⟨#[97]⟩, .string ⟨#[105, 100]⟩, .string ⟨#[110, 95, 49]⟩, .string ⟨#[120, 57]⟩, .string ⟨#[118, 97, 108, 117, 101]⟩] : Array Value)[M]? = some (.string (sdNm (M : Int))) := by
 have : M = 0 ∨ M = 1 ∨ M = 2 ∨ M = 3 ∨ M = 4 := by omega
 rcases this with rfl | rfl | rfl | rfl | rfl <;> rfl
theorem sdNm_size (M : Nat) (h : M < 5) : (sdNm (M : Int)).size ≤ 5 := by
 have : M = 0 ∨ M = 1 ∨ M = 2 ∨ M = 3 ∨ M = 4 := by omega
 rcases this with rfl | rfl | rfl | rfl | rfl <;> decide
def sdD5 : Array Value := #[.bool false, .int .i64 0, .string ⟨#[]⟩, .bool false, .int .i64 1, .string ⟨#[]⟩, .bool false, .int .i64 2147483647, .string ⟨#[]⟩, .bool false, .int .i64 (-2147483648), .string ⟨#[]⟩, .bool false, .int .i64 7, .string ⟨#[]⟩]
theorem sdD5_at (M : Nat) (h : M < 5) : sdD5[M * 3]? = some (.bool false) ∧ sdD5[M * 3 + 1]? = some (.int .i64 (sdInt (M : Int))) ∧ sdD5[M * 3 + 2]? = some (.string ⟨#[]⟩) := by
 have : M = 0 ∨ M = 1 ∨ M = 2 ∨ M = 3 ∨ M = 4 := by omega
 rcases this with rfl | rfl | rfl | rfl | rfl <;> exact ⟨rfl, rfl, rfl⟩
theorem sdStr_at (M : Nat) (h : M < 5) : (#[Value.string ⟨#[]⟩, .string ⟨#[97, 32, 98]⟩, .string ⟨#[34, 10]⟩, .string ⟨#[195, 164]⟩, .string ⟨#[110, 117, 108, 108]⟩] : Array Value)[M]? = some (.string (sdStr (M : Int))) := by
 have : M = 0 ∨ M = 1 ∨ M = 2 ∨ M = 3 ∨ M = 4 := by omega
 rcases this with rfl | rfl | rfl | rfl | rfl <;> rfl
theorem sdByt_at (M : Nat) (h : M < 5) : (#[Value.string ⟨#[]⟩, .string ⟨#[0, 255]⟩, .string ⟨#[120]⟩, .string ⟨#[32]⟩, .string ⟨#[10]⟩] : Array Value)[M]? = some (.string (sdByt (M : Int))) := by
 have : M = 0 ∨ M = 1 ∨ M = 2 ∨ M = 3 ∨ M = 4 := by omega
 rcases this with rfl | rfl | rfl | rfl | rfl <;> rfl
theorem md_frozen {w : World} {b i : Nat} {cs : Array Value} {T : TypeId} (h : w.heap[b]? = some (.cells cs T (0, 0))) : w.frozen? ⟨b, i, none⟩ = false := by simp [World.frozen?, h]
theorem wp_inblock {P : Program} {c : Code} {K : Act → World → Prop} {Q' : Exit → Act → World → Prop} {id : Nat} {a : Act} {w : World} (h : c.wp P (Exit.then K (Exit.inBlock id (Exit.then K Q'))) a w) : c.wp P (Exit.inBlock id (Exit.then K Q')) a w :=
  Code.wp_mono (fun e a w h => by cases e <;> exact h) h
structure SdAt (bx rs ty : Obj) (tC : TypeId) (w : World) (tb cb : Nat) (d : Cl) (wx : World) : Prop where
  q0 : wx.heap[w.heap.size]? = some bx
  q1 : wx.heap[w.heap.size + 1]? = some rs
  q2 : wx.heap[tb]? = some ty
  qc : wx.heap[cb]? = some (.cells #[.bool d.1, .int .i64 d.2.1, .string d.2.2] tC (0, 0))
  bel : Below w.heap.size w wx
  lt : w.heap.size + 1 < cb ∧ tb ≠ cb
theorem SdAt.put {bx rs ty : Obj} {tC : TypeId} {w : World} {tb cb : Nat} {d : Cl} {wx : World} (h : SdAt bx rs ty tC w tb cb d wx) (u : Bool) (n : Int) (s : ByteArray) :
    SdAt bx rs ty tC w tb cb (u, n, s) (((wx.setCell ⟨cb, 0, none⟩ (.bool u)).setCell ⟨cb, 1, none⟩ (.int .i64 n)).setCell ⟨cb, 2, none⟩ (.string s)) :=
  ⟨md_far (md_far (md_far h.q0 (by have := h.lt; omega) _) (by have := h.lt; omega) _) (by have := h.lt; omega) _,
    md_far (md_far (md_far h.q1 (by have := h.lt; omega) _) (by have := h.lt; omega) _) (by have := h.lt; omega) _,
    md_far (md_far (md_far h.q2 h.lt.2 _) h.lt.2 _) h.lt.2 _, md_three h.qc _ _ _,
    ((h.bel.setCell (p := ⟨cb, 0, none⟩) (by have := h.lt; simp only; omega) _).setCell (p := ⟨cb, 1, none⟩) (by have := h.lt; simp only; omega) _).setCell (p := ⟨cb, 2, none⟩) (by have := h.lt; simp only; omega) _, h.lt⟩
theorem SdAt.mk' {bx rs ty : Obj} {tC : TypeId} {w : World} {tb cb : Nat} {d d' : Cl} {wx : World} (h : SdAt bx rs ty tC w tb cb d wx) (e : d' = d) : SdAt bx rs ty tC w tb cb d' wx := e ▸ h
theorem SdAt.new {bx rs ty : Obj} {tC : TypeId} {w : World} {tb cb : Nat} {d : Cl} {wx : World} {o : Obj} (h : SdAt bx rs ty tC w tb cb d wx) : SdAt bx rs ty tC w tb cb d (wx.alloc o) :=
  ⟨block_next h.q0 _, block_next h.q1 _, block_next h.q2 _, block_next h.qc _, h.bel.alloc h.bel.size _, h.lt⟩
end Go.Ms
namespace Go.Proofs.YthlinmkengoliaaGreatDoor
open Go.RowKit Go.Ms Go.Lib Go.Rel
set_option maxRecDepth 100000 in
set_option maxHeartbeats 8000000 in
theorem column_seed (c : Sd5) (id : Int) (i : Nat) (w : World) (b0 : -9223372036854775808 ≤ c.1 ∧ c.1 ≤ 9223372036854775807) (b1 : -9223372036854775808 ≤ c.2.1 ∧ c.2.1 ≤ 9223372036854775807) (b2 : -9223372036854775808 ≤ c.2.2.1 ∧ c.2.2.1 ≤ 9223372036854775807) (b3 : -9223372036854775808 ≤ c.2.2.2.1 ∧ c.2.2.2.1 ≤ 9223372036854775807) (b4 : -9223372036854775808 ≤ c.2.2.2.2 ∧ c.2.2.2.2 ≤ 9223372036854775807)
    (h0 : 0 ≤ id) (h1 : id ≤ 1000000) (hi : i < 16) :
    Calls Tryz.prog 33 #[sdA c, .int .i64 id, .int .i64 i] w fun e w' => e = .returned (coA (sdCo c id i)) ∧ Below w.heap.size w w' := by
 obtain ⟨c0, c1, c2, c3, c4⟩ := c; simp only at b0 b1 b2 b3 b4; obtain ⟨K, hK⟩ : ∃ K : Nat, c0 % 5 = (K : Int) := ⟨(c0 % 5).toNat, by omega⟩; obtain ⟨r, hr⟩ : ∃ r, c1 % 3 = r := ⟨_, rfl⟩; obtain ⟨L, hL⟩ : ∃ L : Nat, c3 % 5 = (L : Int) := ⟨(c3 % 5).toNat, by omega⟩; obtain ⟨M, hM⟩ : ∃ M : Nat, c2 % 5 = (M : Int) := ⟨(c2 % 5).toNat, by omega⟩
 have hMb : M < 5 := by omega
 have hLb : L < 5 := by omega
 have hKb : K < 5 := by omega
 have hbk := fun w => bringI_any c0 5 (by omega) (by omega) (by omega) (by omega) w
 have hbu := fun w => bringI_any c1 3 (by omega) (by omega) (by omega) (by omega) w
 have hbn := fun w => bringI_any c3 5 (by omega) (by omega) (by omega) (by omega) w
 rw [hr] at hbu; rw [hL] at hbn; rw [hK] at hbk; have va : IntKind.i64.wrap (id + 1) = id + 1 := IntWalk.i64_in _ (by omega); have vb : IntKind.i64.wrap (id + 1 + c4 % 9) = id + 1 + c4 % 9 := IntWalk.i64_in _ (by omega); have vc : IntKind.i64.wrap ((i : Int) + 1) = (i : Int) + 1 := IntWalk.i64_in _ (by omega); obtain ⟨k, hk⟩ : ∃ k, 1 + (K : Int) = k := ⟨_, rfl⟩
 have hkb : 1 ≤ k ∧ k ≤ 5 := by omega
 have hsd : sdCo (c0, c1, c2, c3, c4) id i = (id + 1 + c4 % 9, (sdNm (M : Int) ++ ⟨#[95]⟩) ++ sdLet.extract i (i + 1), (k, r == 0), sdDef k (r == 0) (L : Int)) := by
  have e : decide (r = 0) = (r == 0) := rfl; unfold sdCo; simp only [hM, hr, hL, hK, hk, e]
 rw [hsd]
 have vk : IntKind.i64.wrap (1 + (K : Int)) = k := by rw [hk]; exact IntWalk.i64_in _ (by omega)
 show Calls _ _ #[.agg #[.int .i64 c0, .int .i64 c1, .int .i64 c2, .int .i64 c3, .int .i64 c4], _, _] _ _
 go_enter Tryz.func33, Tryz.ntmps33
 go_wp2_with fail
 obtain ⟨X, hX⟩ : ∃ X, X = (w.alloc (.cells #[.int .i64 c0, .int .i64 c1, .int .i64 c2, .int .i64 c3, .int .i64 c4] 61)).alloc (.cells #[.int .i64 0, .string ⟨#[]⟩, .int .i64 0, .bool false, .bool false, .int .i64 0, .string ⟨#[]⟩] 37) := ⟨_, rfl⟩
 have bX : Below w.heap.size w X := by rw [hX]; exact ((Below.refl _ w).alloc (Nat.le_refl _) _).alloc (by rw [World.size_alloc]; omega) _
 have q0 : X.heap[w.heap.size]? = some (.cells #[.int .i64 c0, .int .i64 c1, .int .i64 c2, .int .i64 c3, .int .i64 c4] 61 (0, 0)) := by rw [hX]; exact block_next (block_new _ _) _
 have q1 : X.heap[w.heap.size + 1]? = some (.cells #[.int .i64 0, .string ⟨#[]⟩, .int .i64 0, .bool false, .bool false, .int .i64 0, .string ⟨#[]⟩] 37 (0, 0)) := by rw [hX]; have := block_new (w.alloc (.cells #[.int .i64 c0, .int .i64 c1, .int .i64 c2, .int .i64 c3, .int .i64 c4] 61)) (.cells #[.int .i64 0, .string ⟨#[]⟩, .int .i64 0, .bool false, .bool false, .int .i64 0, .string ⟨#[]⟩] 37); rw [World.size_alloc] at this; exact this
 rw [← hX]; clear hX; refine (hbk X).mono ?_; rintro en w1 ⟨rfl, b1⟩
 have Q0 := Lib.hid (block_kept q0 b1); have Q1 := Lib.hid (block_kept q1 b1); have B1 := Lib.hid (bX.trans (b1.mono bX.size))
 clear q0 q1 bX b1; have y0 := cell_of_block (i := 1) Q0.out rfl
 go_upto_region 2 with fail
 generalize 1 + (K : Int) = k at hk ⊢
 subst hk
 go_wp2_with fail
 refine (hbu w1).mono ?_; rintro en w2 ⟨rfl, b2⟩; obtain ⟨X2, hX2⟩ : ∃ X, X = w2.alloc (.cells #[.int .i64 (k), .bool (r == 0)] 33) := ⟨_, rfl⟩
 have bx2 : Below w2.heap.size w2 X2 := by rw [hX2]; exact (Below.refl _ _).alloc (Nat.le_refl _) _
 have Q0x := Lib.hid (block_kept (block_kept Q0.out b2) bx2); have Q1x := Lib.hid (block_kept (block_kept Q1.out b2) bx2); have Bx := Lib.hid ((B1.out.trans (b2.mono B1.out.size)).trans (bx2.mono (B1.out.trans (b2.mono B1.out.size)).size))
 have q2x : X2.heap[w2.heap.size]? = some (.cells #[.int .i64 (k), .bool (r == 0)] 33 (0, 0)) := by rw [hX2]; exact block_new _ _
 clear Q0 Q1 B1 b2 bx2 y0; have y0 : X2.cell? ⟨w.heap.size, 3, none⟩ = some (.int .i64 c3) := cell_of_block (i := 3) Q0x.out rfl
 go_upto_region 3 with fail
 rw [← hX2]
 generalize hB : w2.heap.size = tb at q2x ⊢
 have Q2x := Lib.hid q2x; clear hX2 hB q2x
 go_wp2_with fail
 refine (hbn X2).mono ?_; rintro en w3 ⟨rfl, b3⟩
 have Q0 := Lib.hid (block_kept Q0x.out b3); have Q1 := Lib.hid (block_kept Q1x.out b3); have Q2 := Lib.hid (block_kept Q2x.out b3); have B3 := Lib.hid (Bx.out.trans (b3.mono Bx.out.size))
 clear Q0x Q1x Q2x Bx b3 y0; have z0 := cell_of_block (i := L * 3) (block_new w3 (.cells #[.bool false, .int .i64 0, .string ⟨#[]⟩, .bool false, .int .i64 1, .string ⟨#[]⟩, .bool false, .int .i64 2147483647, .string ⟨#[]⟩, .bool false, .int .i64 (-2147483648), .string ⟨#[]⟩, .bool false, .int .i64 7, .string ⟨#[]⟩] 35)) (sdD5_at L hLb).1
 have z1 := cell_of_block (i := L * 3 + 1) (block_new w3 (.cells #[.bool false, .int .i64 0, .string ⟨#[]⟩, .bool false, .int .i64 1, .string ⟨#[]⟩, .bool false, .int .i64 2147483647, .string ⟨#[]⟩, .bool false, .int .i64 (-2147483648), .string ⟨#[]⟩, .bool false, .int .i64 7, .string ⟨#[]⟩] 35)) (sdD5_at L hLb).2.1
 have z2 := cell_of_block (i := L * 3 + 2) (block_new w3 (.cells #[.bool false, .int .i64 0, .string ⟨#[]⟩, .bool false, .int .i64 1, .string ⟨#[]⟩, .bool false, .int .i64 2147483647, .string ⟨#[]⟩, .bool false, .int .i64 (-2147483648), .string ⟨#[]⟩, .bool false, .int .i64 7, .string ⟨#[]⟩] 35)) (sdD5_at L hLb).2.2
 have hL5 : (L : Int) < 5 := by omega
 have hL5' : decide ((L : Int) < 5) = true := by simp; omega
 go_upto_if 33 with fail
 have hx5 : SdAt (.cells #[.int .i64 c0, .int .i64 c1, .int .i64 c2, .int .i64 c3, .int .i64 c4] 61 (0, 0)) (.cells #[.int .i64 0, .string ⟨#[]⟩, .int .i64 0, .bool false, .bool false, .int .i64 0, .string ⟨#[]⟩] 37 (0, 0)) (.cells #[.int .i64 k, .bool (r == 0)] 33 (0, 0)) 35 w tb (w3.heap.size + 1) (false, sdInt (L : Int), ⟨#[]⟩)
     ((w3.alloc (.cells #[.bool false, .int .i64 0, .string ⟨#[]⟩, .bool false, .int .i64 1, .string ⟨#[]⟩, .bool false, .int .i64 2147483647, .string ⟨#[]⟩, .bool false, .int .i64 (-2147483648), .string ⟨#[]⟩, .bool false, .int .i64 7, .string ⟨#[]⟩] 35)).alloc (.cells #[.bool false, .int .i64 (sdInt (L : Int)), .string ⟨#[]⟩] 35)) := by
   have e1 := (Array.getElem?_eq_some_iff.1 Q1.out).1; have e2 := (Array.getElem?_eq_some_iff.1 Q2.out).1; have e3 := block_new (w3.alloc (.cells #[.bool false, .int .i64 0, .string ⟨#[]⟩, .bool false, .int .i64 1, .string ⟨#[]⟩, .bool false, .int .i64 2147483647, .string ⟨#[]⟩, .bool false, .int .i64 (-2147483648), .string ⟨#[]⟩, .bool false, .int .i64 7, .string ⟨#[]⟩] 35)) (.cells #[.bool false, .int .i64 (sdInt (L : Int)), .string ⟨#[]⟩] 35); rw [World.size_alloc] at e3
   exact ⟨block_next (block_next Q0.out _) _, block_next (block_next Q1.out _) _, block_next (block_next Q2.out _) _, e3, (B3.out.alloc B3.out.size _).alloc (by rw [World.size_alloc]; have := B3.out.size; omega) _, by omega, by omega⟩
 generalize (w3.alloc (.cells #[.bool false, .int .i64 0, .string ⟨#[]⟩, .bool false, .int .i64 1, .string ⟨#[]⟩, .bool false, .int .i64 2147483647, .string ⟨#[]⟩, .bool false, .int .i64 (-2147483648), .string ⟨#[]⟩, .bool false, .int .i64 7, .string ⟨#[]⟩] 35)).alloc (.cells #[.bool false, .int .i64 (sdInt (L : Int)), .string ⟨#[]⟩] 35) = X5 at hx5 ⊢
 generalize w3.heap.size + 1 = cb at hx5 ⊢
 clear Q0 Q1 Q2 B3 z0 z1 z2
 generalize hbx : Obj.cells #[.int .i64 c0, .int .i64 c1, .int .i64 c2, .int .i64 c3, .int .i64 c4] 61 (0, 0) = bx at hx5
 generalize hrs : Obj.cells #[.int .i64 0, .string ⟨#[]⟩, .int .i64 0, .bool false, .bool false, .int .i64 0, .string ⟨#[]⟩] 37 (0, 0) = rs at hx5
 generalize hty : Obj.cells #[.int .i64 k, .bool (r == 0)] 33 (0, 0) = ty at hx5
 have hm2 : (L : Int).tmod 2 = (L : Int) % 2 := Int.tmod_eq_emod_of_nonneg (by omega); have f0 := md_frozen (i := 0) hx5.qc; have f1 := md_frozen (i := 1) hx5.qc; have f2 := md_frozen (i := 2) hx5.qc; have y0 := cell_of_block (i := 0) hx5.qc rfl; have y1 := cell_of_block (i := 1) hx5.qc rfl; have y2 := cell_of_block (i := 2) hx5.qc rfl
 have HX5 := Lib.hid hx5; have HBX := Lib.hid hbx; have HRS := Lib.hid hrs; have HTY := Lib.hid hty
 clear hx5 hbx hrs hty; refine wp_inblock ?_
 go_cut [33] (fun s33 wx => SdAt bx rs ty 35 w tb cb (sdDef0 k (L : Int)) wx)
 case first =>
  have k5 : k = 1 ∨ k = 2 ∨ k = 3 ∨ k = 4 ∨ k = 5 := by omega
  rcases k5 with e | e | e | e | e
  · have t1 : (k == 1) = true := by rw [e]; rfl
    have E := Lib.hid e; clear e
    go_wp2_with fail
    go_meet
    exact (HX5.out.put _ _ _).mk' (by rw [E.out]; rfl)
  · have t1 : (k == 1) = false := by rw [e]; rfl
    have t3 : (k == 3) = false := by rw [e]; rfl
    have t4 : (k == 4) = false := by rw [e]; rfl
    have t5 : (k == 5) = false := by rw [e]; rfl
    have E := Lib.hid e; clear e
    go_wp2_with fail
    go_meet
    exact HX5.out.mk' (by rw [E.out]; rfl)
  · have t1 : (k == 1) = false := by rw [e]; rfl
    have t3 : (k == 3) = true := by rw [e]; rfl
    have t4 : (k == 4) = false := by rw [e]; rfl
    have t5 : (k == 5) = false := by rw [e]; rfl
    by_cases h2 : (2 : Int) < (L : Int)
    · have h2' : decide ((2 : Int) < (L : Int)) = true := by simp; omega
      have H2 := Lib.hid h2; clear h2
      have E := Lib.hid e; clear e
      go_wp2_with fail
      go_meet
      exact (HX5.out.put _ _ _).mk' (by have e := E.out; unfold sdDef0; rw [if_neg (by omega), if_pos ⟨E.out, H2.out⟩])
    · have h2' : decide ((2 : Int) < (L : Int)) = false := by simp; omega
      have H2 := Lib.hid h2; clear h2
      have E := Lib.hid e; clear e
      go_wp2_with fail
      go_meet
      exact HX5.out.mk' (by have e := E.out; unfold sdDef0; have h2 := H2.out; rw [if_neg (by omega), if_neg (by omega), if_neg (by omega), if_neg (by omega)])
  · have t1 : (k == 1) = false := by rw [e]; rfl
    have t3 : (k == 3) = false := by rw [e]; rfl
    have t4 : (k == 4) = true := by rw [e]; rfl
    have z0 := cell_of_block (block_new X5 (.cells #[.string ⟨#[]⟩, .string ⟨#[97, 32, 98]⟩, .string ⟨#[34, 10]⟩, .string ⟨#[195, 164]⟩, .string ⟨#[110, 117, 108, 108]⟩] 9)) (sdStr_at L hLb); clear f0 f1 f2 y0 y1 y2; have hx6 := HX5.out.new (o := (.cells #[.string ⟨#[]⟩, .string ⟨#[97, 32, 98]⟩, .string ⟨#[34, 10]⟩, .string ⟨#[195, 164]⟩, .string ⟨#[110, 117, 108, 108]⟩] 9)); have f0 := md_frozen (i := 0) hx6.qc; have y0 := cell_of_block (i := 0) hx6.qc rfl; have f1 := md_frozen (i := 1) hx6.qc; have y1 := cell_of_block (i := 1) hx6.qc rfl; have f2 := md_frozen (i := 2) hx6.qc
    have y2 := cell_of_block (i := 2) hx6.qc rfl
    have HX6 := Lib.hid hx6; clear hx6
    have E := Lib.hid e; clear e
    go_wp2_with fail
    go_meet
    exact (HX6.out.put _ _ _).mk' (by have e := E.out; unfold sdDef0; rw [if_neg (by omega), if_neg (by omega), if_pos E.out])
  · have t1 : (k == 1) = false := by rw [e]; rfl
    have t3 : (k == 3) = false := by rw [e]; rfl
    have t4 : (k == 4) = false := by rw [e]; rfl
    have t5 : (k == 5) = true := by rw [e]; rfl
    have z0 := cell_of_block (block_new X5 (.cells #[.string ⟨#[]⟩, .string ⟨#[0, 255]⟩, .string ⟨#[120]⟩, .string ⟨#[32]⟩, .string ⟨#[10]⟩] 9)) (sdByt_at L hLb); clear f0 f1 f2 y0 y1 y2; have hx6 := HX5.out.new (o := (.cells #[.string ⟨#[]⟩, .string ⟨#[0, 255]⟩, .string ⟨#[120]⟩, .string ⟨#[32]⟩, .string ⟨#[10]⟩] 9)); have f0 := md_frozen (i := 0) hx6.qc; have y0 := cell_of_block (i := 0) hx6.qc rfl; have f1 := md_frozen (i := 1) hx6.qc; have y1 := cell_of_block (i := 1) hx6.qc rfl; have f2 := md_frozen (i := 2) hx6.qc; have y2 := cell_of_block (i := 2) hx6.qc rfl
    have HX6 := Lib.hid hx6; clear hx6
    have E := Lib.hid e; clear e
    go_wp2_with fail
    go_meet
    exact (HX6.out.put _ _ _).mk' (by have e := E.out; unfold sdDef0; rw [if_neg (by omega), if_neg (by omega), if_neg (by omega), if_pos E.out])
 case rest =>
  clear HX5 f0 f1 f2 y0 y1 y2 hm2; have q2 := hcut.q2; rw [← HTY.out] at q2; have t1 : wc.cell? ⟨tb, 1, none⟩ = some (.bool (r == 0)) := cell_of_block (i := 1) q2 rfl; have f0 := md_frozen (i := 0) hcut.qc; have f1 := md_frozen (i := 1) hcut.qc; have f2 := md_frozen (i := 2) hcut.qc; have y0 := cell_of_block (i := 0) hcut.qc rfl; have y1 := cell_of_block (i := 1) hcut.qc rfl; have y2 := cell_of_block (i := 2) hcut.qc rfl; have HC := Lib.hid hcut; clear q2 hcut
  go_upto_region 13 with fail
  go_cut [65, 66, 67, 68] (fun s65 s66 s67 s68 wx => ∃ sv, s68 = .bool sv ∧ sv = ((r == 0) && ((L : Int) == 0)) ∧ wx = wc)
  case first =>
   cases hr0 : (r == 0) with
   | true =>
    rw [hr0] at t1
    go_wp2_with fail
    go_meet
    exact ⟨_, rfl, by rw [hr0]; rfl, rfl⟩
   | false =>
    rw [hr0] at t1
    go_wp2_with fail
    go_meet
    exact ⟨_, rfl, by rw [hr0]; rfl, rfl⟩
  case rest =>
   obtain ⟨sv, rfl, hsv, rfl⟩ := hcut; have HSV := Lib.hid hsv; clear hsv
   go_upto_if 68 with fail
   go_cut [68] (fun s68 wx => SdAt bx rs ty 35 w tb cb (sdDef k (r == 0) (L : Int)) wx)
   case first =>
    cases sv with
    | true =>
     go_wp2_with fail
     go_meet
     refine (HC.out.put _ _ _).mk' ?_; have hs := HSV.out
     have h1 : (r == 0) = true ∧ (L : Int) = 0 := by have := hs.symm; simpa using this
     unfold sdDef; rw [if_pos h1]
    | false =>
     go_wp2_with fail
     go_meet
     refine HC.out.mk' ?_; have hs := HSV.out; unfold sdDef; rw [if_neg]; rintro ⟨h1, h2⟩; rw [h1] at hs
     simp [h2] at hs
   case rest =>
    clear HC f0 f1 f2 y0 y1 y2 t1 HSV
    generalize hd : sdDef k (r == 0) (L : Int) = d at hcut ⊢
    obtain ⟨d0, d1, d2⟩ := d; have q0 := hcut.q0; have q1 := hcut.q1; have q2 := hcut.q2; rw [← HBX.out] at q0; rw [← HRS.out] at q1; rw [← HTY.out] at q2
    have Q0 := Lib.hid q0; have Q1 := Lib.hid q1; have Q2 := Lib.hid q2; have QC := Lib.hid hcut.qc; have BC := Lib.hid hcut.bel
    have VA := Lib.hid va; have VB := Lib.hid vb; have VC := Lib.hid vc; have HM := Lib.hid hM; have HMB := Lib.hid hMb; have HNM := Lib.hid (sdNm_at M hMb); have HNZ := Lib.hid (sdNm_size M hMb); have HI := Lib.hid hi; have HD := Lib.hid hd
    clear q0 q1 q2 hcut HBX HRS HTY va vb vc vk hsd hr hL hK hd hbk hbu hbn hL5 hL5' hM hkb
    go_upto_region 15 with fail
    refine wp_region_last (l := [_, _, _, _, _, _, _, _, _, _, _, _, _, _, _, _, _, _, _, _, _]) (o := _) [isV (.int .i64 id), isV (.int .i64 (id + 1)), isV (.pointer (some ⟨w.heap.size, 4, none⟩)), isV (.int .i64 c4), isV (.int .i64 (c4 % 9)), isV (.int .i64 (id + 1 + c4 % 9)), newS 5 #[.string ⟨#[97]⟩, .string ⟨#[105, 100]⟩, .string ⟨#[110, 95, 49]⟩, .string ⟨#[120, 57]⟩, .string ⟨#[118, 97, 108, 117, 101]⟩] 9, isV (.pointer (some ⟨w.heap.size, 2, none⟩)), isV (.int .i64 c2), isV (.int .i64 (c2 % 5)), fun v w => ∃ g, v = .pointer (some ⟨g, M, none⟩) ∧ w.heap[g]? = some (.cells #[.string ⟨#[97]⟩, .string ⟨#[105, 100]⟩, .string ⟨#[110, 95, 49]⟩, .string ⟨#[120, 57]⟩, .string ⟨#[118, 97, 108, 117, 101]⟩] 9 (0, 0)), isV (.string (sdNm (M : Int))), isV (.string (sdNm (M : Int) ++ ⟨#[95]⟩)), isV (.int .i64 (i : Nat)), isV (.int .i64 (i : Nat)), isV (.int .i64 ((i : Int) + 1)), isV (.string (sdLet.extract i (i + 1))), isV (.string ((sdNm (M : Int) ++ ⟨#[95]⟩) ++ sdLet.extract i (i + 1))), isV (.agg #[.int .i64 k, .bool (r == 0)]), isV (.agg #[.bool d0, .int .i64 d1, .string d2]), isV (.agg #[.int .i64 (id + 1 + c4 % 9), .string ((sdNm (M : Int) ++ ⟨#[95]⟩) ++ sdLet.extract i (i + 1)), .int .i64 k, .bool (r == 0), .bool d0, .int .i64 d1, .string d2])] (by kernel_rfl) (by kernel_rfl) (by kernel_rfl) (by kernel_rfl) rfl ?_ ?_
    ·
      refine ⟨prem_base (WantOk.free rfl) rfl rfl rfl rfl, ?_⟩; refine ⟨prem_of (WantOk.free rfl) (isV_stable _) (fun ev wo E => ?_), ?_⟩
      · have e70 : ev (.tmp 70) = .int .i64 id := E.dep 0 _ rfl rfl _ rfl; have ec := E.const; have hw := VA.out; go_simp; exact relUpon_value ⟨Below.refl _ _, rfl⟩
      refine ⟨prem_of (WantOk.free rfl) (isV_stable _) (fun ev wo E => ?_), ?_⟩
      · have e3 : ev (.tmp 3) = .pointer (some ⟨w.heap.size, 0, none⟩) := (E.base 3 rfl).trans rfl; have ec := E.const; go_simp; exact relUpon_value ⟨Below.refl _ _, rfl⟩
      refine ⟨prem_of (WantOk.free rfl) (isV_stable _) (fun ev wo E => ?_), ?_⟩
      · have e72 : ev (.tmp 72) = .pointer (some ⟨w.heap.size, 4, none⟩) := E.dep 0 _ rfl rfl _ rfl; have hx4 := cell_of_block (i := 4) (block_kept Q0.out (E.bel)) rfl; go_simp; exact relUpon_value ⟨Below.refl _ _, rfl⟩
      refine ⟨prem_of (WantOk.free rfl) (isV_stable _) (fun ev wo E => ?_), ?_⟩
      · have e73 : ev (.tmp 73) = .int .i64 c4 := E.dep 0 _ rfl rfl _ rfl; have ef := E.func; have ec := E.const; go_simp; refine relUpon_enter ((bringI_any c4 9 (by omega) (by omega) (by omega) (by omega) wo).mono ?_); rintro e w' ⟨rfl, hb⟩; exact ⟨_, rfl, hb, rfl⟩
      refine ⟨prem_of (WantOk.free rfl) (isV_stable _) (fun ev wo E => ?_), ?_⟩
      · have e71 : ev (.tmp 71) = .int .i64 (id + 1) := E.dep 0 _ rfl rfl _ rfl; have e74 : ev (.tmp 74) = .int .i64 (c4 % 9) := E.dep 1 _ rfl rfl _ rfl; have hw := VB.out; go_simp; exact relUpon_value ⟨Below.refl _ _, rfl⟩
      refine ⟨prem_of (WantOk.free rfl) (newS_stable _ _ _) (fun ev wo E => ?_), ?_⟩
      · have ec := E.const; go_simp; exact relUpon_value (newS_alloc _ _ _ _)
      refine ⟨prem_of (WantOk.free rfl) (isV_stable _) (fun ev wo E => ?_), ?_⟩
      · have e3 : ev (.tmp 3) = .pointer (some ⟨w.heap.size, 0, none⟩) := (E.base 3 rfl).trans rfl; have ec := E.const; go_simp; exact relUpon_value ⟨Below.refl _ _, rfl⟩
      refine ⟨prem_of (WantOk.free rfl) (isV_stable _) (fun ev wo E => ?_), ?_⟩
      · have e77 : ev (.tmp 77) = .pointer (some ⟨w.heap.size, 2, none⟩) := E.dep 0 _ rfl rfl _ rfl; have hx2 := cell_of_block (i := 2) (block_kept Q0.out (E.bel)) rfl; go_simp; exact relUpon_value ⟨Below.refl _ _, rfl⟩
      refine ⟨prem_of (WantOk.free rfl) (isV_stable _) (fun ev wo E => ?_), ?_⟩
      · have e78 : ev (.tmp 78) = .int .i64 c2 := E.dep 0 _ rfl rfl _ rfl; have ef := E.func; have ec := E.const; go_simp; refine relUpon_enter ((bringI_any c2 5 (by omega) (by omega) (by omega) (by omega) wo).mono ?_); rintro e w' ⟨rfl, hb⟩; exact ⟨_, rfl, hb, rfl⟩
      refine ⟨prem_of (WantOk.free rfl) (at_stable _ _ _) (fun ev wo E => ?_), ?_⟩
      · have e76 : (newS 5 #[.string ⟨#[97]⟩, .string ⟨#[105, 100]⟩, .string ⟨#[110, 95, 49]⟩, .string ⟨#[120, 57]⟩, .string ⟨#[118, 97, 108, 117, 101]⟩] 9) (ev (.tmp 76)) wo := E.dep 0 _ rfl rfl _ rfl; have e79 : ev (.tmp 79) = .int .i64 (c2 % 5) := E.dep 1 _ rfl rfl _ rfl; obtain ⟨g, x1, x2⟩ := e76; rw [HM.out] at e79; have h0 := HMB.out
        have h1 : decide ((M : Int) < 5) = true := by simp; omega
        have h2 : (M : Int) < 5 := by omega
        have h3 : M < 5 := h0; go_simp; refine relUpon_value ⟨Below.refl _ _, ?_⟩; exact ⟨g, rfl, x2⟩
      refine ⟨prem_of (WantOk.free rfl) (isV_stable _) (fun ev wo E => ?_), ?_⟩
      · have e80 : (fun v w => ∃ g, v = .pointer (some ⟨g, M, none⟩) ∧ w.heap[g]? = some (.cells #[.string ⟨#[97]⟩, .string ⟨#[105, 100]⟩, .string ⟨#[110, 95, 49]⟩, .string ⟨#[120, 57]⟩, .string ⟨#[118, 97, 108, 117, 101]⟩] 9 (0, 0))) (ev (.tmp 80)) wo := E.dep 0 _ rfl rfl _ rfl; obtain ⟨g, rfl', x2⟩ := e80; have hx := cell_of_block (i := M) x2 (HNM.out); go_simp; exact relUpon_value ⟨Below.refl _ _, rfl⟩
      refine ⟨prem_of (WantOk.free rfl) (isV_stable _) (fun ev wo E => ?_), ?_⟩
      · have e81 : ev (.tmp 81) = .string (sdNm (M : Int)) := E.dep 0 _ rfl rfl _ rfl; have ec := E.const; have h0 := HNZ.out
        have h1 : ¬ (9223372036854775807 < (sdNm (M : Int)).size + 1) := by omega
        go_simp; exact relUpon_value ⟨Below.refl _ _, rfl⟩
      refine ⟨prem_base (WantOk.free rfl) rfl rfl rfl rfl, ?_⟩; refine ⟨prem_base (WantOk.free rfl) rfl rfl rfl rfl, ?_⟩; refine ⟨prem_of (WantOk.free rfl) (isV_stable _) (fun ev wo E => ?_), ?_⟩
      · have e84 : ev (.tmp 84) = .int .i64 (i : Nat) := E.dep 0 _ rfl rfl _ rfl; have ec := E.const; have hw := VC.out; go_simp; exact relUpon_value ⟨Below.refl _ _, rfl⟩
      refine ⟨prem_of (WantOk.free rfl) (isV_stable _) (fun ev wo E => ?_), ?_⟩
      · have e83 : ev (.tmp 83) = .int .i64 (i : Nat) := E.dep 0 _ rfl rfl _ rfl; have e85 : ev (.tmp 85) = .int .i64 ((i : Int) + 1) := E.dep 1 _ rfl rfl _ rfl; have ec := E.const; have h0 := HI.out
        have h2 : (i : Int) + 1 ≤ 16 := by omega
        have h3 : (0 : Int) ≤ (i : Int) + 1 := by omega
        have h4 : ((i : Int) + 1).toNat = i + 1 := by omega
        have h5 : i ≤ i + 1 := by omega
        have h6 : i + 1 ≤ 16 := by omega
        have h7 : (i : Int) ≤ (i : Int) + 1 := by omega
        go_simp; exact relUpon_value ⟨Below.refl _ _, rfl⟩
      refine ⟨prem_of (WantOk.free rfl) (isV_stable _) (fun ev wo E => ?_), ?_⟩
      · have e82 : ev (.tmp 82) = .string (sdNm (M : Int) ++ ⟨#[95]⟩) := E.dep 0 _ rfl rfl _ rfl; have e86 : ev (.tmp 86) = .string (sdLet.extract i (i + 1)) := E.dep 1 _ rfl rfl _ rfl; have h0 := HNZ.out
        have h1 : ¬ (9223372036854775807 < (sdNm (M : Int)).size + 1 + (min (i + 1) sdLet.size - i)) := by have := HI.out; omega
        go_simp; exact relUpon_value ⟨Below.refl _ _, rfl⟩
      refine ⟨prem_of (WantOk.free rfl) (isV_stable _) (fun ev wo E => ?_), ?_⟩
      · have e8 : ev (.tmp 8) = .pointer (some ⟨tb, 0, none⟩) := (E.base 8 rfl).trans rfl; have hx0 := cell_of_block (i := 0) (block_kept Q2.out (E.bel)) rfl; have hx1 := cell_of_block (i := 1) (block_kept Q2.out (E.bel)) rfl; go_simp; exact relUpon_value ⟨Below.refl _ _, rfl⟩
      refine ⟨prem_of (WantOk.free rfl) (isV_stable _) (fun ev wo E => ?_), ?_⟩
      · have e10 : ev (.tmp 10) = .pointer (some ⟨cb, 0, none⟩) := (E.base 10 rfl).trans rfl; have hx0 := cell_of_block (i := 0) (block_kept QC.out (E.bel)) rfl; have hx1 := cell_of_block (i := 1) (block_kept QC.out (E.bel)) rfl; have hx2 := cell_of_block (i := 2) (block_kept QC.out (E.bel)) rfl; go_simp; exact relUpon_value ⟨Below.refl _ _, rfl⟩
      refine ⟨prem_of (WantOk.free rfl) (isV_stable _) (fun ev wo E => ?_), ?_⟩
      · have e75 : ev (.tmp 75) = .int .i64 (id + 1 + c4 % 9) := E.dep 0 _ rfl rfl _ rfl; have e87 : ev (.tmp 87) = .string ((sdNm (M : Int) ++ ⟨#[95]⟩) ++ sdLet.extract i (i + 1)) := E.dep 1 _ rfl rfl _ rfl; have e88 : ev (.tmp 88) = .agg #[.int .i64 k, .bool (r == 0)] := E.dep 2 _ rfl rfl _ rfl; have e89 : ev (.tmp 89) = .agg #[.bool d0, .int .i64 d1, .string d2] := E.dep 3 _ rfl rfl _ rfl; go_simp; exact relUpon_value ⟨Below.refl _ _, rfl⟩
      trivial
    · intro wz bz
      (iterate 6 rintro _ rfl)
      intro v76 h76
      rintro _ rfl _ rfl _ rfl
      intro v80 h80
      (iterate 10 rintro _ rfl); have z := block_kept Q1.out bz; have f0 := md_frozen (i := 0) z; have f1 := md_frozen (i := 1) z; have f2 := md_frozen (i := 2) z; have f3 := md_frozen (i := 3) z; have f4 := md_frozen (i := 4) z; have f5 := md_frozen (i := 5) z; have f6 := md_frozen (i := 6) z; have y0 := cell_of_block (i := 0) z rfl; have y1 := cell_of_block (i := 1) z rfl; have y2 := cell_of_block (i := 2) z rfl; have y3 := cell_of_block (i := 3) z rfl; have y4 := cell_of_block (i := 4) z rfl; have y5 := cell_of_block (i := 5) z rfl; have y6 := cell_of_block (i := 6) z rfl
      have BZ := Lib.hid (BC.out.trans (bz.mono BC.out.size)); have Z := Lib.hid z
      clear z bz; simp only [relEnd]; unfold Oper.wp; go_simp
      go_wp2_with fail
      have e := md_seven Z.out (.int .i64 (id + 1 + c4 % 9)) (.string ((sdNm (M : Int) ++ ⟨#[95]⟩) ++ sdLet.extract i (i + 1))) (.int .i64 k) (.bool (r == 0)) (.bool d0) (.int .i64 d1) (.string d2); clear f0 f1 f2 f3 f4 f5 f6 y0 y1 y2 y3 y4 y5 y6; have y0 := cell_of_block (i := 0) e rfl; have y1 := cell_of_block (i := 1) e rfl; have y2 := cell_of_block (i := 2) e rfl; have y3 := cell_of_block (i := 3) e rfl; have y4 := cell_of_block (i := 4) e rfl; have y5 := cell_of_block (i := 5) e rfl; have y6 := cell_of_block (i := 6) e rfl; rw [HD.out]
      refine bodyPost_ret (v := coA (id + 1 + c4 % 9, (sdNm (M : Int) ++ ⟨#[95]⟩) ++ sdLet.extract i (i + 1), (k, r == 0), (d0, d1, d2))) (by simp [results, Tryz.results33, go_sem, coA, y0, y1, y2, y3, y4, y5, y6]) rfl ⟨rfl, ?_⟩
      exact ((((((BZ.out.setCell (p := ⟨w.heap.size + 1, 0, none⟩) (by simp only; omega) _).setCell (p := ⟨w.heap.size + 1, 1, none⟩) (by simp only; omega) _).setCell (p := ⟨w.heap.size + 1, 2, none⟩) (by simp only; omega) _).setCell (p := ⟨w.heap.size + 1, 3, none⟩) (by simp only; omega) _).setCell (p := ⟨w.heap.size + 1, 4, none⟩) (by simp only; omega) _).setCell (p := ⟨w.heap.size + 1, 5, none⟩) (by simp only; omega) _).setCell (p := ⟨w.heap.size + 1, 6, none⟩) (by simp only; omega) _
end Go.Proofs.YthlinmkengoliaaGreatDoor
