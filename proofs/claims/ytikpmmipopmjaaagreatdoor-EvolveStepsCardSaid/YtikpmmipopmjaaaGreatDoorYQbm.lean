/- A region with a tail, among whose operations are two new boxes: they are not one. -/
import Derived.Test.YtikpmmipopmjaaaGreatDoorYQw
set_option linter.unusedVariables false
set_option linter.unusedSimpArgs false
namespace Go.Rel
open Go Go.RowKit
structure DistB (kA kB : Nat) (tA tB : Tmp) (listed : Array Bool) (a : Act) (w : World) : Prop where
  lA : listed.getD kA false = true → ∀ g, a.eval (.tmp tA) = .pointer (some ⟨g, 0, none⟩) → g < w.heap.size
  lB : listed.getD kB false = true → ∀ g, a.eval (.tmp tB) = .pointer (some ⟨g, 0, none⟩) → g < w.heap.size
  ne : listed.getD kA false = true → listed.getD kB false = true → ∀ g, a.eval (.tmp tA) = .pointer (some ⟨g, 0, none⟩) → a.eval (.tmp tB) = .pointer (some ⟨g, 0, none⟩) → False
theorem wp_region_tail2 {P : Program} {id : Nat} {Q : Exit → Act → World → Prop} {l : List Oper} {o : Oper} {t : List Oper} (ps : List (Value → World → Prop)) {a0 : Act} {w0 : World} (hm : P.follows .mixedOrders = true)
    (hd : dstsOk (l ++ o :: t).toArray a0.tmps.size = true) (hg : depsBack .any (l ++ o :: t).toArray = true) (hqd : l.all (fun o => o.dst.isSome) = true)
    (hcov : coveredBy .any (l ++ o :: t).toArray l.length = true) (hrow : inRow .any (l ++ o :: t).toArray l.length (t.length + 1) = true)
    {kA kB : Nat} {oA oB : Oper} {tA tB : Tmp} {cA cB : Obj} (hkA : l[kA]? = some oA) (hkB : l[kB]? = some oB) (hne : kA ≠ kB) (dA : oA.dst = some tA) (dB : oB.dst = some tB)
    (rA : ∀ (ev : Operand → Value) w, (execOp ev oA).run P w = .ok (.value (.pointer (some ⟨w.heap.size, 0, none⟩))) (w.alloc cA))
    (rB : ∀ (ev : Operand → Value) w, (execOp ev oB).run P w = .ok (.value (.pointer (some ⟨w.heap.size, 0, none⟩))) (w.alloc cB))
    (gA : oA.guard = none) (gB : oB.guard = none)
    (hgi : guardsIn l.toArray = true) (hp : Prems P .any l.toArray a0 w0 (sel ps) 0 l)
    (hend : ∀ w, Below w0.heap.size w0 w → relEnd (sel ps) w (fun a => (∀ g, a.eval (.tmp tA) = .pointer (some ⟨g, 0, none⟩) → a.eval (.tmp tB) = .pointer (some ⟨g, 0, none⟩) → False) → tailWp P Q (o :: t) a w) 0 l a0) :
    (Code.region id (l ++ o :: t).toArray true).wp P Q a0 w0 := by
 refine wp_region_any hm ?_
 generalize hops : (l ++ o :: t).toArray = ops at *
 have hsz : ops.size = l.length + (t.length + 1) := by rw [← hops]; simp
 have atl : ∀ k, k < l.length → ops[k]? = l[k]? := fun k hk => by rw [← hops]; simp only [List.getElem?_toArray]; rw [List.getElem?_append_left hk]
 have dsl : ∀ k, k < l.length → dstAt l.toArray k = dstAt ops k := fun k hk => by unfold dstAt; rw [atl k hk]; simp only [List.getElem?_toArray]
 have wl : ∀ (x : Oper) (k : Nat) (ev : Operand → Value), l[k]? = some x → wantedEv l.toArray ev x = wantedEv ops ev x := fun x k ev hx => by
  have hgx := List.all_eq_true.1 hgi x (by simpa using List.mem_of_getElem? hx); unfold wantedEv Region.wanted
  cases hq : x.guard with
  | none => rfl
  | some p =>
   obtain ⟨g, b⟩ := p; rw [hq] at hgx; simp only [decide_eq_true_eq, List.size_toArray] at hgx
   simp only
   rw [dsl g hgx]
 have att : ∀ j, ops[l.length + j]? = (o :: t)[j]? := fun j => by rw [← hops]; simp only [List.getElem?_toArray]; rw [List.getElem?_append_right (by omega)]; congr 1; omega
 have hlA := (List.getElem?_eq_some_iff.1 hkA).1; have hlB := (List.getElem?_eq_some_iff.1 hkB).1
 have dstA : dstAt ops kA = some tA := by unfold dstAt; rw [atl kA hlA, hkA]; exact dA
 have dstB : dstAt ops kB = some tB := by unfold dstAt; rw [atl kB hlB, hkB]; exact dB
 have hfin : ∀ listed a w, InvL .any ops l.length a0 w0 (sel ps) listed a w → DistB kA kB tA tB listed a w → (∀ k, k < l.length → listed.getD k false = true) → tailWp P Q (o :: t) a w := by
  intro listed a w hI hD hall
  have h := relEnd_inst (fun i => match dstAt ops i with | some d => a.eval (.tmp d) | none => undef) l 0 a0 (hend w hI.bel) (fun k hk => ?_)
  · have he : putsL (fun i => match dstAt ops i with | some d => a.eval (.tmp d) | none => undef) 0 l a0 = a := by
      obtain ⟨h1, h2⟩ := putsL_size (fun i => match dstAt ops i with | some d => a.eval (.tmp d) | none => undef) l 0 a0; refine act_ext ?_ (h2.trans hI.defers.symm)
      apply Array.ext_getElem?
      intro x
      by_cases hx : x < a0.tmps.size
      · refine putsL_get _ x _ l 0 a0 hx (fun k o' hk hd' => ?_) ?_
        · have hkl := (List.getElem?_eq_some_iff.1 hk).1
          have hdk : dstAt ops (0 + k) = some x := by unfold dstAt; rw [Nat.zero_add, atl k hkl, hk]; exact hd'
          rw [hdk]
          have hta : x < a.tmps.size := by rw [hI.size]; exact hx
          simp [Act.eval, hta]
        · by_cases hex : ∃ (k : Nat) (o' : Oper), l[k]? = some o' ∧ o'.dst = some x
          · exact .inr hex
          · left
            refine (hI.base x fun j hj hd' => ?_).symm
            by_cases hjl : j < l.length
            · unfold dstAt at hd'; rw [atl j hjl] at hd'
              cases hoj : l[j]? with
              | none => simp [hoj] at hd'
              | some oj => exact hex ⟨j, oj, hoj, by simpa [hoj] using hd'⟩
            · rw [hI.none_ j (by omega)] at hj; cases hj
      · rw [Array.getElem?_eq_none (by rw [h1]; omega), Array.getElem?_eq_none (by rw [hI.size]; omega)]
    rw [he] at h; exact h (hD.ne (hall _ hlA) (hall _ hlB))
  · rw [Nat.zero_add]; obtain ⟨o', ho⟩ : ∃ o, ops[k]? = some o := ⟨_, Array.getElem?_eq_getElem (by omega)⟩
    cases hdk : dstAt ops k with
    | none =>
     exfalso
     rw [atl k hk] at ho; have := List.all_eq_true.1 hqd o' (List.mem_of_getElem? ho); unfold dstAt at hdk; rw [atl k hk, ho] at hdk; have hdk : o'.dst = none := hdk; rw [hdk] at this
     cases this
    | some d => exact hI.claim k d hk (hall k hk) hdk
 refine any_inv2 hg (fun listed a w => (InvL .any ops l.length a0 w0 (sel ps) listed a w ∧ DistB kA kB tA tB listed a w) ∨ ∃ j, j ≤ t.length ∧ (∀ k, k < l.length + (j + 1) → listed.getD k false = true) ∧ (∀ k, l.length + (j + 1) ≤ k → listed.getD k false = false) ∧ tailWp P Q (t.drop j) a w) ?_ ?_ _ _ _ _ (by simp) ?_ (.inl ⟨⟨rfl, rfl, fun _ _ => rfl, fun i d _ hi => absurd hi (rep_no _ _), ⟨rfl, rfl, rfl, Nat.le_refl _, fun _ _ => rfl⟩, fun j _ => ?_, fun i o _ hi => absurd hi (rep_no _ _)⟩, ⟨fun h => absurd h (rep_no _ _), fun h => absurd h (rep_no _ _), fun h => absurd h (rep_no _ _)⟩⟩)
 · intro listed a w i oi hl ho hu hdep hI
   have hul := getD_not hu; have his := (Array.getElem?_eq_some_iff.1 ho).1
   have hil : i < listed.size := by rw [hl]; exact his
   rcases hI with ⟨hI, hD⟩ | ⟨j, hj, h1, h2, h3⟩
   · by_cases hiq : i < l.length
     · -- one ahead of the tail
       have hq : l[i]? = some oi := by rw [← atl i hiq]; exact ho
       have hpr := prems_at l 0 hp i oi hq; rw [Nat.zero_add] at hpr
       have fin : ∀ v w', Below w.heap.size w w' → sel ps i v w' → InvL .any ops l.length a0 w0 (sel ps) (listed.setIfInBounds i true) (a.put oi.dst v) w' := fun v w' hb hv => by
        have keep : ∀ t j, j ≠ i → dstAt ops j = some t → (a.put oi.dst v).eval (.tmp t) = a.eval (.tmp t) := fun t j hj hjt => by
         cases hd' : oi.dst with
         | none => rfl
         | some d =>
          have hdi : dstAt ops i = some d := by unfold dstAt; rw [ho]; exact hd'
          exact eval_put_other (fun e => (dsts_at hd hdi).2 j hj (by rw [hjt, e]))
        refine ⟨(size_put _ _ _).1.trans hI.size, (size_put _ _ _).2.trans hI.defers, base_put hil ho hI.base, fun j d hj hlj hjd => ?_, hI.bel.trans (hb.mono hI.bel.size), fun j hj => ?_, fun k ok hk hlk e he hbd => ?_⟩
        · by_cases hji : j = i
          · subst hji
            have hod : oi.dst = some d := by unfold dstAt at hjd; rw [ho] at hjd; exact hjd
            rw [hod, eval_put_same (by rw [hI.size]; exact (dsts_at hd hjd).1)]; exact hv
          · rw [keep d j hji hjd]; rw [set_ne hji] at hlj; obtain ⟨oj, hoj⟩ : ∃ oj, l[j]? = some oj := ⟨_, List.getElem?_eq_getElem hj⟩; have hpj := prems_at l 0 hp j oj hoj; rw [Nat.zero_add] at hpj; exact hpj.1 _ _ _ (hI.claim j d hj hlj hjd) hb
        · rw [set_ne (by omega)]; exact hI.none_ j hj
        · by_cases hki : k = i
          · subst hki; obtain rfl : oi = ok := Option.some.inj (ho.symm.trans hk); have := hdep e he hbd
            by_cases hei : e.on = k
            · rw [hei]; exact set_eq hil false
            · rw [set_ne hei]; exact this
          · rw [set_ne hki] at hlk; have := hI.closed k ok hk hlk e he hbd
            by_cases hei : e.on = i
            · rw [hei]; exact set_eq hil false
            · rw [set_ne hei]; exact this
       have hwl := wl oi i a.eval hq; have hprem := hpr.2 a.eval w hI.bel (fun t ht => ?_) (fun _ => rfl) (fun _ => rfl) (fun _ => rfl) (fun k e hk hb d hd' => ?_)
       · rw [hwl] at hprem
         have keep : ∀ v t j, j ≠ i → dstAt ops j = some t → (a.put oi.dst v).eval (.tmp t) = a.eval (.tmp t) := fun v t j hj hjt => by
          cases hd' : oi.dst with
          | none => rfl
          | some d =>
           have hdi : dstAt ops i = some d := by unfold dstAt; rw [ho]; exact hd'
           exact eval_put_other (fun e => (dsts_at hd hdi).2 j hj (by rw [hjt, e]))
         by_cases hiA : i = kA
         · subst hiA; obtain rfl : oA = oi := Option.some.inj (hkA.symm.trans hq)
           have hw : wantedEv ops a.eval oA = true := by unfold wantedEv Region.wanted; rw [gA]
           rw [if_pos hw] at hprem ⊢; rw [rA] at hprem; refine wp_of_rel ?_; rw [rA]; have hp' : Below w.heap.size w (w.alloc cA) ∧ sel ps i (.pointer (some ⟨w.heap.size, 0, none⟩)) (w.alloc cA) := hprem
           have hev : (a.put oA.dst (.pointer (some ⟨w.heap.size, 0, none⟩))).eval (.tmp tA) = .pointer (some ⟨w.heap.size, 0, none⟩) := by rw [dA]; exact eval_put_same (by rw [hI.size]; exact (dsts_at hd dstA).1)
           have kB' := keep (.pointer (some ⟨w.heap.size, 0, none⟩)) tB kB (fun e => hne e.symm) dstB; refine .inl ⟨fin _ _ hp'.1 hp'.2, ⟨fun _ g hg => ?_, fun hk g hg => ?_, fun _ hk g h1 h2 => ?_⟩⟩
           · rw [hev] at hg
             injection hg with hg; injection hg with hg; injection hg with hg
             rw [World.size_alloc]; omega
           · rw [set_ne (fun e => hne e.symm)] at hk; rw [kB'] at hg; have := hD.lB hk g hg
             rw [World.size_alloc]; omega
           · rw [set_ne (fun e => hne e.symm)] at hk; rw [kB'] at h2; rw [hev] at h1; have := hD.lB hk g h2
             injection h1 with h1; injection h1 with h1; injection h1 with h1
             omega
         · by_cases hiB : i = kB
           · subst hiB; obtain rfl : oB = oi := Option.some.inj (hkB.symm.trans hq)
             have hw : wantedEv ops a.eval oB = true := by unfold wantedEv Region.wanted; rw [gB]
             rw [if_pos hw] at hprem ⊢; rw [rB] at hprem; refine wp_of_rel ?_; rw [rB]; have hp' : Below w.heap.size w (w.alloc cB) ∧ sel ps i (.pointer (some ⟨w.heap.size, 0, none⟩)) (w.alloc cB) := hprem
             have hev : (a.put oB.dst (.pointer (some ⟨w.heap.size, 0, none⟩))).eval (.tmp tB) = .pointer (some ⟨w.heap.size, 0, none⟩) := by rw [dB]; exact eval_put_same (by rw [hI.size]; exact (dsts_at hd dstB).1)
             have kA' := keep (.pointer (some ⟨w.heap.size, 0, none⟩)) tA kA hne dstA; refine .inl ⟨fin _ _ hp'.1 hp'.2, ⟨fun hk g hg => ?_, fun _ g hg => ?_, fun hk _ g h1 h2 => ?_⟩⟩
             · rw [set_ne hne] at hk; rw [kA'] at hg; have := hD.lA hk g hg
               rw [World.size_alloc]; omega
             · rw [hev] at hg
               injection hg with hg; injection hg with hg; injection hg with hg
               rw [World.size_alloc]; omega
             · rw [set_ne hne] at hk; rw [kA'] at h1; rw [hev] at h2; have := hD.lA hk g h1
               injection h2 with h2; injection h2 with h2; injection h2 with h2
               omega
           · have dist : ∀ v w', Below w.heap.size w w' → DistB kA kB tA tB (listed.setIfInBounds i true) (a.put oi.dst v) w' := fun v w' hb => by
               have eA := keep v tA kA (fun e => hiA e.symm) dstA; have eB := keep v tB kB (fun e => hiB e.symm) dstB; have sA : (listed.setIfInBounds i true).getD kA false = listed.getD kA false := set_ne (fun e => hiA e.symm) false; have sB : (listed.setIfInBounds i true).getD kB false = listed.getD kB false := set_ne (fun e => hiB e.symm) false; refine ⟨?_, ?_, ?_⟩
               · rw [sA, eA]; exact fun hk g hg => Nat.lt_of_lt_of_le (hD.lA hk g hg) hb.size
               · rw [sB, eB]; exact fun hk g hg => Nat.lt_of_lt_of_le (hD.lB hk g hg) hb.size
               · rw [sA, sB, eA, eB]; exact hD.ne
             split
             · rename_i hw
               rw [if_pos hw] at hprem; exact wp_of_rel (relUpon_mono (fun v w' h => .inl ⟨fin v w' h.1 h.2, dist v w' h.1⟩) hprem)
             · rename_i hw
               rw [if_neg hw] at hprem; exact .inl ⟨fin _ _ (Below.refl _ _) hprem, dist _ _ (Below.refl _ _)⟩
       · have := hI.base t fun j hj hd' => by
           have hjl : j < l.length := by
            by_cases hjl : j < l.length
            · exact hjl
            · rw [hI.none_ j (by omega)] at hj; cases hj
           rw [← dsl j hjl] at hd'; rw [isDst_of hd'] at ht
           cases ht
         simp [Act.eval, this]
       · have he := Array.mem_of_getElem? hk; have hlt := back_at hg ho e he hb; rw [dsl e.on (by omega)] at hd'; exact hI.claim e.on d (by omega) (hdep e he hb) hd'
     · -- the first of the tail
       have hin : i = l.length := by
        by_cases hin : i = l.length
        · exact hin
        · exfalso
          unfold inRow at hrow; have h1 := List.all_eq_true.1 hrow (i - l.length) (List.mem_range.2 (by omega)); rw [show l.length + (i - l.length) = i by omega, ho] at h1; simp only [Bool.and_eq_true, Bool.or_eq_true, beq_iff_eq] at h1
          rcases h1.2 with h2 | h2
          · omega
          · unfold waitsFor at h2; obtain ⟨e, he, h4⟩ := List.any_eq_true.1 h2; simp only [Bool.and_eq_true, beq_iff_eq] at h4; have := hdep e (Array.mem_toList_iff.1 he) h4.1; rw [h4.2, hI.none_ _ (by omega)] at this
            cases this
       subst hin
       have hall : ∀ k, k < l.length → listed.getD k false = true := fun k hk => covered_all hcov ho hI.closed hdep _ k hk (Nat.le_refl _)
       have htl := hfin listed a w hI hD hall
       obtain rfl : o = oi := by have := att 0; rw [Nat.add_zero, ho] at this; exact (Option.some.inj this).symm
       have hgn : wantedEv ops a.eval o = true := by
        unfold inRow at hrow; have h1 := List.all_eq_true.1 hrow 0 (List.mem_range.2 (by omega)); rw [Nat.add_zero, ho] at h1; simp only [Bool.and_eq_true] at h1; unfold wantedEv Region.wanted
        cases hgo : o.guard with
        | none => rfl
        | some g => rw [hgo] at h1; simp at h1
       rw [if_pos hgn]; refine Oper.wp_mono (fun a' w' h => .inr ⟨0, by omega, fun k hk => ?_, fun k hk => ?_, h⟩) htl
       · by_cases hkl : k = l.length
         · subst hkl; exact set_eq hil false
         · rw [set_ne hkl]; exact hall k (by omega)
       · rw [set_ne (by omega)]; exact hI.none_ k (by omega)
   · -- one of the tail
     have hin : i = l.length + (j + 1) := by
      by_cases hlt : i < l.length + (j + 1)
      · rw [h1 i hlt] at hul; cases hul
      · by_cases hin : i = l.length + (j + 1)
        · exact hin
        · exfalso
          unfold inRow at hrow; have h1' := List.all_eq_true.1 hrow (i - l.length) (List.mem_range.2 (by omega)); rw [show l.length + (i - l.length) = i by omega, ho] at h1'; simp only [Bool.and_eq_true, Bool.or_eq_true, beq_iff_eq] at h1'
          rcases h1'.2 with h4 | h4
          · omega
          · unfold waitsFor at h4; obtain ⟨e, he, h5⟩ := List.any_eq_true.1 h4; simp only [Bool.and_eq_true, beq_iff_eq] at h5; have := hdep e (Array.mem_toList_iff.1 he) h5.1; rw [h5.2, h2 _ (by omega)] at this
            cases this
     have hoi : t[j]? = some oi := by have := att (j + 1); rw [← hin, ho] at this; simpa using this.symm
     have hjt := (List.getElem?_eq_some_iff.1 hoi).1
     have hdr : t.drop j = oi :: t.drop (j + 1) := by
      rw [List.drop_eq_getElem_cons hjt, (List.getElem?_eq_some_iff.1 hoi).2]
     rw [hdr] at h3
     have hgn : wantedEv ops a.eval oi = true := by
      unfold inRow at hrow; have h1' := List.all_eq_true.1 hrow (j + 1) (List.mem_range.2 (by omega)); rw [← hin, ho] at h1'; simp only [Bool.and_eq_true] at h1'; unfold wantedEv Region.wanted
      cases hgo : oi.guard with
      | none => rfl
      | some g => rw [hgo] at h1'; simp at h1'
     rw [if_pos hgn]; refine Oper.wp_mono (fun a' w' h => .inr ⟨j + 1, by omega, fun k hk => ?_, fun k hk => ?_, h⟩) h3
     · by_cases hki : k = i
       · subst hki; exact set_eq hil false
       · rw [set_ne hki]; exact h1 k (by omega)
     · rw [set_ne (by omega)]; exact h2 k (by omega)
 · intro listed a w hl hall hI
   rcases hI with ⟨hI, hD⟩ | ⟨j, hj, h1, h2, h3⟩
   · have h4 := hall l.length (by omega); rw [hI.none_ _ (Nat.le_refl _)] at h4
     cases h4
   · have hjt : j = t.length := by
       by_cases hjt : j = t.length
       · exact hjt
       · have h4 := hall (l.length + (j + 1)) (by omega); rw [h2 _ (Nat.le_refl _)] at h4
         cases h4
     subst hjt; rw [List.drop_length] at h3; exact h3
 · unfold left; rw [Array.toList_replicate, List.countP_replicate]
   simp
 · cases h : (Array.replicate ops.size false).getD j false with
  | false => rfl
  | true => exact absurd h (rep_no _ _)
end Go.Rel
