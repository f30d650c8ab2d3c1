/- A region that draws its order, in which one operation writes into what another one has made (an append to a row of one's own), and whose last operation waits for all others. Evolve's laws: the chapter's examples, walked. -/
import Derived.Test.YtikpmmipopmjaaaGreatDoorYQbk
set_option linter.unusedVariables false
set_option linter.unusedSimpArgs false
namespace Go.Rel
open Go.Ms (br_)
open Go Go.RowKit
section
variable {P : Program} {md : Region.Mode} {l : Array Oper} {a0 : Act} {w0 : World} {prs : Nat → Value → World → Prop} {o : Oper} {ka ks : Nat} {Eff : World → World → Prop}
def onlyOne (md : Region.Mode) (l : Array Oper) (ka ks : Nat) : Bool := (List.range l.size).all fun i => i == ka || (match l[i]? with
 | none => true
 | some o => o.after.toList.all fun e => !Region.binds md e || e.on != ks)
def looksAt (md : Region.Mode) (l : Array Oper) (ka ks : Nat) : Bool := match l[ka]? with
 | none => false
 | some o => o.guard.isNone && o.after.toList.any fun e => Region.binds md e && e.on == ks
def waitsOn (md : Region.Mode) (l : Array Oper) (i ka : Nat) : Bool := match l[i]? with
 | none => false
 | some o => o.after.toList.any fun e => Region.binds md e && e.on == ka
structure InvO (md : Region.Mode) (l : Array Oper) (a0 : Act) (w0 : World) (prs : Nat → Value → World → Prop) (ka ks : Nat) (listed : Array Bool) (a : Act) (w : World) : Prop where
  size : a.tmps.size = a0.tmps.size
  defers : a.defers = a0.defers
  base : ∀ t, (∀ i, listed.getD i false = true → dstAt l i ≠ some t) → a.tmps[t]? = a0.tmps[t]?
  claim : ∀ i d, i ≠ ks → listed.getD i false = true → dstAt l i = some d → prs i (a.eval (.tmp d)) w
  own : ∀ d, listed.getD ks false = true → listed.getD ka false = false → dstAt l ks = some d → prs ks (a.eval (.tmp d)) w
  clos : ∀ j x, listed.getD j false = true → l[j]? = some x → ∀ e ∈ x.after, Region.binds md e = true → listed.getD e.on false = true
  bel : Below w0.heap.size w0 w
theorem InvO.put {listed : Array Bool} {a : Act} {w w' : World} {i : Nat} {v : Value} (hg : good md l a0.tmps.size = true) (hl : listed.size = l.size) (hi : l[i]? = some o) (h : InvO md l a0 w0 prs ka ks listed a w)
    (hb : Below w0.heap.size w0 w') (hde : ∀ e ∈ o.after, Region.binds md e = true → listed.getD e.on false = true) (hcl : ∀ j v, j ≠ ks → j ≠ i → listed.getD j false = true → prs j v w → prs j v w') (hown : ∀ v, ka ≠ i → listed.getD ka false = false → prs ks v w → prs ks v w') (hp : prs i v w') : InvO md l a0 w0 prs ka ks (listed.setIfInBounds i true) (a.put o.dst v) w' := by
 obtain ⟨d, hd, hdl, hdis, _⟩ := good_at hg hi
 have hil : i < listed.size := by rw [hl]; exact (Array.getElem?_eq_some_iff.1 hi).1
 have hdi : dstAt l i = some d := by unfold dstAt; rw [hi]; exact hd
 have hother : ∀ j e, j ≠ i → dstAt l j = some e → (a.put o.dst v).eval (.tmp e) = a.eval (.tmp e) := fun j e hji he => by
  rw [hd]; exact eval_put_other (fun x => hdis j hji (by rw [he, x]))
 have hsame : (a.put o.dst v).eval (.tmp d) = v := by rw [hd]; exact eval_put_same (by rw [h.size]; exact hdl)
 refine ⟨by rw [hd]; simp [Act.put, h.size], by rw [hd]; exact h.defers, fun t ht => ?_, fun j e hjs hj he => ?_, fun e hk hna he => ?_, fun j x hj hx e he hbe => ?_, hb⟩
 · have h1 : d ≠ t := fun e => ht i ((listed_set hil).2 (.inl rfl)) (by rw [hdi, e])
   rw [← h.base t fun j hj => ht j ((listed_set hil).2 (.inr hj)), hd]
   simp [Act.put, Array.getElem?_setIfInBounds_ne h1]
 · by_cases hji : j = i
   · subst hji; rw [hdi] at he
     cases he
     rw [hsame]; exact hp
   · rw [hother j e hji he]; have hlj := ((listed_set hil).1 hj).resolve_left hji; exact hcl j _ hjs hji hlj (h.claim j e hjs hlj he)
 · by_cases hki : ks = i
   · subst hki; rw [hdi] at he
     cases he
     rw [hsame]; exact hp
   · have hlk := ((listed_set hil).1 hk).resolve_left hki
     have hkai : ka ≠ i := fun e => by
      subst e; have := (listed_set (listed := listed) (i := ka) (j := ka) hil).2 (.inl rfl); rw [this] at hna
      cases hna
     have hna2 : listed.getD ka false = false := by
      cases hq : listed.getD ka false with
      | false => rfl
      | true => rw [(listed_set hil).2 (.inr hq)] at hna; cases hna
     rw [hother ks e hki he]; exact hown _ hkai hna2 (h.own e hlk hna2 he)
 · refine (listed_set hil).2 (.inr ?_)
   by_cases hji : j = i
   · subst hji; rw [hi] at hx
     cases hx
     exact hde e he hbe
   · exact h.clos j x (((listed_set hil).1 hj).resolve_left hji) hx e he hbe
theorem any_rel_own (hg : good md l a0.tmps.size = true) (hgi : guardsIn l = true) (hw : waitsAll md l.size o = true) (hno : o.guard = none) (h1o : onlyOne md l ka ks = true) (hlk : looksAt md l ka ks = true)
    (hp : ∀ k x, k ≠ ka → l[k]? = some x → Prem P md l a0 w0 prs k x) (hE : ∀ i v w w', i ≠ ks → i ≠ ka → waitsOn md l i ka = false → prs i v w → Eff w w' → prs i v w') (hS : ∀ v w w', prs ka v w → Below w.heap.size w w' → prs ka v w')
    (hka : ∀ x, l[ka]? = some x → ∀ (ev : Operand → Value) (w : World), At md l a0 w0 prs x ev w → relUpon P (fun v w' => Eff w w' ∧ Below w0.heap.size w0 w' ∧ prs ka v w') ((execOp ev x).run P w)) {Q : Exit → Act → World → Prop}
    (hQ : ∀ (listed : Array Bool) a w, (∀ i, i < l.size → listed.getD i false = true) → InvO md l a0 w0 prs ka ks listed a w → o.wp P a w (fun a w => Q .normal a w) Q) :
    ∀ (fuel : Nat) (listed : Array Bool) (a : Act) (w : World), listed.size = l.size → left listed = fuel → InvO md l a0 w0 prs ka ks listed a w → wpAny P md (l.push o) Q (fuel + 1) (listed.push false) a w := by
 unfold waitsAll at hw; simp only [Bool.and_eq_true] at hw
 have hon : ∀ e ∈ o.after, Region.binds md e = true → e.on < l.size := fun e he hb => by
  have := List.all_eq_true.1 hw.2 e (Array.mem_toList_iff.2 he)
  simpa [hb] using this
 have hwa : ∀ k, k < l.size → ∃ e ∈ o.after, Region.binds md e = true ∧ e.on = k := fun k hk => by
  have := List.all_eq_true.1 hw.1 k (List.mem_range.2 hk); obtain ⟨e, he, h2⟩ := List.any_eq_true.1 this; simp only [Bool.and_eq_true, beq_iff_eq] at h2; exact ⟨e, Array.mem_toList_iff.1 he, h2⟩
 have hnk : ∀ i x, i ≠ ka → l[i]? = some x → ∀ e ∈ x.after, Region.binds md e = true → e.on ≠ ks := fun i x hi hx e he hb h => by
  unfold onlyOne at h1o; have := List.all_eq_true.1 h1o i (List.mem_range.2 (Array.getElem?_eq_some_iff.1 hx).1); rw [hx] at this; simp only [Bool.or_eq_true, beq_iff_eq] at this; have := List.all_eq_true.1 (this.resolve_left hi) e (Array.mem_toList_iff.2 he)
  simp [hb, h] at this
 have hSt : ∀ k x, l[k]? = some x → ∀ v w w', prs k v w → Below w.heap.size w w' → prs k v w' := fun k x hx => by
  by_cases e : k = ka
  · subst e; exact hS
  · exact (hp k x e hx).1
 intro fuel
 induction fuel with
 | zero =>
  intro listed a w hl h0 hI
  have hall : ∀ i, i < l.size → listed.getD i false = true := by
   intro i hi
   have hil : i < listed.size := by omega
   unfold left at h0; have := List.countP_eq_zero.1 h0 (listed[i]) (Array.mem_toList_iff.2 (Array.getElem_mem hil))
   simp [hil]
   simpa using this
  have hn : (l.push o)[l.size]? = some o := by simp
  have hend : ∀ j, j ≤ l.size → ((listed.push false).setIfInBounds l.size true).getD j false = true := by
   intro j hj
   rw [listed_set (by simp; omega)]
   by_cases hjn : j = l.size
   · exact .inl hjn
   · exact .inr (by rw [push_getD (by omega)]; exact hall j (by omega))
  refine ⟨fun hr => ?_, fun i hi => ?_⟩
  · exfalso
    have : l.size ∈ Region.ready md (l.push o) (listed.push false) := by
     rw [mem_ready]; refine ⟨by rw [← hl]; simp, o, hn, fun e he hb => ?_⟩; have h2 := hon e he hb; rw [push_getD (by omega)]; exact hall _ h2
    rw [hr] at this
    cases this
  · obtain ⟨hu, x, hx, hdep⟩ := mem_ready.1 hi
    have hin : i = l.size := by
     have h1 := (Array.getElem?_eq_some_iff.1 hx).1; rw [Array.size_push] at h1
     by_cases h2 : i < l.size
     · exfalso
       have h3 := hall i h2; rw [push_getD (by omega)] at hu
       have hil : i < listed.size := by omega
       simp [hil] at hu h3
       rw [h3] at hu
       cases hu
     · omega
    subst hin; unfold wpOp; rw [hn]
    simp only
    rw [if_pos (by unfold Region.wanted; rw [hno])]; refine .inl (Oper.wp_mono (fun a w h => ⟨?_, h⟩) (hQ listed a w hall hI))
    apply List.eq_nil_iff_forall_not_mem.2
    intro j hj
    obtain ⟨h1, y, hy, _⟩ := mem_ready.1 hj; have hjl := (Array.getElem?_eq_some_iff.1 hy).1; rw [Array.size_push] at hjl; have h2 := hend j (by omega)
    have hjs : j < ((listed.push false).setIfInBounds l.size true).size := by simp; omega
    simp only [Array.getD_eq_getD_getElem?, Array.getElem?_eq_getElem hjs, Option.getD_some] at h1 h2; rw [h1] at h2
    cases h2
 | succ fuel ih =>
  intro listed a w hl h0 hI
  obtain ⟨u, hul, huf⟩ : ∃ i, i < l.size ∧ listed.getD i false = false := by
   unfold left at h0
   have hpos : 0 < listed.toList.countP (· == false) := by omega
   obtain ⟨b, hb, hbf⟩ := List.countP_pos_iff.1 hpos; obtain ⟨i, hi, hib⟩ := List.getElem_of_mem hb
   have hil : i < listed.size := by simpa using hi
   refine ⟨i, by omega, ?_⟩
   have : listed[i] = b := by simpa using hib
   simp [hil, this]
   simpa using hbf
  refine ⟨fun hr => ?_, fun i hi => ?_⟩
  · exfalso
    have h1 := ready_some hg hl hul huf; obtain ⟨j, hj⟩ := List.exists_mem_of_ne_nil _ h1; obtain ⟨h2, x, hx, hd⟩ := mem_ready.1 hj; have hjl := (Array.getElem?_eq_some_iff.1 hx).1
    have : j ∈ Region.ready md (l.push o) (listed.push false) := by
     rw [mem_ready]; refine ⟨by rw [push_getD (by omega)]; exact h2, x, by rw [Array.getElem?_push_lt hjl]; rw [Array.getElem?_eq_getElem hjl] at hx; exact hx, fun e he hb => ?_⟩; obtain ⟨_, _, _, _, hlt⟩ := good_at hg hx; have := hlt e he hb; rw [push_getD (by omega)]; exact hd e he hb
    rw [hr] at this
    cases this
  · obtain ⟨hu, x, hx, hdep⟩ := mem_ready.1 hi; have hxs := (Array.getElem?_eq_some_iff.1 hx).1; rw [Array.size_push] at hxs
    have hil : i < l.size := by
     by_cases h2 : i < l.size
     · exact h2
     · exfalso
       have hin : i = l.size := by omega
       subst hin
       have hxo : x = o := by
        have : (l.push o)[l.size]? = some o := by simp
        rw [this] at hx; exact (Option.some.inj hx).symm
       subst hxo; obtain ⟨e, he, hb, hek⟩ := hwa u hul; have h3 := hdep e he hb; rw [hek, push_getD (by omega), huf] at h3
       cases h3
    have hx' : l[i]? = some x := by rw [Array.getElem?_push_lt hil] at hx; rw [Array.getElem?_eq_getElem hil]; exact hx
    have hils : i < listed.size := by omega
    have hu' : listed.getD i true = false := by rw [push_getD hils] at hu; exact hu
    have hdl : ∀ e ∈ x.after, Region.binds md e = true → listed.getD e.on false = true := fun e he hb => by
     obtain ⟨_, _, _, _, hlt⟩ := good_at hg hx'; have h4 := hdep e he hb; rw [push_getD (by have := hlt e he hb; omega)] at h4; exact h4
    have hbase : ∀ t, isDst l t = false → a.eval (.tmp t) = a0.eval (.tmp t) := fun t ht => by
     have := hI.base t fun j _ hd => by rw [isDst_of hd] at ht; cases ht
     simp [Act.eval, this]
    unfold wpOp; rw [hx]
    simp only
    rw [wanted_push hgi hx']
    by_cases hia : i = ka
    · subst hia; unfold looksAt at hlk; rw [hx'] at hlk; simp only [Bool.and_eq_true] at hlk; obtain ⟨hgn, hlo⟩ := hlk
      have hgn2 : x.guard = none := by simpa using hgn
      obtain ⟨e0, he0, he1⟩ := List.any_eq_true.1 hlo; simp only [Bool.and_eq_true, beq_iff_eq] at he1
      have hks : listed.getD ks false = true := by rw [← he1.2]; exact hdl e0 (Array.mem_toList_iff.1 he0) he1.1
      have hna : listed.getD i false = false := by
       simp [hils] at hu' ⊢
       exact hu'
      have hnw : ∀ j, listed.getD j false = true → waitsOn md l j i = false := fun j hlj => by
       unfold waitsOn
       cases hq : l[j]? with
       | none => rfl
       | some y =>
        simp only
        rw [List.any_eq_false]
        intro e he hbe
        simp only [Bool.and_eq_true, beq_iff_eq] at hbe; have := hI.clos j y hlj hq e (Array.mem_toList_iff.1 he) hbe.1; rw [hbe.2, hna] at this
        cases this
      have hwt : wantedEv l a.eval x = true := by unfold wantedEv Region.wanted; rw [hgn2]
      rw [if_pos hwt]
      have hAt : At md l a0 w0 prs x a.eval w := ⟨hI.bel, hbase, fun _ => rfl, fun _ => rfl, fun _ => rfl, fun k e hk hb d hd => by
       have hel := hdl e (Array.mem_of_getElem? hk) hb
       by_cases hes : e.on = ks
       · rw [hes] at hd ⊢; exact hI.own d hks hna hd
       · exact hI.claim e.on d hes hel hd⟩
      refine .inl (wp_of_rel (relUpon_mono (fun v w' h => ?_) (hka x hx' a.eval w hAt))); rw [push_set hils]; refine ih _ _ _ (by simpa using hl) (by have := left_set hils hu'; omega) (hI.put hg hl hx' h.2.1 hdl (fun j v hjs hji hlj hj => hE j v _ _ hjs hji (hnw j hlj) hj h.1) (fun v hne _ _ => absurd rfl hne) h.2.2)
    · have hprem := (hp i x hia hx').2 a.eval w hI.bel (fun t ht => hbase t ht) (fun _ => rfl) (fun _ => rfl) (fun _ => rfl) (fun k e hk hb d hd => hI.claim e.on d (hnk i x hia hx' e (Array.mem_of_getElem? hk) hb) (hdl e (Array.mem_of_getElem? hk) hb) hd)
      have hstep : ∀ v w', Below w.heap.size w w' → prs i v w' → wpAny P md (l.push o) Q (fuel + 1) ((listed.push false).setIfInBounds i true) (a.put x.dst v) w' := fun v w' hb hv => by
       rw [push_set hils]; refine ih _ _ _ (by simpa using hl) (by have := left_set hils hu'; omega) (hI.put hg hl hx' (hI.bel.trans (hb.mono hI.bel.size)) hdl (fun j v hjs hji hlj hj => ?_) (fun v _ _ hv => ?_) hv)
       · have hjl : j < l.size := by
           by_cases h : j < l.size
           · exact h
           · have : ¬ j < listed.size := by omega
             simp [this] at hlj
         exact hSt j _ (Array.getElem?_eq_getElem hjl) _ _ _ hj hb
       · have hkl : ks < l.size ∨ ¬ ks < l.size := Nat.lt_or_ge _ _ |>.imp id Nat.not_lt.2
         rcases hkl with hkl | hkl
         · exact hSt ks _ (Array.getElem?_eq_getElem hkl) _ _ _ hv hb
         · exfalso
           unfold looksAt at hlk
           cases hq : l[ka]? with
           | none => rw [hq] at hlk; cases hlk
           | some y =>
            rw [hq] at hlk; simp only [Bool.and_eq_true] at hlk; obtain ⟨e0, he0, he1⟩ := List.any_eq_true.1 hlk.2; simp only [Bool.and_eq_true, beq_iff_eq] at he1; obtain ⟨_, _, _, _, hlt⟩ := good_at hg hq; have h5 := hlt e0 (Array.mem_toList_iff.1 he0) he1.1; have h6 := (Array.getElem?_eq_some_iff.1 hq).1; rw [he1.2] at h5; omega
      split
      · rename_i hw'
        rw [if_pos hw'] at hprem; exact .inl (wp_of_rel (relUpon_mono (fun v w' h => hstep v w' h.1 h.2) hprem))
      · rename_i hw'
        rw [if_neg hw'] at hprem; exact hstep _ _ br_ hprem
end
def PremsX (P : Program) (md : Region.Mode) (ops : Array Oper) (a0 : Act) (w0 : World) (prs : Nat → Value → World → Prop) (ka : Nat) : Nat → List Oper → Prop
  | _, [] => True
  | i, o :: rest => (i ≠ ka → Prem P md ops a0 w0 prs i o) ∧ PremsX P md ops a0 w0 prs ka (i + 1) rest
theorem premsX_at {P : Program} {md : Region.Mode} {ops : Array Oper} {a0 : Act} {w0 : World} {prs : Nat → Value → World → Prop} {ka : Nat} : ∀ (l : List Oper) (i : Nat), PremsX P md ops a0 w0 prs ka i l → ∀ k o, l[k]? = some o → i + k ≠ ka → Prem P md ops a0 w0 prs (i + k) o
  | [], _, _, k, o, h, _ => by simp at h
  | o :: r, i, h, 0, o', h', hne => by
   have h' : o = o' := by simpa using h'
   subst h'; exact h.1 hne
  | o :: r, i, h, k + 1, o', h', hne => by
   have h3 := premsX_at r (i + 1) h.2 k o' (by simpa using h') (by omega)
   have e : i + 1 + k = i + (k + 1) := by omega
   rw [e] at h3; exact h3
def StabE (Eff : World → World → Prop) (p : Value → World → Prop) : Prop := ∀ v w w', p v w → Eff w w' → p v w'
def StabX (md : Region.Mode) (ops : Array Oper) (Eff : World → World → Prop) (ka ks : Nat) : Nat → List (Value → World → Prop) → Prop
  | _, [] => True
  | i, p :: r => (i = ks ∨ i = ka ∨ waitsOn md ops i ka = true ∨ StabE Eff p) ∧ StabX md ops Eff ka ks (i + 1) r
theorem stabX_at {md : Region.Mode} {ops : Array Oper} {Eff : World → World → Prop} {ka ks : Nat} : ∀ (l : List (Value → World → Prop)) (i : Nat), StabX md ops Eff ka ks i l → ∀ k, i + k ≠ ks → i + k ≠ ka → waitsOn md ops (i + k) ka = false → StabE Eff (sel l k)
  | [], _, _, k, _, _, _ => fun _ _ _ _ _ => trivial
  | p :: r, i, h, 0, hne, hna, hw => by
   rcases h.1 with e | e | e | e
   · exact absurd e hne
   · exact absurd e hna
   · rw [show i + 0 = i from rfl] at hw; rw [hw] at e; cases e
   · exact e
  | p :: r, i, h, k + 1, hne, hna, hw => stabX_at r (i + 1) h.2 k (by omega) (by omega) (by rw [show i + 1 + k = i + (k + 1) by omega]; exact hw)
theorem stabE_val {Eff : World → World → Prop} (X : Value) : StabE Eff (isV X) := fun _ _ _ h _ => h
theorem wp_region_own {P : Program} {id : Nat} {Q : Exit → Act → World → Prop} {l : List Oper} {o : Oper} (ps ps' : List (Value → World → Prop)) (ka ks : Nat) (Eff : World → World → Prop) {a0 : Act} {w0 : World} (hm : P.follows .mixedOrders = true) (hg : good .any l.toArray a0.tmps.size = true)
    (hgi : guardsIn l.toArray = true) (hw : waitsAll .any l.toArray.size o = true) (h1o : onlyOne .any l.toArray ka ks = true) (hlk : looksAt .any l.toArray ka ks = true) (hno : o.guard = none) (hps : ps.set ks (fun _ _ => True) = ps')
    (hE : StabX .any l.toArray Eff ka ks 0 ps) (hS : Stable (sel ps ka)) (hka : ∀ x, l[ka]? = some x → ∀ (ev : Operand → Value) (w : World), At .any l.toArray a0 w0 (sel ps) x ev w → relUpon P (fun v w' => Eff w w' ∧ Below w0.heap.size w0 w' ∧ sel ps ka v w') ((execOp ev x).run P w))
    (hp : PremsX P .any l.toArray a0 w0 (sel ps) ka 0 l) (hend : ∀ w, Below w0.heap.size w0 w → relEnd (sel ps') w (fun a => o.wp P a w (fun a w => Q .normal a w) Q) 0 l a0) : (Code.region id (l.toArray.push o) true).wp P Q a0 w0 := by
 subst hps; refine wp_region_any hm ?_
 have hpa : ∀ k o, k ≠ ka → l.toArray[k]? = some o → Prem P .any l.toArray a0 w0 (sel ps) k o := fun k o hne h => by
  have := premsX_at l 0 hp k o (by simpa using h) (by omega)
  rwa [Nat.zero_add] at this
 have hrep : Array.replicate (l.toArray.push o).size false = (Array.replicate l.toArray.size false).push false := by
  rw [Array.size_push]; exact Array.replicate_succ
 have hfuel : (l.toArray.push o).size = l.toArray.size + 1 := Array.size_push _
 have hfa : ∀ i, (Array.replicate l.toArray.size false).getD i false = false := fun i => by
  by_cases h : i < l.length
  · simp [h]
  · simp [h]
 have hset : ∀ (k : Nat) (v : Value) (w : World), (k ≠ ks → sel ps k v w) → sel (ps.set ks (fun _ _ => True)) k v w := by
  have gen : ∀ (ps : List (Value → World → Prop)) (ks k : Nat) (v : Value) (w : World), (k ≠ ks → sel ps k v w) → sel (ps.set ks (fun _ _ => True)) k v w := by
   intro ps
   induction ps with
   | nil => intro ks k v w h; exact trivial
   | cons p r ih =>
    intro ks k v w h
    cases ks with
    | zero =>
     cases k with
     | zero => exact trivial
     | succ k => exact h (by omega)
    | succ ks =>
     cases k with
     | zero => exact h (by omega)
     | succ k => exact ih ks k v w (fun hne => h (by omega))
  exact gen ps ks
 rw [hrep, hfuel]
 refine any_rel_own (ka := ka) (ks := ks) (Eff := Eff) hg hgi hw hno h1o hlk hpa (fun i v w w' hi hi2 hi3 hv he => by
  have := stabX_at ps 0 hE i (by omega) (by omega) (by rw [Nat.zero_add]; exact hi3)
  exact this v w w' hv he) hS (fun x hx => hka x (by simpa using hx)) (fun listed a w hall hI => ?_) _ _ _ _ (by simp) ?_ ⟨rfl, rfl, fun _ _ => rfl, fun i d _ hi => (by rw [hfa] at hi; cases hi), fun d hi => (by rw [hfa] at hi; cases hi), fun j x hj => (by rw [hfa] at hj; cases hj), ⟨rfl, rfl, rfl, Nat.le_refl _, fun _ _ => rfl⟩⟩
 · have h := relEnd_inst (fun i => match dstAt l.toArray i with | some d => a.eval (.tmp d) | none => undef) l 0 a0 (hend w hI.bel) (fun k hk => ?_)
   · have he : putsL (fun i => match dstAt l.toArray i with | some d => a.eval (.tmp d) | none => undef) 0 l a0 = a := by
       obtain ⟨h1, h2⟩ := putsL_size (fun i => match dstAt l.toArray i with | some d => a.eval (.tmp d) | none => undef) l 0 a0; refine act_ext ?_ (h2.trans hI.defers.symm)
       apply Array.ext_getElem?
       intro t
       by_cases ht : t < a0.tmps.size
       · refine putsL_get _ t _ l 0 a0 ht (fun k o hk hd => ?_) ?_
         · have hdk : dstAt l.toArray (0 + k) = some t := by unfold dstAt; rw [Nat.zero_add]; simp [hk, hd]
           rw [hdk]
           have hta : t < a.tmps.size := by rw [hI.size]; exact ht
           simp [Act.eval, hta]
         · by_cases hex : ∃ (k : Nat) (o : Oper), l[k]? = some o ∧ o.dst = some t
           · exact .inr hex
           · left
             refine (hI.base t fun j _ hd => hex ?_).symm; unfold dstAt at hd
             cases hoj : l.toArray[j]? with
             | none => simp [hoj] at hd
             | some oj => exact ⟨j, oj, by simpa using hoj, by simpa [hoj] using hd⟩
       · rw [Array.getElem?_eq_none (by rw [h1]; omega), Array.getElem?_eq_none (by rw [hI.size]; omega)]
     rw [he] at h; exact h
   · rw [Nat.zero_add]
     refine hset k _ _ fun hne => ?_
     obtain ⟨o, ho⟩ : ∃ o, l.toArray[k]? = some o := ⟨_, Array.getElem?_eq_getElem (by simpa using hk)⟩; obtain ⟨d, hd, _⟩ := good_at hg ho
     have hdk : dstAt l.toArray k = some d := by unfold dstAt; rw [ho]; exact hd
     have := hI.claim k d hne (hall k (by simpa using hk)) hdk; simp only [hdk]; exact this
 · unfold left; rw [Array.toList_replicate, List.countP_replicate]
   simp
end Go.Rel
namespace Go.Ms
open Go.RowKit Go.Lib
structure BoxSc (T : TypeId) (b : Nat) (r : SRef) (s : Sc) (W : World) : Prop where
  q : W.heap[b]? = some (.cells #[.slice r.a r.n r.c, .slice r.b r.m r.d] T (0, 0))
  lay : ScLay W W.heap.size r s
theorem BoxSc.to {T : TypeId} {b : Nat} {r : SRef} {s : Sc} {W W' : World} (h : BoxSc T b r s W) (hb : Below W.heap.size W W') : BoxSc T b r s W' := ⟨bk_ h.q hb, h.lay.to hb⟩
theorem BoxSc.c0 {T : TypeId} {b : Nat} {r : SRef} {s : Sc} {W : World} (h : BoxSc T b r s W) : W.cell? ⟨b, 0, none⟩ = some (.slice r.a r.n r.c) := cb_ 0 h.q rfl
theorem BoxSc.c1 {T : TypeId} {b : Nat} {r : SRef} {s : Sc} {W : World} (h : BoxSc T b r s W) : W.cell? ⟨b, 1, none⟩ = some (.slice r.b r.m r.d) := cb_ 1 h.q rfl
theorem BoxSc.new {T : TypeId} {r : SRef} {s : Sc} {W : World} (h : ScLay W W.heap.size r s) : BoxSc T W.heap.size r s (W.alloc (.cells #[.slice r.a r.n r.c, .slice r.b r.m r.d] T)) := ⟨block_new _ _, h.to ((Below.refl _ W).alloc le_ _)⟩
theorem lay_blk {w : World} {b : Nat} {xs : List Value} {T : TypeId} (h : w.heap[b]? = some (.cells xs.toArray T (0, 0))) : Lay w w.heap.size (some ⟨b, 0, none⟩) xs := fun j u hu =>
 ⟨b, 0, rfl, (Array.getElem?_eq_some_iff.1 h).1, by rw [Nat.zero_add]; exact cell_of_block h (by simpa using hu)⟩
def isCols (l : List Co) (n : Nat) : Value → World → Prop := fun v w => ∃ A c, v = .slice A n c ∧ Lay w w.heap.size A (colV l)
theorem isCols_stable (l : List Co) (n : Nat) : Go.Rel.Stable (isCols l n) := fun v w w' ⟨A, c, h1, h2⟩ hb => ⟨A, c, h1, (h2.below hb).more hb.size⟩
def isOwnCo (B : Nat) (T : TypeId) (l : List Co) (n : Nat) : Value → World → Prop := fun v w => ∃ A c, v = .slice A n c ∧ w.ownsRow B T 7 (.slice A n c) n (colV l)
theorem isOwnCo_stable (B : Nat) (T : TypeId) (l : List Co) (n : Nat) : Go.Rel.Stable (isOwnCo B T l n) := fun v w w' ⟨A, c, h1, h2⟩ hb => ⟨A, c, h1, own_below h2 hb⟩
def isSc (s : Sc) : Value → World → Prop := fun v w => ∃ r : SRef, v = .agg #[.slice r.a r.n r.c, .slice r.b r.m r.d] ∧ ScLay w w.heap.size r s
theorem isSc_stable (s : Sc) : Go.Rel.Stable (isSc s) := fun v w w' ⟨r, h1, h2⟩ hb => ⟨r, h1, h2.to hb⟩
def EffT (T : TypeId) (w w' : World) : Prop := ∃ b : Option Nat, w.grownBy w' b ∧ ∀ g, b = some g → ∃ cs fz, w.heap[g]? = some (.cells cs T fz)
theorem EffT.own {w w' : World} {B s n : Nat} {e : TypeId} {v : Value} {xs : List Value} (h : w.ownsRow B e s v n xs) (hg : w.grownBy w' v.ownBlock) : EffT e w w' := by
 refine ⟨_, hg, fun g hv => ?_⟩
 rcases h.2 with ⟨hv', _⟩ | ⟨g', cap, cur, hv', _, hgb, _⟩
 · rw [hv'] at hv; simp [Value.ownBlock] at hv
 · rw [hv'] at hv
   simp [Value.ownBlock] at hv
   subst hv; exact ⟨_, _, hgb⟩
theorem EffT.keep {T : TypeId} {w w' : World} (h : EffT T w w') {b : Nat} {cs : Array Value} {T' : TypeId} (hb : w.heap[b]? = some (.cells cs T' (0, 0))) (hne : T' ≠ T) : w'.heap[b]? = some (.cells cs T' (0, 0)) := by
 obtain ⟨r, hg, hr⟩ := h; refine (hg.block b (Array.getElem?_eq_some_iff.1 hb).1 (fun e => ?_)).trans hb; obtain ⟨cs', fz, h2⟩ := hr b e.symm; rw [hb] at h2
 cases h2
 exact hne rfl
theorem newS_effT {T T' : TypeId} (n : Nat) (cs : Array Value) (hne : T' ≠ T) : Go.Rel.StabE (EffT T) (Go.Rel.newS n cs T') := fun v w w' ⟨g, h1, h2⟩ he => ⟨g, h1, he.keep h2 hne⟩
def isBox (B : Nat) (cs : Array Value) (T : TypeId) : Value → World → Prop := fun v w => ∃ g, v = .pointer (some ⟨g, 0, none⟩) ∧ B ≤ g ∧ w.heap[g]? = some (.cells cs T (0, 0))
theorem isBox_stable (B : Nat) (cs : Array Value) (T : TypeId) : Go.Rel.Stable (isBox B cs T) := fun v w w' ⟨g, h1, h3, h2⟩ hb => ⟨g, h1, h3, bk_ h2 hb⟩
theorem isBox_effT {T T' : TypeId} (B : Nat) (cs : Array Value) (hne : T' ≠ T) : Go.Rel.StabE (EffT T) (isBox B cs T') := fun v w w' ⟨g, h1, h3, h2⟩ he => ⟨g, h1, h3, he.keep h2 hne⟩
open Go.Rel in
theorem relUpon_append_lay {P : Program} {w : World} {o : Oper} {ev : Operand → Value} {K : Value → World → Prop} (s x : Operand) (t : TypeId)
    (ho : o.op = .call { callee := .builtin .append, args := #[s, x], argTypes := #[t, t] })
    (base : Nat) (e : TypeId) (i : TypeInfo) (z : Value) (size bytes : Nat) (ht : P.underlying t = some (.slice e)) (hi : P.info? e = some i) (hz : i.zero = some z)
    (hsize : i.size = size) (hby : i.bytes = bytes) (hzs : z.cells.size = size) (hsz : 0 < size)
    (v : Value) (n : Nat) (xs : List Value) (hs : ev s = v) (hown : w.ownsRow base e size v n xs) (B : Nat) (A : Option Addr) (m c : Nat) (news : List Value) (hx : ev x = .slice A m c) (hl : news.length = m * size) (hnews : Lay w B A news) (h1 : ∀ u ∈ news, u.oneCell' = true)
    (h63 : n + m ≤ maxLen) (hbytes : (n + m) * bytes ≤ 140737488355328) (hbase : base ≤ w.heap.size)
    (h : ∀ v' w', w'.ownsRow base e size v' (n + m) (xs ++ news) → w.grownBy w' v.ownBlock → K v' w') : relUpon P K ((execOp ev o).run P w) := by
 obtain ⟨v', w', hr, h2, h3⟩ := run_append_lay (P := P) w base t o.type e i z size bytes ht hi hz hsize hby hzs hsz v n xs hown B A m c news hl hnews h1 h63 hbytes hbase; unfold execOp; simp only [ho, resolve, invoke, builtin, Sem.run_bind, Sem.run_pure, Result.andThen_ok, List.map_toArray, List.map_cons, List.map_nil, hs, hx, hr]; exact h v' w' h2 h3
structure WkB (T TC : TypeId) (g1 g2 g3 g4 g5 : Nat) (ra rb ro rx : SRef) (w W : World) : Prop where
  x1 : BoxSc T g1 ra eW0 W
  x2 : BoxSc T g2 rb eW1 W
  x3 : BoxSc T g3 ro eW2 W
  x4 : BoxSc T g4 rx eWbad W
  row : W.heap[g5]? = some (.cells (rowV eWr).toArray TC (0, 0))
  bel : Below w.heap.size w W
theorem WkB.to {T TC : TypeId} {g1 g2 g3 g4 g5 : Nat} {ra rb ro rx : SRef} {w W W' : World} (h : WkB T TC g1 g2 g3 g4 g5 ra rb ro rx w W) (hb : Below W.heap.size W W') : WkB T TC g1 g2 g3 g4 g5 ra rb ro rx w W' :=
  ⟨h.x1.to hb, h.x2.to hb, h.x3.to hb, h.x4.to hb, bk_ h.row hb, h.bel.trans (hb.mono h.bel.size)⟩
theorem WkB.start {T TC : TypeId} {w W3 wz : World} {g1 g2 g3 g4 : Nat} {ra rb ro rx : SRef} (h1 : BoxSc T g1 ra eW0 W3) (h2 : BoxSc T g2 rb eW1 W3) (h3 : BoxSc T g3 ro eW2 W3) (hb : Below w.heap.size w W3) (bz : Below W3.heap.size W3 wz) (hg4 : W3.heap.size ≤ g4)
    (q4 : wz.heap[g4]? = some (.cells #[.slice none 0 0, .slice none 0 0] T (0, 0))) (l4 : ScLay wz wz.heap.size rx eWbad) :
    WkB T TC g1 g2 g3 g4 wz.heap.size ra rb ro rx w (((wz.setCell ⟨g4, 0, none⟩ (.slice rx.a rx.n rx.c)).setCell ⟨g4, 1, none⟩ (.slice rx.b rx.m rx.d)).alloc (.cells (rowV eWr).toArray TC)) := by
 have b5 : Below W3.heap.size W3 (((wz.setCell ⟨g4, 0, none⟩ (.slice rx.a rx.n rx.c)).setCell ⟨g4, 1, none⟩ (.slice rx.b rx.m rx.d)).alloc (.cells (rowV eWr).toArray TC)) :=
   ((bz.setCell (p := ⟨g4, 0, none⟩) hg4 _).setCell (p := ⟨g4, 1, none⟩) hg4 _).alloc (by simp only [World.size_setCell]; exact bz.size) _
 have q5 := two_set0 q4 (.slice rx.a rx.n rx.c); have q6 := two_set1 q5 (.slice rx.b rx.m rx.d); have bl := (Below.refl ((wz.setCell ⟨g4, 0, none⟩ (.slice rx.a rx.n rx.c)).setCell ⟨g4, 1, none⟩ (.slice rx.b rx.m rx.d)).heap.size ((wz.setCell ⟨g4, 0, none⟩ (.slice rx.a rx.n rx.c)).setCell ⟨g4, 1, none⟩ (.slice rx.b rx.m rx.d))).alloc le_ (.cells (rowV eWr).toArray TC); refine ⟨h1.to b5, h2.to b5, h3.to b5, ⟨bx_ q6 _, ?_⟩, ?_, hb.trans (b5.mono hb.size)⟩
 · have la := (l4.la.off q4 (colV_noslice _) (.slice rx.a rx.n rx.c) (i := 0)).off q5 (colV_noslice _) (.slice rx.b rx.m rx.d) (i := 1); have lb := (l4.lb.off q4 (intV_noslice _) (.slice rx.a rx.n rx.c) (i := 0)).off q5 (intV_noslice _) (.slice rx.b rx.m rx.d) (i := 1)
   have hs : wz.heap.size = ((wz.setCell ⟨g4, 0, none⟩ (.slice rx.a rx.n rx.c)).setCell ⟨g4, 1, none⟩ (.slice rx.b rx.m rx.d)).heap.size := by simp only [World.size_setCell]
   rw [hs] at la lb; exact (ScLay.mk l4.n l4.m l4.nn l4.mm la lb).to bl
 · have := block_new ((wz.setCell ⟨g4, 0, none⟩ (.slice rx.a rx.n rx.c)).setCell ⟨g4, 1, none⟩ (.slice rx.b rx.m rx.d)) (.cells (rowV eWr).toArray TC); simp only [World.size_setCell] at this; exact this
theorem eW_sz : ScSz eW0.1 ∧ ScSz eW1.1 ∧ ScSz eW2.1 ∧ ScSz eW3.1 ∧ ScSz eW4.1 ∧ ScSz eW5.1 ∧ ScSz eW6.1 ∧ ScSz eW7.1 ∧ ScSz eW8.1 ∧ ScSz eWbad.1 := by
 unfold ScSz
 refine ⟨?_, ?_, ?_, ?_, ?_, ?_, ?_, ?_, ?_, ?_⟩ <;> decide
theorem eWr_sz : ∀ c ∈ eWr, c.2.2.size ≤ 100000 := by decide
theorem rw_blk {W : World} {g n : Nat} {T : TypeId} {l : List Cl} (h : W.heap[g]? = some (.cells (rowV l).toArray T (0, 0))) (hn : n ≤ l.length) (hl : n ≤ 100000) (hz : ∀ c ∈ l, c.2.2.size ≤ 100000) : RwLay W (some ⟨g, 0, none⟩) n (l.take n) := by
 refine ⟨by rw [List.length_take]; omega, hl, ?_, fun c hc => hz c (List.mem_of_mem_take hc)⟩; have h1 := lay_blk (xs := rowV l) h
 have e : rowV l = rowV (l.take n) ++ rowV (l.drop n) := by rw [← rowV_app, List.take_append_drop]
 rw [e] at h1
 intro j u hu
 exact h1 j u (by rw [List.getElem?_append_left ((List.getElem?_eq_some_iff.1 hu).1)]; exact hu)
structure RowL (W : World) (A : Option Addr) (l : List Cl) : Prop where
  lay : Lay W W.heap.size A (rowV l)
theorem RowL.to {W W' : World} {A : Option Addr} {l : List Cl} (h : RowL W A l) (hb : Below W.heap.size W W') : RowL W' A l := ⟨(h.lay.below hb).more hb.size⟩
def isTup0 (E : Int) : Value → World → Prop := fun v w => ∃ A c, v = .tuple #[.slice A 0 c, .int .i64 E]
theorem isTup0_stable (E : Int) : Go.Rel.Stable (isTup0 E) := fun _ _ _ h _ => h
def isNoRow : Value → World → Prop := fun v w => ∃ A c, v = .slice A 0 c
theorem isNoRow_stable : Go.Rel.Stable isNoRow := fun _ _ _ h _ => h
theorem scs_blk {W : World} {g : Nat} {T : TypeId} {rs : List SRef} {ss : List Sc} (h : W.heap[g]? = some (.cells (scsV rs).toArray T (0, 0))) (hl : rs.length = ss.length) (he : ∀ (i : Nat) r s, rs[i]? = some r → ss[i]? = some s → ScLay W W.heap.size r s) : ScsLay W W.heap.size (some ⟨g, 0, none⟩) rs ss := ⟨hl, lay_blk h, he⟩
theorem three_each {W : World} {B : Nat} {r1 r2 r3 : SRef} {s1 s2 s3 : Sc} (h1 : ScLay W B r1 s1) (h2 : ScLay W B r2 s2) (h3 : ScLay W B r3 s3) : ∀ (i : Nat) r s, [r1, r2, r3][i]? = some r → [s1, s2, s3][i]? = some s → ScLay W B r s := by
 intro i r s hr hs
 match i, hr, hs with
 | 0, hr, hs => simp at hr hs; subst hr hs; exact h1
 | 1, hr, hs => simp at hr hs; subst hr hs; exact h2
 | 2, hr, hs => simp at hr hs; subst hr hs; exact h3
 | i + 3, hr, hs => simp at hr
end Go.Ms
namespace Go.Proofs.YtikpmmipopmjaaaGreatDoor
open Go.RowKit Go.Ms Go.Lib Go.Shelf Go.Rel
abbrev WkB0 (g1 g2 g3 g4 g5 : Nat) (ra rb ro rx : SRef) (w W : World) : Prop := WkB 25 57 g1 g2 g3 g4 g5 ra rb ro rx w W
section
variable {g1 g2 g3 g4 g5 : Nat} {ra rb ro rx : SRef} {w W : World}
theorem wk_mv0 (h : WkB0 g1 g2 g3 g4 g5 ra rb ro rx w W) (hE : Env W) : Calls Tryz.prog 15 #[.agg #[.slice ra.a ra.n ra.c, .slice ra.b ra.m ra.d], .agg #[.slice ra.a ra.n ra.c, .slice ra.b ra.m ra.d], .slice (some ⟨g5, 0, none⟩) 2 2] W (RowPost W eWr 0) := by
 have := move_any ra ra eW0 eW0 (some ⟨g5, 0, none⟩) 2 2 eWr W h.x1.lay h.x1.lay eW_sz.1 eW_sz.1 (rw_blk h.row (n := 2) (by decide) (by decide) eWr_sz) hE; rw [ew_0] at this; exact this
theorem wk_mv1 (h : WkB0 g1 g2 g3 g4 g5 ra rb ro rx w W) (hE : Env W) : Calls Tryz.prog 15 #[.agg #[.slice ra.a ra.n ra.c, .slice ra.b ra.m ra.d], .agg #[.slice rb.a rb.n rb.c, .slice rb.b rb.m rb.d], .slice (some ⟨g5, 0, none⟩) 2 2] W (RowPost W eWy 0) := by
 have := move_any ra rb eW0 eW1 (some ⟨g5, 0, none⟩) 2 2 eWr W h.x1.lay h.x2.lay eW_sz.1 eW_sz.2.1 (rw_blk h.row (n := 2) (by decide) (by decide) eWr_sz) hE; rw [ew_1] at this; exact this
theorem wk_mv2 (h : WkB0 g1 g2 g3 g4 g5 ra rb ro rx w W) (c : Nat) (hE : Env W) : Calls Tryz.prog 15 #[.agg #[.slice ra.a ra.n ra.c, .slice ra.b ra.m ra.d], .agg #[.slice rb.a rb.n rb.c, .slice rb.b rb.m rb.d], .slice (some ⟨g5, 0, none⟩) 1 c] W (RowPost W [] 100) := by
 have := move_any ra rb eW0 eW1 (some ⟨g5, 0, none⟩) 1 c (eWr.take 1) W h.x1.lay h.x2.lay eW_sz.1 eW_sz.2.1 (rw_blk h.row (n := 1) (by decide) (by decide) eWr_sz) hE; rw [ew_2] at this; exact this
theorem wk_cr (h : WkB0 g1 g2 g3 g4 g5 ra rb ro rx w W) (hE : Env W) (f t : Int) (hf : -9223372036854775808 ≤ f ∧ f ≤ 9223372036854775807) (ht : -9223372036854775808 ≤ t ∧ t ≤ 9223372036854775807) {R : List Cl} {E : Int} (he : evCarry [eW0, eW2, eW1] f t eWr = (R, E)) {g : Nat} (hg : W.heap[g]? = some (.cells (scsV [ra, ro, rb]).toArray 25 (0, 0))) :
    Calls Tryz.prog 23 #[.slice (some ⟨g, 0, none⟩) 3 3, .int .i64 f, .int .i64 t, .slice (some ⟨g5, 0, none⟩) 2 2] W (RowPost W R E) := by
 have := carry_any W (some ⟨g, 0, none⟩) 3 3 [ra, ro, rb] [eW0, eW2, eW1] f t (some ⟨g5, 0, none⟩) 2 2 eWr (by decide) rfl (scs_blk hg rfl (three_each h.x1.lay h.x3.lay h.x2.lay)) (by intro s hs; simp at hs; rcases hs with rfl | rfl | rfl; exact eW_sz.1; exact eW_sz.2.2.1; exact eW_sz.2.1) hf ht (rw_blk h.row (n := 2) (by decide) (by decide) eWr_sz) hE; rw [he] at this; exact this
theorem wk_step {r1 r2 : SRef} {s1 s2 : Sc} {E : Int} (h1 : ScLay W W.heap.size r1 s1) (h2 : ScLay W W.heap.size r2 s2) (z1 : ScSz s1.1) (z2 : ScSz s2.1) (he : evStep s1 s2 = E) (hE : Env W) :
    Calls Tryz.prog 17 #[.agg #[.slice r1.a r1.n r1.c, .slice r1.b r1.m r1.d], .agg #[.slice r2.a r2.n r2.c, .slice r2.b r2.m r2.d]] W fun e w' => e = .returned (.int .i64 E) ∧ Below W.heap.size W w' := by
 have := step_any r1.a r1.b r1.n r1.c r1.m r1.d s1.1 s1.2 r2.a r2.b r2.n r2.c r2.m r2.d s2.1 s2.2 W h1.n h1.m h1.nn h1.mm h1.la h1.lb z1 h2.n h2.m h2.nn h2.mm h2.la h2.lb z2 hE; rw [show evStep (s1.1, s1.2) (s2.1, s2.2) = E from he] at this; exact this
theorem wk_ch (h : WkB0 g1 g2 g3 g4 g5 ra rb ro rx w W) (hE : Env W) {g : Nat} (hg : W.heap[g]? = some (.cells (scsV [ra, ro, ra]).toArray 25 (0, 0))) :
    Calls Tryz.prog 25 #[.slice (some ⟨g, 0, none⟩) 3 3] W fun e w' => e = .returned (.int .i64 120) ∧ Below W.heap.size W w' := by
 have := chain_any W (some ⟨g, 0, none⟩) 3 3 [ra, ro, ra] [eW0, eW2, eW0] (by decide) rfl (scs_blk hg rfl (three_each h.x1.lay h.x3.lay h.x1.lay)) (by intro s hs; simp only [List.mem_cons, List.not_mem_nil, or_false] at hs; rcases hs with rfl | rfl | rfl <;> first | exact eW_sz.1 | exact eW_sz.2.2.1) hE; rw [ew_12] at this; exact this
theorem wk_ch0 (hE : Env W) : Calls Tryz.prog 25 #[.slice none 0 0] W fun e w' => e = .returned (.int .i64 0) ∧ Below W.heap.size W w' := by
 have := chain_any W none 0 0 [] [] (by decide) rfl ⟨rfl, fun j u hu => by simp [scsV] at hu, fun i r s hr => by simp at hr⟩ (by intro s hs; simp at hs) hE; rw [ew_13] at this; exact this
end
end Go.Proofs.YtikpmmipopmjaaaGreatDoor
