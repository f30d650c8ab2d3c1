/- Marks: MarksAlone, walked. -/
import Derived.Test.YtoapigiapcmjnaaDoorZm9
set_option linter.unusedVariables false
set_option linter.unusedSimpArgs false
namespace Go.Ms
open Go.RowKit Go.Lib Go.Maps
/-- What is at one place alone. -/
def mkOnly {α : Type} (z : α) (f : Nat → α) (k : Nat) : Nat → α := fun j => if j = k then f k else z
theorem mkOnly_at {α : Type} (z : α) (f : Nat → α) (k : Nat) : mkOnly z f k k = f k := by unfold mkOnly; rw [if_pos rfl]
theorem mkOnly_set {α : Type} (z : α) (f : Nat → α) (k : Nat) (x : α) : mkSet (mkOnly z f k) k x = mkOnly z (mkSet f k x) k := by
  funext j
  unfold mkSet mkOnly
  by_cases e : j = k
  · simp [e]
  · simp [e]
theorem mkOnly_far {α : Type} (z : α) (f : Nat → α) {k q : Nat} (h : k ≠ q) (x : α) : mkOnly z (mkSet f q x) k = mkOnly z f k := by
  funext j
  unfold mkSet mkOnly
  by_cases e : j = k
  · simp [e, h]
  · simp [e]
theorem mkMarks_none {nm : Nat → ByteArray} {had : Nat → Bool} {most : Nat → Int} {k : Nat} : ∀ n, n ≤ k → mkMarks nm (mkOnly false had k) most n = []
  | 0, _ => rfl
  | n + 1, h => by
    rw [mkMarks, mkMarks_none n (by omega)]
    have : mkOnly false had k n = false := by unfold mkOnly; rw [if_neg (by omega)]
    rw [this]; rfl
theorem mkMarks_only {nm : Nat → ByteArray} {had : Nat → Bool} {most : Nat → Int} {k : Nat} : ∀ n, k < n → mkMarks nm (mkOnly false had k) (mkOnly 0 most k) n = if had k = true then [(nm k, most k)] else []
  | 0, h => absurd h (by omega)
  | n + 1, h => by
    rw [mkMarks]
    by_cases e : n = k
    · subst e
      rw [mkMarks_none n (Nat.le_refl _), mkOnly_at, mkOnly_at]
      rfl
    · have : mkOnly false had k n = false := by unfold mkOnly; rw [if_neg e]
      rw [mkMarks_only n (by omega), this]
      simp
/-- What stands: all marks, and those of each partition alone. -/
structure AloneSt (P : Program) (tS tI tM tA : TypeId) (w : World) (p0 b0 ab m : Nat) (ps bs : Nat → Nat) (D : DataW Unit) (Ds : Nat → DataW Unit) (had : Nat → Bool) (most : Nat → Int) (wr : World) : Prop where
  all : MkSt P tS tI tM p0 b0 m D wr
  is0 : MkIs 16 mkNm D had most
  arr : wr.heap[ab]? = some (.cells (arrF 16 fun j => .pointer (some ⟨ps j, 0, none⟩)) tA (0, 0))
  one : ∀ k, k < 16 → MkSt P tS tI tM (ps k) (bs k) m (Ds k) wr
  iso : ∀ k, k < 16 → MkIs 16 mkNm (Ds k) (mkOnly false had k) (mkOnly 0 most k)
  bel : Below w.heap.size w wr
  na : ab ≠ b0 ∧ ∀ k, k < 16 → bs k ≠ b0 ∧ bs k ≠ p0 ∧ ps k ≠ b0 ∧ bs k ≠ ab ∧ ∀ j, j < 16 → ps j ≠ bs k ∧ (j ≠ k → bs j ≠ bs k)
  lo : w.heap.size ≤ b0 ∧ ∀ k, k < 16 → w.heap.size ≤ bs k
section
variable {P : Program} {tS tI tM tA : TypeId} {w wr w' : World} {p0 b0 ab m : Nat} {ps bs : Nat → Nat} {D : DataW Unit} {Ds : Nat → DataW Unit} {had : Nat → Bool} {most : Nat → Int}
theorem AloneSt.below (h : AloneSt P tS tI tM tA w p0 b0 ab m ps bs D Ds had most wr) (hw : Below wr.heap.size wr w') : AloneSt P tS tI tM tA w p0 b0 ab m ps bs D Ds had most w' :=
  ⟨h.all.below hw, h.is0, block_kept h.arr hw, fun k hk => (h.one k hk).below hw, h.iso, h.bel.trans (hw.mono h.bel.size), h.na, h.lo⟩
/-- Both steps at one offset. -/
theorem AloneSt.steps (h : AloneSt P tS tI tM tA w p0 b0 ab m ps bs D Ds had most wr) {q : Nat} (hq : q < 16) {o : Int} (h0 : 0 ≤ o) (h1 : o ≤ 9007199254740991) {w1 w2 w3 : World}
    (s1 : MkSt P tS tI tM p0 b0 (m + 1) (mkNext D (mkNm q) o) w1) (g1 : wr.grownBy w1 (some b0)) (bb : Below w1.heap.size w1 w2) (s2 : MkSt P tS tI tM (ps q) (bs q) (m + 1) (mkNext (Ds q) (mkNm q) o) w3) (g2 : w2.grownBy w3 (some (bs q))) :
    AloneSt P tS tI tM tA w p0 b0 ab (m + 1) ps bs (mkNext D (mkNm q) o) (mkSet Ds q (mkNext (Ds q) (mkNm q) o)) (mkSet had q true) (mkSet most q (max (most q) o)) w3 := by
  obtain ⟨n1, n2⟩ := h.na
  obtain ⟨a1, a2, a3, a4, a5⟩ := n2 q hq
  have ar1 := block_kept ((g1.block ab (Array.getElem?_eq_some_iff.1 h.arr).1 (by simpa using n1)).trans h.arr) bb
  have ar2 := (g2.block ab (Array.getElem?_eq_some_iff.1 ar1).1 (by simpa using (Ne.symm a4))).trans ar1
  have al2 : MkSt P tS tI tM p0 b0 (m + 1) (mkNext D (mkNm q) o) w3 := (s1.below bb).kept g2 (by simpa using (Ne.symm a2)) (by simpa using (Ne.symm a1))
  refine ⟨al2, h.is0.next mkNm_is hq h0 h1, ar2, fun k hk => ?_, fun k hk => ?_, ?_, h.na, h.lo⟩
  · by_cases e : k = q
    · subst e; rw [mkSet_same]; exact s2
    · rw [mkSet_other _ e]
      obtain ⟨c1, c2, c3, c4, c5⟩ := n2 k hk
      exact (((h.one k hk).kept g1 (by simpa using c3) (by simpa using c1)).below bb).kept g2 (by simpa using (a5 k hk).1) (by simpa using (a5 k hk).2 e) |>.more (Nat.le_succ _)
  · by_cases e : k = q
    · subst e
      rw [mkSet_same, ← mkOnly_set, ← mkOnly_set]
      have := (h.iso k hk).next mkNm_is hk h0 h1
      rw [mkOnly_at] at this
      exact this
    · rw [mkSet_other _ e, mkOnly_far _ _ e, mkOnly_far _ _ e]
      exact h.iso k hk
  · have hb1 := h.bel.grown g1 h.bel.size (fun k e => by cases e; exact h.lo.1)
    exact (hb1.trans (bb.mono hb1.size)).grown g2 (Nat.le_trans hb1.size bb.size) (fun k e => by cases e; exact h.lo.2 q hq)
end
end Go.Ms
namespace Go.Proofs.YtoapigiapcmjnaaDoor
open Go.RowKit Go.Ms Go.Lib Go.Maps Go.Rel
abbrev AloneSt0 (w : World) (p0 b0 ab m : Nat) (ps bs : Nat → Nat) (D : DataW Unit) (Ds : Nat → DataW Unit) (had : Nat → Bool) (most : Nat → Int) (wr : World) : Prop := AloneSt Tryd.prog 9 2 50 43 w p0 b0 ab m ps bs D Ds had most wr
/-- The list of marks that are such. -/
theorem mklist_at {H : Type} (p b m : Nat) (D : DataW H) (had : Nat → Bool) (most : Nat → Int) (W : World) (hst : MkSt0 p b m D W) (hi : MkIs 16 mkNm D had most) (hm : m ≤ 1000) :
    Calls Tryd.prog 12 #[.pointer (some ⟨p, 0, none⟩)] W fun e w' => ∃ v, e = .returned v ∧ w'.ownsRow W.heap.size 38 2 v (mkMarks mkNm had most 16).length (mkV (mkMarks mkNm had most 16)) ∧ Below W.heap.size W w' := by
  have hkey := mkstr_keys hst.map
  have hper := hi.means.perm mkNm_up hkey
  have hsm : ∀ x ∈ strKeys D, x.length ≤ 100000 := fun x hx => by
    obtain ⟨k, hk, rfl, _⟩ := mkList_mem.1 (hper.mem_iff.2 hx)
    have := (mkNm_ok hk).2
    show (mkNm k).data.toList.length ≤ _
    rw [Array.length_toList]
    show (mkNm k).size ≤ _
    omega
  refine (mklist_any p b m D W hst hm hsm).mono ?_
  rintro e w' ⟨v, ss, rfl, hp, hrow, hb⟩
  have e1 := hi.means.sorted mkNm_up hkey hp
  have e2 : (ss.mergeSort leB).map (mkPair D) = mkMarks mkNm had most 16 := by rw [e1]; exact mkMarks_eq hi 16 (Nat.le_refl _)
  have e3 : ss.length = (mkMarks mkNm had most 16).length := by rw [← e2, List.length_map]; exact (List.length_mergeSort _).symm
  rw [e2, e3] at hrow
  exact ⟨v, rfl, hrow, hb⟩
set_option maxRecDepth 100000 in
set_option maxHeartbeats 4000000 in
theorem marksAlone_walk (w : World) (A : Option Addr) (n cap : Nat) (l : List (Int × Int)) (hn : n = l.length) (hn' : n ≤ maxLen) (h64 : Pl64 l) (hA : Lay w w.heap.size A (plV l)) :
    Calls Tryd.prog 5 #[.slice A n cap] w fun e w' => e = .returned (.bool true) ∧ Below w.heap.size w w' := by
  unfold maxLen at hn'
  obtain ⟨i0, hi, hz0, hz1, hz2⟩ := info_parts mark_info
  have HW := Lib.hid (fun W => mkworks_any W); have HN := Lib.hid hn; have H64 := Lib.hid h64; have HA := Lib.hid hA
  clear hn h64 hA
  go_enter Tryd.func5, Tryd.ntmps5
  go_wp2_with fail
  refine (mknew_any w).mono ?_
  rintro e w1 ⟨p0, b0, rfl, s1, b1, hp1, hb1⟩
  have hpl := (Array.getElem?_eq_some_iff.1 s1.box).1
  have hbl := s1.map.lt
  have hz1' := b1.size
  obtain ⟨X, hX⟩ : ∃ X, w1.alloc (.cells (arrF 16 fun _ => .pointer none) 43) = X := ⟨_, rfl⟩
  have bX : Below w1.heap.size w1 X := by rw [← hX]; exact (Below.refl _ w1).alloc (Nat.le_refl _) _
  have zX : X.heap.size = w1.heap.size + 1 := by rw [← hX, World.size_alloc]
  have aX : X.heap[w1.heap.size]? = some (.cells (arrF 16 fun _ => .pointer none) 43 (0, 0)) := by rw [← hX]; exact block_new _ _
  have S1 := Lib.hid (s1.below bX); have B1 := Lib.hid (b1.trans (bX.mono b1.size)); have AX := Lib.hid aX
  have eX : w1.alloc (.cells #[.pointer none, .pointer none, .pointer none, .pointer none, .pointer none, .pointer none, .pointer none, .pointer none, .pointer none, .pointer none, .pointer none, .pointer none, .pointer none, .pointer none, .pointer none, .pointer none] 43) = X := hX
  clear s1 b1 bX aX hX
  go_wp2_with fail
  clear eX
  generalize hab : w1.heap.size = ab at AX hpl hbl zX hz1' ⊢
  go_loopw [5] (fun i wr => ∃ (j : Nat) (ps bs : Nat → Nat), i = .int .i64 j ∧ j ≤ 16 ∧ MkSt0 p0 b0 0 (.map [] : DataW Unit) wr ∧ wr.heap[ab]? = some (.cells (arrF 16 fun t => if t < j then .pointer (some ⟨ps t, 0, none⟩) else .pointer none) 43 (0, 0)) ∧
    Below w.heap.size w wr ∧ ab < wr.heap.size ∧ ∀ t, t < j → MkSt0 (ps t) (bs t) 0 (.map [] : DataW Unit) wr ∧ ab < ps t ∧ ab < bs t ∧ ∀ u, u < j → ps u ≠ bs t ∧ (u ≠ t → bs u ≠ bs t)) (fun i _ => 16 - (RowKit.intOf i).toNat)
  case atStart => exact ⟨0, fun _ => 0, fun _ => 0, rfl, by omega, S1.out, AX.out, B1.out, by omega, fun t h => absurd h (by omega)⟩
  case round =>
    obtain ⟨j, ps, bs, rfl, hj, hall, harr, hbel, habl, hone⟩ := hrel
    have HALL := Lib.hid hall; have HARR := Lib.hid harr; have HBEL := Lib.hid hbel; have HONE := Lib.hid hone
    clear hall harr hbel hone
    by_cases hj2 : j < 16
    · have hji : (j : Int) < 16 := by omega
      go_wp2_with fail
      refine (mknew_any wr).mono ?_
      rintro e w3 ⟨p, b, rfl, s3, b3, hp3, hb3⟩
      have ha3 := block_kept HARR.out b3
      have f3 := frozen_of_block (i := j) ha3
      have c3 : w3.cell? ⟨ab, j, none⟩ = some (.pointer none) := cell_of_block (i := j) ha3 (by rw [arrF_at hj2, if_neg (by omega)])
      have hset := block_setF ha3 hj2 (.pointer (some ⟨p, 0, none⟩))
      have hfun : mkSet (fun t => if t < j then (Value.pointer (some ⟨ps t, 0, none⟩)) else .pointer none) j (.pointer (some ⟨p, 0, none⟩)) = fun t => if t < j + 1 then .pointer (some ⟨mkSet ps j p t, 0, none⟩) else .pointer none := by
        funext t
        unfold mkSet
        by_cases e : t = j
        · subst e; simp
        · by_cases e2 : t < j
          · simp [e, e2, show t < j + 1 by omega]
          · simp [e, e2, show ¬ t < j + 1 by omega]
      rw [hfun] at hset
      have hkp : ∀ {pp bb : Nat}, MkSt0 pp bb 0 (.map [] : DataW Unit) w3 → pp ≠ ab → bb ≠ ab → MkSt0 pp bb 0 (.map [] : DataW Unit) (w3.setCell ⟨ab, j, none⟩ (.pointer (some ⟨p, 0, none⟩))) := fun h h1 h2 => h.kept (Go.Ms.grown_set' w3 ab j _) (by simpa using h1) (by simpa using h2)
      have hnewb : w.heap.size ≤ wr.heap.size := HBEL.out.size
      have hA4 := Lib.hid hset
      have hall4 := Lib.hid (hkp (HALL.out.below b3) (by omega) (by omega))
      have hone4 : ∀ t, t < j + 1 → MkSt0 (mkSet ps j p t) (mkSet bs j b t) 0 (.map [] : DataW Unit) (w3.setCell ⟨ab, j, none⟩ (.pointer (some ⟨p, 0, none⟩))) ∧ ab < mkSet ps j p t ∧ ab < mkSet bs j b t ∧ ∀ u, u < j + 1 → mkSet ps j p u ≠ mkSet bs j b t ∧ (u ≠ t → mkSet bs j b u ≠ mkSet bs j b t) := by
        have old : ∀ t, t < j → ps t < wr.heap.size ∧ bs t < wr.heap.size := fun t ht => ⟨(Array.getElem?_eq_some_iff.1 (HONE.out t ht).1.box).1, (HONE.out t ht).1.map.lt⟩
        intro t ht
        by_cases e : t = j
        · subst e
          rw [mkSet_same, mkSet_same]
          refine ⟨hkp s3 (by omega) (by omega), by omega, by omega, fun u hu => ?_⟩
          by_cases e2 : u = t
          · subst e2
            rw [mkSet_same, mkSet_same]
            exact ⟨s3.ne, fun h => absurd rfl h⟩
          · rw [mkSet_other _ e2, mkSet_other _ e2]
            have := old u (by omega)
            exact ⟨by omega, fun _ => by omega⟩
        · rw [mkSet_other _ e, mkSet_other _ e]
          obtain ⟨r1, r2, r3, r4⟩ := HONE.out t (by omega)
          refine ⟨hkp (r1.below b3) (by omega) (by omega), r2, r3, fun u hu => ?_⟩
          have := old t (by omega)
          by_cases e2 : u = j
          · subst e2
            rw [mkSet_same, mkSet_same]
            exact ⟨by omega, fun _ => by omega⟩
          · rw [mkSet_other _ e2, mkSet_other _ e2]
            exact r4 u (by omega)
      have O4 := Lib.hid hone4
      have B4 := Lib.hid ((HBEL.out.trans (b3.mono HBEL.out.size)).setCell (p := ⟨ab, j, none⟩) (show w.heap.size ≤ ab by omega) (.pointer (some ⟨p, 0, none⟩)))
      have hsz4 : ab < (w3.setCell ⟨ab, j, none⟩ (.pointer (some ⟨p, 0, none⟩))).heap.size := by rw [World.size_setCell]; have := b3.size; omega
      clear ha3 hset hfun hkp hone4 s3 b3
      go_wp2_with fail
      go_roundw
      case rel => exact ⟨j + 1, mkSet ps j p, mkSet bs j b, by go_num, by omega, hall4.out, hA4.out, B4.out, hsz4, O4.out⟩
      case measure => simp [RowKit.intOf]; omega
    · have hji : ¬ (j : Int) < 16 := by omega
      obtain rfl : j = 16 := by omega
      have hst : AloneSt0 w p0 b0 ab 0 ps bs (.map []) (fun _ => .map []) (fun _ => false) (fun _ => 0) wr := by
        have e2 : arrF 16 (fun t => if t < 16 then Value.pointer (some ⟨ps t, 0, none⟩) else .pointer none) = arrF 16 fun t => .pointer (some ⟨ps t, 0, none⟩) := by
          unfold arrF
          congr 1
        have harr := HARR.out
        rw [e2] at harr
        have old : ∀ t, t < 16 → ps t < wr.heap.size ∧ bs t < wr.heap.size := fun t ht => ⟨(Array.getElem?_eq_some_iff.1 (HONE.out t ht).1.box).1, (HONE.out t ht).1.map.lt⟩
        refine ⟨HALL.out, MkIs.nil _ _, harr, fun k hk => (HONE.out k hk).1, fun k hk => ?_, HBEL.out, ⟨by omega, fun k hk => ?_⟩, by omega, fun k hk => by have := (HONE.out k hk).2.2.1; omega⟩
        · have z1 : mkOnly false (fun _ => false) k = fun _ => false := by funext j; unfold mkOnly; split <;> rfl
          have z2 : mkOnly (0 : Int) (fun _ => 0) k = fun _ => 0 := by funext j; unfold mkOnly; split <;> rfl
          rw [z1, z2]
          exact MkIs.nil _ _
        · obtain ⟨r1, r2, r3, r4⟩ := HONE.out k hk
          exact ⟨by omega, by omega, by omega, by omega, fun j hj => r4 j hj⟩
      have HST := Lib.hid hst
      clear hst HALL HARR HBEL HONE
      rename World => W0
      go_wp2_with fail
      go_loopw [6] (fun i wr => ∃ (k m : Nat) (D : DataW Unit) (Ds : Nat → DataW Unit) (had : Nat → Bool) (most : Nat → Int), i = .int .i64 k ∧ k ≤ n ∧ k ≤ 80 ∧ m ≤ k ∧ AloneSt0 w p0 b0 ab m ps bs D Ds had most wr) (fun i _ => 200 - (RowKit.intOf i).toNat)
      case atStart => exact ⟨0, 0, _, _, _, _, rfl, by omega, by omega, by omega, HST.out⟩
      case round =>
        obtain ⟨k, m, D, Ds, had, most, rfl, hk, hk2, hm, hst⟩ := hrel
        have HS := Lib.hid hst
        clear hst
        by_cases hlk : k < n ∧ k < 80
        · obtain ⟨c1, c2⟩ := hlk
          have hki : (k : Int) < n := by omega
          have hki2 : (k : Int) < 80 := by omega
          obtain ⟨⟨x, y⟩, hx⟩ : ∃ c, l[k]? = some c := ⟨_, List.getElem?_eq_getElem (by rw [← HN.out]; omega)⟩
          obtain ⟨g, o, rfl, hg, h1, h2⟩ := HA.out.pl hx
          obtain ⟨⟨x1, x2⟩, y1, y2⟩ := H64.out _ (List.mem_of_getElem? hx)
          simp only at x1 x2 y1 y2 h1 h2
          obtain ⟨q, hq⟩ : ∃ q : Nat, x % 16 = (q : Int) := ⟨(x % 16).toNat, by omega⟩
          obtain ⟨z, hz⟩ : ∃ z, y % 9007199254740992 = z := ⟨_, rfl⟩
          have hq16 : q < 16 := by omega
          have hz0 : 0 ≤ z := by omega
          have hz1 : z ≤ 9007199254740991 := by omega
          have hbx := fun W => bringI_any x 16 x1 x2 (by omega) (by omega) W
          have hby := fun W => bringI_any y 9007199254740992 y1 y2 (by omega) (by omega) W
          rw [hq] at hbx
          rw [hz] at hby
          have hnm := fun W => mkname_any (q : Int) q (by omega) (by omega) (by omega) W
          have g1 := (HS.out.bel.cell hg).trans h1
          have g2 := (HS.out.bel.cell hg).trans h2
          have hqi : (q : Int) < 16 := by omega
          have G1 := Lib.hid g1; have G2 := Lib.hid g2; have HBX := Lib.hid hbx; have HBY := Lib.hid hby; have HNM := Lib.hid hnm
          clear hx hg h1 h2 x1 x2 y1 y2 hq hz hbx hby hnm g1 g2
          go_wp2_with fail
          refine wp_region_sel [isV (.slice (some ⟨g, o, none⟩) n cap), isV (.int .i64 (k : Nat)), isV (.pointer (some ⟨g, o + k * 2, none⟩)), isV (.pointer (some ⟨g, o + k * 2, none⟩)), isV (.int .i64 x), isV (.int .i64 (q : Nat)), isV (.slice (some ⟨g, o, none⟩) n cap), isV (.int .i64 (k : Nat)), isV (.pointer (some ⟨g, o + k * 2, none⟩)), isV (.pointer (some ⟨g, o + k * 2 + 1, none⟩)), isV (.int .i64 y), isV (.int .i64 z), isV (.int .i64 (q : Nat)), isV (.int .i64 z)] (by kernel_rfl) (by kernel_rfl) ?_ ?_
          ·
            refine ⟨prem_base (WantOk.free rfl) rfl rfl rfl rfl, ?_⟩
            refine ⟨prem_base (WantOk.free rfl) rfl rfl rfl rfl, ?_⟩
            refine ⟨prem_of (WantOk.free rfl) (isV_stable _) (fun ev wo E => ?_), ?_⟩
            · have e33 : ev (.tmp 33) = .slice (some ⟨g, o, none⟩) n cap := E.dep 0 _ rfl rfl _ rfl
              have e34 : ev (.tmp 34) = .int .i64 (k : Nat) := E.dep 1 _ rfl rfl _ rfl
              go_simp
              exact relUpon_value ⟨Below.refl _ _, rfl⟩
            refine ⟨prem_of (WantOk.free rfl) (isV_stable _) (fun ev wo E => ?_), ?_⟩
            · have e35 : ev (.tmp 35) = .pointer (some ⟨g, o + k * 2, none⟩) := E.dep 0 _ rfl rfl _ rfl
              go_simp
              exact relUpon_value ⟨Below.refl _ _, rfl⟩
            refine ⟨prem_of (WantOk.free rfl) (isV_stable _) (fun ev wo E => ?_), ?_⟩
            · have e36 : ev (.tmp 36) = .pointer (some ⟨g, o + k * 2, none⟩) := E.dep 0 _ rfl rfl _ rfl
              have hx0 := (E.bel.cell (cell_lt G1.out)).trans G1.out
              go_simp
              exact relUpon_value ⟨Below.refl _ _, rfl⟩
            refine ⟨prem_of (WantOk.free rfl) (isV_stable _) (fun ev wo E => ?_), ?_⟩
            · have e37 : ev (.tmp 37) = .int .i64 x := E.dep 0 _ rfl rfl _ rfl
              have ef := E.func
              have ec := E.const
              go_simp
              refine relUpon_enter ((HBX.out wo).mono ?_)
              rintro e w' ⟨rfl, hb⟩
              exact ⟨_, rfl, hb, rfl⟩
            refine ⟨prem_base (WantOk.free rfl) rfl rfl rfl rfl, ?_⟩
            refine ⟨prem_base (WantOk.free rfl) rfl rfl rfl rfl, ?_⟩
            refine ⟨prem_of (WantOk.free rfl) (isV_stable _) (fun ev wo E => ?_), ?_⟩
            · have e39 : ev (.tmp 39) = .slice (some ⟨g, o, none⟩) n cap := E.dep 0 _ rfl rfl _ rfl
              have e40 : ev (.tmp 40) = .int .i64 (k : Nat) := E.dep 1 _ rfl rfl _ rfl
              go_simp
              exact relUpon_value ⟨Below.refl _ _, rfl⟩
            refine ⟨prem_of (WantOk.free rfl) (isV_stable _) (fun ev wo E => ?_), ?_⟩
            · have e41 : ev (.tmp 41) = .pointer (some ⟨g, o + k * 2, none⟩) := E.dep 0 _ rfl rfl _ rfl
              go_simp
              exact relUpon_value ⟨Below.refl _ _, rfl⟩
            refine ⟨prem_of (WantOk.free rfl) (isV_stable _) (fun ev wo E => ?_), ?_⟩
            · have e42 : ev (.tmp 42) = .pointer (some ⟨g, o + k * 2 + 1, none⟩) := E.dep 0 _ rfl rfl _ rfl
              have hx0 := (E.bel.cell (cell_lt G2.out)).trans G2.out
              go_simp
              exact relUpon_value ⟨Below.refl _ _, rfl⟩
            refine ⟨prem_of (WantOk.free rfl) (isV_stable _) (fun ev wo E => ?_), ?_⟩
            · have e43 : ev (.tmp 43) = .int .i64 y := E.dep 0 _ rfl rfl _ rfl
              have ef := E.func
              have ec := E.const
              go_simp
              refine relUpon_enter ((HBY.out wo).mono ?_)
              rintro e w' ⟨rfl, hb⟩
              exact ⟨_, rfl, hb, rfl⟩
            refine ⟨prem_copy 0 (WantOk.free rfl) (.inr rfl) rfl rfl rfl rfl (isV_stable _), ?_⟩
            refine ⟨prem_copy 0 (WantOk.free rfl) (.inr rfl) rfl rfl rfl rfl (isV_stable _), ?_⟩
            trivial
          · intro wz bz
            rintro _ rfl
            rintro _ rfl
            rintro _ rfl
            rintro _ rfl
            rintro _ rfl
            rintro _ rfl
            rintro _ rfl
            rintro _ rfl
            rintro _ rfl
            rintro _ rfl
            rintro _ rfl
            rintro _ rfl
            rintro _ rfl
            rintro _ rfl
            simp only [relEnd]
            go_simp
            have S3 := Lib.hid (HS.out.below bz)
            clear bz
            go_wp2_with fail
            refine (HNM.out _).mono ?_
            rintro e w4 ⟨rfl, b4⟩
            have S4 := Lib.hid (S3.out.below b4)
            clear b4
            go_wp2_with fail
            refine (mkstep_at mkNm_is mkNm_size p0 b0 m D had most q z w4 S4.out.all S4.out.is0 (by omega) hq16 hz0 hz1).mono ?_
            rintro e w5 ⟨rfl, s5, g5⟩
            have one5 := ((S4.out.one q hq16).kept g5 (by have := (S4.out.na.2 q hq16).2.2.1; simpa using this) (by have := (S4.out.na.2 q hq16).1; simpa using this))
            have arr5 := (g5.block ab (Array.getElem?_eq_some_iff.1 S4.out.arr).1 (by have := S4.out.na.1; simpa using this)).trans S4.out.arr
            have y5 : w5.cell? ⟨ab, q, none⟩ = some (.pointer (some ⟨ps q, 0, none⟩)) := cell_of_block (i := q) arr5 (arrF_at hq16)
            have iso5 := S4.out.iso q hq16
            have hfr : mkFresh (mkOnly false had q) (mkOnly 0 most q) q z = mkFresh had most q z := by unfold mkFresh; rw [mkOnly_at, mkOnly_at]
            have G5 := Lib.hid g5; have P5 := Lib.hid s5; have O5 := Lib.hid one5; have A5 := Lib.hid arr5; have I5 := Lib.hid iso5; have HFR := Lib.hid hfr
            clear s5 g5 one5 arr5 iso5 hfr
            have hbd : ∀ w6, Below w5.drew.heap.size w5.drew w6 → Below w5.heap.size w5 w6 := fun w6 h => ⟨h.os, h.tape, h.output, h.size, h.block⟩
            have hyd : ∀ w6, Below w5.drew.heap.size w5.drew w6 → w6.cell? ⟨ab, q, none⟩ = some (.pointer (some ⟨ps q, 0, none⟩)) := fun w6 h => cell_of_block (i := q) (block_kept A5.out (hbd w6 h)) (arrF_at hq16)
            have HBD := Lib.hid hbd; have HYD := Lib.hid hyd
            clear hbd hyd
            generalize mkFresh had most q z = fr at HFR ⊢
            go_wp2_with fail
            go_region_with (first
              | ((with_reducible refine (HNM.out _).mono ?_); rintro e w6 ⟨rfl, b6⟩; (have y6 := HYD.out w6 b6); (have B6 := Lib.hid (HBD.out w6 b6)); clear b6)
              | ((with_reducible refine (mkstep_at mkNm_is mkNm_size (ps q) (bs q) m (Ds q) (mkOnly false had q) (mkOnly 0 most q) q z _ (O5.out.below B6.out) I5.out (by omega) hq16 hz0 hz1).mono ?_); rw [HFR.out]; rintro e w7 ⟨rfl, s7, g7⟩; (have P7 := Lib.hid s7); (have G7 := Lib.hid g7); clear s7 g7))
            all_goals (have SN := Lib.hid (S4.out.steps hq16 hz0 hz1 P5.out G5.out B6.out P7.out G7.out))
            all_goals (go_wp2_with fail)
            all_goals (go_roundw)
            all_goals first
              | exact ⟨k + 1, m + 1, _, _, _, _, by go_num, by omega, by omega, by omega, SN.out⟩
              | (simp [RowKit.intOf]; omega)
        · have hex : ¬ k < n ∨ (k < n ∧ ¬ k < 80) := by omega
          rcases hex with c1 | ⟨c1, c2⟩
          · have hki : ¬ (k : Int) < n := by omega
            rename World => WB
            go_wp2_with fail
            go_loopw [13, 14] (fun v i W => ∃ t : Nat, i = .int .i64 t ∧ t ≤ 16 ∧ W.ownsRow WB.heap.size 38 2 v (mkMarks mkNm had most t).length (mkV (mkMarks mkNm had most t)) ∧ Below WB.heap.size WB W) (fun _ i _ => 16 - (RowKit.intOf i).toNat)
            case atStart => exact ⟨0, rfl, by omega, World.ownsRow_nil _ _ _ _, Below.refl _ _⟩
            case round =>
              obtain ⟨t, rfl, ht, hown, hbw⟩ := hrel
              obtain ⟨A3, c3, rfl, hc3, hcm3⟩ := yown_slice hown
              have hml : (mkMarks mkNm had most t).length ≤ 16 := by rw [mkMarks_len]; have := mkCnt_le t had; omega
              have S5 := Lib.hid (HS.out.below hbw); have OW := Lib.hid hown; have BWB := Lib.hid hbw
              clear hown hbw
              by_cases ht2 : t < 16
              · have hti : (t : Int) < 16 := by omega
                have y5 : wr.cell? ⟨ab, t, none⟩ = some (.pointer (some ⟨ps t, 0, none⟩)) := cell_of_block (i := t) S5.out.arr (arrF_at ht2)
                have hls := mklist_at (ps t) (bs t) m (Ds t) (mkOnly false had t) (mkOnly 0 most t) wr (S5.out.one t ht2) (S5.out.iso t ht2) (by omega)
                rw [mkMarks_only 16 ht2] at hls
                have hnx : mkMarks mkNm had most (t + 1) = mkMarks mkNm had most t ++ (if had t = true then [(mkNm t, most t)] else []) := rfl
                have hql : (if had t = true then [(mkNm t, most t)] else []).length ≤ 1 := by split <;> simp
                generalize (if had t = true then [(mkNm t, most t)] else []) = Q at hls hnx hql
                have HLS := Lib.hid hls; have HNX := Lib.hid hnx
                clear hls hnx
                generalize hM : mkMarks mkNm had most t = M at OW hml HNX ⊢
                go_wp2_with fail
                refine HLS.out.mono ?_
                rintro e w6 ⟨v, rfl, hrow, b6⟩
                obtain ⟨A5, c5, rfl, hc5, hcm5⟩ := yown_slice hrow
                have hlay := Lay.of_own hrow (Nat.le_refl _)
                have hO6 := own_below OW.out b6
                have hB6 := BWB.out.trans (b6.mono BWB.out.size)
                have hz6 : WB.heap.size ≤ w6.heap.size := hB6.size
                have O6 := Lib.hid hO6; have L6 := Lib.hid hlay; have B6 := Lib.hid hB6
                clear hrow b6 hlay hO6 hB6
                go_wp2_with (first
                  | (at_builtin; refine wpList_append_lay rfl (.tmp 79) (.tmp 83) _ rfl WB.heap.size 38 i0 _ 2 24 Tryd.underlying35 hi hz0 hz1 hz2 rfl (by omega) _ _ _ rfl O6.out _ A5 Q.length c5 (mkV Q) rfl (mkV_len Q) L6.out (mkV_one Q) (by unfold maxLen; omega) (by omega) hz6 ?_; intro v7 w7 hown7 hg7; have HO7 := Lib.hid hown7; have B7 := Lib.hid (own_grown O6.out B6.out hz6 (Nat.le_refl _) hg7); clear hown7 hg7))
                go_roundw
                case rel =>
                  refine ⟨t + 1, by go_num, by omega, ?_, B7.out⟩
                  rw [HNX.out, List.length_append, mkV_app]
                  exact HO7.out
                case measure => simp [RowKit.intOf]; omega
              · have hti : ¬ (t : Int) < 16 := by omega
                obtain rfl : t = 16 := by omega
                have hls := mklist_at p0 b0 m D had most wr S5.out.all S5.out.is0 (by omega)
                have HLS := Lib.hid hls
                clear hls
                generalize mkMarks mkNm had most 16 = M at OW hml HLS ⊢
                have hlay3 := Lay.of_own OW.out (Nat.le_refl _)
                have L3 := Lib.hid hlay3
                clear hlay3
                go_wp2_with fail
                refine HLS.out.mono ?_
                rintro e w6 ⟨v, rfl, hrow, b6⟩
                obtain ⟨A5, c5, rfl, hc5, hcm5⟩ := yown_slice hrow
                have hlay := Lay.of_own hrow (Nat.le_refl _)
                have L6 := Lib.hid hlay; have B6 := Lib.hid (S5.out.bel.trans (b6.mono S5.out.bel.size)); have L36 := Lib.hid ((L3.out.below b6).more b6.size)
                clear hrow b6 hlay
                go_wp2_with fail
                have hq := mkeq_any w6 A5 A3 M.length c5 M.length c3 M M (by unfold maxLen; omega) (by unfold maxLen; omega) rfl rfl L6.out L36.out
                rw [decide_eq_true rfl] at hq
                refine hq.mono ?_
                rintro e w7 ⟨rfl, b7⟩
                have B7 := Lib.hid (B6.out.trans (b7.mono B6.out.size))
                clear b7 hq
                go_wp2_with fail
                refine (HW.out _).mono ?_
                rintro e w8 ⟨rfl, b8⟩
                have B8 := Lib.hid (B7.out.trans (b8.mono B7.out.size))
                clear b8
                go_wp2_with fail
                go_ret
                exact ⟨rfl, B8.out⟩
          · have hki : (k : Int) < n := by omega
            have hki2 : ¬ (k : Int) < 80 := by omega
            rename World => WB
            go_wp2_with fail
            go_loopw [13, 14] (fun v i W => ∃ t : Nat, i = .int .i64 t ∧ t ≤ 16 ∧ W.ownsRow WB.heap.size 38 2 v (mkMarks mkNm had most t).length (mkV (mkMarks mkNm had most t)) ∧ Below WB.heap.size WB W) (fun _ i _ => 16 - (RowKit.intOf i).toNat)
            case atStart => exact ⟨0, rfl, by omega, World.ownsRow_nil _ _ _ _, Below.refl _ _⟩
            case round =>
              obtain ⟨t, rfl, ht, hown, hbw⟩ := hrel
              obtain ⟨A3, c3, rfl, hc3, hcm3⟩ := yown_slice hown
              have hml : (mkMarks mkNm had most t).length ≤ 16 := by rw [mkMarks_len]; have := mkCnt_le t had; omega
              have S5 := Lib.hid (HS.out.below hbw); have OW := Lib.hid hown; have BWB := Lib.hid hbw
              clear hown hbw
              by_cases ht2 : t < 16
              · have hti : (t : Int) < 16 := by omega
                have y5 : wr.cell? ⟨ab, t, none⟩ = some (.pointer (some ⟨ps t, 0, none⟩)) := cell_of_block (i := t) S5.out.arr (arrF_at ht2)
                have hls := mklist_at (ps t) (bs t) m (Ds t) (mkOnly false had t) (mkOnly 0 most t) wr (S5.out.one t ht2) (S5.out.iso t ht2) (by omega)
                rw [mkMarks_only 16 ht2] at hls
                have hnx : mkMarks mkNm had most (t + 1) = mkMarks mkNm had most t ++ (if had t = true then [(mkNm t, most t)] else []) := rfl
                have hql : (if had t = true then [(mkNm t, most t)] else []).length ≤ 1 := by split <;> simp
                generalize (if had t = true then [(mkNm t, most t)] else []) = Q at hls hnx hql
                have HLS := Lib.hid hls; have HNX := Lib.hid hnx
                clear hls hnx
                generalize hM : mkMarks mkNm had most t = M at OW hml HNX ⊢
                go_wp2_with fail
                refine HLS.out.mono ?_
                rintro e w6 ⟨v, rfl, hrow, b6⟩
                obtain ⟨A5, c5, rfl, hc5, hcm5⟩ := yown_slice hrow
                have hlay := Lay.of_own hrow (Nat.le_refl _)
                have hO6 := own_below OW.out b6
                have hB6 := BWB.out.trans (b6.mono BWB.out.size)
                have hz6 : WB.heap.size ≤ w6.heap.size := hB6.size
                have O6 := Lib.hid hO6; have L6 := Lib.hid hlay; have B6 := Lib.hid hB6
                clear hrow b6 hlay hO6 hB6
                go_wp2_with (first
                  | (at_builtin; refine wpList_append_lay rfl (.tmp 79) (.tmp 83) _ rfl WB.heap.size 38 i0 _ 2 24 Tryd.underlying35 hi hz0 hz1 hz2 rfl (by omega) _ _ _ rfl O6.out _ A5 Q.length c5 (mkV Q) rfl (mkV_len Q) L6.out (mkV_one Q) (by unfold maxLen; omega) (by omega) hz6 ?_; intro v7 w7 hown7 hg7; have HO7 := Lib.hid hown7; have B7 := Lib.hid (own_grown O6.out B6.out hz6 (Nat.le_refl _) hg7); clear hown7 hg7))
                go_roundw
                case rel =>
                  refine ⟨t + 1, by go_num, by omega, ?_, B7.out⟩
                  rw [HNX.out, List.length_append, mkV_app]
                  exact HO7.out
                case measure => simp [RowKit.intOf]; omega
              · have hti : ¬ (t : Int) < 16 := by omega
                obtain rfl : t = 16 := by omega
                have hls := mklist_at p0 b0 m D had most wr S5.out.all S5.out.is0 (by omega)
                have HLS := Lib.hid hls
                clear hls
                generalize mkMarks mkNm had most 16 = M at OW hml HLS ⊢
                have hlay3 := Lay.of_own OW.out (Nat.le_refl _)
                have L3 := Lib.hid hlay3
                clear hlay3
                go_wp2_with fail
                refine HLS.out.mono ?_
                rintro e w6 ⟨v, rfl, hrow, b6⟩
                obtain ⟨A5, c5, rfl, hc5, hcm5⟩ := yown_slice hrow
                have hlay := Lay.of_own hrow (Nat.le_refl _)
                have L6 := Lib.hid hlay; have B6 := Lib.hid (S5.out.bel.trans (b6.mono S5.out.bel.size)); have L36 := Lib.hid ((L3.out.below b6).more b6.size)
                clear hrow b6 hlay
                go_wp2_with fail
                have hq := mkeq_any w6 A5 A3 M.length c5 M.length c3 M M (by unfold maxLen; omega) (by unfold maxLen; omega) rfl rfl L6.out L36.out
                rw [decide_eq_true rfl] at hq
                refine hq.mono ?_
                rintro e w7 ⟨rfl, b7⟩
                have B7 := Lib.hid (B6.out.trans (b7.mono B6.out.size))
                clear b7 hq
                go_wp2_with fail
                refine (HW.out _).mono ?_
                rintro e w8 ⟨rfl, b8⟩
                have B8 := Lib.hid (B7.out.trans (b8.mono B7.out.size))
                clear b8
                go_wp2_with fail
                go_ret
                exact ⟨rfl, B8.out⟩
end Go.Proofs.YtoapigiapcmjnaaDoor
