/- Marks: MarksRise, walked. -/
import Derived.Test.YtoapigiapcmjnaaDoorZQe
import Derived.Test.YtoapigiapcmjnaaDoorZQc
import Derived.Test.YtoapigiapcmjnaaDoorZQd
set_option linter.unusedVariables false
set_option linter.unusedSimpArgs false
namespace Go.Ms
open Go.RowKit Go.Lib Go.Maps
def plV (l : List (Int × Int)) : List Value := l.flatMap fun x => [.int .i64 x.1, .int .i64 x.2]
theorem plV_len (l : List (Int × Int)) : (plV l).length = l.length * 2 := by
  induction l with
  | nil => rfl
  | cons a t ih => show (_ ++ plV t).length = _; rw [List.length_append, ih, List.length_cons]; simp; omega
theorem plV_at : ∀ (l : List (Int × Int)) (i : Nat) (c : Int × Int), l[i]? = some c → (plV l)[i * 2]? = some (.int .i64 c.1) ∧ (plV l)[i * 2 + 1]? = some (.int .i64 c.2)
  | [], i, c, h => by simp at h
  | a :: t, 0, c, h => by
    obtain rfl : a = c := by simpa using h
    exact ⟨rfl, rfl⟩
  | a :: t, i + 1, c, h => by
    obtain ⟨h1, h2⟩ := plV_at t i c (by simpa using h)
    have e : plV (a :: t) = [.int .i64 a.1, .int .i64 a.2] ++ plV t := rfl
    rw [e, show (i + 1) * 2 = i * 2 + 2 by omega]
    refine ⟨?_, ?_⟩
    · rw [List.getElem?_append_right (by simp)]; simpa using h1
    · rw [List.getElem?_append_right (by simp)]; simpa using h2
theorem Lay.pl {w : World} {B : Nat} {A : Option Addr} {l : List (Int × Int)} {i : Nat} {c : Int × Int} (h : Lay w B A (plV l)) (hi : l[i]? = some c) :
    ∃ g o, A = some ⟨g, o, none⟩ ∧ g < B ∧ w.cell? ⟨g, o + i * 2, none⟩ = some (.int .i64 c.1) ∧ w.cell? ⟨g, o + i * 2 + 1, none⟩ = some (.int .i64 c.2) := by
  have hl : i < l.length := (List.getElem?_eq_some_iff.1 hi).1
  obtain ⟨g, o, e, hb, hc⟩ := h.some_ (by rw [plV_len]; omega)
  have k := plV_at l i c hi
  exact ⟨g, o, e, hb, hc _ _ k.1, hc _ _ k.2⟩
/-- Numbers of 64 bits. -/
def Pl64 (l : List (Int × Int)) : Prop := ∀ x ∈ l, (-9223372036854775808 ≤ x.1 ∧ x.1 ≤ 9223372036854775807) ∧ (-9223372036854775808 ≤ x.2 ∧ x.2 ≤ 9223372036854775807)
theorem mkNm_is : NmOk 16 mkNm := ⟨Nat.le_refl _, fun k hk => (mkNm_ok hk).1, mkNm_up⟩
theorem mkMarks_get {nm : Nat → ByteArray} {had : Nat → Bool} {most : Nat → Int} {j : Nat} (hd : had j = true) : ∀ n, j < n → (mkMarks nm had most n)[(mkMarks nm had most j).length]? = some (nm j, most j)
  | 0, h => absurd h (by omega)
  | n + 1, h => by
    rw [mkMarks]
    by_cases e : j = n
    · subst e
      rw [if_pos hd, List.getElem?_append_right (Nat.le_refl _)]
      simp
    · have := mkMarks_get (nm := nm) (most := most) hd n (by omega)
      rw [List.getElem?_append_left (List.getElem?_eq_some_iff.1 this).1]
      exact this
theorem Means.perm {H : Type} {N : Nat} {nm : Nat → ByteArray} {D : DataW H} {had : Nat → Bool} {most : Nat → Int} (h : Means N nm D had most) (hu : NmUp N nm) (hk : ∀ es, D = .map es → ∀ p ∈ es, ∃ x, p.1 = .string x) : (mkList nm had N).Perm (strKeys D) := by
  have hup := mkList_up (had := had) hu (Nat.le_refl N)
  obtain ⟨es, e, hpw⟩ := h.tidy
  subst e
  exact perm_strKeys hpw (hk es rfl) (hup.imp fun hab e => by subst e; exact List.lt_irrefl _ hab) (fun x => by rw [h.has, mkList_mem])
/-- What stands while offsets come. -/
structure RiseSt {H : Type} (P : Program) (tS tI tM tA tB : TypeId) (w : World) (p b ab hb n : Nat) (D : DataW H) (had : Nat → Bool) (most : Nat → Int) (wr : World) : Prop where
  st : MkSt P tS tI tM p b n D wr
  is_ : MkIs 16 mkNm D had most
  ba : wr.heap[ab]? = some (.cells (arrF 16 fun j => .int .i64 (most j)) tA (0, 0))
  bh : wr.heap[hb]? = some (.cells (arrF 16 fun j => .bool (had j)) tB (0, 0))
  bel : Below w.heap.size w wr
  na : ab ≠ b ∧ hb ≠ b ∧ ab ≠ hb ∧ ab ≠ p ∧ hb ≠ p
  lo : w.heap.size ≤ b ∧ w.heap.size ≤ ab ∧ w.heap.size ≤ hb
section
variable {H : Type} {P : Program} {tS tI tM tA tB : TypeId} {w wr w' : World} {p b ab hb n : Nat} {D : DataW H} {had : Nat → Bool} {most : Nat → Int}
theorem RiseSt.below (h : RiseSt P tS tI tM tA tB w p b ab hb n D had most wr) (hw : Below wr.heap.size wr w') : RiseSt P tS tI tM tA tB w p b ab hb n D had most w' :=
  ⟨h.st.below hw, h.is_, block_kept h.ba hw, block_kept h.bh hw, h.bel.trans (hw.mono h.bel.size), h.na, h.lo⟩
/-- A step and the two stores behind it. -/
theorem RiseSt.step (h : RiseSt P tS tI tM tA tB w p b ab hb n D had most wr) {k : Nat} (hk : k < 16) {o : Int} (h0 : 0 ≤ o) (h1 : o ≤ 9007199254740991) (hst : MkSt P tS tI tM p b (n + 1) (mkNext D (mkNm k) o) w') (hg : wr.grownBy w' (some b)) :
    RiseSt P tS tI tM tA tB w p b ab hb (n + 1) (mkNext D (mkNm k) o) (mkSet had k true) (mkSet most k (max (most k) o)) ((w'.setCell ⟨hb, k, none⟩ (.bool true)).setCell ⟨ab, k, none⟩ (.int .i64 (max (most k) o))) := by
  obtain ⟨n1, n2, n3, n4, n5⟩ := h.na
  have q1 := (hg.block ab (Array.getElem?_eq_some_iff.1 h.ba).1 (by simpa using n1)).trans h.ba
  have q2 := (hg.block hb (Array.getElem?_eq_some_iff.1 h.bh).1 (by simpa using n2)).trans h.bh
  refine ⟨⟨?_, ?_, hst.ne⟩, h.is_.next mkNm_is hk h0 h1, ?_, ?_, ?_, h.na, h.lo⟩
  · exact far_set (far_set hst.box (Ne.symm n5) _) (Ne.symm n4) _
  · exact (hst.map.setCell (a := ⟨hb, k, none⟩) (Ne.symm n2) _).setCell (a := ⟨ab, k, none⟩) (Ne.symm n1) _
  · rw [mkSet_map]
    exact block_setF (far_set q1 n3 _) hk _
  · rw [mkSet_map]
    exact far_set (block_setF q2 hk _) (Ne.symm n3) _
  · have hb1 := h.bel.grown hg h.bel.size (fun k e => by cases e; exact h.lo.1)
    exact (hb1.setCell (p := ⟨hb, k, none⟩) h.lo.2.2 _).setCell (p := ⟨ab, k, none⟩) h.lo.2.1 _
end
end Go.Ms
namespace Go.Proofs.YtoapigiapcmjnaaDoor
open Go.RowKit Go.Ms Go.Lib Go.Maps Go.Rel
abbrev RiseSt0 {H : Type} (w : World) (p b ab hb n : Nat) (D : DataW H) (had : Nat → Bool) (most : Nat → Int) (wr : World) : Prop := RiseSt Tryd.prog 9 2 50 26 27 w p b ab hb n D had most wr
theorem mkfresh_at {H : Type} {N : Nat} {nm : Nat → ByteArray} (hnm : NmOk N nm) (hz : ∀ k, k < N → (nm k).size ≤ 100000) (p b m : Nat) (D : DataW H) (had : Nat → Bool) (most : Nat → Int) (q : Nat) (z : Int) (W : World) (hst : MkSt0 p b m D W) (hi : MkIs N nm D had most) (hm : m < 1000000) (hq : q < N) (h0 : 0 ≤ z) (h1 : z ≤ 9007199254740991) :
    Calls Tryd.prog 9 #[.pointer (some ⟨p, 0, none⟩), .string (nm q), .int .i64 z] W fun e w' => e = .returned (.tuple #[.bool (mkFresh had most q z), .int .i64 0]) ∧ Below W.heap.size W w' := by
  have h := mkfresh_any p b m D (nm q) z W (hz q hq) hst hm
  rw [hi.ans hnm hq h0 h1] at h
  exact h.mono fun e w' ⟨a, _, c⟩ => ⟨a, c⟩
theorem mkstep_at {H : Type} {N : Nat} {nm : Nat → ByteArray} (hnm : NmOk N nm) (hz : ∀ k, k < N → (nm k).size ≤ 100000) (p b m : Nat) (D : DataW H) (had : Nat → Bool) (most : Nat → Int) (q : Nat) (z : Int) (W : World) (hst : MkSt0 p b m D W) (hi : MkIs N nm D had most) (hm : m < 1000000) (hq : q < N) (h0 : 0 ≤ z) (h1 : z ≤ 9007199254740991) :
    Calls Tryd.prog 11 #[.pointer (some ⟨p, 0, none⟩), .string (nm q), .int .i64 z] W fun e w' => e = .returned (.tuple #[.bool (mkFresh had most q z), .int .i64 0]) ∧ MkSt0 p b (m + 1) (mkNext D (nm q) z) w' ∧ W.grownBy w' (some b) := by
  have h := mkstep_any p b m D (nm q) z W (hz q hq) hst hm
  rw [hi.ans hnm hq h0 h1] at h
  exact h
theorem mkNm_size : ∀ k, k < 16 → (mkNm k).size ≤ 100000 := fun k hk => by rw [(mkNm_ok hk).2]; omega
set_option maxRecDepth 100000 in
set_option maxHeartbeats 4000000 in
theorem marksRise_walk (w : World) (A : Option Addr) (n cap : Nat) (l : List (Int × Int)) (hn : n = l.length) (hn' : n ≤ maxLen) (h64 : Pl64 l) (hA : Lay w w.heap.size A (plV l)) :
    Calls Tryd.prog 3 #[.slice A n cap] w fun e w' => e = .returned (.bool true) ∧ Below w.heap.size w w' := by
  unfold maxLen at hn'
  have HW := Lib.hid (mkworks_any w); have HN := Lib.hid hn; have H64 := Lib.hid h64; have HA := Lib.hid hA
  clear hn h64 hA
  go_enter Tryd.func3, Tryd.ntmps3
  go_wp2_with fail
  refine HW.out.mono ?_
  rintro e w1 ⟨rfl, b1⟩
  have B1 := Lib.hid b1
  clear b1
  go_wp2_with fail
  refine (mknew_any w1).mono ?_
  rintro e w2 ⟨p, b, rfl, s2, b2, hp2, hb2⟩
  have hpl := (Array.getElem?_eq_some_iff.1 s2.box).1
  have hbl := s2.map.lt
  have hz2 := b2.size
  have hz1 := B1.out.size
  obtain ⟨X, hX⟩ : ∃ X, (w2.alloc (.cells (arrF 16 fun _ => .int .i64 0) 26)).alloc (.cells (arrF 16 fun _ => .bool false) 27) = X := ⟨_, rfl⟩
  have bX : Below w2.heap.size w2 X := by rw [← hX]; exact ((Below.refl _ w2).alloc (Nat.le_refl _) _).alloc (by rw [World.size_alloc]; omega) _
  have hst : RiseSt0 w p b w2.heap.size (w2.heap.size + 1) 0 (.map [] : DataW Unit) (fun _ => false) (fun _ => 0) X := by
    refine ⟨s2.below bX, MkIs.nil _ _, ?_, ?_, (B1.out.trans (b2.mono B1.out.size)).trans (bX.mono (by omega)), ⟨by omega, by omega, by omega, by omega, by omega⟩, by omega, by omega, by omega⟩
    · rw [← hX]; exact block_next (block_new _ _) _
    · rw [← hX]; have := block_new (w2.alloc (.cells (arrF 16 fun _ => .int .i64 0) 26)) (.cells (arrF 16 fun _ => .bool false) 27); rwa [World.size_alloc] at this
  have eX : (w2.alloc (.cells #[.int .i64 0, .int .i64 0, .int .i64 0, .int .i64 0, .int .i64 0, .int .i64 0, .int .i64 0, .int .i64 0, .int .i64 0, .int .i64 0, .int .i64 0, .int .i64 0, .int .i64 0, .int .i64 0, .int .i64 0, .int .i64 0] 26)).alloc (.cells #[.bool false, .bool false, .bool false, .bool false, .bool false, .bool false, .bool false, .bool false, .bool false, .bool false, .bool false, .bool false, .bool false, .bool false, .bool false, .bool false] 27) = X := hX
  have HST := Lib.hid hst
  clear hst bX s2 b2 hX
  go_wp2_with fail
  clear eX
  generalize hab : w2.heap.size = ab at HST ⊢
  go_loopw [6] (fun i wr => ∃ (k m : Nat) (D : DataW Unit) (had : Nat → Bool) (most : Nat → Int), i = .int .i64 k ∧ k ≤ n ∧ k ≤ 100 ∧ m ≤ k ∧ RiseSt0 w p b ab (ab + 1) m D had most wr) (fun i _ => 200 - (RowKit.intOf i).toNat)
  case atStart => exact ⟨0, 0, _, _, _, rfl, by omega, by omega, by omega, HST.out⟩
  case round =>
    obtain ⟨k, m, D, had, most, rfl, hk, hk2, hm, hst⟩ := hrel
    have HS := Lib.hid hst
    clear hst
    by_cases hlk : k < n ∧ k < 100
    · obtain ⟨c1, c2⟩ := hlk
      have hki : (k : Int) < n := by omega
      have hki2 : (k : Int) < 100 := by omega
      obtain ⟨⟨x, y⟩, hx⟩ : ∃ c, l[k]? = some c := ⟨_, List.getElem?_eq_getElem (by rw [← HN.out]; omega)⟩
      obtain ⟨g, o, rfl, hg, h1, h2⟩ := HA.out.pl hx
      obtain ⟨⟨x1, x2⟩, y1, y2⟩ := H64.out _ (List.mem_of_getElem? hx)
      simp only at x1 x2 y1 y2 h1 h2
      obtain ⟨q, hq⟩ : ∃ q : Nat, x % 16 = (q : Int) := ⟨(x % 16).toNat, by omega⟩
      obtain ⟨z, hz⟩ : ∃ z, y % 9007199254740992 = z := ⟨_, rfl⟩
      have hq16 : q < 16 := by omega
      have hz0 : 0 ≤ z := by omega
      have hz1 : z ≤ 9007199254740991 := by omega
      have hbx := fun W => bringI_any x 16 x1 x2 (by omega) (by omega) W
      have hby := fun W => bringI_any y 9007199254740992 y1 y2 (by omega) (by omega) W
      rw [hq] at hbx
      rw [hz] at hby
      have hnm := fun W => mkname_any (q : Int) q (by omega) (by omega) (by omega) W
      have g1 := (HS.out.bel.cell hg).trans h1
      have g2 := (HS.out.bel.cell hg).trans h2
      have G1 := Lib.hid g1; have G2 := Lib.hid g2; have HBX := Lib.hid hbx; have HBY := Lib.hid hby; have HNM := Lib.hid hnm
      clear hx hg h1 h2 x1 x2 y1 y2 hq hz hbx hby hnm g1 g2
      go_wp2_with fail
      refine wp_region_sel [isV (.slice (some ⟨g, o, none⟩) n cap), isV (.int .i64 (k : Nat)), isV (.pointer (some ⟨g, o + k * 2, none⟩)), isV (.pointer (some ⟨g, o + k * 2, none⟩)), isV (.int .i64 x), isV (.int .i64 (q : Nat)), isV (.slice (some ⟨g, o, none⟩) n cap), isV (.int .i64 (k : Nat)), isV (.pointer (some ⟨g, o + k * 2, none⟩)), isV (.pointer (some ⟨g, o + k * 2 + 1, none⟩)), isV (.int .i64 y), isV (.int .i64 z), isV (.int .i64 (q : Nat)), isV (.int .i64 z)] (by kernel_rfl) (by kernel_rfl) ?_ ?_
      ·
        refine ⟨prem_base (WantOk.free rfl) rfl rfl rfl rfl, ?_⟩
        refine ⟨prem_base (WantOk.free rfl) rfl rfl rfl rfl, ?_⟩
        refine ⟨prem_of (WantOk.free rfl) (isV_stable _) (fun ev wo E => ?_), ?_⟩
        · have e29 : ev (.tmp 29) = .slice (some ⟨g, o, none⟩) n cap := E.dep 0 _ rfl rfl _ rfl
          have e30 : ev (.tmp 30) = .int .i64 (k : Nat) := E.dep 1 _ rfl rfl _ rfl
          go_simp
          exact relUpon_value ⟨Below.refl _ _, rfl⟩
        refine ⟨prem_of (WantOk.free rfl) (isV_stable _) (fun ev wo E => ?_), ?_⟩
        · have e31 : ev (.tmp 31) = .pointer (some ⟨g, o + k * 2, none⟩) := E.dep 0 _ rfl rfl _ rfl
          go_simp
          exact relUpon_value ⟨Below.refl _ _, rfl⟩
        refine ⟨prem_of (WantOk.free rfl) (isV_stable _) (fun ev wo E => ?_), ?_⟩
        · have e32 : ev (.tmp 32) = .pointer (some ⟨g, o + k * 2, none⟩) := E.dep 0 _ rfl rfl _ rfl
          have hx0 := (E.bel.cell (cell_lt G1.out)).trans G1.out
          go_simp
          exact relUpon_value ⟨Below.refl _ _, rfl⟩
        refine ⟨prem_of (WantOk.free rfl) (isV_stable _) (fun ev wo E => ?_), ?_⟩
        · have e33 : ev (.tmp 33) = .int .i64 x := E.dep 0 _ rfl rfl _ rfl
          have ef := E.func
          have ec := E.const
          go_simp
          refine relUpon_enter ((HBX.out wo).mono ?_)
          rintro e w' ⟨rfl, hb⟩
          exact ⟨_, rfl, hb, rfl⟩
        refine ⟨prem_base (WantOk.free rfl) rfl rfl rfl rfl, ?_⟩
        refine ⟨prem_base (WantOk.free rfl) rfl rfl rfl rfl, ?_⟩
        refine ⟨prem_of (WantOk.free rfl) (isV_stable _) (fun ev wo E => ?_), ?_⟩
        · have e35 : ev (.tmp 35) = .slice (some ⟨g, o, none⟩) n cap := E.dep 0 _ rfl rfl _ rfl
          have e36 : ev (.tmp 36) = .int .i64 (k : Nat) := E.dep 1 _ rfl rfl _ rfl
          go_simp
          exact relUpon_value ⟨Below.refl _ _, rfl⟩
        refine ⟨prem_of (WantOk.free rfl) (isV_stable _) (fun ev wo E => ?_), ?_⟩
        · have e37 : ev (.tmp 37) = .pointer (some ⟨g, o + k * 2, none⟩) := E.dep 0 _ rfl rfl _ rfl
          go_simp
          exact relUpon_value ⟨Below.refl _ _, rfl⟩
        refine ⟨prem_of (WantOk.free rfl) (isV_stable _) (fun ev wo E => ?_), ?_⟩
        · have e38 : ev (.tmp 38) = .pointer (some ⟨g, o + k * 2 + 1, none⟩) := E.dep 0 _ rfl rfl _ rfl
          have hx0 := (E.bel.cell (cell_lt G2.out)).trans G2.out
          go_simp
          exact relUpon_value ⟨Below.refl _ _, rfl⟩
        refine ⟨prem_of (WantOk.free rfl) (isV_stable _) (fun ev wo E => ?_), ?_⟩
        · have e39 : ev (.tmp 39) = .int .i64 y := E.dep 0 _ rfl rfl _ rfl
          have ef := E.func
          have ec := E.const
          go_simp
          refine relUpon_enter ((HBY.out wo).mono ?_)
          rintro e w' ⟨rfl, hb⟩
          exact ⟨_, rfl, hb, rfl⟩
        refine ⟨prem_copy 0 (WantOk.free rfl) (.inr rfl) rfl rfl rfl rfl (isV_stable _), ?_⟩
        refine ⟨prem_copy 0 (WantOk.free rfl) (.inr rfl) rfl rfl rfl rfl (isV_stable _), ?_⟩
        trivial
      · intro wz bz
        rintro _ rfl
        rintro _ rfl
        rintro _ rfl
        rintro _ rfl
        rintro _ rfl
        rintro _ rfl
        rintro _ rfl
        rintro _ rfl
        rintro _ rfl
        rintro _ rfl
        rintro _ rfl
        rintro _ rfl
        rintro _ rfl
        rintro _ rfl
        simp only [relEnd]
        go_simp
        have S3 := Lib.hid (HS.out.below bz)
        clear bz
        go_wp2_with fail
        refine (HNM.out _).mono ?_
        rintro e w4 ⟨rfl, b4⟩
        have S4 := Lib.hid (S3.out.below b4)
        clear b4
        go_wp2_with fail
        refine (mkfresh_at mkNm_is mkNm_size p b m D had most q z w4 S4.out.st S4.out.is_ (by omega) hq16 hz0 hz1).mono ?_
        rintro e w5 ⟨rfl, b5⟩
        have S5 := Lib.hid (S4.out.below b5)
        clear b5
        go_wp2_with fail
        refine (HNM.out _).mono ?_
        rintro e w6 ⟨rfl, b6⟩
        have S6 := Lib.hid (S5.out.below b6)
        clear b6
        go_wp2_with fail
        refine (mkstep_at mkNm_is mkNm_size p b m D had most q z w6 S6.out.st S6.out.is_ (by omega) hq16 hz0 hz1).mono ?_
        rintro e w7 ⟨rfl, s7, g7⟩
        have q1 := (g7.block ab (Array.getElem?_eq_some_iff.1 S6.out.ba).1 (by have := S6.out.na.1; simpa using this)).trans S6.out.ba
        have q2 := (g7.block (ab + 1) (Array.getElem?_eq_some_iff.1 S6.out.bh).1 (by have := S6.out.na.2.1; simpa using this)).trans S6.out.bh
        have z1 : w7.cell? ⟨ab, q, none⟩ = some (.int .i64 (most q)) := cell_of_block (i := q) q1 (arrF_at hq16)
        have z2 : w7.cell? ⟨ab + 1, q, none⟩ = some (.bool (had q)) := cell_of_block (i := q) q2 (arrF_at hq16)
        have f1 := frozen_of_block (i := q) q1
        have f2 := frozen_of_block (i := q) q2
        have SN := Lib.hid (S6.out.step hq16 hz0 hz1 s7 g7)
        have hqi : (q : Int) < 16 := by omega
        clear s7 g7 q1 q2
        cases hd : had q with
        | false =>
          have hfr : mkFresh had most q z = true := by unfold mkFresh; rw [hd]; rfl
          rw [hd] at z2
          rw [hfr]
          clear hfr hd
          go_wp2_with fail
          go_roundw
          case rel => exact ⟨k + 1, m + 1, _, _, _, by go_num, by omega, by omega, by omega, SN.out⟩
          case measure => simp [RowKit.intOf]; omega
        | true =>
          rw [hd] at z2
          by_cases hlt : most q < z
          · have hfr : mkFresh had most q z = true := by unfold mkFresh; rw [hd]; simp [hlt]
            rw [hfr]
            clear hfr hd
            go_wp2_with fail
            go_roundw
            case rel => exact ⟨k + 1, m + 1, _, _, _, by go_num, by omega, by omega, by omega, SN.out⟩
            case measure => simp [RowKit.intOf]; omega
          · have hfr : mkFresh had most q z = false := by unfold mkFresh; rw [hd]; simp [hlt]
            rw [hfr]
            clear hfr hd
            go_wp2_with fail
            go_roundw
            case rel => exact ⟨k + 1, m + 1, _, _, _, by go_num, by omega, by omega, by omega, SN.out⟩
            case measure => simp [RowKit.intOf]; omega
    · have hex : ¬ k < n ∨ (k < n ∧ ¬ k < 100) := by omega
      have hkey := mkstr_keys HS.out.st.map
      have hper := HS.out.is_.means.perm mkNm_up hkey
      have hsm : ∀ x ∈ strKeys D, x.length ≤ 100000 := fun x hx => by
        obtain ⟨k, hk, rfl, _⟩ := mkList_mem.1 (hper.mem_iff.2 hx)
        have := (mkNm_ok hk).2
        show (mkNm k).data.toList.length ≤ _
        rw [Array.length_toList]
        show (mkNm k).size ≤ _
        omega
      have hlst := mklist_any p b m D wr HS.out.st (by omega) hsm
      have HLS := Lib.hid hlst; have HKEY := Lib.hid hkey
      clear hlst hsm hper hkey
      have hML : ∀ ss : List (List UInt8), ss.Perm (strKeys D) → (ss.mergeSort leB).map (mkPair D) = mkMarks mkNm had most 16 ∧ ss.length = (mkMarks mkNm had most 16).length := fun ss hp => by
        have e1 := HS.out.is_.means.sorted mkNm_up HKEY.out hp
        have e2 : (ss.mergeSort leB).map (mkPair D) = mkMarks mkNm had most 16 := by rw [e1]; exact mkMarks_eq HS.out.is_ 16 (Nat.le_refl _)
        refine ⟨e2, ?_⟩
        rw [← e2, List.length_map]
        exact (List.length_mergeSort _).symm
      have HML := Lib.hid hML
      clear hML
      obtain ⟨M, hM⟩ : ∃ M, mkMarks mkNm had most 16 = M := ⟨_, rfl⟩
      have hMl : M.length ≤ 16 := by rw [← hM, mkMarks_len]; exact mkCnt_le _ _
      have HM := Lib.hid hM
      rw [hM] at HML
      clear hM
      rcases hex with c1 | ⟨c1, c2⟩
      · have hki : ¬ (k : Int) < n := by omega
        go_wp2_with fail
        refine HLS.out.mono ?_
        rintro e w3 ⟨v, ss, rfl, hp, hrow, b3⟩
        obtain ⟨e1, e2⟩ := HML.out ss hp
        rw [e1, e2] at hrow
        obtain ⟨A2, c3, rfl, hc1, hc2⟩ := yown_slice hrow
        have hlay := Lay.of_own hrow (Nat.le_refl _)
        have S3 := Lib.hid (HS.out.below b3); have HLAY := Lib.hid hlay
        clear hrow hlay hp e1 e2 b3
        go_wp2_with fail
        go_loopw [14, 15] (fun a j W => ∃ jj : Nat, j = .int .i64 jj ∧ jj ≤ 16 ∧ a = .int .i64 (mkMarks mkNm had most jj).length ∧ Below w3.heap.size w3 W) (fun _ j _ => 16 - (RowKit.intOf j).toNat)
        case atStart => exact ⟨0, rfl, by omega, rfl, Below.refl _ _⟩
        case round =>
          obtain ⟨jj, rfl, hj, rfl, hbw⟩ := hrel
          have S5 := Lib.hid (S3.out.below hbw)
          have HBW := Lib.hid hbw
          clear hbw
          obtain ⟨a, ha⟩ : ∃ a, (mkMarks mkNm had most jj).length = a := ⟨_, rfl⟩
          have hal : a ≤ 16 := by rw [← ha, mkMarks_len]; have := mkCnt_le jj had; omega
          rw [ha]
          by_cases hj2 : jj < 16
          · have hji : (jj : Int) < 16 := by omega
            have z2 : wr.cell? ⟨ab + 1, jj, none⟩ = some (.bool (had jj)) := cell_of_block (i := jj) S5.out.bh (arrF_at hj2)
            have z1 : wr.cell? ⟨ab, jj, none⟩ = some (.int .i64 (most jj)) := cell_of_block (i := jj) S5.out.ba (arrF_at hj2)
            cases hd : had jj with
            | false =>
              have hnx : (mkMarks mkNm had most (jj + 1)).length = a := by rw [mkMarks, hd, List.length_append, ha]; rfl
              rw [hd] at z2
              clear hd
              have HNX := Lib.hid hnx; have HA2 := Lib.hid ha
              clear hnx ha
              go_wp2_with fail
              go_roundw
              case rel => exact ⟨jj + 1, by go_num, by omega, by rw [HNX.out], HBW.out⟩
              case measure => simp [RowKit.intOf]; omega
            | true =>
              have hnx : (mkMarks mkNm had most (jj + 1)).length = a + 1 := by rw [mkMarks, hd, List.length_append, ha]; rfl
              have hget := mkMarks_get (nm := mkNm) (most := most) hd 16 hj2
              rw [ha, HM.out] at hget
              have hln := (List.getElem?_eq_some_iff.1 hget).1
              obtain ⟨g2, o2, rfl, hg2, r1, r2⟩ := HLAY.out.mk hget
              have r1 := (HBW.out.cell hg2).trans r1
              have r2 := (HBW.out.cell hg2).trans r2
              simp only at r1 r2
              have hai : (a : Int) < M.length := by omega
              have hnm := fun W => mkname_any (jj : Int) jj (by omega) (by omega) (by omega) W
              have heq := fun w => run_mark_eq (mkNm jj) (mkNm jj) (most jj) (most jj) w
              rw [hd] at z2
              clear hd hget
              have HNX := Lib.hid hnx; have HA2 := Lib.hid ha; have HNM := Lib.hid hnm; have HEQ := Lib.hid heq; have R1 := Lib.hid r1; have R2 := Lib.hid r2; have Z1 := Lib.hid z1
              clear hnx ha hnm heq r1 r2
              generalize hmn : mkNm jj = nmj at HNM HEQ R1
              generalize hmm : most jj = mj at HEQ R2 Z1 z1
              go_wp2_with fail
              refine wp_region_sel [isV (.int .i64 (a : Nat)), isV (.slice (some ⟨g2, o2, none⟩) M.length c3), isV (.int .i64 (M.length : Nat)), isV (.bool false), isV (.bool false), isV (.slice (some ⟨g2, o2, none⟩) M.length c3), isV (.int .i64 (a : Nat)), isV (.pointer (some ⟨g2, o2 + a * 2, none⟩)), isV (.agg #[.string nmj, .int .i64 mj]), isV (.int .i64 (jj : Nat)), isV (.string nmj), isV (.int .i64 (jj : Nat)), isV (.pointer (some ⟨ab, jj, none⟩)), isV (.int .i64 mj), isV (.agg #[.string nmj, .int .i64 mj]), isV (.bool false), isV (.bool false)] (by kernel_rfl) (by kernel_rfl) ?_ ?_
              ·
                refine ⟨prem_base (WantOk.free rfl) rfl rfl rfl rfl, ?_⟩
                refine ⟨prem_base (WantOk.free rfl) rfl rfl rfl rfl, ?_⟩
                refine ⟨prem_of (WantOk.free rfl) (isV_stable _) (fun ev wo E => ?_), ?_⟩
                · have e102 : ev (.tmp 102) = .slice (some ⟨g2, o2, none⟩) M.length c3 := E.dep 0 _ rfl rfl _ rfl
                  go_simp
                  exact relUpon_value ⟨Below.refl _ _, rfl⟩
                refine ⟨prem_of (WantOk.free rfl) (isV_stable _) (fun ev wo E => ?_), ?_⟩
                · have e101 : ev (.tmp 101) = .int .i64 (a : Nat) := E.dep 0 _ rfl rfl _ rfl
                  have e103 : ev (.tmp 103) = .int .i64 (M.length : Nat) := E.dep 1 _ rfl rfl _ rfl
                  have hd4 : decide (M.length ≤ a) = false := decide_eq_false (by omega)
                  go_simp
                  exact relUpon_value ⟨Below.refl _ _, rfl⟩
                refine ⟨prem_copy 0 (WantOk.free rfl) (.inl rfl) rfl rfl rfl rfl (isV_stable _), ?_⟩
                refine ⟨prem_base (WantOk.by 0 rfl rfl rfl rfl rfl) rfl rfl rfl rfl, ?_⟩
                refine ⟨prem_base (WantOk.by 0 rfl rfl rfl rfl rfl) rfl rfl rfl rfl, ?_⟩
                refine ⟨prem_of (WantOk.by 2 rfl rfl rfl rfl rfl) (isV_stable _) (fun ev wo E => ?_), ?_⟩
                · have e106 : ev (.tmp 106) = .slice (some ⟨g2, o2, none⟩) M.length c3 := E.dep 0 _ rfl rfl _ rfl
                  have e107 : ev (.tmp 107) = .int .i64 (a : Nat) := E.dep 1 _ rfl rfl _ rfl
                  go_simp
                  exact relUpon_value ⟨Below.refl _ _, rfl⟩
                refine ⟨prem_of (WantOk.by 1 rfl rfl rfl rfl rfl) (isV_stable _) (fun ev wo E => ?_), ?_⟩
                · have e108 : ev (.tmp 108) = .pointer (some ⟨g2, o2 + a * 2, none⟩) := E.dep 0 _ rfl rfl _ rfl
                  have hx0 := (E.bel.cell (cell_lt R1.out)).trans R1.out
                  have hx1 := (E.bel.cell (cell_lt R2.out)).trans R2.out
                  go_simp
                  exact relUpon_value ⟨Below.refl _ _, rfl⟩
                refine ⟨prem_base (WantOk.by 0 rfl rfl rfl rfl rfl) rfl rfl rfl rfl, ?_⟩
                refine ⟨prem_of (WantOk.by 1 rfl rfl rfl rfl rfl) (isV_stable _) (fun ev wo E => ?_), ?_⟩
                · have e110 : ev (.tmp 110) = .int .i64 (jj : Nat) := E.dep 0 _ rfl rfl _ rfl
                  have ef := E.func
                  go_simp
                  refine relUpon_enter ((HNM.out wo).mono ?_)
                  rintro e w' ⟨rfl, hb⟩
                  exact ⟨_, rfl, hb, rfl⟩
                refine ⟨prem_base (WantOk.by 0 rfl rfl rfl rfl rfl) rfl rfl rfl rfl, ?_⟩
                refine ⟨prem_of (WantOk.by 1 rfl rfl rfl rfl rfl) (isV_stable _) (fun ev wo E => ?_), ?_⟩
                · have e4 : ev (.tmp 4) = .pointer (some ⟨ab, 0, none⟩) := (E.base 4 rfl).trans rfl
                  have e112 : ev (.tmp 112) = .int .i64 (jj : Nat) := E.dep 0 _ rfl rfl _ rfl
                  go_simp
                  exact relUpon_value ⟨Below.refl _ _, rfl⟩
                refine ⟨prem_of (WantOk.by 1 rfl rfl rfl rfl rfl) (isV_stable _) (fun ev wo E => ?_), ?_⟩
                · have e113 : ev (.tmp 113) = .pointer (some ⟨ab, jj, none⟩) := E.dep 0 _ rfl rfl _ rfl
                  have hx0 := (E.bel.cell (cell_lt Z1.out)).trans Z1.out
                  go_simp
                  exact relUpon_value ⟨Below.refl _ _, rfl⟩
                refine ⟨prem_of (WantOk.by 2 rfl rfl rfl rfl rfl) (isV_stable _) (fun ev wo E => ?_), ?_⟩
                · have e111 : ev (.tmp 111) = .string nmj := E.dep 0 _ rfl rfl _ rfl
                  have e114 : ev (.tmp 114) = .int .i64 mj := E.dep 1 _ rfl rfl _ rfl
                  go_simp
                  exact relUpon_value ⟨Below.refl _ _, rfl⟩
                refine ⟨prem_of (WantOk.by 2 rfl rfl rfl rfl rfl) (isV_stable _) (fun ev wo E => ?_), ?_⟩
                · have e109 : ev (.tmp 109) = .agg #[.string nmj, .int .i64 mj] := E.dep 0 _ rfl rfl _ rfl
                  have e115 : ev (.tmp 115) = .agg #[.string nmj, .int .i64 mj] := E.dep 1 _ rfl rfl _ rfl
                  have hq := HEQ.out wo
                  go_simp
                  exact relUpon_value ⟨Below.refl _ _, rfl⟩
                refine ⟨prem_of (WantOk.free rfl) (isV_stable _) (fun ev wo E => ?_), ?_⟩
                · have e105 : ev (.tmp 105) = .bool false := E.dep 0 _ rfl rfl _ rfl
                  have e116 : ev (.tmp 116) = .bool false := E.dep 1 _ rfl rfl _ rfl
                  have ec := E.const
                  go_simp
                  exact relUpon_value ⟨Below.refl _ _, rfl⟩
                trivial
              · intro wz bz
                rintro _ rfl
                rintro _ rfl
                rintro _ rfl
                rintro _ rfl
                rintro _ rfl
                rintro _ rfl
                rintro _ rfl
                rintro _ rfl
                rintro _ rfl
                rintro _ rfl
                rintro _ rfl
                rintro _ rfl
                rintro _ rfl
                rintro _ rfl
                rintro _ rfl
                rintro _ rfl
                rintro _ rfl
                simp only [relEnd]
                go_simp
                have BZ := Lib.hid (HBW.out.trans (bz.mono HBW.out.size))
                clear bz
                go_wp2_with fail
                go_roundw
                case rel => exact ⟨jj + 1, by go_num, by omega, by rw [HNX.out]; go_num, BZ.out⟩
                case measure => simp [RowKit.intOf]; omega
          · have hji : ¬ (jj : Int) < 16 := by omega
            obtain rfl : jj = 16 := by omega
            rw [HM.out] at ha
            subst ha
            go_wp2_with fail
            go_ret
            exact ⟨rfl, S5.out.bel⟩
      · have hki : (k : Int) < n := by omega
        have hki2 : ¬ (k : Int) < 100 := by omega
        go_wp2_with fail
        refine HLS.out.mono ?_
        rintro e w3 ⟨v, ss, rfl, hp, hrow, b3⟩
        obtain ⟨e1, e2⟩ := HML.out ss hp
        rw [e1, e2] at hrow
        obtain ⟨A2, c3, rfl, hc1, hc2⟩ := yown_slice hrow
        have hlay := Lay.of_own hrow (Nat.le_refl _)
        have S3 := Lib.hid (HS.out.below b3); have HLAY := Lib.hid hlay
        clear hrow hlay hp e1 e2 b3
        go_wp2_with fail
        go_loopw [14, 15] (fun a j W => ∃ jj : Nat, j = .int .i64 jj ∧ jj ≤ 16 ∧ a = .int .i64 (mkMarks mkNm had most jj).length ∧ Below w3.heap.size w3 W) (fun _ j _ => 16 - (RowKit.intOf j).toNat)
        case atStart => exact ⟨0, rfl, by omega, rfl, Below.refl _ _⟩
        case round =>
          obtain ⟨jj, rfl, hj, rfl, hbw⟩ := hrel
          have S5 := Lib.hid (S3.out.below hbw)
          have HBW := Lib.hid hbw
          clear hbw
          obtain ⟨a, ha⟩ : ∃ a, (mkMarks mkNm had most jj).length = a := ⟨_, rfl⟩
          have hal : a ≤ 16 := by rw [← ha, mkMarks_len]; have := mkCnt_le jj had; omega
          rw [ha]
          by_cases hj2 : jj < 16
          · have hji : (jj : Int) < 16 := by omega
            have z2 : wr.cell? ⟨ab + 1, jj, none⟩ = some (.bool (had jj)) := cell_of_block (i := jj) S5.out.bh (arrF_at hj2)
            have z1 : wr.cell? ⟨ab, jj, none⟩ = some (.int .i64 (most jj)) := cell_of_block (i := jj) S5.out.ba (arrF_at hj2)
            cases hd : had jj with
            | false =>
              have hnx : (mkMarks mkNm had most (jj + 1)).length = a := by rw [mkMarks, hd, List.length_append, ha]; rfl
              rw [hd] at z2
              clear hd
              have HNX := Lib.hid hnx; have HA2 := Lib.hid ha
              clear hnx ha
              go_wp2_with fail
              go_roundw
              case rel => exact ⟨jj + 1, by go_num, by omega, by rw [HNX.out], HBW.out⟩
              case measure => simp [RowKit.intOf]; omega
            | true =>
              have hnx : (mkMarks mkNm had most (jj + 1)).length = a + 1 := by rw [mkMarks, hd, List.length_append, ha]; rfl
              have hget := mkMarks_get (nm := mkNm) (most := most) hd 16 hj2
              rw [ha, HM.out] at hget
              have hln := (List.getElem?_eq_some_iff.1 hget).1
              obtain ⟨g2, o2, rfl, hg2, r1, r2⟩ := HLAY.out.mk hget
              have r1 := (HBW.out.cell hg2).trans r1
              have r2 := (HBW.out.cell hg2).trans r2
              simp only at r1 r2
              have hai : (a : Int) < M.length := by omega
              have hnm := fun W => mkname_any (jj : Int) jj (by omega) (by omega) (by omega) W
              have heq := fun w => run_mark_eq (mkNm jj) (mkNm jj) (most jj) (most jj) w
              rw [hd] at z2
              clear hd hget
              have HNX := Lib.hid hnx; have HA2 := Lib.hid ha; have HNM := Lib.hid hnm; have HEQ := Lib.hid heq; have R1 := Lib.hid r1; have R2 := Lib.hid r2; have Z1 := Lib.hid z1
              clear hnx ha hnm heq r1 r2
              generalize hmn : mkNm jj = nmj at HNM HEQ R1
              generalize hmm : most jj = mj at HEQ R2 Z1 z1
              go_wp2_with fail
              refine wp_region_sel [isV (.int .i64 (a : Nat)), isV (.slice (some ⟨g2, o2, none⟩) M.length c3), isV (.int .i64 (M.length : Nat)), isV (.bool false), isV (.bool false), isV (.slice (some ⟨g2, o2, none⟩) M.length c3), isV (.int .i64 (a : Nat)), isV (.pointer (some ⟨g2, o2 + a * 2, none⟩)), isV (.agg #[.string nmj, .int .i64 mj]), isV (.int .i64 (jj : Nat)), isV (.string nmj), isV (.int .i64 (jj : Nat)), isV (.pointer (some ⟨ab, jj, none⟩)), isV (.int .i64 mj), isV (.agg #[.string nmj, .int .i64 mj]), isV (.bool false), isV (.bool false)] (by kernel_rfl) (by kernel_rfl) ?_ ?_
              ·
                refine ⟨prem_base (WantOk.free rfl) rfl rfl rfl rfl, ?_⟩
                refine ⟨prem_base (WantOk.free rfl) rfl rfl rfl rfl, ?_⟩
                refine ⟨prem_of (WantOk.free rfl) (isV_stable _) (fun ev wo E => ?_), ?_⟩
                · have e102 : ev (.tmp 102) = .slice (some ⟨g2, o2, none⟩) M.length c3 := E.dep 0 _ rfl rfl _ rfl
                  go_simp
                  exact relUpon_value ⟨Below.refl _ _, rfl⟩
                refine ⟨prem_of (WantOk.free rfl) (isV_stable _) (fun ev wo E => ?_), ?_⟩
                · have e101 : ev (.tmp 101) = .int .i64 (a : Nat) := E.dep 0 _ rfl rfl _ rfl
                  have e103 : ev (.tmp 103) = .int .i64 (M.length : Nat) := E.dep 1 _ rfl rfl _ rfl
                  have hd4 : decide (M.length ≤ a) = false := decide_eq_false (by omega)
                  go_simp
                  exact relUpon_value ⟨Below.refl _ _, rfl⟩
                refine ⟨prem_copy 0 (WantOk.free rfl) (.inl rfl) rfl rfl rfl rfl (isV_stable _), ?_⟩
                refine ⟨prem_base (WantOk.by 0 rfl rfl rfl rfl rfl) rfl rfl rfl rfl, ?_⟩
                refine ⟨prem_base (WantOk.by 0 rfl rfl rfl rfl rfl) rfl rfl rfl rfl, ?_⟩
                refine ⟨prem_of (WantOk.by 2 rfl rfl rfl rfl rfl) (isV_stable _) (fun ev wo E => ?_), ?_⟩
                · have e106 : ev (.tmp 106) = .slice (some ⟨g2, o2, none⟩) M.length c3 := E.dep 0 _ rfl rfl _ rfl
                  have e107 : ev (.tmp 107) = .int .i64 (a : Nat) := E.dep 1 _ rfl rfl _ rfl
                  go_simp
                  exact relUpon_value ⟨Below.refl _ _, rfl⟩
                refine ⟨prem_of (WantOk.by 1 rfl rfl rfl rfl rfl) (isV_stable _) (fun ev wo E => ?_), ?_⟩
                · have e108 : ev (.tmp 108) = .pointer (some ⟨g2, o2 + a * 2, none⟩) := E.dep 0 _ rfl rfl _ rfl
                  have hx0 := (E.bel.cell (cell_lt R1.out)).trans R1.out
                  have hx1 := (E.bel.cell (cell_lt R2.out)).trans R2.out
                  go_simp
                  exact relUpon_value ⟨Below.refl _ _, rfl⟩
                refine ⟨prem_base (WantOk.by 0 rfl rfl rfl rfl rfl) rfl rfl rfl rfl, ?_⟩
                refine ⟨prem_of (WantOk.by 1 rfl rfl rfl rfl rfl) (isV_stable _) (fun ev wo E => ?_), ?_⟩
                · have e110 : ev (.tmp 110) = .int .i64 (jj : Nat) := E.dep 0 _ rfl rfl _ rfl
                  have ef := E.func
                  go_simp
                  refine relUpon_enter ((HNM.out wo).mono ?_)
                  rintro e w' ⟨rfl, hb⟩
                  exact ⟨_, rfl, hb, rfl⟩
                refine ⟨prem_base (WantOk.by 0 rfl rfl rfl rfl rfl) rfl rfl rfl rfl, ?_⟩
                refine ⟨prem_of (WantOk.by 1 rfl rfl rfl rfl rfl) (isV_stable _) (fun ev wo E => ?_), ?_⟩
                · have e4 : ev (.tmp 4) = .pointer (some ⟨ab, 0, none⟩) := (E.base 4 rfl).trans rfl
                  have e112 : ev (.tmp 112) = .int .i64 (jj : Nat) := E.dep 0 _ rfl rfl _ rfl
                  go_simp
                  exact relUpon_value ⟨Below.refl _ _, rfl⟩
                refine ⟨prem_of (WantOk.by 1 rfl rfl rfl rfl rfl) (isV_stable _) (fun ev wo E => ?_), ?_⟩
                · have e113 : ev (.tmp 113) = .pointer (some ⟨ab, jj, none⟩) := E.dep 0 _ rfl rfl _ rfl
                  have hx0 := (E.bel.cell (cell_lt Z1.out)).trans Z1.out
                  go_simp
                  exact relUpon_value ⟨Below.refl _ _, rfl⟩
                refine ⟨prem_of (WantOk.by 2 rfl rfl rfl rfl rfl) (isV_stable _) (fun ev wo E => ?_), ?_⟩
                · have e111 : ev (.tmp 111) = .string nmj := E.dep 0 _ rfl rfl _ rfl
                  have e114 : ev (.tmp 114) = .int .i64 mj := E.dep 1 _ rfl rfl _ rfl
                  go_simp
                  exact relUpon_value ⟨Below.refl _ _, rfl⟩
                refine ⟨prem_of (WantOk.by 2 rfl rfl rfl rfl rfl) (isV_stable _) (fun ev wo E => ?_), ?_⟩
                · have e109 : ev (.tmp 109) = .agg #[.string nmj, .int .i64 mj] := E.dep 0 _ rfl rfl _ rfl
                  have e115 : ev (.tmp 115) = .agg #[.string nmj, .int .i64 mj] := E.dep 1 _ rfl rfl _ rfl
                  have hq := HEQ.out wo
                  go_simp
                  exact relUpon_value ⟨Below.refl _ _, rfl⟩
                refine ⟨prem_of (WantOk.free rfl) (isV_stable _) (fun ev wo E => ?_), ?_⟩
                · have e105 : ev (.tmp 105) = .bool false := E.dep 0 _ rfl rfl _ rfl
                  have e116 : ev (.tmp 116) = .bool false := E.dep 1 _ rfl rfl _ rfl
                  have ec := E.const
                  go_simp
                  exact relUpon_value ⟨Below.refl _ _, rfl⟩
                trivial
              · intro wz bz
                rintro _ rfl
                rintro _ rfl
                rintro _ rfl
                rintro _ rfl
                rintro _ rfl
                rintro _ rfl
                rintro _ rfl
                rintro _ rfl
                rintro _ rfl
                rintro _ rfl
                rintro _ rfl
                rintro _ rfl
                rintro _ rfl
                rintro _ rfl
                rintro _ rfl
                rintro _ rfl
                rintro _ rfl
                simp only [relEnd]
                go_simp
                have BZ := Lib.hid (HBW.out.trans (bz.mono HBW.out.size))
                clear bz
                go_wp2_with fail
                go_roundw
                case rel => exact ⟨jj + 1, by go_num, by omega, by rw [HNX.out]; go_num, BZ.out⟩
                case measure => simp [RowKit.intOf]; omega
          · have hji : ¬ (jj : Int) < 16 := by omega
            obtain rfl : jj = 16 := by omega
            rw [HM.out] at ha
            subst ha
            go_wp2_with fail
            go_ret
            exact ⟨rfl, S5.out.bel⟩
end Go.Proofs.YtoapigiapcmjnaaDoor
