/- Rows: RowKnown, walked. -/
import Derived.Test.YtcdmiiaamajfoaaGreatDoorYY23
import Derived.Test.YtcdmiiaamajfoaaGreatDoorYY24
import Derived.Test.YtcdmiiaamajfoaaGreatDoorYY27
import Derived.Test.YtcdmiiaamajfoaaGreatDoorYY20
import Derived.Test.YtcdmiiaamajfoaaGreatDoorYBrg
import Derived.Test.YtcdmiiaamajfoaaGreatDoorYRel
set_option linter.unusedVariables false
set_option linter.unusedSimpArgs false
namespace Go.Ms
def kr (i : Nat) : List Cl := [[], [zCl], [wN 5, wNone, wYes], [wN (-5), (false, 0, ⟨#[0]⟩), zCl], [wN 5, (false, 0, ⟨#[255]⟩), zCl], [wN 5, wYes, zCl], [zCl, zCl, wN 2], [zCl, zCl, zCl, zCl]].getD i []
/-- A row of the table: its slice. -/
def krow (B : Nat) (i : Nat) : Value := if i = 0 then .slice none 0 0 else .slice (some ⟨B + (i - 1), 0, none⟩) (kr i).length (kr i).length
end Go.Ms
namespace Go.Proofs.YtcdmiiaamajfoaaGreatDoor
open Go.RowKit Go.Ms Go.Lib Go.Rel
def krObjs (B : Nat) : List Obj := [.cells (rowV (kr 1)).toArray 23, .cells (rowV (kr 2)).toArray 23, .cells (rowV (kr 3)).toArray 23, .cells (rowV (kr 4)).toArray 23, .cells (rowV (kr 5)).toArray 23, .cells (rowV (kr 6)).toArray 23, .cells (rowV (kr 7)).toArray 23, .cells #[krow B 0, krow B 1, krow B 2, krow B 3, krow B 4, krow B 5, krow B 6, krow B 7] 24]
theorem kr_len (i : Nat) : (kr i).length ≤ 4 := by
  by_cases h : i < 8
  · have : ∀ i : Fin 8, (kr i.1).length ≤ 4 := by decide +kernel
    exact this ⟨i, h⟩
  · unfold kr; rw [List.getD_eq_getElem?_getD, List.getElem?_eq_none (by simp; omega)]; simp
def oddC : List Col := [(0, ⟨#[]⟩, (9, false), zCl)]
theorem zIn : ∀ c ∈ [zCl], ClIn c := fun c hc => by
  have : c = zCl := by simpa using hc
  subst this
  exact ⟨by unfold maxLen; decide, by decide, by decide⟩
/-- The chapter's columns, whole. -/
def threeC : List Col := [(0, ⟨#[]⟩, (2, false), zCl), (0, ⟨#[]⟩, (4, true), zCl), (0, ⟨#[]⟩, (1, false), zCl)]
theorem three_ext {w : World} {b : Nat} {T : TypeId} (h : w.heap[b]? = some (.cells threeV.toArray T (0, 0))) : Ext w w.heap.size (some ⟨b, 0, none⟩) (colsV threeC) :=
  Lay.ext (lay_at (vs := threeV) h (Array.getElem?_eq_some_iff.1 h).1)
theorem ints_ext {w : World} {b : Nat} {T : TypeId} {l : List Int} (h : w.heap[b]? = some (.cells (intV l).toArray T (0, 0))) : Ext w w.heap.size (some ⟨b, 0, none⟩) (intV l) :=
  Lay.ext (lay_at (vs := intV l) h (Array.getElem?_eq_some_iff.1 h).1)
/-- The table's rows lie. -/
theorem kr_at (w : World) (i : Nat) (hi : i < 8) : ∃ A n, (allocs w (krObjs w.heap.size)).cell? ⟨w.heap.size + 7, i, none⟩ = some (.slice A n n) ∧ n = (kr i).length ∧ Lay (allocs w (krObjs w.heap.size)) (allocs w (krObjs w.heap.size)).heap.size A (rowV (kr i)) ∧ (∀ c ∈ kr i, c.2.2.size ≤ 1) ∧ (∀ c ∈ kr i, ClIn c) := by
  have ht := allocs_at (krObjs w.heap.size) w 7 _ rfl
  have hs := allocs_size (krObjs w.heap.size) w
  have hl : ∀ k o, (krObjs w.heap.size)[k]? = some o → (allocs w (krObjs w.heap.size)).heap[w.heap.size + k]? = some o := fun k o h => allocs_at _ w k o h
  generalize allocs w (krObjs w.heap.size) = V at *
  have h8 : (krObjs w.heap.size).length = 8 := rfl
  have key : ∀ k, k < 7 → (∃ T, (krObjs w.heap.size)[k]? = some (.cells (rowV (kr (k + 1))).toArray T)) → Lay V V.heap.size (some ⟨w.heap.size + k, 0, none⟩) (rowV (kr (k + 1))) := fun k hk ⟨T, h⟩ => lay_at (hl k _ h) (by omega)
  have sm : ∀ c ∈ kr i, c.2.2.size ≤ 1 ∧ -9223372036854775808 ≤ c.2.1 ∧ c.2.1 ≤ 9223372036854775807 := by
    have : ∀ i : Fin 8, ∀ c ∈ kr i.1, c.2.2.size ≤ 1 ∧ -9223372036854775808 ≤ c.2.1 ∧ c.2.1 ≤ 9223372036854775807 := by decide +kernel
    exact this ⟨i, hi⟩
  have sm1 : ∀ c ∈ kr i, c.2.2.size ≤ 1 := fun c hc => (sm c hc).1
  have sm2 : ∀ c ∈ kr i, ClIn c := fun c hc => ⟨by have := (sm c hc).1; unfold maxLen; omega, (sm c hc).2⟩
  match i, hi with
  | 0, _ => exact ⟨none, 0, by rw [Lib.cell_of_heap ht]; rfl, rfl, Lay.nil_, sm1, sm2⟩
  | 1, _ => exact ⟨_, 1, by rw [Lib.cell_of_heap ht]; rfl, rfl, key 0 (by omega) ⟨_, rfl⟩, sm1, sm2⟩
  | 2, _ => exact ⟨_, 3, by rw [Lib.cell_of_heap ht]; rfl, rfl, key 1 (by omega) ⟨_, rfl⟩, sm1, sm2⟩
  | 3, _ => exact ⟨_, 3, by rw [Lib.cell_of_heap ht]; rfl, rfl, key 2 (by omega) ⟨_, rfl⟩, sm1, sm2⟩
  | 4, _ => exact ⟨_, 3, by rw [Lib.cell_of_heap ht]; rfl, rfl, key 3 (by omega) ⟨_, rfl⟩, sm1, sm2⟩
  | 5, _ => exact ⟨_, 3, by rw [Lib.cell_of_heap ht]; rfl, rfl, key 4 (by omega) ⟨_, rfl⟩, sm1, sm2⟩
  | 6, _ => exact ⟨_, 3, by rw [Lib.cell_of_heap ht]; rfl, rfl, key 5 (by omega) ⟨_, rfl⟩, sm1, sm2⟩
  | 7, _ => exact ⟨_, 4, by rw [Lib.cell_of_heap ht]; rfl, rfl, key 6 (by omega) ⟨_, rfl⟩, sm1, sm2⟩
set_option maxRecDepth 100000 in
set_option maxHeartbeats 8000000 in
theorem rowKnown_walk (w : World) (hE : Env w) :
    Calls Tryz.prog 3 #[] w fun e w' => e = .returned (.bool true) ∧ Below w.heap.size w w' := by
  have hk := kr_at w
  have hb0 := allocs_new w (krObjs w.heap.size)
  have hs := allocs_size (krObjs w.heap.size) w
  obtain ⟨V, hV⟩ : ∃ V, allocs w (krObjs w.heap.size) = V := ⟨_, rfl⟩
  rw [hV] at hk hb0 hs
  have hE1 := hE.below hb0
  have HK := Lib.hid hk; have HB0 := Lib.hid hb0; have HE := Lib.hid hE1; have HV := Lib.hid hV; have HS := Lib.hid hs
  clear hE hE1 hk hb0 hV hs
  go_enter Tryz.func3, Tryz.ntmps3
  go_wp2_with fail
  go_loopw [2] (fun id wr => ∃ i : Nat, i ≤ 8 ∧ id = .int .i64 i ∧ Below V.heap.size V wr) (fun id _ => 8 - (RowKit.intOf id).toNat)
  case atStart => exact ⟨0, by omega, rfl, by rw [← HV.out]; exact Below.refl _ _⟩
  case round =>
    obtain ⟨i, hi, rfl, hb⟩ := hrel
    have hE1 := HE.out
    by_cases hli : i < 8
    · have hii : (i : Int) < 8 := by omega
      obtain ⟨A, n, HC, hn, hlay, hsz, hin⟩ := HK.out i hli
      have hn4 : n ≤ 4 := by rw [hn]; exact kr_len i
      have TB : (⟨w.heap.size + 7, i, none⟩ : Addr).block < V.heap.size := by have := HS.out; have h8 : (krObjs w.heap.size).length = 8 := rfl; show w.heap.size + 7 < _; omega
      obtain ⟨l, hl⟩ : ∃ l, kr i = l := ⟨_, rfl⟩
      rw [hl] at hlay hsz hin hn
      have LY := Lib.hid hlay; have SZ := Lib.hid hsz; have IN := Lib.hid hin; have NN := Lib.hid hn; have HCC := Lib.hid HC; have TBB := Lib.hid TB; have HB := Lib.hid hb
      clear hlay hsz hin hn HC TB hl hb hE1
      go_wp2_with fail
      go_loopw [3] (fun id wr => ∃ k : Nat, k ≤ 6 ∧ id = .int .i64 ((k : Int) - 1) ∧ Below V.heap.size V wr) (fun id _ => (5 - RowKit.intOf id).toNat)
      case atStart => exact ⟨0, by omega, rfl, HB.out⟩
      case round =>
        obtain ⟨k, hk, rfl, hb⟩ := hrel
        have HB := Lib.hid hb
        clear hb
        by_cases hlk : k < 6
        · have hki : (k : Int) - 1 < 5 := by omega
          go_wp2_with fail
          go_loopw [4] (fun id wr => ∃ j : Nat, j ≤ 5 ∧ id = .int .i64 ((j : Int) - 1) ∧ Below V.heap.size V wr) (fun id _ => (4 - RowKit.intOf id).toNat)
          case atStart => exact ⟨0, by omega, rfl, HB.out⟩
          case round =>
            obtain ⟨j, hj, rfl, hb⟩ := hrel
            by_cases hlj : j < 5
            · obtain ⟨p, hp⟩ : ∃ p : Int, (k : Int) - 1 = p := ⟨_, rfl⟩
              obtain ⟨q, hq⟩ : ∃ p : Int, (j : Int) - 1 = p := ⟨_, rfl⟩
              have hji : q < 4 := by omega
              have p0 : -1 ≤ p := by omega
              have p1 : p < 5 := by omega
              have q0 : -1 ≤ q := by omega
              rw [hp, hq]
              have HP := Lib.hid hp; have HQ := Lib.hid hq
              have HB := Lib.hid hb
              clear hp hq hb
              obtain ⟨K, hK⟩ : ∃ K : ByteArray, (⟨(rKey threeT l [p % 3, q % 3]).toArray⟩ : ByteArray) = K := ⟨_, rfl⟩
              have HKK := Lib.hid hK
              clear hK
              go_wp2_with fail
              refine wp_region_sel [newS 3 threeV.toArray 43, isV (.int .i64 p), isV (.int .i64 (p % 3)), isV (.int .i64 q), isV (.int .i64 (q % 3)), newS 2 #[.int .i64 (p % 3), .int .i64 (q % 3)] 3, isV (.slice (some ⟨w.heap.size + 7, 0, none⟩) 8 8), isV (.int .i64 (i : Nat)), isV (.pointer (some ⟨w.heap.size + 7, i, none⟩)), isV (.slice A n n), isV (.tuple #[.string K, .int .i64 (rKeyE threeT l [p % 3, q % 3])]), isV (.tuple #[.string K, .int .i64 (rKeyE threeT l [p % 3, q % 3])]), isV (.string K), isV (.int .i64 (rKeyE threeT l [p % 3, q % 3])), isV (.string K), isV (.int .i64 (rKeyE threeT l [p % 3, q % 3]))] (by kernel_rfl) (by kernel_rfl) ?_ ?_
              ·
                refine ⟨prem_of (WantOk.free rfl) (newS_stable _ _ _) (fun ev wo E => ?_), ?_⟩
                · have ef := E.func
                  go_simp
                  refine relUpon_enter ((three_at wo).mono ?_)
                  rintro e w' ⟨rfl, h, -, hb⟩
                  exact ⟨_, rfl, hb, _, rfl, h⟩
                refine ⟨prem_base (WantOk.free rfl) rfl rfl rfl rfl, ?_⟩
                refine ⟨prem_of (WantOk.free rfl) (isV_stable _) (fun ev wo E => ?_), ?_⟩
                · have e53 : ev (.tmp 53) = .int .i64 p := E.dep 0 _ rfl rfl _ rfl
                  have ef := E.func
                  have ec := E.const
                  go_simp
                  refine relUpon_enter ((bringI_any p 3 (by omega) (by omega) (by omega) (by omega) wo).mono ?_)
                  rintro e w' ⟨rfl, hb⟩
                  exact ⟨_, rfl, hb, rfl⟩
                refine ⟨prem_base (WantOk.free rfl) rfl rfl rfl rfl, ?_⟩
                refine ⟨prem_of (WantOk.free rfl) (isV_stable _) (fun ev wo E => ?_), ?_⟩
                · have e55 : ev (.tmp 55) = .int .i64 q := E.dep 0 _ rfl rfl _ rfl
                  have ef := E.func
                  have ec := E.const
                  go_simp
                  refine relUpon_enter ((bringI_any q 3 (by omega) (by omega) (by omega) (by omega) wo).mono ?_)
                  rintro e w' ⟨rfl, hb⟩
                  exact ⟨_, rfl, hb, rfl⟩
                refine ⟨prem_of (WantOk.free rfl) (newS_stable _ _ _) (fun ev wo E => ?_), ?_⟩
                · have e54 : ev (.tmp 54) = .int .i64 (p % 3) := E.dep 0 _ rfl rfl _ rfl
                  have e56 : ev (.tmp 56) = .int .i64 (q % 3) := E.dep 1 _ rfl rfl _ rfl
                  go_simp
                  exact relUpon_value (newS_alloc _ _ _ _)
                refine ⟨prem_base (WantOk.free rfl) rfl rfl rfl rfl, ?_⟩
                refine ⟨prem_base (WantOk.free rfl) rfl rfl rfl rfl, ?_⟩
                refine ⟨prem_of (WantOk.free rfl) (isV_stable _) (fun ev wo E => ?_), ?_⟩
                · have e58 : ev (.tmp 58) = .slice (some ⟨w.heap.size + 7, 0, none⟩) 8 8 := E.dep 0 _ rfl rfl _ rfl
                  have e59 : ev (.tmp 59) = .int .i64 (i : Nat) := E.dep 1 _ rfl rfl _ rfl
                  go_simp
                  exact relUpon_value ⟨Below.refl _ _, rfl⟩
                refine ⟨prem_of (WantOk.free rfl) (isV_stable _) (fun ev wo E => ?_), ?_⟩
                · have e60 : ev (.tmp 60) = .pointer (some ⟨w.heap.size + 7, i, none⟩) := E.dep 0 _ rfl rfl _ rfl
                  have hx := ((HB.out.trans (E.bel.mono HB.out.size)).cell TBB.out).trans HCC.out
                  go_simp
                  exact relUpon_value ⟨Below.refl _ _, rfl⟩
                refine ⟨prem_of (WantOk.free rfl) (isV_stable _) (fun ev wo E => ?_), ?_⟩
                · have e52 : (newS 3 threeV.toArray 43) (ev (.tmp 52)) wo := E.dep 0 _ rfl rfl _ rfl
                  have e57 : (newS 2 #[.int .i64 (p % 3), .int .i64 (q % 3)] 3) (ev (.tmp 57)) wo := E.dep 1 _ rfl rfl _ rfl
                  have e61 : ev (.tmp 61) = .slice A n n := E.dep 2 _ rfl rfl _ rfl
                  have ef := E.func
                  obtain ⟨g1, x1, x2⟩ := e52
                  obtain ⟨g2, x3, x4⟩ := e57
                  have hbw : Below V.heap.size V wo := HB.out.trans (E.bel.mono HB.out.size)
                  have hc := rowKey_any wo (some ⟨g1, 0, none⟩) (some ⟨g2, 0, none⟩) A 3 3 2 2 n n threeT threeV l [p % 3, q % 3] (fun c hc => by have := SZ.out c hc; omega) (by unfold maxLen; omega) (by omega) (by unfold maxLen; omega) rfl rfl NN.out (three_cols x2 (Array.getElem?_eq_some_iff.1 x2).1) (lay_at (vs := intV [p % 3, q % 3]) x4 (Array.getElem?_eq_some_iff.1 x4).1) ((LY.out.below hbw).more hbw.size) (HE.out.below hbw)
                  rw [HKK.out] at hc
                  have HC2 := Lib.hid hc
                  clear hc x2 x4
                  go_simp
                  refine relUpon_enter (HC2.out.mono ?_)
                  rintro e w' ⟨rfl, hb⟩
                  exact ⟨_, rfl, hb, rfl⟩
                refine ⟨prem_copy 0 (WantOk.free rfl) (.inl rfl) rfl rfl rfl rfl (isV_stable _), ?_⟩
                refine ⟨prem_of (WantOk.free rfl) (isV_stable _) (fun ev wo E => ?_), ?_⟩
                · have e51 : ev (.tmp 51) = .tuple #[.string K, .int .i64 (rKeyE threeT l [p % 3, q % 3])] := E.dep 0 _ rfl rfl _ rfl
                  go_simp
                  exact relUpon_value ⟨Below.refl _ _, rfl⟩
                refine ⟨prem_of (WantOk.free rfl) (isV_stable _) (fun ev wo E => ?_), ?_⟩
                · have e51 : ev (.tmp 51) = .tuple #[.string K, .int .i64 (rKeyE threeT l [p % 3, q % 3])] := E.dep 0 _ rfl rfl _ rfl
                  go_simp
                  exact relUpon_value ⟨Below.refl _ _, rfl⟩
                refine ⟨prem_copy 0 (WantOk.free rfl) (.inr rfl) rfl rfl rfl rfl (isV_stable _), ?_⟩
                refine ⟨prem_copy 0 (WantOk.free rfl) (.inr rfl) rfl rfl rfl rfl (isV_stable _), ?_⟩
                trivial
              · intro wz bz
                intro v52 h52
                rintro _ rfl
                rintro _ rfl
                rintro _ rfl
                rintro _ rfl
                intro v57 h57
                rintro _ rfl
                rintro _ rfl
                rintro _ rfl
                rintro _ rfl
                rintro _ rfl
                rintro _ rfl
                rintro _ rfl
                rintro _ rfl
                rintro _ rfl
                rintro _ rfl
                simp only [relEnd]
                go_simp
                have HB2 := Lib.hid (HB.out.trans (bz.mono HB.out.size))
                have KZ : K.size ≤ maxLen := by
                  rw [← HKK.out]
                  show (rKey threeT l [p % 3, q % 3]).toArray.size ≤ _
                  rw [List.size_toArray]
                  by_cases hx : rKeyE threeT l [p % 3, q % 3] = 0
                  · have := key_len hx; simp only [List.length_cons, List.length_nil] at this; unfold maxLen; omega
                  · unfold rKey; rw [if_neg hx]; unfold maxLen; simp
                have KZ2 := KZ
                unfold maxLen at KZ2
                obtain ⟨m, hm⟩ : ∃ m : Nat, (K.size : Int).tdiv 2 = m := ⟨K.size / 2, by rw [Int.tdiv_eq_ediv_of_nonneg (by omega)]; omega⟩
                have hm1 : m ≤ K.size := by rw [Int.tdiv_eq_ediv_of_nonneg (by omega)] at hm; omega
                have hm2 : (m : Int) ≤ K.size := by omega
                have hm3 : IntKind.i64.wrap (m : Int) = m := IntWalk.i64_in _ ⟨by omega, by omega⟩
                clear HB bz
                go_wp2_with fail
                refine wp_region_sel [newS 3 threeV.toArray 43, isV (.slice (some ⟨w.heap.size + 7, 0, none⟩) 8 8), isV (.int .i64 (i : Nat)), isV (.pointer (some ⟨w.heap.size + 7, i, none⟩)), isV (.slice A n n), isV (.int .i64 p), isV (.int .i64 q), newS 2 #[.int .i64 p, .int .i64 q] 3, isV (.bool true), isV (.bool false), isV (.bool false), newS 3 threeV.toArray 43, isV (.int .i64 p), isV (.int .i64 q), newS 2 #[.int .i64 p, .int .i64 q] 3, isV (.slice (some ⟨w.heap.size + 7, 0, none⟩) 8 8), isV (.int .i64 (i : Nat)), isV (.pointer (some ⟨w.heap.size + 7, i, none⟩)), isV (.slice A n n), isV (.string K), isV (.agg #[.slice A n n, .string K]), isV (.bool true), isV (.bool false), isV (.bool false), isV (.bool false), newS 3 threeV.toArray 43, isV (.int .i64 q), newS 1 #[.int .i64 q] 3, isV (.slice (some ⟨w.heap.size + 7, 0, none⟩) 8 8), isV (.int .i64 (i : Nat)), isV (.pointer (some ⟨w.heap.size + 7, i, none⟩)), isV (.slice A n n), isV (.string K), isV (.string K), isV (.int .i64 K.size), isV (.int .i64 (m : Nat)), isV (.string (K.extract 0 m)), isV (.agg #[.slice A n n, .string (K.extract 0 m)]), isV (.bool true), isV (.bool false), isV (.bool false), isV (.bool false), newS 3 threeV.toArray 43, isV (.int .i64 p), isV (.int .i64 (p % 3)), isV (.int .i64 q), isV (.int .i64 (q % 3)), newS 2 #[.int .i64 (p % 3), .int .i64 (q % 3)] 3, isV (.slice (some ⟨w.heap.size + 7, 0, none⟩) 8 8), isV (.int .i64 (i : Nat)), isV (.pointer (some ⟨w.heap.size + 7, i, none⟩)), isV (.slice A n n), isV (.string K), isV (.agg #[.slice A n n, .string K]), isV (.bool true), isV (.bool false), isV (.bool false)] (by kernel_rfl) (by kernel_rfl) ?_ ?_
                ·
                  refine ⟨prem_of (WantOk.free rfl) (newS_stable _ _ _) (fun ev wo E => ?_), ?_⟩
                  · have ef := E.func
                    go_simp
                    refine relUpon_enter ((three_at wo).mono ?_)
                    rintro e w' ⟨rfl, h, -, hb⟩
                    exact ⟨_, rfl, hb, _, rfl, h⟩
                  refine ⟨prem_base (WantOk.free rfl) rfl rfl rfl rfl, ?_⟩
                  refine ⟨prem_base (WantOk.free rfl) rfl rfl rfl rfl, ?_⟩
                  refine ⟨prem_of (WantOk.free rfl) (isV_stable _) (fun ev wo E => ?_), ?_⟩
                  · have e66 : ev (.tmp 66) = .slice (some ⟨w.heap.size + 7, 0, none⟩) 8 8 := E.dep 0 _ rfl rfl _ rfl
                    have e67 : ev (.tmp 67) = .int .i64 (i : Nat) := E.dep 1 _ rfl rfl _ rfl
                    go_simp
                    exact relUpon_value ⟨Below.refl _ _, rfl⟩
                  refine ⟨prem_of (WantOk.free rfl) (isV_stable _) (fun ev wo E => ?_), ?_⟩
                  · have e68 : ev (.tmp 68) = .pointer (some ⟨w.heap.size + 7, i, none⟩) := E.dep 0 _ rfl rfl _ rfl
                    have hx := ((HB2.out.trans (E.bel.mono HB2.out.size)).cell TBB.out).trans HCC.out
                    go_simp
                    exact relUpon_value ⟨Below.refl _ _, rfl⟩
                  refine ⟨prem_base (WantOk.free rfl) rfl rfl rfl rfl, ?_⟩
                  refine ⟨prem_base (WantOk.free rfl) rfl rfl rfl rfl, ?_⟩
                  refine ⟨prem_of (WantOk.free rfl) (newS_stable _ _ _) (fun ev wo E => ?_), ?_⟩
                  · have e70 : ev (.tmp 70) = .int .i64 p := E.dep 0 _ rfl rfl _ rfl
                    have e71 : ev (.tmp 71) = .int .i64 q := E.dep 1 _ rfl rfl _ rfl
                    go_simp
                    exact relUpon_value (newS_alloc _ _ _ _)
                  refine ⟨prem_of (WantOk.free rfl) (isV_stable _) (fun ev wo E => ?_), ?_⟩
                  · have e65 : (newS 3 threeV.toArray 43) (ev (.tmp 65)) wo := E.dep 0 _ rfl rfl _ rfl
                    have e69 : ev (.tmp 69) = .slice A n n := E.dep 1 _ rfl rfl _ rfl
                    have e72 : (newS 2 #[.int .i64 p, .int .i64 q] 3) (ev (.tmp 72)) wo := E.dep 2 _ rfl rfl _ rfl
                    have ef := E.func
                    obtain ⟨g1, x1, x2⟩ := e65
                    obtain ⟨g2, x3, x4⟩ := e72
                    have hbw : Below V.heap.size V wo := HB2.out.trans (E.bel.mono HB2.out.size)
                    have hc := rowChecks_walk (some ⟨g1, 0, none⟩) 3 3 threeC A n n l (some ⟨g2, 0, none⟩) 2 2 [p, q] wo (by omega) (by unfold maxLen; omega) rfl (three_ext x2) (by omega) (by unfold maxLen; omega) NN.out.symm ((LY.out.below hbw).more hbw.size).ext IN.out (by omega) (by unfold maxLen; omega) rfl (ints_ext x4) (HE.out.below hbw)
                    have HC2 := Lib.hid hc
                    clear hc x2 x4
                    go_simp
                    refine relUpon_enter (HC2.out.mono ?_)
                    rintro e w' ⟨rfl, hb⟩
                    exact ⟨_, rfl, hb, rfl⟩
                  refine ⟨prem_of (WantOk.free rfl) (isV_stable _) (fun ev wo E => ?_), ?_⟩
                  · have e73 : ev (.tmp 73) = .bool true := E.dep 0 _ rfl rfl _ rfl
                    go_simp
                    exact relUpon_value ⟨Below.refl _ _, rfl⟩
                  refine ⟨prem_copy 0 (WantOk.free rfl) (.inl rfl) rfl rfl rfl rfl (isV_stable _), ?_⟩
                  refine ⟨prem_of (WantOk.by 0 rfl rfl rfl rfl rfl) (newS_stable _ _ _) (fun ev wo E => ?_), ?_⟩
                  · have ef := E.func
                    go_simp
                    refine relUpon_enter ((three_at wo).mono ?_)
                    rintro e w' ⟨rfl, h, -, hb⟩
                    exact ⟨_, rfl, hb, _, rfl, h⟩
                  refine ⟨prem_base (WantOk.by 0 rfl rfl rfl rfl rfl) rfl rfl rfl rfl, ?_⟩
                  refine ⟨prem_base (WantOk.by 0 rfl rfl rfl rfl rfl) rfl rfl rfl rfl, ?_⟩
                  refine ⟨prem_of (WantOk.by 2 rfl rfl rfl rfl rfl) (newS_stable _ _ _) (fun ev wo E => ?_), ?_⟩
                  · have e77 : ev (.tmp 77) = .int .i64 p := E.dep 0 _ rfl rfl _ rfl
                    have e78 : ev (.tmp 78) = .int .i64 q := E.dep 1 _ rfl rfl _ rfl
                    go_simp
                    exact relUpon_value (newS_alloc _ _ _ _)
                  refine ⟨prem_base (WantOk.by 0 rfl rfl rfl rfl rfl) rfl rfl rfl rfl, ?_⟩
                  refine ⟨prem_base (WantOk.by 0 rfl rfl rfl rfl rfl) rfl rfl rfl rfl, ?_⟩
                  refine ⟨prem_of (WantOk.by 2 rfl rfl rfl rfl rfl) (isV_stable _) (fun ev wo E => ?_), ?_⟩
                  · have e80 : ev (.tmp 80) = .slice (some ⟨w.heap.size + 7, 0, none⟩) 8 8 := E.dep 0 _ rfl rfl _ rfl
                    have e81 : ev (.tmp 81) = .int .i64 (i : Nat) := E.dep 1 _ rfl rfl _ rfl
                    go_simp
                    exact relUpon_value ⟨Below.refl _ _, rfl⟩
                  refine ⟨prem_of (WantOk.by 1 rfl rfl rfl rfl rfl) (isV_stable _) (fun ev wo E => ?_), ?_⟩
                  · have e82 : ev (.tmp 82) = .pointer (some ⟨w.heap.size + 7, i, none⟩) := E.dep 0 _ rfl rfl _ rfl
                    have hx := ((HB2.out.trans (E.bel.mono HB2.out.size)).cell TBB.out).trans HCC.out
                    go_simp
                    exact relUpon_value ⟨Below.refl _ _, rfl⟩
                  refine ⟨prem_base (WantOk.by 0 rfl rfl rfl rfl rfl) rfl rfl rfl rfl, ?_⟩
                  refine ⟨prem_of (WantOk.by 2 rfl rfl rfl rfl rfl) (isV_stable _) (fun ev wo E => ?_), ?_⟩
                  · have e83 : ev (.tmp 83) = .slice A n n := E.dep 0 _ rfl rfl _ rfl
                    have e84 : ev (.tmp 84) = .string K := E.dep 1 _ rfl rfl _ rfl
                    go_simp
                    exact relUpon_value ⟨Below.refl _ _, rfl⟩
                  refine ⟨prem_of (WantOk.by 4 rfl rfl rfl rfl rfl) (isV_stable _) (fun ev wo E => ?_), ?_⟩
                  · have e76 : (newS 3 threeV.toArray 43) (ev (.tmp 76)) wo := E.dep 0 _ rfl rfl _ rfl
                    have e79 : (newS 2 #[.int .i64 p, .int .i64 q] 3) (ev (.tmp 79)) wo := E.dep 1 _ rfl rfl _ rfl
                    have e85 : ev (.tmp 85) = .agg #[.slice A n n, .string K] := E.dep 2 _ rfl rfl _ rfl
                    have ef := E.func
                    obtain ⟨g1, x1, x2⟩ := e76
                    obtain ⟨g2, x3, x4⟩ := e79
                    have hbw : Below V.heap.size V wo := HB2.out.trans (E.bel.mono HB2.out.size)
                    have hc := rowKeys_walk (some ⟨g1, 0, none⟩) 3 3 threeC (some ⟨g2, 0, none⟩) 2 2 [p, q] A n n l K wo (by omega) (by unfold maxLen; omega) rfl (three_ext x2) (by omega) (by unfold maxLen; omega) rfl (ints_ext x4) (by omega) (by unfold maxLen; omega) NN.out.symm ((LY.out.below hbw).more hbw.size).ext IN.out KZ (HE.out.below hbw)
                    have HC2 := Lib.hid hc
                    clear hc x2 x4
                    go_simp
                    refine relUpon_enter (HC2.out.mono ?_)
                    rintro e w' ⟨rfl, hb⟩
                    exact ⟨_, rfl, hb, rfl⟩
                  refine ⟨prem_of (WantOk.by 1 rfl rfl rfl rfl rfl) (isV_stable _) (fun ev wo E => ?_), ?_⟩
                  · have e86 : ev (.tmp 86) = .bool true := E.dep 0 _ rfl rfl _ rfl
                    go_simp
                    exact relUpon_value ⟨Below.refl _ _, rfl⟩
                  refine ⟨prem_of (WantOk.free rfl) (isV_stable _) (fun ev wo E => ?_), ?_⟩
                  · have e75 : ev (.tmp 75) = .bool false := E.dep 0 _ rfl rfl _ rfl
                    have e87 : ev (.tmp 87) = .bool false := E.dep 1 _ rfl rfl _ rfl
                    have ec := E.const
                    go_simp
                    exact relUpon_value ⟨Below.refl _ _, rfl⟩
                  refine ⟨prem_copy 0 (WantOk.free rfl) (.inl rfl) rfl rfl rfl rfl (isV_stable _), ?_⟩
                  refine ⟨prem_of (WantOk.by 0 rfl rfl rfl rfl rfl) (newS_stable _ _ _) (fun ev wo E => ?_), ?_⟩
                  · have ef := E.func
                    go_simp
                    refine relUpon_enter ((three_at wo).mono ?_)
                    rintro e w' ⟨rfl, h, -, hb⟩
                    exact ⟨_, rfl, hb, _, rfl, h⟩
                  refine ⟨prem_base (WantOk.by 0 rfl rfl rfl rfl rfl) rfl rfl rfl rfl, ?_⟩
                  refine ⟨prem_of (WantOk.by 1 rfl rfl rfl rfl rfl) (newS_stable _ _ _) (fun ev wo E => ?_), ?_⟩
                  · have e91 : ev (.tmp 91) = .int .i64 q := E.dep 0 _ rfl rfl _ rfl
                    go_simp
                    exact relUpon_value (newS_alloc _ _ _ _)
                  refine ⟨prem_base (WantOk.by 0 rfl rfl rfl rfl rfl) rfl rfl rfl rfl, ?_⟩
                  refine ⟨prem_base (WantOk.by 0 rfl rfl rfl rfl rfl) rfl rfl rfl rfl, ?_⟩
                  refine ⟨prem_of (WantOk.by 2 rfl rfl rfl rfl rfl) (isV_stable _) (fun ev wo E => ?_), ?_⟩
                  · have e93 : ev (.tmp 93) = .slice (some ⟨w.heap.size + 7, 0, none⟩) 8 8 := E.dep 0 _ rfl rfl _ rfl
                    have e94 : ev (.tmp 94) = .int .i64 (i : Nat) := E.dep 1 _ rfl rfl _ rfl
                    go_simp
                    exact relUpon_value ⟨Below.refl _ _, rfl⟩
                  refine ⟨prem_of (WantOk.by 1 rfl rfl rfl rfl rfl) (isV_stable _) (fun ev wo E => ?_), ?_⟩
                  · have e95 : ev (.tmp 95) = .pointer (some ⟨w.heap.size + 7, i, none⟩) := E.dep 0 _ rfl rfl _ rfl
                    have hx := ((HB2.out.trans (E.bel.mono HB2.out.size)).cell TBB.out).trans HCC.out
                    go_simp
                    exact relUpon_value ⟨Below.refl _ _, rfl⟩
                  refine ⟨prem_base (WantOk.by 0 rfl rfl rfl rfl rfl) rfl rfl rfl rfl, ?_⟩
                  refine ⟨prem_base (WantOk.by 0 rfl rfl rfl rfl rfl) rfl rfl rfl rfl, ?_⟩
                  refine ⟨prem_of (WantOk.by 1 rfl rfl rfl rfl rfl) (isV_stable _) (fun ev wo E => ?_), ?_⟩
                  · have e98 : ev (.tmp 98) = .string K := E.dep 0 _ rfl rfl _ rfl
                    go_simp
                    exact relUpon_value ⟨Below.refl _ _, rfl⟩
                  refine ⟨prem_of (WantOk.by 1 rfl rfl rfl rfl rfl) (isV_stable _) (fun ev wo E => ?_), ?_⟩
                  · have e99 : ev (.tmp 99) = .int .i64 K.size := E.dep 0 _ rfl rfl _ rfl
                    have ec := E.const
                    go_simp
                    exact relUpon_value ⟨Below.refl _ _, rfl⟩
                  refine ⟨prem_of (WantOk.by 2 rfl rfl rfl rfl rfl) (isV_stable _) (fun ev wo E => ?_), ?_⟩
                  · have e97 : ev (.tmp 97) = .string K := E.dep 0 _ rfl rfl _ rfl
                    have e100 : ev (.tmp 100) = .int .i64 (m : Nat) := E.dep 1 _ rfl rfl _ rfl
                    go_simp
                    exact relUpon_value ⟨Below.refl _ _, rfl⟩
                  refine ⟨prem_of (WantOk.by 2 rfl rfl rfl rfl rfl) (isV_stable _) (fun ev wo E => ?_), ?_⟩
                  · have e96 : ev (.tmp 96) = .slice A n n := E.dep 0 _ rfl rfl _ rfl
                    have e101 : ev (.tmp 101) = .string (K.extract 0 m) := E.dep 1 _ rfl rfl _ rfl
                    go_simp
                    exact relUpon_value ⟨Below.refl _ _, rfl⟩
                  refine ⟨prem_of (WantOk.by 4 rfl rfl rfl rfl rfl) (isV_stable _) (fun ev wo E => ?_), ?_⟩
                  · have e90 : (newS 3 threeV.toArray 43) (ev (.tmp 90)) wo := E.dep 0 _ rfl rfl _ rfl
                    have e92 : (newS 1 #[.int .i64 q] 3) (ev (.tmp 92)) wo := E.dep 1 _ rfl rfl _ rfl
                    have e102 : ev (.tmp 102) = .agg #[.slice A n n, .string (K.extract 0 m)] := E.dep 2 _ rfl rfl _ rfl
                    have ef := E.func
                    obtain ⟨g1, x1, x2⟩ := e90
                    obtain ⟨g2, x3, x4⟩ := e92
                    have hbw : Below V.heap.size V wo := HB2.out.trans (E.bel.mono HB2.out.size)
                    have hc := rowKeys_walk (some ⟨g1, 0, none⟩) 3 3 threeC (some ⟨g2, 0, none⟩) 1 1 [q] A n n l (K.extract 0 m) wo (by omega) (by unfold maxLen; omega) rfl (three_ext x2) (by omega) (by unfold maxLen; omega) rfl (ints_ext x4) (by omega) (by unfold maxLen; omega) NN.out.symm ((LY.out.below hbw).more hbw.size).ext IN.out (by rw [ByteArray.size_extract]; unfold maxLen; omega) (HE.out.below hbw)
                    have HC2 := Lib.hid hc
                    clear hc x2 x4
                    go_simp
                    refine relUpon_enter (HC2.out.mono ?_)
                    rintro e w' ⟨rfl, hb⟩
                    exact ⟨_, rfl, hb, rfl⟩
                  refine ⟨prem_of (WantOk.by 1 rfl rfl rfl rfl rfl) (isV_stable _) (fun ev wo E => ?_), ?_⟩
                  · have e103 : ev (.tmp 103) = .bool true := E.dep 0 _ rfl rfl _ rfl
                    go_simp
                    exact relUpon_value ⟨Below.refl _ _, rfl⟩
                  refine ⟨prem_of (WantOk.free rfl) (isV_stable _) (fun ev wo E => ?_), ?_⟩
                  · have e89 : ev (.tmp 89) = .bool false := E.dep 0 _ rfl rfl _ rfl
                    have e104 : ev (.tmp 104) = .bool false := E.dep 1 _ rfl rfl _ rfl
                    have ec := E.const
                    go_simp
                    exact relUpon_value ⟨Below.refl _ _, rfl⟩
                  refine ⟨prem_copy 0 (WantOk.free rfl) (.inl rfl) rfl rfl rfl rfl (isV_stable _), ?_⟩
                  refine ⟨prem_of (WantOk.by 0 rfl rfl rfl rfl rfl) (newS_stable _ _ _) (fun ev wo E => ?_), ?_⟩
                  · have ef := E.func
                    go_simp
                    refine relUpon_enter ((three_at wo).mono ?_)
                    rintro e w' ⟨rfl, h, -, hb⟩
                    exact ⟨_, rfl, hb, _, rfl, h⟩
                  refine ⟨prem_base (WantOk.by 0 rfl rfl rfl rfl rfl) rfl rfl rfl rfl, ?_⟩
                  refine ⟨prem_of (WantOk.by 2 rfl rfl rfl rfl rfl) (isV_stable _) (fun ev wo E => ?_), ?_⟩
                  · have e108 : ev (.tmp 108) = .int .i64 p := E.dep 0 _ rfl rfl _ rfl
                    have ef := E.func
                    have ec := E.const
                    go_simp
                    refine relUpon_enter ((bringI_any p 3 (by omega) (by omega) (by omega) (by omega) wo).mono ?_)
                    rintro e w' ⟨rfl, hb⟩
                    exact ⟨_, rfl, hb, rfl⟩
                  refine ⟨prem_base (WantOk.by 0 rfl rfl rfl rfl rfl) rfl rfl rfl rfl, ?_⟩
                  refine ⟨prem_of (WantOk.by 2 rfl rfl rfl rfl rfl) (isV_stable _) (fun ev wo E => ?_), ?_⟩
                  · have e110 : ev (.tmp 110) = .int .i64 q := E.dep 0 _ rfl rfl _ rfl
                    have ef := E.func
                    have ec := E.const
                    go_simp
                    refine relUpon_enter ((bringI_any q 3 (by omega) (by omega) (by omega) (by omega) wo).mono ?_)
                    rintro e w' ⟨rfl, hb⟩
                    exact ⟨_, rfl, hb, rfl⟩
                  refine ⟨prem_of (WantOk.by 2 rfl rfl rfl rfl rfl) (newS_stable _ _ _) (fun ev wo E => ?_), ?_⟩
                  · have e109 : ev (.tmp 109) = .int .i64 (p % 3) := E.dep 0 _ rfl rfl _ rfl
                    have e111 : ev (.tmp 111) = .int .i64 (q % 3) := E.dep 1 _ rfl rfl _ rfl
                    go_simp
                    exact relUpon_value (newS_alloc _ _ _ _)
                  refine ⟨prem_base (WantOk.by 0 rfl rfl rfl rfl rfl) rfl rfl rfl rfl, ?_⟩
                  refine ⟨prem_base (WantOk.by 0 rfl rfl rfl rfl rfl) rfl rfl rfl rfl, ?_⟩
                  refine ⟨prem_of (WantOk.by 2 rfl rfl rfl rfl rfl) (isV_stable _) (fun ev wo E => ?_), ?_⟩
                  · have e113 : ev (.tmp 113) = .slice (some ⟨w.heap.size + 7, 0, none⟩) 8 8 := E.dep 0 _ rfl rfl _ rfl
                    have e114 : ev (.tmp 114) = .int .i64 (i : Nat) := E.dep 1 _ rfl rfl _ rfl
                    go_simp
                    exact relUpon_value ⟨Below.refl _ _, rfl⟩
                  refine ⟨prem_of (WantOk.by 1 rfl rfl rfl rfl rfl) (isV_stable _) (fun ev wo E => ?_), ?_⟩
                  · have e115 : ev (.tmp 115) = .pointer (some ⟨w.heap.size + 7, i, none⟩) := E.dep 0 _ rfl rfl _ rfl
                    have hx := ((HB2.out.trans (E.bel.mono HB2.out.size)).cell TBB.out).trans HCC.out
                    go_simp
                    exact relUpon_value ⟨Below.refl _ _, rfl⟩
                  refine ⟨prem_base (WantOk.by 0 rfl rfl rfl rfl rfl) rfl rfl rfl rfl, ?_⟩
                  refine ⟨prem_of (WantOk.by 2 rfl rfl rfl rfl rfl) (isV_stable _) (fun ev wo E => ?_), ?_⟩
                  · have e116 : ev (.tmp 116) = .slice A n n := E.dep 0 _ rfl rfl _ rfl
                    have e117 : ev (.tmp 117) = .string K := E.dep 1 _ rfl rfl _ rfl
                    go_simp
                    exact relUpon_value ⟨Below.refl _ _, rfl⟩
                  refine ⟨prem_of (WantOk.by 4 rfl rfl rfl rfl rfl) (isV_stable _) (fun ev wo E => ?_), ?_⟩
                  · have e107 : (newS 3 threeV.toArray 43) (ev (.tmp 107)) wo := E.dep 0 _ rfl rfl _ rfl
                    have e112 : (newS 2 #[.int .i64 (p % 3), .int .i64 (q % 3)] 3) (ev (.tmp 112)) wo := E.dep 1 _ rfl rfl _ rfl
                    have e118 : ev (.tmp 118) = .agg #[.slice A n n, .string K] := E.dep 2 _ rfl rfl _ rfl
                    have ef := E.func
                    obtain ⟨g1, x1, x2⟩ := e107
                    obtain ⟨g2, x3, x4⟩ := e112
                    have hbw : Below V.heap.size V wo := HB2.out.trans (E.bel.mono HB2.out.size)
                    have hc := rowKeys_walk (some ⟨g1, 0, none⟩) 3 3 threeC (some ⟨g2, 0, none⟩) 2 2 [p % 3, q % 3] A n n l K wo (by omega) (by unfold maxLen; omega) rfl (three_ext x2) (by omega) (by unfold maxLen; omega) rfl (ints_ext x4) (by omega) (by unfold maxLen; omega) NN.out.symm ((LY.out.below hbw).more hbw.size).ext IN.out KZ (HE.out.below hbw)
                    have HC2 := Lib.hid hc
                    clear hc x2 x4
                    go_simp
                    refine relUpon_enter (HC2.out.mono ?_)
                    rintro e w' ⟨rfl, hb⟩
                    exact ⟨_, rfl, hb, rfl⟩
                  refine ⟨prem_of (WantOk.by 1 rfl rfl rfl rfl rfl) (isV_stable _) (fun ev wo E => ?_), ?_⟩
                  · have e119 : ev (.tmp 119) = .bool true := E.dep 0 _ rfl rfl _ rfl
                    go_simp
                    exact relUpon_value ⟨Below.refl _ _, rfl⟩
                  refine ⟨prem_of (WantOk.free rfl) (isV_stable _) (fun ev wo E => ?_), ?_⟩
                  · have e106 : ev (.tmp 106) = .bool false := E.dep 0 _ rfl rfl _ rfl
                    have e120 : ev (.tmp 120) = .bool false := E.dep 1 _ rfl rfl _ rfl
                    have ec := E.const
                    go_simp
                    exact relUpon_value ⟨Below.refl _ _, rfl⟩
                  trivial
                · intro wz bz
                  intro v65 h65
                  rintro _ rfl
                  rintro _ rfl
                  rintro _ rfl
                  rintro _ rfl
                  rintro _ rfl
                  rintro _ rfl
                  intro v72 h72
                  rintro _ rfl
                  rintro _ rfl
                  rintro _ rfl
                  intro v76 h76
                  rintro _ rfl
                  rintro _ rfl
                  intro v79 h79
                  rintro _ rfl
                  rintro _ rfl
                  rintro _ rfl
                  rintro _ rfl
                  rintro _ rfl
                  rintro _ rfl
                  rintro _ rfl
                  rintro _ rfl
                  rintro _ rfl
                  rintro _ rfl
                  intro v90 h90
                  rintro _ rfl
                  intro v92 h92
                  rintro _ rfl
                  rintro _ rfl
                  rintro _ rfl
                  rintro _ rfl
                  rintro _ rfl
                  rintro _ rfl
                  rintro _ rfl
                  rintro _ rfl
                  rintro _ rfl
                  rintro _ rfl
                  rintro _ rfl
                  rintro _ rfl
                  rintro _ rfl
                  rintro _ rfl
                  intro v107 h107
                  rintro _ rfl
                  rintro _ rfl
                  rintro _ rfl
                  rintro _ rfl
                  intro v112 h112
                  rintro _ rfl
                  rintro _ rfl
                  rintro _ rfl
                  rintro _ rfl
                  rintro _ rfl
                  rintro _ rfl
                  rintro _ rfl
                  rintro _ rfl
                  rintro _ rfl
                  simp only [relEnd]
                  go_simp
                  have HB3 := Lib.hid (HB2.out.trans (bz.mono HB2.out.size))
                  clear HB2 bz
                  go_wp2_with fail
                  go_roundw
                  case rel => exact ⟨j + 1, by omega, by rw [← HQ.out]; go_num, HB3.out⟩
                  case measure => simp [RowKit.intOf]; omega
            · have hji : ¬ (j : Int) - 1 < 4 := by omega
              have HB := Lib.hid hb
              clear hb
              go_wp2_with fail
              go_roundw
              case rel => exact ⟨k + 1, by omega, by go_num, HB.out⟩
              case measure => simp [RowKit.intOf]; omega
        · have hki : ¬ (k : Int) - 1 < 5 := by omega
          go_wp2_with fail
          go_loopw [7] (fun id wr => ∃ k : Nat, k ≤ 8 ∧ id = .int .i64 k ∧ Below V.heap.size V wr) (fun id _ => (8 - RowKit.intOf id).toNat)
          case atStart => exact ⟨0, by omega, rfl, HB.out⟩
          case round =>
            obtain ⟨k2, hk2, rfl, hb⟩ := hrel
            have HB := Lib.hid hb
            clear hb
            by_cases hlk2 : k2 < 8
            · have hki2 : (k2 : Int) < 8 := by omega
              obtain ⟨A2, n2, HC2, hn2, hlay2, hsz2, hin2⟩ := HK.out k2 hlk2
              have hn24 : n2 ≤ 4 := by rw [hn2]; exact kr_len k2
              have TB2 : (⟨w.heap.size + 7, k2, none⟩ : Addr).block < V.heap.size := by have := HS.out; have h8 : (krObjs w.heap.size).length = 8 := rfl; show w.heap.size + 7 < _; omega
              obtain ⟨l2, hl2⟩ : ∃ l, kr k2 = l := ⟨_, rfl⟩
              rw [hl2] at hlay2 hin2 hn2
              have LY2 := Lib.hid hlay2; have IN2 := Lib.hid hin2; have NN2 := Lib.hid hn2; have HCC2 := Lib.hid HC2; have TBB2 := Lib.hid TB2
              clear hlay2 hsz2 hin2 hn2 HC2 TB2 hl2
              go_wp2_with fail
              refine wp_region_sel [isV (.slice (some ⟨w.heap.size + 7, 0, none⟩) 8 8), isV (.int .i64 (i : Nat)), isV (.pointer (some ⟨w.heap.size + 7, i, none⟩)), isV (.slice A n n), isV (.slice (some ⟨w.heap.size + 7, 0, none⟩) 8 8), isV (.int .i64 (k2 : Nat)), isV (.pointer (some ⟨w.heap.size + 7, k2, none⟩)), isV (.slice A2 n2 n2), isV (.bool true), isV (.bool false), isV (.bool false), newS 3 threeV.toArray 43, newS 2 #[.int .i64 1, .int .i64 0] 3, isV (.slice (some ⟨w.heap.size + 7, 0, none⟩) 8 8), isV (.int .i64 (i : Nat)), isV (.pointer (some ⟨w.heap.size + 7, i, none⟩)), isV (.slice A n n), isV (.slice (some ⟨w.heap.size + 7, 0, none⟩) 8 8), isV (.int .i64 (k2 : Nat)), isV (.pointer (some ⟨w.heap.size + 7, k2, none⟩)), isV (.slice A2 n2 n2), isV (.agg #[.slice A n n, .slice A2 n2 n2]), isV (.bool true), isV (.bool false), isV (.bool false)] (by kernel_rfl) (by kernel_rfl) ?_ ?_
              ·
                refine ⟨prem_base (WantOk.free rfl) rfl rfl rfl rfl, ?_⟩
                refine ⟨prem_base (WantOk.free rfl) rfl rfl rfl rfl, ?_⟩
                refine ⟨prem_of (WantOk.free rfl) (isV_stable _) (fun ev wo E => ?_), ?_⟩
                · have e128 : ev (.tmp 128) = .slice (some ⟨w.heap.size + 7, 0, none⟩) 8 8 := E.dep 0 _ rfl rfl _ rfl
                  have e129 : ev (.tmp 129) = .int .i64 (i : Nat) := E.dep 1 _ rfl rfl _ rfl
                  go_simp
                  exact relUpon_value ⟨Below.refl _ _, rfl⟩
                refine ⟨prem_of (WantOk.free rfl) (isV_stable _) (fun ev wo E => ?_), ?_⟩
                · have e130 : ev (.tmp 130) = .pointer (some ⟨w.heap.size + 7, i, none⟩) := E.dep 0 _ rfl rfl _ rfl
                  have hx := ((HB.out.trans (E.bel.mono HB.out.size)).cell TBB.out).trans HCC.out
                  go_simp
                  exact relUpon_value ⟨Below.refl _ _, rfl⟩
                refine ⟨prem_base (WantOk.free rfl) rfl rfl rfl rfl, ?_⟩
                refine ⟨prem_base (WantOk.free rfl) rfl rfl rfl rfl, ?_⟩
                refine ⟨prem_of (WantOk.free rfl) (isV_stable _) (fun ev wo E => ?_), ?_⟩
                · have e132 : ev (.tmp 132) = .slice (some ⟨w.heap.size + 7, 0, none⟩) 8 8 := E.dep 0 _ rfl rfl _ rfl
                  have e133 : ev (.tmp 133) = .int .i64 (k2 : Nat) := E.dep 1 _ rfl rfl _ rfl
                  go_simp
                  exact relUpon_value ⟨Below.refl _ _, rfl⟩
                refine ⟨prem_of (WantOk.free rfl) (isV_stable _) (fun ev wo E => ?_), ?_⟩
                · have e134 : ev (.tmp 134) = .pointer (some ⟨w.heap.size + 7, k2, none⟩) := E.dep 0 _ rfl rfl _ rfl
                  have hx := ((HB.out.trans (E.bel.mono HB.out.size)).cell TBB2.out).trans HCC2.out
                  go_simp
                  exact relUpon_value ⟨Below.refl _ _, rfl⟩
                refine ⟨prem_of (WantOk.free rfl) (isV_stable _) (fun ev wo E => ?_), ?_⟩
                · have e131 : ev (.tmp 131) = .slice A n n := E.dep 0 _ rfl rfl _ rfl
                  have e135 : ev (.tmp 135) = .slice A2 n2 n2 := E.dep 1 _ rfl rfl _ rfl
                  have ef := E.func
                  have hbw : Below V.heap.size V wo := HB.out.trans (E.bel.mono HB.out.size)
                  have hc := rowCompares_walk A n n l A2 n2 n2 l2 wo (by omega) (by unfold maxLen; omega) NN.out.symm ((LY.out.below hbw).more hbw.size).ext IN.out (by omega) (by unfold maxLen; omega) NN2.out.symm ((LY2.out.below hbw).more hbw.size).ext IN2.out (HE.out.below hbw)
                  have HC2 := Lib.hid hc
                  clear hc
                  go_simp
                  refine relUpon_enter (HC2.out.mono ?_)
                  rintro e w' ⟨rfl, hb⟩
                  exact ⟨_, rfl, hb, rfl⟩
                refine ⟨prem_of (WantOk.free rfl) (isV_stable _) (fun ev wo E => ?_), ?_⟩
                · have e136 : ev (.tmp 136) = .bool true := E.dep 0 _ rfl rfl _ rfl
                  go_simp
                  exact relUpon_value ⟨Below.refl _ _, rfl⟩
                refine ⟨prem_copy 0 (WantOk.free rfl) (.inl rfl) rfl rfl rfl rfl (isV_stable _), ?_⟩
                refine ⟨prem_of (WantOk.by 0 rfl rfl rfl rfl rfl) (newS_stable _ _ _) (fun ev wo E => ?_), ?_⟩
                · have ef := E.func
                  go_simp
                  refine relUpon_enter ((three_at wo).mono ?_)
                  rintro e w' ⟨rfl, h, -, hb⟩
                  exact ⟨_, rfl, hb, _, rfl, h⟩
                refine ⟨prem_of (WantOk.by 0 rfl rfl rfl rfl rfl) (newS_stable _ _ _) (fun ev wo E => ?_), ?_⟩
                · have ec := E.const
                  go_simp
                  exact relUpon_value (newS_alloc _ _ _ _)
                refine ⟨prem_base (WantOk.by 0 rfl rfl rfl rfl rfl) rfl rfl rfl rfl, ?_⟩
                refine ⟨prem_base (WantOk.by 0 rfl rfl rfl rfl rfl) rfl rfl rfl rfl, ?_⟩
                refine ⟨prem_of (WantOk.by 2 rfl rfl rfl rfl rfl) (isV_stable _) (fun ev wo E => ?_), ?_⟩
                · have e141 : ev (.tmp 141) = .slice (some ⟨w.heap.size + 7, 0, none⟩) 8 8 := E.dep 0 _ rfl rfl _ rfl
                  have e142 : ev (.tmp 142) = .int .i64 (i : Nat) := E.dep 1 _ rfl rfl _ rfl
                  go_simp
                  exact relUpon_value ⟨Below.refl _ _, rfl⟩
                refine ⟨prem_of (WantOk.by 1 rfl rfl rfl rfl rfl) (isV_stable _) (fun ev wo E => ?_), ?_⟩
                · have e143 : ev (.tmp 143) = .pointer (some ⟨w.heap.size + 7, i, none⟩) := E.dep 0 _ rfl rfl _ rfl
                  have hx := ((HB.out.trans (E.bel.mono HB.out.size)).cell TBB.out).trans HCC.out
                  go_simp
                  exact relUpon_value ⟨Below.refl _ _, rfl⟩
                refine ⟨prem_base (WantOk.by 0 rfl rfl rfl rfl rfl) rfl rfl rfl rfl, ?_⟩
                refine ⟨prem_base (WantOk.by 0 rfl rfl rfl rfl rfl) rfl rfl rfl rfl, ?_⟩
                refine ⟨prem_of (WantOk.by 2 rfl rfl rfl rfl rfl) (isV_stable _) (fun ev wo E => ?_), ?_⟩
                · have e145 : ev (.tmp 145) = .slice (some ⟨w.heap.size + 7, 0, none⟩) 8 8 := E.dep 0 _ rfl rfl _ rfl
                  have e146 : ev (.tmp 146) = .int .i64 (k2 : Nat) := E.dep 1 _ rfl rfl _ rfl
                  go_simp
                  exact relUpon_value ⟨Below.refl _ _, rfl⟩
                refine ⟨prem_of (WantOk.by 1 rfl rfl rfl rfl rfl) (isV_stable _) (fun ev wo E => ?_), ?_⟩
                · have e147 : ev (.tmp 147) = .pointer (some ⟨w.heap.size + 7, k2, none⟩) := E.dep 0 _ rfl rfl _ rfl
                  have hx := ((HB.out.trans (E.bel.mono HB.out.size)).cell TBB2.out).trans HCC2.out
                  go_simp
                  exact relUpon_value ⟨Below.refl _ _, rfl⟩
                refine ⟨prem_of (WantOk.by 2 rfl rfl rfl rfl rfl) (isV_stable _) (fun ev wo E => ?_), ?_⟩
                · have e144 : ev (.tmp 144) = .slice A n n := E.dep 0 _ rfl rfl _ rfl
                  have e148 : ev (.tmp 148) = .slice A2 n2 n2 := E.dep 1 _ rfl rfl _ rfl
                  go_simp
                  exact relUpon_value ⟨Below.refl _ _, rfl⟩
                refine ⟨prem_of (WantOk.by 4 rfl rfl rfl rfl rfl) (isV_stable _) (fun ev wo E => ?_), ?_⟩
                · have e139 : (newS 3 threeV.toArray 43) (ev (.tmp 139)) wo := E.dep 0 _ rfl rfl _ rfl
                  have e140 : (newS 2 #[.int .i64 1, .int .i64 0] 3) (ev (.tmp 140)) wo := E.dep 1 _ rfl rfl _ rfl
                  have e149 : ev (.tmp 149) = .agg #[.slice A n n, .slice A2 n2 n2] := E.dep 2 _ rfl rfl _ rfl
                  have ef := E.func
                  obtain ⟨g1, x1, x2⟩ := e139
                  obtain ⟨g2, x3, x4⟩ := e140
                  have hbw : Below V.heap.size V wo := HB.out.trans (E.bel.mono HB.out.size)
                  have hc := rowKeyed_walk (some ⟨g1, 0, none⟩) 3 3 threeC (some ⟨g2, 0, none⟩) 2 2 [1, 0] A n n l A2 n2 n2 l2 wo (by omega) (by unfold maxLen; omega) rfl (three_ext x2) (by omega) (by unfold maxLen; omega) rfl (ints_ext (l := [1, 0]) x4) (by omega) (by unfold maxLen; omega) NN.out.symm ((LY.out.below hbw).more hbw.size).ext IN.out (by omega) (by unfold maxLen; omega) NN2.out.symm ((LY2.out.below hbw).more hbw.size).ext IN2.out (HE.out.below hbw)
                  have HC2 := Lib.hid hc
                  clear hc x2 x4
                  go_simp
                  refine relUpon_enter (HC2.out.mono ?_)
                  rintro e w' ⟨rfl, hb⟩
                  exact ⟨_, rfl, hb, rfl⟩
                refine ⟨prem_of (WantOk.by 1 rfl rfl rfl rfl rfl) (isV_stable _) (fun ev wo E => ?_), ?_⟩
                · have e150 : ev (.tmp 150) = .bool true := E.dep 0 _ rfl rfl _ rfl
                  go_simp
                  exact relUpon_value ⟨Below.refl _ _, rfl⟩
                refine ⟨prem_of (WantOk.free rfl) (isV_stable _) (fun ev wo E => ?_), ?_⟩
                · have e138 : ev (.tmp 138) = .bool false := E.dep 0 _ rfl rfl _ rfl
                  have e151 : ev (.tmp 151) = .bool false := E.dep 1 _ rfl rfl _ rfl
                  have ec := E.const
                  go_simp
                  exact relUpon_value ⟨Below.refl _ _, rfl⟩
                trivial
              · intro wz bz
                rintro _ rfl
                rintro _ rfl
                rintro _ rfl
                rintro _ rfl
                rintro _ rfl
                rintro _ rfl
                rintro _ rfl
                rintro _ rfl
                rintro _ rfl
                rintro _ rfl
                rintro _ rfl
                intro v139 h139
                intro v140 h140
                rintro _ rfl
                rintro _ rfl
                rintro _ rfl
                rintro _ rfl
                rintro _ rfl
                rintro _ rfl
                rintro _ rfl
                rintro _ rfl
                rintro _ rfl
                rintro _ rfl
                rintro _ rfl
                rintro _ rfl
                simp only [relEnd]
                go_simp
                have HB2 := Lib.hid (HB.out.trans (bz.mono HB.out.size))
                clear HB bz
                go_wp2_with fail
                go_roundw
                case rel => exact ⟨k2 + 1, by omega, by go_num, HB2.out⟩
                case measure => simp [RowKit.intOf]; omega
            · have hki2 : ¬ (k2 : Int) < 8 := by omega
              go_wp2_with fail
              go_roundw
              case rel => exact ⟨i + 1, by omega, by go_num, HB.out⟩
              case measure => simp [RowKit.intOf]; omega
    · have hii : ¬ (i : Int) < 8 := by omega
      have HB := Lib.hid (HB0.out.trans (hb.mono HB0.out.size))
      have HE1 := Lib.hid (hE1.below hb)
      clear hb hE1
      go_wp2_with fail
      have b0 := allocs_new wr [.cells #[.int .i64 0, .string ⟨#[]⟩, .int .i64 9, .bool false, .bool false, .int .i64 0, .string ⟨#[]⟩] 43]
      have h0 := allocs_at [.cells #[.int .i64 0, .string ⟨#[]⟩, .int .i64 9, .bool false, .bool false, .int .i64 0, .string ⟨#[]⟩] 43] wr 0 _ rfl
      refine (rworks_any _ (HE1.out.below b0)).mono ?_
      rintro en w1 ⟨rfl, b1⟩
      have ho : w1.heap[wr.heap.size]? = some (.cells (colsV oddC).toArray 43 (0, 0)) := (b1.block _ (Array.getElem?_eq_some_iff.1 h0).1).trans h0
      have hb1 := b0.trans (b1.mono b0.size)
      have HO := Lib.hid ho
      have HE2 := Lib.hid (HE1.out.below hb1)
      have HB1 := Lib.hid (HB.out.trans (hb1.mono HB.out.size))
      clear b0 h0 b1 ho hb1 HB HE1
      go_wp2_with fail
      have b2 := allocs_new w1 [.cells #[.int .i64 0] 3, .cells #[.bool false, .int .i64 0, .string ⟨#[]⟩] 23]
      have h20 := allocs_at [.cells #[.int .i64 0] 3, .cells #[.bool false, .int .i64 0, .string ⟨#[]⟩] 23] w1 0 _ rfl
      have h21 := allocs_at [.cells #[.int .i64 0] 3, .cells #[.bool false, .int .i64 0, .string ⟨#[]⟩] 23] w1 1 _ rfl
      have ho2 := (b2.block _ (Array.getElem?_eq_some_iff.1 HO.out).1).trans HO.out
      refine (rowKeys_walk (some ⟨wr.heap.size, 0, none⟩) 1 1 oddC (some ⟨w1.heap.size, 0, none⟩) 1 1 [0] (some ⟨w1.heap.size + 1, 0, none⟩) 1 1 [zCl] ⟨#[]⟩ _ (by omega) (by unfold maxLen; omega) rfl (lay_at ho2 (Array.getElem?_eq_some_iff.1 ho2).1).ext (by omega) (by unfold maxLen; omega) rfl (ints_ext (l := [0]) h20) (by omega) (by unfold maxLen; omega) rfl (lay_at (vs := rowV [zCl]) h21 (Array.getElem?_eq_some_iff.1 h21).1).ext zIn (by unfold maxLen; decide) (HE2.out.below b2)).mono ?_
      rintro en w2 ⟨rfl, b3⟩
      have hb2 := b2.trans (b3.mono b2.size)
      have HO2 := Lib.hid ((hb2.block _ (Array.getElem?_eq_some_iff.1 HO.out).1).trans HO.out)
      have HE3 := Lib.hid (HE2.out.below hb2)
      have HB2 := Lib.hid (HB1.out.trans (hb2.mono HB1.out.size))
      clear b2 h20 h21 ho2 b3 hb2 HB1 HE2 HO
      go_wp2_with fail
      have b2 := allocs_new w2 [.cells #[.bool false, .int .i64 0, .string ⟨#[]⟩] 23]
      have h21 := allocs_at [.cells #[.bool false, .int .i64 0, .string ⟨#[]⟩] 23] w2 0 _ rfl
      have ho2 := (b2.block _ (Array.getElem?_eq_some_iff.1 HO2.out).1).trans HO2.out
      refine (rowKeys_walk (some ⟨wr.heap.size, 0, none⟩) 1 1 oddC none 0 0 [] (some ⟨w2.heap.size, 0, none⟩) 1 1 [zCl] ⟨#[97]⟩ _ (by omega) (by unfold maxLen; omega) rfl (lay_at ho2 (Array.getElem?_eq_some_iff.1 ho2).1).ext (by omega) (by unfold maxLen; omega) rfl Lay.nil_.ext (by omega) (by unfold maxLen; omega) rfl (lay_at (vs := rowV [zCl]) h21 (Array.getElem?_eq_some_iff.1 h21).1).ext zIn (by unfold maxLen; decide) (HE3.out.below b2)).mono ?_
      rintro en w3 ⟨rfl, b3⟩
      have hb2 := b2.trans (b3.mono b2.size)
      have HE4 := Lib.hid (HE3.out.below hb2)
      have HB3 := Lib.hid (HB2.out.trans (hb2.mono HB2.out.size))
      clear b2 h21 ho2 b3 hb2 HB2 HE3 HO2
      go_wp2_with fail
      refine (rowChecks_walk none 0 0 [] none 0 0 [] none 0 0 [] _ (by omega) (by unfold maxLen; omega) rfl Lay.nil_.ext (by omega) (by unfold maxLen; omega) rfl Lay.nil_.ext (fun _ h => by cases h) (by omega) (by unfold maxLen; omega) rfl Lay.nil_.ext HE4.out).mono ?_
      rintro en w4 ⟨rfl, b4⟩
      have HE5 := Lib.hid (HE4.out.below b4)
      have HB4 := Lib.hid (HB3.out.trans (b4.mono HB3.out.size))
      clear b4 HE4 HB3
      go_wp2_with fail
      refine (rowKeys_walk none 0 0 [] none 0 0 [] none 0 0 [] ⟨#[]⟩ _ (by omega) (by unfold maxLen; omega) rfl Lay.nil_.ext (by omega) (by unfold maxLen; omega) rfl Lay.nil_.ext (by omega) (by unfold maxLen; omega) rfl Lay.nil_.ext (fun _ h => by cases h) (by unfold maxLen; decide) HE5.out).mono ?_
      rintro en w5 ⟨rfl, b5⟩
      have HB5 := Lib.hid (HB4.out.trans (b5.mono HB4.out.size))
      clear b5 HB4
      go_wp2_with fail
      go_ret
      exact ⟨rfl, HB5.out⟩
end Go.Proofs.YtcdmiiaamajfoaaGreatDoor
