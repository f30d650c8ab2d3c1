/- The reference of the cells: whole numbers' texts; hex. The reference of the cells: Text. The reference of the cells: Bits. Bounds of whole numbers. The reference of the cells: Bits, whole. CellWrites: the walk. -/
import Derived.Test.YtcdmiiaamajfoaaGreatDoorYHa
import Derived.Test.YtcdmiiaamajfoaaGreatDoorYR8c
import Derived.Test.YtcdmiiaamajfoaaGreatDoorYFa
set_option linter.unusedVariables false
namespace Go.Ms
open Go.Lib
end Go.Ms
namespace Go.Proofs.YtcdmiiaamajfoaaGreatDoor
open Go.RowKit Go.Ms Go.Lib


end Go.Proofs.YtcdmiiaamajfoaaGreatDoor
namespace Go.Proofs.YtcdmiiaamajfoaaGreatDoor
open Go.RowKit Go.Ms Go.Lib

end Go.Proofs.YtcdmiiaamajfoaaGreatDoor
set_option linter.unusedSimpArgs false
namespace Go.Ms
open Go.Lib
/-- The bytes of a number, the highest first, as the reference takes them off. -/
def nb : Nat → Int → Bs
  | 0, _ => []
  | j + 1, u => UInt8.ofNat (u / 72057594037927936).toNat :: nb j (u * 256 % 18446744073709551616)
theorem nb8 {U : Int} (h0 : 0 ≤ U) (h1 : U < 18446744073709551616) : nb 8 U = kNum U := by
  have e2 : U * 256 % 18446744073709551616 * 256 % 18446744073709551616 = U * 65536 % 18446744073709551616 := by omega
  have e3 : U * 65536 % 18446744073709551616 * 256 % 18446744073709551616 = U * 16777216 % 18446744073709551616 := by omega
  have e4 : U * 16777216 % 18446744073709551616 * 256 % 18446744073709551616 = U * 4294967296 % 18446744073709551616 := by omega
  have e5 : U * 4294967296 % 18446744073709551616 * 256 % 18446744073709551616 = U * 1099511627776 % 18446744073709551616 := by omega
  have e6 : U * 1099511627776 % 18446744073709551616 * 256 % 18446744073709551616 = U * 281474976710656 % 18446744073709551616 := by omega
  have e7 : U * 281474976710656 % 18446744073709551616 * 256 % 18446744073709551616 = U * 72057594037927936 % 18446744073709551616 := by omega
  have d1 : U * 256 % 18446744073709551616 / 72057594037927936 = U / 281474976710656 % 256 := by omega
  have d2 : U * 65536 % 18446744073709551616 / 72057594037927936 = U / 1099511627776 % 256 := by omega
  have d3 : U * 16777216 % 18446744073709551616 / 72057594037927936 = U / 4294967296 % 256 := by omega
  have d4 : U * 4294967296 % 18446744073709551616 / 72057594037927936 = U / 16777216 % 256 := by omega
  have d5 : U * 1099511627776 % 18446744073709551616 / 72057594037927936 = U / 65536 % 256 := by omega
  have d6 : U * 281474976710656 % 18446744073709551616 / 72057594037927936 = U / 256 % 256 := by omega
  have d7 : U * 72057594037927936 % 18446744073709551616 / 72057594037927936 = U % 256 := by omega
  simp only [nb]
  rw [e2, e3, e4, e5, e6, e7, d1, d2, d3, d4, d5, d6, d7]
  rfl
theorem esc_snoc (l : Bs) (k : Nat) (h : k < l.length) : escD (l.take (k + 1)) = escD (l.take k) ++ escb l[k] := by
  unfold escD
  rw [List.take_succ_eq_append_getElem h, List.flatMap_append]; simp
end Go.Ms
namespace Go.Proofs.YtcdmiiaamajfoaaGreatDoor
open Go.RowKit Go.Ms Go.Lib

theorem rnumber_any (k : Int) (tn : Bool) (w : World) :
    Calls Tryz.prog 153 #[.agg #[.int .i64 k, .bool tn]] w fun e w' => e = .returned (.bool (decide (k ≤ 3))) ∧ Below w.heap.size w w' := by
  by_cases h : k ≤ 3
  · rw [decide_eq_true h]
    go_enter Tryz.func153, Tryz.ntmps153
    go_wp2
    go_ret
    exact ⟨rfl, (Below.refl _ _).alloc (Nat.le_refl _) _⟩
  · rw [decide_eq_false h]
    go_enter Tryz.func153, Tryz.ntmps153
    go_wp2
    go_ret
    exact ⟨rfl, (Below.refl _ _).alloc (Nat.le_refl _) _⟩

set_option maxRecDepth 100000 in
set_option maxHeartbeats 4000000 in
theorem rbits_bf (n : Int) (S : ByteArray) (w : World) (hs : S.size ≤ 100000) (b0 : -9223372036854775808 ≤ n) (b1 : n ≤ 9223372036854775807) (hc : kCheck 1 false false n S.data.toList = 0) :
    Calls Tryz.prog 93 #[.agg #[.int .i64 1, .bool false], .agg #[.bool false, .int .i64 n, .string S]] w fun e w' => e = .returned (.tuple #[.string ⟨([UInt8.ofNat n.toNat]).toArray⟩, .int .i64 0]) ∧ Below w.heap.size w w' := by
  obtain ⟨i0, hi, hz0, hz1, hz2⟩ := info_parts infoU8
  have cc := fun w' => rcheck_any 1 false false n S w' hs b0 b1
  rw [hc] at cc
  have x0 := TBx.start w 1 false false n S
  have hlS : S.data.toList.length = S.size := by simp
  obtain ⟨_, h0, h1⟩ := is1.1 (ok_some (check_zero hc).2)
  have u1 : IntKind.u8.wrap n = n := IntWalk.u8_in _ (by omega)
  have CC := Lib.hid cc; have X0 := Lib.hid x0
  clear cc x0 hc
  go_enter Tryz.func93, Tryz.ntmps93
  go_wp2_with fail
  refine (CC.out _).mono ?_
  rintro en W1 ⟨rfl, bb1⟩
  have x1 := X0.out.step bb1
  obtain ⟨d0, d1, a0, a1, a2, f0, f1, f2, l0, l1⟩ := x1.cells
  have X1 := Lib.hid x1
  clear x1 bb1
  have ownP : OwnB W1 W1.heap.size 5 (.slice none 0 0) ([] : Bs) := OwnB.nil _ _ _
  have BP : Below W1.heap.size W1 W1 := Below.refl _ _
  have ownAQ := ownP.alloc (.cells #[.int .u8 n] 5)
  have BAQ : Below W1.heap.size W1 (W1.alloc (.cells #[.int .u8 n] 5)) := BP.alloc BP.size _
  have hsAQ := BAQ.size
  have hnsQ : Hid (∀ z ∈ ([n] : List Int), 0 ≤ z ∧ z < 256) := by show ∀ z ∈ ([n] : List Int), 0 ≤ z ∧ z < 256; intro z hz; simp only [List.mem_cons, List.not_mem_nil, or_false] at hz; omega
  go_wp2_with (at_builtin; refine wpList_append_new rfl _ _ 77 rfl W1.heap.size 5 i0 (.int .u8 0) Tryz.underlying77 hi hz0 hz1 hz2 rfl _ _ rfl ownAQ ⟨W1.heap.size, 0, none⟩ 1 1 rfl [n] rfl (new_cells W1 5 [n]) hnsQ.out (by simp) hsAQ ?_)
  intro vQ wQ ownQ hgQ
  have BQ := ownAQ.below BAQ hsAQ hgQ
  clear ownAQ hgQ BAQ hsAQ hnsQ
  have hcv := run_ownB_string (P := Tryz.prog) (src := 77) (dst := 9) Tryz.underlying77 Tryz.underlying5 Tryz.underlying9 ownQ
  go_wp2_with fail
  go_ret2
  exact ⟨rfl, X1.out.bel.trans (BQ.mono X1.out.bel.size)⟩
set_option maxRecDepth 100000 in
set_option maxHeartbeats 4000000 in
theorem rbits_n2f (n : Int) (S : ByteArray) (w : World) (hs : S.size ≤ 100000) (b0 : -9223372036854775808 ≤ n) (b1 : n ≤ 9223372036854775807) (hc : kCheck 2 false false n S.data.toList = 0) :
    Calls Tryz.prog 93 #[.agg #[.int .i64 2, .bool false], .agg #[.bool false, .int .i64 n, .string S]] w fun e w' => e = .returned (.tuple #[.string ⟨(kNum (n + 9223372036854775808)).toArray⟩, .int .i64 0]) ∧ Below w.heap.size w w' := by
  obtain ⟨i0, hi, hz0, hz1, hz2⟩ := info_parts infoU8
  have cc := fun w' => rcheck_any 2 false false n S w' hs b0 b1
  rw [hc] at cc
  have x0 := TBx.start w 2 false false n S
  have hlS : S.data.toList.length = S.size := by simp
  have rn := fun w' => rnumber_any 2 false w'
  rw [show decide ((2 : Int) ≤ 3) = true by decide] at rn
  have hu : IntKind.u64.wrap (IntKind.u64.wrap n + 9223372036854775808) = n + 9223372036854775808 := by
    rw [IntKind.wrap_u64, IntKind.wrap_u64]; omega
  have hnb := nb8 (U := n + 9223372036854775808) (by omega) (by omega)
  rw [← hnb]
  have hU0 : 0 ≤ n + 9223372036854775808 := by omega
  have hU1 : n + 9223372036854775808 < 18446744073709551616 := by omega
  obtain ⟨U, hU⟩ : ∃ U, n + 9223372036854775808 = U := ⟨_, rfl⟩
  rw [hU] at hu hU0 hU1 ⊢
  have CC := Lib.hid cc; have X0 := Lib.hid x0; have RN := Lib.hid rn
  clear cc x0 hc rn hnb hU
  go_enter Tryz.func93, Tryz.ntmps93
  go_wp2_with fail
  refine (CC.out _).mono ?_
  rintro en W1 ⟨rfl, bb1⟩
  have x1 := X0.out.step bb1
  obtain ⟨d0, d1, a0, a1, a2, f0, f1, f2, l0, l1⟩ := x1.cells
  have X1 := Lib.hid x1
  clear x1 bb1
  have ownP : OwnB W1 W1.heap.size 5 (.slice none 0 0) ([] : Bs) := OwnB.nil _ _ _
  have BP : Below W1.heap.size W1 W1 := Below.refl _ _
  go_wp2_with fail
  refine (RN.out _).mono ?_
  rintro en wA ⟨rfl, bbA⟩
  have ownR := ownP.kept bbA
  have BR := BP.trans (bbA.mono BP.size)
  clear ownP BP bbA
  clear d0 d1 a0 a1 a2 f0 f1 f2 l0 l1
  have xsR := X1.out.step BR
  obtain ⟨d0, d1, a0, a1, a2, f0, f1, f2, l0, l1⟩ := xsR.cells
  clear xsR
  go_wp2_with fail
  go_loopw [7, 8, 9] (fun v u i wr => ∃ (k : Nat) (V : Int) (acc : Bs), i = .int .i64 k ∧ k ≤ 8 ∧ u = .int .u64 V ∧ 0 ≤ V ∧ V < 18446744073709551616 ∧ OwnB wr W1.heap.size 5 v acc ∧ acc.length ≤ 1 + k ∧ Hid (acc ++ nb (8 - k) V = nb 8 U) ∧ Below W1.heap.size W1 wr) (fun _ _ i _ => 8 - (RowKit.intOf i).toNat)
  case atStart => exact ⟨0, U, [], rfl, by omega, rfl, hU0, hU1, ownR, by simp, by show _ = _; rfl, BR⟩
  case round =>
    obtain ⟨k, V, acc, rfl, hk, rfl, hV0, hV1, hown, hal, hac, hb⟩ := hrel
    by_cases hlt : k < 8
    · have hli : (k : Int) < 8 := by omega
      have t1 : V.tdiv 72057594037927936 = V / 72057594037927936 := Int.tdiv_eq_ediv_of_nonneg hV0
      have v1 : IntKind.u8.wrap (V / 72057594037927936) = V / 72057594037927936 := IntWalk.u8_in _ (by omega)
      have v2 : IntKind.u64.wrap (V * 256) = V * 256 % 18446744073709551616 := by rw [IntKind.wrap_u64]
      have hx0 : 0 ≤ V / 72057594037927936 := by omega
      have hx1 : V / 72057594037927936 < 256 := by omega
      have ownAQ := hown.alloc (.cells #[.int .u8 (V / 72057594037927936)] 5)
      have BAQ : Below W1.heap.size W1 (wr.alloc (.cells #[.int .u8 (V / 72057594037927936)] 5)) := hb.alloc hb.size _
      have hsAQ := BAQ.size
      have hnsQ : Hid (∀ z ∈ ([(V / 72057594037927936)] : List Int), 0 ≤ z ∧ z < 256) := by show ∀ z ∈ ([(V / 72057594037927936)] : List Int), 0 ≤ z ∧ z < 256; intro z hz; simp only [List.mem_cons, List.not_mem_nil, or_false] at hz; omega
      go_wp2_with (at_builtin; refine wpList_append_new rfl _ _ 77 rfl W1.heap.size 5 i0 (.int .u8 0) Tryz.underlying77 hi hz0 hz1 hz2 rfl _ _ rfl ownAQ ⟨wr.heap.size, 0, none⟩ 1 1 rfl [(V / 72057594037927936)] rfl (new_cells wr 5 [(V / 72057594037927936)]) hnsQ.out (by simp; omega) hsAQ ?_)
      intro vQ wQ ownQ hgQ
      have BQ := ownAQ.below BAQ hsAQ hgQ
      clear ownAQ hgQ BAQ hsAQ hnsQ
      have hac2 := hac.out
      obtain ⟨j, hj⟩ : ∃ j, 8 - k = j + 1 := ⟨8 - k - 1, by omega⟩
      rw [hj] at hac2
      have hj2 : 8 - (k + 1) = j := by omega
      have hac3 : Hid ((acc ++ [UInt8.ofNat (V / 72057594037927936).toNat]) ++ nb (8 - (k + 1)) (V * 256 % 18446744073709551616) = nb 8 U) := by
        show _ = _
        rw [hj2, List.append_assoc]
        exact hac2
      clear hac hac2 hj hj2
      go_wp2_with fail
      go_roundw
      case rel => exact ⟨k + 1, V * 256 % 18446744073709551616, acc ++ [UInt8.ofNat (V / 72057594037927936).toNat], by go_num, by omega, rfl, by omega, by omega, ownQ, by simp; omega, hac3, BQ⟩
      case measure => simp [RowKit.intOf]; omega
    · obtain rfl : k = 8 := by omega
      have hac2 := hac.out
      simp only [Nat.sub_self, nb, List.append_nil] at hac2
      have hcv := run_ownB_string (P := Tryz.prog) (src := 77) (dst := 9) Tryz.underlying77 Tryz.underlying5 Tryz.underlying9 hown
      have HAC := Lib.hid hac2
      clear hac hac2
      go_wp2_with fail
      go_ret2
      exact ⟨by show _ = Ending.returned (.tuple #[.string ⟨(nb 8 U).toArray⟩, .int .i64 0]); rw [nb] ; simp only [nb]; rw [← HAC.out]; first | done | rfl, X1.out.bel.trans (hb.mono X1.out.bel.size)⟩
set_option maxRecDepth 100000 in
set_option maxHeartbeats 4000000 in
theorem rbits_n3f (n : Int) (S : ByteArray) (w : World) (hs : S.size ≤ 100000) (b0 : -9223372036854775808 ≤ n) (b1 : n ≤ 9223372036854775807) (hc : kCheck 3 false false n S.data.toList = 0) :
    Calls Tryz.prog 93 #[.agg #[.int .i64 3, .bool false], .agg #[.bool false, .int .i64 n, .string S]] w fun e w' => e = .returned (.tuple #[.string ⟨(kNum (n + 9223372036854775808)).toArray⟩, .int .i64 0]) ∧ Below w.heap.size w w' := by
  obtain ⟨i0, hi, hz0, hz1, hz2⟩ := info_parts infoU8
  have cc := fun w' => rcheck_any 3 false false n S w' hs b0 b1
  rw [hc] at cc
  have x0 := TBx.start w 3 false false n S
  have hlS : S.data.toList.length = S.size := by simp
  have rn := fun w' => rnumber_any 3 false w'
  rw [show decide ((3 : Int) ≤ 3) = true by decide] at rn
  have hu : IntKind.u64.wrap (IntKind.u64.wrap n + 9223372036854775808) = n + 9223372036854775808 := by
    rw [IntKind.wrap_u64, IntKind.wrap_u64]; omega
  have hnb := nb8 (U := n + 9223372036854775808) (by omega) (by omega)
  rw [← hnb]
  have hU0 : 0 ≤ n + 9223372036854775808 := by omega
  have hU1 : n + 9223372036854775808 < 18446744073709551616 := by omega
  obtain ⟨U, hU⟩ : ∃ U, n + 9223372036854775808 = U := ⟨_, rfl⟩
  rw [hU] at hu hU0 hU1 ⊢
  have CC := Lib.hid cc; have X0 := Lib.hid x0; have RN := Lib.hid rn
  clear cc x0 hc rn hnb hU
  go_enter Tryz.func93, Tryz.ntmps93
  go_wp2_with fail
  refine (CC.out _).mono ?_
  rintro en W1 ⟨rfl, bb1⟩
  have x1 := X0.out.step bb1
  obtain ⟨d0, d1, a0, a1, a2, f0, f1, f2, l0, l1⟩ := x1.cells
  have X1 := Lib.hid x1
  clear x1 bb1
  have ownP : OwnB W1 W1.heap.size 5 (.slice none 0 0) ([] : Bs) := OwnB.nil _ _ _
  have BP : Below W1.heap.size W1 W1 := Below.refl _ _
  go_wp2_with fail
  refine (RN.out _).mono ?_
  rintro en wA ⟨rfl, bbA⟩
  have ownR := ownP.kept bbA
  have BR := BP.trans (bbA.mono BP.size)
  clear ownP BP bbA
  clear d0 d1 a0 a1 a2 f0 f1 f2 l0 l1
  have xsR := X1.out.step BR
  obtain ⟨d0, d1, a0, a1, a2, f0, f1, f2, l0, l1⟩ := xsR.cells
  clear xsR
  go_wp2_with fail
  go_loopw [7, 8, 9] (fun v u i wr => ∃ (k : Nat) (V : Int) (acc : Bs), i = .int .i64 k ∧ k ≤ 8 ∧ u = .int .u64 V ∧ 0 ≤ V ∧ V < 18446744073709551616 ∧ OwnB wr W1.heap.size 5 v acc ∧ acc.length ≤ 1 + k ∧ Hid (acc ++ nb (8 - k) V = nb 8 U) ∧ Below W1.heap.size W1 wr) (fun _ _ i _ => 8 - (RowKit.intOf i).toNat)
  case atStart => exact ⟨0, U, [], rfl, by omega, rfl, hU0, hU1, ownR, by simp, by show _ = _; rfl, BR⟩
  case round =>
    obtain ⟨k, V, acc, rfl, hk, rfl, hV0, hV1, hown, hal, hac, hb⟩ := hrel
    by_cases hlt : k < 8
    · have hli : (k : Int) < 8 := by omega
      have t1 : V.tdiv 72057594037927936 = V / 72057594037927936 := Int.tdiv_eq_ediv_of_nonneg hV0
      have v1 : IntKind.u8.wrap (V / 72057594037927936) = V / 72057594037927936 := IntWalk.u8_in _ (by omega)
      have v2 : IntKind.u64.wrap (V * 256) = V * 256 % 18446744073709551616 := by rw [IntKind.wrap_u64]
      have hx0 : 0 ≤ V / 72057594037927936 := by omega
      have hx1 : V / 72057594037927936 < 256 := by omega
      have ownAQ := hown.alloc (.cells #[.int .u8 (V / 72057594037927936)] 5)
      have BAQ : Below W1.heap.size W1 (wr.alloc (.cells #[.int .u8 (V / 72057594037927936)] 5)) := hb.alloc hb.size _
      have hsAQ := BAQ.size
      have hnsQ : Hid (∀ z ∈ ([(V / 72057594037927936)] : List Int), 0 ≤ z ∧ z < 256) := by show ∀ z ∈ ([(V / 72057594037927936)] : List Int), 0 ≤ z ∧ z < 256; intro z hz; simp only [List.mem_cons, List.not_mem_nil, or_false] at hz; omega
      go_wp2_with (at_builtin; refine wpList_append_new rfl _ _ 77 rfl W1.heap.size 5 i0 (.int .u8 0) Tryz.underlying77 hi hz0 hz1 hz2 rfl _ _ rfl ownAQ ⟨wr.heap.size, 0, none⟩ 1 1 rfl [(V / 72057594037927936)] rfl (new_cells wr 5 [(V / 72057594037927936)]) hnsQ.out (by simp; omega) hsAQ ?_)
      intro vQ wQ ownQ hgQ
      have BQ := ownAQ.below BAQ hsAQ hgQ
      clear ownAQ hgQ BAQ hsAQ hnsQ
      have hac2 := hac.out
      obtain ⟨j, hj⟩ : ∃ j, 8 - k = j + 1 := ⟨8 - k - 1, by omega⟩
      rw [hj] at hac2
      have hj2 : 8 - (k + 1) = j := by omega
      have hac3 : Hid ((acc ++ [UInt8.ofNat (V / 72057594037927936).toNat]) ++ nb (8 - (k + 1)) (V * 256 % 18446744073709551616) = nb 8 U) := by
        show _ = _
        rw [hj2, List.append_assoc]
        exact hac2
      clear hac hac2 hj hj2
      go_wp2_with fail
      go_roundw
      case rel => exact ⟨k + 1, V * 256 % 18446744073709551616, acc ++ [UInt8.ofNat (V / 72057594037927936).toNat], by go_num, by omega, rfl, by omega, by omega, ownQ, by simp; omega, hac3, BQ⟩
      case measure => simp [RowKit.intOf]; omega
    · obtain rfl : k = 8 := by omega
      have hac2 := hac.out
      simp only [Nat.sub_self, nb, List.append_nil] at hac2
      have hcv := run_ownB_string (P := Tryz.prog) (src := 77) (dst := 9) Tryz.underlying77 Tryz.underlying5 Tryz.underlying9 hown
      have HAC := Lib.hid hac2
      clear hac hac2
      go_wp2_with fail
      go_ret2
      exact ⟨by show _ = Ending.returned (.tuple #[.string ⟨(nb 8 U).toArray⟩, .int .i64 0]); rw [nb] ; simp only [nb]; rw [← HAC.out]; first | done | rfl, X1.out.bel.trans (hb.mono X1.out.bel.size)⟩
set_option maxRecDepth 100000 in
set_option maxHeartbeats 4000000 in
theorem rbits_t4f (n : Int) (S : ByteArray) (w : World) (hs : S.size ≤ 100000) (b0 : -9223372036854775808 ≤ n) (b1 : n ≤ 9223372036854775807) (hc : kCheck 4 false false n S.data.toList = 0) :
    Calls Tryz.prog 93 #[.agg #[.int .i64 4, .bool false], .agg #[.bool false, .int .i64 n, .string S]] w fun e w' => e = .returned (.tuple #[.string ⟨(rowD S.data.toList).toArray⟩, .int .i64 0]) ∧ Below w.heap.size w w' := by
  obtain ⟨i0, hi, hz0, hz1, hz2⟩ := info_parts infoU8
  have cc := fun w' => rcheck_any 4 false false n S w' hs b0 b1
  rw [hc] at cc
  have x0 := TBx.start w 4 false false n S
  have hlS : S.data.toList.length = S.size := by simp
  have rn := fun w' => rnumber_any 4 false w'
  rw [show decide ((4 : Int) ≤ 3) = false by decide] at rn
  have CC := Lib.hid cc; have X0 := Lib.hid x0; have RN := Lib.hid rn
  clear cc x0 hc rn
  go_enter Tryz.func93, Tryz.ntmps93
  go_wp2_with fail
  refine (CC.out _).mono ?_
  rintro en W1 ⟨rfl, bb1⟩
  have x1 := X0.out.step bb1
  obtain ⟨d0, d1, a0, a1, a2, f0, f1, f2, l0, l1⟩ := x1.cells
  have X1 := Lib.hid x1
  clear x1 bb1
  have ownP : OwnB W1 W1.heap.size 5 (.slice none 0 0) ([] : Bs) := OwnB.nil _ _ _
  have BP : Below W1.heap.size W1 W1 := Below.refl _ _
  go_wp2_with fail
  refine (RN.out _).mono ?_
  rintro en wA ⟨rfl, bbA⟩
  have ownR := ownP.kept bbA
  have BR := BP.trans (bbA.mono BP.size)
  clear ownP BP bbA
  clear d0 d1 a0 a1 a2 f0 f1 f2 l0 l1
  have xsR := X1.out.step BR
  obtain ⟨d0, d1, a0, a1, a2, f0, f1, f2, l0, l1⟩ := xsR.cells
  clear xsR
  clear d0 d1 a0 a1 a2 f0 f1 f2 l0 l1
  go_wp2_with fail
  go_loopw [7, 10] (fun v i wr => ∃ (k : Nat), i = .int .i64 k ∧ k ≤ S.size ∧ OwnB wr W1.heap.size 5 v (escD (S.data.toList.take k)) ∧ Below W1.heap.size W1 wr) (fun _ i _ => S.size - (RowKit.intOf i).toNat)
  case atStart => exact ⟨0, rfl, by omega, ownR, BR⟩
  case round =>
    obtain ⟨k, rfl, hk, hown, hb⟩ := hrel
    have xr := X1.out.step hb
    obtain ⟨d0, d1, a0, a1, a2, f0, f1, f2, l0, l1⟩ := xr.cells
    clear xr
    have hel := escD_len (S.data.toList.take k)
    rw [List.length_take] at hel
    have hel2 : (escD (S.data.toList.take k)).length ≤ 2 * S.size + 1 := by (try simp only [List.length_cons]); omega
    by_cases hlt : k < S.size
    · have hli : (k : Int) < (S.size : Int) := by omega
      have gi : ((S[k]'hlt).toNat : Int) = (bt S.data.toList k : Int) := by rw [get_of]; rfl
      have hx := bt_lt S.data.toList k
      have hsn := esc_snoc S.data.toList k (by omega)
      have hbe : S.data.toList[k]'(by omega) = UInt8.ofNat (bt S.data.toList k) := by simp [bt, List.getD_eq_getElem?_getD, hlt]
      rw [hbe] at hsn
      generalize bt S.data.toList k = x at *
      have HSN := Lib.hid hsn
      clear hsn hbe hel
      have ownAQ := hown.alloc (.cells #[.int .u8 (x : Int)] 5)
      have BAQ : Below W1.heap.size W1 (wr.alloc (.cells #[.int .u8 (x : Int)] 5)) := hb.alloc hb.size _
      have hsAQ := BAQ.size
      have hnsQ : Hid (∀ z ∈ ([(x : Int)] : List Int), 0 ≤ z ∧ z < 256) := by show ∀ z ∈ ([(x : Int)] : List Int), 0 ≤ z ∧ z < 256; intro z hz; simp only [List.mem_cons, List.not_mem_nil, or_false] at hz; omega
      go_wp2_with (at_builtin; refine wpList_append_new rfl _ _ 77 rfl W1.heap.size 5 i0 (.int .u8 0) Tryz.underlying77 hi hz0 hz1 hz2 rfl _ _ rfl ownAQ ⟨wr.heap.size, 0, none⟩ 1 1 rfl [(x : Int)] rfl (new_cells wr 5 [(x : Int)]) hnsQ.out (by have := hel2; omega) hsAQ ?_)
      intro vQ wQ ownQ hgQ
      have BQ := ownAQ.below BAQ hsAQ hgQ
      clear ownAQ hgQ BAQ hsAQ hnsQ
      clear d0 d1 a0 a1 a2 f0 f1 f2 l0 l1
      have xsQ := X1.out.step BQ
      obtain ⟨d0, d1, a0, a1, a2, f0, f1, f2, l0, l1⟩ := xsQ.cells
      clear xsQ
      by_cases hx0 : x = 0
      · subst hx0
        have ownAV := ownQ.alloc (.cells #[.int .u8 255] 5)
        have BAV : Below W1.heap.size W1 (wQ.alloc (.cells #[.int .u8 255] 5)) := BQ.alloc BQ.size _
        have hsAV := BAV.size
        have hnsV : Hid (∀ z ∈ ([255] : List Int), 0 ≤ z ∧ z < 256) := by show ∀ z ∈ ([255] : List Int), 0 ≤ z ∧ z < 256; intro z hz; simp only [List.mem_cons, List.not_mem_nil, or_false] at hz; omega
        go_wp2_with (at_builtin; refine wpList_append_new rfl _ _ 77 rfl W1.heap.size 5 i0 (.int .u8 0) Tryz.underlying77 hi hz0 hz1 hz2 rfl _ _ rfl ownAV ⟨wQ.heap.size, 0, none⟩ 1 1 rfl [255] rfl (new_cells wQ 5 [255]) hnsV.out (by have := hel2; (try simp only [List.length_append, List.length_map, List.length_cons, List.length_nil] at this ⊢); omega) hsAV ?_)
        intro vV wV ownV hgV
        have BV := ownAV.below BAV hsAV hgV
        clear ownAV hgV BAV hsAV hnsV
        have ownV2 : OwnB wV W1.heap.size 5 vV (escD (S.data.toList.take (k + 1))) := by
          rw [HSN.out]
          have e : escb (UInt8.ofNat 0) = [0, 255] := rfl
          rw [e]
          simpa using ownV
        go_wp2_with fail
        go_roundw
        case rel => exact ⟨k + 1, by go_num, by omega, ownV2, BV⟩
        case measure => simp [RowKit.intOf]; omega
      · have hxi : ((x : Int) == 0) = false := by rw [beq_eq_false_iff_ne]; omega
        have ownQ2 : OwnB wQ W1.heap.size 5 vQ (escD (S.data.toList.take (k + 1))) := by
          rw [HSN.out]
          have e : escb (UInt8.ofNat x) = [UInt8.ofNat x] := by
            unfold escb; rw [if_neg]
            intro e
            have := congrArg UInt8.toNat e
            simp at this
            omega
          rw [e]
          simpa using ownQ
        go_wp2_with fail
        go_roundw
        case rel => exact ⟨k + 1, by go_num, by omega, ownQ2, BQ⟩
        case measure => simp [RowKit.intOf]; omega
    · have hli : ¬ (k : Int) < (S.size : Int) := by omega
      rw [List.take_of_length_le (by omega)] at hown hel2
      have ownAQ := hown.alloc (.cells #[.int .u8 0, .int .u8 0] 5)
      have BAQ : Below W1.heap.size W1 (wr.alloc (.cells #[.int .u8 0, .int .u8 0] 5)) := hb.alloc hb.size _
      have hsAQ := BAQ.size
      have hnsQ : Hid (∀ z ∈ ([0, 0] : List Int), 0 ≤ z ∧ z < 256) := by show ∀ z ∈ ([0, 0] : List Int), 0 ≤ z ∧ z < 256; intro z hz; simp only [List.mem_cons, List.not_mem_nil, or_false] at hz; omega
      go_wp2_with (at_builtin; refine wpList_append_new rfl _ _ 77 rfl W1.heap.size 5 i0 (.int .u8 0) Tryz.underlying77 hi hz0 hz1 hz2 rfl _ _ rfl ownAQ ⟨wr.heap.size, 0, none⟩ 2 2 rfl [0, 0] rfl (new_cells wr 5 [0, 0]) hnsQ.out (by have := hel2; (try simp only [List.length_cons, List.length_nil] at this ⊢); omega) hsAQ ?_)
      intro vQ wQ ownQ hgQ
      have BQ := ownAQ.below BAQ hsAQ hgQ
      clear ownAQ hgQ BAQ hsAQ hnsQ
      have ownQ2 : OwnB wQ W1.heap.size 5 vQ (rowD S.data.toList) := by
        unfold rowD
        simpa using ownQ
      have hcv := run_ownB_string (P := Tryz.prog) (src := 77) (dst := 9) Tryz.underlying77 Tryz.underlying5 Tryz.underlying9 ownQ2
      go_wp2_with fail
      go_ret2
      exact ⟨rfl, X1.out.bel.trans (BQ.mono X1.out.bel.size)⟩
set_option maxRecDepth 100000 in
set_option maxHeartbeats 4000000 in
theorem rbits_t5f (n : Int) (S : ByteArray) (w : World) (hs : S.size ≤ 100000) (b0 : -9223372036854775808 ≤ n) (b1 : n ≤ 9223372036854775807) (hc : kCheck 5 false false n S.data.toList = 0) :
    Calls Tryz.prog 93 #[.agg #[.int .i64 5, .bool false], .agg #[.bool false, .int .i64 n, .string S]] w fun e w' => e = .returned (.tuple #[.string ⟨(rowD S.data.toList).toArray⟩, .int .i64 0]) ∧ Below w.heap.size w w' := by
  obtain ⟨i0, hi, hz0, hz1, hz2⟩ := info_parts infoU8
  have cc := fun w' => rcheck_any 5 false false n S w' hs b0 b1
  rw [hc] at cc
  have x0 := TBx.start w 5 false false n S
  have hlS : S.data.toList.length = S.size := by simp
  have rn := fun w' => rnumber_any 5 false w'
  rw [show decide ((5 : Int) ≤ 3) = false by decide] at rn
  have CC := Lib.hid cc; have X0 := Lib.hid x0; have RN := Lib.hid rn
  clear cc x0 hc rn
  go_enter Tryz.func93, Tryz.ntmps93
  go_wp2_with fail
  refine (CC.out _).mono ?_
  rintro en W1 ⟨rfl, bb1⟩
  have x1 := X0.out.step bb1
  obtain ⟨d0, d1, a0, a1, a2, f0, f1, f2, l0, l1⟩ := x1.cells
  have X1 := Lib.hid x1
  clear x1 bb1
  have ownP : OwnB W1 W1.heap.size 5 (.slice none 0 0) ([] : Bs) := OwnB.nil _ _ _
  have BP : Below W1.heap.size W1 W1 := Below.refl _ _
  go_wp2_with fail
  refine (RN.out _).mono ?_
  rintro en wA ⟨rfl, bbA⟩
  have ownR := ownP.kept bbA
  have BR := BP.trans (bbA.mono BP.size)
  clear ownP BP bbA
  clear d0 d1 a0 a1 a2 f0 f1 f2 l0 l1
  have xsR := X1.out.step BR
  obtain ⟨d0, d1, a0, a1, a2, f0, f1, f2, l0, l1⟩ := xsR.cells
  clear xsR
  clear d0 d1 a0 a1 a2 f0 f1 f2 l0 l1
  go_wp2_with fail
  go_loopw [7, 10] (fun v i wr => ∃ (k : Nat), i = .int .i64 k ∧ k ≤ S.size ∧ OwnB wr W1.heap.size 5 v (escD (S.data.toList.take k)) ∧ Below W1.heap.size W1 wr) (fun _ i _ => S.size - (RowKit.intOf i).toNat)
  case atStart => exact ⟨0, rfl, by omega, ownR, BR⟩
  case round =>
    obtain ⟨k, rfl, hk, hown, hb⟩ := hrel
    have xr := X1.out.step hb
    obtain ⟨d0, d1, a0, a1, a2, f0, f1, f2, l0, l1⟩ := xr.cells
    clear xr
    have hel := escD_len (S.data.toList.take k)
    rw [List.length_take] at hel
    have hel2 : (escD (S.data.toList.take k)).length ≤ 2 * S.size + 1 := by (try simp only [List.length_cons]); omega
    by_cases hlt : k < S.size
    · have hli : (k : Int) < (S.size : Int) := by omega
      have gi : ((S[k]'hlt).toNat : Int) = (bt S.data.toList k : Int) := by rw [get_of]; rfl
      have hx := bt_lt S.data.toList k
      have hsn := esc_snoc S.data.toList k (by omega)
      have hbe : S.data.toList[k]'(by omega) = UInt8.ofNat (bt S.data.toList k) := by simp [bt, List.getD_eq_getElem?_getD, hlt]
      rw [hbe] at hsn
      generalize bt S.data.toList k = x at *
      have HSN := Lib.hid hsn
      clear hsn hbe hel
      have ownAQ := hown.alloc (.cells #[.int .u8 (x : Int)] 5)
      have BAQ : Below W1.heap.size W1 (wr.alloc (.cells #[.int .u8 (x : Int)] 5)) := hb.alloc hb.size _
      have hsAQ := BAQ.size
      have hnsQ : Hid (∀ z ∈ ([(x : Int)] : List Int), 0 ≤ z ∧ z < 256) := by show ∀ z ∈ ([(x : Int)] : List Int), 0 ≤ z ∧ z < 256; intro z hz; simp only [List.mem_cons, List.not_mem_nil, or_false] at hz; omega
      go_wp2_with (at_builtin; refine wpList_append_new rfl _ _ 77 rfl W1.heap.size 5 i0 (.int .u8 0) Tryz.underlying77 hi hz0 hz1 hz2 rfl _ _ rfl ownAQ ⟨wr.heap.size, 0, none⟩ 1 1 rfl [(x : Int)] rfl (new_cells wr 5 [(x : Int)]) hnsQ.out (by have := hel2; omega) hsAQ ?_)
      intro vQ wQ ownQ hgQ
      have BQ := ownAQ.below BAQ hsAQ hgQ
      clear ownAQ hgQ BAQ hsAQ hnsQ
      clear d0 d1 a0 a1 a2 f0 f1 f2 l0 l1
      have xsQ := X1.out.step BQ
      obtain ⟨d0, d1, a0, a1, a2, f0, f1, f2, l0, l1⟩ := xsQ.cells
      clear xsQ
      by_cases hx0 : x = 0
      · subst hx0
        have ownAV := ownQ.alloc (.cells #[.int .u8 255] 5)
        have BAV : Below W1.heap.size W1 (wQ.alloc (.cells #[.int .u8 255] 5)) := BQ.alloc BQ.size _
        have hsAV := BAV.size
        have hnsV : Hid (∀ z ∈ ([255] : List Int), 0 ≤ z ∧ z < 256) := by show ∀ z ∈ ([255] : List Int), 0 ≤ z ∧ z < 256; intro z hz; simp only [List.mem_cons, List.not_mem_nil, or_false] at hz; omega
        go_wp2_with (at_builtin; refine wpList_append_new rfl _ _ 77 rfl W1.heap.size 5 i0 (.int .u8 0) Tryz.underlying77 hi hz0 hz1 hz2 rfl _ _ rfl ownAV ⟨wQ.heap.size, 0, none⟩ 1 1 rfl [255] rfl (new_cells wQ 5 [255]) hnsV.out (by have := hel2; (try simp only [List.length_append, List.length_map, List.length_cons, List.length_nil] at this ⊢); omega) hsAV ?_)
        intro vV wV ownV hgV
        have BV := ownAV.below BAV hsAV hgV
        clear ownAV hgV BAV hsAV hnsV
        have ownV2 : OwnB wV W1.heap.size 5 vV (escD (S.data.toList.take (k + 1))) := by
          rw [HSN.out]
          have e : escb (UInt8.ofNat 0) = [0, 255] := rfl
          rw [e]
          simpa using ownV
        go_wp2_with fail
        go_roundw
        case rel => exact ⟨k + 1, by go_num, by omega, ownV2, BV⟩
        case measure => simp [RowKit.intOf]; omega
      · have hxi : ((x : Int) == 0) = false := by rw [beq_eq_false_iff_ne]; omega
        have ownQ2 : OwnB wQ W1.heap.size 5 vQ (escD (S.data.toList.take (k + 1))) := by
          rw [HSN.out]
          have e : escb (UInt8.ofNat x) = [UInt8.ofNat x] := by
            unfold escb; rw [if_neg]
            intro e
            have := congrArg UInt8.toNat e
            simp at this
            omega
          rw [e]
          simpa using ownQ
        go_wp2_with fail
        go_roundw
        case rel => exact ⟨k + 1, by go_num, by omega, ownQ2, BQ⟩
        case measure => simp [RowKit.intOf]; omega
    · have hli : ¬ (k : Int) < (S.size : Int) := by omega
      rw [List.take_of_length_le (by omega)] at hown hel2
      have ownAQ := hown.alloc (.cells #[.int .u8 0, .int .u8 0] 5)
      have BAQ : Below W1.heap.size W1 (wr.alloc (.cells #[.int .u8 0, .int .u8 0] 5)) := hb.alloc hb.size _
      have hsAQ := BAQ.size
      have hnsQ : Hid (∀ z ∈ ([0, 0] : List Int), 0 ≤ z ∧ z < 256) := by show ∀ z ∈ ([0, 0] : List Int), 0 ≤ z ∧ z < 256; intro z hz; simp only [List.mem_cons, List.not_mem_nil, or_false] at hz; omega
      go_wp2_with (at_builtin; refine wpList_append_new rfl _ _ 77 rfl W1.heap.size 5 i0 (.int .u8 0) Tryz.underlying77 hi hz0 hz1 hz2 rfl _ _ rfl ownAQ ⟨wr.heap.size, 0, none⟩ 2 2 rfl [0, 0] rfl (new_cells wr 5 [0, 0]) hnsQ.out (by have := hel2; (try simp only [List.length_cons, List.length_nil] at this ⊢); omega) hsAQ ?_)
      intro vQ wQ ownQ hgQ
      have BQ := ownAQ.below BAQ hsAQ hgQ
      clear ownAQ hgQ BAQ hsAQ hnsQ
      have ownQ2 : OwnB wQ W1.heap.size 5 vQ (rowD S.data.toList) := by
        unfold rowD
        simpa using ownQ
      have hcv := run_ownB_string (P := Tryz.prog) (src := 77) (dst := 9) Tryz.underlying77 Tryz.underlying5 Tryz.underlying9 ownQ2
      go_wp2_with fail
      go_ret2
      exact ⟨rfl, X1.out.bel.trans (BQ.mono X1.out.bel.size)⟩
set_option maxRecDepth 100000 in
set_option maxHeartbeats 4000000 in
theorem rbits_bt (n : Int) (S : ByteArray) (w : World) (hs : S.size ≤ 100000) (b0 : -9223372036854775808 ≤ n) (b1 : n ≤ 9223372036854775807) (hc : kCheck 1 true false n S.data.toList = 0) :
    Calls Tryz.prog 93 #[.agg #[.int .i64 1, .bool true], .agg #[.bool false, .int .i64 n, .string S]] w fun e w' => e = .returned (.tuple #[.string ⟨(1 :: [UInt8.ofNat n.toNat]).toArray⟩, .int .i64 0]) ∧ Below w.heap.size w w' := by
  obtain ⟨i0, hi, hz0, hz1, hz2⟩ := info_parts infoU8
  have cc := fun w' => rcheck_any 1 true false n S w' hs b0 b1
  rw [hc] at cc
  have x0 := TBx.start w 1 true false n S
  have hlS : S.data.toList.length = S.size := by simp
  obtain ⟨_, h0, h1⟩ := is1.1 (ok_some (check_zero hc).2)
  have u1 : IntKind.u8.wrap n = n := IntWalk.u8_in _ (by omega)
  have CC := Lib.hid cc; have X0 := Lib.hid x0
  clear cc x0 hc
  go_enter Tryz.func93, Tryz.ntmps93
  go_wp2_with fail
  refine (CC.out _).mono ?_
  rintro en W1 ⟨rfl, bb1⟩
  have x1 := X0.out.step bb1
  obtain ⟨d0, d1, a0, a1, a2, f0, f1, f2, l0, l1⟩ := x1.cells
  have X1 := Lib.hid x1
  clear x1 bb1
  have ownN : OwnB W1 W1.heap.size 5 (.slice none 0 0) ([] : Bs) := OwnB.nil _ _ _
  have BN : Below W1.heap.size W1 W1 := Below.refl _ _
  have ownAP := ownN.alloc (.cells #[.int .u8 1] 5)
  have BAP : Below W1.heap.size W1 (W1.alloc (.cells #[.int .u8 1] 5)) := BN.alloc BN.size _
  have hsAP := BAP.size
  have hnsP : Hid (∀ z ∈ ([1] : List Int), 0 ≤ z ∧ z < 256) := by show ∀ z ∈ ([1] : List Int), 0 ≤ z ∧ z < 256; intro z hz; simp only [List.mem_cons, List.not_mem_nil, or_false] at hz; omega
  go_wp2_with (at_builtin; refine wpList_append_new rfl _ _ 77 rfl W1.heap.size 5 i0 (.int .u8 0) Tryz.underlying77 hi hz0 hz1 hz2 rfl _ _ rfl ownAP ⟨W1.heap.size, 0, none⟩ 1 1 rfl [1] rfl (new_cells W1 5 [1]) hnsP.out (by decide) hsAP ?_)
  intro vP wP ownP hgP
  have BP := ownAP.below BAP hsAP hgP
  clear ownAP hgP BAP hsAP hnsP
  clear d0 d1 a0 a1 a2 f0 f1 f2 l0 l1
  have xsP := X1.out.step BP
  obtain ⟨d0, d1, a0, a1, a2, f0, f1, f2, l0, l1⟩ := xsP.cells
  clear xsP
  have ownAQ := ownP.alloc (.cells #[.int .u8 n] 5)
  have BAQ : Below W1.heap.size W1 (wP.alloc (.cells #[.int .u8 n] 5)) := BP.alloc BP.size _
  have hsAQ := BAQ.size
  have hnsQ : Hid (∀ z ∈ ([n] : List Int), 0 ≤ z ∧ z < 256) := by show ∀ z ∈ ([n] : List Int), 0 ≤ z ∧ z < 256; intro z hz; simp only [List.mem_cons, List.not_mem_nil, or_false] at hz; omega
  go_wp2_with (at_builtin; refine wpList_append_new rfl _ _ 77 rfl W1.heap.size 5 i0 (.int .u8 0) Tryz.underlying77 hi hz0 hz1 hz2 rfl _ _ rfl ownAQ ⟨wP.heap.size, 0, none⟩ 1 1 rfl [n] rfl (new_cells wP 5 [n]) hnsQ.out (by simp) hsAQ ?_)
  intro vQ wQ ownQ hgQ
  have BQ := ownAQ.below BAQ hsAQ hgQ
  clear ownAQ hgQ BAQ hsAQ hnsQ
  have hcv := run_ownB_string (P := Tryz.prog) (src := 77) (dst := 9) Tryz.underlying77 Tryz.underlying5 Tryz.underlying9 ownQ
  go_wp2_with fail
  go_ret2
  exact ⟨rfl, X1.out.bel.trans (BQ.mono X1.out.bel.size)⟩
set_option maxRecDepth 100000 in
set_option maxHeartbeats 4000000 in
theorem rbits_n2t (n : Int) (S : ByteArray) (w : World) (hs : S.size ≤ 100000) (b0 : -9223372036854775808 ≤ n) (b1 : n ≤ 9223372036854775807) (hc : kCheck 2 true false n S.data.toList = 0) :
    Calls Tryz.prog 93 #[.agg #[.int .i64 2, .bool true], .agg #[.bool false, .int .i64 n, .string S]] w fun e w' => e = .returned (.tuple #[.string ⟨(1 :: kNum (n + 9223372036854775808)).toArray⟩, .int .i64 0]) ∧ Below w.heap.size w w' := by
  obtain ⟨i0, hi, hz0, hz1, hz2⟩ := info_parts infoU8
  have cc := fun w' => rcheck_any 2 true false n S w' hs b0 b1
  rw [hc] at cc
  have x0 := TBx.start w 2 true false n S
  have hlS : S.data.toList.length = S.size := by simp
  have rn := fun w' => rnumber_any 2 true w'
  rw [show decide ((2 : Int) ≤ 3) = true by decide] at rn
  have hu : IntKind.u64.wrap (IntKind.u64.wrap n + 9223372036854775808) = n + 9223372036854775808 := by
    rw [IntKind.wrap_u64, IntKind.wrap_u64]; omega
  have hnb := nb8 (U := n + 9223372036854775808) (by omega) (by omega)
  rw [← hnb]
  have hU0 : 0 ≤ n + 9223372036854775808 := by omega
  have hU1 : n + 9223372036854775808 < 18446744073709551616 := by omega
  obtain ⟨U, hU⟩ : ∃ U, n + 9223372036854775808 = U := ⟨_, rfl⟩
  rw [hU] at hu hU0 hU1 ⊢
  have CC := Lib.hid cc; have X0 := Lib.hid x0; have RN := Lib.hid rn
  clear cc x0 hc rn hnb hU
  go_enter Tryz.func93, Tryz.ntmps93
  go_wp2_with fail
  refine (CC.out _).mono ?_
  rintro en W1 ⟨rfl, bb1⟩
  have x1 := X0.out.step bb1
  obtain ⟨d0, d1, a0, a1, a2, f0, f1, f2, l0, l1⟩ := x1.cells
  have X1 := Lib.hid x1
  clear x1 bb1
  have ownN : OwnB W1 W1.heap.size 5 (.slice none 0 0) ([] : Bs) := OwnB.nil _ _ _
  have BN : Below W1.heap.size W1 W1 := Below.refl _ _
  have ownAP := ownN.alloc (.cells #[.int .u8 1] 5)
  have BAP : Below W1.heap.size W1 (W1.alloc (.cells #[.int .u8 1] 5)) := BN.alloc BN.size _
  have hsAP := BAP.size
  have hnsP : Hid (∀ z ∈ ([1] : List Int), 0 ≤ z ∧ z < 256) := by show ∀ z ∈ ([1] : List Int), 0 ≤ z ∧ z < 256; intro z hz; simp only [List.mem_cons, List.not_mem_nil, or_false] at hz; omega
  go_wp2_with (at_builtin; refine wpList_append_new rfl _ _ 77 rfl W1.heap.size 5 i0 (.int .u8 0) Tryz.underlying77 hi hz0 hz1 hz2 rfl _ _ rfl ownAP ⟨W1.heap.size, 0, none⟩ 1 1 rfl [1] rfl (new_cells W1 5 [1]) hnsP.out (by decide) hsAP ?_)
  intro vP wP ownP hgP
  have BP := ownAP.below BAP hsAP hgP
  clear ownAP hgP BAP hsAP hnsP
  clear d0 d1 a0 a1 a2 f0 f1 f2 l0 l1
  have xsP := X1.out.step BP
  obtain ⟨d0, d1, a0, a1, a2, f0, f1, f2, l0, l1⟩ := xsP.cells
  clear xsP
  go_wp2_with fail
  refine (RN.out _).mono ?_
  rintro en wA ⟨rfl, bbA⟩
  have ownR := ownP.kept bbA
  have BR := BP.trans (bbA.mono BP.size)
  clear ownP BP bbA
  clear d0 d1 a0 a1 a2 f0 f1 f2 l0 l1
  have xsR := X1.out.step BR
  obtain ⟨d0, d1, a0, a1, a2, f0, f1, f2, l0, l1⟩ := xsR.cells
  clear xsR
  go_wp2_with fail
  go_loopw [7, 8, 9] (fun v u i wr => ∃ (k : Nat) (V : Int) (acc : Bs), i = .int .i64 k ∧ k ≤ 8 ∧ u = .int .u64 V ∧ 0 ≤ V ∧ V < 18446744073709551616 ∧ OwnB wr W1.heap.size 5 v acc ∧ acc.length ≤ 1 + k ∧ Hid (acc ++ nb (8 - k) V = 1 :: nb 8 U) ∧ Below W1.heap.size W1 wr) (fun _ _ i _ => 8 - (RowKit.intOf i).toNat)
  case atStart => exact ⟨0, U, [1], rfl, by omega, rfl, hU0, hU1, ownR, by simp, by show _ = _; rfl, BR⟩
  case round =>
    obtain ⟨k, V, acc, rfl, hk, rfl, hV0, hV1, hown, hal, hac, hb⟩ := hrel
    by_cases hlt : k < 8
    · have hli : (k : Int) < 8 := by omega
      have t1 : V.tdiv 72057594037927936 = V / 72057594037927936 := Int.tdiv_eq_ediv_of_nonneg hV0
      have v1 : IntKind.u8.wrap (V / 72057594037927936) = V / 72057594037927936 := IntWalk.u8_in _ (by omega)
      have v2 : IntKind.u64.wrap (V * 256) = V * 256 % 18446744073709551616 := by rw [IntKind.wrap_u64]
      have hx0 : 0 ≤ V / 72057594037927936 := by omega
      have hx1 : V / 72057594037927936 < 256 := by omega
      have ownAQ := hown.alloc (.cells #[.int .u8 (V / 72057594037927936)] 5)
      have BAQ : Below W1.heap.size W1 (wr.alloc (.cells #[.int .u8 (V / 72057594037927936)] 5)) := hb.alloc hb.size _
      have hsAQ := BAQ.size
      have hnsQ : Hid (∀ z ∈ ([(V / 72057594037927936)] : List Int), 0 ≤ z ∧ z < 256) := by show ∀ z ∈ ([(V / 72057594037927936)] : List Int), 0 ≤ z ∧ z < 256; intro z hz; simp only [List.mem_cons, List.not_mem_nil, or_false] at hz; omega
      go_wp2_with (at_builtin; refine wpList_append_new rfl _ _ 77 rfl W1.heap.size 5 i0 (.int .u8 0) Tryz.underlying77 hi hz0 hz1 hz2 rfl _ _ rfl ownAQ ⟨wr.heap.size, 0, none⟩ 1 1 rfl [(V / 72057594037927936)] rfl (new_cells wr 5 [(V / 72057594037927936)]) hnsQ.out (by simp; omega) hsAQ ?_)
      intro vQ wQ ownQ hgQ
      have BQ := ownAQ.below BAQ hsAQ hgQ
      clear ownAQ hgQ BAQ hsAQ hnsQ
      have hac2 := hac.out
      obtain ⟨j, hj⟩ : ∃ j, 8 - k = j + 1 := ⟨8 - k - 1, by omega⟩
      rw [hj] at hac2
      have hj2 : 8 - (k + 1) = j := by omega
      have hac3 : Hid ((acc ++ [UInt8.ofNat (V / 72057594037927936).toNat]) ++ nb (8 - (k + 1)) (V * 256 % 18446744073709551616) = 1 :: nb 8 U) := by
        show _ = _
        rw [hj2, List.append_assoc]
        exact hac2
      clear hac hac2 hj hj2
      go_wp2_with fail
      go_roundw
      case rel => exact ⟨k + 1, V * 256 % 18446744073709551616, acc ++ [UInt8.ofNat (V / 72057594037927936).toNat], by go_num, by omega, rfl, by omega, by omega, ownQ, by simp; omega, hac3, BQ⟩
      case measure => simp [RowKit.intOf]; omega
    · obtain rfl : k = 8 := by omega
      have hac2 := hac.out
      simp only [Nat.sub_self, nb, List.append_nil] at hac2
      have hcv := run_ownB_string (P := Tryz.prog) (src := 77) (dst := 9) Tryz.underlying77 Tryz.underlying5 Tryz.underlying9 hown
      have HAC := Lib.hid hac2
      clear hac hac2
      go_wp2_with fail
      go_ret2
      exact ⟨by show _ = Ending.returned (.tuple #[.string ⟨(1 :: nb 8 U).toArray⟩, .int .i64 0]); rw [nb] ; simp only [nb]; rw [← HAC.out]; first | done | rfl, X1.out.bel.trans (hb.mono X1.out.bel.size)⟩
set_option maxRecDepth 100000 in
set_option maxHeartbeats 4000000 in
theorem rbits_n3t (n : Int) (S : ByteArray) (w : World) (hs : S.size ≤ 100000) (b0 : -9223372036854775808 ≤ n) (b1 : n ≤ 9223372036854775807) (hc : kCheck 3 true false n S.data.toList = 0) :
    Calls Tryz.prog 93 #[.agg #[.int .i64 3, .bool true], .agg #[.bool false, .int .i64 n, .string S]] w fun e w' => e = .returned (.tuple #[.string ⟨(1 :: kNum (n + 9223372036854775808)).toArray⟩, .int .i64 0]) ∧ Below w.heap.size w w' := by
  obtain ⟨i0, hi, hz0, hz1, hz2⟩ := info_parts infoU8
  have cc := fun w' => rcheck_any 3 true false n S w' hs b0 b1
  rw [hc] at cc
  have x0 := TBx.start w 3 true false n S
  have hlS : S.data.toList.length = S.size := by simp
  have rn := fun w' => rnumber_any 3 true w'
  rw [show decide ((3 : Int) ≤ 3) = true by decide] at rn
  have hu : IntKind.u64.wrap (IntKind.u64.wrap n + 9223372036854775808) = n + 9223372036854775808 := by
    rw [IntKind.wrap_u64, IntKind.wrap_u64]; omega
  have hnb := nb8 (U := n + 9223372036854775808) (by omega) (by omega)
  rw [← hnb]
  have hU0 : 0 ≤ n + 9223372036854775808 := by omega
  have hU1 : n + 9223372036854775808 < 18446744073709551616 := by omega
  obtain ⟨U, hU⟩ : ∃ U, n + 9223372036854775808 = U := ⟨_, rfl⟩
  rw [hU] at hu hU0 hU1 ⊢
  have CC := Lib.hid cc; have X0 := Lib.hid x0; have RN := Lib.hid rn
  clear cc x0 hc rn hnb hU
  go_enter Tryz.func93, Tryz.ntmps93
  go_wp2_with fail
  refine (CC.out _).mono ?_
  rintro en W1 ⟨rfl, bb1⟩
  have x1 := X0.out.step bb1
  obtain ⟨d0, d1, a0, a1, a2, f0, f1, f2, l0, l1⟩ := x1.cells
  have X1 := Lib.hid x1
  clear x1 bb1
  have ownN : OwnB W1 W1.heap.size 5 (.slice none 0 0) ([] : Bs) := OwnB.nil _ _ _
  have BN : Below W1.heap.size W1 W1 := Below.refl _ _
  have ownAP := ownN.alloc (.cells #[.int .u8 1] 5)
  have BAP : Below W1.heap.size W1 (W1.alloc (.cells #[.int .u8 1] 5)) := BN.alloc BN.size _
  have hsAP := BAP.size
  have hnsP : Hid (∀ z ∈ ([1] : List Int), 0 ≤ z ∧ z < 256) := by show ∀ z ∈ ([1] : List Int), 0 ≤ z ∧ z < 256; intro z hz; simp only [List.mem_cons, List.not_mem_nil, or_false] at hz; omega
  go_wp2_with (at_builtin; refine wpList_append_new rfl _ _ 77 rfl W1.heap.size 5 i0 (.int .u8 0) Tryz.underlying77 hi hz0 hz1 hz2 rfl _ _ rfl ownAP ⟨W1.heap.size, 0, none⟩ 1 1 rfl [1] rfl (new_cells W1 5 [1]) hnsP.out (by decide) hsAP ?_)
  intro vP wP ownP hgP
  have BP := ownAP.below BAP hsAP hgP
  clear ownAP hgP BAP hsAP hnsP
  clear d0 d1 a0 a1 a2 f0 f1 f2 l0 l1
  have xsP := X1.out.step BP
  obtain ⟨d0, d1, a0, a1, a2, f0, f1, f2, l0, l1⟩ := xsP.cells
  clear xsP
  go_wp2_with fail
  refine (RN.out _).mono ?_
  rintro en wA ⟨rfl, bbA⟩
  have ownR := ownP.kept bbA
  have BR := BP.trans (bbA.mono BP.size)
  clear ownP BP bbA
  clear d0 d1 a0 a1 a2 f0 f1 f2 l0 l1
  have xsR := X1.out.step BR
  obtain ⟨d0, d1, a0, a1, a2, f0, f1, f2, l0, l1⟩ := xsR.cells
  clear xsR
  go_wp2_with fail
  go_loopw [7, 8, 9] (fun v u i wr => ∃ (k : Nat) (V : Int) (acc : Bs), i = .int .i64 k ∧ k ≤ 8 ∧ u = .int .u64 V ∧ 0 ≤ V ∧ V < 18446744073709551616 ∧ OwnB wr W1.heap.size 5 v acc ∧ acc.length ≤ 1 + k ∧ Hid (acc ++ nb (8 - k) V = 1 :: nb 8 U) ∧ Below W1.heap.size W1 wr) (fun _ _ i _ => 8 - (RowKit.intOf i).toNat)
  case atStart => exact ⟨0, U, [1], rfl, by omega, rfl, hU0, hU1, ownR, by simp, by show _ = _; rfl, BR⟩
  case round =>
    obtain ⟨k, V, acc, rfl, hk, rfl, hV0, hV1, hown, hal, hac, hb⟩ := hrel
    by_cases hlt : k < 8
    · have hli : (k : Int) < 8 := by omega
      have t1 : V.tdiv 72057594037927936 = V / 72057594037927936 := Int.tdiv_eq_ediv_of_nonneg hV0
      have v1 : IntKind.u8.wrap (V / 72057594037927936) = V / 72057594037927936 := IntWalk.u8_in _ (by omega)
      have v2 : IntKind.u64.wrap (V * 256) = V * 256 % 18446744073709551616 := by rw [IntKind.wrap_u64]
      have hx0 : 0 ≤ V / 72057594037927936 := by omega
      have hx1 : V / 72057594037927936 < 256 := by omega
      have ownAQ := hown.alloc (.cells #[.int .u8 (V / 72057594037927936)] 5)
      have BAQ : Below W1.heap.size W1 (wr.alloc (.cells #[.int .u8 (V / 72057594037927936)] 5)) := hb.alloc hb.size _
      have hsAQ := BAQ.size
      have hnsQ : Hid (∀ z ∈ ([(V / 72057594037927936)] : List Int), 0 ≤ z ∧ z < 256) := by show ∀ z ∈ ([(V / 72057594037927936)] : List Int), 0 ≤ z ∧ z < 256; intro z hz; simp only [List.mem_cons, List.not_mem_nil, or_false] at hz; omega
      go_wp2_with (at_builtin; refine wpList_append_new rfl _ _ 77 rfl W1.heap.size 5 i0 (.int .u8 0) Tryz.underlying77 hi hz0 hz1 hz2 rfl _ _ rfl ownAQ ⟨wr.heap.size, 0, none⟩ 1 1 rfl [(V / 72057594037927936)] rfl (new_cells wr 5 [(V / 72057594037927936)]) hnsQ.out (by simp; omega) hsAQ ?_)
      intro vQ wQ ownQ hgQ
      have BQ := ownAQ.below BAQ hsAQ hgQ
      clear ownAQ hgQ BAQ hsAQ hnsQ
      have hac2 := hac.out
      obtain ⟨j, hj⟩ : ∃ j, 8 - k = j + 1 := ⟨8 - k - 1, by omega⟩
      rw [hj] at hac2
      have hj2 : 8 - (k + 1) = j := by omega
      have hac3 : Hid ((acc ++ [UInt8.ofNat (V / 72057594037927936).toNat]) ++ nb (8 - (k + 1)) (V * 256 % 18446744073709551616) = 1 :: nb 8 U) := by
        show _ = _
        rw [hj2, List.append_assoc]
        exact hac2
      clear hac hac2 hj hj2
      go_wp2_with fail
      go_roundw
      case rel => exact ⟨k + 1, V * 256 % 18446744073709551616, acc ++ [UInt8.ofNat (V / 72057594037927936).toNat], by go_num, by omega, rfl, by omega, by omega, ownQ, by simp; omega, hac3, BQ⟩
      case measure => simp [RowKit.intOf]; omega
    · obtain rfl : k = 8 := by omega
      have hac2 := hac.out
      simp only [Nat.sub_self, nb, List.append_nil] at hac2
      have hcv := run_ownB_string (P := Tryz.prog) (src := 77) (dst := 9) Tryz.underlying77 Tryz.underlying5 Tryz.underlying9 hown
      have HAC := Lib.hid hac2
      clear hac hac2
      go_wp2_with fail
      go_ret2
      exact ⟨by show _ = Ending.returned (.tuple #[.string ⟨(1 :: nb 8 U).toArray⟩, .int .i64 0]); rw [nb] ; simp only [nb]; rw [← HAC.out]; first | done | rfl, X1.out.bel.trans (hb.mono X1.out.bel.size)⟩
set_option maxRecDepth 100000 in
set_option maxHeartbeats 4000000 in
theorem rbits_t4t (n : Int) (S : ByteArray) (w : World) (hs : S.size ≤ 100000) (b0 : -9223372036854775808 ≤ n) (b1 : n ≤ 9223372036854775807) (hc : kCheck 4 true false n S.data.toList = 0) :
    Calls Tryz.prog 93 #[.agg #[.int .i64 4, .bool true], .agg #[.bool false, .int .i64 n, .string S]] w fun e w' => e = .returned (.tuple #[.string ⟨(1 :: rowD S.data.toList).toArray⟩, .int .i64 0]) ∧ Below w.heap.size w w' := by
  obtain ⟨i0, hi, hz0, hz1, hz2⟩ := info_parts infoU8
  have cc := fun w' => rcheck_any 4 true false n S w' hs b0 b1
  rw [hc] at cc
  have x0 := TBx.start w 4 true false n S
  have hlS : S.data.toList.length = S.size := by simp
  have rn := fun w' => rnumber_any 4 true w'
  rw [show decide ((4 : Int) ≤ 3) = false by decide] at rn
  have CC := Lib.hid cc; have X0 := Lib.hid x0; have RN := Lib.hid rn
  clear cc x0 hc rn
  go_enter Tryz.func93, Tryz.ntmps93
  go_wp2_with fail
  refine (CC.out _).mono ?_
  rintro en W1 ⟨rfl, bb1⟩
  have x1 := X0.out.step bb1
  obtain ⟨d0, d1, a0, a1, a2, f0, f1, f2, l0, l1⟩ := x1.cells
  have X1 := Lib.hid x1
  clear x1 bb1
  have ownN : OwnB W1 W1.heap.size 5 (.slice none 0 0) ([] : Bs) := OwnB.nil _ _ _
  have BN : Below W1.heap.size W1 W1 := Below.refl _ _
  have ownAP := ownN.alloc (.cells #[.int .u8 1] 5)
  have BAP : Below W1.heap.size W1 (W1.alloc (.cells #[.int .u8 1] 5)) := BN.alloc BN.size _
  have hsAP := BAP.size
  have hnsP : Hid (∀ z ∈ ([1] : List Int), 0 ≤ z ∧ z < 256) := by show ∀ z ∈ ([1] : List Int), 0 ≤ z ∧ z < 256; intro z hz; simp only [List.mem_cons, List.not_mem_nil, or_false] at hz; omega
  go_wp2_with (at_builtin; refine wpList_append_new rfl _ _ 77 rfl W1.heap.size 5 i0 (.int .u8 0) Tryz.underlying77 hi hz0 hz1 hz2 rfl _ _ rfl ownAP ⟨W1.heap.size, 0, none⟩ 1 1 rfl [1] rfl (new_cells W1 5 [1]) hnsP.out (by decide) hsAP ?_)
  intro vP wP ownP hgP
  have BP := ownAP.below BAP hsAP hgP
  clear ownAP hgP BAP hsAP hnsP
  clear d0 d1 a0 a1 a2 f0 f1 f2 l0 l1
  have xsP := X1.out.step BP
  obtain ⟨d0, d1, a0, a1, a2, f0, f1, f2, l0, l1⟩ := xsP.cells
  clear xsP
  go_wp2_with fail
  refine (RN.out _).mono ?_
  rintro en wA ⟨rfl, bbA⟩
  have ownR := ownP.kept bbA
  have BR := BP.trans (bbA.mono BP.size)
  clear ownP BP bbA
  clear d0 d1 a0 a1 a2 f0 f1 f2 l0 l1
  have xsR := X1.out.step BR
  obtain ⟨d0, d1, a0, a1, a2, f0, f1, f2, l0, l1⟩ := xsR.cells
  clear xsR
  clear d0 d1 a0 a1 a2 f0 f1 f2 l0 l1
  go_wp2_with fail
  go_loopw [7, 10] (fun v i wr => ∃ (k : Nat), i = .int .i64 k ∧ k ≤ S.size ∧ OwnB wr W1.heap.size 5 v (1 :: escD (S.data.toList.take k)) ∧ Below W1.heap.size W1 wr) (fun _ i _ => S.size - (RowKit.intOf i).toNat)
  case atStart => exact ⟨0, rfl, by omega, ownR, BR⟩
  case round =>
    obtain ⟨k, rfl, hk, hown, hb⟩ := hrel
    have xr := X1.out.step hb
    obtain ⟨d0, d1, a0, a1, a2, f0, f1, f2, l0, l1⟩ := xr.cells
    clear xr
    have hel := escD_len (S.data.toList.take k)
    rw [List.length_take] at hel
    have hel2 : (1 :: escD (S.data.toList.take k)).length ≤ 2 * S.size + 1 := by (try simp only [List.length_cons]); omega
    by_cases hlt : k < S.size
    · have hli : (k : Int) < (S.size : Int) := by omega
      have gi : ((S[k]'hlt).toNat : Int) = (bt S.data.toList k : Int) := by rw [get_of]; rfl
      have hx := bt_lt S.data.toList k
      have hsn := esc_snoc S.data.toList k (by omega)
      have hbe : S.data.toList[k]'(by omega) = UInt8.ofNat (bt S.data.toList k) := by simp [bt, List.getD_eq_getElem?_getD, hlt]
      rw [hbe] at hsn
      generalize bt S.data.toList k = x at *
      have HSN := Lib.hid hsn
      clear hsn hbe hel
      have ownAQ := hown.alloc (.cells #[.int .u8 (x : Int)] 5)
      have BAQ : Below W1.heap.size W1 (wr.alloc (.cells #[.int .u8 (x : Int)] 5)) := hb.alloc hb.size _
      have hsAQ := BAQ.size
      have hnsQ : Hid (∀ z ∈ ([(x : Int)] : List Int), 0 ≤ z ∧ z < 256) := by show ∀ z ∈ ([(x : Int)] : List Int), 0 ≤ z ∧ z < 256; intro z hz; simp only [List.mem_cons, List.not_mem_nil, or_false] at hz; omega
      go_wp2_with (at_builtin; refine wpList_append_new rfl _ _ 77 rfl W1.heap.size 5 i0 (.int .u8 0) Tryz.underlying77 hi hz0 hz1 hz2 rfl _ _ rfl ownAQ ⟨wr.heap.size, 0, none⟩ 1 1 rfl [(x : Int)] rfl (new_cells wr 5 [(x : Int)]) hnsQ.out (by have := hel2; omega) hsAQ ?_)
      intro vQ wQ ownQ hgQ
      have BQ := ownAQ.below BAQ hsAQ hgQ
      clear ownAQ hgQ BAQ hsAQ hnsQ
      clear d0 d1 a0 a1 a2 f0 f1 f2 l0 l1
      have xsQ := X1.out.step BQ
      obtain ⟨d0, d1, a0, a1, a2, f0, f1, f2, l0, l1⟩ := xsQ.cells
      clear xsQ
      by_cases hx0 : x = 0
      · subst hx0
        have ownAV := ownQ.alloc (.cells #[.int .u8 255] 5)
        have BAV : Below W1.heap.size W1 (wQ.alloc (.cells #[.int .u8 255] 5)) := BQ.alloc BQ.size _
        have hsAV := BAV.size
        have hnsV : Hid (∀ z ∈ ([255] : List Int), 0 ≤ z ∧ z < 256) := by show ∀ z ∈ ([255] : List Int), 0 ≤ z ∧ z < 256; intro z hz; simp only [List.mem_cons, List.not_mem_nil, or_false] at hz; omega
        go_wp2_with (at_builtin; refine wpList_append_new rfl _ _ 77 rfl W1.heap.size 5 i0 (.int .u8 0) Tryz.underlying77 hi hz0 hz1 hz2 rfl _ _ rfl ownAV ⟨wQ.heap.size, 0, none⟩ 1 1 rfl [255] rfl (new_cells wQ 5 [255]) hnsV.out (by have := hel2; (try simp only [List.length_append, List.length_map, List.length_cons, List.length_nil] at this ⊢); omega) hsAV ?_)
        intro vV wV ownV hgV
        have BV := ownAV.below BAV hsAV hgV
        clear ownAV hgV BAV hsAV hnsV
        have ownV2 : OwnB wV W1.heap.size 5 vV (1 :: escD (S.data.toList.take (k + 1))) := by
          rw [HSN.out]
          have e : escb (UInt8.ofNat 0) = [0, 255] := rfl
          rw [e]
          simpa using ownV
        go_wp2_with fail
        go_roundw
        case rel => exact ⟨k + 1, by go_num, by omega, ownV2, BV⟩
        case measure => simp [RowKit.intOf]; omega
      · have hxi : ((x : Int) == 0) = false := by rw [beq_eq_false_iff_ne]; omega
        have ownQ2 : OwnB wQ W1.heap.size 5 vQ (1 :: escD (S.data.toList.take (k + 1))) := by
          rw [HSN.out]
          have e : escb (UInt8.ofNat x) = [UInt8.ofNat x] := by
            unfold escb; rw [if_neg]
            intro e
            have := congrArg UInt8.toNat e
            simp at this
            omega
          rw [e]
          simpa using ownQ
        go_wp2_with fail
        go_roundw
        case rel => exact ⟨k + 1, by go_num, by omega, ownQ2, BQ⟩
        case measure => simp [RowKit.intOf]; omega
    · have hli : ¬ (k : Int) < (S.size : Int) := by omega
      rw [List.take_of_length_le (by omega)] at hown hel2
      have ownAQ := hown.alloc (.cells #[.int .u8 0, .int .u8 0] 5)
      have BAQ : Below W1.heap.size W1 (wr.alloc (.cells #[.int .u8 0, .int .u8 0] 5)) := hb.alloc hb.size _
      have hsAQ := BAQ.size
      have hnsQ : Hid (∀ z ∈ ([0, 0] : List Int), 0 ≤ z ∧ z < 256) := by show ∀ z ∈ ([0, 0] : List Int), 0 ≤ z ∧ z < 256; intro z hz; simp only [List.mem_cons, List.not_mem_nil, or_false] at hz; omega
      go_wp2_with (at_builtin; refine wpList_append_new rfl _ _ 77 rfl W1.heap.size 5 i0 (.int .u8 0) Tryz.underlying77 hi hz0 hz1 hz2 rfl _ _ rfl ownAQ ⟨wr.heap.size, 0, none⟩ 2 2 rfl [0, 0] rfl (new_cells wr 5 [0, 0]) hnsQ.out (by have := hel2; (try simp only [List.length_cons, List.length_nil] at this ⊢); omega) hsAQ ?_)
      intro vQ wQ ownQ hgQ
      have BQ := ownAQ.below BAQ hsAQ hgQ
      clear ownAQ hgQ BAQ hsAQ hnsQ
      have ownQ2 : OwnB wQ W1.heap.size 5 vQ (1 :: rowD S.data.toList) := by
        unfold rowD
        simpa using ownQ
      have hcv := run_ownB_string (P := Tryz.prog) (src := 77) (dst := 9) Tryz.underlying77 Tryz.underlying5 Tryz.underlying9 ownQ2
      go_wp2_with fail
      go_ret2
      exact ⟨rfl, X1.out.bel.trans (BQ.mono X1.out.bel.size)⟩
set_option maxRecDepth 100000 in
set_option maxHeartbeats 4000000 in
theorem rbits_t5t (n : Int) (S : ByteArray) (w : World) (hs : S.size ≤ 100000) (b0 : -9223372036854775808 ≤ n) (b1 : n ≤ 9223372036854775807) (hc : kCheck 5 true false n S.data.toList = 0) :
    Calls Tryz.prog 93 #[.agg #[.int .i64 5, .bool true], .agg #[.bool false, .int .i64 n, .string S]] w fun e w' => e = .returned (.tuple #[.string ⟨(1 :: rowD S.data.toList).toArray⟩, .int .i64 0]) ∧ Below w.heap.size w w' := by
  obtain ⟨i0, hi, hz0, hz1, hz2⟩ := info_parts infoU8
  have cc := fun w' => rcheck_any 5 true false n S w' hs b0 b1
  rw [hc] at cc
  have x0 := TBx.start w 5 true false n S
  have hlS : S.data.toList.length = S.size := by simp
  have rn := fun w' => rnumber_any 5 true w'
  rw [show decide ((5 : Int) ≤ 3) = false by decide] at rn
  have CC := Lib.hid cc; have X0 := Lib.hid x0; have RN := Lib.hid rn
  clear cc x0 hc rn
  go_enter Tryz.func93, Tryz.ntmps93
  go_wp2_with fail
  refine (CC.out _).mono ?_
  rintro en W1 ⟨rfl, bb1⟩
  have x1 := X0.out.step bb1
  obtain ⟨d0, d1, a0, a1, a2, f0, f1, f2, l0, l1⟩ := x1.cells
  have X1 := Lib.hid x1
  clear x1 bb1
  have ownN : OwnB W1 W1.heap.size 5 (.slice none 0 0) ([] : Bs) := OwnB.nil _ _ _
  have BN : Below W1.heap.size W1 W1 := Below.refl _ _
  have ownAP := ownN.alloc (.cells #[.int .u8 1] 5)
  have BAP : Below W1.heap.size W1 (W1.alloc (.cells #[.int .u8 1] 5)) := BN.alloc BN.size _
  have hsAP := BAP.size
  have hnsP : Hid (∀ z ∈ ([1] : List Int), 0 ≤ z ∧ z < 256) := by show ∀ z ∈ ([1] : List Int), 0 ≤ z ∧ z < 256; intro z hz; simp only [List.mem_cons, List.not_mem_nil, or_false] at hz; omega
  go_wp2_with (at_builtin; refine wpList_append_new rfl _ _ 77 rfl W1.heap.size 5 i0 (.int .u8 0) Tryz.underlying77 hi hz0 hz1 hz2 rfl _ _ rfl ownAP ⟨W1.heap.size, 0, none⟩ 1 1 rfl [1] rfl (new_cells W1 5 [1]) hnsP.out (by decide) hsAP ?_)
  intro vP wP ownP hgP
  have BP := ownAP.below BAP hsAP hgP
  clear ownAP hgP BAP hsAP hnsP
  clear d0 d1 a0 a1 a2 f0 f1 f2 l0 l1
  have xsP := X1.out.step BP
  obtain ⟨d0, d1, a0, a1, a2, f0, f1, f2, l0, l1⟩ := xsP.cells
  clear xsP
  go_wp2_with fail
  refine (RN.out _).mono ?_
  rintro en wA ⟨rfl, bbA⟩
  have ownR := ownP.kept bbA
  have BR := BP.trans (bbA.mono BP.size)
  clear ownP BP bbA
  clear d0 d1 a0 a1 a2 f0 f1 f2 l0 l1
  have xsR := X1.out.step BR
  obtain ⟨d0, d1, a0, a1, a2, f0, f1, f2, l0, l1⟩ := xsR.cells
  clear xsR
  clear d0 d1 a0 a1 a2 f0 f1 f2 l0 l1
  go_wp2_with fail
  go_loopw [7, 10] (fun v i wr => ∃ (k : Nat), i = .int .i64 k ∧ k ≤ S.size ∧ OwnB wr W1.heap.size 5 v (1 :: escD (S.data.toList.take k)) ∧ Below W1.heap.size W1 wr) (fun _ i _ => S.size - (RowKit.intOf i).toNat)
  case atStart => exact ⟨0, rfl, by omega, ownR, BR⟩
  case round =>
    obtain ⟨k, rfl, hk, hown, hb⟩ := hrel
    have xr := X1.out.step hb
    obtain ⟨d0, d1, a0, a1, a2, f0, f1, f2, l0, l1⟩ := xr.cells
    clear xr
    have hel := escD_len (S.data.toList.take k)
    rw [List.length_take] at hel
    have hel2 : (1 :: escD (S.data.toList.take k)).length ≤ 2 * S.size + 1 := by (try simp only [List.length_cons]); omega
    by_cases hlt : k < S.size
    · have hli : (k : Int) < (S.size : Int) := by omega
      have gi : ((S[k]'hlt).toNat : Int) = (bt S.data.toList k : Int) := by rw [get_of]; rfl
      have hx := bt_lt S.data.toList k
      have hsn := esc_snoc S.data.toList k (by omega)
      have hbe : S.data.toList[k]'(by omega) = UInt8.ofNat (bt S.data.toList k) := by simp [bt, List.getD_eq_getElem?_getD, hlt]
      rw [hbe] at hsn
      generalize bt S.data.toList k = x at *
      have HSN := Lib.hid hsn
      clear hsn hbe hel
      have ownAQ := hown.alloc (.cells #[.int .u8 (x : Int)] 5)
      have BAQ : Below W1.heap.size W1 (wr.alloc (.cells #[.int .u8 (x : Int)] 5)) := hb.alloc hb.size _
      have hsAQ := BAQ.size
      have hnsQ : Hid (∀ z ∈ ([(x : Int)] : List Int), 0 ≤ z ∧ z < 256) := by show ∀ z ∈ ([(x : Int)] : List Int), 0 ≤ z ∧ z < 256; intro z hz; simp only [List.mem_cons, List.not_mem_nil, or_false] at hz; omega
      go_wp2_with (at_builtin; refine wpList_append_new rfl _ _ 77 rfl W1.heap.size 5 i0 (.int .u8 0) Tryz.underlying77 hi hz0 hz1 hz2 rfl _ _ rfl ownAQ ⟨wr.heap.size, 0, none⟩ 1 1 rfl [(x : Int)] rfl (new_cells wr 5 [(x : Int)]) hnsQ.out (by have := hel2; omega) hsAQ ?_)
      intro vQ wQ ownQ hgQ
      have BQ := ownAQ.below BAQ hsAQ hgQ
      clear ownAQ hgQ BAQ hsAQ hnsQ
      clear d0 d1 a0 a1 a2 f0 f1 f2 l0 l1
      have xsQ := X1.out.step BQ
      obtain ⟨d0, d1, a0, a1, a2, f0, f1, f2, l0, l1⟩ := xsQ.cells
      clear xsQ
      by_cases hx0 : x = 0
      · subst hx0
        have ownAV := ownQ.alloc (.cells #[.int .u8 255] 5)
        have BAV : Below W1.heap.size W1 (wQ.alloc (.cells #[.int .u8 255] 5)) := BQ.alloc BQ.size _
        have hsAV := BAV.size
        have hnsV : Hid (∀ z ∈ ([255] : List Int), 0 ≤ z ∧ z < 256) := by show ∀ z ∈ ([255] : List Int), 0 ≤ z ∧ z < 256; intro z hz; simp only [List.mem_cons, List.not_mem_nil, or_false] at hz; omega
        go_wp2_with (at_builtin; refine wpList_append_new rfl _ _ 77 rfl W1.heap.size 5 i0 (.int .u8 0) Tryz.underlying77 hi hz0 hz1 hz2 rfl _ _ rfl ownAV ⟨wQ.heap.size, 0, none⟩ 1 1 rfl [255] rfl (new_cells wQ 5 [255]) hnsV.out (by have := hel2; (try simp only [List.length_append, List.length_map, List.length_cons, List.length_nil] at this ⊢); omega) hsAV ?_)
        intro vV wV ownV hgV
        have BV := ownAV.below BAV hsAV hgV
        clear ownAV hgV BAV hsAV hnsV
        have ownV2 : OwnB wV W1.heap.size 5 vV (1 :: escD (S.data.toList.take (k + 1))) := by
          rw [HSN.out]
          have e : escb (UInt8.ofNat 0) = [0, 255] := rfl
          rw [e]
          simpa using ownV
        go_wp2_with fail
        go_roundw
        case rel => exact ⟨k + 1, by go_num, by omega, ownV2, BV⟩
        case measure => simp [RowKit.intOf]; omega
      · have hxi : ((x : Int) == 0) = false := by rw [beq_eq_false_iff_ne]; omega
        have ownQ2 : OwnB wQ W1.heap.size 5 vQ (1 :: escD (S.data.toList.take (k + 1))) := by
          rw [HSN.out]
          have e : escb (UInt8.ofNat x) = [UInt8.ofNat x] := by
            unfold escb; rw [if_neg]
            intro e
            have := congrArg UInt8.toNat e
            simp at this
            omega
          rw [e]
          simpa using ownQ
        go_wp2_with fail
        go_roundw
        case rel => exact ⟨k + 1, by go_num, by omega, ownQ2, BQ⟩
        case measure => simp [RowKit.intOf]; omega
    · have hli : ¬ (k : Int) < (S.size : Int) := by omega
      rw [List.take_of_length_le (by omega)] at hown hel2
      have ownAQ := hown.alloc (.cells #[.int .u8 0, .int .u8 0] 5)
      have BAQ : Below W1.heap.size W1 (wr.alloc (.cells #[.int .u8 0, .int .u8 0] 5)) := hb.alloc hb.size _
      have hsAQ := BAQ.size
      have hnsQ : Hid (∀ z ∈ ([0, 0] : List Int), 0 ≤ z ∧ z < 256) := by show ∀ z ∈ ([0, 0] : List Int), 0 ≤ z ∧ z < 256; intro z hz; simp only [List.mem_cons, List.not_mem_nil, or_false] at hz; omega
      go_wp2_with (at_builtin; refine wpList_append_new rfl _ _ 77 rfl W1.heap.size 5 i0 (.int .u8 0) Tryz.underlying77 hi hz0 hz1 hz2 rfl _ _ rfl ownAQ ⟨wr.heap.size, 0, none⟩ 2 2 rfl [0, 0] rfl (new_cells wr 5 [0, 0]) hnsQ.out (by have := hel2; (try simp only [List.length_cons, List.length_nil] at this ⊢); omega) hsAQ ?_)
      intro vQ wQ ownQ hgQ
      have BQ := ownAQ.below BAQ hsAQ hgQ
      clear ownAQ hgQ BAQ hsAQ hnsQ
      have ownQ2 : OwnB wQ W1.heap.size 5 vQ (1 :: rowD S.data.toList) := by
        unfold rowD
        simpa using ownQ
      have hcv := run_ownB_string (P := Tryz.prog) (src := 77) (dst := 9) Tryz.underlying77 Tryz.underlying5 Tryz.underlying9 ownQ2
      go_wp2_with fail
      go_ret2
      exact ⟨rfl, X1.out.bel.trans (BQ.mono X1.out.bel.size)⟩
end Go.Proofs.YtcdmiiaamajfoaaGreatDoor
namespace Go.Proofs.YtcdmiiaamajfoaaGreatDoor
open Go.RowKit Go.Ms Go.Lib
end Go.Proofs.YtcdmiiaamajfoaaGreatDoor
namespace Go.Proofs.YtcdmiiaamajfoaaGreatDoor
open Go.RowKit Go.Ms Go.Lib

theorem rbits_err (k : Int) (tn u : Bool) (n : Int) (S : ByteArray) (w : World) (hs : S.size ≤ 100000) (b0 : -9223372036854775808 ≤ n) (b1 : n ≤ 9223372036854775807) (hc : kCheck k tn u n S.data.toList ≠ 0) :
    Calls Tryz.prog 93 #[.agg #[.int .i64 k, .bool tn], .agg #[.bool u, .int .i64 n, .string S]] w fun e w' => e = .returned (.tuple #[.string ⟨#[]⟩, .int .i64 (kCheck k tn u n S.data.toList)]) ∧ Below w.heap.size w w' := by
  have cc := fun w' => rcheck_any k tn u n S w' hs b0 b1
  have x0 := TBx.start w k tn u n S
  generalize kCheck k tn u n S.data.toList = c at *
  have q : (c != 0) = true := by simpa using hc
  have CC := Lib.hid cc; have X0 := Lib.hid x0
  clear cc x0 hc
  go_enter Tryz.func93, Tryz.ntmps93
  go_wp2_with fail
  refine (CC.out _).mono ?_
  rintro en w1 ⟨rfl, bb1⟩
  go_wp2_with fail
  go_ret2
  exact ⟨rfl, (X0.out.step bb1).bel⟩
theorem rbits_null (k : Int) (tn : Bool) (n : Int) (S : ByteArray) (w : World) (hs : S.size ≤ 100000) (b0 : -9223372036854775808 ≤ n) (b1 : n ≤ 9223372036854775807) (hc : kCheck k tn true n S.data.toList = 0) :
    Calls Tryz.prog 93 #[.agg #[.int .i64 k, .bool tn], .agg #[.bool true, .int .i64 n, .string S]] w fun e w' => e = .returned (.tuple #[.string ⟨#[0]⟩, .int .i64 0]) ∧ Below w.heap.size w w' := by
  have cc := fun w' => rcheck_any k tn true n S w' hs b0 b1
  have x0 := TBx.start w k tn true n S
  rw [hc] at cc
  have CC := Lib.hid cc; have X0 := Lib.hid x0
  clear cc x0 hc
  go_enter Tryz.func93, Tryz.ntmps93
  go_wp2_with fail
  refine (CC.out _).mono ?_
  rintro en w1 ⟨rfl, bb1⟩
  have x1 := X0.out.step bb1
  obtain ⟨d0, d1, a0, a1, a2, f0, f1, f2, l0, l1⟩ := x1.cells
  have X1 := Lib.hid x1
  clear x1 bb1
  go_wp2_with fail
  go_ret2
  exact ⟨rfl, X1.out.bel⟩
theorem rBits_any (k : Int) (tn u : Bool) (n : Int) (S : ByteArray) (w : World) (hs : S.size ≤ 100000) (b0 : -9223372036854775808 ≤ n) (b1 : n ≤ 9223372036854775807) :
    Calls Tryz.prog 93 #[.agg #[.int .i64 k, .bool tn], .agg #[.bool u, .int .i64 n, .string S]] w fun e w' => e = .returned (.tuple #[.string ⟨(kBitsD k tn u n S.data.toList).toArray⟩, .int .i64 (kCheck k tn u n S.data.toList)]) ∧ Below w.heap.size w w' := by
  unfold kBitsD
  by_cases hc : kCheck k tn u n S.data.toList = 0
  · rw [if_pos hc, hc]
    cases u with
    | true => rw [if_pos rfl]; exact rbits_null k tn n S w hs b0 b1 hc
    | false =>
      simp only [Bool.false_eq_true, if_false]
      cases tn with
      | true =>
        rw [if_pos rfl]
        rcases may_cases (check_zero hc).1 with rfl | rfl | rfl | rfl | rfl
        · exact rbits_bt n S w hs b0 b1 hc
        · exact rbits_n2t n S w hs b0 b1 hc
        · exact rbits_n3t n S w hs b0 b1 hc
        · exact rbits_t4t n S w hs b0 b1 hc
        · exact rbits_t5t n S w hs b0 b1 hc
      | false =>
        simp only [Bool.false_eq_true, if_false]
        rcases may_cases (check_zero hc).1 with rfl | rfl | rfl | rfl | rfl
        · exact rbits_bf n S w hs b0 b1 hc
        · exact rbits_n2f n S w hs b0 b1 hc
        · exact rbits_n3f n S w hs b0 b1 hc
        · exact rbits_t4f n S w hs b0 b1 hc
        · exact rbits_t5f n S w hs b0 b1 hc
  · rw [if_neg hc]
    exact rbits_err k tn u n S w hs b0 b1 hc
end Go.Proofs.YtcdmiiaamajfoaaGreatDoor
