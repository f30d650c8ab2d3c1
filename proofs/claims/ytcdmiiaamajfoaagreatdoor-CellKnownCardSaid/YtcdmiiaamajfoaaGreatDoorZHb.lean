/- The reference of the cells: whole numbers' texts; hex. The reference of the cells: Text. The reference of the cells: Bits. Bounds of whole numbers. The reference of the cells: Bits, whole. CellWrites: the walk. -/
import Derived.Test.YtcdmiiaamajfoaaGreatDoorZHa
import Derived.Test.YtcdmiiaamajfoaaGreatDoorZR8c
import Derived.Test.YtcdmiiaamajfoaaGreatDoorZFa
set_option linter.unusedVariables false
namespace Go.Ms
open Go.Lib
theorem dec_len : ∀ (k u : Nat), 1 ≤ k → u < 10 ^ k → (decDigits u).length ≤ k
  | 0, _, h, _ => by omega
  | k + 1, u, _, h => by
    by_cases hu : u < 10
    · rw [decDigits, dif_pos hu]; simp
    · rw [decDigits, dif_neg hu, List.length_append]
      rw [Nat.pow_succ] at h
      have hk : 1 ≤ k := by
        rcases Nat.eq_zero_or_pos k with e | e
        · subst e; simp at h; omega
        · exact e
      have := dec_len k (u / 10) hk (by omega)
      simp only [List.length_cons, List.length_nil]
      omega
end Go.Ms
namespace Go.Proofs.YtcdmiiaamajfoaaGreatDoor
open Go.RowKit Go.Ms Go.Lib

theorem dig10 : ∀ k : Fin 10, (⟨#[48, 49, 50, 51, 52, 53, 54, 55, 56, 57]⟩ : ByteArray).extract k.val (k.val + 1) = ⟨#[UInt8.ofNat (48 + k.val)]⟩ := by decide
theorem dig10_at (n : Nat) : (⟨#[48, 49, 50, 51, 52, 53, 54, 55, 56, 57]⟩ : ByteArray).extract (n % 10) (n % 10 + 1) = ⟨#[UInt8.ofNat (48 + n % 10)]⟩ := dig10 ⟨n % 10, by omega⟩
set_option maxRecDepth 100000 in
theorem figures_any (n : Nat) : ∀ (w : World), n < 18446744073709551616 →
    Calls Tryz.prog 232 #[.int .u64 n] w fun e w' => e = .returned (.string ⟨(decDigits n).toArray⟩) ∧ w = w' := by
  induction n using Nat.strongRecOn with
  | _ n ih =>
    intro w hn
    have hd := dig10_at n
    have v0 : (n : Int).tmod 10 = (n : Int) % 10 := Int.tmod_eq_emod_of_nonneg (by omega)
    have v1 : IntKind.u64.wrap ((n : Int) % 10 + 1) = (n : Int) % 10 + 1 := IntWalk.u64_in _ (by omega)
    have v2 : (n : Int).tdiv 10 = (n : Int) / 10 := Int.tdiv_eq_ediv_of_nonneg (by omega)
    have b0 : 0 ≤ (n : Int) % 10 := by omega
    have b1 : (n : Int) % 10 ≤ (n : Int) % 10 + 1 := by omega
    have b2 : (n : Int) % 10 + 1 ≤ 10 := by omega
    have b3 : 0 ≤ (n : Int) % 10 + 1 := by omega
    have n0 : (0 : Int) ≤ (n : Int) := by omega
    have hni : (n : Int) < 18446744073709551616 := by omega
    have HD := Lib.hid hd
    clear hd
    by_cases h : n < 10
    · have hi : (n : Int) < 10 := by omega
      rw [decDigits, dif_pos h]
      have hm : n % 10 = n := Nat.mod_eq_of_lt h
      go_enter Tryz.func232, Tryz.ntmps232
      go_wp2_with fail
      go_ret
      exact ⟨by have hx := HD.out; rw [hm] at hx ⊢; rw [← hx]; first | done | (rw [hm]; done) | rfl, rfl⟩
    · have hi : ¬ (n : Int) < 10 := by omega
      have hq : ((n / 10 : Nat) : Int) = (n : Int) / 10 := by omega
      have cf := fun w => ih (n / 10) (by omega) w (by omega)
      rw [hq] at cf
      have hl := dec_len 20 (n / 10) (by omega) (by omega)
      have hz : (⟨(decDigits (n / 10)).toArray⟩ : ByteArray).size = (decDigits (n / 10)).length := List.size_toArray
      have hap : (⟨(decDigits (n / 10)).toArray⟩ : ByteArray) ++ ⟨#[UInt8.ofNat (48 + n % 10)]⟩ = ⟨(decDigits n).toArray⟩ := by
        rw [show decDigits n = decDigits (n / 10) ++ [UInt8.ofNat (48 + n % 10)] by rw [decDigits, dif_neg h]]
        apply ba_ext; simp
      rw [← hap]
      generalize (⟨(decDigits (n / 10)).toArray⟩ : ByteArray) = X at *
      have hxl : X.size ≤ 20 := by omega
      have CF := Lib.hid cf
      clear cf ih hap hz hl h hq
      go_enter Tryz.func232, Tryz.ntmps232
      go_wp2_with fail
      refine (CF.out _).mono ?_
      rintro en w1 ⟨rfl, rfl⟩
      go_wp2_with fail
      go_ret
      exact ⟨by rw [← HD.out]; first | done | rfl, rfl⟩
set_option maxRecDepth 100000 in
theorem rdigits_any (n : Int) (w : World) (b0 : -9223372036854775808 ≤ n) (b1 : n ≤ 9223372036854775807) :
    Calls Tryz.prog 201 #[.int .i64 n] w fun e w' => e = .returned (.string ⟨(itoa n).toArray⟩) ∧ w = w' := by
  by_cases h : n < 0
  · have cf := fun w => figures_any n.natAbs w (by omega)
    have v1 : IntKind.i64.wrap (n + 1) = n + 1 := IntWalk.i64_in _ (by omega)
    have v2 : IntKind.i64.wrap (-(n + 1)) = -(n + 1) := IntWalk.i64_in _ (by omega)
    have v3 : IntKind.u64.wrap (-(n + 1)) = -(n + 1) := IntWalk.u64_in _ (by omega)
    have v4 : IntKind.u64.wrap (-(n + 1) + 1) = -(n + 1) + 1 := IntWalk.u64_in _ (by omega)
    rw [show ((n.natAbs : Nat) : Int) = -(n + 1) + 1 by omega] at cf
    have hl := dec_len 20 n.natAbs (by omega) (by omega)
    have hz : (⟨(decDigits n.natAbs).toArray⟩ : ByteArray).size = (decDigits n.natAbs).length := List.size_toArray
    have hap : (⟨#[45]⟩ : ByteArray) ++ ⟨(decDigits n.natAbs).toArray⟩ = ⟨(itoa n).toArray⟩ := by
      unfold itoa; rw [if_pos h]
      apply ba_ext; simp
    rw [← hap]
    generalize (⟨(decDigits n.natAbs).toArray⟩ : ByteArray) = X at *
    have hxl : X.size ≤ 20 := by omega
    have hq : ¬ 9223372036854775807 < 1 + X.size := by omega
    have CF := Lib.hid cf
    clear cf hap hz hl
    go_enter Tryz.func201, Tryz.ntmps201
    go_wp2_with fail
    refine (CF.out _).mono ?_
    rintro en w1 ⟨rfl, rfl⟩
    go_wp2_with fail
    go_ret
    exact ⟨rfl, rfl⟩
  · have cf := fun w => figures_any n.toNat w (by omega)
    have v3 : IntKind.u64.wrap n = n := IntWalk.u64_in _ (by omega)
    rw [show ((n.toNat : Nat) : Int) = n by omega] at cf
    have e : itoa n = decDigits n.toNat := by unfold itoa; rw [if_neg h]
    rw [e]
    generalize decDigits n.toNat = L at *
    have CF := Lib.hid cf
    clear cf e
    go_enter Tryz.func201, Tryz.ntmps201
    go_wp2_with fail
    refine (CF.out _).mono ?_
    rintro en w1 ⟨rfl, rfl⟩
    go_wp2_with fail
    go_ret
    exact ⟨rfl, rfl⟩

theorem hexb_two (c : UInt8) : hexb c = [hexd (c.toNat / 16), hexd (c.toNat % 16)] := rfl
set_option maxRecDepth 100000 in
set_option maxHeartbeats 2000000 in
theorem rhex_any (S : ByteArray) (w : World) (hs : S.size ≤ 100000) :
    Calls Tryz.prog 203 #[.string S] w fun e w' => e = .returned (.string ⟨(S.data.toList.flatMap hexb).toArray⟩) ∧ Below w.heap.size w w' := by
  have hl : S.data.toList.length = S.size := by simp
  go_enter Tryz.func203, Tryz.ntmps203
  go_wp2_with fail
  go_loopw [3, 4] (fun x i wr => ∃ (k : Nat) (X : ByteArray), i = .int .i64 k ∧ k ≤ S.size ∧ x = .string X ∧ X.size = 2 * k ∧ Hid (X = ⟨((S.data.toList.take k).flatMap hexb).toArray⟩) ∧ Below w.heap.size w wr) (fun _ i _ => S.size - (RowKit.intOf i).toNat)
  case atStart => exact ⟨0, ⟨#[]⟩, rfl, by omega, rfl, rfl, by show _ = _; rfl, Below.refl _ _⟩
  case round =>
    obtain ⟨k, X, rfl, hk, rfl, hX, HX, hb⟩ := hrel
    by_cases hlt : k < S.size
    · have hli : (k : Int) < (S.size : Int) := by omega
      have gi : ((S[k]'hlt).toNat : Int) = (bt S.data.toList k : Int) := by rw [get_of]; rfl
      have hx := bt_lt S.data.toList k
      have hsn := hex_snoc S.data.toList k (by omega)
      have hbe : bt S.data.toList k = (S.data.toList[k]'(by omega)).toNat := by simp [bt, List.getD_eq_getElem?_getD, hlt]
      rw [hexb_two, ← hbe] at hsn
      generalize bt S.data.toList k = x at *
      have p1 := dig_ext ⟨x / 16, by omega⟩
      have p2 := dig_ext ⟨x % 16, by omega⟩
      simp only at p1 p2
      have t1 : (x : Int).tdiv 16 = (x : Int) / 16 := Int.tdiv_eq_ediv_of_nonneg (by omega)
      have t2 : (x : Int).tmod 16 = (x : Int) % 16 := Int.tmod_eq_emod_of_nonneg (by omega)
      have v1 : IntKind.u8.wrap ((x : Int) / 16 + 1) = (x : Int) / 16 + 1 := IntWalk.u8_in _ (by omega)
      have v2 : IntKind.u8.wrap ((x : Int) % 16 + 1) = (x : Int) % 16 + 1 := IntWalk.u8_in _ (by omega)
      have a1 : 0 ≤ (x : Int) / 16 := by omega
      have a2 : 0 ≤ (x : Int) % 16 := by omega
      have b1 : (x : Int) / 16 ≤ (x : Int) / 16 + 1 := by omega
      have b2 : (x : Int) % 16 ≤ (x : Int) % 16 + 1 := by omega
      have c1 : (x : Int) / 16 + 1 ≤ 16 := by omega
      have c2 : (x : Int) % 16 + 1 ≤ 16 := by omega
      have PP1 := Lib.hid p1; have PP2 := Lib.hid p2; have HSN := Lib.hid hsn
      have hq1 : ¬ 9223372036854775807 < X.size + 1 := by omega
      have hq2 : ¬ 9223372036854775807 < X.size + 1 + 1 := by omega
      clear p1 p2 hsn hbe
      go_wp2_with fail
      go_quiet (fail)
      go_wp2_with fail
      go_roundw
      case rel => exact ⟨k + 1, _, by go_num, by omega, rfl, by rw [PP1.out, PP2.out, ByteArray.size_append, ByteArray.size_append, hX]; show 2 * k + 1 + 1 = _; omega, by show _ = _; rw [PP1.out, PP2.out, HX.out, HSN.out]; apply ba_ext; simp, ms_drewN hb _⟩
      case measure => simp [RowKit.intOf]; omega
    · have hli : ¬ (k : Int) < (S.size : Int) := by omega
      have hx := HX.out
      rw [List.take_of_length_le (by omega)] at hx
      have HXX := Lib.hid hx
      clear hx
      go_wp2_with fail
      go_ret
      exact ⟨by rw [← HXX.out]; first | done | rfl, hb⟩
end Go.Proofs.YtcdmiiaamajfoaaGreatDoor
namespace Go.Proofs.YtcdmiiaamajfoaaGreatDoor
open Go.RowKit Go.Ms Go.Lib

theorem rtext_null (k : Int) (tn : Bool) (n : Int) (S : ByteArray) (w : World) :
    Calls Tryz.prog 147 #[.agg #[.int .i64 k, .bool tn], .agg #[.bool true, .int .i64 n, .string S]] w fun e w' => e = .returned (.string ⟨#[110, 117, 108, 108]⟩) ∧ Below w.heap.size w w' := by
  go_enter Tryz.func147, Tryz.ntmps147
  go_wp2
  go_ret
  exact ⟨rfl, ((Below.refl _ _).alloc (Nat.le_refl _) _).alloc (by simp) _⟩
theorem rtext_bool (tn : Bool) (n : Int) (S : ByteArray) (w : World) :
    Calls Tryz.prog 147 #[.agg #[.int .i64 1, .bool tn], .agg #[.bool false, .int .i64 n, .string S]] w fun e w' => e = .returned (.string ⟨(formatBool (n == 1)).toArray⟩) ∧ Below w.heap.size w w' := by
  by_cases h : n = 1
  · subst h
    go_enter Tryz.func147, Tryz.ntmps147
    go_wp2
    go_ret
    exact ⟨rfl, ((Below.refl _ _).alloc (Nat.le_refl _) _).alloc (by simp) _⟩
  · have q : (n == 1) = false := by simpa using h
    rw [q]
    clear h
    go_enter Tryz.func147, Tryz.ntmps147
    go_wp2
    go_ret
    exact ⟨rfl, ((Below.refl _ _).alloc (Nat.le_refl _) _).alloc (by simp) _⟩
theorem rtext_num (k : Int) (hk : k = 2 ∨ k = 3) (tn : Bool) (n : Int) (S : ByteArray) (w : World) (b0 : -9223372036854775808 ≤ n) (b1 : n ≤ 9223372036854775807) :
    Calls Tryz.prog 147 #[.agg #[.int .i64 k, .bool tn], .agg #[.bool false, .int .i64 n, .string S]] w fun e w' => e = .returned (.string ⟨(itoa n).toArray⟩) ∧ Below w.heap.size w w' := by
  have cd := fun w => rdigits_any n w b0 b1
  generalize itoa n = L at *
  have CD := Lib.hid cd
  clear cd
  rcases hk with rfl | rfl
  all_goals
    go_enter Tryz.func147, Tryz.ntmps147
    go_wp2_with fail
    refine (CD.out _).mono ?_
    rintro en w1 ⟨rfl, rfl⟩
    go_wp2_with fail
    go_ret
    exact ⟨rfl, ((Below.refl _ _).alloc (Nat.le_refl _) _).alloc (by simp) _⟩
theorem rtext_str (tn : Bool) (n : Int) (S : ByteArray) (w : World) (hs : S.size ≤ 10000) :
    Calls Tryz.prog 147 #[.agg #[.int .i64 4, .bool tn], .agg #[.bool false, .int .i64 n, .string S]] w fun e w' => e = .returned (.string ⟨(kQuote S.data.toList).toArray⟩) ∧ Below w.heap.size w w' := by
  have cq := fun w => rquote_any S w hs
  unfold kQuote
  generalize (if validD S.data.toList = true then quoteD S.data.toList else []) = L at *
  generalize (if validD S.data.toList = true then (0 : Int) else 40) = e0 at *
  have CQ := Lib.hid cq
  clear cq
  go_enter Tryz.func147, Tryz.ntmps147
  go_wp2_with fail
  refine (CQ.out _).mono ?_
  rintro en w1 ⟨rfl, bb1⟩
  go_wp2_with fail
  go_ret
  exact ⟨rfl, (((Below.refl _ _).alloc (Nat.le_refl _) _).alloc (by simp) _).trans (bb1.mono (by simp; omega))⟩
theorem rtext_bytes (tn : Bool) (n : Int) (S : ByteArray) (w : World) (hs : S.size ≤ 100000) :
    Calls Tryz.prog 147 #[.agg #[.int .i64 5, .bool tn], .agg #[.bool false, .int .i64 n, .string S]] w fun e w' => e = .returned (.string ⟨(hexD S.data.toList).toArray⟩) ∧ Below w.heap.size w w' := by
  have ch := fun w => rhex_any S w hs
  have hl := khex_len S.data.toList
  unfold hexD at hl ⊢
  rw [List.length_cons, lenS] at hl
  have hz : (⟨(S.data.toList.flatMap hexb).toArray⟩ : ByteArray).size = (S.data.toList.flatMap hexb).length := List.size_toArray
  have hap : (⟨#[120]⟩ : ByteArray) ++ ⟨(S.data.toList.flatMap hexb).toArray⟩ = ⟨((120 : UInt8) :: S.data.toList.flatMap hexb).toArray⟩ := by apply ba_ext; simp
  rw [← hap]
  generalize (⟨(S.data.toList.flatMap hexb).toArray⟩ : ByteArray) = X at *
  have hxl : X.size ≤ 200000 := by omega
  have hq : ¬ 9223372036854775807 < 1 + X.size := by omega
  have CH := Lib.hid ch
  clear ch hap hz hl
  go_enter Tryz.func147, Tryz.ntmps147
  go_wp2_with fail
  refine (CH.out _).mono ?_
  rintro en w1 ⟨rfl, bb1⟩
  go_wp2_with fail
  go_ret
  exact ⟨rfl, (((Below.refl _ _).alloc (Nat.le_refl _) _).alloc (by simp) _).trans (bb1.mono (by simp; omega))⟩
theorem rtext_any (k : Int) (hk : kMay k = true) (tn u : Bool) (n : Int) (S : ByteArray) (w : World) (hs : S.size ≤ 10000) (b0 : -9223372036854775808 ≤ n) (b1 : n ≤ 9223372036854775807) :
    Calls Tryz.prog 147 #[.agg #[.int .i64 k, .bool tn], .agg #[.bool u, .int .i64 n, .string S]] w fun e w' => e = .returned (.string ⟨(if u = true then kNull else kText k n S.data.toList).toArray⟩) ∧ Below w.heap.size w w' := by
  cases u with
  | true => exact rtext_null k tn n S w
  | false =>
    simp only [Bool.false_eq_true, if_false]
    rcases may_cases hk with rfl | rfl | rfl | rfl | rfl
    · exact rtext_bool tn n S w
    · exact rtext_num 2 (.inl rfl) tn n S w b0 b1
    · exact rtext_num 3 (.inr rfl) tn n S w b0 b1
    · exact rtext_str tn n S w hs
    · exact rtext_bytes tn n S w (by omega)
theorem rText_any (k : Int) (tn u : Bool) (n : Int) (S : ByteArray) (w : World) (hs : S.size ≤ 10000) (b0 : -9223372036854775808 ≤ n) (b1 : n ≤ 9223372036854775807) :
    Calls Tryz.prog 92 #[.agg #[.int .i64 k, .bool tn], .agg #[.bool u, .int .i64 n, .string S]] w fun e w' => e = .returned (.tuple #[.string ⟨(kTextD k tn u n S.data.toList).toArray⟩, .int .i64 (kCheck k tn u n S.data.toList)]) ∧ Below w.heap.size w w' := by
  have cc := fun w' => rcheck_any k tn u n S w' (by omega) b0 b1
  have x0 := TBx.start w k tn u n S
  unfold kTextD
  by_cases hc : kCheck k tn u n S.data.toList = 0
  · rw [if_pos hc]
    rw [hc] at cc ⊢
    have ct := fun w' => rtext_any k (check_zero hc).1 tn u n S w' hs b0 b1
    generalize (if u = true then kNull else kText k n S.data.toList) = L at *
    have CC := Lib.hid cc; have CT := Lib.hid ct; have X0 := Lib.hid x0
    clear cc ct x0 hc
    go_enter Tryz.func92, Tryz.ntmps92
    go_wp2_with fail
    refine (CC.out _).mono ?_
    rintro en w1 ⟨rfl, bb1⟩
    have x1 := X0.out.step bb1
    obtain ⟨d0, d1, a0, a1, a2, f0, f1, f2, l0, l1⟩ := x1.cells
    have X1 := Lib.hid x1
    clear x1 bb1
    go_wp2_with fail
    refine (CT.out _).mono ?_
    rintro en w2 ⟨rfl, bb2⟩
    go_wp2_with fail
    go_ret2
    exact ⟨rfl, (X1.out.step bb2).bel⟩
  · rw [if_neg hc]
    generalize kCheck k tn u n S.data.toList = c at *
    have q : (c != 0) = true := by simpa using hc
    have CC := Lib.hid cc; have X0 := Lib.hid x0
    clear cc x0 hc
    go_enter Tryz.func92, Tryz.ntmps92
    go_wp2_with fail
    refine (CC.out _).mono ?_
    rintro en w1 ⟨rfl, bb1⟩
    go_wp2_with fail
    go_ret2
    exact ⟨rfl, (X0.out.step bb1).bel⟩
end Go.Proofs.YtcdmiiaamajfoaaGreatDoor
set_option linter.unusedSimpArgs false
namespace Go.Ms
open Go.Lib
/-- The bytes of a number, the highest first, as the reference takes them off. -/
def nb : Nat → Int → Bs
  | 0, _ => []
  | j + 1, u => UInt8.ofNat (u / 72057594037927936).toNat :: nb j (u * 256 % 18446744073709551616)
theorem nb8 {U : Int} (h0 : 0 ≤ U) (h1 : U < 18446744073709551616) : nb 8 U = kNum U := by
  have e2 : U * 256 % 18446744073709551616 * 256 % 18446744073709551616 = U * 65536 % 18446744073709551616 := by omega
  have e3 : U * 65536 % 18446744073709551616 * 256 % 18446744073709551616 = U * 16777216 % 18446744073709551616 := by omega
  have e4 : U * 16777216 % 18446744073709551616 * 256 % 18446744073709551616 = U * 4294967296 % 18446744073709551616 := by omega
  have e5 : U * 4294967296 % 18446744073709551616 * 256 % 18446744073709551616 = U * 1099511627776 % 18446744073709551616 := by omega
  have e6 : U * 1099511627776 % 18446744073709551616 * 256 % 18446744073709551616 = U * 281474976710656 % 18446744073709551616 := by omega
  have e7 : U * 281474976710656 % 18446744073709551616 * 256 % 18446744073709551616 = U * 72057594037927936 % 18446744073709551616 := by omega
  have d1 : U * 256 % 18446744073709551616 / 72057594037927936 = U / 281474976710656 % 256 := by omega
  have d2 : U * 65536 % 18446744073709551616 / 72057594037927936 = U / 1099511627776 % 256 := by omega
  have d3 : U * 16777216 % 18446744073709551616 / 72057594037927936 = U / 4294967296 % 256 := by omega
  have d4 : U * 4294967296 % 18446744073709551616 / 72057594037927936 = U / 16777216 % 256 := by omega
  have d5 : U * 1099511627776 % 18446744073709551616 / 72057594037927936 = U / 65536 % 256 := by omega
  have d6 : U * 281474976710656 % 18446744073709551616 / 72057594037927936 = U / 256 % 256 := by omega
  have d7 : U * 72057594037927936 % 18446744073709551616 / 72057594037927936 = U % 256 := by omega
  simp only [nb]
  rw [e2, e3, e4, e5, e6, e7, d1, d2, d3, d4, d5, d6, d7]
  rfl
theorem esc_snoc (l : Bs) (k : Nat) (h : k < l.length) : escD (l.take (k + 1)) = escD (l.take k) ++ escb l[k] := by
  unfold escD
  rw [List.take_succ_eq_append_getElem h, List.flatMap_append]; simp
end Go.Ms
namespace Go.Proofs.YtcdmiiaamajfoaaGreatDoor
open Go.RowKit Go.Ms Go.Lib

theorem rnumber_any (k : Int) (tn : Bool) (w : World) :
    Calls Tryz.prog 153 #[.agg #[.int .i64 k, .bool tn]] w fun e w' => e = .returned (.bool (decide (k ≤ 3))) ∧ Below w.heap.size w w' := by
  by_cases h : k ≤ 3
  · rw [decide_eq_true h]
    go_enter Tryz.func153, Tryz.ntmps153
    go_wp2
    go_ret
    exact ⟨rfl, (Below.refl _ _).alloc (Nat.le_refl _) _⟩
  · rw [decide_eq_false h]
    go_enter Tryz.func153, Tryz.ntmps153
    go_wp2
    go_ret
    exact ⟨rfl, (Below.refl _ _).alloc (Nat.le_refl _) _⟩

set_option maxRecDepth 100000 in
set_option maxHeartbeats 4000000 in
theorem rbits_bf (n : Int) (S : ByteArray) (w : World) (hs : S.size ≤ 100000) (b0 : -9223372036854775808 ≤ n) (b1 : n ≤ 9223372036854775807) (hc : kCheck 1 false false n S.data.toList = 0) :
    Calls Tryz.prog 93 #[.agg #[.int .i64 1, .bool false], .agg #[.bool false, .int .i64 n, .string S]] w fun e w' => e = .returned (.tuple #[.string ⟨([UInt8.ofNat n.toNat]).toArray⟩, .int .i64 0]) ∧ Below w.heap.size w w' := by
  obtain ⟨i0, hi, hz0, hz1, hz2⟩ := info_parts infoU8
  have cc := fun w' => rcheck_any 1 false false n S w' hs b0 b1
  rw [hc] at cc
  have x0 := TBx.start w 1 false false n S
  have hlS : S.data.toList.length = S.size := by simp
  obtain ⟨_, h0, h1⟩ := is1.1 (ok_some (check_zero hc).2)
  have u1 : IntKind.u8.wrap n = n := IntWalk.u8_in _ (by omega)
  have CC := Lib.hid cc; have X0 := Lib.hid x0
  clear cc x0 hc
  go_enter Tryz.func93, Tryz.ntmps93
  go_wp2_with fail
  refine (CC.out _).mono ?_
  rintro en W1 ⟨rfl, bb1⟩
  have x1 := X0.out.step bb1
  obtain ⟨d0, d1, a0, a1, a2, f0, f1, f2, l0, l1⟩ := x1.cells
  have X1 := Lib.hid x1
  clear x1 bb1
  have ownP : OwnB W1 W1.heap.size 5 (.slice none 0 0) ([] : Bs) := OwnB.nil _ _ _
  have BP : Below W1.heap.size W1 W1 := Below.refl _ _
  have ownAQ := ownP.alloc (.cells #[.int .u8 n] 5)
  have BAQ : Below W1.heap.size W1 (W1.alloc (.cells #[.int .u8 n] 5)) := BP.alloc BP.size _
  have hsAQ := BAQ.size
  have hnsQ : Hid (∀ z ∈ ([n] : List Int), 0 ≤ z ∧ z < 256) := by show ∀ z ∈ ([n] : List Int), 0 ≤ z ∧ z < 256; intro z hz; simp only [List.mem_cons, List.not_mem_nil, or_false] at hz; omega
  go_wp2_with (at_builtin; refine wpList_append_new rfl _ _ 77 rfl W1.heap.size 5 i0 (.int .u8 0) Tryz.underlying77 hi hz0 hz1 hz2 rfl _ _ rfl ownAQ ⟨W1.heap.size, 0, none⟩ 1 1 rfl [n] rfl (new_cells W1 5 [n]) hnsQ.out (by simp) hsAQ ?_)
  intro vQ wQ ownQ hgQ
  have BQ := ownAQ.below BAQ hsAQ hgQ
  clear ownAQ hgQ BAQ hsAQ hnsQ
  have hcv := run_ownB_string (P := Tryz.prog) (src := 77) (dst := 9) Tryz.underlying77 Tryz.underlying5 Tryz.underlying9 ownQ
  go_wp2_with fail
  go_ret2
  exact ⟨rfl, X1.out.bel.trans (BQ.mono X1.out.bel.size)⟩
set_option maxRecDepth 100000 in
set_option maxHeartbeats 4000000 in
theorem rbits_n2f (n : Int) (S : ByteArray) (w : World) (hs : S.size ≤ 100000) (b0 : -9223372036854775808 ≤ n) (b1 : n ≤ 9223372036854775807) (hc : kCheck 2 false false n S.data.toList = 0) :
    Calls Tryz.prog 93 #[.agg #[.int .i64 2, .bool false], .agg #[.bool false, .int .i64 n, .string S]] w fun e w' => e = .returned (.tuple #[.string ⟨(kNum (n + 9223372036854775808)).toArray⟩, .int .i64 0]) ∧ Below w.heap.size w w' := by
  obtain ⟨i0, hi, hz0, hz1, hz2⟩ := info_parts infoU8
  have cc := fun w' => rcheck_any 2 false false n S w' hs b0 b1
  rw [hc] at cc
  have x0 := TBx.start w 2 false false n S
  have hlS : S.data.toList.length = S.size := by simp
  have rn := fun w' => rnumber_any 2 false w'
  rw [show decide ((2 : Int) ≤ 3) = true by decide] at rn
  have hu : IntKind.u64.wrap (IntKind.u64.wrap n + 9223372036854775808) = n + 9223372036854775808 := by
    rw [IntKind.wrap_u64, IntKind.wrap_u64]; omega
  have hnb := nb8 (U := n + 9223372036854775808) (by omega) (by omega)
  rw [← hnb]
  have hU0 : 0 ≤ n + 9223372036854775808 := by omega
  have hU1 : n + 9223372036854775808 < 18446744073709551616 := by omega
  obtain ⟨U, hU⟩ : ∃ U, n + 9223372036854775808 = U := ⟨_, rfl⟩
  rw [hU] at hu hU0 hU1 ⊢
  have CC := Lib.hid cc; have X0 := Lib.hid x0; have RN := Lib.hid rn
  clear cc x0 hc rn hnb hU
  go_enter Tryz.func93, Tryz.ntmps93
  go_wp2_with fail
  refine (CC.out _).mono ?_
  rintro en W1 ⟨rfl, bb1⟩
  have x1 := X0.out.step bb1
  obtain ⟨d0, d1, a0, a1, a2, f0, f1, f2, l0, l1⟩ := x1.cells
  have X1 := Lib.hid x1
  clear x1 bb1
  have ownP : OwnB W1 W1.heap.size 5 (.slice none 0 0) ([] : Bs) := OwnB.nil _ _ _
  have BP : Below W1.heap.size W1 W1 := Below.refl _ _
  go_wp2_with fail
  refine (RN.out _).mono ?_
  rintro en wA ⟨rfl, bbA⟩
  have ownR := ownP.kept bbA
  have BR := BP.trans (bbA.mono BP.size)
  clear ownP BP bbA
  clear d0 d1 a0 a1 a2 f0 f1 f2 l0 l1
  have xsR := X1.out.step BR
  obtain ⟨d0, d1, a0, a1, a2, f0, f1, f2, l0, l1⟩ := xsR.cells
  clear xsR
  go_wp2_with fail
  go_loopw [7, 8, 9] (fun v u i wr => ∃ (k : Nat) (V : Int) (acc : Bs), i = .int .i64 k ∧ k ≤ 8 ∧ u = .int .u64 V ∧ 0 ≤ V ∧ V < 18446744073709551616 ∧ OwnB wr W1.heap.size 5 v acc ∧ acc.length ≤ 1 + k ∧ Hid (acc ++ nb (8 - k) V = nb 8 U) ∧ Below W1.heap.size W1 wr) (fun _ _ i _ => 8 - (RowKit.intOf i).toNat)
  case atStart => exact ⟨0, U, [], rfl, by omega, rfl, hU0, hU1, ownR, by simp, by show _ = _; rfl, BR⟩
  case round =>
    obtain ⟨k, V, acc, rfl, hk, rfl, hV0, hV1, hown, hal, hac, hb⟩ := hrel
    by_cases hlt : k < 8
    · have hli : (k : Int) < 8 := by omega
      have t1 : V.tdiv 72057594037927936 = V / 72057594037927936 := Int.tdiv_eq_ediv_of_nonneg hV0
      have v1 : IntKind.u8.wrap (V / 72057594037927936) = V / 72057594037927936 := IntWalk.u8_in _ (by omega)
      have v2 : IntKind.u64.wrap (V * 256) = V * 256 % 18446744073709551616 := by rw [IntKind.wrap_u64]
      have hx0 : 0 ≤ V / 72057594037927936 := by omega
      have hx1 : V / 72057594037927936 < 256 := by omega
      have ownAQ := hown.alloc (.cells #[.int .u8 (V / 72057594037927936)] 5)
      have BAQ : Below W1.heap.size W1 (wr.alloc (.cells #[.int .u8 (V / 72057594037927936)] 5)) := hb.alloc hb.size _
      have hsAQ := BAQ.size
      have hnsQ : Hid (∀ z ∈ ([(V / 72057594037927936)] : List Int), 0 ≤ z ∧ z < 256) := by show ∀ z ∈ ([(V / 72057594037927936)] : List Int), 0 ≤ z ∧ z < 256; intro z hz; simp only [List.mem_cons, List.not_mem_nil, or_false] at hz; omega
      go_wp2_with (at_builtin; refine wpList_append_new rfl _ _ 77 rfl W1.heap.size 5 i0 (.int .u8 0) Tryz.underlying77 hi hz0 hz1 hz2 rfl _ _ rfl ownAQ ⟨wr.heap.size, 0, none⟩ 1 1 rfl [(V / 72057594037927936)] rfl (new_cells wr 5 [(V / 72057594037927936)]) hnsQ.out (by simp; omega) hsAQ ?_)
      intro vQ wQ ownQ hgQ
      have BQ := ownAQ.below BAQ hsAQ hgQ
      clear ownAQ hgQ BAQ hsAQ hnsQ
      have hac2 := hac.out
      obtain ⟨j, hj⟩ : ∃ j, 8 - k = j + 1 := ⟨8 - k - 1, by omega⟩
      rw [hj] at hac2
      have hj2 : 8 - (k + 1) = j := by omega
      have hac3 : Hid ((acc ++ [UInt8.ofNat (V / 72057594037927936).toNat]) ++ nb (8 - (k + 1)) (V * 256 % 18446744073709551616) = nb 8 U) := by
        show _ = _
        rw [hj2, List.append_assoc]
        exact hac2
      clear hac hac2 hj hj2
      go_wp2_with fail
      go_roundw
      case rel => exact ⟨k + 1, V * 256 % 18446744073709551616, acc ++ [UInt8.ofNat (V / 72057594037927936).toNat], by go_num, by omega, rfl, by omega, by omega, ownQ, by simp; omega, hac3, BQ⟩
      case measure => simp [RowKit.intOf]; omega
    · obtain rfl : k = 8 := by omega
      have hac2 := hac.out
      simp only [Nat.sub_self, nb, List.append_nil] at hac2
      have hcv := run_ownB_string (P := Tryz.prog) (src := 77) (dst := 9) Tryz.underlying77 Tryz.underlying5 Tryz.underlying9 hown
      have HAC := Lib.hid hac2
      clear hac hac2
      go_wp2_with fail
      go_ret2
      exact ⟨by show _ = Ending.returned (.tuple #[.string ⟨(nb 8 U).toArray⟩, .int .i64 0]); rw [nb] ; simp only [nb]; rw [← HAC.out]; first | done | rfl, X1.out.bel.trans (hb.mono X1.out.bel.size)⟩
set_option maxRecDepth 100000 in
set_option maxHeartbeats 4000000 in
theorem rbits_n3f (n : Int) (S : ByteArray) (w : World) (hs : S.size ≤ 100000) (b0 : -9223372036854775808 ≤ n) (b1 : n ≤ 9223372036854775807) (hc : kCheck 3 false false n S.data.toList = 0) :
    Calls Tryz.prog 93 #[.agg #[.int .i64 3, .bool false], .agg #[.bool false, .int .i64 n, .string S]] w fun e w' => e = .returned (.tuple #[.string ⟨(kNum (n + 9223372036854775808)).toArray⟩, .int .i64 0]) ∧ Below w.heap.size w w' := by
  obtain ⟨i0, hi, hz0, hz1, hz2⟩ := info_parts infoU8
  have cc := fun w' => rcheck_any 3 false false n S w' hs b0 b1
  rw [hc] at cc
  have x0 := TBx.start w 3 false false n S
  have hlS : S.data.toList.length = S.size := by simp
  have rn := fun w' => rnumber_any 3 false w'
  rw [show decide ((3 : Int) ≤ 3) = true by decide] at rn
  have hu : IntKind.u64.wrap (IntKind.u64.wrap n + 9223372036854775808) = n + 9223372036854775808 := by
    rw [IntKind.wrap_u64, IntKind.wrap_u64]; omega
  have hnb := nb8 (U := n + 9223372036854775808) (by omega) (by omega)
  rw [← hnb]
  have hU0 : 0 ≤ n + 9223372036854775808 := by omega
  have hU1 : n + 9223372036854775808 < 18446744073709551616 := by omega
  obtain ⟨U, hU⟩ : ∃ U, n + 9223372036854775808 = U := ⟨_, rfl⟩
  rw [hU] at hu hU0 hU1 ⊢
  have CC := Lib.hid cc; have X0 := Lib.hid x0; have RN := Lib.hid rn
  clear cc x0 hc rn hnb hU
  go_enter Tryz.func93, Tryz.ntmps93
  go_wp2_with fail
  refine (CC.out _).mono ?_
  rintro en W1 ⟨rfl, bb1⟩
  have x1 := X0.out.step bb1
  obtain ⟨d0, d1, a0, a1, a2, f0, f1, f2, l0, l1⟩ := x1.cells
  have X1 := Lib.hid x1
  clear x1 bb1
  have ownP : OwnB W1 W1.heap.size 5 (.slice none 0 0) ([] : Bs) := OwnB.nil _ _ _
  have BP : Below W1.heap.size W1 W1 := Below.refl _ _
  go_wp2_with fail
  refine (RN.out _).mono ?_
  rintro en wA ⟨rfl, bbA⟩
  have ownR := ownP.kept bbA
  have BR := BP.trans (bbA.mono BP.size)
  clear ownP BP bbA
  clear d0 d1 a0 a1 a2 f0 f1 f2 l0 l1
  have xsR := X1.out.step BR
  obtain ⟨d0, d1, a0, a1, a2, f0, f1, f2, l0, l1⟩ := xsR.cells
  clear xsR
  go_wp2_with fail
  go_loopw [7, 8, 9] (fun v u i wr => ∃ (k : Nat) (V : Int) (acc : Bs), i = .int .i64 k ∧ k ≤ 8 ∧ u = .int .u64 V ∧ 0 ≤ V ∧ V < 18446744073709551616 ∧ OwnB wr W1.heap.size 5 v acc ∧ acc.length ≤ 1 + k ∧ Hid (acc ++ nb (8 - k) V = nb 8 U) ∧ Below W1.heap.size W1 wr) (fun _ _ i _ => 8 - (RowKit.intOf i).toNat)
  case atStart => exact ⟨0, U, [], rfl, by omega, rfl, hU0, hU1, ownR, by simp, by show _ = _; rfl, BR⟩
  case round =>
    obtain ⟨k, V, acc, rfl, hk, rfl, hV0, hV1, hown, hal, hac, hb⟩ := hrel
    by_cases hlt : k < 8
    · have hli : (k : Int) < 8 := by omega
      have t1 : V.tdiv 72057594037927936 = V / 72057594037927936 := Int.tdiv_eq_ediv_of_nonneg hV0
      have v1 : IntKind.u8.wrap (V / 72057594037927936) = V / 72057594037927936 := IntWalk.u8_in _ (by omega)
      have v2 : IntKind.u64.wrap (V * 256) = V * 256 % 18446744073709551616 := by rw [IntKind.wrap_u64]
      have hx0 : 0 ≤ V / 72057594037927936 := by omega
      have hx1 : V / 72057594037927936 < 256 := by omega
      have ownAQ := hown.alloc (.cells #[.int .u8 (V / 72057594037927936)] 5)
      have BAQ : Below W1.heap.size W1 (wr.alloc (.cells #[.int .u8 (V / 72057594037927936)] 5)) := hb.alloc hb.size _
      have hsAQ := BAQ.size
      have hnsQ : Hid (∀ z ∈ ([(V / 72057594037927936)] : List Int), 0 ≤ z ∧ z < 256) := by show ∀ z ∈ ([(V / 72057594037927936)] : List Int), 0 ≤ z ∧ z < 256; intro z hz; simp only [List.mem_cons, List.not_mem_nil, or_false] at hz; omega
      go_wp2_with (at_builtin; refine wpList_append_new rfl _ _ 77 rfl W1.heap.size 5 i0 (.int .u8 0) Tryz.underlying77 hi hz0 hz1 hz2 rfl _ _ rfl ownAQ ⟨wr.heap.size, 0, none⟩ 1 1 rfl [(V / 72057594037927936)] rfl (new_cells wr 5 [(V / 72057594037927936)]) hnsQ.out (by simp; omega) hsAQ ?_)
      intro vQ wQ ownQ hgQ
      have BQ := ownAQ.below BAQ hsAQ hgQ
      clear ownAQ hgQ BAQ hsAQ hnsQ
      have hac2 := hac.out
      obtain ⟨j, hj⟩ : ∃ j, 8 - k = j + 1 := ⟨8 - k - 1, by omega⟩
      rw [hj] at hac2
      have hj2 : 8 - (k + 1) = j := by omega
      have hac3 : Hid ((acc ++ [UInt8.ofNat (V / 72057594037927936).toNat]) ++ nb (8 - (k + 1)) (V * 256 % 18446744073709551616) = nb 8 U) := by
        show _ = _
        rw [hj2, List.append_assoc]
        exact hac2
      clear hac hac2 hj hj2
      go_wp2_with fail
      go_roundw
      case rel => exact ⟨k + 1, V * 256 % 18446744073709551616, acc ++ [UInt8.ofNat (V / 72057594037927936).toNat], by go_num, by omega, rfl, by omega, by omega, ownQ, by simp; omega, hac3, BQ⟩
      case measure => simp [RowKit.intOf]; omega
    · obtain rfl : k = 8 := by omega
      have hac2 := hac.out
      simp only [Nat.sub_self, nb, List.append_nil] at hac2
      have hcv := run_ownB_string (P := Tryz.prog) (src := 77) (dst := 9) Tryz.underlying77 Tryz.underlying5 Tryz.underlying9 hown
      have HAC := Lib.hid hac2
      clear hac hac2
      go_wp2_with fail
      go_ret2
      exact ⟨by show _ = Ending.returned (.tuple #[.string ⟨(nb 8 U).toArray⟩, .int .i64 0]); rw [nb] ; simp only [nb]; rw [← HAC.out]; first | done | rfl, X1.out.bel.trans (hb.mono X1.out.bel.size)⟩
set_option maxRecDepth 100000 in
set_option maxHeartbeats 4000000 in
theorem rbits_t4f (n : Int) (S : ByteArray) (w : World) (hs : S.size ≤ 100000) (b0 : -9223372036854775808 ≤ n) (b1 : n ≤ 9223372036854775807) (hc : kCheck 4 false false n S.data.toList = 0) :
    Calls Tryz.prog 93 #[.agg #[.int .i64 4, .bool false], .agg #[.bool false, .int .i64 n, .string S]] w fun e w' => e = .returned (.tuple #[.string ⟨(rowD S.data.toList).toArray⟩, .int .i64 0]) ∧ Below w.heap.size w w' := by
  obtain ⟨i0, hi, hz0, hz1, hz2⟩ := info_parts infoU8
  have cc := fun w' => rcheck_any 4 false false n S w' hs b0 b1
  rw [hc] at cc
  have x0 := TBx.start w 4 false false n S
  have hlS : S.data.toList.length = S.size := by simp
  have rn := fun w' => rnumber_any 4 false w'
  rw [show decide ((4 : Int) ≤ 3) = false by decide] at rn
  have CC := Lib.hid cc; have X0 := Lib.hid x0; have RN := Lib.hid rn
  clear cc x0 hc rn
  go_enter Tryz.func93, Tryz.ntmps93
  go_wp2_with fail
  refine (CC.out _).mono ?_
  rintro en W1 ⟨rfl, bb1⟩
  have x1 := X0.out.step bb1
  obtain ⟨d0, d1, a0, a1, a2, f0, f1, f2, l0, l1⟩ := x1.cells
  have X1 := Lib.hid x1
  clear x1 bb1
  have ownP : OwnB W1 W1.heap.size 5 (.slice none 0 0) ([] : Bs) := OwnB.nil _ _ _
  have BP : Below W1.heap.size W1 W1 := Below.refl _ _
  go_wp2_with fail
  refine (RN.out _).mono ?_
  rintro en wA ⟨rfl, bbA⟩
  have ownR := ownP.kept bbA
  have BR := BP.trans (bbA.mono BP.size)
  clear ownP BP bbA
  clear d0 d1 a0 a1 a2 f0 f1 f2 l0 l1
  have xsR := X1.out.step BR
  obtain ⟨d0, d1, a0, a1, a2, f0, f1, f2, l0, l1⟩ := xsR.cells
  clear xsR
  clear d0 d1 a0 a1 a2 f0 f1 f2 l0 l1
  go_wp2_with fail
  go_loopw [7, 10] (fun v i wr => ∃ (k : Nat), i = .int .i64 k ∧ k ≤ S.size ∧ OwnB wr W1.heap.size 5 v (escD (S.data.toList.take k)) ∧ Below W1.heap.size W1 wr) (fun _ i _ => S.size - (RowKit.intOf i).toNat)
  case atStart => exact ⟨0, rfl, by omega, ownR, BR⟩
  case round =>
    obtain ⟨k, rfl, hk, hown, hb⟩ := hrel
    have xr := X1.out.step hb
    obtain ⟨d0, d1, a0, a1, a2, f0, f1, f2, l0, l1⟩ := xr.cells
    clear xr
    have hel := escD_len (S.data.toList.take k)
    rw [List.length_take] at hel
    have hel2 : (escD (S.data.toList.take k)).length ≤ 2 * S.size + 1 := by (try simp only [List.length_cons]); omega
    by_cases hlt : k < S.size
    · have hli : (k : Int) < (S.size : Int) := by omega
      have gi : ((S[k]'hlt).toNat : Int) = (bt S.data.toList k : Int) := by rw [get_of]; rfl
      have hx := bt_lt S.data.toList k
      have hsn := esc_snoc S.data.toList k (by omega)
      have hbe : S.data.toList[k]'(by omega) = UInt8.ofNat (bt S.data.toList k) := by simp [bt, List.getD_eq_getElem?_getD, hlt]
      rw [hbe] at hsn
      generalize bt S.data.toList k = x at *
      have HSN := Lib.hid hsn
      clear hsn hbe hel
      have ownAQ := hown.alloc (.cells #[.int .u8 (x : Int)] 5)
      have BAQ : Below W1.heap.size W1 (wr.alloc (.cells #[.int .u8 (x : Int)] 5)) := hb.alloc hb.size _
      have hsAQ := BAQ.size
      have hnsQ : Hid (∀ z ∈ ([(x : Int)] : List Int), 0 ≤ z ∧ z < 256) := by show ∀ z ∈ ([(x : Int)] : List Int), 0 ≤ z ∧ z < 256; intro z hz; simp only [List.mem_cons, List.not_mem_nil, or_false] at hz; omega
      go_wp2_with (at_builtin; refine wpList_append_new rfl _ _ 77 rfl W1.heap.size 5 i0 (.int .u8 0) Tryz.underlying77 hi hz0 hz1 hz2 rfl _ _ rfl ownAQ ⟨wr.heap.size, 0, none⟩ 1 1 rfl [(x : Int)] rfl (new_cells wr 5 [(x : Int)]) hnsQ.out (by have := hel2; omega) hsAQ ?_)
      intro vQ wQ ownQ hgQ
      have BQ := ownAQ.below BAQ hsAQ hgQ
      clear ownAQ hgQ BAQ hsAQ hnsQ
      clear d0 d1 a0 a1 a2 f0 f1 f2 l0 l1
      have xsQ := X1.out.step BQ
      obtain ⟨d0, d1, a0, a1, a2, f0, f1, f2, l0, l1⟩ := xsQ.cells
      clear xsQ
      by_cases hx0 : x = 0
      · subst hx0
        have ownAV := ownQ.alloc (.cells #[.int .u8 255] 5)
        have BAV : Below W1.heap.size W1 (wQ.alloc (.cells #[.int .u8 255] 5)) := BQ.alloc BQ.size _
        have hsAV := BAV.size
        have hnsV : Hid (∀ z ∈ ([255] : List Int), 0 ≤ z ∧ z < 256) := by show ∀ z ∈ ([255] : List Int), 0 ≤ z ∧ z < 256; intro z hz; simp only [List.mem_cons, List.not_mem_nil, or_false] at hz; omega
        go_wp2_with (at_builtin; refine wpList_append_new rfl _ _ 77 rfl W1.heap.size 5 i0 (.int .u8 0) Tryz.underlying77 hi hz0 hz1 hz2 rfl _ _ rfl ownAV ⟨wQ.heap.size, 0, none⟩ 1 1 rfl [255] rfl (new_cells wQ 5 [255]) hnsV.out (by have := hel2; (try simp only [List.length_append, List.length_map, List.length_cons, List.length_nil] at this ⊢); omega) hsAV ?_)
        intro vV wV ownV hgV
        have BV := ownAV.below BAV hsAV hgV
        clear ownAV hgV BAV hsAV hnsV
        have ownV2 : OwnB wV W1.heap.size 5 vV (escD (S.data.toList.take (k + 1))) := by
          rw [HSN.out]
          have e : escb (UInt8.ofNat 0) = [0, 255] := rfl
          rw [e]
          simpa using ownV
        go_wp2_with fail
        go_roundw
        case rel => exact ⟨k + 1, by go_num, by omega, ownV2, BV⟩
        case measure => simp [RowKit.intOf]; omega
      · have hxi : ((x : Int) == 0) = false := by rw [beq_eq_false_iff_ne]; omega
        have ownQ2 : OwnB wQ W1.heap.size 5 vQ (escD (S.data.toList.take (k + 1))) := by
          rw [HSN.out]
          have e : escb (UInt8.ofNat x) = [UInt8.ofNat x] := by
            unfold escb; rw [if_neg]
            intro e
            have := congrArg UInt8.toNat e
            simp at this
            omega
          rw [e]
          simpa using ownQ
        go_wp2_with fail
        go_roundw
        case rel => exact ⟨k + 1, by go_num, by omega, ownQ2, BQ⟩
        case measure => simp [RowKit.intOf]; omega
    · have hli : ¬ (k : Int) < (S.size : Int) := by omega
      rw [List.take_of_length_le (by omega)] at hown hel2
      have ownAQ := hown.alloc (.cells #[.int .u8 0, .int .u8 0] 5)
      have BAQ : Below W1.heap.size W1 (wr.alloc (.cells #[.int .u8 0, .int .u8 0] 5)) := hb.alloc hb.size _
      have hsAQ := BAQ.size
      have hnsQ : Hid (∀ z ∈ ([0, 0] : List Int), 0 ≤ z ∧ z < 256) := by show ∀ z ∈ ([0, 0] : List Int), 0 ≤ z ∧ z < 256; intro z hz; simp only [List.mem_cons, List.not_mem_nil, or_false] at hz; omega
      go_wp2_with (at_builtin; refine wpList_append_new rfl _ _ 77 rfl W1.heap.size 5 i0 (.int .u8 0) Tryz.underlying77 hi hz0 hz1 hz2 rfl _ _ rfl ownAQ ⟨wr.heap.size, 0, none⟩ 2 2 rfl [0, 0] rfl (new_cells wr 5 [0, 0]) hnsQ.out (by have := hel2; (try simp only [List.length_cons, List.length_nil] at this ⊢); omega) hsAQ ?_)
      intro vQ wQ ownQ hgQ
      have BQ := ownAQ.below BAQ hsAQ hgQ
      clear ownAQ hgQ BAQ hsAQ hnsQ
      have ownQ2 : OwnB wQ W1.heap.size 5 vQ (rowD S.data.toList) := by
        unfold rowD
        simpa using ownQ
      have hcv := run_ownB_string (P := Tryz.prog) (src := 77) (dst := 9) Tryz.underlying77 Tryz.underlying5 Tryz.underlying9 ownQ2
      go_wp2_with fail
      go_ret2
      exact ⟨rfl, X1.out.bel.trans (BQ.mono X1.out.bel.size)⟩
set_option maxRecDepth 100000 in
set_option maxHeartbeats 4000000 in
theorem rbits_t5f (n : Int) (S : ByteArray) (w : World) (hs : S.size ≤ 100000) (b0 : -9223372036854775808 ≤ n) (b1 : n ≤ 9223372036854775807) (hc : kCheck 5 false false n S.data.toList = 0) :
    Calls Tryz.prog 93 #[.agg #[.int .i64 5, .bool false], .agg #[.bool false, .int .i64 n, .string S]] w fun e w' => e = .returned (.tuple #[.string ⟨(rowD S.data.toList).toArray⟩, .int .i64 0]) ∧ Below w.heap.size w w' := by
  obtain ⟨i0, hi, hz0, hz1, hz2⟩ := info_parts infoU8
  have cc := fun w' => rcheck_any 5 false false n S w' hs b0 b1
  rw [hc] at cc
  have x0 := TBx.start w 5 false false n S
  have hlS : S.data.toList.length = S.size := by simp
  have rn := fun w' => rnumber_any 5 false w'
  rw [show decide ((5 : Int) ≤ 3) = false by decide] at rn
  have CC := Lib.hid cc; have X0 := Lib.hid x0; have RN := Lib.hid rn
  clear cc x0 hc rn
  go_enter Tryz.func93, Tryz.ntmps93
  go_wp2_with fail
  refine (CC.out _).mono ?_
  rintro en W1 ⟨rfl, bb1⟩
  have x1 := X0.out.step bb1
  obtain ⟨d0, d1, a0, a1, a2, f0, f1, f2, l0, l1⟩ := x1.cells
  have X1 := Lib.hid x1
  clear x1 bb1
  have ownP : OwnB W1 W1.heap.size 5 (.slice none 0 0) ([] : Bs) := OwnB.nil _ _ _
  have BP : Below W1.heap.size W1 W1 := Below.refl _ _
  go_wp2_with fail
  refine (RN.out _).mono ?_
  rintro en wA ⟨rfl, bbA⟩
  have ownR := ownP.kept bbA
  have BR := BP.trans (bbA.mono BP.size)
  clear ownP BP bbA
  clear d0 d1 a0 a1 a2 f0 f1 f2 l0 l1
  have xsR := X1.out.step BR
  obtain ⟨d0, d1, a0, a1, a2, f0, f1, f2, l0, l1⟩ := xsR.cells
  clear xsR
  clear d0 d1 a0 a1 a2 f0 f1 f2 l0 l1
  go_wp2_with fail
  go_loopw [7, 10] (fun v i wr => ∃ (k : Nat), i = .int .i64 k ∧ k ≤ S.size ∧ OwnB wr W1.heap.size 5 v (escD (S.data.toList.take k)) ∧ Below W1.heap.size W1 wr) (fun _ i _ => S.size - (RowKit.intOf i).toNat)
  case atStart => exact ⟨0, rfl, by omega, ownR, BR⟩
  case round =>
    obtain ⟨k, rfl, hk, hown, hb⟩ := hrel
    have xr := X1.out.step hb
    obtain ⟨d0, d1, a0, a1, a2, f0, f1, f2, l0, l1⟩ := xr.cells
    clear xr
    have hel := escD_len (S.data.toList.take k)
    rw [List.length_take] at hel
    have hel2 : (escD (S.data.toList.take k)).length ≤ 2 * S.size + 1 := by (try simp only [List.length_cons]); omega
    by_cases hlt : k < S.size
    · have hli : (k : Int) < (S.size : Int) := by omega
      have gi : ((S[k]'hlt).toNat : Int) = (bt S.data.toList k : Int) := by rw [get_of]; rfl
      have hx := bt_lt S.data.toList k
      have hsn := esc_snoc S.data.toList k (by omega)
      have hbe : S.data.toList[k]'(by omega) = UInt8.ofNat (bt S.data.toList k) := by simp [bt, List.getD_eq_getElem?_getD, hlt]
      rw [hbe] at hsn
      generalize bt S.data.toList k = x at *
      have HSN := Lib.hid hsn
      clear hsn hbe hel
      have ownAQ := hown.alloc (.cells #[.int .u8 (x : Int)] 5)
      have BAQ : Below W1.heap.size W1 (wr.alloc (.cells #[.int .u8 (x : Int)] 5)) := hb.alloc hb.size _
      have hsAQ := BAQ.size
      have hnsQ : Hid (∀ z ∈ ([(x : Int)] : List Int), 0 ≤ z ∧ z < 256) := by show ∀ z ∈ ([(x : Int)] : List Int), 0 ≤ z ∧ z < 256; intro z hz; simp only [List.mem_cons, List.not_mem_nil, or_false] at hz; omega
      go_wp2_with (at_builtin; refine wpList_append_new rfl _ _ 77 rfl W1.heap.size 5 i0 (.int .u8 0) Tryz.underlying77 hi hz0 hz1 hz2 rfl _ _ rfl ownAQ ⟨wr.heap.size, 0, none⟩ 1 1 rfl [(x : Int)] rfl (new_cells wr 5 [(x : Int)]) hnsQ.out (by have := hel2; omega) hsAQ ?_)
      intro vQ wQ ownQ hgQ
      have BQ := ownAQ.below BAQ hsAQ hgQ
      clear ownAQ hgQ BAQ hsAQ hnsQ
      clear d0 d1 a0 a1 a2 f0 f1 f2 l0 l1
      have xsQ := X1.out.step BQ
      obtain ⟨d0, d1, a0, a1, a2, f0, f1, f2, l0, l1⟩ := xsQ.cells
      clear xsQ
      by_cases hx0 : x = 0
      · subst hx0
        have ownAV := ownQ.alloc (.cells #[.int .u8 255] 5)
        have BAV : Below W1.heap.size W1 (wQ.alloc (.cells #[.int .u8 255] 5)) := BQ.alloc BQ.size _
        have hsAV := BAV.size
        have hnsV : Hid (∀ z ∈ ([255] : List Int), 0 ≤ z ∧ z < 256) := by show ∀ z ∈ ([255] : List Int), 0 ≤ z ∧ z < 256; intro z hz; simp only [List.mem_cons, List.not_mem_nil, or_false] at hz; omega
        go_wp2_with (at_builtin; refine wpList_append_new rfl _ _ 77 rfl W1.heap.size 5 i0 (.int .u8 0) Tryz.underlying77 hi hz0 hz1 hz2 rfl _ _ rfl ownAV ⟨wQ.heap.size, 0, none⟩ 1 1 rfl [255] rfl (new_cells wQ 5 [255]) hnsV.out (by have := hel2; (try simp only [List.length_append, List.length_map, List.length_cons, List.length_nil] at this ⊢); omega) hsAV ?_)
        intro vV wV ownV hgV
        have BV := ownAV.below BAV hsAV hgV
        clear ownAV hgV BAV hsAV hnsV
        have ownV2 : OwnB wV W1.heap.size 5 vV (escD (S.data.toList.take (k + 1))) := by
          rw [HSN.out]
          have e : escb (UInt8.ofNat 0) = [0, 255] := rfl
          rw [e]
          simpa using ownV
        go_wp2_with fail
        go_roundw
        case rel => exact ⟨k + 1, by go_num, by omega, ownV2, BV⟩
        case measure => simp [RowKit.intOf]; omega
      · have hxi : ((x : Int) == 0) = false := by rw [beq_eq_false_iff_ne]; omega
        have ownQ2 : OwnB wQ W1.heap.size 5 vQ (escD (S.data.toList.take (k + 1))) := by
          rw [HSN.out]
          have e : escb (UInt8.ofNat x) = [UInt8.ofNat x] := by
            unfold escb; rw [if_neg]
            intro e
            have := congrArg UInt8.toNat e
            simp at this
            omega
          rw [e]
          simpa using ownQ
        go_wp2_with fail
        go_roundw
        case rel => exact ⟨k + 1, by go_num, by omega, ownQ2, BQ⟩
        case measure => simp [RowKit.intOf]; omega
    · have hli : ¬ (k : Int) < (S.size : Int) := by omega
      rw [List.take_of_length_le (by omega)] at hown hel2
      have ownAQ := hown.alloc (.cells #[.int .u8 0, .int .u8 0] 5)
      have BAQ : Below W1.heap.size W1 (wr.alloc (.cells #[.int .u8 0, .int .u8 0] 5)) := hb.alloc hb.size _
      have hsAQ := BAQ.size
      have hnsQ : Hid (∀ z ∈ ([0, 0] : List Int), 0 ≤ z ∧ z < 256) := by show ∀ z ∈ ([0, 0] : List Int), 0 ≤ z ∧ z < 256; intro z hz; simp only [List.mem_cons, List.not_mem_nil, or_false] at hz; omega
      go_wp2_with (at_builtin; refine wpList_append_new rfl _ _ 77 rfl W1.heap.size 5 i0 (.int .u8 0) Tryz.underlying77 hi hz0 hz1 hz2 rfl _ _ rfl ownAQ ⟨wr.heap.size, 0, none⟩ 2 2 rfl [0, 0] rfl (new_cells wr 5 [0, 0]) hnsQ.out (by have := hel2; (try simp only [List.length_cons, List.length_nil] at this ⊢); omega) hsAQ ?_)
      intro vQ wQ ownQ hgQ
      have BQ := ownAQ.below BAQ hsAQ hgQ
      clear ownAQ hgQ BAQ hsAQ hnsQ
      have ownQ2 : OwnB wQ W1.heap.size 5 vQ (rowD S.data.toList) := by
        unfold rowD
        simpa using ownQ
      have hcv := run_ownB_string (P := Tryz.prog) (src := 77) (dst := 9) Tryz.underlying77 Tryz.underlying5 Tryz.underlying9 ownQ2
      go_wp2_with fail
      go_ret2
      exact ⟨rfl, X1.out.bel.trans (BQ.mono X1.out.bel.size)⟩
set_option maxRecDepth 100000 in
set_option maxHeartbeats 4000000 in
theorem rbits_bt (n : Int) (S : ByteArray) (w : World) (hs : S.size ≤ 100000) (b0 : -9223372036854775808 ≤ n) (b1 : n ≤ 9223372036854775807) (hc : kCheck 1 true false n S.data.toList = 0) :
    Calls Tryz.prog 93 #[.agg #[.int .i64 1, .bool true], .agg #[.bool false, .int .i64 n, .string S]] w fun e w' => e = .returned (.tuple #[.string ⟨(1 :: [UInt8.ofNat n.toNat]).toArray⟩, .int .i64 0]) ∧ Below w.heap.size w w' := by
  obtain ⟨i0, hi, hz0, hz1, hz2⟩ := info_parts infoU8
  have cc := fun w' => rcheck_any 1 true false n S w' hs b0 b1
  rw [hc] at cc
  have x0 := TBx.start w 1 true false n S
  have hlS : S.data.toList.length = S.size := by simp
  obtain ⟨_, h0, h1⟩ := is1.1 (ok_some (check_zero hc).2)
  have u1 : IntKind.u8.wrap n = n := IntWalk.u8_in _ (by omega)
  have CC := Lib.hid cc; have X0 := Lib.hid x0
  clear cc x0 hc
  go_enter Tryz.func93, Tryz.ntmps93
  go_wp2_with fail
  refine (CC.out _).mono ?_
  rintro en W1 ⟨rfl, bb1⟩
  have x1 := X0.out.step bb1
  obtain ⟨d0, d1, a0, a1, a2, f0, f1, f2, l0, l1⟩ := x1.cells
  have X1 := Lib.hid x1
  clear x1 bb1
  have ownN : OwnB W1 W1.heap.size 5 (.slice none 0 0) ([] : Bs) := OwnB.nil _ _ _
  have BN : Below W1.heap.size W1 W1 := Below.refl _ _
  have ownAP := ownN.alloc (.cells #[.int .u8 1] 5)
  have BAP : Below W1.heap.size W1 (W1.alloc (.cells #[.int .u8 1] 5)) := BN.alloc BN.size _
  have hsAP := BAP.size
  have hnsP : Hid (∀ z ∈ ([1] : List Int), 0 ≤ z ∧ z < 256) := by show ∀ z ∈ ([1] : List Int), 0 ≤ z ∧ z < 256; intro z hz; simp only [List.mem_cons, List.not_mem_nil, or_false] at hz; omega
  go_wp2_with (at_builtin; refine wpList_append_new rfl _ _ 77 rfl W1.heap.size 5 i0 (.int .u8 0) Tryz.underlying77 hi hz0 hz1 hz2 rfl _ _ rfl ownAP ⟨W1.heap.size, 0, none⟩ 1 1 rfl [1] rfl (new_cells W1 5 [1]) hnsP.out (by decide) hsAP ?_)
  intro vP wP ownP hgP
  have BP := ownAP.below BAP hsAP hgP
  clear ownAP hgP BAP hsAP hnsP
  clear d0 d1 a0 a1 a2 f0 f1 f2 l0 l1
  have xsP := X1.out.step BP
  obtain ⟨d0, d1, a0, a1, a2, f0, f1, f2, l0, l1⟩ := xsP.cells
  clear xsP
  have ownAQ := ownP.alloc (.cells #[.int .u8 n] 5)
  have BAQ : Below W1.heap.size W1 (wP.alloc (.cells #[.int .u8 n] 5)) := BP.alloc BP.size _
  have hsAQ := BAQ.size
  have hnsQ : Hid (∀ z ∈ ([n] : List Int), 0 ≤ z ∧ z < 256) := by show ∀ z ∈ ([n] : List Int), 0 ≤ z ∧ z < 256; intro z hz; simp only [List.mem_cons, List.not_mem_nil, or_false] at hz; omega
  go_wp2_with (at_builtin; refine wpList_append_new rfl _ _ 77 rfl W1.heap.size 5 i0 (.int .u8 0) Tryz.underlying77 hi hz0 hz1 hz2 rfl _ _ rfl ownAQ ⟨wP.heap.size, 0, none⟩ 1 1 rfl [n] rfl (new_cells wP 5 [n]) hnsQ.out (by simp) hsAQ ?_)
  intro vQ wQ ownQ hgQ
  have BQ := ownAQ.below BAQ hsAQ hgQ
  clear ownAQ hgQ BAQ hsAQ hnsQ
  have hcv := run_ownB_string (P := Tryz.prog) (src := 77) (dst := 9) Tryz.underlying77 Tryz.underlying5 Tryz.underlying9 ownQ
  go_wp2_with fail
  go_ret2
  exact ⟨rfl, X1.out.bel.trans (BQ.mono X1.out.bel.size)⟩
set_option maxRecDepth 100000 in
set_option maxHeartbeats 4000000 in
theorem rbits_n2t (n : Int) (S : ByteArray) (w : World) (hs : S.size ≤ 100000) (b0 : -9223372036854775808 ≤ n) (b1 : n ≤ 9223372036854775807) (hc : kCheck 2 true false n S.data.toList = 0) :
    Calls Tryz.prog 93 #[.agg #[.int .i64 2, .bool true], .agg #[.bool false, .int .i64 n, .string S]] w fun e w' => e = .returned (.tuple #[.string ⟨(1 :: kNum (n + 9223372036854775808)).toArray⟩, .int .i64 0]) ∧ Below w.heap.size w w' := by
  obtain ⟨i0, hi, hz0, hz1, hz2⟩ := info_parts infoU8
  have cc := fun w' => rcheck_any 2 true false n S w' hs b0 b1
  rw [hc] at cc
  have x0 := TBx.start w 2 true false n S
  have hlS : S.data.toList.length = S.size := by simp
  have rn := fun w' => rnumber_any 2 true w'
  rw [show decide ((2 : Int) ≤ 3) = true by decide] at rn
  have hu : IntKind.u64.wrap (IntKind.u64.wrap n + 9223372036854775808) = n + 9223372036854775808 := by
    rw [IntKind.wrap_u64, IntKind.wrap_u64]; omega
  have hnb := nb8 (U := n + 9223372036854775808) (by omega) (by omega)
  rw [← hnb]
  have hU0 : 0 ≤ n + 9223372036854775808 := by omega
  have hU1 : n + 9223372036854775808 < 18446744073709551616 := by omega
  obtain ⟨U, hU⟩ : ∃ U, n + 9223372036854775808 = U := ⟨_, rfl⟩
  rw [hU] at hu hU0 hU1 ⊢
  have CC := Lib.hid cc; have X0 := Lib.hid x0; have RN := Lib.hid rn
  clear cc x0 hc rn hnb hU
  go_enter Tryz.func93, Tryz.ntmps93
  go_wp2_with fail
  refine (CC.out _).mono ?_
  rintro en W1 ⟨rfl, bb1⟩
  have x1 := X0.out.step bb1
  obtain ⟨d0, d1, a0, a1, a2, f0, f1, f2, l0, l1⟩ := x1.cells
  have X1 := Lib.hid x1
  clear x1 bb1
  have ownN : OwnB W1 W1.heap.size 5 (.slice none 0 0) ([] : Bs) := OwnB.nil _ _ _
  have BN : Below W1.heap.size W1 W1 := Below.refl _ _
  have ownAP := ownN.alloc (.cells #[.int .u8 1] 5)
  have BAP : Below W1.heap.size W1 (W1.alloc (.cells #[.int .u8 1] 5)) := BN.alloc BN.size _
  have hsAP := BAP.size
  have hnsP : Hid (∀ z ∈ ([1] : List Int), 0 ≤ z ∧ z < 256) := by show ∀ z ∈ ([1] : List Int), 0 ≤ z ∧ z < 256; intro z hz; simp only [List.mem_cons, List.not_mem_nil, or_false] at hz; omega
  go_wp2_with (at_builtin; refine wpList_append_new rfl _ _ 77 rfl W1.heap.size 5 i0 (.int .u8 0) Tryz.underlying77 hi hz0 hz1 hz2 rfl _ _ rfl ownAP ⟨W1.heap.size, 0, none⟩ 1 1 rfl [1] rfl (new_cells W1 5 [1]) hnsP.out (by decide) hsAP ?_)
  intro vP wP ownP hgP
  have BP := ownAP.below BAP hsAP hgP
  clear ownAP hgP BAP hsAP hnsP
  clear d0 d1 a0 a1 a2 f0 f1 f2 l0 l1
  have xsP := X1.out.step BP
  obtain ⟨d0, d1, a0, a1, a2, f0, f1, f2, l0, l1⟩ := xsP.cells
  clear xsP
  go_wp2_with fail
  refine (RN.out _).mono ?_
  rintro en wA ⟨rfl, bbA⟩
  have ownR := ownP.kept bbA
  have BR := BP.trans (bbA.mono BP.size)
  clear ownP BP bbA
  clear d0 d1 a0 a1 a2 f0 f1 f2 l0 l1
  have xsR := X1.out.step BR
  obtain ⟨d0, d1, a0, a1, a2, f0, f1, f2, l0, l1⟩ := xsR.cells
  clear xsR
  go_wp2_with fail
  go_loopw [7, 8, 9] (fun v u i wr => ∃ (k : Nat) (V : Int) (acc : Bs), i = .int .i64 k ∧ k ≤ 8 ∧ u = .int .u64 V ∧ 0 ≤ V ∧ V < 18446744073709551616 ∧ OwnB wr W1.heap.size 5 v acc ∧ acc.length ≤ 1 + k ∧ Hid (acc ++ nb (8 - k) V = 1 :: nb 8 U) ∧ Below W1.heap.size W1 wr) (fun _ _ i _ => 8 - (RowKit.intOf i).toNat)
  case atStart => exact ⟨0, U, [1], rfl, by omega, rfl, hU0, hU1, ownR, by simp, by show _ = _; rfl, BR⟩
  case round =>
    obtain ⟨k, V, acc, rfl, hk, rfl, hV0, hV1, hown, hal, hac, hb⟩ := hrel
    by_cases hlt : k < 8
    · have hli : (k : Int) < 8 := by omega
      have t1 : V.tdiv 72057594037927936 = V / 72057594037927936 := Int.tdiv_eq_ediv_of_nonneg hV0
      have v1 : IntKind.u8.wrap (V / 72057594037927936) = V / 72057594037927936 := IntWalk.u8_in _ (by omega)
      have v2 : IntKind.u64.wrap (V * 256) = V * 256 % 18446744073709551616 := by rw [IntKind.wrap_u64]
      have hx0 : 0 ≤ V / 72057594037927936 := by omega
      have hx1 : V / 72057594037927936 < 256 := by omega
      have ownAQ := hown.alloc (.cells #[.int .u8 (V / 72057594037927936)] 5)
      have BAQ : Below W1.heap.size W1 (wr.alloc (.cells #[.int .u8 (V / 72057594037927936)] 5)) := hb.alloc hb.size _
      have hsAQ := BAQ.size
      have hnsQ : Hid (∀ z ∈ ([(V / 72057594037927936)] : List Int), 0 ≤ z ∧ z < 256) := by show ∀ z ∈ ([(V / 72057594037927936)] : List Int), 0 ≤ z ∧ z < 256; intro z hz; simp only [List.mem_cons, List.not_mem_nil, or_false] at hz; omega
      go_wp2_with (at_builtin; refine wpList_append_new rfl _ _ 77 rfl W1.heap.size 5 i0 (.int .u8 0) Tryz.underlying77 hi hz0 hz1 hz2 rfl _ _ rfl ownAQ ⟨wr.heap.size, 0, none⟩ 1 1 rfl [(V / 72057594037927936)] rfl (new_cells wr 5 [(V / 72057594037927936)]) hnsQ.out (by simp; omega) hsAQ ?_)
      intro vQ wQ ownQ hgQ
      have BQ := ownAQ.below BAQ hsAQ hgQ
      clear ownAQ hgQ BAQ hsAQ hnsQ
      have hac2 := hac.out
      obtain ⟨j, hj⟩ : ∃ j, 8 - k = j + 1 := ⟨8 - k - 1, by omega⟩
      rw [hj] at hac2
      have hj2 : 8 - (k + 1) = j := by omega
      have hac3 : Hid ((acc ++ [UInt8.ofNat (V / 72057594037927936).toNat]) ++ nb (8 - (k + 1)) (V * 256 % 18446744073709551616) = 1 :: nb 8 U) := by
        show _ = _
        rw [hj2, List.append_assoc]
        exact hac2
      clear hac hac2 hj hj2
      go_wp2_with fail
      go_roundw
      case rel => exact ⟨k + 1, V * 256 % 18446744073709551616, acc ++ [UInt8.ofNat (V / 72057594037927936).toNat], by go_num, by omega, rfl, by omega, by omega, ownQ, by simp; omega, hac3, BQ⟩
      case measure => simp [RowKit.intOf]; omega
    · obtain rfl : k = 8 := by omega
      have hac2 := hac.out
      simp only [Nat.sub_self, nb, List.append_nil] at hac2
      have hcv := run_ownB_string (P := Tryz.prog) (src := 77) (dst := 9) Tryz.underlying77 Tryz.underlying5 Tryz.underlying9 hown
      have HAC := Lib.hid hac2
      clear hac hac2
      go_wp2_with fail
      go_ret2
      exact ⟨by show _ = Ending.returned (.tuple #[.string ⟨(1 :: nb 8 U).toArray⟩, .int .i64 0]); rw [nb] ; simp only [nb]; rw [← HAC.out]; first | done | rfl, X1.out.bel.trans (hb.mono X1.out.bel.size)⟩
set_option maxRecDepth 100000 in
set_option maxHeartbeats 4000000 in
theorem rbits_n3t (n : Int) (S : ByteArray) (w : World) (hs : S.size ≤ 100000) (b0 : -9223372036854775808 ≤ n) (b1 : n ≤ 9223372036854775807) (hc : kCheck 3 true false n S.data.toList = 0) :
    Calls Tryz.prog 93 #[.agg #[.int .i64 3, .bool true], .agg #[.bool false, .int .i64 n, .string S]] w fun e w' => e = .returned (.tuple #[.string ⟨(1 :: kNum (n + 9223372036854775808)).toArray⟩, .int .i64 0]) ∧ Below w.heap.size w w' := by
  obtain ⟨i0, hi, hz0, hz1, hz2⟩ := info_parts infoU8
  have cc := fun w' => rcheck_any 3 true false n S w' hs b0 b1
  rw [hc] at cc
  have x0 := TBx.start w 3 true false n S
  have hlS : S.data.toList.length = S.size := by simp
  have rn := fun w' => rnumber_any 3 true w'
  rw [show decide ((3 : Int) ≤ 3) = true by decide] at rn
  have hu : IntKind.u64.wrap (IntKind.u64.wrap n + 9223372036854775808) = n + 9223372036854775808 := by
    rw [IntKind.wrap_u64, IntKind.wrap_u64]; omega
  have hnb := nb8 (U := n + 9223372036854775808) (by omega) (by omega)
  rw [← hnb]
  have hU0 : 0 ≤ n + 9223372036854775808 := by omega
  have hU1 : n + 9223372036854775808 < 18446744073709551616 := by omega
  obtain ⟨U, hU⟩ : ∃ U, n + 9223372036854775808 = U := ⟨_, rfl⟩
  rw [hU] at hu hU0 hU1 ⊢
  have CC := Lib.hid cc; have X0 := Lib.hid x0; have RN := Lib.hid rn
  clear cc x0 hc rn hnb hU
  go_enter Tryz.func93, Tryz.ntmps93
  go_wp2_with fail
  refine (CC.out _).mono ?_
  rintro en W1 ⟨rfl, bb1⟩
  have x1 := X0.out.step bb1
  obtain ⟨d0, d1, a0, a1, a2, f0, f1, f2, l0, l1⟩ := x1.cells
  have X1 := Lib.hid x1
  clear x1 bb1
  have ownN : OwnB W1 W1.heap.size 5 (.slice none 0 0) ([] : Bs) := OwnB.nil _ _ _
  have BN : Below W1.heap.size W1 W1 := Below.refl _ _
  have ownAP := ownN.alloc (.cells #[.int .u8 1] 5)
  have BAP : Below W1.heap.size W1 (W1.alloc (.cells #[.int .u8 1] 5)) := BN.alloc BN.size _
  have hsAP := BAP.size
  have hnsP : Hid (∀ z ∈ ([1] : List Int), 0 ≤ z ∧ z < 256) := by show ∀ z ∈ ([1] : List Int), 0 ≤ z ∧ z < 256; intro z hz; simp only [List.mem_cons, List.not_mem_nil, or_false] at hz; omega
  go_wp2_with (at_builtin; refine wpList_append_new rfl _ _ 77 rfl W1.heap.size 5 i0 (.int .u8 0) Tryz.underlying77 hi hz0 hz1 hz2 rfl _ _ rfl ownAP ⟨W1.heap.size, 0, none⟩ 1 1 rfl [1] rfl (new_cells W1 5 [1]) hnsP.out (by decide) hsAP ?_)
  intro vP wP ownP hgP
  have BP := ownAP.below BAP hsAP hgP
  clear ownAP hgP BAP hsAP hnsP
  clear d0 d1 a0 a1 a2 f0 f1 f2 l0 l1
  have xsP := X1.out.step BP
  obtain ⟨d0, d1, a0, a1, a2, f0, f1, f2, l0, l1⟩ := xsP.cells
  clear xsP
  go_wp2_with fail
  refine (RN.out _).mono ?_
  rintro en wA ⟨rfl, bbA⟩
  have ownR := ownP.kept bbA
  have BR := BP.trans (bbA.mono BP.size)
  clear ownP BP bbA
  clear d0 d1 a0 a1 a2 f0 f1 f2 l0 l1
  have xsR := X1.out.step BR
  obtain ⟨d0, d1, a0, a1, a2, f0, f1, f2, l0, l1⟩ := xsR.cells
  clear xsR
  go_wp2_with fail
  go_loopw [7, 8, 9] (fun v u i wr => ∃ (k : Nat) (V : Int) (acc : Bs), i = .int .i64 k ∧ k ≤ 8 ∧ u = .int .u64 V ∧ 0 ≤ V ∧ V < 18446744073709551616 ∧ OwnB wr W1.heap.size 5 v acc ∧ acc.length ≤ 1 + k ∧ Hid (acc ++ nb (8 - k) V = 1 :: nb 8 U) ∧ Below W1.heap.size W1 wr) (fun _ _ i _ => 8 - (RowKit.intOf i).toNat)
  case atStart => exact ⟨0, U, [1], rfl, by omega, rfl, hU0, hU1, ownR, by simp, by show _ = _; rfl, BR⟩
  case round =>
    obtain ⟨k, V, acc, rfl, hk, rfl, hV0, hV1, hown, hal, hac, hb⟩ := hrel
    by_cases hlt : k < 8
    · have hli : (k : Int) < 8 := by omega
      have t1 : V.tdiv 72057594037927936 = V / 72057594037927936 := Int.tdiv_eq_ediv_of_nonneg hV0
      have v1 : IntKind.u8.wrap (V / 72057594037927936) = V / 72057594037927936 := IntWalk.u8_in _ (by omega)
      have v2 : IntKind.u64.wrap (V * 256) = V * 256 % 18446744073709551616 := by rw [IntKind.wrap_u64]
      have hx0 : 0 ≤ V / 72057594037927936 := by omega
      have hx1 : V / 72057594037927936 < 256 := by omega
      have ownAQ := hown.alloc (.cells #[.int .u8 (V / 72057594037927936)] 5)
      have BAQ : Below W1.heap.size W1 (wr.alloc (.cells #[.int .u8 (V / 72057594037927936)] 5)) := hb.alloc hb.size _
      have hsAQ := BAQ.size
      have hnsQ : Hid (∀ z ∈ ([(V / 72057594037927936)] : List Int), 0 ≤ z ∧ z < 256) := by show ∀ z ∈ ([(V / 72057594037927936)] : List Int), 0 ≤ z ∧ z < 256; intro z hz; simp only [List.mem_cons, List.not_mem_nil, or_false] at hz; omega
      go_wp2_with (at_builtin; refine wpList_append_new rfl _ _ 77 rfl W1.heap.size 5 i0 (.int .u8 0) Tryz.underlying77 hi hz0 hz1 hz2 rfl _ _ rfl ownAQ ⟨wr.heap.size, 0, none⟩ 1 1 rfl [(V / 72057594037927936)] rfl (new_cells wr 5 [(V / 72057594037927936)]) hnsQ.out (by simp; omega) hsAQ ?_)
      intro vQ wQ ownQ hgQ
      have BQ := ownAQ.below BAQ hsAQ hgQ
      clear ownAQ hgQ BAQ hsAQ hnsQ
      have hac2 := hac.out
      obtain ⟨j, hj⟩ : ∃ j, 8 - k = j + 1 := ⟨8 - k - 1, by omega⟩
      rw [hj] at hac2
      have hj2 : 8 - (k + 1) = j := by omega
      have hac3 : Hid ((acc ++ [UInt8.ofNat (V / 72057594037927936).toNat]) ++ nb (8 - (k + 1)) (V * 256 % 18446744073709551616) = 1 :: nb 8 U) := by
        show _ = _
        rw [hj2, List.append_assoc]
        exact hac2
      clear hac hac2 hj hj2
      go_wp2_with fail
      go_roundw
      case rel => exact ⟨k + 1, V * 256 % 18446744073709551616, acc ++ [UInt8.ofNat (V / 72057594037927936).toNat], by go_num, by omega, rfl, by omega, by omega, ownQ, by simp; omega, hac3, BQ⟩
      case measure => simp [RowKit.intOf]; omega
    · obtain rfl : k = 8 := by omega
      have hac2 := hac.out
      simp only [Nat.sub_self, nb, List.append_nil] at hac2
      have hcv := run_ownB_string (P := Tryz.prog) (src := 77) (dst := 9) Tryz.underlying77 Tryz.underlying5 Tryz.underlying9 hown
      have HAC := Lib.hid hac2
      clear hac hac2
      go_wp2_with fail
      go_ret2
      exact ⟨by show _ = Ending.returned (.tuple #[.string ⟨(1 :: nb 8 U).toArray⟩, .int .i64 0]); rw [nb] ; simp only [nb]; rw [← HAC.out]; first | done | rfl, X1.out.bel.trans (hb.mono X1.out.bel.size)⟩
set_option maxRecDepth 100000 in
set_option maxHeartbeats 4000000 in
theorem rbits_t4t (n : Int) (S : ByteArray) (w : World) (hs : S.size ≤ 100000) (b0 : -9223372036854775808 ≤ n) (b1 : n ≤ 9223372036854775807) (hc : kCheck 4 true false n S.data.toList = 0) :
    Calls Tryz.prog 93 #[.agg #[.int .i64 4, .bool true], .agg #[.bool false, .int .i64 n, .string S]] w fun e w' => e = .returned (.tuple #[.string ⟨(1 :: rowD S.data.toList).toArray⟩, .int .i64 0]) ∧ Below w.heap.size w w' := by
  obtain ⟨i0, hi, hz0, hz1, hz2⟩ := info_parts infoU8
  have cc := fun w' => rcheck_any 4 true false n S w' hs b0 b1
  rw [hc] at cc
  have x0 := TBx.start w 4 true false n S
  have hlS : S.data.toList.length = S.size := by simp
  have rn := fun w' => rnumber_any 4 true w'
  rw [show decide ((4 : Int) ≤ 3) = false by decide] at rn
  have CC := Lib.hid cc; have X0 := Lib.hid x0; have RN := Lib.hid rn
  clear cc x0 hc rn
  go_enter Tryz.func93, Tryz.ntmps93
  go_wp2_with fail
  refine (CC.out _).mono ?_
  rintro en W1 ⟨rfl, bb1⟩
  have x1 := X0.out.step bb1
  obtain ⟨d0, d1, a0, a1, a2, f0, f1, f2, l0, l1⟩ := x1.cells
  have X1 := Lib.hid x1
  clear x1 bb1
  have ownN : OwnB W1 W1.heap.size 5 (.slice none 0 0) ([] : Bs) := OwnB.nil _ _ _
  have BN : Below W1.heap.size W1 W1 := Below.refl _ _
  have ownAP := ownN.alloc (.cells #[.int .u8 1] 5)
  have BAP : Below W1.heap.size W1 (W1.alloc (.cells #[.int .u8 1] 5)) := BN.alloc BN.size _
  have hsAP := BAP.size
  have hnsP : Hid (∀ z ∈ ([1] : List Int), 0 ≤ z ∧ z < 256) := by show ∀ z ∈ ([1] : List Int), 0 ≤ z ∧ z < 256; intro z hz; simp only [List.mem_cons, List.not_mem_nil, or_false] at hz; omega
  go_wp2_with (at_builtin; refine wpList_append_new rfl _ _ 77 rfl W1.heap.size 5 i0 (.int .u8 0) Tryz.underlying77 hi hz0 hz1 hz2 rfl _ _ rfl ownAP ⟨W1.heap.size, 0, none⟩ 1 1 rfl [1] rfl (new_cells W1 5 [1]) hnsP.out (by decide) hsAP ?_)
  intro vP wP ownP hgP
  have BP := ownAP.below BAP hsAP hgP
  clear ownAP hgP BAP hsAP hnsP
  clear d0 d1 a0 a1 a2 f0 f1 f2 l0 l1
  have xsP := X1.out.step BP
  obtain ⟨d0, d1, a0, a1, a2, f0, f1, f2, l0, l1⟩ := xsP.cells
  clear xsP
  go_wp2_with fail
  refine (RN.out _).mono ?_
  rintro en wA ⟨rfl, bbA⟩
  have ownR := ownP.kept bbA
  have BR := BP.trans (bbA.mono BP.size)
  clear ownP BP bbA
  clear d0 d1 a0 a1 a2 f0 f1 f2 l0 l1
  have xsR := X1.out.step BR
  obtain ⟨d0, d1, a0, a1, a2, f0, f1, f2, l0, l1⟩ := xsR.cells
  clear xsR
  clear d0 d1 a0 a1 a2 f0 f1 f2 l0 l1
  go_wp2_with fail
  go_loopw [7, 10] (fun v i wr => ∃ (k : Nat), i = .int .i64 k ∧ k ≤ S.size ∧ OwnB wr W1.heap.size 5 v (1 :: escD (S.data.toList.take k)) ∧ Below W1.heap.size W1 wr) (fun _ i _ => S.size - (RowKit.intOf i).toNat)
  case atStart => exact ⟨0, rfl, by omega, ownR, BR⟩
  case round =>
    obtain ⟨k, rfl, hk, hown, hb⟩ := hrel
    have xr := X1.out.step hb
    obtain ⟨d0, d1, a0, a1, a2, f0, f1, f2, l0, l1⟩ := xr.cells
    clear xr
    have hel := escD_len (S.data.toList.take k)
    rw [List.length_take] at hel
    have hel2 : (1 :: escD (S.data.toList.take k)).length ≤ 2 * S.size + 1 := by (try simp only [List.length_cons]); omega
    by_cases hlt : k < S.size
    · have hli : (k : Int) < (S.size : Int) := by omega
      have gi : ((S[k]'hlt).toNat : Int) = (bt S.data.toList k : Int) := by rw [get_of]; rfl
      have hx := bt_lt S.data.toList k
      have hsn := esc_snoc S.data.toList k (by omega)
      have hbe : S.data.toList[k]'(by omega) = UInt8.ofNat (bt S.data.toList k) := by simp [bt, List.getD_eq_getElem?_getD, hlt]
      rw [hbe] at hsn
      generalize bt S.data.toList k = x at *
      have HSN := Lib.hid hsn
      clear hsn hbe hel
      have ownAQ := hown.alloc (.cells #[.int .u8 (x : Int)] 5)
      have BAQ : Below W1.heap.size W1 (wr.alloc (.cells #[.int .u8 (x : Int)] 5)) := hb.alloc hb.size _
      have hsAQ := BAQ.size
      have hnsQ : Hid (∀ z ∈ ([(x : Int)] : List Int), 0 ≤ z ∧ z < 256) := by show ∀ z ∈ ([(x : Int)] : List Int), 0 ≤ z ∧ z < 256; intro z hz; simp only [List.mem_cons, List.not_mem_nil, or_false] at hz; omega
      go_wp2_with (at_builtin; refine wpList_append_new rfl _ _ 77 rfl W1.heap.size 5 i0 (.int .u8 0) Tryz.underlying77 hi hz0 hz1 hz2 rfl _ _ rfl ownAQ ⟨wr.heap.size, 0, none⟩ 1 1 rfl [(x : Int)] rfl (new_cells wr 5 [(x : Int)]) hnsQ.out (by have := hel2; omega) hsAQ ?_)
      intro vQ wQ ownQ hgQ
      have BQ := ownAQ.below BAQ hsAQ hgQ
      clear ownAQ hgQ BAQ hsAQ hnsQ
      clear d0 d1 a0 a1 a2 f0 f1 f2 l0 l1
      have xsQ := X1.out.step BQ
      obtain ⟨d0, d1, a0, a1, a2, f0, f1, f2, l0, l1⟩ := xsQ.cells
      clear xsQ
      by_cases hx0 : x = 0
      · subst hx0
        have ownAV := ownQ.alloc (.cells #[.int .u8 255] 5)
        have BAV : Below W1.heap.size W1 (wQ.alloc (.cells #[.int .u8 255] 5)) := BQ.alloc BQ.size _
        have hsAV := BAV.size
        have hnsV : Hid (∀ z ∈ ([255] : List Int), 0 ≤ z ∧ z < 256) := by show ∀ z ∈ ([255] : List Int), 0 ≤ z ∧ z < 256; intro z hz; simp only [List.mem_cons, List.not_mem_nil, or_false] at hz; omega
        go_wp2_with (at_builtin; refine wpList_append_new rfl _ _ 77 rfl W1.heap.size 5 i0 (.int .u8 0) Tryz.underlying77 hi hz0 hz1 hz2 rfl _ _ rfl ownAV ⟨wQ.heap.size, 0, none⟩ 1 1 rfl [255] rfl (new_cells wQ 5 [255]) hnsV.out (by have := hel2; (try simp only [List.length_append, List.length_map, List.length_cons, List.length_nil] at this ⊢); omega) hsAV ?_)
        intro vV wV ownV hgV
        have BV := ownAV.below BAV hsAV hgV
        clear ownAV hgV BAV hsAV hnsV
        have ownV2 : OwnB wV W1.heap.size 5 vV (1 :: escD (S.data.toList.take (k + 1))) := by
          rw [HSN.out]
          have e : escb (UInt8.ofNat 0) = [0, 255] := rfl
          rw [e]
          simpa using ownV
        go_wp2_with fail
        go_roundw
        case rel => exact ⟨k + 1, by go_num, by omega, ownV2, BV⟩
        case measure => simp [RowKit.intOf]; omega
      · have hxi : ((x : Int) == 0) = false := by rw [beq_eq_false_iff_ne]; omega
        have ownQ2 : OwnB wQ W1.heap.size 5 vQ (1 :: escD (S.data.toList.take (k + 1))) := by
          rw [HSN.out]
          have e : escb (UInt8.ofNat x) = [UInt8.ofNat x] := by
            unfold escb; rw [if_neg]
            intro e
            have := congrArg UInt8.toNat e
            simp at this
            omega
          rw [e]
          simpa using ownQ
        go_wp2_with fail
        go_roundw
        case rel => exact ⟨k + 1, by go_num, by omega, ownQ2, BQ⟩
        case measure => simp [RowKit.intOf]; omega
    · have hli : ¬ (k : Int) < (S.size : Int) := by omega
      rw [List.take_of_length_le (by omega)] at hown hel2
      have ownAQ := hown.alloc (.cells #[.int .u8 0, .int .u8 0] 5)
      have BAQ : Below W1.heap.size W1 (wr.alloc (.cells #[.int .u8 0, .int .u8 0] 5)) := hb.alloc hb.size _
      have hsAQ := BAQ.size
      have hnsQ : Hid (∀ z ∈ ([0, 0] : List Int), 0 ≤ z ∧ z < 256) := by show ∀ z ∈ ([0, 0] : List Int), 0 ≤ z ∧ z < 256; intro z hz; simp only [List.mem_cons, List.not_mem_nil, or_false] at hz; omega
      go_wp2_with (at_builtin; refine wpList_append_new rfl _ _ 77 rfl W1.heap.size 5 i0 (.int .u8 0) Tryz.underlying77 hi hz0 hz1 hz2 rfl _ _ rfl ownAQ ⟨wr.heap.size, 0, none⟩ 2 2 rfl [0, 0] rfl (new_cells wr 5 [0, 0]) hnsQ.out (by have := hel2; (try simp only [List.length_cons, List.length_nil] at this ⊢); omega) hsAQ ?_)
      intro vQ wQ ownQ hgQ
      have BQ := ownAQ.below BAQ hsAQ hgQ
      clear ownAQ hgQ BAQ hsAQ hnsQ
      have ownQ2 : OwnB wQ W1.heap.size 5 vQ (1 :: rowD S.data.toList) := by
        unfold rowD
        simpa using ownQ
      have hcv := run_ownB_string (P := Tryz.prog) (src := 77) (dst := 9) Tryz.underlying77 Tryz.underlying5 Tryz.underlying9 ownQ2
      go_wp2_with fail
      go_ret2
      exact ⟨rfl, X1.out.bel.trans (BQ.mono X1.out.bel.size)⟩
set_option maxRecDepth 100000 in
set_option maxHeartbeats 4000000 in
theorem rbits_t5t (n : Int) (S : ByteArray) (w : World) (hs : S.size ≤ 100000) (b0 : -9223372036854775808 ≤ n) (b1 : n ≤ 9223372036854775807) (hc : kCheck 5 true false n S.data.toList = 0) :
    Calls Tryz.prog 93 #[.agg #[.int .i64 5, .bool true], .agg #[.bool false, .int .i64 n, .string S]] w fun e w' => e = .returned (.tuple #[.string ⟨(1 :: rowD S.data.toList).toArray⟩, .int .i64 0]) ∧ Below w.heap.size w w' := by
  obtain ⟨i0, hi, hz0, hz1, hz2⟩ := info_parts infoU8
  have cc := fun w' => rcheck_any 5 true false n S w' hs b0 b1
  rw [hc] at cc
  have x0 := TBx.start w 5 true false n S
  have hlS : S.data.toList.length = S.size := by simp
  have rn := fun w' => rnumber_any 5 true w'
  rw [show decide ((5 : Int) ≤ 3) = false by decide] at rn
  have CC := Lib.hid cc; have X0 := Lib.hid x0; have RN := Lib.hid rn
  clear cc x0 hc rn
  go_enter Tryz.func93, Tryz.ntmps93
  go_wp2_with fail
  refine (CC.out _).mono ?_
  rintro en W1 ⟨rfl, bb1⟩
  have x1 := X0.out.step bb1
  obtain ⟨d0, d1, a0, a1, a2, f0, f1, f2, l0, l1⟩ := x1.cells
  have X1 := Lib.hid x1
  clear x1 bb1
  have ownN : OwnB W1 W1.heap.size 5 (.slice none 0 0) ([] : Bs) := OwnB.nil _ _ _
  have BN : Below W1.heap.size W1 W1 := Below.refl _ _
  have ownAP := ownN.alloc (.cells #[.int .u8 1] 5)
  have BAP : Below W1.heap.size W1 (W1.alloc (.cells #[.int .u8 1] 5)) := BN.alloc BN.size _
  have hsAP := BAP.size
  have hnsP : Hid (∀ z ∈ ([1] : List Int), 0 ≤ z ∧ z < 256) := by show ∀ z ∈ ([1] : List Int), 0 ≤ z ∧ z < 256; intro z hz; simp only [List.mem_cons, List.not_mem_nil, or_false] at hz; omega
  go_wp2_with (at_builtin; refine wpList_append_new rfl _ _ 77 rfl W1.heap.size 5 i0 (.int .u8 0) Tryz.underlying77 hi hz0 hz1 hz2 rfl _ _ rfl ownAP ⟨W1.heap.size, 0, none⟩ 1 1 rfl [1] rfl (new_cells W1 5 [1]) hnsP.out (by decide) hsAP ?_)
  intro vP wP ownP hgP
  have BP := ownAP.below BAP hsAP hgP
  clear ownAP hgP BAP hsAP hnsP
  clear d0 d1 a0 a1 a2 f0 f1 f2 l0 l1
  have xsP := X1.out.step BP
  obtain ⟨d0, d1, a0, a1, a2, f0, f1, f2, l0, l1⟩ := xsP.cells
  clear xsP
  go_wp2_with fail
  refine (RN.out _).mono ?_
  rintro en wA ⟨rfl, bbA⟩
  have ownR := ownP.kept bbA
  have BR := BP.trans (bbA.mono BP.size)
  clear ownP BP bbA
  clear d0 d1 a0 a1 a2 f0 f1 f2 l0 l1
  have xsR := X1.out.step BR
  obtain ⟨d0, d1, a0, a1, a2, f0, f1, f2, l0, l1⟩ := xsR.cells
  clear xsR
  clear d0 d1 a0 a1 a2 f0 f1 f2 l0 l1
  go_wp2_with fail
  go_loopw [7, 10] (fun v i wr => ∃ (k : Nat), i = .int .i64 k ∧ k ≤ S.size ∧ OwnB wr W1.heap.size 5 v (1 :: escD (S.data.toList.take k)) ∧ Below W1.heap.size W1 wr) (fun _ i _ => S.size - (RowKit.intOf i).toNat)
  case atStart => exact ⟨0, rfl, by omega, ownR, BR⟩
  case round =>
    obtain ⟨k, rfl, hk, hown, hb⟩ := hrel
    have xr := X1.out.step hb
    obtain ⟨d0, d1, a0, a1, a2, f0, f1, f2, l0, l1⟩ := xr.cells
    clear xr
    have hel := escD_len (S.data.toList.take k)
    rw [List.length_take] at hel
    have hel2 : (1 :: escD (S.data.toList.take k)).length ≤ 2 * S.size + 1 := by (try simp only [List.length_cons]); omega
    by_cases hlt : k < S.size
    · have hli : (k : Int) < (S.size : Int) := by omega
      have gi : ((S[k]'hlt).toNat : Int) = (bt S.data.toList k : Int) := by rw [get_of]; rfl
      have hx := bt_lt S.data.toList k
      have hsn := esc_snoc S.data.toList k (by omega)
      have hbe : S.data.toList[k]'(by omega) = UInt8.ofNat (bt S.data.toList k) := by simp [bt, List.getD_eq_getElem?_getD, hlt]
      rw [hbe] at hsn
      generalize bt S.data.toList k = x at *
      have HSN := Lib.hid hsn
      clear hsn hbe hel
      have ownAQ := hown.alloc (.cells #[.int .u8 (x : Int)] 5)
      have BAQ : Below W1.heap.size W1 (wr.alloc (.cells #[.int .u8 (x : Int)] 5)) := hb.alloc hb.size _
      have hsAQ := BAQ.size
      have hnsQ : Hid (∀ z ∈ ([(x : Int)] : List Int), 0 ≤ z ∧ z < 256) := by show ∀ z ∈ ([(x : Int)] : List Int), 0 ≤ z ∧ z < 256; intro z hz; simp only [List.mem_cons, List.not_mem_nil, or_false] at hz; omega
      go_wp2_with (at_builtin; refine wpList_append_new rfl _ _ 77 rfl W1.heap.size 5 i0 (.int .u8 0) Tryz.underlying77 hi hz0 hz1 hz2 rfl _ _ rfl ownAQ ⟨wr.heap.size, 0, none⟩ 1 1 rfl [(x : Int)] rfl (new_cells wr 5 [(x : Int)]) hnsQ.out (by have := hel2; omega) hsAQ ?_)
      intro vQ wQ ownQ hgQ
      have BQ := ownAQ.below BAQ hsAQ hgQ
      clear ownAQ hgQ BAQ hsAQ hnsQ
      clear d0 d1 a0 a1 a2 f0 f1 f2 l0 l1
      have xsQ := X1.out.step BQ
      obtain ⟨d0, d1, a0, a1, a2, f0, f1, f2, l0, l1⟩ := xsQ.cells
      clear xsQ
      by_cases hx0 : x = 0
      · subst hx0
        have ownAV := ownQ.alloc (.cells #[.int .u8 255] 5)
        have BAV : Below W1.heap.size W1 (wQ.alloc (.cells #[.int .u8 255] 5)) := BQ.alloc BQ.size _
        have hsAV := BAV.size
        have hnsV : Hid (∀ z ∈ ([255] : List Int), 0 ≤ z ∧ z < 256) := by show ∀ z ∈ ([255] : List Int), 0 ≤ z ∧ z < 256; intro z hz; simp only [List.mem_cons, List.not_mem_nil, or_false] at hz; omega
        go_wp2_with (at_builtin; refine wpList_append_new rfl _ _ 77 rfl W1.heap.size 5 i0 (.int .u8 0) Tryz.underlying77 hi hz0 hz1 hz2 rfl _ _ rfl ownAV ⟨wQ.heap.size, 0, none⟩ 1 1 rfl [255] rfl (new_cells wQ 5 [255]) hnsV.out (by have := hel2; (try simp only [List.length_append, List.length_map, List.length_cons, List.length_nil] at this ⊢); omega) hsAV ?_)
        intro vV wV ownV hgV
        have BV := ownAV.below BAV hsAV hgV
        clear ownAV hgV BAV hsAV hnsV
        have ownV2 : OwnB wV W1.heap.size 5 vV (1 :: escD (S.data.toList.take (k + 1))) := by
          rw [HSN.out]
          have e : escb (UInt8.ofNat 0) = [0, 255] := rfl
          rw [e]
          simpa using ownV
        go_wp2_with fail
        go_roundw
        case rel => exact ⟨k + 1, by go_num, by omega, ownV2, BV⟩
        case measure => simp [RowKit.intOf]; omega
      · have hxi : ((x : Int) == 0) = false := by rw [beq_eq_false_iff_ne]; omega
        have ownQ2 : OwnB wQ W1.heap.size 5 vQ (1 :: escD (S.data.toList.take (k + 1))) := by
          rw [HSN.out]
          have e : escb (UInt8.ofNat x) = [UInt8.ofNat x] := by
            unfold escb; rw [if_neg]
            intro e
            have := congrArg UInt8.toNat e
            simp at this
            omega
          rw [e]
          simpa using ownQ
        go_wp2_with fail
        go_roundw
        case rel => exact ⟨k + 1, by go_num, by omega, ownQ2, BQ⟩
        case measure => simp [RowKit.intOf]; omega
    · have hli : ¬ (k : Int) < (S.size : Int) := by omega
      rw [List.take_of_length_le (by omega)] at hown hel2
      have ownAQ := hown.alloc (.cells #[.int .u8 0, .int .u8 0] 5)
      have BAQ : Below W1.heap.size W1 (wr.alloc (.cells #[.int .u8 0, .int .u8 0] 5)) := hb.alloc hb.size _
      have hsAQ := BAQ.size
      have hnsQ : Hid (∀ z ∈ ([0, 0] : List Int), 0 ≤ z ∧ z < 256) := by show ∀ z ∈ ([0, 0] : List Int), 0 ≤ z ∧ z < 256; intro z hz; simp only [List.mem_cons, List.not_mem_nil, or_false] at hz; omega
      go_wp2_with (at_builtin; refine wpList_append_new rfl _ _ 77 rfl W1.heap.size 5 i0 (.int .u8 0) Tryz.underlying77 hi hz0 hz1 hz2 rfl _ _ rfl ownAQ ⟨wr.heap.size, 0, none⟩ 2 2 rfl [0, 0] rfl (new_cells wr 5 [0, 0]) hnsQ.out (by have := hel2; (try simp only [List.length_cons, List.length_nil] at this ⊢); omega) hsAQ ?_)
      intro vQ wQ ownQ hgQ
      have BQ := ownAQ.below BAQ hsAQ hgQ
      clear ownAQ hgQ BAQ hsAQ hnsQ
      have ownQ2 : OwnB wQ W1.heap.size 5 vQ (1 :: rowD S.data.toList) := by
        unfold rowD
        simpa using ownQ
      have hcv := run_ownB_string (P := Tryz.prog) (src := 77) (dst := 9) Tryz.underlying77 Tryz.underlying5 Tryz.underlying9 ownQ2
      go_wp2_with fail
      go_ret2
      exact ⟨rfl, X1.out.bel.trans (BQ.mono X1.out.bel.size)⟩
end Go.Proofs.YtcdmiiaamajfoaaGreatDoor
namespace Go.Proofs.YtcdmiiaamajfoaaGreatDoor
open Go.RowKit Go.Ms Go.Lib
theorem wf64 {n : Int} (hn : (Lit.int .i64 n).wf = true) : -9223372036854775808 ≤ n ∧ n ≤ 9223372036854775807 := by
  simpa [Lit.wf, IntKind.min, IntKind.max, IntKind.signed, IntKind.bits] using hn
end Go.Proofs.YtcdmiiaamajfoaaGreatDoor
namespace Go.Proofs.YtcdmiiaamajfoaaGreatDoor
open Go.RowKit Go.Ms Go.Lib

theorem rbits_err (k : Int) (tn u : Bool) (n : Int) (S : ByteArray) (w : World) (hs : S.size ≤ 100000) (b0 : -9223372036854775808 ≤ n) (b1 : n ≤ 9223372036854775807) (hc : kCheck k tn u n S.data.toList ≠ 0) :
    Calls Tryz.prog 93 #[.agg #[.int .i64 k, .bool tn], .agg #[.bool u, .int .i64 n, .string S]] w fun e w' => e = .returned (.tuple #[.string ⟨#[]⟩, .int .i64 (kCheck k tn u n S.data.toList)]) ∧ Below w.heap.size w w' := by
  have cc := fun w' => rcheck_any k tn u n S w' hs b0 b1
  have x0 := TBx.start w k tn u n S
  generalize kCheck k tn u n S.data.toList = c at *
  have q : (c != 0) = true := by simpa using hc
  have CC := Lib.hid cc; have X0 := Lib.hid x0
  clear cc x0 hc
  go_enter Tryz.func93, Tryz.ntmps93
  go_wp2_with fail
  refine (CC.out _).mono ?_
  rintro en w1 ⟨rfl, bb1⟩
  go_wp2_with fail
  go_ret2
  exact ⟨rfl, (X0.out.step bb1).bel⟩
theorem rbits_null (k : Int) (tn : Bool) (n : Int) (S : ByteArray) (w : World) (hs : S.size ≤ 100000) (b0 : -9223372036854775808 ≤ n) (b1 : n ≤ 9223372036854775807) (hc : kCheck k tn true n S.data.toList = 0) :
    Calls Tryz.prog 93 #[.agg #[.int .i64 k, .bool tn], .agg #[.bool true, .int .i64 n, .string S]] w fun e w' => e = .returned (.tuple #[.string ⟨#[0]⟩, .int .i64 0]) ∧ Below w.heap.size w w' := by
  have cc := fun w' => rcheck_any k tn true n S w' hs b0 b1
  have x0 := TBx.start w k tn true n S
  rw [hc] at cc
  have CC := Lib.hid cc; have X0 := Lib.hid x0
  clear cc x0 hc
  go_enter Tryz.func93, Tryz.ntmps93
  go_wp2_with fail
  refine (CC.out _).mono ?_
  rintro en w1 ⟨rfl, bb1⟩
  have x1 := X0.out.step bb1
  obtain ⟨d0, d1, a0, a1, a2, f0, f1, f2, l0, l1⟩ := x1.cells
  have X1 := Lib.hid x1
  clear x1 bb1
  go_wp2_with fail
  go_ret2
  exact ⟨rfl, X1.out.bel⟩
theorem rBits_any (k : Int) (tn u : Bool) (n : Int) (S : ByteArray) (w : World) (hs : S.size ≤ 100000) (b0 : -9223372036854775808 ≤ n) (b1 : n ≤ 9223372036854775807) :
    Calls Tryz.prog 93 #[.agg #[.int .i64 k, .bool tn], .agg #[.bool u, .int .i64 n, .string S]] w fun e w' => e = .returned (.tuple #[.string ⟨(kBitsD k tn u n S.data.toList).toArray⟩, .int .i64 (kCheck k tn u n S.data.toList)]) ∧ Below w.heap.size w w' := by
  unfold kBitsD
  by_cases hc : kCheck k tn u n S.data.toList = 0
  · rw [if_pos hc, hc]
    cases u with
    | true => rw [if_pos rfl]; exact rbits_null k tn n S w hs b0 b1 hc
    | false =>
      simp only [Bool.false_eq_true, if_false]
      cases tn with
      | true =>
        rw [if_pos rfl]
        rcases may_cases (check_zero hc).1 with rfl | rfl | rfl | rfl | rfl
        · exact rbits_bt n S w hs b0 b1 hc
        · exact rbits_n2t n S w hs b0 b1 hc
        · exact rbits_n3t n S w hs b0 b1 hc
        · exact rbits_t4t n S w hs b0 b1 hc
        · exact rbits_t5t n S w hs b0 b1 hc
      | false =>
        simp only [Bool.false_eq_true, if_false]
        rcases may_cases (check_zero hc).1 with rfl | rfl | rfl | rfl | rfl
        · exact rbits_bf n S w hs b0 b1 hc
        · exact rbits_n2f n S w hs b0 b1 hc
        · exact rbits_n3f n S w hs b0 b1 hc
        · exact rbits_t4f n S w hs b0 b1 hc
        · exact rbits_t5f n S w hs b0 b1 hc
  · rw [if_neg hc]
    exact rbits_err k tn u n S w hs b0 b1 hc
set_option maxRecDepth 100000 in
set_option maxHeartbeats 4000000 in
theorem cellWrites_walk (k : Int) (tn u : Bool) (n : Int) (S0 : ByteArray) (w : World) (hn : (Lit.int .i64 n).wf = true) (hE : Env w) :
    Calls Tryz.prog 25 #[.agg #[.int .i64 k, .bool tn], .agg #[.bool u, .int .i64 n, .string S0]] w fun e w' => e = .returned (.bool true) ∧ Below w.heap.size w w' := by
  obtain ⟨b0, b1⟩ := wf64 hn
  have k1 := fun w => cut_any u n S0 w
  have hcs := cutS_size S0
  generalize cutS S0 = S at *
  have ct := fun w' (hE' : Env w') => ktext_any k tn u n S w' (by omega) hE'
  have rt := fun w' => rText_any k tn u n S w' (by omega) b0 b1
  have cb := fun w' (hE' : Env w') => kbits_any k tn u n S w' (by omega) hE'
  have rb := fun w' => rBits_any k tn u n S w' (by omega) b0 b1
  have x0 := TBx.start w k tn u n S0
  generalize (⟨(kTextD k tn u n S.data.toList).toArray⟩ : ByteArray) = X at *
  generalize (⟨(kBitsD k tn u n S.data.toList).toArray⟩ : ByteArray) = Y at *
  generalize kCheck k tn u n S.data.toList = c at *
  have K1 := Lib.hid k1; have CT := Lib.hid ct; have RT := Lib.hid rt; have CB := Lib.hid cb; have RB := Lib.hid rb; have HE := Lib.hid hE; have X0 := Lib.hid x0
  clear k1 ct rt cb rb hE x0 hn hcs b0 b1
  go_enter Tryz.func25, Tryz.ntmps25
  go_wp2_with fail
  refine (K1.out _).mono ?_
  rintro en w1 ⟨rfl, bb1⟩
  have x1 := X0.out.step bb1
  obtain ⟨d0, d1, a0, a1, a2, f0, f1, f2, l0, l1⟩ := x1.cells
  have x2 := x1.set S
  have X2 := Lib.hid x2
  clear x1 x2 bb1
  go_wp2_with fail
  refine (CT.out _ (HE.out.below X2.out.bel)).mono ?_
  rintro en w3 ⟨rfl, bb3⟩
  have x3 := X2.out.step bb3
  clear d0 d1 a0 a1 a2 f0 f1 f2 l0 l1
  obtain ⟨d0, d1, a0, a1, a2, f0, f1, f2, l0, l1⟩ := x3.cells
  have X3 := Lib.hid x3
  clear x3 bb3
  go_wp2_with fail
  refine (RT.out _).mono ?_
  rintro en w4 ⟨rfl, bb4⟩
  have x4 := X3.out.step bb4
  clear d0 d1 a0 a1 a2 f0 f1 f2 l0 l1
  obtain ⟨d0, d1, a0, a1, a2, f0, f1, f2, l0, l1⟩ := x4.cells
  have X4 := Lib.hid x4
  clear x4 bb4
  go_wp2_with fail
  refine (CB.out _ (HE.out.below X4.out.bel)).mono ?_
  rintro en w5 ⟨rfl, bb5⟩
  have x5 := X4.out.step bb5
  clear d0 d1 a0 a1 a2 f0 f1 f2 l0 l1
  obtain ⟨d0, d1, a0, a1, a2, f0, f1, f2, l0, l1⟩ := x5.cells
  have X5 := Lib.hid x5
  clear x5 bb5
  go_wp2_with fail
  refine (RB.out _).mono ?_
  rintro en w6 ⟨rfl, bb6⟩
  have x6 := X5.out.step bb6
  clear d0 d1 a0 a1 a2 f0 f1 f2 l0 l1
  have X6 := Lib.hid x6
  clear x6 bb6
  go_wp2_with fail
  refine (kworks_any _ (HE.out.below X6.out.bel)).mono ?_
  rintro en w9 ⟨rfl, b9⟩
  go_wp2_with fail
  go_ret
  exact ⟨rfl, X6.out.bel.trans (b9.mono X6.out.bel.size)⟩
end Go.Proofs.YtcdmiiaamajfoaaGreatDoor
