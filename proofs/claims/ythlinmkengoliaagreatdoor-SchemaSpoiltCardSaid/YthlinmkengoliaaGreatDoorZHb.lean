/- The reference of the cells: whole numbers' texts; hex. The reference of the cells: Text. The reference of the cells: Bits. Bounds of whole numbers. The reference of the cells: Bits, whole. CellWrites: the walk. -/
import Derived.Test.YthlinmkengoliaaGreatDoorZHa
import Derived.Test.YthlinmkengoliaaGreatDoorZR8c
import Derived.Test.YthlinmkengoliaaGreatDoorZFa
set_option linter.unusedVariables false
namespace Go.Ms
open Go.Lib
theorem dec_len : ∀ (k u : Nat), 1 ≤ k → u < 10 ^ k → (decDigits u).length ≤ k
  | 0, _, h, _ => by omega
  | k + 1, u, _, h => by
   by_cases hu : u < 10
   · rw [decDigits, dif_pos hu]; simp
   · rw [decDigits, dif_neg hu, List.length_append]; rw [Nat.pow_succ] at h
     have hk : 1 ≤ k := by
      rcases Nat.eq_zero_or_pos k with e | e
      · subst e; simp at h; omega
      · exact e
     have := dec_len k (u / 10) hk (by omega); simp only [List.length_cons, List.length_nil]; omega
end Go.Ms
namespace Go.Proofs.YthlinmkengoliaaGreatDoor
open Go.RowKit Go.Ms Go.Lib
theorem dig10 : ∀ k : Fin 10, (⟨#[48, 49, 50, 51, 52, 53, 54, 55, 56, 57]⟩ : ByteArray).extract k.val (k.val + 1) = ⟨#[UInt8.ofNat (48 + k.val)]⟩ := by decide
theorem dig10_at (n : Nat) : (⟨#[48, 49, 50, 51, 52, 53, 54, 55, 56, 57]⟩ : ByteArray).extract (n % 10) (n % 10 + 1) = ⟨#[UInt8.ofNat (48 + n % 10)]⟩ := dig10 ⟨n % 10, by omega⟩
set_option maxRecDepth 100000 in
theorem figures_any (n : Nat) : ∀ (w : World), n < 18446744073709551616 →
    Calls Tryz.prog 161 #[.int .u64 n] w fun e w' => e = .returned (.string ⟨(decDigits n).toArray⟩) ∧ w = w' := by
 induction n using Nat.strongRecOn with
 | _ n ih =>
  intro w hn
  have hd := dig10_at n; have v0 : (n : Int).tmod 10 = (n : Int) % 10 := Int.tmod_eq_emod_of_nonneg (by omega); have v1 : IntKind.u64.wrap ((n : Int) % 10 + 1) = (n : Int) % 10 + 1 := IntWalk.u64_in _ (by omega); have v2 : (n : Int).tdiv 10 = (n : Int) / 10 := Int.tdiv_eq_ediv_of_nonneg (by omega)
  have b0 : 0 ≤ (n : Int) % 10 := by omega
  have b1 : (n : Int) % 10 ≤ (n : Int) % 10 + 1 := by omega
  have b2 : (n : Int) % 10 + 1 ≤ 10 := by omega
  have b3 : 0 ≤ (n : Int) % 10 + 1 := by omega
  have n0 : (0 : Int) ≤ (n : Int) := by omega
  have hni : (n : Int) < 18446744073709551616 := by omega
  have HD := Lib.hid hd; clear hd
  by_cases h : n < 10
  · have hi : (n : Int) < 10 := by omega
    rw [decDigits, dif_pos h]; have hm : n % 10 = n := Nat.mod_eq_of_lt h
    go_enter Tryz.func161, Tryz.ntmps161
    go_wp2_with fail
    go_ret
    exact ⟨by have hx := HD.out; rw [hm] at hx ⊢; rw [← hx]; first | done | (rw [hm]; done) | rfl, rfl⟩
  · have hi : ¬ (n : Int) < 10 := by omega
    have hq : ((n / 10 : Nat) : Int) = (n : Int) / 10 := by omega
    have cf := fun w => ih (n / 10) (by omega) w (by omega)
    rw [hq] at cf; have hl := dec_len 20 (n / 10) (by omega) (by omega); have hz : (⟨(decDigits (n / 10)).toArray⟩ : ByteArray).size = (decDigits (n / 10)).length := List.size_toArray
    have hap : (⟨(decDigits (n / 10)).toArray⟩ : ByteArray) ++ ⟨#[UInt8.ofNat (48 + n % 10)]⟩ = ⟨(decDigits n).toArray⟩ := by
     rw [show decDigits n = decDigits (n / 10) ++ [UInt8.ofNat (48 + n % 10)] by rw [decDigits, dif_neg h]]
     apply ba_ext; simp
    rw [← hap]
    generalize (⟨(decDigits (n / 10)).toArray⟩ : ByteArray) = X at *
    have hxl : X.size ≤ 20 := by omega
    have CF := Lib.hid cf; clear cf ih hap hz hl h hq
    go_enter Tryz.func161, Tryz.ntmps161
    go_wp2_with fail
    refine (CF.out _).mono ?_; rintro en w1 ⟨rfl, rfl⟩
    go_wp2_with fail
    go_ret
    exact ⟨by rw [← HD.out]; first | done | rfl, rfl⟩
set_option maxRecDepth 100000 in
theorem rdigits_any (n : Int) (w : World) (b0 : -9223372036854775808 ≤ n) (b1 : n ≤ 9223372036854775807) :
    Calls Tryz.prog 131 #[.int .i64 n] w fun e w' => e = .returned (.string ⟨(itoa n).toArray⟩) ∧ w = w' := by
 by_cases h : n < 0
 · have cf := fun w => figures_any n.natAbs w (by omega)
   have v1 : IntKind.i64.wrap (n + 1) = n + 1 := IntWalk.i64_in _ (by omega); have v2 : IntKind.i64.wrap (-(n + 1)) = -(n + 1) := IntWalk.i64_in _ (by omega); have v3 : IntKind.u64.wrap (-(n + 1)) = -(n + 1) := IntWalk.u64_in _ (by omega); have v4 : IntKind.u64.wrap (-(n + 1) + 1) = -(n + 1) + 1 := IntWalk.u64_in _ (by omega); rw [show ((n.natAbs : Nat) : Int) = -(n + 1) + 1 by omega] at cf; have hl := dec_len 20 n.natAbs (by omega) (by omega); have hz : (⟨(decDigits n.natAbs).toArray⟩ : ByteArray).size = (decDigits n.natAbs).length := List.size_toArray
   have hap : (⟨#[45]⟩ : ByteArray) ++ ⟨(decDigits n.natAbs).toArray⟩ = ⟨(itoa n).toArray⟩ := by
    unfold itoa; rw [if_pos h]
    apply ba_ext; simp
   rw [← hap]
   generalize (⟨(decDigits n.natAbs).toArray⟩ : ByteArray) = X at *
   have hxl : X.size ≤ 20 := by omega
   have hq : ¬ 9223372036854775807 < 1 + X.size := by omega
   have CF := Lib.hid cf; clear cf hap hz hl
   go_enter Tryz.func131, Tryz.ntmps131
   go_wp2_with fail
   refine (CF.out _).mono ?_; rintro en w1 ⟨rfl, rfl⟩
   go_wp2_with fail
   go_ret
   exact ⟨rfl, rfl⟩
 · have cf := fun w => figures_any n.toNat w (by omega)
   have v3 : IntKind.u64.wrap n = n := IntWalk.u64_in _ (by omega); rw [show ((n.toNat : Nat) : Int) = n by omega] at cf
   have e : itoa n = decDigits n.toNat := by unfold itoa; rw [if_neg h]
   rw [e]
   generalize decDigits n.toNat = L at *
   have CF := Lib.hid cf; clear cf e
   go_enter Tryz.func131, Tryz.ntmps131
   go_wp2_with fail
   refine (CF.out _).mono ?_; rintro en w1 ⟨rfl, rfl⟩
   go_wp2_with fail
   go_ret
   exact ⟨rfl, rfl⟩
theorem hexb_two (c : UInt8) : hexb c = [hexd (c.toNat / 16), hexd (c.toNat % 16)] := rfl
set_option maxRecDepth 100000 in
set_option maxHeartbeats 2000000 in
theorem rhex_any (S : ByteArray) (w : World) (hs : S.size ≤ 100000) :
    Calls Tryz.prog 133 #[.string S] w fun e w' => e = .returned (.string ⟨(S.data.toList.flatMap hexb).toArray⟩) ∧ Below w.heap.size w w' := by
 have hl : S.data.toList.length = S.size := by simp
 go_enter Tryz.func133, Tryz.ntmps133
 go_wp2_with fail
 go_loopw [3, 4] (fun x i wr => ∃ (k : Nat) (X : ByteArray), i = .int .i64 k ∧ k ≤ S.size ∧ x = .string X ∧ X.size = 2 * k ∧ Hid (X = ⟨((S.data.toList.take k).flatMap hexb).toArray⟩) ∧ Below w.heap.size w wr) (fun _ i _ => S.size - (RowKit.intOf i).toNat)
 case atStart => exact ⟨0, ⟨#[]⟩, rfl, by omega, rfl, rfl, by show _ = _; rfl, Below.refl _ _⟩
 case round =>
  obtain ⟨k, X, rfl, hk, rfl, hX, HX, hb⟩ := hrel
  by_cases hlt : k < S.size
  · have hli : (k : Int) < (S.size : Int) := by omega
    have gi : ((S[k]'hlt).toNat : Int) = (bt S.data.toList k : Int) := by rw [get_of]; rfl
    have hx := bt_lt S.data.toList k; have hsn := hex_snoc S.data.toList k (by omega)
    have hbe : bt S.data.toList k = (S.data.toList[k]'(by omega)).toNat := by simp [bt, List.getD_eq_getElem?_getD, hlt]
    rw [hexb_two, ← hbe] at hsn
    generalize bt S.data.toList k = x at *
    have p1 := dig_ext ⟨x / 16, by omega⟩; have p2 := dig_ext ⟨x % 16, by omega⟩; simp only at p1 p2; have t1 : (x : Int).tdiv 16 = (x : Int) / 16 := Int.tdiv_eq_ediv_of_nonneg (by omega); have t2 : (x : Int).tmod 16 = (x : Int) % 16 := Int.tmod_eq_emod_of_nonneg (by omega); have v1 : IntKind.u8.wrap ((x : Int) / 16 + 1) = (x : Int) / 16 + 1 := IntWalk.u8_in _ (by omega); have v2 : IntKind.u8.wrap ((x : Int) % 16 + 1) = (x : Int) % 16 + 1 := IntWalk.u8_in _ (by omega)
    have a1 : 0 ≤ (x : Int) / 16 := by omega
    have a2 : 0 ≤ (x : Int) % 16 := by omega
    have b1 : (x : Int) / 16 ≤ (x : Int) / 16 + 1 := by omega
    have b2 : (x : Int) % 16 ≤ (x : Int) % 16 + 1 := by omega
    have c1 : (x : Int) / 16 + 1 ≤ 16 := by omega
    have c2 : (x : Int) % 16 + 1 ≤ 16 := by omega
    have PP1 := Lib.hid p1; have PP2 := Lib.hid p2; have HSN := Lib.hid hsn
    have hq1 : ¬ 9223372036854775807 < X.size + 1 := by omega
    have hq2 : ¬ 9223372036854775807 < X.size + 1 + 1 := by omega
    clear p1 p2 hsn hbe
    go_wp2_with fail
    go_quiet (fail)
    go_wp2_with fail
    go_roundw
    case rel => exact ⟨k + 1, _, by go_num, by omega, rfl, by rw [PP1.out, PP2.out, ByteArray.size_append, ByteArray.size_append, hX]; show 2 * k + 1 + 1 = _; omega, by show _ = _; rw [PP1.out, PP2.out, HX.out, HSN.out]; apply ba_ext; simp, ms_drewN hb _⟩
    case measure => simp [RowKit.intOf]; omega
  · have hli : ¬ (k : Int) < (S.size : Int) := by omega
    have hx := HX.out; rw [List.take_of_length_le (by omega)] at hx; have HXX := Lib.hid hx; clear hx
    go_wp2_with fail
    go_ret
    exact ⟨by rw [← HXX.out]; first | done | rfl, hb⟩
end Go.Proofs.YthlinmkengoliaaGreatDoor
namespace Go.Proofs.YthlinmkengoliaaGreatDoor
open Go.RowKit Go.Ms Go.Lib
theorem rtext_null (k : Int) (tn : Bool) (n : Int) (S : ByteArray) (w : World) :
    Calls Tryz.prog 90 #[.agg #[.int .i64 k, .bool tn], .agg #[.bool true, .int .i64 n, .string S]] w fun e w' => e = .returned (.string ⟨#[110, 117, 108, 108]⟩) ∧ Below w.heap.size w w' := by
 go_enter Tryz.func90, Tryz.ntmps90
 go_wp2
 go_ret
 exact ⟨rfl, ((Below.refl _ _).alloc (Nat.le_refl _) _).alloc (by simp) _⟩
theorem rtext_bool (tn : Bool) (n : Int) (S : ByteArray) (w : World) :
    Calls Tryz.prog 90 #[.agg #[.int .i64 1, .bool tn], .agg #[.bool false, .int .i64 n, .string S]] w fun e w' => e = .returned (.string ⟨(formatBool (n == 1)).toArray⟩) ∧ Below w.heap.size w w' := by
 by_cases h : n = 1
 · subst h
   go_enter Tryz.func90, Tryz.ntmps90
   go_wp2
   go_ret
   exact ⟨rfl, ((Below.refl _ _).alloc (Nat.le_refl _) _).alloc (by simp) _⟩
 · have q : (n == 1) = false := by simpa using h
   rw [q]; clear h
   go_enter Tryz.func90, Tryz.ntmps90
   go_wp2
   go_ret
   exact ⟨rfl, ((Below.refl _ _).alloc (Nat.le_refl _) _).alloc (by simp) _⟩
theorem rtext_num (k : Int) (hk : k = 2 ∨ k = 3) (tn : Bool) (n : Int) (S : ByteArray) (w : World) (b0 : -9223372036854775808 ≤ n) (b1 : n ≤ 9223372036854775807) :
    Calls Tryz.prog 90 #[.agg #[.int .i64 k, .bool tn], .agg #[.bool false, .int .i64 n, .string S]] w fun e w' => e = .returned (.string ⟨(itoa n).toArray⟩) ∧ Below w.heap.size w w' := by
 have cd := fun w => rdigits_any n w b0 b1
 generalize itoa n = L at *
 have CD := Lib.hid cd; clear cd
 rcases hk with rfl | rfl
 all_goals
  go_enter Tryz.func90, Tryz.ntmps90
  go_wp2_with fail
  refine (CD.out _).mono ?_; rintro en w1 ⟨rfl, rfl⟩
  go_wp2_with fail
  go_ret
  exact ⟨rfl, ((Below.refl _ _).alloc (Nat.le_refl _) _).alloc (by simp) _⟩
theorem rtext_str (tn : Bool) (n : Int) (S : ByteArray) (w : World) (hs : S.size ≤ 13000) :
    Calls Tryz.prog 90 #[.agg #[.int .i64 4, .bool tn], .agg #[.bool false, .int .i64 n, .string S]] w fun e w' => e = .returned (.string ⟨(kQuote S.data.toList).toArray⟩) ∧ Below w.heap.size w w' := by
 have cq := fun w => rquote_any S w hs
 unfold kQuote
 generalize (if validD S.data.toList = true then quoteD S.data.toList else []) = L at *
 generalize (if validD S.data.toList = true then (0 : Int) else 40) = e0 at *
 have CQ := Lib.hid cq; clear cq
 go_enter Tryz.func90, Tryz.ntmps90
 go_wp2_with fail
 refine (CQ.out _).mono ?_; rintro en w1 ⟨rfl, bb1⟩
 go_wp2_with fail
 go_ret
 exact ⟨rfl, (((Below.refl _ _).alloc (Nat.le_refl _) _).alloc (by simp) _).trans (bb1.mono (by simp; omega))⟩
theorem rtext_bytes (tn : Bool) (n : Int) (S : ByteArray) (w : World) (hs : S.size ≤ 100000) :
    Calls Tryz.prog 90 #[.agg #[.int .i64 5, .bool tn], .agg #[.bool false, .int .i64 n, .string S]] w fun e w' => e = .returned (.string ⟨(hexD S.data.toList).toArray⟩) ∧ Below w.heap.size w w' := by
 have ch := fun w => rhex_any S w hs
 have hl := khex_len S.data.toList; unfold hexD at hl ⊢; rw [List.length_cons, lenS] at hl; have hz : (⟨(S.data.toList.flatMap hexb).toArray⟩ : ByteArray).size = (S.data.toList.flatMap hexb).length := List.size_toArray
 have hap : (⟨#[120]⟩ : ByteArray) ++ ⟨(S.data.toList.flatMap hexb).toArray⟩ = ⟨((120 : UInt8) :: S.data.toList.flatMap hexb).toArray⟩ := by apply ba_ext; simp
 rw [← hap]
 generalize (⟨(S.data.toList.flatMap hexb).toArray⟩ : ByteArray) = X at *
 have hxl : X.size ≤ 200000 := by omega
 have hq : ¬ 9223372036854775807 < 1 + X.size := by omega
 have CH := Lib.hid ch; clear ch hap hz hl
 go_enter Tryz.func90, Tryz.ntmps90
 go_wp2_with fail
 refine (CH.out _).mono ?_; rintro en w1 ⟨rfl, bb1⟩
 go_wp2_with fail
 go_ret
 exact ⟨rfl, (((Below.refl _ _).alloc (Nat.le_refl _) _).alloc (by simp) _).trans (bb1.mono (by simp; omega))⟩
theorem rtext_any (k : Int) (hk : kMay k = true) (tn u : Bool) (n : Int) (S : ByteArray) (w : World) (hs : S.size ≤ 13000) (b0 : -9223372036854775808 ≤ n) (b1 : n ≤ 9223372036854775807) :
    Calls Tryz.prog 90 #[.agg #[.int .i64 k, .bool tn], .agg #[.bool u, .int .i64 n, .string S]] w fun e w' => e = .returned (.string ⟨(if u = true then kNull else kText k n S.data.toList).toArray⟩) ∧ Below w.heap.size w w' := by
 cases u with
 | true => exact rtext_null k tn n S w
 | false =>
  simp only [Bool.false_eq_true, if_false]
  rcases may_cases hk with rfl | rfl | rfl | rfl | rfl
  · exact rtext_bool tn n S w
  · exact rtext_num 2 (.inl rfl) tn n S w b0 b1
  · exact rtext_num 3 (.inr rfl) tn n S w b0 b1
  · exact rtext_str tn n S w hs
  · exact rtext_bytes tn n S w (by omega)
theorem rText_any (k : Int) (tn u : Bool) (n : Int) (S : ByteArray) (w : World) (hs : S.size ≤ 13000) (b0 : -9223372036854775808 ≤ n) (b1 : n ≤ 9223372036854775807) :
    Calls Tryz.prog 60 #[.agg #[.int .i64 k, .bool tn], .agg #[.bool u, .int .i64 n, .string S]] w fun e w' => e = .returned (.tuple #[.string ⟨(kTextD k tn u n S.data.toList).toArray⟩, .int .i64 (kCheck k tn u n S.data.toList)]) ∧ Below w.heap.size w w' := by
 have cc := fun w' => rcheck_any k tn u n S w' (by omega) b0 b1
 have x0 := TBx.start w k tn u n S; unfold kTextD
 by_cases hc : kCheck k tn u n S.data.toList = 0
 · rw [if_pos hc]; rw [hc] at cc ⊢
   have ct := fun w' => rtext_any k (check_zero hc).1 tn u n S w' hs b0 b1
   generalize (if u = true then kNull else kText k n S.data.toList) = L at *
   have CC := Lib.hid cc; have CT := Lib.hid ct; have X0 := Lib.hid x0
   clear cc ct x0 hc
   go_enter Tryz.func60, Tryz.ntmps60
   go_wp2_with fail
   refine (CC.out _).mono ?_; rintro en w1 ⟨rfl, bb1⟩; have x1 := X0.out.step bb1; obtain ⟨d0, d1, a0, a1, a2, f0, f1, f2, l0, l1⟩ := x1.cells; have X1 := Lib.hid x1; clear x1 bb1
   go_wp2_with fail
   refine (CT.out _).mono ?_; rintro en w2 ⟨rfl, bb2⟩
   go_wp2_with fail
   go_ret2
   exact ⟨rfl, (X1.out.step bb2).bel⟩
 · rw [if_neg hc]
   generalize kCheck k tn u n S.data.toList = c at *
   have q : (c != 0) = true := by simpa using hc
   have CC := Lib.hid cc; have X0 := Lib.hid x0
   clear cc x0 hc
   go_enter Tryz.func60, Tryz.ntmps60
   go_wp2_with fail
   refine (CC.out _).mono ?_; rintro en w1 ⟨rfl, bb1⟩
   go_wp2_with fail
   go_ret2
   exact ⟨rfl, (X0.out.step bb1).bel⟩
end Go.Proofs.YthlinmkengoliaaGreatDoor
set_option linter.unusedSimpArgs false
namespace Go.Ms
open Go.Lib
end Go.Ms
namespace Go.Proofs.YthlinmkengoliaaGreatDoor
open Go.RowKit Go.Ms Go.Lib
end Go.Proofs.YthlinmkengoliaaGreatDoor
namespace Go.Proofs.YthlinmkengoliaaGreatDoor
open Go.RowKit Go.Ms Go.Lib
end Go.Proofs.YthlinmkengoliaaGreatDoor
namespace Go.Proofs.YthlinmkengoliaaGreatDoor
open Go.RowKit Go.Ms Go.Lib
end Go.Proofs.YthlinmkengoliaaGreatDoor
