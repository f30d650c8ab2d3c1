/- Cells: the bits of texts taken off. Cells: hex. Cells: hex read. Cells: whole numbers' bits. Cells: whole numbers' bits taken off. -/
import Derived.Test.YtcdmiiaamajfoaaGreatDoorYEa
import Derived.Test.YtcdmiiaamajfoaaGreatDoorYA
import Derived.Test.YtcdmiiaamajfoaaGreatDoorYBr
import Derived.Test.YtcdmiiaamajfoaaGreatDoorYRb
import Derived.Lib.ConvBytes
import Derived.Test.YtcdmiiaamajfoaaGreatDoorYPa
set_option linter.unusedVariables false
namespace Go.Proofs.YtcdmiiaamajfoaaGreatDoor
open Go.RowKit Go.Ms Go.Lib


set_option maxRecDepth 100000 in
set_option maxHeartbeats 4000000 in
theorem unrow_any (S : ByteArray) (w : World) (hs : S.size ≤ 100000) :
    Calls Tryz.prog 191 #[.string S] w fun e w' => e = .returned (.tuple #[.agg #[.bool false, .int .i64 0, .string ⟨(unrowD S.data.toList).1.toArray⟩], .int .i64 (unrowD S.data.toList).2.1, .int .i64 (unrowD S.data.toList).2.2]) ∧ Below w.heap.size w w' := by
  have hl : S.data.toList.length = S.size := by simp
  obtain ⟨R, hR⟩ : ∃ R, unrowD S.data.toList = R := ⟨_, rfl⟩
  rw [hR]
  have HR := Lib.hid hR
  clear hR
  obtain ⟨W0, hW0⟩ : ∃ W0, w.alloc (.cells #[.bool false, .int .i64 0, .string ⟨#[]⟩] 23) = W0 := ⟨_, rfl⟩
  have hsz0 : W0.heap.size = w.heap.size + 1 := by rw [← hW0]; simp
  have B0 : Below w.heap.size w W0 := by rw [← hW0]; exact (Below.refl _ w).alloc (Nat.le_refl _) _
  have hblk0 : W0.heap[w.heap.size]? = some (.cells #[.bool false, .int .i64 0, .string ⟨#[]⟩] 23 (0, 0)) := by rw [← hW0]; exact heap_alloc_new w _
  have hI0 : IsBuilderF 82 5 W0.heap.size W0.heap.size (Lib.byteCells []) (W0.alloc (.cells #[.pointer none, .slice none 0 0] 82)) := IsBuilderF.of (Lib.fresh_isBuilder 82 5 W0)
  have hb0 : Below W0.heap.size W0 (W0.alloc (.cells #[.pointer none, .slice none 0 0] 82)) := (Below.refl _ _).alloc (Nat.le_refl _) _
  have res : ∀ w1, Below W0.heap.size W0 w1 → Res3 w1 w.heap.size (.bool false) (.int .i64 0) (.string ⟨#[]⟩) ∧ Below w.heap.size w w1 := by
    intro w1 hb
    refine ⟨?_, B0.trans (hb.mono (by omega))⟩
    subst hW0
    exact res3_made _ _ _ _ (hb.mono (by simp))
  have HRES := Lib.hid res
  have HW0 := Lib.hid hW0
  have HSZ := Lib.hid hsz0
  clear res hblk0 hsz0 hW0
  go_enter Tryz.func191, Tryz.ntmps191
  go_wp2_with fail
  rw [HW0.out, ← HSZ.out]
  go_loopw [6] (fun x wr => ∃ (i f : Nat) (acc : Bs), x = .int .i64 i ∧ i ≤ S.size ∧ S.size + 1 ≤ f + i ∧ acc.length ≤ i ∧ IsBuilderF 82 5 W0.heap.size W0.heap.size (Lib.byteCells acc) wr ∧ Below W0.heap.size W0 wr ∧ W0.heap.size ≤ wr.heap.size ∧ Hid (unrowG S.data.toList f i acc = R)) (fun x _ => S.size - (RowKit.intOf x).toNat)
  case atStart => exact ⟨0, S.size + 1, [], rfl, by omega, by omega, by simp, hI0, hb0, by simp, by show _ = _; rw [← hl]; exact HR.out⟩
  case round =>
    obtain ⟨i, f, acc, rfl, hi, hf, hal, hI, hb, hsz, hg⟩ := hrel
    obtain ⟨f, rfl⟩ : ∃ g, f = g + 1 := ⟨f - 1, by omega⟩
    obtain ⟨⟨c0, c1, c2, f0, f1, f2, hlt⟩, bw⟩ := HRES.out _ hb
    have hr := hg.out
    rw [unrowG_succ] at hr
    by_cases hil : S.size ≤ i
    · rw [if_pos (by omega)] at hr
      subst hr
      have hli : ¬ (i : Int) < (S.size : Int) := by omega
      clear hg
      go_wp2_with fail
      exact bodyPost_ret (v := .tuple #[.agg #[.bool false, .int .i64 0, .string ⟨#[]⟩], .int .i64 0, .int .i64 3]) (by simp [results, Tryz.results191, go_sem, c0, c1, c2]) rfl ⟨rfl, ((bw.setCell (Nat.le_refl _) _).setCell (Nat.le_refl _) _).setCell (Nat.le_refl _) _⟩
    have hil' : i < S.size := by omega
    have hli : (i : Int) < (S.size : Int) := by omega
    rw [if_neg (by omega)] at hr
    have gi : ((S[i]'hil').toNat : Int) = (bt S.data.toList i : Int) := by rw [get_of]; rfl
    have hbl := bt_lt S.data.toList i
    have hgx : S.data.toList.getD i 0 = (bt S.data.toList i).toUInt8 := by unfold bt; simp
    obtain ⟨x, hx⟩ : ∃ x, bt S.data.toList i = x := ⟨_, rfl⟩
    rw [hx] at hr gi hbl hgx
    have cl := fun w' (h : IsBuilderF 82 5 W0.heap.size W0.heap.size (Lib.byteCells acc) w') => Tryz.Builder_Len_f W0.heap.size W0.heap.size (Lib.byteCells acc) w' h
    have hlc : (Lib.byteCells acc).length = acc.length := by rw [Lib.byteCells_length]
    rw [hlc] at cl
    have CL := Lib.hid cl
    have HLC := Lib.hid hlc
    clear cl hlc hg hx
    by_cases hx0 : x = 0
    · subst hx0
      rw [if_pos rfl] at hr
      have v1 : IntKind.i64.wrap ((i : Int) + 1) = (i : Int) + 1 := IntWalk.i64_in _ (by omega)
      by_cases hi1 : S.size ≤ i + 1
      · rw [if_pos (by omega)] at hr
        subst hr
        have e1 : ((i : Int) + 1 == (S.size : Int)) = true := by rw [beq_iff_eq]; omega
        go_wp2_with fail
        exact bodyPost_ret (v := .tuple #[.agg #[.bool false, .int .i64 0, .string ⟨#[]⟩], .int .i64 0, .int .i64 3]) (by simp [results, Tryz.results191, go_sem, c0, c1, c2]) rfl ⟨rfl, ((bw.setCell (Nat.le_refl _) _).setCell (Nat.le_refl _) _).setCell (Nat.le_refl _) _⟩
      rw [if_neg (by omega)] at hr
      have hi1' : i + 1 < S.size := by omega
      have e1 : ((i : Int) + 1 == (S.size : Int)) = false := by rw [beq_eq_false_iff_ne]; omega
      have e2 : (i : Int) + 1 < (S.size : Int) := by omega
      have gj : ((S[i + 1]'hi1').toNat : Int) = (bt S.data.toList (i + 1) : Int) := by rw [get_of]; rfl
      have hbj := bt_lt S.data.toList (i + 1)
      have hk0 : (((⟨#[0, 255]⟩ : ByteArray)[1]'(by decide)).toNat : Int) = 255 := rfl
      obtain ⟨y, hy⟩ : ∃ y, bt S.data.toList (i + 1) = y := ⟨_, rfl⟩
      rw [hy] at hr gj hbj
      clear hy
      by_cases hy0 : y = 0
      · subst hy0
        rw [if_pos rfl] at hr
        subst hr
        have cs := fun w' (h : IsBuilderF 82 5 W0.heap.size W0.heap.size (Lib.byteCells acc) w') (h2 : W0.heap.size ≤ w'.heap.size) => Tryz.Builder_String_any_k W0.heap.size W0.heap.size acc w' h h2
        have CS := Lib.hid cs
        clear cs
        have v2 : IntKind.i64.wrap ((i : Int) + 1 + 1) = (i : Int) + 1 + 1 := IntWalk.i64_in _ (by omega)
        go_wp2_with fail
        refine (CS.out _ hI hsz).mono ?_
        rintro en w2 ⟨rfl, _, b2, _⟩
        obtain ⟨⟨d0, d1, d2, g0, g1, g2, hlt2⟩, bw2⟩ := HRES.out _ (hb.trans b2)
        go_wp2_with fail
        exact bodyPost_ret (v := .tuple #[.agg #[.bool false, .int .i64 0, .string ⟨acc.toArray⟩], .int .i64 ((i : Int) + 1 + 1), .int .i64 0]) (by simp [results, Tryz.results191, go_sem, d0, d1, d2]) rfl ⟨rfl, ((bw2.setCell (Nat.le_refl _) _).setCell (Nat.le_refl _) _).setCell (Nat.le_refl _) _⟩
      rw [if_neg hy0] at hr
      have hy0' : ((y : Int) == 0) = false := by rw [beq_eq_false_iff_ne]; omega
      by_cases hy2 : y = 255
      · subst hy2
        rw [if_pos rfl] at hr
        by_cases ha : acc.length = 1024
        · rw [if_pos ha] at hr
          subst hr
          have ha' : ((acc.length : Int) == 1024) = true := by rw [beq_iff_eq]; omega
          have hID : ∀ n, IsBuilderF 82 5 W0.heap.size W0.heap.size (Lib.byteCells acc) (wr.drewN n) := fun n => hI
          have HID := Lib.hid hID
          clear hID
          go_wp2_with fail
          go_quiet (fail)
          go_wp2_with fail
          refine (CL.out _ (HID.out _)).mono ?_
          rintro en w2 ⟨rfl, rfl⟩
          go_wp2_with fail
          exact bodyPost_ret (v := .tuple #[.agg #[.bool false, .int .i64 0, .string ⟨#[]⟩], .int .i64 0, .int .i64 4]) (by simp [results, Tryz.results191, go_sem, c0, c1, c2]) rfl ⟨rfl, ((((ms_drewN bw _).setCell (Nat.le_refl _) _).setCell (Nat.le_refl _) _).setCell (Nat.le_refl _) _)⟩
        · rw [if_neg ha] at hr
          have ha' : ((acc.length : Int) == 1024) = false := by rw [beq_eq_false_iff_ne]; omega
          have hID : ∀ n, IsBuilderF 82 5 W0.heap.size W0.heap.size (Lib.byteCells acc) (wr.drewN n) := fun n => hI
          have hsD : ∀ n, W0.heap.size ≤ (wr.drewN n).heap.size := fun n => hsz
          have hbD : ∀ n, Below W0.heap.size W0 (wr.drewN n) := fun n => ms_drewN hb n
          have HG := Lib.hid hr
          have hbyte : Lib.byteCells acc ++ [Value.int .u8 (0 : Int)] = Lib.byteCells (acc ++ [0]) := by
            rw [Lib.byteCells_append]; rfl
          have cw := fun w' (h : IsBuilderF 82 5 W0.heap.size W0.heap.size (Lib.byteCells acc) w') (h2 : W0.heap.size ≤ w'.heap.size) => wbyte_any W0.heap.size W0.heap.size (Lib.byteCells acc) 0 w' h (by rw [HLC.out]; omega) h2
          rw [hbyte] at cw
          have CW := Lib.hid cw
          have HID := Lib.hid hID
          have HSD := Lib.hid hsD
          have HBD := Lib.hid hbD
          clear hID hsD hbD cw hbyte hgx hr
          go_wp2_with fail
          go_quiet (fail)
          go_wp2_with fail
          refine (CL.out _ (HID.out _)).mono ?_
          rintro en w2 ⟨rfl, rfl⟩
          go_wp2_with fail
          refine (CW.out _ (HID.out _) (HSD.out _)).mono ?_
          rintro en w2 ⟨rfl, hI2, b2, _⟩
          have B2 := (HBD.out _).trans b2
          have hs2 := b2.size
          go_wp2_with fail
          go_roundw
          case rel => exact ⟨i + 2, f, acc ++ [0], by go_num, by omega, by omega, by simp; omega, hI2, B2, Nat.le_trans hsz hs2, HG⟩
          case measure => simp [RowKit.intOf]; omega
      · rw [if_neg hy2] at hr
        subst hr
        have hy2' : ((y : Int) == 255) = false := by rw [beq_eq_false_iff_ne]; omega
        have hy2'' : ((y : Int) != 255) = true := by rw [bne_iff_ne]; omega
        go_wp2_with fail
        go_quiet (fail)
        go_wp2_with fail
        exact bodyPost_ret (v := .tuple #[.agg #[.bool false, .int .i64 0, .string ⟨#[]⟩], .int .i64 0, .int .i64 4]) (by simp [results, Tryz.results191, go_sem, c0, c1, c2]) rfl ⟨rfl, ((((ms_drewN bw _).setCell (Nat.le_refl _) _).setCell (Nat.le_refl _) _).setCell (Nat.le_refl _) _)⟩
    · rw [if_neg hx0] at hr
      have hx0' : ((x : Int) == 0) = false := by rw [beq_eq_false_iff_ne]; omega
      by_cases ha : acc.length = 1024
      · rw [if_pos ha] at hr
        subst hr
        have ha' : ((acc.length : Int) == 1024) = true := by rw [beq_iff_eq]; omega
        go_wp2_with fail
        refine (CL.out _ hI).mono ?_
        rintro en w2 ⟨rfl, rfl⟩
        go_wp2_with fail
        exact bodyPost_ret (v := .tuple #[.agg #[.bool false, .int .i64 0, .string ⟨#[]⟩], .int .i64 0, .int .i64 4]) (by simp [results, Tryz.results191, go_sem, c0, c1, c2]) rfl ⟨rfl, ((bw.setCell (Nat.le_refl _) _).setCell (Nat.le_refl _) _).setCell (Nat.le_refl _) _⟩
      · rw [if_neg ha] at hr
        have ha' : ((acc.length : Int) == 1024) = false := by rw [beq_eq_false_iff_ne]; omega
        have HG := Lib.hid hr
        clear hr
        have hbyte : Lib.byteCells acc ++ [Value.int .u8 (x : Int)] = Lib.byteCells (acc ++ [S.data.toList.getD i 0]) := by
          rw [hgx, Lib.byteCells_append]
          congr 1
          unfold Lib.byteCells
          simp [Nat.toUInt8]; omega
        have cw := fun w' (h : IsBuilderF 82 5 W0.heap.size W0.heap.size (Lib.byteCells acc) w') (h2 : W0.heap.size ≤ w'.heap.size) => wbyte_any W0.heap.size W0.heap.size (Lib.byteCells acc) x w' h (by rw [HLC.out]; omega) h2
        rw [hbyte] at cw
        have CW := Lib.hid cw
        clear cw hbyte hgx
        go_wp2_with fail
        refine (CL.out _ hI).mono ?_
        rintro en w2 ⟨rfl, rfl⟩
        go_wp2_with fail
        refine (CW.out _ hI hsz).mono ?_
        rintro en w2 ⟨rfl, hI2, b2, _⟩
        go_wp2_with fail
        go_roundw
        case rel => exact ⟨i + 1, f, acc ++ [S.data.toList.getD i 0], by go_num, by omega, by omega, by simp; omega, hI2, hb.trans b2, by have := b2.size; omega, HG⟩
        case measure => simp [RowKit.intOf]; omega
end Go.Proofs.YtcdmiiaamajfoaaGreatDoor
namespace Go.Proofs.YtcdmiiaamajfoaaGreatDoor
open Go.RowKit Go.Ms Go.Lib


end Go.Proofs.YtcdmiiaamajfoaaGreatDoor
namespace Go.Proofs.YtcdmiiaamajfoaaGreatDoor
open Go.RowKit Go.Ms Go.Lib


end Go.Proofs.YtcdmiiaamajfoaaGreatDoor
namespace Go.Proofs.YtcdmiiaamajfoaaGreatDoor
open Go.RowKit Go.Ms Go.Lib

/-- The eight bytes of a number without a sign. -/
def num8 (U : Int) : List Int := [U / 72057594037927936, U / 281474976710656 % 256, U / 1099511627776 % 256, U / 4294967296 % 256, U / 16777216 % 256, U / 65536 % 256, U / 256 % 256, U % 256]

theorem conv_newT {P : Program} (w : World) (n : Nat) (hn : n = w.heap.size) (src e e' : TypeId) (hs : P.underlying src = some (.slice e)) (he : P.underlying e = some (.int .u8)) (ns : List Int) (dst : TypeId) (hd : P.underlying dst = some .string) :
    (convert src dst (.slice (some ⟨n, 0, none⟩) ns.length ns.length)).run P (w.alloc (.cells (ns.map (Value.int .u8)).toArray e')) = .ok (.string (strOfNums ns)) (w.alloc (.cells (ns.map (Value.int .u8)).toArray e')) := by
  refine run_convert_bytes_arg _ src e hs he _ 0 _ _ ns rfl (fun i hi => ?_) dst hd
  rw [Nat.zero_add, World.cell?_alloc_at _ _ _ _ hn]
  simp [hi]
set_option maxRecDepth 100000 in
set_option maxHeartbeats 4000000 in
theorem number_str (n : Int) (nu : Bool) (S : ByteArray) (w : World) (h0 : -9223372036854775808 ≤ n) (h1 : n ≤ 9223372036854775807) :
    Calls Tryz.prog 184 #[.agg #[.bool nu, .int .i64 n, .string S]] w fun e w' => e = .returned (.string (strOfNums (num8 (n + 9223372036854775808)))) ∧ Below w.heap.size w w' := by
  have fx := flip_up n h0 h1
  have u0 : 0 ≤ n + 9223372036854775808 := by omega
  have u1 : n + 9223372036854775808 < 18446744073709551616 := by omega
  generalize n + 9223372036854775808 = U at *
  have kc := fun (w : World) (n : Nat) (hn : n = w.heap.size) (a b c d e f g h : Int) => conv_newT (P := Tryz.prog) w n hn 77 5 207 Tryz.underlying77 Tryz.underlying5 [a, b, c, d, e, f, g, h] 9 Tryz.underlying9
  simp only [List.map_cons, List.map_nil, List.length_cons, List.length_nil, Nat.zero_add, Nat.reduceAdd] at kc
  go_enter Tryz.func184, Tryz.ntmps184
  go_wp2_with fail
  go_rounds 9
  go_ret
  exact ⟨rfl, ((Below.refl _ _).alloc (Nat.le_refl _) _).alloc (by simp) _⟩
end Go.Proofs.YtcdmiiaamajfoaaGreatDoor
namespace Go.Ms
/-- The number of bytes, the highest first. -/
def beD (l : Bs) : Nat := l.foldl (fun u c => 256 * u + c.toNat) 0
theorem beD_snoc (l : Bs) (c : UInt8) : beD (l ++ [c]) = 256 * beD l + c.toNat := by unfold beD; rw [List.foldl_append]; rfl
theorem be_lt : ∀ (l : Bs) (u : Nat), l.foldl (fun u c => 256 * u + c.toNat) u < (u + 1) * 256 ^ l.length
  | [], u => by simp
  | c :: l, u => by
    have h := be_lt l (256 * u + c.toNat)
    have hc := UInt8.toNat_lt c
    rw [List.foldl_cons, List.length_cons, Nat.pow_succ]
    have h2 : (256 * u + c.toNat + 1) * 256 ^ l.length ≤ (256 * (u + 1)) * 256 ^ l.length := Nat.mul_le_mul_right _ (by omega)
    have h3 : (256 * (u + 1)) * 256 ^ l.length = (u + 1) * (256 ^ l.length * 256) := by rw [Nat.mul_comm 256 (u + 1), Nat.mul_assoc, Nat.mul_comm 256 _]
    omega
theorem beD_lt (l : Bs) : beD l < 256 ^ l.length := by
  have := be_lt l 0
  simpa [beD] using this
theorem or_8 (u c : Int) (h0 : 0 ≤ u) (h1 : u < 72057594037927936) (h2 : 0 ≤ c) (h3 : c < 256) : bits .or .u64 (u * 256) c = 256 * u + c := by
  rw [u64_or _ _ (by omega) (by omega) h2 (by omega)]
  have e : (u * 256).toNat = u.toNat <<< 8 := by rw [Nat.shiftLeft_eq]; omega
  rw [e, ← Nat.shiftLeft_add_eq_or_of_lt (by omega), Nat.shiftLeft_eq]
  omega
/-- What unnumber answers. -/
def unnumD (l : Bs) : Int × Nat × Int := if l.length < 8 then (0, 0, 3) else ((beD (l.take 8) : Int) - 9223372036854775808, 8, 0)
end Go.Ms
namespace Go.Proofs.YtcdmiiaamajfoaaGreatDoor
open Go.RowKit Go.Ms Go.Lib

theorem be_take (l : Bs) (k : Nat) (h : k < l.length) : beD (l.take (k + 1)) = 256 * beD (l.take k) + (l[k]).toNat := by
  rw [List.take_succ_eq_append_getElem h, beD_snoc]
theorem pow_le8 {k : Nat} (h : k < 8) : 256 ^ k ≤ 72057594037927936 := by
  have : 256 ^ k ≤ 256 ^ 7 := Nat.pow_le_pow_right (by omega) (by omega)
  simpa using this

set_option maxRecDepth 100000 in
set_option maxHeartbeats 4000000 in
theorem unnumber_any (S : ByteArray) (w : World) (hs : S.size ≤ 100000) :
    Calls Tryz.prog 185 #[.string S] w fun e w' => e = .returned (.tuple #[.agg #[.bool false, .int .i64 (unnumD S.data.toList).1, .string ⟨#[]⟩], .int .i64 (unnumD S.data.toList).2.1, .int .i64 (unnumD S.data.toList).2.2]) ∧ Below w.heap.size w w' := by
  have hl : S.data.toList.length = S.size := by simp
  obtain ⟨R, hR⟩ : ∃ R, unnumD S.data.toList = R := ⟨_, rfl⟩
  rw [hR]
  unfold unnumD at hR
  obtain ⟨W0, hW0⟩ : ∃ W0, w.alloc (.cells #[.bool false, .int .i64 0, .string ⟨#[]⟩] 23) = W0 := ⟨_, rfl⟩
  have hsz0 : W0.heap.size = w.heap.size + 1 := by rw [← hW0]; simp
  have B0 : Below w.heap.size w W0 := by rw [← hW0]; exact (Below.refl _ w).alloc (Nat.le_refl _) _
  have res : ∀ w1, Below W0.heap.size W0 w1 → Res3 w1 w.heap.size (.bool false) (.int .i64 0) (.string ⟨#[]⟩) ∧ Below w.heap.size w w1 := by
    intro w1 hb
    refine ⟨?_, B0.trans (hb.mono (by omega))⟩
    subst hW0
    exact res3_made _ _ _ _ (hb.mono (by simp))
  by_cases h8 : S.size < 8
  · rw [if_pos (by omega)] at hR
    subst hR
    obtain ⟨⟨c0, c1, c2, f0, f1, f2, hlt⟩, bw⟩ := res W0 (Below.refl _ _)
    have h8' : (S.size : Int) < 8 := by omega
    have HW0 := Lib.hid hW0
    clear res hW0 hsz0
    go_enter Tryz.func185, Tryz.ntmps185
    go_wp2
    exact bodyPost_ret (v := .tuple #[.agg #[.bool false, .int .i64 0, .string ⟨#[]⟩], .int .i64 0, .int .i64 3]) (by simp [results, Tryz.results185, go_sem]) rfl ⟨rfl, (Below.refl _ _).alloc (Nat.le_refl _) _⟩
  · rw [if_neg (by omega)] at hR
    have HR := Lib.hid hR
    have h8' : ¬ (S.size : Int) < 8 := by omega
    have h8i : (8 : Int) ≤ (S.size : Int) := by omega
    obtain ⟨T, hT⟩ : ∃ T, S.extract 0 8 = T := ⟨_, rfl⟩
    have hTl : T.data.toList = S.data.toList.take 8 := by rw [← hT, ext_list]; simp
    have hTz : T.size = 8 := by rw [← hT, ByteArray.size_extract]; omega
    have kb := Lib.run_convert_string_bytes (P := Tryz.prog) W0 9 77 5 T Tryz.underlying9 Tryz.underlying77 Tryz.underlying5
    rw [hTz, hsz0] at kb
    generalize grownCap W0 8 0 5 = cap at kb
    have hcells : ∀ j, j < 8 → (Lib.bytesWorld W0 5 T).cell? ⟨W0.heap.size, j, none⟩ = some (.int .u8 ((bt T.data.toList j : Nat) : Int)) := fun j hj => Lib.bytesWorld_cell W0 5 T j (by omega)
    have hbb := Joins.below_bytesWorld W0.heap.size W0 5 T (Nat.le_refl _)
    have hszb := Lib.bytesWorld_size W0 5 T
    obtain ⟨W2, hW2⟩ : ∃ W2, Lib.bytesWorld W0 5 T = W2 := ⟨_, rfl⟩
    rw [hW2] at hcells hbb hszb kb
    rw [← hT, ← hW0] at kb
    have HC := Lib.hid hcells; have HT := Lib.hid hT; have HW2 := Lib.hid hW2; have HW0 := Lib.hid hW0; have HRES := Lib.hid res; have HTL := Lib.hid hTl; have HTZ := Lib.hid hTz; have HSB := Lib.hid hszb; have HS0 := Lib.hid hsz0
    clear hcells hT hW2 hW0 res hTl hTz hR hszb hsz0
    go_enter Tryz.func185, Tryz.ntmps185
    go_wp2_with fail
    go_loopw [5, 16] (fun u i wr => ∃ k : Nat, i = .int .i64 k ∧ k ≤ 8 ∧ u = .int .u64 ((beD (T.data.toList.take k) : Nat) : Int) ∧ wr = W2) (fun _ i _ => 8 - (RowKit.intOf i).toNat)
    case atStart => exact ⟨0, rfl, by omega, rfl, rfl⟩
    case round =>
      obtain ⟨k, rfl, hk, rfl, hwr⟩ := hrel
      subst hwr
      by_cases hlt : k < 8
      · have hli : (k : Int) < 8 := by omega
        have hck := HC.out k hlt
        rw [HS0.out] at hck
        have hTlen : T.data.toList.length = 8 := by rw [← HTZ.out]; simp
        have hsn := be_take T.data.toList k (by omega)
        have hbe : bt T.data.toList k = (T.data.toList[k]'(by omega)).toNat := by
          have : k < T.size := by rw [HTZ.out]; exact hlt
          simp [bt, List.getD_eq_getElem?_getD, this]
        rw [← hbe] at hsn
        have hx := bt_lt T.data.toList k
        have hlt2 := beD_lt (T.data.toList.take k)
        rw [List.length_take, hTlen, Nat.min_eq_left (by omega)] at hlt2
        have hp := pow_le8 hlt
        have hU : beD (T.data.toList.take k) < 72057594037927936 := Nat.lt_of_lt_of_le hlt2 hp
        generalize bt T.data.toList k = x at *
        have HSN := Lib.hid hsn
        clear hsn hbe hlt2 hp hTlen
        generalize beD (T.data.toList.take k) = u at *
        have w1 : IntKind.u64.wrap ((u : Int) * 256) = (u : Int) * 256 := IntWalk.u64_in _ (by omega)
        have w2 := or_8 (u : Int) (x : Int) (by omega) (by omega) (by omega) (by omega)
        go_wp2_with fail
        go_roundw
        case rel => exact ⟨k + 1, by go_num, by omega, by rw [HSN.out]; go_num, trivial⟩
        case measure => simp [RowKit.intOf]; omega
      · obtain rfl : k = 8 := by omega
        obtain ⟨⟨c0, c1, c2, f0, f1, f2, hlt⟩, bw⟩ := HRES.out _ hbb
        have hlt2 := beD_lt (T.data.toList.take 8)
        have hr := HR.out
        rw [← HTL.out] at hr
        have htt : T.data.toList.take 8 = T.data.toList := List.take_of_length_le (by have := HTZ.out; simp; omega)
        rw [htt] at hlt2 ⊢
        have hU : beD T.data.toList < 18446744073709551616 := by
          have hTlen : T.data.toList.length = 8 := by rw [← HTZ.out]; simp
          rw [hTlen] at hlt2
          exact hlt2
        clear htt hlt2
        have fd := flip_down (beD T.data.toList : Int) (by omega) (by omega)
        generalize beD T.data.toList = u at *
        subst hr
        go_wp2_with fail
        exact bodyPost_ret (v := .tuple #[.agg #[.bool false, .int .i64 ((u : Int) - 9223372036854775808), .string ⟨#[]⟩], .int .i64 8, .int .i64 0]) (by simp [results, Tryz.results185, go_sem, c0, c1, c2]) rfl ⟨rfl, ((bw.setCell (Nat.le_refl _) _).setCell (Nat.le_refl _) _).setCell (Nat.le_refl _) _⟩
end Go.Proofs.YtcdmiiaamajfoaaGreatDoor
