/- spelt: runes as a literal, each in one of its ways. -/
import Derived.Test.YtnjljcgapijadaaDoorU7
set_option linter.unusedVariables false
namespace Go.Proofs.YtnjljcgapijadaaDoor
open Go.RowKit Go.Ms Go.Lib

theorem scan_at (n : Nat) (h : n < 8) : (⟨#[34, 92, 47, 8, 12, 10, 13, 9]⟩ : ByteArray).extract n (n + 1) = ⟨#[shortS.getD n 0]⟩ := by
  have key : ∀ c : Fin 8, (⟨#[34, 92, 47, 8, 12, 10, 13, 9]⟩ : ByteArray).extract c.val (c.val + 1) = ⟨#[shortS.getD c.val 0]⟩ := by decide
  exact key ⟨n, h⟩
theorem scan_to (n : Nat) (h : n < 8) : (⟨#[34, 92, 47, 98, 102, 110, 114, 116]⟩ : ByteArray).extract n (n + 1) = ⟨#[shortT.getD n 0]⟩ := by
  have key : ∀ c : Fin 8, (⟨#[34, 92, 47, 98, 102, 110, 114, 116]⟩ : ByteArray).extract c.val (c.val + 1) = ⟨#[shortT.getD c.val 0]⟩ := by decide
  exact key ⟨n, h⟩

theorem scan_atL (n : Nat) (h : n < 8) : ((⟨#[34, 92, 47, 8, 12, 10, 13, 9]⟩ : ByteArray).extract n (n + 1)).toList = [shortS.getD n 0] := by
  rw [scan_at n h, Lib.toList_data]
theorem scan_yes {b : Bs} {n : Nat} (h : b = [shortS.getD n 0]) : scanD b (n + 1) = [92, shortT.getD n 0] := if_pos h
theorem scan_no {b : Bs} {n : Nat} (h : ¬ b = [shortS.getD n 0]) : scanD b (n + 1) = scanD b n := if_neg h
theorem str_app34 (a : Bs) : (⟨(34 :: a).toArray⟩ : ByteArray) ++ ⟨#[34]⟩ = ⟨(34 :: (a ++ [34])).toArray⟩ := by
  apply ba_ext; simp

theorem four_low (k n : Int) (w : World) (hk : k % 2 = 0) (h0 : 0 ≤ n) (h1 : n < 65536) :
    Calls Tryd.prog 47 #[.int .i64 n, .string ⟨#[48, 49, 50, 51, 52, 53, 54, 55, 56, 57, 97, 98, 99, 100, 101, 102]⟩] w fun e w' => e = .returned (.string ⟨(fourD (digsD k) n).toArray⟩) ∧ Below w.heap.size w w' := by
  have h := four_any n ⟨#[48, 49, 50, 51, 52, 53, 54, 55, 56, 57, 97, 98, 99, 100, 101, 102]⟩ w h0 h1 rfl
  unfold digsD; rw [if_pos hk]; exact h
theorem four_up (k n : Int) (w : World) (hk : ¬ k % 2 = 0) (h0 : 0 ≤ n) (h1 : n < 65536) :
    Calls Tryd.prog 47 #[.int .i64 n, .string ⟨#[48, 49, 50, 51, 52, 53, 54, 55, 56, 57, 65, 66, 67, 68, 69, 70]⟩] w fun e w' => e = .returned (.string ⟨(fourD (digsD k) n).toArray⟩) ∧ Below w.heap.size w w' := by
  have h := four_any n ⟨#[48, 49, 50, 51, 52, 53, 54, 55, 56, 57, 65, 66, 67, 68, 69, 70]⟩ w h0 h1 rfl
  unfold digsD; rw [if_neg hk]; exact h
theorem fourD_len (d : Bs) (n : Int) : (fourD d n).length = 6 := rfl
theorem piece_A {r k : Int} {sh : Bs} (h : k = 3) (e : scanD (encodeRune r) 8 = sh) (h2 : sh ≠ []) : pieceD r k = sh := by
  unfold pieceD; rw [if_pos ⟨h, by rw [e]; exact h2⟩, e]
theorem piece_B {r k : Int} {sh : Bs} (e : scanD (encodeRune r) 8 = sh) (hA : k ≠ 3 ∨ sh = []) (hB : 2 ≤ k ∧ 32 ≤ r ∧ r ≠ 34 ∧ r ≠ 92) : pieceD r k = encodeRune r := by
  unfold pieceD; rw [if_neg (fun h => by rcases hA with g | g; exact g h.1; exact h.2 (by rw [e]; exact g)), if_pos hB]
theorem piece_C {r k : Int} {sh : Bs} (e : scanD (encodeRune r) 8 = sh) (hA : k ≠ 3 ∨ sh = []) (hB : ¬ (2 ≤ k ∧ 32 ≤ r ∧ r ≠ 34 ∧ r ≠ 92)) (hC : r < 65536) : pieceD r k = fourD (digsD k) r := by
  unfold pieceD; rw [if_neg (fun h => by rcases hA with g | g; exact g h.1; exact h.2 (by rw [e]; exact g)), if_neg hB, if_pos hC]
theorem piece_D {r k : Int} {sh : Bs} (e : scanD (encodeRune r) 8 = sh) (hA : k ≠ 3 ∨ sh = []) (hB : ¬ (2 ≤ k ∧ 32 ≤ r ∧ r ≠ 34 ∧ r ≠ 92)) (hC : ¬ r < 65536) : pieceD r k = fourD (digsD k) (55296 + (r - 65536) / 1024) ++ fourD (digsD k) (56320 + (r - 65536) % 1024) := by
  unfold pieceD; rw [if_neg (fun h => by rcases hA with g | g; exact g h.1; exact h.2 (by rw [e]; exact g)), if_neg hB, if_neg hC]

theorem scan_len (b : Bs) (n : Nat) : (scanD b n).length ≤ 2 := by
  rcases scan_cases b n with e | ⟨c, _, _, e⟩ <;> rw [e] <;> simp

set_option maxRecDepth 100000 in
set_option maxHeartbeats 4000000 in
theorem spelt_any (a a1 : Option Addr) (len cap len1 cap1 : Nat) (zs hs : List Int) (w : World) (h : RowIn w a len cap zs) (h1 : RowIn w a1 len1 cap1 hs) :
    Calls Tryd.prog 26 #[.slice a len cap, .slice a1 len1 cap1] w fun e w' => e = .returned (.string ⟨(34 :: (bodyD zs hs len1 (min len 60) ++ [34])).toArray⟩) ∧ Below w.heap.size w w' := by
  have hle := h.le
  have hle2 := h.len_le
  have hle1 := h1.le
  have hle3 := h1.len_le
  have hcell1 : ∀ w', Below w.heap.size w w' → ∀ i, i < len1 → ∃ b o, a1 = some ⟨b, o, none⟩ ∧ w'.cell? ⟨b, o + i, none⟩ = some (.int .i64 (hs.getD i 0)) := fun w' hb i hi => by
    obtain ⟨b, o, e, hc⟩ := h1.at' i hi
    exact ⟨b, o, e, by rw [hb.cell (cell_lt hc)]; exact hc⟩
  have H := Lib.hid h
  have H1 := Lib.hid h1
  have HC1 := Lib.hid hcell1
  clear h h1 hcell1
  go_enter Tryd.func26, Tryd.ntmps26
  go_wp2
  go_loopw [5, 6] (fun s i wr => ∃ k : Nat, k ≤ min len 60 ∧ i = .int .i64 k ∧ s = .string ⟨(34 :: bodyD zs hs len1 k).toArray⟩ ∧ Below w.heap.size w wr) (fun _ i _ => 60 - (RowKit.intOf i).toNat)
  case atStart => exact ⟨0, by omega, rfl, rfl, Below.refl _ _⟩
  case round =>
    obtain ⟨k, hk, rfl, rfl, hb⟩ := hrel
    by_cases hlt : k < len ∧ k < 60
    · obtain ⟨hl1, hl2⟩ := hlt
      obtain ⟨bb, off, rfl, hc⟩ := H.out.at' k hl1
      rw [← hb.cell (cell_lt hc)] at hc
      have hz := getD_mem (zs := zs) (i := k) (by omega)
      have z0 := H.out.lo _ hz
      have z1 := H.out.hi _ hz
      have hbl := body_len zs hs len1 k
      have hr := oneD_rune (zs.getD k 0)
      have hbd := oneD_bd (zs.getD k 0)
      have hn0 : ∀ K, kD hs len1 k = K → bodyD zs hs len1 (k + 1) = bodyD zs hs len1 k ++ pieceD (oneD (zs.getD k 0)) K := fun K e => by rw [← e]; rfl
      have HN := Lib.hid hn0
      clear hn0
      have C1 := Lib.hid (fun w' => one_any (zs.getD k 0) w' z0 z1)
      have C2 := Lib.hid (fun w' => put_any (oneD (zs.getD k 0)) (by omega) (by omega) w')
      rw [hr, put_rune hr] at C2
      generalize zs.getD k 0 = x at *
      generalize hB : bodyD zs hs len1 k = B at *
      have HB := Lib.hid hB
      clear hB
      have hsl : (34 :: B).length ≤ 721 := by rw [List.length_cons]; omega
      generalize hS : (34 :: B) = S at *
      have HS := Lib.hid hS
      clear hS
      generalize oneD x = r at *
      have el := encodeRune_length r
      obtain ⟨el1, el2⟩ := el
      have hLe : S.length + (encodeRune r).length ≤ 9223372036854775807 := by omega
      have hle4 := el2
      clear el1 el2 hbl
      obtain ⟨hbd1, hbd2⟩ := hbd
      have HR := Lib.hid hr
      clear hr hz
      by_cases hh : len1 = 0
      · have hK : kD hs len1 k = 0 := by unfold kD; rw [if_pos hh]
        have HK := Lib.hid (HN.out 0 hK)
        clear hK
        subst hh
        go_wp2_with fail
        refine (C1.out _).mono ?_
        rintro en w1 ⟨rfl, rfl⟩
        go_wp2_with fail
        refine (C2.out _).mono ?_
        rintro en w1 ⟨rfl, b1⟩
        go_wp2_with fail
        go_loopw [12, 13] (fun sh c wc => ∃ n : Nat, n ≤ 8 ∧ c = .int .i64 n ∧ sh = .string ⟨(scanD (encodeRune r) n).toArray⟩ ∧ Below w.heap.size w wc) (fun _ c _ => 8 - (RowKit.intOf c).toNat)
        case atStart => exact ⟨0, by omega, rfl, rfl, (hb.trans (b1.mono hb.size)).alloc (by have := hb.size; have := b1.size; omega) _⟩
        case round =>
          obtain ⟨n, hn, rfl, rfl, hb2⟩ := hrel
          clear hb b1 hc
          by_cases hn8 : n < 8
          · have hn9 : (n : Int) < 8 := by omega
            have SA := Lib.hid (scan_atL n hn8)
            have ST := Lib.hid (scan_to n hn8)
            go_wp2_with fail
            · go_roundw
              case rel =>
                refine ⟨n + 1, by omega, by go_num, ?_, hb2⟩
                have he : (encodeRune r == (ByteArray.extract ⟨#[34, 92, 47, 8, 12, 10, 13, 9]⟩ n (n + 1)).toList) = true := by assumption
                rw [SA.out] at he
                rw [ST.out, scan_yes (eq_of_beq he)]
                rfl
              case measure => simp [RowKit.intOf]; omega
            · go_roundw
              case rel =>
                refine ⟨n + 1, by omega, by go_num, ?_, hb2⟩
                have he : (encodeRune r == (ByteArray.extract ⟨#[34, 92, 47, 8, 12, 10, 13, 9]⟩ n (n + 1)).toList) = false := by assumption
                rw [SA.out] at he
                rw [scan_no (fun e => by rw [beq_iff_eq.2 e] at he; cases he)]
              case measure => simp [RowKit.intOf]; omega
          · obtain rfl : n = 8 := by omega
            clear hn hn8
            have hshl := scan_len (encodeRune r) 8
            generalize hsh : scanD (encodeRune r) 8 = sh at *
            have hLs : S.length + sh.length ≤ 9223372036854775807 := by omega
            clear hshl
            have HSH := Lib.hid hsh
            clear hsh
            rcases (by omega : r < 65536 ∨ 65536 ≤ r) with g1 | g1
            · go_wp2_with fail
              obtain ⟨P, hP⟩ : ∃ P, fourD (digsD 0) r = P := ⟨_, rfl⟩
              have hL1 : S.length + P.length ≤ 9223372036854775807 := by have hPl : P.length = 6 := by rw [← hP]; rfl
                                                                         omega
              have c4 := four_low 0 r wr (by decide) (by omega) (by omega)
              rw [hP] at c4
              have HP := Lib.hid hP
              clear hP
              refine c4.mono ?_
              rintro en w5 ⟨rfl, b5⟩
              clear c4
              go_wp2_with fail
              go_roundw
              case rel => exact ⟨k + 1, by omega, by go_num, by rw [HK.out, piece_C HSH.out (.inl (by decide)) (by omega) (by omega), HP.out, ← List.cons_append, HS.out, str_app], hb2.trans (b5.mono hb2.size)⟩
              case measure => simp [RowKit.intOf]; omega
            · have g2 : ¬ r < 65536 := by omega
              go_wp2_with fail
              obtain ⟨P, hP⟩ : ∃ P, fourD (digsD 0) (55296 + (r - 65536) / 1024) = P := ⟨_, rfl⟩
              obtain ⟨Q, hQ⟩ : ∃ Q, fourD (digsD 0) (56320 + (r - 65536) % 1024) = Q := ⟨_, rfl⟩
              have hPl : P.length = 6 := by rw [← hP]; rfl
              have hQl : Q.length = 6 := by rw [← hQ]; rfl
              have hL1 : S.length + P.length ≤ 9223372036854775807 := by omega
              have hL2 : S.length + P.length + Q.length ≤ 9223372036854775807 := by omega
              clear hPl hQl
              have c4 := four_low 0 (55296 + (r - 65536) / 1024) wr (by decide) (by omega) (by omega)
              have c5 := fun w' => four_low 0 (56320 + (r - 65536) % 1024) w' (by decide) (by omega) (by omega)
              rw [hP] at c4
              rw [hQ] at c5
              have HP := Lib.hid hP
              have HQ := Lib.hid hQ
              have C5 := Lib.hid c5
              clear hP hQ c5
              refine c4.mono ?_
              rintro en w5 ⟨rfl, b5⟩
              clear c4
              go_wp2_with fail
              refine (C5.out _).mono ?_
              rintro en w6 ⟨rfl, b6⟩
              go_wp2_with fail
              go_roundw
              case rel => exact ⟨k + 1, by omega, by go_num, by rw [HK.out, piece_D HSH.out (.inl (by decide)) (by omega) (by omega), HP.out, HQ.out, ← List.cons_append, HS.out, str_app, str_app, List.append_assoc], (hb2.trans (b5.mono hb2.size)).trans (b6.mono (by have := hb2.size; have := b5.size; omega))⟩
              case measure => simp [RowKit.intOf]; omega
      · obtain ⟨m, hm⟩ : ∃ m, k % len1 = m := ⟨_, rfl⟩
        have hml : m < len1 := by rw [← hm]; exact Nat.mod_lt _ (by omega)
        have tm : (k : Int).tmod (len1 : Int) = (m : Int) := by
          rw [Int.tmod_eq_emod_of_nonneg (by omega), ← hm]; exact (Int.natCast_emod k len1).symm
        obtain ⟨b2, o2, rfl, hc2⟩ := HC1.out _ hb m hml
        have hz2 := getD_mem (zs := hs) (i := m) (by omega)
        have y0 := H1.out.lo _ hz2
        have y1 := H1.out.hi _ hz2
        have hKy : kD hs len1 k = hs.getD m 0 % 4 := by unfold kD; rw [if_neg hh, hm]
        have C3 := Lib.hid (fun w' => bring_any (hs.getD m 0) 4 w' y0 y1 (by decide) (by decide))
        generalize hs.getD m 0 = y at *
        have hh1 : (0 : Int) < (len1 : Int) := by omega
        have hh2 : ((len1 : Int) == 0) = false := by simp; omega
        have hmli : (m : Int) < (len1 : Int) := by omega
        have hKb : y % 4 = 0 ∨ y % 4 = 1 ∨ y % 4 = 2 ∨ y % 4 = 3 := by omega
        have HKY := Lib.hid hKy
        clear hKy hz2 hm hh
        rcases hKb with hKb | hKb | hKb | hKb
        · have HK := Lib.hid (HN.out 0 (by rw [HKY.out, hKb]))
          rw [hKb] at C3
          clear hKb
          go_wp2_with fail
          refine (C1.out _).mono ?_
          rintro en w1 ⟨rfl, rfl⟩
          go_wp2_with fail
          refine (C3.out _).mono ?_
          rintro en w1 ⟨rfl, rfl⟩
          go_wp2_with fail
          refine (C2.out _).mono ?_
          rintro en w1 ⟨rfl, b1⟩
          go_wp2_with fail
          go_loopw [12, 13] (fun sh c wc => ∃ n : Nat, n ≤ 8 ∧ c = .int .i64 n ∧ sh = .string ⟨(scanD (encodeRune r) n).toArray⟩ ∧ Below w.heap.size w wc) (fun _ c _ => 8 - (RowKit.intOf c).toNat)
          case atStart => exact ⟨0, by omega, rfl, rfl, (hb.trans (b1.mono hb.size)).alloc (by have := hb.size; have := b1.size; omega) _⟩
          case round =>
            obtain ⟨n, hn, rfl, rfl, hb2⟩ := hrel
            clear hb b1 hc
            by_cases hn8 : n < 8
            · have hn9 : (n : Int) < 8 := by omega
              have SA := Lib.hid (scan_atL n hn8)
              have ST := Lib.hid (scan_to n hn8)
              go_wp2_with fail
              · go_roundw
                case rel =>
                  refine ⟨n + 1, by omega, by go_num, ?_, hb2⟩
                  have he : (encodeRune r == (ByteArray.extract ⟨#[34, 92, 47, 8, 12, 10, 13, 9]⟩ n (n + 1)).toList) = true := by assumption
                  rw [SA.out] at he
                  rw [ST.out, scan_yes (eq_of_beq he)]
                  rfl
                case measure => simp [RowKit.intOf]; omega
              · go_roundw
                case rel =>
                  refine ⟨n + 1, by omega, by go_num, ?_, hb2⟩
                  have he : (encodeRune r == (ByteArray.extract ⟨#[34, 92, 47, 8, 12, 10, 13, 9]⟩ n (n + 1)).toList) = false := by assumption
                  rw [SA.out] at he
                  rw [scan_no (fun e => by rw [beq_iff_eq.2 e] at he; cases he)]
                case measure => simp [RowKit.intOf]; omega
            · obtain rfl : n = 8 := by omega
              clear hn hn8
              have hshl := scan_len (encodeRune r) 8
              generalize hsh : scanD (encodeRune r) 8 = sh at *
              have hLs : S.length + sh.length ≤ 9223372036854775807 := by omega
              clear hshl
              have HSH := Lib.hid hsh
              clear hsh
              rcases (by omega : r < 65536 ∨ 65536 ≤ r) with g1 | g1
              · go_wp2_with fail
                obtain ⟨P, hP⟩ : ∃ P, fourD (digsD 0) r = P := ⟨_, rfl⟩
                have hL1 : S.length + P.length ≤ 9223372036854775807 := by have hPl : P.length = 6 := by rw [← hP]; rfl
                                                                           omega
                have c4 := four_low 0 r wr (by decide) (by omega) (by omega)
                rw [hP] at c4
                have HP := Lib.hid hP
                clear hP
                refine c4.mono ?_
                rintro en w5 ⟨rfl, b5⟩
                clear c4
                go_wp2_with fail
                go_roundw
                case rel => exact ⟨k + 1, by omega, by go_num, by rw [HK.out, piece_C HSH.out (.inl (by decide)) (by omega) (by omega), HP.out, ← List.cons_append, HS.out, str_app], hb2.trans (b5.mono hb2.size)⟩
                case measure => simp [RowKit.intOf]; omega
              · have g2 : ¬ r < 65536 := by omega
                go_wp2_with fail
                obtain ⟨P, hP⟩ : ∃ P, fourD (digsD 0) (55296 + (r - 65536) / 1024) = P := ⟨_, rfl⟩
                obtain ⟨Q, hQ⟩ : ∃ Q, fourD (digsD 0) (56320 + (r - 65536) % 1024) = Q := ⟨_, rfl⟩
                have hPl : P.length = 6 := by rw [← hP]; rfl
                have hQl : Q.length = 6 := by rw [← hQ]; rfl
                have hL1 : S.length + P.length ≤ 9223372036854775807 := by omega
                have hL2 : S.length + P.length + Q.length ≤ 9223372036854775807 := by omega
                clear hPl hQl
                have c4 := four_low 0 (55296 + (r - 65536) / 1024) wr (by decide) (by omega) (by omega)
                have c5 := fun w' => four_low 0 (56320 + (r - 65536) % 1024) w' (by decide) (by omega) (by omega)
                rw [hP] at c4
                rw [hQ] at c5
                have HP := Lib.hid hP
                have HQ := Lib.hid hQ
                have C5 := Lib.hid c5
                clear hP hQ c5
                refine c4.mono ?_
                rintro en w5 ⟨rfl, b5⟩
                clear c4
                go_wp2_with fail
                refine (C5.out _).mono ?_
                rintro en w6 ⟨rfl, b6⟩
                go_wp2_with fail
                go_roundw
                case rel => exact ⟨k + 1, by omega, by go_num, by rw [HK.out, piece_D HSH.out (.inl (by decide)) (by omega) (by omega), HP.out, HQ.out, ← List.cons_append, HS.out, str_app, str_app, List.append_assoc], (hb2.trans (b5.mono hb2.size)).trans (b6.mono (by have := hb2.size; have := b5.size; omega))⟩
                case measure => simp [RowKit.intOf]; omega
        · have HK := Lib.hid (HN.out 1 (by rw [HKY.out, hKb]))
          rw [hKb] at C3
          clear hKb
          go_wp2_with fail
          refine (C1.out _).mono ?_
          rintro en w1 ⟨rfl, rfl⟩
          go_wp2_with fail
          refine (C3.out _).mono ?_
          rintro en w1 ⟨rfl, rfl⟩
          go_wp2_with fail
          refine (C2.out _).mono ?_
          rintro en w1 ⟨rfl, b1⟩
          go_wp2_with fail
          go_loopw [12, 13] (fun sh c wc => ∃ n : Nat, n ≤ 8 ∧ c = .int .i64 n ∧ sh = .string ⟨(scanD (encodeRune r) n).toArray⟩ ∧ Below w.heap.size w wc) (fun _ c _ => 8 - (RowKit.intOf c).toNat)
          case atStart => exact ⟨0, by omega, rfl, rfl, (hb.trans (b1.mono hb.size)).alloc (by have := hb.size; have := b1.size; omega) _⟩
          case round =>
            obtain ⟨n, hn, rfl, rfl, hb2⟩ := hrel
            clear hb b1 hc
            by_cases hn8 : n < 8
            · have hn9 : (n : Int) < 8 := by omega
              have SA := Lib.hid (scan_atL n hn8)
              have ST := Lib.hid (scan_to n hn8)
              go_wp2_with fail
              · go_roundw
                case rel =>
                  refine ⟨n + 1, by omega, by go_num, ?_, hb2⟩
                  have he : (encodeRune r == (ByteArray.extract ⟨#[34, 92, 47, 8, 12, 10, 13, 9]⟩ n (n + 1)).toList) = true := by assumption
                  rw [SA.out] at he
                  rw [ST.out, scan_yes (eq_of_beq he)]
                  rfl
                case measure => simp [RowKit.intOf]; omega
              · go_roundw
                case rel =>
                  refine ⟨n + 1, by omega, by go_num, ?_, hb2⟩
                  have he : (encodeRune r == (ByteArray.extract ⟨#[34, 92, 47, 8, 12, 10, 13, 9]⟩ n (n + 1)).toList) = false := by assumption
                  rw [SA.out] at he
                  rw [scan_no (fun e => by rw [beq_iff_eq.2 e] at he; cases he)]
                case measure => simp [RowKit.intOf]; omega
            · obtain rfl : n = 8 := by omega
              clear hn hn8
              have hshl := scan_len (encodeRune r) 8
              generalize hsh : scanD (encodeRune r) 8 = sh at *
              have hLs : S.length + sh.length ≤ 9223372036854775807 := by omega
              clear hshl
              have HSH := Lib.hid hsh
              clear hsh
              rcases (by omega : r < 65536 ∨ 65536 ≤ r) with g1 | g1
              · go_wp2_with fail
                obtain ⟨P, hP⟩ : ∃ P, fourD (digsD 1) r = P := ⟨_, rfl⟩
                have hL1 : S.length + P.length ≤ 9223372036854775807 := by have hPl : P.length = 6 := by rw [← hP]; rfl
                                                                           omega
                have c4 := four_up 1 r wr (by decide) (by omega) (by omega)
                rw [hP] at c4
                have HP := Lib.hid hP
                clear hP
                refine c4.mono ?_
                rintro en w5 ⟨rfl, b5⟩
                clear c4
                go_wp2_with fail
                go_roundw
                case rel => exact ⟨k + 1, by omega, by go_num, by rw [HK.out, piece_C HSH.out (.inl (by decide)) (by omega) (by omega), HP.out, ← List.cons_append, HS.out, str_app], hb2.trans (b5.mono hb2.size)⟩
                case measure => simp [RowKit.intOf]; omega
              · have g2 : ¬ r < 65536 := by omega
                go_wp2_with fail
                obtain ⟨P, hP⟩ : ∃ P, fourD (digsD 1) (55296 + (r - 65536) / 1024) = P := ⟨_, rfl⟩
                obtain ⟨Q, hQ⟩ : ∃ Q, fourD (digsD 1) (56320 + (r - 65536) % 1024) = Q := ⟨_, rfl⟩
                have hPl : P.length = 6 := by rw [← hP]; rfl
                have hQl : Q.length = 6 := by rw [← hQ]; rfl
                have hL1 : S.length + P.length ≤ 9223372036854775807 := by omega
                have hL2 : S.length + P.length + Q.length ≤ 9223372036854775807 := by omega
                clear hPl hQl
                have c4 := four_up 1 (55296 + (r - 65536) / 1024) wr (by decide) (by omega) (by omega)
                have c5 := fun w' => four_up 1 (56320 + (r - 65536) % 1024) w' (by decide) (by omega) (by omega)
                rw [hP] at c4
                rw [hQ] at c5
                have HP := Lib.hid hP
                have HQ := Lib.hid hQ
                have C5 := Lib.hid c5
                clear hP hQ c5
                refine c4.mono ?_
                rintro en w5 ⟨rfl, b5⟩
                clear c4
                go_wp2_with fail
                refine (C5.out _).mono ?_
                rintro en w6 ⟨rfl, b6⟩
                go_wp2_with fail
                go_roundw
                case rel => exact ⟨k + 1, by omega, by go_num, by rw [HK.out, piece_D HSH.out (.inl (by decide)) (by omega) (by omega), HP.out, HQ.out, ← List.cons_append, HS.out, str_app, str_app, List.append_assoc], (hb2.trans (b5.mono hb2.size)).trans (b6.mono (by have := hb2.size; have := b5.size; omega))⟩
                case measure => simp [RowKit.intOf]; omega
        · have HK := Lib.hid (HN.out 2 (by rw [HKY.out, hKb]))
          rw [hKb] at C3
          clear hKb
          go_wp2_with fail
          refine (C1.out _).mono ?_
          rintro en w1 ⟨rfl, rfl⟩
          go_wp2_with fail
          refine (C3.out _).mono ?_
          rintro en w1 ⟨rfl, rfl⟩
          go_wp2_with fail
          refine (C2.out _).mono ?_
          rintro en w1 ⟨rfl, b1⟩
          go_wp2_with fail
          go_loopw [12, 13] (fun sh c wc => ∃ n : Nat, n ≤ 8 ∧ c = .int .i64 n ∧ sh = .string ⟨(scanD (encodeRune r) n).toArray⟩ ∧ Below w.heap.size w wc) (fun _ c _ => 8 - (RowKit.intOf c).toNat)
          case atStart => exact ⟨0, by omega, rfl, rfl, (hb.trans (b1.mono hb.size)).alloc (by have := hb.size; have := b1.size; omega) _⟩
          case round =>
            obtain ⟨n, hn, rfl, rfl, hb2⟩ := hrel
            clear hb b1 hc
            by_cases hn8 : n < 8
            · have hn9 : (n : Int) < 8 := by omega
              have SA := Lib.hid (scan_atL n hn8)
              have ST := Lib.hid (scan_to n hn8)
              go_wp2_with fail
              · go_roundw
                case rel =>
                  refine ⟨n + 1, by omega, by go_num, ?_, hb2⟩
                  have he : (encodeRune r == (ByteArray.extract ⟨#[34, 92, 47, 8, 12, 10, 13, 9]⟩ n (n + 1)).toList) = true := by assumption
                  rw [SA.out] at he
                  rw [ST.out, scan_yes (eq_of_beq he)]
                  rfl
                case measure => simp [RowKit.intOf]; omega
              · go_roundw
                case rel =>
                  refine ⟨n + 1, by omega, by go_num, ?_, hb2⟩
                  have he : (encodeRune r == (ByteArray.extract ⟨#[34, 92, 47, 8, 12, 10, 13, 9]⟩ n (n + 1)).toList) = false := by assumption
                  rw [SA.out] at he
                  rw [scan_no (fun e => by rw [beq_iff_eq.2 e] at he; cases he)]
                case measure => simp [RowKit.intOf]; omega
            · obtain rfl : n = 8 := by omega
              clear hn hn8
              have hshl := scan_len (encodeRune r) 8
              generalize hsh : scanD (encodeRune r) 8 = sh at *
              have hLs : S.length + sh.length ≤ 9223372036854775807 := by omega
              clear hshl
              have HSH := Lib.hid hsh
              clear hsh
              rcases (by omega : r < 32 ∨ r = 34 ∨ r = 92 ∨ (32 ≤ r ∧ r ≠ 34 ∧ r ≠ 92)) with g1 | g1 | g1 | ⟨g1, g2, g3⟩
              · have g2 : ¬ 32 ≤ r := by omega
                have g4 : r < 65536 := by omega
                go_wp2_with fail
                obtain ⟨P, hP⟩ : ∃ P, fourD (digsD 2) r = P := ⟨_, rfl⟩
                have hL1 : S.length + P.length ≤ 9223372036854775807 := by have hPl : P.length = 6 := by rw [← hP]; rfl
                                                                           omega
                have c4 := four_low 2 r wr (by decide) (by omega) (by omega)
                rw [hP] at c4
                have HP := Lib.hid hP
                clear hP
                refine c4.mono ?_
                rintro en w5 ⟨rfl, b5⟩
                clear c4
                go_wp2_with fail
                go_roundw
                case rel => exact ⟨k + 1, by omega, by go_num, by rw [HK.out, piece_C HSH.out (.inl (by decide)) (by omega) (by omega), HP.out, ← List.cons_append, HS.out, str_app], hb2.trans (b5.mono hb2.size)⟩
                case measure => simp [RowKit.intOf]; omega
              · have g4 : r < 65536 := by omega
                have g5 : 32 ≤ r := by omega
                have g6 : (r == 34) = true := by simpa using g1
                have g7 : (r != 34) = false := by simpa using g1
                have G1 := Lib.hid g1
                clear g1
                go_wp2_with fail
                obtain ⟨P, hP⟩ : ∃ P, fourD (digsD 2) r = P := ⟨_, rfl⟩
                have hL1 : S.length + P.length ≤ 9223372036854775807 := by have hPl : P.length = 6 := by rw [← hP]; rfl
                                                                           omega
                have c4 := four_low 2 r wr (by decide) (by omega) (by omega)
                rw [hP] at c4
                have HP := Lib.hid hP
                clear hP
                refine c4.mono ?_
                rintro en w5 ⟨rfl, b5⟩
                clear c4
                go_wp2_with fail
                go_roundw
                case rel => exact ⟨k + 1, by omega, by go_num, by rw [HK.out, piece_C HSH.out (.inl (by decide)) (by have := G1.out; omega) (by omega), HP.out, ← List.cons_append, HS.out, str_app], hb2.trans (b5.mono hb2.size)⟩
                case measure => simp [RowKit.intOf]; omega
              · have g4 : r < 65536 := by omega
                have g5 : 32 ≤ r := by omega
                have g6 : (r == 92) = true := by simpa using g1
                have g7 : (r != 92) = false := by simpa using g1
                have g8 : (r == 34) = false := by simp; omega
                have g9 : (r != 34) = true := by simp; omega
                have G1 := Lib.hid g1
                clear g1
                go_wp2_with fail
                obtain ⟨P, hP⟩ : ∃ P, fourD (digsD 2) r = P := ⟨_, rfl⟩
                have hL1 : S.length + P.length ≤ 9223372036854775807 := by have hPl : P.length = 6 := by rw [← hP]; rfl
                                                                           omega
                have c4 := four_low 2 r wr (by decide) (by omega) (by omega)
                rw [hP] at c4
                have HP := Lib.hid hP
                clear hP
                refine c4.mono ?_
                rintro en w5 ⟨rfl, b5⟩
                clear c4
                go_wp2_with fail
                go_roundw
                case rel => exact ⟨k + 1, by omega, by go_num, by rw [HK.out, piece_C HSH.out (.inl (by decide)) (by have := G1.out; omega) (by omega), HP.out, ← List.cons_append, HS.out, str_app], hb2.trans (b5.mono hb2.size)⟩
                case measure => simp [RowKit.intOf]; omega
              · have g4 : (r == 34) = false := by simpa using g2
                have g5 : (r == 92) = false := by simpa using g3
                have g6 : (r != 34) = true := by simpa using g2
                have g7 : (r != 92) = true := by simpa using g3
                go_wp2_with fail
                go_roundw
                case rel => exact ⟨k + 1, by omega, by go_num, by rw [HK.out, piece_B HSH.out (.inl (by decide)) (by omega), ← List.cons_append, HS.out, str_app], hb2⟩
                case measure => simp [RowKit.intOf]; omega
        · have HK := Lib.hid (HN.out 3 (by rw [HKY.out, hKb]))
          rw [hKb] at C3
          clear hKb
          go_wp2_with fail
          refine (C1.out _).mono ?_
          rintro en w1 ⟨rfl, rfl⟩
          go_wp2_with fail
          refine (C3.out _).mono ?_
          rintro en w1 ⟨rfl, rfl⟩
          go_wp2_with fail
          refine (C2.out _).mono ?_
          rintro en w1 ⟨rfl, b1⟩
          go_wp2_with fail
          go_loopw [12, 13] (fun sh c wc => ∃ n : Nat, n ≤ 8 ∧ c = .int .i64 n ∧ sh = .string ⟨(scanD (encodeRune r) n).toArray⟩ ∧ Below w.heap.size w wc) (fun _ c _ => 8 - (RowKit.intOf c).toNat)
          case atStart => exact ⟨0, by omega, rfl, rfl, (hb.trans (b1.mono hb.size)).alloc (by have := hb.size; have := b1.size; omega) _⟩
          case round =>
            obtain ⟨n, hn, rfl, rfl, hb2⟩ := hrel
            clear hb b1 hc
            by_cases hn8 : n < 8
            · have hn9 : (n : Int) < 8 := by omega
              have SA := Lib.hid (scan_atL n hn8)
              have ST := Lib.hid (scan_to n hn8)
              go_wp2_with fail
              · go_roundw
                case rel =>
                  refine ⟨n + 1, by omega, by go_num, ?_, hb2⟩
                  have he : (encodeRune r == (ByteArray.extract ⟨#[34, 92, 47, 8, 12, 10, 13, 9]⟩ n (n + 1)).toList) = true := by assumption
                  rw [SA.out] at he
                  rw [ST.out, scan_yes (eq_of_beq he)]
                  rfl
                case measure => simp [RowKit.intOf]; omega
              · go_roundw
                case rel =>
                  refine ⟨n + 1, by omega, by go_num, ?_, hb2⟩
                  have he : (encodeRune r == (ByteArray.extract ⟨#[34, 92, 47, 8, 12, 10, 13, 9]⟩ n (n + 1)).toList) = false := by assumption
                  rw [SA.out] at he
                  rw [scan_no (fun e => by rw [beq_iff_eq.2 e] at he; cases he)]
                case measure => simp [RowKit.intOf]; omega
            · obtain rfl : n = 8 := by omega
              clear hn hn8
              have hshl := scan_len (encodeRune r) 8
              generalize hsh : scanD (encodeRune r) 8 = sh at *
              have hLs : S.length + sh.length ≤ 9223372036854775807 := by omega
              clear hshl
              have HSH := Lib.hid hsh
              clear hsh
              by_cases hs0 : sh = []
              · have hs1 : (sh == []) = true := by simpa using hs0
                have hs2 : (sh != []) = false := by simpa using hs0
                rcases (by omega : r < 32 ∨ r = 34 ∨ r = 92 ∨ (32 ≤ r ∧ r ≠ 34 ∧ r ≠ 92)) with g1 | g1 | g1 | ⟨g1, g2, g3⟩
                · have g2 : ¬ 32 ≤ r := by omega
                  have g4 : r < 65536 := by omega
                  go_wp2_with fail
                  obtain ⟨P, hP⟩ : ∃ P, fourD (digsD 3) r = P := ⟨_, rfl⟩
                  have hL1 : S.length + P.length ≤ 9223372036854775807 := by have hPl : P.length = 6 := by rw [← hP]; rfl
                                                                             omega
                  have c4 := four_up 3 r wr (by decide) (by omega) (by omega)
                  rw [hP] at c4
                  have HP := Lib.hid hP
                  clear hP
                  refine c4.mono ?_
                  rintro en w5 ⟨rfl, b5⟩
                  clear c4
                  go_wp2_with fail
                  go_roundw
                  case rel => exact ⟨k + 1, by omega, by go_num, by rw [HK.out, piece_C HSH.out (.inr hs0) (by omega) (by omega), HP.out, ← List.cons_append, HS.out, str_app], hb2.trans (b5.mono hb2.size)⟩
                  case measure => simp [RowKit.intOf]; omega
                · have g4 : r < 65536 := by omega
                  have g5 : 32 ≤ r := by omega
                  have g6 : (r == 34) = true := by simpa using g1
                  have g7 : (r != 34) = false := by simpa using g1
                  have G1 := Lib.hid g1
                  clear g1
                  go_wp2_with fail
                  obtain ⟨P, hP⟩ : ∃ P, fourD (digsD 3) r = P := ⟨_, rfl⟩
                  have hL1 : S.length + P.length ≤ 9223372036854775807 := by have hPl : P.length = 6 := by rw [← hP]; rfl
                                                                             omega
                  have c4 := four_up 3 r wr (by decide) (by omega) (by omega)
                  rw [hP] at c4
                  have HP := Lib.hid hP
                  clear hP
                  refine c4.mono ?_
                  rintro en w5 ⟨rfl, b5⟩
                  clear c4
                  go_wp2_with fail
                  go_roundw
                  case rel => exact ⟨k + 1, by omega, by go_num, by rw [HK.out, piece_C HSH.out (.inr hs0) (by have := G1.out; omega) (by omega), HP.out, ← List.cons_append, HS.out, str_app], hb2.trans (b5.mono hb2.size)⟩
                  case measure => simp [RowKit.intOf]; omega
                · have g4 : r < 65536 := by omega
                  have g5 : 32 ≤ r := by omega
                  have g6 : (r == 92) = true := by simpa using g1
                  have g7 : (r != 92) = false := by simpa using g1
                  have g8 : (r == 34) = false := by simp; omega
                  have g9 : (r != 34) = true := by simp; omega
                  have G1 := Lib.hid g1
                  clear g1
                  go_wp2_with fail
                  obtain ⟨P, hP⟩ : ∃ P, fourD (digsD 3) r = P := ⟨_, rfl⟩
                  have hL1 : S.length + P.length ≤ 9223372036854775807 := by have hPl : P.length = 6 := by rw [← hP]; rfl
                                                                             omega
                  have c4 := four_up 3 r wr (by decide) (by omega) (by omega)
                  rw [hP] at c4
                  have HP := Lib.hid hP
                  clear hP
                  refine c4.mono ?_
                  rintro en w5 ⟨rfl, b5⟩
                  clear c4
                  go_wp2_with fail
                  go_roundw
                  case rel => exact ⟨k + 1, by omega, by go_num, by rw [HK.out, piece_C HSH.out (.inr hs0) (by have := G1.out; omega) (by omega), HP.out, ← List.cons_append, HS.out, str_app], hb2.trans (b5.mono hb2.size)⟩
                  case measure => simp [RowKit.intOf]; omega
                · have g4 : (r == 34) = false := by simpa using g2
                  have g5 : (r == 92) = false := by simpa using g3
                  have g6 : (r != 34) = true := by simpa using g2
                  have g7 : (r != 92) = true := by simpa using g3
                  go_wp2_with fail
                  go_roundw
                  case rel => exact ⟨k + 1, by omega, by go_num, by rw [HK.out, piece_B HSH.out (.inr hs0) (by omega), ← List.cons_append, HS.out, str_app], hb2⟩
                  case measure => simp [RowKit.intOf]; omega
              · have hs1 : (sh == []) = false := by simpa using hs0
                have hs2 : (sh != []) = true := by simpa using hs0
                go_wp2_with fail
                go_roundw
                case rel => exact ⟨k + 1, by omega, by go_num, by rw [HK.out, piece_A rfl HSH.out hs0, ← List.cons_append, HS.out, str_app], hb2⟩
                case measure => simp [RowKit.intOf]; omega
    · have hkk : k = min len 60 := by omega
      have hbl := body_len zs hs len1 k
      have hL : (34 :: bodyD zs hs len1 k).length + 1 ≤ 9223372036854775807 := by rw [List.length_cons]; omega
      generalize hQ : (34 :: bodyD zs hs len1 k) = Q at *
      have HQ := Lib.hid hQ
      clear hQ
      rcases (by omega : len ≤ k ∨ (k < len ∧ 60 ≤ k)) with hl | ⟨hl, hl2⟩
      · have hl3 : ¬ ((k : Int) < (len : Int)) := by omega
        go_wp2_with fail
        go_ret
        rw [← hkk, ← str_app34, HQ.out]
        exact ⟨rfl, hb⟩
      · have hl3 : ((k : Int) < (len : Int)) := by omega
        have hl4 : ¬ ((k : Int) < 60) := by omega
        go_wp2_with fail
        go_ret
        rw [← hkk, ← str_app34, HQ.out]
        exact ⟨rfl, hb⟩
end Go.Proofs.YtnjljcgapijadaaDoor
