/- The reference of the cells: Whole. The reference of the cells: Unhex. The reference of the cells: Unhex, the walk. The reference of the cells: run, the walk. -/
import Derived.Test.YthlinmkengoliaaGreatDoorZHb
set_option linter.unusedVariables false
set_option linter.unusedSimpArgs false
namespace Go.Ms
open Go.Lib
def wg : Nat → Bs → Option Nat
  | n, [] => some n
  | n, c :: r => if 48 ≤ c.toNat ∧ c.toNat ≤ 57 then wg (10 * n + (c.toNat - 48)) r else none
def rWv (neg : Bool) (R : Option Nat) : Int := match R with
 | none => 0
 | some n => if neg = true ∧ n ≤ 9223372036854775808 then -(n : Int) else RowKit.wrap64 n
def rWd (neg : Bool) (d : Bs) : Int := if d.length < 1 ∨ 19 < d.length then 0 else rWv neg (wg 0 d)
def rWhole (l : Bs) : Int := if l ≠ [] ∧ bt l 0 = 45 then rWd true (l.drop 1) else rWd false l
theorem wg_app : ∀ (l : Bs) (c : UInt8) (n : Nat), wg n (l ++ [c]) = (wg n l).bind fun m => if 48 ≤ c.toNat ∧ c.toNat ≤ 57 then some (10 * m + (c.toNat - 48)) else none
  | [], c, n => by simp [wg]
  | x :: l, c, n => by
   rw [List.cons_append, wg, wg]
   split
   · exact wg_app l c _
   · rfl
theorem wg_dec : ∀ (u : Nat), wg 0 (decDigits u) = some u := by
 intro u
 induction u using Nat.strongRecOn with
 | _ u ih =>
  by_cases h : u < 10
  · rw [decDigits, dif_pos h]
    have e : (UInt8.ofNat (48 + u)).toNat = 48 + u := by simp; omega
    simp only [wg, e]; rw [if_pos ⟨by omega, by omega⟩]
    congr 1; omega
  · rw [decDigits, dif_neg h, wg_app, ih (u / 10) (by omega)]
    have e : (UInt8.ofNat (48 + u % 10)).toNat = 48 + u % 10 := by simp; omega
    simp only [Option.bind_some, e]; rw [if_pos ⟨by omega, by omega⟩]
    congr 1; omega
theorem rwhole_itoa {n : Int} (h0 : -9223372036854775808 ≤ n) (h1 : n ≤ 9223372036854775807) : rWhole (itoa n) = n := by
 have hl : ∀ u : Nat, u ≤ 9223372036854775808 → ¬ ((decDigits u).length < 1 ∨ 19 < (decDigits u).length) := by
  intro u hu
  have := dec_len 19 u (by omega) (by omega); have h2 := List.length_pos_iff.2 (dec_ne u); omega
 unfold rWhole itoa
 by_cases hn : n < 0
 · rw [if_pos hn, if_pos ⟨by simp, rfl⟩, List.drop_succ_cons, List.drop_zero]; unfold rWd; rw [if_neg (hl _ (by omega)), wg_dec]; unfold rWv
   simp only
   rw [if_pos ⟨trivial, by omega⟩]; omega
 · rw [if_neg hn]; obtain ⟨c, r, hc, h2, h3⟩ := dec_head n.toNat; rw [if_neg (by rw [hc]; intro h; have : c.toNat = 45 := h.2; omega)]; unfold rWd; rw [if_neg (hl _ (by omega)), wg_dec]; unfold rWv
   simp only
   rw [if_neg (fun h => absurd h.1 (by decide)), IntWalk.wrap64_in _ ⟨by omega, by omega⟩]; omega
end Go.Ms
namespace Go.Proofs.YthlinmkengoliaaGreatDoor
open Go.RowKit Go.Ms Go.Lib
def NumB (v : Int) (w : World) (e : Ending) (w' : World) : Prop := ∃ b, e = .returned (.tuple #[.int .i64 v, .bool b]) ∧ Below w.heap.size w w'
theorem pow19 {k : Nat} (h : k < 19) : 10 ^ k ≤ 1000000000000000000 := by
 have : 10 ^ k ≤ 10 ^ 18 := Nat.pow_le_pow_right (by omega) (by omega)
 simpa using this
set_option maxRecDepth 100000 in
set_option maxHeartbeats 4000000 in
theorem rwhole_any (S : ByteArray) (w : World) (hs : S.size ≤ 100000) :
    Calls Tryz.prog 169 #[.string S] w (NumB (rWhole S.data.toList) w) := by
 have hlS : S.data.toList.length = S.size := by simp
 by_cases h0 : S.data.toList = []
 · have hR : rWhole S.data.toList = 0 := by rw [h0]; rfl
   rw [hR]
   have hz0 : S.size = 0 := by rw [← hlS, h0]; rfl
   have hz1 : ¬ (0 : Int) < (S.size : Int) := by omega
   have hz2 : (S.size : Int) < 1 := by omega
   have hz3 : ¬ 0 < S.size := by omega
   clear hR h0 hz0 hlS
   go_enter Tryz.func169, Tryz.ntmps169
   go_wp2_with fail
   go_ret2
   exact ⟨_, rfl, Below.refl _ _⟩
 · have hpos : 0 < S.size := by rw [← hlS]; exact List.length_pos_iff.2 h0
   have hposi : (0 : Int) < (S.size : Int) := by omega
   have g0 : ((S[0]'hpos).toNat : Int) = (bt S.data.toList 0 : Int) := by rw [get_of]; rfl
   by_cases h45 : bt S.data.toList 0 = 45
   · have hR : rWhole S.data.toList = rWd true (S.data.toList.drop 1) := by unfold rWhole; rw [if_pos ⟨h0, h45⟩]
     rw [hR]; rw [h45] at g0; obtain ⟨T, hT⟩ : ∃ T, S.extract 1 S.size = T := ⟨_, rfl⟩
     have hTl : T.data.toList = S.data.toList.drop 1 := by rw [← hT, ext_list, List.take_of_length_le (by simp)]
     have hTz : T.data.toList.length = T.size := by simp
     have h1i : (1 : Int) ≤ (S.size : Int) := by omega
     rw [← hTl]; have HT := Lib.hid hT; clear hR hTl hT h45 h0
     by_cases hsz : T.size < 1 ∨ 19 < T.size
     · have hR : rWd true T.data.toList = 0 := by unfold rWd; rw [if_pos (by omega)]
       rw [hR]; clear hR
       by_cases hs1 : T.size < 1
       · have hs1i : (T.size : Int) < 1 := by omega
         clear hsz
         go_enter Tryz.func169, Tryz.ntmps169
         go_upto_region 4 with (fail)
         rw [HT.out]
         go_wp2_with fail
         go_ret2
         exact ⟨_, rfl, Below.refl _ _⟩
       · have hs1i : ¬ (T.size : Int) < 1 := by omega
         have hs2i : (19 : Int) < (T.size : Int) := by omega
         clear hsz
         go_enter Tryz.func169, Tryz.ntmps169
         go_upto_region 4 with (fail)
         rw [HT.out]
         go_wp2_with fail
         go_ret2
         exact ⟨_, rfl, Below.refl _ _⟩
     · have hs1i : ¬ (T.size : Int) < 1 := by omega
       have hs2i : ¬ (19 : Int) < (T.size : Int) := by omega
       have hT19 : T.size ≤ 19 := by omega
       have hR : rWd true T.data.toList = rWv true (wg 0 T.data.toList) := by unfold rWd; rw [if_neg (by omega)]
       rw [hR]; obtain ⟨R, hRR⟩ : ∃ R, wg 0 T.data.toList = R := ⟨_, rfl⟩; rw [hRR]; have HR := Lib.hid hRR; clear hR hRR hsz
       go_enter Tryz.func169, Tryz.ntmps169
       go_upto_region 4 with (fail)
       rw [HT.out]
       go_wp2_with fail
       go_loopw [5, 6] (fun u i wr => ∃ (k n : Nat), i = .int .i64 k ∧ k ≤ T.size ∧ u = .int .u64 n ∧ n < 10 ^ k ∧ Hid (wg n (T.data.toList.drop k) = R) ∧ wr = w) (fun _ i _ => T.size - (RowKit.intOf i).toNat)
       case atStart => exact ⟨0, 0, rfl, by omega, rfl, by simp, by show _ = _; rw [List.drop_zero]; exact HR.out, rfl⟩
       case round =>
        obtain ⟨k, n, rfl, hk, rfl, hn, hg, hwr⟩ := hrel; subst hwr
        by_cases hlt : k < T.size
        · have hli : (k : Int) < (T.size : Int) := by omega
          have gi : ((T[k]'hlt).toNat : Int) = (bt T.data.toList k : Int) := by rw [get_of]; rfl
          have hx := bt_lt T.data.toList k
          have hlT : T.data.toList.length = T.size := by simp
          have hd : T.data.toList.drop k = UInt8.ofNat (bt T.data.toList k) :: T.data.toList.drop (k + 1) := by
           rw [List.drop_eq_getElem_cons (by omega)]
           congr 1
           simp [bt, List.getD_eq_getElem?_getD, hlt]
          have hg2 := hg.out; rw [hd, wg] at hg2
          have hbn : (UInt8.ofNat (bt T.data.toList k)).toNat = bt T.data.toList k := by simp; omega
          rw [hbn] at hg2; have hp := pow19 (k := k) (by omega)
          have hn18 : n < 1000000000000000000 := by omega
          have hpow : 10 ^ (k + 1) = 10 * 10 ^ k := by rw [Nat.pow_succ, Nat.mul_comm]
          have hnn : ∀ y : Nat, y < 10 → 10 * n + y < 10 ^ (k + 1) := by intro y hy; omega
          have HNN := Lib.hid hnn; clear hnn hpow hp hn hd hg hbn hlT
          generalize bt T.data.toList k = x at *
          by_cases hd : 48 ≤ x ∧ x ≤ 57
          · rw [if_pos hd] at hg2; obtain ⟨hx1, hx2⟩ := hd
            have hxi : ¬ (x : Int) < 48 := by omega
            have hxj : ¬ (57 : Int) < (x : Int) := by omega
            have v1 : IntKind.u8.wrap ((x : Int) - 48) = (x : Int) - 48 := IntWalk.u8_in _ (by omega); have v2 : IntKind.u64.wrap (10 * (n : Int)) = 10 * (n : Int) := IntWalk.u64_in _ (by omega); have v3 : IntKind.u64.wrap (10 * (n : Int) + ((x : Int) - 48)) = 10 * (n : Int) + ((x : Int) - 48) := IntWalk.u64_in _ (by omega); have v4 : IntKind.u64.wrap ((x : Int) - 48) = (x : Int) - 48 := IntWalk.u64_in _ (by omega); have HG := Lib.hid hg2; clear hg2
            go_wp2_with fail
            go_roundw
            case rel => exact ⟨k + 1, 10 * n + (x - 48), by go_num, by omega, by rw [show ((10 * n + (x - 48) : Nat) : Int) = 10 * (n : Int) + ((x : Int) - 48) by omega], HNN.out _ (by omega), HG, trivial⟩
            case measure => simp [RowKit.intOf]; omega
          · rw [if_neg hd] at hg2; subst hg2
            by_cases hx1 : x < 48
            · have hxi : (x : Int) < 48 := by omega
              go_wp2_with fail
              go_ret2
              exact ⟨_, rfl, Below.refl _ _⟩
            · have hxi : ¬ (x : Int) < 48 := by omega
              have hxj : (57 : Int) < (x : Int) := by omega
              go_wp2_with fail
              go_ret2
              exact ⟨_, rfl, Below.refl _ _⟩
        · obtain rfl : k = T.size := by omega
          have hli : ¬ (T.size : Int) < (T.size : Int) := by omega
          have hg2 := hg.out; rw [List.drop_of_length_le (by simp), wg] at hg2; subst hg2; have hp : 10 ^ T.size ≤ 10 ^ 19 := Nat.pow_le_pow_right (by omega) hT19
          have hn19 : n < 10000000000000000000 := by have : (10 : Nat) ^ 19 = 10000000000000000000 := by decide
                                                     omega
          clear hg hp hn
          by_cases h63 : n ≤ 9223372036854775808
          · have he : rWv true (some n) = -(n : Int) := if_pos ⟨rfl, h63⟩; have HE := Lib.hid he
            have h63i : (n : Int) ≤ 9223372036854775808 := by omega
            have hw : IntKind.i64.wrap (IntKind.u64.wrap (-(n : Int))) = -(n : Int) := by
             rw [IntKind.wrap_u64, IntKind.wrap_i64]; omega
            clear he
            go_wp2_with fail
            go_ret2
            exact ⟨_, by rw [HE.out]; first | done | rfl, Below.refl _ _⟩
          · have he : rWv true (some n) = RowKit.wrap64 n := if_neg (fun h => h63 h.2); have HE := Lib.hid he
            have h63i : ¬ (n : Int) ≤ 9223372036854775808 := by omega
            clear he
            go_wp2_with fail
            go_ret2
            exact ⟨_, by rw [HE.out]; first | done | rfl, Below.refl _ _⟩
   · have hR : rWhole S.data.toList = rWd false S.data.toList := by unfold rWhole; rw [if_neg (fun h => h45 h.2)]
     rw [hR]
     have q45 : ((bt S.data.toList 0 : Int) == 45) = false := by rw [beq_eq_false_iff_ne]; omega
     generalize bt S.data.toList 0 = b0 at *
     clear hR h45 h0
     by_cases hsz : S.size < 1 ∨ 19 < S.size
     · have hR : rWd false S.data.toList = 0 := by unfold rWd; rw [if_pos (by omega)]
       rw [hR]; clear hR
       by_cases hs1 : S.size < 1
       · have hs1i : (S.size : Int) < 1 := by omega
         clear hsz
         go_enter Tryz.func169, Tryz.ntmps169
         go_wp2_with fail
         go_ret2
         exact ⟨_, rfl, Below.refl _ _⟩
       · have hs1i : ¬ (S.size : Int) < 1 := by omega
         have hs2i : (19 : Int) < (S.size : Int) := by omega
         clear hsz
         go_enter Tryz.func169, Tryz.ntmps169
         go_wp2_with fail
         go_ret2
         exact ⟨_, rfl, Below.refl _ _⟩
     · have hs1i : ¬ (S.size : Int) < 1 := by omega
       have hs2i : ¬ (19 : Int) < (S.size : Int) := by omega
       have hT19 : S.size ≤ 19 := by omega
       have hR : rWd false S.data.toList = rWv false (wg 0 S.data.toList) := by unfold rWd; rw [if_neg (by omega)]
       rw [hR]; obtain ⟨R, hRR⟩ : ∃ R, wg 0 S.data.toList = R := ⟨_, rfl⟩; rw [hRR]; have HR := Lib.hid hRR; clear hR hRR hsz
       go_enter Tryz.func169, Tryz.ntmps169
       go_wp2_with fail
       go_loopw [5, 6] (fun u i wr => ∃ (k n : Nat), i = .int .i64 k ∧ k ≤ S.size ∧ u = .int .u64 n ∧ n < 10 ^ k ∧ Hid (wg n (S.data.toList.drop k) = R) ∧ wr = w) (fun _ i _ => S.size - (RowKit.intOf i).toNat)
       case atStart => exact ⟨0, 0, rfl, by omega, rfl, by simp, by show _ = _; rw [List.drop_zero]; exact HR.out, rfl⟩
       case round =>
        obtain ⟨k, n, rfl, hk, rfl, hn, hg, hwr⟩ := hrel; subst hwr
        by_cases hlt : k < S.size
        · have hli : (k : Int) < (S.size : Int) := by omega
          have gi : ((S[k]'hlt).toNat : Int) = (bt S.data.toList k : Int) := by rw [get_of]; rfl
          have hx := bt_lt S.data.toList k
          have hlT : S.data.toList.length = S.size := by simp
          have hd : S.data.toList.drop k = UInt8.ofNat (bt S.data.toList k) :: S.data.toList.drop (k + 1) := by
           rw [List.drop_eq_getElem_cons (by omega)]
           congr 1
           simp [bt, List.getD_eq_getElem?_getD, hlt]
          have hg2 := hg.out; rw [hd, wg] at hg2
          have hbn : (UInt8.ofNat (bt S.data.toList k)).toNat = bt S.data.toList k := by simp; omega
          rw [hbn] at hg2; have hp := pow19 (k := k) (by omega)
          have hn18 : n < 1000000000000000000 := by omega
          have hpow : 10 ^ (k + 1) = 10 * 10 ^ k := by rw [Nat.pow_succ, Nat.mul_comm]
          have hnn : ∀ y : Nat, y < 10 → 10 * n + y < 10 ^ (k + 1) := by intro y hy; omega
          have HNN := Lib.hid hnn; clear hnn hpow hp hn hd hg hbn hlT
          generalize bt S.data.toList k = x at *
          by_cases hd : 48 ≤ x ∧ x ≤ 57
          · rw [if_pos hd] at hg2; obtain ⟨hx1, hx2⟩ := hd
            have hxi : ¬ (x : Int) < 48 := by omega
            have hxj : ¬ (57 : Int) < (x : Int) := by omega
            have v1 : IntKind.u8.wrap ((x : Int) - 48) = (x : Int) - 48 := IntWalk.u8_in _ (by omega); have v2 : IntKind.u64.wrap (10 * (n : Int)) = 10 * (n : Int) := IntWalk.u64_in _ (by omega); have v3 : IntKind.u64.wrap (10 * (n : Int) + ((x : Int) - 48)) = 10 * (n : Int) + ((x : Int) - 48) := IntWalk.u64_in _ (by omega); have v4 : IntKind.u64.wrap ((x : Int) - 48) = (x : Int) - 48 := IntWalk.u64_in _ (by omega); have HG := Lib.hid hg2; clear hg2
            go_wp2_with fail
            go_roundw
            case rel => exact ⟨k + 1, 10 * n + (x - 48), by go_num, by omega, by rw [show ((10 * n + (x - 48) : Nat) : Int) = 10 * (n : Int) + ((x : Int) - 48) by omega], HNN.out _ (by omega), HG, trivial⟩
            case measure => simp [RowKit.intOf]; omega
          · rw [if_neg hd] at hg2; subst hg2
            by_cases hx1 : x < 48
            · have hxi : (x : Int) < 48 := by omega
              go_wp2_with fail
              go_ret2
              exact ⟨_, rfl, Below.refl _ _⟩
            · have hxi : ¬ (x : Int) < 48 := by omega
              have hxj : (57 : Int) < (x : Int) := by omega
              go_wp2_with fail
              go_ret2
              exact ⟨_, rfl, Below.refl _ _⟩
        · obtain rfl : k = S.size := by omega
          have hli : ¬ (S.size : Int) < (S.size : Int) := by omega
          have hg2 := hg.out; rw [List.drop_of_length_le (by simp), wg] at hg2; subst hg2; have hp : 10 ^ S.size ≤ 10 ^ 19 := Nat.pow_le_pow_right (by omega) hT19
          have hn19 : n < 10000000000000000000 := by have : (10 : Nat) ^ 19 = 10000000000000000000 := by decide
                                                     omega
          clear hg hp hn
          have he : rWv false (some n) = RowKit.wrap64 n := by
           show (if false = true ∧ n ≤ 9223372036854775808 then -(n : Int) else RowKit.wrap64 n) = _
           rw [if_neg (fun h => absurd h.1 (by decide))]
          by_cases h63 : n < 9223372036854775808
          · have h63i : (n : Int) < 9223372036854775808 := by omega
            rw [IntWalk.wrap64_in _ ⟨by omega, by omega⟩] at he; have HE := Lib.hid he; clear he
            go_wp2_with fail
            go_ret2
            exact ⟨_, by rw [HE.out]; first | done | rfl, Below.refl _ _⟩
          · have h63i : ¬ (n : Int) < 9223372036854775808 := by omega
            have HE := Lib.hid he; clear he
            go_wp2_with fail
            go_ret2
            exact ⟨_, by rw [HE.out]; first | done | rfl, Below.refl _ _⟩
end Go.Proofs.YthlinmkengoliaaGreatDoor
set_option linter.unusedSimpArgs false
namespace Go.Ms
open Go.Lib
def ixh (c : UInt8) : Int := indexByte hexS c
def uh : Bs → Option Bs
  | [] => some []
  | a :: b :: t => if 0 ≤ ixh a ∧ 0 ≤ ixh b then (uh t).map fun r => UInt8.ofNat (16 * ixh a + ixh b).toNat :: r else none
  | _ => none
def rUnhex (l : Bs) : Bs := if l.length % 2 = 0 then (uh l).getD [] else []
theorem ixh_all : ∀ c : Fin 256, -1 ≤ ixh c.val.toUInt8 ∧ ixh c.val.toUInt8 < 16 := by decide +kernel
theorem ixh_bd (c : UInt8) : -1 ≤ ixh c ∧ ixh c < 16 := by
 have := ixh_all ⟨c.toNat, UInt8.toNat_lt c⟩
 simpa using this
theorem ixh_hexb : ∀ c : Fin 256, 0 ≤ ixh ((hexb c.val.toUInt8).getD 0 0) ∧ 0 ≤ ixh ((hexb c.val.toUInt8).getD 1 0) ∧ 16 * ixh ((hexb c.val.toUInt8).getD 0 0) + ixh ((hexb c.val.toUInt8).getD 1 0) = c.val := by decide +kernel
theorem uh_hex : ∀ l : Bs, uh (l.flatMap hexb) = some l
  | [] => rfl
  | c :: l => by
   have h := ixh_hexb ⟨c.toNat, UInt8.toNat_lt c⟩; simp only [UInt8.ofNat_toNat, Nat.toUInt8] at h; obtain ⟨a, b, hab⟩ : ∃ a b, hexb c = [a, b] := ⟨_, _, rfl⟩; rw [List.flatMap_cons, hab]; rw [hab] at h; have h' : 0 ≤ ixh a ∧ 0 ≤ ixh b ∧ 16 * ixh a + ixh b = (c.toNat : Int) := h
   show uh (a :: b :: l.flatMap hexb) = _
   rw [uh, if_pos ⟨h'.1, h'.2.1⟩, uh_hex l, h'.2.2]
   simp
theorem runhex_hex (l : Bs) : rUnhex (l.flatMap hexb) = l := by
 unfold rUnhex
 have : (l.flatMap hexb).length = 2 * l.length := by
  have h := khex_len l; unfold hexD at h; rw [List.length_cons] at h; omega
 rw [if_pos (by omega), uh_hex]; rfl
theorem drop_two (l : Bs) (k : Nat) (h : k + 1 < l.length) : ∃ b t, l.drop k = l.getD k 0 :: b :: t ∧ l.drop (k + 1) = b :: t := by
 refine ⟨l[k + 1], l.drop (k + 2), ?_, ?_⟩
 · rw [List.drop_eq_getElem_cons (by omega : k < l.length), List.drop_eq_getElem_cons h]
   congr 1
   rw [List.getD_eq_getElem?_getD, List.getElem?_eq_getElem (by omega), Option.getD_some]
 · rw [List.drop_eq_getElem_cons h]
theorem uh_bad1 (a b : UInt8) (t : Bs) (h : ixh a < 0) : uh (a :: b :: t) = none := by
 rw [uh, if_neg (by omega)]
theorem uh_bad2 (a b : UInt8) (t : Bs) (h : ixh b < 0) : uh (a :: b :: t) = none := by
 rw [uh, if_neg (by omega)]
theorem uh_good (a b : UInt8) (t : Bs) (ha : 0 ≤ ixh a) (hb : 0 ≤ ixh b) (acc : Bs) : (uh (a :: b :: t)).map (acc ++ ·) = (uh t).map ((acc ++ [UInt8.ofNat (16 * ixh a + ixh b).toNat]) ++ ·) := by
 rw [uh, if_pos ⟨ha, hb⟩, Option.map_map]
 congr 1
 funext r
 simp
end Go.Ms
namespace Go.Proofs.YthlinmkengoliaaGreatDoor
open Go.RowKit Go.Ms Go.Lib
def dk : Nat → Int → Int
  | 0, _ => -1
  | k + 1, x => if lowD k = x then (k : Int) else dk k x
theorem dk_all : ∀ c : Fin 256, dk 16 ((c.val : Nat) : Int) = ixh c.val.toUInt8 := by decide +kernel
theorem dk_ix (c : UInt8) : dk 16 (c.toNat : Int) = ixh c := by
 have := dk_all ⟨c.toNat, UInt8.toNat_lt c⟩; simp only [UInt8.ofNat_toNat, Nat.toUInt8] at this; exact this
theorem dk_bd (x : Int) : ∀ k : Nat, -1 ≤ dk k x ∧ dk k x ≤ k
  | 0 => ⟨by show (-1 : Int) ≤ -1; omega, by show (-1 : Int) ≤ 0; omega⟩
  | k + 1 => by
   have := dk_bd x k; unfold dk
   split <;> omega
theorem own_last {w : World} {base g cap n : Nat} {e : TypeId} {l : Bs} {x : UInt8} (h : OwnB w base e (.slice (some ⟨g, 0, none⟩) n cap) (l ++ [x])) (y : UInt8) :
    OwnB (w.setCell ⟨g, l.length, none⟩ (.int .u8 y.toNat)) base e (.slice (some ⟨g, 0, none⟩) n cap) (l ++ [y]) := by
 obtain ⟨h1, h2⟩ := h; refine ⟨by simp, ?_⟩
 rcases h2 with ⟨h2, _⟩ | ⟨g', cap', cur, hv, hb, hg, hn, hm, hz, ht⟩
 · cases h2
 · injection hv with ha hb' hc'
   have hgg : g' = g := by injection ha with ha; injection ha with ha; exact ha.symm
   subst hgg hc'
   have hl : n = l.length + 1 := by rw [hb']; simp
   have hn' : l.length + 1 ≤ cap := by simpa using hn
   refine .inr ⟨g', cap, cur.setIfInBounds l.length (.int .u8 y.toNat), by rw [hl]; simp, hb, ?_, by simpa using hn, hm, by simpa using hz, ?_⟩
   · simp [World.setCell, Array.getElem?_modify, hg]
   · apply List.ext_getElem?
     intro j
     have ht' : (cur.toList.take ((l ++ [x]).length * 1))[j]? = (List.map (fun b : UInt8 => Value.int .u8 b.toNat) (l ++ [x]))[j]? := by rw [ht]
     rw [List.getElem?_take] at ht' ⊢
     have hlx : (l ++ [x]).length * 1 = l.length + 1 := by simp
     have hly : (l ++ [y]).length * 1 = l.length + 1 := by simp
     rw [hlx] at ht'; rw [hly]
     by_cases hj : j < l.length + 1
     · rw [if_pos hj] at ht' ⊢; rw [Array.getElem?_toList, Array.getElem?_setIfInBounds]
       by_cases hjl : l.length = j
       · subst hjl
         have hcs : l.length < cur.size := by rw [hz]; omega
         simp [hcs]
       · rw [if_neg hjl, ← Array.getElem?_toList, ht', List.getElem?_map, List.getElem?_map]; rw [List.getElem?_append_left (by omega), List.getElem?_append_left (by omega)]
     · rw [if_neg hj, List.getElem?_eq_none (by simp; omega)]
theorem own_slice {w : World} {base : Nat} {e : TypeId} {v : Value} {l : Bs} {x : UInt8} (h : OwnB w base e v (l ++ [x])) :
    ∃ g cap, v = .slice (some ⟨g, 0, none⟩) (l.length + 1) cap ∧ base ≤ g ∧ w.cell? ⟨g, l.length, none⟩ = some (.int .u8 x.toNat) ∧ w.frozen? ⟨g, l.length, none⟩ = false ∧ l.length + 1 ≤ cap ∧ cap ≤ 9223372036854775807 := by
 rcases h.2 with ⟨_, h0⟩ | ⟨g, cap, cur, hv, hb, hg, hn, hm, hz, ht⟩
 · simp at h0
 · have hlen : (l ++ [x]).length = l.length + 1 := by simp
   rw [hlen] at hv hn; refine ⟨g, cap, hv, hb, ?_, Lib.frozen_of_heap hg _, hn, by simpa [maxLen] using hm⟩; have := h.cells (g := g) (by rw [hv]; rfl) l.length (.int .u8 x.toNat) (by simp)
   have hadd : (⟨g, 0, none⟩ : Addr).add l.length = ⟨g, l.length, none⟩ := by unfold Addr.add; split <;> simp_all
   rw [hadd] at this; exact this
def StrB (v : Bs) (w : World) (e : Ending) (w' : World) : Prop := ∃ b, e = .returned (.tuple #[.string ⟨v.toArray⟩, .bool b]) ∧ Below w.heap.size w w'
end Go.Proofs.YthlinmkengoliaaGreatDoor
set_option linter.unusedSimpArgs false
namespace Go.Proofs.YthlinmkengoliaaGreatDoor
open Go.RowKit Go.Ms Go.Lib
def UhRel (l : Bs) (B : Nat) (i : Nat) (v : Value) (w : World) : Prop :=
  (i % 2 = 0 ∧ ∃ acc : Bs, 2 * acc.length = i ∧ OwnB w B 5 v acc ∧ uh l = (uh (l.drop i)).map (acc ++ ·)) ∨
  (i % 2 = 1 ∧ ∃ (acc : Bs) (a b : UInt8) (t : Bs), 2 * acc.length + 1 = i ∧ 0 ≤ ixh a ∧ OwnB w B 5 v (acc ++ [UInt8.ofNat (16 * ixh a).toNat]) ∧ l.drop i = b :: t ∧ uh l = (uh (a :: b :: t)).map (acc ++ ·))
set_option maxRecDepth 100000 in
set_option maxHeartbeats 8000000 in
theorem runhex_any (S : ByteArray) (w : World) (hs : S.size ≤ 100000) :
    Calls Tryz.prog 171 #[.string S] w (StrB (rUnhex S.data.toList) w) := by
 obtain ⟨i0, hi, hz0, hz1, hz2⟩ := info_parts infoU8
 have hlS : S.data.toList.length = S.size := by simp
 have tm : (S.size : Int).tmod 2 = (S.size : Int) % 2 := Int.tmod_eq_emod_of_nonneg (by omega)
 by_cases hev : S.size % 2 = 0
 · have hR : rUnhex S.data.toList = (uh S.data.toList).getD [] := by unfold rUnhex; rw [if_pos (by omega)]
   rw [hR]; obtain ⟨R, hRv⟩ : ∃ R, R = (uh S.data.toList).getD [] := ⟨_, rfl⟩; rw [← hRv]; have HRV := Lib.hid hRv; clear hRv
   have q0 : ((S.size : Int) % 2 != 0) = false := by
    have : (S.size : Int) % 2 = 0 := by omega
    simp [this]
   have q1 : (S.size : Int) % 2 = 0 := by omega
   have hRR := Lib.hid hlS; clear hR hlS
   go_enter Tryz.func171, Tryz.ntmps171
   go_wp2_with fail
   go_loopw [4, 5, 6] (fun v i d wr => ∃ k : Nat, i = .int .i64 k ∧ k ≤ S.size ∧ Hid (UhRel S.data.toList w.heap.size k v wr) ∧ Below w.heap.size w wr) (fun _ i _ _ => S.size - (RowKit.intOf i).toNat)
   case atStart => exact ⟨0, rfl, by omega, Lib.hid (Or.inl ⟨rfl, [], rfl, OwnB.nil _ _ _, by simp⟩), Below.refl _ _⟩
   case round =>
    obtain ⟨k, rfl, hk, hrelk, hb⟩ := hrel
    by_cases hlt : k < S.size
    · have hli : (k : Int) < (S.size : Int) := by omega
      have gi : ((S[k]'hlt).toNat : Int) = (bt S.data.toList k : Int) := by rw [get_of]; rfl
      have hx := bt_lt S.data.toList k
      have hbe : S.data.toList.getD k 0 = UInt8.ofNat (bt S.data.toList k) := by unfold bt; simp
      have hix : dk 16 (bt S.data.toList k : Int) = ixh (S.data.toList.getD k 0) := dk_ix _; have HIX := Lib.hid hix; have HBE := Lib.hid hbe; clear hix hbe
      generalize bt S.data.toList k = x at *
      obtain ⟨wo, hwo⟩ : ∃ wo : World, wo = wr := ⟨_, rfl⟩; rw [← hwo] at hrelk hb ⊢; clear hwo
      go_wp2_with fail
      go_loopw [6, 7] (fun d j wq => ∃ m q : Nat, j = .int .i64 m ∧ m ≤ 16 ∧ d = .int .i64 (dk m x) ∧ wq = wo.drewN q) (fun _ j _ => 16 - (RowKit.intOf j).toNat)
      case atStart => exact ⟨0, 0, rfl, by omega, rfl, rfl⟩
      case round =>
       obtain ⟨m, q, rfl, hm, rfl, hwq⟩ := hrel; subst hwq; have hdb := dk_bd x m
       by_cases hm16 : m < 16
       · have hmi : (m : Int) < 16 := by omega
         have g2 := low_at ⟨m, hm16⟩; simp only at g2
         have hsn : dk (m + 1) x = if lowD m = x then (m : Int) else dk m x := rfl
         by_cases he : lowD m = x
         · rw [if_pos he] at hsn; rw [he] at g2; have HSN := Lib.hid hsn; clear hsn he
           go_wp2_with fail
           go_quiet (fail)
           go_wp2_with fail
           go_roundw
           case rel => exact ⟨m + 1, _, by go_num, by omega, by rw [HSN.out], by first | rfl | exact World.drewN_drewN _ _ _⟩
           case measure => simp [RowKit.intOf]; omega
         · rw [if_neg he] at hsn
           have qe : (lowD m == (x : Int)) = false := by rw [beq_eq_false_iff_ne]; exact he
           have HSN := Lib.hid hsn; clear hsn
           generalize lowD m = y at *
           go_wp2_with fail
           go_quiet (fail)
           go_wp2_with fail
           go_roundw
           case rel => exact ⟨m + 1, _, by go_num, by omega, by rw [HSN.out], by first | rfl | exact World.drewN_drewN _ _ _⟩
           case measure => simp [RowKit.intOf]; omega
       · obtain rfl : m = 16 := by omega
         have hmi : ¬ ((16 : Nat) : Int) < 16 := by omega
         have hlS := hRR.out; have hixb := ixh_bd (S.data.toList.getD k 0); rw [← HIX.out] at hixb
         by_cases hd : dk 16 x < 0
         · have hnone : uh S.data.toList = none := by
             have hdn : ixh (S.data.toList.getD k 0) < 0 := by rw [← HIX.out]; exact hd
             rcases hrelk.out with ⟨hk2, acc, hal, hown, huh⟩ | ⟨hk2, acc, a, b, t, hal, ha, hown, hdr, huh⟩
             · obtain ⟨b, t, h1, h2⟩ := drop_two S.data.toList k (by omega)
               rw [huh, h1, uh_bad1 _ _ _ hdn]; rfl
             · have hbe2 : b = S.data.toList.getD k 0 := by
                 have := congrArg (fun z => List.getD z 0 0) hdr
                 simpa [List.getD_eq_getElem?_getD] using this.symm
               rw [huh, uh_bad2 _ _ _ (by rw [hbe2]; exact hdn)]; rfl
           obtain rfl : R = [] := by rw [HRV.out, hnone]; rfl
           clear hnone hlS
           go_wp2_with fail
           go_ret2
           exact ⟨false, rfl, ms_drewN hb q⟩
         · have hdp : 0 ≤ ixh (S.data.toList.getD k 0) := by rw [← HIX.out]; omega
           have hrel2 := hrelk.out; clear hrelk
           rcases hrel2 with ⟨hk2, acc, hal, hown, huh⟩ | ⟨hk2, acc, a, b, t, hal, ha, hown, hdr, huh⟩
           · have hk2' : (k : Int) % 2 = 0 := by omega
             have tk : (k : Int).tmod 2 = (k : Int) % 2 := Int.tmod_eq_emod_of_nonneg (by omega); obtain ⟨b, t, h1, h2⟩ := drop_two S.data.toList k (by omega); rw [h1] at huh; have HUH := Lib.hid huh; have HDP := Lib.hid hdp; have H2 := Lib.hid h2; clear huh h1 hdp h2 hlS
             generalize hdd : dk 16 x = d at *
             have v1 : IntKind.u8.wrap (16 * d) = 16 * d := IntWalk.u8_in _ (by omega)
             have v2 : 16 * d % 256 = 16 * d := by omega
             have ownAQ := (hown.drewN q).alloc (.cells #[.int .u8 (16 * d)] 5); have BAQ : Below w.heap.size w ((wo.drewN q).alloc (.cells #[.int .u8 (16 * d)] 5)) := (ms_drewN hb q).alloc hb.size _; have hsAQ := BAQ.size
             have hns : Hid (∀ z ∈ ([16 * d] : List Int), 0 ≤ z ∧ z < 256) := by show ∀ z ∈ ([16 * d] : List Int), 0 ≤ z ∧ z < 256; intro z hz; simp only [List.mem_cons, List.not_mem_nil, or_false] at hz; omega
             go_wp2_with (at_builtin; refine wpList_append_new rfl _ _ 77 rfl w.heap.size 5 i0 (.int .u8 0) Tryz.underlying77 hi hz0 hz1 hz2 rfl _ _ rfl ownAQ ⟨wo.heap.size, 0, none⟩ 1 1 rfl [16 * d] rfl (new_cells (wo.drewN q) 5 [16 * d]) hns.out (by simp; omega) hsAQ ?_)
             intro vQ wQ ownQ hgQ
             have BQ := ownAQ.below BAQ hsAQ hgQ; clear ownAQ hgQ BAQ hsAQ hns
             go_wp2_with fail
             go_roundw
             case rel =>
              exact ⟨k + 1, by go_num, by omega, Lib.hid (Or.inr ⟨by omega, acc, S.data.toList.getD k 0, b, t, by omega, HDP.out, by rw [← HIX.out]; exact ownQ, H2.out, HUH.out⟩), BQ⟩
             case measure => simp [RowKit.intOf]; omega
           · have hk2' : (k : Int) % 2 = 1 := by omega
             have tk : (k : Int).tmod 2 = (k : Int) % 2 := Int.tmod_eq_emod_of_nonneg (by omega); have tk2 : (k : Int).tdiv 2 = (k : Int) / 2 := Int.tdiv_eq_ediv_of_nonneg (by omega)
             have hkd : (k : Int) / 2 = (acc.length : Int) := by omega
             have hbe2 : b = S.data.toList.getD k 0 := by
              have := congrArg (fun z => List.getD z 0 0) hdr
              simpa [List.getD_eq_getElem?_getD] using this.symm
             have hdr2 : S.data.toList.drop (k + 1) = t := by
              rw [← List.drop_drop, hdr]; rfl
             have hixa := ixh_bd a; rw [← hbe2] at hdp; rw [uh_good a b t ha hdp, ← hdr2] at huh; obtain ⟨g, cap, rfl, hg, hcg, hfg, hcp, hcm⟩ := own_slice (hown.drewN q)
             have hx1 : ((UInt8.ofNat (16 * ixh a).toNat).toNat : Int) = 16 * ixh a := by simp [UInt8.toNat_ofNat']; omega
             have hx2 : ((UInt8.ofNat (16 * ixh a + ixh b).toNat).toNat : Int) = 16 * ixh a + ixh b := by
              have := ixh_bd b
              simp [UInt8.toNat_ofNat']; omega
             rw [hx1] at hcg
             have hix2 : dk 16 (x : Int) = ixh b := by rw [HIX.out, hbe2]
             have hown2 := own_last (hown.drewN q) (UInt8.ofNat (16 * ixh a + ixh b).toNat); rw [hx2] at hown2; have HUH := Lib.hid huh; clear huh hdr hdr2 hlS hown hx1 hx2 hbe2; rw [hix2] at hd hixb ⊢
             have hal2 : acc.length < acc.length + 1 := by omega
             have hlk : (acc.length : Int) < (acc.length : Int) + 1 := by omega
             generalize ixh a = ea at *
             generalize ixh b = eb at *
             have v1 : IntKind.u8.wrap eb = eb := IntWalk.u8_in _ (by omega); have v2 : IntKind.u8.wrap (16 * ea + eb) = 16 * ea + eb := IntWalk.u8_in _ (by omega)
             have v3 : eb % 256 = eb := by omega
             have v4 : (16 * ea + eb) % 256 = 16 * ea + eb := by omega
             go_wp2_with fail
             go_roundw
             case rel =>
              exact ⟨k + 1, by go_num, by omega, Lib.hid (Or.inl ⟨by omega, acc ++ [UInt8.ofNat (16 * ea + eb).toNat], by simp; omega, hown2, HUH.out⟩), (ms_drewN hb q).setCell (p := ⟨_, _, _⟩) hg _⟩
             case measure => simp [RowKit.intOf]; omega
    · obtain rfl : k = S.size := by omega
      rcases hrelk.out with ⟨hk2, acc, hal, hown, huh⟩ | ⟨hk2, acc, a, b, t, hal, ha, hown, hdr, huh⟩
      · have hlS := hRR.out; have hdn : S.data.toList.drop S.size = [] := List.drop_of_length_le (by omega); rw [hdn] at huh
        have huh2 : uh S.data.toList = some acc := by rw [huh]; simp [uh]
        obtain rfl : R = acc := by rw [HRV.out, huh2]; rfl
        clear huh huh2 hdn hlS; have hcv := run_ownB_string (P := Tryz.prog) (src := 77) (dst := 9) Tryz.underlying77 Tryz.underlying5 Tryz.underlying9 hown
        go_wp2_with fail
        go_ret2
        exact ⟨true, rfl, hb⟩
      · omega
 · have hR : rUnhex S.data.toList = [] := by unfold rUnhex; rw [if_neg (by omega)]
   rw [hR]
   have q1 : (S.size : Int) % 2 = 1 := by omega
   clear hR hlS
   go_enter Tryz.func171, Tryz.ntmps171
   go_wp2_with fail
   go_ret2
   exact ⟨_, rfl, Below.refl _ _⟩
end Go.Proofs.YthlinmkengoliaaGreatDoor
set_option linter.unusedSimpArgs false
namespace Go.Proofs.YthlinmkengoliaaGreatDoor
open Go.RowKit Go.Ms Go.Lib
end Go.Proofs.YthlinmkengoliaaGreatDoor
