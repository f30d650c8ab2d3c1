/- Lines: the library's iterator hands over a text's lines, one after the other. -/
import Derived.Test.YthgmdlibnjkdoaaGreatDoorZSc
import Derived.Test.YthgmdlibnjkdoaaGreatDoorZRf
import Derived.Test.YthgmdlibnjkdoaaGreatDoorShelf
import Derived.Test.YthgmdlibnjkdoaaGreatDoorZYb
import Derived.Shelf.Abstract
import Derived.Shelf.AbstractIn
import Derived.Shelf.RegionOpen
import Derived.OwnWalkIn
import Derived.TacticsInMore
import Derived.LoopNIn
import Derived.LoopIn
set_option linter.unusedVariables false
set_option linter.unusedSimpArgs false
namespace Go.Ms
open Go.RowKit Go.Lib
/-- A text's lines with their ends; what stands behind the last end is one too. -/
def linesL (s : Bs) : List Bs := (splitNl s).1.map (fun l => l ++ [10]) ++ (if (splitNl s).2 = [] then [] else [(splitNl s).2])
def linesB (s : ByteArray) : List ByteArray := (linesL s.data.toList).map fun l => ⟨l.toArray⟩
theorem linesL_hit {s x y : Bs} (h : cutAt 10 s = some (x, y)) : linesL s = (x ++ [10]) :: linesL y := by
  obtain ⟨e, hn⟩ := cutAt_some h
  unfold linesL
  rw [e, splitNl_hit hn]
  rfl
theorem linesL_miss {s : Bs} (h : cutAt 10 s = none) (h0 : s ≠ []) : linesL s = [s] := by
  unfold linesL
  rw [splitNl_miss (cutAt_none.1 h)]
  simp [h0]
def boxLen (Bs : Nat) (w : World) : Nat := match w.cell? ⟨Bs, 0, none⟩ with
  | some (.string s) => s.size
  | _ => 0
end Go.Ms
namespace Go.Proofs.YthgmdlibnjkdoaaGreatDoor
open Go.RowKit Go.Ms Go.Lib Go.Shelf
attribute [local go_sem] Oper.semAt_some
set_option maxRecDepth 100000 in
set_option maxHeartbeats 4000000 in
theorem lines_seq (n : Nat) (Bx : Nat) (S : ByteArray) (hS : S.size ≤ 2000000) :
    BoxSeq Fence.wide n Tryz.prog 96 Bx 9 (fun x : ByteArray => #[.string x]) (linesB S) (.string S) := by
  intro l J Jx W hbx hJ hJx hY h0
  refine callsIn_of_wp Tryz.func96 rfl trivial ?_ rfl
  simp only [Tryz.ntmps96, List.size_toArray, List.length_cons, List.length_nil, Nat.reduceAdd, Nat.reduceSub, Array.replicate_succ, Array.replicate_zero, List.push_toArray, List.append_toArray, List.nil_append, List.cons_append]
  have hdp : Fence.wide.depth.isSome = true → 1 ≤ n := fun h => absurd h (by decide)
  gi_wp2
  gi_loopw [3] (fun _ wr => ∃ (pre : List ByteArray) (rest : ByteArray), Boxed wr Bx 9 (.string rest) ∧ linesB S = pre ++ linesB rest ∧ J pre wr ∧ rest.size ≤ 2000000) (fun _ wr => boxLen Bx wr)
  case atStart => exact ⟨[], S, hbx, rfl, h0, hS⟩
  case round =>
    obtain ⟨pre, rest, hb, hl, hj, hz⟩ := hrel
    have c0 := hb.cell
    have f0 := hb.frozen
    have HB := Lib.hid hb; have HL := Lib.hid hl; have HJ := Lib.hid hj
    clear hb hl hj
    by_cases hr : rest.size = 0
    · have hr' : ¬ (0 : Int) < rest.size := by omega
      have hle : linesB rest = [] := by
        have : rest.data.toList = [] := List.eq_nil_of_length_eq_zero (by simpa using hr)
        unfold linesB
        rw [this]
        rfl
      have HLE := Lib.hid hle
      clear hle
      gi_wp2
      go_end0
      refine ⟨⟨_, rfl⟩, .inl ?_⟩
      rw [HL.out, HLE.out, List.append_nil]
      exact HJ.out
    · have hr' : (0 : Int) < rest.size := by omega
      rcases indexByte_cut (c := 10) (s := rest.data.toList) with ⟨hc, hi⟩ | ⟨x, y, hc, hi, ht, hd⟩
      · have hne : rest.data.toList ≠ [] := fun e => hr (by have := congrArg List.length e; simpa using this)
        have hls : linesB rest = [rest] := by
          unfold linesB
          rw [linesL_miss hc hne]
          rfl
        have HLS := Lib.hid hls
        have hix : CallsIn Fence.wide (n - 1) Tryz.prog 97 #[.string rest, .int .u8 10] wr fun e w' => e = .returned (.int .i64 (-1)) ∧ w' = wr := by
          have := callsIn_wide (n := n - 1) |>.2 (Tryz.strings_IndexByte rest 10 wr)
          rw [show ((10 : Int).toNat.toUInt8) = 10 from rfl, hi] at this
          exact this
        have HIX := Lib.hid hix
        clear hls hix hne hc hi
        have hwx : J pre ((wr.setCell ⟨Bx, 0, none⟩ (.string ⟨#[]⟩))) := hJ _ _ _ (some Bx) HJ.out (grownBy_setCell' wr Bx _) (fun r e => by cases e; rfl)
        obtain ⟨fn, tmps, assign, body, hy, hR⟩ := hY pre rest _ hwx (by rw [HL.out, HLS.out]; exact List.prefix_rfl)
        gi_wp2_with (refine ⟨trivial, hdp, ?_⟩; gi_at_call 97; refine HIX.out.mono ?_; rintro e w' ⟨rfl, hw⟩; rw [hw]; clear hw)
        refine ⟨hdp, hR.mono ?_⟩
        rintro e W' (⟨rfl, hJ', hk⟩ | ⟨rfl, hJx'⟩)
        · have hb2 : Boxed W' Bx 9 (.string ⟨#[]⟩) := hk.trans (HB.out.set _)
          have hm : boxLen Bx W' < boxLen Bx wr := by
            unfold boxLen
            rw [hb2.cell, HB.out.cell]
            show (0 : Nat) < rest.size
            omega
          have HB2 := Lib.hid hb2; have HM := Lib.hid hm; have HJ2 := Lib.hid hJ'
          clear hb2 hm hJ' hk hy hR hwx
          gi_wp2
          go_roundw
          case rel => exact ⟨pre ++ [rest], ⟨#[]⟩, HB2.out, by rw [HL.out, HLS.out]; simp [linesB, linesL, splitNl], HJ2.out, by show (0 : Nat) ≤ _; omega⟩
          case measure => exact HM.out
        · clear hy hR hwx
          gi_wp2
          refine bodyPost_ret (results_none rfl _ _ _) rfl ?_
          exact ⟨⟨_, rfl⟩, .inr ⟨_, hJx'⟩⟩
      · have hls : linesB rest = ⟨(x ++ [10]).toArray⟩ :: linesB ⟨y.toArray⟩ := by
          unfold linesB
          rw [linesL_hit hc]
          rfl
        have hxl : x.length + 1 ≤ rest.size := by
          obtain ⟨e, _⟩ := cutAt_some hc
          have := congrArg List.length e
          simp at this
          omega
        have hix : CallsIn Fence.wide (n - 1) Tryz.prog 97 #[.string rest, .int .u8 10] wr fun e w' => e = .returned (.int .i64 (x.length : Nat)) ∧ w' = wr := by
          have := callsIn_wide (n := n - 1) |>.2 (Tryz.strings_IndexByte rest 10 wr)
          rw [show ((10 : Int).toNat.toUInt8) = 10 from rfl, hi] at this
          exact this
        obtain ⟨i, hil⟩ : ∃ i, x.length = i := ⟨_, rfl⟩
        rw [hil] at hix hxl hd
        have e1 : rest.extract 0 (i + 1) = ⟨(x ++ [10]).toArray⟩ := by
          apply ba_ext
          rw [ext_list, List.drop_zero]
          obtain ⟨e, _⟩ := cutAt_some hc
          rw [e, ← hil]
          rw [show x ++ 10 :: y = (x ++ [10]) ++ y by simp, List.take_left' (by simp)]
        have e2 : rest.extract (i + 1) rest.size = ⟨y.toArray⟩ := by
          apply ba_ext
          rw [ext_list, List.take_of_length_le (by simp)]
          exact hd
        have HLS := Lib.hid hls; have HIX := Lib.hid hix; have E1 := Lib.hid e1; have E2 := Lib.hid e2
        clear hls hix hc hi ht hd e1 e2
        have i1 : (i : Int) + 1 ≤ rest.size := by omega
        have i2 : (0 : Int) ≤ (i : Int) + 1 := by omega
        gi_wp2_with (refine ⟨trivial, hdp, ?_⟩; gi_at_call 97; refine HIX.out.mono ?_; rintro e w' ⟨rfl, hw⟩; rw [hw]; clear hw)
        have hwx : J pre (wr.setCell ⟨Bx, 0, none⟩ (.string (rest.extract (i + 1) rest.size))).drew := hJ _ _ _ (some Bx) HJ.out ⟨(grownBy_setCell' wr Bx (.string (rest.extract (i + 1) rest.size))).os, (grownBy_setCell' wr Bx (.string (rest.extract (i + 1) rest.size))).tape, (grownBy_setCell' wr Bx (.string (rest.extract (i + 1) rest.size))).output, (grownBy_setCell' wr Bx (.string (rest.extract (i + 1) rest.size))).size, (grownBy_setCell' wr Bx (.string (rest.extract (i + 1) rest.size))).block⟩ (fun r e => by cases e; rfl)
        obtain ⟨fn, tmps, assign, body, hy, hR⟩ := hY pre (rest.extract 0 (i + 1)) _ hwx ⟨linesB ⟨y.toArray⟩, by rw [HL.out, HLS.out, E1.out]; simp⟩
        have HR := Lib.hid hR
        clear hR hwx
        gi_region
        gi_wp2
        refine ⟨hdp, HR.out.mono ?_⟩
        rintro e W' (⟨rfl, hJ', hk⟩ | ⟨rfl, hJx'⟩)
        · have hb2 : Boxed W' Bx 9 (.string (rest.extract (i + 1) rest.size)) := hk.trans (HB.out.set _)
          have hsz : (rest.extract (i + 1) rest.size).size < rest.size := by rw [ByteArray.size_extract]; omega
          have hm : boxLen Bx W' < boxLen Bx wr := by
            unfold boxLen
            rw [hb2.cell, HB.out.cell]
            exact hsz
          have hrl : linesB S = (pre ++ [rest.extract 0 (i + 1)]) ++ linesB (rest.extract (i + 1) rest.size) := by
            rw [HL.out, HLS.out, E1.out, E2.out]
            simp
          have HB2 := Lib.hid hb2; have HM := Lib.hid hm; have HJ2 := Lib.hid hJ'; have HRL := Lib.hid hrl; have HSZ := Lib.hid hsz
          clear hb2 hm hJ' hk hy hrl hsz
          gi_wp2
          go_roundw
          case rel => exact ⟨pre ++ [rest.extract 0 (i + 1)], rest.extract (i + 1) rest.size, HB2.out, HRL.out, HJ2.out, by have := HSZ.out; omega⟩
          case measure => exact HM.out
        · clear hy
          gi_wp2
          refine bodyPost_ret (results_none rfl _ _ _) rfl ?_
          exact ⟨⟨_, rfl⟩, .inr ⟨_, hJx'⟩⟩
end Go.Proofs.YthgmdlibnjkdoaaGreatDoor
