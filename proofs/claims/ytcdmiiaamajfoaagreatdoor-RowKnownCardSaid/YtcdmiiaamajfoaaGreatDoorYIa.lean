/- The reference of the cells: Whole. The reference of the cells: Unhex. The reference of the cells: Unhex, the walk. The reference of the cells: run, the walk. -/
import Derived.Test.YtcdmiiaamajfoaaGreatDoorYHb
set_option linter.unusedVariables false
set_option linter.unusedSimpArgs false
namespace Go.Ms
open Go.Lib
end Go.Ms
namespace Go.Proofs.YtcdmiiaamajfoaaGreatDoor
open Go.RowKit Go.Ms Go.Lib


end Go.Proofs.YtcdmiiaamajfoaaGreatDoor
set_option linter.unusedSimpArgs false
namespace Go.Ms
open Go.Lib
end Go.Ms
namespace Go.Proofs.YtcdmiiaamajfoaaGreatDoor
open Go.RowKit Go.Ms Go.Lib
end Go.Proofs.YtcdmiiaamajfoaaGreatDoor
set_option linter.unusedSimpArgs false
namespace Go.Proofs.YtcdmiiaamajfoaaGreatDoor
open Go.RowKit Go.Ms Go.Lib

end Go.Proofs.YtcdmiiaamajfoaaGreatDoor
set_option linter.unusedSimpArgs false
namespace Go.Proofs.YtcdmiiaamajfoaaGreatDoor
open Go.RowKit Go.Ms Go.Lib
theorem own_shape {w : World} {base : Nat} {e : TypeId} {v : Value} {l : Bs} (h : OwnB w base e v l) : ∃ b c, v = .slice b l.length c := by
  rcases h.2 with ⟨h1, h0⟩ | ⟨g, cap, cur, hv, _⟩
  · have : l.length = 0 := by simpa using h0
    rw [this]; exact ⟨_, _, h1⟩
  · exact ⟨_, _, hv⟩
def unrV (x : Bs × Nat × Int) : Value := .tuple #[.string ⟨x.1.toArray⟩, .int .i64 x.2.1, .int .i64 x.2.2]
set_option maxRecDepth 100000 in
set_option maxHeartbeats 8000000 in
theorem rrun_any (S : ByteArray) (w : World) (hs : S.size ≤ 100000) :
    Calls Tryz.prog 204 #[.string S] w fun e w' => e = .returned (unrV (unrowD S.data.toList)) ∧ Below w.heap.size w w' := by
  obtain ⟨i0, hi, hz0, hz1, hz2⟩ := info_parts infoU8
  have hlS : S.data.toList.length = S.size := by simp
  obtain ⟨R, hR⟩ : ∃ R, unrowD S.data.toList = R := ⟨_, rfl⟩
  rw [hR]
  have HR0 : unrowG S.data.toList (S.size + 1) 0 [] = R := by rw [← hlS]; exact hR
  have HRR := Lib.hid HR0
  have HLS := Lib.hid hlS
  clear hR HR0 hlS
  go_enter Tryz.func204, Tryz.ntmps204
  go_wp2_with fail
  go_loopw [5, 6] (fun v x wr => ∃ (i f : Nat) (acc : Bs), x = .int .i64 i ∧ i ≤ S.size ∧ S.size + 1 ≤ f + i ∧ acc.length ≤ i ∧ OwnB wr w.heap.size 5 v acc ∧ Below w.heap.size w wr ∧ Hid (unrowG S.data.toList f i acc = R)) (fun _ x _ => S.size - (RowKit.intOf x).toNat)
  case atStart => exact ⟨0, S.size + 1, [], rfl, by omega, by omega, by simp, OwnB.nil _ _ _, Below.refl _ _, HRR⟩
  case round =>
    obtain ⟨i, f, acc, rfl, hi', hf, hal, hown, hb, hg⟩ := hrel
    obtain ⟨f, rfl⟩ : ∃ g, f = g + 1 := ⟨f - 1, by omega⟩
    have hr := hg.out
    clear hg HRR
    have hlS := HLS.out
    rw [unrowG_succ] at hr
    by_cases hil : S.size ≤ i
    · rw [if_pos (by omega)] at hr
      subst hr
      have hli : ¬ (i : Int) < (S.size : Int) := by omega
      clear hlS
      go_wp2_with fail
      go_ret3
      exact ⟨rfl, hb⟩
    have hil' : i < S.size := by omega
    have hli : (i : Int) < (S.size : Int) := by omega
    rw [if_neg (by omega)] at hr
    have gi : ((S[i]'hil').toNat : Int) = (bt S.data.toList i : Int) := by rw [get_of]; rfl
    have hbl := bt_lt S.data.toList i
    have hgx : S.data.toList.getD i 0 = UInt8.ofNat (bt S.data.toList i) := by unfold bt; simp
    obtain ⟨x, hx⟩ : ∃ x, bt S.data.toList i = x := ⟨_, rfl⟩
    rw [hx] at hr gi hbl hgx
    clear hx
    obtain ⟨bb, cc, rfl⟩ := own_shape hown
    by_cases hx0 : x = 0
    · subst hx0
      rw [if_pos rfl] at hr
      have v1 : IntKind.i64.wrap ((i : Int) + 1) = (i : Int) + 1 := IntWalk.i64_in _ (by omega)
      by_cases hi1 : S.size ≤ i + 1
      · rw [if_pos (by omega)] at hr
        subst hr
        have e1 : ¬ (i : Int) + 1 < (S.size : Int) := by omega
        have e2 : (S.size : Int) ≤ (i : Int) + 1 := by omega
        clear hgx hlS
        go_wp2_with fail
        go_ret3
        exact ⟨rfl, hb⟩
      rw [if_neg (by omega)] at hr
      have hi1' : i + 1 < S.size := by omega
      have e1 : (i : Int) + 1 < (S.size : Int) := by omega
      have e2 : ¬ (S.size : Int) ≤ (i : Int) + 1 := by omega
      have gj : ((S[i + 1]'hi1').toNat : Int) = (bt S.data.toList (i + 1) : Int) := by rw [get_of]; rfl
      have hbj := bt_lt S.data.toList (i + 1)
      obtain ⟨y, hy⟩ : ∃ y, bt S.data.toList (i + 1) = y := ⟨_, rfl⟩
      rw [hy] at hr gj hbj
      clear hy
      by_cases hy0 : y = 0
      · subst hy0
        rw [if_pos rfl] at hr
        subst hr
        have v2 : IntKind.i64.wrap ((i : Int) + 1 + 1) = (i : Int) + 1 + 1 := IntWalk.i64_in _ (by omega)
        have hcv := run_ownB_string (P := Tryz.prog) (src := 77) (dst := 9) Tryz.underlying77 Tryz.underlying5 Tryz.underlying9 hown
        clear hgx hlS
        go_wp2_with fail
        go_ret3
        have h2 : ((i + 2 : Nat) : Int) = (i : Int) + 1 + 1 := by omega
        refine ⟨?_, hb⟩
        show _ = Ending.returned (.tuple #[.string ⟨acc.toArray⟩, .int .i64 ((i + 2 : Nat) : Int), .int .i64 0])
        rw [h2]
        rfl
      rw [if_neg hy0] at hr
      have hy0' : ((y : Int) == 0) = false := by rw [beq_eq_false_iff_ne]; omega
      by_cases hy2 : y = 255
      · subst hy2
        rw [if_pos rfl] at hr
        by_cases ha : acc.length = 1024
        · rw [if_pos ha] at hr
          subst hr
          have ha' : ((acc.length : Int) == 1024) = true := by rw [beq_iff_eq]; omega
          clear hgx hlS
          go_wp2_with fail
          go_ret3
          exact ⟨rfl, hb⟩
        · rw [if_neg ha] at hr
          have ha' : ((acc.length : Int) == 1024) = false := by rw [beq_eq_false_iff_ne]; omega
          have HG := Lib.hid hr
          clear hr hgx hlS
          have ownAQ := (hown).alloc (.cells #[.int .u8 0] 5)
          have BAQ : Below w.heap.size w (wr.alloc (.cells #[.int .u8 0] 5)) := (hb).alloc hb.size _
          have hsAQ := BAQ.size
          have hns : Hid (∀ z ∈ ([0] : List Int), 0 ≤ z ∧ z < 256) := by show ∀ z ∈ ([0] : List Int), 0 ≤ z ∧ z < 256; intro z hz; simp only [List.mem_cons, List.not_mem_nil, or_false] at hz; omega
          go_wp2_with (at_builtin; refine wpList_append_new rfl _ _ 77 rfl w.heap.size 5 i0 (.int .u8 0) Tryz.underlying77 hi hz0 hz1 hz2 rfl _ _ rfl ownAQ ⟨wr.heap.size, 0, none⟩ 1 1 rfl [0] rfl (new_cells wr 5 [0]) hns.out (by simp; omega) hsAQ ?_)
          intro vQ wQ ownQ hgQ
          have BQ := ownAQ.below BAQ hsAQ hgQ
          clear ownAQ hgQ BAQ hsAQ hns
          go_wp2_with fail
          go_roundw
          case rel => exact ⟨i + 2, f, acc ++ [0], by go_num, by omega, by omega, by simp; omega, ownQ, BQ, HG⟩
          case measure => simp [RowKit.intOf]; omega
      · rw [if_neg hy2] at hr
        subst hr
        have hy2' : ((y : Int) == 255) = false := by rw [beq_eq_false_iff_ne]; omega
        clear hgx hlS
        go_wp2_with fail
        go_ret3
        exact ⟨rfl, hb⟩
    · rw [if_neg hx0] at hr
      have hx0' : ((x : Int) == 0) = false := by rw [beq_eq_false_iff_ne]; omega
      by_cases ha : acc.length = 1024
      · rw [if_pos ha] at hr
        subst hr
        have ha' : ((acc.length : Int) == 1024) = true := by rw [beq_iff_eq]; omega
        clear hgx hlS
        go_wp2_with fail
        go_ret3
        exact ⟨rfl, hb⟩
      · rw [if_neg ha] at hr
        have ha' : ((acc.length : Int) == 1024) = false := by rw [beq_eq_false_iff_ne]; omega
        have HG : Hid (unrowG S.data.toList f (i + 1) (acc ++ [UInt8.ofNat (x : Int).toNat]) = R) := by
          show _ = _
          rw [Int.toNat_natCast, ← hgx]
          exact hr
        clear hr hgx hlS
        have ownAQ := (hown).alloc (.cells #[.int .u8 (x : Int)] 5)
        have BAQ : Below w.heap.size w (wr.alloc (.cells #[.int .u8 (x : Int)] 5)) := (hb).alloc hb.size _
        have hsAQ := BAQ.size
        have hns : Hid (∀ z ∈ ([(x : Int)] : List Int), 0 ≤ z ∧ z < 256) := by show ∀ z ∈ ([(x : Int)] : List Int), 0 ≤ z ∧ z < 256; intro z hz; simp only [List.mem_cons, List.not_mem_nil, or_false] at hz; omega
        go_wp2_with (at_builtin; refine wpList_append_new rfl _ _ 77 rfl w.heap.size 5 i0 (.int .u8 0) Tryz.underlying77 hi hz0 hz1 hz2 rfl _ _ rfl ownAQ ⟨wr.heap.size, 0, none⟩ 1 1 rfl [(x : Int)] rfl (new_cells wr 5 [(x : Int)]) hns.out (by simp; omega) hsAQ ?_)
        intro vQ wQ ownQ hgQ
        have BQ := ownAQ.below BAQ hsAQ hgQ
        clear ownAQ hgQ BAQ hsAQ hns
        go_wp2_with fail
        go_roundw
        case rel => exact ⟨i + 1, f, acc ++ [UInt8.ofNat (x : Int).toNat], by go_num, by omega, by omega, by simp; omega, ownQ, BQ, HG⟩
        case measure => simp [RowKit.intOf]; omega
end Go.Proofs.YtcdmiiaamajfoaaGreatDoor
