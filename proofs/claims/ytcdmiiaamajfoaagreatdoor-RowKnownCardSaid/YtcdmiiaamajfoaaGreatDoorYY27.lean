/- Rows: RowChecks, walked. -/
import Derived.Test.YtcdmiiaamajfoaaGreatDoorYYg
import Derived.Test.YtcdmiiaamajfoaaGreatDoorYYh
set_option linter.unusedVariables false
set_option linter.unusedSimpArgs false
namespace Go.Proofs.YtcdmiiaamajfoaaGreatDoor
open Go.RowKit Go.Ms Go.Lib

theorem YSt.o5 {w0 w : World} {E L : List (Option Addr × List Value)} {a b c d e f : Option Addr × List Value} (h : YSt w0 E (a :: b :: c :: d :: e :: f :: L) w) : Lay w w.heap.size f.1 f.2 := h.objs _ (by simp)
theorem own_spot {w : World} {base k n cap : Nat} {e : TypeId} {A : Option Addr} {xs : List Value} (h : w.ownsRow base e 3 (.slice A n cap) n xs) (hk : k < n) :
    ∃ g, A = some ⟨g, 0, none⟩ ∧ base ≤ g ∧ (∃ u, w.cell? ⟨g, k * 3, none⟩ = some u) ∧ (∃ u, w.cell? ⟨g, k * 3 + 1, none⟩ = some u) ∧ (∃ u, w.cell? ⟨g, k * 3 + 2, none⟩ = some u) ∧ w.frozen? ⟨g, k * 3, none⟩ = false ∧ w.frozen? ⟨g, k * 3 + 1, none⟩ = false ∧ w.frozen? ⟨g, k * 3 + 2, none⟩ = false ∧
      ∀ a b c : Value, ∃ ys, (((w.setCell ⟨g, k * 3, none⟩ a).setCell ⟨g, k * 3 + 1, none⟩ b).setCell ⟨g, k * 3 + 2, none⟩ c).ownsRow base e 3 (.slice A n cap) n ys := by
  have hl := h.1
  obtain ⟨g, rfl⟩ : ∃ g, A = some ⟨g, 0, none⟩ := by
    rcases h.2 with ⟨_, h0⟩ | ⟨g, cap', cur, hv, _⟩
    · omega
    · injection hv with h1; exact ⟨g, h1⟩
  have hb := (World.ownsRow.lt h g rfl).1
  have hc : ∀ j, j < n * 3 → ∃ u, w.cell? ⟨g, j, none⟩ = some u := fun j hj => by
    rw [World.ownsRow.cellAt h j hj]
    exact ⟨_, List.getElem?_eq_getElem (by omega)⟩
  exact ⟨g, rfl, hb, hc _ (by omega), hc _ (by omega), hc _ (by omega), World.ownsRow.frozenAt h _, World.ownsRow.frozenAt h _, World.ownsRow.frozenAt h _, fun a b c => ⟨_, (World.ownsRow.stored (World.ownsRow.stored (World.ownsRow.stored h _ _).1 _ _).1 _ _).1⟩⟩
set_option maxRecDepth 100000 in
set_option maxHeartbeats 2000000 in
theorem rowChecks_walk (A : Option Addr) (n1 c1 : Nat) (la : List Col) (B : Option Addr) (n2 c2 : Nat) (lb : List Cl) (C : Option Addr) (n3 c3 : Nat) (lc : List Int) (w : World) (hA : n1 ≤ c1) (kA : c1 ≤ maxLen) (lA : la.length = n1) (eA : Ext w w.heap.size A (colsV la)) (hB : n2 ≤ c2) (kB : c2 ≤ maxLen) (lB : lb.length = n2) (eB : Ext w w.heap.size B (rowV lb)) (iB : ∀ c ∈ lb, ClIn c) (hC : n3 ≤ c3) (kC : c3 ≤ maxLen) (lC : lc.length = n3) (eC : Ext w w.heap.size C (intV lc)) (hE : Env w) :
    Calls Tryz.prog 16 #[.slice A n1 c1, .slice B n2 c2, .slice C n3 c3] w fun e w' => e = .returned (.bool true) ∧ Below w.heap.size w w' := by
  have s0 : YSt w [(A, colsV la), (B, rowV lb), (C, intV lc)] [] w := ⟨Below.refl _ _, fun o ho => (by simp only [List.mem_cons, List.not_mem_nil, or_false] at ho; rcases ho with rfl | rfl | rfl <;> assumption), fun o ho => (by cases ho), hE⟩
  have S0 := Lib.hid s0
  obtain ⟨x, hx0⟩ : ∃ x, rInE (lc.take 12) (cutR lb).length = x := ⟨_, rfl⟩
  obtain ⟨y, hy0⟩ : ∃ y, rCheck ((la.take 40).map colTy) (cutR lb) = y := ⟨_, rfl⟩
  obtain ⟨a, ha0⟩ : ∃ y, rPick (cutR lb) (lc.take 12) = y := ⟨_, rfl⟩
  have ha3 : a.length ≤ maxLen := by
    rw [← ha0]; unfold rPick; split
    · exact pickL_max _ _
    · unfold maxLen; simp
  have ha4 : a.length ≤ 9223372036854775806 := by
    rw [← ha0]; unfold rPick; split
    · unfold rPickL; rw [List.length_map]; have := take12' lc; omega
    · simp
  have hr4 := cutR_len lb
  have HX := Lib.hid hx0; have HY := Lib.hid hy0; have HA0 := Lib.hid ha0; have HA3 := Lib.hid ha3
  have LA := Lib.hid lA; have LB := Lib.hid lB; have LC := Lib.hid lC; have IB := Lib.hid iB
  clear s0 hE eA eB eC iB lA lB lC hx0 hy0 ha0 ha3
  unfold maxLen at kA kB kC
  go_enter Tryz.func16, Tryz.ntmps16
  go_wp2_with fail
  refine (lcols_at _ A n1 c1 la hA kA LA.out S0.out.e0).mono ?_
  rintro en w1 ⟨P, nP, cP, rfl, lnP, l1, b1⟩
  have S1 := Lib.hid ((S0.out.step b1).push l1)
  have NP := Lib.hid lnP
  clear l1 b1 lnP
  go_wp2_with fail
  refine (lfew_at _ C n3 c3 lc hC kC LC.out S1.out.e2).mono ?_
  rintro en w2 ⟨Q, nQ, cQ, rfl, lnQ, l2, b2⟩
  have S2 := Lib.hid ((S1.out.step b2).push l2)
  have NQ := Lib.hid lnQ
  clear l2 b2 lnQ
  go_wp2_with fail
  refine (lcut_at _ B n2 c2 lb (Nat.le_trans hB kB) LB.out S2.out.e1 IB.out).mono ?_
  rintro en w3 ⟨R, cR, rfl, l3, b3⟩
  have S3 := Lib.hid ((S2.out.step b3).push l3)
  clear l3 b3
  go_wp2_with fail
  refine (rowCopy_any w3 R _ cR (cutR lb) (by have := cutR_len lb; omega) rfl S3.out.o0).mono ?_
  rintro en w4 ⟨v4, rfl, o4, b4⟩
  obtain ⟨X, cX, rfl, _⟩ := yown_slice o4
  have S4 := Lib.hid ((S3.out.step b4).push o4.lay.2)
  have OX := Lib.hid o4
  have B4 := Lib.hid b4
  have HG4 : Hid (∀ g, X = some ⟨g, 0, none⟩ → g < w4.heap.size) := Lib.hid fun g e => (World.ownsRow.lt o4 g (by rw [e]; rfl)).2
  have H34 := Lib.hid b4.size
  clear o4 b4
  go_wp2_with fail
  have q5 := rowPick_any w4 R Q _ cR nQ cQ _ _ (by have := cutR_len lb; omega) (by have := take12 lc; have := NQ.out; omega) rfl NQ.out S4.out.o1 S4.out.o2_
  rw [HA0.out, HX.out] at q5
  refine q5.mono ?_
  rintro en w5 ⟨v5, rfl, o5, b5⟩
  obtain ⟨U, cU, rfl, _⟩ := yown_slice o5
  have S5 := Lib.hid ((S4.out.step b5).push o5.lay.2)
  have OU := Lib.hid o5
  have OX5 := Lib.hid (own_below OX.out b5)
  have B5 := Lib.hid (B4.out.trans (b5.mono B4.out.size))
  clear o5 b5 q5 OX B4
  go_wp2_with fail
  have q6 := rrowpick_any w5 R Q _ cR nQ cQ _ _ (by have := cutR_len lb; omega) (by have := take12 lc; have := NQ.out; omega) rfl NQ.out S5.out.o2_ S5.out.o3
  rw [HA0.out, HX.out] at q6
  refine q6.mono ?_
  rintro en w6 ⟨v6, rfl, o6, b6⟩
  obtain ⟨Z, cZ, rfl, _⟩ := yown_slice o6
  have S6 := Lib.hid ((S5.out.step b6).push o6.lay.2)
  have OU6 := Lib.hid (own_below OU.out b6)
  have OX6 := Lib.hid (own_below OX5.out b6)
  have B6 := Lib.hid (B5.out.trans (b6.mono B5.out.size))
  clear o6 b6 q6 OU OX5 B5
  go_wp2_with fail

  have q7 := reqrow_any w6 X R _ cX _ cR _ _ (cut_max _) (cut_max _) rfl rfl S6.out.o2_ S6.out.o3
  rw [decide_eq_true rfl] at q7
  refine q7.mono ?_
  rintro en w7 ⟨rfl, b7⟩
  have S7 := Lib.hid (S6.out.step b7)
  have OU7 := Lib.hid (own_below OU6.out b7)
  have OX7 := Lib.hid (own_below OX6.out b7)
  have B7 := Lib.hid (B6.out.trans (b7.mono B6.out.size))
  clear b7 q7 OU6 OX6 B6
  go_wp2_with fail
  have q8 := reqrow_any w7 U Z _ cU _ cZ _ _ HA3.out HA3.out rfl rfl S7.out.o1 S7.out.o0
  rw [decide_eq_true rfl] at q8
  refine q8.mono ?_
  rintro en w8 ⟨rfl, b8⟩
  have S8 := Lib.hid (S7.out.step b8)
  have OU8 := Lib.hid (own_below OU7.out b8)
  have OX8 := Lib.hid (own_below OX7.out b8)
  have B8 := Lib.hid (B7.out.trans (b8.mono B7.out.size))
  clear b8 q8 OU7 OX7 B7
  go_wp2_with fail
  have q9 := rowCheck_any w8 P R nP cP _ cR _ _ _ (cutR_big _) (by rw [NP.out]; exact cols_max _) (cut_max _) NP.out rfl (cols_of S8.out.o5) S8.out.o3 S8.out.env
  rw [HY.out] at q9
  refine q9.mono ?_
  rintro en w9 ⟨rfl, b9⟩
  have S9 := Lib.hid (S8.out.step b9)
  have OU9 := Lib.hid (own_below OU8.out b9)
  have OX9 := Lib.hid (own_below OX8.out b9)
  have B9 := Lib.hid (B8.out.trans (b9.mono B8.out.size))
  clear b9 q9 OU8 OX8 B8
  go_wp2_with fail
  have q10 := rrowcheck_any w9 P R nP cP _ cR _ _ _ (csOk_cut IB.out) (by rw [NP.out]; exact cols_max _) (cut_max _) NP.out rfl (cols_of S9.out.o5) S9.out.o3
  rw [HY.out] at q10
  refine q10.mono ?_
  rintro en w10 ⟨rfl, b10⟩
  have S10 := Lib.hid (S9.out.step b10)
  have OU10 := Lib.hid (own_below OU9.out b10)
  have OX10 := Lib.hid (own_below OX9.out b10)
  have B10 := Lib.hid (B9.out.trans (b10.mono B9.out.size))
  clear b10 q10 OU9 OX9 B9
  go_wp2_with fail
  go_loopw [13] (fun id wr => ∃ k : Nat, k ≤ (cutR lb).length ∧ id = .int .i64 k ∧ Below w3.heap.size w3 wr ∧ (∃ ys, wr.ownsRow w3.heap.size 23 3 (.slice X (cutR lb).length cX) (cutR lb).length ys) ∧ (∃ ys, wr.ownsRow w4.heap.size 23 3 (.slice U a.length cU) a.length ys)) (fun id _ => (cutR lb).length - (RowKit.intOf id).toNat)
  case atStart => exact ⟨0, Nat.zero_le _, rfl, B10.out, ⟨_, OX10.out⟩, ⟨_, OU10.out⟩⟩
  case round =>
    obtain ⟨k, hk, rfl, hb, ⟨ys, hown⟩, ⟨zs, hoth⟩⟩ := hrel
    by_cases hlk : k < (cutR lb).length
    · have hki : (k : Int) < (cutR lb).length := by omega
      obtain ⟨g, rfl, hg, ⟨t1, h1⟩, ⟨t2, h2⟩, ⟨t3, h3⟩, f1, f2, f3, hnew⟩ := own_spot hown hlk
      have hg4 : g < w4.heap.size := HG4.out _ rfl
      have HB := Lib.hid hb; have HN := Lib.hid hnew; have HO := Lib.hid hoth; have HG := Lib.hid hg
      clear hb hnew hoth hown hg
      go_wp2_with fail
      go_roundw
      case rel => exact ⟨k + 1, by omega, by go_num, ((HB.out.setCell (p := ⟨g, k * 3, none⟩) HG.out _).setCell (p := ⟨g, k * 3 + 1, none⟩) HG.out _).setCell (p := ⟨g, k * 3 + 2, none⟩) HG.out _, HN.out _ _ _, ⟨_, own_set (own_set (own_set HO.out hg4 _) hg4 _) hg4 _⟩⟩
      case measure => simp [RowKit.intOf]; omega
    · have hki : ¬ (k : Int) < (cutR lb).length := by omega
      have HB := Lib.hid hb; have HO := Lib.hid hoth
      clear hb hoth hown
      go_wp2_with fail
      go_loopw [14] (fun id wr => ∃ k : Nat, k ≤ a.length ∧ id = .int .i64 k ∧ Below w3.heap.size w3 wr ∧ (∃ ys, wr.ownsRow w4.heap.size 23 3 (.slice U a.length cU) a.length ys)) (fun id _ => a.length - (RowKit.intOf id).toNat)
      case atStart => exact ⟨0, Nat.zero_le _, rfl, HB.out, ⟨_, HO.out⟩⟩
      case round =>
        obtain ⟨i, hi, rfl, hb, ⟨ys, hown⟩⟩ := hrel
        by_cases hli : i < a.length
        · have hii : (i : Int) < a.length := by omega
          obtain ⟨g, rfl, hg, ⟨t1, h1⟩, ⟨t2, h2⟩, ⟨t3, h3⟩, f1, f2, f3, hnew⟩ := own_spot hown hli
          have hg3 : w3.heap.size ≤ g := Nat.le_trans H34.out hg
          have HB2 := Lib.hid hb; have HN := Lib.hid hnew
          clear hb hnew hown hg
          go_wp2_with fail
          go_roundw
          case rel => exact ⟨i + 1, by omega, by go_num, ((HB2.out.setCell (p := ⟨g, i * 3, none⟩) hg3 _).setCell (p := ⟨g, i * 3 + 1, none⟩) hg3 _).setCell (p := ⟨g, i * 3 + 2, none⟩) hg3 _, HN.out _ _ _⟩
          case measure => simp [RowKit.intOf]; omega
        · have hii : ¬ (i : Int) < a.length := by omega
          have S11 := Lib.hid (S3.out.step hb)
          clear hb hown HB HO
          go_wp2_with fail
          refine (lcut_at _ B n2 c2 lb (Nat.le_trans hB kB) LB.out S11.out.e1 IB.out).mono ?_
          rintro en w12 ⟨Y, cY, rfl, l12, b12⟩
          have S12 := Lib.hid ((S11.out.step b12).push l12)
          clear l12 b12
          go_wp2_with fail
          have q13 := reqrow_any w12 R Y _ cR _ cY _ _ (cut_max _) (cut_max _) rfl rfl S12.out.o1 S12.out.o0
          rw [decide_eq_true rfl] at q13
          refine q13.mono ?_
          rintro en w13 ⟨rfl, b13⟩
          have S13 := Lib.hid (S12.out.step b13)
          clear b13 q13
          go_wp2_with fail
          refine (rworks_any _ S13.out.env).mono ?_
          rintro en w14 ⟨rfl, b14⟩
          have S14 := Lib.hid (S13.out.step b14)
          clear b14
          go_wp2_with fail
          go_ret
          exact ⟨rfl, S14.out.bel⟩
end Go.Proofs.YtcdmiiaamajfoaaGreatDoor
