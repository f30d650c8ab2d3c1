/- Schemas: SchemaPlaces, walked. -/
import Derived.Test.YthlinmkengoliaaGreatDoorZWc
import Derived.Deep.DeepCutAuto
set_option linter.unusedVariables false
set_option linter.unusedSimpArgs false
namespace Go.Proofs.YthlinmkengoliaaGreatDoor
open Go.RowKit Go.Ms Go.Lib
set_option maxRecDepth 100000 in
set_option maxHeartbeats 8000000 in
theorem schemaPlaces_walk (A : Option Addr) (n c : Nat) (l : List Sd5) (q : Int) (v : Int) (nm : ByteArray) (w : World) (hc : n ≤ c) (kc : c ≤ maxLen) (ll : l.length = n) (ex : Ext w w.heap.size A (sdL l)) (ok : ∀ x ∈ l, SdIn x) (hq : I64 q) (hv : (Lit.int .i64 v).wf = true) (hnm : nm.size ≤ maxLen) (hE : Env w) :
    Calls Tryz.prog 3 #[.agg #[.slice A n c, .int .i64 q], .int .i64 v, .string nm] w fun e w' => e = .returned (.bool true) ∧ Below w.heap.size w w' := by
 obtain ⟨cs, ks, hm⟩ : ∃ cs ks, sdMade l q = (cs, ks) := ⟨_, _, rfl⟩; have so := seed_ok hm
 have hmd := fun w1 (h : Below w.heap.size w w1) => made_is (w := w1) hm hc kc ll ((ex.keep h).more h.size) ok hq
 obtain ⟨N, hN⟩ : ∃ N, cs.length = N := ⟨_, rfl⟩; obtain ⟨M, hM⟩ : ∃ M, ks.length = M := ⟨_, rfl⟩
 have hz : N ≤ 16 ∧ M ≤ 8 := by have := so.most; have := so.keys; omega
 have hpl := fun wq A3 c3 K3 d3 (h : ScL wq A3 K3 cs ks) (x : Int) => place_any wq A3 K3 N c3 M d3 cs x (by unfold maxLen; omega) hN.symm h.a
 have hnd := fun wq A3 c3 K3 d3 (h : ScL wq A3 K3 cs ks) (x : ByteArray) => named_any wq A3 K3 N c3 M d3 cs x (by unfold maxLen; omega) hN.symm h.a
 rw [hN, hM] at hmd; have hb0 : Below w.heap.size w (w.alloc (.cells #[.slice A n c, .int .i64 q] 24)) := (Below.refl _ w).alloc (Nat.le_refl _) _; have q0 := block_new w (.cells #[.slice A n c, .int .i64 q] 24); have y0 := cell_of_block (i := 0) q0 rfl; have y1 := cell_of_block (i := 1) q0 rfl
 have HMD := Lib.hid hmd; have HPL := Lib.hid hpl; have HND := Lib.hid hnd; have HE := Lib.hid hE; have B0 := Lib.hid hb0; have SO := Lib.hid so; have HN := Lib.hid hN
 clear hmd hpl hnd hE hb0 q0 so hm hc kc ll ex ok hq hN hM hv hnm
 go_enter Tryz.func3, Tryz.ntmps3
 go_wp2_with fail
 refine (HMD.out _ B0.out).mono ?_; rintro en w2 ⟨A3, c3, K3, d3, rfl, o1, o2, b2⟩; obtain ⟨X, hX⟩ : ∃ X, X = w2.alloc (.cells #[.slice A3 N c3, .slice K3 M d3] 28) := ⟨_, rfl⟩
 have bx : Below w2.heap.size w2 X := by rw [hX]; exact (Below.refl _ _).alloc (Nat.le_refl _) _
 have q3 : X.heap[w2.heap.size]? = some (.cells #[.slice A3 N c3, .slice K3 M d3] 28 (0, 0)) := by rw [hX]; exact block_new _ _
 have B2 := Lib.hid ((B0.out.trans (b2.mono B0.out.size)).trans (bx.mono (B0.out.trans (b2.mono B0.out.size)).size)); have S2 := Lib.hid ((ScL.own o1 o2).below bx); have Q3 := Lib.hid q3
 clear b2 bx o1 o2 y0 y1 B0 q3
 go_upto_region 2 with fail
 rw [← hX]
 generalize w2.heap.size = sb at Q3 ⊢
 clear hX
 go_wp2_with fail
 go_loopw [8, 9, 10] (fun s8 s9 s10 wr => ∃ k : Nat, k ≤ N ∧ s8 = .bool ((cs.take k).any fun d => decide (d.1 = v)) ∧ s9 = .bool ((cs.take k).any fun d => decide (d.2.1 = nm)) ∧ s10 = .int .i64 k ∧ wr.heap[sb]? = some (.cells #[.slice A3 N c3, .slice K3 M d3] 28 (0, 0)) ∧ ScL wr A3 K3 cs ks ∧ Below w.heap.size w wr) (fun _ _ s10 _ => N - (RowKit.intOf s10).toNat)
 case atStart => exact ⟨0, by omega, by simp, by simp, rfl, Q3.out, S2.out, B2.out⟩
 case round =>
  obtain ⟨k, hk, rfl, rfl, rfl, q3, sl, bl⟩ := hrel; have y0 := cell_of_block (i := 0) q3 rfl; have y1 := cell_of_block (i := 1) q3 rfl
  by_cases hlk : k < N
  · have t1 : (k : Int) < (N : Int) := by omega
    have t2 : decide ((k : Int) < (N : Int)) = true := by simp; omega
    obtain ⟨cc, hcc⟩ : ∃ c, cs[k]? = some c := ⟨_, List.getElem?_eq_getElem (by rw [HN.out]; omega)⟩; have p1 := any_snoc (p := fun d => decide (d.1 = v)) hcc; have p2 := any_snoc (p := fun d => decide (d.2.1 = nm)) hcc; have f1 := find_id SO.out.ok hcc; have f2 := find_nm SO.out.ok hcc; have hin : isNm cc.2.1.data.toList = true := (SO.out.ok.co k cc hcc).1; have hsz := (SO.out.sizes cc (List.mem_of_getElem? hcc)).1; obtain ⟨g, o, hA3, hg, e0, e1, _⟩ := Lay.co sl.a hcc; subst hA3
    have hpl := fun wq h => HPL.out wq (some ⟨g, o, none⟩) c3 K3 d3 h cc.1
    have hnd := fun wq h => HND.out wq (some ⟨g, o, none⟩) c3 K3 d3 h cc.2.1
    rw [f1] at hpl; rw [f2] at hnd
    have hisn := fun wq => isname_any cc.2.1 wq hsz
    rw [hin] at hisn
    have hpu : ∀ wq, Below wr.heap.size wr wq → wq.cell? ⟨sb, 0, none⟩ = some (.slice (some ⟨g, o, none⟩) N c3) ∧ wq.cell? ⟨sb, 1, none⟩ = some (.slice K3 M d3) ∧ wq.cell? ⟨g, o + k * 7, none⟩ = some (.int .i64 cc.1) ∧ wq.cell? ⟨g, o + k * 7 + 1, none⟩ = some (.string cc.2.1) := fun wq hb =>
     ⟨cell_of_block (i := 0) (block_kept q3 hb) rfl, cell_of_block (i := 1) (block_kept q3 hb) rfl, (hb.cell hg).trans e0, (hb.cell hg).trans e1⟩
    obtain ⟨i0, n0, c0⟩ := cc; simp only at e0 e1 hpl hnd hisn hpu p1 p2
    generalize (cs.take k).any (fun d => decide (d.1 = v)) = P1 at p1 ⊢
    generalize (cs.take k).any (fun d => decide (d.2.1 = nm)) = P2 at p2 ⊢
    have HQ := Lib.hid q3; have SL := Lib.hid sl; have BL := Lib.hid bl; have HP := Lib.hid hpl; have HD := Lib.hid hnd; have HI := Lib.hid hisn; have HU := Lib.hid hpu; have P1E := Lib.hid p1; have P2E := Lib.hid p2
    clear q3 sl bl hpl hnd hisn hpu p1 p2 f1 f2 hin hsz hcc
    go_upto_region 6 with fail
    have hd : Below wr.heap.size wr wr.drew := ms_drewN (Below.refl _ wr) 1
    have SD := Lib.hid (SL.out.below hd); have HDR := Lib.hid hd
    clear hd
    go_cut [11, 12] (fun s11 s12 wx => s11 = .int .i64 k ∧ s12 = .bool true ∧ Below wr.heap.size wr wx)
    case first =>
     go_region_law (go_simp; (with_reducible refine (HP.out _ SD.out).mono ?_); rintro en w7 ⟨rfl, b7⟩; (have B7 := Lib.hid (HDR.out.trans b7)); (obtain ⟨z0, z1, g0, g1⟩ := HU.out w7 B7.out); clear b7)
     all_goals
      go_wp2_with fail
      go_meet
      exact ⟨rfl, rfl, B7.out⟩
    case rest =>
    obtain ⟨rfl, rfl, b7⟩ := hcut; obtain ⟨w7, hw7⟩ : ∃ x, x = wc := ⟨_, rfl⟩; rw [← hw7] at b7 ⊢; clear hw7; have B7 := Lib.hid b7; obtain ⟨z0, z1, g0, g1⟩ := HU.out w7 b7; clear y0 y1 e0 e1 b7; have hd : Below wr.heap.size wr w7.drew := B7.out.trans ((ms_drewN (Below.refl _ w7) 1).mono B7.out.size)
    have SD7 := Lib.hid (SL.out.below hd); have HDR7 := Lib.hid hd
    clear hd
    go_upto_region 7 with fail
    go_cut [13, 14] (fun s13 s14 wx => s13 = .int .i64 k ∧ s14 = .bool true ∧ Below wr.heap.size wr wx)
    case first =>
     go_region_law (go_simp; (with_reducible refine (HD.out _ SD7.out).mono ?_); rintro en w8 ⟨rfl, b8⟩; (have B8 := Lib.hid (HDR7.out.trans (b8.mono HDR7.out.size))); (obtain ⟨y0, y1, e0, e1⟩ := HU.out w8 B8.out); clear b8)
     all_goals
      go_wp2_with fail
      go_meet
      exact ⟨rfl, rfl, B8.out⟩
    case rest =>
    obtain ⟨rfl, rfl, b8⟩ := hcut; obtain ⟨w8, hw8⟩ : ∃ x, x = wc := ⟨_, rfl⟩; rw [← hw8] at b8 ⊢; clear hw8 z0 z1 g0 g1; have B8 := Lib.hid b8; obtain ⟨y0, y1, e0, e1⟩ := HU.out w8 b8; clear b8
    go_wp2_with fail
    refine (HI.out _).mono ?_; rintro en w9 ⟨rfl, b9⟩; have B9 := Lib.hid (B8.out.trans (b9.mono B8.out.size)); clear y0 y1 e0 e1 b9; obtain ⟨y0, y1, e0, e1⟩ := HU.out w9 B9.out
    cases P1 <;> cases P2
    all_goals
     go_wp2_with fail
     refine ⟨⟨k + 1, by omega, ?_, ?_, by go_num, block_kept HQ.out B9.out, SL.out.below B9.out, BL.out.trans (B9.out.mono BL.out.size)⟩, by simp [RowKit.intOf]; omega⟩
     · rw [P1E.out]; rfl
     · rw [P2E.out]
       first
         | rfl
         | (rw [str_beq n0 nm]; rfl)
  · obtain rfl : k = N := by omega
    have t1 : ¬ (k : Int) < (k : Int) := by omega
    have hpl := fun wq h => HPL.out wq A3 c3 K3 d3 h v
    have hnd := fun wq h => HND.out wq A3 c3 K3 d3 h nm
    rw [coFind_any] at hpl hnd; have htk : cs.take k = cs := List.take_of_length_le (by rw [HN.out]; exact Nat.le_refl _); rw [htk]
    generalize cs.any (fun d => decide (d.1 = v)) = P1 at hpl ⊢
    generalize cs.any (fun d => decide (d.2.1 = nm)) = P2 at hnd ⊢
    have HP := Lib.hid hpl; have HD := Lib.hid hnd; have HQ := Lib.hid q3; have SL := Lib.hid sl; have BL := Lib.hid bl
    clear hpl hnd q3 sl bl htk
    have g1 : (P1 == P1) = true := by simp
    have g2 : (P2 == P2) = true := by simp
    go_wp2_with fail
    refine (HP.out _ SL.out).mono ?_; rintro en w7 ⟨rfl, b7⟩
    have BL7 := Lib.hid (BL.out.trans (b7.mono BL.out.size)); have SL7 := Lib.hid (SL.out.below b7); have Q7 := Lib.hid (block_kept HQ.out b7)
    clear b7 y0 y1; have y0 := cell_of_block (i := 0) Q7.out rfl; have y1 := cell_of_block (i := 1) Q7.out rfl
    go_wp2_with fail
    refine (HD.out _ SL7.out).mono ?_; rintro en w8 ⟨rfl, b8⟩; have BL8 := Lib.hid (BL7.out.trans (b8.mono BL7.out.size)); clear b8 y0 y1
    go_wp2_with fail
    refine (works_any _ (HE.out.below BL8.out)).mono ?_; rintro en w9 ⟨rfl, b9⟩; have BL9 := Lib.hid (BL8.out.trans (b9.mono BL8.out.size)); clear b9
    go_wp2_with fail
    go_ret
    exact ⟨rfl, BL9.out⟩
end Go.Proofs.YthlinmkengoliaaGreatDoor
