/- Evolve's laws: EvolveOnce, walked. -/
import Derived.Test.YtikpmmipopmjaaaGreatDoorZQbk
import Derived.Test.YtikpmmipopmjaaaGreatDoorZw7
import Derived.Test.YtikpmmipopmjaaaGreatDoorZw3
import Derived.Test.YtikpmmipopmjaaaGreatDoorZQbg
import Derived.Test.YtikpmmipopmjaaaGreatDoorZQbl
set_option linter.unusedVariables false
set_option linter.unusedSimpArgs false
namespace Go.Ms
open Go.RowKit Go.Lib
structure TwoSc (T : TypeId) (ga gb : Nat) (ra rb : SRef) (B : Nat) (w W : World) : Prop where
  ba : W.heap[ga]? = some (.cells #[.slice ra.a ra.n ra.c, .slice ra.b ra.m ra.d] T (0, 0))
  bb : W.heap[gb]? = some (.cells #[.slice rb.a rb.n rb.c, .slice rb.b rb.m rb.d] T (0, 0))
  bel : Below B w W
theorem TwoSc.step {T : TypeId} {ga gb : Nat} {ra rb : SRef} {B : Nat} {w W W' : World} (h : TwoSc T ga gb ra rb B w W) (hb : Below W.heap.size W W') (hB : B ≤ w.heap.size) : TwoSc T ga gb ra rb B w W' :=
  ⟨block_kept h.ba hb, block_kept h.bb hb, h.bel.trans (hb.mono (Nat.le_trans hB (h.bel.size)))⟩
structure SeedV (L : List Sc) (N : List Int) : Prop where
  chain : evChain L = 0
  some_ : 1 ≤ L.length
  few : L.length ≤ 8
  sz : ∀ s ∈ L, ScSz s.1
  ok : ∀ s ∈ L, scOk s.1 s.2 = true
  rlen : ∀ s ∈ L, (evRow s.1 N).length ≤ 32
  rsz : ∀ s ∈ L, ∀ c ∈ evRow s.1 N, c.2.2.size ≤ 100000
  rok : ∀ s ∈ L, rCheck (coTys s.1) (evRow s.1 N) = 0
  cols : ∀ s ∈ L, s.1.length ≤ 32
theorem seedV (C : List Int) (V : List (Int × Int × Int)) {N : List Int} (hN : ∀ x ∈ N, -9223372036854775808 ≤ x ∧ x ≤ 9223372036854775807) : SeedV (evSeed C V) N := by
 have hch := evSeed_chain C V; refine ⟨hch, (seed_many C V).1, (seed_many C V).2, seed_sz C V, chain_ok hch, fun s hs => ?_, fun s hs => evRowAt_sz _ _ _, fun s hs => ?_, fun s hs => (sc_cols (chain_ok hch s hs)).2.1⟩
 · unfold evRow; rw [evRowAt_len]; exact (sc_cols (chain_ok hch s hs)).2.1
 · obtain ⟨b1, b2, b3⟩ := sc_cols (chain_ok hch s hs); exact evRow_ok b1 (by omega) hN
end Go.Ms
namespace Go.Proofs.YtikpmmipopmjaaaGreatDoor
open Go.RowKit Go.Ms Go.Lib Go.Shelf Go.Rel
set_option maxRecDepth 100000 in
set_option maxHeartbeats 4000000 in
theorem evolveOnce_walk (A : Option Addr) (n c : Nat) (C : List Int) (B : Option Addr) (m d : Nat) (V : List (Int × Int × Int)) (x y : Int) (D : Option Addr) (q qc : Nat) (N : List Int) (w : World) (hs : SdArg w A n C B m V) (hx : I64 x) (hy : I64 y) (hN : NmArg w D q N) (hE : Env w) :
    Calls Tryz.prog 5 #[.agg #[.slice A n c, .slice B m d], .agg #[.int .i64 x, .int .i64 y], .slice D q qc] w fun e w' => e = .returned (.bool true) ∧ Below w.heap.size w w' := by
 have hv := seedV C V hN.c
 have honce := fun (f t : Nat) (h1 : 1 ≤ f) (h2 : f ≤ t) (h3 : t ≤ (evSeed C V).length) => once_plain C V hN.c h1 h2 h3
 have hcn := fun (W : World) (hb : Below w.heap.size w W) => chain12_any W A B n c m d C V hs.en hs.em hs.nn hs.mm (hs.to hb).la hs.c (hs.to hb).lb hs.v
 generalize evSeed C V = L at hv honce hcn
 obtain ⟨X, hX⟩ : ∃ X, X = (w.alloc (.cells #[.slice A n c, .slice B m d] 45)).alloc (.cells #[.int .i64 x, .int .i64 y] 39) := ⟨_, rfl⟩
 have tX : Bx2 (.cells #[.slice A n c, .slice B m d] 45 (0, 0)) (.cells #[.int .i64 x, .int .i64 y] 39 (0, 0)) w X := by rw [hX]; exact Bx2.start _ _ _ _ w
 have T0 := Lib.hid tX; have HV := Lib.hid hv; have HO := Lib.hid honce; have HCN := Lib.hid hcn; have HE := Lib.hid hE; have HN := Lib.hid hN; have HX := Lib.hid hx; have HY := Lib.hid hy
 clear tX hv honce hcn hE hN hx hy hs
 go_enter Tryz.func5, Tryz.ntmps5
 go_wp2_with fail
 rw [← hX]; clear hX; refine (works12_any X (HE.out.below T0.out.bel)).mono ?_; rintro en w1 ⟨rfl, b1⟩; have T1 := Lib.hid (T0.out.step b1); clear b1; have y0 := cell_of_block (i := 0) T1.out.b0 rfl; have y1 := cell_of_block (i := 1) T1.out.b0 rfl
 go_wp2_with fail
 refine (HCN.out _ T1.out.bel).mono ?_; rintro en w2 ⟨A', c', rs, rfl, hL, b2⟩
 have T2 := Lib.hid (T1.out.step b2); have HL := Lib.hid hL
 have hn8 : rs.length = L.length := hL.len; clear b2 y0 y1 hL; obtain ⟨l, hl⟩ : ∃ l, rs.length = l := ⟨_, rfl⟩
 have hl1 : 1 ≤ l := by have := HV.out.some_; omega
 have hl8 : l ≤ 8 := by have := HV.out.few; omega
 have HLL := Lib.hid (hn8.symm.trans hl); have HLR := Lib.hid hl
 rw [hl]; clear hn8; have y2 := cell_of_block (i := 0) T2.out.b1 rfl; have y3 := cell_of_block (i := 1) T2.out.b1 rfl
 go_wp2_with fail
 have hx := HX.out; unfold I64 at hx; refine (bringI_any x l hx.1 hx.2 (by omega) (by omega) w2).mono ?_; rintro en w3 ⟨rfl, b3⟩
 have T3 := Lib.hid (T2.out.step b3); have HL3 := Lib.hid (HL.out.to b3)
 clear b3 y2 y3 hx; have r1 := Int.emod_nonneg x (show (l : Int) ≠ 0 by omega); have r2 := Int.emod_lt_of_pos x (show (0 : Int) < l by omega); obtain ⟨f, hf⟩ : ∃ f : Nat, (f : Int) = 1 + x % l := ⟨(1 + x % l).toNat, by omega⟩
 have hf1 : 1 ≤ f := by omega
 have hf2 : f ≤ l := by omega
 have hwf : IntKind.i64.wrap (1 + x % (l : Int)) = (f : Int) := by rw [← hf]; exact IntWalk.i64_in _ (by omega)
 have y2 := cell_of_block (i := 0) T3.out.b1 rfl; have y3 := cell_of_block (i := 1) T3.out.b1 rfl; obtain ⟨g, hg⟩ : ∃ g : Nat, (g : Int) = (l : Int) - f + 1 := ⟨((l : Int) - f + 1).toNat, by omega⟩; have hwg0 : IntKind.i64.wrap ((l : Int) - f) = (l : Int) - f := IntWalk.i64_in _ (by omega)
 have hwg : IntKind.i64.wrap ((l : Int) - f + 1) = (g : Int) := by rw [← hg]; exact IntWalk.i64_in _ (by omega)
 have HF := Lib.hid hf; have HG := Lib.hid hg
 clear hf hg r1 r2
 go_wp2_with fail
 have hy := HY.out; unfold I64 at hy
 have hg1 : 1 ≤ g := by have := HG.out; omega
 have hg8 : g ≤ 8 := by have := HG.out; omega
 refine (bringI_any y g hy.1 hy.2 (by omega) (by omega) w3).mono ?_; rintro en w4 ⟨rfl, b4⟩
 have T4 := Lib.hid (T3.out.step b4); have HL4 := Lib.hid (HL3.out.to b4)
 clear b4 y2 y3 hy hwg0 hwg hwf; have r3 := Int.emod_nonneg y (show (g : Int) ≠ 0 by omega); have r4 := Int.emod_lt_of_pos y (show (0 : Int) < g by omega); obtain ⟨t, ht⟩ : ∃ t : Nat, (t : Int) = f + y % g := ⟨((f : Int) + y % g).toNat, by omega⟩
 have ht1 : f ≤ t := by omega
 have ht2 : t ≤ l := by have := HG.out; omega
 have hwt : IntKind.i64.wrap ((f : Int) + y % (g : Int)) = (t : Int) := by rw [← ht]; exact IntWalk.i64_in _ (by omega)
 have HT := Lib.hid ht; clear ht r3 r4; have hwf1 : IntKind.i64.wrap ((f : Int) - 1) = (f : Int) - 1 := IntWalk.i64_in _ (by omega); have hwt1 : IntKind.i64.wrap ((t : Int) - 1) = (t : Int) - 1 := IntWalk.i64_in _ (by omega)
 have i1 : (0 : Int) ≤ (f : Int) - 1 := by omega
 have i2 : (0 : Int) ≤ (t : Int) - 1 := by omega
 have i3 : (f : Int) - 1 < l := by omega
 have i4 : (t : Int) - 1 < l := by omega
 have i5 : (1 : Int) ≤ f := by omega
 have i6 : (1 : Int) ≤ t := by omega
 have hsa := getD_at (l := L) (i := f - 1) (by have := HLL.out; omega); have hsb := getD_at (l := L) (i := t - 1) (by have := HLL.out; omega); obtain ⟨ra, hra⟩ : ∃ r, rs[f - 1]? = some r := ⟨_, List.getElem?_eq_getElem (by rw [hl]; omega)⟩; obtain ⟨rb, hrb⟩ : ∃ r, rs[t - 1]? = some r := ⟨_, List.getElem?_eq_getElem (by rw [hl]; omega)⟩; obtain ⟨ho1, ho2, ho3, ho4⟩ := HO.out f t hf1 ht1 (by have := HLL.out; omega)
 generalize hSA : L.getD (f - 1) zSc = sa at hsa ho2 ho3 ho4
 generalize hSB : L.getD (t - 1) zSc = sb at hsb ho2 ho3 ho4
 have msa := List.mem_of_getElem? hsa; have msb := List.mem_of_getElem? hsb; obtain ⟨gl, ol, e1, ta⟩ := HL4.out.at_ hra; subst e1; obtain ⟨gl', ol', e2, tb⟩ := HL4.out.at_ hrb
 cases e2
 have pa := HL4.out.each _ _ _ hra hsa; have pb := HL4.out.each _ _ _ hrb hsb
 have TA := Lib.hid ta; have TB := Lib.hid tb; have PA := Lib.hid pa; have PB := Lib.hid pb
 have HO1 := Lib.hid ho1; have HO2 := Lib.hid ho2; have HO3 := Lib.hid ho3; have HO4 := Lib.hid ho4; have MA := Lib.hid msa; have MB := Lib.hid msb
 have k0 := ta.c0; have k1 := ta.c1; have k2 := tb.c0; have k3 := tb.c1; clear ta tb pa pb ho1 ho2 ho3 ho4 msa msb hSA hSB hsa hsb hra hrb; clear k0 k1 k2 k3
 go_upto_region 6 with fail
 refine wp_region_two (q := [_, _, _, _, _, _, _, _, _, _]) (oA := _) (oB := _) (sA := _) (sB := _) [isV (.slice (some ⟨gl, ol, none⟩) l c'), isV (.int .i64 (f : Nat)), isV (.int .i64 ((f : Int) - 1)), isV (.pointer (some ⟨gl, ol + (f - 1) * 2, none⟩)), isV (.agg #[.slice ra.a ra.n ra.c, .slice ra.b ra.m ra.d]), isV (.slice (some ⟨gl, ol, none⟩) l c'), isV (.int .i64 (t : Nat)), isV (.int .i64 ((t : Int) - 1)), isV (.pointer (some ⟨gl, ol + (t - 1) * 2, none⟩)), isV (.agg #[.slice rb.a rb.n rb.c, .slice rb.b rb.m rb.d])] (by kernel_rfl) 4 9 #[.slice none 0 0, .slice none 0 0] #[.slice ra.a ra.n ra.c, .slice ra.b ra.m ra.d] #[.slice rb.a rb.n rb.c, .slice rb.b rb.m rb.d] 25 (by kernel_rfl) (by kernel_rfl) (by kernel_rfl) (isV_cons (isV_cons (isV_cons (isV_cons (isV_cons (isV_cons (isV_cons (isV_cons (isV_cons (isV_cons isV_nil)))))))))) rfl rfl rfl rfl rfl rfl rfl rfl (by kernel_rfl) (by kernel_rfl) (by kernel_rfl) (by kernel_rfl) (by decide) (by decide) rfl rfl rfl rfl (fun _ _ => by kernel_rfl) (fun _ _ => by kernel_rfl) (by intro ev w g e1 e2 hh; have f0 := frozen_of_block (i := 0) hh; have f1 := frozen_of_block (i := 1) hh; have c0 := cell_of_block (i := 0) hh rfl; have c1 := cell_of_block (i := 1) hh rfl; go_simp; exact ⟨(grown_set' _ _ _ _).trans (grown_set' _ _ _ _), two_set1 (two_set0 hh _) _⟩) (by intro ev w g e1 e2 hh; have f0 := frozen_of_block (i := 0) hh; have f1 := frozen_of_block (i := 1) hh; have c0 := cell_of_block (i := 0) hh rfl; have c1 := cell_of_block (i := 1) hh rfl; go_simp; exact ⟨(grown_set' _ _ _ _).trans (grown_set' _ _ _ _), two_set1 (two_set0 hh _) _⟩) ?_ ?_
 ·
   refine ⟨prem_base (WantOk.free rfl) rfl rfl rfl rfl, ?_⟩; refine ⟨prem_base (WantOk.free rfl) rfl rfl rfl rfl, ?_⟩; refine ⟨prem_of (WantOk.free rfl) (isV_stable _) (fun ev wo E => ?_), ?_⟩
   · have e38 : ev (.tmp 38) = .int .i64 (f : Nat) := E.dep 0 _ rfl rfl _ rfl; have ec := E.const; have h0 := hwf1; go_simp; exact relUpon_value ⟨Below.refl _ _, rfl⟩
   refine ⟨prem_of (WantOk.free rfl) (isV_stable _) (fun ev wo E => ?_), ?_⟩
   · have e37 : ev (.tmp 37) = .slice (some ⟨gl, ol, none⟩) l c' := E.dep 0 _ rfl rfl _ rfl; have e39 : ev (.tmp 39) = .int .i64 ((f : Int) - 1) := E.dep 1 _ rfl rfl _ rfl; have h0 := i1; have h1 := i2; have h2 := i3; have h3 := i4; have h4 := i5; have h5 := i6; go_simp; exact relUpon_value ⟨Below.refl _ _, rfl⟩
   refine ⟨prem_of (WantOk.free rfl) (isV_stable _) (fun ev wo E => ?_), ?_⟩
   · have e40 : ev (.tmp 40) = .pointer (some ⟨gl, ol + (f - 1) * 2, none⟩) := E.dep 0 _ rfl rfl _ rfl; have hx0 := (E.bel.cell TA.out.lt).trans TA.out.c0; have hx1 := (E.bel.cell TA.out.lt).trans TA.out.c1; go_simp; exact relUpon_value ⟨Below.refl _ _, rfl⟩
   refine ⟨prem_base (WantOk.free rfl) rfl rfl rfl rfl, ?_⟩; refine ⟨prem_base (WantOk.free rfl) rfl rfl rfl rfl, ?_⟩; refine ⟨prem_of (WantOk.free rfl) (isV_stable _) (fun ev wo E => ?_), ?_⟩
   · have e43 : ev (.tmp 43) = .int .i64 (t : Nat) := E.dep 0 _ rfl rfl _ rfl; have ec := E.const; have h0 := hwt1; go_simp; exact relUpon_value ⟨Below.refl _ _, rfl⟩
   refine ⟨prem_of (WantOk.free rfl) (isV_stable _) (fun ev wo E => ?_), ?_⟩
   · have e42 : ev (.tmp 42) = .slice (some ⟨gl, ol, none⟩) l c' := E.dep 0 _ rfl rfl _ rfl; have e44 : ev (.tmp 44) = .int .i64 ((t : Int) - 1) := E.dep 1 _ rfl rfl _ rfl; have h0 := i1; have h1 := i2; have h2 := i3; have h3 := i4; have h4 := i5; have h5 := i6; go_simp; exact relUpon_value ⟨Below.refl _ _, rfl⟩
   refine ⟨prem_of (WantOk.free rfl) (isV_stable _) (fun ev wo E => ?_), ?_⟩
   · have e45 : ev (.tmp 45) = .pointer (some ⟨gl, ol + (t - 1) * 2, none⟩) := E.dep 0 _ rfl rfl _ rfl; have hx0 := (E.bel.cell TB.out.lt).trans TB.out.c0; have hx1 := (E.bel.cell TB.out.lt).trans TB.out.c1; go_simp; exact relUpon_value ⟨Below.refl _ _, rfl⟩
   trivial
 · intro wz gA gB bz hA hB
   (iterate 10 rintro _ rfl)
   have TS := Lib.hid (TwoSc.mk (T := 25) (ra := ra) (rb := rb) (B := w.heap.size) (w := w) hA hB (T4.out.bel.trans (bz.mono T4.out.bel.size))); have PA2 := Lib.hid (PA.out.to bz); have PB2 := Lib.hid (PB.out.to bz); have HL5 := Lib.hid (HL4.out.to bz)
   clear hA hB bz; simp only [relEnd]; go_simp; have z0 := cell_of_block (i := 0) TS.out.ba rfl; have z1 := cell_of_block (i := 1) TS.out.ba rfl; have hN := HN.out.to TS.out.bel; obtain ⟨r, hr⟩ : ∃ r, evRow sa.1 N = r := ⟨_, rfl⟩; have hrow := rowOf_any wz ra.a D ra.n ra.c q qc sa.1 N PA2.out.n hN.en PA2.out.nn hN.nn PA2.out.la hN.la hN.c; have rl := HV.out.rlen _ MA.out; have rs_ := HV.out.rsz _ MA.out; have ho2 := HO3.out; have ho3 := HO4.out; rw [hr] at hrow rl rs_ ho2 ho3
   have HROW := Lib.hid hrow; have RL := Lib.hid rl; have RS := Lib.hid rs_; have C1 := Lib.hid ho2; have C2 := Lib.hid ho3
   clear hrow rl rs_ ho2 ho3 hN hr
   go_wp2_with fail
   refine HROW.out.mono ?_; rintro en w5 ⟨v, rfl, ho5, b5⟩; obtain ⟨Cr, cr, rfl, lr⟩ := RwLay.own ho5 (by have := RL.out; omega) RS.out
   have TS5 := Lib.hid (TS.out.step b5 (Nat.le_refl _)); have HL6 := Lib.hid (HL5.out.to b5); have PA3 := Lib.hid (PA2.out.to b5); have PB3 := Lib.hid (PB2.out.to b5); have LR := Lib.hid lr
   clear b5 ho5 lr z0 z1
   go_wp2_with fail
   have hcar := carry_any w5 (some ⟨gl, ol, none⟩) l c' rs L f t Cr r.length cr r (by omega) hl.symm HL6.out HV.out.sz (by omega) (by omega) LR.out (HE.out.below TS5.out.bel); rw [C1.out] at hcar; refine hcar.mono ?_; clear hcar; rintro en w6 ⟨v, rfl, ho6, b6⟩; obtain ⟨P1, p1, rfl, -, -⟩ := yown_slice ho6
   have TS6 := Lib.hid (TS5.out.step b6 (Nat.le_refl _)); have HL7 := Lib.hid (HL6.out.to b6); have PA4 := Lib.hid (PA3.out.to b6); have PB4 := Lib.hid (PB3.out.to b6); have LR2 := Lib.hid (LR.out.to b6); have O6 := Lib.hid ho6
   clear b6 ho6; have z0 := cell_of_block (i := 0) TS6.out.ba rfl; have z1 := cell_of_block (i := 1) TS6.out.ba rfl; have z2 := cell_of_block (i := 0) TS6.out.bb rfl; have z3 := cell_of_block (i := 1) TS6.out.bb rfl
   go_wp2_with fail
   have hmv := move_any ra rb sa sb Cr r.length cr r w6 PA4.out PB4.out (HV.out.sz _ MA.out) (HV.out.sz _ MB.out) LR2.out (HE.out.below TS6.out.bel); rw [C2.out] at hmv; refine hmv.mono ?_; clear hmv z0 z1 z2 z3; rintro en w7 ⟨v, rfl, ho7, b7⟩; obtain ⟨P2, p2, rfl, -, -⟩ := yown_slice ho7
   have TS7 := Lib.hid (TS6.out.step b7 (Nat.le_refl _)); have HL8 := Lib.hid (HL7.out.to b7); have PA5 := Lib.hid (PA4.out.to b7); have PB5 := Lib.hid (PB4.out.to b7); have O62 := Lib.hid (own_below O6.out b7); have O7 := Lib.hid ho7
   clear b7 ho7
   go_wp2_with fail
   have hch := chain_any w7 (some ⟨gl, ol, none⟩) l c' rs L (by omega) hl.symm HL8.out HV.out.sz (HE.out.below TS7.out.bel); rw [HO1.out] at hch; refine hch.mono ?_; clear hch; rintro en w8 ⟨rfl, b8⟩
   have TS8 := Lib.hid (TS7.out.step b8 (Nat.le_refl _)); have PA6 := Lib.hid (PA5.out.to b8); have PB6 := Lib.hid (PB5.out.to b8); have O63 := Lib.hid (own_below O62.out b8); have O72 := Lib.hid (own_below O7.out b8)
   clear b8; have z0 := cell_of_block (i := 0) TS8.out.ba rfl; have z1 := cell_of_block (i := 1) TS8.out.ba rfl; have z2 := cell_of_block (i := 0) TS8.out.bb rfl; have z3 := cell_of_block (i := 1) TS8.out.bb rfl
   go_wp2_with fail
   have hst := step_any ra.a ra.b ra.n ra.c ra.m ra.d sa.1 sa.2 rb.a rb.b rb.n rb.c rb.m rb.d sb.1 sb.2 w8 PA6.out.n PA6.out.m PA6.out.nn PA6.out.mm PA6.out.la PA6.out.lb (HV.out.sz _ MA.out) PB6.out.n PB6.out.m PB6.out.nn PB6.out.mm PB6.out.la PB6.out.lb (HV.out.sz _ MB.out) (HE.out.below TS8.out.bel); rw [show evStep (sa.1, sa.2) (sb.1, sb.2) = 0 from HO2.out] at hst; refine hst.mono ?_; clear hst z0 z1 z2 z3; rintro en w9 ⟨rfl, b9⟩
   have TS9 := Lib.hid (TS8.out.step b9 (Nat.le_refl _)); have O64 := Lib.hid (own_below O63.out b9); have O73 := Lib.hid (own_below O72.out b9)
   clear b9
   have ml : (evMoved sa.1 sb.1 r).length ≤ 100000 := by rw [moved_len]; have := HV.out.cols _ MB.out; omega
   go_wp2_with fail
   have heq := reqrow_any w9 P1 P2 (evMoved sa.1 sb.1 r).length p1 (evMoved sa.1 sb.1 r).length p2 (evMoved sa.1 sb.1 r) (evMoved sa.1 sb.1 r) (by unfold maxLen; omega) (by unfold maxLen; omega) rfl rfl (Lay.of_own O64.out (Nat.le_refl _)) (Lay.of_own O73.out (Nat.le_refl _)); rw [decide_eq_true rfl] at heq; refine heq.mono ?_; clear heq; rintro en wA ⟨rfl, bA⟩; have TSA := Lib.hid (TS9.out.step bA (Nat.le_refl _)); clear bA
   go_wp2_with fail
   go_ret
   exact ⟨rfl, TSA.out.bel⟩
end Go.Proofs.YtikpmmipopmjaaaGreatDoor
